/-
  THE ABSTRACT EVALUATOR (operations): a deterministic semantics of loaded code, and the proof that its runs are runs of the program in the model, whatever the tape draws. No condition.
-/
import Derived.Test.YtfooahfebojldaaGreatDoorAea
import Derived.ChangeKeysEq
import Derived.Laws.StructEq
import Derived.AtR
set_option linter.unusedVariables false
set_option linter.unusedSimpArgs false
namespace aD
open Go
section
variable {P:Program} {μ:bn} {H:J} {w:World}
theorem y5{b off n:Nat}{cs:List I}(h:loadCells H b off n=some cs):cs.length=n:=by
 unfold loadCells at h
 split at h
 · obtain⟨aa,rfl⟩:=rY _ _ _ h
   simp;omega
 · cases h
theorem y6:∀l:List UInt8,(c5 l).length=l.length
 |[]=>rfl
 |_::l=>by simp[c5,y6 l]
theorem Gp{size n:Nat}{x:I}{cs:List I}(h:iK H size x=some (n,cs)):cs.length=n*size:=by
 cases x<;>simp only[iK] at h<;>try cases h
 · split at h<;>cases h
   rw[y6];simp
 · simp
 · rename_i b off len cap
   cases cap with
   |dead=>
    simp only at h
    split at h
    · cases h;simp
    · cases h
   |exact c=>
    simp only at h
    split at h
    · rename_i b6 au;cases h;exact y5 au
    · cases h
   |aY gn=>
    simp only at h
    split at h
    · rename_i b6 au;cases h;exact y5 au
    · cases h
theorem Nq(ak:br μ H w){argTypes:Array TypeId}{ty sT:TypeId}(h0:argTypes[0]? =some sT){s x:I}{m1 bA:Value}(hs:bc μ s m1)(ab:bc μ x bA){v:I}{aX:J}
  (h:gZ P H sT argTypes[1]? s x=some (v,aX)):e7 P μ H w (Builtin.append_ argTypes ty #[m1,bA]) v aX:=by
 unfold gZ at h
 split at h
 · rename_i e hu e8
   split at h
   · rename_i i z ae a4
     split at h
     · cases h
     · rename_i n cs gQ
       obtain⟨au,us,lz,kV⟩:=y1 (P:=P) ak ab gQ
       have gR:=Gp gQ
       cases s<;>(try simp only at h)<;>try cases h
       ·
        cases hs
        cases n with
        |zero=>
         cases h
         have:=v_ (P:=P) (ty:=ty) h0 rfl hu e8 ae (base:=none) (sLen:=0) (sCap:=0) au lz (by omega)
         exact .same ak this rfl
        |succ n=>
         have aj:ks H e i.bytes i.size (0+(n+1)) z ([]++cs) 0=some (v,aX):=by simpa using h
         exact BR ak h0 rfl hu e8 ae a4 ab gQ (old:=[]) ⟨[],rfl,rfl⟩ (by simp) gR (by omega) ak (cb.refl _ _ _) aj
       · rename_i b off len cap
         obtain⟨en,ig,ah⟩:=hs
         cases cap with
         |dead=>cases h
         |exact cap=>
          cases ah
          simp only at h
          split at h
          · rename_i hle
            have hle:=Nat.le_of_ble_eq_true hle
            have ai:=v_ (P:=P) (ty:=ty) h0 rfl hu e8 ae (base:=some ⟨en.bj,en.base+off,none⟩) (sLen:=len) (sCap:=cap) au lz hle
            simp only[add_plain] at ai
            split at h
            · cases h
              have BU:us=[]:=by
               have aa:=gR;have ad:=kV.length
               cases us with
               |nil=>rfl
               |cons a l=>simp at aa ad;omega
              subst BU
              refine .same ak (v':=.slice (some ⟨en.bj,en.base+off,none⟩) len cap) ?_ ⟨en,ig,rfl⟩
              rw[ai];simp[_root_.Go.storeCells]
            · split at h
              · rename_i aa ct
                cases h
                obtain⟨w',aA,aC,bN⟩:=vU (P:=P) ak ig kV ct
                refine⟨μ,w',.slice (some ⟨en.bj,en.base+off,none⟩) (len+n) cap,?_,⟨en,ig,rfl⟩,aC,bN⟩
                rw[ai,Nat.add_assoc,aA];rfl
              · cases h
          · rename_i hle
            have cy:cap<len+n:=by
             rcases Nat.lt_or_ge cap (len+n) with h|h
             · exact h
             · rw[v7 h] at hle;cases hle
            split at h
            · rename_i old hold
              obtain⟨os,cq,eo⟩:=qy (P:=P) ak.drew ig hold
              exact BR ak h0 rfl hu e8 ae a4 ab gQ (old:=old) ⟨os,by simp only[Builtin.firstCells];exact cq,eo⟩ (y5 hold) gR cy ak (cb.refl _ _ _) h
            · cases h
         |aY gn=>
          obtain⟨cap,rfl,qC,bL⟩:=ah
          simp only at h
          split at h
          · rename_i j8
            simp only[Bool.and_eq_true,Nat.blt_eq] at j8
            have Nr:=Nat.eq_of_beq_eq_true j8.1
            subst Nr
            have yV:=j8.2
            split at h
            · cases h
              have ai:=v_ (P:=P) (ty:=ty) h0 rfl hu e8 ae (base:=some ⟨en.bj,en.base+off,none⟩) (sLen:=len) (sCap:=cap) au lz (by omega)
              simp only[add_plain] at ai
              have BU:us=[]:=by
               have aa:=gR;have ad:=kV.length
               cases us with
               |nil=>rfl
               |cons a l=>simp at aa ad;omega
              subst BU
              refine .same ak (v':=.slice (some ⟨en.bj,en.base+off,none⟩) len cap) ?_ ⟨en,ig,cap,rfl,qC,bL⟩
              rw[ai];simp[_root_.Go.storeCells]
            · split at h
              · rename_i old el bf eH af
                have Ns:=ak.rel b _ en af ig
                obtain⟨c,ft,fu,aV,aN,cz,jj,jk⟩:=Ns
                split at h
                · rename_i qG
                  have qG:=Nat.le_of_ble_eq_true qG
                  split at h
                  · rename_i aa ct
                    cases h
                    have oF:len+n<=cap:=by
                     have:(len+n)*i.size<=cap*i.size:=by omega
                     exact Nat.le_of_mul_le_mul_right this yV
                    have ai:=v_ (P:=P) (ty:=ty) h0 rfl hu e8 ae (base:=some ⟨en.bj,en.base+off,none⟩) (sLen:=len) (sCap:=cap) au lz oF
                    simp only[add_plain] at ai
                    obtain⟨w',aA,aC,bN⟩:=vU (P:=P) ak ig kV ct
                    refine⟨μ,w',.slice (some ⟨en.bj,en.base+off,none⟩) (len+n) cap,?_,⟨en,ig,cap,rfl,oF,bL⟩,aC,bN⟩
                    rw[ai,Nat.add_assoc,aA];rfl
                  · cases h
                · split at h
                  · rename_i o Gq hold
                    simp only[Bool.and_eq_true] at Gq
                    obtain⟨jP,wb⟩:=Gq
                    have jP:=Nat.le_of_ble_eq_true jP
                    have wb:=Nat.eq_of_beq_eq_true wb
                    subst wb
                    have aj:=h
                    unfold ks at h
                    split at h
                    · rename_i Gr
                      simp only[Bool.and_eq_true] at Gr
                      obtain⟨⟨r2,mY⟩,fQ⟩:=Gr
                      cases h
                      have wa:=y5 hold
                      by_cases qG:len+n<=cap
                      ·
                       have ai:=v_ (P:=P) (ty:=ty) h0 rfl hu e8 ae (base:=some ⟨en.bj,en.base+off,none⟩) (sLen:=len) (sCap:=cap) au lz qG
                       simp only[add_plain] at ai
                       have hmul:(len+n)*i.size<=cap*i.size:=Nat.mul_le_mul_right _ qG
                       have Gn:(len+n)*i.size=len*i.size+n*i.size:=Nat.add_mul _ _ _
                       have MG:us.length=n*i.size:=by rw[<-kV.length];exact gR
                       obtain⟨w',c',aA,aC,bN,eW,iO,fg,eI,fP,fE⟩:=F6 P en.bj (en.base+(off+len*i.size)) us w 0 c el ft fu aV
                        (kV.vR λa a2=>Nf fQ a (List.mem_append_right _ a2)) (by omega) (λj y7 r3 ⟨f1,f2⟩=>by
                         have:=jk (j-en.base) (by omega) (by omega) (by omega)
                         omega)
                       have Nt:en.base+off+(en.size-off)=c'.size:=by rw[fP,<-cz,<-bL];omega
                       obtain⟨bb,a3⟩:=ak.M9 (w':=w') (o':=.cells (o++cs) el .aY 0 (eH-off)) af rfl ig eW bN iO fg eI.1 (en.base+off) (en.size-off) (hdr:=Nat.le_of_eq eI.2.symm)
                        ⟨c',ft,fu,aC,λj a aL=>by
                         show∃u,c'[en.base+off+j]? =some u/\_
                         rw[fE]
                         by_cases mb:j<o.length
                         · rw[List.getElem?_append_left mb] at aL
                           rw[if_neg (by omega)]
                           unfold loadCells at hold
                           rw[af] at hold
                           simp only at hold
                           rw[mW] at hold
                           obtain⟨t1,rfl⟩:=rY _ _ _ hold
                           rw[List.getElem?_take] at aL
                           split at aL
                           · rw[List.getElem?_drop] at aL
                             obtain⟨u,tX,oD⟩:=aN (off+j) a aL
                             exact⟨u,by rw[Nat.add_assoc];exact tX,oD.mono (ak.nB _)⟩
                           · cases aL
                         · rw[List.getElem?_append_right (by omega)] at aL
                           have Gs:j-o.length<cs.length:=by
                            rcases Nat.lt_or_ge (j-o.length) cs.length with h|h
                            · exact h
                            · rw[List.getElem?_eq_none h] at aL;cases aL
                           have ZS:=kV.length
                           rw[if_pos (by omega)]
                           obtain⟨u,tX,oD⟩:=kV.get aL
                           refine⟨u,?_,oD.mono (ak.nB _)⟩
                           rw[<-tX]
                           have Nu:en.base+off+j-(en.base+(off+len*i.size)+0)=j-o.length:=by rw[wa];omega
                           rw[Nu],Nt,by
                         refine⟨?_,λj y7 r3 Gt=>?_⟩
                         · simp only[List.length_append];have:=gR;omega
                         · have:=jk (off+j) (by simp only at y7;omega) (by simp only at r3;omega) (by simp only at Gt;omega)
                           omega⟩
                       refine⟨_,w',.slice (some ⟨en.bj,en.base+off,none⟩) (len+n) cap,?_,⟨_,gf _ _ _,cap,by simp,qG,by simp only;omega⟩,bb,a3⟩
                       rw[ai,Nat.add_assoc,aA];rfl
                      ·
                       obtain⟨b4,b0⟩:=ak.kill af rfl ig
                       obtain⟨os,cq,eo⟩:=qy (P:=P) ak.drew ig hold
                       exact BR (ty:=ty) ak h0 rfl hu e8 ae a4 ab gQ (old:=o) ⟨os,by simp only[Builtin.firstCells];exact cq,eo⟩ wa gR (by omega) b4 b0 aj
                    · cases h
                  · cases h
              · cases h
          · cases h
   · cases h
 · cases h
end
end aD
namespace aD
open Go
section
variable {P:Program} {μ:bn} {H:J} {w:World}
theorem cd.take{μ:bn}{as:List I}{vs:List Value}(h:cd μ as vs)(n:Nat):cd μ (as.take n) (vs.take n):=by
 refine cd.vQ (by simp[h.length]) λj a aL=>?_
 rw[List.getElem?_take] at aL⊢
 split at aL
 · rename_i au;rw[if_pos au];exact h.get aL
 · cases aL
theorem Gu(ak:br μ H w){size n m:Nat}{x:I}{bA:Value}(ab:bc μ x bA){cs r:List I}(h:iK H size x=some (n,cs))(hm:m<=n)(ai:takeN (m*size) cs=some r):
  ∃us:List Value,(Builtin.firstCells size m bA).run P w=.ok ⟨us⟩ w/\cd μ r us:=by
 obtain⟨a6,rfl⟩:=rY _ _ _ ai
 have gR:=Gp h
 cases x<;>simp only[iK] at h<;>try cases h
 · split at h<;>cases h
   obtain⟨bs,rfl,rfl⟩:=ab
   refine⟨_,?_,(y0 μ _).take _⟩
   simp only[Builtin.firstCells,Sem.run_pure]
   congr 1
   apply Array.ext'
   simp[ByteArray.data_extract,List.map_take]
 · cases ab
   exact⟨[],rfl,by simp;rfl⟩
 · rename_i b off len cap
   obtain⟨i,ae,ah⟩:=ab
   have load:∀b6,loadCells H b off (len*size)=some b6->n=len->cs=b6->∀c,∃us:List Value,(Builtin.firstCells size m (.slice (some ⟨i.bj,i.base+off,none⟩) len c)).run P w=.ok ⟨us⟩ w/\cd μ (cs.take (m*size)) us:=by
    intro b6 au aK iN c
    subst iN;subst aK
    have Nv:loadCells H b off (m*size)=some (cs.take (m*size)):=by
     unfold loadCells at au⊢
     split at au
     · rename_i aV aN cz jj jk af
       obtain⟨t1,t2⟩:=rY _ _ _ au
       have hmul:m*size<=n*size:=Nat.mul_le_mul_right _ hm
       have e:∀(k:Nat) (l:List I),k<=l.length->takeN k l=some (l.take k):=by
        intro k
        induction k with
        |zero=>intro l _;simp[takeN]
        |succ k ba=>
         intro l au
         cases l with
         |nil=>simp at au
         |cons a l=>simp[takeN,ba l (by simpa using au)]
       rw[e _ _ (by omega),t2,List.take_take,Nat.min_eq_left hmul]
     · cases au
    obtain⟨us,aa,ad⟩:=qy (P:=P) ak ae Nv
    exact⟨us,by simp only[Builtin.firstCells];exact aa,ad⟩
   cases cap with
   |dead=>
    simp only at h
    split at h
    · cases h
      obtain⟨_,a,c,rfl⟩:=ah
      have:m=0:=by omega
      subst this
      exact⟨[],by simp[Builtin.firstCells,_root_.Go.loadCells,loadCellsFrom],by simp;rfl⟩
    · cases h
   |exact c=>
    cases ah
    simp only at h
    split at h
    · rename_i b6 au;cases h;exact load _ au rfl rfl c
    · cases h
   |aY gn=>
    obtain⟨c,rfl,_⟩:=ah
    simp only at h
    split at h
    · rename_i b6 au;cases h;exact load _ au rfl rfl c
    · cases h
theorem Nw(ak:br μ H w){argTypes:Array TypeId}{ty yz:TypeId}(h0:argTypes[0]? =some yz){d s:I}{BV m1:Value}(aG:bc μ d BV)(hs:bc μ s m1){v:I}{aX:J}
  (h:yy P H yz d s=some (v,aX)):e7 P μ H w (Builtin.copy_ argTypes ty #[BV,m1]) v aX:=by
 unfold yy at h
 split at h
 · rename_i e hu
   split at h
   · rename_i sz bL
     split at h
     · rename_i n cs gQ
       obtain⟨au,_⟩:=y1 (P:=P) ak hs gQ
       have m2:∀w:World,(_root_.Go.sizeOf e).run P w=.ok sz w:=λw=>run_sizeOf bL
       have Gv:∀bA:Value,bA=m1->(Builtin.firstCells sz 0 m1).run P w=.ok #[] w:=λbA _=>by
        obtain⟨us,aa,ad⟩:=Gu (P:=P) (m:=0) (r:=[]) ak hs gQ (Nat.zero_le _) (by simp[takeN])
        cases us with
        |nil=>exact aa
        |cons a l=>cases ad
       split at h
       · cases h;cases aG
         refine .same ak (v':=.int .i64 0) ?_ rfl
         simp[Builtin.copy_,h0,bW hu,au,m2,Gv m1 rfl,goInt]
       · rename_i b off len cap
         simp only at h
         obtain⟨i,ae,ah⟩:=aG
         have kT:∃(a:Addr) (c:Nat),BV=.slice (some a) len c/\(cap≠ .dead->a=⟨i.bj,i.base+off,none⟩):=by
          cases cap with
          |exact c=>cases ah;exact⟨_,c,rfl,λ_=>rfl⟩
          |aY gn=>obtain⟨c,rfl,_⟩:=ah;exact⟨_,c,rfl,λ_=>rfl⟩
          |dead=>obtain⟨rfl,a,c,rfl⟩:=ah;exact⟨a,c,rfl,λh=>absurd rfl h⟩
         obtain⟨a,c,rfl,a2⟩:=kT
         split at h
         · rename_i pz
           cases h
           refine .same ak (v':=.int .i64 0) ?_ rfl
           simp[Builtin.copy_,h0,bW hu,au,m2,pz,Gv m1 rfl,goInt,_root_.Go.storeCells]
         · rename_i pz
           split at h
           · rename_i b6 a6
             split at h
             · rename_i aa ct
               cases h
               have BW:cap≠ .dead:=by
                intro e;subst e
                obtain⟨aA,_⟩:=ah
                subst aA;simp[Nat.min_def] at pz
               have:=a2 BW
               subst this
               obtain⟨us,aV,aN⟩:=Gu (P:=P) ak hs gQ (Nat.min_le_left _ _) a6
               obtain⟨w',aA,aC,bN⟩:=vU (P:=P) ak ae aN ct
               refine⟨μ,w',.int .i64 (Nat.min n len:Nat),?_,rfl,aC,bN⟩
               simp[Builtin.copy_,h0,bW hu,au,m2,aV,aA,goInt]
             · cases h
           · cases h
       · cases h
     · cases h
   · cases h
 · cases h
theorem Nx(ak:br μ H w){argTypes:Array TypeId}{ty t:TypeId}(h0:argTypes[0]? =some t){x:I}{bA:Value}(ab:bc μ x bA){v:I}{aX:J}
  (h:om P H t x=some (v,aX)):e7 P μ H w (Builtin.clear_ argTypes ty #[bA]) v aX:=by
 unfold om at h
 split at h
 · rename_i hu;cases h;cases ab
   exact .same ak (v':=.tuple #[]) (by simp[Builtin.clear_,h0,bW hu]) ⟨[],rfl,rfl⟩
 · rename_i hu;cases h;cases ab
   exact .same ak (v':=.tuple #[]) (by simp[Builtin.clear_,h0,bW hu]) ⟨[],rfl,rfl⟩
 · rename_i hu
   split at h
   · rename_i es c aj
     cases h
     obtain⟨i,ae,rfl⟩:=ab
     obtain⟨ents,aA,aC⟩:=ak.rel _ _ i aj ae
     have cy:i.bj<w.heap.size:=(ak.lt _ _ ae).2
     obtain⟨bb,a3⟩:=ak.update (w':={w with heap:=w.heap.setIfInBounds i.bj (.map #[] c)}) (o':=.map [] c) aj rfl ae (by simp) (λr ai=>by simp[Array.getElem?_setIfInBounds];intro e;exact absurd e.symm ai) rfl rfl rfl
      ⟨[],by simp[cy],rfl⟩
     refine⟨μ,_,.tuple #[],?_,⟨[],rfl,rfl⟩,bb,a3⟩
     simp[Builtin.clear_,h0,bW hu,getObj,setObj,Sem.run,aA]
   · cases h
 · rename_i e b off n cap hu
   split at h
   · rename_i aK
     cases h
     subst aK
     obtain⟨i,ae,ah⟩:=ab
     have:∃a c,bA=.slice (some a) 0 c:=by
      cases cap with
      |exact c=>cases ah;exact⟨_,c,rfl⟩
      |aY gn=>obtain⟨c,rfl,_⟩:=ah;exact⟨_,c,rfl⟩
      |dead=>obtain⟨_,a,c,rfl⟩:=ah;exact⟨a,c,rfl⟩
     obtain⟨a,c,rfl⟩:=this
     exact .same ak (v':=.tuple #[]) (by simp[Builtin.clear_,h0,bW hu]) ⟨[],rfl,rfl⟩
   · rename_i aK
     split at h
     · rename_i z a4
       split at h
       · rename_i aa ct
         cases h
         obtain⟨fk,Ny,rfl,af⟩:=lv (P:=P) (w:=w) a4
         have iA:=M7 n ((jN μ fk).cells af)
         obtain⟨i,ae,ah⟩:=ab
         have:∃c,bA=.slice (some ⟨i.bj,i.base+off,none⟩) n c:=by
          cases cap with
          |exact c=>cases ah;exact⟨c,rfl⟩
          |aY gn=>obtain⟨c,rfl,_⟩:=ah;exact⟨c,rfl⟩
          |dead=>obtain⟨h0,_⟩:=ah;exact absurd h0 aK
         obtain⟨c,rfl⟩:=this
         obtain⟨w',aA,aC,bN⟩:=vU (P:=P) ak ae iA ct
         refine⟨μ,w',.tuple #[],?_,⟨[],rfl,rfl⟩,aC,bN⟩
         cases n with
         |zero=>exact absurd rfl aK
         |succ n=>simp[Builtin.clear_,h0,bW hu,Ny,aA]
       · cases h
     · cases h
 · cases h
theorem Nz(ak:br μ H w){argTypes:Array TypeId}{ty t:TypeId}(h0:argTypes[0]? =some t){x:I}{bA:Value}(ab:bc μ x bA){v:I}(h:bU P H t x=some v):
  e7 P μ H w (Builtin.len_ argTypes ty #[bA]) v H:=by
 unfold bU at h
 split at h
 · rename_i s hu;cases h
   obtain⟨bs,rfl,rfl⟩:=ab
   refine .same ak (v':=.int .i64 (bs.size:Int)) (by simp[Builtin.len_,h0,bW hu,goInt]) ?_
   have:bs.data.toList.length=bs.size:=Array.length_toList
   rw[this];rfl
 · rename_i n e hu;cases h
   exact .same ak (v':=.int .i64 (n:Int)) (by simp[Builtin.len_,h0,bW hu,goInt]) rfl
 · rename_i e b off n cap hu;cases h
   obtain⟨i,ae,ah⟩:=ab
   have:∃a c,bA=.slice a n c:=by
    cases cap with
    |exact c=>cases ah;exact⟨_,c,rfl⟩
    |aY gn=>obtain⟨c,rfl,_⟩:=ah;exact⟨_,c,rfl⟩
    |dead=>obtain⟨rfl,a,c,rfl⟩:=ah;exact⟨_,c,rfl⟩
   obtain⟨a,c,rfl⟩:=this
   exact .same ak (v':=.int .i64 (n:Int)) (by simp[Builtin.len_,h0,bW hu,goInt]) rfl
 · rename_i hu;cases h;cases ab
   exact .same ak (v':=.int .i64 0) (by simp[Builtin.len_,h0,bW hu,goInt]) rfl
 · rename_i hu;cases h;cases ab
   exact .same ak (v':=.int .i64 0) (by simp[Builtin.len_,h0,bW hu,goInt]) rfl
 · rename_i r hu
   split at h
   · rename_i es c aj
     cases h
     obtain⟨i,ae,rfl⟩:=ab
     obtain⟨ents,aA,aC⟩:=ak.rel _ _ i aj ae
     have hlen:es.length=ents.length:=by
      clear aA aj
      induction es generalizing ents with
      |nil=>cases aC;rfl
      |cons e es ba=>obtain⟨m,ms,rfl,_,ad⟩:=aC;simp[ba ms ad]
     refine .same ak (v':=.int .i64 (ents.length:Int)) ?_ (by rw[hlen];rfl)
     simp[Builtin.len_,h0,bW hu,goInt,getObj,Sem.run,aA]
   · cases h
 · rename_i arr hu
   split at h
   · rename_i n e oD;cases h
     exact .same ak (v':=.int .i64 (n:Int)) (by simp[Builtin.len_,h0,bW hu,bW oD,goInt]) rfl
   · cases h
 · cases h
theorem NA(ak:br μ H w){argTypes:Array TypeId}{ty t:TypeId}(h0:argTypes[0]? =some t){x:I}{bA:Value}(ab:bc μ x bA){v:I}(h:yx P t x=some v):
  e7 P μ H w (Builtin.cap_ argTypes ty #[bA]) v H:=by
 unfold yx at h
 split at h
 · rename_i n e hu;cases h
   exact .same ak (v':=.int .i64 (n:Int)) (by simp[Builtin.cap_,h0,bW hu,goInt]) rfl
 · rename_i e b off n c hu;cases h
   obtain⟨i,ae,ah⟩:=ab
   cases ah
   exact .same ak (v':=.int .i64 (c:Int)) (by simp[Builtin.cap_,h0,bW hu,goInt]) rfl
 · rename_i hu;cases h;cases ab
   exact .same ak (v':=.int .i64 0) (by simp[Builtin.cap_,h0,bW hu,goInt]) rfl
 · cases h
theorem BX(f:I->I->Option I)(F:Value->Value->Sem Value)(hf:∀x y z bA gg,f x y=some z->bc μ x bA->bc μ y gg->∃fk,(F bA gg).run P w=.ok fk w/\bc μ z fk):
  ∀(l:List I) (x:I) (bA:Value) (dv:List Value) (z:I),bc μ x bA->cd μ l dv->jh f x l=some z->∃fk,(dv.foldlM F bA).run P w=.ok fk w/\bc μ z fk
 |[],x,bA,dv,z,ab,au,h=>by
  cases au;simp[jh] at h;subst h
  exact⟨bA,rfl,ab⟩
 |y::l,x,bA,dv,z,ab,⟨gg,r4,e,bg,au⟩,h=>by
  subst e
  simp only[jh] at h
  split at h
  · rename_i u hu
    obtain⟨hc,bb,a3⟩:=hf x y u bA gg hu ab bg
    obtain⟨fk,s1,s2⟩:=BX f F hf l u hc r4 z a3 au h
    exact⟨fk,by simp only[List.foldlM_cons,Sem.run_bind,bb,Result.andThen_ok,s1],s2⟩
  · cases h
theorem NB{x y z:I}{bA gg:Value}(h:kt x y=some z)(ab:bc μ x bA)(bg:bc μ y gg):∃fk,(Builtin.min2 bA gg).run P w=.ok fk w/\bc μ z fk:=by
 unfold kt at h
 split at h
 · split at h
   · rename_i aw;cases h;subst aw
     cases ab;cases bg
     exact⟨_,rfl,by simp[bc,bC]⟩
   · cases h
 · cases h
theorem NC{x y z:I}{bA gg:Value}(h:vC x y=some z)(ab:bc μ x bA)(bg:bc μ y gg):∃fk,(Builtin.max2 bA gg).run P w=.ok fk w/\bc μ z fk:=by
 unfold vC at h
 split at h
 · split at h
   · rename_i aw;cases h;subst aw
     cases ab;cases bg
     exact⟨_,rfl,by simp[bc,bC]⟩
   · cases h
 · cases h
end
end aD
namespace aD
open Go
section
variable {P:Program} {μ:bn} {H:J} {w:World}
theorem Gw:∀(cs:List I) (bs:List UInt8) (us:List Value),mQ cs=some bs->cd μ cs us->us=bs.map λb=>.int .u8 (b.toNat:Int)
 |[],bs,us,h,ai=>by cases ai;simp[mQ] at h;subst h;rfl
 |c::cs,bs,us,h,⟨v,vs,e,aa,ad⟩=>by
  subst e
  unfold mQ at h
  split at h
  · rename_i heq;cases heq
  · rename_i n l heq
    cases heq
    split at h
    · rename_i r aK ai
      cases h
      cases aa
      rw[Gw cs r vs ai ad]
      simp only[Nat.blt_eq] at aK
      have:n %256=n:=Nat.mod_eq_of_lt aK
      simp[UInt8.toNat_ofNat',this]
    · cases h
  · cases h
theorem Gx(w:World):∀(bs:List UInt8) (acc:ByteArray),(forIn (bs.map λb=>Value.int .u8 (b.toNat:Int)) acc λc s=>
  (match c with
  |.int .u8 n=>pure (ForInStep.yield (s.push (UInt8.ofNat n.toNat)))
  |_=>do stuck "bytesToString: byte expected";pure (ForInStep.yield s):Sem (ForInStep ByteArray))).run P w=.ok ⟨acc.data++bs.toArray⟩ w
 |[],acc=>by simp
 |b::bs,acc=>by
  simp only[List.map_cons,List.forIn_cons,Sem.run_bind,Sem.run_pure,Result.andThen_ok,Gx w bs]
  congr 1
  simp[ByteArray.ext_iff,ByteArray.push]
theorem ND(ak:br μ H w){b off n:Nat}{cap:b5}(oF:cap≠ .dead){bA:Value}(ab:bc μ (.slice b off n cap) bA){cs:List I}(au:loadCells H b off n=some cs){bs:List UInt8}(af:mQ cs=some bs):
  e7 P μ H w (Conv.bytesToString bA) (.str bs) H:=by
 obtain⟨i,ae,ah⟩:=ab
 have:∃c,bA=.slice (some ⟨i.bj,i.base+off,none⟩) n c:=by
  cases cap with
  |exact c=>cases ah;exact⟨c,rfl⟩
  |aY gn=>obtain⟨c,rfl,_⟩:=ah;exact⟨c,rfl⟩
  |dead=>exact absurd rfl oF
 obtain⟨c,rfl⟩:=this
 obtain⟨us,aa,ad⟩:=qy (P:=P) ak ae au
 have lz:=Gw cs bs us af ad
 subst lz
 refine .same ak (v':=.string ⟨bs.toArray⟩) ?_ ⟨_,rfl,by simp⟩
 simp only[Conv.bytesToString,Sem.run_bind,aa,Result.andThen_ok]
 have e:=Gx (P:=P) w bs ByteArray.empty
 rw[<-List.forIn_toArray] at e
 refine(congrArg (λr=>Result.andThen r _) e).trans ?_
 simp
theorem NF(ak:br μ H w){e:TypeId}{bs:ByteArray}:
  e7 P μ H w (Conv.stringToBytes e bs) (.slice H.n 0 bs.data.toList.length (.aY 1)) (H.push (.cells (c5 bs.data.toList) e .aY 0 0)):=by
 have y2:(Question.appendCap bs.size 0 e).forced=false:=rfl
 have bL:bs.data.toList.length=bs.size:=Array.length_toList
 obtain⟨cap,oF,hle⟩:∃cap,(Question.appendCap bs.size 0 e).cut (w.tape w.drawn (Question.appendCap bs.size 0 e))=cap/\bs.size<=cap:=⟨_,rfl,by simp[Question.cut]⟩
 have BY:=ak.drew.nB ⟨w.heap.size,0,cap⟩
 let c:Array Value:=(bs.data.map λb=>.int .u8 b.toNat)++Array.replicate (cap-bs.size) (.int .u8 0)
 have iN:c.size=cap:=by
  have:bs.data.size=bs.size:=rfl
  simp only[c,Array.size_append,Array.size_map,Array.size_replicate,this];omega
 have qz:BC (gb μ H.n ⟨w.heap.size,0,cap⟩) (c5 bs.data.toList) c 0:=λj v aL=>by
  obtain⟨u,hu,ai⟩:=(y0 μ bs.data.toList).get aL
  refine⟨u,?_,ai.mono BY⟩
  have BT:j<bs.data.size:=by
   rcases Nat.lt_or_ge j bs.data.size with h|h
   · exact h
   · rw[List.getElem?_eq_none (by simpa using h)] at hu;cases hu
  simp only[c,Nat.zero_add]
  rw[Array.getElem?_append_left (by simpa using BT)]
  simpa using hu
 have NG:br (gb μ H.n ⟨w.heap.size,0,cap⟩) (H.push (.cells (c5 bs.data.toList) e .aY 0 0)) (w.drew.alloc (.cells c e))/\cb μ H w.drew (gb μ H.n ⟨w.heap.size,0,cap⟩) (H.push (.cells (c5 bs.data.toList) e .aY 0 0)) (w.drew.alloc (.cells c e)):=
  ak.drew.alloc (.cells (c5 bs.data.toList) e .aY 0 0) (.cells c e) cap
  ⟨c,0,0,World.heap_alloc_new _ _,qz,by simp[iN],by
    refine⟨?_,λj _ _ h=>by omega⟩
    rw[y6,bL];exact hle⟩
 obtain⟨bb,a3⟩:=NG
 let c9:World:=(w.drew.alloc (.cells c e)).freeze ⟨w.heap.size,cap,none⟩ 1
 have NH:c9.heap[w.heap.size]? =some (.cells c e (cap,cap+1)):=by
  simp only[c9,World.freeze,if_neg (show¬(1=0) by omega),Array.getElem?_modify]
  have:(w.drew.alloc (.cells c e)).heap[w.heap.size]? =some (.cells c e (0,0)):=World.heap_alloc_new _ _
  rw[this];simp
 have kU:(H.push (.cells (c5 bs.data.toList) e .aY 0 0)).get H.n=some (.cells (c5 bs.data.toList) e .aY 0 0):=by rw[J.eA,if_pos rfl]
 have ct:br (gb μ H.n ⟨w.heap.size,0,cap⟩) ((H.push (.cells (c5 bs.data.toList) e .aY 0 0)).set H.n (some (.cells (c5 bs.data.toList) e .aY 0 0))) c9/\
   cb (gb μ H.n ⟨w.heap.size,0,cap⟩) (H.push (.cells (c5 bs.data.toList) e .aY 0 0)) (w.drew.alloc (.cells c e)) (gb μ H.n ⟨w.heap.size,0,cap⟩) ((H.push (.cells (c5 bs.data.toList) e .aY 0 0)).set H.n (some (.cells (c5 bs.data.toList) e .aY 0 0))) c9:=
  bb.update kU rfl (gf _ _ _) (by simp[c9,World.freeze]) (λr ai=>by
   simp only[c9,World.freeze,if_neg (show¬(1=0) by omega),Array.getElem?_modify]
   rw[if_neg (λe=>ai e.symm)]) (by simp[c9,World.freeze]) (by simp[c9,World.freeze]) (by simp[c9,World.freeze])
   ⟨c,cap,cap+1,NH,qz,by simp[iN],by
     refine⟨by rw[y6,bL];exact hle,λj y7 r3 Gt=>by simp only at y7 r3;omega⟩⟩
 refine⟨gb μ H.n ⟨w.heap.size,0,cap⟩,c9,.slice (some ⟨w.heap.size,0,none⟩) bs.size cap,?_,⟨⟨w.heap.size,0,cap⟩,gf _ _ _,cap,by simp[bL],by rw[bL];exact hle,by simp⟩,?_,?_⟩
 · simp only[Conv.stringToBytes,Sem.run_bind,run_choose,y2,Bool.false_eq_true,if_false,World.drew_eq,Result.andThen_ok,oF]
   have aA:(_root_.Go.newRow e c).run P w.drew=.ok ⟨w.heap.size,0,none⟩ (w.drew.alloc (.cells c e)):=rfl
   rw[show(_root_.Go.newRow e ((bs.data.map λb=>.int .u8 b.toNat)++Array.replicate (cap-bs.size) (.int .u8 0))).run P w.drew=_ from aA]
   have aC:(w.drew.alloc (.cells c e)).shape? w.heap.size=some (e,cap):=by
    have:(w.drew.alloc (.cells c e)).heap[w.heap.size]? =some (.cells c e (0,0)):=World.heap_alloc_new _ _
    simp only[World.shape?,this,iN]
   simp only[Result.andThen_ok,markStringish,Sem.run_bind,run_shape,aC,run_freeze,Sem.run_pure]
   rfl
 ·
  refine⟨λb o i af ae=>ct.1.rel b o i ?_ ae,λb c' i j af ah=>ct.1.inj b c' i j ?_ ?_,ct.1.lt,λb af=>?_⟩
  · rw[J.b_];split
    · rename_i e;subst e;rw[kU] at af;exact af
    · exact af
  · rw[J.b_];split
    · simp
    · exact af
  · rw[J.b_];split
    · exact⟨_,rfl,rfl⟩
    · exact ah
  · exact bb.bound b af
 · refine cb.trans ak ak.drew cb.drew (cb.trans ak.drew bb a3 ⟨eV.refl _,ct.2.size,Nat.le_refl _,λ_ _ h=>h,λ_ _ _=>rfl,ct.2.old,λb i h al=>(by rw[h] at al;cases al),λb o i af ai ae=>⟨af,(ct.2.ro b o i af ai ae).2⟩,ct.2.os,ct.2.out,ct.2.tape,ct.2.drawn⟩)
theorem NI{i:eG}{o o':Nat}:(sameAddr ⟨i.bj,i.base+o,none⟩ ⟨i.bj,i.base+o',none⟩).run P w=.ok (Nat.beq o o') w:=by
 simp only[sameAddr,beq_self_eq_true,if_true,Sem.run_pure]
 congr 1
 rw[Bool.eq_iff_iff]
 simp
theorem NJ{r r' o o' el wc:Nat}{c c':Array Value}(h:w.heap[r]? =some (.cells c el (0,0)))(al:w.heap[r']? =some (.cells c' wc (0,0)))(dC:r≠r'):
  (sameAddr ⟨r,o,none⟩ ⟨r',o',none⟩).run P w=.ok false w:=by
 have af:(r==r')=false:=beq_eq_false_iff_ne.2 dC
 have f1:∀k,w.frozen? ⟨r,k,none⟩=false:=λk=>by simp[World.frozen?,h]
 have f2:∀k,w.frozen? ⟨r',k,none⟩=false:=λk=>by simp[World.frozen?,al]
 have s1:w.shape? r=some (el,c.size):=by simp[World.shape?,h]
 have s2:w.shape? r'=some (wc,c'.size):=by simp[World.shape?,al]
 simp[sameAddr,af,f1,f2,noView,viewAt,s1,s2,mayBeOne,stringish]
theorem BZ(w:World)(D:Nat)(E:TypeId->I->I->Option Bool)(fF:∀t x y b bA gg,E t x y=some b->bc μ x bA->bc μ y gg->(Op.equalIn D t bA gg).run P w=.ok b w)
  {xs ys:List I}{r5 r6:List Value}(ab:cd μ xs r5)(bg:cd μ ys r6):∀(cu:List Field) (b:Bool),eqFields P E xs ys cu=some b->(Op.eqFields D ⟨r5⟩ ⟨r6⟩ cu).run P w=.ok b w
 |[],b,h=>by cases h;rfl
 |f::cu,b,h=>by
  simp only[eqFields] at h
  split at h
  · rename_i aK
    have aK:f.name= "_" :=of_decide_eq_true aK
    have ba:=BZ w D E fF ab bg cu b h
    simp only[Op.eqFields,aK,ne_eq,not_true_eq_false,if_false]
    exact ba
  · rename_i aK
    have aK:¬(f.name= "_"):=of_decide_eq_false aK
    split at h
    · rename_i a c a2 ah
      obtain⟨we,du,dp⟩:=qE (P:=P) (w:=w) ab a2
      obtain⟨mc,aV,aN⟩:=qE (P:=P) (w:=w) bg ah
      split at h
      · rename_i he
        have ai:=fF _ _ _ _ we mc he dp aN
        have ba:=BZ w D E fF ab bg cu b h
        simp only[Op.eqFields,ne_eq,aK,not_false_eq_true,if_true,Sem.run_bind,du,aV,Result.andThen_ok,ai,Bool.not_true,Bool.false_eq_true,if_false]
        exact ba
      · rename_i r ai
        cases b with
        |true=>exact absurd h ai
        |false=>
         have tY:=fF _ _ _ _ we mc h dp aN
         simp only[Op.eqFields,ne_eq,aK,not_false_eq_true,if_true,Sem.run_bind,du,aV,Result.andThen_ok,tY,Bool.not_false,Sem.run_pure]
    · cases h
theorem Gy(w:World)(D:Nat){e:TypeId}{sz:Nat}(E:TypeId->I->I->Option Bool)(fF:∀t x y b bA gg,E t x y=some b->bc μ x bA->bc μ y gg->(Op.equalIn D t bA gg).run P w=.ok b w){xs ys:List I}{r5 r6:List Value}(ab:cd μ xs r5)(bg:cd μ ys r6):
  ∀(n i:Nat) (b:Bool),vB P E e sz xs ys n i=some b->(Op.eqItems D e sz ⟨r5⟩ ⟨r6⟩ (List.range' i n)).run P w=.ok b w
 |0,i,b,h=>by simp only[vB] at h;cases h;simp[Op.eqItems]
 |n+1,i,b,h=>by
  simp only[vB] at h
  rw[List.range'_succ]
  split at h
  · rename_i a c a2 ah
    obtain⟨we,du,dp⟩:=qE (P:=P) (w:=w) ab a2
    obtain⟨mc,aV,aN⟩:=qE (P:=P) (w:=w) bg ah
    split at h
    · rename_i he
      have ai:=fF _ _ _ _ we mc he dp aN
      have ba:=Gy w D E fF ab bg n (i+1) b h
      simp only[Op.eqItems,Sem.run_bind,du,aV,Result.andThen_ok,ai,Bool.not_true,Bool.false_eq_true,if_false]
      exact ba
    · rename_i r ai
      cases b with
      |true=>exact absurd h ai
      |false=>
       have tY:=fF _ _ _ _ we mc h dp aN
       simp only[Op.eqItems,Sem.run_bind,du,aV,Result.andThen_ok,tY,Bool.not_false,if_true,Sem.run_pure]
  · cases h
set_option maxHeartbeats 4000000 in
theorem r7(ak:br μ H w):∀(d:Nat) (t:TypeId) (x y:I) (b:Bool) (bA gg:Value) (D:Nat),d<=D->hK P H d t x y=some b->bc μ x bA->bc μ y gg->(Op.equalIn D t bA gg).run P w=.ok b w
 |0,t,x,y,b,bA,gg,D,_,h,_,_=>by simp[hK] at h
 |d+1,t,x,y,b,bA,gg,0,aG,_,_,_=>by omega
 |d+1,t,x,y,b,bA,gg,D+1,aG,h,ab,bg=>by
  unfold hK at h
  cases hu:P.underlying t with
  |none=>rw[hu] at h;cases h
  |some u=>
   rw[hu] at h
   cases u<;>simp only at h
   case bool=>
    split at h<;>cases h
    cases ab;cases bg
    simp[Op.equalIn,bW hu]
   case int h3=>
    split at h
    · split at h
      · rename_i aw;cases h;subst aw;cases ab;cases bg
        simp[Op.equalIn,bW hu,a7]
      · cases h
    · cases h
   case string=>
    split at h<;>cases h
    obtain⟨s1,rfl,rfl⟩:=ab
    obtain⟨s2,rfl,rfl⟩:=bg
    rw[oC,<-qD,<-qD,<-beq_toListBytes]
    simp[Op.equalIn,bW hu]
   case pointer e=>
    split at h
    · cases h;cases ab;cases bg;simp[Op.equalIn,bW hu]
    · cases h;cases ab;obtain⟨i,_,rfl⟩:=bg;simp[Op.equalIn,bW hu]
    · cases h;cases bg;obtain⟨i,_,rfl⟩:=ab;simp[Op.equalIn,bW hu]
    · rename_i a i b' j
      split at h
      · rename_i n hs
        obtain⟨tZ,B0,rfl⟩:=ab
        obtain⟨iP,y8,rfl⟩:=bg
        have bL:(_root_.Go.sizeOf e).run P w=.ok (n+1) w:=run_sizeOf hs
        have goal:∀r,(sameAddr ⟨tZ.bj,tZ.base+i,none⟩ ⟨iP.bj,iP.base+j,none⟩).run P w=r->(Op.equalIn (D+1) t (.pointer (some ⟨tZ.bj,tZ.base+i,none⟩)) (.pointer (some ⟨iP.bj,iP.base+j,none⟩))).run P w=r:=by
         intro r ai
         simp[Op.equalIn,bW hu,bL,ai]
        unfold Bw at h
        split at h
        · rename_i r8
          cases h
          have:=Nat.eq_of_beq_eq_true r8
          subst this
          rw[B0] at y8;cases y8
          exact goal _ NI
        · rename_i r8
          split at h
          · rename_i kW md
            cases h
            obtain⟨c1,_,_,b4,_,_,b0⟩:=ak.rel _ _ tZ kW B0
            obtain⟨c2,_,_,bp,_,_,bB⟩:=ak.rel _ _ iP md y8
            obtain⟨_,_,rfl,rfl⟩:=b0
            obtain⟨_,_,rfl,rfl⟩:=bB
            refine goal _ (NJ b4 bp λe=>?_)
            have:=ak.inj _ _ tZ iP (by rw[kW];simp) ⟨_,md,rfl⟩ B0 y8 e
            subst this
            simp at r8
          · cases h
      · cases h
    · cases h
   case slice e=>
    have gh:∀(b off n:Nat) (c:b5) (v:Value),bc μ (.slice b off n c) v->∃a m k,v=.slice (some a) m k:=by
     rintro b off n c v ⟨i,_,ah⟩
     cases c with
     |exact c=>cases ah;exact⟨_,_,_,rfl⟩
     |aY gn=>obtain⟨c,rfl,_⟩:=ah;exact⟨_,_,_,rfl⟩
     |dead=>obtain⟨_,a,c,rfl⟩:=ah;exact⟨_,_,_,rfl⟩
    split at h
    · cases h;cases ab;cases bg;simp[Op.equalIn,bW hu]
    · cases h;cases ab;obtain⟨a,m,k,rfl⟩:=gh _ _ _ _ _ bg;simp[Op.equalIn,bW hu]
    · cases h;cases bg;obtain⟨a,m,k,rfl⟩:=gh _ _ _ _ _ ab;simp[Op.equalIn,bW hu]
    · cases h
   case map k e=>
    split at h
    · cases h;cases ab;cases bg;simp[Op.equalIn,bW hu]
    · cases h;cases ab;obtain⟨i,_,rfl⟩:=bg;simp[Op.equalIn,bW hu]
    · cases h;cases bg;obtain⟨i,_,rfl⟩:=ab;simp[Op.equalIn,bW hu]
    · cases h
   case func ps rs v=>
    split at h
    · cases h;cases ab;cases bg;simp[Op.equalIn,bW hu]
    · cases h;cases ab;obtain⟨_,_,rfl,_⟩:=bg;simp[Op.equalIn,bW hu]
    · cases h;cases bg;obtain⟨_,_,rfl,_⟩:=ab;simp[Op.equalIn,bW hu]
    · cases h
   case interface ms=>
    split at h
    · cases h;cases ab;cases bg;simp[Op.equalIn,bW hu]
    · cases h;cases ab;obtain⟨_,rfl,_⟩:=bg;simp[Op.equalIn,bW hu]
    · cases h;cases bg;obtain⟨_,rfl,_⟩:=ab;simp[Op.equalIn,bW hu]
    · rename_i a v b' u
      obtain⟨v1,rfl,bb⟩:=ab
      obtain⟨jl,rfl,a3⟩:=bg
      split at h
      · rename_i r8
        cases h
        have:a≠b':=by intro e;subst e;simp at r8
        simp[Op.equalIn,bW hu,this]
      · rename_i r8
        have:=Nat.eq_of_beq_eq_true r8
        subst this
        split at h
        · rename_i ZT y3
          split at h
          · rename_i NK
            have ba:=r7 ak d a v u b v1 jl D (by omega) h bb a3
            simp[Op.equalIn,bW hu,run_typeInfo y3,NK,ba]
          · cases h
        · cases h
    · cases h
   case struct cu=>
    split at h
    · rename_i xs ys
      split at h
      · cases h
      · rename_i ct
        obtain⟨r5,rfl,e3⟩:=ab
        obtain⟨r6,rfl,ky⟩:=bg
        have key:=BZ (P:=P) w D (hK P H d) (λt x y b bA gg he aa ad=>r7 ak d t x y b bA gg D (by omega) he aa ad) e3 ky cu.toList b h
        have m3:P.fieldsOf t=cu:=by simp[Program.fieldsOf,hu]
        rw[run_equalIn_struct w D t _ _ (by rw[m3];exact hu) ct,m3]
        exact key
    · cases h
   case array n e=>
    split at h
    · rename_i xs ys
      split at h
      · rename_i sz bL
        obtain⟨r5,rfl,e3⟩:=ab
        obtain⟨r6,rfl,ky⟩:=bg
        have ae:∃i,P.info? e=some i/\i.size=sz:=by
         unfold dt at bL
         split at bL
         · rename_i i ae;cases bL;exact⟨i,ae,rfl⟩
         · cases bL
        obtain⟨i,ae,NL⟩:=ae
        have NM:P.cellsOf e=sz:=by unfold Program.cellsOf;rw[ae];exact NL
        rw[run_equalIn_array w D _ _ hu ae,NM,List.range_eq_range']
        exact Gy w D (hK P H d) (λt x y b bA gg he aa ad=>r7 ak d t x y b bA gg D (by omega) he aa ad) e3 ky n 0 b h
      · cases h
    · cases h
   all_goals cases h
theorem Gz{u:TypeDesc}{de:TypeId}(hu:P.underlying de=some u){k x:I}{kv bA:Value}{b:Bool}(aw:oo P de k=true)(h:pn k x=some b)(aa:bc μ k kv)(ad:bc μ x bA):Instr.sameNow u kv bA=some b:=by
 unfold oo at aw
 rw[hu] at aw
 cases u<;>simp only at aw<;>try cases aw
 ·
  split at aw<;>try cases aw
  cases x<;>simp only[pn] at h<;>cases h
  cases aa;cases ad;rfl
 ·
  split at aw<;>try cases aw
  cases x<;>simp only[pn] at h<;>try cases h
  split at h
  · rename_i e;cases h;subst e;cases aa;cases ad;simp[Instr.sameNow,a7]
  · cases h
 · split at aw<;>try cases aw
   cases x<;>simp only[pn] at h<;>cases h
   obtain⟨s1,rfl,rfl⟩:=aa
   obtain⟨s2,rfl,rfl⟩:=ad
   simp only[Instr.sameNow]
   rw[oC,<-qD,<-qD,<-beq_toListBytes]
def y9(μ:bn):Option (Nat×I)->Option (Nat×Value)->Prop
 |none,none=>True
 |some (i,a),some (j,v)=>i=j/\bc μ a v
 |_,_=>False
theorem GA{H:J}{de:TypeId}{k x:I}(aw:∀cs,k≠ .agg cs):vE P H de k x=pn k x:=by
 cases k<;>first|rfl|exact absurd rfl (aw _)
theorem GB{de:TypeId}{k:I}(aw:∀cs,k≠ .agg cs)(h:oq P de k=true):oo P de k=true:=by
 cases k<;>first|exact h|exact absurd rfl (aw _)
theorem GC{H:J}{u:TypeDesc}{de:TypeId}(hu:P.underlying de=some u){k:I}{kv:Value}(hs:∀cs,k≠ .agg cs)(aw:oo P de k=true)(aa:bc μ k kv):∀(es:List fA) (ents:List MapEntry) (i:Nat) (r:Option (Nat×I)),fN μ es ents->ku P H de k es i=some r->
  ∃r',Instr.findNow u kv ents i=some r'/\y9 μ r r'
 |[],_,i,r,he,h=>by
  cases he;simp[ku] at h;subst h
  exact⟨none,rfl,trivial⟩
 |e::es,_,i,r,⟨m,ms,aA,aC,bN⟩,h=>by
  subst aA
  simp only[ku,GA hs] at h
  split at h
  · rename_i hs
    cases h
    exact⟨some (i,m.val),by simp[Instr.findNow,Gz hu aw hs aa aC.1],rfl,aC.2.1⟩
  · rename_i bq
    obtain⟨r',aV,aN⟩:=GC hu hs aw aa es ms (i+1) r bN h
    exact⟨r',by simp[Instr.findNow,Gz hu aw bq aa aC.1,aV],aN⟩
  · cases h
theorem GD(ak:br μ H w){de:TypeId}{cs:List I}{kv:Value}(aa:bc μ (.agg cs) kv):∀(es:List fA) (ents:List MapEntry) (i:Nat) (r:Option (Nat×I)),fN μ es ents->ku P H de (.agg cs) es i=some r->
  ∃r',(Instr.findAsking de kv ents i).run P w=.ok r' w/\y9 μ r r'
 |[],_,i,r,he,h=>by
  cases he;simp[ku] at h;subst h
  exact⟨none,rfl,trivial⟩
 |e::es,_,i,r,⟨m,ms,aA,aC,bN⟩,h=>by
  subst aA
  simp only[ku,vE] at h
  split at h
  · rename_i hs
    cases h
    have:=r7 (P:=P) ak 8 de _ _ true kv m.key Op.maxDepth (by decide) hs aa aC.1
    exact⟨some (i,m.val),by simp[Instr.findAsking,Op.equal,this],rfl,aC.2.1⟩
  · rename_i hs
    have:=r7 (P:=P) ak 8 de _ _ false kv m.key Op.maxDepth (by decide) hs aa aC.1
    obtain⟨r',aV,aN⟩:=GD ak aa es ms (i+1) r bN h
    exact⟨r',by simp[Instr.findAsking,Op.equal,this,aV],aN⟩
  · cases h
theorem B1{H:J}{de:TypeId}{k:I}:∀(es:List fA) (i:Nat) (j:Nat) (v:I),ku P H de k es i=some (some (j,v))->i<=j/\∃e,es[j-i]? =some e/\e.val=v/\vE P H de k e.key=some true
 |[],i,j,v,h=>by simp[ku] at h
 |e::es,i,j,v,h=>by
  simp only[ku] at h
  split at h
  · rename_i hs
    cases h;exact⟨Nat.le_refl _,e,by simp,rfl,hs⟩
  · obtain⟨aa,cY,ad,ax⟩:=B1 es (i+1) j v h
    refine⟨by omega,cY,?_,ax⟩
    have:j-i=(j-(i+1))+1:=by omega
    rw[this];simpa using ad
  · cases h
theorem B2{de:TypeId}{k:I}{kv:Value}(aw:oo P de k=true)(b:Bool)(n:Nat):(Instr.checkKey b (n+1) de kv).run P w=.ok () w:=by
 unfold oo at aw
 cases hu:P.underlying de with
 |none=>rw[hu] at aw;cases aw
 |some u=>
  rw[hu] at aw
  cases u<;>simp only at aw<;>try cases aw
  all_goals simp[Instr.checkKey,bW hu]
theorem GF(b:Bool){m n:Nat}(hm:m=n+1){cs:List I}{l:List Value}(au:cd μ cs l):∀(cu:List Field),yA P cs cu=true->
  (forIn cu PUnit.unit (λf _=>if f.name≠ "_" then(do let x<-part f.type ⟨l⟩ f.offset;Instr.checkKey b m f.type x;pure (ForInStep.yield PUnit.unit)) else pure (ForInStep.yield PUnit.unit)):Sem PUnit).run P w=.ok PUnit.unit w
 |[],h=>by simp
 |f::cu,h=>by
  unfold yA at h
  split at h
  · rename_i a a2
    split at h
    · rename_i aw
      have ba:=GF b hm au cu h
      obtain⟨u,du,dp⟩:=qE (P:=P) (w:=w) au a2
      have ah:=B2 (P:=P) (w:=w) (kv:=u) aw b n
      rw[<-hm] at ah
      rw[List.forIn_cons]
      by_cases aK:f.name= "_"
      · simp only[aK,ne_eq,not_true_eq_false,if_false,Sem.run_bind,Sem.run_pure,Result.andThen_ok]
        exact ba
      · simp only[ne_eq,aK,not_false_eq_true,if_true,Sem.run_bind,du,Result.andThen_ok,ah,Sem.run_pure]
        exact ba
    · cases h
  · cases h
theorem GG(b:Bool){m n:Nat}(hm:m=n+1){e:TypeId}{sz:Nat}(bL:dt P e=some sz){cs:List I}{l:List Value}(au:cd μ cs l):∀(k i:Nat),yB P e sz cs k i=true->
  (forIn (List.range' i k) PUnit.unit (λi _=>do (Instr.checkKey b m e (<-part e ⟨l⟩ (i*(<-_root_.Go.sizeOf e))));pure (ForInStep.yield PUnit.unit)):Sem PUnit).run P w=.ok PUnit.unit w
 |0,i,h=>by simp
 |k+1,i,h=>by
  unfold yB at h
  split at h
  · rename_i a a2
    split at h
    · rename_i aw
      have ba:=GG b hm bL au k (i+1) h
      obtain⟨u,du,dp⟩:=qE (P:=P) (w:=w) au a2
      have ah:=B2 (P:=P) (w:=w) (kv:=u) aw b n
      rw[<-hm] at ah
      rw[List.range'_succ,List.forIn_cons]
      simp only[Sem.run_bind,run_sizeOf bL,du,Result.andThen_ok,ah,Sem.run_pure]
      exact ba
    · cases h
  · cases h
theorem NN{de:TypeId}{cs:List I}{l:List Value}(au:cd μ cs l)(aw:oq P de (.agg cs)=true)(b:Bool){m n:Nat}(hm:m=n+1):(Instr.checkKey b (m+1) de (.agg ⟨l⟩)).run P w=.ok () w:=by
 unfold oq at aw
 simp only at aw
 split at aw
 · rename_i cu hu
   have key:=GF (P:=P) (w:=w) b hm au cu.toList aw
   simp only[Instr.checkKey,Sem.run_bind,bW hu,Result.andThen_ok]
   rw[<-Array.forIn_toList]
   first|exact key|exact Eq.trans (congrArg (λq=>Result.andThen q _) key) rfl|simpa using key
 · rename_i B3 e hu
   split at aw
   · rename_i sz bL
     have key:=GG (P:=P) (w:=w) b hm bL au B3 0 aw
     simp only[Instr.checkKey,Sem.run_bind,bW hu,Result.andThen_ok]
     simp only[Std.Legacy.Range.forIn_eq_forIn_range',Std.Legacy.Range.size,Nat.sub_zero,Nat.add_one_sub_one,Nat.div_one]
     first|exact key|exact Eq.trans (congrArg (λq=>Result.andThen q _) key) rfl|simpa using key
   · cases aw
 · cases aw
theorem oG{de:TypeId}{k:I}{kv:Value}(aw:oq P de k=true)(aa:bc μ k kv)(b:Bool):(Instr.checkKey b 10000 de kv).run P w=.ok () w:=by
 by_cases hs:∀cs,k≠ .agg cs
 · exact B2 (GB hs aw) b 9999
 · have:∃cs,k=.agg cs:=by
     cases k<;>first|exact⟨_,rfl⟩|exact absurd (λcs h=>by cases h) hs
   obtain⟨cs,rfl⟩:=this
   obtain⟨l,rfl,au⟩:=aa
   exact NN au aw b (m:=9999) (n:=9998) rfl
theorem qH(ak:br μ H w){de:TypeId}{k:I}{kv:Value}(aw:oq P de k=true)(aa:bc μ k kv){es:List fA}{ents:List MapEntry}{r:Option (Nat×I)}(he:fN μ es ents)(h:ku P H de k es 0=some r):
  ∃r',(Instr.findKey de kv ents).run P w=.ok r' w/\y9 μ r r':=by
 by_cases hs:∀cs,k≠ .agg cs
 · have fj:=GB hs aw
   cases hu:P.underlying de with
   |none=>unfold oo at fj;rw[hu] at fj;cases fj
   |some u=>
    obtain⟨r',aV,aN⟩:=GC hu hs fj aa es ents 0 r he h
    exact⟨r',by simp[Instr.findKey,bW hu,aV],aN⟩
 · have:∃cs,k=.agg cs:=by
     cases k<;>first|exact⟨_,rfl⟩|exact absurd (λcs h=>by cases h) hs
   obtain⟨cs,rfl⟩:=this
   have hu:∃u,P.underlying de=some u:=by
    unfold oq at aw
    simp only at aw
    split at aw
    · exact⟨_,by assumption⟩
    · exact⟨_,by assumption⟩
    · cases aw
   obtain⟨u,hu⟩:=hu
   obtain⟨r',aV,aN⟩:=GD (P:=P) ak aa es ents 0 r he h
   obtain⟨l,rfl,au⟩:=aa
   refine⟨r',?_,aN⟩
   have aK:∀(ms:List MapEntry),ms≠[]->Instr.findNow u (.agg ⟨l⟩) ms 0=none:=λms NO=>by
    cases ms with
    |nil=>exact absurd rfl NO
    |cons m ms=>cases u<;>rfl
   cases ents with
   |nil=>
    cases es with
    |nil=>simp only[ku] at h;cases h;cases r' with
     |none=>simp[Instr.findKey,bW hu,Instr.findNow]
     |some y=>exact aN.elim
    |cons e es=>obtain⟨_,_,ah,_⟩:=he;cases ah
   |cons m ms=>
    simp only[Instr.findKey,Sem.run_bind,bW hu,Result.andThen_ok,aK (m::ms) (by simp)]
    exact aV
theorem fN.append:∀{es cu:List fA} {ms aJ:List MapEntry},fN μ es ms->fN μ cu aJ->fN μ (es++cu) (ms++aJ)
 |[],_,_,_,h,al=>by cases h;exact al
 |_::_,_,_,_,⟨m,ms,e,aa,ad⟩,al=>by subst e;exact⟨m,ms++_,rfl,aa,fN.append ad al⟩
theorem fN.get:∀{es:List fA} {ms:List MapEntry} (_:fN μ es ms) {j:Nat} {e:fA},es[j]? =some e->∃m,ms[j]? =some m/\tT μ e m
 |[],_,_,j,e,h=>by simp at h
 |x::es,_,⟨m,ms,e,aa,ad⟩,0,a,h=>by subst e;simp at h;subst h;exact⟨m,rfl,aa⟩
 |x::es,_,⟨m,ms,e,aa,ad⟩,j+1,a,h=>by subst e;simp at h;simpa using fN.get ad h
theorem fN.set{v key:I}{vv kv:Value}(aE:bc μ v vv)(aw:bc μ key kv):∀(i:Nat) {es:List fA} {ms:List MapEntry},fN μ es ms->fN μ (rR v key i es) (ms.modify i λe=>{e with key:=kv,val:=vv})
 |0,[],_,h=>by cases h;rfl
 |_+1,[],_,h=>by cases h;rfl
 |0,e::es,_,⟨m,ms,cY,aa,ad⟩=>by subst cY;exact⟨_,ms,rfl,⟨aw,aE,aa.2.2⟩,ad⟩
 |i+1,e::es,_,⟨m,ms,cY,aa,ad⟩=>by subst cY;exact⟨m,_,rfl,aa,fN.set aE aw i ad⟩
theorem fN.del:∀(i:Nat) {es:List fA} {ms:List MapEntry},fN μ es ms->fN μ (Bx i es) (ms.eraseIdx i)
 |0,[],_,h=>by cases h;rfl
 |_+1,[],_,h=>by cases h;rfl
 |0,e::es,_,⟨m,ms,cY,aa,ad⟩=>by subst cY;exact ad
 |i+1,e::es,_,⟨m,ms,cY,aa,ad⟩=>by subst cY;exact⟨m,_,rfl,aa,fN.del i ad⟩
theorem wg{r:Nat}{i:eG}{es:List fA}{clock:Nat}(ak:br μ H w)(ae:μ r=some i)(aj:H.get r=some (.map es clock)):∃ents,w.heap[i.bj]? =some (.map ⟨ents⟩ clock)/\fN μ es ents/\(getObj i.bj).run P w=.ok (.map ⟨ents⟩ clock) w:=by
 obtain⟨ents,aA,aC⟩:=ak.rel _ _ i aj ae
 exact⟨ents,aA,aC,by simp[getObj,Sem.run,aA]⟩
theorem r9{r:Nat}{i:eG}{es qI:List fA}{clock c':Nat}{ents ents':List MapEntry}(ak:br μ H w)(ae:μ r=some i)(aj:H.get r=some (.map es clock))(he:w.heap[i.bj]? =some (.map ⟨ents⟩ clock))(ai:fN μ qI ents'):
  ∃w',(setObj i.bj (.map ⟨ents'⟩ c')).run P w=.ok () w'/\br μ (H.set r (some (.map qI c'))) w'/\cb μ H w μ (H.set r (some (.map qI c'))) w':=by
 have cy:i.bj<w.heap.size:=(ak.lt _ _ ae).2
 obtain⟨bb,a3⟩:=ak.update (w':={w with heap:=w.heap.setIfInBounds i.bj (.map ⟨ents'⟩ c')}) (o':=.map qI c') aj rfl ae (by simp) (λr ai=>by simp[Array.getElem?_setIfInBounds];intro e;exact absurd e.symm ai) rfl rfl rfl
  ⟨ents',by simp[cy],ai⟩
 exact⟨_,by simp[setObj,Sem.run,he],bb,a3⟩
end
end aD
namespace aD
open Go
section
variable {P:Program} {μ:bn} {H:J} {w:World}
theorem GH{hX:TypeId}{ok:Bool}{r:Option (Nat×I)}{r':Option (Nat×Value)}(ai:y9 μ r r'){v:I}(h:vG P hX ok r=some v):
  ∃u b,bc μ v (if ok then .tuple #[u,.bool b] else u)/\((∃j,r'=some (j,u)/\b=true)\/(r'=none/\(zeroValue hX).run P w=.ok u w/\b=false)):=by
 cases r with
 |none=>
  cases r' with
  |some x=>exact ai.elim
  |none=>
   simp only[vG] at h
   split at h
   · rename_i z a4
     cases h
     obtain⟨fk,aV,rfl,_⟩:=lv (P:=P) (w:=w) a4
     have:=jN μ fk
     refine⟨fk,false,?_,.inr ⟨rfl,aV,rfl⟩⟩
     cases ok
     · exact this
     · exact⟨_,rfl,_,_,rfl,this,_,_,rfl,rfl,rfl⟩
   · cases h
 |some x=>
  cases r' with
  |none=>exact ai.elim
  |some y=>
   obtain⟨i,a⟩:=x
   obtain⟨j,u⟩:=y
   obtain⟨rfl,t_⟩:=ai
   simp only[vG] at h
   cases h
   refine⟨u,true,?_,.inl ⟨_,rfl,rfl⟩⟩
   cases ok
   · exact t_
   · exact⟨_,rfl,_,_,rfl,t_,_,_,rfl,rfl,rfl⟩
theorem NP(ak:br μ H w){t:TypeId}{m k:I}{lA kv:Value}(hm:bc μ m lA)(aw:bc μ k kv){ok:Bool}{v:I}(h:yC P H t m k ok=some v):e7 P μ H w (Instr.lookup t lA kv ok) v H:=by
 unfold yC at h
 split at h
 · rename_i de hX hu
   split at h
   · rename_i iB
     split at h
     · cases hm
       obtain⟨u,b,aV,aN⟩:=GH (P:=P) (w:=w) (μ:=μ) (r:=none) (r':=none) trivial h
       refine .same ak (v':=if ok then .tuple #[u,.bool b] else u) ?_ aV
       have hf:(Instr.findKey de kv []).run P w=.ok none w:=by
        obtain⟨r',dD,ef⟩:=qH (P:=P) (w:=w) (μ:=μ) (es:=[]) (ents:=[]) (r:=none) ak iB aw rfl rfl
        cases r' with
        |none=>exact dD
        |some x=>exact ef.elim
       rcases aN with⟨j,e,_⟩|⟨_,aN,rfl⟩
       · cases e
       · simp[Instr.lookup,bW hu,oG iB aw,hf,aN]
     · rename_i r
       split at h
       · rename_i es clock aj
         split at h
         · rename_i cJ hf
           obtain⟨i,ae,rfl⟩:=hm
           obtain⟨ents,aA,aC,bN⟩:=wg (P:=P) ak ae aj
           obtain⟨r',dD,ef⟩:=qH (P:=P) (w:=w) ak iB aw aC hf
           obtain⟨u,b,aV,aN⟩:=GH (P:=P) (w:=w) (μ:=μ) ef h
           refine .same ak (v':=if ok then .tuple #[u,.bool b] else u) ?_ aV
           rcases aN with⟨j,rfl,rfl⟩|⟨rfl,aN,rfl⟩
           · simp[Instr.lookup,bW hu,oG iB aw,bN,dD]
           · simp[Instr.lookup,bW hu,oG iB aw,bN,dD,aN]
         · cases h
       · cases h
     · cases h
   · cases h
 · cases h
theorem GI{k x:I}{kv bA:Value}(n:Nat)(h:pn k x=some true)(aa:bc μ k kv)(ad:bc μ x bA):Instr.sameBits n bA kv=true:=by
 cases k<;>cases x<;>simp only[pn] at h<;>try cases h
 · simp at h;subst h;cases aa;cases ad;simp[Instr.sameBits]
 · split at h
   · rename_i e;subst e
     simp[a7] at h;subst h;cases aa;cases ad;simp[Instr.sameBits]
   · cases h
 · simp only[Option.some.injEq] at h
   obtain⟨s1,rfl,rfl⟩:=aa
   obtain⟨s2,rfl,rfl⟩:=ad
   rw[oC,<-qD,<-qD,<-beq_toListBytes] at h
   have:(s2==s1)=true:=by rw[beq_toListBytes] at h⊢;rw[beq_iff_eq] at h⊢;exact h.symm
   simpa[Instr.sameBits] using this
theorem GJ(n:Nat):∀(a b:List I) (qJ qK:List Value),vD a b=true->cd μ a qJ->cd μ b qK->qK.length=qJ.length/\(qK.zip qJ).all (λ(x,y)=>Instr.sameBits n x y)=true
 |[],[],qJ,qK,_,aa,ad=>by cases aa;cases ad;exact⟨rfl,rfl⟩
 |[],_::_,_,_,h,_,_=>by cases h
 |_::_,[],_,_,h,_,_=>by cases h
 |x::a,y::b,_,_,h,⟨u,us,rfl,jl,ua⟩,⟨v,vs,rfl,v1,v2⟩=>by
  unfold vD at h
  split at h
  · rename_i hs
    obtain⟨aA,aC⟩:=GJ n a b us vs h ua v2
    refine⟨by simp[aA],?_⟩
    rw[List.zip_cons_cons,List.all_cons,aC,Bool.and_true]
    exact GI n hs jl v1
  · cases h
theorem GK{de:TypeId}{k x:I}{kv bA:Value}(h:vE P H de k x=some true)(ct:qo k x=true)(aa:bc μ k kv)(ad:bc μ x bA):Instr.sameBits 10000 bA kv=true:=by
 by_cases hs:∀cs,k≠ .agg cs
 · rw[GA hs] at h
   exact GI 10000 h aa ad
 · have:∃cs,k=.agg cs:=by
     cases k<;>first|exact⟨_,rfl⟩|exact absurd (λcs h=>by cases h) hs
   obtain⟨a,rfl⟩:=this
   have:∃b,x=.agg b:=by
    cases x<;>first|exact⟨_,rfl⟩|cases ct
   obtain⟨b,rfl⟩:=this
   obtain⟨qJ,rfl,ua⟩:=aa
   obtain⟨qK,rfl,v2⟩:=ad
   have NQ:vD a b=true:=ct
   obtain⟨aA,aC⟩:=GJ (μ:=μ) 9999 a b qJ qK NQ ua v2
   show Instr.sameBits (9999+1) (.agg ⟨qK⟩) (.agg ⟨qJ⟩)=true
   generalize 9999=n at aC⊢
   simp only[Instr.sameBits]
   rw[aC,Bool.and_true]
   simp[aA]
theorem B4(l:List MapEntry)(i:Nat)(f:MapEntry->MapEntry):(⟨l⟩:Array MapEntry).modify i f=⟨l.modify i f⟩:=by
 apply Array.ext'
 simp
theorem GL(ak:br μ H w){t:TypeId}{m k x:I}{lA kv bA:Value}(hm:bc μ m lA)(aw:bc μ k kv)(ab:bc μ x bA){aX:J}(h:tM P H t m k x=some aX):
  ∃w',(Instr.mapUpdate t lA kv bA).run P w=.ok () w'/\br μ aX w'/\cb μ H w μ aX w':=by
 unfold tM at h
 split at h
 · rename_i de hX hu
   split at h
   · rename_i iB
     split at h
     · rename_i r
       split at h
       · rename_i es clock aj
         obtain⟨i,ae,rfl⟩:=hm
         obtain⟨ents,aA,aC,bN⟩:=wg (P:=P) ak ae aj
         split at h
         · rename_i j a hf
           have r_:qo k (vF j es)=true:=by
            cases ah:qo k (vF j es) with
            |true=>rfl
            |false=>rw[ah] at h;cases h
           rw[r_] at h
           cases h
           obtain⟨r',dD,ef⟩:=qH (P:=P) (w:=w) ak iB aw aC hf
           cases r' with
           |none=>exact ef.elim
           |some y=>
            obtain⟨ji,u⟩:=y
            obtain⟨rfl,t_⟩:=ef
            obtain⟨_,lB,aV,aN,cz⟩:=B1 es 0 j a hf
            obtain⟨sa,du,dp⟩:=aC.get (by simpa using aV)
            have r_:qo k lB.key=true:=by
             have:vF j es=lB.key:=by unfold vF;rw[py,show es[j]? =some lB by simpa using aV]
             rw[<-this];exact r_
            have ct:(Instr.keyThatStays (((ents[j]?).map (·.key)).getD kv) kv).run P w=.ok kv w:=by
             simp only[Instr.keyThatStays,du,Option.map_some,Option.getD_some,GK cz r_ aw dp.1,if_true,Sem.run_pure]
            obtain⟨w',dP,fR,kz⟩:=r9 (P:=P) (c':=clock) ak ae aj aA (aC.set ab aw j)
            refine⟨w',?_,fR,kz⟩
            simp only[Instr.mapUpdate,Sem.run_bind,bW hu,Result.andThen_ok,bN,oG iB aw,dD,List.getElem?_toArray,ct,B4,dP]
         · rename_i hf
           cases h
           obtain⟨r',dD,ef⟩:=qH (P:=P) (w:=w) ak iB aw aC hf
           cases r' with
           |some y=>exact ef.elim
           |none=>
            obtain⟨w',dP,fR,kz⟩:=r9 (P:=P) (c':=clock+1) (ents':=ents++[⟨kv,bA,clock⟩]) ak ae aj aA (aC.append (show fN μ [⟨k,x,clock⟩] [⟨kv,bA,clock⟩] from⟨_,_,rfl,⟨aw,ab,rfl⟩,rfl⟩))
            refine⟨w',?_,fR,kz⟩
            simp only[Instr.mapUpdate,Sem.run_bind,bW hu,Result.andThen_ok,bN,oG iB aw,dD,List.push_toArray,dP]
         · cases h
       · cases h
     · cases h
   · cases h
 · cases h
theorem NR(ak:br μ H w){t:TypeId}{m k:I}{lA kv:Value}(hm:bc μ m lA)(aw:bc μ k kv){v:I}{aX:J}(h:yD P H t m k=some (v,aX)):e7 P μ H w (Instr.mapEntry t lA kv) v aX:=by
 unfold yD at h
 split at h
 · rename_i de hX hu
   split at h
   · rename_i iB
     split at h
     · rename_i r
       split at h
       · rename_i es clock aj
         obtain⟨i,ae,rfl⟩:=hm
         obtain⟨ents,aA,aC,bN⟩:=wg (P:=P) ak ae aj
         split at h
         · rename_i j a hf
           split at h
           · rename_i lB pA
             have r_:qo k lB.key=true:=by
              cases ah:qo k lB.key with
              |true=>rfl
              |false=>rw[ah] at h;cases h
             rw[r_] at h
             cases h
             rw[py] at pA
             obtain⟨r',dD,ef⟩:=qH (P:=P) (w:=w) ak iB aw aC hf
             cases r' with
             |none=>exact ef.elim
             |some y=>
              obtain⟨ji,u⟩:=y
              obtain⟨rfl,t_⟩:=ef
              obtain⟨_,GM,aV,aN,cz⟩:=B1 es 0 j a hf
              have:GM=lB:=by
               have GN:es[j]? =some GM:=by simpa using aV
               rw[pA] at GN;cases GN;rfl
              subst this
              obtain⟨sa,du,dp⟩:=aC.get pA
              have ct:(Instr.keyThatStays (((ents[j]?).map (·.key)).getD kv) kv).run P w=.ok kv w:=by
               simp only[Instr.keyThatStays,du,Option.map_some,Option.getD_some,GK cz r_ aw dp.1,if_true,Sem.run_pure]
              have B5:fN μ (rR a k j es) (ents.modify j λe=>{e with key:=kv}):=by
               have hs:=aC.set (v:=a) (vv:=sa.val) (key:=k) (kv:=kv) (by rw[<-aN];exact dp.2.1) aw j
               have:(ents.modify j λe=>{e with key:=kv,val:=sa.val})=(ents.modify j λe=>{e with key:=kv}):=by
                apply List.ext_getElem?
                intro q
                rw[List.getElem?_modify,List.getElem?_modify]
                by_cases bq:j=q
                · subst bq;rw[du];simp
                · simp[bq]
               rw[<-this];exact hs
              obtain⟨w',dP,fR,kz⟩:=r9 (P:=P) (c':=clock) ak ae aj aA B5
              refine⟨μ,w',.tuple #[u,.int .i64 (sa.born:Int)],?_,⟨_,rfl,_,_,rfl,t_,_,_,rfl,by rw[dp.2.2];rfl,rfl⟩,fR,kz⟩
              rw[du,Option.map_some,Option.getD_some] at ct
              simp only[Instr.mapEntry,Sem.run_bind,bW hu,Result.andThen_ok,bN,oG iB aw,dD,List.getElem?_toArray,du,Option.map_some,Option.getD_some,ct,B4,dP,goInt,Sem.run_pure]
           · cases h
         · rename_i hf
           split at h
           · rename_i z a4
             cases h
             obtain⟨fk,wh,rfl,_⟩:=lv (P:=P) (w:=w) a4
             obtain⟨r',dD,ef⟩:=qH (P:=P) (w:=w) ak iB aw aC hf
             cases r' with
             |some y=>exact ef.elim
             |none=>
              obtain⟨w',dP,fR,kz⟩:=r9 (P:=P) (c':=clock+1) (ents':=ents++[⟨kv,fk,clock⟩]) ak ae aj aA (aC.append (show fN μ [⟨k,nw fk,clock⟩] [⟨kv,fk,clock⟩] from⟨_,_,rfl,⟨aw,jN μ fk,rfl⟩,rfl⟩))
              refine⟨μ,w',.tuple #[fk,.int .i64 (clock:Int)],?_,⟨_,rfl,_,_,rfl,jN μ fk,_,_,rfl,rfl,rfl⟩,fR,kz⟩
              simp only[Instr.mapEntry,Sem.run_bind,bW hu,Result.andThen_ok,bN,oG iB aw,dD,wh,List.push_toArray,dP,goInt,Sem.run_pure]
           · cases h
         · cases h
       · cases h
     · cases h
   · cases h
 · cases h
theorem GO{born:Int}:∀(es:List fA) (ents:List MapEntry) (i j:Nat) (e:fA),fN μ es ents->vH born es i=some (j,e)->i<=j/\es[j-i]? =some e/\ents.findIdx? (λm=>(m.born:Int)==born)=some (j-i)
 |[],_,i,j,e,_,h=>by simp[vH] at h
 |x::es,_,i,j,e,⟨m,ms,aA,aC,bN⟩,h=>by
  subst aA
  simp only[vH] at h
  have af:a7 (Int.ofNat x.born) born=((m.born:Int)==born):=by rw[aC.2.2];rfl
  split at h
  · rename_i hs
    cases h
    rw[af] at hs
    exact⟨Nat.le_refl _,by simp,by simp[List.findIdx?_cons,hs]⟩
  · rename_i hs
    rw[af] at hs
    obtain⟨aV,aN,cz⟩:=GO es ms (i+1) j e bN h
    have:j-i=(j-(i+1))+1:=by omega
    refine⟨by omega,by rw[this];simpa using aN,?_⟩
    rw[this]
    simp[List.findIdx?_cons,hs,cz]
theorem NS(ak:br μ H w){t:TypeId}{m s x:I}{lA m1 bA:Value}(hm:bc μ m lA)(hs:bc μ s m1)(ab:bc μ x bA){aX:J}(h:yE H m s x=some aX):
  ∃w',(Instr.entryStore t lA m1 bA).run P w=.ok () w'/\br μ aX w'/\cb μ H w μ aX w':=by
 unfold yE at h
 split at h
 · rename_i r bS born
   split at h
   · rename_i es clock aj
     split at h
     · rename_i j lB af
       cases h
       cases hs
       obtain⟨i,ae,rfl⟩:=hm
       obtain⟨ents,aA,aC,bN⟩:=wg (P:=P) ak ae aj
       obtain⟨_,aV,aN⟩:=GO es ents 0 j lB aC af
       obtain⟨sa,du,dp⟩:=aC.get (by simpa using aV)
       have B5:fN μ (rR x lB.key j es) (ents.modify j λe=>{e with val:=bA}):=by
        have hs:=aC.set (v:=x) (vv:=bA) (key:=lB.key) (kv:=sa.key) ab dp.1 j
        have:(ents.modify j λe=>{e with key:=sa.key,val:=bA})=(ents.modify j λe=>{e with val:=bA}):=by
         apply List.ext_getElem?
         intro q
         rw[List.getElem?_modify,List.getElem?_modify]
         by_cases bq:j=q
         · subst bq;rw[du];simp
         · simp[bq]
        rw[<-this];exact hs
       obtain⟨w',dP,fR,kz⟩:=r9 (P:=P) (c':=clock) ak ae aj aA B5
       refine⟨w',?_,fR,kz⟩
       have pB:(⟨ents⟩:Array MapEntry).findIdx? (λe=>(e.born:Int)==born)=some j:=by
        have:=aN
        simp only[Nat.sub_zero] at this
        rw[<-this];simp
       simp only[Instr.entryStore,Sem.run_bind,Result.andThen_ok,bN,asInt,asIntOf,Sem.run_pure,pB,B4,dP]
     · cases h
   · cases h
 · cases h
theorem NT(ak:br μ H w){argTypes:Array TypeId}{ty t:TypeId}(h0:argTypes[0]? =some t){m k:I}{lA kv:Value}(hm:bc μ m lA)(aw:bc μ k kv){v:I}{aX:J}(h:yF P H t m k=some (v,aX)):
  e7 P μ H w (Builtin.delete_ argTypes ty #[lA,kv]) v aX:=by
 unfold yF at h
 split at h
 · rename_i de hX hu
   split at h
   · rename_i iB
     split at h
     · cases h;cases hm
       refine .same ak (v':=.tuple #[]) ?_ ⟨[],rfl,rfl⟩
       simp[Builtin.delete_,h0,bW hu,oG iB aw]
     · rename_i r
       split at h
       · rename_i es clock aj
         obtain⟨i,ae,rfl⟩:=hm
         obtain⟨ents,aA,aC,bN⟩:=wg (P:=P) ak ae aj
         split at h
         · rename_i j a hf
           cases h
           obtain⟨r',dD,ef⟩:=qH (P:=P) (w:=w) ak iB aw aC hf
           cases r' with
           |none=>exact ef.elim
           |some y=>
            obtain⟨ji,u⟩:=y
            obtain⟨rfl,t_⟩:=ef
            obtain⟨w',dP,fR,kz⟩:=r9 (P:=P) (c':=clock) ak ae aj aA (aC.del j)
            refine⟨μ,w',.tuple #[],?_,⟨[],rfl,rfl⟩,fR,kz⟩
            have he:(⟨ents⟩:Array MapEntry).eraseIdxIfInBounds j=⟨ents.eraseIdx j⟩:=by
             apply Array.ext'
             simp
            simp[Builtin.delete_,h0,bW hu,oG iB aw,bN,dD,he,dP]
         · rename_i hf
           cases h
           obtain⟨r',dD,ef⟩:=qH (P:=P) (w:=w) ak iB aw aC hf
           cases r' with
           |some y=>exact ef.elim
           |none=>
            obtain⟨w',dP,fR,kz⟩:=r9 (P:=P) (c':=clock) ak ae aj aA aC
            refine⟨μ,w',.tuple #[],?_,⟨[],rfl,rfl⟩,fR,kz⟩
            simp[Builtin.delete_,h0,bW hu,oG iB aw,bN,dD,dP]
         · cases h
       · cases h
     · cases h
   · cases h
 · cases h
theorem NU(ak:br μ H w){t:TypeId}:e7 P μ H w (Instr.makeMap t none) (.map H.n) (H.push (.map [] 0)):=by
 obtain⟨bb,a3⟩:=ak.alloc (.map [] 0) (.map #[] 0) 0 ⟨[],World.heap_alloc_new _ _,rfl⟩
 exact⟨_,_,.map (some w.heap.size),rfl,⟨_,gf _ _ _,rfl⟩,bb,a3⟩
theorem NV(ak:br μ H w){t de hX:TypeId}{k:IntKind}{n:Int}(hu:P.underlying t=some (.map de hX)):e7 P μ H w (Instr.makeMap t (some (.int k n))) (.map H.n) (H.push (.map [] 0)):=by
 obtain⟨bb,a3⟩:=ak.alloc (.map [] 0) (.map #[] 0) 0 ⟨[],World.heap_alloc_new _ _,rfl⟩
 refine⟨_,_,.map (some w.heap.size),?_,⟨_,gf _ _ _,rfl⟩,bb,a3⟩
 simp only[Instr.makeMap,Sem.run_bind,bW hu,Result.andThen_ok,asInt,asIntOf,Sem.run_pure,run_newObj]
 rfl
theorem NW(ak:br μ H w){t:TypeId}(hu:P.underlying t=some .string){s:List UInt8}{bA:Value}(ab:bc μ (.str s) bA):e7 P μ H w (Instr.range t bA) (.ptr H.n 0) (H.push (.oi s 0)):=by
 obtain⟨bs,rfl,rfl⟩:=ab
 obtain⟨bb,a3⟩:=ak.alloc (.oi bs.data.toList 0) (.stringIter bs 0) 0 ⟨rfl,bs,World.heap_alloc_new _ _,rfl⟩
 refine⟨_,_,.pointer (some ⟨w.heap.size,0,none⟩),?_,⟨_,gf _ _ _,rfl⟩,bb,a3⟩
 simp only[Instr.range,Sem.run_bind,bW hu,Result.andThen_ok,Sem.run_pure,run_newObj]
 rfl
theorem NX(ak:br μ H w){t de hX:TypeId}(hu:P.underlying t=some (.map de hX)){bA:Value}(ab:bc μ .g_ bA):e7 P μ H w (Instr.range t bA) (.ptr H.n 0) (H.push (.mapIter none 0 [] 0)):=by
 cases ab
 obtain⟨bb,a3⟩:=ak.alloc (.mapIter none 0 [] 0) (.mapIter none 0 #[] 0) 0 ⟨rfl,World.heap_alloc_new _ _⟩
 refine⟨_,_,.pointer (some ⟨w.heap.size,0,none⟩),?_,⟨_,gf _ _ _,rfl⟩,bb,a3⟩
 simp only[Instr.range,Sem.run_bind,bW hu,Result.andThen_ok,Sem.run_pure,run_newObj]
 rfl
def NY(at':Nat->Nat)(lt:Nat->Bool):Nat×Nat:=
 let cont (k:Nat):Bool:=lt k&&at' k/64==2
 let cP:=at' 0
 if cP<0x80 then(cP,1)
 else if cP/32==6&&cont 1 then
  let c:=(cP %32)*64+at' 1 %64
  if c>=0x80 then(c,2) else(Utf8.runeError,1)
 else if cP/16==14&&cont 1&&cont 2 then
  let c:=(cP %16)*4096+(at' 1 %64)*64+at' 2 %64
  if c>=0x800&&Utf8.valid c then(c,3) else(Utf8.runeError,1)
 else if cP/8==30&&cont 1&&cont 2&&cont 3 then
  let c:=(cP %8)*262144+(at' 1 %64)*4096+(at' 2 %64)*64+at' 3 %64
  if c>=0x10000&&Utf8.valid c then(c,4) else(Utf8.runeError,1)
 else(Utf8.runeError,1)
theorem GP(s:ByteArray)(i:Nat):Utf8.decode s i=NY (λk=>(s.get! (i+k)).toNat) (λk=>decide (i+k<s.size)):=rfl
theorem NZ(full:ByteArray)(pos:Nat)(bl:pos<=full.size):Utf8.decode full pos=Utf8.decode ⟨(full.data.toList.drop pos).toArray⟩ 0:=by
 have m3:full.data.toList.length=full.size:=Array.length_toList
 have bL:(⟨(full.data.toList.drop pos).toArray⟩:ByteArray).size=full.size-pos:=by
  show((full.data.toList.drop pos).toArray).size=_
  rw[List.size_toArray,List.length_drop,m3]
 have fw:∀k,full.get! (pos+k)=(⟨(full.data.toList.drop pos).toArray⟩:ByteArray).get! (0+k):=λk=>by
  show full.data[pos+k]! =((full.data.toList.drop pos).toArray)[0+k]!
  rw[Nat.zero_add]
  rw[getElem!_def,getElem!_def]
  have:((full.data.toList.drop pos).toArray)[k]? =full.data[pos+k]? :=by
   rw[List.getElem?_toArray,List.getElem?_drop,Array.getElem?_toList]
  rw[this]
 rw[GP,GP]
 have a2:(λk=>(full.get! (pos+k)).toNat)=(λk=>((⟨(full.data.toList.drop pos).toArray⟩:ByteArray).get! (0+k)).toNat):=by
  funext k;rw[fw k]
 have af:(λk=>decide (pos+k<full.size))=(λk=>decide (0+k<(⟨(full.data.toList.drop pos).toArray⟩:ByteArray).size)):=by
  funext k
  exact decide_eq_decide.2 (by rw[bL];omega)
 rw[a2,af]
theorem N0(ak:br μ H w){t:TypeId}{it:I}{wi:Value}(ae:bc μ it wi){b:Bool}{v:I}{aX:J}(h:yG H it b=some (v,aX)):e7 P μ H w (Instr.next wi b t) v aX:=by
 unfold yG at h
 split at h
 · rename_i r
   obtain⟨i,ig,rfl⟩:=ae
   split at h
   · rename_i s pos aj
     obtain⟨ep,full,aA,aC⟩:=ak.rel _ _ i aj ig
     obtain⟨iP,i0,y_⟩:=i
     simp only at ep;subst ep
     have fw:(getObj iP).run P w=.ok (.stringIter full pos) w:=by simp[getObj,Sem.run,aA]
     have m3:full.data.toList.length=full.size:=Array.length_toList
     have GQ:=congrArg List.length aC
     rw[List.length_drop,m3] at GQ
     split at h
     · cases h
       have aK:¬pos<full.size:=by simp at GQ;omega
       exact .same ak (v':=.tuple #[.bool false]) (by simp[Instr.next,fw,aK]) ⟨_,rfl,_,_,rfl,rfl,rfl⟩
     · rename_i dC
       have cy:pos<full.size:=by
        rcases Nat.lt_or_ge pos full.size with h|h
        · exact h
        · exfalso;apply dC
          exact List.length_eq_zero_iff.1 (by omega)
       have GR:Utf8.decode full pos=By s:=by rw[NZ full pos (by omega),aC];rfl
       generalize By s=N1 at GR h
       obtain⟨c,wd⟩:=N1
       cases h
       have N2:iP<w.heap.size:=(ak.lt _ _ ig).2
       obtain⟨bb,a3⟩:=ak.update (w':={w with heap:=w.heap.setIfInBounds iP (.stringIter full (pos+wd))}) (o':=.oi (hW wd s) (pos+wd)) aj rfl ig (by simp) (λr ai=>by simp[Array.getElem?_setIfInBounds];intro e;exact absurd e.symm ai) rfl rfl rfl
        ⟨rfl,full,by simp[N2],by rw[mW,<-aC,List.drop_drop]⟩
       refine⟨μ,_,.tuple #[.bool true,.int .i64 (pos:Int),.int .i32 (c:Int)],?_,⟨_,rfl,_,_,rfl,rfl,_,_,rfl,rfl,_,_,rfl,rfl,rfl⟩,bb,a3⟩
       have sb:(setObj iP (.stringIter full (pos+wd))).run P w=.ok () {w with heap:=w.heap.setIfInBounds iP (.stringIter full (pos+wd))}:=by simp[setObj,Sem.run,aA]
       simp[Instr.next,fw,cy,GR,sb,goInt]
   · rename_i since seen last aj
     cases h
     obtain⟨ep,aA⟩:=ak.rel _ _ i aj ig
     obtain⟨iP,i0,y_⟩:=i
     simp only at ep;subst ep
     have wj:w.heap[iP]? =some (.mapIter none since ⟨seen⟩ last):=aA
     have fw:(getObj iP).run P w=.ok (.mapIter none since ⟨seen⟩ last) w:=by simp[getObj,Sem.run,wj]
     exact .same ak (v':=.tuple #[.bool false]) (by simp[Instr.next,fw]) ⟨_,rfl,_,_,rfl,rfl,rfl⟩
   · cases h
 · cases h
theorem GS:∀(es:List fA) (ms:List MapEntry) (b:Nat) (e:fA),fN μ es ms->vI b es=some e->∃m,ms.find? (λx=>x.born==b)=some m/\tT μ e m
 |[],ms,b,e,ai,h=>by simp[vI] at h
 |x::es,ms,b,e,ai,h=>by
  obtain⟨m,N3,rfl,aa,ad⟩:=ai
  unfold vI at h
  rw[List.find?_cons,<-aa.2.2]
  cases af:Nat.beq x.born b with
  |true=>
   rw[af] at h
   cases h
   have:x.born=b:=Nat.eq_of_beq_eq_true af
   rw[this]
   simp only[beq_self_eq_true]
   exact⟨m,rfl,aa⟩
  |false=>
   rw[af] at h
   have:(x.born==b)=false:=by
    cases ah:x.born==b with
    |false=>rfl
    |true=>rw[beq_iff_eq.1 ah] at af;rw[Nat.beq_refl] at af;cases af
   rw[this]
   exact GS es N3 b e ad h
theorem GU:∀(l:List Nat),yH l=l.getLast?
 |[]=>rfl
 |[b]=>rfl
 |a::b::l=>by
  show yH (b::l)=_
  rw[GU (b::l),List.getLast?_cons_cons]
theorem N4(ak:br μ H w){it:I}{wi:Value}(ae:bc μ it wi){v:I}(h:yI H it=some v):e7 P μ H w (Instr.entry wi) v H:=by
 unfold yI at h
 split at h
 · rename_i r
   obtain⟨i,ig,rfl⟩:=ae
   split at h
   · rename_i m since seen last aj
     obtain⟨ep,j,aL,aA⟩:=ak.rel _ _ i aj ig
     obtain⟨iP,i0,y_⟩:=i
     simp only at ep;subst ep
     have wj:w.heap[iP]? =some (.mapIter (some j.bj) since ⟨seen⟩ last):=aA
     split at h
     · rename_i es clock b B6 N5
       obtain⟨ents,f1,f2⟩:=ak.rel _ _ j B6 aL
       split at h
       · rename_i gR
         have gR:clock=last:=Nat.eq_of_beq_eq_true gR
         split at h
         · rename_i e N6
           cases h
           obtain⟨B7,ao,ar⟩:=GS es ents b e f2 N6
           have fw:(getObj iP).run P w=.ok (.mapIter (some j.bj) since ⟨seen⟩ last) w:=by simp[getObj,Sem.run,wj]
           have N7:(getObj j.bj).run P w=.ok (.map ⟨ents⟩ clock) w:=by simp[getObj,Sem.run,f1]
           have N8:(⟨seen⟩:Array Nat).back?=some b:=by
            rw[<-N5,GU];simp
           have wk:(⟨ents⟩:Array MapEntry).find? (λx=>x.born==b)=some B7:=by rw[<-ao];simp
           refine .same ak (v':=.tuple #[B7.key,B7.val]) ?_ ⟨_,rfl,_,_,rfl,ar.1,_,_,rfl,ar.2.1,rfl⟩
           have dC:(clock !=last)=false:=by simp[gR]
           simp only[Instr.entry,Sem.run_bind,fw,Result.andThen_ok,N8,N7,dC,Bool.false_eq_true,if_false,wk]
           rfl
         · cases h
       · cases h
     · cases h
   · cases h
 · cases h
end
end aD
namespace aD
open Go
section
variable {P:Program} {μ:bn} {H:J} {w:World}
theorem N9(k:IntKind)(x y:Int){v:I}(h:arith .xor k x y=some v):∃u,(Op.intBits .xor k x y).run P w=.ok u w/\bc μ v u:=by
 simp only[arith] at h;cases h;exact⟨_,rfl,rfl⟩
theorem N_{x:Value}{b:Bool}(ab:bc μ (.bool b) x):∃u,(Op.unary .not x).run P w=.ok u w/\bc μ (.bool (!b)) u:=by
 cases ab;exact⟨_,rfl,rfl⟩
theorem Oa{x:Value}{k:IntKind}{n:Int}(ab:bc μ (.int k n) x):∃u,(Op.unary .neg x).run P w=.ok u w/\bc μ (.int k (k.wrap (0-n))) u:=by
 cases ab;exact⟨_,rfl,rfl⟩
theorem Ob{x:Value}{k:IntKind}{n:Int}{v:I}(ab:bc μ (.int k n) x)(h:arith .xor k (if k.signed then-1 else k.max) n=some v):∃u,(Op.unary .xor x).run P w=.ok u w/\bc μ v u:=by
 cases ab;exact N9 k _ n h
def sc:Value->Bool
 |.int _ _|.float _ _|.complex _ _ _|.string _=>true
 |_=>false
theorem binOp_eql(t:TypeId){x y:Value}(h:sc x=false):binOp .eql t x y=(do pure (.bool (<-Op.equal t x y))):=by
 cases x<;>simp[sc] at h<;>cases y<;>rfl
theorem binOp_neq(t:TypeId){x y:Value}(h:sc x=false):binOp .neq t x y=(do pure (.bool (!(<-Op.equal t x y)))):=by
 cases x<;>simp[sc] at h<;>cases y<;>rfl
theorem GV:∀{d:Nat} {t:TypeId} {x y:I} {b:Bool} {bA:Value},hK P H d t x y=some b->(∀j a k c,¬(x=.int j a/\y=.int k c))->(∀a c,¬(x=.str a/\y=.str c))->bc μ x bA->sc bA=false:=by
 intro d t x y b bA h ae hs ab
 cases d with
 |zero=>simp[hK] at h
 |succ d=>
  cases x with
  |bad=>unfold hK at h;split at h<;>simp at h
  |int j a=>
   unfold hK at h
   split at h
   all_goals first
    |(cases y<;>simp at h;done)
    |(cases y<;>simp at h;exact absurd ⟨rfl,rfl⟩ (ae _ _ _ _))
    |cases h
  |str a=>
   unfold hK at h
   split at h
   all_goals first
    |(cases y<;>simp at h;done)
    |(cases y<;>simp at h;exact absurd ⟨rfl,rfl⟩ (hs _ _))
    |cases h
  |bool b=>cases ab;rfl
  |aR=>cases ab;rfl
  |ptr b off=>obtain⟨i,_,rfl⟩:=ab;rfl
  |a_=>cases ab;rfl
  |slice b off n c=>
   obtain⟨i,_,ah⟩:=ab
   cases c with
   |exact c=>cases ah;rfl
   |aY gn=>obtain⟨c,rfl,_⟩:=ah;rfl
   |dead=>obtain⟨_,a,c,rfl⟩:=ah;rfl
  |g_=>cases ab;rfl
  |map r=>obtain⟨i,_,rfl⟩:=ab;rfl
  |fi=>cases ab;rfl
  |fn f a b=>obtain⟨_,_,rfl,_⟩:=ab;rfl
  |cc l=>obtain⟨i,_,rfl⟩:=ab;rfl
  |eO=>cases ab;rfl
  |iface t x=>obtain⟨_,rfl,_⟩:=ab;rfl
  |agg cs=>obtain⟨_,rfl,_⟩:=ab;rfl
  |aW cs=>obtain⟨_,rfl,_⟩:=ab;rfl
theorem GW{op:BinOp}(h:op≠ .eql)(al:op≠ .neq)(t:TypeId)(j6 j7:Operand)(a b:Value):(eqGuard op t j6 j7 a b).run P w=.ok () w:=by
 cases op<;>first|exact absurd rfl h|exact absurd rfl al|simp[eqGuard]
def qL:Value->Nat
 |.nilIface=>1
 |.agg _=>2
 |_=>0
theorem B8{op:BinOp}(fU:op=.eql\/op=.neq){t:TypeId}{j6 j7:Operand}{a b:Value}(h:qL a=0\/qL a≠qL b):(eqGuard op t j6 j7 a b).run P w=.ok () w:=by
 rcases fU with rfl|rfl<;>(cases a<;>first|rfl|(cases b<;>first|rfl|simp[qL] at h))
def sd:I->Nat
 |.eO=>1
 |.agg _=>2
 |_=>0
theorem GX{x:I}{a:Value}(ab:bc μ x a)(af:x≠ .bad):qL a=sd x:=by
 cases x with
 |bad=>exact absurd rfl af
 |bool b=>cases ab;rfl
 |int k n=>cases ab;rfl
 |str s=>obtain⟨_,rfl,_⟩:=ab;rfl
 |aR=>cases ab;rfl
 |ptr b off=>obtain⟨i,_,rfl⟩:=ab;rfl
 |a_=>cases ab;rfl
 |slice b off n c=>
  obtain⟨i,_,ah⟩:=ab
  cases c with
  |exact c=>cases ah;rfl
  |aY gn=>obtain⟨c,rfl,_⟩:=ah;rfl
  |dead=>obtain⟨_,a,c,rfl⟩:=ah;rfl
 |g_=>cases ab;rfl
 |map r=>obtain⟨i,_,rfl⟩:=ab;rfl
 |fi=>cases ab;rfl
 |fn f a b=>obtain⟨_,_,rfl,_⟩:=ab;rfl
 |cc l=>obtain⟨i,_,rfl⟩:=ab;rfl
 |eO=>cases ab;rfl
 |iface t x=>obtain⟨_,rfl,_⟩:=ab;rfl
 |agg cs=>obtain⟨_,rfl,_⟩:=ab;rfl
 |aW cs=>obtain⟨_,rfl,_⟩:=ab;rfl
theorem GY{op:BinOp}(fU:op=.eql\/op=.neq){t:TypeId}{j6 j7:Operand}{x y:I}{a b:Value}(ab:bc μ x a)(bg:bc μ y b)(GZ:x≠ .bad)(Oc:y≠ .bad)(h:qn P t j6 j7 x y=true):
  (eqGuard op t j6 j7 a b).run P w=.ok () w:=by
 have G0:=GX ab GZ
 have B9:=GX bg Oc
 by_cases ai:qL a=0\/qL a≠qL b
 · exact B8 fU ai
 · have aa:sd x≠0:=λe=>ai (.inl (G0.trans e))
   have ad:sd x=sd y:=by
    rw[<-G0,<-B9];exact Classical.byContradiction λe=>ai (.inr e)
   cases x<;>simp[sd] at aa
   · cases y<;>simp[sd] at ad
     cases ab;cases bg
     simp only[qn] at h
     rcases fU with rfl|rfl<;>(cases j6<;>cases j7<;>first|rfl|simp at h)
   · cases y<;>simp[sd] at ad
     obtain⟨bp,rfl,_⟩:=ab
     obtain⟨bB,rfl,_⟩:=bg
     simp only[qn,Bool.not_eq_true'] at h
     rcases fU with rfl|rfl<;>simp[eqGuard,h]
theorem G1{d:Nat}{t:TypeId}{x y:I}{b:Bool}(h:hK P H d t x y=some b):x≠ .bad/\y≠ .bad:=by
 cases d with
 |zero=>simp[hK] at h
 |succ d=>
  constructor
  · rintro rfl;unfold hK at h;split at h<;>simp at h
  · rintro rfl;unfold hK at h;split at h<;>(try cases x)<;>simp at h
theorem Od(ak:br μ H w){op:BinOp}{t yt:TypeId}{j6 j7:Operand}{x y v:I}{bA gg:Value}(ab:bc μ x bA)(bg:bc μ y gg)(h:c7 P H op t j6 j7 x y=some v):
  ∃u,(do eqGuard op t j6 j7 bA gg;binOp op t bA gg:Sem Value).run P w=.ok u w/\bc μ v u:=by
 unfold c7 at h
 split at h
 · rename_i k a dA b
   cases ab;cases bg
   have aj:(eqGuard op t j6 j7 (.int k a) (.int dA b)).run P w=.ok () w:=by
    by_cases fU:op=.eql\/op=.neq
    · exact B8 fU (.inl rfl)
    · exact GW (λe=>fU (.inl e)) (λe=>fU (.inr e)) t j6 j7 _ _
   simp only[Sem.run_bind,aj,Result.andThen_ok]
   split at h
   · exact F_ h t
   · exact F_ h t
   · rename_i aa ad
     split at h
     · rename_i aw;subst aw
       exact MQ h ⟨aa,ad⟩ t
     · cases h
 · rename_i a b
   obtain⟨s1,rfl,rfl⟩:=ab
   obtain⟨s2,rfl,rfl⟩:=bg
   have aj:(eqGuard op t j6 j7 (.string s1) (.string s2)).run P w=.ok () w:=by
    by_cases fU:op=.eql\/op=.neq
    · exact B8 fU (.inl rfl)
    · exact GW (λe=>fU (.inl e)) (λe=>fU (.inr e)) t j6 j7 _ _
   simp only[Sem.run_bind,aj,Result.andThen_ok]
   exact MS h t
 · rename_i dY jQ
   split at h
   · split at h
     · rename_i dw
       split at h
       · rename_i b he
         cases h
         obtain⟨a8,aI⟩:=G1 he
         have aj:=GY (w:=w) (op:=.eql) (.inl rfl) ab bg a8 aI dw
         have aK:sc bA=false:=GV he (λj a k c e=>dY j a k c e.1 e.2) (λa c e=>jQ a c e.1 e.2) ab
         have ai:=r7 (P:=P) ak 100 t x y b bA gg Op.maxDepth (by decide) he ab bg
         refine⟨.bool b,?_,rfl⟩
         simp only[Sem.run_bind,aj,Result.andThen_ok,binOp_eql t aK,Op.equal,ai,Sem.run_pure]
       · cases h
     · cases h
   · split at h
     · rename_i dw
       split at h
       · rename_i b he
         cases h
         obtain⟨a8,aI⟩:=G1 he
         have aj:=GY (w:=w) (op:=.neq) (.inr rfl) ab bg a8 aI dw
         have aK:sc bA=false:=GV he (λj a k c e=>dY j a k c e.1 e.2) (λa c e=>jQ a c e.1 e.2) ab
         have ai:=r7 (P:=P) ak 100 t x y b bA gg Op.maxDepth (by decide) he ab bg
         refine⟨.bool (!b),?_,rfl⟩
         simp only[Sem.run_bind,aj,Result.andThen_ok,binOp_neq t aK,Op.equal,ai,Sem.run_pure]
       · cases h
     · cases h
   · cases h
theorem Oe{t:TypeId}{d:TypeDesc}(hu:P.underlying t=some d)(dY:∀m,d≠ .interface m){x:I}{bA:Value}(ab:bc μ x bA):
  (Instr.makeInterface t bA).run P w=.ok (.iface t bA) w:=by
 simp only[Instr.makeInterface,Sem.run_bind,bW hu,Result.andThen_ok]
 cases d<;>first|rfl|exact absurd rfl (dY _)
theorem G2{xT as:TypeId}{ok:Bool}{d:TypeDesc}(hu:P.underlying as=some d)(dY:∀m,d≠ .interface m){x:I}{bA:Value}(ab:bc μ x bA):
  (∀z,x=.eO->ok=true->ew P as=some z->∃u,(Instr.typeAssert bA xT as ok).run P w=.ok u w/\bc μ (.aW [z,.bool false]) u)/\
  (∀v,x=.iface as v->∃u,(Instr.typeAssert bA xT as ok).run P w=.ok u w/\bc μ (if ok then .aW [v,.bool true] else v) u)/\
  (∀t v z,x=.iface t v->t≠as->ok=true->ew P as=some z->∃u,(Instr.typeAssert bA xT as ok).run P w=.ok u w/\bc μ (.aW [z,.bool false]) u):=by
 refine⟨λz kX dw a4=>?_,λv kX=>?_,λt v z kX dC dw a4=>?_⟩
 · subst kX;cases ab;subst dw
   obtain⟨fk,wh,rfl,_⟩:=lv (P:=P) (w:=w) a4
   refine⟨.tuple #[fk,.bool false],?_,⟨_,rfl,_,_,rfl,jN μ fk,_,_,rfl,rfl,rfl⟩⟩
   simp only[Instr.typeAssert,Sem.run_bind,bW hu,Result.andThen_ok]
   cases d<;>first|exact absurd rfl (dY _)|simp[wh]
 · subst kX;obtain⟨y,rfl,bg⟩:=ab
   refine⟨if ok then .tuple #[y,.bool true] else y,?_,?_⟩
   · simp only[Instr.typeAssert,Sem.run_bind,bW hu,Result.andThen_ok]
     cases d<;>first|exact absurd rfl (dY _)|simp
   · cases ok
     · exact bg
     · exact⟨_,rfl,_,_,rfl,bg,_,_,rfl,rfl,rfl⟩
 · subst kX;obtain⟨y,rfl,bg⟩:=ab;subst dw
   obtain⟨fk,wh,rfl,_⟩:=lv (P:=P) (w:=w) a4
   refine⟨.tuple #[fk,.bool false],?_,⟨_,rfl,_,_,rfl,jN μ fk,_,_,rfl,rfl,rfl⟩⟩
   simp only[Instr.typeAssert,Sem.run_bind,bW hu,Result.andThen_ok]
   cases d<;>first|exact absurd rfl (dY _)|simp[wh,dC]
theorem Of{vs:List I}{x:Value}{i:Nat}{v:I}(ab:bc μ (.aW vs) x)(h:nth i vs=some v):∃u,(Instr.extract x i).run P w=.ok u w/\bc μ v u:=by
 obtain⟨l,rfl,au⟩:=ab
 rw[py] at h
 obtain⟨u,hu,ai⟩:=au.get h
 refine⟨u,?_,ai⟩
 simp[Instr.extract,hu]
theorem G3{r el:Nat}{c:Array Value}{cJ:Nat×Nat}(h:w.heap[r]? =some (.cells c el cJ)):(viewAt r).run P w=.ok none w:=by
 simp[viewAt,World.shape?,h]
theorem Og(ak:br μ H w){src dst u:TypeId}{b off n:Nat}{cs:List I}{el bf ae:Nat}{k:eC}(hs:P.underlying src=some (.pointer u))(aG:P.underlying dst=some .unsafePointer)
  (a4:dt P u=some (n+1))(aj:H.get b=some (.cells cs el k bf ae))(cy:off<cs.length){x:Value}(ab:bc μ (.ptr b off) x):(convert src dst x).run P w=.ok x w:=by
 obtain⟨i,ae,rfl⟩:=ab
 obtain⟨c,ft,fu,aA,aC,bN,eW⟩:=ak.rel _ _ i aj ae
 obtain⟨v,aE⟩:∃v,cs[off]? =some v:=⟨_,List.getElem?_eq_getElem cy⟩
 obtain⟨Oh,hu,_⟩:=aC off v aE
 have dO:i.base+off<c.size:=by
  rcases Nat.lt_or_ge (i.base+off) c.size with h|h
  · exact h
  · rw[Array.getElem?_eq_none h] at hu;cases hu
 have v5:(Conv.seenAt ⟨i.bj,i.base+off,none⟩).run P w=.ok ⟨i.bj,i.base+off,none⟩ w:=by
  simp[Conv.seenAt,G3 aA]
 have G4:(cellsIn i.bj).run P w=.ok (some c.size) w:=by simp[cellsIn,World.shape?,aA]
 have r0:¬(c.size<=i.base+off):=by omega
 simp[convert,bW hs,bW aG,Conv.unsafePointer,v5,G4,run_sizeOf a4,r0]
theorem Oi(ak:br μ H w){src dst u:TypeId}{b off n:Nat}{cs:List I}{el bf ae:Nat}(hs:P.underlying src=some .unsafePointer)(aG:P.underlying dst=some (.pointer u))
  (a4:dt P u=some (n+1))(aj:H.get b=some (.cells cs el .own bf ae))(au:liesAt P P.depth el (cs.length/P.cellsOf el) off u 1=true){x:Value}(ab:bc μ (.ptr b off) x):(convert src dst x).run P w=.ok x w:=by
 obtain⟨i,ae,rfl⟩:=ab
 obtain⟨c,ft,fu,aA,aC,bN,eW,iO,_⟩:=ak.rel _ _ i aj ae
 have ah:c.size=cs.length:=by omega
 have v5:(Conv.seenAt ⟨i.bj,i.base+off,none⟩).run P w=.ok ⟨i.bj,i.base+off,none⟩ w:=by
  simp[Conv.seenAt,G3 aA]
 have B_:(variablesAt ⟨i.bj,i.base+off,none⟩ u 1).run P w=.ok true w:=by
  simp[variablesAt,World.shape?,aA,eW,ah,au]
 simp[convert,bW hs,bW aG,Conv.unsafePointer,v5,run_sizeOf a4,B_]
end
end aD
namespace aD
open Go
section
variable {P:Program} {μ:bn} {H:J} {w:World}
theorem G5(ak:br μ H w){b:Nat}{i:eG}(ae:μ b=some i){cs:List I}{el bf eH:Nat}{k:eC}(aj:H.get b=some (.cells cs el k bf eH)):
  ∀(n off:Nat) (r:List I) (bs:List UInt8) (acc:ByteArray),takeN n (hW off cs)=some r->mQ r=some bs->
   (loadBytes ⟨i.bj,i.base+off,none⟩ acc n).run P w=.ok ⟨acc.data++bs.toArray⟩ w
 |0,off,r,bs,acc,h,af=>by
  simp only[takeN] at h;cases h
  simp only[mQ] at af;cases af
  simp[loadBytes]
 |n+1,off,r,bs,acc,h,af=>by
  rw[mW] at h
  cases aG:cs.drop off with
  |nil=>rw[aG] at h;simp[takeN] at h
  |cons a l=>
   rw[aG] at h
   simp only[takeN] at h
   cases a6:takeN n l with
   |none=>rw[a6] at h;cases h
   |some r'=>
    rw[a6] at h;cases h
    unfold mQ at af
    split at af
    · rename_i heq;cases heq
    · rename_i m oH heq
      cases heq
      split at af
      · rename_i Oj hm hp
        cases af
        have Ok:cs[off]? =some (.int .u8 (Int.ofNat m)):=by
         have:=congrArg List.head? aG
         simpa[List.head?_drop] using this
        have au:l=cs.drop (off+1):=by
         have:=congrArg List.tail aG
         simpa[List.tail_drop] using this.symm
        obtain⟨u,aa,ad⟩:=BH (P:=P) (off:=off) ak ae (show aq H b off=some (.int .u8 (Int.ofNat m)) by simp[aq,aj,py,Ok])
        cases ad
        have ba:=G5 ak ae aj n (off+1) r' Oj (acc.push (UInt8.ofNat m)) (by rw[mW,<-au];exact a6) hp
        have e:(⟨i.bj,i.base+off,none⟩:Addr).add 1=⟨i.bj,i.base+(off+1),none⟩:=by simp[Addr.add,Nat.add_assoc]
        simp only[loadBytes,Sem.run_bind,aa,Result.andThen_ok,e]
        refine Eq.trans ?_ (ba.trans ?_)
        · rfl
        · congr 1
          simp[ByteArray.ext_iff,ByteArray.push]
      · cases af
    · cases af
theorem Ca{α:Type}(p:Option Addr)(l:Value)(f:Option Addr->Value->α)(g:Array Value->α):Builtin.unsafeString_.match_3 (λ_=>α) #[.pointer p,l] f g=f p l:=rfl
theorem Ol(argTypes:Array TypeId)(ty pT:TypeId)(h0:argTypes[0]? =some pT)(k:IntKind)(m:Nat)(a:Addr)(u:TypeId)(hu:P.underlying pT=some (.pointer u))(pz:m≠0)(hm:m<=281474976710656)
  {s:ByteArray}(aE:(variablesAt a u m).run P w=.ok true w)(au:(loadBytes a .empty m).run P w=.ok s w):
  (Builtin.unsafeString_ argTypes ty #[.pointer (some a),.int k (m:Int)]).run P w=.ok (.string s) (w.freeze a m):=by
 have wm:¬((9223372036854775807:Int)<(m:Int)):=by omega
 have h1:IntKind.i64.max=9223372036854775807:=rfl
 have he:(elemOf pT).run P w=.ok u w:=by simp[elemOf,bW hu]
 have wo:¬((m:Int)<0):=by omega
 delta Builtin.unsafeString_
 rw[Ca]
 simp[asInt,asIntOf,h0,h1,wm,pz,he,aE,au,wo]
theorem G6(argTypes:Array TypeId)(ty pT:TypeId)(h0:argTypes[0]? =some pT)(k:IntKind)(p:Option Addr):(Builtin.unsafeString_ argTypes ty #[.pointer p,.int k 0]).run P w=.ok (.string .empty) w:=by
 have h1:IntKind.i64.max=9223372036854775807:=rfl
 cases p with
 |none=>
  delta Builtin.unsafeString_
  rw[Ca]
  simp[asInt,asIntOf,h0,h1]
 |some a=>
  delta Builtin.unsafeString_
  rw[Ca]
  simp[asInt,asIntOf,h0,h1]
theorem za:P.depth=(2*(P.types.size+Made.depth)+1)+1:=rfl
theorem Om{e u count off n:Nat}(aa:P.underlyingId e=P.underlyingId u)(hs:P.cellsOf e=1)(af:off+n<=count):liesAt P P.depth e count off u n=true:=by
 have au:sameLayout P P.depth e u=true:=by rw[za];simp[sameLayout,aa]
 have ai:rowAt P (sameLayout P P.depth · u) P.depth e count off n=true:=by
  rw[za]
  unfold rowAt
  simp only[hs,Nat.div_one,Nat.mod_one]
  rw[za] at au
  simp[af,au]
 have:∀d,rowAt P (sameLayout P P.depth · u) P.depth e count off n=true->liesAt P (d+1) e count off u n=true:=λd h=>by
  unfold liesAt;rw[h];rfl
 conv=>lhs;arg 2;rw[za]
 exact this _ ai
theorem On(ak:br μ H w){argTypes:Array TypeId}{ty pT:TypeId}(h0:argTypes[0]? =some pT){p n v:I}{Cb Cc:Value}(bl:bc μ p Cb)(aK:bc μ n Cc){aX:J}(h:pk P H pT p n=some (v,aX)):
  e7 P μ H w (Builtin.unsafeString_ argTypes ty #[Cb,Cc]) v aX:=by
 unfold pk at h
 have G7:∀m,fB n=some m->∃k,Cc=.int k (m:Int):=by
  intro m hm
  unfold fB at hm
  split at hm
  · cases hm;cases aK;exact⟨_,rfl⟩
  · cases hm
 split at h
 · rename_i a4
   cases h;cases bl
   obtain⟨k,rfl⟩:=G7 0 a4
   exact .same ak (v':=.string .empty) (G6 argTypes ty pT h0 k none) ⟨.empty,rfl,rfl⟩
 · rename_i b off m hm
   obtain⟨k,rfl⟩:=G7 m hm
   obtain⟨i,ae,rfl⟩:=bl
   split at h
   · rename_i a4
     cases h;subst a4
     exact .same ak (v':=.string .empty) (G6 argTypes ty pT h0 k _) ⟨.empty,rfl,rfl⟩
   · rename_i pz
     split at h
     · rename_i u cs el bS bf eH hu aj
       split at h
       · rename_i ah
         simp only[Bool.and_eq_true,decide_eq_true_eq,Nat.ble_eq] at ah
         obtain⟨⟨⟨c1,c2⟩,c3⟩,c4⟩:=ah
         split at h
         · rename_i r ai
           split at h
           · rename_i bs af
             cases h
             obtain⟨c,ft,fu,aA,aC,bN,eW⟩:=ak.rel _ _ i aj ae
             have Oo:=G5 (P:=P) ak ae aj m off r bs .empty ai af
             have hlen:off+m<=cs.length:=by
              rw[mW] at ai
              have:=(rY m _ _ ai).1
              rw[List.length_drop] at this
              omega
             have yV:0<m:=Nat.pos_of_ne_zero pz
             have dO:i.base+off+m<=c.size:=by
              obtain⟨x,ab⟩:∃x,cs[off+m-1]? =some x:=⟨_,List.getElem?_eq_getElem (by omega)⟩
              obtain⟨Oh,nD,_⟩:=aC _ x ab
              rcases Nat.lt_or_ge (i.base+(off+m-1)) c.size with h|h
              · omega
              · rw[Array.getElem?_eq_none h] at nD;cases nD
             have G8:P.cellsOf el=1:=by
              unfold dt at c2
              unfold Program.cellsOf
              cases eH:P.info? el with
              |none=>rw[eH] at c2;cases c2
              |some ii=>rw[eH] at c2;simpa using c2
             have B_:(variablesAt ⟨i.bj,i.base+off,none⟩ u m).run P w=.ok true w:=by
              have au:=Om (P:=P) (e:=el) (u:=u) (count:=c.size/P.cellsOf el) (off:=i.base+off) (n:=m) c1 G8 (by rw[G8];simpa using dO)
              simp[variablesAt,World.shape?,aA,au]
             have eX:=Ol (P:=P) (w:=w) argTypes ty pT h0 k m _ u hu pz c3 B_ Oo
             have Oq:∃cJ:Nat×Nat,w.freeze ⟨i.bj,i.base+off,none⟩ m={w with heap:=w.heap.modify i.bj λ
               |.cells c elem (bf,ae)=>.cells c elem (if bf==ae then(i.base+off,i.base+off+m) else(min bf (i.base+off),max ae (i.base+off+m)))
               |o=>o}/\(w.freeze ⟨i.bj,i.base+off,none⟩ m).heap[i.bj]? =some (.cells c el cJ):=by
              have:w.freeze ⟨i.bj,i.base+off,none⟩ m={w with heap:=w.heap.modify i.bj λ
               |.cells c elem (bf,ae)=>.cells c elem (if bf==ae then(i.base+off,i.base+off+m) else(min bf (i.base+off),max ae (i.base+off+m)))
               |o=>o}:=by simp[World.freeze,pz];rfl
              refine⟨if ft==fu then(i.base+off,i.base+off+m) else(min ft (i.base+off),max fu (i.base+off+m)),this,?_⟩
              rw[this]
              simp[Array.getElem?_modify,aA]
             obtain⟨⟨f1,f2⟩,aV,aN⟩:=Oq
             have ha:(cx.cells cs el bS bf eH).mV=false:=by cases bS<;>first|rfl|exact absurd rfl c4
             obtain⟨bb,a3⟩:=ak.update (w':=w.freeze ⟨i.bj,i.base+off,none⟩ m) (o':=.cells cs el .fz bf eH) aj ha ae (by rw[aV];simp) (λr ai=>by rw[aV];simp[Array.getElem?_modify];intro e;exact absurd e.symm ai) (by rw[aV]) (by rw[aV]) (by rw[aV])
              ⟨c,f1,f2,aN,aC,bN,trivial⟩ (hdr:=by rw[aV];exact Nat.le_refl _)
             exact⟨μ,_,.string _,eX,⟨_,rfl,by simp⟩,bb,a3⟩
           · cases h
         · cases h
       · cases h
     · cases h
 · cases h
theorem Ot{argTypes:Array TypeId}{ty:TypeId}{x:I}{bA:Value}(ab:bc μ x bA):
  (x=.a_->(Builtin.unsafeSliceData_ argTypes ty #[bA]).run P w=.ok (.pointer none) w)/\
  (∀b off n c,x=.slice b off n (.exact c)->c≠0->∃u,(Builtin.unsafeSliceData_ argTypes ty #[bA]).run P w=.ok u w/\bc μ (.ptr b off) u)/\
  (∀b off n e,x=.slice b off n (.aY e)->n≠0->∃u,(Builtin.unsafeSliceData_ argTypes ty #[bA]).run P w=.ok u w/\bc μ (.ptr b off) u):=by
 have key:∀(a:Addr) (n c:Nat),c≠0->(Builtin.unsafeSliceData_ argTypes ty #[.slice (some a) n c]).run P w=.ok (.pointer (some a)) w:=λa n c ah=>by
  obtain⟨k,rfl⟩:∃k,c=k+1:=⟨c-1,by omega⟩
  rfl
 refine⟨λh=>?_,λb off n c h ah=>?_,λb off n e h aK=>?_⟩
 · subst h;cases ab;rfl
 · subst h;obtain⟨i,ae,ox⟩:=ab;cases ox
   exact⟨_,key _ n c ah,i,ae,rfl⟩
 · subst h;obtain⟨i,ae,c,rfl,hle,_⟩:=ab
   exact⟨_,key _ n c (by omega),i,ae,rfl⟩
theorem G9{j9:Value}{first aM:List I}{g:Nat}{args:List I}{vs:List Value}(hf:bc μ (.fn g first aM) j9)(a2:cd μ args vs):
  ∃cu cs:List Value,(do let d<-Deferred.ofValue j9 ⟨vs⟩;invoke d.target d.args:Sem Next).run P w=(callFunc g ⟨cu++vs++cs⟩).run P w/\cd μ (first++args++aM) (cu++vs++cs)/\
   (Deferred.ofValue j9 ⟨vs⟩).run P w=.ok {target:=.fn (.func g) ⟨cs⟩,args:=⟨cu++vs⟩} w:=by
 obtain⟨cu,cs,rfl,aa,ad⟩:=hf
 refine⟨cu,cs,?_,(aa.append a2).append ad,?_⟩
 · simp[Deferred.ofValue,invoke]
 · simp[Deferred.ofValue]
theorem Ou{l:Nat}{j9:Value}{vs:List Value}(hf:bc μ (.cc l) j9):
  ∃i,μ l=some i/\(do let d<-Deferred.ofValue j9 ⟨vs⟩;invoke d.target d.args:Sem Next).run P w=(Instr.yield i.bj ⟨vs⟩).run P w:=by
 obtain⟨i,ae,rfl⟩:=hf
 exact⟨i,ae,by simp[Deferred.ofValue,invoke]⟩
theorem Ov{t:TypeId}{name:String}{f:Nat}(h:yJ P t name=some f)(v:Value)(n:Nat):(method (n+1) t v name).run P w=.ok (f,v) w:=by
 unfold yJ at h
 split at h
 · rename_i i ae
   split at h
   · rename_i m hm
     have hf:∀q,m.path.isEmpty=q->m.path.isEmpty=q:=λ_ h=>h
     split at h
     all_goals first
      |(cases h;done)
      |(rename_i bl m4 hu
        cases h
        have Ow:m.path.toList=[]:=by simpa using bl
        simp[method,run_typeInfo ae,hm,Ow,follow,m4,receiverAt,bW hu,Place.get]
        done)
   · cases h
 · cases h
end
end aD
namespace aD
open Go
def iQ(P:Program)(μ:bn)(H:J)(w:World)(s:Sem Next):fs->Prop
 |.val v aX=>∃aP w' u,(s.run P w=.ok (.value u) w'\/(u=undef/\s.run P w=.ok .skip w'))/\bc aP v u/\br aP aX w'/\cb μ H w aP aX w'
 |.b9 v aX=>aX=H/\∃u,s.run P w=.halt (.panic u) w/\bc μ v u
 |.call f args aX=>aX=H/\∃vs:List Value,s.run P w=(callFunc f ⟨vs⟩).run P w/\cd μ args vs
 |.cc l args aX=>aX=H/\∃i,∃vs:List Value,μ l=some i/\s.run P w=(Instr.yield i.bj ⟨vs⟩).run P w/\cd μ args vs
 |.jG d=>∃qM,s.run P w=.ok (.defer qM) w/\rW μ d qM
 |.rQ=>s.run P w=.ok .recover w
 |.fail _=>True
section
variable {P:Program} {μ:bn} {H:J} {w:World}
theorem iQ.iR{s:Sem Value}{v:I}{aX:J}(h:e7 P μ H w s v aX):iQ P μ H w (do pure (.value (<-s))) (.val v aX):=by
 obtain⟨aP,w',u,aa,ad,ax,aO⟩:=h
 exact⟨aP,w',u,.inl (by simp[aa]),ad,ax,aO⟩
theorem iQ.of_same(ak:br μ H w){s:Sem Value}{v:I}(h:∃u,s.run P w=.ok u w/\bc μ v u):iQ P μ H w (do pure (.value (<-s))) (.val v H):=by
 obtain⟨u,aa,ad⟩:=h
 exact⟨μ,w,u,.inl (by simp[aa]),ad,ak,cb.refl _ _ _⟩
theorem iQ.zb(ak:br μ H w){u:Value}{v:I}(h:bc μ v u){s:Sem Next}(hs:s.run P w=.ok (.value u) w):iQ P μ H w s (.val v H):=
 ⟨μ,w,u,.inl hs,h,ak,cb.refl _ _ _⟩
theorem iQ.Ox{s:Sem Unit}{aX:J}(h:∃w',s.run P w=.ok () w'/\br μ aX w'/\cb μ H w μ aX w'):iQ P μ H w (do s;pure .skip) (.val (.aW []) aX):=by
 obtain⟨w',aa,ax,aO⟩:=h
 exact⟨μ,w',undef,.inr ⟨rfl,by simp[aa]⟩,⟨[],rfl,rfl⟩,ax,aO⟩
theorem wq(ak:br μ H w){s:Sem Value}{o:Option I}{iy:String}(h:∀v,o=some v->∃u,s.run P w=.ok u w/\bc μ v u):iQ P μ H w (do pure (.value (<-s))) (fC H iy o):=by
 cases o with
 |none=>trivial
 |some v=>exact .of_same ak (h v rfl)
theorem qN{s:Sem Value}{o:Option I}{iy:String}(h:∀v,o=some v->e7 P μ H w s v H):iQ P μ H w (do pure (.value (<-s))) (fC H iy o):=by
 cases o with
 |none=>trivial
 |some v=>exact .iR (h v rfl)
theorem se{s:Sem Value}{o:Option (I×J)}{iy:String}(h:∀v aX,o=some (v,aX)->e7 P μ H w s v aX):iQ P μ H w (do pure (.value (<-s))) (kP iy o):=by
 cases o with
 |none=>trivial
 |some p=>exact .iR (h p.1 p.2 rfl)
theorem zc{s:Sem Unit}{o:Option J}{iy:String}(h:∀aX,o=some aX->∃w',s.run P w=.ok () w'/\br μ aX w'/\cb μ H w μ aX w'):iQ P μ H w (do s;pure .skip) (po iy o):=by
 cases o with
 |none=>trivial
 |some aX=>exact .Ox (h aX rfl)
theorem qO{a:I}{n:Nat}{v:Value}(h:fB a=some n)(aE:bc μ a v):∃k,v=.int k (n:Int):=by
 unfold fB at h
 split at h
 · cases h;cases aE;exact⟨_,rfl⟩
 · cases h
theorem G_(ak:br μ H w){f:I}{j9:Value}{args:List I}{vs:List Value}(hf:bc μ f j9)(a2:cd μ args vs):
  iQ P μ H w (do let d<-Deferred.ofValue j9 ⟨vs⟩;invoke d.target d.args) (rS f args H):=by
 unfold rS
 split
 · obtain⟨cu,cs,aa,ad,_⟩:=G9 (P:=P) (w:=w) hf a2
   exact⟨rfl,_,aa,ad⟩
 · obtain⟨i,aa,ad⟩:=Ou (P:=P) (w:=w) (vs:=vs) hf
   exact⟨rfl,i,vs,aa,ad,a2⟩
 · trivial
theorem Oy(ak:br μ H w){b:Builtin}{ats:Array TypeId}{ty:TypeId}{consts:Array Bool}{vs:List I}{us:List Value}(aE:cd μ vs us):
  iQ P μ H w (builtin b ats ty consts ⟨us⟩) (hZ P b ats vs H):=by
 unfold hZ
 split
 · rfl
 · cases vs with
   |nil=>trivial
   |cons x l=>
    obtain⟨bA,dv,rfl,aa,ad⟩:=aE
    refine wq ak λv h=>?_
    obtain⟨u,aV,aN⟩:=BX (P:=P) (w:=w) kt Builtin.min2 (λ_ _ _ _ _ h ab bg=>NB h ab bg) l x bA dv v aa ad h
    exact⟨u,by simpa[Builtin.min_] using aV,aN⟩
 · cases vs with
   |nil=>trivial
   |cons x l=>
    obtain⟨bA,dv,rfl,aa,ad⟩:=aE
    refine wq ak λv h=>?_
    obtain⟨u,aV,aN⟩:=BX (P:=P) (w:=w) vC Builtin.max2 (λ_ _ _ _ _ h ab bg=>NC h ab bg) l x bA dv v aa ad h
    exact⟨u,by simpa[Builtin.max_] using aV,aN⟩
 · split
   · rename_i t x h0
     obtain⟨bA,dv,rfl,aa,ad⟩:=aE
     cases ad
     split
     · exact qN λv h=>Nz ak h0 aa h
     · exact qN λv h=>NA ak h0 aa h
     · exact se λv aX h=>Nx ak h0 aa h
     · obtain⟨s1,s2,bE⟩:=Ot (P:=P) (w:=w) (argTypes:=ats) (ty:=ty) aa
       split
       · exact .of_same ak ⟨_,s1 rfl,rfl⟩
       · split
         · trivial
         · rename_i ah;exact .of_same ak (s2 _ _ _ _ rfl ah)
       · split
         · trivial
         · rename_i ah;exact .of_same ak (bE _ _ _ _ rfl ah)
       · trivial
     · trivial
   · rename_i t x y h0
     obtain⟨bA,dv,rfl,aa,gg,r4,rfl,ad,ax⟩:=aE
     cases ax
     split
     · exact se λv aX h=>Nq ak h0 aa ad h
     · exact se λv aX h=>Nw ak h0 aa ad h
     · exact se λv aX h=>NT ak h0 aa ad h
     · exact se λv aX h=>On ak h0 aa ad h
     · trivial
   · trivial
theorem Oz(ak:br μ H w){src dst:TypeId}{x:I}{bA:Value}(ab:bc μ x bA):
  iQ P μ H w (do pure (.value (<-convert src dst bA))) (eR P src dst x H):=by
 unfold eR
 split
 · rename_i h3 k b4 n hs aG
   cases ab
   exact .of_same ak ⟨.int k (k.wrap n),by simp[convert,bW hs,bW aG,Conv.intToInt],rfl⟩
 · rename_i h3 b4 n hs aG
   cases ab
   exact .of_same ak ⟨.string (Utf8.encode n),by simp[convert,bW hs,bW aG,Conv.intToString],_,rfl,rfl⟩
 · rename_i s hs aG
   obtain⟨t,rfl,rfl⟩:=ab
   exact .of_same ak ⟨.string t,by simp[convert,bW hs,bW aG],_,rfl,rfl⟩
 · rename_i e s hs aG
   obtain⟨t,rfl,rfl⟩:=ab
   split
   · rename_i he
     refine .iR ?_
     have ct:=NF (P:=P) ak (e:=e) (bs:=t)
     obtain⟨aP,w',u,aa,ad,ax,aO⟩:=ct
     exact⟨aP,w',u,by simp[convert,bW hs,bW aG,bW he,aa],ad,ax,aO⟩
   · trivial
 · rename_i e hs aG
   have key:P.underlying e=some (.int .u8)->∀a n c,(convert src dst (.slice a n c)).run P w=(Conv.bytesToString (.slice a n c)).run P w:=by
    intro he a n c
    simp[convert,bW hs,bW aG,bW he]
   split
   · rename_i he
     cases ab
     refine .of_same ak ⟨.string .empty,?_,.empty,rfl,rfl⟩
     rw[key he];rfl
   · rename_i b off n he
     split
     · rename_i aK
       subst aK
       obtain⟨i,_,_,a,c,rfl⟩:=ab
       refine .of_same ak ⟨.string .empty,?_,.empty,rfl,rfl⟩
       rw[key he];rfl
     · trivial
   · rename_i b off n c BW he
     split
     · rename_i cs au
       split
       · rename_i bs af
         obtain⟨aP,w',u,aa,ad,ax,aO⟩:=ND (P:=P) ak (by intro e;subst e;exact BW rfl) ab au af
         refine .iR ⟨aP,w',u,?_,ad,ax,aO⟩
         have kT:∃a m k,bA=.slice a m k:=by
          obtain⟨i,_,ah⟩:=ab
          cases c with
          |exact c=>cases ah;exact⟨_,_,_,rfl⟩
          |aY gn=>obtain⟨c,rfl,_⟩:=ah;exact⟨_,_,_,rfl⟩
          |dead=>obtain⟨_,a,c,rfl⟩:=ah;exact⟨_,_,_,rfl⟩
         obtain⟨a,m,k,rfl⟩:=kT
         rw[key he];exact aa
       · trivial
     · trivial
   · trivial
 · rename_i u b off hs aG
   split
   · rename_i cs el k bf ae n aj a4
     split
     · rename_i cy
       exact .of_same ak ⟨bA,Og ak hs aG a4 aj (by simpa using cy) ab,ab⟩
     · trivial
   · trivial
 · rename_i u b off hs aG
   split
   · rename_i cs el bf ae n aj a4
     split
     · rename_i ah
       exact .of_same ak ⟨bA,Oi ak hs aG a4 aj ah ab,ab⟩
     · trivial
   · trivial
 · trivial
end
end aD
namespace aD
open Go
section
variable {P:Program} {μ:bn} {H:J} {w:World}
theorem Ha(ak:br μ H w){c a b:Operand}{g:Operand->I}{cp:Operand->Value}(aj:∀x,bc μ (g x) (cp x)){da:Bool}(ah:g c=.bool da):
  iQ P μ H w (do pure (.value (if<-asBool (cp c) then cp a else cp b))) (.val (if da then g a else g b) H):=by
 have aa:=aj c
 rw[ah] at aa
 refine .zb ak (u:=if da then cp a else cp b) ?_ ?_
 · cases da
   · exact aj b
   · exact aj a
 · have:cp c=.bool da:=aa
   simp[this,asBool]
theorem zd{g:Operand->I}{cp:Operand->Value}(aj:∀x,bc μ (g x) (cp x))(args:Array Operand):cd μ (args.toList.map g) (args.map cp).toList:=by
 rw[Array.toList_map];exact cd.map g cp aj _
theorem OA(ak:br μ H w){g:Operand->I}{cp:Operand->Value}(aj:∀x,bc μ (g x) (cp x))(o:Oper)(x:Operand)(bd:o.op=.nilCheck x):iQ P μ H w (execOp cp o) (match g x with
  |.ptr b o=>.val (.ptr b o) H
  |.slice b o n c=>.val (.slice b o n c) H
  |.fn f a b=>.val (.fn f a b) H
  |.iface t v=>.val (.iface t v) H
  |_=>.fail "nilCheck"):=by
 have aa:=aj x
 have e:∀(v:I),g x=v->((∃b o,v=.ptr b o)\/(∃b o n c,v=.slice b o n c)\/(∃f a b,v=.fn f a b)\/∃t y,v=.iface t y)->iQ P μ H w (execOp cp o) (.val v H):=by
  intro v aE hs
  have ad:=aa
  rw[aE] at ad
  exact .zb ak ad (MN ad hs o x cp rfl bd)
 split
 · rename_i b o ab;exact e _ ab (.inl ⟨_,_,rfl⟩)
 · rename_i b o n c ab;exact e _ ab (.inr (.inl ⟨_,_,_,_,rfl⟩))
 · rename_i f a b ab;exact e _ ab (.inr (.inr (.inl ⟨_,_,_,rfl⟩)))
 · rename_i t v ab;exact e _ ab (.inr (.inr (.inr ⟨_,_,rfl⟩)))
 · trivial
theorem OB(ak:br μ H w){g:Operand->I}{cp:Operand->Value}(aj:∀x,bc μ (g x) (cp x))(c:Call)(type:TypeId):iQ P μ H w (do let d<-resolve cp c type;invoke d.target d.args) (match c.callee with
  |.value f=>rS (g f) (c.args.toList.map g) H
  |.invoke r name=>match g r with
   |.iface t v=>match yJ P t name with
    |some f=>.call f (v::c.args.toList.map g) H
    |none=>.fail ("invoke " ++name)
   |_=>.fail ("invoke " ++name)
  |.builtin b=>hZ P b c.argTypes (c.args.toList.map g) H):=by
 have a2:=zd (μ:=μ) aj c.args
 cases ah:c.callee with
 |value f=>
  simp only[resolve,ah]
  exact G_ ak (aj f) a2
 |invoke r name=>
  simp only[]
  split
  · rename_i t v ai
    split
    · rename_i f hm
      have aa:=aj r
      rw[ai] at aa
      obtain⟨y,bg,aE⟩:=aa
      refine⟨rfl,y::(c.args.map cp).toList,?_,⟨_,_,rfl,aE,a2⟩⟩
      have ZU:0<Made.depth:=by decide
      obtain⟨n,aK⟩:∃n,P.types.size+Made.depth=n+1:=⟨P.types.size+Made.depth-1,by omega⟩
      have OC:=Ov (P:=P) (w:=w) hm y n
      have h0:(#[cp r]++c.args.map cp)[0]? =some (cp r):=by rw[Array.getElem?_append_left (by simp)];rfl
      have ad:(#[cp r]++c.args.map cp).extract 1 (#[cp r]++c.args.map cp).size=c.args.map cp:=by
       apply Array.ext'
       simp only[Array.toList_extract,Array.toList_append,Array.toList_map,List.cons_append,List.nil_append,List.extract_eq_take_drop]
       rw[List.take_of_length_le]
       · rfl
       · simp
      have ax:(#[y]++c.args.map cp:Array Value)=⟨y::(c.args.map cp).toList⟩:=by apply Array.ext';simp
      rw[bg] at h0 ad
      simp only[resolve,ah,Sem.run_bind,Sem.run_pure,Result.andThen_ok,invoke,bg,h0,ad,callMethod,run_program,aK,OC,ax]
    · trivial
  · trivial
 |builtin b=>
  have af:=Oy (P:=P) (b:=b) (ats:=c.argTypes) (ty:=type) (consts:=c.args.map λ|.const _=>true|_=>false) ak a2
  have he:(do let d<-resolve cp c type;invoke d.target d.args:Sem Next)=builtin b c.argTypes type (c.args.map λ|.const _=>true|_=>false) (c.args.map cp):=by
   simp only[resolve,ah];rfl
  rw[he];exact af
set_option maxHeartbeats 4000000 in
theorem OD(ak:br μ H w)(o:Oper){g:Operand->I}{cp:Operand->Value}(aj:∀x,bc μ (g x) (cp x)):iQ P μ H w (execOp cp o) (cM P o g H):=by
 obtain⟨dst,op,type,pos,after,guard⟩:=o
 cases op<;>simp only[cM,execOp]
 case move x=>exact .zb ak (aj x) rfl
 case assign x=>exact .zb ak (aj x) rfl
 case pick c a b=>
  split
  · rename_i ah;exact Ha ak aj ah
  · rename_i ah;exact Ha ak aj ah
  · trivial
 case alloc e=>
  split
  · rename_i z a4
    split
    · rename_i b al ai;exact .iR (MA ak a4 ai)
    · trivial
  · trivial
 case box e x=>
  split
  · rename_i b al ai;exact .iR (MB ak (aj x) ai)
  · trivial
 case build t parts=>
  split
  · rename_i z a4
    split
    · rename_i cu hu
      split
      · rename_i cs fQ hf;exact .iR (MI ak g cp aj a4 hu fQ parts hf)
      · trivial
    · rename_i n e hu
      split
      · rename_i sz hs
        split
        · rename_i cs hf;exact .iR (MK ak g cp aj a4 hu hs parts hf)
        · trivial
      · trivial
    · trivial
  · trivial
 case buildSlice t len parts=>
  split
  · rename_i e hu
    split
    · rename_i sz z hs a4
      split
      · rename_i cs ah hf
        rw[Bool.and_eq_true,Nat.ble_eq,Nat.beq_eq] at ah
        split
        · rename_i b al ai;exact .iR (ML ak g cp aj hu hs a4 ah.1 ah.2 parts hf ai)
        · trivial
      · trivial
    · trivial
  · trivial
 case insert t m k v=>exact zc λaX h=>GL ak (aj m) (aj k) (aj v) h
 case load t a=>
  split
  · rename_i b off a2
    have aa:=aj a
    rw[a2] at aa
    obtain⟨bp,bB⟩:=MC (P:=P) ak (t:=t) aa
    split
    · rename_i n Cd aK
      split
      · rename_i cs au;exact .iR (bp n cs Cd aK au)
      · trivial
    · rename_i Cd
      exact qN λv h=>bB v Cd h
    · trivial
  · trivial
 case store t a v=>
  split
  · rename_i b off a2
    have aa:=aj a
    rw[a2] at aa
    split
    · trivial
    · rename_i n aK OE
      split
      · rename_i au
        exact zc λaX h=>MD ak aa (aj v) OE aK (by simpa using au) h
      · trivial
    · trivial
  · trivial
 case ready=>trivial
 case waits=>trivial
 case nilCheck x=>exact OA ak aj ⟨dst,.nilCheck x,type,pos,after,guard⟩ x rfl
 case binOp op t x y yt=>exact wq ak λv h=>Od ak (yt:=yt) (aj x) (aj y) h
 case unOp op t x=>
  have aa:=aj x
  split
  · rename_i b ab;rw[ab] at aa;exact .of_same ak (N_ aa)
  · rename_i k n ab;rw[ab] at aa;exact .of_same ak (Oa aa)
  · rename_i k n ab;rw[ab] at aa;exact wq ak λv h=>Ob aa h
  · trivial
 case convert src ZV x=>exact Oz ak (aj x)
 case sliceToArrayPointer=>trivial
 case makeInterface t x=>
  split
  · trivial
  · rename_i d dY hu
    refine .of_same ak ⟨.iface t (cp x),Oe hu (λm e=>dY m (e▸rfl)) (aj x),_,rfl,aj x⟩
  · trivial
 case makeFunc fn first aM=>
  split
  · rename_i f
    exact .of_same ak ⟨.func (.func f) (first.map cp) (aM.map cp),rfl,_,_,rfl,zd aj first,zd aj aM⟩
  · trivial
 case makeMap t r=>
  cases r with
  |none=>exact .iR (NU ak)
  |some x=>
   simp only[]
   split
   · rename_i de hX k n hu ab
     have aa:=aj x
     rw[ab] at aa
     have ad:cp x=.int k n:=aa
     rw[Option.map_some,ad]
     exact .iR (NV ak hu)
   · trivial
 case makeChan=>trivial
 case makeSlice t l c=>
  split
  · rename_i e oH c' hu au ah
    obtain⟨kl,el⟩:=qO au (aj l)
    obtain⟨kc,wu⟩:=qO ah (aj c)
    split
    · rename_i i z ae a4
      split
      · rename_i j8
        rw[Bool.and_eq_true,Bool.and_eq_true,Nat.ble_eq,Nat.beq_eq,decide_eq_true_eq] at j8
        split
        · rename_i b al ai
          rw[el,wu]
          exact .iR (MM ak hu ae a4 j8.1.1 j8.1.2 j8.2 ai)
        · trivial
      · trivial
    · trivial
  · trivial
 case slice t x bf ae mx=>
  exact qN λv h=>MX ak (aj x) (mZ.map g cp aj bf) (mZ.map g cp aj ae) (mZ.map g cp aj mx) h
 case fieldAddr s x f=>
  split
  · rename_i cu b off hu ab
    have aa:=aj x
    rw[ab] at aa
    split
    · rename_i fd hf
      split
      · trivial
      · rename_i n v9 aK
        exact .iR (M0 ak hu hf aK (λe=>v9 e) aa)
      · trivial
    · trivial
  · trivial
 case field t x f=>
  split
  · rename_i cu cs hu ab
    have aa:=aj x
    rw[ab] at aa
    split
    · rename_i fd hf
      exact qN λv h=>MZ ak hu hf aa h
    · trivial
  · trivial
 case indexAddr t x i=>
  split
  · rename_i n e b off k hu ab ae
    have aa:=aj x
    rw[ab] at aa
    obtain⟨bS,me⟩:=qO ae (aj i)
    split
    · rename_i sz hs
      split
      · rename_i aw;rw[me];exact .iR (M3 ak hu hs aa aw)
      · trivial
    · trivial
  · rename_i e b off n c k hu ab ae
    have aa:=aj x
    rw[ab] at aa
    obtain⟨bS,me⟩:=qO ae (aj i)
    split
    · rename_i sz hs
      split
      · rename_i aw;rw[me];exact .iR (M1 ak hu hs aa aw)
      · trivial
    · trivial
  · trivial
 case index t x i=>
  split
  · rename_i n e cs k hu ab ae
    have aa:=aj x
    rw[ab] at aa
    obtain⟨bS,me⟩:=qO ae (aj i)
    split
    · rename_i sz hs
      split
      · rename_i aw;rw[me];exact qN λv h=>M4 ak hu hs aa aw h
      · trivial
    · trivial
  · rename_i s k hu ab ae
    have aa:=aj x
    rw[ab] at aa
    obtain⟨bS,me⟩:=qO ae (aj i)
    split
    · rename_i c ah;rw[me];exact .iR (M5 ak hu aa ah)
    · trivial
  · trivial
 case lookup t x i ok=>exact qN λv h=>NP ak (aj x) (aj i) h
 case mapUpdate t m k v=>exact zc λaX h=>GL ak (aj m) (aj k) (aj v) h
 case mapEntry t m k=>exact se λv aX h=>NR ak (aj m) (aj k) h
 case entryStore t m s v=>exact zc λaX h=>NS ak (aj m) (aj s) (aj v) h
 case range t x=>
  split
  · rename_i s hu ab
    have aa:=aj x
    rw[ab] at aa
    exact .iR (NW ak hu aa)
  · rename_i de hX hu ab
    have aa:=aj x
    rw[ab] at aa
    exact .iR (NX ak hu aa)
  · rename_i de hX m hu ab
    have aa:=aj x
    rw[ab] at aa
    split
    · rename_i es c B6
      obtain⟨i,ae,aE⟩:=aa
      obtain⟨ents,aA,aC⟩:=ak.rel _ _ i B6 ae
      obtain⟨bb,a3⟩:=ak.alloc (.mapIter (some m) c [] c) (.mapIter (some i.bj) c #[] c) 0 ⟨rfl,i,ak.nB _ _ _ ae,World.heap_alloc_new _ _⟩
      refine .iR ⟨_,_,.pointer (some ⟨w.heap.size,0,none⟩),?_,⟨_,gf _ _ _,rfl⟩,bb,a3⟩
      have g5:(getObj i.bj).run P w=.ok (.map ⟨ents⟩ c) w:=by simp[getObj,Sem.run,aA]
      rw[aE]
      simp only[Instr.range,Sem.run_bind,bW hu,Result.andThen_ok,g5,Sem.run_pure,run_newObj]
      rfl
    · trivial
  · trivial
 case next it isStr=>exact se λv aX h=>N0 ak (aj it) h
 case entry it=>exact qN λv h=>N4 ak (aj it) h
 case typeAssert x xT as ok=>
  have aa:=aj x
  split
  · trivial
  · rename_i d dY hu ab
    obtain⟨t1,_,_⟩:=G2 (P:=P) (w:=w) (xT:=xT) (ok:=ok) hu (λm e=>dY m (e▸rfl)) aa
    split
    · rename_i dw
      split
      · rename_i z a4;exact .of_same ak (t1 z ab dw a4)
      · trivial
    · trivial
  · rename_i d t v dY hu ab
    obtain⟨_,t2,t3⟩:=G2 (P:=P) (w:=w) (xT:=xT) (ok:=ok) hu (λm e=>dY m (e▸rfl)) aa
    split
    · rename_i he;subst he;exact .of_same ak (t2 v ab)
    · rename_i dC
      split
      · rename_i dw
        split
        · rename_i z a4;exact .of_same ak (t3 t v z ab dC dw a4)
        · trivial
      · trivial
  · trivial
 case extract t i=>
  have aa:=aj t
  split
  · rename_i vs ab
    rw[ab] at aa
    exact wq ak λv h=>Of aa h
  · trivial
 case call c=>exact OB ak aj c type
 case go=>trivial
 case defer c=>
  split
  · rename_i f hf
    split
    · rename_i k first aM ab
      have aa:=aj f
      rw[ab] at aa
      obtain⟨cu,cs,_,ax,aO⟩:=G9 (P:=P) (w:=w) aa (zd aj c.args)
      refine⟨_,?_,.call k _ cs _ ax⟩
      simp only[resolve,hf,Sem.run_bind]
      have qP:(Deferred.ofValue (cp f) (c.args.map cp)).run P w=.ok {target:=.fn (.func k) ⟨cs⟩,args:=⟨cu++(c.args.map cp).toList⟩} w:=aO
      rw[qP];rfl
    · trivial
  · trivial
 case panic x=>
  have aa:=aj x
  split
  · rename_i t v ab
    rw[ab] at aa
    obtain⟨y,bg,aE⟩:=aa
    refine⟨rfl,.iface t y,?_,⟨y,rfl,aE⟩⟩
    rw[bg];rfl
  · trivial
 all_goals trivial
end
end aD
namespace aD
open Go
section
variable {P:Program} {μ:bn} {w:World}
def qQ(P:Program)(μ:bn)(w:World)(s:Sem Value)(e:TypeId)(cs:List I)(val:Addr->Value):Prop:=
 ∃us:List Value,cd μ cs us/\s.run P w=.ok (val ⟨w.heap.size,0,none⟩) (w.alloc (.cells ⟨us⟩ e))
theorem Hb(el:TypeId)(us:List Value):(_root_.Go.newRow el ⟨us⟩).run P w=.ok ⟨w.heap.size,0,none⟩ (w.alloc (.cells ⟨us⟩ el)):=by simp[_root_.Go.newRow]
theorem OF{e:TypeId}{z:I}(a4:ew P e=some z):qQ P μ w (Instr.alloc e true (.tuple #[])) e z.cells (λa=>.pointer (some a)):=by
 obtain⟨v,aE,rfl,af⟩:=lv (w:=w) a4
 refine⟨v.cells.toList,(jN μ v).cells af,?_⟩
 simp[Instr.alloc,aE,newVar,_root_.Go.newRow]
theorem OG{e:TypeId}{x:I}{v:Value}(aE:bc μ x v)(af:x≠ .bad):qQ P μ w (Instr.box e v) e x.cells (λa=>.pointer (some a)):=by
 refine⟨v.cells.toList,aE.cells af,?_⟩
 simp[Instr.box,newVar,_root_.Go.newRow]
theorem OH(g:Operand->I)(cp:Operand->Value)(aj:∀x,bc μ (g x) (cp x)){t e:TypeId}{len sz:Nat}{z:I}(hu:P.underlying t=some (.slice e))(hs:dt P e=some sz)
  (a4:ew P e=some z)(hle:len*sz<=16777216)(mY:z.cells.length=sz)(parts:Array (Nat×Operand)){cs:List I}
  (hf:jg (λi=>some (i*sz,sz)) (if len*sz=0 then[] else eT len z.cells) (parts.toList.map λp=>(p.1,g p.2))=some cs):
  qQ P μ w (Instr.buildSlice t len (parts.map λ(i,x)=>(i,cp x))) e cs (λa=>.slice (some a) len len):=by
 obtain⟨v,aE,rfl,af⟩:=lv (w:=w) a4
 have ah:=(jN μ v).cells af
 have nE:¬(len*sz>2^24):=by omega
 have key:∀zero:Array Value,cd μ (if len*sz=0 then[] else eT len (nw v).cells) ((Array.range (len*sz)).map (λi=>zero[i %zero.size]!)).toList->
   (∀r:Result Value,r=(match Instr.fill (λi=>some (i*sz,sz)) ((Array.range (len*sz)).map (λi=>zero[i %zero.size]!)) (parts.toList.map λp=>(p.1,cp p.2)) with
    |some cells=>do pure (.slice (some (<-_root_.Go.newRow e cells)) len len)
    |none=>stuck "buildSlice: a part of the wrong size" :Sem Value).run P w->(Instr.buildSlice t len (parts.map λ(i,x)=>(i,cp x))).run P w=r)->
   qQ P μ w (Instr.buildSlice t len (parts.map λ(i,x)=>(i,cp x))) e cs (λa=>.slice (some a) len len):=by
  intro zero l9 eX
  obtain⟨c',aa,ad⟩:=vV _ g cp aj parts.toList _ cs _ l9 hf
  refine⟨c',ad,eX _ ?_⟩
  rw[aa]
  simp[Hb]
 by_cases h0:len*sz=0
 · refine key #[] (by rw[if_pos h0,h0];simp[cd]) λr ai=>?_
   rw[ai]
   simp only[Instr.buildSlice,Sem.run_bind,bW hu,Result.andThen_ok,run_sizeOf hs,if_neg nE,if_pos h0,Sem.run_pure,Array.toList_map]
   generalize Instr.fill _ _ _=F
   cases F<;>rfl
 · refine key v.cells (by rw[if_neg h0];exact vY ah mY len) λr ai=>?_
   rw[ai]
   simp only[Instr.buildSlice,Sem.run_bind,bW hu,Result.andThen_ok,run_sizeOf hs,if_neg nE,if_neg h0,Sem.run_pure,Array.toList_map,aE]
   generalize Instr.fill _ _ _=F
   cases F<;>rfl
theorem OI{t e:TypeId}{l c:Nat}{i:TypeInfo}{z:I}{kl kc:IntKind}(hu:P.underlying t=some (.slice e))(ae:P.info? e=some i)(a4:ew P e=some z)(qC:l<=c)
  (tW:c*(i.bytes+1)<=1099511627776)(mY:z.cells.length=i.size):
  qQ P μ w (Instr.makeSlice t (.int kl l) (.int kc c)) e (if c*i.size=0 then[] else eT c z.cells) (λa=>.slice (some a) l c):=by
 obtain⟨v,aE,rfl,af⟩:=lv (w:=w) a4
 have ah:=(jN μ v).cells af
 have BI:c<=1099511627776:=Nat.le_trans (Nat.le_mul_of_pos_right c (by omega)) tW
 have oB:i.bytes*c<=1099511627776:=by
  have:c*i.bytes<=c*(i.bytes+1):=Nat.mul_le_mul_left c (by omega)
  rw[Nat.mul_comm];omega
 have vZ:∀n:Nat,n<=1099511627776->IntKind.wrap .i64 (n:Int)=(n:Int):=λn aK=>rZ n (by omega)
 have ie:=vZ l (by omega)
 have v3:=vZ c BI
 have r0:¬((c:Int)<0||(i.bytes:Int)*(c:Int)>2^48||(l:Int)<0||(l:Int)>(c:Int))=true:=by
  have aa:((i.bytes:Int)*(c:Int))<=1099511627776:=by
   have h0:((i.bytes*c:Nat):Int)<=1099511627776:=by omega
   rw[Int.natCast_mul] at h0;exact h0
  have ad:(2:Int)^48=281474976710656:=by rfl
  generalize (i.bytes:Int)*(c:Int)=q at aa⊢
  rw[ad]
  simp only[Bool.or_eq_true,decide_eq_true_eq]
  omega
 have key:∀zero:Array Value,cd μ (if c*i.size=0 then[] else eT c (nw v).cells) ((Array.range (c*i.size)).map (λj=>zero[j %zero.size]!)).toList->
   (Instr.makeSlice t (.int kl l) (.int kc c)).run P w=(do let a<-_root_.Go.newRow e ((Array.range (c*i.size)).map (λj=>zero[j %zero.size]!));pure (.slice (some a) l c):Sem Value).run P w->
   qQ P μ w (Instr.makeSlice t (.int kl l) (.int kc c)) e (if c*i.size=0 then[] else eT c (nw v).cells) (λa=>.slice (some a) l c):=by
  intro zero l9 eX
  refine⟨_,l9,?_⟩
  rw[eX]
  simp only[Sem.run_bind,Sem.run_pure]
  have aQ:=Hb (P:=P) (w:=w) e ((Array.range (c*i.size)).map (λj=>zero[j %zero.size]!)).toList
  have:(⟨((Array.range (c*i.size)).map (λj=>zero[j %zero.size]!)).toList⟩:Array Value)=((Array.range (c*i.size)).map (λj=>zero[j %zero.size]!)):=rfl
  rw[this] at aQ
  rw[aQ];rfl
 have bL:(_root_.Go.sizeOf e).run P w=.ok i.size w:=by simp[_root_.Go.sizeOf,run_typeInfo ae]
 by_cases h0:c*i.size=0
 · refine key #[] (by rw[if_pos h0,h0];simp[cd]) ?_
   simp only[Instr.makeSlice,Sem.run_bind,bW hu,Result.andThen_ok,asInt,asIntOf,Sem.run_pure,run_typeInfo ae,ie,v3]
   rw[if_neg r0]
   simp[bL,h0]
 · refine key v.cells (by rw[if_neg h0];exact vY ah mY c) ?_
   simp only[Instr.makeSlice,Sem.run_bind,bW hu,Result.andThen_ok,asInt,asIntOf,Sem.run_pure,run_typeInfo ae,ie,v3]
   rw[if_neg r0]
   simp[bL,h0,aE]
structure Laid(P:Program)(μ:bn)(w:World)(s:Sem Next)(b:Nat)(v:I)(ob:cx)(u:Value)(X:Obj)(sz:Nat):Prop where
 run:s.run P w=.ok (.value u) (w.alloc X)
 val:∀aP,eV μ aP->aP b=some ⟨w.heap.size,0,sz⟩->bc aP v u
 obj:∀aP w',eV μ aP->w'.heap[w.heap.size]? =some X->mU aP ob ⟨w.heap.size,0,sz⟩ w'
 ro:ob.mV=false
theorem qQ.laid{s:Sem Value}{e:TypeId}{cs:List I}{val:Addr->Value}(h:qQ P μ w s e cs val){b:Nat}{v:I}(aE:∀aP sz,aP b=some ⟨w.heap.size,0,sz⟩->bc aP v (val ⟨w.heap.size,0,none⟩)):
  ∃u X sz,Laid P μ w (do pure (.value (<-s))) b v (.cells cs e .own 0 0) u X sz:=by
 obtain⟨us,aa,ad⟩:=h
 refine⟨_,.cells ⟨us⟩ e,us.length,by simp[ad],λaP _ hm=>aE aP _ hm,λaP w' hle bt=>?_,rfl⟩
 exact⟨⟨us⟩,0,0,bt,λj v aL=>by
  obtain⟨u,hu,ai⟩:=aa.get aL
  exact⟨u,by simpa using hu,ai.mono hle⟩,by simp,rfl,aa.length.symm,rfl,rfl⟩
theorem OJ(o:Oper){g:Operand->I}{cp:Operand->Value}(aj:∀x,bc μ (g x) (cp x)){b:Nat}{v:I}{ob:cx}(h:jL P o.op g b=some (v,ob)):
  ∃u X sz,Laid P μ w (execOp cp o) b v ob u X sz:=by
 obtain⟨dst,op,type,pos,after,guard⟩:=o
 cases op<;>simp only[jL] at h<;>try (cases h;done)
 case alloc e=>
  split at h
  · rename_i z a4
    split at h
    · cases h
      exact(OF a4).laid λaP sz hm=>⟨_,hm,rfl⟩
    · cases h
  · cases h
 case box e x=>
  split at h
  · rename_i fQ
    cases h
    have af:g x≠ .bad:=by intro e;rw[e] at fQ;simp[I.cells,I.bY] at fQ
    exact(OG (aj x) af).laid λaP sz hm=>⟨_,hm,rfl⟩
  · cases h
 case buildSlice t len parts=>
  split at h
  · rename_i e hu
    split at h
    · rename_i sz z hs a4
      split at h
      · rename_i cs ah hf
        rw[Bool.and_eq_true,Nat.ble_eq,Nat.beq_eq] at ah
        split at h
        · cases h
          exact(OH g cp aj hu hs a4 ah.1 ah.2 parts hf).laid λaP sz hm=>⟨_,hm,rfl⟩
        · cases h
      · cases h
    · cases h
  · cases h
 case makeMap t r=>
  cases r with
  |some x=>cases h
  |none=>
   cases h
   exact⟨.map (some w.heap.size),.map #[] 0,0,rfl,λaP _ hm=>⟨_,hm,rfl⟩,λaP w' _ bt=>⟨[],bt,rfl⟩,rfl⟩
 case makeSlice t l c=>
  split at h
  · rename_i e oH c' hu au ah
    obtain⟨kl,el⟩:=qO au (aj l)
    obtain⟨kc,wu⟩:=qO ah (aj c)
    split at h
    · rename_i i z ae a4
      split at h
      · rename_i cs j8
        split at h
        · cases h
          rw[Bool.and_eq_true,Bool.and_eq_true,Nat.ble_eq,Nat.beq_eq,decide_eq_true_eq] at j8
          have:=(OI (P:=P) (μ:=μ) (w:=w) (kl:=kl) (kc:=kc) hu ae a4 j8.1.1 j8.1.2 j8.2).laid (b:=b) (v:=.slice b 0 oH (.exact c')) λaP sz hm=>⟨_,hm,rfl⟩
          simp only[execOp,el,wu]
          exact this
        · cases h
      · cases h
    · cases h
  · cases h
end
end aD
namespace aD
open Go
def hz(P:Program)(μ:bn):Prop:=∀g,g<P.globals.size->∃i,μ g=some i/\i.bj=g/\i.base=0
theorem hz.mono{P:Program}{μ aP:bn}(h:hz P μ)(hle:eV μ aP):hz P aP:=λg aj=>let⟨i,aa,ad⟩:=h g aj;⟨i,hle _ _ aa,ad⟩
def Ends(μ:bn)(H:J)(w:World):an->Ending->World->Prop
 |.ret v aX,e,w'=>∃aP u,e=.returned u/\bc aP v u/\br aP aX w'/\cb μ H w aP aX w'
 |.b9 v aX,e,w'=>∃aP u,e=.panicked [{v:=u,recovered:=false}]/\bc aP v u/\br aP aX w'/\cb μ H w aP aX w'
 |.fail _,_,_=>True
def an.kY:an->Bool
 |.fail _=>false
 |_=>true
def ub(P:Program)(f:FuncId)(vs:List Value)(w:World)(R:Ending->World->Prop):Prop:=
 (∃v w',(callFunc f ⟨vs⟩).run P w=.ok (.value v) w'/\R (.returned v) w')\/
 ((callFunc f ⟨vs⟩).run P w=.ok (.enter f ⟨vs⟩) w/\Calls P f ⟨vs⟩ w R)
def qR(P:Program)(m:Machine)(c:Frame)(cs:List Frame)(R:Ending->World->Prop):Prop:=
 ∃e w',R e w'/\match e with
  |.returned v=>Steps P m (lone (c.finish v) cs w')
  |.panicked chain=>Steps P m (lone (c.raise chain) cs w')
  |.outgrown=>False
def Hc(P:Program)(l:Nat)(vs:List Value)(w:World)(R:Ending->World->Prop):Prop:=
 ∃f tmps assign body,(Instr.yield l ⟨vs⟩).run P w=.ok (.round l f tmps assign body) w/\∀c cs,qR P (lone (Frame.round l f tmps assign body .normal) (c::cs) w) c cs R
structure lC(P:Program)(call:ay->List I->J->an):Prop where
 fn:∀f args H,(call (.fn f) args H).kY=true->∀μ w (vs:List Value),br μ H w->hz P μ->cd μ args vs->ub P f vs w (Ends μ H w (call (.fn f) args H))
 cc:∀l args H,(call (.cc l) args H).kY=true->∀μ w i (vs:List Value),br μ H w->hz P μ->μ l=some i->cd μ args vs->Hc P i.bj vs w (Ends μ H w (call (.cc l) args H))
theorem qR.of_steps{P:Program}{m cV:Machine}{c:Frame}{cs:List Frame}{R:Ending->World->Prop}(h:Steps P m cV)(al:qR P cV c cs R):qR P m c cs R:=by
 obtain⟨e,w',ai,hs⟩:=al
 refine⟨e,w',ai,?_⟩
 cases e with
 |returned v=>exact h.trans hs
 |panicked OK=>exact h.trans hs
 |outgrown=>exact hs.elim
theorem Hd{P:Program}{f:FuncId}{args:Array Value}{w:World}{R:Ending->World->Prop}(fG:∀w',¬R .outgrown w')(h:Calls P f args w R)(c:Frame)(cs:List Frame):
  qR P (lone (Frame.enter P f args .normal) (c::cs) w) c cs R:=by
 obtain⟨e,w',cJ,ai,ah,_,au⟩:=h (c::cs)
 refine⟨e,w',ai,?_⟩
 cases e with
 |returned v=>exact Steps.trans ah (.one (step_leave_returned au))
 |panicked OK=>exact Steps.trans ah (.one (step_leave_panicked au))
 |outgrown=>exact(fG _ ai).elim
def hL(μ:bn)(kind:CallKind)(cs0:List Frame):bJ->List Frame->Prop
 |.none,cs=>cs=cs0/\∀cJ:Frame,cJ.kind=kind->tryRecover cJ cs0=none
 |.act v,cs=>cs=cs0/\kind=.deferred/\∃c rest u,cs0=c::rest/\c.mode=.panicking [{v:=u,recovered:=false}]/\bc μ v u
 |.done v,cs=>kind=.deferred/\∃c rest u,cs0=c::rest/\c.mode=.panicking [{v:=u,recovered:=false}]/\bc μ v u/\cs={c with mode:=.panicking [{v:=u,recovered:=true}]}::rest
theorem hL.mono{μ aP:bn}(hle:eV μ aP){kind:CallKind}{cs0 cs:List Frame}{q:bJ}(h:hL μ kind cs0 q cs):hL aP kind cs0 q cs:=by
 cases q with
 |none=>exact h
 |act v=>obtain⟨aa,ad,c,rest,u,ax,aO,bZ⟩:=h;exact⟨aa,ad,c,rest,u,ax,aO,bZ.mono hle⟩
 |done v=>obtain⟨aa,c,rest,u,ax,aO,bZ,dj⟩:=h;exact⟨aa,c,rest,u,ax,aO,bZ.mono hle,dj⟩
section
variable {P:Program} {μ:bn} {H:J} {w:World}
theorem Ce{b:Frame}{a:Act}{ops:Array Oper}{i:Nat}{rest:List Nat}{k:List Item}{cs:List Frame}{s:Sem Next}
  (ct:stepG P true {frame:=b.atR a (.inRegion ops (i::rest)::k),callers:=cs,status:=.running,dying:=none} w=stepG.apply P true (b.atR a (.inRegion ops (i::rest)::k)) cs none s w):
  (∀v w',s.run P w=.ok (.value v) w'->Steps P (lone (b.atR a (.inRegion ops (i::rest)::k)) cs w) (lone ((b.atR a (.inRegion ops (i::rest)::k)).finish v) cs w'))/\
  (∀w',s.run P w=.ok .skip w'->Steps P (lone (b.atR a (.inRegion ops (i::rest)::k)) cs w) (lone ((b.atR a (.inRegion ops (i::rest)::k)).finish undef) cs w'))/\
  (∀u w',s.run P w=.halt (.panic u) w'->Steps P (lone (b.atR a (.inRegion ops (i::rest)::k)) cs w) (lone ((b.atR a (.inRegion ops (i::rest)::k)).raise [{v:=u,recovered:=false}]) cs w'))/\
  (∀d w',s.run P w=.ok (.defer d) w'->Steps P (lone (b.atR a (.inRegion ops (i::rest)::k)) cs w) (lone (b.atR ({a with defers:=d::a.defers}.put ((ops[i]?).bind (·.dst)) undef) (.inRegion ops rest::k)) cs w'))/\
  (∀f args w',s.run P w=.ok (.enter f args) w'->Steps P (lone (b.atR a (.inRegion ops (i::rest)::k)) cs w) (lone (Frame.enter P f args .normal) (b.atR a (.inRegion ops (i::rest)::k)::cs) w'))/\
  (∀l f tmps assign body w',s.run P w=.ok (.round l f tmps assign body) w'->Steps P (lone (b.atR a (.inRegion ops (i::rest)::k)) cs w) (lone (Frame.round l f tmps assign body .normal) (b.atR a (.inRegion ops (i::rest)::k)::cs) w'))/\
  (b.roundOf=none->∀w',s.run P w=.ok .recover w'->∀v b6,tryRecover (b.atR a (.inRegion ops (i::rest)::k)) cs=some (v,b6)->Steps P (lone (b.atR a (.inRegion ops (i::rest)::k)) cs w) (lone ((b.atR a (.inRegion ops (i::rest)::k)).finish v) b6 w'))/\
  (b.roundOf=none->∀w',s.run P w=.ok .recover w'->tryRecover (b.atR a (.inRegion ops (i::rest)::k)) cs=none->Steps P (lone (b.atR a (.inRegion ops (i::rest)::k)) cs w) (lone ((b.atR a (.inRegion ops (i::rest)::k)).finish .nilIface) cs w')):=by
 refine⟨λv w' ai=>.one (step_lone_go ?_),λw' ai=>.one (step_lone_go ?_),λu w' ai=>.one (step_lone_go ?_),λd w' ai=>.one (step_lone_go ?_),λf args w' ai=>.one (step_lone_go ?_),λl f tmps assign body w' ai=>.one (step_lone_go ?_),λaf w' ai v b6 a6=>.one (step_lone_go ?_),λaf w' ai a6=>.one (step_lone_go ?_)⟩
 · rw[ct];simp[stepG.apply,ai]
 · rw[ct];simp[stepG.apply,ai]
 · rw[ct];simp[stepG.apply,ai]
 · rw[ct]
   have:=Frame.finish_atR b {a with defers:=d::a.defers} ops i rest k undef
   simp only[stepG.apply,Sem.runT_eq,ai,GStep.bare_after]
   exact congrArg (λcJ=>GStep.go {frame:=cJ,callers:=cs,status:=.running,dying:=none} w') this
 · rw[ct];simp[stepG.apply,ai,Frame.atR]
 · rw[ct];simp[stepG.apply,ai,Frame.atR]
 · rw[ct]
   have hp:(b.atR a (.inRegion ops (i::rest)::k)).roundOf=none:=af
   simp[stepG.apply,ai,hp,a6]
 · rw[ct]
   have hp:(b.atR a (.inRegion ops (i::rest)::k)).roundOf=none:=af
   simp[stepG.apply,ai,hp,a6]
def Cf(P:Program)(μ:bn)(H:J)(w:World)(b:Frame)(a:Act)(ops:Array Oper)(o:Oper)(i:Nat)(rest:List Nat)(k:List Item)(cs0 cs:List Frame):vJ->Prop
 |.ok v bG bP aX=>∃aP w' u sf b6,Steps P (lone (b.atR a (.inRegion ops (i::rest)::k)) cs w) (lone (b.atR {tmps:=(a.put o.dst u).tmps,defers:=sf} (.inRegion ops rest::k)) b6 w')/\
   bc aP v u/\br aP aX w'/\cb μ H w aP aX w'/\gz aP bG sf/\hL aP b.kind cs0 bP b6
 |.b9 v bG bP aX=>∃aP w' u,Steps P (lone (b.atR a (.inRegion ops (i::rest)::k)) cs w) (lone {b.atR a (.inRegion ops (i::rest)::k) with mode:=.panicking [{v:=u,recovered:=false}]} cs w')/\
   bc aP v u/\br aP aX w'/\cb μ H w aP aX w'/\gz aP bG a.defers/\hL aP b.kind cs0 bP cs
 |.fail _=>True
theorem put_defers(a:Act)(dst:Option Tmp)(u:Value):(a.put dst u).defers=a.defers:=by cases dst<;>rfl
theorem ze(a:Act)(dst:Option Tmp)(u:Value):a.put dst u={tmps:=(a.put dst u).tmps,defers:=a.defers}:=by cases dst<;>rfl
theorem OL(a:Act)(bm:List Deferred)(dst:Option Tmp)(u:Value):({a with defers:=bm}:Act).put dst u={tmps:=(a.put dst u).tmps,defers:=bm}:=by cases dst<;>rfl
theorem He{b:Frame}{a:Act}{ops:Array Oper}{o:Oper}{i:Nat}{rest:List Nat}{k:List Item}{cs0 cs:List Frame}(bd:ops[i]? =some o){d:List b1}{q:bJ}
  (aG:gz μ d a.defers)(bq:hL μ b.kind cs0 q cs){r:an}{m:Machine}(hs:Steps P (lone (b.atR a (.inRegion ops (i::rest)::k)) cs w) m)
  (au:qR P m (b.atR a (.inRegion ops (i::rest)::k)) cs (Ends μ H w r)):Cf P μ H w b a ops o i rest k cs0 cs (vK d q r):=by
 obtain⟨e,w',ai,ct⟩:=au
 cases r with
 |ret v aX=>
  obtain⟨aP,u,rfl,aa,ad,ax⟩:=ai
  refine⟨aP,w',u,a.defers,cs,hs.trans ?_,aa,ad,ax,aG.mono ax.le,bq.mono ax.le⟩
  have:(b.atR a (.inRegion ops (i::rest)::k)).finish u=b.atR {tmps:=(a.put o.dst u).tmps,defers:=a.defers} (.inRegion ops rest::k):=by
   rw[Frame.finish_atR,bd,<-ze];rfl
  rw[<-this];exact ct
 |b9 v aX=>
  obtain⟨aP,u,rfl,aa,ad,ax⟩:=ai
  exact⟨aP,w',u,hs.trans ct,aa,ad,ax,aG.mono ax.le,bq.mono ax.le⟩
 |fail w=>trivial
theorem zf{r:an}(h:r.kY=false):∃s,r=.fail s:=by
 cases r with
 |fail s=>exact⟨s,rfl⟩
 |_=>cases h
theorem Cg{r:an}(aj:r.kY=true):∀w',¬Ends μ H w r .outgrown w':=by
 intro w' h
 cases r with
 |ret v aX=>obtain⟨_,_,e,_⟩:=h;cases e
 |b9 v aX=>obtain⟨_,_,e,_⟩:=h;cases e
 |fail s=>cases aj
theorem Hf{call:ay->List I->J->an}(ah:lC P call)(ak:br μ H w)(oI:hz P μ){b:Frame}{a:Act}{ops:Array Oper}{o:Oper}{i:Nat}{rest:List Nat}{k:List Item}{cs0 cs:List Frame}
  (bd:ops[i]? =some o){gd:Option (I×Bool)}(gS:∀oJ,ey gd=some oJ->Region.wanted o (yielded ops a.tmps)=oJ){g:Operand->I}(aj:∀x,bc μ (g x) (a.eval x)){d:List b1}{q:bJ}
  (aG:gz μ d a.defers)(bq:hL μ b.kind cs0 q cs){inR:Bool}(dO:inR=b.roundOf.isSome):Cf P μ H w b a ops o i rest k cs0 cs (dV P inR call gd o g d q H):=by
 unfold dV
 have nG:∀u,(b.atR a (.inRegion ops (i::rest)::k)).finish u=b.atR {tmps:=(a.put o.dst u).tmps,defers:=a.defers} (.inRegion ops rest::k):=λu=>by
  rw[Frame.finish_atR,bd,<-ze];rfl
 split
 · trivial
 · rename_i hw
   have Ch:=gS _ hw
   refine⟨μ,w,undef,a.defers,cs,?_,⟨[],rfl,rfl⟩,ak,cb.refl _ _ _,aG,bq⟩
   have hs:=stepR_op_skip (P:=P) (b:=b) (a:=a) (k:=k) (cs:=cs) (w:=w) (ops:=ops) (i:=i) (rest:=rest) (by simp[bd,Ch])
   rw[bd] at hs
   have he:a.put ((some o).bind (·.dst)) undef={tmps:=(a.put o.dst undef).tmps,defers:=a.defers}:=ze a o.dst undef
   rw[he] at hs
   exact .one hs
 · rename_i hw
   have Ci:=gS _ hw
   have ct:=stepGR_op (P:=P) (b:=b) (a:=a) (k:=k) (cs:=cs) (w:=w) (rest:=rest) bd Ci
   have fU:=OD (P:=P) ak o aj
   by_cases Hg:b.roundOf.isSome=true/\∃c,o.op=.defer c
   · obtain⟨ai,c,OM⟩:=Hg
     have:(∃x,cM P o g H=.jG x)\/∃s,cM P o g H=.fail s:=by
      unfold cM
      rw[OM]
      simp only
      split
      · split
        · exact .inl ⟨_,rfl⟩
        · exact .inr ⟨_,rfl⟩
      · exact .inr ⟨_,rfl⟩
     rcases this with⟨x,e⟩|⟨s,e⟩
     · rw[e];simp only[dO,ai,if_true];trivial
     · rw[e];trivial
   · have wv:o.semAt b.roundOf a.eval=execOp a.eval o:=by
       cases ha:b.roundOf with
       |none=>rfl
       |some l=>exact Oper.semAt_eq _ _ _ λc e=>Hg ⟨by rw[ha];rfl,c,e⟩
     rw[wv] at ct
     obtain⟨ao,ar,aZ,ch,dQ,eS,gA,hM⟩:=Ce ct
     cases gr:cM P o g H with
     |val v aX=>
      rw[gr] at fU
      obtain⟨aP,w',u,ai,aa,ad,ax⟩:=fU
      refine⟨aP,w',u,a.defers,cs,?_,aa,ad,ax,aG.mono ax.le,bq.mono ax.le⟩
      rw[<-nG]
      rcases ai with ai|⟨rfl,ai⟩
      · exact ao _ _ ai
      · exact ar _ ai
     |b9 v aX=>
      rw[gr] at fU
      obtain⟨rfl,u,ai,aa⟩:=fU
      exact⟨μ,w,u,aZ _ _ ai,aa,ak,cb.refl _ _ _,aG,bq⟩
     |call f args aX=>
      rw[gr] at fU
      obtain⟨rfl,vs,ai,aa⟩:=fU
      simp only
      cases b7:(call (.fn f) args aX).kY with
      |false=>obtain⟨s,hs⟩:=zf b7;rw[hs];trivial
      |true=>
       rcases ah.fn f args aX b7 μ w vs ak oI aa with⟨v,w',aV,aN⟩|⟨aV,aN⟩
       · rw[<-ai] at aV
         have hs:=ao _ _ aV
         cases Hh:call (.fn f) args aX with
         |fail s=>trivial
         |ret v' az=>
          rw[Hh] at aN
          obtain⟨aP,u,e,ad,ax,aO⟩:=aN
          cases e
          exact⟨aP,w',_,a.defers,cs,by rw[<-nG];exact hs,ad,ax,aO,aG.mono aO.le,bq.mono aO.le⟩
         |b9 v' az=>
          rw[Hh] at aN
          obtain⟨aP,u,e,ad,ax,aO⟩:=aN
          cases e
       · rw[<-ai] at aV
         have hs:=dQ _ _ _ aV
         exact He bd aG bq hs (Hd (Cg b7) aN _ _)
     |cc l args aX=>
      rw[gr] at fU
      obtain⟨rfl,en,vs,au,ai,aa⟩:=fU
      simp only
      cases b7:(call (.cc l) args aX).kY with
      |false=>obtain⟨s,hs⟩:=zf b7;rw[hs];trivial
      |true=>
       obtain⟨f,tmps,as,cn,aV,aN⟩:=ah.cc l args aX b7 μ w en vs ak oI au aa
       rw[<-ai] at aV
       have hs:=eS _ _ _ _ _ _ aV
       exact He bd aG bq hs (aN _ _)
     |jG x=>
      rw[gr] at fU
      obtain⟨qM,ai,aa⟩:=fU
      simp only
      split
      · trivial
      · refine⟨μ,w,undef,qM::a.defers,cs,?_,⟨[],rfl,rfl⟩,ak,cb.refl _ _ _,⟨_,_,rfl,aa,aG⟩,bq⟩
        have hs:=ch _ _ ai
        rw[bd] at hs
        have he:({a with defers:=qM::a.defers}:Act).put ((some o).bind (·.dst)) undef={tmps:=(a.put o.dst undef).tmps,defers:=qM::a.defers}:=OL a _ o.dst undef
        rw[he] at hs
        exact hs
     |rQ=>
      rw[gr] at fU
      have ai:(execOp a.eval o).run P w=.ok .recover w:=fU
      simp only
      split
      · trivial
      · rename_i y4
        have wx:b.roundOf=none:=by
         cases ha:b.roundOf with
         |none=>rfl
         |some l=>rw[ha] at dO;exact absurd dO y4
        have aw:(b.atR a (.inRegion ops (i::rest)::k)).kind=b.kind:=rfl
        split
        · obtain⟨rfl,a6⟩:=bq
          refine⟨μ,w,.nilIface,a.defers,cs,?_,rfl,ak,cb.refl _ _ _,aG,⟨rfl,a6⟩⟩
          rw[<-nG]
          exact hM wx _ ai (a6 _ aw)
        · have ON:=bq
          obtain⟨mf,c,rs,u,aA,aC,bN,rfl⟩:=bq
          refine⟨μ,w,.nilIface,a.defers,_,?_,rfl,ak,cb.refl _ _ _,aG,ON⟩
          rw[<-nG]
          refine hM wx _ ai ?_
          have wy:(b.atR a (.inRegion ops (i::rest)::k)).kind=.deferred:=aw.trans mf
          simp only[tryRecover,wy]
        · obtain⟨rfl,mf,c,rs,u,aA,aC,bN⟩:=bq
          subst aA
          refine⟨μ,w,u,a.defers,{c with mode:=.panicking [{v:=u,recovered:=true}]}::rs,?_,bN,ak,cb.refl _ _ _,aG,⟨mf,c,rs,u,rfl,aC,bN,rfl⟩⟩
          rw[<-nG]
          refine gA wx _ ai _ _ ?_
          have wy:(b.atR a (.inRegion ops (i::rest)::k)).kind=.deferred:=aw.trans mf
          simp only[tryRecover,wy,aC]
     |fail s=>trivial
end
end aD
