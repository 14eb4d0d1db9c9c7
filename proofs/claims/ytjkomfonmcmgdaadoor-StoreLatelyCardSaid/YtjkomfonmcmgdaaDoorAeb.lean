/-
  THE ABSTRACT EVALUATOR (operations): a deterministic semantics of loaded code, and the proof that its runs are runs of the program in the model, whatever the tape draws. No condition.
-/
import Derived.Test.YtjkomfonmcmgdaaDoorAea
import Derived.ChangeKeysEq
import Derived.Laws.StructEq
import Derived.AtR
set_option linter.unusedVariables false
set_option linter.unusedSimpArgs false
namespace a8
open Go
section
variable {P:Program} {μ:bb} {H:ab} {w:World}
theorem x3{b off n:Nat}{cs:List I}(h:loadCells H b off n=some cs):cs.length=n:=by
 unfold loadCells at h
 split at h
 · obtain⟨aa,rfl⟩:=qZ _ _ _ h
   simp;omega
 · cases h
theorem x4:∀l:List UInt8,(cI l).length=l.length
 |[]=>rfl
 |_::l=>by simp[cI,x4 l]
theorem Fw{size n:Nat}{x:I}{cs:List I}(h:fF H size x=some (n,cs)):cs.length=n*size:=by
 cases x<;>simp only[fF] at h<;>try cases h
 · split at h<;>cases h
   rw[x4];simp
 · simp
 · rename_i b off len cap
   cases cap with
   |dead=>
    simp only at h
    split at h
    · cases h;simp
    · cases h
   |exact c=>
    simp only at h
    split at h
    · rename_i bw ar;cases h;exact x3 ar
    · cases h
   |aS fw=>
    simp only at h
    split at h
    · rename_i bw ar;cases h;exact x3 ar
    · cases h
theorem M3(ah:bc μ H w){argTypes:Array TypeId}{ty sT:TypeId}(h0:argTypes[0]? =some sT){s x:I}{lZ bj:Value}(hs:a2 μ s lZ)(J:a2 μ x bj){v:I}{aI:ab}
  (h:eh P H sT argTypes[1]? s x=some (v,aI)):dV P μ H w (Builtin.append_ argTypes ty #[lZ,bj]) v aI:=by
 unfold eh at h
 split at h
 · rename_i e hu ez
   split at h
   · rename_i i z ag aP
     split at h
     · cases h
     · rename_i n cs fb
       obtain⟨ar,us,iV,gz⟩:=xY (P:=P) ah J fb
       have gR:=Fw fb
       cases s<;>(try simp only at h)<;>try cases h
       ·
        cases hs
        cases n with
        |zero=>
         cases h
         have:=vl (P:=P) (ty:=ty) h0 rfl hu ez ag (base:=none) (sLen:=0) (sCap:=0) ar iV (by omega)
         exact .same ah this rfl
        |succ n=>
         have aj:ji H e i.bytes i.size (0+(n+1)) z ([]++cs) 0=some (v,aI):=by simpa using h
         exact A8 ah h0 rfl hu ez ag aP J fb (old:=[]) ⟨[],rfl,rfl⟩ (by simp) gR (by omega) ah (bN.refl _ _ _) aj
       · rename_i b off len cap
         obtain⟨dy,gS,af⟩:=hs
         cases cap with
         |dead=>cases h
         |exact cap=>
          cases af
          simp only at h
          split at h
          · rename_i hle
            have hle:=Nat.le_of_ble_eq_true hle
            have ai:=vl (P:=P) (ty:=ty) h0 rfl hu ez ag (base:=some ⟨dy.a1,dy.base+off,none⟩) (sLen:=len) (sCap:=cap) ar iV hle
            simp only[add_plain] at ai
            split at h
            · cases h
              have Ba:us=[]:=by
               have aa:=gR;have ad:=gz.length
               cases us with
               |nil=>rfl
               |cons a l=>simp at aa ad;omega
              subst Ba
              refine .same ah (v':=.slice (some ⟨dy.a1,dy.base+off,none⟩) len cap) ?_ ⟨dy,gS,rfl⟩
              rw[ai];simp[_root_.Go.storeCells]
            · split at h
              · rename_i aa bY
                cases h
                obtain⟨w',ax,av,bq⟩:=vb (P:=P) ah gS gz bY
                refine⟨μ,w',.slice (some ⟨dy.a1,dy.base+off,none⟩) (len+n) cap,?_,⟨dy,gS,rfl⟩,av,bq⟩
                rw[ai,Nat.add_assoc,ax];rfl
              · cases h
          · rename_i hle
            have bX:cap<len+n:=by
             rcases Nat.lt_or_ge cap (len+n) with h|h
             · exact h
             · rw[vi h] at hle;cases hle
            split at h
            · rename_i old hold
              obtain⟨os,de,c9⟩:=pF (P:=P) ah.drew gS hold
              exact A8 ah h0 rfl hu ez ag aP J fb (old:=old) ⟨os,by simp only[Builtin.firstCells];exact de,c9⟩ (x3 hold) gR bX ah (bN.refl _ _ _) h
            · cases h
         |aS fw=>
          obtain⟨cap,rfl,pH,bh⟩:=af
          simp only at h
          split at h
          · rename_i jm
            simp only[Bool.and_eq_true,Nat.blt_eq] at jm
            have M4:=Nat.eq_of_beq_eq_true jm.1
            subst M4
            have vc:=jm.2
            split at h
            · cases h
              have ai:=vl (P:=P) (ty:=ty) h0 rfl hu ez ag (base:=some ⟨dy.a1,dy.base+off,none⟩) (sLen:=len) (sCap:=cap) ar iV (by omega)
              simp only[add_plain] at ai
              have Ba:us=[]:=by
               have aa:=gR;have ad:=gz.length
               cases us with
               |nil=>rfl
               |cons a l=>simp at aa ad;omega
              subst Ba
              refine .same ah (v':=.slice (some ⟨dy.a1,dy.base+off,none⟩) len cap) ?_ ⟨dy,gS,cap,rfl,pH,bh⟩
              rw[ai];simp[_root_.Go.storeCells]
            · split at h
              · rename_i old el aY ey ae
                have M5:=ah.rel b _ dy ae gS
                obtain⟨c,fi,fj,aV,ba,b1,gy,iU⟩:=M5
                split at h
                · rename_i pO
                  have pO:=Nat.le_of_ble_eq_true pO
                  split at h
                  · rename_i aa bY
                    cases h
                    have hj:len+n<=cap:=by
                     have:(len+n)*i.size<=cap*i.size:=by omega
                     exact Nat.le_of_mul_le_mul_right this vc
                    have ai:=vl (P:=P) (ty:=ty) h0 rfl hu ez ag (base:=some ⟨dy.a1,dy.base+off,none⟩) (sLen:=len) (sCap:=cap) ar iV hj
                    simp only[add_plain] at ai
                    obtain⟨w',ax,av,bq⟩:=vb (P:=P) ah gS gz bY
                    refine⟨μ,w',.slice (some ⟨dy.a1,dy.base+off,none⟩) (len+n) cap,?_,⟨dy,gS,cap,rfl,hj,bh⟩,av,bq⟩
                    rw[ai,Nat.add_assoc,ax];rfl
                  · cases h
                · split at h
                  · rename_i o Fx hold
                    simp only[Bool.and_eq_true] at Fx
                    obtain⟨iT,Bb⟩:=Fx
                    have iT:=Nat.le_of_ble_eq_true iT
                    have Bb:=Nat.eq_of_beq_eq_true Bb
                    subst Bb
                    have aj:=h
                    unfold ji at h
                    split at h
                    · rename_i Fy
                      simp only[Bool.and_eq_true] at Fy
                      obtain⟨⟨nH,lW⟩,dx⟩:=Fy
                      cases h
                      have q5:=x3 hold
                      by_cases pO:len+n<=cap
                      ·
                       have ai:=vl (P:=P) (ty:=ty) h0 rfl hu ez ag (base:=some ⟨dy.a1,dy.base+off,none⟩) (sLen:=len) (sCap:=cap) ar iV pO
                       simp only[add_plain] at ai
                       have hmul:(len+n)*i.size<=cap*i.size:=Nat.mul_le_mul_right _ pO
                       have Fv:(len+n)*i.size=len*i.size+n*i.size:=Nat.add_mul _ _ _
                       have Mj:us.length=n*i.size:=by rw[<-gz.length];exact gR
                       obtain⟨w',c',ax,av,bq,dD,iR,iS,iA,j5,jD⟩:=Fe P dy.a1 (dy.base+(off+len*i.size)) us w 0 c el fi fj aV
                        (gz.u9 λa aw=>MR dx a (List.mem_append_right _ aw)) (by omega) (λj fX hk ⟨f1,f2⟩=>by
                         have:=iU (j-dy.base) (by omega) (by omega) (by omega)
                         omega)
                       have M6:dy.base+off+(dy.size-off)=c'.size:=by rw[j5,<-b1,<-bh];omega
                       obtain⟨r1,r2⟩:=ah.MM (w':=w') (o':=.cells (o++cs) el .aS 0 (ey-off)) ae rfl gS dD bq iR iS iA.1 (dy.base+off) (dy.size-off) (hdr:=Nat.le_of_eq iA.2.symm)
                        ⟨c',fi,fj,av,λj a aF=>by
                         show∃u,c'[dy.base+off+j]? =some u/\_
                         rw[jD]
                         by_cases k6:j<o.length
                         · rw[List.getElem?_append_left k6] at aF
                           rw[if_neg (by omega)]
                           unfold loadCells at hold
                           rw[ae] at hold
                           simp only at hold
                           rw[lR] at hold
                           obtain⟨t1,rfl⟩:=qZ _ _ _ hold
                           rw[List.getElem?_take] at aF
                           split at aF
                           · rw[List.getElem?_drop] at aF
                             obtain⟨u,Bc,nG⟩:=ba (off+j) a aF
                             exact⟨u,by rw[Nat.add_assoc];exact Bc,nG.mono (ah.mB _)⟩
                           · cases aF
                         · rw[List.getElem?_append_right (by omega)] at aF
                           have Fz:j-o.length<cs.length:=by
                            rcases Nat.lt_or_ge (j-o.length) cs.length with h|h
                            · exact h
                            · rw[List.getElem?_eq_none h] at aF;cases aF
                           have XU:=gz.length
                           rw[if_pos (by omega)]
                           obtain⟨u,Bc,nG⟩:=gz.get aF
                           refine⟨u,?_,nG.mono (ah.mB _)⟩
                           rw[<-Bc]
                           have M7:dy.base+off+j-(dy.base+(off+len*i.size)+0)=j-o.length:=by rw[q5];omega
                           rw[M7],M6,by
                         refine⟨?_,λj fX hk nI=>?_⟩
                         · simp only[List.length_append];have:=gR;omega
                         · have:=iU (off+j) (by simp only at fX;omega) (by simp only at hk;omega) (by simp only at nI;omega)
                           omega⟩
                       refine⟨_,w',.slice (some ⟨dy.a1,dy.base+off,none⟩) (len+n) cap,?_,⟨_,fl _ _ _,cap,by simp,pO,by simp only;omega⟩,r1,r2⟩
                       rw[ai,Nat.add_assoc,ax];rfl
                      ·
                       obtain⟨bJ,bR⟩:=ah.kill ae rfl gS
                       obtain⟨os,de,c9⟩:=pF (P:=P) ah.drew gS hold
                       exact A8 (ty:=ty) ah h0 rfl hu ez ag aP J fb (old:=o) ⟨os,by simp only[Builtin.firstCells];exact de,c9⟩ q5 gR (by omega) bJ bR aj
                    · cases h
                  · cases h
              · cases h
          · cases h
   · cases h
 · cases h
end
end a8
namespace a8
open Go
section
variable {P:Program} {μ:bb} {H:ab} {w:World}
theorem bP.take{μ:bb}{as:List I}{vs:List Value}(h:bP μ as vs)(n:Nat):bP μ (as.take n) (vs.take n):=by
 refine bP.u7 (by simp[h.length]) λj a aF=>?_
 rw[List.getElem?_take] at aF⊢
 split at aF
 · rename_i ar;rw[if_pos ar];exact h.get aF
 · cases aF
theorem FA(ah:bc μ H w){size n m:Nat}{x:I}{bj:Value}(J:a2 μ x bj){cs r:List I}(h:fF H size x=some (n,cs))(hm:m<=n)(ai:takeN (m*size) cs=some r):
  ∃us:List Value,(Builtin.firstCells size m bj).run P w=.ok ⟨us⟩ w/\bP μ r us:=by
 obtain⟨bm,rfl⟩:=qZ _ _ _ ai
 have gR:=Fw h
 cases x<;>simp only[fF] at h<;>try cases h
 · split at h<;>cases h
   obtain⟨bs,rfl,rfl⟩:=J
   refine⟨_,?_,(xX μ _).take _⟩
   simp only[Builtin.firstCells,Sem.run_pure]
   congr 1
   apply Array.ext'
   simp[ByteArray.data_extract,List.map_take]
 · cases J
   exact⟨[],rfl,by simp;rfl⟩
 · rename_i b off len cap
   obtain⟨i,ag,af⟩:=J
   have load:∀bw,loadCells H b off (len*size)=some bw->n=len->cs=bw->∀c,∃us:List Value,(Builtin.firstCells size m (.slice (some ⟨i.a1,i.base+off,none⟩) len c)).run P w=.ok ⟨us⟩ w/\bP μ (cs.take (m*size)) us:=by
    intro bw ar aH g6 c
    subst g6;subst aH
    have q6:loadCells H b off (m*size)=some (cs.take (m*size)):=by
     unfold loadCells at ar⊢
     split at ar
     · rename_i aV ba b1 gy iU ae
       obtain⟨t1,t2⟩:=qZ _ _ _ ar
       have hmul:m*size<=n*size:=Nat.mul_le_mul_right _ hm
       have e:∀(k:Nat) (l:List I),k<=l.length->takeN k l=some (l.take k):=by
        intro k
        induction k with
        |zero=>intro l _;simp[takeN]
        |succ k a3=>
         intro l ar
         cases l with
         |nil=>simp at ar
         |cons a l=>simp[takeN,a3 l (by simpa using ar)]
       rw[e _ _ (by omega),t2,List.take_take,Nat.min_eq_left hmul]
     · cases ar
    obtain⟨us,aa,ad⟩:=pF (P:=P) ah ag q6
    exact⟨us,by simp only[Builtin.firstCells];exact aa,ad⟩
   cases cap with
   |dead=>
    simp only at h
    split at h
    · cases h
      obtain⟨_,a,c,rfl⟩:=af
      have:m=0:=by omega
      subst this
      exact⟨[],by simp[Builtin.firstCells,_root_.Go.loadCells,loadCellsFrom],by simp;rfl⟩
    · cases h
   |exact c=>
    cases af
    simp only at h
    split at h
    · rename_i bw ar;cases h;exact load _ ar rfl rfl c
    · cases h
   |aS fw=>
    obtain⟨c,rfl,_⟩:=af
    simp only at h
    split at h
    · rename_i bw ar;cases h;exact load _ ar rfl rfl c
    · cases h
theorem M8(ah:bc μ H w){argTypes:Array TypeId}{ty xF:TypeId}(h0:argTypes[0]? =some xF){d s:I}{Bd lZ:Value}(ak:a2 μ d Bd)(hs:a2 μ s lZ){v:I}{aI:ab}
  (h:sP P H xF d s=some (v,aI)):dV P μ H w (Builtin.copy_ argTypes ty #[Bd,lZ]) v aI:=by
 unfold sP at h
 split at h
 · rename_i e hu
   split at h
   · rename_i sz bh
     split at h
     · rename_i n cs fb
       obtain⟨ar,_⟩:=xY (P:=P) ah hs fb
       have kF:∀w:World,(_root_.Go.sizeOf e).run P w=.ok sz w:=λw=>run_sizeOf bh
       have FB:∀bj:Value,bj=lZ->(Builtin.firstCells sz 0 lZ).run P w=.ok #[] w:=λbj _=>by
        obtain⟨us,aa,ad⟩:=FA (P:=P) (m:=0) (r:=[]) ah hs fb (Nat.zero_le _) (by simp[takeN])
        cases us with
        |nil=>exact aa
        |cons a l=>cases ad
       split at h
       · cases h;cases ak
         refine .same ah (v':=.int .i64 0) ?_ rfl
         simp[Builtin.copy_,h0,bE hu,ar,kF,FB lZ rfl,goInt]
       · rename_i b off len cap
         simp only at h
         obtain⟨i,ag,af⟩:=ak
         have jk:∃(a:Addr) (c:Nat),Bd=.slice (some a) len c/\(cap≠ .dead->a=⟨i.a1,i.base+off,none⟩):=by
          cases cap with
          |exact c=>cases af;exact⟨_,c,rfl,λ_=>rfl⟩
          |aS fw=>obtain⟨c,rfl,_⟩:=af;exact⟨_,c,rfl,λ_=>rfl⟩
          |dead=>obtain⟨rfl,a,c,rfl⟩:=af;exact⟨a,c,rfl,λh=>absurd rfl h⟩
         obtain⟨a,c,rfl,aw⟩:=jk
         split at h
         · rename_i oA
           cases h
           refine .same ah (v':=.int .i64 0) ?_ rfl
           simp[Builtin.copy_,h0,bE hu,ar,kF,oA,FB lZ rfl,goInt,_root_.Go.storeCells]
         · rename_i oA
           split at h
           · rename_i bw bm
             split at h
             · rename_i aa bY
               cases h
               have x5:cap≠ .dead:=by
                intro e;subst e
                obtain⟨ax,_⟩:=af
                subst ax;simp[Nat.min_def] at oA
               have:=aw x5
               subst this
               obtain⟨us,aV,ba⟩:=FA (P:=P) ah hs fb (Nat.min_le_left _ _) bm
               obtain⟨w',ax,av,bq⟩:=vb (P:=P) ah ag ba bY
               refine⟨μ,w',.int .i64 (Nat.min n len:Nat),?_,rfl,av,bq⟩
               simp[Builtin.copy_,h0,bE hu,ar,kF,aV,ax,goInt]
             · cases h
           · cases h
       · cases h
     · cases h
   · cases h
 · cases h
theorem M9(ah:bc μ H w){argTypes:Array TypeId}{ty t:TypeId}(h0:argTypes[0]? =some t){x:I}{bj:Value}(J:a2 μ x bj){v:I}{aI:ab}
  (h:nj P H t x=some (v,aI)):dV P μ H w (Builtin.clear_ argTypes ty #[bj]) v aI:=by
 unfold nj at h
 split at h
 · rename_i hu;cases h;cases J
   exact .same ah (v':=.tuple #[]) (by simp[Builtin.clear_,h0,bE hu]) ⟨[],rfl,rfl⟩
 · rename_i hu;cases h;cases J
   exact .same ah (v':=.tuple #[]) (by simp[Builtin.clear_,h0,bE hu]) ⟨[],rfl,rfl⟩
 · rename_i hu
   split at h
   · rename_i es c aj
     cases h
     obtain⟨i,ag,rfl⟩:=J
     obtain⟨ents,ax,av⟩:=ah.rel _ _ i aj ag
     have bX:i.a1<w.heap.size:=(ah.lt _ _ ag).2
     obtain⟨r1,r2⟩:=ah.update (w':={w with heap:=w.heap.setIfInBounds i.a1 (.map #[] c)}) (o':=.map [] c) aj rfl ag (by simp) (λr ai=>by simp[Array.getElem?_setIfInBounds];intro e;exact absurd e.symm ai) rfl rfl rfl
      ⟨[],by simp[bX],rfl⟩
     refine⟨μ,_,.tuple #[],?_,⟨[],rfl,rfl⟩,r1,r2⟩
     simp[Builtin.clear_,h0,bE hu,getObj,setObj,Sem.run,ax]
   · cases h
 · rename_i e b off n cap hu
   split at h
   · rename_i aH
     cases h
     subst aH
     obtain⟨i,ag,af⟩:=J
     have:∃a c,bj=.slice (some a) 0 c:=by
      cases cap with
      |exact c=>cases af;exact⟨_,c,rfl⟩
      |aS fw=>obtain⟨c,rfl,_⟩:=af;exact⟨_,c,rfl⟩
      |dead=>obtain⟨_,a,c,rfl⟩:=af;exact⟨a,c,rfl⟩
     obtain⟨a,c,rfl⟩:=this
     exact .same ah (v':=.tuple #[]) (by simp[Builtin.clear_,h0,bE hu]) ⟨[],rfl,rfl⟩
   · rename_i aH
     split at h
     · rename_i z aP
       split at h
       · rename_i aa bY
         cases h
         obtain⟨eJ,M_,rfl,ae⟩:=kC (P:=P) (w:=w) aP
         have hi:=MK n ((iP μ eJ).cells ae)
         obtain⟨i,ag,af⟩:=J
         have:∃c,bj=.slice (some ⟨i.a1,i.base+off,none⟩) n c:=by
          cases cap with
          |exact c=>cases af;exact⟨c,rfl⟩
          |aS fw=>obtain⟨c,rfl,_⟩:=af;exact⟨c,rfl⟩
          |dead=>obtain⟨h0,_⟩:=af;exact absurd h0 aH
         obtain⟨c,rfl⟩:=this
         obtain⟨w',ax,av,bq⟩:=vb (P:=P) ah ag hi bY
         refine⟨μ,w',.tuple #[],?_,⟨[],rfl,rfl⟩,av,bq⟩
         cases n with
         |zero=>exact absurd rfl aH
         |succ n=>simp[Builtin.clear_,h0,bE hu,M_,ax]
       · cases h
     · cases h
 · cases h
theorem Na(ah:bc μ H w){argTypes:Array TypeId}{ty t:TypeId}(h0:argTypes[0]? =some t){x:I}{bj:Value}(J:a2 μ x bj){v:I}(h:cr P H t x=some v):
  dV P μ H w (Builtin.len_ argTypes ty #[bj]) v H:=by
 unfold cr at h
 split at h
 · rename_i s hu;cases h
   obtain⟨bs,rfl,rfl⟩:=J
   refine .same ah (v':=.int .i64 (bs.size:Int)) (by simp[Builtin.len_,h0,bE hu,goInt]) ?_
   have:bs.data.toList.length=bs.size:=Array.length_toList
   rw[this];rfl
 · rename_i n e hu;cases h
   exact .same ah (v':=.int .i64 (n:Int)) (by simp[Builtin.len_,h0,bE hu,goInt]) rfl
 · rename_i e b off n cap hu;cases h
   obtain⟨i,ag,af⟩:=J
   have:∃a c,bj=.slice a n c:=by
    cases cap with
    |exact c=>cases af;exact⟨_,c,rfl⟩
    |aS fw=>obtain⟨c,rfl,_⟩:=af;exact⟨_,c,rfl⟩
    |dead=>obtain⟨rfl,a,c,rfl⟩:=af;exact⟨_,c,rfl⟩
   obtain⟨a,c,rfl⟩:=this
   exact .same ah (v':=.int .i64 (n:Int)) (by simp[Builtin.len_,h0,bE hu,goInt]) rfl
 · rename_i hu;cases h;cases J
   exact .same ah (v':=.int .i64 0) (by simp[Builtin.len_,h0,bE hu,goInt]) rfl
 · rename_i hu;cases h;cases J
   exact .same ah (v':=.int .i64 0) (by simp[Builtin.len_,h0,bE hu,goInt]) rfl
 · rename_i r hu
   split at h
   · rename_i es c aj
     cases h
     obtain⟨i,ag,rfl⟩:=J
     obtain⟨ents,ax,av⟩:=ah.rel _ _ i aj ag
     have hlen:es.length=ents.length:=by
      clear ax aj
      induction es generalizing ents with
      |nil=>cases av;rfl
      |cons e es a3=>obtain⟨m,ms,rfl,_,ad⟩:=av;simp[a3 ms ad]
     refine .same ah (v':=.int .i64 (ents.length:Int)) ?_ (by rw[hlen];rfl)
     simp[Builtin.len_,h0,bE hu,goInt,getObj,Sem.run,ax]
   · cases h
 · rename_i arr hu
   split at h
   · rename_i n e nG;cases h
     exact .same ah (v':=.int .i64 (n:Int)) (by simp[Builtin.len_,h0,bE hu,bE nG,goInt]) rfl
   · cases h
 · cases h
theorem Nb(ah:bc μ H w){argTypes:Array TypeId}{ty t:TypeId}(h0:argTypes[0]? =some t){x:I}{bj:Value}(J:a2 μ x bj){v:I}(h:sO P t x=some v):
  dV P μ H w (Builtin.cap_ argTypes ty #[bj]) v H:=by
 unfold sO at h
 split at h
 · rename_i n e hu;cases h
   exact .same ah (v':=.int .i64 (n:Int)) (by simp[Builtin.cap_,h0,bE hu,goInt]) rfl
 · rename_i e b off n c hu;cases h
   obtain⟨i,ag,af⟩:=J
   cases af
   exact .same ah (v':=.int .i64 (c:Int)) (by simp[Builtin.cap_,h0,bE hu,goInt]) rfl
 · rename_i hu;cases h;cases J
   exact .same ah (v':=.int .i64 0) (by simp[Builtin.cap_,h0,bE hu,goInt]) rfl
 · cases h
theorem Be(f:I->I->Option I)(F:Value->Value->Sem Value)(hf:∀x y z bj fo,f x y=some z->a2 μ x bj->a2 μ y fo->∃eJ,(F bj fo).run P w=.ok eJ w/\a2 μ z eJ):
  ∀(l:List I) (x:I) (bj:Value) (iB:List Value) (z:I),a2 μ x bj->bP μ l iB->mu f x l=some z->∃eJ,(iB.foldlM F bj).run P w=.ok eJ w/\a2 μ z eJ
 |[],x,bj,iB,z,J,ar,h=>by
  cases ar;simp[mu] at h;subst h
  exact⟨bj,rfl,J⟩
 |y::l,x,bj,iB,z,J,⟨fo,FC,e,aO,ar⟩,h=>by
  subst e
  simp only[mu] at h
  split at h
  · rename_i u hu
    obtain⟨Nc,r1,r2⟩:=hf x y u bj fo hu J aO
    obtain⟨eJ,s1,s2⟩:=Be f F hf l u Nc FC z r2 ar h
    exact⟨eJ,by simp only[List.foldlM_cons,Sem.run_bind,r1,Result.andThen_ok,s1],s2⟩
  · cases h
theorem Nd{x y z:I}{bj fo:Value}(h:uU x y=some z)(J:a2 μ x bj)(aO:a2 μ y fo):∃eJ,(Builtin.min2 bj fo).run P w=.ok eJ w/\a2 μ z eJ:=by
 unfold uU at h
 split at h
 · split at h
   · rename_i an;cases h;subst an
     cases J;cases aO
     exact⟨_,rfl,by simp[a2,fx]⟩
   · cases h
 · cases h
theorem Nf{x y z:I}{bj fo:Value}(h:pr x y=some z)(J:a2 μ x bj)(aO:a2 μ y fo):∃eJ,(Builtin.max2 bj fo).run P w=.ok eJ w/\a2 μ z eJ:=by
 unfold pr at h
 split at h
 · split at h
   · rename_i an;cases h;subst an
     cases J;cases aO
     exact⟨_,rfl,by simp[a2,fx]⟩
   · cases h
 · cases h
end
end a8
namespace a8
open Go
section
variable {P:Program} {μ:bb} {H:ab} {w:World}
theorem FD:∀(cs:List I) (bs:List UInt8) (us:List Value),lM cs=some bs->bP μ cs us->us=bs.map λb=>.int .u8 (b.toNat:Int)
 |[],bs,us,h,ai=>by cases ai;simp[lM] at h;subst h;rfl
 |c::cs,bs,us,h,⟨v,vs,e,aa,ad⟩=>by
  subst e
  unfold lM at h
  split at h
  · rename_i heq;cases heq
  · rename_i n l heq
    cases heq
    split at h
    · rename_i r aH ai
      cases h
      cases aa
      rw[FD cs r vs ai ad]
      simp only[Nat.blt_eq] at aH
      have:n %256=n:=Nat.mod_eq_of_lt aH
      simp[UInt8.toNat_ofNat',this]
    · cases h
  · cases h
theorem FE(w:World):∀(bs:List UInt8) (acc:ByteArray),(forIn (bs.map λb=>Value.int .u8 (b.toNat:Int)) acc λc s=>
  (match c with
  |.int .u8 n=>pure (ForInStep.yield (s.push (UInt8.ofNat n.toNat)))
  |_=>do stuck "bytesToString: byte expected";pure (ForInStep.yield s):Sem (ForInStep ByteArray))).run P w=.ok ⟨acc.data++bs.toArray⟩ w
 |[],acc=>by simp
 |b::bs,acc=>by
  simp only[List.map_cons,List.forIn_cons,Sem.run_bind,Sem.run_pure,Result.andThen_ok,FE w bs]
  congr 1
  simp[ByteArray.ext_iff,ByteArray.push]
theorem Ng(ah:bc μ H w){b off n:Nat}{cap:c7}(hj:cap≠ .dead){bj:Value}(J:a2 μ (.slice b off n cap) bj){cs:List I}(ar:loadCells H b off n=some cs){bs:List UInt8}(ae:lM cs=some bs):
  dV P μ H w (Conv.bytesToString bj) (.str bs) H:=by
 obtain⟨i,ag,af⟩:=J
 have:∃c,bj=.slice (some ⟨i.a1,i.base+off,none⟩) n c:=by
  cases cap with
  |exact c=>cases af;exact⟨c,rfl⟩
  |aS fw=>obtain⟨c,rfl,_⟩:=af;exact⟨c,rfl⟩
  |dead=>exact absurd rfl hj
 obtain⟨c,rfl⟩:=this
 obtain⟨us,aa,ad⟩:=pF (P:=P) ah ag ar
 have iV:=FD cs bs us ae ad
 subst iV
 refine .same ah (v':=.string ⟨bs.toArray⟩) ?_ ⟨_,rfl,by simp⟩
 simp only[Conv.bytesToString,Sem.run_bind,aa,Result.andThen_ok]
 have e:=FE (P:=P) w bs ByteArray.empty
 rw[<-List.forIn_toArray] at e
 refine(congrArg (λr=>Result.andThen r _) e).trans ?_
 simp
theorem Nh(ah:bc μ H w){e:TypeId}{bs:ByteArray}:
  dV P μ H w (Conv.stringToBytes e bs) (.slice H.n 0 bs.data.toList.length (.aS 1)) (H.push (.cells (cI bs.data.toList) e .aS 0 0)):=by
 have xZ:(Question.appendCap bs.size 0 e).forced=false:=rfl
 have bh:bs.data.toList.length=bs.size:=Array.length_toList
 obtain⟨cap,hj,hle⟩:∃cap,(Question.appendCap bs.size 0 e).cut (w.tape w.drawn (Question.appendCap bs.size 0 e))=cap/\bs.size<=cap:=⟨_,rfl,by simp[Question.cut]⟩
 have x6:=ah.drew.mB ⟨w.heap.size,0,cap⟩
 let c:Array Value:=(bs.data.map λb=>.int .u8 b.toNat)++Array.replicate (cap-bs.size) (.int .u8 0)
 have g6:c.size=cap:=by
  have:bs.data.size=bs.size:=rfl
  simp only[c,Array.size_append,Array.size_map,Array.size_replicate,this];omega
 have jj:xP (eG μ H.n ⟨w.heap.size,0,cap⟩) (cI bs.data.toList) c 0:=λj v aF=>by
  obtain⟨u,hu,ai⟩:=(xX μ bs.data.toList).get aF
  refine⟨u,?_,ai.mono x6⟩
  have s6:j<bs.data.size:=by
   rcases Nat.lt_or_ge j bs.data.size with h|h
   · exact h
   · rw[List.getElem?_eq_none (by simpa using h)] at hu;cases hu
  simp only[c,Nat.zero_add]
  rw[Array.getElem?_append_left (by simpa using s6)]
  simpa using hu
 have Ni:bc (eG μ H.n ⟨w.heap.size,0,cap⟩) (H.push (.cells (cI bs.data.toList) e .aS 0 0)) (w.drew.alloc (.cells c e))/\bN μ H w.drew (eG μ H.n ⟨w.heap.size,0,cap⟩) (H.push (.cells (cI bs.data.toList) e .aS 0 0)) (w.drew.alloc (.cells c e)):=
  ah.drew.alloc (.cells (cI bs.data.toList) e .aS 0 0) (.cells c e) cap
  ⟨c,0,0,World.heap_alloc_new _ _,jj,by simp[g6],by
    refine⟨?_,λj _ _ h=>by omega⟩
    rw[x4,bh];exact hle⟩
 obtain⟨r1,r2⟩:=Ni
 let cA:World:=(w.drew.alloc (.cells c e)).freeze ⟨w.heap.size,cap,none⟩ 1
 have Bf:cA.heap[w.heap.size]? =some (.cells c e (cap,cap+1)):=by
  simp only[cA,World.freeze,if_neg (show¬(1=0) by omega),Array.getElem?_modify]
  have:(w.drew.alloc (.cells c e)).heap[w.heap.size]? =some (.cells c e (0,0)):=World.heap_alloc_new _ _
  rw[this];simp
 have pM:(H.push (.cells (cI bs.data.toList) e .aS 0 0)).get H.n=some (.cells (cI bs.data.toList) e .aS 0 0):=by rw[ab.fA,if_pos rfl]
 have bY:bc (eG μ H.n ⟨w.heap.size,0,cap⟩) ((H.push (.cells (cI bs.data.toList) e .aS 0 0)).set H.n (some (.cells (cI bs.data.toList) e .aS 0 0))) cA/\
   bN (eG μ H.n ⟨w.heap.size,0,cap⟩) (H.push (.cells (cI bs.data.toList) e .aS 0 0)) (w.drew.alloc (.cells c e)) (eG μ H.n ⟨w.heap.size,0,cap⟩) ((H.push (.cells (cI bs.data.toList) e .aS 0 0)).set H.n (some (.cells (cI bs.data.toList) e .aS 0 0))) cA:=
  r1.update pM rfl (fl _ _ _) (by simp[cA,World.freeze]) (λr ai=>by
   simp only[cA,World.freeze,if_neg (show¬(1=0) by omega),Array.getElem?_modify]
   rw[if_neg (λe=>ai e.symm)]) (by simp[cA,World.freeze]) (by simp[cA,World.freeze]) (by simp[cA,World.freeze])
   ⟨c,cap,cap+1,Bf,jj,by simp[g6],by
     refine⟨by rw[x4,bh];exact hle,λj fX hk nI=>by simp only at fX hk;omega⟩⟩
 refine⟨eG μ H.n ⟨w.heap.size,0,cap⟩,cA,.slice (some ⟨w.heap.size,0,none⟩) bs.size cap,?_,⟨⟨w.heap.size,0,cap⟩,fl _ _ _,cap,by simp[bh],by rw[bh];exact hle,by simp⟩,?_,?_⟩
 · simp only[Conv.stringToBytes,Sem.run_bind,run_choose,xZ,Bool.false_eq_true,if_false,World.drew_eq,Result.andThen_ok,hj]
   have ax:(_root_.Go.newRow e c).run P w.drew=.ok ⟨w.heap.size,0,none⟩ (w.drew.alloc (.cells c e)):=rfl
   rw[show(_root_.Go.newRow e ((bs.data.map λb=>.int .u8 b.toNat)++Array.replicate (cap-bs.size) (.int .u8 0))).run P w.drew=_ from ax]
   have av:(w.drew.alloc (.cells c e)).shape? w.heap.size=some (e,cap):=by
    have:(w.drew.alloc (.cells c e)).heap[w.heap.size]? =some (.cells c e (0,0)):=World.heap_alloc_new _ _
    simp only[World.shape?,this,g6]
   simp only[Result.andThen_ok,markStringish,Sem.run_bind,run_shape,av,run_freeze,Sem.run_pure]
   rfl
 ·
  refine⟨λb o i ae ag=>bY.1.rel b o i ?_ ag,λb c' i j ae af=>bY.1.inj b c' i j ?_ ?_,bY.1.lt,λb ae=>?_⟩
  · rw[ab.cD];split
    · rename_i e;subst e;rw[pM] at ae;exact ae
    · exact ae
  · rw[ab.cD];split
    · simp
    · exact ae
  · rw[ab.cD];split
    · exact⟨_,rfl,rfl⟩
    · exact af
  · exact r1.bound b ae
 · refine bN.trans ah ah.drew bN.drew (bN.trans ah.drew r1 r2 ⟨ej.refl _,bY.2.size,Nat.le_refl _,λ_ _ h=>h,λ_ _ _=>rfl,bY.2.old,λb i h ao=>(by rw[h] at ao;cases ao),λb o i ae ai ag=>⟨ae,(bY.2.ro b o i ae ai ag).2⟩,bY.2.os,bY.2.out,bY.2.tape,bY.2.drawn⟩)
theorem Nj{i:ee}{o o':Nat}:(sameAddr ⟨i.a1,i.base+o,none⟩ ⟨i.a1,i.base+o',none⟩).run P w=.ok (Nat.beq o o') w:=by
 simp only[sameAddr,beq_self_eq_true,if_true,Sem.run_pure]
 congr 1
 rw[Bool.eq_iff_iff]
 simp
theorem Nk{r r' o o' el q7:Nat}{c c':Array Value}(h:w.heap[r]? =some (.cells c el (0,0)))(ao:w.heap[r']? =some (.cells c' q7 (0,0)))(cF:r≠r'):
  (sameAddr ⟨r,o,none⟩ ⟨r',o',none⟩).run P w=.ok false w:=by
 have ae:(r==r')=false:=beq_eq_false_iff_ne.2 cF
 have f1:∀k,w.frozen? ⟨r,k,none⟩=false:=λk=>by simp[World.frozen?,h]
 have f2:∀k,w.frozen? ⟨r',k,none⟩=false:=λk=>by simp[World.frozen?,ao]
 have s1:w.shape? r=some (el,c.size):=by simp[World.shape?,h]
 have s2:w.shape? r'=some (q7,c'.size):=by simp[World.shape?,ao]
 simp[sameAddr,ae,f1,f2,noView,viewAt,s1,s2,mayBeOne,stringish]
theorem Bg(w:World)(D:Nat)(E:TypeId->I->I->Option Bool)(eI:∀t x y b bj fo,E t x y=some b->a2 μ x bj->a2 μ y fo->(Op.equalIn D t bj fo).run P w=.ok b w)
  {xs ys:List I}{q8 q9:List Value}(J:bP μ xs q8)(aO:bP μ ys q9):∀(b0:List Field) (b:Bool),eqFields P E xs ys b0=some b->(Op.eqFields D ⟨q8⟩ ⟨q9⟩ b0).run P w=.ok b w
 |[],b,h=>by cases h;rfl
 |f::b0,b,h=>by
  simp only[eqFields] at h
  split at h
  · rename_i aH
    have aH:f.name= "_" :=of_decide_eq_true aH
    have a3:=Bg w D E eI J aO b0 b h
    simp only[Op.eqFields,aH,ne_eq,not_true_eq_false,if_false]
    exact a3
  · rename_i aH
    have aH:¬(f.name= "_"):=of_decide_eq_false aH
    split at h
    · rename_i a c aw af
      obtain⟨vm,eH,fB⟩:=pK (P:=P) (w:=w) J aw
      obtain⟨l0,aV,ba⟩:=pK (P:=P) (w:=w) aO af
      split at h
      · rename_i he
        have ai:=eI _ _ _ _ vm l0 he fB ba
        have a3:=Bg w D E eI J aO b0 b h
        simp only[Op.eqFields,ne_eq,aH,not_false_eq_true,if_true,Sem.run_bind,eH,aV,Result.andThen_ok,ai,Bool.not_true,Bool.false_eq_true,if_false]
        exact a3
      · rename_i r ai
        cases b with
        |true=>exact absurd h ai
        |false=>
         have Bh:=eI _ _ _ _ vm l0 h fB ba
         simp only[Op.eqFields,ne_eq,aH,not_false_eq_true,if_true,Sem.run_bind,eH,aV,Result.andThen_ok,Bh,Bool.not_false,Sem.run_pure]
    · cases h
theorem FF(w:World)(D:Nat){e:TypeId}{sz:Nat}(E:TypeId->I->I->Option Bool)(eI:∀t x y b bj fo,E t x y=some b->a2 μ x bj->a2 μ y fo->(Op.equalIn D t bj fo).run P w=.ok b w){xs ys:List I}{q8 q9:List Value}(J:bP μ xs q8)(aO:bP μ ys q9):
  ∀(n i:Nat) (b:Bool),uT P E e sz xs ys n i=some b->(Op.eqItems D e sz ⟨q8⟩ ⟨q9⟩ (List.range' i n)).run P w=.ok b w
 |0,i,b,h=>by simp only[uT] at h;cases h;simp[Op.eqItems]
 |n+1,i,b,h=>by
  simp only[uT] at h
  rw[List.range'_succ]
  split at h
  · rename_i a c aw af
    obtain⟨vm,eH,fB⟩:=pK (P:=P) (w:=w) J aw
    obtain⟨l0,aV,ba⟩:=pK (P:=P) (w:=w) aO af
    split at h
    · rename_i he
      have ai:=eI _ _ _ _ vm l0 he fB ba
      have a3:=FF w D E eI J aO n (i+1) b h
      simp only[Op.eqItems,Sem.run_bind,eH,aV,Result.andThen_ok,ai,Bool.not_true,Bool.false_eq_true,if_false]
      exact a3
    · rename_i r ai
      cases b with
      |true=>exact absurd h ai
      |false=>
       have Bh:=eI _ _ _ _ vm l0 h fB ba
       simp only[Op.eqItems,Sem.run_bind,eH,aV,Result.andThen_ok,Bh,Bool.not_false,if_true,Sem.run_pure]
  · cases h
set_option maxHeartbeats 4000000 in
theorem q_(ah:bc μ H w):∀(d:Nat) (t:TypeId) (x y:I) (b:Bool) (bj fo:Value) (D:Nat),d<=D->e0 P H d t x y=some b->a2 μ x bj->a2 μ y fo->(Op.equalIn D t bj fo).run P w=.ok b w
 |0,t,x,y,b,bj,fo,D,_,h,_,_=>by simp[e0] at h
 |d+1,t,x,y,b,bj,fo,0,ak,_,_,_=>by omega
 |d+1,t,x,y,b,bj,fo,D+1,ak,h,J,aO=>by
  unfold e0 at h
  cases hu:P.underlying t with
  |none=>rw[hu] at h;cases h
  |some u=>
   rw[hu] at h
   cases u<;>simp only at h
   case bool=>
    split at h<;>cases h
    cases J;cases aO
    simp[Op.equalIn,bE hu]
   case int pP=>
    split at h
    · split at h
      · rename_i an;cases h;subst an;cases J;cases aO
        simp[Op.equalIn,bE hu,cW]
      · cases h
    · cases h
   case string=>
    split at h<;>cases h
    obtain⟨s1,rfl,rfl⟩:=J
    obtain⟨s2,rfl,rfl⟩:=aO
    rw[nF,<-pI,<-pI,<-beq_toListBytes]
    simp[Op.equalIn,bE hu]
   case pointer e=>
    split at h
    · cases h;cases J;cases aO;simp[Op.equalIn,bE hu]
    · cases h;cases J;obtain⟨i,_,rfl⟩:=aO;simp[Op.equalIn,bE hu]
    · cases h;cases aO;obtain⟨i,_,rfl⟩:=J;simp[Op.equalIn,bE hu]
    · rename_i a i g7 j
      split at h
      · rename_i n hs
        obtain⟨s7,Bi,rfl⟩:=J
        obtain⟨gk,x7,rfl⟩:=aO
        have bh:(_root_.Go.sizeOf e).run P w=.ok (n+1) w:=run_sizeOf hs
        have goal:∀r,(sameAddr ⟨s7.a1,s7.base+i,none⟩ ⟨gk.a1,gk.base+j,none⟩).run P w=r->(Op.equalIn (D+1) t (.pointer (some ⟨s7.a1,s7.base+i,none⟩)) (.pointer (some ⟨gk.a1,gk.base+j,none⟩))).run P w=r:=by
         intro r ai
         simp[Op.equalIn,bE hu,bh,ai]
        unfold AO at h
        split at h
        · rename_i eA
          cases h
          have:=Nat.eq_of_beq_eq_true eA
          subst this
          rw[Bi] at x7;cases x7
          exact goal _ Nj
        · rename_i eA
          split at h
          · rename_i oB x8
            cases h
            obtain⟨aT,_,_,bJ,_,_,bR⟩:=ah.rel _ _ s7 oB Bi
            obtain⟨bp,_,_,bW,_,_,cM⟩:=ah.rel _ _ gk x8 x7
            obtain⟨_,_,rfl,rfl⟩:=bR
            obtain⟨_,_,rfl,rfl⟩:=cM
            refine goal _ (Nk bJ bW λe=>?_)
            have:=ah.inj _ _ s7 gk (by rw[oB];simp) ⟨_,x8,rfl⟩ Bi x7 e
            subst this
            simp at eA
          · cases h
      · cases h
    · cases h
   case slice e=>
    have im:∀(b off n:Nat) (c:c7) (v:Value),a2 μ (.slice b off n c) v->∃a m k,v=.slice (some a) m k:=by
     rintro b off n c v ⟨i,_,af⟩
     cases c with
     |exact c=>cases af;exact⟨_,_,_,rfl⟩
     |aS fw=>obtain⟨c,rfl,_⟩:=af;exact⟨_,_,_,rfl⟩
     |dead=>obtain⟨_,a,c,rfl⟩:=af;exact⟨_,_,_,rfl⟩
    split at h
    · cases h;cases J;cases aO;simp[Op.equalIn,bE hu]
    · cases h;cases J;obtain⟨a,m,k,rfl⟩:=im _ _ _ _ _ aO;simp[Op.equalIn,bE hu]
    · cases h;cases aO;obtain⟨a,m,k,rfl⟩:=im _ _ _ _ _ J;simp[Op.equalIn,bE hu]
    · cases h
   case map k e=>
    split at h
    · cases h;cases J;cases aO;simp[Op.equalIn,bE hu]
    · cases h;cases J;obtain⟨i,_,rfl⟩:=aO;simp[Op.equalIn,bE hu]
    · cases h;cases aO;obtain⟨i,_,rfl⟩:=J;simp[Op.equalIn,bE hu]
    · cases h
   case func ps rs v=>
    split at h
    · cases h;cases J;cases aO;simp[Op.equalIn,bE hu]
    · cases h;cases J;obtain⟨_,_,rfl,_⟩:=aO;simp[Op.equalIn,bE hu]
    · cases h;cases aO;obtain⟨_,_,rfl,_⟩:=J;simp[Op.equalIn,bE hu]
    · cases h
   case interface ms=>
    split at h
    · cases h;cases J;cases aO;simp[Op.equalIn,bE hu]
    · cases h;cases J;obtain⟨_,rfl,_⟩:=aO;simp[Op.equalIn,bE hu]
    · cases h;cases aO;obtain⟨_,rfl,_⟩:=J;simp[Op.equalIn,bE hu]
    · rename_i a v g7 u
      obtain⟨v1,rfl,r1⟩:=J
      obtain⟨vn,rfl,r2⟩:=aO
      split at h
      · rename_i eA
        cases h
        have:a≠g7:=by intro e;subst e;simp at eA
        simp[Op.equalIn,bE hu,this]
      · rename_i eA
        have:=Nat.eq_of_beq_eq_true eA
        subst this
        split at h
        · rename_i Bj x0
          split at h
          · rename_i Nl
            have a3:=q_ ah d a v u b v1 vn D (by omega) h r1 r2
            simp[Op.equalIn,bE hu,run_typeInfo x0,Nl,a3]
          · cases h
        · cases h
    · cases h
   case struct b0=>
    split at h
    · rename_i xs ys
      split at h
      · cases h
      · rename_i bY
        obtain⟨q8,rfl,kG⟩:=J
        obtain⟨q9,rfl,Bk⟩:=aO
        have key:=Bg (P:=P) w D (e0 P H d) (λt x y b bj fo he aa ad=>q_ ah d t x y b bj fo D (by omega) he aa ad) kG Bk b0.toList b h
        have mG:P.fieldsOf t=b0:=by simp[Program.fieldsOf,hu]
        rw[run_equalIn_struct w D t _ _ (by rw[mG];exact hu) bY,mG]
        exact key
    · cases h
   case array n e=>
    split at h
    · rename_i xs ys
      split at h
      · rename_i sz bh
        obtain⟨q8,rfl,kG⟩:=J
        obtain⟨q9,rfl,Bk⟩:=aO
        have ag:∃i,P.info? e=some i/\i.size=sz:=by
         unfold cY at bh
         split at bh
         · rename_i i ag;cases bh;exact⟨i,ag,rfl⟩
         · cases bh
        obtain⟨i,ag,Nm⟩:=ag
        have Nn:P.cellsOf e=sz:=by unfold Program.cellsOf;rw[ag];exact Nm
        rw[run_equalIn_array w D _ _ hu ag,Nn,List.range_eq_range']
        exact FF w D (e0 P H d) (λt x y b bj fo he aa ad=>q_ ah d t x y b bj fo D (by omega) he aa ad) kG Bk n 0 b h
      · cases h
    · cases h
   all_goals cases h
theorem FG{u:TypeDesc}{kt:TypeId}(hu:P.underlying kt=some u){k x:I}{kv bj:Value}{b:Bool}(an:mv P kt k=true)(h:nn k x=some b)(aa:a2 μ k kv)(ad:a2 μ x bj):Instr.sameNow u kv bj=some b:=by
 unfold mv at an
 rw[hu] at an
 cases u<;>simp only at an<;>try cases an
 ·
  split at an<;>try cases an
  cases x<;>simp only[nn] at h<;>cases h
  cases aa;cases ad;rfl
 ·
  split at an<;>try cases an
  cases x<;>simp only[nn] at h<;>try cases h
  split at h
  · rename_i e;cases h;subst e;cases aa;cases ad;simp[Instr.sameNow,cW]
  · cases h
 · split at an<;>try cases an
   cases x<;>simp only[nn] at h<;>cases h
   obtain⟨s1,rfl,rfl⟩:=aa
   obtain⟨s2,rfl,rfl⟩:=ad
   simp only[Instr.sameNow]
   rw[nF,<-pI,<-pI,<-beq_toListBytes]
def x9(μ:bb):Option (Nat×I)->Option (Nat×Value)->Prop
 |none,none=>True
 |some (i,a),some (j,v)=>i=j/\a2 μ a v
 |_,_=>False
theorem FH{H:ab}{kt:TypeId}{k x:I}(an:∀cs,k≠ .agg cs):np P H kt k x=nn k x:=by
 cases k<;>first|rfl|exact absurd rfl (an _)
theorem FI{kt:TypeId}{k:I}(an:∀cs,k≠ .agg cs)(h:kz P kt k=true):mv P kt k=true:=by
 cases k<;>first|exact h|exact absurd rfl (an _)
theorem FJ{H:ab}{u:TypeDesc}{kt:TypeId}(hu:P.underlying kt=some u){k:I}{kv:Value}(hs:∀cs,k≠ .agg cs)(an:mv P kt k=true)(aa:a2 μ k kv):∀(es:List db) (ents:List MapEntry) (i:Nat) (r:Option (Nat×I)),e2 μ es ents->ij P H kt k es i=some r->
  ∃r',Instr.findNow u kv ents i=some r'/\x9 μ r r'
 |[],_,i,r,he,h=>by
  cases he;simp[ij] at h;subst h
  exact⟨none,rfl,trivial⟩
 |e::es,_,i,r,⟨m,ms,ax,av,bq⟩,h=>by
  subst ax
  simp only[ij,FH hs] at h
  split at h
  · rename_i hs
    cases h
    exact⟨some (i,m.val),by simp[Instr.findNow,FG hu an hs aa av.1],rfl,av.2.1⟩
  · rename_i aE
    obtain⟨r',aV,ba⟩:=FJ hu hs an aa es ms (i+1) r bq h
    exact⟨r',by simp[Instr.findNow,FG hu an aE aa av.1,aV],ba⟩
  · cases h
theorem FK(ah:bc μ H w){kt:TypeId}{cs:List I}{kv:Value}(aa:a2 μ (.agg cs) kv):∀(es:List db) (ents:List MapEntry) (i:Nat) (r:Option (Nat×I)),e2 μ es ents->ij P H kt (.agg cs) es i=some r->
  ∃r',(Instr.findAsking kt kv ents i).run P w=.ok r' w/\x9 μ r r'
 |[],_,i,r,he,h=>by
  cases he;simp[ij] at h;subst h
  exact⟨none,rfl,trivial⟩
 |e::es,_,i,r,⟨m,ms,ax,av,bq⟩,h=>by
  subst ax
  simp only[ij,np] at h
  split at h
  · rename_i hs
    cases h
    have:=q_ (P:=P) ah 8 kt _ _ true kv m.key Op.maxDepth (by decide) hs aa av.1
    exact⟨some (i,m.val),by simp[Instr.findAsking,Op.equal,this],rfl,av.2.1⟩
  · rename_i hs
    have:=q_ (P:=P) ah 8 kt _ _ false kv m.key Op.maxDepth (by decide) hs aa av.1
    obtain⟨r',aV,ba⟩:=FK ah aa es ms (i+1) r bq h
    exact⟨r',by simp[Instr.findAsking,Op.equal,this,aV],ba⟩
  · cases h
theorem Bl{H:ab}{kt:TypeId}{k:I}:∀(es:List db) (i j:Nat) (v:I),ij P H kt k es i=some (some (j,v))->i<=j/\∃e,es[j-i]? =some e/\e.val=v/\np P H kt k e.key=some true
 |[],i,j,v,h=>by simp[ij] at h
 |e::es,i,j,v,h=>by
  simp only[ij] at h
  split at h
  · rename_i hs
    cases h;exact⟨Nat.le_refl _,e,by simp,rfl,hs⟩
  · obtain⟨aa,cn,ad,aq⟩:=Bl es (i+1) j v h
    refine⟨by omega,cn,?_,aq⟩
    have:j-i=(j-(i+1))+1:=by omega
    rw[this];simpa using ad
  · cases h
theorem Bm{kt:TypeId}{k:I}{kv:Value}(an:mv P kt k=true)(b:Bool)(n:Nat):(Instr.checkKey b (n+1) kt kv).run P w=.ok () w:=by
 unfold mv at an
 cases hu:P.underlying kt with
 |none=>rw[hu] at an;cases an
 |some u=>
  rw[hu] at an
  cases u<;>simp only at an<;>try cases an
  all_goals simp[Instr.checkKey,bE hu]
theorem FL(b:Bool){m n:Nat}(hm:m=n+1){cs:List I}{l:List Value}(ar:bP μ cs l):∀(b0:List Field),xG P cs b0=true->
  (forIn b0 PUnit.unit (λf _=>if f.name≠ "_" then(do let x<-part f.type ⟨l⟩ f.offset;Instr.checkKey b m f.type x;pure (ForInStep.yield PUnit.unit)) else pure (ForInStep.yield PUnit.unit)):Sem PUnit).run P w=.ok PUnit.unit w
 |[],h=>by simp
 |f::b0,h=>by
  unfold xG at h
  split at h
  · rename_i a aw
    split at h
    · rename_i an
      have a3:=FL b hm ar b0 h
      obtain⟨u,eH,fB⟩:=pK (P:=P) (w:=w) ar aw
      have af:=Bm (P:=P) (w:=w) (kv:=u) an b n
      rw[<-hm] at af
      rw[List.forIn_cons]
      by_cases aH:f.name= "_"
      · simp only[aH,ne_eq,not_true_eq_false,if_false,Sem.run_bind,Sem.run_pure,Result.andThen_ok]
        exact a3
      · simp only[ne_eq,aH,not_false_eq_true,if_true,Sem.run_bind,eH,Result.andThen_ok,af,Sem.run_pure]
        exact a3
    · cases h
  · cases h
theorem FM(b:Bool){m n:Nat}(hm:m=n+1){e:TypeId}{sz:Nat}(bh:cY P e=some sz){cs:List I}{l:List Value}(ar:bP μ cs l):∀(k i:Nat),xH P e sz cs k i=true->
  (forIn (List.range' i k) PUnit.unit (λi _=>do (Instr.checkKey b m e (<-part e ⟨l⟩ (i*(<-_root_.Go.sizeOf e))));pure (ForInStep.yield PUnit.unit)):Sem PUnit).run P w=.ok PUnit.unit w
 |0,i,h=>by simp
 |k+1,i,h=>by
  unfold xH at h
  split at h
  · rename_i a aw
    split at h
    · rename_i an
      have a3:=FM b hm bh ar k (i+1) h
      obtain⟨u,eH,fB⟩:=pK (P:=P) (w:=w) ar aw
      have af:=Bm (P:=P) (w:=w) (kv:=u) an b n
      rw[<-hm] at af
      rw[List.range'_succ,List.forIn_cons]
      simp only[Sem.run_bind,run_sizeOf bh,eH,Result.andThen_ok,af,Sem.run_pure]
      exact a3
    · cases h
  · cases h
theorem No{kt:TypeId}{cs:List I}{l:List Value}(ar:bP μ cs l)(an:kz P kt (.agg cs)=true)(b:Bool){m n:Nat}(hm:m=n+1):(Instr.checkKey b (m+1) kt (.agg ⟨l⟩)).run P w=.ok () w:=by
 unfold kz at an
 simp only at an
 split at an
 · rename_i b0 hu
   have key:=FL (P:=P) (w:=w) b hm ar b0.toList an
   simp only[Instr.checkKey,Sem.run_bind,bE hu,Result.andThen_ok]
   rw[<-Array.forIn_toList]
   first|exact key|exact Eq.trans (congrArg (λq=>Result.andThen q _) key) rfl|simpa using key
 · rename_i Np e hu
   split at an
   · rename_i sz bh
     have key:=FM (P:=P) (w:=w) b hm bh ar Np 0 an
     simp only[Instr.checkKey,Sem.run_bind,bE hu,Result.andThen_ok]
     simp only[Std.Legacy.Range.forIn_eq_forIn_range',Std.Legacy.Range.size,Nat.sub_zero,Nat.add_one_sub_one,Nat.div_one]
     first|exact key|exact Eq.trans (congrArg (λq=>Result.andThen q _) key) rfl|simpa using key
   · cases an
 · cases an
theorem nJ{kt:TypeId}{k:I}{kv:Value}(an:kz P kt k=true)(aa:a2 μ k kv)(b:Bool):(Instr.checkKey b 10000 kt kv).run P w=.ok () w:=by
 by_cases hs:∀cs,k≠ .agg cs
 · exact Bm (FI hs an) b 9999
 · have:∃cs,k=.agg cs:=by
     cases k<;>first|exact⟨_,rfl⟩|exact absurd (λcs h=>by cases h) hs
   obtain⟨cs,rfl⟩:=this
   obtain⟨l,rfl,ar⟩:=aa
   exact No ar an b (m:=9999) (n:=9998) rfl
theorem pQ(ah:bc μ H w){kt:TypeId}{k:I}{kv:Value}(an:kz P kt k=true)(aa:a2 μ k kv){es:List db}{ents:List MapEntry}{r:Option (Nat×I)}(he:e2 μ es ents)(h:ij P H kt k es 0=some r):
  ∃r',(Instr.findKey kt kv ents).run P w=.ok r' w/\x9 μ r r':=by
 by_cases hs:∀cs,k≠ .agg cs
 · have ek:=FI hs an
   cases hu:P.underlying kt with
   |none=>unfold mv at ek;rw[hu] at ek;cases ek
   |some u=>
    obtain⟨r',aV,ba⟩:=FJ hu hs ek aa es ents 0 r he h
    exact⟨r',by simp[Instr.findKey,bE hu,aV],ba⟩
 · have:∃cs,k=.agg cs:=by
     cases k<;>first|exact⟨_,rfl⟩|exact absurd (λcs h=>by cases h) hs
   obtain⟨cs,rfl⟩:=this
   have hu:∃u,P.underlying kt=some u:=by
    unfold kz at an
    simp only at an
    split at an
    · exact⟨_,by assumption⟩
    · exact⟨_,by assumption⟩
    · cases an
   obtain⟨u,hu⟩:=hu
   obtain⟨r',aV,ba⟩:=FK (P:=P) ah aa es ents 0 r he h
   obtain⟨l,rfl,ar⟩:=aa
   refine⟨r',?_,ba⟩
   have aH:∀(ms:List MapEntry),ms≠[]->Instr.findNow u (.agg ⟨l⟩) ms 0=none:=λms Nq=>by
    cases ms with
    |nil=>exact absurd rfl Nq
    |cons m ms=>cases u<;>rfl
   cases ents with
   |nil=>
    cases es with
    |nil=>simp only[ij] at h;cases h;cases r' with
     |none=>simp[Instr.findKey,bE hu,Instr.findNow]
     |some y=>exact ba.elim
    |cons e es=>obtain⟨_,_,af,_⟩:=he;cases af
   |cons m ms=>
    simp only[Instr.findKey,Sem.run_bind,bE hu,Result.andThen_ok,aH (m::ms) (by simp)]
    exact aV
theorem e2.append:∀{es b0:List db} {ms ns:List MapEntry},e2 μ es ms->e2 μ b0 ns->e2 μ (es++b0) (ms++ns)
 |[],_,_,_,h,ao=>by cases h;exact ao
 |_::_,_,_,_,⟨m,ms,e,aa,ad⟩,ao=>by subst e;exact⟨m,ms++_,rfl,aa,e2.append ad ao⟩
theorem e2.get:∀{es:List db} {ms:List MapEntry} (_:e2 μ es ms) {j:Nat} {e:db},es[j]? =some e->∃m,ms[j]? =some m/\pC μ e m
 |[],_,_,j,e,h=>by simp at h
 |x::es,_,⟨m,ms,e,aa,ad⟩,0,a,h=>by subst e;simp at h;subst h;exact⟨m,rfl,aa⟩
 |x::es,_,⟨m,ms,e,aa,ad⟩,j+1,a,h=>by subst e;simp at h;simpa using e2.get ad h
theorem e2.set{v key:I}{vv kv:Value}(aD:a2 μ v vv)(an:a2 μ key kv):∀(i:Nat) {es:List db} {ms:List MapEntry},e2 μ es ms->e2 μ (oi v key i es) (ms.modify i λe=>{e with key:=kv,val:=vv})
 |0,[],_,h=>by cases h;rfl
 |_+1,[],_,h=>by cases h;rfl
 |0,e::es,_,⟨m,ms,cn,aa,ad⟩=>by subst cn;exact⟨_,ms,rfl,⟨an,aD,aa.2.2⟩,ad⟩
 |i+1,e::es,_,⟨m,ms,cn,aa,ad⟩=>by subst cn;exact⟨m,_,rfl,aa,e2.set aD an i ad⟩
theorem e2.del:∀(i:Nat) {es:List db} {ms:List MapEntry},e2 μ es ms->e2 μ (uX i es) (ms.eraseIdx i)
 |0,[],_,h=>by cases h;rfl
 |_+1,[],_,h=>by cases h;rfl
 |0,e::es,_,⟨m,ms,cn,aa,ad⟩=>by subst cn;exact ad
 |i+1,e::es,_,⟨m,ms,cn,aa,ad⟩=>by subst cn;exact⟨m,_,rfl,aa,e2.del i ad⟩
theorem vo{r:Nat}{i:ee}{es:List db}{clock:Nat}(ah:bc μ H w)(ag:μ r=some i)(aj:H.get r=some (.map es clock)):∃ents,w.heap[i.a1]? =some (.map ⟨ents⟩ clock)/\e2 μ es ents/\(getObj i.a1).run P w=.ok (.map ⟨ents⟩ clock) w:=by
 obtain⟨ents,ax,av⟩:=ah.rel _ _ i aj ag
 exact⟨ents,ax,av,by simp[getObj,Sem.run,ax]⟩
theorem ra{r:Nat}{i:ee}{es pR:List db}{clock c':Nat}{ents ents':List MapEntry}(ah:bc μ H w)(ag:μ r=some i)(aj:H.get r=some (.map es clock))(he:w.heap[i.a1]? =some (.map ⟨ents⟩ clock))(ai:e2 μ pR ents'):
  ∃w',(setObj i.a1 (.map ⟨ents'⟩ c')).run P w=.ok () w'/\bc μ (H.set r (some (.map pR c'))) w'/\bN μ H w μ (H.set r (some (.map pR c'))) w':=by
 have bX:i.a1<w.heap.size:=(ah.lt _ _ ag).2
 obtain⟨r1,r2⟩:=ah.update (w':={w with heap:=w.heap.setIfInBounds i.a1 (.map ⟨ents'⟩ c')}) (o':=.map pR c') aj rfl ag (by simp) (λr ai=>by simp[Array.getElem?_setIfInBounds];intro e;exact absurd e.symm ai) rfl rfl rfl
  ⟨ents',by simp[bX],ai⟩
 exact⟨_,by simp[setObj,Sem.run,he],r1,r2⟩
end
end a8
namespace a8
open Go
section
variable {P:Program} {μ:bb} {H:ab} {w:World}
theorem FN{h2:TypeId}{ok:Bool}{r:Option (Nat×I)}{r':Option (Nat×Value)}(ai:x9 μ r r'){v:I}(h:nq P h2 ok r=some v):
  ∃u b,a2 μ v (if ok then .tuple #[u,.bool b] else u)/\((∃j,r'=some (j,u)/\b=true)\/(r'=none/\(zeroValue h2).run P w=.ok u w/\b=false)):=by
 cases r with
 |none=>
  cases r' with
  |some x=>exact ai.elim
  |none=>
   simp only[nq] at h
   split at h
   · rename_i z aP
     cases h
     obtain⟨eJ,aV,rfl,_⟩:=kC (P:=P) (w:=w) aP
     have:=iP μ eJ
     refine⟨eJ,false,?_,.inr ⟨rfl,aV,rfl⟩⟩
     cases ok
     · exact this
     · exact⟨_,rfl,_,_,rfl,this,_,_,rfl,rfl,rfl⟩
   · cases h
 |some x=>
  cases r' with
  |none=>exact ai.elim
  |some y=>
   obtain⟨i,a⟩:=x
   obtain⟨j,u⟩:=y
   obtain⟨rfl,s8⟩:=ai
   simp only[nq] at h
   cases h
   refine⟨u,true,?_,.inl ⟨_,rfl,rfl⟩⟩
   cases ok
   · exact s8
   · exact⟨_,rfl,_,_,rfl,s8,_,_,rfl,rfl,rfl⟩
theorem Nr(ah:bc μ H w){t:TypeId}{m k:I}{kH kv:Value}(hm:a2 μ m kH)(an:a2 μ k kv){ok:Bool}{v:I}(h:gv P H t m k ok=some v):dV P μ H w (Instr.lookup t kH kv ok) v H:=by
 unfold gv at h
 split at h
 · rename_i kt h2 hu
   split at h
   · rename_i h4
     split at h
     · cases hm
       obtain⟨u,b,aV,ba⟩:=FN (P:=P) (w:=w) (μ:=μ) (r:=none) (r':=none) trivial h
       refine .same ah (v':=if ok then .tuple #[u,.bool b] else u) ?_ aV
       have hf:(Instr.findKey kt kv []).run P w=.ok none w:=by
        obtain⟨r',b8,cG⟩:=pQ (P:=P) (w:=w) (μ:=μ) (es:=[]) (ents:=[]) (r:=none) ah h4 an rfl rfl
        cases r' with
        |none=>exact b8
        |some x=>exact cG.elim
       rcases ba with⟨j,e,_⟩|⟨_,ba,rfl⟩
       · cases e
       · simp[Instr.lookup,bE hu,nJ h4 an,hf,ba]
     · rename_i r
       split at h
       · rename_i es clock aj
         split at h
         · rename_i cK hf
           obtain⟨i,ag,rfl⟩:=hm
           obtain⟨ents,ax,av,bq⟩:=vo (P:=P) ah ag aj
           obtain⟨r',b8,cG⟩:=pQ (P:=P) (w:=w) ah h4 an av hf
           obtain⟨u,b,aV,ba⟩:=FN (P:=P) (w:=w) (μ:=μ) cG h
           refine .same ah (v':=if ok then .tuple #[u,.bool b] else u) ?_ aV
           rcases ba with⟨j,rfl,rfl⟩|⟨rfl,ba,rfl⟩
           · simp[Instr.lookup,bE hu,nJ h4 an,bq,b8]
           · simp[Instr.lookup,bE hu,nJ h4 an,bq,b8,ba]
         · cases h
       · cases h
     · cases h
   · cases h
 · cases h
theorem FO{k x:I}{kv bj:Value}(n:Nat)(h:nn k x=some true)(aa:a2 μ k kv)(ad:a2 μ x bj):Instr.sameBits n bj kv=true:=by
 cases k<;>cases x<;>simp only[nn] at h<;>try cases h
 · simp at h;subst h;cases aa;cases ad;simp[Instr.sameBits]
 · split at h
   · rename_i e;subst e
     simp[cW] at h;subst h;cases aa;cases ad;simp[Instr.sameBits]
   · cases h
 · simp only[Option.some.injEq] at h
   obtain⟨s1,rfl,rfl⟩:=aa
   obtain⟨s2,rfl,rfl⟩:=ad
   rw[nF,<-pI,<-pI,<-beq_toListBytes] at h
   have:(s2==s1)=true:=by rw[beq_toListBytes] at h⊢;rw[beq_iff_eq] at h⊢;exact h.symm
   simpa[Instr.sameBits] using this
theorem FP(n:Nat):∀(a b:List I) (j6 rb:List Value),uV a b=true->bP μ a j6->bP μ b rb->rb.length=j6.length/\(rb.zip j6).all (λ(x,y)=>Instr.sameBits n x y)=true
 |[],[],j6,rb,_,aa,ad=>by cases aa;cases ad;exact⟨rfl,rfl⟩
 |[],_::_,_,_,h,_,_=>by cases h
 |_::_,[],_,_,h,_,_=>by cases h
 |x::a,y::b,_,_,h,⟨u,us,rfl,vn,s9⟩,⟨v,vs,rfl,v1,v2⟩=>by
  unfold uV at h
  split at h
  · rename_i hs
    obtain⟨ax,av⟩:=FP n a b us vs h s9 v2
    refine⟨by simp[ax],?_⟩
    rw[List.zip_cons_cons,List.all_cons,av,Bool.and_true]
    exact FO n hs vn v1
  · cases h
theorem FQ{kt:TypeId}{k x:I}{kv bj:Value}(h:np P H kt k x=some true)(bY:pt k x=true)(aa:a2 μ k kv)(ad:a2 μ x bj):Instr.sameBits 10000 bj kv=true:=by
 by_cases hs:∀cs,k≠ .agg cs
 · rw[FH hs] at h
   exact FO 10000 h aa ad
 · have:∃cs,k=.agg cs:=by
     cases k<;>first|exact⟨_,rfl⟩|exact absurd (λcs h=>by cases h) hs
   obtain⟨a,rfl⟩:=this
   have:∃b,x=.agg b:=by
    cases x<;>first|exact⟨_,rfl⟩|cases bY
   obtain⟨b,rfl⟩:=this
   obtain⟨j6,rfl,s9⟩:=aa
   obtain⟨rb,rfl,v2⟩:=ad
   have Ns:uV a b=true:=bY
   obtain⟨ax,av⟩:=FP (μ:=μ) 9999 a b j6 rb Ns s9 v2
   show Instr.sameBits (9999+1) (.agg ⟨rb⟩) (.agg ⟨j6⟩)=true
   generalize 9999=n at av⊢
   simp only[Instr.sameBits]
   rw[av,Bool.and_true]
   simp[ax]
theorem Bn(l:List MapEntry)(i:Nat)(f:MapEntry->MapEntry):(⟨l⟩:Array MapEntry).modify i f=⟨l.modify i f⟩:=by
 apply Array.ext'
 simp
theorem FR(ah:bc μ H w){t:TypeId}{m k x:I}{kH kv bj:Value}(hm:a2 μ m kH)(an:a2 μ k kv)(J:a2 μ x bj){aI:ab}(h:sQ P H t m k x=some aI):
  ∃w',(Instr.mapUpdate t kH kv bj).run P w=.ok () w'/\bc μ aI w'/\bN μ H w μ aI w':=by
 unfold sQ at h
 split at h
 · rename_i kt h2 hu
   split at h
   · rename_i h4
     split at h
     · rename_i r
       split at h
       · rename_i es clock aj
         obtain⟨i,ag,rfl⟩:=hm
         obtain⟨ents,ax,av,bq⟩:=vo (P:=P) ah ag aj
         split at h
         · rename_i j a hf
           have re:pt k (uW j es)=true:=by
            cases af:pt k (uW j es) with
            |true=>rfl
            |false=>rw[af] at h;cases h
           rw[re] at h
           cases h
           obtain⟨r',b8,cG⟩:=pQ (P:=P) (w:=w) ah h4 an av hf
           cases r' with
           |none=>exact cG.elim
           |some y=>
            obtain⟨hB,u⟩:=y
            obtain⟨rfl,s8⟩:=cG
            obtain⟨_,l1,aV,ba,b1⟩:=Bl es 0 j a hf
            obtain⟨mH,eH,fB⟩:=av.get (by simpa using aV)
            have re:pt k l1.key=true:=by
             have:uW j es=l1.key:=by unfold uW;rw[ow,show es[j]? =some l1 by simpa using aV]
             rw[<-this];exact re
            have bY:(Instr.keyThatStays (((ents[j]?).map (·.key)).getD kv) kv).run P w=.ok kv w:=by
             simp only[Instr.keyThatStays,eH,Option.map_some,Option.getD_some,FQ b1 re an fB.1,if_true,Sem.run_pure]
            obtain⟨w',dk,eB,hS⟩:=ra (P:=P) (c':=clock) ah ag aj ax (av.set J an j)
            refine⟨w',?_,eB,hS⟩
            simp only[Instr.mapUpdate,Sem.run_bind,bE hu,Result.andThen_ok,bq,nJ h4 an,b8,List.getElem?_toArray,bY,Bn,dk]
         · rename_i hf
           cases h
           obtain⟨r',b8,cG⟩:=pQ (P:=P) (w:=w) ah h4 an av hf
           cases r' with
           |some y=>exact cG.elim
           |none=>
            obtain⟨w',dk,eB,hS⟩:=ra (P:=P) (c':=clock+1) (ents':=ents++[⟨kv,bj,clock⟩]) ah ag aj ax (av.append (show e2 μ [⟨k,x,clock⟩] [⟨kv,bj,clock⟩] from⟨_,_,rfl,⟨an,J,rfl⟩,rfl⟩))
            refine⟨w',?_,eB,hS⟩
            simp only[Instr.mapUpdate,Sem.run_bind,bE hu,Result.andThen_ok,bq,nJ h4 an,b8,List.push_toArray,dk]
         · cases h
       · cases h
     · cases h
   · cases h
 · cases h
theorem Nt(ah:bc μ H w){t:TypeId}{m k:I}{kH kv:Value}(hm:a2 μ m kH)(an:a2 μ k kv){v:I}{aI:ab}(h:nr P H t m k=some (v,aI)):dV P μ H w (Instr.mapEntry t kH kv) v aI:=by
 unfold nr at h
 split at h
 · rename_i kt h2 hu
   split at h
   · rename_i h4
     split at h
     · rename_i r
       split at h
       · rename_i es clock aj
         obtain⟨i,ag,rfl⟩:=hm
         obtain⟨ents,ax,av,bq⟩:=vo (P:=P) ah ag aj
         split at h
         · rename_i j a hf
           split at h
           · rename_i l1 nK
             have re:pt k l1.key=true:=by
              cases af:pt k l1.key with
              |true=>rfl
              |false=>rw[af] at h;cases h
             rw[re] at h
             cases h
             rw[ow] at nK
             obtain⟨r',b8,cG⟩:=pQ (P:=P) (w:=w) ah h4 an av hf
             cases r' with
             |none=>exact cG.elim
             |some y=>
              obtain⟨hB,u⟩:=y
              obtain⟨rfl,s8⟩:=cG
              obtain⟨_,FT,aV,ba,b1⟩:=Bl es 0 j a hf
              have:FT=l1:=by
               have FU:es[j]? =some FT:=by simpa using aV
               rw[nK] at FU;cases FU;rfl
              subst this
              obtain⟨mH,eH,fB⟩:=av.get nK
              have bY:(Instr.keyThatStays (((ents[j]?).map (·.key)).getD kv) kv).run P w=.ok kv w:=by
               simp only[Instr.keyThatStays,eH,Option.map_some,Option.getD_some,FQ b1 re an fB.1,if_true,Sem.run_pure]
              have pS:e2 μ (oi a k j es) (ents.modify j λe=>{e with key:=kv}):=by
               have hs:=av.set (v:=a) (vv:=mH.val) (key:=k) (kv:=kv) (by rw[<-ba];exact fB.2.1) an j
               have:(ents.modify j λe=>{e with key:=kv,val:=mH.val})=(ents.modify j λe=>{e with key:=kv}):=by
                apply List.ext_getElem?
                intro q
                rw[List.getElem?_modify,List.getElem?_modify]
                by_cases aE:j=q
                · subst aE;rw[eH];simp
                · simp[aE]
               rw[<-this];exact hs
              obtain⟨w',dk,eB,hS⟩:=ra (P:=P) (c':=clock) ah ag aj ax pS
              refine⟨μ,w',.tuple #[u,.int .i64 (mH.born:Int)],?_,⟨_,rfl,_,_,rfl,s8,_,_,rfl,by rw[fB.2.2];rfl,rfl⟩,eB,hS⟩
              rw[eH,Option.map_some,Option.getD_some] at bY
              simp only[Instr.mapEntry,Sem.run_bind,bE hu,Result.andThen_ok,bq,nJ h4 an,b8,List.getElem?_toArray,eH,Option.map_some,Option.getD_some,bY,Bn,dk,goInt,Sem.run_pure]
           · cases h
         · rename_i hf
           split at h
           · rename_i z aP
             cases h
             obtain⟨eJ,vp,rfl,_⟩:=kC (P:=P) (w:=w) aP
             obtain⟨r',b8,cG⟩:=pQ (P:=P) (w:=w) ah h4 an av hf
             cases r' with
             |some y=>exact cG.elim
             |none=>
              obtain⟨w',dk,eB,hS⟩:=ra (P:=P) (c':=clock+1) (ents':=ents++[⟨kv,eJ,clock⟩]) ah ag aj ax (av.append (show e2 μ [⟨k,mr eJ,clock⟩] [⟨kv,eJ,clock⟩] from⟨_,_,rfl,⟨an,iP μ eJ,rfl⟩,rfl⟩))
              refine⟨μ,w',.tuple #[eJ,.int .i64 (clock:Int)],?_,⟨_,rfl,_,_,rfl,iP μ eJ,_,_,rfl,rfl,rfl⟩,eB,hS⟩
              simp only[Instr.mapEntry,Sem.run_bind,bE hu,Result.andThen_ok,bq,nJ h4 an,b8,vp,List.push_toArray,dk,goInt,Sem.run_pure]
           · cases h
         · cases h
       · cases h
     · cases h
   · cases h
 · cases h
theorem FV{born:Int}:∀(es:List db) (ents:List MapEntry) (i j:Nat) (e:db),e2 μ es ents->qQ born es i=some (j,e)->i<=j/\es[j-i]? =some e/\ents.findIdx? (λm=>(m.born:Int)==born)=some (j-i)
 |[],_,i,j,e,_,h=>by simp[qQ] at h
 |x::es,_,i,j,e,⟨m,ms,ax,av,bq⟩,h=>by
  subst ax
  simp only[qQ] at h
  have ae:cW (Int.ofNat x.born) born=((m.born:Int)==born):=by rw[av.2.2];rfl
  split at h
  · rename_i hs
    cases h
    rw[ae] at hs
    exact⟨Nat.le_refl _,by simp,by simp[List.findIdx?_cons,hs]⟩
  · rename_i hs
    rw[ae] at hs
    obtain⟨aV,ba,b1⟩:=FV es ms (i+1) j e bq h
    have:j-i=(j-(i+1))+1:=by omega
    refine⟨by omega,by rw[this];simpa using ba,?_⟩
    rw[this]
    simp[List.findIdx?_cons,hs,b1]
theorem Nu(ah:bc μ H w){t:TypeId}{m s x:I}{kH lZ bj:Value}(hm:a2 μ m kH)(hs:a2 μ s lZ)(J:a2 μ x bj){aI:ab}(h:nt H m s x=some aI):
  ∃w',(Instr.entryStore t kH lZ bj).run P w=.ok () w'/\bc μ aI w'/\bN μ H w μ aI w':=by
 unfold nt at h
 split at h
 · rename_i r b2 born
   split at h
   · rename_i es clock aj
     split at h
     · rename_i j l1 ae
       cases h
       cases hs
       obtain⟨i,ag,rfl⟩:=hm
       obtain⟨ents,ax,av,bq⟩:=vo (P:=P) ah ag aj
       obtain⟨_,aV,ba⟩:=FV es ents 0 j l1 av ae
       obtain⟨mH,eH,fB⟩:=av.get (by simpa using aV)
       have pS:e2 μ (oi x l1.key j es) (ents.modify j λe=>{e with val:=bj}):=by
        have hs:=av.set (v:=x) (vv:=bj) (key:=l1.key) (kv:=mH.key) J fB.1 j
        have:(ents.modify j λe=>{e with key:=mH.key,val:=bj})=(ents.modify j λe=>{e with val:=bj}):=by
         apply List.ext_getElem?
         intro q
         rw[List.getElem?_modify,List.getElem?_modify]
         by_cases aE:j=q
         · subst aE;rw[eH];simp
         · simp[aE]
        rw[<-this];exact hs
       obtain⟨w',dk,eB,hS⟩:=ra (P:=P) (c':=clock) ah ag aj ax pS
       refine⟨w',?_,eB,hS⟩
       have Nv:(⟨ents⟩:Array MapEntry).findIdx? (λe=>(e.born:Int)==born)=some j:=by
        have:=ba
        simp only[Nat.sub_zero] at this
        rw[<-this];simp
       simp only[Instr.entryStore,Sem.run_bind,Result.andThen_ok,bq,asInt,asIntOf,Sem.run_pure,Nv,Bn,dk]
     · cases h
   · cases h
 · cases h
theorem Nw(ah:bc μ H w){argTypes:Array TypeId}{ty t:TypeId}(h0:argTypes[0]? =some t){m k:I}{kH kv:Value}(hm:a2 μ m kH)(an:a2 μ k kv){v:I}{aI:ab}(h:nu P H t m k=some (v,aI)):
  dV P μ H w (Builtin.delete_ argTypes ty #[kH,kv]) v aI:=by
 unfold nu at h
 split at h
 · rename_i kt h2 hu
   split at h
   · rename_i h4
     split at h
     · cases h;cases hm
       refine .same ah (v':=.tuple #[]) ?_ ⟨[],rfl,rfl⟩
       simp[Builtin.delete_,h0,bE hu,nJ h4 an]
     · rename_i r
       split at h
       · rename_i es clock aj
         obtain⟨i,ag,rfl⟩:=hm
         obtain⟨ents,ax,av,bq⟩:=vo (P:=P) ah ag aj
         split at h
         · rename_i j a hf
           cases h
           obtain⟨r',b8,cG⟩:=pQ (P:=P) (w:=w) ah h4 an av hf
           cases r' with
           |none=>exact cG.elim
           |some y=>
            obtain⟨hB,u⟩:=y
            obtain⟨rfl,s8⟩:=cG
            obtain⟨w',dk,eB,hS⟩:=ra (P:=P) (c':=clock) ah ag aj ax (av.del j)
            refine⟨μ,w',.tuple #[],?_,⟨[],rfl,rfl⟩,eB,hS⟩
            have he:(⟨ents⟩:Array MapEntry).eraseIdxIfInBounds j=⟨ents.eraseIdx j⟩:=by
             apply Array.ext'
             simp
            simp[Builtin.delete_,h0,bE hu,nJ h4 an,bq,b8,he,dk]
         · rename_i hf
           cases h
           obtain⟨r',b8,cG⟩:=pQ (P:=P) (w:=w) ah h4 an av hf
           cases r' with
           |some y=>exact cG.elim
           |none=>
            obtain⟨w',dk,eB,hS⟩:=ra (P:=P) (c':=clock) ah ag aj ax av
            refine⟨μ,w',.tuple #[],?_,⟨[],rfl,rfl⟩,eB,hS⟩
            simp[Builtin.delete_,h0,bE hu,nJ h4 an,bq,b8,dk]
         · cases h
       · cases h
     · cases h
   · cases h
 · cases h
theorem Nx(ah:bc μ H w){t:TypeId}:dV P μ H w (Instr.makeMap t none) (.map H.n) (H.push (.map [] 0)):=by
 obtain⟨r1,r2⟩:=ah.alloc (.map [] 0) (.map #[] 0) 0 ⟨[],World.heap_alloc_new _ _,rfl⟩
 exact⟨_,_,.map (some w.heap.size),rfl,⟨_,fl _ _ _,rfl⟩,r1,r2⟩
theorem Ny(ah:bc μ H w){t kt h2:TypeId}{k:IntKind}{n:Int}(hu:P.underlying t=some (.map kt h2)):dV P μ H w (Instr.makeMap t (some (.int k n))) (.map H.n) (H.push (.map [] 0)):=by
 obtain⟨r1,r2⟩:=ah.alloc (.map [] 0) (.map #[] 0) 0 ⟨[],World.heap_alloc_new _ _,rfl⟩
 refine⟨_,_,.map (some w.heap.size),?_,⟨_,fl _ _ _,rfl⟩,r1,r2⟩
 simp only[Instr.makeMap,Sem.run_bind,bE hu,Result.andThen_ok,asInt,asIntOf,Sem.run_pure,run_newObj]
 rfl
theorem Nz(ah:bc μ H w){t:TypeId}(hu:P.underlying t=some .string){s:List UInt8}{bj:Value}(J:a2 μ (.str s) bj):dV P μ H w (Instr.range t bj) (.ptr H.n 0) (H.push (.pn s 0)):=by
 obtain⟨bs,rfl,rfl⟩:=J
 obtain⟨r1,r2⟩:=ah.alloc (.pn bs.data.toList 0) (.stringIter bs 0) 0 ⟨rfl,bs,World.heap_alloc_new _ _,rfl⟩
 refine⟨_,_,.pointer (some ⟨w.heap.size,0,none⟩),?_,⟨_,fl _ _ _,rfl⟩,r1,r2⟩
 simp only[Instr.range,Sem.run_bind,bE hu,Result.andThen_ok,Sem.run_pure,run_newObj]
 rfl
theorem NA(ah:bc μ H w){t kt h2:TypeId}(hu:P.underlying t=some (.map kt h2)){bj:Value}(J:a2 μ .g2 bj):dV P μ H w (Instr.range t bj) (.ptr H.n 0) (H.push (.mapIter none 0 [] 0)):=by
 cases J
 obtain⟨r1,r2⟩:=ah.alloc (.mapIter none 0 [] 0) (.mapIter none 0 #[] 0) 0 ⟨rfl,World.heap_alloc_new _ _⟩
 refine⟨_,_,.pointer (some ⟨w.heap.size,0,none⟩),?_,⟨_,fl _ _ _,rfl⟩,r1,r2⟩
 simp only[Instr.range,Sem.run_bind,bE hu,Result.andThen_ok,Sem.run_pure,run_newObj]
 rfl
def NB(at':Nat->Nat)(lt:Nat->Bool):Nat×Nat:=
 let cont (k:Nat):Bool:=lt k&&at' k/64==2
 let cm:=at' 0
 if cm<0x80 then(cm,1)
 else if cm/32==6&&cont 1 then
  let c:=(cm %32)*64+at' 1 %64
  if c>=0x80 then(c,2) else(Utf8.runeError,1)
 else if cm/16==14&&cont 1&&cont 2 then
  let c:=(cm %16)*4096+(at' 1 %64)*64+at' 2 %64
  if c>=0x800&&Utf8.valid c then(c,3) else(Utf8.runeError,1)
 else if cm/8==30&&cont 1&&cont 2&&cont 3 then
  let c:=(cm %8)*262144+(at' 1 %64)*4096+(at' 2 %64)*64+at' 3 %64
  if c>=0x10000&&Utf8.valid c then(c,4) else(Utf8.runeError,1)
 else(Utf8.runeError,1)
theorem FW(s:ByteArray)(i:Nat):Utf8.decode s i=NB (λk=>(s.get! (i+k)).toNat) (λk=>decide (i+k<s.size)):=rfl
theorem NC(full:ByteArray)(pos:Nat)(aL:pos<=full.size):Utf8.decode full pos=Utf8.decode ⟨(full.data.toList.drop pos).toArray⟩ 0:=by
 have mG:full.data.toList.length=full.size:=Array.length_toList
 have bh:(⟨(full.data.toList.drop pos).toArray⟩:ByteArray).size=full.size-pos:=by
  show((full.data.toList.drop pos).toArray).size=_
  rw[List.size_toArray,List.length_drop,mG]
 have gQ:∀k,full.get! (pos+k)=(⟨(full.data.toList.drop pos).toArray⟩:ByteArray).get! (0+k):=λk=>by
  show full.data[pos+k]! =((full.data.toList.drop pos).toArray)[0+k]!
  rw[Nat.zero_add]
  rw[getElem!_def,getElem!_def]
  have:((full.data.toList.drop pos).toArray)[k]? =full.data[pos+k]? :=by
   rw[List.getElem?_toArray,List.getElem?_drop,Array.getElem?_toList]
  rw[this]
 rw[FW,FW]
 have aw:(λk=>(full.get! (pos+k)).toNat)=(λk=>((⟨(full.data.toList.drop pos).toArray⟩:ByteArray).get! (0+k)).toNat):=by
  funext k;rw[gQ k]
 have ae:(λk=>decide (pos+k<full.size))=(λk=>decide (0+k<(⟨(full.data.toList.drop pos).toArray⟩:ByteArray).size)):=by
  funext k
  exact decide_eq_decide.2 (by rw[bh];omega)
 rw[aw,ae]
theorem ND(ah:bc μ H w){t:TypeId}{it:I}{oC:Value}(ag:a2 μ it oC){b:Bool}{v:I}{aI:ab}(h:xI H it b=some (v,aI)):dV P μ H w (Instr.next oC b t) v aI:=by
 unfold xI at h
 split at h
 · rename_i r
   obtain⟨i,gS,rfl⟩:=ag
   split at h
   · rename_i s pos aj
     obtain⟨da,full,ax,av⟩:=ah.rel _ _ i aj gS
     obtain⟨gk,i0,vq⟩:=i
     simp only at da;subst da
     have gQ:(getObj gk).run P w=.ok (.stringIter full pos) w:=by simp[getObj,Sem.run,ax]
     have mG:full.data.toList.length=full.size:=Array.length_toList
     have iq:=congrArg List.length av
     rw[List.length_drop,mG] at iq
     split at h
     · cases h
       have aH:¬pos<full.size:=by simp at iq;omega
       exact .same ah (v':=.tuple #[.bool false]) (by simp[Instr.next,gQ,aH]) ⟨_,rfl,_,_,rfl,rfl,rfl⟩
     · rename_i cF
       have bX:pos<full.size:=by
        rcases Nat.lt_or_ge pos full.size with h|h
        · exact h
        · exfalso;apply cF
          exact List.length_eq_zero_iff.1 (by omega)
       have FX:Utf8.decode full pos=AP s:=by rw[NC full pos (by omega),av];rfl
       generalize AP s=NF at FX h
       obtain⟨c,wd⟩:=NF
       cases h
       have Bo:gk<w.heap.size:=(ah.lt _ _ gS).2
       obtain⟨r1,r2⟩:=ah.update (w':={w with heap:=w.heap.setIfInBounds gk (.stringIter full (pos+wd))}) (o':=.pn (ih wd s) (pos+wd)) aj rfl gS (by simp) (λr ai=>by simp[Array.getElem?_setIfInBounds];intro e;exact absurd e.symm ai) rfl rfl rfl
        ⟨rfl,full,by simp[Bo],by rw[lR,<-av,List.drop_drop]⟩
       refine⟨μ,_,.tuple #[.bool true,.int .i64 (pos:Int),.int .i32 (c:Int)],?_,⟨_,rfl,_,_,rfl,rfl,_,_,rfl,rfl,_,_,rfl,rfl,rfl⟩,r1,r2⟩
       have oD:(setObj gk (.stringIter full (pos+wd))).run P w=.ok () {w with heap:=w.heap.setIfInBounds gk (.stringIter full (pos+wd))}:=by simp[setObj,Sem.run,ax]
       simp[Instr.next,gQ,bX,FX,oD,goInt]
   · rename_i since seen last aj
     cases h
     obtain⟨da,ax⟩:=ah.rel _ _ i aj gS
     obtain⟨gk,i0,vq⟩:=i
     simp only at da;subst da
     have s_:w.heap[gk]? =some (.mapIter none since ⟨seen⟩ last):=ax
     have gQ:(getObj gk).run P w=.ok (.mapIter none since ⟨seen⟩ last) w:=by simp[getObj,Sem.run,s_]
     exact .same ah (v':=.tuple #[.bool false]) (by simp[Instr.next,gQ]) ⟨_,rfl,_,_,rfl,rfl,rfl⟩
   · cases h
 · cases h
theorem FY:∀(es:List db) (ms:List MapEntry) (b:Nat) (e:db),e2 μ es ms->qR b es=some e->∃m,ms.find? (λx=>x.born==b)=some m/\pC μ e m
 |[],ms,b,e,ai,h=>by simp[qR] at h
 |x::es,ms,b,e,ai,h=>by
  obtain⟨m,NG,rfl,aa,ad⟩:=ai
  unfold qR at h
  rw[List.find?_cons,<-aa.2.2]
  cases ae:Nat.beq x.born b with
  |true=>
   rw[ae] at h
   cases h
   have:x.born=b:=Nat.eq_of_beq_eq_true ae
   rw[this]
   simp only[beq_self_eq_true]
   exact⟨m,rfl,aa⟩
  |false=>
   rw[ae] at h
   have:(x.born==b)=false:=by
    cases af:x.born==b with
    |false=>rfl
    |true=>rw[beq_iff_eq.1 af] at ae;rw[Nat.beq_refl] at ae;cases ae
   rw[this]
   exact FY es NG b e ad h
theorem Bp:∀(l:List Nat),uY l=l.getLast?
 |[]=>rfl
 |[b]=>rfl
 |a::b::l=>by
  show uY (b::l)=_
  rw[Bp (b::l),List.getLast?_cons_cons]
theorem NH(ah:bc μ H w){it:I}{oC:Value}(ag:a2 μ it oC){v:I}(h:qS H it=some v):dV P μ H w (Instr.entry oC) v H:=by
 unfold qS at h
 split at h
 · rename_i r
   obtain⟨i,gS,rfl⟩:=ag
   split at h
   · rename_i m since seen last aj
     obtain⟨da,j,aF,ax⟩:=ah.rel _ _ i aj gS
     obtain⟨gk,i0,vq⟩:=i
     simp only at da;subst da
     have s_:w.heap[gk]? =some (.mapIter (some j.a1) since ⟨seen⟩ last):=ax
     split at h
     · rename_i es clock b vr NI
       obtain⟨ents,f1,f2⟩:=ah.rel _ _ j vr aF
       split at h
       · rename_i gR
         have gR:clock=last:=Nat.eq_of_beq_eq_true gR
         split at h
         · rename_i e Bq
           cases h
           obtain⟨Br,al,aA⟩:=FY es ents b e f2 Bq
           have gQ:(getObj gk).run P w=.ok (.mapIter (some j.a1) since ⟨seen⟩ last) w:=by simp[getObj,Sem.run,s_]
           have x_:(getObj j.a1).run P w=.ok (.map ⟨ents⟩ clock) w:=by simp[getObj,Sem.run,f1]
           have NJ:(⟨seen⟩:Array Nat).back?=some b:=by
            rw[<-NI,Bp];simp
           have vt:(⟨ents⟩:Array MapEntry).find? (λx=>x.born==b)=some Br:=by rw[<-al];simp
           refine .same ah (v':=.tuple #[Br.key,Br.val]) ?_ ⟨_,rfl,_,_,rfl,aA.1,_,_,rfl,aA.2.1,rfl⟩
           have cF:(clock !=last)=false:=by simp[gR]
           simp only[Instr.entry,Sem.run_bind,gQ,Result.andThen_ok,NJ,x_,cF,Bool.false_eq_true,if_false,vt]
           rfl
         · cases h
       · cases h
     · cases h
   · cases h
 · cases h
end
end a8
namespace a8
open Go
section
variable {P:Program} {μ:bb} {H:ab} {w:World}
theorem NK(k:IntKind)(x y:Int){v:I}(h:arith .xor k x y=some v):∃u,(Op.intBits .xor k x y).run P w=.ok u w/\a2 μ v u:=by
 simp only[arith] at h;cases h;exact⟨_,rfl,rfl⟩
theorem NL{x:Value}{b:Bool}(J:a2 μ (.bool b) x):∃u,(Op.unary .not x).run P w=.ok u w/\a2 μ (.bool (!b)) u:=by
 cases J;exact⟨_,rfl,rfl⟩
theorem NM{x:Value}{k:IntKind}{n:Int}(J:a2 μ (.int k n) x):∃u,(Op.unary .neg x).run P w=.ok u w/\a2 μ (.int k (k.wrap (0-n))) u:=by
 cases J;exact⟨_,rfl,rfl⟩
theorem NN{x:Value}{k:IntKind}{n:Int}{v:I}(J:a2 μ (.int k n) x)(h:arith .xor k (if k.signed then-1 else k.max) n=some v):∃u,(Op.unary .xor x).run P w=.ok u w/\a2 μ v u:=by
 cases J;exact NK k _ n h
def rf:Value->Bool
 |.int _ _|.float _ _|.complex _ _ _|.string _=>true
 |_=>false
theorem binOp_eql(t:TypeId){x y:Value}(h:rf x=false):binOp .eql t x y=(do pure (.bool (<-Op.equal t x y))):=by
 cases x<;>simp[rf] at h<;>cases y<;>rfl
theorem binOp_neq(t:TypeId){x y:Value}(h:rf x=false):binOp .neq t x y=(do pure (.bool (!(<-Op.equal t x y)))):=by
 cases x<;>simp[rf] at h<;>cases y<;>rfl
theorem FZ:∀{d:Nat} {t:TypeId} {x y:I} {b:Bool} {bj:Value},e0 P H d t x y=some b->(∀j a k c,¬(x=.int j a/\y=.int k c))->(∀a c,¬(x=.str a/\y=.str c))->a2 μ x bj->rf bj=false:=by
 intro d t x y b bj h ag hs J
 cases d with
 |zero=>simp[e0] at h
 |succ d=>
  cases x with
  |bad=>unfold e0 at h;split at h<;>simp at h
  |int j a=>
   unfold e0 at h
   split at h
   all_goals first
    |(cases y<;>simp at h;done)
    |(cases y<;>simp at h;exact absurd ⟨rfl,rfl⟩ (ag _ _ _ _))
    |cases h
  |str a=>
   unfold e0 at h
   split at h
   all_goals first
    |(cases y<;>simp at h;done)
    |(cases y<;>simp at h;exact absurd ⟨rfl,rfl⟩ (hs _ _))
    |cases h
  |bool b=>cases J;rfl
  |br=>cases J;rfl
  |ptr b off=>obtain⟨i,_,rfl⟩:=J;rfl
  |bd=>cases J;rfl
  |slice b off n c=>
   obtain⟨i,_,af⟩:=J
   cases c with
   |exact c=>cases af;rfl
   |aS fw=>obtain⟨c,rfl,_⟩:=af;rfl
   |dead=>obtain⟨_,a,c,rfl⟩:=af;rfl
  |g2=>cases J;rfl
  |map r=>obtain⟨i,_,rfl⟩:=J;rfl
  |eY=>cases J;rfl
  |fn f a b=>obtain⟨_,_,rfl,_⟩:=J;rfl
  |cS l=>obtain⟨i,_,rfl⟩:=J;rfl
  |ea=>cases J;rfl
  |iface t x=>obtain⟨_,rfl,_⟩:=J;rfl
  |agg cs=>obtain⟨_,rfl,_⟩:=J;rfl
  |aJ cs=>obtain⟨_,rfl,_⟩:=J;rfl
theorem F0{op:BinOp}(h:op≠ .eql)(ao:op≠ .neq)(t:TypeId)(jg jh:Operand)(a b:Value):(eqGuard op t jg jh a b).run P w=.ok () w:=by
 cases op<;>first|exact absurd rfl h|exact absurd rfl ao|simp[eqGuard]
def pU:Value->Nat
 |.nilIface=>1
 |.agg _=>2
 |_=>0
theorem Bs{op:BinOp}(dO:op=.eql\/op=.neq){t:TypeId}{jg jh:Operand}{a b:Value}(h:pU a=0\/pU a≠pU b):(eqGuard op t jg jh a b).run P w=.ok () w:=by
 rcases dO with rfl|rfl<;>(cases a<;>first|rfl|(cases b<;>first|rfl|simp[pU] at h))
def rh:I->Nat
 |.ea=>1
 |.agg _=>2
 |_=>0
theorem F1{x:I}{a:Value}(J:a2 μ x a)(ae:x≠ .bad):pU a=rh x:=by
 cases x with
 |bad=>exact absurd rfl ae
 |bool b=>cases J;rfl
 |int k n=>cases J;rfl
 |str s=>obtain⟨_,rfl,_⟩:=J;rfl
 |br=>cases J;rfl
 |ptr b off=>obtain⟨i,_,rfl⟩:=J;rfl
 |bd=>cases J;rfl
 |slice b off n c=>
  obtain⟨i,_,af⟩:=J
  cases c with
  |exact c=>cases af;rfl
  |aS fw=>obtain⟨c,rfl,_⟩:=af;rfl
  |dead=>obtain⟨_,a,c,rfl⟩:=af;rfl
 |g2=>cases J;rfl
 |map r=>obtain⟨i,_,rfl⟩:=J;rfl
 |eY=>cases J;rfl
 |fn f a b=>obtain⟨_,_,rfl,_⟩:=J;rfl
 |cS l=>obtain⟨i,_,rfl⟩:=J;rfl
 |ea=>cases J;rfl
 |iface t x=>obtain⟨_,rfl,_⟩:=J;rfl
 |agg cs=>obtain⟨_,rfl,_⟩:=J;rfl
 |aJ cs=>obtain⟨_,rfl,_⟩:=J;rfl
theorem F2{op:BinOp}(dO:op=.eql\/op=.neq){t:TypeId}{jg jh:Operand}{x y:I}{a b:Value}(J:a2 μ x a)(aO:a2 μ y b)(ta:x≠ .bad)(vu:y≠ .bad)(h:po P t jg jh x y=true):
  (eqGuard op t jg jh a b).run P w=.ok () w:=by
 have F3:=F1 J ta
 have NO:=F1 aO vu
 by_cases ai:pU a=0\/pU a≠pU b
 · exact Bs dO ai
 · have aa:rh x≠0:=λe=>ai (.inl (F3.trans e))
   have ad:rh x=rh y:=by
    rw[<-F3,<-NO];exact Classical.byContradiction λe=>ai (.inr e)
   cases x<;>simp[rh] at aa
   · cases y<;>simp[rh] at ad
     cases J;cases aO
     simp only[po] at h
     rcases dO with rfl|rfl<;>(cases jg<;>cases jh<;>first|rfl|simp at h)
   · cases y<;>simp[rh] at ad
     obtain⟨bW,rfl,_⟩:=J
     obtain⟨cM,rfl,_⟩:=aO
     simp only[po,Bool.not_eq_true'] at h
     rcases dO with rfl|rfl<;>simp[eqGuard,h]
theorem F4{d:Nat}{t:TypeId}{x y:I}{b:Bool}(h:e0 P H d t x y=some b):x≠ .bad/\y≠ .bad:=by
 cases d with
 |zero=>simp[e0] at h
 |succ d=>
  constructor
  · rintro rfl;unfold e0 at h;split at h<;>simp at h
  · rintro rfl;unfold e0 at h;split at h<;>(try cases x)<;>simp at h
theorem NP(ah:bc μ H w){op:BinOp}{t yt:TypeId}{jg jh:Operand}{x y v:I}{bj fo:Value}(J:a2 μ x bj)(aO:a2 μ y fo)(h:e1 P H op t jg jh x y=some v):
  ∃u,(do eqGuard op t jg jh bj fo;binOp op t bj fo:Sem Value).run P w=.ok u w/\a2 μ v u:=by
 unfold e1 at h
 split at h
 · rename_i k a dA b
   cases J;cases aO
   have aj:(eqGuard op t jg jh (.int k a) (.int dA b)).run P w=.ok () w:=by
    by_cases dO:op=.eql\/op=.neq
    · exact Bs dO (.inl rfl)
    · exact F0 (λe=>dO (.inl e)) (λe=>dO (.inr e)) t jg jh _ _
   simp only[Sem.run_bind,aj,Result.andThen_ok]
   split at h
   · exact Fi h t
   · exact Fi h t
   · rename_i aa ad
     split at h
     · rename_i an;subst an
       exact Mu h ⟨aa,ad⟩ t
     · cases h
 · rename_i a b
   obtain⟨s1,rfl,rfl⟩:=J
   obtain⟨s2,rfl,rfl⟩:=aO
   have aj:(eqGuard op t jg jh (.string s1) (.string s2)).run P w=.ok () w:=by
    by_cases dO:op=.eql\/op=.neq
    · exact Bs dO (.inl rfl)
    · exact F0 (λe=>dO (.inl e)) (λe=>dO (.inr e)) t jg jh _ _
   simp only[Sem.run_bind,aj,Result.andThen_ok]
   exact Mw h t
 · rename_i dg h5
   split at h
   · split at h
     · rename_i cV
       split at h
       · rename_i b he
         cases h
         obtain⟨bn,cJ⟩:=F4 he
         have aj:=F2 (w:=w) (op:=.eql) (.inl rfl) J aO bn cJ cV
         have aH:rf bj=false:=FZ he (λj a k c e=>dg j a k c e.1 e.2) (λa c e=>h5 a c e.1 e.2) J
         have ai:=q_ (P:=P) ah 100 t x y b bj fo Op.maxDepth (by decide) he J aO
         refine⟨.bool b,?_,rfl⟩
         simp only[Sem.run_bind,aj,Result.andThen_ok,binOp_eql t aH,Op.equal,ai,Sem.run_pure]
       · cases h
     · cases h
   · split at h
     · rename_i cV
       split at h
       · rename_i b he
         cases h
         obtain⟨bn,cJ⟩:=F4 he
         have aj:=F2 (w:=w) (op:=.neq) (.inr rfl) J aO bn cJ cV
         have aH:rf bj=false:=FZ he (λj a k c e=>dg j a k c e.1 e.2) (λa c e=>h5 a c e.1 e.2) J
         have ai:=q_ (P:=P) ah 100 t x y b bj fo Op.maxDepth (by decide) he J aO
         refine⟨.bool (!b),?_,rfl⟩
         simp only[Sem.run_bind,aj,Result.andThen_ok,binOp_neq t aH,Op.equal,ai,Sem.run_pure]
       · cases h
     · cases h
   · cases h
theorem NQ{t:TypeId}{d:TypeDesc}(hu:P.underlying t=some d)(dg:∀m,d≠ .interface m){x:I}{bj:Value}(J:a2 μ x bj):
  (Instr.makeInterface t bj).run P w=.ok (.iface t bj) w:=by
 simp only[Instr.makeInterface,Sem.run_bind,bE hu,Result.andThen_ok]
 cases d<;>first|rfl|exact absurd rfl (dg _)
theorem F5{xT as:TypeId}{ok:Bool}{d:TypeDesc}(hu:P.underlying as=some d)(dg:∀m,d≠ .interface m){x:I}{bj:Value}(J:a2 μ x bj):
  (∀z,x=.ea->ok=true->dt P as=some z->∃u,(Instr.typeAssert bj xT as ok).run P w=.ok u w/\a2 μ (.aJ [z,.bool false]) u)/\
  (∀v,x=.iface as v->∃u,(Instr.typeAssert bj xT as ok).run P w=.ok u w/\a2 μ (if ok then .aJ [v,.bool true] else v) u)/\
  (∀t v z,x=.iface t v->t≠as->ok=true->dt P as=some z->∃u,(Instr.typeAssert bj xT as ok).run P w=.ok u w/\a2 μ (.aJ [z,.bool false]) u):=by
 refine⟨λz mI cV aP=>?_,λv mI=>?_,λt v z mI cF cV aP=>?_⟩
 · subst mI;cases J;subst cV
   obtain⟨eJ,vp,rfl,_⟩:=kC (P:=P) (w:=w) aP
   refine⟨.tuple #[eJ,.bool false],?_,⟨_,rfl,_,_,rfl,iP μ eJ,_,_,rfl,rfl,rfl⟩⟩
   simp only[Instr.typeAssert,Sem.run_bind,bE hu,Result.andThen_ok]
   cases d<;>first|exact absurd rfl (dg _)|simp[vp]
 · subst mI;obtain⟨y,rfl,aO⟩:=J
   refine⟨if ok then .tuple #[y,.bool true] else y,?_,?_⟩
   · simp only[Instr.typeAssert,Sem.run_bind,bE hu,Result.andThen_ok]
     cases d<;>first|exact absurd rfl (dg _)|simp
   · cases ok
     · exact aO
     · exact⟨_,rfl,_,_,rfl,aO,_,_,rfl,rfl,rfl⟩
 · subst mI;obtain⟨y,rfl,aO⟩:=J;subst cV
   obtain⟨eJ,vp,rfl,_⟩:=kC (P:=P) (w:=w) aP
   refine⟨.tuple #[eJ,.bool false],?_,⟨_,rfl,_,_,rfl,iP μ eJ,_,_,rfl,rfl,rfl⟩⟩
   simp only[Instr.typeAssert,Sem.run_bind,bE hu,Result.andThen_ok]
   cases d<;>first|exact absurd rfl (dg _)|simp[vp,cF]
theorem NR{vs:List I}{x:Value}{i:Nat}{v:I}(J:a2 μ (.aJ vs) x)(h:nth i vs=some v):∃u,(Instr.extract x i).run P w=.ok u w/\a2 μ v u:=by
 obtain⟨l,rfl,ar⟩:=J
 rw[ow] at h
 obtain⟨u,hu,ai⟩:=ar.get h
 refine⟨u,?_,ai⟩
 simp[Instr.extract,hu]
theorem F6{r el:Nat}{c:Array Value}{cK:Nat×Nat}(h:w.heap[r]? =some (.cells c el cK)):(viewAt r).run P w=.ok none w:=by
 simp[viewAt,World.shape?,h]
theorem NS(ah:bc μ H w){src dst u:TypeId}{b off n:Nat}{cs:List I}{el aY ag:Nat}{k:hz}(hs:P.underlying src=some (.pointer u))(ak:P.underlying dst=some .unsafePointer)
  (aP:cY P u=some (n+1))(aj:H.get b=some (.cells cs el k aY ag))(bX:off<cs.length){x:Value}(J:a2 μ (.ptr b off) x):(convert src dst x).run P w=.ok x w:=by
 obtain⟨i,ag,rfl⟩:=J
 obtain⟨c,fi,fj,ax,av,bq,dD⟩:=ah.rel _ _ i aj ag
 obtain⟨v,aD⟩:∃v,cs[off]? =some v:=⟨_,List.getElem?_eq_getElem bX⟩
 obtain⟨NT,hu,_⟩:=av off v aD
 have eT:i.base+off<c.size:=by
  rcases Nat.lt_or_ge (i.base+off) c.size with h|h
  · exact h
  · rw[Array.getElem?_eq_none h] at hu;cases hu
 have pJ:(Conv.seenAt ⟨i.a1,i.base+off,none⟩).run P w=.ok ⟨i.a1,i.base+off,none⟩ w:=by
  simp[Conv.seenAt,F6 ax]
 have F7:(cellsIn i.a1).run P w=.ok (some c.size) w:=by simp[cellsIn,World.shape?,ax]
 have q2:¬(c.size<=i.base+off):=by omega
 simp[convert,bE hs,bE ak,Conv.unsafePointer,pJ,F7,run_sizeOf aP,q2]
theorem NU(ah:bc μ H w){src dst u:TypeId}{b off n:Nat}{cs:List I}{el aY ag:Nat}(hs:P.underlying src=some .unsafePointer)(ak:P.underlying dst=some (.pointer u))
  (aP:cY P u=some (n+1))(aj:H.get b=some (.cells cs el .own aY ag))(ar:liesAt P P.depth el (cs.length/P.cellsOf el) off u 1=true){x:Value}(J:a2 μ (.ptr b off) x):(convert src dst x).run P w=.ok x w:=by
 obtain⟨i,ag,rfl⟩:=J
 obtain⟨c,fi,fj,ax,av,bq,dD,iR,_⟩:=ah.rel _ _ i aj ag
 have af:c.size=cs.length:=by omega
 have pJ:(Conv.seenAt ⟨i.a1,i.base+off,none⟩).run P w=.ok ⟨i.a1,i.base+off,none⟩ w:=by
  simp[Conv.seenAt,F6 ax]
 have oE:(variablesAt ⟨i.a1,i.base+off,none⟩ u 1).run P w=.ok true w:=by
  simp[variablesAt,World.shape?,ax,dD,af,ar]
 simp[convert,bE hs,bE ak,Conv.unsafePointer,pJ,run_sizeOf aP,oE]
end
end a8
namespace a8
open Go
section
variable {P:Program} {μ:bb} {H:ab} {w:World}
theorem F8(ah:bc μ H w){b:Nat}{i:ee}(ag:μ b=some i){cs:List I}{el aY ey:Nat}{k:hz}(aj:H.get b=some (.cells cs el k aY ey)):
  ∀(n off:Nat) (r:List I) (bs:List UInt8) (acc:ByteArray),takeN n (ih off cs)=some r->lM r=some bs->
   (loadBytes ⟨i.a1,i.base+off,none⟩ acc n).run P w=.ok ⟨acc.data++bs.toArray⟩ w
 |0,off,r,bs,acc,h,ae=>by
  simp only[takeN] at h;cases h
  simp only[lM] at ae;cases ae
  simp[loadBytes]
 |n+1,off,r,bs,acc,h,ae=>by
  rw[lR] at h
  cases ak:cs.drop off with
  |nil=>rw[ak] at h;simp[takeN] at h
  |cons a l=>
   rw[ak] at h
   simp only[takeN] at h
   cases bm:takeN n l with
   |none=>rw[bm] at h;cases h
   |some r'=>
    rw[bm] at h;cases h
    unfold lM at ae
    split at ae
    · rename_i heq;cases heq
    · rename_i m mJ heq
      cases heq
      split at ae
      · rename_i NV hm lS
        cases ae
        have NW:cs[off]? =some (.int .u8 (Int.ofNat m)):=by
         have:=congrArg List.head? ak
         simpa[List.head?_drop] using this
        have ar:l=cs.drop (off+1):=by
         have:=congrArg List.tail ak
         simpa[List.tail_drop] using this.symm
        obtain⟨u,aa,ad⟩:=AZ (P:=P) (off:=off) ah ag (show aB H b off=some (.int .u8 (Int.ofNat m)) by simp[aB,aj,ow,NW])
        cases ad
        have a3:=F8 ah ag aj n (off+1) r' NV (acc.push (UInt8.ofNat m)) (by rw[lR,<-ar];exact bm) lS
        have e:(⟨i.a1,i.base+off,none⟩:Addr).add 1=⟨i.a1,i.base+(off+1),none⟩:=by simp[Addr.add,Nat.add_assoc]
        simp only[loadBytes,Sem.run_bind,aa,Result.andThen_ok,e]
        refine Eq.trans ?_ (a3.trans ?_)
        · rfl
        · congr 1
          simp[ByteArray.ext_iff,ByteArray.push]
      · cases ae
    · cases ae
theorem Bt{α:Type}(p:Option Addr)(l:Value)(f:Option Addr->Value->α)(g:Array Value->α):Builtin.unsafeString_.match_3 (λ_=>α) #[.pointer p,l] f g=f p l:=rfl
theorem NX(argTypes:Array TypeId)(ty pT:TypeId)(h0:argTypes[0]? =some pT)(k:IntKind)(m:Nat)(a:Addr)(u:TypeId)(hu:P.underlying pT=some (.pointer u))(oA:m≠0)(hm:m<=281474976710656)
  {s:ByteArray}(aD:(variablesAt a u m).run P w=.ok true w)(ar:(loadBytes a .empty m).run P w=.ok s w):
  (Builtin.unsafeString_ argTypes ty #[.pointer (some a),.int k (m:Int)]).run P w=.ok (.string s) (w.freeze a m):=by
 have vw:¬((9223372036854775807:Int)<(m:Int)):=by omega
 have hC:IntKind.i64.max=9223372036854775807:=rfl
 have he:(elemOf pT).run P w=.ok u w:=by simp[elemOf,bE hu]
 have vx:¬((m:Int)<0):=by omega
 delta Builtin.unsafeString_
 rw[Bt]
 simp[asInt,asIntOf,h0,hC,vw,oA,he,aD,ar,vx]
theorem F9(argTypes:Array TypeId)(ty pT:TypeId)(h0:argTypes[0]? =some pT)(k:IntKind)(p:Option Addr):(Builtin.unsafeString_ argTypes ty #[.pointer p,.int k 0]).run P w=.ok (.string .empty) w:=by
 have hC:IntKind.i64.max=9223372036854775807:=rfl
 cases p with
 |none=>
  delta Builtin.unsafeString_
  rw[Bt]
  simp[asInt,asIntOf,h0,hC]
 |some a=>
  delta Builtin.unsafeString_
  rw[Bt]
  simp[asInt,asIntOf,h0,hC]
theorem ya:P.depth=(2*(P.types.size+Made.depth)+1)+1:=rfl
theorem NY{e u count off n:Nat}(aa:P.underlyingId e=P.underlyingId u)(hs:P.cellsOf e=1)(ae:off+n<=count):liesAt P P.depth e count off u n=true:=by
 have ar:sameLayout P P.depth e u=true:=by rw[ya];simp[sameLayout,aa]
 have ai:rowAt P (sameLayout P P.depth · u) P.depth e count off n=true:=by
  rw[ya]
  unfold rowAt
  simp only[hs,Nat.div_one,Nat.mod_one]
  rw[ya] at ar
  simp[ae,ar]
 have:∀d,rowAt P (sameLayout P P.depth · u) P.depth e count off n=true->liesAt P (d+1) e count off u n=true:=λd h=>by
  unfold liesAt;rw[h];rfl
 conv=>lhs;arg 2;rw[ya]
 exact this _ ai
theorem NZ(ah:bc μ H w){argTypes:Array TypeId}{ty pT:TypeId}(h0:argTypes[0]? =some pT){p n v:I}{Bu Bv:Value}(aL:a2 μ p Bu)(aH:a2 μ n Bv){aI:ab}(h:nk P H pT p n=some (v,aI)):
  dV P μ H w (Builtin.unsafeString_ argTypes ty #[Bu,Bv]) v aI:=by
 unfold nk at h
 have F_:∀m,eb n=some m->∃k,Bv=.int k (m:Int):=by
  intro m hm
  unfold eb at hm
  split at hm
  · cases hm;cases aH;exact⟨_,rfl⟩
  · cases hm
 split at h
 · rename_i aP
   cases h;cases aL
   obtain⟨k,rfl⟩:=F_ 0 aP
   exact .same ah (v':=.string .empty) (F9 argTypes ty pT h0 k none) ⟨.empty,rfl,rfl⟩
 · rename_i b off m hm
   obtain⟨k,rfl⟩:=F_ m hm
   obtain⟨i,ag,rfl⟩:=aL
   split at h
   · rename_i aP
     cases h;subst aP
     exact .same ah (v':=.string .empty) (F9 argTypes ty pT h0 k _) ⟨.empty,rfl,rfl⟩
   · rename_i oA
     split at h
     · rename_i u cs el b2 aY ey hu aj
       split at h
       · rename_i af
         simp only[Bool.and_eq_true,decide_eq_true_eq,Nat.ble_eq] at af
         obtain⟨⟨⟨aT,bp⟩,ef⟩,gl⟩:=af
         split at h
         · rename_i r ai
           split at h
           · rename_i bs ae
             cases h
             obtain⟨c,fi,fj,ax,av,bq,dD⟩:=ah.rel _ _ i aj ag
             have Bw:=F8 (P:=P) ah ag aj m off r bs .empty ai ae
             have hlen:off+m<=cs.length:=by
              rw[lR] at ai
              have:=(qZ m _ _ ai).1
              rw[List.length_drop] at this
              omega
             have vc:0<m:=Nat.pos_of_ne_zero oA
             have eT:i.base+off+m<=c.size:=by
              obtain⟨x,J⟩:∃x,cs[off+m-1]? =some x:=⟨_,List.getElem?_eq_getElem (by omega)⟩
              obtain⟨NT,mC,_⟩:=av _ x J
              rcases Nat.lt_or_ge (i.base+(off+m-1)) c.size with h|h
              · omega
              · rw[Array.getElem?_eq_none h] at mC;cases mC
             have vy:P.cellsOf el=1:=by
              unfold cY at bp
              unfold Program.cellsOf
              cases ey:P.info? el with
              |none=>rw[ey] at bp;cases bp
              |some ii=>rw[ey] at bp;simpa using bp
             have oE:(variablesAt ⟨i.a1,i.base+off,none⟩ u m).run P w=.ok true w:=by
              have ar:=NY (P:=P) (e:=el) (u:=u) (count:=c.size/P.cellsOf el) (off:=i.base+off) (n:=m) aT vy (by rw[vy];simpa using eT)
              simp[variablesAt,World.shape?,ax,ar]
             have dW:=NX (P:=P) (w:=w) argTypes ty pT h0 k m _ u hu oA ef oE Bw
             have N0:∃cK:Nat×Nat,w.freeze ⟨i.a1,i.base+off,none⟩ m={w with heap:=w.heap.modify i.a1 λ
               |.cells c elem (aY,ag)=>.cells c elem (if aY==ag then(i.base+off,i.base+off+m) else(min aY (i.base+off),max ag (i.base+off+m)))
               |o=>o}/\(w.freeze ⟨i.a1,i.base+off,none⟩ m).heap[i.a1]? =some (.cells c el cK):=by
              have:w.freeze ⟨i.a1,i.base+off,none⟩ m={w with heap:=w.heap.modify i.a1 λ
               |.cells c elem (aY,ag)=>.cells c elem (if aY==ag then(i.base+off,i.base+off+m) else(min aY (i.base+off),max ag (i.base+off+m)))
               |o=>o}:=by simp[World.freeze,oA];rfl
              refine⟨if fi==fj then(i.base+off,i.base+off+m) else(min fi (i.base+off),max fj (i.base+off+m)),this,?_⟩
              rw[this]
              simp[Array.getElem?_modify,ax]
             obtain⟨⟨f1,f2⟩,aV,ba⟩:=N0
             have fk:(cX.cells cs el b2 aY ey).nB=false:=by cases b2<;>first|rfl|exact absurd rfl gl
             obtain⟨r1,r2⟩:=ah.update (w':=w.freeze ⟨i.a1,i.base+off,none⟩ m) (o':=.cells cs el .fz aY ey) aj fk ag (by rw[aV];simp) (λr ai=>by rw[aV];simp[Array.getElem?_modify];intro e;exact absurd e.symm ai) (by rw[aV]) (by rw[aV]) (by rw[aV])
              ⟨c,f1,f2,ba,av,bq,trivial⟩ (hdr:=by rw[aV];exact Nat.le_refl _)
             exact⟨μ,_,.string _,dW,⟨_,rfl,by simp⟩,r1,r2⟩
           · cases h
         · cases h
       · cases h
     · cases h
 · cases h
theorem N1{argTypes:Array TypeId}{ty:TypeId}{x:I}{bj:Value}(J:a2 μ x bj):
  (x=.bd->(Builtin.unsafeSliceData_ argTypes ty #[bj]).run P w=.ok (.pointer none) w)/\
  (∀b off n c,x=.slice b off n (.exact c)->c≠0->∃u,(Builtin.unsafeSliceData_ argTypes ty #[bj]).run P w=.ok u w/\a2 μ (.ptr b off) u)/\
  (∀b off n e,x=.slice b off n (.aS e)->n≠0->∃u,(Builtin.unsafeSliceData_ argTypes ty #[bj]).run P w=.ok u w/\a2 μ (.ptr b off) u):=by
 have key:∀(a:Addr) (n c:Nat),c≠0->(Builtin.unsafeSliceData_ argTypes ty #[.slice (some a) n c]).run P w=.ok (.pointer (some a)) w:=λa n c af=>by
  obtain⟨k,rfl⟩:∃k,c=k+1:=⟨c-1,by omega⟩
  rfl
 refine⟨λh=>?_,λb off n c h af=>?_,λb off n e h aH=>?_⟩
 · subst h;cases J;rfl
 · subst h;obtain⟨i,ag,nC⟩:=J;cases nC
   exact⟨_,key _ n c af,i,ag,rfl⟩
 · subst h;obtain⟨i,ag,c,rfl,hle,_⟩:=J
   exact⟨_,key _ n c (by omega),i,ag,rfl⟩
theorem Ga{oF:Value}{first aG:List I}{g:Nat}{args:List I}{vs:List Value}(hf:a2 μ (.fn g first aG) oF)(aw:bP μ args vs):
  ∃b0 cs:List Value,(do let d<-Deferred.ofValue oF ⟨vs⟩;invoke d.target d.args:Sem Next).run P w=(callFunc g ⟨b0++vs++cs⟩).run P w/\bP μ (first++args++aG) (b0++vs++cs)/\
   (Deferred.ofValue oF ⟨vs⟩).run P w=.ok {target:=.fn (.func g) ⟨cs⟩,args:=⟨b0++vs⟩} w:=by
 obtain⟨b0,cs,rfl,aa,ad⟩:=hf
 refine⟨b0,cs,?_,(aa.append aw).append ad,?_⟩
 · simp[Deferred.ofValue,invoke]
 · simp[Deferred.ofValue]
theorem N2{l:Nat}{oF:Value}{vs:List Value}(hf:a2 μ (.cS l) oF):
  ∃i,μ l=some i/\(do let d<-Deferred.ofValue oF ⟨vs⟩;invoke d.target d.args:Sem Next).run P w=(Instr.yield i.a1 ⟨vs⟩).run P w:=by
 obtain⟨i,ag,rfl⟩:=hf
 exact⟨i,ag,by simp[Deferred.ofValue,invoke]⟩
theorem N3{t:TypeId}{name:String}{f:Nat}(h:xJ P t name=some f)(v:Value)(n:Nat):(method (n+1) t v name).run P w=.ok (f,v) w:=by
 unfold xJ at h
 split at h
 · rename_i i ag
   split at h
   · rename_i m hm
     have hf:∀q,m.path.isEmpty=q->m.path.isEmpty=q:=λ_ h=>h
     split at h
     all_goals first
      |(cases h;done)
      |(rename_i aL l2 hu
        cases h
        have yb:m.path.toList=[]:=by simpa using aL
        simp[method,run_typeInfo ag,hm,yb,follow,l2,receiverAt,bE hu,Place.get]
        done)
   · cases h
 · cases h
end
end a8
namespace a8
open Go
def ir(P:Program)(μ:bb)(H:ab)(w:World)(s:Sem Next):fW->Prop
 |.val v aI=>∃aK w' u,(s.run P w=.ok (.value u) w'\/(u=undef/\s.run P w=.ok .skip w'))/\a2 aK v u/\bc aK aI w'/\bN μ H w aK aI w'
 |.bK v aI=>aI=H/\∃u,s.run P w=.halt (.panic u) w/\a2 μ v u
 |.call f args aI=>aI=H/\∃vs:List Value,s.run P w=(callFunc f ⟨vs⟩).run P w/\bP μ args vs
 |.cS l args aI=>aI=H/\∃i,∃vs:List Value,μ l=some i/\s.run P w=(Instr.yield i.a1 ⟨vs⟩).run P w/\bP μ args vs
 |.j0 d=>∃pV,s.run P w=.ok (.defer pV) w/\qX μ d pV
 |.qO=>s.run P w=.ok .recover w
 |.fail _=>True
section
variable {P:Program} {μ:bb} {H:ab} {w:World}
theorem ir.iu{s:Sem Value}{v:I}{aI:ab}(h:dV P μ H w s v aI):ir P μ H w (do pure (.value (<-s))) (.val v aI):=by
 obtain⟨aK,w',u,aa,ad,aq,aC⟩:=h
 exact⟨aK,w',u,.inl (by simp[aa]),ad,aq,aC⟩
theorem ir.of_same(ah:bc μ H w){s:Sem Value}{v:I}(h:∃u,s.run P w=.ok u w/\a2 μ v u):ir P μ H w (do pure (.value (<-s))) (.val v H):=by
 obtain⟨u,aa,ad⟩:=h
 exact⟨μ,w,u,.inl (by simp[aa]),ad,ah,bN.refl _ _ _⟩
theorem ir.yc(ah:bc μ H w){u:Value}{v:I}(h:a2 μ v u){s:Sem Next}(hs:s.run P w=.ok (.value u) w):ir P μ H w s (.val v H):=
 ⟨μ,w,u,.inl hs,h,ah,bN.refl _ _ _⟩
theorem ir.N4{s:Sem Unit}{aI:ab}(h:∃w',s.run P w=.ok () w'/\bc μ aI w'/\bN μ H w μ aI w'):ir P μ H w (do s;pure .skip) (.val (.aJ []) aI):=by
 obtain⟨w',aa,aq,aC⟩:=h
 exact⟨μ,w',undef,.inr ⟨rfl,by simp[aa]⟩,⟨[],rfl,rfl⟩,aq,aC⟩
theorem vz(ah:bc μ H w){s:Sem Value}{o:Option I}{h1:String}(h:∀v,o=some v->∃u,s.run P w=.ok u w/\a2 μ v u):ir P μ H w (do pure (.value (<-s))) (eS H h1 o):=by
 cases o with
 |none=>trivial
 |some v=>exact .of_same ah (h v rfl)
theorem pW{s:Sem Value}{o:Option I}{h1:String}(h:∀v,o=some v->dV P μ H w s v H):ir P μ H w (do pure (.value (<-s))) (eS H h1 o):=by
 cases o with
 |none=>trivial
 |some v=>exact .iu (h v rfl)
theorem ri{s:Sem Value}{o:Option (I×ab)}{h1:String}(h:∀v aI,o=some (v,aI)->dV P μ H w s v aI):ir P μ H w (do pure (.value (<-s))) (j2 h1 o):=by
 cases o with
 |none=>trivial
 |some p=>exact .iu (h p.1 p.2 rfl)
theorem yd{s:Sem Unit}{o:Option ab}{h1:String}(h:∀aI,o=some aI->∃w',s.run P w=.ok () w'/\bc μ aI w'/\bN μ H w μ aI w'):ir P μ H w (do s;pure .skip) (oj h1 o):=by
 cases o with
 |none=>trivial
 |some aI=>exact .N4 (h aI rfl)
theorem pX{a:I}{n:Nat}{v:Value}(h:eb a=some n)(aD:a2 μ a v):∃k,v=.int k (n:Int):=by
 unfold eb at h
 split at h
 · cases h;cases aD;exact⟨_,rfl⟩
 · cases h
theorem Gb(ah:bc μ H w){f:I}{oF:Value}{args:List I}{vs:List Value}(hf:a2 μ f oF)(aw:bP μ args vs):
  ir P μ H w (do let d<-Deferred.ofValue oF ⟨vs⟩;invoke d.target d.args) (qT f args H):=by
 unfold qT
 split
 · obtain⟨b0,cs,aa,ad,_⟩:=Ga (P:=P) (w:=w) hf aw
   exact⟨rfl,_,aa,ad⟩
 · obtain⟨i,aa,ad⟩:=N2 (P:=P) (w:=w) (vs:=vs) hf
   exact⟨rfl,i,vs,aa,ad,aw⟩
 · trivial
theorem N5(ah:bc μ H w){b:Builtin}{ats:Array TypeId}{ty:TypeId}{consts:Array Bool}{vs:List I}{us:List Value}(aD:bP μ vs us):
  ir P μ H w (builtin b ats ty consts ⟨us⟩) (g5 P b ats vs H):=by
 unfold g5
 split
 · rfl
 · cases vs with
   |nil=>trivial
   |cons x l=>
    obtain⟨bj,iB,rfl,aa,ad⟩:=aD
    refine vz ah λv h=>?_
    obtain⟨u,aV,ba⟩:=Be (P:=P) (w:=w) uU Builtin.min2 (λ_ _ _ _ _ h J aO=>Nd h J aO) l x bj iB v aa ad h
    exact⟨u,by simpa[Builtin.min_] using aV,ba⟩
 · cases vs with
   |nil=>trivial
   |cons x l=>
    obtain⟨bj,iB,rfl,aa,ad⟩:=aD
    refine vz ah λv h=>?_
    obtain⟨u,aV,ba⟩:=Be (P:=P) (w:=w) pr Builtin.max2 (λ_ _ _ _ _ h J aO=>Nf h J aO) l x bj iB v aa ad h
    exact⟨u,by simpa[Builtin.max_] using aV,ba⟩
 · split
   · rename_i t x h0
     obtain⟨bj,iB,rfl,aa,ad⟩:=aD
     cases ad
     split
     · exact pW λv h=>Na ah h0 aa h
     · exact pW λv h=>Nb ah h0 aa h
     · exact ri λv aI h=>M9 ah h0 aa h
     · obtain⟨s1,s2,cq⟩:=N1 (P:=P) (w:=w) (argTypes:=ats) (ty:=ty) aa
       split
       · exact .of_same ah ⟨_,s1 rfl,rfl⟩
       · split
         · trivial
         · rename_i af;exact .of_same ah (s2 _ _ _ _ rfl af)
       · split
         · trivial
         · rename_i af;exact .of_same ah (cq _ _ _ _ rfl af)
       · trivial
     · trivial
   · rename_i t x y h0
     obtain⟨bj,iB,rfl,aa,fo,FC,rfl,ad,aq⟩:=aD
     cases aq
     split
     · exact ri λv aI h=>M3 ah h0 aa ad h
     · exact ri λv aI h=>M8 ah h0 aa ad h
     · exact ri λv aI h=>Nw ah h0 aa ad h
     · exact ri λv aI h=>NZ ah h0 aa ad h
     · trivial
   · trivial
theorem N6(ah:bc μ H w){src dst:TypeId}{x:I}{bj:Value}(J:a2 μ x bj):
  ir P μ H w (do pure (.value (<-convert src dst bj))) (e8 P src dst x H):=by
 unfold e8
 split
 · rename_i pP k bJ n hs ak
   cases J
   exact .of_same ah ⟨.int k (k.wrap n),by simp[convert,bE hs,bE ak,Conv.intToInt],rfl⟩
 · rename_i pP bJ n hs ak
   cases J
   exact .of_same ah ⟨.string (Utf8.encode n),by simp[convert,bE hs,bE ak,Conv.intToString],_,rfl,rfl⟩
 · rename_i s hs ak
   obtain⟨t,rfl,rfl⟩:=J
   exact .of_same ah ⟨.string t,by simp[convert,bE hs,bE ak],_,rfl,rfl⟩
 · rename_i e s hs ak
   obtain⟨t,rfl,rfl⟩:=J
   split
   · rename_i he
     refine .iu ?_
     have bY:=Nh (P:=P) ah (e:=e) (bs:=t)
     obtain⟨aK,w',u,aa,ad,aq,aC⟩:=bY
     exact⟨aK,w',u,by simp[convert,bE hs,bE ak,bE he,aa],ad,aq,aC⟩
   · trivial
 · rename_i e hs ak
   have key:P.underlying e=some (.int .u8)->∀a n c,(convert src dst (.slice a n c)).run P w=(Conv.bytesToString (.slice a n c)).run P w:=by
    intro he a n c
    simp[convert,bE hs,bE ak,bE he]
   split
   · rename_i he
     cases J
     refine .of_same ah ⟨.string .empty,?_,.empty,rfl,rfl⟩
     rw[key he];rfl
   · rename_i b off n he
     split
     · rename_i aH
       subst aH
       obtain⟨i,_,_,a,c,rfl⟩:=J
       refine .of_same ah ⟨.string .empty,?_,.empty,rfl,rfl⟩
       rw[key he];rfl
     · trivial
   · rename_i b off n c x5 he
     split
     · rename_i cs ar
       split
       · rename_i bs ae
         obtain⟨aK,w',u,aa,ad,aq,aC⟩:=Ng (P:=P) ah (by intro e;subst e;exact x5 rfl) J ar ae
         refine .iu ⟨aK,w',u,?_,ad,aq,aC⟩
         have jk:∃a m k,bj=.slice a m k:=by
          obtain⟨i,_,af⟩:=J
          cases c with
          |exact c=>cases af;exact⟨_,_,_,rfl⟩
          |aS fw=>obtain⟨c,rfl,_⟩:=af;exact⟨_,_,_,rfl⟩
          |dead=>obtain⟨_,a,c,rfl⟩:=af;exact⟨_,_,_,rfl⟩
         obtain⟨a,m,k,rfl⟩:=jk
         rw[key he];exact aa
       · trivial
     · trivial
   · trivial
 · rename_i u b off hs ak
   split
   · rename_i cs el k aY ag n aj aP
     split
     · rename_i bX
       exact .of_same ah ⟨bj,NS ah hs ak aP aj (by simpa using bX) J,J⟩
     · trivial
   · trivial
 · rename_i u b off hs ak
   split
   · rename_i cs el aY ag n aj aP
     split
     · rename_i af
       exact .of_same ah ⟨bj,NU ah hs ak aP aj af J,J⟩
     · trivial
   · trivial
 · trivial
end
end a8
namespace a8
open Go
section
variable {P:Program} {μ:bb} {H:ab} {w:World}
theorem Gc(ah:bc μ H w){c a b:Operand}{g:Operand->I}{b6:Operand->Value}(aj:∀x,a2 μ (g x) (b6 x)){eC:Bool}(af:g c=.bool eC):
  ir P μ H w (do pure (.value (if<-asBool (b6 c) then b6 a else b6 b))) (.val (if eC then g a else g b) H):=by
 have aa:=aj c
 rw[af] at aa
 refine .yc ah (u:=if eC then b6 a else b6 b) ?_ ?_
 · cases eC
   · exact aj b
   · exact aj a
 · have:b6 c=.bool eC:=aa
   simp[this,asBool]
theorem ye{g:Operand->I}{b6:Operand->Value}(aj:∀x,a2 μ (g x) (b6 x))(args:Array Operand):bP μ (args.toList.map g) (args.map b6).toList:=by
 rw[Array.toList_map];exact bP.map g b6 aj _
theorem N7(ah:bc μ H w){g:Operand->I}{b6:Operand->Value}(aj:∀x,a2 μ (g x) (b6 x))(o:Oper)(x:Operand)(aQ:o.op=.nilCheck x):ir P μ H w (execOp b6 o) (match g x with
  |.ptr b o=>.val (.ptr b o) H
  |.slice b o n c=>.val (.slice b o n c) H
  |.fn f a b=>.val (.fn f a b) H
  |.iface t v=>.val (.iface t v) H
  |_=>.fail "nilCheck"):=by
 have aa:=aj x
 have e:∀(v:I),g x=v->((∃b o,v=.ptr b o)\/(∃b o n c,v=.slice b o n c)\/(∃f a b,v=.fn f a b)\/∃t y,v=.iface t y)->ir P μ H w (execOp b6 o) (.val v H):=by
  intro v aD hs
  have ad:=aa
  rw[aD] at ad
  exact .yc ah ad (Mq ad hs o x b6 rfl aQ)
 split
 · rename_i b o J;exact e _ J (.inl ⟨_,_,rfl⟩)
 · rename_i b o n c J;exact e _ J (.inr (.inl ⟨_,_,_,_,rfl⟩))
 · rename_i f a b J;exact e _ J (.inr (.inr (.inl ⟨_,_,_,rfl⟩)))
 · rename_i t v J;exact e _ J (.inr (.inr (.inr ⟨_,_,rfl⟩)))
 · trivial
theorem N8(ah:bc μ H w){g:Operand->I}{b6:Operand->Value}(aj:∀x,a2 μ (g x) (b6 x))(c:Call)(type:TypeId):ir P μ H w (do let d<-resolve b6 c type;invoke d.target d.args) (match c.callee with
  |.value f=>qT (g f) (c.args.toList.map g) H
  |.invoke r name=>match g r with
   |.iface t v=>match xJ P t name with
    |some f=>.call f (v::c.args.toList.map g) H
    |none=>.fail ("invoke " ++name)
   |_=>.fail ("invoke " ++name)
  |.builtin b=>g5 P b c.argTypes (c.args.toList.map g) H):=by
 have aw:=ye (μ:=μ) aj c.args
 cases af:c.callee with
 |value f=>
  simp only[resolve,af]
  exact Gb ah (aj f) aw
 |invoke r name=>
  simp only[]
  split
  · rename_i t v ai
    split
    · rename_i f hm
      have aa:=aj r
      rw[ai] at aa
      obtain⟨y,aO,aD⟩:=aa
      refine⟨rfl,y::(c.args.map b6).toList,?_,⟨_,_,rfl,aD,aw⟩⟩
      have XV:0<Made.depth:=by decide
      obtain⟨n,aH⟩:∃n,P.types.size+Made.depth=n+1:=⟨P.types.size+Made.depth-1,by omega⟩
      have N9:=N3 (P:=P) (w:=w) hm y n
      have h0:(#[b6 r]++c.args.map b6)[0]? =some (b6 r):=by rw[Array.getElem?_append_left (by simp)];rfl
      have ad:(#[b6 r]++c.args.map b6).extract 1 (#[b6 r]++c.args.map b6).size=c.args.map b6:=by
       apply Array.ext'
       simp only[Array.toList_extract,Array.toList_append,Array.toList_map,List.cons_append,List.nil_append,List.extract_eq_take_drop]
       rw[List.take_of_length_le]
       · rfl
       · simp
      have aq:(#[y]++c.args.map b6:Array Value)=⟨y::(c.args.map b6).toList⟩:=by apply Array.ext';simp
      rw[aO] at h0 ad
      simp only[resolve,af,Sem.run_bind,Sem.run_pure,Result.andThen_ok,invoke,aO,h0,ad,callMethod,run_program,aH,N9,aq]
    · trivial
  · trivial
 |builtin b=>
  have ae:=N5 (P:=P) (b:=b) (ats:=c.argTypes) (ty:=type) (consts:=c.args.map λ|.const _=>true|_=>false) ah aw
  have he:(do let d<-resolve b6 c type;invoke d.target d.args:Sem Next)=builtin b c.argTypes type (c.args.map λ|.const _=>true|_=>false) (c.args.map b6):=by
   simp only[resolve,af];rfl
  rw[he];exact ae
set_option maxHeartbeats 4000000 in
theorem N_(ah:bc μ H w)(o:Oper){g:Operand->I}{b6:Operand->Value}(aj:∀x,a2 μ (g x) (b6 x)):ir P μ H w (execOp b6 o) (cj P o g H):=by
 obtain⟨dst,op,type,pos,after,guard⟩:=o
 cases op<;>simp only[cj,execOp]
 case move x=>exact .yc ah (aj x) rfl
 case assign x=>exact .yc ah (aj x) rfl
 case pick c a b=>
  split
  · rename_i af;exact Gc ah aj af
  · rename_i af;exact Gc ah aj af
  · trivial
 case alloc e=>
  split
  · rename_i z aP
    split
    · rename_i b ao ai;exact .iu (Md ah aP ai)
    · trivial
  · trivial
 case box e x=>
  split
  · rename_i b ao ai;exact .iu (Me ah (aj x) ai)
  · trivial
 case build t parts=>
  split
  · rename_i z aP
    split
    · rename_i b0 hu
      split
      · rename_i cs dx hf;exact .iu (Ml ah g b6 aj aP hu dx parts hf)
      · trivial
    · rename_i n e hu
      split
      · rename_i sz hs
        split
        · rename_i cs hf;exact .iu (Mn ah g b6 aj aP hu hs parts hf)
        · trivial
      · trivial
    · trivial
  · trivial
 case buildSlice t len parts=>
  split
  · rename_i e hu
    split
    · rename_i sz z hs aP
      split
      · rename_i cs af hf
        rw[Bool.and_eq_true,Nat.ble_eq,Nat.beq_eq] at af
        split
        · rename_i b ao ai;exact .iu (Mo ah g b6 aj hu hs aP af.1 af.2 parts hf ai)
        · trivial
      · trivial
    · trivial
  · trivial
 case insert t m k v=>exact yd λaI h=>FR ah (aj m) (aj k) (aj v) h
 case load t a=>
  split
  · rename_i b off aw
    have aa:=aj a
    rw[aw] at aa
    obtain⟨bW,cM⟩:=Mf (P:=P) ah (t:=t) aa
    split
    · rename_i n vA aH
      split
      · rename_i cs ar;exact .iu (bW n cs vA aH ar)
      · trivial
    · rename_i vA
      exact pW λv h=>cM v vA h
    · trivial
  · trivial
 case store t a v=>
  split
  · rename_i b off aw
    have aa:=aj a
    rw[aw] at aa
    split
    · trivial
    · rename_i n aH yf
      split
      · rename_i ar
        exact yd λaI h=>Mg ah aa (aj v) yf aH (by simpa using ar) h
      · trivial
    · trivial
  · trivial
 case ready=>trivial
 case waits=>trivial
 case nilCheck x=>exact N7 ah aj ⟨dst,.nilCheck x,type,pos,after,guard⟩ x rfl
 case binOp op t x y yt=>exact vz ah λv h=>NP ah (yt:=yt) (aj x) (aj y) h
 case unOp op t x=>
  have aa:=aj x
  split
  · rename_i b J;rw[J] at aa;exact .of_same ah (NL aa)
  · rename_i k n J;rw[J] at aa;exact .of_same ah (NM aa)
  · rename_i k n J;rw[J] at aa;exact vz ah λv h=>NN aa h
  · trivial
 case convert src XW x=>exact N6 ah (aj x)
 case sliceToArrayPointer=>trivial
 case makeInterface t x=>
  split
  · trivial
  · rename_i d dg hu
    refine .of_same ah ⟨.iface t (b6 x),NQ hu (λm e=>dg m (e▸rfl)) (aj x),_,rfl,aj x⟩
  · trivial
 case makeFunc fn first aG=>
  split
  · rename_i f
    exact .of_same ah ⟨.func (.func f) (first.map b6) (aG.map b6),rfl,_,_,rfl,ye aj first,ye aj aG⟩
  · trivial
 case makeMap t r=>
  cases r with
  |none=>exact .iu (Nx ah)
  |some x=>
   simp only[]
   split
   · rename_i kt h2 k n hu J
     have aa:=aj x
     rw[J] at aa
     have ad:b6 x=.int k n:=aa
     rw[Option.map_some,ad]
     exact .iu (Ny ah hu)
   · trivial
 case makeChan=>trivial
 case makeSlice t l c=>
  split
  · rename_i e mJ c' hu ar af
    obtain⟨kl,el⟩:=pX ar (aj l)
    obtain⟨kc,vB⟩:=pX af (aj c)
    split
    · rename_i i z ag aP
      split
      · rename_i jm
        rw[Bool.and_eq_true,Bool.and_eq_true,Nat.ble_eq,Nat.beq_eq,decide_eq_true_eq] at jm
        split
        · rename_i b ao ai
          rw[el,vB]
          exact .iu (Mp ah hu ag aP jm.1.1 jm.1.2 jm.2 ai)
        · trivial
      · trivial
    · trivial
  · trivial
 case slice t x aY ag mx=>
  exact pW λv h=>MB ah (aj x) (lX.map g b6 aj aY) (lX.map g b6 aj ag) (lX.map g b6 aj mx) h
 case fieldAddr s x f=>
  split
  · rename_i b0 b off hu J
    have aa:=aj x
    rw[J] at aa
    split
    · rename_i fd hf
      split
      · trivial
      · rename_i n vk aH
        exact .iu (ME ah hu hf aH (λe=>vk e) aa)
      · trivial
    · trivial
  · trivial
 case field t x f=>
  split
  · rename_i b0 cs hu J
    have aa:=aj x
    rw[J] at aa
    split
    · rename_i fd hf
      exact pW λv h=>MD ah hu hf aa h
    · trivial
  · trivial
 case indexAddr t x i=>
  split
  · rename_i n e b off k hu J ag
    have aa:=aj x
    rw[J] at aa
    obtain⟨b2,rj⟩:=pX ag (aj i)
    split
    · rename_i sz hs
      split
      · rename_i an;rw[rj];exact .iu (MG ah hu hs aa an)
      · trivial
    · trivial
  · rename_i e b off n c k hu J ag
    have aa:=aj x
    rw[J] at aa
    obtain⟨b2,rj⟩:=pX ag (aj i)
    split
    · rename_i sz hs
      split
      · rename_i an;rw[rj];exact .iu (MF ah hu hs aa an)
      · trivial
    · trivial
  · trivial
 case index t x i=>
  split
  · rename_i n e cs k hu J ag
    have aa:=aj x
    rw[J] at aa
    obtain⟨b2,rj⟩:=pX ag (aj i)
    split
    · rename_i sz hs
      split
      · rename_i an;rw[rj];exact pW λv h=>MH ah hu hs aa an h
      · trivial
    · trivial
  · rename_i s k hu J ag
    have aa:=aj x
    rw[J] at aa
    obtain⟨b2,rj⟩:=pX ag (aj i)
    split
    · rename_i c af;rw[rj];exact .iu (MI ah hu aa af)
    · trivial
  · trivial
 case lookup t x i ok=>exact pW λv h=>Nr ah (aj x) (aj i) h
 case mapUpdate t m k v=>exact yd λaI h=>FR ah (aj m) (aj k) (aj v) h
 case mapEntry t m k=>exact ri λv aI h=>Nt ah (aj m) (aj k) h
 case entryStore t m s v=>exact yd λaI h=>Nu ah (aj m) (aj s) (aj v) h
 case range t x=>
  split
  · rename_i s hu J
    have aa:=aj x
    rw[J] at aa
    exact .iu (Nz ah hu aa)
  · rename_i kt h2 hu J
    have aa:=aj x
    rw[J] at aa
    exact .iu (NA ah hu aa)
  · rename_i kt h2 m hu J
    have aa:=aj x
    rw[J] at aa
    split
    · rename_i es c vr
      obtain⟨i,ag,aD⟩:=aa
      obtain⟨ents,ax,av⟩:=ah.rel _ _ i vr ag
      obtain⟨r1,r2⟩:=ah.alloc (.mapIter (some m) c [] c) (.mapIter (some i.a1) c #[] c) 0 ⟨rfl,i,ah.mB _ _ _ ag,World.heap_alloc_new _ _⟩
      refine .iu ⟨_,_,.pointer (some ⟨w.heap.size,0,none⟩),?_,⟨_,fl _ _ _,rfl⟩,r1,r2⟩
      have hD:(getObj i.a1).run P w=.ok (.map ⟨ents⟩ c) w:=by simp[getObj,Sem.run,ax]
      rw[aD]
      simp only[Instr.range,Sem.run_bind,bE hu,Result.andThen_ok,hD,Sem.run_pure,run_newObj]
      rfl
    · trivial
  · trivial
 case next it isStr=>exact ri λv aI h=>ND ah (aj it) h
 case entry it=>exact pW λv h=>NH ah (aj it) h
 case typeAssert x xT as ok=>
  have aa:=aj x
  split
  · trivial
  · rename_i d dg hu J
    obtain⟨t1,_,_⟩:=F5 (P:=P) (w:=w) (xT:=xT) (ok:=ok) hu (λm e=>dg m (e▸rfl)) aa
    split
    · rename_i cV
      split
      · rename_i z aP;exact .of_same ah (t1 z J cV aP)
      · trivial
    · trivial
  · rename_i d t v dg hu J
    obtain⟨_,t2,t3⟩:=F5 (P:=P) (w:=w) (xT:=xT) (ok:=ok) hu (λm e=>dg m (e▸rfl)) aa
    split
    · rename_i he;subst he;exact .of_same ah (t2 v J)
    · rename_i cF
      split
      · rename_i cV
        split
        · rename_i z aP;exact .of_same ah (t3 t v z J cF cV aP)
        · trivial
      · trivial
  · trivial
 case extract t i=>
  have aa:=aj t
  split
  · rename_i vs J
    rw[J] at aa
    exact vz ah λv h=>NR aa h
  · trivial
 case call c=>exact N8 ah aj c type
 case go=>trivial
 case defer c=>
  split
  · rename_i f hf
    split
    · rename_i k first aG J
      have aa:=aj f
      rw[J] at aa
      obtain⟨b0,cs,_,aq,aC⟩:=Ga (P:=P) (w:=w) aa (ye aj c.args)
      refine⟨_,?_,.call k _ cs _ aq⟩
      simp only[resolve,hf,Sem.run_bind]
      have Oa:(Deferred.ofValue (b6 f) (c.args.map b6)).run P w=.ok {target:=.fn (.func k) ⟨cs⟩,args:=⟨b0++(c.args.map b6).toList⟩} w:=aC
      rw[Oa];rfl
    · trivial
  · trivial
 case panic x=>
  have aa:=aj x
  split
  · rename_i t v J
    rw[J] at aa
    obtain⟨y,aO,aD⟩:=aa
    refine⟨rfl,.iface t y,?_,⟨y,rfl,aD⟩⟩
    rw[aO];rfl
  · trivial
 all_goals trivial
end
end a8
namespace a8
open Go
section
variable {P:Program} {μ:bb} {w:World}
def pY(P:Program)(μ:bb)(w:World)(s:Sem Value)(e:TypeId)(cs:List I)(val:Addr->Value):Prop:=
 ∃us:List Value,bP μ cs us/\s.run P w=.ok (val ⟨w.heap.size,0,none⟩) (w.alloc (.cells ⟨us⟩ e))
theorem Gd(el:TypeId)(us:List Value):(_root_.Go.newRow el ⟨us⟩).run P w=.ok ⟨w.heap.size,0,none⟩ (w.alloc (.cells ⟨us⟩ el)):=by simp[_root_.Go.newRow]
theorem Ob{e:TypeId}{z:I}(aP:dt P e=some z):pY P μ w (Instr.alloc e true (.tuple #[])) e z.cells (λa=>.pointer (some a)):=by
 obtain⟨v,aD,rfl,ae⟩:=kC (w:=w) aP
 refine⟨v.cells.toList,(iP μ v).cells ae,?_⟩
 simp[Instr.alloc,aD,newVar,_root_.Go.newRow]
theorem Oc{e:TypeId}{x:I}{v:Value}(aD:a2 μ x v)(ae:x≠ .bad):pY P μ w (Instr.box e v) e x.cells (λa=>.pointer (some a)):=by
 refine⟨v.cells.toList,aD.cells ae,?_⟩
 simp[Instr.box,newVar,_root_.Go.newRow]
theorem Od(g:Operand->I)(b6:Operand->Value)(aj:∀x,a2 μ (g x) (b6 x)){t e:TypeId}{len sz:Nat}{z:I}(hu:P.underlying t=some (.slice e))(hs:cY P e=some sz)
  (aP:dt P e=some z)(hle:len*sz<=16777216)(lW:z.cells.length=sz)(parts:Array (Nat×Operand)){cs:List I}
  (hf:iz (λi=>some (i*sz,sz)) (if len*sz=0 then[] else ew len z.cells) (parts.toList.map λp=>(p.1,g p.2))=some cs):
  pY P μ w (Instr.buildSlice t len (parts.map λ(i,x)=>(i,b6 x))) e cs (λa=>.slice (some a) len len):=by
 obtain⟨v,aD,rfl,ae⟩:=kC (w:=w) aP
 have af:=(iP μ v).cells ae
 have vf:¬(len*sz>2^24):=by omega
 have key:∀zero:Array Value,bP μ (if len*sz=0 then[] else ew len (mr v).cells) ((Array.range (len*sz)).map (λi=>zero[i %zero.size]!)).toList->
   (∀r:Result Value,r=(match Instr.fill (λi=>some (i*sz,sz)) ((Array.range (len*sz)).map (λi=>zero[i %zero.size]!)) (parts.toList.map λp=>(p.1,b6 p.2)) with
    |some cells=>do pure (.slice (some (<-_root_.Go.newRow e cells)) len len)
    |none=>stuck "buildSlice: a part of the wrong size" :Sem Value).run P w->(Instr.buildSlice t len (parts.map λ(i,x)=>(i,b6 x))).run P w=r)->
   pY P μ w (Instr.buildSlice t len (parts.map λ(i,x)=>(i,b6 x))) e cs (λa=>.slice (some a) len len):=by
  intro zero oy dW
  obtain⟨c',aa,ad⟩:=vd _ g b6 aj parts.toList _ cs _ oy hf
  refine⟨c',ad,dW _ ?_⟩
  rw[aa]
  simp[Gd]
 by_cases h0:len*sz=0
 · refine key #[] (by rw[if_pos h0,h0];simp[bP]) λr ai=>?_
   rw[ai]
   simp only[Instr.buildSlice,Sem.run_bind,bE hu,Result.andThen_ok,run_sizeOf hs,if_neg vf,if_pos h0,Sem.run_pure,Array.toList_map]
   generalize Instr.fill _ _ _=F
   cases F<;>rfl
 · refine key v.cells (by rw[if_neg h0];exact ve af lW len) λr ai=>?_
   rw[ai]
   simp only[Instr.buildSlice,Sem.run_bind,bE hu,Result.andThen_ok,run_sizeOf hs,if_neg vf,if_neg h0,Sem.run_pure,Array.toList_map,aD]
   generalize Instr.fill _ _ _=F
   cases F<;>rfl
theorem Oe{t e:TypeId}{l c:Nat}{i:TypeInfo}{z:I}{kl kc:IntKind}(hu:P.underlying t=some (.slice e))(ag:P.info? e=some i)(aP:dt P e=some z)(pH:l<=c)
  (s0:c*(i.bytes+1)<=1099511627776)(lW:z.cells.length=i.size):
  pY P μ w (Instr.makeSlice t (.int kl l) (.int kc c)) e (if c*i.size=0 then[] else ew c z.cells) (λa=>.slice (some a) l c):=by
 obtain⟨v,aD,rfl,ae⟩:=kC (w:=w) aP
 have af:=(iP μ v).cells ae
 have A0:c<=1099511627776:=Nat.le_trans (Nat.le_mul_of_pos_right c (by omega)) s0
 have kD:i.bytes*c<=1099511627776:=by
  have:c*i.bytes<=c*(i.bytes+1):=Nat.mul_le_mul_left c (by omega)
  rw[Nat.mul_comm];omega
 have vg:∀n:Nat,n<=1099511627776->IntKind.wrap .i64 (n:Int)=(n:Int):=λn aH=>oz n (by omega)
 have mE:=vg l (by omega)
 have vh:=vg c A0
 have q2:¬((c:Int)<0||(i.bytes:Int)*(c:Int)>2^48||(l:Int)<0||(l:Int)>(c:Int))=true:=by
  have aa:((i.bytes:Int)*(c:Int))<=1099511627776:=by
   have h0:((i.bytes*c:Nat):Int)<=1099511627776:=by omega
   rw[Int.natCast_mul] at h0;exact h0
  have ad:(2:Int)^48=281474976710656:=by rfl
  generalize (i.bytes:Int)*(c:Int)=q at aa⊢
  rw[ad]
  simp only[Bool.or_eq_true,decide_eq_true_eq]
  omega
 have key:∀zero:Array Value,bP μ (if c*i.size=0 then[] else ew c (mr v).cells) ((Array.range (c*i.size)).map (λj=>zero[j %zero.size]!)).toList->
   (Instr.makeSlice t (.int kl l) (.int kc c)).run P w=(do let a<-_root_.Go.newRow e ((Array.range (c*i.size)).map (λj=>zero[j %zero.size]!));pure (.slice (some a) l c):Sem Value).run P w->
   pY P μ w (Instr.makeSlice t (.int kl l) (.int kc c)) e (if c*i.size=0 then[] else ew c (mr v).cells) (λa=>.slice (some a) l c):=by
  intro zero oy dW
  refine⟨_,oy,?_⟩
  rw[dW]
  simp only[Sem.run_bind,Sem.run_pure]
  have aM:=Gd (P:=P) (w:=w) e ((Array.range (c*i.size)).map (λj=>zero[j %zero.size]!)).toList
  have:(⟨((Array.range (c*i.size)).map (λj=>zero[j %zero.size]!)).toList⟩:Array Value)=((Array.range (c*i.size)).map (λj=>zero[j %zero.size]!)):=rfl
  rw[this] at aM
  rw[aM];rfl
 have bh:(_root_.Go.sizeOf e).run P w=.ok i.size w:=by simp[_root_.Go.sizeOf,run_typeInfo ag]
 by_cases h0:c*i.size=0
 · refine key #[] (by rw[if_pos h0,h0];simp[bP]) ?_
   simp only[Instr.makeSlice,Sem.run_bind,bE hu,Result.andThen_ok,asInt,asIntOf,Sem.run_pure,run_typeInfo ag,mE,vh]
   rw[if_neg q2]
   simp[bh,h0]
 · refine key v.cells (by rw[if_neg h0];exact ve af lW c) ?_
   simp only[Instr.makeSlice,Sem.run_bind,bE hu,Result.andThen_ok,asInt,asIntOf,Sem.run_pure,run_typeInfo ag,mE,vh]
   rw[if_neg q2]
   simp[bh,h0,aD]
structure Laid(P:Program)(μ:bb)(w:World)(s:Sem Next)(b:Nat)(v:I)(cE:cX)(u:Value)(X:Obj)(sz:Nat):Prop where
 run:s.run P w=.ok (.value u) (w.alloc X)
 val:∀aK,ej μ aK->aK b=some ⟨w.heap.size,0,sz⟩->a2 aK v u
 obj:∀aK w',ej μ aK->w'.heap[w.heap.size]? =some X->nA aK cE ⟨w.heap.size,0,sz⟩ w'
 ro:cE.nB=false
theorem pY.laid{s:Sem Value}{e:TypeId}{cs:List I}{val:Addr->Value}(h:pY P μ w s e cs val){b:Nat}{v:I}(aD:∀aK sz,aK b=some ⟨w.heap.size,0,sz⟩->a2 aK v (val ⟨w.heap.size,0,none⟩)):
  ∃u X sz,Laid P μ w (do pure (.value (<-s))) b v (.cells cs e .own 0 0) u X sz:=by
 obtain⟨us,aa,ad⟩:=h
 refine⟨_,.cells ⟨us⟩ e,us.length,by simp[ad],λaK _ hm=>aD aK _ hm,λaK w' hle bg=>?_,rfl⟩
 exact⟨⟨us⟩,0,0,bg,λj v aF=>by
  obtain⟨u,hu,ai⟩:=aa.get aF
  exact⟨u,by simpa using hu,ai.mono hle⟩,by simp,rfl,aa.length.symm,rfl,rfl⟩
theorem Of(o:Oper){g:Operand->I}{b6:Operand->Value}(aj:∀x,a2 μ (g x) (b6 x)){b:Nat}{v:I}{cE:cX}(h:iO P o.op g b=some (v,cE)):
  ∃u X sz,Laid P μ w (execOp b6 o) b v cE u X sz:=by
 obtain⟨dst,op,type,pos,after,guard⟩:=o
 cases op<;>simp only[iO] at h<;>try (cases h;done)
 case alloc e=>
  split at h
  · rename_i z aP
    split at h
    · cases h
      exact(Ob aP).laid λaK sz hm=>⟨_,hm,rfl⟩
    · cases h
  · cases h
 case box e x=>
  split at h
  · rename_i dx
    cases h
    have ae:g x≠ .bad:=by intro e;rw[e] at dx;simp[I.cells,I.cw] at dx
    exact(Oc (aj x) ae).laid λaK sz hm=>⟨_,hm,rfl⟩
  · cases h
 case buildSlice t len parts=>
  split at h
  · rename_i e hu
    split at h
    · rename_i sz z hs aP
      split at h
      · rename_i cs af hf
        rw[Bool.and_eq_true,Nat.ble_eq,Nat.beq_eq] at af
        split at h
        · cases h
          exact(Od g b6 aj hu hs aP af.1 af.2 parts hf).laid λaK sz hm=>⟨_,hm,rfl⟩
        · cases h
      · cases h
    · cases h
  · cases h
 case makeMap t r=>
  cases r with
  |some x=>cases h
  |none=>
   cases h
   exact⟨.map (some w.heap.size),.map #[] 0,0,rfl,λaK _ hm=>⟨_,hm,rfl⟩,λaK w' _ bg=>⟨[],bg,rfl⟩,rfl⟩
 case makeSlice t l c=>
  split at h
  · rename_i e mJ c' hu ar af
    obtain⟨kl,el⟩:=pX ar (aj l)
    obtain⟨kc,vB⟩:=pX af (aj c)
    split at h
    · rename_i i z ag aP
      split at h
      · rename_i cs jm
        split at h
        · cases h
          rw[Bool.and_eq_true,Bool.and_eq_true,Nat.ble_eq,Nat.beq_eq,decide_eq_true_eq] at jm
          have:=(Oe (P:=P) (μ:=μ) (w:=w) (kl:=kl) (kc:=kc) hu ag aP jm.1.1 jm.1.2 jm.2).laid (b:=b) (v:=.slice b 0 mJ (.exact c')) λaK sz hm=>⟨_,hm,rfl⟩
          simp only[execOp,el,vB]
          exact this
        · cases h
      · cases h
    · cases h
  · cases h
end
end a8
namespace a8
open Go
def gm(P:Program)(μ:bb):Prop:=∀g,g<P.globals.size->∃i,μ g=some i/\i.a1=g/\i.base=0
theorem gm.mono{P:Program}{μ aK:bb}(h:gm P μ)(hle:ej μ aK):gm P aK:=λg aj=>let⟨i,aa,ad⟩:=h g aj;⟨i,hle _ _ aa,ad⟩
def Ends(μ:bb)(H:ab)(w:World):a7->Ending->World->Prop
 |.ret v aI,e,w'=>∃aK u,e=.returned u/\a2 aK v u/\bc aK aI w'/\bN μ H w aK aI w'
 |.bK v aI,e,w'=>∃aK u,e=.panicked [{v:=u,recovered:=false}]/\a2 aK v u/\bc aK aI w'/\bN μ H w aK aI w'
 |.fail _,_,_=>True
def a7.jG:a7->Bool
 |.fail _=>false
 |_=>true
def rk(P:Program)(f:FuncId)(vs:List Value)(w:World)(R:Ending->World->Prop):Prop:=
 (∃v w',(callFunc f ⟨vs⟩).run P w=.ok (.value v) w'/\R (.returned v) w')\/
 ((callFunc f ⟨vs⟩).run P w=.ok (.enter f ⟨vs⟩) w/\Calls P f ⟨vs⟩ w R)
def pZ(P:Program)(m:Machine)(c:Frame)(cs:List Frame)(R:Ending->World->Prop):Prop:=
 ∃e w',R e w'/\match e with
  |.returned v=>Steps P m (lone (c.finish v) cs w')
  |.panicked chain=>Steps P m (lone (c.raise chain) cs w')
  |.outgrown=>False
def Ge(P:Program)(l:Nat)(vs:List Value)(w:World)(R:Ending->World->Prop):Prop:=
 ∃f tmps assign body,(Instr.yield l ⟨vs⟩).run P w=.ok (.round l f tmps assign body) w/\∀c cs,pZ P (lone (Frame.round l f tmps assign body .normal) (c::cs) w) c cs R
structure h6(P:Program)(call:dB->List I->ab->a7):Prop where
 fn:∀f args H,(call (.fn f) args H).jG=true->∀μ w (vs:List Value),bc μ H w->gm P μ->bP μ args vs->rk P f vs w (Ends μ H w (call (.fn f) args H))
 cS:∀l args H,(call (.cS l) args H).jG=true->∀μ w i (vs:List Value),bc μ H w->gm P μ->μ l=some i->bP μ args vs->Ge P i.a1 vs w (Ends μ H w (call (.cS l) args H))
theorem pZ.of_steps{P:Program}{m aR:Machine}{c:Frame}{cs:List Frame}{R:Ending->World->Prop}(h:Steps P m aR)(ao:pZ P aR c cs R):pZ P m c cs R:=by
 obtain⟨e,w',ai,hs⟩:=ao
 refine⟨e,w',ai,?_⟩
 cases e with
 |returned v=>exact h.trans hs
 |panicked tb=>exact h.trans hs
 |outgrown=>exact hs.elim
theorem Gf{P:Program}{f:FuncId}{args:Array Value}{w:World}{R:Ending->World->Prop}(g8:∀w',¬R .outgrown w')(h:Calls P f args w R)(c:Frame)(cs:List Frame):
  pZ P (lone (Frame.enter P f args .normal) (c::cs) w) c cs R:=by
 obtain⟨e,w',cK,ai,af,_,ar⟩:=h (c::cs)
 refine⟨e,w',ai,?_⟩
 cases e with
 |returned v=>exact Steps.trans af (.one (step_leave_returned ar))
 |panicked tb=>exact Steps.trans af (.one (step_leave_panicked ar))
 |outgrown=>exact(g8 _ ai).elim
def gA(μ:bb)(kind:CallKind)(cs0:List Frame):bu->List Frame->Prop
 |.none,cs=>cs=cs0/\∀cK:Frame,cK.kind=kind->tryRecover cK cs0=none
 |.act v,cs=>cs=cs0/\kind=.deferred/\∃c rest u,cs0=c::rest/\c.mode=.panicking [{v:=u,recovered:=false}]/\a2 μ v u
 |.done v,cs=>kind=.deferred/\∃c rest u,cs0=c::rest/\c.mode=.panicking [{v:=u,recovered:=false}]/\a2 μ v u/\cs={c with mode:=.panicking [{v:=u,recovered:=true}]}::rest
theorem gA.mono{μ aK:bb}(hle:ej μ aK){kind:CallKind}{cs0 cs:List Frame}{q:bu}(h:gA μ kind cs0 q cs):gA aK kind cs0 q cs:=by
 cases q with
 |none=>exact h
 |act v=>obtain⟨aa,ad,c,rest,u,aq,aC,bC⟩:=h;exact⟨aa,ad,c,rest,u,aq,aC,bC.mono hle⟩
 |done v=>obtain⟨aa,c,rest,u,aq,aC,bC,dd⟩:=h;exact⟨aa,c,rest,u,aq,aC,bC.mono hle,dd⟩
section
variable {P:Program} {μ:bb} {H:ab} {w:World}
theorem yg{b:Frame}{a:Act}{ops:Array Oper}{i:Nat}{rest:List Nat}{k:List Item}{cs:List Frame}{s:Sem Next}
  (bY:stepG P true {frame:=b.atR a (.inRegion ops (i::rest)::k),callers:=cs,status:=.running,dying:=none} w=stepG.apply P true (b.atR a (.inRegion ops (i::rest)::k)) cs none s w):
  (∀v w',s.run P w=.ok (.value v) w'->Steps P (lone (b.atR a (.inRegion ops (i::rest)::k)) cs w) (lone ((b.atR a (.inRegion ops (i::rest)::k)).finish v) cs w'))/\
  (∀w',s.run P w=.ok .skip w'->Steps P (lone (b.atR a (.inRegion ops (i::rest)::k)) cs w) (lone ((b.atR a (.inRegion ops (i::rest)::k)).finish undef) cs w'))/\
  (∀u w',s.run P w=.halt (.panic u) w'->Steps P (lone (b.atR a (.inRegion ops (i::rest)::k)) cs w) (lone ((b.atR a (.inRegion ops (i::rest)::k)).raise [{v:=u,recovered:=false}]) cs w'))/\
  (∀d w',s.run P w=.ok (.defer d) w'->Steps P (lone (b.atR a (.inRegion ops (i::rest)::k)) cs w) (lone (b.atR ({a with defers:=d::a.defers}.put ((ops[i]?).bind (·.dst)) undef) (.inRegion ops rest::k)) cs w'))/\
  (∀f args w',s.run P w=.ok (.enter f args) w'->Steps P (lone (b.atR a (.inRegion ops (i::rest)::k)) cs w) (lone (Frame.enter P f args .normal) (b.atR a (.inRegion ops (i::rest)::k)::cs) w'))/\
  (∀l f tmps assign body w',s.run P w=.ok (.round l f tmps assign body) w'->Steps P (lone (b.atR a (.inRegion ops (i::rest)::k)) cs w) (lone (Frame.round l f tmps assign body .normal) (b.atR a (.inRegion ops (i::rest)::k)::cs) w'))/\
  (b.roundOf=none->∀w',s.run P w=.ok .recover w'->∀v bw,tryRecover (b.atR a (.inRegion ops (i::rest)::k)) cs=some (v,bw)->Steps P (lone (b.atR a (.inRegion ops (i::rest)::k)) cs w) (lone ((b.atR a (.inRegion ops (i::rest)::k)).finish v) bw w'))/\
  (b.roundOf=none->∀w',s.run P w=.ok .recover w'->tryRecover (b.atR a (.inRegion ops (i::rest)::k)) cs=none->Steps P (lone (b.atR a (.inRegion ops (i::rest)::k)) cs w) (lone ((b.atR a (.inRegion ops (i::rest)::k)).finish .nilIface) cs w')):=by
 refine⟨λv w' ai=>.one (step_lone_go ?_),λw' ai=>.one (step_lone_go ?_),λu w' ai=>.one (step_lone_go ?_),λd w' ai=>.one (step_lone_go ?_),λf args w' ai=>.one (step_lone_go ?_),λl f tmps assign body w' ai=>.one (step_lone_go ?_),λae w' ai v bw bm=>.one (step_lone_go ?_),λae w' ai bm=>.one (step_lone_go ?_)⟩
 · rw[bY];simp[stepG.apply,ai]
 · rw[bY];simp[stepG.apply,ai]
 · rw[bY];simp[stepG.apply,ai]
 · rw[bY]
   have:=Frame.finish_atR b {a with defers:=d::a.defers} ops i rest k undef
   simp only[stepG.apply,Sem.runT_eq,ai,GStep.bare_after]
   exact congrArg (λcK=>GStep.go {frame:=cK,callers:=cs,status:=.running,dying:=none} w') this
 · rw[bY];simp[stepG.apply,ai,Frame.atR]
 · rw[bY];simp[stepG.apply,ai,Frame.atR]
 · rw[bY]
   have lS:(b.atR a (.inRegion ops (i::rest)::k)).roundOf=none:=ae
   simp[stepG.apply,ai,lS,bm]
 · rw[bY]
   have lS:(b.atR a (.inRegion ops (i::rest)::k)).roundOf=none:=ae
   simp[stepG.apply,ai,lS,bm]
def Bx(P:Program)(μ:bb)(H:ab)(w:World)(b:Frame)(a:Act)(ops:Array Oper)(o:Oper)(i:Nat)(rest:List Nat)(k:List Item)(cs0 cs:List Frame):uZ->Prop
 |.ok v aW a0 aI=>∃aK w' u rl bw,Steps P (lone (b.atR a (.inRegion ops (i::rest)::k)) cs w) (lone (b.atR {tmps:=(a.put o.dst u).tmps,defers:=rl} (.inRegion ops rest::k)) bw w')/\
   a2 aK v u/\bc aK aI w'/\bN μ H w aK aI w'/\fh aK aW rl/\gA aK b.kind cs0 a0 bw
 |.bK v aW a0 aI=>∃aK w' u,Steps P (lone (b.atR a (.inRegion ops (i::rest)::k)) cs w) (lone {b.atR a (.inRegion ops (i::rest)::k) with mode:=.panicking [{v:=u,recovered:=false}]} cs w')/\
   a2 aK v u/\bc aK aI w'/\bN μ H w aK aI w'/\fh aK aW a.defers/\gA aK b.kind cs0 a0 cs
 |.fail _=>True
theorem put_defers(a:Act)(dst:Option Tmp)(u:Value):(a.put dst u).defers=a.defers:=by cases dst<;>rfl
theorem yh(a:Act)(dst:Option Tmp)(u:Value):a.put dst u={tmps:=(a.put dst u).tmps,defers:=a.defers}:=by cases dst<;>rfl
theorem Og(a:Act)(ds:List Deferred)(dst:Option Tmp)(u:Value):({a with defers:=ds}:Act).put dst u={tmps:=(a.put dst u).tmps,defers:=ds}:=by cases dst<;>rfl
theorem Gg{b:Frame}{a:Act}{ops:Array Oper}{o:Oper}{i:Nat}{rest:List Nat}{k:List Item}{cs0 cs:List Frame}(aQ:ops[i]? =some o){d:List bz}{q:bu}
  (ak:fh μ d a.defers)(aE:gA μ b.kind cs0 q cs){r:a7}{m:Machine}(hs:Steps P (lone (b.atR a (.inRegion ops (i::rest)::k)) cs w) m)
  (ar:pZ P m (b.atR a (.inRegion ops (i::rest)::k)) cs (Ends μ H w r)):Bx P μ H w b a ops o i rest k cs0 cs (u0 d q r):=by
 obtain⟨e,w',ai,bY⟩:=ar
 cases r with
 |ret v aI=>
  obtain⟨aK,u,rfl,aa,ad,aq⟩:=ai
  refine⟨aK,w',u,a.defers,cs,hs.trans ?_,aa,ad,aq,ak.mono aq.le,aE.mono aq.le⟩
  have:(b.atR a (.inRegion ops (i::rest)::k)).finish u=b.atR {tmps:=(a.put o.dst u).tmps,defers:=a.defers} (.inRegion ops rest::k):=by
   rw[Frame.finish_atR,aQ,<-yh];rfl
  rw[<-this];exact bY
 |bK v aI=>
  obtain⟨aK,u,rfl,aa,ad,aq⟩:=ai
  exact⟨aK,w',u,hs.trans bY,aa,ad,aq,ak.mono aq.le,aE.mono aq.le⟩
 |fail w=>trivial
theorem yi{r:a7}(h:r.jG=false):∃s,r=.fail s:=by
 cases r with
 |fail s=>exact⟨s,rfl⟩
 |_=>cases h
theorem yj{r:a7}(aj:r.jG=true):∀w',¬Ends μ H w r .outgrown w':=by
 intro w' h
 cases r with
 |ret v aI=>obtain⟨_,_,e,_⟩:=h;cases e
 |bK v aI=>obtain⟨_,_,e,_⟩:=h;cases e
 |fail s=>cases aj
theorem Gh{call:dB->List I->ab->a7}(af:h6 P call)(ah:bc μ H w)(jH:gm P μ){b:Frame}{a:Act}{ops:Array Oper}{o:Oper}{i:Nat}{rest:List Nat}{k:List Item}{cs0 cs:List Frame}
  (aQ:ops[i]? =some o){gd:Option (I×Bool)}(fp:∀nL,dC gd=some nL->Region.wanted o (yielded ops a.tmps)=nL){g:Operand->I}(aj:∀x,a2 μ (g x) (a.eval x)){d:List bz}{q:bu}
  (ak:fh μ d a.defers)(aE:gA μ b.kind cs0 q cs){inR:Bool}(eT:inR=b.roundOf.isSome):Bx P μ H w b a ops o i rest k cs0 cs (dc P inR call gd o g d q H):=by
 unfold dc
 have k7:∀u,(b.atR a (.inRegion ops (i::rest)::k)).finish u=b.atR {tmps:=(a.put o.dst u).tmps,defers:=a.defers} (.inRegion ops rest::k):=λu=>by
  rw[Frame.finish_atR,aQ,<-yh];rfl
 split
 · trivial
 · rename_i hw
   have vC:=fp _ hw
   refine⟨μ,w,undef,a.defers,cs,?_,⟨[],rfl,rfl⟩,ah,bN.refl _ _ _,ak,aE⟩
   have hs:=stepR_op_skip (P:=P) (b:=b) (a:=a) (k:=k) (cs:=cs) (w:=w) (ops:=ops) (i:=i) (rest:=rest) (by simp[aQ,vC])
   rw[aQ] at hs
   have he:a.put ((some o).bind (·.dst)) undef={tmps:=(a.put o.dst undef).tmps,defers:=a.defers}:=yh a o.dst undef
   rw[he] at hs
   exact .one hs
 · rename_i hw
   have By:=fp _ hw
   have bY:=stepGR_op (P:=P) (b:=b) (a:=a) (k:=k) (cs:=cs) (w:=w) (rest:=rest) aQ By
   have dO:=N_ (P:=P) ah o aj
   by_cases Gi:b.roundOf.isSome=true/\∃c,o.op=.defer c
   · obtain⟨ai,c,Oh⟩:=Gi
     have:(∃x,cj P o g H=.j0 x)\/∃s,cj P o g H=.fail s:=by
      unfold cj
      rw[Oh]
      simp only
      split
      · split
        · exact .inl ⟨_,rfl⟩
        · exact .inr ⟨_,rfl⟩
      · exact .inr ⟨_,rfl⟩
     rcases this with⟨x,e⟩|⟨s,e⟩
     · rw[e];simp only[eT,ai,if_true];trivial
     · rw[e];trivial
   · have rm:o.semAt b.roundOf a.eval=execOp a.eval o:=by
       cases fk:b.roundOf with
       |none=>rfl
       |some l=>exact Oper.semAt_eq _ _ _ λc e=>Gi ⟨by rw[fk];rfl,c,e⟩
     rw[rm] at bY
     obtain⟨al,aA,aU,bB,bO,dK,fq,gT⟩:=yg bY
     cases eD:cj P o g H with
     |val v aI=>
      rw[eD] at dO
      obtain⟨aK,w',u,ai,aa,ad,aq⟩:=dO
      refine⟨aK,w',u,a.defers,cs,?_,aa,ad,aq,ak.mono aq.le,aE.mono aq.le⟩
      rw[<-k7]
      rcases ai with ai|⟨rfl,ai⟩
      · exact al _ _ ai
      · exact aA _ ai
     |bK v aI=>
      rw[eD] at dO
      obtain⟨rfl,u,ai,aa⟩:=dO
      exact⟨μ,w,u,aU _ _ ai,aa,ah,bN.refl _ _ _,ak,aE⟩
     |call f args aI=>
      rw[eD] at dO
      obtain⟨rfl,vs,ai,aa⟩:=dO
      simp only
      cases bL:(call (.fn f) args aI).jG with
      |false=>obtain⟨s,hs⟩:=yi bL;rw[hs];trivial
      |true=>
       rcases af.fn f args aI bL μ w vs ah jH aa with⟨v,w',aV,ba⟩|⟨aV,ba⟩
       · rw[<-ai] at aV
         have hs:=al _ _ aV
         cases Bz:call (.fn f) args aI with
         |fail s=>trivial
         |ret v' bU=>
          rw[Bz] at ba
          obtain⟨aK,u,e,ad,aq,aC⟩:=ba
          cases e
          exact⟨aK,w',_,a.defers,cs,by rw[<-k7];exact hs,ad,aq,aC,ak.mono aC.le,aE.mono aC.le⟩
         |bK v' bU=>
          rw[Bz] at ba
          obtain⟨aK,u,e,ad,aq,aC⟩:=ba
          cases e
       · rw[<-ai] at aV
         have hs:=bO _ _ _ aV
         exact Gg aQ ak aE hs (Gf (yj bL) ba _ _)
     |cS l args aI=>
      rw[eD] at dO
      obtain⟨rfl,dy,vs,ar,ai,aa⟩:=dO
      simp only
      cases bL:(call (.cS l) args aI).jG with
      |false=>obtain⟨s,hs⟩:=yi bL;rw[hs];trivial
      |true=>
       obtain⟨f,tmps,as,bV,aV,ba⟩:=af.cS l args aI bL μ w dy vs ah jH ar aa
       rw[<-ai] at aV
       have hs:=dK _ _ _ _ _ _ aV
       exact Gg aQ ak aE hs (ba _ _)
     |j0 x=>
      rw[eD] at dO
      obtain⟨pV,ai,aa⟩:=dO
      simp only
      split
      · trivial
      · refine⟨μ,w,undef,pV::a.defers,cs,?_,⟨[],rfl,rfl⟩,ah,bN.refl _ _ _,⟨_,_,rfl,aa,ak⟩,aE⟩
        have hs:=bB _ _ ai
        rw[aQ] at hs
        have he:({a with defers:=pV::a.defers}:Act).put ((some o).bind (·.dst)) undef={tmps:=(a.put o.dst undef).tmps,defers:=pV::a.defers}:=Og a _ o.dst undef
        rw[he] at hs
        exact hs
     |qO=>
      rw[eD] at dO
      have ai:(execOp a.eval o).run P w=.ok .recover w:=dO
      simp only
      split
      · trivial
      · rename_i x1
        have vD:b.roundOf=none:=by
         cases fk:b.roundOf with
         |none=>rfl
         |some l=>rw[fk] at eT;exact absurd eT x1
        have an:(b.atR a (.inRegion ops (i::rest)::k)).kind=b.kind:=rfl
        split
        · obtain⟨rfl,bm⟩:=aE
          refine⟨μ,w,.nilIface,a.defers,cs,?_,rfl,ah,bN.refl _ _ _,ak,⟨rfl,bm⟩⟩
          rw[<-k7]
          exact gT vD _ ai (bm _ an)
        · have BA:=aE
          obtain⟨k8,c,rs,u,ax,av,bq,rfl⟩:=aE
          refine⟨μ,w,.nilIface,a.defers,_,?_,rfl,ah,bN.refl _ _ _,ak,BA⟩
          rw[<-k7]
          refine gT vD _ ai ?_
          have vE:(b.atR a (.inRegion ops (i::rest)::k)).kind=.deferred:=an.trans k8
          simp only[tryRecover,vE]
        · obtain⟨rfl,k8,c,rs,u,ax,av,bq⟩:=aE
          subst ax
          refine⟨μ,w,u,a.defers,{c with mode:=.panicking [{v:=u,recovered:=true}]}::rs,?_,bq,ah,bN.refl _ _ _,ak,⟨k8,c,rs,u,rfl,av,bq,rfl⟩⟩
          rw[<-k7]
          refine fq vD _ ai _ _ ?_
          have vE:(b.atR a (.inRegion ops (i::rest)::k)).kind=.deferred:=an.trans k8
          simp only[tryRecover,vE,av]
     |fail s=>trivial
end
end a8
