/-
  THE ABSTRACT EVALUATOR (operations): a deterministic semantics of loaded code, and the proof that its runs are runs of the program in the model, whatever the tape draws. No condition.
-/
import Derived.Test.YtjkomfonmcmgdaaGreatDoorAea
import Derived.ChangeKeysEq
import Derived.Laws.StructEq
import Derived.AtR
set_option linter.unusedVariables false
set_option linter.unusedSimpArgs false
namespace bt
open Go
section
variable {P:Program} {μ:bz} {H:J} {w:World}
theorem Bf{b off n:Nat}{cs:List I}(h:loadCells H b off n=some cs):cs.length=n:=by
 unfold loadCells at h
 split at h
 · obtain⟨aa,rfl⟩:=tH _ _ _ h
   simp;omega
 · cases h
theorem Bg:∀l:List UInt8,(dp l).length=l.length
 |[]=>rfl
 |_::l=>by simp[dp,Bg l]
theorem Ji{size n:Nat}{x:I}{cs:List I}(h:fg H size x=some (n,cs)):cs.length=n*size:=by
 cases x<;>simp only[fg] at h<;>try cases h
 · split at h<;>cases h
   rw[Bg];simp
 · simp
 · rename_i b off len cap
   cases cap with
   |dead=>
    simp only at h
    split at h
    · cases h;simp
    · cases h
   |exact c=>
    simp only at h
    split at h
    · rename_i bT aw;cases h;exact Bf aw
    · cases h
   |aR gR=>
    simp only at h
    split at h
    · rename_i bT aw;cases h;exact Bf aw
    · cases h
theorem RS(ak:bB μ H w){argTypes:Array TypeId}{ty sT:TypeId}(h0:argTypes[0]? =some sT){s x:I}{oe bG:Value}(hs:bp μ s oe)(ab:bp μ x bG){v:I}{aX:J}
  (h:db P H sT argTypes[1]? s x=some (v,aX)):e5 P μ H w (Builtin.append_ argTypes ty #[oe,bG]) v aX:=by
 unfold db at h
 split at h
 · rename_i e hu eR
   split at h
   · rename_i i z af aW
     split at h
     · cases h
     · rename_i n cs fj
       obtain⟨aw,us,jw,lZ⟩:=Bb (P:=P) ak ab fj
       have h9:=Ji fj
       cases s<;>(try simp only at h)<;>try cases h
       ·
        cases hs
        cases n with
        |zero=>
         cases h
         have:=yp (P:=P) (ty:=ty) h0 rfl hu eR af (base:=none) (sLen:=0) (sCap:=0) aw jw (by omega)
         exact .same ak this rfl
        |succ n=>
         have al:kB H e i.bytes i.size (0+(n+1)) z ([]++cs) 0=some (v,aX):=by simpa using h
         exact Ej ak h0 rfl hu eR af aW ab fj (old:=[]) ⟨[],rfl,rfl⟩ (by simp) h9 (by omega) ak (cg.refl _ _ _) al
       · rename_i b off len cap
         obtain⟨eC,h_,ag⟩:=hs
         cases cap with
         |dead=>cases h
         |exact cap=>
          cases ag
          simp only at h
          split at h
          · rename_i hle
            have hle:=Nat.le_of_ble_eq_true hle
            have aj:=yp (P:=P) (ty:=ty) h0 rfl hu eR af (base:=some ⟨eC.bo,eC.base+off,none⟩) (sLen:=len) (sCap:=cap) aw jw hle
            simp only[add_plain] at aj
            split at h
            · cases h
              have Em:us=[]:=by
               have aa:=h9;have ad:=lZ.length
               cases us with
               |nil=>rfl
               |cons a l=>simp at aa ad;omega
              subst Em
              refine .same ak (v':=.slice (some ⟨eC.bo,eC.base+off,none⟩) len cap) ?_ ⟨eC,h_,rfl⟩
              rw[aj];simp[_root_.Go.storeCells]
            · split at h
              · rename_i aa cA
                cases h
                obtain⟨w',aA,ax,bD⟩:=yc (P:=P) ak h_ lZ cA
                refine⟨μ,w',.slice (some ⟨eC.bo,eC.base+off,none⟩) (len+n) cap,?_,⟨eC,h_,rfl⟩,ax,bD⟩
                rw[aj,Nat.add_assoc,aA];rfl
              · cases h
          · rename_i hle
            have ch:cap<len+n:=by
             rcases Nat.lt_or_ge cap (len+n) with h|h
             · exact h
             · rw[yk h] at hle;cases hle
            split at h
            · rename_i old hold
              obtain⟨os,dA,dK⟩:=se (P:=P) ak.drew h_ hold
              exact Ej ak h0 rfl hu eR af aW ab fj (old:=old) ⟨os,by simp only[Builtin.firstCells];exact dA,dK⟩ (Bf hold) h9 ch ak (cg.refl _ _ _) h
            · cases h
         |aR gR=>
          obtain⟨cap,rfl,sf,bA⟩:=ag
          simp only at h
          split at h
          · rename_i kT
            simp only[Bool.and_eq_true,Nat.blt_eq] at kT
            have RT:=Nat.eq_of_beq_eq_true kT.1
            subst RT
            have yd:=kT.2
            split at h
            · cases h
              have aj:=yp (P:=P) (ty:=ty) h0 rfl hu eR af (base:=some ⟨eC.bo,eC.base+off,none⟩) (sLen:=len) (sCap:=cap) aw jw (by omega)
              simp only[add_plain] at aj
              have Em:us=[]:=by
               have aa:=h9;have ad:=lZ.length
               cases us with
               |nil=>rfl
               |cons a l=>simp at aa ad;omega
              subst Em
              refine .same ak (v':=.slice (some ⟨eC.bo,eC.base+off,none⟩) len cap) ?_ ⟨eC,h_,cap,rfl,sf,bA⟩
              rw[aj];simp[_root_.Go.storeCells]
            · split at h
              · rename_i old el aI eY ae
                have RU:=ak.rel b _ eC ae h_
                obtain⟨c,gF,gG,ba,a1,b7,fv,fV⟩:=RU
                split at h
                · rename_i sn
                  have sn:=Nat.le_of_ble_eq_true sn
                  split at h
                  · rename_i aa cA
                    cases h
                    have l0:len+n<=cap:=by
                     have:(len+n)*i.size<=cap*i.size:=by omega
                     exact Nat.le_of_mul_le_mul_right this yd
                    have aj:=yp (P:=P) (ty:=ty) h0 rfl hu eR af (base:=some ⟨eC.bo,eC.base+off,none⟩) (sLen:=len) (sCap:=cap) aw jw l0
                    simp only[add_plain] at aj
                    obtain⟨w',aA,ax,bD⟩:=yc (P:=P) ak h_ lZ cA
                    refine⟨μ,w',.slice (some ⟨eC.bo,eC.base+off,none⟩) (len+n) cap,?_,⟨eC,h_,cap,rfl,l0,bA⟩,ax,bD⟩
                    rw[aj,Nat.add_assoc,aA];rfl
                  · cases h
                · split at h
                  · rename_i o Jj hold
                    simp only[Bool.and_eq_true] at Jj
                    obtain⟨kE,q2⟩:=Jj
                    have kE:=Nat.le_of_ble_eq_true kE
                    have q2:=Nat.eq_of_beq_eq_true q2
                    subst q2
                    have al:=h
                    unfold kB at h
                    split at h
                    · rename_i Jk
                      simp only[Bool.and_eq_true] at Jk
                      obtain⟨⟨p3,n9⟩,eB⟩:=Jk
                      cases h
                      have yq:=Bf hold
                      by_cases sn:len+n<=cap
                      ·
                       have aj:=yp (P:=P) (ty:=ty) h0 rfl hu eR af (base:=some ⟨eC.bo,eC.base+off,none⟩) (sLen:=len) (sCap:=cap) aw jw sn
                       simp only[add_plain] at aj
                       have hmul:(len+n)*i.size<=cap*i.size:=Nat.mul_le_mul_right _ sn
                       have Jh:(len+n)*i.size=len*i.size+n*i.size:=Nat.add_mul _ _ _
                       have I2:us.length=n*i.size:=by rw[<-lZ.length];exact h9
                       obtain⟨w',c',aA,ax,bD,ed,fF,gu,gj,g6,gv⟩:=I0 P eC.bo (eC.base+(off+len*i.size)) us w 0 c el gF gG ba
                        (lZ.ya λa aL=>RH eB a (List.mem_append_right _ aL)) (by omega) (λj kF mB ⟨f1,f2⟩=>by
                         have:=fV (j-eC.base) (by omega) (by omega) (by omega)
                         omega)
                       have RV:eC.base+off+(eC.size-off)=c'.size:=by rw[g6,<-b7,<-bA];omega
                       obtain⟨r1,r2⟩:=ak.RC (w':=w') (o':=.cells (o++cs) el .aR 0 (eY-off)) ae rfl h_ ed bD fF gu gj.1 (eC.base+off) (eC.size-off) (hdr:=Nat.le_of_eq gj.2.symm)
                        ⟨c',gF,gG,ax,λj a aK=>by
                         show∃u,c'[eC.base+off+j]? =some u/\_
                         rw[gv]
                         by_cases nh:j<o.length
                         · rw[List.getElem?_append_left nh] at aK
                           rw[if_neg (by omega)]
                           unfold loadCells at hold
                           rw[ae] at hold
                           simp only at hold
                           rw[ng] at hold
                           obtain⟨t1,rfl⟩:=tH _ _ _ hold
                           rw[List.getElem?_take] at aK
                           split at aK
                           · rw[List.getElem?_drop] at aK
                             obtain⟨u,En,p2⟩:=a1 (off+j) a aK
                             exact⟨u,by rw[Nat.add_assoc];exact En,p2.mono (ak.oV _)⟩
                           · cases aK
                         · rw[List.getElem?_append_right (by omega)] at aK
                           have Jl:j-o.length<cs.length:=by
                            rcases Nat.lt_or_ge (j-o.length) cs.length with h|h
                            · exact h
                            · rw[List.getElem?_eq_none h] at aK;cases aK
                           have afp:=lZ.length
                           rw[if_pos (by omega)]
                           obtain⟨u,En,p2⟩:=lZ.get aK
                           refine⟨u,?_,p2.mono (ak.oV _)⟩
                           rw[<-En]
                           have RW:eC.base+off+j-(eC.base+(off+len*i.size)+0)=j-o.length:=by rw[yq];omega
                           rw[RW],RV,by
                         refine⟨?_,λj kF mB Bh=>?_⟩
                         · simp only[List.length_append];have:=h9;omega
                         · have:=fV (off+j) (by simp only at kF;omega) (by simp only at mB;omega) (by simp only at Bh;omega)
                           omega⟩
                       refine⟨_,w',.slice (some ⟨eC.bo,eC.base+off,none⟩) (len+n) cap,?_,⟨_,gI _ _ _,cap,by simp,sn,by simp only;omega⟩,r1,r2⟩
                       rw[aj,Nat.add_assoc,aA];rfl
                      ·
                       obtain⟨bJ,bQ⟩:=ak.kill ae rfl h_
                       obtain⟨os,dA,dK⟩:=se (P:=P) ak.drew h_ hold
                       exact Ej (ty:=ty) ak h0 rfl hu eR af aW ab fj (old:=o) ⟨os,by simp only[Builtin.firstCells];exact dA,dK⟩ yq h9 (by omega) bJ bQ al
                    · cases h
                  · cases h
              · cases h
          · cases h
   · cases h
 · cases h
end
end bt
namespace bt
open Go
section
variable {P:Program} {μ:bz} {H:J} {w:World}
theorem cm.take{μ:bz}{as:List I}{vs:List Value}(h:cm μ as vs)(n:Nat):cm μ (as.take n) (vs.take n):=by
 refine cm.x_ (by simp[h.length]) λj a aK=>?_
 rw[List.getElem?_take] at aK⊢
 split at aK
 · rename_i aw;rw[if_pos aw];exact h.get aK
 · cases aK
theorem Jm(ak:bB μ H w){size n m:Nat}{x:I}{bG:Value}(ab:bp μ x bG){cs r:List I}(h:fg H size x=some (n,cs))(hm:m<=n)(aj:takeN (m*size) cs=some r):
  ∃us:List Value,(Builtin.firstCells size m bG).run P w=.ok ⟨us⟩ w/\cm μ r us:=by
 obtain⟨bc,rfl⟩:=tH _ _ _ aj
 have h9:=Ji h
 cases x<;>simp only[fg] at h<;>try cases h
 · split at h<;>cases h
   obtain⟨bs,rfl,rfl⟩:=ab
   refine⟨_,?_,(Ba μ _).take _⟩
   simp only[Builtin.firstCells,Sem.run_pure]
   congr 1
   apply Array.ext'
   simp[ByteArray.data_extract,List.map_take]
 · cases ab
   exact⟨[],rfl,by simp;rfl⟩
 · rename_i b off len cap
   obtain⟨i,af,ag⟩:=ab
   have load:∀bT,loadCells H b off (len*size)=some bT->n=len->cs=bT->∀c,∃us:List Value,(Builtin.firstCells size m (.slice (some ⟨i.bo,i.base+off,none⟩) len c)).run P w=.ok ⟨us⟩ w/\cm μ (cs.take (m*size)) us:=by
    intro bT aw aN fN c
    subst fN;subst aN
    have tL:loadCells H b off (m*size)=some (cs.take (m*size)):=by
     unfold loadCells at aw⊢
     split at aw
     · rename_i ba a1 b7 fv fV ae
       obtain⟨t1,t2⟩:=tH _ _ _ aw
       have hmul:m*size<=n*size:=Nat.mul_le_mul_right _ hm
       have e:∀(k:Nat) (l:List I),k<=l.length->takeN k l=some (l.take k):=by
        intro k
        induction k with
        |zero=>intro l _;simp[takeN]
        |succ k bb=>
         intro l aw
         cases l with
         |nil=>simp at aw
         |cons a l=>simp[takeN,bb l (by simpa using aw)]
       rw[e _ _ (by omega),t2,List.take_take,Nat.min_eq_left hmul]
     · cases aw
    obtain⟨us,aa,ad⟩:=se (P:=P) ak af tL
    exact⟨us,by simp only[Builtin.firstCells];exact aa,ad⟩
   cases cap with
   |dead=>
    simp only at h
    split at h
    · cases h
      obtain⟨_,a,c,rfl⟩:=ag
      have:m=0:=by omega
      subst this
      exact⟨[],by simp[Builtin.firstCells,_root_.Go.loadCells,loadCellsFrom],by simp;rfl⟩
    · cases h
   |exact c=>
    cases ag
    simp only at h
    split at h
    · rename_i bT aw;cases h;exact load _ aw rfl rfl c
    · cases h
   |aR gR=>
    obtain⟨c,rfl,_⟩:=ag
    simp only at h
    split at h
    · rename_i bT aw;cases h;exact load _ aw rfl rfl c
    · cases h
theorem RX(ak:bB μ H w){argTypes:Array TypeId}{ty AV:TypeId}(h0:argTypes[0]? =some AV){d s:I}{Eo oe:Value}(ao:bp μ d Eo)(hs:bp μ s oe){v:I}{aX:J}
  (h:vD P H AV d s=some (v,aX)):e5 P μ H w (Builtin.copy_ argTypes ty #[Eo,oe]) v aX:=by
 unfold vD at h
 split at h
 · rename_i e hu
   split at h
   · rename_i sz bA
     split at h
     · rename_i n cs fj
       obtain⟨aw,_⟩:=Bb (P:=P) ak hs fj
       have mC:∀w:World,(_root_.Go.sizeOf e).run P w=.ok sz w:=λw=>run_sizeOf bA
       have Jn:∀bG:Value,bG=oe->(Builtin.firstCells sz 0 oe).run P w=.ok #[] w:=λbG _=>by
        obtain⟨us,aa,ad⟩:=Jm (P:=P) (m:=0) (r:=[]) ak hs fj (Nat.zero_le _) (by simp[takeN])
        cases us with
        |nil=>exact aa
        |cons a l=>cases ad
       split at h
       · cases h;cases ao
         refine .same ak (v':=.int .i64 0) ?_ rfl
         simp[Builtin.copy_,h0,b4 hu,aw,mC,Jn oe rfl,goInt]
       · rename_i b off len cap
         simp only at h
         obtain⟨i,af,ag⟩:=ao
         have jv:∃(a:Addr) (c:Nat),Eo=.slice (some a) len c/\(cap≠ .dead->a=⟨i.bo,i.base+off,none⟩):=by
          cases cap with
          |exact c=>cases ag;exact⟨_,c,rfl,λ_=>rfl⟩
          |aR gR=>obtain⟨c,rfl,_⟩:=ag;exact⟨_,c,rfl,λ_=>rfl⟩
          |dead=>obtain⟨rfl,a,c,rfl⟩:=ag;exact⟨a,c,rfl,λh=>absurd rfl h⟩
         obtain⟨a,c,rfl,aL⟩:=jv
         split at h
         · rename_i q3
           cases h
           refine .same ak (v':=.int .i64 0) ?_ rfl
           simp[Builtin.copy_,h0,b4 hu,aw,mC,q3,Jn oe rfl,goInt,_root_.Go.storeCells]
         · rename_i q3
           split at h
           · rename_i bT bc
             split at h
             · rename_i aa cA
               cases h
               have Bi:cap≠ .dead:=by
                intro e;subst e
                obtain⟨aA,_⟩:=ag
                subst aA;simp[Nat.min_def] at q3
               have:=aL Bi
               subst this
               obtain⟨us,ba,a1⟩:=Jm (P:=P) ak hs fj (Nat.min_le_left _ _) bc
               obtain⟨w',aA,ax,bD⟩:=yc (P:=P) ak af a1 cA
               refine⟨μ,w',.int .i64 (Nat.min n len:Nat),?_,rfl,ax,bD⟩
               simp[Builtin.copy_,h0,b4 hu,aw,mC,ba,aA,goInt]
             · cases h
           · cases h
       · cases h
     · cases h
   · cases h
 · cases h
theorem RY(ak:bB μ H w){argTypes:Array TypeId}{ty t:TypeId}(h0:argTypes[0]? =some t){x:I}{bG:Value}(ab:bp μ x bG){v:I}{aX:J}
  (h:pI P H t x=some (v,aX)):e5 P μ H w (Builtin.clear_ argTypes ty #[bG]) v aX:=by
 unfold pI at h
 split at h
 · rename_i hu;cases h;cases ab
   exact .same ak (v':=.tuple #[]) (by simp[Builtin.clear_,h0,b4 hu]) ⟨[],rfl,rfl⟩
 · rename_i hu;cases h;cases ab
   exact .same ak (v':=.tuple #[]) (by simp[Builtin.clear_,h0,b4 hu]) ⟨[],rfl,rfl⟩
 · rename_i hu
   split at h
   · rename_i es c al
     cases h
     obtain⟨i,af,rfl⟩:=ab
     obtain⟨ents,aA,ax⟩:=ak.rel _ _ i al af
     have ch:i.bo<w.heap.size:=(ak.lt _ _ af).2
     obtain⟨r1,r2⟩:=ak.update (w':={w with heap:=w.heap.setIfInBounds i.bo (.map #[] c)}) (o':=.map [] c) al rfl af (by simp) (λr aj=>by simp[Array.getElem?_setIfInBounds];intro e;exact absurd e.symm aj) rfl rfl rfl
      ⟨[],by simp[ch],rfl⟩
     refine⟨μ,_,.tuple #[],?_,⟨[],rfl,rfl⟩,r1,r2⟩
     simp[Builtin.clear_,h0,b4 hu,getObj,setObj,Sem.run,aA]
   · cases h
 · rename_i e b off n cap hu
   split at h
   · rename_i aN
     cases h
     subst aN
     obtain⟨i,af,ag⟩:=ab
     have:∃a c,bG=.slice (some a) 0 c:=by
      cases cap with
      |exact c=>cases ag;exact⟨_,c,rfl⟩
      |aR gR=>obtain⟨c,rfl,_⟩:=ag;exact⟨_,c,rfl⟩
      |dead=>obtain⟨_,a,c,rfl⟩:=ag;exact⟨a,c,rfl⟩
     obtain⟨a,c,rfl⟩:=this
     exact .same ak (v':=.tuple #[]) (by simp[Builtin.clear_,h0,b4 hu]) ⟨[],rfl,rfl⟩
   · rename_i aN
     split at h
     · rename_i z aW
       split at h
       · rename_i aa cA
         cases h
         obtain⟨fH,mD,rfl,ae⟩:=my (P:=P) (w:=w) aW
         have hS:=RA n ((kD μ fH).cells ae)
         obtain⟨i,af,ag⟩:=ab
         have:∃c,bG=.slice (some ⟨i.bo,i.base+off,none⟩) n c:=by
          cases cap with
          |exact c=>cases ag;exact⟨c,rfl⟩
          |aR gR=>obtain⟨c,rfl,_⟩:=ag;exact⟨c,rfl⟩
          |dead=>obtain⟨h0,_⟩:=ag;exact absurd h0 aN
         obtain⟨c,rfl⟩:=this
         obtain⟨w',aA,ax,bD⟩:=yc (P:=P) ak af hS cA
         refine⟨μ,w',.tuple #[],?_,⟨[],rfl,rfl⟩,ax,bD⟩
         cases n with
         |zero=>exact absurd rfl aN
         |succ n=>simp[Builtin.clear_,h0,b4 hu,mD,aA]
       · cases h
     · cases h
 · cases h
theorem RZ(ak:bB μ H w){argTypes:Array TypeId}{ty t:TypeId}(h0:argTypes[0]? =some t){x:I}{bG:Value}(ab:bp μ x bG){v:I}(h:cl P H t x=some v):
  e5 P μ H w (Builtin.len_ argTypes ty #[bG]) v H:=by
 unfold cl at h
 split at h
 · rename_i s hu;cases h
   obtain⟨bs,rfl,rfl⟩:=ab
   refine .same ak (v':=.int .i64 (bs.size:Int)) (by simp[Builtin.len_,h0,b4 hu,goInt]) ?_
   have:bs.data.toList.length=bs.size:=Array.length_toList
   rw[this];rfl
 · rename_i n e hu;cases h
   exact .same ak (v':=.int .i64 (n:Int)) (by simp[Builtin.len_,h0,b4 hu,goInt]) rfl
 · rename_i e b off n cap hu;cases h
   obtain⟨i,af,ag⟩:=ab
   have:∃a c,bG=.slice a n c:=by
    cases cap with
    |exact c=>cases ag;exact⟨_,c,rfl⟩
    |aR gR=>obtain⟨c,rfl,_⟩:=ag;exact⟨_,c,rfl⟩
    |dead=>obtain⟨rfl,a,c,rfl⟩:=ag;exact⟨_,c,rfl⟩
   obtain⟨a,c,rfl⟩:=this
   exact .same ak (v':=.int .i64 (n:Int)) (by simp[Builtin.len_,h0,b4 hu,goInt]) rfl
 · rename_i hu;cases h;cases ab
   exact .same ak (v':=.int .i64 0) (by simp[Builtin.len_,h0,b4 hu,goInt]) rfl
 · rename_i hu;cases h;cases ab
   exact .same ak (v':=.int .i64 0) (by simp[Builtin.len_,h0,b4 hu,goInt]) rfl
 · rename_i r hu
   split at h
   · rename_i es c al
     cases h
     obtain⟨i,af,rfl⟩:=ab
     obtain⟨ents,aA,ax⟩:=ak.rel _ _ i al af
     have hlen:es.length=ents.length:=by
      clear aA al
      induction es generalizing ents with
      |nil=>cases ax;rfl
      |cons e es bb=>obtain⟨m,ms,rfl,_,ad⟩:=ax;simp[bb ms ad]
     refine .same ak (v':=.int .i64 (ents.length:Int)) ?_ (by rw[hlen];rfl)
     simp[Builtin.len_,h0,b4 hu,goInt,getObj,Sem.run,aA]
   · cases h
 · rename_i arr hu
   split at h
   · rename_i n e p2;cases h
     exact .same ak (v':=.int .i64 (n:Int)) (by simp[Builtin.len_,h0,b4 hu,b4 p2,goInt]) rfl
   · cases h
 · cases h
theorem R0(ak:bB μ H w){argTypes:Array TypeId}{ty t:TypeId}(h0:argTypes[0]? =some t){x:I}{bG:Value}(ab:bp μ x bG){v:I}(h:vC P t x=some v):
  e5 P μ H w (Builtin.cap_ argTypes ty #[bG]) v H:=by
 unfold vC at h
 split at h
 · rename_i n e hu;cases h
   exact .same ak (v':=.int .i64 (n:Int)) (by simp[Builtin.cap_,h0,b4 hu,goInt]) rfl
 · rename_i e b off n c hu;cases h
   obtain⟨i,af,ag⟩:=ab
   cases ag
   exact .same ak (v':=.int .i64 (c:Int)) (by simp[Builtin.cap_,h0,b4 hu,goInt]) rfl
 · rename_i hu;cases h;cases ab
   exact .same ak (v':=.int .i64 0) (by simp[Builtin.cap_,h0,b4 hu,goInt]) rfl
 · cases h
theorem Ep(f:I->I->Option I)(F:Value->Value->Sem Value)(hf:∀x y z bG gJ,f x y=some z->bp μ x bG->bp μ y gJ->∃fH,(F bG gJ).run P w=.ok fH w/\bp μ z fH):
  ∀(l:List I) (x:I) (bG:Value) (ln:List Value) (z:I),bp μ x bG->cm μ l ln->lU f x l=some z->∃fH,(ln.foldlM F bG).run P w=.ok fH w/\bp μ z fH
 |[],x,bG,ln,z,ab,aw,h=>by
  cases aw;simp[lU] at h;subst h
  exact⟨bG,rfl,ab⟩
 |y::l,x,bG,ln,z,ab,⟨gJ,Jo,e,aU,aw⟩,h=>by
  subst e
  simp only[lU] at h
  split at h
  · rename_i u hu
    obtain⟨R2,r1,r2⟩:=hf x y u bG gJ hu ab aU
    obtain⟨fH,s1,s2⟩:=Ep f F hf l u R2 Jo z r2 aw h
    exact⟨fH,by simp only[List.foldlM_cons,Sem.run_bind,r1,Result.andThen_ok,s1],s2⟩
  · cases h
theorem R3{x y z:I}{bG gJ:Value}(h:qN x y=some z)(ab:bp μ x bG)(aU:bp μ y gJ):∃fH,(Builtin.min2 bG gJ).run P w=.ok fH w/\bp μ z fH:=by
 unfold qN at h
 split at h
 · split at h
   · rename_i aq;cases h;subst aq
     cases ab;cases aU
     exact⟨_,rfl,by simp[bp,bP]⟩
   · cases h
 · cases h
theorem R4{x y z:I}{bG gJ:Value}(h:r3 x y=some z)(ab:bp μ x bG)(aU:bp μ y gJ):∃fH,(Builtin.max2 bG gJ).run P w=.ok fH w/\bp μ z fH:=by
 unfold r3 at h
 split at h
 · split at h
   · rename_i aq;cases h;subst aq
     cases ab;cases aU
     exact⟨_,rfl,by simp[bp,bP]⟩
   · cases h
 · cases h
end
end bt
namespace bt
open Go
section
variable {P:Program} {μ:bz} {H:J} {w:World}
theorem Jp:∀(cs:List I) (bs:List UInt8) (us:List Value),n2 cs=some bs->cm μ cs us->us=bs.map λb=>.int .u8 (b.toNat:Int)
 |[],bs,us,h,aj=>by cases aj;simp[n2] at h;subst h;rfl
 |c::cs,bs,us,h,⟨v,vs,e,aa,ad⟩=>by
  subst e
  unfold n2 at h
  split at h
  · rename_i heq;cases heq
  · rename_i n l heq
    cases heq
    split at h
    · rename_i r aN aj
      cases h
      cases aa
      rw[Jp cs r vs aj ad]
      simp only[Nat.blt_eq] at aN
      have:n %256=n:=Nat.mod_eq_of_lt aN
      simp[UInt8.toNat_ofNat',this]
    · cases h
  · cases h
theorem Jq(w:World):∀(bs:List UInt8) (acc:ByteArray),(forIn (bs.map λb=>Value.int .u8 (b.toNat:Int)) acc λc s=>
  (match c with
  |.int .u8 n=>pure (ForInStep.yield (s.push (UInt8.ofNat n.toNat)))
  |_=>do stuck "bytesToString: byte expected";pure (ForInStep.yield s):Sem (ForInStep ByteArray))).run P w=.ok ⟨acc.data++bs.toArray⟩ w
 |[],acc=>by simp
 |b::bs,acc=>by
  simp only[List.map_cons,List.forIn_cons,Sem.run_bind,Sem.run_pure,Result.andThen_ok,Jq w bs]
  congr 1
  simp[ByteArray.ext_iff,ByteArray.push]
theorem R5(ak:bB μ H w){b off n:Nat}{cap:bR}(l0:cap≠ .dead){bG:Value}(ab:bp μ (.slice b off n cap) bG){cs:List I}(aw:loadCells H b off n=some cs){bs:List UInt8}(ae:n2 cs=some bs):
  e5 P μ H w (Conv.bytesToString bG) (.str bs) H:=by
 obtain⟨i,af,ag⟩:=ab
 have:∃c,bG=.slice (some ⟨i.bo,i.base+off,none⟩) n c:=by
  cases cap with
  |exact c=>cases ag;exact⟨c,rfl⟩
  |aR gR=>obtain⟨c,rfl,_⟩:=ag;exact⟨c,rfl⟩
  |dead=>exact absurd rfl l0
 obtain⟨c,rfl⟩:=this
 obtain⟨us,aa,ad⟩:=se (P:=P) ak af aw
 have jw:=Jp cs bs us ae ad
 subst jw
 refine .same ak (v':=.string ⟨bs.toArray⟩) ?_ ⟨_,rfl,by simp⟩
 simp only[Conv.bytesToString,Sem.run_bind,aa,Result.andThen_ok]
 have e:=Jq (P:=P) w bs ByteArray.empty
 rw[<-List.forIn_toArray] at e
 refine(congrArg (λr=>Result.andThen r _) e).trans ?_
 simp
theorem R6(ak:bB μ H w){e:TypeId}{bs:ByteArray}:
  e5 P μ H w (Conv.stringToBytes e bs) (.slice H.n 0 bs.data.toList.length (.aR 1)) (H.push (.cells (dp bs.data.toList) e .aR 0 0)):=by
 have Bc:(Question.appendCap bs.size 0 e).forced=false:=rfl
 have bA:bs.data.toList.length=bs.size:=Array.length_toList
 obtain⟨cap,l0,hle⟩:∃cap,(Question.appendCap bs.size 0 e).cut (w.tape w.drawn (Question.appendCap bs.size 0 e))=cap/\bs.size<=cap:=⟨_,rfl,by simp[Question.cut]⟩
 have Bj:=ak.drew.oV ⟨w.heap.size,0,cap⟩
 let c:Array Value:=(bs.data.map λb=>.int .u8 b.toNat)++Array.replicate (cap-bs.size) (.int .u8 0)
 have fN:c.size=cap:=by
  have:bs.data.size=bs.size:=rfl
  simp only[c,Array.size_append,Array.size_map,Array.size_replicate,this];omega
 have kS:A5 (fE μ H.n ⟨w.heap.size,0,cap⟩) (dp bs.data.toList) c 0:=λj v aK=>by
  obtain⟨u,hu,aj⟩:=(Ba μ bs.data.toList).get aK
  refine⟨u,?_,aj.mono Bj⟩
  have vQ:j<bs.data.size:=by
   rcases Nat.lt_or_ge j bs.data.size with h|h
   · exact h
   · rw[List.getElem?_eq_none (by simpa using h)] at hu;cases hu
  simp only[c,Nat.zero_add]
  rw[Array.getElem?_append_left (by simpa using vQ)]
  simpa using hu
 have R7:bB (fE μ H.n ⟨w.heap.size,0,cap⟩) (H.push (.cells (dp bs.data.toList) e .aR 0 0)) (w.drew.alloc (.cells c e))/\cg μ H w.drew (fE μ H.n ⟨w.heap.size,0,cap⟩) (H.push (.cells (dp bs.data.toList) e .aR 0 0)) (w.drew.alloc (.cells c e)):=
  ak.drew.alloc (.cells (dp bs.data.toList) e .aR 0 0) (.cells c e) cap
  ⟨c,0,0,World.heap_alloc_new _ _,kS,by simp[fN],by
    refine⟨?_,λj _ _ h=>by omega⟩
    rw[Bg,bA];exact hle⟩
 obtain⟨r1,r2⟩:=R7
 let cN:World:=(w.drew.alloc (.cells c e)).freeze ⟨w.heap.size,cap,none⟩ 1
 have Er:cN.heap[w.heap.size]? =some (.cells c e (cap,cap+1)):=by
  simp only[cN,World.freeze,if_neg (show¬(1=0) by omega),Array.getElem?_modify]
  have:(w.drew.alloc (.cells c e)).heap[w.heap.size]? =some (.cells c e (0,0)):=World.heap_alloc_new _ _
  rw[this];simp
 have sl:(H.push (.cells (dp bs.data.toList) e .aR 0 0)).get H.n=some (.cells (dp bs.data.toList) e .aR 0 0):=by rw[J.gD,if_pos rfl]
 have cA:bB (fE μ H.n ⟨w.heap.size,0,cap⟩) ((H.push (.cells (dp bs.data.toList) e .aR 0 0)).set H.n (some (.cells (dp bs.data.toList) e .aR 0 0))) cN/\
   cg (fE μ H.n ⟨w.heap.size,0,cap⟩) (H.push (.cells (dp bs.data.toList) e .aR 0 0)) (w.drew.alloc (.cells c e)) (fE μ H.n ⟨w.heap.size,0,cap⟩) ((H.push (.cells (dp bs.data.toList) e .aR 0 0)).set H.n (some (.cells (dp bs.data.toList) e .aR 0 0))) cN:=
  r1.update sl rfl (gI _ _ _) (by simp[cN,World.freeze]) (λr aj=>by
   simp only[cN,World.freeze,if_neg (show¬(1=0) by omega),Array.getElem?_modify]
   rw[if_neg (λe=>aj e.symm)]) (by simp[cN,World.freeze]) (by simp[cN,World.freeze]) (by simp[cN,World.freeze])
   ⟨c,cap,cap+1,Er,kS,by simp[fN],by
     refine⟨by rw[Bg,bA];exact hle,λj kF mB Bh=>by simp only at kF mB;omega⟩⟩
 refine⟨fE μ H.n ⟨w.heap.size,0,cap⟩,cN,.slice (some ⟨w.heap.size,0,none⟩) bs.size cap,?_,⟨⟨w.heap.size,0,cap⟩,gI _ _ _,cap,by simp[bA],by rw[bA];exact hle,by simp⟩,?_,?_⟩
 · simp only[Conv.stringToBytes,Sem.run_bind,run_choose,Bc,Bool.false_eq_true,if_false,World.drew_eq,Result.andThen_ok,l0]
   have aA:(_root_.Go.newRow e c).run P w.drew=.ok ⟨w.heap.size,0,none⟩ (w.drew.alloc (.cells c e)):=rfl
   rw[show(_root_.Go.newRow e ((bs.data.map λb=>.int .u8 b.toNat)++Array.replicate (cap-bs.size) (.int .u8 0))).run P w.drew=_ from aA]
   have ax:(w.drew.alloc (.cells c e)).shape? w.heap.size=some (e,cap):=by
    have:(w.drew.alloc (.cells c e)).heap[w.heap.size]? =some (.cells c e (0,0)):=World.heap_alloc_new _ _
    simp only[World.shape?,this,fN]
   simp only[Result.andThen_ok,markStringish,Sem.run_bind,run_shape,ax,run_freeze,Sem.run_pure]
   rfl
 ·
  refine⟨λb o i ae af=>cA.1.rel b o i ?_ af,λb c' i j ae ag=>cA.1.inj b c' i j ?_ ?_,cA.1.lt,λb ae=>?_⟩
  · rw[J.c7];split
    · rename_i e;subst e;rw[sl] at ae;exact ae
    · exact ae
  · rw[J.c7];split
    · simp
    · exact ae
  · rw[J.c7];split
    · exact⟨_,rfl,rfl⟩
    · exact ag
  · exact r1.bound b ae
 · refine cg.trans ak ak.drew cg.drew (cg.trans ak.drew r1 r2 ⟨fi.refl _,cA.2.size,Nat.le_refl _,λ_ _ h=>h,λ_ _ _=>rfl,cA.2.old,λb i h an=>(by rw[h] at an;cases an),λb o i ae aj af=>⟨ae,(cA.2.ro b o i ae aj af).2⟩,cA.2.os,cA.2.out,cA.2.tape,cA.2.drawn⟩)
theorem R8{i:eX}{o o':Nat}:(sameAddr ⟨i.bo,i.base+o,none⟩ ⟨i.bo,i.base+o',none⟩).run P w=.ok (Nat.beq o o') w:=by
 simp only[sameAddr,beq_self_eq_true,if_true,Sem.run_pure]
 congr 1
 rw[Bool.eq_iff_iff]
 simp
theorem R9{r r' o o' el p4:Nat}{c c':Array Value}(h:w.heap[r]? =some (.cells c el (0,0)))(an:w.heap[r']? =some (.cells c' p4 (0,0)))(cX:r≠r'):
  (sameAddr ⟨r,o,none⟩ ⟨r',o',none⟩).run P w=.ok false w:=by
 have ae:(r==r')=false:=beq_eq_false_iff_ne.2 cX
 have f1:∀k,w.frozen? ⟨r,k,none⟩=false:=λk=>by simp[World.frozen?,h]
 have f2:∀k,w.frozen? ⟨r',k,none⟩=false:=λk=>by simp[World.frozen?,an]
 have s1:w.shape? r=some (el,c.size):=by simp[World.shape?,h]
 have s2:w.shape? r'=some (p4,c'.size):=by simp[World.shape?,an]
 simp[sameAddr,ae,f1,f2,noView,viewAt,s1,s2,mayBeOne,stringish]
theorem Es(w:World)(D:Nat)(E:TypeId->I->I->Option Bool)(fG:∀t x y b bG gJ,E t x y=some b->bp μ x bG->bp μ y gJ->(Op.equalIn D t bG gJ).run P w=.ok b w)
  {xs ys:List I}{q4 tM:List Value}(ab:cm μ xs q4)(aU:cm μ ys tM):∀(b0:List Field) (b:Bool),eqFields P E xs ys b0=some b->(Op.eqFields D ⟨q4⟩ ⟨tM⟩ b0).run P w=.ok b w
 |[],b,h=>by cases h;rfl
 |f::b0,b,h=>by
  simp only[eqFields] at h
  split at h
  · rename_i aN
    have aN:f.name= "_" :=of_decide_eq_true aN
    have bb:=Es w D E fG ab aU b0 b h
    simp only[Op.eqFields,aN,ne_eq,not_true_eq_false,if_false]
    exact bb
  · rename_i aN
    have aN:¬(f.name= "_"):=of_decide_eq_false aN
    split at h
    · rename_i a c aL ag
      obtain⟨yr,ey,e9⟩:=sk (P:=P) (w:=w) ab aL
      obtain⟨q5,ba,a1⟩:=sk (P:=P) (w:=w) aU ag
      split at h
      · rename_i he
        have aj:=fG _ _ _ _ yr q5 he e9 a1
        have bb:=Es w D E fG ab aU b0 b h
        simp only[Op.eqFields,ne_eq,aN,not_false_eq_true,if_true,Sem.run_bind,ey,ba,Result.andThen_ok,aj,Bool.not_true,Bool.false_eq_true,if_false]
        exact bb
      · rename_i r aj
        cases b with
        |true=>exact absurd h aj
        |false=>
         have yu:=fG _ _ _ _ yr q5 h e9 a1
         simp only[Op.eqFields,ne_eq,aN,not_false_eq_true,if_true,Sem.run_bind,ey,ba,Result.andThen_ok,yu,Bool.not_false,Sem.run_pure]
    · cases h
theorem Jr(w:World)(D:Nat){e:TypeId}{sz:Nat}(E:TypeId->I->I->Option Bool)(fG:∀t x y b bG gJ,E t x y=some b->bp μ x bG->bp μ y gJ->(Op.equalIn D t bG gJ).run P w=.ok b w){xs ys:List I}{q4 tM:List Value}(ab:cm μ xs q4)(aU:cm μ ys tM):
  ∀(n i:Nat) (b:Bool),xX P E e sz xs ys n i=some b->(Op.eqItems D e sz ⟨q4⟩ ⟨tM⟩ (List.range' i n)).run P w=.ok b w
 |0,i,b,h=>by simp only[xX] at h;cases h;simp[Op.eqItems]
 |n+1,i,b,h=>by
  simp only[xX] at h
  rw[List.range'_succ]
  split at h
  · rename_i a c aL ag
    obtain⟨yr,ey,e9⟩:=sk (P:=P) (w:=w) ab aL
    obtain⟨q5,ba,a1⟩:=sk (P:=P) (w:=w) aU ag
    split at h
    · rename_i he
      have aj:=fG _ _ _ _ yr q5 he e9 a1
      have bb:=Jr w D E fG ab aU n (i+1) b h
      simp only[Op.eqItems,Sem.run_bind,ey,ba,Result.andThen_ok,aj,Bool.not_true,Bool.false_eq_true,if_false]
      exact bb
    · rename_i r aj
      cases b with
      |true=>exact absurd h aj
      |false=>
       have yu:=fG _ _ _ _ yr q5 h e9 a1
       simp only[Op.eqItems,Sem.run_bind,ey,ba,Result.andThen_ok,yu,Bool.not_false,if_true,Sem.run_pure]
  · cases h
set_option maxHeartbeats 4000000 in
theorem tN(ak:bB μ H w):∀(d:Nat) (t:TypeId) (x y:I) (b:Bool) (bG gJ:Value) (D:Nat),d<=D->gg P H d t x y=some b->bp μ x bG->bp μ y gJ->(Op.equalIn D t bG gJ).run P w=.ok b w
 |0,t,x,y,b,bG,gJ,D,_,h,_,_=>by simp[gg] at h
 |d+1,t,x,y,b,bG,gJ,0,ao,_,_,_=>by omega
 |d+1,t,x,y,b,bG,gJ,D+1,ao,h,ab,aU=>by
  unfold gg at h
  cases hu:P.underlying t with
  |none=>rw[hu] at h;cases h
  |some u=>
   rw[hu] at h
   cases u<;>simp only at h
   case bool=>
    split at h<;>cases h
    cases ab;cases aU
    simp[Op.equalIn,b4 hu]
   case int kG=>
    split at h
    · split at h
      · rename_i aq;cases h;subst aq;cases ab;cases aU
        simp[Op.equalIn,b4 hu,a8]
      · cases h
    · cases h
   case string=>
    split at h<;>cases h
    obtain⟨s1,rfl,rfl⟩:=ab
    obtain⟨s2,rfl,rfl⟩:=aU
    rw[n_,<-si,<-si,<-beq_toListBytes]
    simp[Op.equalIn,b4 hu]
   case pointer e=>
    split at h
    · cases h;cases ab;cases aU;simp[Op.equalIn,b4 hu]
    · cases h;cases ab;obtain⟨i,_,rfl⟩:=aU;simp[Op.equalIn,b4 hu]
    · cases h;cases aU;obtain⟨i,_,rfl⟩:=ab;simp[Op.equalIn,b4 hu]
    · rename_i a i hT j
      split at h
      · rename_i n hs
        obtain⟨vR,Et,rfl⟩:=ab
        obtain⟨hF,Bk,rfl⟩:=aU
        have bA:(_root_.Go.sizeOf e).run P w=.ok (n+1) w:=run_sizeOf hs
        have goal:∀r,(sameAddr ⟨vR.bo,vR.base+i,none⟩ ⟨hF.bo,hF.base+j,none⟩).run P w=r->(Op.equalIn (D+1) t (.pointer (some ⟨vR.bo,vR.base+i,none⟩)) (.pointer (some ⟨hF.bo,hF.base+j,none⟩))).run P w=r:=by
         intro r aj
         simp[Op.equalIn,b4 hu,bA,aj]
        unfold D2 at h
        split at h
        · rename_i fw
          cases h
          have:=Nat.eq_of_beq_eq_true fw
          subst this
          rw[Et] at Bk;cases Bk
          exact goal _ R8
        · rename_i fw
          split at h
          · rename_i q6 Bl
            cases h
            obtain⟨aF,_,_,bJ,_,_,bQ⟩:=ak.rel _ _ vR q6 Et
            obtain⟨a6,_,_,bw,_,_,bV⟩:=ak.rel _ _ hF Bl Bk
            obtain⟨_,_,rfl,rfl⟩:=bQ
            obtain⟨_,_,rfl,rfl⟩:=bV
            refine goal _ (R9 bJ bw λe=>?_)
            have:=ak.inj _ _ vR hF (by rw[q6];simp) ⟨_,Bl,rfl⟩ Et Bk e
            subst this
            simp at fw
          · cases h
      · cases h
    · cases h
   case slice e=>
    have fx:∀(b off n:Nat) (c:bR) (v:Value),bp μ (.slice b off n c) v->∃a m k,v=.slice (some a) m k:=by
     rintro b off n c v ⟨i,_,ag⟩
     cases c with
     |exact c=>cases ag;exact⟨_,_,_,rfl⟩
     |aR gR=>obtain⟨c,rfl,_⟩:=ag;exact⟨_,_,_,rfl⟩
     |dead=>obtain⟨_,a,c,rfl⟩:=ag;exact⟨_,_,_,rfl⟩
    split at h
    · cases h;cases ab;cases aU;simp[Op.equalIn,b4 hu]
    · cases h;cases ab;obtain⟨a,m,k,rfl⟩:=fx _ _ _ _ _ aU;simp[Op.equalIn,b4 hu]
    · cases h;cases aU;obtain⟨a,m,k,rfl⟩:=fx _ _ _ _ _ ab;simp[Op.equalIn,b4 hu]
    · cases h
   case map k e=>
    split at h
    · cases h;cases ab;cases aU;simp[Op.equalIn,b4 hu]
    · cases h;cases ab;obtain⟨i,_,rfl⟩:=aU;simp[Op.equalIn,b4 hu]
    · cases h;cases aU;obtain⟨i,_,rfl⟩:=ab;simp[Op.equalIn,b4 hu]
    · cases h
   case func ps rs v=>
    split at h
    · cases h;cases ab;cases aU;simp[Op.equalIn,b4 hu]
    · cases h;cases ab;obtain⟨_,_,rfl,_⟩:=aU;simp[Op.equalIn,b4 hu]
    · cases h;cases aU;obtain⟨_,_,rfl,_⟩:=ab;simp[Op.equalIn,b4 hu]
    · cases h
   case interface ms=>
    split at h
    · cases h;cases ab;cases aU;simp[Op.equalIn,b4 hu]
    · cases h;cases ab;obtain⟨_,rfl,_⟩:=aU;simp[Op.equalIn,b4 hu]
    · cases h;cases aU;obtain⟨_,rfl,_⟩:=ab;simp[Op.equalIn,b4 hu]
    · rename_i a v hT u
      obtain⟨v1,rfl,r1⟩:=ab
      obtain⟨jd,rfl,r2⟩:=aU
      split at h
      · rename_i fw
        cases h
        have:a≠hT:=by intro e;subst e;simp at fw
        simp[Op.equalIn,b4 hu,this]
      · rename_i fw
        have:=Nat.eq_of_beq_eq_true fw
        subst this
        split at h
        · rename_i yv yo
          split at h
          · rename_i R_
            have bb:=tN ak d a v u b v1 jd D (by omega) h r1 r2
            simp[Op.equalIn,b4 hu,run_typeInfo yo,R_,bb]
          · cases h
        · cases h
    · cases h
   case struct b0=>
    split at h
    · rename_i xs ys
      split at h
      · cases h
      · rename_i cA
        obtain⟨q4,rfl,eD⟩:=ab
        obtain⟨tM,rfl,ni⟩:=aU
        have key:=Es (P:=P) w D (gg P H d) (λt x y b bG gJ he aa ad=>tN ak d t x y b bG gJ D (by omega) he aa ad) eD ni b0.toList b h
        have oY:P.fieldsOf t=b0:=by simp[Program.fieldsOf,hu]
        rw[run_equalIn_struct w D t _ _ (by rw[oY];exact hu) cA,oY]
        exact key
    · cases h
   case array n e=>
    split at h
    · rename_i xs ys
      split at h
      · rename_i sz bA
        obtain⟨q4,rfl,eD⟩:=ab
        obtain⟨tM,rfl,ni⟩:=aU
        have af:∃i,P.info? e=some i/\i.size=sz:=by
         unfold dx at bA
         split at bA
         · rename_i i af;cases bA;exact⟨i,af,rfl⟩
         · cases bA
        obtain⟨i,af,Sa⟩:=af
        have Sb:P.cellsOf e=sz:=by unfold Program.cellsOf;rw[af];exact Sa
        rw[run_equalIn_array w D _ _ hu af,Sb,List.range_eq_range']
        exact Jr w D (gg P H d) (λt x y b bG gJ he aa ad=>tN ak d t x y b bG gJ D (by omega) he aa ad) eD ni n 0 b h
      · cases h
    · cases h
   all_goals cases h
theorem Js{u:TypeDesc}{kt:TypeId}(hu:P.underlying kt=some u){k x:I}{kv bG:Value}{b:Bool}(aq:oQ P kt k=true)(h:pK k x=some b)(aa:bp μ k kv)(ad:bp μ x bG):Instr.sameNow u kv bG=some b:=by
 unfold oQ at aq
 rw[hu] at aq
 cases u<;>simp only at aq<;>try cases aq
 ·
  split at aq<;>try cases aq
  cases x<;>simp only[pK] at h<;>cases h
  cases aa;cases ad;rfl
 ·
  split at aq<;>try cases aq
  cases x<;>simp only[pK] at h<;>try cases h
  split at h
  · rename_i e;cases h;subst e;cases aa;cases ad;simp[Instr.sameNow,a8]
  · cases h
 · split at aq<;>try cases aq
   cases x<;>simp only[pK] at h<;>cases h
   obtain⟨s1,rfl,rfl⟩:=aa
   obtain⟨s2,rfl,rfl⟩:=ad
   simp only[Instr.sameNow]
   rw[n_,<-si,<-si,<-beq_toListBytes]
def Bm(μ:bz):Option (Nat×I)->Option (Nat×Value)->Prop
 |none,none=>True
 |some (i,a),some (j,v)=>i=j/\bp μ a v
 |_,_=>False
theorem Jt{H:J}{kt:TypeId}{k x:I}(aq:∀cs,k≠ .agg cs):pL P H kt k x=pK k x:=by
 cases k<;>first|rfl|exact absurd rfl (aq _)
theorem Ju{kt:TypeId}{k:I}(aq:∀cs,k≠ .agg cs)(h:mu P kt k=true):oQ P kt k=true:=by
 cases k<;>first|exact h|exact absurd rfl (aq _)
theorem Jv{H:J}{u:TypeDesc}{kt:TypeId}(hu:P.underlying kt=some u){k:I}{kv:Value}(hs:∀cs,k≠ .agg cs)(aq:oQ P kt k=true)(aa:bp μ k kv):∀(es:List dU) (ents:List MapEntry) (i:Nat) (r:Option (Nat×I)),gh μ es ents->jY P H kt k es i=some r->
  ∃r',Instr.findNow u kv ents i=some r'/\Bm μ r r'
 |[],_,i,r,he,h=>by
  cases he;simp[jY] at h;subst h
  exact⟨none,rfl,trivial⟩
 |e::es,_,i,r,⟨m,ms,aA,ax,bD⟩,h=>by
  subst aA
  simp only[jY,Jt hs] at h
  split at h
  · rename_i hs
    cases h
    exact⟨some (i,m.val),by simp[Instr.findNow,Js hu aq hs aa ax.1],rfl,ax.2.1⟩
  · rename_i aJ
    obtain⟨r',ba,a1⟩:=Jv hu hs aq aa es ms (i+1) r bD h
    exact⟨r',by simp[Instr.findNow,Js hu aq aJ aa ax.1,ba],a1⟩
  · cases h
theorem Jw(ak:bB μ H w){kt:TypeId}{cs:List I}{kv:Value}(aa:bp μ (.agg cs) kv):∀(es:List dU) (ents:List MapEntry) (i:Nat) (r:Option (Nat×I)),gh μ es ents->jY P H kt (.agg cs) es i=some r->
  ∃r',(Instr.findAsking kt kv ents i).run P w=.ok r' w/\Bm μ r r'
 |[],_,i,r,he,h=>by
  cases he;simp[jY] at h;subst h
  exact⟨none,rfl,trivial⟩
 |e::es,_,i,r,⟨m,ms,aA,ax,bD⟩,h=>by
  subst aA
  simp only[jY,pL] at h
  split at h
  · rename_i hs
    cases h
    have:=tN (P:=P) ak 8 kt _ _ true kv m.key Op.maxDepth (by decide) hs aa ax.1
    exact⟨some (i,m.val),by simp[Instr.findAsking,Op.equal,this],rfl,ax.2.1⟩
  · rename_i hs
    have:=tN (P:=P) ak 8 kt _ _ false kv m.key Op.maxDepth (by decide) hs aa ax.1
    obtain⟨r',ba,a1⟩:=Jw ak aa es ms (i+1) r bD h
    exact⟨r',by simp[Instr.findAsking,Op.equal,this,ba],a1⟩
  · cases h
theorem Eu{H:J}{kt:TypeId}{k:I}:∀(es:List dU) (i j:Nat) (v:I),jY P H kt k es i=some (some (j,v))->i<=j/\∃e,es[j-i]? =some e/\e.val=v/\pL P H kt k e.key=some true
 |[],i,j,v,h=>by simp[jY] at h
 |e::es,i,j,v,h=>by
  simp only[jY] at h
  split at h
  · rename_i hs
    cases h;exact⟨Nat.le_refl _,e,by simp,rfl,hs⟩
  · obtain⟨aa,cI,ad,av⟩:=Eu es (i+1) j v h
    refine⟨by omega,cI,?_,av⟩
    have:j-i=(j-(i+1))+1:=by omega
    rw[this];simpa using ad
  · cases h
theorem Ev{kt:TypeId}{k:I}{kv:Value}(aq:oQ P kt k=true)(b:Bool)(n:Nat):(Instr.checkKey b (n+1) kt kv).run P w=.ok () w:=by
 unfold oQ at aq
 cases hu:P.underlying kt with
 |none=>rw[hu] at aq;cases aq
 |some u=>
  rw[hu] at aq
  cases u<;>simp only at aq<;>try cases aq
  all_goals simp[Instr.checkKey,b4 hu]
theorem Jx(b:Bool){m n:Nat}(hm:m=n+1){cs:List I}{l:List Value}(aw:cm μ cs l):∀(b0:List Field),AW P cs b0=true->
  (forIn b0 PUnit.unit (λf _=>if f.name≠ "_" then(do let x<-part f.type ⟨l⟩ f.offset;Instr.checkKey b m f.type x;pure (ForInStep.yield PUnit.unit)) else pure (ForInStep.yield PUnit.unit)):Sem PUnit).run P w=.ok PUnit.unit w
 |[],h=>by simp
 |f::b0,h=>by
  unfold AW at h
  split at h
  · rename_i a aL
    split at h
    · rename_i aq
      have bb:=Jx b hm aw b0 h
      obtain⟨u,ey,e9⟩:=sk (P:=P) (w:=w) aw aL
      have ag:=Ev (P:=P) (w:=w) (kv:=u) aq b n
      rw[<-hm] at ag
      rw[List.forIn_cons]
      by_cases aN:f.name= "_"
      · simp only[aN,ne_eq,not_true_eq_false,if_false,Sem.run_bind,Sem.run_pure,Result.andThen_ok]
        exact bb
      · simp only[ne_eq,aN,not_false_eq_true,if_true,Sem.run_bind,ey,Result.andThen_ok,ag,Sem.run_pure]
        exact bb
    · cases h
  · cases h
theorem Jy(b:Bool){m n:Nat}(hm:m=n+1){e:TypeId}{sz:Nat}(bA:dx P e=some sz){cs:List I}{l:List Value}(aw:cm μ cs l):∀(k i:Nat),AX P e sz cs k i=true->
  (forIn (List.range' i k) PUnit.unit (λi _=>do (Instr.checkKey b m e (<-part e ⟨l⟩ (i*(<-_root_.Go.sizeOf e))));pure (ForInStep.yield PUnit.unit)):Sem PUnit).run P w=.ok PUnit.unit w
 |0,i,h=>by simp
 |k+1,i,h=>by
  unfold AX at h
  split at h
  · rename_i a aL
    split at h
    · rename_i aq
      have bb:=Jy b hm bA aw k (i+1) h
      obtain⟨u,ey,e9⟩:=sk (P:=P) (w:=w) aw aL
      have ag:=Ev (P:=P) (w:=w) (kv:=u) aq b n
      rw[<-hm] at ag
      rw[List.range'_succ,List.forIn_cons]
      simp only[Sem.run_bind,run_sizeOf bA,ey,Result.andThen_ok,ag,Sem.run_pure]
      exact bb
    · cases h
  · cases h
theorem Sc{kt:TypeId}{cs:List I}{l:List Value}(aw:cm μ cs l)(aq:mu P kt (.agg cs)=true)(b:Bool){m n:Nat}(hm:m=n+1):(Instr.checkKey b (m+1) kt (.agg ⟨l⟩)).run P w=.ok () w:=by
 unfold mu at aq
 simp only at aq
 split at aq
 · rename_i b0 hu
   have key:=Jx (P:=P) (w:=w) b hm aw b0.toList aq
   simp only[Instr.checkKey,Sem.run_bind,b4 hu,Result.andThen_ok]
   rw[<-Array.forIn_toList]
   first|exact key|exact Eq.trans (congrArg (λq=>Result.andThen q _) key) rfl|simpa using key
 · rename_i Sd e hu
   split at aq
   · rename_i sz bA
     have key:=Jy (P:=P) (w:=w) b hm bA aw Sd 0 aq
     simp only[Instr.checkKey,Sem.run_bind,b4 hu,Result.andThen_ok]
     simp only[Std.Legacy.Range.forIn_eq_forIn_range',Std.Legacy.Range.size,Nat.sub_zero,Nat.add_one_sub_one,Nat.div_one]
     first|exact key|exact Eq.trans (congrArg (λq=>Result.andThen q _) key) rfl|simpa using key
   · cases aq
 · cases aq
theorem p5{kt:TypeId}{k:I}{kv:Value}(aq:mu P kt k=true)(aa:bp μ k kv)(b:Bool):(Instr.checkKey b 10000 kt kv).run P w=.ok () w:=by
 by_cases hs:∀cs,k≠ .agg cs
 · exact Ev (Ju hs aq) b 9999
 · have:∃cs,k=.agg cs:=by
     cases k<;>first|exact⟨_,rfl⟩|exact absurd (λcs h=>by cases h) hs
   obtain⟨cs,rfl⟩:=this
   obtain⟨l,rfl,aw⟩:=aa
   exact Sc aw aq b (m:=9999) (n:=9998) rfl
theorem so(ak:bB μ H w){kt:TypeId}{k:I}{kv:Value}(aq:mu P kt k=true)(aa:bp μ k kv){es:List dU}{ents:List MapEntry}{r:Option (Nat×I)}(he:gh μ es ents)(h:jY P H kt k es 0=some r):
  ∃r',(Instr.findKey kt kv ents).run P w=.ok r' w/\Bm μ r r':=by
 by_cases hs:∀cs,k≠ .agg cs
 · have e0:=Ju hs aq
   cases hu:P.underlying kt with
   |none=>unfold oQ at e0;rw[hu] at e0;cases e0
   |some u=>
    obtain⟨r',ba,a1⟩:=Jv hu hs e0 aa es ents 0 r he h
    exact⟨r',by simp[Instr.findKey,b4 hu,ba],a1⟩
 · have:∃cs,k=.agg cs:=by
     cases k<;>first|exact⟨_,rfl⟩|exact absurd (λcs h=>by cases h) hs
   obtain⟨cs,rfl⟩:=this
   have hu:∃u,P.underlying kt=some u:=by
    unfold mu at aq
    simp only at aq
    split at aq
    · exact⟨_,by assumption⟩
    · exact⟨_,by assumption⟩
    · cases aq
   obtain⟨u,hu⟩:=hu
   obtain⟨r',ba,a1⟩:=Jw (P:=P) ak aa es ents 0 r he h
   obtain⟨l,rfl,aw⟩:=aa
   refine⟨r',?_,a1⟩
   have aN:∀(ms:List MapEntry),ms≠[]->Instr.findNow u (.agg ⟨l⟩) ms 0=none:=λms Se=>by
    cases ms with
    |nil=>exact absurd rfl Se
    |cons m ms=>cases u<;>rfl
   cases ents with
   |nil=>
    cases es with
    |nil=>simp only[jY] at h;cases h;cases r' with
     |none=>simp[Instr.findKey,b4 hu,Instr.findNow]
     |some y=>exact a1.elim
    |cons e es=>obtain⟨_,_,ag,_⟩:=he;cases ag
   |cons m ms=>
    simp only[Instr.findKey,Sem.run_bind,b4 hu,Result.andThen_ok,aN (m::ms) (by simp)]
    exact ba
theorem gh.append:∀{es b0:List dU} {ms ns:List MapEntry},gh μ es ms->gh μ b0 ns->gh μ (es++b0) (ms++ns)
 |[],_,_,_,h,an=>by cases h;exact an
 |_::_,_,_,_,⟨m,ms,e,aa,ad⟩,an=>by subst e;exact⟨m,ms++_,rfl,aa,gh.append ad an⟩
theorem gh.get:∀{es:List dU} {ms:List MapEntry} (_:gh μ es ms) {j:Nat} {e:dU},es[j]? =some e->∃m,ms[j]? =some m/\sb μ e m
 |[],_,_,j,e,h=>by simp at h
 |x::es,_,⟨m,ms,e,aa,ad⟩,0,a,h=>by subst e;simp at h;subst h;exact⟨m,rfl,aa⟩
 |x::es,_,⟨m,ms,e,aa,ad⟩,j+1,a,h=>by subst e;simp at h;simpa using gh.get ad h
theorem gh.set{v key:I}{vv kv:Value}(aD:bp μ v vv)(aq:bp μ key kv):∀(i:Nat) {es:List dU} {ms:List MapEntry},gh μ es ms->gh μ (qO v key i es) (ms.modify i λe=>{e with key:=kv,val:=vv})
 |0,[],_,h=>by cases h;rfl
 |_+1,[],_,h=>by cases h;rfl
 |0,e::es,_,⟨m,ms,cI,aa,ad⟩=>by subst cI;exact⟨_,ms,rfl,⟨aq,aD,aa.2.2⟩,ad⟩
 |i+1,e::es,_,⟨m,ms,cI,aa,ad⟩=>by subst cI;exact⟨m,_,rfl,aa,gh.set aD aq i ad⟩
theorem gh.del:∀(i:Nat) {es:List dU} {ms:List MapEntry},gh μ es ms->gh μ (x0 i es) (ms.eraseIdx i)
 |0,[],_,h=>by cases h;rfl
 |_+1,[],_,h=>by cases h;rfl
 |0,e::es,_,⟨m,ms,cI,aa,ad⟩=>by subst cI;exact ad
 |i+1,e::es,_,⟨m,ms,cI,aa,ad⟩=>by subst cI;exact⟨m,_,rfl,aa,gh.del i ad⟩
theorem yw{r:Nat}{i:eX}{es:List dU}{clock:Nat}(ak:bB μ H w)(af:μ r=some i)(al:H.get r=some (.map es clock)):∃ents,w.heap[i.bo]? =some (.map ⟨ents⟩ clock)/\gh μ es ents/\(getObj i.bo).run P w=.ok (.map ⟨ents⟩ clock) w:=by
 obtain⟨ents,aA,ax⟩:=ak.rel _ _ i al af
 exact⟨ents,aA,ax,by simp[getObj,Sem.run,aA]⟩
theorem tO{r:Nat}{i:eX}{es sq:List dU}{clock c':Nat}{ents ents':List MapEntry}(ak:bB μ H w)(af:μ r=some i)(al:H.get r=some (.map es clock))(he:w.heap[i.bo]? =some (.map ⟨ents⟩ clock))(aj:gh μ sq ents'):
  ∃w',(setObj i.bo (.map ⟨ents'⟩ c')).run P w=.ok () w'/\bB μ (H.set r (some (.map sq c'))) w'/\cg μ H w μ (H.set r (some (.map sq c'))) w':=by
 have ch:i.bo<w.heap.size:=(ak.lt _ _ af).2
 obtain⟨r1,r2⟩:=ak.update (w':={w with heap:=w.heap.setIfInBounds i.bo (.map ⟨ents'⟩ c')}) (o':=.map sq c') al rfl af (by simp) (λr aj=>by simp[Array.getElem?_setIfInBounds];intro e;exact absurd e.symm aj) rfl rfl rfl
  ⟨ents',by simp[ch],aj⟩
 exact⟨_,by simp[setObj,Sem.run,he],r1,r2⟩
end
end bt
namespace bt
open Go
section
variable {P:Program} {μ:bz} {H:J} {w:World}
theorem Jz{jI:TypeId}{ok:Bool}{r:Option (Nat×I)}{r':Option (Nat×Value)}(aj:Bm μ r r'){v:I}(h:pM P jI ok r=some v):
  ∃u b,bp μ v (if ok then .tuple #[u,.bool b] else u)/\((∃j,r'=some (j,u)/\b=true)\/(r'=none/\(zeroValue jI).run P w=.ok u w/\b=false)):=by
 cases r with
 |none=>
  cases r' with
  |some x=>exact aj.elim
  |none=>
   simp only[pM] at h
   split at h
   · rename_i z aW
     cases h
     obtain⟨fH,ba,rfl,_⟩:=my (P:=P) (w:=w) aW
     have:=kD μ fH
     refine⟨fH,false,?_,.inr ⟨rfl,ba,rfl⟩⟩
     cases ok
     · exact this
     · exact⟨_,rfl,_,_,rfl,this,_,_,rfl,rfl,rfl⟩
   · cases h
 |some x=>
  cases r' with
  |none=>exact aj.elim
  |some y=>
   obtain⟨i,a⟩:=x
   obtain⟨j,u⟩:=y
   obtain⟨rfl,vS⟩:=aj
   simp only[pM] at h
   cases h
   refine⟨u,true,?_,.inl ⟨_,rfl,rfl⟩⟩
   cases ok
   · exact vS
   · exact⟨_,rfl,_,_,rfl,vS,_,_,rfl,rfl,rfl⟩
theorem Sf(ak:bB μ H w){t:TypeId}{m k:I}{hk kv:Value}(hm:bp μ m hk)(aq:bp μ k kv){ok:Bool}{v:I}(h:hO P H t m k ok=some v):e5 P μ H w (Instr.lookup t hk kv ok) v H:=by
 unfold hO at h
 split at h
 · rename_i kt jI hu
   split at h
   · rename_i jL
     split at h
     · cases hm
       obtain⟨u,b,ba,a1⟩:=Jz (P:=P) (w:=w) (μ:=μ) (r:=none) (r':=none) trivial h
       refine .same ak (v':=if ok then .tuple #[u,.bool b] else u) ?_ ba
       have hf:(Instr.findKey kt kv []).run P w=.ok none w:=by
        obtain⟨r',b6,cU⟩:=so (P:=P) (w:=w) (μ:=μ) (es:=[]) (ents:=[]) (r:=none) ak jL aq rfl rfl
        cases r' with
        |none=>exact b6
        |some x=>exact cU.elim
       rcases a1 with⟨j,e,_⟩|⟨_,a1,rfl⟩
       · cases e
       · simp[Instr.lookup,b4 hu,p5 jL aq,hf,a1]
     · rename_i r
       split at h
       · rename_i es clock al
         split at h
         · rename_i dj hf
           obtain⟨i,af,rfl⟩:=hm
           obtain⟨ents,aA,ax,bD⟩:=yw (P:=P) ak af al
           obtain⟨r',b6,cU⟩:=so (P:=P) (w:=w) ak jL aq ax hf
           obtain⟨u,b,ba,a1⟩:=Jz (P:=P) (w:=w) (μ:=μ) cU h
           refine .same ak (v':=if ok then .tuple #[u,.bool b] else u) ?_ ba
           rcases a1 with⟨j,rfl,rfl⟩|⟨rfl,a1,rfl⟩
           · simp[Instr.lookup,b4 hu,p5 jL aq,bD,b6]
           · simp[Instr.lookup,b4 hu,p5 jL aq,bD,b6,a1]
         · cases h
       · cases h
     · cases h
   · cases h
 · cases h
theorem JA{k x:I}{kv bG:Value}(n:Nat)(h:pK k x=some true)(aa:bp μ k kv)(ad:bp μ x bG):Instr.sameBits n bG kv=true:=by
 cases k<;>cases x<;>simp only[pK] at h<;>try cases h
 · simp at h;subst h;cases aa;cases ad;simp[Instr.sameBits]
 · split at h
   · rename_i e;subst e
     simp[a8] at h;subst h;cases aa;cases ad;simp[Instr.sameBits]
   · cases h
 · simp only[Option.some.injEq] at h
   obtain⟨s1,rfl,rfl⟩:=aa
   obtain⟨s2,rfl,rfl⟩:=ad
   rw[n_,<-si,<-si,<-beq_toListBytes] at h
   have:(s2==s1)=true:=by rw[beq_toListBytes] at h⊢;rw[beq_iff_eq] at h⊢;exact h.symm
   simpa[Instr.sameBits] using this
theorem JB(n:Nat):∀(a b:List I) (tP mE:List Value),xY a b=true->cm μ a tP->cm μ b mE->mE.length=tP.length/\(mE.zip tP).all (λ(x,y)=>Instr.sameBits n x y)=true
 |[],[],tP,mE,_,aa,ad=>by cases aa;cases ad;exact⟨rfl,rfl⟩
 |[],_::_,_,_,h,_,_=>by cases h
 |_::_,[],_,_,h,_,_=>by cases h
 |x::a,y::b,_,_,h,⟨u,us,rfl,jd,p6⟩,⟨v,vs,rfl,v1,v2⟩=>by
  unfold xY at h
  split at h
  · rename_i hs
    obtain⟨aA,ax⟩:=JB n a b us vs h p6 v2
    refine⟨by simp[aA],?_⟩
    rw[List.zip_cons_cons,List.all_cons,ax,Bool.and_true]
    exact JA n hs jd v1
  · cases h
theorem JC{kt:TypeId}{k x:I}{kv bG:Value}(h:pL P H kt k x=some true)(cA:r4 k x=true)(aa:bp μ k kv)(ad:bp μ x bG):Instr.sameBits 10000 bG kv=true:=by
 by_cases hs:∀cs,k≠ .agg cs
 · rw[Jt hs] at h
   exact JA 10000 h aa ad
 · have:∃cs,k=.agg cs:=by
     cases k<;>first|exact⟨_,rfl⟩|exact absurd (λcs h=>by cases h) hs
   obtain⟨a,rfl⟩:=this
   have:∃b,x=.agg b:=by
    cases x<;>first|exact⟨_,rfl⟩|cases cA
   obtain⟨b,rfl⟩:=this
   obtain⟨tP,rfl,p6⟩:=aa
   obtain⟨mE,rfl,v2⟩:=ad
   have Sg:xY a b=true:=cA
   obtain⟨aA,ax⟩:=JB (μ:=μ) 9999 a b tP mE Sg p6 v2
   show Instr.sameBits (9999+1) (.agg ⟨mE⟩) (.agg ⟨tP⟩)=true
   generalize 9999=n at ax⊢
   simp only[Instr.sameBits]
   rw[ax,Bool.and_true]
   simp[aA]
theorem Ew(l:List MapEntry)(i:Nat)(f:MapEntry->MapEntry):(⟨l⟩:Array MapEntry).modify i f=⟨l.modify i f⟩:=by
 apply Array.ext'
 simp
theorem JD(ak:bB μ H w){t:TypeId}{m k x:I}{hk kv bG:Value}(hm:bp μ m hk)(aq:bp μ k kv)(ab:bp μ x bG){aX:J}(h:vE P H t m k x=some aX):
  ∃w',(Instr.mapUpdate t hk kv bG).run P w=.ok () w'/\bB μ aX w'/\cg μ H w μ aX w':=by
 unfold vE at h
 split at h
 · rename_i kt jI hu
   split at h
   · rename_i jL
     split at h
     · rename_i r
       split at h
       · rename_i es clock al
         obtain⟨i,af,rfl⟩:=hm
         obtain⟨ents,aA,ax,bD⟩:=yw (P:=P) ak af al
         split at h
         · rename_i j a hf
           have tQ:r4 k (xZ j es)=true:=by
            cases ag:r4 k (xZ j es) with
            |true=>rfl
            |false=>rw[ag] at h;cases h
           rw[tQ] at h
           cases h
           obtain⟨r',b6,cU⟩:=so (P:=P) (w:=w) ak jL aq ax hf
           cases r' with
           |none=>exact cU.elim
           |some y=>
            obtain⟨ja,u⟩:=y
            obtain⟨rfl,vS⟩:=cU
            obtain⟨_,og,ba,a1,b7⟩:=Eu es 0 j a hf
            obtain⟨mF,ey,e9⟩:=ax.get (by simpa using ba)
            have tQ:r4 k og.key=true:=by
             have:xZ j es=og.key:=by unfold xZ;rw[qV,show es[j]? =some og by simpa using ba]
             rw[<-this];exact tQ
            have cA:(Instr.keyThatStays (((ents[j]?).map (·.key)).getD kv) kv).run P w=.ok kv w:=by
             simp only[Instr.keyThatStays,ey,Option.map_some,Option.getD_some,JC b7 tQ aq e9.1,if_true,Sem.run_pure]
            obtain⟨w',eu,fI,lo⟩:=tO (P:=P) (c':=clock) ak af al aA (ax.set ab aq j)
            refine⟨w',?_,fI,lo⟩
            simp only[Instr.mapUpdate,Sem.run_bind,b4 hu,Result.andThen_ok,bD,p5 jL aq,b6,List.getElem?_toArray,cA,Ew,eu]
         · rename_i hf
           cases h
           obtain⟨r',b6,cU⟩:=so (P:=P) (w:=w) ak jL aq ax hf
           cases r' with
           |some y=>exact cU.elim
           |none=>
            obtain⟨w',eu,fI,lo⟩:=tO (P:=P) (c':=clock+1) (ents':=ents++[⟨kv,bG,clock⟩]) ak af al aA (ax.append (show gh μ [⟨k,x,clock⟩] [⟨kv,bG,clock⟩] from⟨_,_,rfl,⟨aq,ab,rfl⟩,rfl⟩))
            refine⟨w',?_,fI,lo⟩
            simp only[Instr.mapUpdate,Sem.run_bind,b4 hu,Result.andThen_ok,bD,p5 jL aq,b6,List.push_toArray,eu]
         · cases h
       · cases h
     · cases h
   · cases h
 · cases h
theorem Sh(ak:bB μ H w){t:TypeId}{m k:I}{hk kv:Value}(hm:bp μ m hk)(aq:bp μ k kv){v:I}{aX:J}(h:pN P H t m k=some (v,aX)):e5 P μ H w (Instr.mapEntry t hk kv) v aX:=by
 unfold pN at h
 split at h
 · rename_i kt jI hu
   split at h
   · rename_i jL
     split at h
     · rename_i r
       split at h
       · rename_i es clock al
         obtain⟨i,af,rfl⟩:=hm
         obtain⟨ents,aA,ax,bD⟩:=yw (P:=P) ak af al
         split at h
         · rename_i j a hf
           split at h
           · rename_i og p7
             have tQ:r4 k og.key=true:=by
              cases ag:r4 k og.key with
              |true=>rfl
              |false=>rw[ag] at h;cases h
             rw[tQ] at h
             cases h
             rw[qV] at p7
             obtain⟨r',b6,cU⟩:=so (P:=P) (w:=w) ak jL aq ax hf
             cases r' with
             |none=>exact cU.elim
             |some y=>
              obtain⟨ja,u⟩:=y
              obtain⟨rfl,vS⟩:=cU
              obtain⟨_,JE,ba,a1,b7⟩:=Eu es 0 j a hf
              have:JE=og:=by
               have JF:es[j]? =some JE:=by simpa using ba
               rw[p7] at JF;cases JF;rfl
              subst this
              obtain⟨mF,ey,e9⟩:=ax.get p7
              have cA:(Instr.keyThatStays (((ents[j]?).map (·.key)).getD kv) kv).run P w=.ok kv w:=by
               simp only[Instr.keyThatStays,ey,Option.map_some,Option.getD_some,JC b7 tQ aq e9.1,if_true,Sem.run_pure]
              have tR:gh μ (qO a k j es) (ents.modify j λe=>{e with key:=kv}):=by
               have hs:=ax.set (v:=a) (vv:=mF.val) (key:=k) (kv:=kv) (by rw[<-a1];exact e9.2.1) aq j
               have:(ents.modify j λe=>{e with key:=kv,val:=mF.val})=(ents.modify j λe=>{e with key:=kv}):=by
                apply List.ext_getElem?
                intro q
                rw[List.getElem?_modify,List.getElem?_modify]
                by_cases aJ:j=q
                · subst aJ;rw[ey];simp
                · simp[aJ]
               rw[<-this];exact hs
              obtain⟨w',eu,fI,lo⟩:=tO (P:=P) (c':=clock) ak af al aA tR
              refine⟨μ,w',.tuple #[u,.int .i64 (mF.born:Int)],?_,⟨_,rfl,_,_,rfl,vS,_,_,rfl,by rw[e9.2.2];rfl,rfl⟩,fI,lo⟩
              rw[ey,Option.map_some,Option.getD_some] at cA
              simp only[Instr.mapEntry,Sem.run_bind,b4 hu,Result.andThen_ok,bD,p5 jL aq,b6,List.getElem?_toArray,ey,Option.map_some,Option.getD_some,cA,Ew,eu,goInt,Sem.run_pure]
           · cases h
         · rename_i hf
           split at h
           · rename_i z aW
             cases h
             obtain⟨fH,yx,rfl,_⟩:=my (P:=P) (w:=w) aW
             obtain⟨r',b6,cU⟩:=so (P:=P) (w:=w) ak jL aq ax hf
             cases r' with
             |some y=>exact cU.elim
             |none=>
              obtain⟨w',eu,fI,lo⟩:=tO (P:=P) (c':=clock+1) (ents':=ents++[⟨kv,fH,clock⟩]) ak af al aA (ax.append (show gh μ [⟨k,oP fH,clock⟩] [⟨kv,fH,clock⟩] from⟨_,_,rfl,⟨aq,kD μ fH,rfl⟩,rfl⟩))
              refine⟨μ,w',.tuple #[fH,.int .i64 (clock:Int)],?_,⟨_,rfl,_,_,rfl,kD μ fH,_,_,rfl,rfl,rfl⟩,fI,lo⟩
              simp only[Instr.mapEntry,Sem.run_bind,b4 hu,Result.andThen_ok,bD,p5 jL aq,b6,yx,List.push_toArray,eu,goInt,Sem.run_pure]
           · cases h
         · cases h
       · cases h
     · cases h
   · cases h
 · cases h
theorem JG{born:Int}:∀(es:List dU) (ents:List MapEntry) (i j:Nat) (e:dU),gh μ es ents->tz born es i=some (j,e)->i<=j/\es[j-i]? =some e/\ents.findIdx? (λm=>(m.born:Int)==born)=some (j-i)
 |[],_,i,j,e,_,h=>by simp[tz] at h
 |x::es,_,i,j,e,⟨m,ms,aA,ax,bD⟩,h=>by
  subst aA
  simp only[tz] at h
  have ae:a8 (Int.ofNat x.born) born=((m.born:Int)==born):=by rw[ax.2.2];rfl
  split at h
  · rename_i hs
    cases h
    rw[ae] at hs
    exact⟨Nat.le_refl _,by simp,by simp[List.findIdx?_cons,hs]⟩
  · rename_i hs
    rw[ae] at hs
    obtain⟨ba,a1,b7⟩:=JG es ms (i+1) j e bD h
    have:j-i=(j-(i+1))+1:=by omega
    refine⟨by omega,by rw[this];simpa using a1,?_⟩
    rw[this]
    simp[List.findIdx?_cons,hs,b7]
theorem Si(ak:bB μ H w){t:TypeId}{m s x:I}{hk oe bG:Value}(hm:bp μ m hk)(hs:bp μ s oe)(ab:bp μ x bG){aX:J}(h:pO H m s x=some aX):
  ∃w',(Instr.entryStore t hk oe bG).run P w=.ok () w'/\bB μ aX w'/\cg μ H w μ aX w':=by
 unfold pO at h
 split at h
 · rename_i r bk born
   split at h
   · rename_i es clock al
     split at h
     · rename_i j og ae
       cases h
       cases hs
       obtain⟨i,af,rfl⟩:=hm
       obtain⟨ents,aA,ax,bD⟩:=yw (P:=P) ak af al
       obtain⟨_,ba,a1⟩:=JG es ents 0 j og ax ae
       obtain⟨mF,ey,e9⟩:=ax.get (by simpa using ba)
       have tR:gh μ (qO x og.key j es) (ents.modify j λe=>{e with val:=bG}):=by
        have hs:=ax.set (v:=x) (vv:=bG) (key:=og.key) (kv:=mF.key) ab e9.1 j
        have:(ents.modify j λe=>{e with key:=mF.key,val:=bG})=(ents.modify j λe=>{e with val:=bG}):=by
         apply List.ext_getElem?
         intro q
         rw[List.getElem?_modify,List.getElem?_modify]
         by_cases aJ:j=q
         · subst aJ;rw[ey];simp
         · simp[aJ]
        rw[<-this];exact hs
       obtain⟨w',eu,fI,lo⟩:=tO (P:=P) (c':=clock) ak af al aA tR
       refine⟨w',?_,fI,lo⟩
       have Sj:(⟨ents⟩:Array MapEntry).findIdx? (λe=>(e.born:Int)==born)=some j:=by
        have:=a1
        simp only[Nat.sub_zero] at this
        rw[<-this];simp
       simp only[Instr.entryStore,Sem.run_bind,Result.andThen_ok,bD,asInt,asIntOf,Sem.run_pure,Sj,Ew,eu]
     · cases h
   · cases h
 · cases h
theorem Sk(ak:bB μ H w){argTypes:Array TypeId}{ty t:TypeId}(h0:argTypes[0]? =some t){m k:I}{hk kv:Value}(hm:bp μ m hk)(aq:bp μ k kv){v:I}{aX:J}(h:pP P H t m k=some (v,aX)):
  e5 P μ H w (Builtin.delete_ argTypes ty #[hk,kv]) v aX:=by
 unfold pP at h
 split at h
 · rename_i kt jI hu
   split at h
   · rename_i jL
     split at h
     · cases h;cases hm
       refine .same ak (v':=.tuple #[]) ?_ ⟨[],rfl,rfl⟩
       simp[Builtin.delete_,h0,b4 hu,p5 jL aq]
     · rename_i r
       split at h
       · rename_i es clock al
         obtain⟨i,af,rfl⟩:=hm
         obtain⟨ents,aA,ax,bD⟩:=yw (P:=P) ak af al
         split at h
         · rename_i j a hf
           cases h
           obtain⟨r',b6,cU⟩:=so (P:=P) (w:=w) ak jL aq ax hf
           cases r' with
           |none=>exact cU.elim
           |some y=>
            obtain⟨ja,u⟩:=y
            obtain⟨rfl,vS⟩:=cU
            obtain⟨w',eu,fI,lo⟩:=tO (P:=P) (c':=clock) ak af al aA (ax.del j)
            refine⟨μ,w',.tuple #[],?_,⟨[],rfl,rfl⟩,fI,lo⟩
            have he:(⟨ents⟩:Array MapEntry).eraseIdxIfInBounds j=⟨ents.eraseIdx j⟩:=by
             apply Array.ext'
             simp
            simp[Builtin.delete_,h0,b4 hu,p5 jL aq,bD,b6,he,eu]
         · rename_i hf
           cases h
           obtain⟨r',b6,cU⟩:=so (P:=P) (w:=w) ak jL aq ax hf
           cases r' with
           |some y=>exact cU.elim
           |none=>
            obtain⟨w',eu,fI,lo⟩:=tO (P:=P) (c':=clock) ak af al aA ax
            refine⟨μ,w',.tuple #[],?_,⟨[],rfl,rfl⟩,fI,lo⟩
            simp[Builtin.delete_,h0,b4 hu,p5 jL aq,bD,b6,eu]
         · cases h
       · cases h
     · cases h
   · cases h
 · cases h
theorem Sl(ak:bB μ H w){t:TypeId}:e5 P μ H w (Instr.makeMap t none) (.map H.n) (H.push (.map [] 0)):=by
 obtain⟨r1,r2⟩:=ak.alloc (.map [] 0) (.map #[] 0) 0 ⟨[],World.heap_alloc_new _ _,rfl⟩
 exact⟨_,_,.map (some w.heap.size),rfl,⟨_,gI _ _ _,rfl⟩,r1,r2⟩
theorem Sm(ak:bB μ H w){t kt jI:TypeId}{k:IntKind}{n:Int}(hu:P.underlying t=some (.map kt jI)):e5 P μ H w (Instr.makeMap t (some (.int k n))) (.map H.n) (H.push (.map [] 0)):=by
 obtain⟨r1,r2⟩:=ak.alloc (.map [] 0) (.map #[] 0) 0 ⟨[],World.heap_alloc_new _ _,rfl⟩
 refine⟨_,_,.map (some w.heap.size),?_,⟨_,gI _ _ _,rfl⟩,r1,r2⟩
 simp only[Instr.makeMap,Sem.run_bind,b4 hu,Result.andThen_ok,asInt,asIntOf,Sem.run_pure,run_newObj]
 rfl
theorem Sn(ak:bB μ H w){t:TypeId}(hu:P.underlying t=some .string){s:List UInt8}{bG:Value}(ab:bp μ (.str s) bG):e5 P μ H w (Instr.range t bG) (.ptr H.n 0) (H.push (.rY s 0)):=by
 obtain⟨bs,rfl,rfl⟩:=ab
 obtain⟨r1,r2⟩:=ak.alloc (.rY bs.data.toList 0) (.stringIter bs 0) 0 ⟨rfl,bs,World.heap_alloc_new _ _,rfl⟩
 refine⟨_,_,.pointer (some ⟨w.heap.size,0,none⟩),?_,⟨_,gI _ _ _,rfl⟩,r1,r2⟩
 simp only[Instr.range,Sem.run_bind,b4 hu,Result.andThen_ok,Sem.run_pure,run_newObj]
 rfl
theorem So(ak:bB μ H w){t kt jI:TypeId}(hu:P.underlying t=some (.map kt jI)){bG:Value}(ab:bp μ .ix bG):e5 P μ H w (Instr.range t bG) (.ptr H.n 0) (H.push (.mapIter none 0 [] 0)):=by
 cases ab
 obtain⟨r1,r2⟩:=ak.alloc (.mapIter none 0 [] 0) (.mapIter none 0 #[] 0) 0 ⟨rfl,World.heap_alloc_new _ _⟩
 refine⟨_,_,.pointer (some ⟨w.heap.size,0,none⟩),?_,⟨_,gI _ _ _,rfl⟩,r1,r2⟩
 simp only[Instr.range,Sem.run_bind,b4 hu,Result.andThen_ok,Sem.run_pure,run_newObj]
 rfl
def Sp(at':Nat->Nat)(lt:Nat->Bool):Nat×Nat:=
 let cont (k:Nat):Bool:=lt k&&at' k/64==2
 let cJ:=at' 0
 if cJ<0x80 then(cJ,1)
 else if cJ/32==6&&cont 1 then
  let c:=(cJ %32)*64+at' 1 %64
  if c>=0x80 then(c,2) else(Utf8.runeError,1)
 else if cJ/16==14&&cont 1&&cont 2 then
  let c:=(cJ %16)*4096+(at' 1 %64)*64+at' 2 %64
  if c>=0x800&&Utf8.valid c then(c,3) else(Utf8.runeError,1)
 else if cJ/8==30&&cont 1&&cont 2&&cont 3 then
  let c:=(cJ %8)*262144+(at' 1 %64)*4096+(at' 2 %64)*64+at' 3 %64
  if c>=0x10000&&Utf8.valid c then(c,4) else(Utf8.runeError,1)
 else(Utf8.runeError,1)
theorem JH(s:ByteArray)(i:Nat):Utf8.decode s i=Sp (λk=>(s.get! (i+k)).toNat) (λk=>decide (i+k<s.size)):=rfl
theorem Sq(full:ByteArray)(pos:Nat)(aQ:pos<=full.size):Utf8.decode full pos=Utf8.decode ⟨(full.data.toList.drop pos).toArray⟩ 0:=by
 have oY:full.data.toList.length=full.size:=Array.length_toList
 have bA:(⟨(full.data.toList.drop pos).toArray⟩:ByteArray).size=full.size-pos:=by
  show((full.data.toList.drop pos).toArray).size=_
  rw[List.size_toArray,List.length_drop,oY]
 have h8:∀k,full.get! (pos+k)=(⟨(full.data.toList.drop pos).toArray⟩:ByteArray).get! (0+k):=λk=>by
  show full.data[pos+k]! =((full.data.toList.drop pos).toArray)[0+k]!
  rw[Nat.zero_add]
  rw[getElem!_def,getElem!_def]
  have:((full.data.toList.drop pos).toArray)[k]? =full.data[pos+k]? :=by
   rw[List.getElem?_toArray,List.getElem?_drop,Array.getElem?_toList]
  rw[this]
 rw[JH,JH]
 have aL:(λk=>(full.get! (pos+k)).toNat)=(λk=>((⟨(full.data.toList.drop pos).toArray⟩:ByteArray).get! (0+k)).toNat):=by
  funext k;rw[h8 k]
 have ae:(λk=>decide (pos+k<full.size))=(λk=>decide (0+k<(⟨(full.data.toList.drop pos).toArray⟩:ByteArray).size)):=by
  funext k
  exact decide_eq_decide.2 (by rw[bA];omega)
 rw[aL,ae]
theorem Sr(ak:bB μ H w){t:TypeId}{it:I}{q7:Value}(af:bp μ it q7){b:Bool}{v:I}{aX:J}(h:AY H it b=some (v,aX)):e5 P μ H w (Instr.next q7 b t) v aX:=by
 unfold AY at h
 split at h
 · rename_i r
   obtain⟨i,h_,rfl⟩:=af
   split at h
   · rename_i s pos al
     obtain⟨dc,full,aA,ax⟩:=ak.rel _ _ i al h_
     obtain⟨hF,i0,yy⟩:=i
     simp only at dc;subst dc
     have h8:(getObj hF).run P w=.ok (.stringIter full pos) w:=by simp[getObj,Sem.run,aA]
     have oY:full.data.toList.length=full.size:=Array.length_toList
     have j2:=congrArg List.length ax
     rw[List.length_drop,oY] at j2
     split at h
     · cases h
       have aN:¬pos<full.size:=by simp at j2;omega
       exact .same ak (v':=.tuple #[.bool false]) (by simp[Instr.next,h8,aN]) ⟨_,rfl,_,_,rfl,rfl,rfl⟩
     · rename_i cX
       have ch:pos<full.size:=by
        rcases Nat.lt_or_ge pos full.size with h|h
        · exact h
        · exfalso;apply cX
          exact List.length_eq_zero_iff.1 (by omega)
       have JI:Utf8.decode full pos=D3 s:=by rw[Sq full pos (by omega),ax];rfl
       generalize D3 s=Ss at JI h
       obtain⟨c,wd⟩:=Ss
       cases h
       have Ex:hF<w.heap.size:=(ak.lt _ _ h_).2
       obtain⟨r1,r2⟩:=ak.update (w':={w with heap:=w.heap.setIfInBounds hF (.stringIter full (pos+wd))}) (o':=.rY (jH wd s) (pos+wd)) al rfl h_ (by simp) (λr aj=>by simp[Array.getElem?_setIfInBounds];intro e;exact absurd e.symm aj) rfl rfl rfl
        ⟨rfl,full,by simp[Ex],by rw[ng,<-ax,List.drop_drop]⟩
       refine⟨μ,_,.tuple #[.bool true,.int .i64 (pos:Int),.int .i32 (c:Int)],?_,⟨_,rfl,_,_,rfl,rfl,_,_,rfl,rfl,_,_,rfl,rfl,rfl⟩,r1,r2⟩
       have q8:(setObj hF (.stringIter full (pos+wd))).run P w=.ok () {w with heap:=w.heap.setIfInBounds hF (.stringIter full (pos+wd))}:=by simp[setObj,Sem.run,aA]
       simp[Instr.next,h8,ch,JI,q8,goInt]
   · rename_i since seen last al
     cases h
     obtain⟨dc,aA⟩:=ak.rel _ _ i al h_
     obtain⟨hF,i0,yy⟩:=i
     simp only at dc;subst dc
     have vT:w.heap[hF]? =some (.mapIter none since ⟨seen⟩ last):=aA
     have h8:(getObj hF).run P w=.ok (.mapIter none since ⟨seen⟩ last) w:=by simp[getObj,Sem.run,vT]
     exact .same ak (v':=.tuple #[.bool false]) (by simp[Instr.next,h8]) ⟨_,rfl,_,_,rfl,rfl,rfl⟩
   · cases h
 · cases h
theorem JJ:∀(es:List dU) (ms:List MapEntry) (b:Nat) (e:dU),gh μ es ms->tA b es=some e->∃m,ms.find? (λx=>x.born==b)=some m/\sb μ e m
 |[],ms,b,e,aj,h=>by simp[tA] at h
 |x::es,ms,b,e,aj,h=>by
  obtain⟨m,St,rfl,aa,ad⟩:=aj
  unfold tA at h
  rw[List.find?_cons,<-aa.2.2]
  cases ae:Nat.beq x.born b with
  |true=>
   rw[ae] at h
   cases h
   have:x.born=b:=Nat.eq_of_beq_eq_true ae
   rw[this]
   simp only[beq_self_eq_true]
   exact⟨m,rfl,aa⟩
  |false=>
   rw[ae] at h
   have:(x.born==b)=false:=by
    cases ag:x.born==b with
    |false=>rfl
    |true=>rw[beq_iff_eq.1 ag] at ae;rw[Nat.beq_refl] at ae;cases ae
   rw[this]
   exact JJ es St b e ad h
theorem Ey:∀(l:List Nat),x1 l=l.getLast?
 |[]=>rfl
 |[b]=>rfl
 |a::b::l=>by
  show x1 (b::l)=_
  rw[Ey (b::l),List.getLast?_cons_cons]
theorem Su(ak:bB μ H w){it:I}{q7:Value}(af:bp μ it q7){v:I}(h:tB H it=some v):e5 P μ H w (Instr.entry q7) v H:=by
 unfold tB at h
 split at h
 · rename_i r
   obtain⟨i,h_,rfl⟩:=af
   split at h
   · rename_i m since seen last al
     obtain⟨dc,j,aK,aA⟩:=ak.rel _ _ i al h_
     obtain⟨hF,i0,yy⟩:=i
     simp only at dc;subst dc
     have vT:w.heap[hF]? =some (.mapIter (some j.bo) since ⟨seen⟩ last):=aA
     split at h
     · rename_i es clock b yz Sv
       obtain⟨ents,f1,f2⟩:=ak.rel _ _ j yz aK
       split at h
       · rename_i h9
         have h9:clock=last:=Nat.eq_of_beq_eq_true h9
         split at h
         · rename_i e Ez
           cases h
           obtain⟨EA,ai,au⟩:=JJ es ents b e f2 Ez
           have h8:(getObj hF).run P w=.ok (.mapIter (some j.bo) since ⟨seen⟩ last) w:=by simp[getObj,Sem.run,vT]
           have Bn:(getObj j.bo).run P w=.ok (.map ⟨ents⟩ clock) w:=by simp[getObj,Sem.run,f1]
           have Sw:(⟨seen⟩:Array Nat).back?=some b:=by
            rw[<-Sv,Ey];simp
           have yA:(⟨ents⟩:Array MapEntry).find? (λx=>x.born==b)=some EA:=by rw[<-ai];simp
           refine .same ak (v':=.tuple #[EA.key,EA.val]) ?_ ⟨_,rfl,_,_,rfl,au.1,_,_,rfl,au.2.1,rfl⟩
           have cX:(clock !=last)=false:=by simp[h9]
           simp only[Instr.entry,Sem.run_bind,h8,Result.andThen_ok,Sw,Bn,cX,Bool.false_eq_true,if_false,yA]
           rfl
         · cases h
       · cases h
     · cases h
   · cases h
 · cases h
end
end bt
namespace bt
open Go
section
variable {P:Program} {μ:bz} {H:J} {w:World}
theorem Sx(k:IntKind)(x y:Int){v:I}(h:arith .xor k x y=some v):∃u,(Op.intBits .xor k x y).run P w=.ok u w/\bp μ v u:=by
 simp only[arith] at h;cases h;exact⟨_,rfl,rfl⟩
theorem Sy{x:Value}{b:Bool}(ab:bp μ (.bool b) x):∃u,(Op.unary .not x).run P w=.ok u w/\bp μ (.bool (!b)) u:=by
 cases ab;exact⟨_,rfl,rfl⟩
theorem Sz{x:Value}{k:IntKind}{n:Int}(ab:bp μ (.int k n) x):∃u,(Op.unary .neg x).run P w=.ok u w/\bp μ (.int k (k.wrap (0-n))) u:=by
 cases ab;exact⟨_,rfl,rfl⟩
theorem SA{x:Value}{k:IntKind}{n:Int}{v:I}(ab:bp μ (.int k n) x)(h:arith .xor k (if k.signed then-1 else k.max) n=some v):∃u,(Op.unary .xor x).run P w=.ok u w/\bp μ v u:=by
 cases ab;exact Sx k _ n h
def tS:Value->Bool
 |.int _ _|.float _ _|.complex _ _ _|.string _=>true
 |_=>false
theorem binOp_eql(t:TypeId){x y:Value}(h:tS x=false):binOp .eql t x y=(do pure (.bool (<-Op.equal t x y))):=by
 cases x<;>simp[tS] at h<;>cases y<;>rfl
theorem binOp_neq(t:TypeId){x y:Value}(h:tS x=false):binOp .neq t x y=(do pure (.bool (!(<-Op.equal t x y)))):=by
 cases x<;>simp[tS] at h<;>cases y<;>rfl
theorem JK:∀{d:Nat} {t:TypeId} {x y:I} {b:Bool} {bG:Value},gg P H d t x y=some b->(∀j a k c,¬(x=.int j a/\y=.int k c))->(∀a c,¬(x=.str a/\y=.str c))->bp μ x bG->tS bG=false:=by
 intro d t x y b bG h af hs ab
 cases d with
 |zero=>simp[gg] at h
 |succ d=>
  cases x with
  |bad=>unfold gg at h;split at h<;>simp at h
  |int j a=>
   unfold gg at h
   split at h
   all_goals first
    |(cases y<;>simp at h;done)
    |(cases y<;>simp at h;exact absurd ⟨rfl,rfl⟩ (af _ _ _ _))
    |cases h
  |str a=>
   unfold gg at h
   split at h
   all_goals first
    |(cases y<;>simp at h;done)
    |(cases y<;>simp at h;exact absurd ⟨rfl,rfl⟩ (hs _ _))
    |cases h
  |bool b=>cases ab;rfl
  |aZ=>cases ab;rfl
  |ptr b off=>obtain⟨i,_,rfl⟩:=ab;rfl
  |aS=>cases ab;rfl
  |slice b off n c=>
   obtain⟨i,_,ag⟩:=ab
   cases c with
   |exact c=>cases ag;rfl
   |aR gR=>obtain⟨c,rfl,_⟩:=ag;rfl
   |dead=>obtain⟨_,a,c,rfl⟩:=ag;rfl
  |ix=>cases ab;rfl
  |map r=>obtain⟨i,_,rfl⟩:=ab;rfl
  |gb=>cases ab;rfl
  |fn f a b=>obtain⟨_,_,rfl,_⟩:=ab;rfl
  |dt l=>obtain⟨i,_,rfl⟩:=ab;rfl
  |e7=>cases ab;rfl
  |iface t x=>obtain⟨_,rfl,_⟩:=ab;rfl
  |agg cs=>obtain⟨_,rfl,_⟩:=ab;rfl
  |aO cs=>obtain⟨_,rfl,_⟩:=ab;rfl
theorem JL{op:BinOp}(h:op≠ .eql)(an:op≠ .neq)(t:TypeId)(kQ kR:Operand)(a b:Value):(eqGuard op t kQ kR a b).run P w=.ok () w:=by
 cases op<;>first|exact absurd rfl h|exact absurd rfl an|simp[eqGuard]
def sr:Value->Nat
 |.nilIface=>1
 |.agg _=>2
 |_=>0
theorem EB{op:BinOp}(eV:op=.eql\/op=.neq){t:TypeId}{kQ kR:Operand}{a b:Value}(h:sr a=0\/sr a≠sr b):(eqGuard op t kQ kR a b).run P w=.ok () w:=by
 rcases eV with rfl|rfl<;>(cases a<;>first|rfl|(cases b<;>first|rfl|simp[sr] at h))
def tT:I->Nat
 |.e7=>1
 |.agg _=>2
 |_=>0
theorem JM{x:I}{a:Value}(ab:bp μ x a)(ae:x≠ .bad):sr a=tT x:=by
 cases x with
 |bad=>exact absurd rfl ae
 |bool b=>cases ab;rfl
 |int k n=>cases ab;rfl
 |str s=>obtain⟨_,rfl,_⟩:=ab;rfl
 |aZ=>cases ab;rfl
 |ptr b off=>obtain⟨i,_,rfl⟩:=ab;rfl
 |aS=>cases ab;rfl
 |slice b off n c=>
  obtain⟨i,_,ag⟩:=ab
  cases c with
  |exact c=>cases ag;rfl
  |aR gR=>obtain⟨c,rfl,_⟩:=ag;rfl
  |dead=>obtain⟨_,a,c,rfl⟩:=ag;rfl
 |ix=>cases ab;rfl
 |map r=>obtain⟨i,_,rfl⟩:=ab;rfl
 |gb=>cases ab;rfl
 |fn f a b=>obtain⟨_,_,rfl,_⟩:=ab;rfl
 |dt l=>obtain⟨i,_,rfl⟩:=ab;rfl
 |e7=>cases ab;rfl
 |iface t x=>obtain⟨_,rfl,_⟩:=ab;rfl
 |agg cs=>obtain⟨_,rfl,_⟩:=ab;rfl
 |aO cs=>obtain⟨_,rfl,_⟩:=ab;rfl
theorem JN{op:BinOp}(eV:op=.eql\/op=.neq){t:TypeId}{kQ kR:Operand}{x y:I}{a b:Value}(ab:bp μ x a)(aU:bp μ y b)(vU:x≠ .bad)(yB:y≠ .bad)(h:rZ P t kQ kR x y=true):
  (eqGuard op t kQ kR a b).run P w=.ok () w:=by
 have JO:=JM ab vU
 have EC:=JM aU yB
 by_cases aj:sr a=0\/sr a≠sr b
 · exact EB eV aj
 · have aa:tT x≠0:=λe=>aj (.inl (JO.trans e))
   have ad:tT x=tT y:=by
    rw[<-JO,<-EC];exact Classical.byContradiction λe=>aj (.inr e)
   cases x<;>simp[tT] at aa
   · cases y<;>simp[tT] at ad
     cases ab;cases aU
     simp only[rZ] at h
     rcases eV with rfl|rfl<;>(cases kQ<;>cases kR<;>first|rfl|simp at h)
   · cases y<;>simp[tT] at ad
     obtain⟨bw,rfl,_⟩:=ab
     obtain⟨bV,rfl,_⟩:=aU
     simp only[rZ,Bool.not_eq_true'] at h
     rcases eV with rfl|rfl<;>simp[eqGuard,h]
theorem JP{d:Nat}{t:TypeId}{x y:I}{b:Bool}(h:gg P H d t x y=some b):x≠ .bad/\y≠ .bad:=by
 cases d with
 |zero=>simp[gg] at h
 |succ d=>
  constructor
  · rintro rfl;unfold gg at h;split at h<;>simp at h
  · rintro rfl;unfold gg at h;split at h<;>(try cases x)<;>simp at h
theorem SB(ak:bB μ H w){op:BinOp}{t yt:TypeId}{kQ kR:Operand}{x y v:I}{bG gJ:Value}(ab:bp μ x bG)(aU:bp μ y gJ)(h:dZ P H op t kQ kR x y=some v):
  ∃u,(do eqGuard op t kQ kR bG gJ;binOp op t bG gJ:Sem Value).run P w=.ok u w/\bp μ v u:=by
 unfold dZ at h
 split at h
 · rename_i k a dh b
   cases ab;cases aU
   have al:(eqGuard op t kQ kR (.int k a) (.int dh b)).run P w=.ok () w:=by
    by_cases eV:op=.eql\/op=.neq
    · exact EB eV (.inl rfl)
    · exact JL (λe=>eV (.inl e)) (λe=>eV (.inr e)) t kQ kR _ _
   simp only[Sem.run_bind,al,Result.andThen_ok]
   split at h
   · exact I5 h t
   · exact I5 h t
   · rename_i aa ad
     split at h
     · rename_i aq;subst aq
       exact Rl h ⟨aa,ad⟩ t
     · cases h
 · rename_i a b
   obtain⟨s1,rfl,rfl⟩:=ab
   obtain⟨s2,rfl,rfl⟩:=aU
   have al:(eqGuard op t kQ kR (.string s1) (.string s2)).run P w=.ok () w:=by
    by_cases eV:op=.eql\/op=.neq
    · exact EB eV (.inl rfl)
    · exact JL (λe=>eV (.inl e)) (λe=>eV (.inr e)) t kQ kR _ _
   simp only[Sem.run_bind,al,Result.andThen_ok]
   exact Rn h t
 · rename_i ea ia
   split at h
   · split at h
     · rename_i dq
       split at h
       · rename_i b he
         cases h
         obtain⟨br,a3⟩:=JP he
         have al:=JN (w:=w) (op:=.eql) (.inl rfl) ab aU br a3 dq
         have aN:tS bG=false:=JK he (λj a k c e=>ea j a k c e.1 e.2) (λa c e=>ia a c e.1 e.2) ab
         have aj:=tN (P:=P) ak 100 t x y b bG gJ Op.maxDepth (by decide) he ab aU
         refine⟨.bool b,?_,rfl⟩
         simp only[Sem.run_bind,al,Result.andThen_ok,binOp_eql t aN,Op.equal,aj,Sem.run_pure]
       · cases h
     · cases h
   · split at h
     · rename_i dq
       split at h
       · rename_i b he
         cases h
         obtain⟨br,a3⟩:=JP he
         have al:=JN (w:=w) (op:=.neq) (.inr rfl) ab aU br a3 dq
         have aN:tS bG=false:=JK he (λj a k c e=>ea j a k c e.1 e.2) (λa c e=>ia a c e.1 e.2) ab
         have aj:=tN (P:=P) ak 100 t x y b bG gJ Op.maxDepth (by decide) he ab aU
         refine⟨.bool (!b),?_,rfl⟩
         simp only[Sem.run_bind,al,Result.andThen_ok,binOp_neq t aN,Op.equal,aj,Sem.run_pure]
       · cases h
     · cases h
   · cases h
theorem SC{t:TypeId}{d:TypeDesc}(hu:P.underlying t=some d)(ea:∀m,d≠ .interface m){x:I}{bG:Value}(ab:bp μ x bG):
  (Instr.makeInterface t bG).run P w=.ok (.iface t bG) w:=by
 simp only[Instr.makeInterface,Sem.run_bind,b4 hu,Result.andThen_ok]
 cases d<;>first|rfl|exact absurd rfl (ea _)
theorem JQ{xT as:TypeId}{ok:Bool}{d:TypeDesc}(hu:P.underlying as=some d)(ea:∀m,d≠ .interface m){x:I}{bG:Value}(ab:bp μ x bG):
  (∀z,x=.e7->ok=true->ev P as=some z->∃u,(Instr.typeAssert bG xT as ok).run P w=.ok u w/\bp μ (.aO [z,.bool false]) u)/\
  (∀v,x=.iface as v->∃u,(Instr.typeAssert bG xT as ok).run P w=.ok u w/\bp μ (if ok then .aO [v,.bool true] else v) u)/\
  (∀t v z,x=.iface t v->t≠as->ok=true->ev P as=some z->∃u,(Instr.typeAssert bG xT as ok).run P w=.ok u w/\bp μ (.aO [z,.bool false]) u):=by
 refine⟨λz l1 dq aW=>?_,λv l1=>?_,λt v z l1 cX dq aW=>?_⟩
 · subst l1;cases ab;subst dq
   obtain⟨fH,yx,rfl,_⟩:=my (P:=P) (w:=w) aW
   refine⟨.tuple #[fH,.bool false],?_,⟨_,rfl,_,_,rfl,kD μ fH,_,_,rfl,rfl,rfl⟩⟩
   simp only[Instr.typeAssert,Sem.run_bind,b4 hu,Result.andThen_ok]
   cases d<;>first|exact absurd rfl (ea _)|simp[yx]
 · subst l1;obtain⟨y,rfl,aU⟩:=ab
   refine⟨if ok then .tuple #[y,.bool true] else y,?_,?_⟩
   · simp only[Instr.typeAssert,Sem.run_bind,b4 hu,Result.andThen_ok]
     cases d<;>first|exact absurd rfl (ea _)|simp
   · cases ok
     · exact aU
     · exact⟨_,rfl,_,_,rfl,aU,_,_,rfl,rfl,rfl⟩
 · subst l1;obtain⟨y,rfl,aU⟩:=ab;subst dq
   obtain⟨fH,yx,rfl,_⟩:=my (P:=P) (w:=w) aW
   refine⟨.tuple #[fH,.bool false],?_,⟨_,rfl,_,_,rfl,kD μ fH,_,_,rfl,rfl,rfl⟩⟩
   simp only[Instr.typeAssert,Sem.run_bind,b4 hu,Result.andThen_ok]
   cases d<;>first|exact absurd rfl (ea _)|simp[yx,cX]
theorem SD{vs:List I}{x:Value}{i:Nat}{v:I}(ab:bp μ (.aO vs) x)(h:nth i vs=some v):∃u,(Instr.extract x i).run P w=.ok u w/\bp μ v u:=by
 obtain⟨l,rfl,aw⟩:=ab
 rw[qV] at h
 obtain⟨u,hu,aj⟩:=aw.get h
 refine⟨u,?_,aj⟩
 simp[Instr.extract,hu]
theorem JR{r el:Nat}{c:Array Value}{dj:Nat×Nat}(h:w.heap[r]? =some (.cells c el dj)):(viewAt r).run P w=.ok none w:=by
 simp[viewAt,World.shape?,h]
theorem SE(ak:bB μ H w){src dst u:TypeId}{b off n:Nat}{cs:List I}{el aI af:Nat}{k:gS}(hs:P.underlying src=some (.pointer u))(ao:P.underlying dst=some .unsafePointer)
  (aW:dx P u=some (n+1))(al:H.get b=some (.cells cs el k aI af))(ch:off<cs.length){x:Value}(ab:bp μ (.ptr b off) x):(convert src dst x).run P w=.ok x w:=by
 obtain⟨i,af,rfl⟩:=ab
 obtain⟨c,gF,gG,aA,ax,bD,ed⟩:=ak.rel _ _ i al af
 obtain⟨v,aD⟩:∃v,cs[off]? =some v:=⟨_,List.getElem?_eq_getElem ch⟩
 obtain⟨SF,hu,_⟩:=ax off v aD
 have ft:i.base+off<c.size:=by
  rcases Nat.lt_or_ge (i.base+off) c.size with h|h
  · exact h
  · rw[Array.getElem?_eq_none h] at hu;cases hu
 have sj:(Conv.seenAt ⟨i.bo,i.base+off,none⟩).run P w=.ok ⟨i.bo,i.base+off,none⟩ w:=by
  simp[Conv.seenAt,JR aA]
 have JS:(cellsIn i.bo).run P w=.ok (some c.size) w:=by simp[cellsIn,World.shape?,aA]
 have tI:¬(c.size<=i.base+off):=by omega
 simp[convert,b4 hs,b4 ao,Conv.unsafePointer,sj,JS,run_sizeOf aW,tI]
theorem SG(ak:bB μ H w){src dst u:TypeId}{b off n:Nat}{cs:List I}{el aI af:Nat}(hs:P.underlying src=some .unsafePointer)(ao:P.underlying dst=some (.pointer u))
  (aW:dx P u=some (n+1))(al:H.get b=some (.cells cs el .own aI af))(aw:liesAt P P.depth el (cs.length/P.cellsOf el) off u 1=true){x:Value}(ab:bp μ (.ptr b off) x):(convert src dst x).run P w=.ok x w:=by
 obtain⟨i,af,rfl⟩:=ab
 obtain⟨c,gF,gG,aA,ax,bD,ed,fF,_⟩:=ak.rel _ _ i al af
 have ag:c.size=cs.length:=by omega
 have sj:(Conv.seenAt ⟨i.bo,i.base+off,none⟩).run P w=.ok ⟨i.bo,i.base+off,none⟩ w:=by
  simp[Conv.seenAt,JR aA]
 have q9:(variablesAt ⟨i.bo,i.base+off,none⟩ u 1).run P w=.ok true w:=by
  simp[variablesAt,World.shape?,aA,ed,ag,aw]
 simp[convert,b4 hs,b4 ao,Conv.unsafePointer,sj,run_sizeOf aW,q9]
end
end bt
namespace bt
open Go
section
variable {P:Program} {μ:bz} {H:J} {w:World}
theorem JT(ak:bB μ H w){b:Nat}{i:eX}(af:μ b=some i){cs:List I}{el aI eY:Nat}{k:gS}(al:H.get b=some (.cells cs el k aI eY)):
  ∀(n off:Nat) (r:List I) (bs:List UInt8) (acc:ByteArray),takeN n (jH off cs)=some r->n2 r=some bs->
   (loadBytes ⟨i.bo,i.base+off,none⟩ acc n).run P w=.ok ⟨acc.data++bs.toArray⟩ w
 |0,off,r,bs,acc,h,ae=>by
  simp only[takeN] at h;cases h
  simp only[n2] at ae;cases ae
  simp[loadBytes]
 |n+1,off,r,bs,acc,h,ae=>by
  rw[ng] at h
  cases ao:cs.drop off with
  |nil=>rw[ao] at h;simp[takeN] at h
  |cons a l=>
   rw[ao] at h
   simp only[takeN] at h
   cases bc:takeN n l with
   |none=>rw[bc] at h;cases h
   |some r'=>
    rw[bc] at h;cases h
    unfold n2 at ae
    split at ae
    · rename_i heq;cases heq
    · rename_i m oZ heq
      cases heq
      split at ae
      · rename_i SH hm j1
        cases ae
        have JU:cs[off]? =some (.int .u8 (Int.ofNat m)):=by
         have:=congrArg List.head? ao
         simpa[List.head?_drop] using this
        have aw:l=cs.drop (off+1):=by
         have:=congrArg List.tail ao
         simpa[List.tail_drop] using this.symm
        obtain⟨u,aa,ad⟩:=Ec (P:=P) (off:=off) ak af (show ar H b off=some (.int .u8 (Int.ofNat m)) by simp[ar,al,qV,JU])
        cases ad
        have bb:=JT ak af al n (off+1) r' SH (acc.push (UInt8.ofNat m)) (by rw[ng,<-aw];exact bc) j1
        have e:(⟨i.bo,i.base+off,none⟩:Addr).add 1=⟨i.bo,i.base+(off+1),none⟩:=by simp[Addr.add,Nat.add_assoc]
        simp only[loadBytes,Sem.run_bind,aa,Result.andThen_ok,e]
        refine Eq.trans ?_ (bb.trans ?_)
        · rfl
        · congr 1
          simp[ByteArray.ext_iff,ByteArray.push]
      · cases ae
    · cases ae
theorem ED{α:Type}(p:Option Addr)(l:Value)(f:Option Addr->Value->α)(g:Array Value->α):Builtin.unsafeString_.match_3 (λ_=>α) #[.pointer p,l] f g=f p l:=rfl
theorem SI(argTypes:Array TypeId)(ty pT:TypeId)(h0:argTypes[0]? =some pT)(k:IntKind)(m:Nat)(a:Addr)(u:TypeId)(hu:P.underlying pT=some (.pointer u))(q3:m≠0)(hm:m<=281474976710656)
  {s:ByteArray}(aD:(variablesAt a u m).run P w=.ok true w)(aw:(loadBytes a .empty m).run P w=.ok s w):
  (Builtin.unsafeString_ argTypes ty #[.pointer (some a),.int k (m:Int)]).run P w=.ok (.string s) (w.freeze a m):=by
 have yC:¬((9223372036854775807:Int)<(m:Int)):=by omega
 have jb:IntKind.i64.max=9223372036854775807:=rfl
 have he:(elemOf pT).run P w=.ok u w:=by simp[elemOf,b4 hu]
 have yD:¬((m:Int)<0):=by omega
 delta Builtin.unsafeString_
 rw[ED]
 simp[asInt,asIntOf,h0,jb,yC,q3,he,aD,aw,yD]
theorem JV(argTypes:Array TypeId)(ty pT:TypeId)(h0:argTypes[0]? =some pT)(k:IntKind)(p:Option Addr):(Builtin.unsafeString_ argTypes ty #[.pointer p,.int k 0]).run P w=.ok (.string .empty) w:=by
 have jb:IntKind.i64.max=9223372036854775807:=rfl
 cases p with
 |none=>
  delta Builtin.unsafeString_
  rw[ED]
  simp[asInt,asIntOf,h0,jb]
 |some a=>
  delta Builtin.unsafeString_
  rw[ED]
  simp[asInt,asIntOf,h0,jb]
theorem Bo:P.depth=(2*(P.types.size+Made.depth)+1)+1:=rfl
theorem SJ{e u count off n:Nat}(aa:P.underlyingId e=P.underlyingId u)(hs:P.cellsOf e=1)(ae:off+n<=count):liesAt P P.depth e count off u n=true:=by
 have aw:sameLayout P P.depth e u=true:=by rw[Bo];simp[sameLayout,aa]
 have aj:rowAt P (sameLayout P P.depth · u) P.depth e count off n=true:=by
  rw[Bo]
  unfold rowAt
  simp only[hs,Nat.div_one,Nat.mod_one]
  rw[Bo] at aw
  simp[ae,aw]
 have:∀d,rowAt P (sameLayout P P.depth · u) P.depth e count off n=true->liesAt P (d+1) e count off u n=true:=λd h=>by
  unfold liesAt;rw[h];rfl
 conv=>lhs;arg 2;rw[Bo]
 exact this _ aj
theorem SK(ak:bB μ H w){argTypes:Array TypeId}{ty pT:TypeId}(h0:argTypes[0]? =some pT){p n v:I}{EE EF:Value}(aQ:bp μ p EE)(aN:bp μ n EF){aX:J}(h:pJ P H pT p n=some (v,aX)):
  e5 P μ H w (Builtin.unsafeString_ argTypes ty #[EE,EF]) v aX:=by
 unfold pJ at h
 have JW:∀m,eI n=some m->∃k,EF=.int k (m:Int):=by
  intro m hm
  unfold eI at hm
  split at hm
  · cases hm;cases aN;exact⟨_,rfl⟩
  · cases hm
 split at h
 · rename_i aW
   cases h;cases aQ
   obtain⟨k,rfl⟩:=JW 0 aW
   exact .same ak (v':=.string .empty) (JV argTypes ty pT h0 k none) ⟨.empty,rfl,rfl⟩
 · rename_i b off m hm
   obtain⟨k,rfl⟩:=JW m hm
   obtain⟨i,af,rfl⟩:=aQ
   split at h
   · rename_i aW
     cases h;subst aW
     exact .same ak (v':=.string .empty) (JV argTypes ty pT h0 k _) ⟨.empty,rfl,rfl⟩
   · rename_i q3
     split at h
     · rename_i u cs el bk aI eY hu al
       split at h
       · rename_i ag
         simp only[Bool.and_eq_true,decide_eq_true_eq,Nat.ble_eq] at ag
         obtain⟨⟨⟨aF,a6⟩,dy⟩,fO⟩:=ag
         split at h
         · rename_i r aj
           split at h
           · rename_i bs ae
             cases h
             obtain⟨c,gF,gG,aA,ax,bD,ed⟩:=ak.rel _ _ i al af
             have EG:=JT (P:=P) ak af al m off r bs .empty aj ae
             have hlen:off+m<=cs.length:=by
              rw[ng] at aj
              have:=(tH m _ _ aj).1
              rw[List.length_drop] at this
              omega
             have yd:0<m:=Nat.pos_of_ne_zero q3
             have ft:i.base+off+m<=c.size:=by
              obtain⟨x,ab⟩:∃x,cs[off+m-1]? =some x:=⟨_,List.getElem?_eq_getElem (by omega)⟩
              obtain⟨SF,lX,_⟩:=ax _ x ab
              rcases Nat.lt_or_ge (i.base+(off+m-1)) c.size with h|h
              · omega
              · rw[Array.getElem?_eq_none h] at lX;cases lX
             have yE:P.cellsOf el=1:=by
              unfold dx at a6
              unfold Program.cellsOf
              cases eY:P.info? el with
              |none=>rw[eY] at a6;cases a6
              |some ii=>rw[eY] at a6;simpa using a6
             have q9:(variablesAt ⟨i.bo,i.base+off,none⟩ u m).run P w=.ok true w:=by
              have aw:=SJ (P:=P) (e:=el) (u:=u) (count:=c.size/P.cellsOf el) (off:=i.base+off) (n:=m) aF yE (by rw[yE];simpa using ft)
              simp[variablesAt,World.shape?,aA,aw]
             have e6:=SI (P:=P) (w:=w) argTypes ty pT h0 k m _ u hu q3 dy q9 EG
             have SL:∃dj:Nat×Nat,w.freeze ⟨i.bo,i.base+off,none⟩ m={w with heap:=w.heap.modify i.bo λ
               |.cells c elem (aI,af)=>.cells c elem (if aI==af then(i.base+off,i.base+off+m) else(min aI (i.base+off),max af (i.base+off+m)))
               |o=>o}/\(w.freeze ⟨i.bo,i.base+off,none⟩ m).heap[i.bo]? =some (.cells c el dj):=by
              have:w.freeze ⟨i.bo,i.base+off,none⟩ m={w with heap:=w.heap.modify i.bo λ
               |.cells c elem (aI,af)=>.cells c elem (if aI==af then(i.base+off,i.base+off+m) else(min aI (i.base+off),max af (i.base+off+m)))
               |o=>o}:=by simp[World.freeze,q3];rfl
              refine⟨if gF==gG then(i.base+off,i.base+off+m) else(min gF (i.base+off),max gG (i.base+off+m)),this,?_⟩
              rw[this]
              simp[Array.getElem?_modify,aA]
             obtain⟨⟨f1,f2⟩,ba,a1⟩:=SL
             have gi:(dr.cells cs el bk aI eY).pX=false:=by cases bk<;>first|rfl|exact absurd rfl fO
             obtain⟨r1,r2⟩:=ak.update (w':=w.freeze ⟨i.bo,i.base+off,none⟩ m) (o':=.cells cs el .fz aI eY) al gi af (by rw[ba];simp) (λr aj=>by rw[ba];simp[Array.getElem?_modify];intro e;exact absurd e.symm aj) (by rw[ba]) (by rw[ba]) (by rw[ba])
              ⟨c,f1,f2,a1,ax,bD,trivial⟩ (hdr:=by rw[ba];exact Nat.le_refl _)
             exact⟨μ,_,.string _,e6,⟨_,rfl,by simp⟩,r1,r2⟩
           · cases h
         · cases h
       · cases h
     · cases h
 · cases h
theorem SM{argTypes:Array TypeId}{ty:TypeId}{x:I}{bG:Value}(ab:bp μ x bG):
  (x=.aS->(Builtin.unsafeSliceData_ argTypes ty #[bG]).run P w=.ok (.pointer none) w)/\
  (∀b off n c,x=.slice b off n (.exact c)->c≠0->∃u,(Builtin.unsafeSliceData_ argTypes ty #[bG]).run P w=.ok u w/\bp μ (.ptr b off) u)/\
  (∀b off n e,x=.slice b off n (.aR e)->n≠0->∃u,(Builtin.unsafeSliceData_ argTypes ty #[bG]).run P w=.ok u w/\bp μ (.ptr b off) u):=by
 have key:∀(a:Addr) (n c:Nat),c≠0->(Builtin.unsafeSliceData_ argTypes ty #[.slice (some a) n c]).run P w=.ok (.pointer (some a)) w:=λa n c ag=>by
  obtain⟨k,rfl⟩:∃k,c=k+1:=⟨c-1,by omega⟩
  rfl
 refine⟨λh=>?_,λb off n c h ag=>?_,λb off n e h aN=>?_⟩
 · subst h;cases ab;rfl
 · subst h;obtain⟨i,af,pY⟩:=ab;cases pY
   exact⟨_,key _ n c ag,i,af,rfl⟩
 · subst h;obtain⟨i,af,c,rfl,hle,_⟩:=ab
   exact⟨_,key _ n c (by omega),i,af,rfl⟩
theorem JX{q_:Value}{first aV:List I}{g:Nat}{args:List I}{vs:List Value}(hf:bp μ (.fn g first aV) q_)(aL:cm μ args vs):
  ∃b0 cs:List Value,(do let d<-Deferred.ofValue q_ ⟨vs⟩;invoke d.target d.args:Sem Next).run P w=(callFunc g ⟨b0++vs++cs⟩).run P w/\cm μ (first++args++aV) (b0++vs++cs)/\
   (Deferred.ofValue q_ ⟨vs⟩).run P w=.ok {target:=.fn (.func g) ⟨cs⟩,args:=⟨b0++vs⟩} w:=by
 obtain⟨b0,cs,rfl,aa,ad⟩:=hf
 refine⟨b0,cs,?_,(aa.append aL).append ad,?_⟩
 · simp[Deferred.ofValue,invoke]
 · simp[Deferred.ofValue]
theorem SN{l:Nat}{q_:Value}{vs:List Value}(hf:bp μ (.dt l) q_):
  ∃i,μ l=some i/\(do let d<-Deferred.ofValue q_ ⟨vs⟩;invoke d.target d.args:Sem Next).run P w=(Instr.yield i.bo ⟨vs⟩).run P w:=by
 obtain⟨i,af,rfl⟩:=hf
 exact⟨i,af,by simp[Deferred.ofValue,invoke]⟩
theorem SO{t:TypeId}{name:String}{f:Nat}(h:AZ P t name=some f)(v:Value)(n:Nat):(method (n+1) t v name).run P w=.ok (f,v) w:=by
 unfold AZ at h
 split at h
 · rename_i i af
   split at h
   · rename_i m hm
     have hf:∀q,m.path.isEmpty=q->m.path.isEmpty=q:=λ_ h=>h
     split at h
     all_goals first
      |(cases h;done)
      |(rename_i aQ oh hu
        cases h
        have Bp:m.path.toList=[]:=by simpa using aQ
        simp[method,run_typeInfo af,hm,Bp,follow,oh,receiverAt,b4 hu,Place.get]
        done)
   · cases h
 · cases h
end
end bt
namespace bt
open Go
def j3(P:Program)(μ:bz)(H:J)(w:World)(s:Sem Next):jr->Prop
 |.val v aX=>∃a0 w' u,(s.run P w=.ok (.value u) w'\/(u=undef/\s.run P w=.ok .skip w'))/\bp a0 v u/\bB a0 aX w'/\cg μ H w a0 aX w'
 |.ca v aX=>aX=H/\∃u,s.run P w=.halt (.panic u) w/\bp μ v u
 |.call f args aX=>aX=H/\∃vs:List Value,s.run P w=(callFunc f ⟨vs⟩).run P w/\cm μ args vs
 |.dt l args aX=>aX=H/\∃i,∃vs:List Value,μ l=some i/\s.run P w=(Instr.yield i.bo ⟨vs⟩).run P w/\cm μ args vs
 |.lT d=>∃ss,s.run P w=.ok (.defer ss) w/\tG μ d ss
 |.tx=>s.run P w=.ok .recover w
 |.fail _=>True
section
variable {P:Program} {μ:bz} {H:J} {w:World}
theorem j3.j4{s:Sem Value}{v:I}{aX:J}(h:e5 P μ H w s v aX):j3 P μ H w (do pure (.value (<-s))) (.val v aX):=by
 obtain⟨a0,w',u,aa,ad,av,aG⟩:=h
 exact⟨a0,w',u,.inl (by simp[aa]),ad,av,aG⟩
theorem j3.of_same(ak:bB μ H w){s:Sem Value}{v:I}(h:∃u,s.run P w=.ok u w/\bp μ v u):j3 P μ H w (do pure (.value (<-s))) (.val v H):=by
 obtain⟨u,aa,ad⟩:=h
 exact⟨μ,w,u,.inl (by simp[aa]),ad,ak,cg.refl _ _ _⟩
theorem j3.Bq(ak:bB μ H w){u:Value}{v:I}(h:bp μ v u){s:Sem Next}(hs:s.run P w=.ok (.value u) w):j3 P μ H w s (.val v H):=
 ⟨μ,w,u,.inl hs,h,ak,cg.refl _ _ _⟩
theorem j3.SP{s:Sem Unit}{aX:J}(h:∃w',s.run P w=.ok () w'/\bB μ aX w'/\cg μ H w μ aX w'):j3 P μ H w (do s;pure .skip) (.val (.aO []) aX):=by
 obtain⟨w',aa,av,aG⟩:=h
 exact⟨μ,w',undef,.inr ⟨rfl,by simp[aa]⟩,⟨[],rfl,rfl⟩,av,aG⟩
theorem yF(ak:bB μ H w){s:Sem Value}{o:Option I}{jG:String}(h:∀v,o=some v->∃u,s.run P w=.ok u w/\bp μ v u):j3 P μ H w (do pure (.value (<-s))) (fT H jG o):=by
 cases o with
 |none=>trivial
 |some v=>exact .of_same ak (h v rfl)
theorem su{s:Sem Value}{o:Option I}{jG:String}(h:∀v,o=some v->e5 P μ H w s v H):j3 P μ H w (do pure (.value (<-s))) (fT H jG o):=by
 cases o with
 |none=>trivial
 |some v=>exact .j4 (h v rfl)
theorem tU{s:Sem Value}{o:Option (I×J)}{jG:String}(h:∀v aX,o=some (v,aX)->e5 P μ H w s v aX):j3 P μ H w (do pure (.value (<-s))) (lV jG o):=by
 cases o with
 |none=>trivial
 |some p=>exact .j4 (h p.1 p.2 rfl)
theorem Br{s:Sem Unit}{o:Option J}{jG:String}(h:∀aX,o=some aX->∃w',s.run P w=.ok () w'/\bB μ aX w'/\cg μ H w μ aX w'):j3 P μ H w (do s;pure .skip) (qP jG o):=by
 cases o with
 |none=>trivial
 |some aX=>exact .SP (h aX rfl)
theorem sv{a:I}{n:Nat}{v:Value}(h:eI a=some n)(aD:bp μ a v):∃k,v=.int k (n:Int):=by
 unfold eI at h
 split at h
 · cases h;cases aD;exact⟨_,rfl⟩
 · cases h
theorem JY(ak:bB μ H w){f:I}{q_:Value}{args:List I}{vs:List Value}(hf:bp μ f q_)(aL:cm μ args vs):
  j3 P μ H w (do let d<-Deferred.ofValue q_ ⟨vs⟩;invoke d.target d.args) (tC f args H):=by
 unfold tC
 split
 · obtain⟨b0,cs,aa,ad,_⟩:=JX (P:=P) (w:=w) hf aL
   exact⟨rfl,_,aa,ad⟩
 · obtain⟨i,aa,ad⟩:=SN (P:=P) (w:=w) (vs:=vs) hf
   exact⟨rfl,i,vs,aa,ad,aL⟩
 · trivial
theorem SQ(ak:bB μ H w){b:Builtin}{ats:Array TypeId}{ty:TypeId}{consts:Array Bool}{vs:List I}{us:List Value}(aD:cm μ vs us):
  j3 P μ H w (builtin b ats ty consts ⟨us⟩) (iz P b ats vs H):=by
 unfold iz
 split
 · rfl
 · cases vs with
   |nil=>trivial
   |cons x l=>
    obtain⟨bG,ln,rfl,aa,ad⟩:=aD
    refine yF ak λv h=>?_
    obtain⟨u,ba,a1⟩:=Ep (P:=P) (w:=w) qN Builtin.min2 (λ_ _ _ _ _ h ab aU=>R3 h ab aU) l x bG ln v aa ad h
    exact⟨u,by simpa[Builtin.min_] using ba,a1⟩
 · cases vs with
   |nil=>trivial
   |cons x l=>
    obtain⟨bG,ln,rfl,aa,ad⟩:=aD
    refine yF ak λv h=>?_
    obtain⟨u,ba,a1⟩:=Ep (P:=P) (w:=w) r3 Builtin.max2 (λ_ _ _ _ _ h ab aU=>R4 h ab aU) l x bG ln v aa ad h
    exact⟨u,by simpa[Builtin.max_] using ba,a1⟩
 · split
   · rename_i t x h0
     obtain⟨bG,ln,rfl,aa,ad⟩:=aD
     cases ad
     split
     · exact su λv h=>RZ ak h0 aa h
     · exact su λv h=>R0 ak h0 aa h
     · exact tU λv aX h=>RY ak h0 aa h
     · obtain⟨s1,s2,bN⟩:=SM (P:=P) (w:=w) (argTypes:=ats) (ty:=ty) aa
       split
       · exact .of_same ak ⟨_,s1 rfl,rfl⟩
       · split
         · trivial
         · rename_i ag;exact .of_same ak (s2 _ _ _ _ rfl ag)
       · split
         · trivial
         · rename_i ag;exact .of_same ak (bN _ _ _ _ rfl ag)
       · trivial
     · trivial
   · rename_i t x y h0
     obtain⟨bG,ln,rfl,aa,gJ,Jo,rfl,ad,av⟩:=aD
     cases av
     split
     · exact tU λv aX h=>RS ak h0 aa ad h
     · exact tU λv aX h=>RX ak h0 aa ad h
     · exact tU λv aX h=>Sk ak h0 aa ad h
     · exact tU λv aX h=>SK ak h0 aa ad h
     · trivial
   · trivial
theorem SR(ak:bB μ H w){src dst:TypeId}{x:I}{bG:Value}(ab:bp μ x bG):
  j3 P μ H w (do pure (.value (<-convert src dst bG))) (iZ P src dst x H):=by
 unfold iZ
 split
 · rename_i kG k bJ n hs ao
   cases ab
   exact .of_same ak ⟨.int k (k.wrap n),by simp[convert,b4 hs,b4 ao,Conv.intToInt],rfl⟩
 · rename_i kG bJ n hs ao
   cases ab
   exact .of_same ak ⟨.string (Utf8.encode n),by simp[convert,b4 hs,b4 ao,Conv.intToString],_,rfl,rfl⟩
 · rename_i s hs ao
   obtain⟨t,rfl,rfl⟩:=ab
   exact .of_same ak ⟨.string t,by simp[convert,b4 hs,b4 ao],_,rfl,rfl⟩
 · rename_i e s hs ao
   obtain⟨t,rfl,rfl⟩:=ab
   split
   · rename_i he
     refine .j4 ?_
     have cA:=R6 (P:=P) ak (e:=e) (bs:=t)
     obtain⟨a0,w',u,aa,ad,av,aG⟩:=cA
     exact⟨a0,w',u,by simp[convert,b4 hs,b4 ao,b4 he,aa],ad,av,aG⟩
   · trivial
 · rename_i e hs ao
   have key:P.underlying e=some (.int .u8)->∀a n c,(convert src dst (.slice a n c)).run P w=(Conv.bytesToString (.slice a n c)).run P w:=by
    intro he a n c
    simp[convert,b4 hs,b4 ao,b4 he]
   split
   · rename_i he
     cases ab
     refine .of_same ak ⟨.string .empty,?_,.empty,rfl,rfl⟩
     rw[key he];rfl
   · rename_i b off n he
     split
     · rename_i aN
       subst aN
       obtain⟨i,_,_,a,c,rfl⟩:=ab
       refine .of_same ak ⟨.string .empty,?_,.empty,rfl,rfl⟩
       rw[key he];rfl
     · trivial
   · rename_i b off n c Bi he
     split
     · rename_i cs aw
       split
       · rename_i bs ae
         obtain⟨a0,w',u,aa,ad,av,aG⟩:=R5 (P:=P) ak (by intro e;subst e;exact Bi rfl) ab aw ae
         refine .j4 ⟨a0,w',u,?_,ad,av,aG⟩
         have jv:∃a m k,bG=.slice a m k:=by
          obtain⟨i,_,ag⟩:=ab
          cases c with
          |exact c=>cases ag;exact⟨_,_,_,rfl⟩
          |aR gR=>obtain⟨c,rfl,_⟩:=ag;exact⟨_,_,_,rfl⟩
          |dead=>obtain⟨_,a,c,rfl⟩:=ag;exact⟨_,_,_,rfl⟩
         obtain⟨a,m,k,rfl⟩:=jv
         rw[key he];exact aa
       · trivial
     · trivial
   · trivial
 · rename_i u b off hs ao
   split
   · rename_i cs el k aI af n al aW
     split
     · rename_i ch
       exact .of_same ak ⟨bG,SE ak hs ao aW al (by simpa using ch) ab,ab⟩
     · trivial
   · trivial
 · rename_i u b off hs ao
   split
   · rename_i cs el aI af n al aW
     split
     · rename_i ag
       exact .of_same ak ⟨bG,SG ak hs ao aW al ag ab,ab⟩
     · trivial
   · trivial
 · trivial
end
end bt
namespace bt
open Go
section
variable {P:Program} {μ:bz} {H:J} {w:World}
theorem JZ(ak:bB μ H w){c a b:Operand}{g:Operand->I}{cD:Operand->Value}(al:∀x,bp μ (g x) (cD x)){fy:Bool}(ag:g c=.bool fy):
  j3 P μ H w (do pure (.value (if<-asBool (cD c) then cD a else cD b))) (.val (if fy then g a else g b) H):=by
 have aa:=al c
 rw[ag] at aa
 refine .Bq ak (u:=if fy then cD a else cD b) ?_ ?_
 · cases fy
   · exact al b
   · exact al a
 · have:cD c=.bool fy:=aa
   simp[this,asBool]
theorem Bs{g:Operand->I}{cD:Operand->Value}(al:∀x,bp μ (g x) (cD x))(args:Array Operand):cm μ (args.toList.map g) (args.map cD).toList:=by
 rw[Array.toList_map];exact cm.map g cD al _
theorem SS(ak:bB μ H w){g:Operand->I}{cD:Operand->Value}(al:∀x,bp μ (g x) (cD x))(o:Oper)(x:Operand)(aY:o.op=.nilCheck x):j3 P μ H w (execOp cD o) (match g x with
  |.ptr b o=>.val (.ptr b o) H
  |.slice b o n c=>.val (.slice b o n c) H
  |.fn f a b=>.val (.fn f a b) H
  |.iface t v=>.val (.iface t v) H
  |_=>.fail "nilCheck"):=by
 have aa:=al x
 have e:∀(v:I),g x=v->((∃b o,v=.ptr b o)\/(∃b o n c,v=.slice b o n c)\/(∃f a b,v=.fn f a b)\/∃t y,v=.iface t y)->j3 P μ H w (execOp cD o) (.val v H):=by
  intro v aD hs
  have ad:=aa
  rw[aD] at ad
  exact .Bq ak ad (Rh ad hs o x cD rfl aY)
 split
 · rename_i b o ab;exact e _ ab (.inl ⟨_,_,rfl⟩)
 · rename_i b o n c ab;exact e _ ab (.inr (.inl ⟨_,_,_,_,rfl⟩))
 · rename_i f a b ab;exact e _ ab (.inr (.inr (.inl ⟨_,_,_,rfl⟩)))
 · rename_i t v ab;exact e _ ab (.inr (.inr (.inr ⟨_,_,rfl⟩)))
 · trivial
theorem SU(ak:bB μ H w){g:Operand->I}{cD:Operand->Value}(al:∀x,bp μ (g x) (cD x))(c:Call)(type:TypeId):j3 P μ H w (do let d<-resolve cD c type;invoke d.target d.args) (match c.callee with
  |.value f=>tC (g f) (c.args.toList.map g) H
  |.invoke r name=>match g r with
   |.iface t v=>match AZ P t name with
    |some f=>.call f (v::c.args.toList.map g) H
    |none=>.fail ("invoke " ++name)
   |_=>.fail ("invoke " ++name)
  |.builtin b=>iz P b c.argTypes (c.args.toList.map g) H):=by
 have aL:=Bs (μ:=μ) al c.args
 cases ag:c.callee with
 |value f=>
  simp only[resolve,ag]
  exact JY ak (al f) aL
 |invoke r name=>
  simp only[]
  split
  · rename_i t v aj
    split
    · rename_i f hm
      have aa:=al r
      rw[aj] at aa
      obtain⟨y,aU,aD⟩:=aa
      refine⟨rfl,y::(c.args.map cD).toList,?_,⟨_,_,rfl,aD,aL⟩⟩
      have afq:0<Made.depth:=by decide
      obtain⟨n,aN⟩:∃n,P.types.size+Made.depth=n+1:=⟨P.types.size+Made.depth-1,by omega⟩
      have SV:=SO (P:=P) (w:=w) hm y n
      have h0:(#[cD r]++c.args.map cD)[0]? =some (cD r):=by rw[Array.getElem?_append_left (by simp)];rfl
      have ad:(#[cD r]++c.args.map cD).extract 1 (#[cD r]++c.args.map cD).size=c.args.map cD:=by
       apply Array.ext'
       simp only[Array.toList_extract,Array.toList_append,Array.toList_map,List.cons_append,List.nil_append,List.extract_eq_take_drop]
       rw[List.take_of_length_le]
       · rfl
       · simp
      have av:(#[y]++c.args.map cD:Array Value)=⟨y::(c.args.map cD).toList⟩:=by apply Array.ext';simp
      rw[aU] at h0 ad
      simp only[resolve,ag,Sem.run_bind,Sem.run_pure,Result.andThen_ok,invoke,aU,h0,ad,callMethod,run_program,aN,SV,av]
    · trivial
  · trivial
 |builtin b=>
  have ae:=SQ (P:=P) (b:=b) (ats:=c.argTypes) (ty:=type) (consts:=c.args.map λ|.const _=>true|_=>false) ak aL
  have he:(do let d<-resolve cD c type;invoke d.target d.args:Sem Next)=builtin b c.argTypes type (c.args.map λ|.const _=>true|_=>false) (c.args.map cD):=by
   simp only[resolve,ag];rfl
  rw[he];exact ae
set_option maxHeartbeats 4000000 in
theorem SW(ak:bB μ H w)(o:Oper){g:Operand->I}{cD:Operand->Value}(al:∀x,bp μ (g x) (cD x)):j3 P μ H w (execOp cD o) (cP P o g H):=by
 obtain⟨dst,op,type,pos,after,guard⟩:=o
 cases op<;>simp only[cP,execOp]
 case move x=>exact .Bq ak (al x) rfl
 case assign x=>exact .Bq ak (al x) rfl
 case pick c a b=>
  split
  · rename_i ag;exact JZ ak al ag
  · rename_i ag;exact JZ ak al ag
  · trivial
 case alloc e=>
  split
  · rename_i z aW
    split
    · rename_i b an aj;exact .j4 (Q6 ak aW aj)
    · trivial
  · trivial
 case box e x=>
  split
  · rename_i b an aj;exact .j4 (Q7 ak (al x) aj)
  · trivial
 case build t parts=>
  split
  · rename_i z aW
    split
    · rename_i b0 hu
      split
      · rename_i cs eB hf;exact .j4 (Rc ak g cD al aW hu eB parts hf)
      · trivial
    · rename_i n e hu
      split
      · rename_i sz hs
        split
        · rename_i cs hf;exact .j4 (Re ak g cD al aW hu hs parts hf)
        · trivial
      · trivial
    · trivial
  · trivial
 case buildSlice t len parts=>
  split
  · rename_i e hu
    split
    · rename_i sz z hs aW
      split
      · rename_i cs ag hf
        rw[Bool.and_eq_true,Nat.ble_eq,Nat.beq_eq] at ag
        split
        · rename_i b an aj;exact .j4 (Rf ak g cD al hu hs aW ag.1 ag.2 parts hf aj)
        · trivial
      · trivial
    · trivial
  · trivial
 case insert t m k v=>exact Br λaX h=>JD ak (al m) (al k) (al v) h
 case load t a=>
  split
  · rename_i b off aL
    have aa:=al a
    rw[aL] at aa
    obtain⟨bw,bV⟩:=Q8 (P:=P) ak (t:=t) aa
    split
    · rename_i n yG aN
      split
      · rename_i cs aw;exact .j4 (bw n cs yG aN aw)
      · trivial
    · rename_i yG
      exact su λv h=>bV v yG h
    · trivial
  · trivial
 case store t a v=>
  split
  · rename_i b off aL
    have aa:=al a
    rw[aL] at aa
    split
    · trivial
    · rename_i n aN lp
      split
      · rename_i aw
        exact Br λaX h=>Q9 ak aa (al v) lp aN (by simpa using aw) h
      · trivial
    · trivial
  · trivial
 case ready=>trivial
 case waits=>trivial
 case nilCheck x=>exact SS ak al ⟨dst,.nilCheck x,type,pos,after,guard⟩ x rfl
 case binOp op t x y yt=>exact yF ak λv h=>SB ak (yt:=yt) (al x) (al y) h
 case unOp op t x=>
  have aa:=al x
  split
  · rename_i b ab;rw[ab] at aa;exact .of_same ak (Sy aa)
  · rename_i k n ab;rw[ab] at aa;exact .of_same ak (Sz aa)
  · rename_i k n ab;rw[ab] at aa;exact yF ak λv h=>SA aa h
  · trivial
 case convert src afr x=>exact SR ak (al x)
 case sliceToArrayPointer=>trivial
 case makeInterface t x=>
  split
  · trivial
  · rename_i d ea hu
    refine .of_same ak ⟨.iface t (cD x),SC hu (λm e=>ea m (e▸rfl)) (al x),_,rfl,al x⟩
  · trivial
 case makeFunc fn first aV=>
  split
  · rename_i f
    exact .of_same ak ⟨.func (.func f) (first.map cD) (aV.map cD),rfl,_,_,rfl,Bs al first,Bs al aV⟩
  · trivial
 case makeMap t r=>
  cases r with
  |none=>exact .j4 (Sl ak)
  |some x=>
   simp only[]
   split
   · rename_i kt jI k n hu ab
     have aa:=al x
     rw[ab] at aa
     have ad:cD x=.int k n:=aa
     rw[Option.map_some,ad]
     exact .j4 (Sm ak hu)
   · trivial
 case makeChan=>trivial
 case makeSlice t l c=>
  split
  · rename_i e oZ c' hu aw ag
    obtain⟨kl,el⟩:=sv aw (al l)
    obtain⟨kc,yH⟩:=sv ag (al c)
    split
    · rename_i i z af aW
      split
      · rename_i kT
        rw[Bool.and_eq_true,Bool.and_eq_true,Nat.ble_eq,Nat.beq_eq,decide_eq_true_eq] at kT
        split
        · rename_i b an aj
          rw[el,yH]
          exact .j4 (Rg ak hu af aW kT.1.1 kT.1.2 kT.2 aj)
        · trivial
      · trivial
    · trivial
  · trivial
 case slice t x aI af mx=>
  exact su λv h=>Rs ak (al x) (oc.map g cD al aI) (oc.map g cD al af) (oc.map g cD al mx) h
 case fieldAddr s x f=>
  split
  · rename_i b0 b off hu ab
    have aa:=al x
    rw[ab] at aa
    split
    · rename_i fd hf
      split
      · trivial
      · rename_i n yn aN
        exact .j4 (Ru ak hu hf aN (λe=>yn e) aa)
      · trivial
    · trivial
  · trivial
 case field t x f=>
  split
  · rename_i b0 cs hu ab
    have aa:=al x
    rw[ab] at aa
    split
    · rename_i fd hf
      exact su λv h=>Rt ak hu hf aa h
    · trivial
  · trivial
 case indexAddr t x i=>
  split
  · rename_i n e b off k hu ab af
    have aa:=al x
    rw[ab] at aa
    obtain⟨bk,nj⟩:=sv af (al i)
    split
    · rename_i sz hs
      split
      · rename_i aq;rw[nj];exact .j4 (Rw ak hu hs aa aq)
      · trivial
    · trivial
  · rename_i e b off n c k hu ab af
    have aa:=al x
    rw[ab] at aa
    obtain⟨bk,nj⟩:=sv af (al i)
    split
    · rename_i sz hs
      split
      · rename_i aq;rw[nj];exact .j4 (Rv ak hu hs aa aq)
      · trivial
    · trivial
  · trivial
 case index t x i=>
  split
  · rename_i n e cs k hu ab af
    have aa:=al x
    rw[ab] at aa
    obtain⟨bk,nj⟩:=sv af (al i)
    split
    · rename_i sz hs
      split
      · rename_i aq;rw[nj];exact su λv h=>Rx ak hu hs aa aq h
      · trivial
    · trivial
  · rename_i s k hu ab af
    have aa:=al x
    rw[ab] at aa
    obtain⟨bk,nj⟩:=sv af (al i)
    split
    · rename_i c ag;rw[nj];exact .j4 (Ry ak hu aa ag)
    · trivial
  · trivial
 case lookup t x i ok=>exact su λv h=>Sf ak (al x) (al i) h
 case mapUpdate t m k v=>exact Br λaX h=>JD ak (al m) (al k) (al v) h
 case mapEntry t m k=>exact tU λv aX h=>Sh ak (al m) (al k) h
 case entryStore t m s v=>exact Br λaX h=>Si ak (al m) (al s) (al v) h
 case range t x=>
  split
  · rename_i s hu ab
    have aa:=al x
    rw[ab] at aa
    exact .j4 (Sn ak hu aa)
  · rename_i kt jI hu ab
    have aa:=al x
    rw[ab] at aa
    exact .j4 (So ak hu aa)
  · rename_i kt jI m hu ab
    have aa:=al x
    rw[ab] at aa
    split
    · rename_i es c yz
      obtain⟨i,af,aD⟩:=aa
      obtain⟨ents,aA,ax⟩:=ak.rel _ _ i yz af
      obtain⟨r1,r2⟩:=ak.alloc (.mapIter (some m) c [] c) (.mapIter (some i.bo) c #[] c) 0 ⟨rfl,i,ak.oV _ _ _ af,World.heap_alloc_new _ _⟩
      refine .j4 ⟨_,_,.pointer (some ⟨w.heap.size,0,none⟩),?_,⟨_,gI _ _ _,rfl⟩,r1,r2⟩
      have je:(getObj i.bo).run P w=.ok (.map ⟨ents⟩ c) w:=by simp[getObj,Sem.run,aA]
      rw[aD]
      simp only[Instr.range,Sem.run_bind,b4 hu,Result.andThen_ok,je,Sem.run_pure,run_newObj]
      rfl
    · trivial
  · trivial
 case next it isStr=>exact tU λv aX h=>Sr ak (al it) h
 case entry it=>exact su λv h=>Su ak (al it) h
 case typeAssert x xT as ok=>
  have aa:=al x
  split
  · trivial
  · rename_i d ea hu ab
    obtain⟨t1,_,_⟩:=JQ (P:=P) (w:=w) (xT:=xT) (ok:=ok) hu (λm e=>ea m (e▸rfl)) aa
    split
    · rename_i dq
      split
      · rename_i z aW;exact .of_same ak (t1 z ab dq aW)
      · trivial
    · trivial
  · rename_i d t v ea hu ab
    obtain⟨_,t2,t3⟩:=JQ (P:=P) (w:=w) (xT:=xT) (ok:=ok) hu (λm e=>ea m (e▸rfl)) aa
    split
    · rename_i he;subst he;exact .of_same ak (t2 v ab)
    · rename_i cX
      split
      · rename_i dq
        split
        · rename_i z aW;exact .of_same ak (t3 t v z ab cX dq aW)
        · trivial
      · trivial
  · trivial
 case extract t i=>
  have aa:=al t
  split
  · rename_i vs ab
    rw[ab] at aa
    exact yF ak λv h=>SD aa h
  · trivial
 case call c=>exact SU ak al c type
 case go=>trivial
 case defer c=>
  split
  · rename_i f hf
    split
    · rename_i k first aV ab
      have aa:=al f
      rw[ab] at aa
      obtain⟨b0,cs,_,av,aG⟩:=JX (P:=P) (w:=w) aa (Bs al c.args)
      refine⟨_,?_,.call k _ cs _ av⟩
      simp only[resolve,hf,Sem.run_bind]
      have yI:(Deferred.ofValue (cD f) (c.args.map cD)).run P w=.ok {target:=.fn (.func k) ⟨cs⟩,args:=⟨b0++(c.args.map cD).toList⟩} w:=aG
      rw[yI];rfl
    · trivial
  · trivial
 case panic x=>
  have aa:=al x
  split
  · rename_i t v ab
    rw[ab] at aa
    obtain⟨y,aU,aD⟩:=aa
    refine⟨rfl,.iface t y,?_,⟨y,rfl,aD⟩⟩
    rw[aU];rfl
  · trivial
 all_goals trivial
end
end bt
namespace bt
open Go
section
variable {P:Program} {μ:bz} {w:World}
def sw(P:Program)(μ:bz)(w:World)(s:Sem Value)(e:TypeId)(cs:List I)(val:Addr->Value):Prop:=
 ∃us:List Value,cm μ cs us/\s.run P w=.ok (val ⟨w.heap.size,0,none⟩) (w.alloc (.cells ⟨us⟩ e))
theorem J0(el:TypeId)(us:List Value):(_root_.Go.newRow el ⟨us⟩).run P w=.ok ⟨w.heap.size,0,none⟩ (w.alloc (.cells ⟨us⟩ el)):=by simp[_root_.Go.newRow]
theorem SX{e:TypeId}{z:I}(aW:ev P e=some z):sw P μ w (Instr.alloc e true (.tuple #[])) e z.cells (λa=>.pointer (some a)):=by
 obtain⟨v,aD,rfl,ae⟩:=my (w:=w) aW
 refine⟨v.cells.toList,(kD μ v).cells ae,?_⟩
 simp[Instr.alloc,aD,newVar,_root_.Go.newRow]
theorem SY{e:TypeId}{x:I}{v:Value}(aD:bp μ x v)(ae:x≠ .bad):sw P μ w (Instr.box e v) e x.cells (λa=>.pointer (some a)):=by
 refine⟨v.cells.toList,aD.cells ae,?_⟩
 simp[Instr.box,newVar,_root_.Go.newRow]
theorem SZ(g:Operand->I)(cD:Operand->Value)(al:∀x,bp μ (g x) (cD x)){t e:TypeId}{len sz:Nat}{z:I}(hu:P.underlying t=some (.slice e))(hs:dx P e=some sz)
  (aW:ev P e=some z)(hle:len*sz<=16777216)(n9:z.cells.length=sz)(parts:Array (Nat×Operand)){cs:List I}
  (hf:kh (λi=>some (i*sz,sz)) (if len*sz=0 then[] else fs len z.cells) (parts.toList.map λp=>(p.1,g p.2))=some cs):
  sw P μ w (Instr.buildSlice t len (parts.map λ(i,x)=>(i,cD x))) e cs (λa=>.slice (some a) len len):=by
 obtain⟨v,aD,rfl,ae⟩:=my (w:=w) aW
 have ag:=(kD μ v).cells ae
 have yh:¬(len*sz>2^24):=by omega
 have key:∀zero:Array Value,cm μ (if len*sz=0 then[] else fs len (oP v).cells) ((Array.range (len*sz)).map (λi=>zero[i %zero.size]!)).toList->
   (∀r:Result Value,r=(match Instr.fill (λi=>some (i*sz,sz)) ((Array.range (len*sz)).map (λi=>zero[i %zero.size]!)) (parts.toList.map λp=>(p.1,cD p.2)) with
    |some cells=>do pure (.slice (some (<-_root_.Go.newRow e cells)) len len)
    |none=>stuck "buildSlice: a part of the wrong size" :Sem Value).run P w->(Instr.buildSlice t len (parts.map λ(i,x)=>(i,cD x))).run P w=r)->
   sw P μ w (Instr.buildSlice t len (parts.map λ(i,x)=>(i,cD x))) e cs (λa=>.slice (some a) len len):=by
  intro zero qX e6
  obtain⟨c',aa,ad⟩:=ye _ g cD al parts.toList _ cs _ qX hf
  refine⟨c',ad,e6 _ ?_⟩
  rw[aa]
  simp[J0]
 by_cases h0:len*sz=0
 · refine key #[] (by rw[if_pos h0,h0];simp[cm]) λr aj=>?_
   rw[aj]
   simp only[Instr.buildSlice,Sem.run_bind,b4 hu,Result.andThen_ok,run_sizeOf hs,if_neg yh,if_pos h0,Sem.run_pure,Array.toList_map]
   generalize Instr.fill _ _ _=F
   cases F<;>rfl
 · refine key v.cells (by rw[if_neg h0];exact yg ag n9 len) λr aj=>?_
   rw[aj]
   simp only[Instr.buildSlice,Sem.run_bind,b4 hu,Result.andThen_ok,run_sizeOf hs,if_neg yh,if_neg h0,Sem.run_pure,Array.toList_map,aD]
   generalize Instr.fill _ _ _=F
   cases F<;>rfl
theorem S0{t e:TypeId}{l c:Nat}{i:TypeInfo}{z:I}{kl kc:IntKind}(hu:P.underlying t=some (.slice e))(af:P.info? e=some i)(aW:ev P e=some z)(sf:l<=c)
  (vP:c*(i.bytes+1)<=1099511627776)(n9:z.cells.length=i.size):
  sw P μ w (Instr.makeSlice t (.int kl l) (.int kc c)) e (if c*i.size=0 then[] else fs c z.cells) (λa=>.slice (some a) l c):=by
 obtain⟨v,aD,rfl,ae⟩:=my (w:=w) aW
 have ag:=(kD μ v).cells ae
 have sh:c<=1099511627776:=Nat.le_trans (Nat.le_mul_of_pos_right c (by omega)) vP
 have mz:i.bytes*c<=1099511627776:=by
  have:c*i.bytes<=c*(i.bytes+1):=Nat.mul_le_mul_left c (by omega)
  rw[Nat.mul_comm];omega
 have yi:∀n:Nat,n<=1099511627776->IntKind.wrap .i64 (n:Int)=(n:Int):=λn aN=>sg n (by omega)
 have ll:=yi l (by omega)
 have yj:=yi c sh
 have tI:¬((c:Int)<0||(i.bytes:Int)*(c:Int)>2^48||(l:Int)<0||(l:Int)>(c:Int))=true:=by
  have aa:((i.bytes:Int)*(c:Int))<=1099511627776:=by
   have h0:((i.bytes*c:Nat):Int)<=1099511627776:=by omega
   rw[Int.natCast_mul] at h0;exact h0
  have ad:(2:Int)^48=281474976710656:=by rfl
  generalize (i.bytes:Int)*(c:Int)=q at aa⊢
  rw[ad]
  simp only[Bool.or_eq_true,decide_eq_true_eq]
  omega
 have key:∀zero:Array Value,cm μ (if c*i.size=0 then[] else fs c (oP v).cells) ((Array.range (c*i.size)).map (λj=>zero[j %zero.size]!)).toList->
   (Instr.makeSlice t (.int kl l) (.int kc c)).run P w=(do let a<-_root_.Go.newRow e ((Array.range (c*i.size)).map (λj=>zero[j %zero.size]!));pure (.slice (some a) l c):Sem Value).run P w->
   sw P μ w (Instr.makeSlice t (.int kl l) (.int kc c)) e (if c*i.size=0 then[] else fs c (oP v).cells) (λa=>.slice (some a) l c):=by
  intro zero qX e6
  refine⟨_,qX,?_⟩
  rw[e6]
  simp only[Sem.run_bind,Sem.run_pure]
  have aE:=J0 (P:=P) (w:=w) e ((Array.range (c*i.size)).map (λj=>zero[j %zero.size]!)).toList
  have:(⟨((Array.range (c*i.size)).map (λj=>zero[j %zero.size]!)).toList⟩:Array Value)=((Array.range (c*i.size)).map (λj=>zero[j %zero.size]!)):=rfl
  rw[this] at aE
  rw[aE];rfl
 have bA:(_root_.Go.sizeOf e).run P w=.ok i.size w:=by simp[_root_.Go.sizeOf,run_typeInfo af]
 by_cases h0:c*i.size=0
 · refine key #[] (by rw[if_pos h0,h0];simp[cm]) ?_
   simp only[Instr.makeSlice,Sem.run_bind,b4 hu,Result.andThen_ok,asInt,asIntOf,Sem.run_pure,run_typeInfo af,ll,yj]
   rw[if_neg tI]
   simp[bA,h0]
 · refine key v.cells (by rw[if_neg h0];exact yg ag n9 c) ?_
   simp only[Instr.makeSlice,Sem.run_bind,b4 hu,Result.andThen_ok,asInt,asIntOf,Sem.run_pure,run_typeInfo af,ll,yj]
   rw[if_neg tI]
   simp[bA,h0,aD]
structure Laid(P:Program)(μ:bz)(w:World)(s:Sem Next)(b:Nat)(v:I)(ob:dr)(u:Value)(X:Obj)(sz:Nat):Prop where
 run:s.run P w=.ok (.value u) (w.alloc X)
 val:∀a0,fi μ a0->a0 b=some ⟨w.heap.size,0,sz⟩->bp a0 v u
 obj:∀a0 w',fi μ a0->w'.heap[w.heap.size]? =some X->pW a0 ob ⟨w.heap.size,0,sz⟩ w'
 ro:ob.pX=false
theorem sw.laid{s:Sem Value}{e:TypeId}{cs:List I}{val:Addr->Value}(h:sw P μ w s e cs val){b:Nat}{v:I}(aD:∀a0 sz,a0 b=some ⟨w.heap.size,0,sz⟩->bp a0 v (val ⟨w.heap.size,0,none⟩)):
  ∃u X sz,Laid P μ w (do pure (.value (<-s))) b v (.cells cs e .own 0 0) u X sz:=by
 obtain⟨us,aa,ad⟩:=h
 refine⟨_,.cells ⟨us⟩ e,us.length,by simp[ad],λa0 _ hm=>aD a0 _ hm,λa0 w' hle bE=>?_,rfl⟩
 exact⟨⟨us⟩,0,0,bE,λj v aK=>by
  obtain⟨u,hu,aj⟩:=aa.get aK
  exact⟨u,by simpa using hu,aj.mono hle⟩,by simp,rfl,aa.length.symm,rfl,rfl⟩
theorem S1(o:Oper){g:Operand->I}{cD:Operand->Value}(al:∀x,bp μ (g x) (cD x)){b:Nat}{v:I}{ob:dr}(h:kC P o.op g b=some (v,ob)):
  ∃u X sz,Laid P μ w (execOp cD o) b v ob u X sz:=by
 obtain⟨dst,op,type,pos,after,guard⟩:=o
 cases op<;>simp only[kC] at h<;>try (cases h;done)
 case alloc e=>
  split at h
  · rename_i z aW
    split at h
    · cases h
      exact(SX aW).laid λa0 sz hm=>⟨_,hm,rfl⟩
    · cases h
  · cases h
 case box e x=>
  split at h
  · rename_i eB
    cases h
    have ae:g x≠ .bad:=by intro e;rw[e] at eB;simp[I.cells,I.cO] at eB
    exact(SY (al x) ae).laid λa0 sz hm=>⟨_,hm,rfl⟩
  · cases h
 case buildSlice t len parts=>
  split at h
  · rename_i e hu
    split at h
    · rename_i sz z hs aW
      split at h
      · rename_i cs ag hf
        rw[Bool.and_eq_true,Nat.ble_eq,Nat.beq_eq] at ag
        split at h
        · cases h
          exact(SZ g cD al hu hs aW ag.1 ag.2 parts hf).laid λa0 sz hm=>⟨_,hm,rfl⟩
        · cases h
      · cases h
    · cases h
  · cases h
 case makeMap t r=>
  cases r with
  |some x=>cases h
  |none=>
   cases h
   exact⟨.map (some w.heap.size),.map #[] 0,0,rfl,λa0 _ hm=>⟨_,hm,rfl⟩,λa0 w' _ bE=>⟨[],bE,rfl⟩,rfl⟩
 case makeSlice t l c=>
  split at h
  · rename_i e oZ c' hu aw ag
    obtain⟨kl,el⟩:=sv aw (al l)
    obtain⟨kc,yH⟩:=sv ag (al c)
    split at h
    · rename_i i z af aW
      split at h
      · rename_i cs kT
        split at h
        · cases h
          rw[Bool.and_eq_true,Bool.and_eq_true,Nat.ble_eq,Nat.beq_eq,decide_eq_true_eq] at kT
          have:=(S0 (P:=P) (μ:=μ) (w:=w) (kl:=kl) (kc:=kc) hu af aW kT.1.1 kT.1.2 kT.2).laid (b:=b) (v:=.slice b 0 oZ (.exact c')) λa0 sz hm=>⟨_,hm,rfl⟩
          simp only[execOp,el,yH]
          exact this
        · cases h
      · cases h
    · cases h
  · cases h
end
end bt
namespace bt
open Go
def hG(P:Program)(μ:bz):Prop:=∀g,g<P.globals.size->∃i,μ g=some i/\i.bo=g/\i.base=0
theorem hG.mono{P:Program}{μ a0:bz}(h:hG P μ)(hle:fi μ a0):hG P a0:=λg al=>let⟨i,aa,ad⟩:=h g al;⟨i,hle _ _ aa,ad⟩
def Ends(μ:bz)(H:J)(w:World):a9->Ending->World->Prop
 |.ret v aX,e,w'=>∃a0 u,e=.returned u/\bp a0 v u/\bB a0 aX w'/\cg μ H w a0 aX w'
 |.ca v aX,e,w'=>∃a0 u,e=.panicked [{v:=u,recovered:=false}]/\bp a0 v u/\bB a0 aX w'/\cg μ H w a0 aX w'
 |.fail _,_,_=>True
def a9.lq:a9->Bool
 |.fail _=>false
 |_=>true
def tV(P:Program)(f:FuncId)(vs:List Value)(w:World)(R:Ending->World->Prop):Prop:=
 (∃v w',(callFunc f ⟨vs⟩).run P w=.ok (.value v) w'/\R (.returned v) w')\/
 ((callFunc f ⟨vs⟩).run P w=.ok (.enter f ⟨vs⟩) w/\Calls P f ⟨vs⟩ w R)
def sx(P:Program)(m:Machine)(c:Frame)(cs:List Frame)(R:Ending->World->Prop):Prop:=
 ∃e w',R e w'/\match e with
  |.returned v=>Steps P m (lone (c.finish v) cs w')
  |.panicked chain=>Steps P m (lone (c.raise chain) cs w')
  |.outgrown=>False
def J1(P:Program)(l:Nat)(vs:List Value)(w:World)(R:Ending->World->Prop):Prop:=
 ∃f tmps assign body,(Instr.yield l ⟨vs⟩).run P w=.ok (.round l f tmps assign body) w/\∀c cs,sx P (lone (Frame.round l f tmps assign body .normal) (c::cs) w) c cs R
structure jM(P:Program)(call:eJ->List I->J->a9):Prop where
 fn:∀f args H,(call (.fn f) args H).lq=true->∀μ w (vs:List Value),bB μ H w->hG P μ->cm μ args vs->tV P f vs w (Ends μ H w (call (.fn f) args H))
 dt:∀l args H,(call (.dt l) args H).lq=true->∀μ w i (vs:List Value),bB μ H w->hG P μ->μ l=some i->cm μ args vs->J1 P i.bo vs w (Ends μ H w (call (.dt l) args H))
theorem sx.of_steps{P:Program}{m a5:Machine}{c:Frame}{cs:List Frame}{R:Ending->World->Prop}(h:Steps P m a5)(an:sx P a5 c cs R):sx P m c cs R:=by
 obtain⟨e,w',aj,hs⟩:=an
 refine⟨e,w',aj,?_⟩
 cases e with
 |returned v=>exact h.trans hs
 |panicked vV=>exact h.trans hs
 |outgrown=>exact hs.elim
theorem J2{P:Program}{f:FuncId}{args:Array Value}{w:World}{R:Ending->World->Prop}(ei:∀w',¬R .outgrown w')(h:Calls P f args w R)(c:Frame)(cs:List Frame):
  sx P (lone (Frame.enter P f args .normal) (c::cs) w) c cs R:=by
 obtain⟨e,w',dj,aj,ag,_,aw⟩:=h (c::cs)
 refine⟨e,w',aj,?_⟩
 cases e with
 |returned v=>exact Steps.trans ag (.one (step_leave_returned aw))
 |panicked vV=>exact Steps.trans ag (.one (step_leave_panicked aw))
 |outgrown=>exact(ei _ aj).elim
def hU(μ:bz)(kind:CallKind)(cs0:List Frame):bL->List Frame->Prop
 |.none,cs=>cs=cs0/\∀dj:Frame,dj.kind=kind->tryRecover dj cs0=none
 |.act v,cs=>cs=cs0/\kind=.deferred/\∃c rest u,cs0=c::rest/\c.mode=.panicking [{v:=u,recovered:=false}]/\bp μ v u
 |.done v,cs=>kind=.deferred/\∃c rest u,cs0=c::rest/\c.mode=.panicking [{v:=u,recovered:=false}]/\bp μ v u/\cs={c with mode:=.panicking [{v:=u,recovered:=true}]}::rest
theorem hU.mono{μ a0:bz}(hle:fi μ a0){kind:CallKind}{cs0 cs:List Frame}{q:bL}(h:hU μ kind cs0 q cs):hU a0 kind cs0 q cs:=by
 cases q with
 |none=>exact h
 |act v=>obtain⟨aa,ad,c,rest,u,av,aG,bI⟩:=h;exact⟨aa,ad,c,rest,u,av,aG,bI.mono hle⟩
 |done v=>obtain⟨aa,c,rest,u,av,aG,bI,cq⟩:=h;exact⟨aa,c,rest,u,av,aG,bI.mono hle,cq⟩
section
variable {P:Program} {μ:bz} {H:J} {w:World}
theorem Bt{b:Frame}{a:Act}{ops:Array Oper}{i:Nat}{rest:List Nat}{k:List Item}{cs:List Frame}{s:Sem Next}
  (cA:stepG P true {frame:=b.atR a (.inRegion ops (i::rest)::k),callers:=cs,status:=.running,dying:=none} w=stepG.apply P true (b.atR a (.inRegion ops (i::rest)::k)) cs none s w):
  (∀v w',s.run P w=.ok (.value v) w'->Steps P (lone (b.atR a (.inRegion ops (i::rest)::k)) cs w) (lone ((b.atR a (.inRegion ops (i::rest)::k)).finish v) cs w'))/\
  (∀w',s.run P w=.ok .skip w'->Steps P (lone (b.atR a (.inRegion ops (i::rest)::k)) cs w) (lone ((b.atR a (.inRegion ops (i::rest)::k)).finish undef) cs w'))/\
  (∀u w',s.run P w=.halt (.panic u) w'->Steps P (lone (b.atR a (.inRegion ops (i::rest)::k)) cs w) (lone ((b.atR a (.inRegion ops (i::rest)::k)).raise [{v:=u,recovered:=false}]) cs w'))/\
  (∀d w',s.run P w=.ok (.defer d) w'->Steps P (lone (b.atR a (.inRegion ops (i::rest)::k)) cs w) (lone (b.atR ({a with defers:=d::a.defers}.put ((ops[i]?).bind (·.dst)) undef) (.inRegion ops rest::k)) cs w'))/\
  (∀f args w',s.run P w=.ok (.enter f args) w'->Steps P (lone (b.atR a (.inRegion ops (i::rest)::k)) cs w) (lone (Frame.enter P f args .normal) (b.atR a (.inRegion ops (i::rest)::k)::cs) w'))/\
  (∀l f tmps assign body w',s.run P w=.ok (.round l f tmps assign body) w'->Steps P (lone (b.atR a (.inRegion ops (i::rest)::k)) cs w) (lone (Frame.round l f tmps assign body .normal) (b.atR a (.inRegion ops (i::rest)::k)::cs) w'))/\
  (b.roundOf=none->∀w',s.run P w=.ok .recover w'->∀v bT,tryRecover (b.atR a (.inRegion ops (i::rest)::k)) cs=some (v,bT)->Steps P (lone (b.atR a (.inRegion ops (i::rest)::k)) cs w) (lone ((b.atR a (.inRegion ops (i::rest)::k)).finish v) bT w'))/\
  (b.roundOf=none->∀w',s.run P w=.ok .recover w'->tryRecover (b.atR a (.inRegion ops (i::rest)::k)) cs=none->Steps P (lone (b.atR a (.inRegion ops (i::rest)::k)) cs w) (lone ((b.atR a (.inRegion ops (i::rest)::k)).finish .nilIface) cs w')):=by
 refine⟨λv w' aj=>.one (step_lone_go ?_),λw' aj=>.one (step_lone_go ?_),λu w' aj=>.one (step_lone_go ?_),λd w' aj=>.one (step_lone_go ?_),λf args w' aj=>.one (step_lone_go ?_),λl f tmps assign body w' aj=>.one (step_lone_go ?_),λae w' aj v bT bc=>.one (step_lone_go ?_),λae w' aj bc=>.one (step_lone_go ?_)⟩
 · rw[cA];simp[stepG.apply,aj]
 · rw[cA];simp[stepG.apply,aj]
 · rw[cA];simp[stepG.apply,aj]
 · rw[cA]
   have:=Frame.finish_atR b {a with defers:=d::a.defers} ops i rest k undef
   simp only[stepG.apply,Sem.runT_eq,aj,GStep.bare_after]
   exact congrArg (λdj=>GStep.go {frame:=dj,callers:=cs,status:=.running,dying:=none} w') this
 · rw[cA];simp[stepG.apply,aj,Frame.atR]
 · rw[cA];simp[stepG.apply,aj,Frame.atR]
 · rw[cA]
   have j1:(b.atR a (.inRegion ops (i::rest)::k)).roundOf=none:=ae
   simp[stepG.apply,aj,j1,bc]
 · rw[cA]
   have j1:(b.atR a (.inRegion ops (i::rest)::k)).roundOf=none:=ae
   simp[stepG.apply,aj,j1,bc]
def EH(P:Program)(μ:bz)(H:J)(w:World)(b:Frame)(a:Act)(ops:Array Oper)(o:Oper)(i:Nat)(rest:List Nat)(k:List Item)(cs0 cs:List Frame):x2->Prop
 |.ok v bh bn aX=>∃a0 w' u tW bT,Steps P (lone (b.atR a (.inRegion ops (i::rest)::k)) cs w) (lone (b.atR {tmps:=(a.put o.dst u).tmps,defers:=tW} (.inRegion ops rest::k)) bT w')/\
   bp a0 v u/\bB a0 aX w'/\cg μ H w a0 aX w'/\gE a0 bh tW/\hU a0 b.kind cs0 bn bT
 |.ca v bh bn aX=>∃a0 w' u,Steps P (lone (b.atR a (.inRegion ops (i::rest)::k)) cs w) (lone {b.atR a (.inRegion ops (i::rest)::k) with mode:=.panicking [{v:=u,recovered:=false}]} cs w')/\
   bp a0 v u/\bB a0 aX w'/\cg μ H w a0 aX w'/\gE a0 bh a.defers/\hU a0 b.kind cs0 bn cs
 |.fail _=>True
theorem put_defers(a:Act)(dst:Option Tmp)(u:Value):(a.put dst u).defers=a.defers:=by cases dst<;>rfl
theorem Bu(a:Act)(dst:Option Tmp)(u:Value):a.put dst u={tmps:=(a.put dst u).tmps,defers:=a.defers}:=by cases dst<;>rfl
theorem S2(a:Act)(ds:List Deferred)(dst:Option Tmp)(u:Value):({a with defers:=ds}:Act).put dst u={tmps:=(a.put dst u).tmps,defers:=ds}:=by cases dst<;>rfl
theorem J3{b:Frame}{a:Act}{ops:Array Oper}{o:Oper}{i:Nat}{rest:List Nat}{k:List Item}{cs0 cs:List Frame}(aY:ops[i]? =some o){d:List bZ}{q:bL}
  (ao:gE μ d a.defers)(aJ:hU μ b.kind cs0 q cs){r:a9}{m:Machine}(hs:Steps P (lone (b.atR a (.inRegion ops (i::rest)::k)) cs w) m)
  (aw:sx P m (b.atR a (.inRegion ops (i::rest)::k)) cs (Ends μ H w r)):EH P μ H w b a ops o i rest k cs0 cs (x3 d q r):=by
 obtain⟨e,w',aj,cA⟩:=aw
 cases r with
 |ret v aX=>
  obtain⟨a0,u,rfl,aa,ad,av⟩:=aj
  refine⟨a0,w',u,a.defers,cs,hs.trans ?_,aa,ad,av,ao.mono av.le,aJ.mono av.le⟩
  have:(b.atR a (.inRegion ops (i::rest)::k)).finish u=b.atR {tmps:=(a.put o.dst u).tmps,defers:=a.defers} (.inRegion ops rest::k):=by
   rw[Frame.finish_atR,aY,<-Bu];rfl
  rw[<-this];exact cA
 |ca v aX=>
  obtain⟨a0,u,rfl,aa,ad,av⟩:=aj
  exact⟨a0,w',u,hs.trans cA,aa,ad,av,ao.mono av.le,aJ.mono av.le⟩
 |fail w=>trivial
theorem Bv{r:a9}(h:r.lq=false):∃s,r=.fail s:=by
 cases r with
 |fail s=>exact⟨s,rfl⟩
 |_=>cases h
theorem Bw{r:a9}(al:r.lq=true):∀w',¬Ends μ H w r .outgrown w':=by
 intro w' h
 cases r with
 |ret v aX=>obtain⟨_,_,e,_⟩:=h;cases e
 |ca v aX=>obtain⟨_,_,e,_⟩:=h;cases e
 |fail s=>cases al
theorem J4{call:eJ->List I->J->a9}(ag:jM P call)(ak:bB μ H w)(nk:hG P μ){b:Frame}{a:Act}{ops:Array Oper}{o:Oper}{i:Nat}{rest:List Nat}{k:List Item}{cs0 cs:List Frame}
  (aY:ops[i]? =some o){gd:Option (I×Bool)}(gK:∀p8,eK gd=some p8->Region.wanted o (yielded ops a.tmps)=p8){g:Operand->I}(al:∀x,bp μ (g x) (a.eval x)){d:List bZ}{q:bL}
  (ao:gE μ d a.defers)(aJ:hU μ b.kind cs0 q cs){inR:Bool}(ft:inR=b.roundOf.isSome):EH P μ H w b a ops o i rest k cs0 cs (dV P inR call gd o g d q H):=by
 unfold dV
 have nn:∀u,(b.atR a (.inRegion ops (i::rest)::k)).finish u=b.atR {tmps:=(a.put o.dst u).tmps,defers:=a.defers} (.inRegion ops rest::k):=λu=>by
  rw[Frame.finish_atR,aY,<-Bu];rfl
 split
 · trivial
 · rename_i hw
   have yJ:=gK _ hw
   refine⟨μ,w,undef,a.defers,cs,?_,⟨[],rfl,rfl⟩,ak,cg.refl _ _ _,ao,aJ⟩
   have hs:=stepR_op_skip (P:=P) (b:=b) (a:=a) (k:=k) (cs:=cs) (w:=w) (ops:=ops) (i:=i) (rest:=rest) (by simp[aY,yJ])
   rw[aY] at hs
   have he:a.put ((some o).bind (·.dst)) undef={tmps:=(a.put o.dst undef).tmps,defers:=a.defers}:=Bu a o.dst undef
   rw[he] at hs
   exact .one hs
 · rename_i hw
   have EI:=gK _ hw
   have cA:=stepGR_op (P:=P) (b:=b) (a:=a) (k:=k) (cs:=cs) (w:=w) (rest:=rest) aY EI
   have eV:=SW (P:=P) ak o al
   by_cases J5:b.roundOf.isSome=true/\∃c,o.op=.defer c
   · obtain⟨aj,c,S3⟩:=J5
     have:(∃x,cP P o g H=.lT x)\/∃s,cP P o g H=.fail s:=by
      unfold cP
      rw[S3]
      simp only
      split
      · split
        · exact .inl ⟨_,rfl⟩
        · exact .inr ⟨_,rfl⟩
      · exact .inr ⟨_,rfl⟩
     rcases this with⟨x,e⟩|⟨s,e⟩
     · rw[e];simp only[ft,aj,if_true];trivial
     · rw[e];trivial
   · have tX:o.semAt b.roundOf a.eval=execOp a.eval o:=by
       cases gi:b.roundOf with
       |none=>rfl
       |some l=>exact Oper.semAt_eq _ _ _ λc e=>J5 ⟨by rw[gi];rfl,c,e⟩
     rw[tX] at cA
     obtain⟨ai,au,ay,bg,bF,dk,dX,fJ⟩:=Bt cA
     cases fA:cP P o g H with
     |val v aX=>
      rw[fA] at eV
      obtain⟨a0,w',u,aj,aa,ad,av⟩:=eV
      refine⟨a0,w',u,a.defers,cs,?_,aa,ad,av,ao.mono av.le,aJ.mono av.le⟩
      rw[<-nn]
      rcases aj with aj|⟨rfl,aj⟩
      · exact ai _ _ aj
      · exact au _ aj
     |ca v aX=>
      rw[fA] at eV
      obtain⟨rfl,u,aj,aa⟩:=eV
      exact⟨μ,w,u,ay _ _ aj,aa,ak,cg.refl _ _ _,ao,aJ⟩
     |call f args aX=>
      rw[fA] at eV
      obtain⟨rfl,vs,aj,aa⟩:=eV
      simp only
      cases cb:(call (.fn f) args aX).lq with
      |false=>obtain⟨s,hs⟩:=Bv cb;rw[hs];trivial
      |true=>
       rcases ag.fn f args aX cb μ w vs ak nk aa with⟨v,w',ba,a1⟩|⟨ba,a1⟩
       · rw[<-aj] at ba
         have hs:=ai _ _ ba
         cases EJ:call (.fn f) args aX with
         |fail s=>trivial
         |ret v' aM=>
          rw[EJ] at a1
          obtain⟨a0,u,e,ad,av,aG⟩:=a1
          cases e
          exact⟨a0,w',_,a.defers,cs,by rw[<-nn];exact hs,ad,av,aG,ao.mono aG.le,aJ.mono aG.le⟩
         |ca v' aM=>
          rw[EJ] at a1
          obtain⟨a0,u,e,ad,av,aG⟩:=a1
          cases e
       · rw[<-aj] at ba
         have hs:=bF _ _ _ ba
         exact J3 aY ao aJ hs (J2 (Bw cb) a1 _ _)
     |dt l args aX=>
      rw[fA] at eV
      obtain⟨rfl,eC,vs,aw,aj,aa⟩:=eV
      simp only
      cases cb:(call (.dt l) args aX).lq with
      |false=>obtain⟨s,hs⟩:=Bv cb;rw[hs];trivial
      |true=>
       obtain⟨f,tmps,as,cy,ba,a1⟩:=ag.dt l args aX cb μ w eC vs ak nk aw aa
       rw[<-aj] at ba
       have hs:=dk _ _ _ _ _ _ ba
       exact J3 aY ao aJ hs (a1 _ _)
     |lT x=>
      rw[fA] at eV
      obtain⟨ss,aj,aa⟩:=eV
      simp only
      split
      · trivial
      · refine⟨μ,w,undef,ss::a.defers,cs,?_,⟨[],rfl,rfl⟩,ak,cg.refl _ _ _,⟨_,_,rfl,aa,ao⟩,aJ⟩
        have hs:=bg _ _ aj
        rw[aY] at hs
        have he:({a with defers:=ss::a.defers}:Act).put ((some o).bind (·.dst)) undef={tmps:=(a.put o.dst undef).tmps,defers:=ss::a.defers}:=S2 a _ o.dst undef
        rw[he] at hs
        exact hs
     |tx=>
      rw[fA] at eV
      have aj:(execOp a.eval o).run P w=.ok .recover w:=eV
      simp only
      split
      · trivial
      · rename_i Bd
        have yK:b.roundOf=none:=by
         cases gi:b.roundOf with
         |none=>rfl
         |some l=>rw[gi] at ft;exact absurd ft Bd
        have aq:(b.atR a (.inRegion ops (i::rest)::k)).kind=b.kind:=rfl
        split
        · obtain⟨rfl,bc⟩:=aJ
          refine⟨μ,w,.nilIface,a.defers,cs,?_,rfl,ak,cg.refl _ _ _,ao,⟨rfl,bc⟩⟩
          rw[<-nn]
          exact fJ yK _ aj (bc _ aq)
        · have tY:=aJ
          obtain⟨np,c,rs,u,aA,ax,bD,rfl⟩:=aJ
          refine⟨μ,w,.nilIface,a.defers,_,?_,rfl,ak,cg.refl _ _ _,ao,tY⟩
          rw[<-nn]
          refine fJ yK _ aj ?_
          have yL:(b.atR a (.inRegion ops (i::rest)::k)).kind=.deferred:=aq.trans np
          simp only[tryRecover,yL]
        · obtain⟨rfl,np,c,rs,u,aA,ax,bD⟩:=aJ
          subst aA
          refine⟨μ,w,u,a.defers,{c with mode:=.panicking [{v:=u,recovered:=true}]}::rs,?_,bD,ak,cg.refl _ _ _,ao,⟨np,c,rs,u,rfl,ax,bD,rfl⟩⟩
          rw[<-nn]
          refine dX yK _ aj _ _ ?_
          have yL:(b.atR a (.inRegion ops (i::rest)::k)).kind=.deferred:=aq.trans np
          simp only[tryRecover,yL,ax]
     |fail s=>trivial
end
end bt
