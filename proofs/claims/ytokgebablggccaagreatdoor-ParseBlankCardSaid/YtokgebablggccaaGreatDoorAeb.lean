/-
  THE ABSTRACT EVALUATOR (operations): a deterministic semantics of loaded code, and the proof that its runs are runs of the program in the model, whatever the tape draws. No condition.
-/
import Derived.Test.YtokgebablggccaaGreatDoorAea
import Derived.ChangeKeysEq
import Derived.Laws.StructEq
import Derived.AtR
set_option linter.unusedVariables false
set_option linter.unusedSimpArgs false
namespace aJ
open Go
section
variable {P:Program} {μ:bG} {H:I} {w:World}
theorem Fq{b off n:Nat}{cs:List aa}(h:loadCells H b off n=some cs):cs.length=n:=by
 unfold loadCells at h
 split at h
 · obtain⟨J,rfl⟩:=xL _ _ _ h
   simp;omega
 · cases h
theorem Fs:∀l:List UInt8,(cC l).length=l.length
 |[]=>rfl
 |_::l=>by simp[cC,Fs l]
theorem Oa{size n:Nat}{x:aa}{cs:List aa}(h:jr H size x=some (n,cs)):cs.length=n*size:=by
 cases x<;>simp only[jr] at h<;>try cases h
 · split at h<;>cases h
   rw[Fs];simp
 · simp
 · rename_i b off len cap
   cases cap with
   |dead=>
    simp only at h
    split at h
    · cases h;simp
    · cases h
   |exact c=>
    simp only at h
    split at h
    · rename_i cq aA;cases h;exact Fq aA
    · cases h
   |aX h3=>
    simp only at h
    split at h
    · rename_i cq aA;cases h;exact Fq aA
    · cases h
theorem W5(ar:bI μ H w){argTypes:Array TypeId}{ty sT:TypeId}(h0:argTypes[0]? =some sT){s x:aa}{q6 bK:Value}(ah:bq μ s q6)(ab:bq μ x bK){v:aa}{a7:I}
  (h:fi P H sT argTypes[1]? s x=some (v,a7)):gT P μ H w (Builtin.append_ argTypes ty #[q6,bK]) v a7:=by
 unfold fi at h
 split at h
 · rename_i e hu hk
   split at h
   · rename_i i z hi bm
     split at h
     · cases h
     · rename_i n cs hF
       obtain⟨aA,us,pb,oo⟩:=Fl (P:=P) ar ab hF
       have kj:=Oa hF
       cases s<;>(try simp only at h)<;>try cases h
       ·
        cases ah
        cases n with
        |zero=>
         cases h
         have:=Cc (P:=P) (ty:=ty) h0 rfl hu hk hi (base:=none) (sLen:=0) (sCap:=0) aA pb (by omega)
         exact .same ar this rfl
        |succ n=>
         have aB:r1 H e i.bytes i.size (0+(n+1)) z ([]++cs) 0=some (v,a7):=by simpa using h
         exact IU ar h0 rfl hu hk hi bm ab hF (old:=[]) ⟨[],rfl,rfl⟩ (by simp) kj (by omega) ar (cD.refl _ _ _) aB
       · rename_i b off len cap
         obtain⟨fA,k3,ak⟩:=ah
         cases cap with
         |dead=>cases h
         |exact cap=>
          cases ak
          simp only at h
          split at h
          · rename_i hle
            have hle:=Nat.le_of_ble_eq_true hle
            have aj:=Cc (P:=P) (ty:=ty) h0 rfl hu hk hi (base:=some ⟨fA.bo,fA.base+off,none⟩) (sLen:=len) (sCap:=cap) aA pb hle
            simp only[add_plain] at aj
            split at h
            · cases h
              have IV:us=[]:=by
               have J:=kj;have ae:=oo.length
               cases us with
               |nil=>rfl
               |cons a l=>simp at J ae;omega
              subst IV
              refine .same ar (v':=.slice (some ⟨fA.bo,fA.base+off,none⟩) len cap) ?_ ⟨fA,k3,rfl⟩
              rw[aj];simp[_root_.Go.storeCells]
            · split at h
              · rename_i J dp
                cases h
                obtain⟨w',aG,aE,br⟩:=B2 (P:=P) ar k3 oo dp
                refine⟨μ,w',.slice (some ⟨fA.bo,fA.base+off,none⟩) (len+n) cap,?_,⟨fA,k3,rfl⟩,aE,br⟩
                rw[aj,Nat.add_assoc,aG];rfl
              · cases h
          · rename_i hle
            have cf:cap<len+n:=by
             rcases Nat.lt_or_ge cap (len+n) with h|h
             · exact h
             · rw[Ca h] at hle;cases hle
            split at h
            · rename_i old hold
              obtain⟨os,e2,eh⟩:=vV (P:=P) ar.drew k3 hold
              exact IU ar h0 rfl hu hk hi bm ab hF (old:=old) ⟨os,by simp only[Builtin.firstCells];exact e2,eh⟩ (Fq hold) kj cf ar (cD.refl _ _ _) h
            · cases h
         |aX h3=>
          obtain⟨cap,rfl,q1,bQ⟩:=ak
          simp only at h
          split at h
          · rename_i m2
            simp only[Bool.and_eq_true,Nat.blt_eq] at m2
            have W6:=Nat.eq_of_beq_eq_true m2.1
            subst W6
            have xM:=m2.2
            split at h
            · cases h
              have aj:=Cc (P:=P) (ty:=ty) h0 rfl hu hk hi (base:=some ⟨fA.bo,fA.base+off,none⟩) (sLen:=len) (sCap:=cap) aA pb (by omega)
              simp only[add_plain] at aj
              have IV:us=[]:=by
               have J:=kj;have ae:=oo.length
               cases us with
               |nil=>rfl
               |cons a l=>simp at J ae;omega
              subst IV
              refine .same ar (v':=.slice (some ⟨fA.bo,fA.base+off,none⟩) len cap) ?_ ⟨fA,k3,cap,rfl,q1,bQ⟩
              rw[aj];simp[_root_.Go.storeCells]
            · split at h
              · rename_i old el lo e5 ag
                have W7:=ar.rel b _ fA ag k3
                obtain⟨c,fr,fs,aV,aU,bu,e7,gL⟩:=W7
                split at h
                · rename_i tf
                  have tf:=Nat.le_of_ble_eq_true tf
                  split at h
                  · rename_i J dp
                    cases h
                    have q7:len+n<=cap:=by
                     have:(len+n)*i.size<=cap*i.size:=by omega
                     exact Nat.le_of_mul_le_mul_right this xM
                    have aj:=Cc (P:=P) (ty:=ty) h0 rfl hu hk hi (base:=some ⟨fA.bo,fA.base+off,none⟩) (sLen:=len) (sCap:=cap) aA pb q7
                    simp only[add_plain] at aj
                    obtain⟨w',aG,aE,br⟩:=B2 (P:=P) ar k3 oo dp
                    refine⟨μ,w',.slice (some ⟨fA.bo,fA.base+off,none⟩) (len+n) cap,?_,⟨fA,k3,cap,rfl,q7,bQ⟩,aE,br⟩
                    rw[aj,Nat.add_assoc,aG];rfl
                  · cases h
                · split at h
                  · rename_i o Ob hold
                    simp only[Bool.and_eq_true] at Ob
                    obtain⟨lH,jC⟩:=Ob
                    have lH:=Nat.le_of_ble_eq_true lH
                    have jC:=Nat.eq_of_beq_eq_true jC
                    subst jC
                    have aB:=h
                    unfold r1 at h
                    split at h
                    · rename_i Oc
                      simp only[Bool.and_eq_true] at Oc
                      obtain⟨⟨tc,q3⟩,gZ⟩:=Oc
                      cases h
                      have td:=Fq hold
                      by_cases tf:len+n<=cap
                      ·
                       have aj:=Cc (P:=P) (ty:=ty) h0 rfl hu hk hi (base:=some ⟨fA.bo,fA.base+off,none⟩) (sLen:=len) (sCap:=cap) aA pb tf
                       simp only[add_plain] at aj
                       have hmul:(len+n)*i.size<=cap*i.size:=Nat.mul_le_mul_right _ tf
                       have N_:(len+n)*i.size=len*i.size+n*i.size:=Nat.add_mul _ _ _
                       have Wn:us.length=n*i.size:=by rw[<-oo.length];exact kj
                       obtain⟨w',c',aG,aE,br,dw,hh,h8,o8,kF,xN⟩:=NT P fA.bo (fA.base+(off+len*i.size)) us w 0 c el fr fs aV
                        (oo.BW λa a_=>WW gZ a (List.mem_append_right _ a_)) (by omega) (λj fS iD ⟨f1,f2⟩=>by
                         have:=gL (j-fA.base) (by omega) (by omega) (by omega)
                         omega)
                       have pY:fA.base+off+(fA.size-off)=c'.size:=by rw[kF,<-bu,<-bQ];omega
                       obtain⟨bt,b3⟩:=ar.WR (w':=w') (o':=.cells (o++cs) el .aX 0 (e5-off)) ag rfl k3 dw br hh h8 o8.1 (fA.base+off) (fA.size-off) (hdr:=Nat.le_of_eq o8.2.symm)
                        ⟨c',fr,fs,aE,λj a aL=>by
                         show∃u,c'[fA.base+off+j]? =some u/\_
                         rw[xN]
                         by_cases pZ:j<o.length
                         · rw[List.getElem?_append_left pZ] at aL
                           rw[if_neg (by omega)]
                           unfold loadCells at hold
                           rw[ag] at hold
                           simp only at hold
                           rw[om] at hold
                           obtain⟨t1,rfl⟩:=xL _ _ _ hold
                           rw[List.getElem?_take] at aL
                           split at aL
                           · rw[List.getElem?_drop] at aL
                             obtain⟨u,mz,my⟩:=aU (off+j) a aL
                             exact⟨u,by rw[Nat.add_assoc];exact mz,my.mono (ar.r4 _)⟩
                           · cases aL
                         · rw[List.getElem?_append_right (by omega)] at aL
                           have Od:j-o.length<cs.length:=by
                            rcases Nat.lt_or_ge (j-o.length) cs.length with h|h
                            · exact h
                            · rw[List.getElem?_eq_none h] at aL;cases aL
                           have alf:=oo.length
                           rw[if_pos (by omega)]
                           obtain⟨u,mz,my⟩:=oo.get aL
                           refine⟨u,?_,my.mono (ar.r4 _)⟩
                           rw[<-mz]
                           have q8:fA.base+off+j-(fA.base+(off+len*i.size)+0)=j-o.length:=by rw[td];omega
                           rw[q8],pY,by
                         refine⟨?_,λj fS iD iE=>?_⟩
                         · simp only[List.length_append];have:=kj;omega
                         · have:=gL (off+j) (by simp only at fS;omega) (by simp only at iD;omega) (by simp only at iE;omega)
                           omega⟩
                       refine⟨_,w',.slice (some ⟨fA.bo,fA.base+off,none⟩) (len+n) cap,?_,⟨_,h7 _ _ _,cap,by simp,tf,by simp only;omega⟩,bt,b3⟩
                       rw[aj,Nat.add_assoc,aG];rfl
                      ·
                       obtain⟨aO,aZ⟩:=ar.kill ag rfl k3
                       obtain⟨os,e2,eh⟩:=vV (P:=P) ar.drew k3 hold
                       exact IU (ty:=ty) ar h0 rfl hu hk hi bm ab hF (old:=o) ⟨os,by simp only[Builtin.firstCells];exact e2,eh⟩ td kj (by omega) aO aZ aB
                    · cases h
                  · cases h
              · cases h
          · cases h
   · cases h
 · cases h
end
end aJ
namespace aJ
open Go
variable {argTypes:Array TypeId}{bK:Value}{t ty:TypeId}{v x:aa}
section
variable {P:Program} {μ:bG} {H:I} {w:World}
theorem cF.take{μ:bG}{as:List aa}{vs:List Value}(h:cF μ as vs)(n:Nat):cF μ (as.take n) (vs.take n):=by
 refine cF.BV (by simp[h.length]) λj a aL=>?_
 rw[List.getElem?_take] at aL⊢
 split at aL
 · rename_i aA;rw[if_pos aA];exact h.get aL
 · cases aL
theorem Oe(ar:bI μ H w){size n m:Nat}(ab:bq μ x bK){cs r:List aa}(h:jr H size x=some (n,cs))(hm:m<=n)(aj:takeN (m*size) cs=some r):
  ∃us:List Value,(Builtin.firstCells size m bK).run P w=.ok ⟨us⟩ w/\cF μ r us:=by
 obtain⟨aI,rfl⟩:=xL _ _ _ aj
 have kj:=Oa h
 cases x<;>simp only[jr] at h<;>try cases h
 · split at h<;>cases h
   obtain⟨bs,rfl,rfl⟩:=ab
   refine⟨_,?_,(Fk μ _).take _⟩
   simp only[Builtin.firstCells,Sem.run_pure]
   congr 1
   apply Array.ext'
   simp[ByteArray.data_extract,List.map_take]
 · cases ab
   exact⟨[],rfl,by simp;rfl⟩
 · rename_i b off len cap
   obtain⟨i,hi,ak⟩:=ab
   have load:∀cq,loadCells H b off (len*size)=some cq->n=len->cs=cq->∀c,∃us:List Value,(Builtin.firstCells size m (.slice (some ⟨i.bo,i.base+off,none⟩) len c)).run P w=.ok ⟨us⟩ w/\cF μ (cs.take (m*size)) us:=by
    intro cq aA aT lG c
    subst lG;subst aT
    have W8:loadCells H b off (m*size)=some (cs.take (m*size)):=by
     unfold loadCells at aA⊢
     split at aA
     · rename_i aV aU bu e7 gL ag
       obtain⟨t1,t2⟩:=xL _ _ _ aA
       have hmul:m*size<=n*size:=Nat.mul_le_mul_right _ hm
       have e:∀(k:Nat) (l:List aa),k<=l.length->takeN k l=some (l.take k):=by
        intro k
        induction k with
        |zero=>intro l _;simp[takeN]
        |succ k bM=>
         intro l aA
         cases l with
         |nil=>simp at aA
         |cons a l=>simp[takeN,bM l (by simpa using aA)]
       rw[e _ _ (by omega),t2,List.take_take,Nat.min_eq_left hmul]
     · cases aA
    obtain⟨us,J,ae⟩:=vV (P:=P) ar hi W8
    exact⟨us,by simp only[Builtin.firstCells];exact J,ae⟩
   cases cap with
   |dead=>
    simp only at h
    split at h
    · cases h
      obtain⟨_,a,c,rfl⟩:=ak
      have:m=0:=by omega
      subst this
      exact⟨[],by simp[Builtin.firstCells,_root_.Go.loadCells,loadCellsFrom],by simp;rfl⟩
    · cases h
   |exact c=>
    cases ak
    simp only at h
    split at h
    · rename_i cq aA;cases h;exact load _ aA rfl rfl c
    · cases h
   |aX h3=>
    obtain⟨c,rfl,_⟩:=ak
    simp only at h
    split at h
    · rename_i cq aA;cases h;exact load _ aA rfl rfl c
    · cases h
theorem W9(ar:bI μ H w){EW:TypeId}(h0:argTypes[0]? =some EW){d s:aa}{IW q6:Value}(aH:bq μ d IW)(ah:bq μ s q6){a7:I}
  (h:EV P H EW d s=some (v,a7)):gT P μ H w (Builtin.copy_ argTypes ty #[IW,q6]) v a7:=by
 unfold EV at h
 split at h
 · rename_i e hu
   split at h
   · rename_i sz bQ
     split at h
     · rename_i n cs hF
       obtain⟨aA,_⟩:=Fl (P:=P) ar ah hF
       have q9:∀w:World,(_root_.Go.sizeOf e).run P w=.ok sz w:=λw=>run_sizeOf bQ
       have Of:∀bK:Value,bK=q6->(Builtin.firstCells sz 0 q6).run P w=.ok #[] w:=λbK _=>by
        obtain⟨us,J,ae⟩:=Oe (P:=P) (m:=0) (r:=[]) ar ah hF (Nat.zero_le _) (by simp[takeN])
        cases us with
        |nil=>exact J
        |cons a l=>cases ae
       split at h
       · cases h;cases aH
         refine .same ar (v':=.int .i64 0) ?_ rfl
         simp[Builtin.copy_,h0,b7 hu,aA,q9,Of q6 rfl,goInt]
       · rename_i b off len cap
         simp only at h
         obtain⟨i,hi,ak⟩:=aH
         have h9:∃(a:Addr) (c:Nat),IW=.slice (some a) len c/\(cap≠ .dead->a=⟨i.bo,i.base+off,none⟩):=by
          cases cap with
          |exact c=>cases ak;exact⟨_,c,rfl,λ_=>rfl⟩
          |aX h3=>obtain⟨c,rfl,_⟩:=ak;exact⟨_,c,rfl,λ_=>rfl⟩
          |dead=>obtain⟨rfl,a,c,rfl⟩:=ak;exact⟨a,c,rfl,λh=>absurd rfl h⟩
         obtain⟨a,c,rfl,a_⟩:=h9
         split at h
         · rename_i ux
           cases h
           refine .same ar (v':=.int .i64 0) ?_ rfl
           simp[Builtin.copy_,h0,b7 hu,aA,q9,ux,Of q6 rfl,goInt,_root_.Go.storeCells]
         · rename_i ux
           split at h
           · rename_i cq aI
             split at h
             · rename_i J dp
               cases h
               have z5:cap≠ .dead:=by
                intro e;subst e
                obtain⟨aG,_⟩:=ak
                subst aG;simp[Nat.min_def] at ux
               have:=a_ z5
               subst this
               obtain⟨us,aV,aU⟩:=Oe (P:=P) ar ah hF (Nat.min_le_left _ _) aI
               obtain⟨w',aG,aE,br⟩:=B2 (P:=P) ar hi aU dp
               refine⟨μ,w',.int .i64 (Nat.min n len:Nat),?_,rfl,aE,br⟩
               simp[Builtin.copy_,h0,b7 hu,aA,q9,aV,aG,goInt]
             · cases h
           · cases h
       · cases h
     · cases h
   · cases h
 · cases h
theorem W_(ar:bI μ H w)(h0:argTypes[0]? =some t)(ab:bq μ x bK){a7:I}
  (h:EX P H t x=some (v,a7)):gT P μ H w (Builtin.clear_ argTypes ty #[bK]) v a7:=by
 unfold EX at h
 split at h
 · rename_i hu;cases h;cases ab
   exact .same ar (v':=.tuple #[]) (by simp[Builtin.clear_,h0,b7 hu]) ⟨[],rfl,rfl⟩
 · rename_i hu;cases h;cases ab
   exact .same ar (v':=.tuple #[]) (by simp[Builtin.clear_,h0,b7 hu]) ⟨[],rfl,rfl⟩
 · rename_i hu
   split at h
   · rename_i es c aB
     cases h
     obtain⟨i,hi,rfl⟩:=ab
     obtain⟨ents,aG,aE⟩:=ar.rel _ _ i aB hi
     have cf:i.bo<w.heap.size:=(ar.lt _ _ hi).2
     obtain⟨bt,b3⟩:=ar.update (w':={w with heap:=w.heap.setIfInBounds i.bo (.map #[] c)}) (o':=.map [] c) aB rfl hi (by simp) (λr aj=>by simp[Array.getElem?_setIfInBounds];intro e;exact absurd e.symm aj) rfl rfl rfl
      ⟨[],by simp[cf],rfl⟩
     refine⟨μ,_,.tuple #[],?_,⟨[],rfl,rfl⟩,bt,b3⟩
     simp[Builtin.clear_,h0,b7 hu,getObj,setObj,Sem.run,aG]
   · cases h
 · rename_i e b off n cap hu
   split at h
   · rename_i aT
     cases h
     subst aT
     obtain⟨i,hi,ak⟩:=ab
     have:∃a c,bK=.slice (some a) 0 c:=by
      cases cap with
      |exact c=>cases ak;exact⟨_,c,rfl⟩
      |aX h3=>obtain⟨c,rfl,_⟩:=ak;exact⟨_,c,rfl⟩
      |dead=>obtain⟨_,a,c,rfl⟩:=ak;exact⟨a,c,rfl⟩
     obtain⟨a,c,rfl⟩:=this
     exact .same ar (v':=.tuple #[]) (by simp[Builtin.clear_,h0,b7 hu]) ⟨[],rfl,rfl⟩
   · rename_i aT
     split at h
     · rename_i z bm
       split at h
       · rename_i J dp
         cases h
         obtain⟨g8,IX,rfl,ag⟩:=o9 (P:=P) (w:=w) bm
         have pc:=WO n ((mu μ g8).cells ag)
         obtain⟨i,hi,ak⟩:=ab
         have:∃c,bK=.slice (some ⟨i.bo,i.base+off,none⟩) n c:=by
          cases cap with
          |exact c=>cases ak;exact⟨c,rfl⟩
          |aX h3=>obtain⟨c,rfl,_⟩:=ak;exact⟨c,rfl⟩
          |dead=>obtain⟨h0,_⟩:=ak;exact absurd h0 aT
         obtain⟨c,rfl⟩:=this
         obtain⟨w',aG,aE,br⟩:=B2 (P:=P) ar hi pc dp
         refine⟨μ,w',.tuple #[],?_,⟨[],rfl,rfl⟩,aE,br⟩
         cases n with
         |zero=>exact absurd rfl aT
         |succ n=>simp[Builtin.clear_,h0,b7 hu,IX,aG]
       · cases h
     · cases h
 · cases h
theorem Xa(ar:bI μ H w)(h0:argTypes[0]? =some t)(ab:bq μ x bK)(h:o2 P H t x=some v):
  gT P μ H w (Builtin.len_ argTypes ty #[bK]) v H:=by
 unfold o2 at h
 split at h
 · rename_i s hu;cases h
   obtain⟨bs,rfl,rfl⟩:=ab
   refine .same ar (v':=.int .i64 (bs.size:Int)) (by simp[Builtin.len_,h0,b7 hu,goInt]) ?_
   have:bs.data.toList.length=bs.size:=Array.length_toList
   rw[this];rfl
 · rename_i n e hu;cases h
   exact .same ar (v':=.int .i64 (n:Int)) (by simp[Builtin.len_,h0,b7 hu,goInt]) rfl
 · rename_i e b off n cap hu;cases h
   obtain⟨i,hi,ak⟩:=ab
   have:∃a c,bK=.slice a n c:=by
    cases cap with
    |exact c=>cases ak;exact⟨_,c,rfl⟩
    |aX h3=>obtain⟨c,rfl,_⟩:=ak;exact⟨_,c,rfl⟩
    |dead=>obtain⟨rfl,a,c,rfl⟩:=ak;exact⟨_,c,rfl⟩
   obtain⟨a,c,rfl⟩:=this
   exact .same ar (v':=.int .i64 (n:Int)) (by simp[Builtin.len_,h0,b7 hu,goInt]) rfl
 · rename_i hu;cases h;cases ab
   exact .same ar (v':=.int .i64 0) (by simp[Builtin.len_,h0,b7 hu,goInt]) rfl
 · rename_i hu;cases h;cases ab
   exact .same ar (v':=.int .i64 0) (by simp[Builtin.len_,h0,b7 hu,goInt]) rfl
 · rename_i r hu
   split at h
   · rename_i es c aB
     cases h
     obtain⟨i,hi,rfl⟩:=ab
     obtain⟨ents,aG,aE⟩:=ar.rel _ _ i aB hi
     have hlen:es.length=ents.length:=by
      clear aG aB
      induction es generalizing ents with
      |nil=>cases aE;rfl
      |cons e es bM=>obtain⟨m,ms,rfl,_,ae⟩:=aE;simp[bM ms ae]
     refine .same ar (v':=.int .i64 (ents.length:Int)) ?_ (by rw[hlen];rfl)
     simp[Builtin.len_,h0,b7 hu,goInt,getObj,Sem.run,aG]
   · cases h
 · rename_i arr hu
   split at h
   · rename_i n e my;cases h
     exact .same ar (v':=.int .i64 (n:Int)) (by simp[Builtin.len_,h0,b7 hu,b7 my,goInt]) rfl
   · cases h
 · cases h
theorem Xb(ar:bI μ H w)(h0:argTypes[0]? =some t)(ab:bq μ x bK)(h:EU P t x=some v):
  gT P μ H w (Builtin.cap_ argTypes ty #[bK]) v H:=by
 unfold EU at h
 split at h
 · rename_i n e hu;cases h
   exact .same ar (v':=.int .i64 (n:Int)) (by simp[Builtin.cap_,h0,b7 hu,goInt]) rfl
 · rename_i e b off n c hu;cases h
   obtain⟨i,hi,ak⟩:=ab
   cases ak
   exact .same ar (v':=.int .i64 (c:Int)) (by simp[Builtin.cap_,h0,b7 hu,goInt]) rfl
 · rename_i hu;cases h;cases ab
   exact .same ar (v':=.int .i64 0) (by simp[Builtin.cap_,h0,b7 hu,goInt]) rfl
 · cases h
theorem IY(f:aa->aa->Option aa)(F:Value->Value->Sem Value)(aM:∀x y z bK h_,f x y=some z->bq μ x bK->bq μ y h_->∃g8,(F bK h_).run P w=.ok g8 w/\bq μ z g8):
  ∀(l:List aa) (x:aa) (bK:Value) (pd:List Value) (z:aa),bq μ x bK->cF μ l pd->vH f x l=some z->∃g8,(pd.foldlM F bK).run P w=.ok g8 w/\bq μ z g8
 |[],x,bK,pd,z,ab,aA,h=>by
  cases aA;simp[vH] at h;subst h
  exact⟨bK,rfl,ab⟩
 |y::l,x,bK,pd,z,ab,⟨h_,Og,e,bH,aA⟩,h=>by
  subst e
  simp only[vH] at h
  split at h
  · rename_i u hu
    obtain⟨Xc,bt,b3⟩:=aM x y u bK h_ hu ab bH
    obtain⟨g8,s1,s2⟩:=IY f F aM l u Xc Og z b3 aA h
    exact⟨g8,by simp only[List.foldlM_cons,Sem.run_bind,bt,Result.andThen_ok,s1],s2⟩
  · cases h
theorem Xd{y z:aa}{h_:Value}(h:BI x y=some z)(ab:bq μ x bK)(bH:bq μ y h_):∃g8,(Builtin.min2 bK h_).run P w=.ok g8 w/\bq μ z g8:=by
 unfold BI at h
 split at h
 · split at h
   · rename_i ai;cases h;subst ai
     cases ab;cases bH
     exact⟨_,rfl,by simp[bq,jZ]⟩
   · cases h
 · cases h
theorem Xe{y z:aa}{h_:Value}(h:BJ x y=some z)(ab:bq μ x bK)(bH:bq μ y h_):∃g8,(Builtin.max2 bK h_).run P w=.ok g8 w/\bq μ z g8:=by
 unfold BJ at h
 split at h
 · split at h
   · rename_i ai;cases h;subst ai
     cases ab;cases bH
     exact⟨_,rfl,by simp[bq,jZ]⟩
   · cases h
 · cases h
end
end aJ
namespace aJ
open Go
variable {bK kv:Value}{cs:List aa}{es:List ga}{i:gx}{k:aa}{kt:TypeId}{n r:Nat}
section
variable {P:Program} {μ:bG} {H:I} {w:World}
theorem Oh:∀(cs:List aa) (bs:List UInt8) (us:List Value),pU cs=some bs->cF μ cs us->us=bs.map λb=>.int .u8 (b.toNat:Int)
 |[],bs,us,h,aj=>by cases aj;simp[pU] at h;subst h;rfl
 |c::cs,bs,us,h,⟨v,vs,e,J,ae⟩=>by
  subst e
  unfold pU at h
  split at h
  · rename_i heq;cases heq
  · rename_i n l heq
    cases heq
    split at h
    · rename_i r aT aj
      cases h
      cases J
      rw[Oh cs r vs aj ae]
      simp only[Nat.blt_eq] at aT
      have:n %256=n:=Nat.mod_eq_of_lt aT
      simp[UInt8.toNat_ofNat',this]
    · cases h
  · cases h
theorem Oi(w:World):∀(bs:List UInt8) (acc:ByteArray),(forIn (bs.map λb=>Value.int .u8 (b.toNat:Int)) acc λc s=>
  (match c with
  |.int .u8 n=>pure (ForInStep.yield (s.push (UInt8.ofNat n.toNat)))
  |_=>do stuck "bytesToString: byte expected";pure (ForInStep.yield s):Sem (ForInStep ByteArray))).run P w=.ok ⟨acc.data++bs.toArray⟩ w
 |[],acc=>by simp
 |b::bs,acc=>by
  simp only[List.map_cons,List.forIn_cons,Sem.run_bind,Sem.run_pure,Result.andThen_ok,Oi w bs]
  congr 1
  simp[ByteArray.ext_iff,ByteArray.push]
theorem Oj(ar:bI μ H w){b off:Nat}{cap:dn}(q7:cap≠ .dead)(ab:bq μ (.slice b off n cap) bK)(aA:loadCells H b off n=some cs){bs:List UInt8}(ag:pU cs=some bs):
  ∃u,(Conv.bytesToString bK).run P w=.ok u w/\bq μ (.str bs) u:=by
 obtain⟨i,hi,ak⟩:=ab
 have:∃c,bK=.slice (some ⟨i.bo,i.base+off,none⟩) n c:=by
  cases cap with
  |exact c=>cases ak;exact⟨c,rfl⟩
  |aX h3=>obtain⟨c,rfl,_⟩:=ak;exact⟨c,rfl⟩
  |dead=>exact absurd rfl q7
 obtain⟨c,rfl⟩:=this
 obtain⟨us,J,ae⟩:=vV (P:=P) ar hi aA
 have pb:=Oh cs bs us ag ae
 subst pb
 refine⟨.string ⟨bs.toArray⟩,?_,⟨_,rfl,by simp⟩⟩
 simp only[Conv.bytesToString,Sem.run_bind,J,Result.andThen_ok]
 have e:=Oi (P:=P) w bs ByteArray.empty
 rw[<-List.forIn_toArray] at e
 refine(congrArg (λr=>Result.andThen r _) e).trans ?_
 simp
theorem Xf(ar:bI μ H w){b off:Nat}{cap:dn}(q7:cap≠ .dead)(ab:bq μ (.slice b off n cap) bK)(aA:loadCells H b off n=some cs){bs:List UInt8}(ag:pU cs=some bs):
  gT P μ H w (Conv.bytesToString bK) (.str bs) H:=by
 obtain⟨u,J,ae⟩:=Oj (P:=P) ar q7 ab aA ag
 exact .same ar J ae
theorem Xg(ar:bI μ H w){e:TypeId}{bs:ByteArray}:
  gT P μ H w (Conv.stringToBytes e bs) (.slice H.n 0 bs.data.toList.length (.aX 1)) (H.push (.cells (cC bs.data.toList) e .aX 0 0)):=by
 have Fm:(Question.appendCap bs.size 0 e).forced=false:=rfl
 have bQ:bs.data.toList.length=bs.size:=Array.length_toList
 obtain⟨cap,q7,hle⟩:∃cap,(Question.appendCap bs.size 0 e).cut (w.tape w.drawn (Question.appendCap bs.size 0 e))=cap/\bs.size<=cap:=⟨_,rfl,by simp[Question.cut]⟩
 have Ft:=ar.drew.r4 ⟨w.heap.size,0,cap⟩
 let c:Array Value:=(bs.data.map λb=>.int .u8 b.toNat)++Array.replicate (cap-bs.size) (.int .u8 0)
 have lG:c.size=cap:=by
  have:bs.data.size=bs.size:=rfl
  simp only[c,Array.size_append,Array.size_map,Array.size_replicate,this];omega
 have uw:BX (h6 μ H.n ⟨w.heap.size,0,cap⟩) (cC bs.data.toList) c 0:=λj v aL=>by
  obtain⟨u,hu,aj⟩:=(Fk μ bs.data.toList).get aL
  refine⟨u,?_,aj.mono Ft⟩
  have xR:j<bs.data.size:=by
   rcases Nat.lt_or_ge j bs.data.size with h|h
   · exact h
   · rw[List.getElem?_eq_none (by simpa using h)] at hu;cases hu
  simp only[c,Nat.zero_add]
  rw[Array.getElem?_append_left (by simpa using xR)]
  simpa using hu
 have Xh:bI (h6 μ H.n ⟨w.heap.size,0,cap⟩) (H.push (.cells (cC bs.data.toList) e .aX 0 0)) (w.drew.alloc (.cells c e))/\cD μ H w.drew (h6 μ H.n ⟨w.heap.size,0,cap⟩) (H.push (.cells (cC bs.data.toList) e .aX 0 0)) (w.drew.alloc (.cells c e)):=
  ar.drew.alloc (.cells (cC bs.data.toList) e .aX 0 0) (.cells c e) cap
  ⟨c,0,0,World.heap_alloc_new _ _,uw,by simp[lG],by
    refine⟨?_,λj _ _ h=>by omega⟩
    rw[Fs,bQ];exact hle⟩
 obtain⟨bt,b3⟩:=Xh
 let b9:World:=(w.drew.alloc (.cells c e)).freeze ⟨w.heap.size,cap,none⟩ 1
 have p0:b9.heap[w.heap.size]? =some (.cells c e (cap,cap+1)):=by
  simp only[b9,World.freeze,if_neg (show¬(1=0) by omega),Array.getElem?_modify]
  have:(w.drew.alloc (.cells c e)).heap[w.heap.size]? =some (.cells c e (0,0)):=World.heap_alloc_new _ _
  rw[this];simp
 have i_:(H.push (.cells (cC bs.data.toList) e .aX 0 0)).get H.n=some (.cells (cC bs.data.toList) e .aX 0 0):=by rw[I.mZ,if_pos rfl]
 have dp:bI (h6 μ H.n ⟨w.heap.size,0,cap⟩) ((H.push (.cells (cC bs.data.toList) e .aX 0 0)).set H.n (some (.cells (cC bs.data.toList) e .aX 0 0))) b9/\
   cD (h6 μ H.n ⟨w.heap.size,0,cap⟩) (H.push (.cells (cC bs.data.toList) e .aX 0 0)) (w.drew.alloc (.cells c e)) (h6 μ H.n ⟨w.heap.size,0,cap⟩) ((H.push (.cells (cC bs.data.toList) e .aX 0 0)).set H.n (some (.cells (cC bs.data.toList) e .aX 0 0))) b9:=
  bt.update i_ rfl (h7 _ _ _) (by simp[b9,World.freeze]) (λr aj=>by
   simp only[b9,World.freeze,if_neg (show¬(1=0) by omega),Array.getElem?_modify]
   rw[if_neg (λe=>aj e.symm)]) (by simp[b9,World.freeze]) (by simp[b9,World.freeze]) (by simp[b9,World.freeze])
   ⟨c,cap,cap+1,p0,uw,by simp[lG],by
     refine⟨by rw[Fs,bQ];exact hle,λj fS iD iE=>by simp only at fS iD;omega⟩⟩
 refine⟨h6 μ H.n ⟨w.heap.size,0,cap⟩,b9,.slice (some ⟨w.heap.size,0,none⟩) bs.size cap,?_,⟨⟨w.heap.size,0,cap⟩,h7 _ _ _,cap,by simp[bQ],by rw[bQ];exact hle,by simp⟩,?_,?_⟩
 · simp only[Conv.stringToBytes,Sem.run_bind,run_choose,Fm,Bool.false_eq_true,if_false,World.drew_eq,Result.andThen_ok,q7]
   have aG:(_root_.Go.newRow e c).run P w.drew=.ok ⟨w.heap.size,0,none⟩ (w.drew.alloc (.cells c e)):=rfl
   rw[show(_root_.Go.newRow e ((bs.data.map λb=>.int .u8 b.toNat)++Array.replicate (cap-bs.size) (.int .u8 0))).run P w.drew=_ from aG]
   have aE:(w.drew.alloc (.cells c e)).shape? w.heap.size=some (e,cap):=by
    have:(w.drew.alloc (.cells c e)).heap[w.heap.size]? =some (.cells c e (0,0)):=World.heap_alloc_new _ _
    simp only[World.shape?,this,lG]
   simp only[Result.andThen_ok,markStringish,Sem.run_bind,run_shape,aE,run_freeze,Sem.run_pure]
   rfl
 ·
  refine⟨λb o i ag hi=>dp.1.rel b o i ?_ hi,λb c' i j ag ak=>dp.1.inj b c' i j ?_ ?_,dp.1.lt,λb ag=>?_⟩
  · rw[I.fk];split
    · rename_i e;subst e;rw[i_] at ag;exact ag
    · exact ag
  · rw[I.fk];split
    · simp
    · exact ag
  · rw[I.fk];split
    · exact⟨_,rfl,rfl⟩
    · exact ak
  · exact bt.bound b ag
 · refine cD.trans ar ar.drew cD.drew (cD.trans ar.drew bt b3 ⟨fE.refl _,dp.2.size,Nat.le_refl _,λ_ _ h=>h,λ_ _ _=>rfl,dp.2.old,λb i h ay=>(by rw[h] at ay;cases ay),λb o i ag aj hi=>⟨ag,(dp.2.ro b o i ag aj hi).2⟩,dp.2.os,dp.2.out,dp.2.tape,dp.2.drawn⟩)
theorem Xi{o o':Nat}:(sameAddr ⟨i.bo,i.base+o,none⟩ ⟨i.bo,i.base+o',none⟩).run P w=.ok (Nat.beq o o') w:=by
 simp only[sameAddr,beq_self_eq_true,if_true,Sem.run_pure]
 congr 1
 rw[Bool.eq_iff_iff]
 simp
theorem Xj{r' o o' el r_:Nat}{c c':Array Value}(h:w.heap[r]? =some (.cells c el (0,0)))(ay:w.heap[r']? =some (.cells c' r_ (0,0)))(dk:r≠r'):
  (sameAddr ⟨r,o,none⟩ ⟨r',o',none⟩).run P w=.ok false w:=by
 have ag:(r==r')=false:=beq_eq_false_iff_ne.2 dk
 have f1:∀k,w.frozen? ⟨r,k,none⟩=false:=λk=>by simp[World.frozen?,h]
 have f2:∀k,w.frozen? ⟨r',k,none⟩=false:=λk=>by simp[World.frozen?,ay]
 have s1:w.shape? r=some (el,c.size):=by simp[World.shape?,h]
 have s2:w.shape? r'=some (r_,c'.size):=by simp[World.shape?,ay]
 simp[sameAddr,ag,f1,f2,noView,viewAt,s1,s2,mayBeOne,stringish]
theorem IZ(w:World)(D:Nat)(E:TypeId->aa->aa->Option Bool)(bO:∀t x y b bK h_,E t x y=some b->bq μ x bK->bq μ y h_->(Op.equalIn D t bK h_).run P w=.ok b w)
  {xs fQ:List aa}{xS xU:List Value}(ab:cF μ xs xS)(bH:cF μ fQ xU):∀(dh:List Field) (b:Bool),eqFields P E xs fQ dh=some b->(Op.eqFields D ⟨xS⟩ ⟨xU⟩ dh).run P w=.ok b w
 |[],b,h=>by cases h;rfl
 |f::dh,b,h=>by
  simp only[eqFields] at h
  split at h
  · rename_i aT
    have aT:f.name= "_" :=of_decide_eq_true aT
    have bM:=IZ w D E bO ab bH dh b h
    simp only[Op.eqFields,aT,ne_eq,not_true_eq_false,if_false]
    exact bM
  · rename_i aT
    have aT:¬(f.name= "_"):=of_decide_eq_false aT
    split at h
    · rename_i a c a_ ak
      obtain⟨Cf,dt,dv⟩:=v3 (P:=P) (w:=w) ab a_
      obtain⟨ja,aV,aU⟩:=v3 (P:=P) (w:=w) bH ak
      split at h
      · rename_i he
        have aj:=bO _ _ _ _ Cf ja he dv aU
        have bM:=IZ w D E bO ab bH dh b h
        simp only[Op.eqFields,ne_eq,aT,not_false_eq_true,if_true,Sem.run_bind,dt,aV,Result.andThen_ok,aj,Bool.not_true,Bool.false_eq_true,if_false]
        exact bM
      · rename_i r aj
        cases b with
        |true=>exact absurd h aj
        |false=>
         have sa:=bO _ _ _ _ Cf ja h dv aU
         simp only[Op.eqFields,ne_eq,aT,not_false_eq_true,if_true,Sem.run_bind,dt,aV,Result.andThen_ok,sa,Bool.not_false,Sem.run_pure]
    · cases h
theorem Ok(w:World)(D:Nat){e:TypeId}{sz:Nat}(E:TypeId->aa->aa->Option Bool)(bO:∀t x y b bK h_,E t x y=some b->bq μ x bK->bq μ y h_->(Op.equalIn D t bK h_).run P w=.ok b w){xs fQ:List aa}{xS xU:List Value}(ab:cF μ xs xS)(bH:cF μ fQ xU):
  ∀(n i:Nat) (b:Bool),BH P E e sz xs fQ n i=some b->(Op.eqItems D e sz ⟨xS⟩ ⟨xU⟩ (List.range' i n)).run P w=.ok b w
 |0,i,b,h=>by simp only[BH] at h;cases h;simp[Op.eqItems]
 |n+1,i,b,h=>by
  simp only[BH] at h
  rw[List.range'_succ]
  split at h
  · rename_i a c a_ ak
    obtain⟨Cf,dt,dv⟩:=v3 (P:=P) (w:=w) ab a_
    obtain⟨ja,aV,aU⟩:=v3 (P:=P) (w:=w) bH ak
    split at h
    · rename_i he
      have aj:=bO _ _ _ _ Cf ja he dv aU
      have bM:=Ok w D E bO ab bH n (i+1) b h
      simp only[Op.eqItems,Sem.run_bind,dt,aV,Result.andThen_ok,aj,Bool.not_true,Bool.false_eq_true,if_false]
      exact bM
    · rename_i r aj
      cases b with
      |true=>exact absurd h aj
      |false=>
       have sa:=bO _ _ _ _ Cf ja h dv aU
       simp only[Op.eqItems,Sem.run_bind,dt,aV,Result.andThen_ok,sa,Bool.not_false,if_true,Sem.run_pure]
  · cases h
set_option maxHeartbeats 4000000 in
theorem xV(ar:bI μ H w):∀(d:Nat) (t:TypeId) (x y:aa) (b:Bool) (bK h_:Value) (D:Nat),d<=D->kg P H d t x y=some b->bq μ x bK->bq μ y h_->(Op.equalIn D t bK h_).run P w=.ok b w
 |0,t,x,y,b,bK,h_,D,_,h,_,_=>by simp[kg] at h
 |d+1,t,x,y,b,bK,h_,0,aH,_,_,_=>by omega
 |d+1,t,x,y,b,bK,h_,D+1,aH,h,ab,bH=>by
  unfold kg at h
  cases hu:P.underlying t with
  |none=>rw[hu] at h;cases h
  |some u=>
   rw[hu] at h
   cases u<;>simp only at h
   case bool=>
    split at h<;>cases h
    cases ab;cases bH
    simp[Op.equalIn,b7 hu]
   case int nF=>
    split at h
    · split at h
      · rename_i ai;cases h;subst ai;cases ab;cases bH
        simp[Op.equalIn,b7 hu,jM]
      · cases h
    · cases h
   case string=>
    split at h<;>cases h
    obtain⟨s1,rfl,rfl⟩:=ab
    obtain⟨s2,rfl,rfl⟩:=bH
    rw[o_,<-vY,<-vY,<-beq_toListBytes]
    simp[Op.equalIn,b7 hu]
   case pointer e=>
    split at h
    · cases h;cases ab;cases bH;simp[Op.equalIn,b7 hu]
    · cases h;cases ab;obtain⟨i,_,rfl⟩:=bH;simp[Op.equalIn,b7 hu]
    · cases h;cases bH;obtain⟨i,_,rfl⟩:=ab;simp[Op.equalIn,b7 hu]
    · rename_i a i jb j
      split at h
      · rename_i n ah
        obtain⟨z6,I0,rfl⟩:=ab
        obtain⟨kH,Cg,rfl⟩:=bH
        have bQ:(_root_.Go.sizeOf e).run P w=.ok (n+1) w:=run_sizeOf ah
        have goal:∀r,(sameAddr ⟨z6.bo,z6.base+i,none⟩ ⟨kH.bo,kH.base+j,none⟩).run P w=r->(Op.equalIn (D+1) t (.pointer (some ⟨z6.bo,z6.base+i,none⟩)) (.pointer (some ⟨kH.bo,kH.base+j,none⟩))).run P w=r:=by
         intro r aj
         simp[Op.equalIn,b7 hu,bQ,aj]
        unfold Iv at h
        split at h
        · rename_i p1
          cases h
          have:=Nat.eq_of_beq_eq_true p1
          subst this
          rw[I0] at Cg;cases Cg
          exact goal _ Xi
        · rename_i p1
          split at h
          · rename_i Fu Fv
            cases h
            obtain⟨a9,_,_,aO,_,_,aZ⟩:=ar.rel _ _ z6 Fu I0
            obtain⟨cI,_,_,fw,_,_,gw⟩:=ar.rel _ _ kH Fv Cg
            obtain⟨_,_,rfl,rfl⟩:=aZ
            obtain⟨_,_,rfl,rfl⟩:=gw
            refine goal _ (Xj aO fw λe=>?_)
            have:=ar.inj _ _ z6 kH (by rw[Fu];simp) ⟨_,Fv,rfl⟩ I0 Cg e
            subst this
            simp at p1
          · cases h
      · cases h
    · cases h
   case slice e=>
    have kk:∀(b off n:Nat) (c:dn) (v:Value),bq μ (.slice b off n c) v->∃a m k,v=.slice (some a) m k:=by
     rintro b off n c v ⟨i,_,ak⟩
     cases c with
     |exact c=>cases ak;exact⟨_,_,_,rfl⟩
     |aX h3=>obtain⟨c,rfl,_⟩:=ak;exact⟨_,_,_,rfl⟩
     |dead=>obtain⟨_,a,c,rfl⟩:=ak;exact⟨_,_,_,rfl⟩
    split at h
    · cases h;cases ab;cases bH;simp[Op.equalIn,b7 hu]
    · cases h;cases ab;obtain⟨a,m,k,rfl⟩:=kk _ _ _ _ _ bH;simp[Op.equalIn,b7 hu]
    · cases h;cases bH;obtain⟨a,m,k,rfl⟩:=kk _ _ _ _ _ ab;simp[Op.equalIn,b7 hu]
    · cases h
   case map k e=>
    split at h
    · cases h;cases ab;cases bH;simp[Op.equalIn,b7 hu]
    · cases h;cases ab;obtain⟨i,_,rfl⟩:=bH;simp[Op.equalIn,b7 hu]
    · cases h;cases bH;obtain⟨i,_,rfl⟩:=ab;simp[Op.equalIn,b7 hu]
    · cases h
   case func ps rs v=>
    split at h
    · cases h;cases ab;cases bH;simp[Op.equalIn,b7 hu]
    · cases h;cases ab;obtain⟨_,_,rfl,_⟩:=bH;simp[Op.equalIn,b7 hu]
    · cases h;cases bH;obtain⟨_,_,rfl,_⟩:=ab;simp[Op.equalIn,b7 hu]
    · cases h
   case interface ms=>
    split at h
    · cases h;cases ab;cases bH;simp[Op.equalIn,b7 hu]
    · cases h;cases ab;obtain⟨_,rfl,_⟩:=bH;simp[Op.equalIn,b7 hu]
    · cases h;cases bH;obtain⟨_,rfl,_⟩:=ab;simp[Op.equalIn,b7 hu]
    · rename_i a v jb u
      obtain⟨v1,rfl,bt⟩:=ab
      obtain⟨fF,rfl,b3⟩:=bH
      split at h
      · rename_i p1
        cases h
        have:a≠jb:=by intro e;subst e;simp at p1
        simp[Op.equalIn,b7 hu,this]
      · rename_i p1
        have:=Nat.eq_of_beq_eq_true p1
        subst this
        split at h
        · rename_i alg Fo
          split at h
          · rename_i I1
            have bM:=xV ar d a v u b v1 fF D (by omega) h bt b3
            simp[Op.equalIn,b7 hu,run_typeInfo Fo,I1,bM]
          · cases h
        · cases h
    · cases h
   case struct dh=>
    split at h
    · rename_i xs fQ
      split at h
      · cases h
      · rename_i dp
        obtain⟨xS,rfl,I2⟩:=ab
        obtain⟨xU,rfl,I3⟩:=bH
        have key:=IZ (P:=P) w D (kg P H d) (λt x y b bK h_ he J ae=>xV ar d t x y b bK h_ D (by omega) he J ae) I2 I3 dh.toList b h
        have z7:P.fieldsOf t=dh:=by simp[Program.fieldsOf,hu]
        rw[run_equalIn_struct w D t _ _ (by rw[z7];exact hu) dp,z7]
        exact key
    · cases h
   case array n e=>
    split at h
    · rename_i xs fQ
      split at h
      · rename_i sz bQ
        obtain⟨xS,rfl,I2⟩:=ab
        obtain⟨xU,rfl,I3⟩:=bH
        have hi:∃i,P.info? e=some i/\i.size=sz:=by
         unfold eg at bQ
         split at bQ
         · rename_i i hi;cases bQ;exact⟨i,hi,rfl⟩
         · cases bQ
        obtain⟨i,hi,Xk⟩:=hi
        have uy:P.cellsOf e=sz:=by unfold Program.cellsOf;rw[hi];exact Xk
        rw[run_equalIn_array w D _ _ hu hi,uy,List.range_eq_range']
        exact Ok w D (kg P H d) (λt x y b bK h_ he J ae=>xV ar d t x y b bK h_ D (by omega) he J ae) I2 I3 n 0 b h
      · cases h
    · cases h
   all_goals cases h
theorem Ol{u:TypeDesc}(hu:P.underlying kt=some u){x:aa}{b:Bool}(ai:s6 P kt k=true)(h:s7 k x=some b)(J:bq μ k kv)(ae:bq μ x bK):Instr.sameNow u kv bK=some b:=by
 unfold s6 at ai
 rw[hu] at ai
 cases u<;>simp only at ai<;>try cases ai
 ·
  split at ai<;>try cases ai
  cases x<;>simp only[s7] at h<;>cases h
  cases J;cases ae;rfl
 ·
  split at ai<;>try cases ai
  cases x<;>simp only[s7] at h<;>try cases h
  split at h
  · rename_i e;cases h;subst e;cases J;cases ae;simp[Instr.sameNow,jM]
  · cases h
 · split at ai<;>try cases ai
   cases x<;>simp only[s7] at h<;>cases h
   obtain⟨s1,rfl,rfl⟩:=J
   obtain⟨s2,rfl,rfl⟩:=ae
   simp only[Instr.sameNow]
   rw[o_,<-vY,<-vY,<-beq_toListBytes]
def Fw(μ:bG):Option (Nat×aa)->Option (Nat×Value)->Prop
 |none,none=>True
 |some (i,a),some (j,v)=>i=j/\bq μ a v
 |_,_=>False
theorem Om{H:I}{x:aa}(ai:∀cs,k≠ .agg cs):xC P H kt k x=s7 k x:=by
 cases k<;>first|rfl|exact absurd rfl (ai _)
theorem On(ai:∀cs,k≠ .agg cs)(h:nC P kt k=true):s6 P kt k=true:=by
 cases k<;>first|exact h|exact absurd rfl (ai _)
theorem Oo{H:I}{u:TypeDesc}{kt:TypeId}(hu:P.underlying kt=some u){k:aa}{kv:Value}(ah:∀cs,k≠ .agg cs)(ai:s6 P kt k=true)(J:bq μ k kv):∀(es:List ga) (ents:List MapEntry) (i:Nat) (r:Option (Nat×aa)),hE μ es ents->jN P H kt k es i=some r->
  ∃r',Instr.findNow u kv ents i=some r'/\Fw μ r r'
 |[],_,i,r,he,h=>by
  cases he;simp[jN] at h;subst h
  exact⟨none,rfl,trivial⟩
 |e::es,_,i,r,⟨m,ms,aG,aE,br⟩,h=>by
  subst aG
  simp only[jN,Om ah] at h
  split at h
  · rename_i ah
    cases h
    exact⟨some (i,m.val),by simp[Instr.findNow,Ol hu ai ah J aE.1],rfl,aE.2.1⟩
  · rename_i bB
    obtain⟨r',aV,aU⟩:=Oo hu ah ai J es ms (i+1) r br h
    exact⟨r',by simp[Instr.findNow,Ol hu ai bB J aE.1,aV],aU⟩
  · cases h
theorem Oq(ar:bI μ H w){kt:TypeId}{cs:List aa}{kv:Value}(J:bq μ (.agg cs) kv):∀(es:List ga) (ents:List MapEntry) (i:Nat) (r:Option (Nat×aa)),hE μ es ents->jN P H kt (.agg cs) es i=some r->
  ∃r',(Instr.findAsking kt kv ents i).run P w=.ok r' w/\Fw μ r r'
 |[],_,i,r,he,h=>by
  cases he;simp[jN] at h;subst h
  exact⟨none,rfl,trivial⟩
 |e::es,_,i,r,⟨m,ms,aG,aE,br⟩,h=>by
  subst aG
  simp only[jN,xC] at h
  split at h
  · rename_i ah
    cases h
    have:=xV (P:=P) ar 8 kt _ _ true kv m.key Op.maxDepth (by decide) ah J aE.1
    exact⟨some (i,m.val),by simp[Instr.findAsking,Op.equal,this],rfl,aE.2.1⟩
  · rename_i ah
    have:=xV (P:=P) ar 8 kt _ _ false kv m.key Op.maxDepth (by decide) ah J aE.1
    obtain⟨r',aV,aU⟩:=Oq ar J es ms (i+1) r br h
    exact⟨r',by simp[Instr.findAsking,Op.equal,this,aV],aU⟩
  · cases h
theorem I4{H:I}{kt:TypeId}{k:aa}:∀(es:List ga) (i j:Nat) (v:aa),jN P H kt k es i=some (some (j,v))->i<=j/\∃e,es[j-i]? =some e/\e.val=v/\xC P H kt k e.key=some true
 |[],i,j,v,h=>by simp[jN] at h
 |e::es,i,j,v,h=>by
  simp only[jN] at h
  split at h
  · rename_i ah
    cases h;exact⟨Nat.le_refl _,e,by simp,rfl,ah⟩
  · obtain⟨J,b0,ae,aq⟩:=I4 es (i+1) j v h
    refine⟨by omega,b0,?_,aq⟩
    have:j-i=(j-(i+1))+1:=by omega
    rw[this];simpa using ae
  · cases h
theorem I5(ai:s6 P kt k=true)(b:Bool)(n:Nat):(Instr.checkKey b (n+1) kt kv).run P w=.ok () w:=by
 unfold s6 at ai
 cases hu:P.underlying kt with
 |none=>rw[hu] at ai;cases ai
 |some u=>
  rw[hu] at ai
  cases u<;>simp only at ai<;>try cases ai
  all_goals simp[Instr.checkKey,b7 hu]
theorem Ot(b:Bool){m n:Nat}(hm:m=n+1){cs:List aa}{l:List Value}(aA:cF μ cs l):∀(dh:List Field),EY P cs dh=true->
  (forIn dh PUnit.unit (λf _=>if f.name≠ "_" then(do let x<-part f.type ⟨l⟩ f.offset;Instr.checkKey b m f.type x;pure (ForInStep.yield PUnit.unit)) else pure (ForInStep.yield PUnit.unit)):Sem PUnit).run P w=.ok PUnit.unit w
 |[],h=>by simp
 |f::dh,h=>by
  unfold EY at h
  split at h
  · rename_i a a_
    split at h
    · rename_i ai
      have bM:=Ot b hm aA dh h
      obtain⟨u,dt,dv⟩:=v3 (P:=P) (w:=w) aA a_
      have ak:=I5 (P:=P) (w:=w) (kv:=u) ai b n
      rw[<-hm] at ak
      rw[List.forIn_cons]
      by_cases aT:f.name= "_"
      · simp only[aT,ne_eq,not_true_eq_false,if_false,Sem.run_bind,Sem.run_pure,Result.andThen_ok]
        exact bM
      · simp only[ne_eq,aT,not_false_eq_true,if_true,Sem.run_bind,dt,Result.andThen_ok,ak,Sem.run_pure]
        exact bM
    · cases h
  · cases h
theorem Ou(b:Bool){m n:Nat}(hm:m=n+1){e:TypeId}{sz:Nat}(bQ:eg P e=some sz){cs:List aa}{l:List Value}(aA:cF μ cs l):∀(k i:Nat),EZ P e sz cs k i=true->
  (forIn (List.range' i k) PUnit.unit (λi _=>do (Instr.checkKey b m e (<-part e ⟨l⟩ (i*(<-_root_.Go.sizeOf e))));pure (ForInStep.yield PUnit.unit)):Sem PUnit).run P w=.ok PUnit.unit w
 |0,i,h=>by simp
 |k+1,i,h=>by
  unfold EZ at h
  split at h
  · rename_i a a_
    split at h
    · rename_i ai
      have bM:=Ou b hm bQ aA k (i+1) h
      obtain⟨u,dt,dv⟩:=v3 (P:=P) (w:=w) aA a_
      have ak:=I5 (P:=P) (w:=w) (kv:=u) ai b n
      rw[<-hm] at ak
      rw[List.range'_succ,List.forIn_cons]
      simp only[Sem.run_bind,run_sizeOf bQ,dt,Result.andThen_ok,ak,Sem.run_pure]
      exact bM
    · cases h
  · cases h
theorem Xl{l:List Value}(aA:cF μ cs l)(ai:nC P kt (.agg cs)=true)(b:Bool){m:Nat}(hm:m=n+1):(Instr.checkKey b (m+1) kt (.agg ⟨l⟩)).run P w=.ok () w:=by
 unfold nC at ai
 simp only at ai
 split at ai
 · rename_i dh hu
   have key:=Ot (P:=P) (w:=w) b hm aA dh.toList ai
   simp only[Instr.checkKey,Sem.run_bind,b7 hu,Result.andThen_ok]
   rw[<-Array.forIn_toList]
   first|exact key|exact Eq.trans (congrArg (λq=>Result.andThen q _) key) rfl|simpa using key
 · rename_i Fx e hu
   split at ai
   · rename_i sz bQ
     have key:=Ou (P:=P) (w:=w) b hm bQ aA Fx 0 ai
     simp only[Instr.checkKey,Sem.run_bind,b7 hu,Result.andThen_ok]
     simp only[Std.Legacy.Range.forIn_eq_forIn_range',Std.Legacy.Range.size,Nat.sub_zero,Nat.add_one_sub_one,Nat.div_one]
     first|exact key|exact Eq.trans (congrArg (λq=>Result.andThen q _) key) rfl|simpa using key
   · cases ai
 · cases ai
theorem tg(ai:nC P kt k=true)(J:bq μ k kv)(b:Bool):(Instr.checkKey b 10000 kt kv).run P w=.ok () w:=by
 by_cases ah:∀cs,k≠ .agg cs
 · exact I5 (On ah ai) b 9999
 · have:∃cs,k=.agg cs:=by
     cases k<;>first|exact⟨_,rfl⟩|exact absurd (λcs h=>by cases h) ah
   obtain⟨cs,rfl⟩:=this
   obtain⟨l,rfl,aA⟩:=J
   exact Xl aA ai b (m:=9999) (n:=9998) rfl
theorem v7(ar:bI μ H w)(ai:nC P kt k=true)(J:bq μ k kv){ents:List MapEntry}{r:Option (Nat×aa)}(he:hE μ es ents)(h:jN P H kt k es 0=some r):
  ∃r',(Instr.findKey kt kv ents).run P w=.ok r' w/\Fw μ r r':=by
 by_cases ah:∀cs,k≠ .agg cs
 · have g7:=On ah ai
   cases hu:P.underlying kt with
   |none=>unfold s6 at g7;rw[hu] at g7;cases g7
   |some u=>
    obtain⟨r',aV,aU⟩:=Oo hu ah g7 J es ents 0 r he h
    exact⟨r',by simp[Instr.findKey,b7 hu,aV],aU⟩
 · have:∃cs,k=.agg cs:=by
     cases k<;>first|exact⟨_,rfl⟩|exact absurd (λcs h=>by cases h) ah
   obtain⟨cs,rfl⟩:=this
   have hu:∃u,P.underlying kt=some u:=by
    unfold nC at ai
    simp only at ai
    split at ai
    · exact⟨_,by assumption⟩
    · exact⟨_,by assumption⟩
    · cases ai
   obtain⟨u,hu⟩:=hu
   obtain⟨r',aV,aU⟩:=Oq (P:=P) ar J es ents 0 r he h
   obtain⟨l,rfl,aA⟩:=J
   refine⟨r',?_,aU⟩
   have aT:∀(ms:List MapEntry),ms≠[]->Instr.findNow u (.agg ⟨l⟩) ms 0=none:=λms Ch=>by
    cases ms with
    |nil=>exact absurd rfl Ch
    |cons m ms=>cases u<;>rfl
   cases ents with
   |nil=>
    cases es with
    |nil=>simp only[jN] at h;cases h;cases r' with
     |none=>simp[Instr.findKey,b7 hu,Instr.findNow]
     |some y=>exact aU.elim
    |cons e es=>obtain⟨_,_,ak,_⟩:=he;cases ak
   |cons m ms=>
    simp only[Instr.findKey,Sem.run_bind,b7 hu,Result.andThen_ok,aT (m::ms) (by simp)]
    exact aV
theorem hE.append:∀{es dh:List ga} {ms cZ:List MapEntry},hE μ es ms->hE μ dh cZ->hE μ (es++dh) (ms++cZ)
 |[],_,_,_,h,ay=>by cases h;exact ay
 |_::_,_,_,_,⟨m,ms,e,J,ae⟩,ay=>by subst e;exact⟨m,ms++_,rfl,J,hE.append ae ay⟩
theorem hE.get:∀{es:List ga} {ms:List MapEntry} (_:hE μ es ms) {j:Nat} {e:ga},es[j]? =some e->∃m,ms[j]? =some m/\zX μ e m
 |[],_,_,j,e,h=>by simp at h
 |x::es,_,⟨m,ms,e,J,ae⟩,0,a,h=>by subst e;simp at h;subst h;exact⟨m,rfl,J⟩
 |x::es,_,⟨m,ms,e,J,ae⟩,j+1,a,h=>by subst e;simp at h;simpa using hE.get ae h
theorem hE.set{v key:aa}{vv:Value}(aW:bq μ v vv)(ai:bq μ key kv):∀(i:Nat) {es:List ga} {ms:List MapEntry},hE μ es ms->hE μ (xD v key i es) (ms.modify i λe=>{e with key:=kv,val:=vv})
 |0,[],_,h=>by cases h;rfl
 |_+1,[],_,h=>by cases h;rfl
 |0,e::es,_,⟨m,ms,b0,J,ae⟩=>by subst b0;exact⟨_,ms,rfl,⟨ai,aW,J.2.2⟩,ae⟩
 |i+1,e::es,_,⟨m,ms,b0,J,ae⟩=>by subst b0;exact⟨m,_,rfl,J,hE.set aW ai i ae⟩
theorem hE.del:∀(i:Nat) {es:List ga} {ms:List MapEntry},hE μ es ms->hE μ (Iw i es) (ms.eraseIdx i)
 |0,[],_,h=>by cases h;rfl
 |_+1,[],_,h=>by cases h;rfl
 |0,e::es,_,⟨m,ms,b0,J,ae⟩=>by subst b0;exact ae
 |i+1,e::es,_,⟨m,ms,b0,J,ae⟩=>by subst b0;exact⟨m,_,rfl,J,hE.del i ae⟩
theorem Ci{clock:Nat}(ar:bI μ H w)(hi:μ r=some i)(aB:H.get r=some (.map es clock)):∃ents,w.heap[i.bo]? =some (.map ⟨ents⟩ clock)/\hE μ es ents/\(getObj i.bo).run P w=.ok (.map ⟨ents⟩ clock) w:=by
 obtain⟨ents,aG,aE⟩:=ar.rel _ _ i aB hi
 exact⟨ents,aG,aE,by simp[getObj,Sem.run,aG]⟩
theorem xW{z8:List ga}{clock c':Nat}{ents ents':List MapEntry}(ar:bI μ H w)(hi:μ r=some i)(aB:H.get r=some (.map es clock))(he:w.heap[i.bo]? =some (.map ⟨ents⟩ clock))(aj:hE μ z8 ents'):
  ∃w',(setObj i.bo (.map ⟨ents'⟩ c')).run P w=.ok () w'/\bI μ (H.set r (some (.map z8 c'))) w'/\cD μ H w μ (H.set r (some (.map z8 c'))) w':=by
 have cf:i.bo<w.heap.size:=(ar.lt _ _ hi).2
 obtain⟨bt,b3⟩:=ar.update (w':={w with heap:=w.heap.setIfInBounds i.bo (.map ⟨ents'⟩ c')}) (o':=.map z8 c') aB rfl hi (by simp) (λr aj=>by simp[Array.getElem?_setIfInBounds];intro e;exact absurd e.symm aj) rfl rfl rfl
  ⟨ents',by simp[cf],aj⟩
 exact⟨_,by simp[setObj,Sem.run,he],bt,b3⟩
end
end aJ
namespace aJ
open Go
variable {a7:I}{bK kv pe:Value}{iX kt t:TypeId}{k m v x:aa}
section
variable {P:Program} {μ:bG} {H:I} {w:World}
theorem Ov{ok:Bool}{r:Option (Nat×aa)}{r':Option (Nat×Value)}(aj:Fw μ r r')(h:xE P iX ok r=some v):
  ∃u b,bq μ v (if ok then .tuple #[u,.bool b] else u)/\((∃j,r'=some (j,u)/\b=true)\/(r'=none/\(zeroValue iX).run P w=.ok u w/\b=false)):=by
 cases r with
 |none=>
  cases r' with
  |some x=>exact aj.elim
  |none=>
   simp only[xE] at h
   split at h
   · rename_i z bm
     cases h
     obtain⟨g8,aV,rfl,_⟩:=o9 (P:=P) (w:=w) bm
     have:=mu μ g8
     refine⟨g8,false,?_,.inr ⟨rfl,aV,rfl⟩⟩
     cases ok
     · exact this
     · exact⟨_,rfl,_,_,rfl,this,_,_,rfl,rfl,rfl⟩
   · cases h
 |some x=>
  cases r' with
  |none=>exact aj.elim
  |some y=>
   obtain⟨i,a⟩:=x
   obtain⟨j,u⟩:=y
   obtain⟨rfl,z9⟩:=aj
   simp only[xE] at h
   cases h
   refine⟨u,true,?_,.inl ⟨_,rfl,rfl⟩⟩
   cases ok
   · exact z9
   · exact⟨_,rfl,_,_,rfl,z9,_,_,rfl,rfl,rfl⟩
theorem Xm(ar:bI μ H w)(hm:bq μ m pe)(ai:bq μ k kv){ok:Bool}(h:mY P H t m k ok=some v):gT P μ H w (Instr.lookup t pe kv ok) v H:=by
 unfold mY at h
 split at h
 · rename_i kt iX hu
   split at h
   · rename_i jc
     split at h
     · cases hm
       obtain⟨u,b,aV,aU⟩:=Ov (P:=P) (w:=w) (μ:=μ) (r:=none) (r':=none) trivial h
       refine .same ar (v':=if ok then .tuple #[u,.bool b] else u) ?_ aV
       have aM:(Instr.findKey kt kv []).run P w=.ok none w:=by
        obtain⟨r',c8,c9⟩:=v7 (P:=P) (w:=w) (μ:=μ) (es:=[]) (ents:=[]) (r:=none) ar jc ai rfl rfl
        cases r' with
        |none=>exact c8
        |some x=>exact c9.elim
       rcases aU with⟨j,e,_⟩|⟨_,aU,rfl⟩
       · cases e
       · simp[Instr.lookup,b7 hu,tg jc ai,aM,aU]
     · rename_i r
       split at h
       · rename_i es clock aB
         split at h
         · rename_i dy aM
           obtain⟨i,hi,rfl⟩:=hm
           obtain⟨ents,aG,aE,br⟩:=Ci (P:=P) ar hi aB
           obtain⟨r',c8,c9⟩:=v7 (P:=P) (w:=w) ar jc ai aE aM
           obtain⟨u,b,aV,aU⟩:=Ov (P:=P) (w:=w) (μ:=μ) c9 h
           refine .same ar (v':=if ok then .tuple #[u,.bool b] else u) ?_ aV
           rcases aU with⟨j,rfl,rfl⟩|⟨rfl,aU,rfl⟩
           · simp[Instr.lookup,b7 hu,tg jc ai,br,c8]
           · simp[Instr.lookup,b7 hu,tg jc ai,br,c8,aU]
         · cases h
       · cases h
     · cases h
   · cases h
 · cases h
theorem Ow(n:Nat)(h:s7 k x=some true)(J:bq μ k kv)(ae:bq μ x bK):Instr.sameBits n bK kv=true:=by
 cases k<;>cases x<;>simp only[s7] at h<;>try cases h
 · simp at h;subst h;cases J;cases ae;simp[Instr.sameBits]
 · split at h
   · rename_i e;subst e
     simp[jM] at h;subst h;cases J;cases ae;simp[Instr.sameBits]
   · cases h
 · simp only[Option.some.injEq] at h
   obtain⟨s1,rfl,rfl⟩:=J
   obtain⟨s2,rfl,rfl⟩:=ae
   rw[o_,<-vY,<-vY,<-beq_toListBytes] at h
   have:(s2==s1)=true:=by rw[beq_toListBytes] at h⊢;rw[beq_iff_eq] at h⊢;exact h.symm
   simpa[Instr.sameBits] using this
theorem Ox(n:Nat):∀(a b:List aa) (xX km:List Value),BK a b=true->cF μ a xX->cF μ b km->km.length=xX.length/\(km.zip xX).all (λ(x,y)=>Instr.sameBits n x y)=true
 |[],[],xX,km,_,J,ae=>by cases J;cases ae;exact⟨rfl,rfl⟩
 |[],_::_,_,_,h,_,_=>by cases h
 |_::_,[],_,_,h,_,_=>by cases h
 |x::a,y::b,_,_,h,⟨u,us,rfl,fF,g9⟩,⟨v,vs,rfl,v1,v2⟩=>by
  unfold BK at h
  split at h
  · rename_i ah
    obtain⟨aG,aE⟩:=Ox n a b us vs h g9 v2
    refine⟨by simp[aG],?_⟩
    rw[List.zip_cons_cons,List.all_cons,aE,Bool.and_true]
    exact Ow n ah fF v1
  · cases h
theorem Oy(h:xC P H kt k x=some true)(dp:vI k x=true)(J:bq μ k kv)(ae:bq μ x bK):Instr.sameBits 10000 bK kv=true:=by
 by_cases ah:∀cs,k≠ .agg cs
 · rw[Om ah] at h
   exact Ow 10000 h J ae
 · have:∃cs,k=.agg cs:=by
     cases k<;>first|exact⟨_,rfl⟩|exact absurd (λcs h=>by cases h) ah
   obtain⟨a,rfl⟩:=this
   have:∃b,x=.agg b:=by
    cases x<;>first|exact⟨_,rfl⟩|cases dp
   obtain⟨b,rfl⟩:=this
   obtain⟨xX,rfl,g9⟩:=J
   obtain⟨km,rfl,v2⟩:=ae
   have Xn:BK a b=true:=dp
   obtain⟨aG,aE⟩:=Ox (μ:=μ) 9999 a b xX km Xn g9 v2
   show Instr.sameBits (9999+1) (.agg ⟨km⟩) (.agg ⟨xX⟩)=true
   generalize 9999=n at aE⊢
   simp only[Instr.sameBits]
   rw[aE,Bool.and_true]
   simp[aG]
theorem I6(l:List MapEntry)(i:Nat)(f:MapEntry->MapEntry):(⟨l⟩:Array MapEntry).modify i f=⟨l.modify i f⟩:=by
 apply Array.ext'
 simp
theorem Oz(ar:bI μ H w)(hm:bq μ m pe)(ai:bq μ k kv)(ab:bq μ x bK)(h:iA P H t m k x=some a7):
  ∃w',(Instr.mapUpdate t pe kv bK).run P w=.ok () w'/\bI μ a7 w'/\cD μ H w μ a7 w':=by
 unfold iA at h
 split at h
 · rename_i kt iX hu
   split at h
   · rename_i jc
     split at h
     · rename_i r
       split at h
       · rename_i es clock aB
         obtain⟨i,hi,rfl⟩:=hm
         obtain⟨ents,aG,aE,br⟩:=Ci (P:=P) ar hi aB
         split at h
         · rename_i j a aM
           have xY:vI k (BL j es)=true:=by
            cases ak:vI k (BL j es) with
            |true=>rfl
            |false=>rw[ak] at h;cases h
           rw[xY] at h
           cases h
           obtain⟨r',c8,c9⟩:=v7 (P:=P) (w:=w) ar jc ai aE aM
           cases r' with
           |none=>exact c9.elim
           |some y=>
            obtain⟨k1,u⟩:=y
            obtain⟨rfl,z9⟩:=c9
            obtain⟨_,mA,aV,aU,bu⟩:=I4 es 0 j a aM
            obtain⟨xZ,dt,dv⟩:=aE.get (by simpa using aV)
            have xY:vI k mA.key=true:=by
             have:BL j es=mA.key:=by unfold BL;rw[j0,show es[j]? =some mA by simpa using aV]
             rw[<-this];exact xY
            have dp:(Instr.keyThatStays (((ents[j]?).map (·.key)).getD kv) kv).run P w=.ok kv w:=by
             simp only[Instr.keyThatStays,dt,Option.map_some,Option.getD_some,Oy bu xY ai dv.1,if_true,Sem.run_pure]
            obtain⟨w',cN,ea,dE⟩:=xW (P:=P) (c':=clock) ar hi aB aG (aE.set ab ai j)
            refine⟨w',?_,ea,dE⟩
            simp only[Instr.mapUpdate,Sem.run_bind,b7 hu,Result.andThen_ok,br,tg jc ai,c8,List.getElem?_toArray,dp,I6,cN]
         · rename_i aM
           cases h
           obtain⟨r',c8,c9⟩:=v7 (P:=P) (w:=w) ar jc ai aE aM
           cases r' with
           |some y=>exact c9.elim
           |none=>
            obtain⟨w',cN,ea,dE⟩:=xW (P:=P) (c':=clock+1) (ents':=ents++[⟨kv,bK,clock⟩]) ar hi aB aG (aE.append (show hE μ [⟨k,x,clock⟩] [⟨kv,bK,clock⟩] from⟨_,_,rfl,⟨ai,ab,rfl⟩,rfl⟩))
            refine⟨w',?_,ea,dE⟩
            simp only[Instr.mapUpdate,Sem.run_bind,b7 hu,Result.andThen_ok,br,tg jc ai,c8,List.push_toArray,cN]
         · cases h
       · cases h
     · cases h
   · cases h
 · cases h
theorem Xo(ar:bI μ H w)(hm:bq μ m pe)(ai:bq μ k kv)(h:E0 P H t m k=some (v,a7)):gT P μ H w (Instr.mapEntry t pe kv) v a7:=by
 unfold E0 at h
 split at h
 · rename_i kt iX hu
   split at h
   · rename_i jc
     split at h
     · rename_i r
       split at h
       · rename_i es clock aB
         obtain⟨i,hi,rfl⟩:=hm
         obtain⟨ents,aG,aE,br⟩:=Ci (P:=P) ar hi aB
         split at h
         · rename_i j a aM
           split at h
           · rename_i mA p2
             have xY:vI k mA.key=true:=by
              cases ak:vI k mA.key with
              |true=>rfl
              |false=>rw[ak] at h;cases h
             rw[xY] at h
             cases h
             rw[j0] at p2
             obtain⟨r',c8,c9⟩:=v7 (P:=P) (w:=w) ar jc ai aE aM
             cases r' with
             |none=>exact c9.elim
             |some y=>
              obtain⟨k1,u⟩:=y
              obtain⟨rfl,z9⟩:=c9
              obtain⟨_,OA,aV,aU,bu⟩:=I4 es 0 j a aM
              have:OA=mA:=by
               have OB:es[j]? =some OA:=by simpa using aV
               rw[p2] at OB;cases OB;rfl
              subst this
              obtain⟨xZ,dt,dv⟩:=aE.get p2
              have dp:(Instr.keyThatStays (((ents[j]?).map (·.key)).getD kv) kv).run P w=.ok kv w:=by
               simp only[Instr.keyThatStays,dt,Option.map_some,Option.getD_some,Oy bu xY ai dv.1,if_true,Sem.run_pure]
              have I7:hE μ (xD a k j es) (ents.modify j λe=>{e with key:=kv}):=by
               have ah:=aE.set (v:=a) (vv:=xZ.val) (key:=k) (kv:=kv) (by rw[<-aU];exact dv.2.1) ai j
               have:(ents.modify j λe=>{e with key:=kv,val:=xZ.val})=(ents.modify j λe=>{e with key:=kv}):=by
                apply List.ext_getElem?
                intro q
                rw[List.getElem?_modify,List.getElem?_modify]
                by_cases bB:j=q
                · subst bB;rw[dt];simp
                · simp[bB]
               rw[<-this];exact ah
              obtain⟨w',cN,ea,dE⟩:=xW (P:=P) (c':=clock) ar hi aB aG I7
              refine⟨μ,w',.tuple #[u,.int .i64 (xZ.born:Int)],?_,⟨_,rfl,_,_,rfl,z9,_,_,rfl,by rw[dv.2.2];rfl,rfl⟩,ea,dE⟩
              rw[dt,Option.map_some,Option.getD_some] at dp
              simp only[Instr.mapEntry,Sem.run_bind,b7 hu,Result.andThen_ok,br,tg jc ai,c8,List.getElem?_toArray,dt,Option.map_some,Option.getD_some,dp,I6,cN,goInt,Sem.run_pure]
           · cases h
         · rename_i aM
           split at h
           · rename_i z bm
             cases h
             obtain⟨g8,Cj,rfl,_⟩:=o9 (P:=P) (w:=w) bm
             obtain⟨r',c8,c9⟩:=v7 (P:=P) (w:=w) ar jc ai aE aM
             cases r' with
             |some y=>exact c9.elim
             |none=>
              obtain⟨w',cN,ea,dE⟩:=xW (P:=P) (c':=clock+1) (ents':=ents++[⟨kv,g8,clock⟩]) ar hi aB aG (aE.append (show hE μ [⟨k,r0 g8,clock⟩] [⟨kv,g8,clock⟩] from⟨_,_,rfl,⟨ai,mu μ g8,rfl⟩,rfl⟩))
              refine⟨μ,w',.tuple #[g8,.int .i64 (clock:Int)],?_,⟨_,rfl,_,_,rfl,mu μ g8,_,_,rfl,rfl,rfl⟩,ea,dE⟩
              simp only[Instr.mapEntry,Sem.run_bind,b7 hu,Result.andThen_ok,br,tg jc ai,c8,Cj,List.push_toArray,cN,goInt,Sem.run_pure]
           · cases h
         · cases h
       · cases h
     · cases h
   · cases h
 · cases h
theorem OC{born:Int}:∀(es:List ga) (ents:List MapEntry) (i j:Nat) (e:ga),hE μ es ents->BM born es i=some (j,e)->i<=j/\es[j-i]? =some e/\ents.findIdx? (λm=>(m.born:Int)==born)=some (j-i)
 |[],_,i,j,e,_,h=>by simp[BM] at h
 |x::es,_,i,j,e,⟨m,ms,aG,aE,br⟩,h=>by
  subst aG
  simp only[BM] at h
  have ag:jM (Int.ofNat x.born) born=((m.born:Int)==born):=by rw[aE.2.2];rfl
  split at h
  · rename_i ah
    cases h
    rw[ag] at ah
    exact⟨Nat.le_refl _,by simp,by simp[List.findIdx?_cons,ah]⟩
  · rename_i ah
    rw[ag] at ah
    obtain⟨aV,aU,bu⟩:=OC es ms (i+1) j e br h
    have:j-i=(j-(i+1))+1:=by omega
    refine⟨by omega,by rw[this];simpa using aU,?_⟩
    rw[this]
    simp[List.findIdx?_cons,ah,bu]
theorem Xp(ar:bI μ H w){s:aa}{q6:Value}(hm:bq μ m pe)(ah:bq μ s q6)(ab:bq μ x bK)(h:E1 H m s x=some a7):
  ∃w',(Instr.entryStore t pe q6 bK).run P w=.ok () w'/\bI μ a7 w'/\cD μ H w μ a7 w':=by
 unfold E1 at h
 split at h
 · rename_i r d_ born
   split at h
   · rename_i es clock aB
     split at h
     · rename_i j mA ag
       cases h
       cases ah
       obtain⟨i,hi,rfl⟩:=hm
       obtain⟨ents,aG,aE,br⟩:=Ci (P:=P) ar hi aB
       obtain⟨_,aV,aU⟩:=OC es ents 0 j mA aE ag
       obtain⟨xZ,dt,dv⟩:=aE.get (by simpa using aV)
       have I7:hE μ (xD x mA.key j es) (ents.modify j λe=>{e with val:=bK}):=by
        have ah:=aE.set (v:=x) (vv:=bK) (key:=mA.key) (kv:=xZ.key) ab dv.1 j
        have:(ents.modify j λe=>{e with key:=xZ.key,val:=bK})=(ents.modify j λe=>{e with val:=bK}):=by
         apply List.ext_getElem?
         intro q
         rw[List.getElem?_modify,List.getElem?_modify]
         by_cases bB:j=q
         · subst bB;rw[dt];simp
         · simp[bB]
        rw[<-this];exact ah
       obtain⟨w',cN,ea,dE⟩:=xW (P:=P) (c':=clock) ar hi aB aG I7
       refine⟨w',?_,ea,dE⟩
       have Xq:(⟨ents⟩:Array MapEntry).findIdx? (λe=>(e.born:Int)==born)=some j:=by
        have:=aU
        simp only[Nat.sub_zero] at this
        rw[<-this];simp
       simp only[Instr.entryStore,Sem.run_bind,Result.andThen_ok,br,asInt,asIntOf,Sem.run_pure,Xq,I6,cN]
     · cases h
   · cases h
 · cases h
theorem Xr(ar:bI μ H w){argTypes:Array TypeId}{ty:TypeId}(h0:argTypes[0]? =some t)(hm:bq μ m pe)(ai:bq μ k kv)(h:E2 P H t m k=some (v,a7)):
  gT P μ H w (Builtin.delete_ argTypes ty #[pe,kv]) v a7:=by
 unfold E2 at h
 split at h
 · rename_i kt iX hu
   split at h
   · rename_i jc
     split at h
     · cases h;cases hm
       refine .same ar (v':=.tuple #[]) ?_ ⟨[],rfl,rfl⟩
       simp[Builtin.delete_,h0,b7 hu,tg jc ai]
     · rename_i r
       split at h
       · rename_i es clock aB
         obtain⟨i,hi,rfl⟩:=hm
         obtain⟨ents,aG,aE,br⟩:=Ci (P:=P) ar hi aB
         split at h
         · rename_i j a aM
           cases h
           obtain⟨r',c8,c9⟩:=v7 (P:=P) (w:=w) ar jc ai aE aM
           cases r' with
           |none=>exact c9.elim
           |some y=>
            obtain⟨k1,u⟩:=y
            obtain⟨rfl,z9⟩:=c9
            obtain⟨w',cN,ea,dE⟩:=xW (P:=P) (c':=clock) ar hi aB aG (aE.del j)
            refine⟨μ,w',.tuple #[],?_,⟨[],rfl,rfl⟩,ea,dE⟩
            have he:(⟨ents⟩:Array MapEntry).eraseIdxIfInBounds j=⟨ents.eraseIdx j⟩:=by
             apply Array.ext'
             simp
            simp[Builtin.delete_,h0,b7 hu,tg jc ai,br,c8,he,cN]
         · rename_i aM
           cases h
           obtain⟨r',c8,c9⟩:=v7 (P:=P) (w:=w) ar jc ai aE aM
           cases r' with
           |some y=>exact c9.elim
           |none=>
            obtain⟨w',cN,ea,dE⟩:=xW (P:=P) (c':=clock) ar hi aB aG aE
            refine⟨μ,w',.tuple #[],?_,⟨[],rfl,rfl⟩,ea,dE⟩
            simp[Builtin.delete_,h0,b7 hu,tg jc ai,br,c8,cN]
         · cases h
       · cases h
     · cases h
   · cases h
 · cases h
theorem Xs(ar:bI μ H w):gT P μ H w (Instr.makeMap t none) (.map H.n) (H.push (.map [] 0)):=by
 obtain⟨bt,b3⟩:=ar.alloc (.map [] 0) (.map #[] 0) 0 ⟨[],World.heap_alloc_new _ _,rfl⟩
 exact⟨_,_,.map (some w.heap.size),rfl,⟨_,h7 _ _ _,rfl⟩,bt,b3⟩
theorem Xt(ar:bI μ H w){k:IntKind}{n:Int}(hu:P.underlying t=some (.map kt iX)):gT P μ H w (Instr.makeMap t (some (.int k n))) (.map H.n) (H.push (.map [] 0)):=by
 obtain⟨bt,b3⟩:=ar.alloc (.map [] 0) (.map #[] 0) 0 ⟨[],World.heap_alloc_new _ _,rfl⟩
 refine⟨_,_,.map (some w.heap.size),?_,⟨_,h7 _ _ _,rfl⟩,bt,b3⟩
 simp only[Instr.makeMap,Sem.run_bind,b7 hu,Result.andThen_ok,asInt,asIntOf,Sem.run_pure,run_newObj]
 rfl
theorem Xu(ar:bI μ H w)(hu:P.underlying t=some .string){s:List UInt8}(ab:bq μ (.str s) bK):gT P μ H w (Instr.range t bK) (.ptr H.n 0) (H.push (.fp s 0)):=by
 obtain⟨bs,rfl,rfl⟩:=ab
 obtain⟨bt,b3⟩:=ar.alloc (.fp bs.data.toList 0) (.stringIter bs 0) 0 ⟨rfl,bs,World.heap_alloc_new _ _,rfl⟩
 refine⟨_,_,.pointer (some ⟨w.heap.size,0,none⟩),?_,⟨_,h7 _ _ _,rfl⟩,bt,b3⟩
 simp only[Instr.range,Sem.run_bind,b7 hu,Result.andThen_ok,Sem.run_pure,run_newObj]
 rfl
theorem Xv(ar:bI μ H w)(hu:P.underlying t=some (.map kt iX))(ab:bq μ .jA bK):gT P μ H w (Instr.range t bK) (.ptr H.n 0) (H.push (.mapIter none 0 [] 0)):=by
 cases ab
 obtain⟨bt,b3⟩:=ar.alloc (.mapIter none 0 [] 0) (.mapIter none 0 #[] 0) 0 ⟨rfl,World.heap_alloc_new _ _⟩
 refine⟨_,_,.pointer (some ⟨w.heap.size,0,none⟩),?_,⟨_,h7 _ _ _,rfl⟩,bt,b3⟩
 simp only[Instr.range,Sem.run_bind,b7 hu,Result.andThen_ok,Sem.run_pure,run_newObj]
 rfl
def OD(at':Nat->Nat)(lt:Nat->Bool):Nat×Nat:=
 let cont (k:Nat):Bool:=lt k&&at' k/64==2
 let bE:=at' 0
 if bE<0x80 then(bE,1)
 else if bE/32==6&&cont 1 then
  let c:=(bE %32)*64+at' 1 %64
  if c>=0x80 then(c,2) else(Utf8.runeError,1)
 else if bE/16==14&&cont 1&&cont 2 then
  let c:=(bE %16)*4096+(at' 1 %64)*64+at' 2 %64
  if c>=0x800&&Utf8.valid c then(c,3) else(Utf8.runeError,1)
 else if bE/8==30&&cont 1&&cont 2&&cont 3 then
  let c:=(bE %8)*262144+(at' 1 %64)*4096+(at' 2 %64)*64+at' 3 %64
  if c>=0x10000&&Utf8.valid c then(c,4) else(Utf8.runeError,1)
 else(Utf8.runeError,1)
theorem I8(s:ByteArray)(i:Nat):Utf8.decode s i=OD (λk=>(s.get! (i+k)).toNat) (λk=>decide (i+k<s.size)):=rfl
theorem Xw(full:ByteArray)(pos:Nat)(a3:pos<=full.size):Utf8.decode full pos=Utf8.decode ⟨(full.data.toList.drop pos).toArray⟩ 0:=by
 have z7:full.data.toList.length=full.size:=Array.length_toList
 have bQ:(⟨(full.data.toList.drop pos).toArray⟩:ByteArray).size=full.size-pos:=by
  show((full.data.toList.drop pos).toArray).size=_
  rw[List.size_toArray,List.length_drop,z7]
 have eG:∀k,full.get! (pos+k)=(⟨(full.data.toList.drop pos).toArray⟩:ByteArray).get! (0+k):=λk=>by
  show full.data[pos+k]! =((full.data.toList.drop pos).toArray)[0+k]!
  rw[Nat.zero_add]
  rw[getElem!_def,getElem!_def]
  have:((full.data.toList.drop pos).toArray)[k]? =full.data[pos+k]? :=by
   rw[List.getElem?_toArray,List.getElem?_drop,Array.getElem?_toList]
  rw[this]
 rw[I8,I8]
 have a_:(λk=>(full.get! (pos+k)).toNat)=(λk=>((⟨(full.data.toList.drop pos).toArray⟩:ByteArray).get! (0+k)).toNat):=by
  funext k;rw[eG k]
 have ag:(λk=>decide (pos+k<full.size))=(λk=>decide (0+k<(⟨(full.data.toList.drop pos).toArray⟩:ByteArray).size)):=by
  funext k
  exact decide_eq_decide.2 (by rw[bQ];omega)
 rw[a_,ag]
theorem Xx(ar:bI μ H w){it:aa}{Ck:Value}(hi:bq μ it Ck){b:Bool}(h:kh H it b=some (v,a7)):gT P μ H w (Instr.next Ck b t) v a7:=by
 unfold kh at h
 split at h
 · rename_i r
   obtain⟨i,k3,rfl⟩:=hi
   split at h
   · rename_i s pos aB
     obtain⟨c_,full,aG,aE⟩:=ar.rel _ _ i aB k3
     obtain⟨kH,i0,Fy⟩:=i
     simp only at c_;subst c_
     have eG:(getObj kH).run P w=.ok (.stringIter full pos) w:=by simp[getObj,Sem.run,aG]
     have z7:full.data.toList.length=full.size:=Array.length_toList
     have OE:=congrArg List.length aE
     rw[List.length_drop,z7] at OE
     split at h
     · cases h
       have aT:¬pos<full.size:=by simp at OE;omega
       exact .same ar (v':=.tuple #[.bool false]) (by simp[Instr.next,eG,aT]) ⟨_,rfl,_,_,rfl,rfl,rfl⟩
     · rename_i dk
       have cf:pos<full.size:=by
        rcases Nat.lt_or_ge pos full.size with h|h
        · exact h
        · exfalso;apply dk
          exact List.length_eq_zero_iff.1 (by omega)
       have OF:Utf8.decode full pos=BN s:=by rw[Xw full pos (by omega),aE];rfl
       generalize BN s=I9 at OF h
       obtain⟨c,wd⟩:=I9
       cases h
       have Xy:kH<w.heap.size:=(ar.lt _ _ k3).2
       obtain⟨bt,b3⟩:=ar.update (w':={w with heap:=w.heap.setIfInBounds kH (.stringIter full (pos+wd))}) (o':=.fp (lC wd s) (pos+wd)) aB rfl k3 (by simp) (λr aj=>by simp[Array.getElem?_setIfInBounds];intro e;exact absurd e.symm aj) rfl rfl rfl
        ⟨rfl,full,by simp[Xy],by rw[om,<-aE,List.drop_drop]⟩
       refine⟨μ,_,.tuple #[.bool true,.int .i64 (pos:Int),.int .i32 (c:Int)],?_,⟨_,rfl,_,_,rfl,rfl,_,_,rfl,rfl,_,_,rfl,rfl,rfl⟩,bt,b3⟩
       have uz:(setObj kH (.stringIter full (pos+wd))).run P w=.ok () {w with heap:=w.heap.setIfInBounds kH (.stringIter full (pos+wd))}:=by simp[setObj,Sem.run,aG]
       simp[Instr.next,eG,cf,OF,uz,goInt]
   · rename_i since seen last aB
     cases h
     obtain⟨c_,aG⟩:=ar.rel _ _ i aB k3
     obtain⟨kH,i0,Fy⟩:=i
     simp only at c_;subst c_
     have I_:w.heap[kH]? =some (.mapIter none since ⟨seen⟩ last):=aG
     have eG:(getObj kH).run P w=.ok (.mapIter none since ⟨seen⟩ last) w:=by simp[getObj,Sem.run,I_]
     exact .same ar (v':=.tuple #[.bool false]) (by simp[Instr.next,eG]) ⟨_,rfl,_,_,rfl,rfl,rfl⟩
   · cases h
 · cases h
theorem OG:∀(es:List ga) (ms:List MapEntry) (b:Nat) (e:ga),hE μ es ms->BO b es=some e->∃m,ms.find? (λx=>x.born==b)=some m/\zX μ e m
 |[],ms,b,e,aj,h=>by simp[BO] at h
 |x::es,ms,b,e,aj,h=>by
  obtain⟨m,Xz,rfl,J,ae⟩:=aj
  unfold BO at h
  rw[List.find?_cons,<-J.2.2]
  cases ag:Nat.beq x.born b with
  |true=>
   rw[ag] at h
   cases h
   have:x.born=b:=Nat.eq_of_beq_eq_true ag
   rw[this]
   simp only[beq_self_eq_true]
   exact⟨m,rfl,J⟩
  |false=>
   rw[ag] at h
   have:(x.born==b)=false:=by
    cases ak:x.born==b with
    |false=>rfl
    |true=>rw[beq_iff_eq.1 ak] at ag;rw[Nat.beq_refl] at ag;cases ag
   rw[this]
   exact OG es Xz b e ae h
theorem OH:∀(l:List Nat),E3 l=l.getLast?
 |[]=>rfl
 |[b]=>rfl
 |a::b::l=>by
  show E3 (b::l)=_
  rw[OH (b::l),List.getLast?_cons_cons]
theorem XA(ar:bI μ H w){it:aa}{Ck:Value}(hi:bq μ it Ck)(h:E4 H it=some v):gT P μ H w (Instr.entry Ck) v H:=by
 unfold E4 at h
 split at h
 · rename_i r
   obtain⟨i,k3,rfl⟩:=hi
   split at h
   · rename_i m since seen last aB
     obtain⟨c_,j,aL,aG⟩:=ar.rel _ _ i aB k3
     obtain⟨kH,i0,Fy⟩:=i
     simp only at c_;subst c_
     have I_:w.heap[kH]? =some (.mapIter (some j.bo) since ⟨seen⟩ last):=aG
     split at h
     · rename_i es clock b Ja XB
       obtain⟨ents,f1,f2⟩:=ar.rel _ _ j Ja aL
       split at h
       · rename_i kj
         have kj:clock=last:=Nat.eq_of_beq_eq_true kj
         split at h
         · rename_i e XC
           cases h
           obtain⟨Jb,al,aw⟩:=OG es ents b e f2 XC
           have eG:(getObj kH).run P w=.ok (.mapIter (some j.bo) since ⟨seen⟩ last) w:=by simp[getObj,Sem.run,I_]
           have XD:(getObj j.bo).run P w=.ok (.map ⟨ents⟩ clock) w:=by simp[getObj,Sem.run,f1]
           have XE:(⟨seen⟩:Array Nat).back?=some b:=by
            rw[<-XB,OH];simp
           have Cl:(⟨ents⟩:Array MapEntry).find? (λx=>x.born==b)=some Jb:=by rw[<-al];simp
           refine .same ar (v':=.tuple #[Jb.key,Jb.val]) ?_ ⟨_,rfl,_,_,rfl,aw.1,_,_,rfl,aw.2.1,rfl⟩
           have dk:(clock !=last)=false:=by simp[kj]
           simp only[Instr.entry,Sem.run_bind,eG,Result.andThen_ok,XE,XD,dk,Bool.false_eq_true,if_false,Cl]
           rfl
         · cases h
       · cases h
     · cases h
   · cases h
 · cases h
end
end aJ
namespace aJ
open Go
variable {a bK x:Value}{mU mV:Operand}{op:BinOp}{t:TypeId}{v y:aa}
section
variable {P:Program} {μ:bG} {H:I} {w:World}
theorem XF(k:IntKind)(x y:Int)(h:arith .xor k x y=some v):∃u,(Op.intBits .xor k x y).run P w=.ok u w/\bq μ v u:=by
 simp only[arith] at h;cases h;exact⟨_,rfl,rfl⟩
theorem XG{b:Bool}(ab:bq μ (.bool b) x):∃u,(Op.unary .not x).run P w=.ok u w/\bq μ (.bool (!b)) u:=by
 cases ab;exact⟨_,rfl,rfl⟩
theorem XH{k:IntKind}{n:Int}(ab:bq μ (.int k n) x):∃u,(Op.unary .neg x).run P w=.ok u w/\bq μ (.int k (k.wrap (0-n))) u:=by
 cases ab;exact⟨_,rfl,rfl⟩
theorem XI{k:IntKind}{n:Int}(ab:bq μ (.int k n) x)(h:arith .xor k (if k.signed then-1 else k.max) n=some v):∃u,(Op.unary .xor x).run P w=.ok u w/\bq μ v u:=by
 cases ab;exact XF k _ n h
def x0:Value->Bool
 |.int _ _|.float _ _|.complex _ _ _|.string _=>true
 |_=>false
theorem binOp_eql(t:TypeId){y:Value}(h:x0 x=false):binOp .eql t x y=(do pure (.bool (<-Op.equal t x y))):=by
 cases x<;>simp[x0] at h<;>cases y<;>rfl
theorem binOp_neq(t:TypeId){y:Value}(h:x0 x=false):binOp .neq t x y=(do pure (.bool (!(<-Op.equal t x y)))):=by
 cases x<;>simp[x0] at h<;>cases y<;>rfl
theorem OI:∀{d:Nat} {t:TypeId} {x y:aa} {b:Bool} {bK:Value},kg P H d t x y=some b->(∀j a k c,¬(x=.int j a/\y=.int k c))->(∀a c,¬(x=.str a/\y=.str c))->bq μ x bK->x0 bK=false:=by
 intro d t x y b bK h hi ah ab
 cases d with
 |zero=>simp[kg] at h
 |succ d=>
  cases x with
  |bad=>unfold kg at h;split at h<;>simp at h
  |int j a=>
   unfold kg at h
   split at h
   all_goals first
    |(cases y<;>simp at h;done)
    |(cases y<;>simp at h;exact absurd ⟨rfl,rfl⟩ (hi _ _ _ _))
    |cases h
  |str a=>
   unfold kg at h
   split at h
   all_goals first
    |(cases y<;>simp at h;done)
    |(cases y<;>simp at h;exact absurd ⟨rfl,rfl⟩ (ah _ _))
    |cases h
  |bool b=>cases ab;rfl
  |au=>cases ab;rfl
  |ptr b off=>obtain⟨i,_,rfl⟩:=ab;rfl
  |ao=>cases ab;rfl
  |slice b off n c=>
   obtain⟨i,_,ak⟩:=ab
   cases c with
   |exact c=>cases ak;rfl
   |aX h3=>obtain⟨c,rfl,_⟩:=ak;rfl
   |dead=>obtain⟨_,a,c,rfl⟩:=ak;rfl
  |jA=>cases ab;rfl
  |map r=>obtain⟨i,_,rfl⟩:=ab;rfl
  |lg=>cases ab;rfl
  |fn f a b=>obtain⟨_,_,rfl,_⟩:=ab;rfl
  |gJ l=>obtain⟨i,_,rfl⟩:=ab;rfl
  |c3=>cases ab;rfl
  |iface t x=>obtain⟨_,rfl,_⟩:=ab;rfl
  |agg cs=>obtain⟨_,rfl,_⟩:=ab;rfl
  |aF cs=>obtain⟨_,rfl,_⟩:=ab;rfl
theorem OJ(h:op≠ .eql)(ay:op≠ .neq)(t:TypeId)(mU mV:Operand)(a b:Value):(eqGuard op t mU mV a b).run P w=.ok () w:=by
 cases op<;>first|exact absurd rfl h|exact absurd rfl ay|simp[eqGuard]
def v8:Value->Nat
 |.nilIface=>1
 |.agg _=>2
 |_=>0
theorem Jc(gz:op=.eql\/op=.neq){b:Value}(h:v8 a=0\/v8 a≠v8 b):(eqGuard op t mU mV a b).run P w=.ok () w:=by
 rcases gz with rfl|rfl<;>(cases a<;>first|rfl|(cases b<;>first|rfl|simp[v8] at h))
def x1:aa->Nat
 |.c3=>1
 |.agg _=>2
 |_=>0
theorem OK{x:aa}(ab:bq μ x a)(ag:x≠ .bad):v8 a=x1 x:=by
 cases x with
 |bad=>exact absurd rfl ag
 |bool b=>cases ab;rfl
 |int k n=>cases ab;rfl
 |str s=>obtain⟨_,rfl,_⟩:=ab;rfl
 |au=>cases ab;rfl
 |ptr b off=>obtain⟨i,_,rfl⟩:=ab;rfl
 |ao=>cases ab;rfl
 |slice b off n c=>
  obtain⟨i,_,ak⟩:=ab
  cases c with
  |exact c=>cases ak;rfl
  |aX h3=>obtain⟨c,rfl,_⟩:=ak;rfl
  |dead=>obtain⟨_,a,c,rfl⟩:=ak;rfl
 |jA=>cases ab;rfl
 |map r=>obtain⟨i,_,rfl⟩:=ab;rfl
 |lg=>cases ab;rfl
 |fn f a b=>obtain⟨_,_,rfl,_⟩:=ab;rfl
 |gJ l=>obtain⟨i,_,rfl⟩:=ab;rfl
 |c3=>cases ab;rfl
 |iface t x=>obtain⟨_,rfl,_⟩:=ab;rfl
 |agg cs=>obtain⟨_,rfl,_⟩:=ab;rfl
 |aF cs=>obtain⟨_,rfl,_⟩:=ab;rfl
theorem OL(gz:op=.eql\/op=.neq){x:aa}{b:Value}(ab:bq μ x a)(bH:bq μ y b)(OM:x≠ .bad)(XJ:y≠ .bad)(h:vG P t mU mV x y=true):
  (eqGuard op t mU mV a b).run P w=.ok () w:=by
 have Fz:=OK ab OM
 have ch:=OK bH XJ
 by_cases aj:v8 a=0\/v8 a≠v8 b
 · exact Jc gz aj
 · have J:x1 x≠0:=λe=>aj (.inl (Fz.trans e))
   have ae:x1 x=x1 y:=by
    rw[<-Fz,<-ch];exact Classical.byContradiction λe=>aj (.inr e)
   cases x<;>simp[x1] at J
   · cases y<;>simp[x1] at ae
     cases ab;cases bH
     simp only[vG] at h
     rcases gz with rfl|rfl<;>(cases mU<;>cases mV<;>first|rfl|simp at h)
   · cases y<;>simp[x1] at ae
     obtain⟨fw,rfl,_⟩:=ab
     obtain⟨gw,rfl,_⟩:=bH
     simp only[vG,Bool.not_eq_true'] at h
     rcases gz with rfl|rfl<;>simp[eqGuard,h]
theorem ON{d:Nat}{x:aa}{b:Bool}(h:kg P H d t x y=some b):x≠ .bad/\y≠ .bad:=by
 cases d with
 |zero=>simp[kg] at h
 |succ d=>
  constructor
  · rintro rfl;unfold kg at h;split at h<;>simp at h
  · rintro rfl;unfold kg at h;split at h<;>(try cases x)<;>simp at h
theorem XK(ar:bI μ H w){yt:TypeId}{x:aa}{h_:Value}(ab:bq μ x bK)(bH:bq μ y h_)(h:hs P H op t mU mV x y=some v):
  ∃u,(do eqGuard op t mU mV bK h_;binOp op t bK h_:Sem Value).run P w=.ok u w/\bq μ v u:=by
 unfold hs at h
 split at h
 · rename_i k a k' b
   cases ab;cases bH
   have aB:(eqGuard op t mU mV (.int k a) (.int k' b)).run P w=.ok () w:=by
    by_cases gz:op=.eql\/op=.neq
    · exact Jc gz (.inl rfl)
    · exact OJ (λe=>gz (.inl e)) (λe=>gz (.inr e)) t mU mV _ _
   simp only[Sem.run_bind,aB,Result.andThen_ok]
   split at h
   · exact NX h t
   · exact NX h t
   · rename_i J ae
     split at h
     · rename_i ai;subst ai
       exact Wy h ⟨J,ae⟩ t
     · cases h
 · rename_i a b
   obtain⟨s1,rfl,rfl⟩:=ab
   obtain⟨s2,rfl,rfl⟩:=bH
   have aB:(eqGuard op t mU mV (.string s1) (.string s2)).run P w=.ok () w:=by
    by_cases gz:op=.eql\/op=.neq
    · exact Jc gz (.inl rfl)
    · exact OJ (λe=>gz (.inl e)) (λe=>gz (.inr e)) t mU mV _ _
   simp only[Sem.run_bind,aB,Result.andThen_ok]
   exact WA h t
 · rename_i eT q_
   split at h
   · split at h
     · rename_i fB
       split at h
       · rename_i b he
         cases h
         obtain⟨bd,b2⟩:=ON he
         have aB:=OL (w:=w) (op:=.eql) (.inl rfl) ab bH bd b2 fB
         have aT:x0 bK=false:=OI he (λj a k c e=>eT j a k c e.1 e.2) (λa c e=>q_ a c e.1 e.2) ab
         have aj:=xV (P:=P) ar 100 t x y b bK h_ Op.maxDepth (by decide) he ab bH
         refine⟨.bool b,?_,rfl⟩
         simp only[Sem.run_bind,aB,Result.andThen_ok,binOp_eql t aT,Op.equal,aj,Sem.run_pure]
       · cases h
     · cases h
   · split at h
     · rename_i fB
       split at h
       · rename_i b he
         cases h
         obtain⟨bd,b2⟩:=ON he
         have aB:=OL (w:=w) (op:=.neq) (.inr rfl) ab bH bd b2 fB
         have aT:x0 bK=false:=OI he (λj a k c e=>eT j a k c e.1 e.2) (λa c e=>q_ a c e.1 e.2) ab
         have aj:=xV (P:=P) ar 100 t x y b bK h_ Op.maxDepth (by decide) he ab bH
         refine⟨.bool (!b),?_,rfl⟩
         simp only[Sem.run_bind,aB,Result.andThen_ok,binOp_neq t aT,Op.equal,aj,Sem.run_pure]
       · cases h
     · cases h
   · cases h
theorem XL{d:TypeDesc}(hu:P.underlying t=some d)(eT:∀m,d≠ .interface m){x:aa}(ab:bq μ x bK):
  (Instr.makeInterface t bK).run P w=.ok (.iface t bK) w:=by
 simp only[Instr.makeInterface,Sem.run_bind,b7 hu,Result.andThen_ok]
 cases d<;>first|rfl|exact absurd rfl (eT _)
theorem OO{xT as:TypeId}{ok:Bool}{d:TypeDesc}(hu:P.underlying as=some d)(eT:∀m,d≠ .interface m){x:aa}(ab:bq μ x bK):
  (∀z,x=.c3->ok=true->gu P as=some z->∃u,(Instr.typeAssert bK xT as ok).run P w=.ok u w/\bq μ (.aF [z,.bool false]) u)/\
  (∀v,x=.iface as v->∃u,(Instr.typeAssert bK xT as ok).run P w=.ok u w/\bq μ (if ok then .aF [v,.bool true] else v) u)/\
  (∀t v z,x=.iface t v->t≠as->ok=true->gu P as=some z->∃u,(Instr.typeAssert bK xT as ok).run P w=.ok u w/\bq μ (.aF [z,.bool false]) u):=by
 refine⟨λz l1 fB bm=>?_,λv l1=>?_,λt v z l1 dk fB bm=>?_⟩
 · subst l1;cases ab;subst fB
   obtain⟨g8,Cj,rfl,_⟩:=o9 (P:=P) (w:=w) bm
   refine⟨.tuple #[g8,.bool false],?_,⟨_,rfl,_,_,rfl,mu μ g8,_,_,rfl,rfl,rfl⟩⟩
   simp only[Instr.typeAssert,Sem.run_bind,b7 hu,Result.andThen_ok]
   cases d<;>first|exact absurd rfl (eT _)|simp[Cj]
 · subst l1;obtain⟨y,rfl,bH⟩:=ab
   refine⟨if ok then .tuple #[y,.bool true] else y,?_,?_⟩
   · simp only[Instr.typeAssert,Sem.run_bind,b7 hu,Result.andThen_ok]
     cases d<;>first|exact absurd rfl (eT _)|simp
   · cases ok
     · exact bH
     · exact⟨_,rfl,_,_,rfl,bH,_,_,rfl,rfl,rfl⟩
 · subst l1;obtain⟨y,rfl,bH⟩:=ab;subst fB
   obtain⟨g8,Cj,rfl,_⟩:=o9 (P:=P) (w:=w) bm
   refine⟨.tuple #[g8,.bool false],?_,⟨_,rfl,_,_,rfl,mu μ g8,_,_,rfl,rfl,rfl⟩⟩
   simp only[Instr.typeAssert,Sem.run_bind,b7 hu,Result.andThen_ok]
   cases d<;>first|exact absurd rfl (eT _)|simp[Cj,dk]
theorem XM{vs:List aa}{i:Nat}(ab:bq μ (.aF vs) x)(h:nth i vs=some v):∃u,(Instr.extract x i).run P w=.ok u w/\bq μ v u:=by
 obtain⟨l,rfl,aA⟩:=ab
 rw[j0] at h
 obtain⟨u,hu,aj⟩:=aA.get h
 refine⟨u,?_,aj⟩
 simp[Instr.extract,hu]
theorem OP{r el:Nat}{c:Array Value}{dy:Nat×Nat}(h:w.heap[r]? =some (.cells c el dy)):(viewAt r).run P w=.ok none w:=by
 simp[viewAt,World.shape?,h]
theorem OQ(ar:bI μ H w){src dst u:TypeId}{b off n:Nat}{cs:List aa}{el lo hi:Nat}{k:ff}(ah:P.underlying src=some (.pointer u))(aH:P.underlying dst=some .unsafePointer)
  (bm:eg P u=some (n+1))(aB:H.get b=some (.cells cs el k lo hi))(cf:off<cs.length)(ab:bq μ (.ptr b off) x):(convert src dst x).run P w=.ok x w:=by
 obtain⟨i,hi,rfl⟩:=ab
 obtain⟨c,fr,fs,aG,aE,br,dw⟩:=ar.rel _ _ i aB hi
 obtain⟨v,aW⟩:∃v,cs[off]? =some v:=⟨_,List.getElem?_eq_getElem cf⟩
 obtain⟨XN,hu,_⟩:=aE off v aW
 have eF:i.base+off<c.size:=by
  rcases Nat.lt_or_ge (i.base+off) c.size with h|h
  · exact h
  · rw[Array.getElem?_eq_none h] at hu;cases hu
 have r8:(Conv.seenAt ⟨i.bo,i.base+off,none⟩).run P w=.ok ⟨i.bo,i.base+off,none⟩ w:=by
  simp[Conv.seenAt,OP aG]
 have OR:(cellsIn i.bo).run P w=.ok (some c.size) w:=by simp[cellsIn,World.shape?,aG]
 have xO:¬(c.size<=i.base+off):=by omega
 simp[convert,b7 ah,b7 aH,Conv.unsafePointer,r8,OR,run_sizeOf bm,xO]
theorem OS(ar:bI μ H w){src dst u:TypeId}{b off n:Nat}{cs:List aa}{el lo hi:Nat}(ah:P.underlying src=some .unsafePointer)(aH:P.underlying dst=some (.pointer u))
  (bm:eg P u=some (n+1))(aB:H.get b=some (.cells cs el .own lo hi))(aA:liesAt P P.depth el (cs.length/P.cellsOf el) off u 1=true)(ab:bq μ (.ptr b off) x):(convert src dst x).run P w=.ok x w:=by
 obtain⟨i,hi,rfl⟩:=ab
 obtain⟨c,fr,fs,aG,aE,br,dw,hh,_⟩:=ar.rel _ _ i aB hi
 have ak:c.size=cs.length:=by omega
 have r8:(Conv.seenAt ⟨i.bo,i.base+off,none⟩).run P w=.ok ⟨i.bo,i.base+off,none⟩ w:=by
  simp[Conv.seenAt,OP aG]
 have Jd:(variablesAt ⟨i.bo,i.base+off,none⟩ u 1).run P w=.ok true w:=by
  simp[variablesAt,World.shape?,aG,dw,ak,aA]
 simp[convert,b7 ah,b7 aH,Conv.unsafePointer,r8,run_sizeOf bm,Jd]
end
end aJ
namespace aJ
open Go
section
variable {P:Program} {μ:bG} {H:I} {w:World}
theorem OT(ar:bI μ H w){b:Nat}{i:gx}(hi:μ b=some i){cs:List aa}{el lo e5:Nat}{k:ff}(aB:H.get b=some (.cells cs el k lo e5)):
  ∀(n off:Nat) (r:List aa) (bs:List UInt8) (acc:ByteArray),takeN n (lC off cs)=some r->pU r=some bs->
   (loadBytes ⟨i.bo,i.base+off,none⟩ acc n).run P w=.ok ⟨acc.data++bs.toArray⟩ w
 |0,off,r,bs,acc,h,ag=>by
  simp only[takeN] at h;cases h
  simp only[pU] at ag;cases ag
  simp[loadBytes]
 |n+1,off,r,bs,acc,h,ag=>by
  rw[om] at h
  cases aH:cs.drop off with
  |nil=>rw[aH] at h;simp[takeN] at h
  |cons a l=>
   rw[aH] at h
   simp only[takeN] at h
   cases aI:takeN n l with
   |none=>rw[aI] at h;cases h
   |some r'=>
    rw[aI] at h;cases h
    unfold pU at ag
    split at ag
    · rename_i heq;cases heq
    · rename_i m th heq
      cases heq
      split at ag
      · rename_i XO hm iZ
        cases ag
        have XP:cs[off]? =some (.int .u8 (Int.ofNat m)):=by
         have:=congrArg List.head? aH
         simpa[List.head?_drop] using this
        have aA:l=cs.drop (off+1):=by
         have:=congrArg List.tail aH
         simpa[List.tail_drop] using this.symm
        obtain⟨u,J,ae⟩:=IH (P:=P) (off:=off) ar hi (show aC H b off=some (.int .u8 (Int.ofNat m)) by simp[aC,aB,j0,XP])
        cases ae
        have bM:=OT ar hi aB n (off+1) r' XO (acc.push (UInt8.ofNat m)) (by rw[om,<-aA];exact aI) iZ
        have e:(⟨i.bo,i.base+off,none⟩:Addr).add 1=⟨i.bo,i.base+(off+1),none⟩:=by simp[Addr.add,Nat.add_assoc]
        simp only[loadBytes,Sem.run_bind,J,Result.andThen_ok,e]
        refine Eq.trans ?_ (bM.trans ?_)
        · rfl
        · congr 1
          simp[ByteArray.ext_iff,ByteArray.push]
      · cases ag
    · cases ag
theorem Je{α:Type}(p:Option Addr)(l:Value)(f:Option Addr->Value->α)(g:Array Value->α):Builtin.unsafeString_.match_3 (λ_=>α) #[.pointer p,l] f g=f p l:=rfl
theorem XQ(argTypes:Array TypeId)(ty pT:TypeId)(h0:argTypes[0]? =some pT)(k:IntKind)(m:Nat)(a:Addr)(u:TypeId)(hu:P.underlying pT=some (.pointer u))(ux:m≠0)(hm:m<=281474976710656)
  {s:ByteArray}(aW:(variablesAt a u m).run P w=.ok true w)(aA:(loadBytes a .empty m).run P w=.ok s w):
  (Builtin.unsafeString_ argTypes ty #[.pointer (some a),.int k (m:Int)]).run P w=.ok (.string s) (w.freeze a m):=by
 have Cm:¬((9223372036854775807:Int)<(m:Int)):=by omega
 have mw:IntKind.i64.max=9223372036854775807:=rfl
 have he:(elemOf pT).run P w=.ok u w:=by simp[elemOf,b7 hu]
 have OU:¬((m:Int)<0):=by omega
 delta Builtin.unsafeString_
 rw[Je]
 simp[asInt,asIntOf,h0,mw,Cm,ux,he,aW,aA,OU]
theorem OV(argTypes:Array TypeId)(ty pT:TypeId)(h0:argTypes[0]? =some pT)(k:IntKind)(p:Option Addr):(Builtin.unsafeString_ argTypes ty #[.pointer p,.int k 0]).run P w=.ok (.string .empty) w:=by
 have mw:IntKind.i64.max=9223372036854775807:=rfl
 cases p with
 |none=>
  delta Builtin.unsafeString_
  rw[Je]
  simp[asInt,asIntOf,h0,mw]
 |some a=>
  delta Builtin.unsafeString_
  rw[Je]
  simp[asInt,asIntOf,h0,mw]
theorem FA:P.depth=(2*(P.types.size+Made.depth)+1)+1:=rfl
theorem XR{e u count off n:Nat}(J:P.underlyingId e=P.underlyingId u)(ah:P.cellsOf e=1)(ag:off+n<=count):liesAt P P.depth e count off u n=true:=by
 have aA:sameLayout P P.depth e u=true:=by rw[FA];simp[sameLayout,J]
 have aj:rowAt P (sameLayout P P.depth · u) P.depth e count off n=true:=by
  rw[FA]
  unfold rowAt
  simp only[ah,Nat.div_one,Nat.mod_one]
  rw[FA] at aA
  simp[ag,aA]
 have:∀d,rowAt P (sameLayout P P.depth · u) P.depth e count off n=true->liesAt P (d+1) e count off u n=true:=λd h=>by
  unfold liesAt;rw[h];rfl
 conv=>lhs;arg 2;rw[FA]
 exact this _ aj
theorem XS(ar:bI μ H w){argTypes:Array TypeId}{ty pT:TypeId}(h0:argTypes[0]? =some pT){p n v:aa}{Jf Jg:Value}(a3:bq μ p Jf)(aT:bq μ n Jg){a7:I}(h:um P H pT p n=some (v,a7)):
  gT P μ H w (Builtin.unsafeString_ argTypes ty #[Jf,Jg]) v a7:=by
 unfold um at h
 have OW:∀m,hS n=some m->∃k,Jg=.int k (m:Int):=by
  intro m hm
  unfold hS at hm
  split at hm
  · cases hm;cases aT;exact⟨_,rfl⟩
  · cases hm
 split at h
 · rename_i bm
   cases h;cases a3
   obtain⟨k,rfl⟩:=OW 0 bm
   exact .same ar (v':=.string .empty) (OV argTypes ty pT h0 k none) ⟨.empty,rfl,rfl⟩
 · rename_i b off m hm
   obtain⟨k,rfl⟩:=OW m hm
   obtain⟨i,hi,rfl⟩:=a3
   split at h
   · rename_i bm
     cases h;subst bm
     exact .same ar (v':=.string .empty) (OV argTypes ty pT h0 k _) ⟨.empty,rfl,rfl⟩
   · rename_i ux
     split at h
     · rename_i u cs el d_ lo e5 hu aB
       split at h
       · rename_i ak
         simp only[Bool.and_eq_true,decide_eq_true_eq,Nat.ble_eq] at ak
         obtain⟨⟨⟨a9,cI⟩,gF⟩,hy⟩:=ak
         split at h
         · rename_i r aj
           split at h
           · rename_i bs ag
             cases h
             obtain⟨c,fr,fs,aG,aE,br,dw⟩:=ar.rel _ _ i aB hi
             have Jh:=OT (P:=P) ar hi aB m off r bs .empty aj ag
             have hlen:off+m<=cs.length:=by
              rw[om] at aj
              have:=(xL m _ _ aj).1
              rw[List.length_drop] at this
              omega
             have xM:0<m:=Nat.pos_of_ne_zero ux
             have eF:i.base+off+m<=c.size:=by
              obtain⟨x,ab⟩:∃x,cs[off+m-1]? =some x:=⟨_,List.getElem?_eq_getElem (by omega)⟩
              obtain⟨XN,vU,_⟩:=aE _ x ab
              rcases Nat.lt_or_ge (i.base+(off+m-1)) c.size with h|h
              · omega
              · rw[Array.getElem?_eq_none h] at vU;cases vU
             have OX:P.cellsOf el=1:=by
              unfold eg at cI
              unfold Program.cellsOf
              cases e5:P.info? el with
              |none=>rw[e5] at cI;cases cI
              |some ii=>rw[e5] at cI;simpa using cI
             have Jd:(variablesAt ⟨i.bo,i.base+off,none⟩ u m).run P w=.ok true w:=by
              have aA:=XR (P:=P) (e:=el) (u:=u) (count:=c.size/P.cellsOf el) (off:=i.base+off) (n:=m) a9 OX (by rw[OX];simpa using eF)
              simp[variablesAt,World.shape?,aG,aA]
             have dD:=XQ (P:=P) (w:=w) argTypes ty pT h0 k m _ u hu ux gF Jd Jh
             have XT:∃dy:Nat×Nat,w.freeze ⟨i.bo,i.base+off,none⟩ m={w with heap:=w.heap.modify i.bo λ
               |.cells c elem (lo,hi)=>.cells c elem (if lo==hi then(i.base+off,i.base+off+m) else(min lo (i.base+off),max hi (i.base+off+m)))
               |o=>o}/\(w.freeze ⟨i.bo,i.base+off,none⟩ m).heap[i.bo]? =some (.cells c el dy):=by
              have:w.freeze ⟨i.bo,i.base+off,none⟩ m={w with heap:=w.heap.modify i.bo λ
               |.cells c elem (lo,hi)=>.cells c elem (if lo==hi then(i.base+off,i.base+off+m) else(min lo (i.base+off),max hi (i.base+off+m)))
               |o=>o}:=by simp[World.freeze,ux];rfl
              refine⟨if fr==fs then(i.base+off,i.base+off+m) else(min fr (i.base+off),max fs (i.base+off+m)),this,?_⟩
              rw[this]
              simp[Array.getElem?_modify,aG]
             obtain⟨⟨f1,f2⟩,aV,aU⟩:=XT
             have hx:(b5.cells cs el d_ lo e5).q0=false:=by cases d_<;>first|rfl|exact absurd rfl hy
             obtain⟨bt,b3⟩:=ar.update (w':=w.freeze ⟨i.bo,i.base+off,none⟩ m) (o':=.cells cs el .fz lo e5) aB hx hi (by rw[aV];simp) (λr aj=>by rw[aV];simp[Array.getElem?_modify];intro e;exact absurd e.symm aj) (by rw[aV]) (by rw[aV]) (by rw[aV])
              ⟨c,f1,f2,aU,aE,br,trivial⟩ (hdr:=by rw[aV];exact Nat.le_refl _)
             exact⟨μ,_,.string _,dD,⟨_,rfl,by simp⟩,bt,b3⟩
           · cases h
         · cases h
       · cases h
     · cases h
 · cases h
theorem XU{argTypes:Array TypeId}{ty:TypeId}{x:aa}{bK:Value}(ab:bq μ x bK):
  (x=.ao->(Builtin.unsafeSliceData_ argTypes ty #[bK]).run P w=.ok (.pointer none) w)/\
  (∀b off n c,x=.slice b off n (.exact c)->c≠0->∃u,(Builtin.unsafeSliceData_ argTypes ty #[bK]).run P w=.ok u w/\bq μ (.ptr b off) u)/\
  (∀b off n e,x=.slice b off n (.aX e)->n≠0->∃u,(Builtin.unsafeSliceData_ argTypes ty #[bK]).run P w=.ok u w/\bq μ (.ptr b off) u):=by
 have key:∀(a:Addr) (n c:Nat),c≠0->(Builtin.unsafeSliceData_ argTypes ty #[.slice (some a) n c]).run P w=.ok (.pointer (some a)) w:=λa n c ak=>by
  obtain⟨k,rfl⟩:∃k,c=k+1:=⟨c-1,by omega⟩
  rfl
 refine⟨λh=>?_,λb off n c h ak=>?_,λb off n e h aT=>?_⟩
 · subst h;cases ab;rfl
 · subst h;obtain⟨i,hi,BY⟩:=ab;cases BY
   exact⟨_,key _ n c ak,i,hi,rfl⟩
 · subst h;obtain⟨i,hi,c,rfl,hle,_⟩:=ab
   exact⟨_,key _ n c (by omega),i,hi,rfl⟩
theorem OY{fv:Value}{first mT:List aa}{g:Nat}{args:List aa}{vs:List Value}(aM:bq μ (.fn g first mT) fv)(a_:cF μ args vs):
  ∃dh cs:List Value,(do let d<-Deferred.ofValue fv ⟨vs⟩;invoke d.target d.args:Sem Next).run P w=(callFunc g ⟨dh++vs++cs⟩).run P w/\cF μ (first++args++mT) (dh++vs++cs)/\
   (Deferred.ofValue fv ⟨vs⟩).run P w=.ok {target:=.fn (.func g) ⟨cs⟩,args:=⟨dh++vs⟩} w:=by
 obtain⟨dh,cs,rfl,J,ae⟩:=aM
 refine⟨dh,cs,?_,(J.append a_).append ae,?_⟩
 · simp[Deferred.ofValue,invoke]
 · simp[Deferred.ofValue]
theorem XV{l:Nat}{fv:Value}{vs:List Value}(aM:bq μ (.gJ l) fv):
  ∃i,μ l=some i/\(do let d<-Deferred.ofValue fv ⟨vs⟩;invoke d.target d.args:Sem Next).run P w=(Instr.yield i.bo ⟨vs⟩).run P w:=by
 obtain⟨i,hi,rfl⟩:=aM
 exact⟨i,hi,by simp[Deferred.ofValue,invoke]⟩
theorem XW{t:TypeId}{name:String}{f:Nat}(h:E5 P t name=some f)(v:Value)(n:Nat):(method (n+1) t v name).run P w=.ok (f,v) w:=by
 unfold E5 at h
 split at h
 · rename_i i hi
   split at h
   · rename_i m hm
     have aM:∀q,m.path.isEmpty=q->m.path.isEmpty=q:=λ_ h=>h
     split at h
     all_goals first
      |(cases h;done)
      |(rename_i a3 ra hu
        cases h
        have XX:m.path.toList=[]:=by simpa using a3
        simp[method,run_typeInfo hi,hm,XX,follow,ra,receiverAt,b7 hu,Place.get]
        done)
   · cases h
 · cases h
end
end aJ
namespace aJ
open Go
variable {lh:String}{s:Sem Value}{v:aa}
def lI(P:Program)(μ:bG)(H:I)(w:World)(s:Sem Next):dW->Prop
 |.val v a7=>∃a2 w' u,(s.run P w=.ok (.value u) w'\/(u=undef/\s.run P w=.ok .skip w'))/\bq a2 v u/\bI a2 a7 w'/\cD μ H w a2 a7 w'
 |.aK v a7=>a7=H/\∃u,s.run P w=.halt (.panic u) w/\bq μ v u
 |.call f args a7=>a7=H/\∃vs:List Value,s.run P w=(callFunc f ⟨vs⟩).run P w/\cF μ args vs
 |.gJ l args a7=>a7=H/\∃i,∃vs:List Value,μ l=some i/\s.run P w=(Instr.yield i.bo ⟨vs⟩).run P w/\cF μ args vs
 |.vF d=>∃v9,s.run P w=.ok (.defer v9) w/\xJ μ d v9
 |.xA=>s.run P w=.ok .recover w
 |.fail _=>True
section
variable {P:Program} {μ:bG} {H:I} {w:World}
theorem lI.lJ{a7:I}(h:gT P μ H w s v a7):lI P μ H w (do pure (.value (<-s))) (.val v a7):=by
 obtain⟨a2,w',u,J,ae,aq,aQ⟩:=h
 exact⟨a2,w',u,.inl (by simp[J]),ae,aq,aQ⟩
theorem lI.of_same(ar:bI μ H w)(h:∃u,s.run P w=.ok u w/\bq μ v u):lI P μ H w (do pure (.value (<-s))) (.val v H):=by
 obtain⟨u,J,ae⟩:=h
 exact⟨μ,w,u,.inl (by simp[J]),ae,ar,cD.refl _ _ _⟩
theorem lI.FB(ar:bI μ H w){u:Value}(h:bq μ v u){s:Sem Next}(ah:s.run P w=.ok (.value u) w):lI P μ H w s (.val v H):=
 ⟨μ,w,u,.inl ah,h,ar,cD.refl _ _ _⟩
theorem lI.XY{s:Sem Unit}{a7:I}(h:∃w',s.run P w=.ok () w'/\bI μ a7 w'/\cD μ H w μ a7 w'):lI P μ H w (do s;pure .skip) (.val (.aF []) a7):=by
 obtain⟨w',J,aq,aQ⟩:=h
 exact⟨μ,w',undef,.inr ⟨rfl,by simp[J]⟩,⟨[],rfl,rfl⟩,aq,aQ⟩
theorem Cn(ar:bI μ H w){o:Option aa}(h:∀v,o=some v->∃u,s.run P w=.ok u w/\bq μ v u):lI P μ H w (do pure (.value (<-s))) (hv H lh o):=by
 cases o with
 |none=>trivial
 |some v=>exact .of_same ar (h v rfl)
theorem v_{o:Option aa}(h:∀v,o=some v->gT P μ H w s v H):lI P μ H w (do pure (.value (<-s))) (hv H lh o):=by
 cases o with
 |none=>trivial
 |some v=>exact .lJ (h v rfl)
theorem x2{o:Option (aa×I)}(h:∀v a7,o=some (v,a7)->gT P μ H w s v a7):lI P μ H w (do pure (.value (<-s))) (oi lh o):=by
 cases o with
 |none=>trivial
 |some p=>exact .lJ (h p.1 p.2 rfl)
theorem FC{s:Sem Unit}{o:Option I}(h:∀a7,o=some a7->∃w',s.run P w=.ok () w'/\bI μ a7 w'/\cD μ H w μ a7 w'):lI P μ H w (do s;pure .skip) (uo lh o):=by
 cases o with
 |none=>trivial
 |some a7=>exact .XY (h a7 rfl)
theorem wa{a:aa}{n:Nat}{v:Value}(h:hS a=some n)(aW:bq μ a v):∃k,v=.int k (n:Int):=by
 unfold hS at h
 split at h
 · cases h;cases aW;exact⟨_,rfl⟩
 · cases h
theorem OZ(ar:bI μ H w){f:aa}{fv:Value}{args:List aa}{vs:List Value}(aM:bq μ f fv)(a_:cF μ args vs):
  lI P μ H w (do let d<-Deferred.ofValue fv ⟨vs⟩;invoke d.target d.args) (zS f args H):=by
 unfold zS
 split
 · obtain⟨dh,cs,J,ae,_⟩:=OY (P:=P) (w:=w) aM a_
   exact⟨rfl,_,J,ae⟩
 · obtain⟨i,J,ae⟩:=XV (P:=P) (w:=w) (vs:=vs) aM
   exact⟨rfl,i,vs,J,ae,a_⟩
 · trivial
theorem XZ(ar:bI μ H w){b:Builtin}{ats:Array TypeId}{ty:TypeId}{consts:Array Bool}{vs:List aa}{us:List Value}(aW:cF μ vs us):
  lI P μ H w (builtin b ats ty consts ⟨us⟩) (kX P b ats vs H):=by
 unfold kX
 split
 · rfl
 · cases vs with
   |nil=>trivial
   |cons x l=>
    obtain⟨bK,pd,rfl,J,ae⟩:=aW
    refine Cn ar λv h=>?_
    obtain⟨u,aV,aU⟩:=IY (P:=P) (w:=w) BI Builtin.min2 (λ_ _ _ _ _ h ab bH=>Xd h ab bH) l x bK pd v J ae h
    exact⟨u,by simpa[Builtin.min_] using aV,aU⟩
 · cases vs with
   |nil=>trivial
   |cons x l=>
    obtain⟨bK,pd,rfl,J,ae⟩:=aW
    refine Cn ar λv h=>?_
    obtain⟨u,aV,aU⟩:=IY (P:=P) (w:=w) BJ Builtin.max2 (λ_ _ _ _ _ h ab bH=>Xe h ab bH) l x bK pd v J ae h
    exact⟨u,by simpa[Builtin.max_] using aV,aU⟩
 · split
   · rename_i t x h0
     obtain⟨bK,pd,rfl,J,ae⟩:=aW
     cases ae
     split
     · exact v_ λv h=>Xa ar h0 J h
     · exact v_ λv h=>Xb ar h0 J h
     · exact x2 λv a7 h=>W_ ar h0 J h
     · obtain⟨s1,s2,c4⟩:=XU (P:=P) (w:=w) (argTypes:=ats) (ty:=ty) J
       split
       · exact .of_same ar ⟨_,s1 rfl,rfl⟩
       · split
         · trivial
         · rename_i ak;exact .of_same ar (s2 _ _ _ _ rfl ak)
       · split
         · trivial
         · rename_i ak;exact .of_same ar (c4 _ _ _ _ rfl ak)
       · trivial
     · trivial
   · rename_i t x y h0
     obtain⟨bK,pd,rfl,J,h_,Og,rfl,ae,aq⟩:=aW
     cases aq
     split
     · exact x2 λv a7 h=>W5 ar h0 J ae h
     · exact x2 λv a7 h=>W9 ar h0 J ae h
     · exact x2 λv a7 h=>Xr ar h0 J ae h
     · exact x2 λv a7 h=>XS ar h0 J ae h
     · trivial
   · trivial
theorem X0(ar:bI μ H w){src dst:TypeId}{x:aa}{bK:Value}(ab:bq μ x bK):
  lI P μ H w (do pure (.value (<-convert src dst bK))) (df P src dst x H):=by
 unfold df
 split
 · rename_i nF k aO n ah aH
   cases ab
   exact .of_same ar ⟨.int k (k.wrap n),by simp[convert,b7 ah,b7 aH,Conv.intToInt],rfl⟩
 · rename_i nF aO n ah aH
   cases ab
   exact .of_same ar ⟨.string (Utf8.encode n),by simp[convert,b7 ah,b7 aH,Conv.intToString],_,rfl,rfl⟩
 · rename_i s ah aH
   obtain⟨t,rfl,rfl⟩:=ab
   exact .of_same ar ⟨.string t,by simp[convert,b7 ah,b7 aH],_,rfl,rfl⟩
 · rename_i e s ah aH
   obtain⟨t,rfl,rfl⟩:=ab
   split
   · rename_i he
     refine .lJ ?_
     have dp:=Xg (P:=P) ar (e:=e) (bs:=t)
     obtain⟨a2,w',u,J,ae,aq,aQ⟩:=dp
     exact⟨a2,w',u,by simp[convert,b7 ah,b7 aH,b7 he,J],ae,aq,aQ⟩
   · trivial
 · rename_i e ah aH
   have key:P.underlying e=some (.int .u8)->∀a n c,(convert src dst (.slice a n c)).run P w=(Conv.bytesToString (.slice a n c)).run P w:=by
    intro he a n c
    simp[convert,b7 ah,b7 aH,b7 he]
   split
   · rename_i he
     cases ab
     refine .of_same ar ⟨.string .empty,?_,.empty,rfl,rfl⟩
     rw[key he];rfl
   · rename_i b off n he
     split
     · rename_i aT
       subst aT
       obtain⟨i,_,_,a,c,rfl⟩:=ab
       refine .of_same ar ⟨.string .empty,?_,.empty,rfl,rfl⟩
       rw[key he];rfl
     · trivial
   · rename_i b off n c z5 he
     split
     · rename_i cs aA
       split
       · rename_i bs ag
         obtain⟨a2,w',u,J,ae,aq,aQ⟩:=Xf (P:=P) ar (by intro e;subst e;exact z5 rfl) ab aA ag
         refine .lJ ⟨a2,w',u,?_,ae,aq,aQ⟩
         have h9:∃a m k,bK=.slice a m k:=by
          obtain⟨i,_,ak⟩:=ab
          cases c with
          |exact c=>cases ak;exact⟨_,_,_,rfl⟩
          |aX h3=>obtain⟨c,rfl,_⟩:=ak;exact⟨_,_,_,rfl⟩
          |dead=>obtain⟨_,a,c,rfl⟩:=ak;exact⟨_,_,_,rfl⟩
         obtain⟨a,m,k,rfl⟩:=h9
         rw[key he];exact J
       · trivial
     · trivial
   · trivial
 · rename_i u b off ah aH
   split
   · rename_i cs el k lo hi n aB bm
     split
     · rename_i cf
       exact .of_same ar ⟨bK,OQ ar ah aH bm aB (by simpa using cf) ab,ab⟩
     · trivial
   · trivial
 · rename_i u b off ah aH
   split
   · rename_i cs el lo hi n aB bm
     split
     · rename_i ak
       exact .of_same ar ⟨bK,OS ar ah aH bm aB ak ab,ab⟩
     · trivial
   · trivial
 · trivial
end
end aJ
namespace aJ
open Go
variable {cT:Operand->Value}{g:Operand->aa}
section
variable {P:Program} {μ:bG} {H:I} {w:World}
theorem O1(ar:bI μ H w){c a b:Operand}(aB:∀x,bq μ (g x) (cT x)){iP:Bool}(ak:g c=.bool iP):
  lI P μ H w (do pure (.value (if<-asBool (cT c) then cT a else cT b))) (.val (if iP then g a else g b) H):=by
 have J:=aB c
 rw[ak] at J
 refine .FB ar (u:=if iP then cT a else cT b) ?_ ?_
 · cases iP
   · exact aB b
   · exact aB a
 · have:cT c=.bool iP:=J
   simp[this,asBool]
theorem FD(aB:∀x,bq μ (g x) (cT x))(args:Array Operand):cF μ (args.toList.map g) (args.map cT).toList:=by
 rw[Array.toList_map];exact cF.map g cT aB _
theorem X1(ar:bI μ H w)(aB:∀x,bq μ (g x) (cT x))(o:Oper)(x:Operand)(bg:o.op=.nilCheck x):lI P μ H w (execOp cT o) (match g x with
  |.ptr b o=>.val (.ptr b o) H
  |.slice b o n c=>.val (.slice b o n c) H
  |.fn f a b=>.val (.fn f a b) H
  |.iface t v=>.val (.iface t v) H
  |_=>.fail ""):=by
 have J:=aB x
 have e:∀(v:aa),g x=v->((∃b o,v=.ptr b o)\/(∃b o n c,v=.slice b o n c)\/(∃f a b,v=.fn f a b)\/∃t y,v=.iface t y)->lI P μ H w (execOp cT o) (.val v H):=by
  intro v aW ah
  have ae:=J
  rw[aW] at ae
  exact .FB ar ae (Wu ae ah o x cT rfl bg)
 split
 · rename_i b o ab;exact e _ ab (.inl ⟨_,_,rfl⟩)
 · rename_i b o n c ab;exact e _ ab (.inr (.inl ⟨_,_,_,_,rfl⟩))
 · rename_i f a b ab;exact e _ ab (.inr (.inr (.inl ⟨_,_,_,rfl⟩)))
 · rename_i t v ab;exact e _ ab (.inr (.inr (.inr ⟨_,_,rfl⟩)))
 · trivial
theorem X2(ar:bI μ H w)(aB:∀x,bq μ (g x) (cT x))(c:Call)(type:TypeId):lI P μ H w (do let d<-resolve cT c type;invoke d.target d.args) (match c.callee with
  |.value f=>zS (g f) (c.args.toList.map g) H
  |.invoke r name=>match g r with
   |.iface t v=>match E5 P t name with
    |some f=>.call f (v::c.args.toList.map g) H
    |none=>.fail ""
   |_=>.fail ""
  |.builtin b=>kX P b c.argTypes (c.args.toList.map g) H):=by
 have a_:=FD (μ:=μ) aB c.args
 cases ak:c.callee with
 |value f=>
  simp only[resolve,ak]
  exact OZ ar (aB f) a_
 |invoke r name=>
  simp only[]
  split
  · rename_i t v aj
    split
    · rename_i f hm
      have J:=aB r
      rw[aj] at J
      obtain⟨y,bH,aW⟩:=J
      refine⟨rfl,y::(c.args.map cT).toList,?_,⟨_,_,rfl,aW,a_⟩⟩
      have alh:0<Made.depth:=by decide
      obtain⟨n,aT⟩:∃n,P.types.size+Made.depth=n+1:=⟨P.types.size+Made.depth-1,by omega⟩
      have X3:=XW (P:=P) (w:=w) hm y n
      have h0:(#[cT r]++c.args.map cT)[0]? =some (cT r):=by rw[Array.getElem?_append_left (by simp)];rfl
      have ae:(#[cT r]++c.args.map cT).extract 1 (#[cT r]++c.args.map cT).size=c.args.map cT:=by
       apply Array.ext'
       simp only[Array.toList_extract,Array.toList_append,Array.toList_map,List.cons_append,List.nil_append,List.extract_eq_take_drop]
       rw[List.take_of_length_le]
       · rfl
       · simp
      have aq:(#[y]++c.args.map cT:Array Value)=⟨y::(c.args.map cT).toList⟩:=by apply Array.ext';simp
      rw[bH] at h0 ae
      simp only[resolve,ak,Sem.run_bind,Sem.run_pure,Result.andThen_ok,invoke,bH,h0,ae,callMethod,run_program,aT,X3,aq]
    · trivial
  · trivial
 |builtin b=>
  have ag:=XZ (P:=P) (b:=b) (ats:=c.argTypes) (ty:=type) (consts:=c.args.map λ|.const _=>true|_=>false) ar a_
  have he:(do let d<-resolve cT c type;invoke d.target d.args:Sem Next)=builtin b c.argTypes type (c.args.map λ|.const _=>true|_=>false) (c.args.map cT):=by
   simp only[resolve,ak];rfl
  rw[he];exact ag
set_option maxHeartbeats 4000000 in
theorem X4(ar:bI μ H w)(o:Oper)(aB:∀x,bq μ (g x) (cT x)):lI P μ H w (execOp cT o) (dg P o g H):=by
 obtain⟨dst,op,type,pos,after,guard⟩:=o
 cases op<;>simp only[dg,execOp]
 case move x=>exact .FB ar (aB x) rfl
 case assign x=>exact .FB ar (aB x) rfl
 case pick c a b=>
  split
  · rename_i ak;exact O1 ar aB ak
  · rename_i ak;exact O1 ar aB ak
  · trivial
 case alloc e=>
  split
  · rename_i z bm
    split
    · rename_i b ay aj;exact .lJ (Wh ar bm aj)
    · trivial
  · trivial
 case box e x=>
  split
  · rename_i b ay aj;exact .lJ (Wi ar (aB x) aj)
  · trivial
 case build t parts=>
  split
  · rename_i z bm
    split
    · rename_i dh hu
      split
      · rename_i cs gZ aM;exact .lJ (Wp ar g cT aB bm hu gZ parts aM)
      · trivial
    · rename_i n e hu
      split
      · rename_i sz ah
        split
        · rename_i cs aM;exact .lJ (Wr ar g cT aB bm hu ah parts aM)
        · trivial
      · trivial
    · trivial
  · trivial
 case buildSlice t len parts=>
  split
  · rename_i e hu
    split
    · rename_i sz z ah bm
      split
      · rename_i cs ak aM
        rw[Bool.and_eq_true,Nat.ble_eq,Nat.beq_eq] at ak
        split
        · rename_i b ay aj;exact .lJ (Ws ar g cT aB hu ah bm ak.1 ak.2 parts aM aj)
        · trivial
      · trivial
    · trivial
  · trivial
 case insert t m k v=>exact FC λa7 h=>Oz ar (aB m) (aB k) (aB v) h
 case load t a=>
  split
  · rename_i b off a_
    have J:=aB a
    rw[a_] at J
    obtain⟨fw,gw⟩:=Wj (P:=P) ar (t:=t) J
    split
    · rename_i n Co aT
      split
      · rename_i cs aA;exact .lJ (fw n cs Co aT aA)
      · trivial
    · rename_i Co
      exact v_ λv h=>gw v Co h
    · trivial
  · trivial
 case store t a v=>
  split
  · rename_i b off a_
    have J:=aB a
    rw[a_] at J
    split
    · trivial
    · rename_i n aT X5
      split
      · rename_i aA
        exact FC λa7 h=>Wk ar J (aB v) X5 aT (by simpa using aA) h
      · trivial
    · trivial
  · trivial
 case ready=>trivial
 case waits=>trivial
 case nilCheck x=>exact X1 ar aB ⟨dst,.nilCheck x,type,pos,after,guard⟩ x rfl
 case binOp op t x y yt=>exact Cn ar λv h=>XK ar (yt:=yt) (aB x) (aB y) h
 case unOp op t x=>
  have J:=aB x
  split
  · rename_i b ab;rw[ab] at J;exact .of_same ar (XG J)
  · rename_i k n ab;rw[ab] at J;exact .of_same ar (XH J)
  · rename_i k n ab;rw[ab] at J;exact Cn ar λv h=>XI J h
  · trivial
 case convert src ali x=>exact X0 ar (aB x)
 case sliceToArrayPointer=>trivial
 case makeInterface t x=>
  split
  · trivial
  · rename_i d eT hu
    refine .of_same ar ⟨.iface t (cT x),XL hu (λm e=>eT m (e▸rfl)) (aB x),_,rfl,aB x⟩
  · trivial
 case makeFunc fn first mT=>
  split
  · rename_i f
    exact .of_same ar ⟨.func (.func f) (first.map cT) (mT.map cT),rfl,_,_,rfl,FD aB first,FD aB mT⟩
  · trivial
 case makeMap t r=>
  cases r with
  |none=>exact .lJ (Xs ar)
  |some x=>
   simp only[]
   split
   · rename_i kt iX k n hu ab
     have J:=aB x
     rw[ab] at J
     have ae:cT x=.int k n:=J
     rw[Option.map_some,ae]
     exact .lJ (Xt ar hu)
   · trivial
 case makeChan=>trivial
 case makeSlice t l c=>
  split
  · rename_i e th c' hu aA ak
    obtain⟨kl,el⟩:=wa aA (aB l)
    obtain⟨kc,iF⟩:=wa ak (aB c)
    split
    · rename_i i z hi bm
      split
      · rename_i m2
        rw[Bool.and_eq_true,Bool.and_eq_true,Nat.ble_eq,Nat.beq_eq,decide_eq_true_eq] at m2
        split
        · rename_i b ay aj
          rw[el,iF]
          exact .lJ (Wt ar hu hi bm m2.1.1 m2.1.2 m2.2 aj)
        · trivial
      · trivial
    · trivial
  · trivial
 case slice t x lo hi mx=>
  exact v_ λv h=>WE ar (aB x) (q5.map g cT aB lo) (q5.map g cT aB hi) (q5.map g cT aB mx) h
 case fieldAddr s x f=>
  split
  · rename_i dh b off hu ab
    have J:=aB x
    rw[ab] at J
    split
    · rename_i fd aM
      split
      · trivial
      · rename_i n IS aT
        exact .lJ (WI ar hu aM aT (λe=>IS e) J)
      · trivial
    · trivial
  · trivial
 case field t x f=>
  split
  · rename_i dh cs hu ab
    have J:=aB x
    rw[ab] at J
    split
    · rename_i fd aM
      exact v_ λv h=>WH ar hu aM J h
    · trivial
  · trivial
 case indexAddr t x i=>
  split
  · rename_i n e b off k hu ab hi
    have J:=aB x
    rw[ab] at J
    obtain⟨d_,x3⟩:=wa hi (aB i)
    split
    · rename_i sz ah
      split
      · rename_i ai;rw[x3];exact .lJ (WK ar hu ah J ai)
      · trivial
    · trivial
  · rename_i e b off n c k hu ab hi
    have J:=aB x
    rw[ab] at J
    obtain⟨d_,x3⟩:=wa hi (aB i)
    split
    · rename_i sz ah
      split
      · rename_i ai;rw[x3];exact .lJ (WJ ar hu ah J ai)
      · trivial
    · trivial
  · trivial
 case index t x i=>
  split
  · rename_i n e cs k hu ab hi
    have J:=aB x
    rw[ab] at J
    obtain⟨d_,x3⟩:=wa hi (aB i)
    split
    · rename_i sz ah
      split
      · rename_i ai;rw[x3];exact v_ λv h=>WL ar hu ah J ai h
      · trivial
    · trivial
  · rename_i s k hu ab hi
    have J:=aB x
    rw[ab] at J
    obtain⟨d_,x3⟩:=wa hi (aB i)
    split
    · rename_i c ak;rw[x3];exact .lJ (WM ar hu J ak)
    · trivial
  · trivial
 case lookup t x i ok=>exact v_ λv h=>Xm ar (aB x) (aB i) h
 case mapUpdate t m k v=>exact FC λa7 h=>Oz ar (aB m) (aB k) (aB v) h
 case mapEntry t m k=>exact x2 λv a7 h=>Xo ar (aB m) (aB k) h
 case entryStore t m s v=>exact FC λa7 h=>Xp ar (aB m) (aB s) (aB v) h
 case range t x=>
  split
  · rename_i s hu ab
    have J:=aB x
    rw[ab] at J
    exact .lJ (Xu ar hu J)
  · rename_i kt iX hu ab
    have J:=aB x
    rw[ab] at J
    exact .lJ (Xv ar hu J)
  · rename_i kt iX m hu ab
    have J:=aB x
    rw[ab] at J
    split
    · rename_i es c Ja
      obtain⟨i,hi,aW⟩:=J
      obtain⟨ents,aG,aE⟩:=ar.rel _ _ i Ja hi
      obtain⟨bt,b3⟩:=ar.alloc (.mapIter (some m) c [] c) (.mapIter (some i.bo) c #[] c) 0 ⟨rfl,i,ar.r4 _ _ _ hi,World.heap_alloc_new _ _⟩
      refine .lJ ⟨_,_,.pointer (some ⟨w.heap.size,0,none⟩),?_,⟨_,h7 _ _ _,rfl⟩,bt,b3⟩
      have hG:(getObj i.bo).run P w=.ok (.map ⟨ents⟩ c) w:=by simp[getObj,Sem.run,aG]
      rw[aW]
      simp only[Instr.range,Sem.run_bind,b7 hu,Result.andThen_ok,hG,Sem.run_pure,run_newObj]
      rfl
    · trivial
  · trivial
 case next it isStr=>exact x2 λv a7 h=>Xx ar (aB it) h
 case entry it=>exact v_ λv h=>XA ar (aB it) h
 case typeAssert x xT as ok=>
  have J:=aB x
  split
  · trivial
  · rename_i d eT hu ab
    obtain⟨t1,_,_⟩:=OO (P:=P) (w:=w) (xT:=xT) (ok:=ok) hu (λm e=>eT m (e▸rfl)) J
    split
    · rename_i fB
      split
      · rename_i z bm;exact .of_same ar (t1 z ab fB bm)
      · trivial
    · trivial
  · rename_i d t v eT hu ab
    obtain⟨_,t2,t3⟩:=OO (P:=P) (w:=w) (xT:=xT) (ok:=ok) hu (λm e=>eT m (e▸rfl)) J
    split
    · rename_i he;subst he;exact .of_same ar (t2 v ab)
    · rename_i dk
      split
      · rename_i fB
        split
        · rename_i z bm;exact .of_same ar (t3 t v z ab dk fB bm)
        · trivial
      · trivial
  · trivial
 case extract t i=>
  have J:=aB t
  split
  · rename_i vs ab
    rw[ab] at J
    exact Cn ar λv h=>XM J h
  · trivial
 case call c=>exact X2 ar aB c type
 case go=>trivial
 case defer c=>
  split
  · rename_i f aM
    split
    · rename_i k first mT ab
      have J:=aB f
      rw[ab] at J
      obtain⟨dh,cs,_,aq,aQ⟩:=OY (P:=P) (w:=w) J (FD aB c.args)
      refine⟨_,?_,.call k _ cs _ aq⟩
      simp only[resolve,aM,Sem.run_bind]
      have O2:(Deferred.ofValue (cT f) (c.args.map cT)).run P w=.ok {target:=.fn (.func k) ⟨cs⟩,args:=⟨dh++(c.args.map cT).toList⟩} w:=aQ
      rw[O2];rfl
    · trivial
  · trivial
 case panic x=>
  have J:=aB x
  split
  · rename_i t v ab
    rw[ab] at J
    obtain⟨y,bH,aW⟩:=J
    refine⟨rfl,.iface t y,?_,⟨y,rfl,aW⟩⟩
    rw[bH];rfl
  · trivial
 all_goals trivial
end
end aJ
namespace aJ
open Go
variable {e:TypeId}{z:aa}
section
variable {P:Program} {μ:bG} {w:World}
def wb(P:Program)(μ:bG)(w:World)(s:Sem Value)(e:TypeId)(cs:List aa)(val:Addr->Value):Prop:=
 ∃us:List Value,cF μ cs us/\s.run P w=.ok (val ⟨w.heap.size,0,none⟩) (w.alloc (.cells ⟨us⟩ e))
theorem O3(el:TypeId)(us:List Value):(_root_.Go.newRow el ⟨us⟩).run P w=.ok ⟨w.heap.size,0,none⟩ (w.alloc (.cells ⟨us⟩ el)):=by simp[_root_.Go.newRow]
theorem X6(bm:gu P e=some z):wb P μ w (Instr.alloc e true (.tuple #[])) e z.cells (λa=>.pointer (some a)):=by
 obtain⟨v,aW,rfl,ag⟩:=o9 (w:=w) bm
 refine⟨v.cells.toList,(mu μ v).cells ag,?_⟩
 simp[Instr.alloc,aW,newVar,_root_.Go.newRow]
theorem X7{x:aa}{v:Value}(aW:bq μ x v)(ag:x≠ .bad):wb P μ w (Instr.box e v) e x.cells (λa=>.pointer (some a)):=by
 refine⟨v.cells.toList,aW.cells ag,?_⟩
 simp[Instr.box,newVar,_root_.Go.newRow]
theorem X8(g:Operand->aa)(cT:Operand->Value)(aB:∀x,bq μ (g x) (cT x)){t:TypeId}{len sz:Nat}(hu:P.underlying t=some (.slice e))(ah:eg P e=some sz)
  (bm:gu P e=some z)(hle:len*sz<=16777216)(q3:z.cells.length=sz)(parts:Array (Nat×Operand)){cs:List aa}
  (aM:lZ (λi=>some (i*sz,sz)) (if len*sz=0 then[] else iW len z.cells) (parts.toList.map λp=>(p.1,g p.2))=some cs):
  wb P μ w (Instr.buildSlice t len (parts.map λ(i,x)=>(i,cT x))) e cs (λa=>.slice (some a) len len):=by
 obtain⟨v,aW,rfl,ag⟩:=o9 (w:=w) bm
 have ak:=(mu μ v).cells ag
 have B8:¬(len*sz>2^24):=by omega
 have key:∀zero:Array Value,cF μ (if len*sz=0 then[] else iW len (r0 v).cells) ((Array.range (len*sz)).map (λi=>zero[i %zero.size]!)).toList->
   (∀r:Result Value,r=(match Instr.fill (λi=>some (i*sz,sz)) ((Array.range (len*sz)).map (λi=>zero[i %zero.size]!)) (parts.toList.map λp=>(p.1,cT p.2)) with
    |some cells=>do pure (.slice (some (<-_root_.Go.newRow e cells)) len len)
    |none=>stuck "buildSlice: a part of the wrong size" :Sem Value).run P w->(Instr.buildSlice t len (parts.map λ(i,x)=>(i,cT x))).run P w=r)->
   wb P μ w (Instr.buildSlice t len (parts.map λ(i,x)=>(i,cT x))) e cs (λa=>.slice (some a) len len):=by
  intro zero q4 dD
  obtain⟨c',J,ae⟩:=B3 _ g cT aB parts.toList _ cs _ q4 aM
  refine⟨c',ae,dD _ ?_⟩
  rw[J]
  simp[O3]
 by_cases h0:len*sz=0
 · refine key #[] (by rw[if_pos h0,h0];simp[cF]) λr aj=>?_
   rw[aj]
   simp only[Instr.buildSlice,Sem.run_bind,b7 hu,Result.andThen_ok,run_sizeOf ah,if_neg B8,if_pos h0,Sem.run_pure,Array.toList_map]
   generalize Instr.fill _ _ _=F
   cases F<;>rfl
 · refine key v.cells (by rw[if_neg h0];exact B7 ak q3 len) λr aj=>?_
   rw[aj]
   simp only[Instr.buildSlice,Sem.run_bind,b7 hu,Result.andThen_ok,run_sizeOf ah,if_neg B8,if_neg h0,Sem.run_pure,Array.toList_map,aW]
   generalize Instr.fill _ _ _=F
   cases F<;>rfl
theorem X9{t:TypeId}{l c:Nat}{i:TypeInfo}{kl kc:IntKind}(hu:P.underlying t=some (.slice e))(hi:P.info? e=some i)(bm:gu P e=some z)(q1:l<=c)
  (z1:c*(i.bytes+1)<=1099511627776)(q3:z.cells.length=i.size):
  wb P μ w (Instr.makeSlice t (.int kl l) (.int kc c)) e (if c*i.size=0 then[] else iW c z.cells) (λa=>.slice (some a) l c):=by
 obtain⟨v,aW,rfl,ag⟩:=o9 (w:=w) bm
 have ak:=(mu μ v).cells ag
 have II:c<=1099511627776:=Nat.le_trans (Nat.le_mul_of_pos_right c (by omega)) z1
 have tb:i.bytes*c<=1099511627776:=by
  have:c*i.bytes<=c*(i.bytes+1):=Nat.mul_le_mul_left c (by omega)
  rw[Nat.mul_comm];omega
 have B9:∀n:Nat,n<=1099511627776->IntKind.wrap .i64 (n:Int)=(n:Int):=λn aT=>r6 n (by omega)
 have r7:=B9 l (by omega)
 have B_:=B9 c II
 have xO:¬((c:Int)<0||(i.bytes:Int)*(c:Int)>2^48||(l:Int)<0||(l:Int)>(c:Int))=true:=by
  have J:((i.bytes:Int)*(c:Int))<=1099511627776:=by
   have h0:((i.bytes*c:Nat):Int)<=1099511627776:=by omega
   rw[Int.natCast_mul] at h0;exact h0
  have ae:(2:Int)^48=281474976710656:=by rfl
  generalize (i.bytes:Int)*(c:Int)=q at J⊢
  rw[ae]
  simp only[Bool.or_eq_true,decide_eq_true_eq]
  omega
 have key:∀zero:Array Value,cF μ (if c*i.size=0 then[] else iW c (r0 v).cells) ((Array.range (c*i.size)).map (λj=>zero[j %zero.size]!)).toList->
   (Instr.makeSlice t (.int kl l) (.int kc c)).run P w=(do let a<-_root_.Go.newRow e ((Array.range (c*i.size)).map (λj=>zero[j %zero.size]!));pure (.slice (some a) l c):Sem Value).run P w->
   wb P μ w (Instr.makeSlice t (.int kl l) (.int kc c)) e (if c*i.size=0 then[] else iW c (r0 v).cells) (λa=>.slice (some a) l c):=by
  intro zero q4 dD
  refine⟨_,q4,?_⟩
  rw[dD]
  simp only[Sem.run_bind,Sem.run_pure]
  have bn:=O3 (P:=P) (w:=w) e ((Array.range (c*i.size)).map (λj=>zero[j %zero.size]!)).toList
  have:(⟨((Array.range (c*i.size)).map (λj=>zero[j %zero.size]!)).toList⟩:Array Value)=((Array.range (c*i.size)).map (λj=>zero[j %zero.size]!)):=rfl
  rw[this] at bn
  rw[bn];rfl
 have bQ:(_root_.Go.sizeOf e).run P w=.ok i.size w:=by simp[_root_.Go.sizeOf,run_typeInfo hi]
 by_cases h0:c*i.size=0
 · refine key #[] (by rw[if_pos h0,h0];simp[cF]) ?_
   simp only[Instr.makeSlice,Sem.run_bind,b7 hu,Result.andThen_ok,asInt,asIntOf,Sem.run_pure,run_typeInfo hi,r7,B_]
   rw[if_neg xO]
   simp[bQ,h0]
 · refine key v.cells (by rw[if_neg h0];exact B7 ak q3 c) ?_
   simp only[Instr.makeSlice,Sem.run_bind,b7 hu,Result.andThen_ok,asInt,asIntOf,Sem.run_pure,run_typeInfo hi,r7,B_]
   rw[if_neg xO]
   simp[bQ,h0,aW]
structure Laid(P:Program)(μ:bG)(w:World)(s:Sem Next)(b:Nat)(v:aa)(ob:b5)(u:Value)(X:Obj)(sz:Nat):Prop where
 run:s.run P w=.ok (.value u) (w.alloc X)
 val:∀a2,fE μ a2->a2 b=some ⟨w.heap.size,0,sz⟩->bq a2 v u
 obj:∀a2 w',fE μ a2->w'.heap[w.heap.size]? =some X->qZ a2 ob ⟨w.heap.size,0,sz⟩ w'
 ro:ob.q0=false
theorem wb.laid{s:Sem Value}{cs:List aa}{val:Addr->Value}(h:wb P μ w s e cs val){b:Nat}{v:aa}(aW:∀a2 sz,a2 b=some ⟨w.heap.size,0,sz⟩->bq a2 v (val ⟨w.heap.size,0,none⟩)):
  ∃u X sz,Laid P μ w (do pure (.value (<-s))) b v (.cells cs e .own 0 0) u X sz:=by
 obtain⟨us,J,ae⟩:=h
 refine⟨_,.cells ⟨us⟩ e,us.length,by simp[ae],λa2 _ hm=>aW a2 _ hm,λa2 w' hle bk=>?_,rfl⟩
 exact⟨⟨us⟩,0,0,bk,λj v aL=>by
  obtain⟨u,hu,aj⟩:=J.get aL
  exact⟨u,by simpa using hu,aj.mono hle⟩,by simp,rfl,J.length.symm,rfl,rfl⟩
theorem X_(o:Oper){g:Operand->aa}{cT:Operand->Value}(aB:∀x,bq μ (g x) (cT x)){b:Nat}{v:aa}{ob:b5}(h:ki P o.op g b=some (v,ob)):
  ∃u X sz,Laid P μ w (execOp cT o) b v ob u X sz:=by
 obtain⟨dst,op,type,pos,after,guard⟩:=o
 cases op<;>simp only[ki] at h<;>try (cases h;done)
 case alloc e=>
  split at h
  · rename_i z bm
    split at h
    · cases h
      exact(X6 bm).laid λa2 sz hm=>⟨_,hm,rfl⟩
    · cases h
  · cases h
 case box e x=>
  split at h
  · rename_i gZ
    cases h
    have ag:g x≠ .bad:=by intro e;rw[e] at gZ;simp[aa.cells,aa.dJ] at gZ
    exact(X7 (aB x) ag).laid λa2 sz hm=>⟨_,hm,rfl⟩
  · cases h
 case buildSlice t len parts=>
  split at h
  · rename_i e hu
    split at h
    · rename_i sz z ah bm
      split at h
      · rename_i cs ak aM
        rw[Bool.and_eq_true,Nat.ble_eq,Nat.beq_eq] at ak
        split at h
        · cases h
          exact(X8 g cT aB hu ah bm ak.1 ak.2 parts aM).laid λa2 sz hm=>⟨_,hm,rfl⟩
        · cases h
      · cases h
    · cases h
  · cases h
 case makeMap t r=>
  cases r with
  |some x=>cases h
  |none=>
   cases h
   exact⟨.map (some w.heap.size),.map #[] 0,0,rfl,λa2 _ hm=>⟨_,hm,rfl⟩,λa2 w' _ bk=>⟨[],bk,rfl⟩,rfl⟩
 case makeSlice t l c=>
  split at h
  · rename_i e th c' hu aA ak
    obtain⟨kl,el⟩:=wa aA (aB l)
    obtain⟨kc,iF⟩:=wa ak (aB c)
    split at h
    · rename_i i z hi bm
      split at h
      · rename_i cs m2
        split at h
        · cases h
          rw[Bool.and_eq_true,Bool.and_eq_true,Nat.ble_eq,Nat.beq_eq,decide_eq_true_eq] at m2
          have:=(X9 (P:=P) (μ:=μ) (w:=w) (kl:=kl) (kc:=kc) hu hi bm m2.1.1 m2.1.2 m2.2).laid (b:=b) (v:=.slice b 0 th (.exact c')) λa2 sz hm=>⟨_,hm,rfl⟩
          simp only[execOp,el,iF]
          exact this
        · cases h
      · cases h
    · cases h
  · cases h
end
end aJ
namespace aJ
open Go
variable {a:Act}{b:Frame}{cs cs0:List Frame}{i:Nat}{k:List Item}{ops:Array Oper}{r:a8}{rest:List Nat}
def j1(P:Program)(μ:bG):Prop:=∀g,g<P.globals.size->∃i,μ g=some i/\i.bo=g/\i.base=0
theorem j1.mono{P:Program}{μ a2:bG}(h:j1 P μ)(hle:fE μ a2):j1 P a2:=λg aB=>let⟨i,J,ae⟩:=h g aB;⟨i,hle _ _ J,ae⟩
def Ends(μ:bG)(H:I)(w:World):a8->Ending->World->Prop
 |.ret v a7,e,w'=>∃a2 u,e=.returned u/\bq a2 v u/\bI a2 a7 w'/\cD μ H w a2 a7 w'
 |.aK v a7,e,w'=>∃a2 u,e=.panicked [{v:=u,recovered:=false}]/\bq a2 v u/\bI a2 a7 w'/\cD μ H w a2 a7 w'
 |.fail _,_,_=>True
def a8.oq:a8->Bool
 |.fail _=>false
 |_=>true
def x4(P:Program)(f:FuncId)(vs:List Value)(w:World)(R:Ending->World->Prop):Prop:=
 (∃v w',(callFunc f ⟨vs⟩).run P w=.ok (.value v) w'/\R (.returned v) w')\/
 ((callFunc f ⟨vs⟩).run P w=.ok (.enter f ⟨vs⟩) w/\Calls P f ⟨vs⟩ w R)
def wc(P:Program)(m:Machine)(c:Frame)(cs:List Frame)(R:Ending->World->Prop):Prop:=
 ∃e w',R e w'/\match e with
  |.returned v=>Steps P m (lone (c.finish v) cs w')
  |.panicked chain=>Steps P m (lone (c.raise chain) cs w')
  |.outgrown=>False
def O4(P:Program)(l:Nat)(vs:List Value)(w:World)(R:Ending->World->Prop):Prop:=
 ∃f tmps assign body,(Instr.yield l ⟨vs⟩).run P w=.ok (.round l f tmps assign body) w/\∀c cs,wc P (lone (Frame.round l f tmps assign body .normal) (c::cs) w) c cs R
structure pf(P:Program)(call:ht->List aa->I->a8):Prop where
 fn:∀f args H,(call (.fn f) args H).oq=true->∀μ w (vs:List Value),bI μ H w->j1 P μ->cF μ args vs->x4 P f vs w (Ends μ H w (call (.fn f) args H))
 gJ:∀l args H,(call (.gJ l) args H).oq=true->∀μ w i (vs:List Value),bI μ H w->j1 P μ->μ l=some i->cF μ args vs->O4 P i.bo vs w (Ends μ H w (call (.gJ l) args H))
theorem wc.of_steps{P:Program}{m cR:Machine}{c:Frame}{R:Ending->World->Prop}(h:Steps P m cR)(ay:wc P cR c cs R):wc P m c cs R:=by
 obtain⟨e,w',aj,ah⟩:=ay
 refine⟨e,w',aj,?_⟩
 cases e with
 |returned v=>exact h.trans ah
 |panicked gA=>exact h.trans ah
 |outgrown=>exact ah.elim
theorem O5{P:Program}{f:FuncId}{args:Array Value}{w:World}{R:Ending->World->Prop}(jd:∀w',¬R .outgrown w')(h:Calls P f args w R)(c:Frame)(cs:List Frame):
  wc P (lone (Frame.enter P f args .normal) (c::cs) w) c cs R:=by
 obtain⟨e,w',dy,aj,ak,_,aA⟩:=h (c::cs)
 refine⟨e,w',aj,?_⟩
 cases e with
 |returned v=>exact Steps.trans ak (.one (step_leave_returned aA))
 |panicked gA=>exact Steps.trans ak (.one (step_leave_panicked aA))
 |outgrown=>exact(jd _ aj).elim
def kn(μ:bG)(kind:CallKind)(cs0:List Frame):cm->List Frame->Prop
 |.none,cs=>cs=cs0/\∀dy:Frame,dy.kind=kind->tryRecover dy cs0=none
 |.act v,cs=>cs=cs0/\kind=.deferred/\∃c rest u,cs0=c::rest/\c.mode=.panicking [{v:=u,recovered:=false}]/\bq μ v u
 |.done v,cs=>kind=.deferred/\∃c rest u,cs0=c::rest/\c.mode=.panicking [{v:=u,recovered:=false}]/\bq μ v u/\cs={c with mode:=.panicking [{v:=u,recovered:=true}]}::rest
theorem kn.mono{μ a2:bG}(hle:fE μ a2){kind:CallKind}{q:cm}(h:kn μ kind cs0 q cs):kn a2 kind cs0 q cs:=by
 cases q with
 |none=>exact h
 |act v=>obtain⟨J,ae,c,rest,u,aq,aQ,bj⟩:=h;exact⟨J,ae,c,rest,u,aq,aQ,bj.mono hle⟩
 |done v=>obtain⟨J,c,rest,u,aq,aQ,bj,cW⟩:=h;exact⟨J,c,rest,u,aq,aQ,bj.mono hle,cW⟩
section
variable {P:Program} {μ:bG} {H:I} {w:World}
theorem FE{s:Sem Next}
  (dp:stepG P true {frame:=b.atR a (.inRegion ops (i::rest)::k),callers:=cs,status:=.running,dying:=none} w=stepG.apply P true (b.atR a (.inRegion ops (i::rest)::k)) cs none s w):
  (∀v w',s.run P w=.ok (.value v) w'->Steps P (lone (b.atR a (.inRegion ops (i::rest)::k)) cs w) (lone ((b.atR a (.inRegion ops (i::rest)::k)).finish v) cs w'))/\
  (∀w',s.run P w=.ok .skip w'->Steps P (lone (b.atR a (.inRegion ops (i::rest)::k)) cs w) (lone ((b.atR a (.inRegion ops (i::rest)::k)).finish undef) cs w'))/\
  (∀u w',s.run P w=.halt (.panic u) w'->Steps P (lone (b.atR a (.inRegion ops (i::rest)::k)) cs w) (lone ((b.atR a (.inRegion ops (i::rest)::k)).raise [{v:=u,recovered:=false}]) cs w'))/\
  (∀d w',s.run P w=.ok (.defer d) w'->Steps P (lone (b.atR a (.inRegion ops (i::rest)::k)) cs w) (lone (b.atR ({a with defers:=d::a.defers}.put ((ops[i]?).bind (·.dst)) undef) (.inRegion ops rest::k)) cs w'))/\
  (∀f args w',s.run P w=.ok (.enter f args) w'->Steps P (lone (b.atR a (.inRegion ops (i::rest)::k)) cs w) (lone (Frame.enter P f args .normal) (b.atR a (.inRegion ops (i::rest)::k)::cs) w'))/\
  (∀l f tmps assign body w',s.run P w=.ok (.round l f tmps assign body) w'->Steps P (lone (b.atR a (.inRegion ops (i::rest)::k)) cs w) (lone (Frame.round l f tmps assign body .normal) (b.atR a (.inRegion ops (i::rest)::k)::cs) w'))/\
  (b.roundOf=none->∀w',s.run P w=.ok .recover w'->∀v cq,tryRecover (b.atR a (.inRegion ops (i::rest)::k)) cs=some (v,cq)->Steps P (lone (b.atR a (.inRegion ops (i::rest)::k)) cs w) (lone ((b.atR a (.inRegion ops (i::rest)::k)).finish v) cq w'))/\
  (b.roundOf=none->∀w',s.run P w=.ok .recover w'->tryRecover (b.atR a (.inRegion ops (i::rest)::k)) cs=none->Steps P (lone (b.atR a (.inRegion ops (i::rest)::k)) cs w) (lone ((b.atR a (.inRegion ops (i::rest)::k)).finish .nilIface) cs w')):=by
 refine⟨λv w' aj=>.one (step_lone_go ?_),λw' aj=>.one (step_lone_go ?_),λu w' aj=>.one (step_lone_go ?_),λd w' aj=>.one (step_lone_go ?_),λf args w' aj=>.one (step_lone_go ?_),λl f tmps assign body w' aj=>.one (step_lone_go ?_),λag w' aj v cq aI=>.one (step_lone_go ?_),λag w' aj aI=>.one (step_lone_go ?_)⟩
 · rw[dp];simp[stepG.apply,aj]
 · rw[dp];simp[stepG.apply,aj]
 · rw[dp];simp[stepG.apply,aj]
 · rw[dp]
   have:=Frame.finish_atR b {a with defers:=d::a.defers} ops i rest k undef
   simp only[stepG.apply,Sem.runT_eq,aj,GStep.bare_after]
   exact congrArg (λdy=>GStep.go {frame:=dy,callers:=cs,status:=.running,dying:=none} w') this
 · rw[dp];simp[stepG.apply,aj,Frame.atR]
 · rw[dp];simp[stepG.apply,aj,Frame.atR]
 · rw[dp]
   have iZ:(b.atR a (.inRegion ops (i::rest)::k)).roundOf=none:=ag
   simp[stepG.apply,aj,iZ,aI]
 · rw[dp]
   have iZ:(b.atR a (.inRegion ops (i::rest)::k)).roundOf=none:=ag
   simp[stepG.apply,aj,iZ,aI]
def Ji(P:Program)(μ:bG)(H:I)(w:World)(b:Frame)(a:Act)(ops:Array Oper)(o:Oper)(i:Nat)(rest:List Nat)(k:List Item)(cs0 cs:List Frame):BP->Prop
 |.ok v bT bZ a7=>∃a2 w' u x5 cq,Steps P (lone (b.atR a (.inRegion ops (i::rest)::k)) cs w) (lone (b.atR {tmps:=(a.put o.dst u).tmps,defers:=x5} (.inRegion ops rest::k)) cq w')/\
   bq a2 v u/\bI a2 a7 w'/\cD μ H w a2 a7 w'/\iB a2 bT x5/\kn a2 b.kind cs0 bZ cq
 |.aK v bT bZ a7=>∃a2 w' u,Steps P (lone (b.atR a (.inRegion ops (i::rest)::k)) cs w) (lone {b.atR a (.inRegion ops (i::rest)::k) with mode:=.panicking [{v:=u,recovered:=false}]} cs w')/\
   bq a2 v u/\bI a2 a7 w'/\cD μ H w a2 a7 w'/\iB a2 bT a.defers/\kn a2 b.kind cs0 bZ cs
 |.fail _=>True
theorem put_defers(a:Act)(dst:Option Tmp)(u:Value):(a.put dst u).defers=a.defers:=by cases dst<;>rfl
theorem Cp(a:Act)(dst:Option Tmp)(u:Value):a.put dst u={tmps:=(a.put dst u).tmps,defers:=a.defers}:=by cases dst<;>rfl
theorem Ya(a:Act)(bN:List Deferred)(dst:Option Tmp)(u:Value):({a with defers:=bN}:Act).put dst u={tmps:=(a.put dst u).tmps,defers:=bN}:=by cases dst<;>rfl
theorem O6{o:Oper}(bg:ops[i]? =some o){d:List cc}{q:cm}
  (aH:iB μ d a.defers)(bB:kn μ b.kind cs0 q cs){m:Machine}(ah:Steps P (lone (b.atR a (.inRegion ops (i::rest)::k)) cs w) m)
  (aA:wc P m (b.atR a (.inRegion ops (i::rest)::k)) cs (Ends μ H w r)):Ji P μ H w b a ops o i rest k cs0 cs (BQ d q r):=by
 obtain⟨e,w',aj,dp⟩:=aA
 cases r with
 |ret v a7=>
  obtain⟨a2,u,rfl,J,ae,aq⟩:=aj
  refine⟨a2,w',u,a.defers,cs,ah.trans ?_,J,ae,aq,aH.mono aq.le,bB.mono aq.le⟩
  have:(b.atR a (.inRegion ops (i::rest)::k)).finish u=b.atR {tmps:=(a.put o.dst u).tmps,defers:=a.defers} (.inRegion ops rest::k):=by
   rw[Frame.finish_atR,bg,<-Cp];rfl
  rw[<-this];exact dp
 |aK v a7=>
  obtain⟨a2,u,rfl,J,ae,aq⟩:=aj
  exact⟨a2,w',u,ah.trans dp,J,ae,aq,aH.mono aq.le,bB.mono aq.le⟩
 |fail w=>trivial
theorem FF(h:r.oq=false):∃s,r=.fail s:=by
 cases r with
 |fail s=>exact⟨s,rfl⟩
 |_=>cases h
theorem Jj(aB:r.oq=true):∀w',¬Ends μ H w r .outgrown w':=by
 intro w' h
 cases r with
 |ret v a7=>obtain⟨_,_,e,_⟩:=h;cases e
 |aK v a7=>obtain⟨_,_,e,_⟩:=h;cases e
 |fail s=>cases aB
theorem O7{call:ht->List aa->I->a8}(ak:pf P call)(ar:bI μ H w)(ti:j1 P μ){o:Oper}
  (bg:ops[i]? =some o){gd:Option (aa×Bool)}(g0:∀pg,fj gd=some pg->Region.wanted o (yielded ops a.tmps)=pg){g:Operand->aa}(aB:∀x,bq μ (g x) (a.eval x)){d:List cc}{q:cm}
  (aH:iB μ d a.defers)(bB:kn μ b.kind cs0 q cs){inR:Bool}(eF:inR=b.roundOf.isSome):Ji P μ H w b a ops o i rest k cs0 cs (e4 P inR call gd o g d q H):=by
 unfold e4
 have p3:∀u,(b.atR a (.inRegion ops (i::rest)::k)).finish u=b.atR {tmps:=(a.put o.dst u).tmps,defers:=a.defers} (.inRegion ops rest::k):=λu=>by
  rw[Frame.finish_atR,bg,<-Cp];rfl
 split
 · trivial
 · rename_i hw
   have x6:=g0 _ hw
   refine⟨μ,w,undef,a.defers,cs,?_,⟨[],rfl,rfl⟩,ar,cD.refl _ _ _,aH,bB⟩
   have ah:=stepR_op_skip (P:=P) (b:=b) (a:=a) (k:=k) (cs:=cs) (w:=w) (ops:=ops) (i:=i) (rest:=rest) (by simp[bg,x6])
   rw[bg] at ah
   have he:a.put ((some o).bind (·.dst)) undef={tmps:=(a.put o.dst undef).tmps,defers:=a.defers}:=Cp a o.dst undef
   rw[he] at ah
   exact .one ah
 · rename_i hw
   have Cq:=g0 _ hw
   have dp:=stepGR_op (P:=P) (b:=b) (a:=a) (k:=k) (cs:=cs) (w:=w) (rest:=rest) bg Cq
   have gz:=X4 (P:=P) ar o aB
   by_cases O8:b.roundOf.isSome=true/\∃c,o.op=.defer c
   · obtain⟨aj,c,Yb⟩:=O8
     have:(∃x,dg P o g H=.vF x)\/∃s,dg P o g H=.fail s:=by
      unfold dg
      rw[Yb]
      simp only
      split
      · split
        · exact .inl ⟨_,rfl⟩
        · exact .inr ⟨_,rfl⟩
      · exact .inr ⟨_,rfl⟩
     rcases this with⟨x,e⟩|⟨s,e⟩
     · rw[e];simp only[eF,aj,if_true];trivial
     · rw[e];trivial
   · have x7:o.semAt b.roundOf a.eval=execOp a.eval o:=by
       cases hx:b.roundOf with
       |none=>rfl
       |some l=>exact Oper.semAt_eq _ _ _ λc e=>O8 ⟨by rw[hx];rfl,c,e⟩
     rw[x7] at dp
     obtain⟨al,aw,a1,a5,bc,cj,cK,ee⟩:=FE dp
     cases g_:dg P o g H with
     |val v a7=>
      rw[g_] at gz
      obtain⟨a2,w',u,aj,J,ae,aq⟩:=gz
      refine⟨a2,w',u,a.defers,cs,?_,J,ae,aq,aH.mono aq.le,bB.mono aq.le⟩
      rw[<-p3]
      rcases aj with aj|⟨rfl,aj⟩
      · exact al _ _ aj
      · exact aw _ aj
     |aK v a7=>
      rw[g_] at gz
      obtain⟨rfl,u,aj,J⟩:=gz
      exact⟨μ,w,u,a1 _ _ aj,J,ar,cD.refl _ _ _,aH,bB⟩
     |call f args a7=>
      rw[g_] at gz
      obtain⟨rfl,vs,aj,J⟩:=gz
      simp only
      cases cu:(call (.fn f) args a7).oq with
      |false=>obtain⟨s,ah⟩:=FF cu;rw[ah];trivial
      |true=>
       rcases ak.fn f args a7 cu μ w vs ar ti J with⟨v,w',aV,aU⟩|⟨aV,aU⟩
       · rw[<-aj] at aV
         have ah:=al _ _ aV
         cases we:call (.fn f) args a7 with
         |fail s=>trivial
         |ret v' a4=>
          rw[we] at aU
          obtain⟨a2,u,e,ae,aq,aQ⟩:=aU
          cases e
          exact⟨a2,w',_,a.defers,cs,by rw[<-p3];exact ah,ae,aq,aQ,aH.mono aQ.le,bB.mono aQ.le⟩
         |aK v' a4=>
          rw[we] at aU
          obtain⟨a2,u,e,ae,aq,aQ⟩:=aU
          cases e
       · rw[<-aj] at aV
         have ah:=bc _ _ _ aV
         exact O6 bg aH bB ah (O5 (Jj cu) aU _ _)
     |gJ l args a7=>
      rw[g_] at gz
      obtain⟨rfl,fA,vs,aA,aj,J⟩:=gz
      simp only
      cases cu:(call (.gJ l) args a7).oq with
      |false=>obtain⟨s,ah⟩:=FF cu;rw[ah];trivial
      |true=>
       obtain⟨f,tmps,as,dG,aV,aU⟩:=ak.gJ l args a7 cu μ w fA vs ar ti aA J
       rw[<-aj] at aV
       have ah:=cj _ _ _ _ _ _ aV
       exact O6 bg aH bB ah (aU _ _)
     |vF x=>
      rw[g_] at gz
      obtain⟨v9,aj,J⟩:=gz
      simp only
      split
      · trivial
      · refine⟨μ,w,undef,v9::a.defers,cs,?_,⟨[],rfl,rfl⟩,ar,cD.refl _ _ _,⟨_,_,rfl,J,aH⟩,bB⟩
        have ah:=a5 _ _ aj
        rw[bg] at ah
        have he:({a with defers:=v9::a.defers}:Act).put ((some o).bind (·.dst)) undef={tmps:=(a.put o.dst undef).tmps,defers:=v9::a.defers}:=Ya a _ o.dst undef
        rw[he] at ah
        exact ah
     |xA=>
      rw[g_] at gz
      have aj:(execOp a.eval o).run P w=.ok .recover w:=gz
      simp only
      split
      · trivial
      · rename_i Fp
        have Cr:b.roundOf=none:=by
         cases hx:b.roundOf with
         |none=>rfl
         |some l=>rw[hx] at eF;exact absurd eF Fp
        have ai:(b.atR a (.inRegion ops (i::rest)::k)).kind=b.kind:=rfl
        split
        · obtain⟨rfl,aI⟩:=bB
          refine⟨μ,w,.nilIface,a.defers,cs,?_,rfl,ar,cD.refl _ _ _,aH,⟨rfl,aI⟩⟩
          rw[<-p3]
          exact ee Cr _ aj (aI _ ai)
        · have Jk:=bB
          obtain⟨p4,c,rs,u,aG,aE,br,rfl⟩:=bB
          refine⟨μ,w,.nilIface,a.defers,_,?_,rfl,ar,cD.refl _ _ _,aH,Jk⟩
          rw[<-p3]
          refine ee Cr _ aj ?_
          have Jl:(b.atR a (.inRegion ops (i::rest)::k)).kind=.deferred:=ai.trans p4
          simp only[tryRecover,Jl]
        · obtain⟨rfl,p4,c,rs,u,aG,aE,br⟩:=bB
          subst aG
          refine⟨μ,w,u,a.defers,{c with mode:=.panicking [{v:=u,recovered:=true}]}::rs,?_,br,ar,cD.refl _ _ _,aH,⟨p4,c,rs,u,rfl,aE,br,rfl⟩⟩
          rw[<-p3]
          refine cK Cr _ aj _ _ ?_
          have Jl:(b.atR a (.inRegion ops (i::rest)::k)).kind=.deferred:=ai.trans p4
          simp only[tryRecover,Jl,aE]
     |fail s=>trivial
end
end aJ
