/-
  THE ABSTRACT EVALUATOR (operations): a deterministic semantics of loaded code, and the proof that its runs are runs of the program in the model, whatever the tape draws. No condition.
-/
import Derived.Test.YtfooahfebojldaaGreatDoorAea
import Derived.ChangeKeysEq
import Derived.Laws.StructEq
import Derived.AtR
set_option linter.unusedVariables false
set_option linter.unusedSimpArgs false
namespace aC
open Go
section
variable {P:Program} {μ:bG} {H:aa} {w:World}
theorem AB{b off n:Nat}{cs:List J}(h:loadCells H b off n=some cs):cs.length=n:=by
 unfold loadCells at h
 split at h
 · obtain⟨ab,rfl⟩:=th _ _ _ h
   simp;omega
 · cases h
theorem AD:∀l:List UInt8,(cK l).length=l.length
 |[]=>rfl
 |_::l=>by simp[cK,AD l]
theorem HO{size n:Nat}{x:J}{cs:List J}(h:ha H size x=some (n,cs)):cs.length=n*size:=by
 cases x<;>simp only[ha] at h<;>try cases h
 · split at h<;>cases h
   rw[AD];simp
 · simp
 · rename_i b off len cap
   cases cap with
   |dead=>
    simp only at h
    split at h
    · cases h;simp
    · cases h
   |exact c=>
    simp only at h
    split at h
    · rename_i b9 aD;cases h;exact AB aD
    · cases h
   |a5 g_=>
    simp only at h
    split at h
    · rename_i b9 aD;cases h;exact AB aD
    · cases h
theorem Ps(ah:bD μ H w){argTypes:Array TypeId}{ty sT:TypeId}(az:argTypes[0]? =some sT){s x:J}{nY bF:Value}(hs:bn μ s nY)(ad:bn μ x bF){v:J}{bf:aa}
  (h:gf P H sT argTypes[1]? s x=some (v,bf)):fS P μ H w (Builtin.append_ argTypes ty #[nY,bF]) v bf:=by
 unfold gf at h
 split at h
 · rename_i e hu fT
   split at h
   · rename_i i z hi bj
     split at h
     · cases h
     · rename_i n cs hE
       obtain⟨aD,us,mH,ma⟩:=Ax (P:=P) ah ad hE
       have ir:=HO hE
       cases s<;>(try simp only at h)<;>try cases h
       ·
        cases hs
        cases n with
        |zero=>
         cases h
         have:=xK (P:=P) (ty:=ty) az rfl hu fT hi (base:=none) (sLen:=0) (sCap:=0) aD mH (by omega)
         exact .same ah this rfl
        |succ n=>
         have au:lK H e i.bytes i.size (0+(n+1)) z ([]++cs) 0=some (v,bf):=by simpa using h
         exact Dj ah az rfl hu fT hi bj ad hE (old:=[]) ⟨[],rfl,rfl⟩ (by simp) ir (by omega) ah (cw.refl _ _ _) au
       · rename_i b off len cap
         obtain⟨e1,jE,ai⟩:=hs
         cases cap with
         |dead=>cases h
         |exact cap=>
          cases ai
          simp only at h
          split at h
          · rename_i hle
            have hle:=Nat.le_of_ble_eq_true hle
            have al:=xK (P:=P) (ty:=ty) az rfl hu fT hi (base:=some ⟨e1.bo,e1.base+off,none⟩) (sLen:=len) (sCap:=cap) aD mH hle
            simp only[add_plain] at al
            split at h
            · cases h
              have Dl:us=[]:=by
               have ab:=ir;have ae:=ma.length
               cases us with
               |nil=>rfl
               |cons a l=>simp at ab ae;omega
              subst Dl
              refine .same ah (v':=.slice (some ⟨e1.bo,e1.base+off,none⟩) len cap) ?_ ⟨e1,jE,rfl⟩
              rw[al];simp[_root_.Go.storeCells]
            · split at h
              · rename_i ab cL
                cases h
                obtain⟨w',aF,aG,bJ⟩:=xB (P:=P) ah jE ma cL
                refine⟨μ,w',.slice (some ⟨e1.bo,e1.base+off,none⟩) (len+n) cap,?_,⟨e1,jE,rfl⟩,aG,bJ⟩
                rw[al,Nat.add_assoc,aF];rfl
              · cases h
          · rename_i hle
            have cB:cap<len+n:=by
             rcases Nat.lt_or_ge cap (len+n) with h|h
             · exact h
             · rw[xI h] at hle;cases hle
            split at h
            · rename_i old hold
              obtain⟨os,dH,dR⟩:=rT (P:=P) ah.drew jE hold
              exact Dj ah az rfl hu fT hi bj ad hE (old:=old) ⟨os,by simp only[Builtin.firstCells];exact dH,dR⟩ (AB hold) ir cB ah (cw.refl _ _ _) h
            · cases h
         |a5 g_=>
          obtain⟨cap,rfl,rX,bX⟩:=ai
          simp only at h
          split at h
          · rename_i lj
            simp only[Bool.and_eq_true,Nat.blt_eq] at lj
            have Pt:=Nat.eq_of_beq_eq_true lj.1
            subst Pt
            have Ar:=lj.2
            split at h
            · cases h
              have al:=xK (P:=P) (ty:=ty) az rfl hu fT hi (base:=some ⟨e1.bo,e1.base+off,none⟩) (sLen:=len) (sCap:=cap) aD mH (by omega)
              simp only[add_plain] at al
              have Dl:us=[]:=by
               have ab:=ir;have ae:=ma.length
               cases us with
               |nil=>rfl
               |cons a l=>simp at ab ae;omega
              subst Dl
              refine .same ah (v':=.slice (some ⟨e1.bo,e1.base+off,none⟩) len cap) ?_ ⟨e1,jE,cap,rfl,rX,bX⟩
              rw[al];simp[_root_.Go.storeCells]
            · split at h
              · rename_i old el lo fM ag
                have Pu:=ah.rel b _ e1 ag jE
                obtain⟨c,gV,gW,aY,aR,bW,eu,iD⟩:=Pu
                split at h
                · rename_i r5
                  have r5:=Nat.le_of_ble_eq_true r5
                  split at h
                  · rename_i ab cL
                    cases h
                    have pO:len+n<=cap:=by
                     have:(len+n)*i.size<=cap*i.size:=by omega
                     exact Nat.le_of_mul_le_mul_right this Ar
                    have al:=xK (P:=P) (ty:=ty) az rfl hu fT hi (base:=some ⟨e1.bo,e1.base+off,none⟩) (sLen:=len) (sCap:=cap) aD mH pO
                    simp only[add_plain] at al
                    obtain⟨w',aF,aG,bJ⟩:=xB (P:=P) ah jE ma cL
                    refine⟨μ,w',.slice (some ⟨e1.bo,e1.base+off,none⟩) (len+n) cap,?_,⟨e1,jE,cap,rfl,pO,bX⟩,aG,bJ⟩
                    rw[al,Nat.add_assoc,aF];rfl
                  · cases h
                · split at h
                  · rename_i o HP hold
                    simp only[Bool.and_eq_true] at HP
                    obtain⟨kX,Dm⟩:=HP
                    have kX:=Nat.le_of_ble_eq_true kX
                    have Dm:=Nat.eq_of_beq_eq_true Dm
                    subst Dm
                    have au:=h
                    unfold lK at h
                    split at h
                    · rename_i HQ
                      simp only[Bool.and_eq_true] at HQ
                      obtain⟨⟨tk,pN⟩,gm⟩:=HQ
                      cases h
                      have xL:=AB hold
                      by_cases r5:len+n<=cap
                      ·
                       have al:=xK (P:=P) (ty:=ty) az rfl hu fT hi (base:=some ⟨e1.bo,e1.base+off,none⟩) (sLen:=len) (sCap:=cap) aD mH r5
                       simp only[add_plain] at al
                       have hmul:(len+n)*i.size<=cap*i.size:=Nat.mul_le_mul_right _ r5
                       have HN:(len+n)*i.size=len*i.size+n*i.size:=Nat.add_mul _ _ _
                       have oP:us.length=n*i.size:=by rw[<-ma.length];exact ir
                       obtain⟨w',c',aF,aG,bJ,dh,iq,dL,dz,dX,fb⟩:=Hu P e1.bo (e1.base+(off+len*i.size)) us w 0 c el gV gW aY
                        (ma.xz λa bl=>Pg gm a (List.mem_append_right _ bl)) (by omega) (λj AE tl ⟨f1,f2⟩=>by
                         have:=iD (j-e1.base) (by omega) (by omega) (by omega)
                         omega)
                       have Pv:e1.base+off+(e1.size-off)=c'.size:=by rw[dX,<-bW,<-bX];omega
                       obtain⟨bq,a9⟩:=ah.Pa (w':=w') (o':=.cells (o++cs) el .a5 0 (fM-off)) ag rfl jE dh bJ iq dL dz.1 (e1.base+off) (e1.size-off) (hdr:=Nat.le_of_eq dz.2.symm)
                        ⟨c',gV,gW,aG,λj a aV=>by
                         show∃u,c'[e1.base+off+j]? =some u/\_
                         rw[fb]
                         by_cases na:j<o.length
                         · rw[List.getElem?_append_left na] at aV
                           rw[if_neg (by omega)]
                           unfold loadCells at hold
                           rw[ag] at hold
                           simp only at hold
                           rw[m9] at hold
                           obtain⟨t1,rfl⟩:=th _ _ _ hold
                           rw[List.getElem?_take] at aV
                           split at aV
                           · rw[List.getElem?_drop] at aV
                             obtain⟨u,Dn,r1⟩:=aR (off+j) a aV
                             exact⟨u,by rw[Nat.add_assoc];exact Dn,r1.mono (ah.oN _)⟩
                           · cases aV
                         · rw[List.getElem?_append_right (by omega)] at aV
                           have HR:j-o.length<cs.length:=by
                            rcases Nat.lt_or_ge (j-o.length) cs.length with h|h
                            · exact h
                            · rw[List.getElem?_eq_none h] at aV;cases aV
                           have ab6:=ma.length
                           rw[if_pos (by omega)]
                           obtain⟨u,Dn,r1⟩:=ma.get aV
                           refine⟨u,?_,r1.mono (ah.oN _)⟩
                           rw[<-Dn]
                           have Pw:e1.base+off+j-(e1.base+(off+len*i.size)+0)=j-o.length:=by rw[xL];omega
                           rw[Pw],Pv,by
                         refine⟨?_,λj AE tl HS=>?_⟩
                         · simp only[List.length_append];have:=ir;omega
                         · have:=iD (off+j) (by simp only at AE;omega) (by simp only at tl;omega) (by simp only at HS;omega)
                           omega⟩
                       refine⟨_,w',.slice (some ⟨e1.bo,e1.base+off,none⟩) (len+n) cap,?_,⟨_,gY _ _ _,cap,by simp,r5,by simp only;omega⟩,bq,a9⟩
                       rw[al,Nat.add_assoc,aF];rfl
                      ·
                       obtain⟨bx,bI⟩:=ah.kill ag rfl jE
                       obtain⟨os,dH,dR⟩:=rT (P:=P) ah.drew jE hold
                       exact Dj (ty:=ty) ah az rfl hu fT hi bj ad hE (old:=o) ⟨os,by simp only[Builtin.firstCells];exact dH,dR⟩ xL ir (by omega) bx bI au
                    · cases h
                  · cases h
              · cases h
          · cases h
   · cases h
 · cases h
end
end aC
namespace aC
open Go
section
variable {P:Program} {μ:bG} {H:aa} {w:World}
theorem cy.take{μ:bG}{as:List J}{vs:List Value}(h:cy μ as vs)(n:Nat):cy μ (as.take n) (vs.take n):=by
 refine cy.xy (by simp[h.length]) λj a aV=>?_
 rw[List.getElem?_take] at aV⊢
 split at aV
 · rename_i aD;rw[if_pos aD];exact h.get aV
 · cases aV
theorem HT(ah:bD μ H w){size n m:Nat}{x:J}{bF:Value}(ad:bn μ x bF){cs r:List J}(h:ha H size x=some (n,cs))(hm:m<=n)(al:takeN (m*size) cs=some r):
  ∃us:List Value,(Builtin.firstCells size m bF).run P w=.ok ⟨us⟩ w/\cy μ r us:=by
 obtain⟨bh,rfl⟩:=th _ _ _ al
 have ir:=HO h
 cases x<;>simp only[ha] at h<;>try cases h
 · split at h<;>cases h
   obtain⟨bs,rfl,rfl⟩:=ad
   refine⟨_,?_,(Aw μ _).take _⟩
   simp only[Builtin.firstCells,Sem.run_pure]
   congr 1
   apply Array.ext'
   simp[ByteArray.data_extract,List.map_take]
 · cases ad
   exact⟨[],rfl,by simp;rfl⟩
 · rename_i b off len cap
   obtain⟨i,hi,ai⟩:=ad
   have load:∀b9,loadCells H b off (len*size)=some b9->n=len->cs=b9->∀c,∃us:List Value,(Builtin.firstCells size m (.slice (some ⟨i.bo,i.base+off,none⟩) len c)).run P w=.ok ⟨us⟩ w/\cy μ (cs.take (m*size)) us:=by
    intro b9 aD aM kV c
    subst kV;subst aM
    have Px:loadCells H b off (m*size)=some (cs.take (m*size)):=by
     unfold loadCells at aD⊢
     split at aD
     · rename_i aY aR bW eu iD ag
       obtain⟨t1,t2⟩:=th _ _ _ aD
       have hmul:m*size<=n*size:=Nat.mul_le_mul_right _ hm
       have e:∀(k:Nat) (l:List J),k<=l.length->takeN k l=some (l.take k):=by
        intro k
        induction k with
        |zero=>intro l _;simp[takeN]
        |succ k bt=>
         intro l aD
         cases l with
         |nil=>simp at aD
         |cons a l=>simp[takeN,bt l (by simpa using aD)]
       rw[e _ _ (by omega),t2,List.take_take,Nat.min_eq_left hmul]
     · cases aD
    obtain⟨us,ab,ae⟩:=rT (P:=P) ah hi Px
    exact⟨us,by simp only[Builtin.firstCells];exact ab,ae⟩
   cases cap with
   |dead=>
    simp only at h
    split at h
    · cases h
      obtain⟨_,a,c,rfl⟩:=ai
      have:m=0:=by omega
      subst this
      exact⟨[],by simp[Builtin.firstCells,_root_.Go.loadCells,loadCellsFrom],by simp;rfl⟩
    · cases h
   |exact c=>
    cases ai
    simp only at h
    split at h
    · rename_i b9 aD;cases h;exact load _ aD rfl rfl c
    · cases h
   |a5 g_=>
    obtain⟨c,rfl,_⟩:=ai
    simp only at h
    split at h
    · rename_i b9 aD;cases h;exact load _ aD rfl rfl c
    · cases h
theorem Py(ah:bD μ H w){argTypes:Array TypeId}{ty z6:TypeId}(az:argTypes[0]? =some z6){d s:J}{Dp nY:Value}(aj:bn μ d Dp)(hs:bn μ s nY){v:J}{bf:aa}
  (h:z5 P H z6 d s=some (v,bf)):fS P μ H w (Builtin.copy_ argTypes ty #[Dp,nY]) v bf:=by
 unfold z5 at h
 split at h
 · rename_i e hu
   split at h
   · rename_i sz bX
     split at h
     · rename_i n cs hE
       obtain⟨aD,_⟩:=Ax (P:=P) ah hs hE
       have nZ:∀w:World,(_root_.Go.sizeOf e).run P w=.ok sz w:=λw=>run_sizeOf bX
       have HU:∀bF:Value,bF=nY->(Builtin.firstCells sz 0 nY).run P w=.ok #[] w:=λbF _=>by
        obtain⟨us,ab,ae⟩:=HT (P:=P) (m:=0) (r:=[]) ah hs hE (Nat.zero_le _) (by simp[takeN])
        cases us with
        |nil=>exact ab
        |cons a l=>cases ae
       split at h
       · cases h;cases aj
         refine .same ah (v':=.int .i64 0) ?_ rfl
         simp[Builtin.copy_,az,b7 hu,aD,nZ,HU nY rfl,goInt]
       · rename_i b off len cap
         simp only at h
         obtain⟨i,hi,ai⟩:=aj
         have mF:∃(a:Addr) (c:Nat),Dp=.slice (some a) len c/\(cap≠ .dead->a=⟨i.bo,i.base+off,none⟩):=by
          cases cap with
          |exact c=>cases ai;exact⟨_,c,rfl,λ_=>rfl⟩
          |a5 g_=>obtain⟨c,rfl,_⟩:=ai;exact⟨_,c,rfl,λ_=>rfl⟩
          |dead=>obtain⟨rfl,a,c,rfl⟩:=ai;exact⟨a,c,rfl,λh=>absurd rfl h⟩
         obtain⟨a,c,rfl,bl⟩:=mF
         split at h
         · rename_i qR
           cases h
           refine .same ah (v':=.int .i64 0) ?_ rfl
           simp[Builtin.copy_,az,b7 hu,aD,nZ,qR,HU nY rfl,goInt,_root_.Go.storeCells]
         · rename_i qR
           split at h
           · rename_i b9 bh
             split at h
             · rename_i ab cL
               cases h
               have n0:cap≠ .dead:=by
                intro e;subst e
                obtain⟨aF,_⟩:=ai
                subst aF;simp[Nat.min_def] at qR
               have:=bl n0
               subst this
               obtain⟨us,aY,aR⟩:=HT (P:=P) ah hs hE (Nat.min_le_left _ _) bh
               obtain⟨w',aF,aG,bJ⟩:=xB (P:=P) ah hi aR cL
               refine⟨μ,w',.int .i64 (Nat.min n len:Nat),?_,rfl,aG,bJ⟩
               simp[Builtin.copy_,az,b7 hu,aD,nZ,aY,aF,goInt]
             · cases h
           · cases h
       · cases h
     · cases h
   · cases h
 · cases h
theorem Pz(ah:bD μ H w){argTypes:Array TypeId}{ty t:TypeId}(az:argTypes[0]? =some t){x:J}{bF:Value}(ad:bn μ x bF){v:J}{bf:aa}
  (h:pB P H t x=some (v,bf)):fS P μ H w (Builtin.clear_ argTypes ty #[bF]) v bf:=by
 unfold pB at h
 split at h
 · rename_i hu;cases h;cases ad
   exact .same ah (v':=.tuple #[]) (by simp[Builtin.clear_,az,b7 hu]) ⟨[],rfl,rfl⟩
 · rename_i hu;cases h;cases ad
   exact .same ah (v':=.tuple #[]) (by simp[Builtin.clear_,az,b7 hu]) ⟨[],rfl,rfl⟩
 · rename_i hu
   split at h
   · rename_i es c au
     cases h
     obtain⟨i,hi,rfl⟩:=ad
     obtain⟨ents,aF,aG⟩:=ah.rel _ _ i au hi
     have cB:i.bo<w.heap.size:=(ah.lt _ _ hi).2
     obtain⟨bq,a9⟩:=ah.update (w':={w with heap:=w.heap.setIfInBounds i.bo (.map #[] c)}) (o':=.map [] c) au rfl hi (by simp) (λr al=>by simp[Array.getElem?_setIfInBounds];intro e;exact absurd e.symm al) rfl rfl rfl
      ⟨[],by simp[cB],rfl⟩
     refine⟨μ,_,.tuple #[],?_,⟨[],rfl,rfl⟩,bq,a9⟩
     simp[Builtin.clear_,az,b7 hu,getObj,setObj,Sem.run,aF]
   · cases h
 · rename_i e b off n cap hu
   split at h
   · rename_i aM
     cases h
     subst aM
     obtain⟨i,hi,ai⟩:=ad
     have:∃a c,bF=.slice (some a) 0 c:=by
      cases cap with
      |exact c=>cases ai;exact⟨_,c,rfl⟩
      |a5 g_=>obtain⟨c,rfl,_⟩:=ai;exact⟨_,c,rfl⟩
      |dead=>obtain⟨_,a,c,rfl⟩:=ai;exact⟨a,c,rfl⟩
     obtain⟨a,c,rfl⟩:=this
     exact .same ah (v':=.tuple #[]) (by simp[Builtin.clear_,az,b7 hu]) ⟨[],rfl,rfl⟩
   · rename_i aM
     split at h
     · rename_i z bj
       split at h
       · rename_i ab cL
         cases h
         obtain⟨gp,PA,rfl,ag⟩:=mE (P:=P) (w:=w) bj
         have jQ:=O9 n ((kU μ gp).cells ag)
         obtain⟨i,hi,ai⟩:=ad
         have:∃c,bF=.slice (some ⟨i.bo,i.base+off,none⟩) n c:=by
          cases cap with
          |exact c=>cases ai;exact⟨c,rfl⟩
          |a5 g_=>obtain⟨c,rfl,_⟩:=ai;exact⟨c,rfl⟩
          |dead=>obtain⟨az,_⟩:=ai;exact absurd az aM
         obtain⟨c,rfl⟩:=this
         obtain⟨w',aF,aG,bJ⟩:=xB (P:=P) ah hi jQ cL
         refine⟨μ,w',.tuple #[],?_,⟨[],rfl,rfl⟩,aG,bJ⟩
         cases n with
         |zero=>exact absurd rfl aM
         |succ n=>simp[Builtin.clear_,az,b7 hu,PA,aF]
       · cases h
     · cases h
 · cases h
theorem PB(ah:bD μ H w){argTypes:Array TypeId}{ty t:TypeId}(az:argTypes[0]? =some t){x:J}{bF:Value}(ad:bn μ x bF){v:J}(h:cq P H t x=some v):
  fS P μ H w (Builtin.len_ argTypes ty #[bF]) v H:=by
 unfold cq at h
 split at h
 · rename_i s hu;cases h
   obtain⟨bs,rfl,rfl⟩:=ad
   refine .same ah (v':=.int .i64 (bs.size:Int)) (by simp[Builtin.len_,az,b7 hu,goInt]) ?_
   have:bs.data.toList.length=bs.size:=Array.length_toList
   rw[this];rfl
 · rename_i n e hu;cases h
   exact .same ah (v':=.int .i64 (n:Int)) (by simp[Builtin.len_,az,b7 hu,goInt]) rfl
 · rename_i e b off n cap hu;cases h
   obtain⟨i,hi,ai⟩:=ad
   have:∃a c,bF=.slice a n c:=by
    cases cap with
    |exact c=>cases ai;exact⟨_,c,rfl⟩
    |a5 g_=>obtain⟨c,rfl,_⟩:=ai;exact⟨_,c,rfl⟩
    |dead=>obtain⟨rfl,a,c,rfl⟩:=ai;exact⟨_,c,rfl⟩
   obtain⟨a,c,rfl⟩:=this
   exact .same ah (v':=.int .i64 (n:Int)) (by simp[Builtin.len_,az,b7 hu,goInt]) rfl
 · rename_i hu;cases h;cases ad
   exact .same ah (v':=.int .i64 0) (by simp[Builtin.len_,az,b7 hu,goInt]) rfl
 · rename_i hu;cases h;cases ad
   exact .same ah (v':=.int .i64 0) (by simp[Builtin.len_,az,b7 hu,goInt]) rfl
 · rename_i r hu
   split at h
   · rename_i es c au
     cases h
     obtain⟨i,hi,rfl⟩:=ad
     obtain⟨ents,aF,aG⟩:=ah.rel _ _ i au hi
     have hlen:es.length=ents.length:=by
      clear aF au
      induction es generalizing ents with
      |nil=>cases aG;rfl
      |cons e es bt=>obtain⟨m,ms,rfl,_,ae⟩:=aG;simp[bt ms ae]
     refine .same ah (v':=.int .i64 (ents.length:Int)) ?_ (by rw[hlen];rfl)
     simp[Builtin.len_,az,b7 hu,goInt,getObj,Sem.run,aF]
   · cases h
 · rename_i arr hu
   split at h
   · rename_i n e r1;cases h
     exact .same ah (v':=.int .i64 (n:Int)) (by simp[Builtin.len_,az,b7 hu,b7 r1,goInt]) rfl
   · cases h
 · cases h
theorem PC(ah:bD μ H w){argTypes:Array TypeId}{ty t:TypeId}(az:argTypes[0]? =some t){x:J}{bF:Value}(ad:bn μ x bF){v:J}(h:z4 P t x=some v):
  fS P μ H w (Builtin.cap_ argTypes ty #[bF]) v H:=by
 unfold z4 at h
 split at h
 · rename_i n e hu;cases h
   exact .same ah (v':=.int .i64 (n:Int)) (by simp[Builtin.cap_,az,b7 hu,goInt]) rfl
 · rename_i e b off n c hu;cases h
   obtain⟨i,hi,ai⟩:=ad
   cases ai
   exact .same ah (v':=.int .i64 (c:Int)) (by simp[Builtin.cap_,az,b7 hu,goInt]) rfl
 · rename_i hu;cases h;cases ad
   exact .same ah (v':=.int .i64 0) (by simp[Builtin.cap_,az,b7 hu,goInt]) rfl
 · cases h
theorem Dq(f:J->J->Option J)(F:Value->Value->Sem Value)(hf:∀x y z bF gZ,f x y=some z->bn μ x bF->bn μ y gZ->∃gp,(F bF gZ).run P w=.ok gp w/\bn μ z gp):
  ∀(l:List J) (x:J) (bF:Value) (jR:List Value) (z:J),bn μ x bF->cy μ l jR->lg f x l=some z->∃gp,(jR.foldlM F bF).run P w=.ok gp w/\bn μ z gp
 |[],x,bF,jR,z,ad,aD,h=>by
  cases aD;simp[lg] at h;subst h
  exact⟨bF,rfl,ad⟩
 |y::l,x,bF,jR,z,ad,⟨gZ,HV,e,bu,aD⟩,h=>by
  subst e
  simp only[lg] at h
  split at h
  · rename_i u hu
    obtain⟨mI,bq,a9⟩:=hf x y u bF gZ hu ad bu
    obtain⟨gp,s1,s2⟩:=Dq f F hf l u mI HV z a9 aD h
    exact⟨gp,by simp only[List.foldlM_cons,Sem.run_bind,bq,Result.andThen_ok,s1],s2⟩
  · cases h
theorem PD{x y z:J}{bF gZ:Value}(h:mz x y=some z)(ad:bn μ x bF)(bu:bn μ y gZ):∃gp,(Builtin.min2 bF gZ).run P w=.ok gp w/\bn μ z gp:=by
 unfold mz at h
 split at h
 · split at h
   · rename_i ax;cases h;subst ax
     cases ad;cases bu
     exact⟨_,rfl,by simp[bn,br]⟩
   · cases h
 · cases h
theorem PE{x y z:J}{bF gZ:Value}(h:xk x y=some z)(ad:bn μ x bF)(bu:bn μ y gZ):∃gp,(Builtin.max2 bF gZ).run P w=.ok gp w/\bn μ z gp:=by
 unfold xk at h
 split at h
 · split at h
   · rename_i ax;cases h;subst ax
     cases ad;cases bu
     exact⟨_,rfl,by simp[bn,br]⟩
   · cases h
 · cases h
end
end aC
namespace aC
open Go
section
variable {P:Program} {μ:bG} {H:aa} {w:World}
theorem HW:∀(cs:List J) (bs:List UInt8) (us:List Value),nR cs=some bs->cy μ cs us->us=bs.map λb=>.int .u8 (b.toNat:Int)
 |[],bs,us,h,al=>by cases al;simp[nR] at h;subst h;rfl
 |c::cs,bs,us,h,⟨v,vs,e,ab,ae⟩=>by
  subst e
  unfold nR at h
  split at h
  · rename_i heq;cases heq
  · rename_i n l heq
    cases heq
    split at h
    · rename_i r aM al
      cases h
      cases ab
      rw[HW cs r vs al ae]
      simp only[Nat.blt_eq] at aM
      have:n %256=n:=Nat.mod_eq_of_lt aM
      simp[UInt8.toNat_ofNat',this]
    · cases h
  · cases h
theorem HX(w:World):∀(bs:List UInt8) (acc:ByteArray),(forIn (bs.map λb=>Value.int .u8 (b.toNat:Int)) acc λc s=>
  (match c with
  |.int .u8 n=>pure (ForInStep.yield (s.push (UInt8.ofNat n.toNat)))
  |_=>do stuck "bytesToString: byte expected";pure (ForInStep.yield s):Sem (ForInStep ByteArray))).run P w=.ok ⟨acc.data++bs.toArray⟩ w
 |[],acc=>by simp
 |b::bs,acc=>by
  simp only[List.map_cons,List.forIn_cons,Sem.run_bind,Sem.run_pure,Result.andThen_ok,HX w bs]
  congr 1
  simp[ByteArray.ext_iff,ByteArray.push]
theorem PF(ah:bD μ H w){b off n:Nat}{cap:cE}(pO:cap≠ .dead){bF:Value}(ad:bn μ (.slice b off n cap) bF){cs:List J}(aD:loadCells H b off n=some cs){bs:List UInt8}(ag:nR cs=some bs):
  fS P μ H w (Conv.bytesToString bF) (.str bs) H:=by
 obtain⟨i,hi,ai⟩:=ad
 have:∃c,bF=.slice (some ⟨i.bo,i.base+off,none⟩) n c:=by
  cases cap with
  |exact c=>cases ai;exact⟨c,rfl⟩
  |a5 g_=>obtain⟨c,rfl,_⟩:=ai;exact⟨c,rfl⟩
  |dead=>exact absurd rfl pO
 obtain⟨c,rfl⟩:=this
 obtain⟨us,ab,ae⟩:=rT (P:=P) ah hi aD
 have mH:=HW cs bs us ag ae
 subst mH
 refine .same ah (v':=.string ⟨bs.toArray⟩) ?_ ⟨_,rfl,by simp⟩
 simp only[Conv.bytesToString,Sem.run_bind,ab,Result.andThen_ok]
 have e:=HX (P:=P) w bs ByteArray.empty
 rw[<-List.forIn_toArray] at e
 refine(congrArg (λr=>Result.andThen r _) e).trans ?_
 simp
theorem PG(ah:bD μ H w){e:TypeId}{bs:ByteArray}:
  fS P μ H w (Conv.stringToBytes e bs) (.slice H.n 0 bs.data.toList.length (.a5 1)) (H.push (.cells (cK bs.data.toList) e .a5 0 0)):=by
 have Ay:(Question.appendCap bs.size 0 e).forced=false:=rfl
 have bX:bs.data.toList.length=bs.size:=Array.length_toList
 obtain⟨cap,pO,hle⟩:∃cap,(Question.appendCap bs.size 0 e).cut (w.tape w.drawn (Question.appendCap bs.size 0 e))=cap/\bs.size<=cap:=⟨_,rfl,by simp[Question.cut]⟩
 have Dr:=ah.drew.oN ⟨w.heap.size,0,cap⟩
 let c:Array Value:=(bs.data.map λb=>.int .u8 b.toNat)++Array.replicate (cap-bs.size) (.int .u8 0)
 have kV:c.size=cap:=by
  have:bs.data.size=bs.size:=rfl
  simp only[c,Array.size_append,Array.size_map,Array.size_replicate,this];omega
 have rU:Hp (gX μ H.n ⟨w.heap.size,0,cap⟩) (cK bs.data.toList) c 0:=λj v aV=>by
  obtain⟨u,hu,al⟩:=(Aw μ bs.data.toList).get aV
  refine⟨u,?_,al.mono Dr⟩
  have Dk:j<bs.data.size:=by
   rcases Nat.lt_or_ge j bs.data.size with h|h
   · exact h
   · rw[List.getElem?_eq_none (by simpa using h)] at hu;cases hu
  simp only[c,Nat.zero_add]
  rw[Array.getElem?_append_left (by simpa using Dk)]
  simpa using hu
 have PH:bD (gX μ H.n ⟨w.heap.size,0,cap⟩) (H.push (.cells (cK bs.data.toList) e .a5 0 0)) (w.drew.alloc (.cells c e))/\cw μ H w.drew (gX μ H.n ⟨w.heap.size,0,cap⟩) (H.push (.cells (cK bs.data.toList) e .a5 0 0)) (w.drew.alloc (.cells c e)):=
  ah.drew.alloc (.cells (cK bs.data.toList) e .a5 0 0) (.cells c e) cap
  ⟨c,0,0,World.heap_alloc_new _ _,rU,by simp[kV],by
    refine⟨?_,λj _ _ h=>by omega⟩
    rw[AD,bX];exact hle⟩
 obtain⟨bq,a9⟩:=PH
 let b3:World:=(w.drew.alloc (.cells c e)).freeze ⟨w.heap.size,cap,none⟩ 1
 have PI:b3.heap[w.heap.size]? =some (.cells c e (cap,cap+1)):=by
  simp only[b3,World.freeze,if_neg (show¬(1=0) by omega),Array.getElem?_modify]
  have:(w.drew.alloc (.cells c e)).heap[w.heap.size]? =some (.cells c e (0,0)):=World.heap_alloc_new _ _
  rw[this];simp
 have r3:(H.push (.cells (cK bs.data.toList) e .a5 0 0)).get H.n=some (.cells (cK bs.data.toList) e .a5 0 0):=by rw[aa.e6,if_pos rfl]
 have cL:bD (gX μ H.n ⟨w.heap.size,0,cap⟩) ((H.push (.cells (cK bs.data.toList) e .a5 0 0)).set H.n (some (.cells (cK bs.data.toList) e .a5 0 0))) b3/\
   cw (gX μ H.n ⟨w.heap.size,0,cap⟩) (H.push (.cells (cK bs.data.toList) e .a5 0 0)) (w.drew.alloc (.cells c e)) (gX μ H.n ⟨w.heap.size,0,cap⟩) ((H.push (.cells (cK bs.data.toList) e .a5 0 0)).set H.n (some (.cells (cK bs.data.toList) e .a5 0 0))) b3:=
  bq.update r3 rfl (gY _ _ _) (by simp[b3,World.freeze]) (λr al=>by
   simp only[b3,World.freeze,if_neg (show¬(1=0) by omega),Array.getElem?_modify]
   rw[if_neg (λe=>al e.symm)]) (by simp[b3,World.freeze]) (by simp[b3,World.freeze]) (by simp[b3,World.freeze])
   ⟨c,cap,cap+1,PI,rU,by simp[kV],by
     refine⟨by rw[AD,bX];exact hle,λj AE tl HS=>by simp only at AE tl;omega⟩⟩
 refine⟨gX μ H.n ⟨w.heap.size,0,cap⟩,b3,.slice (some ⟨w.heap.size,0,none⟩) bs.size cap,?_,⟨⟨w.heap.size,0,cap⟩,gY _ _ _,cap,by simp[bX],by rw[bX];exact hle,by simp⟩,?_,?_⟩
 · simp only[Conv.stringToBytes,Sem.run_bind,run_choose,Ay,Bool.false_eq_true,if_false,World.drew_eq,Result.andThen_ok,pO]
   have aF:(_root_.Go.newRow e c).run P w.drew=.ok ⟨w.heap.size,0,none⟩ (w.drew.alloc (.cells c e)):=rfl
   rw[show(_root_.Go.newRow e ((bs.data.map λb=>.int .u8 b.toNat)++Array.replicate (cap-bs.size) (.int .u8 0))).run P w.drew=_ from aF]
   have aG:(w.drew.alloc (.cells c e)).shape? w.heap.size=some (e,cap):=by
    have:(w.drew.alloc (.cells c e)).heap[w.heap.size]? =some (.cells c e (0,0)):=World.heap_alloc_new _ _
    simp only[World.shape?,this,kV]
   simp only[Result.andThen_ok,markStringish,Sem.run_bind,run_shape,aG,run_freeze,Sem.run_pure]
   rfl
 ·
  refine⟨λb o i ag hi=>cL.1.rel b o i ?_ hi,λb c' i j ag ai=>cL.1.inj b c' i j ?_ ?_,cL.1.lt,λb ag=>?_⟩
  · rw[aa.bV];split
    · rename_i e;subst e;rw[r3] at ag;exact ag
    · exact ag
  · rw[aa.bV];split
    · simp
    · exact ag
  · rw[aa.bV];split
    · exact⟨_,rfl,rfl⟩
    · exact ai
  · exact bq.bound b ag
 · refine cw.trans ah ah.drew cw.drew (cw.trans ah.drew bq a9 ⟨fL.refl _,cL.2.size,Nat.le_refl _,λ_ _ h=>h,λ_ _ _=>rfl,cL.2.old,λb i h an=>(by rw[h] at an;cases an),λb o i ag al hi=>⟨ag,(cL.2.ro b o i ag al hi).2⟩,cL.2.os,cL.2.out,cL.2.tape,cL.2.drawn⟩)
theorem PJ{i:h3}{o o':Nat}:(sameAddr ⟨i.bo,i.base+o,none⟩ ⟨i.bo,i.base+o',none⟩).run P w=.ok (Nat.beq o o') w:=by
 simp only[sameAddr,beq_self_eq_true,if_true,Sem.run_pure]
 congr 1
 rw[Bool.eq_iff_iff]
 simp
theorem PK{r r' o o' el xM:Nat}{c c':Array Value}(h:w.heap[r]? =some (.cells c el (0,0)))(an:w.heap[r']? =some (.cells c' xM (0,0)))(eb:r≠r'):
  (sameAddr ⟨r,o,none⟩ ⟨r',o',none⟩).run P w=.ok false w:=by
 have ag:(r==r')=false:=beq_eq_false_iff_ne.2 eb
 have f1:∀k,w.frozen? ⟨r,k,none⟩=false:=λk=>by simp[World.frozen?,h]
 have f2:∀k,w.frozen? ⟨r',k,none⟩=false:=λk=>by simp[World.frozen?,an]
 have s1:w.shape? r=some (el,c.size):=by simp[World.shape?,h]
 have s2:w.shape? r'=some (xM,c'.size):=by simp[World.shape?,an]
 simp[sameAddr,ag,f1,f2,noView,viewAt,s1,s2,mayBeOne,stringish]
theorem Ds(w:World)(D:Nat)(E:TypeId->J->J->Option Bool)(gA:∀t x y b bF gZ,E t x y=some b->bn μ x bF->bn μ y gZ->(Op.equalIn D t bF gZ).run P w=.ok b w)
  {xs ys:List J}{tm tn:List Value}(ad:cy μ xs tm)(bu:cy μ ys tn):∀(dm:List Field) (b:Bool),eqFields P E xs ys dm=some b->(Op.eqFields D ⟨tm⟩ ⟨tn⟩ dm).run P w=.ok b w
 |[],b,h=>by cases h;rfl
 |f::dm,b,h=>by
  simp only[eqFields] at h
  split at h
  · rename_i aM
    have aM:f.name= "_" :=of_decide_eq_true aM
    have bt:=Ds w D E gA ad bu dm b h
    simp only[Op.eqFields,aM,ne_eq,not_true_eq_false,if_false]
    exact bt
  · rename_i aM
    have aM:¬(f.name= "_"):=of_decide_eq_false aM
    split at h
    · rename_i a c bl ai
      obtain⟨xN,cO,eo⟩:=r2 (P:=P) (w:=w) ad bl
      obtain⟨g0,aY,aR⟩:=r2 (P:=P) (w:=w) bu ai
      split at h
      · rename_i he
        have al:=gA _ _ _ _ xN g0 he eo aR
        have bt:=Ds w D E gA ad bu dm b h
        simp only[Op.eqFields,ne_eq,aM,not_false_eq_true,if_true,Sem.run_bind,cO,aY,Result.andThen_ok,al,Bool.not_true,Bool.false_eq_true,if_false]
        exact bt
      · rename_i r al
        cases b with
        |true=>exact absurd h al
        |false=>
         have r6:=gA _ _ _ _ xN g0 h eo aR
         simp only[Op.eqFields,ne_eq,aM,not_false_eq_true,if_true,Sem.run_bind,cO,aY,Result.andThen_ok,r6,Bool.not_false,Sem.run_pure]
    · cases h
theorem HY(w:World)(D:Nat){e:TypeId}{sz:Nat}(E:TypeId->J->J->Option Bool)(gA:∀t x y b bF gZ,E t x y=some b->bn μ x bF->bn μ y gZ->(Op.equalIn D t bF gZ).run P w=.ok b w){xs ys:List J}{tm tn:List Value}(ad:cy μ xs tm)(bu:cy μ ys tn):
  ∀(n i:Nat) (b:Bool),xj P E e sz xs ys n i=some b->(Op.eqItems D e sz ⟨tm⟩ ⟨tn⟩ (List.range' i n)).run P w=.ok b w
 |0,i,b,h=>by simp only[xj] at h;cases h;simp[Op.eqItems]
 |n+1,i,b,h=>by
  simp only[xj] at h
  rw[List.range'_succ]
  split at h
  · rename_i a c bl ai
    obtain⟨xN,cO,eo⟩:=r2 (P:=P) (w:=w) ad bl
    obtain⟨g0,aY,aR⟩:=r2 (P:=P) (w:=w) bu ai
    split at h
    · rename_i he
      have al:=gA _ _ _ _ xN g0 he eo aR
      have bt:=HY w D E gA ad bu n (i+1) b h
      simp only[Op.eqItems,Sem.run_bind,cO,aY,Result.andThen_ok,al,Bool.not_true,Bool.false_eq_true,if_false]
      exact bt
    · rename_i r al
      cases b with
      |true=>exact absurd h al
      |false=>
       have r6:=gA _ _ _ _ xN g0 h eo aR
       simp only[Op.eqItems,Sem.run_bind,cO,aY,Result.andThen_ok,r6,Bool.not_false,if_true,Sem.run_pure]
  · cases h
set_option maxHeartbeats 4000000 in
theorem tp(ah:bD μ H w):∀(d:Nat) (t:TypeId) (x y:J) (b:Bool) (bF gZ:Value) (D:Nat),d<=D->iT P H d t x y=some b->bn μ x bF->bn μ y gZ->(Op.equalIn D t bF gZ).run P w=.ok b w
 |0,t,x,y,b,bF,gZ,D,_,h,_,_=>by simp[iT] at h
 |d+1,t,x,y,b,bF,gZ,0,aj,_,_,_=>by omega
 |d+1,t,x,y,b,bF,gZ,D+1,aj,h,ad,bu=>by
  unfold iT at h
  cases hu:P.underlying t with
  |none=>rw[hu] at h;cases h
  |some u=>
   rw[hu] at h
   cases u<;>simp only at h
   case bool=>
    split at h<;>cases h
    cases ad;cases bu
    simp[Op.equalIn,b7 hu]
   case int kd=>
    split at h
    · split at h
      · rename_i ax;cases h;subst ax;cases ad;cases bu
        simp[Op.equalIn,b7 hu,ba]
      · cases h
    · cases h
   case string=>
    split at h<;>cases h
    obtain⟨s1,rfl,rfl⟩:=ad
    obtain⟨s2,rfl,rfl⟩:=bu
    rw[oR,<-r0,<-r0,<-beq_toListBytes]
    simp[Op.equalIn,b7 hu]
   case pointer e=>
    split at h
    · cases h;cases ad;cases bu;simp[Op.equalIn,b7 hu]
    · cases h;cases ad;obtain⟨i,_,rfl⟩:=bu;simp[Op.equalIn,b7 hu]
    · cases h;cases bu;obtain⟨i,_,rfl⟩:=ad;simp[Op.equalIn,b7 hu]
    · rename_i a i pP j
      split at h
      · rename_i n hs
        obtain⟨vu,Dt,rfl⟩:=ad
        obtain⟨ke,AF,rfl⟩:=bu
        have bX:(_root_.Go.sizeOf e).run P w=.ok (n+1) w:=run_sizeOf hs
        have goal:∀r,(sameAddr ⟨vu.bo,vu.base+i,none⟩ ⟨ke.bo,ke.base+j,none⟩).run P w=r->(Op.equalIn (D+1) t (.pointer (some ⟨vu.bo,vu.base+i,none⟩)) (.pointer (some ⟨ke.bo,ke.base+j,none⟩))).run P w=r:=by
         intro r al
         simp[Op.equalIn,b7 hu,bX,al]
        unfold CZ at h
        split at h
        · rename_i oV
          cases h
          have:=Nat.eq_of_beq_eq_true oV
          subst this
          rw[Dt] at AF;cases AF
          exact goal _ PJ
        · rename_i oV
          split at h
          · rename_i jF iu
            cases h
            obtain⟨c1,_,_,bx,_,_,bI⟩:=ah.rel _ _ vu jF Dt
            obtain⟨c2,_,_,bK,_,_,bQ⟩:=ah.rel _ _ ke iu AF
            obtain⟨_,_,rfl,rfl⟩:=bI
            obtain⟨_,_,rfl,rfl⟩:=bQ
            refine goal _ (PK bx bK λe=>?_)
            have:=ah.inj _ _ vu ke (by rw[jF];simp) ⟨_,iu,rfl⟩ Dt AF e
            subst this
            simp at oV
          · cases h
      · cases h
    · cases h
   case slice e=>
    have iv:∀(b off n:Nat) (c:cE) (v:Value),bn μ (.slice b off n c) v->∃a m k,v=.slice (some a) m k:=by
     rintro b off n c v ⟨i,_,ai⟩
     cases c with
     |exact c=>cases ai;exact⟨_,_,_,rfl⟩
     |a5 g_=>obtain⟨c,rfl,_⟩:=ai;exact⟨_,_,_,rfl⟩
     |dead=>obtain⟨_,a,c,rfl⟩:=ai;exact⟨_,_,_,rfl⟩
    split at h
    · cases h;cases ad;cases bu;simp[Op.equalIn,b7 hu]
    · cases h;cases ad;obtain⟨a,m,k,rfl⟩:=iv _ _ _ _ _ bu;simp[Op.equalIn,b7 hu]
    · cases h;cases bu;obtain⟨a,m,k,rfl⟩:=iv _ _ _ _ _ ad;simp[Op.equalIn,b7 hu]
    · cases h
   case map k e=>
    split at h
    · cases h;cases ad;cases bu;simp[Op.equalIn,b7 hu]
    · cases h;cases ad;obtain⟨i,_,rfl⟩:=bu;simp[Op.equalIn,b7 hu]
    · cases h;cases bu;obtain⟨i,_,rfl⟩:=ad;simp[Op.equalIn,b7 hu]
    · cases h
   case func ps rs v=>
    split at h
    · cases h;cases ad;cases bu;simp[Op.equalIn,b7 hu]
    · cases h;cases ad;obtain⟨_,_,rfl,_⟩:=bu;simp[Op.equalIn,b7 hu]
    · cases h;cases bu;obtain⟨_,_,rfl,_⟩:=ad;simp[Op.equalIn,b7 hu]
    · cases h
   case interface ms=>
    split at h
    · cases h;cases ad;cases bu;simp[Op.equalIn,b7 hu]
    · cases h;cases ad;obtain⟨_,rfl,_⟩:=bu;simp[Op.equalIn,b7 hu]
    · cases h;cases bu;obtain⟨_,rfl,_⟩:=ad;simp[Op.equalIn,b7 hu]
    · rename_i a v pP u
      obtain⟨v1,rfl,bq⟩:=ad
      obtain⟨ky,rfl,a9⟩:=bu
      split at h
      · rename_i oV
        cases h
        have:a≠pP:=by intro e;subst e;simp at oV
        simp[Op.equalIn,b7 hu,this]
      · rename_i oV
        have:=Nat.eq_of_beq_eq_true oV
        subst this
        split at h
        · rename_i ab7 Az
          split at h
          · rename_i PL
            have bt:=tp ah d a v u b v1 ky D (by omega) h bq a9
            simp[Op.equalIn,b7 hu,run_typeInfo Az,PL,bt]
          · cases h
        · cases h
    · cases h
   case struct dm=>
    split at h
    · rename_i xs ys
      split at h
      · cases h
      · rename_i cL
        obtain⟨tm,rfl,h9⟩:=ad
        obtain⟨tn,rfl,vw⟩:=bu
        have key:=Ds (P:=P) w D (iT P H d) (λt x y b bF gZ he ab ae=>tp ah d t x y b bF gZ D (by omega) he ab ae) h9 vw dm.toList b h
        have vx:P.fieldsOf t=dm:=by simp[Program.fieldsOf,hu]
        rw[run_equalIn_struct w D t _ _ (by rw[vx];exact hu) cL,vx]
        exact key
    · cases h
   case array n e=>
    split at h
    · rename_i xs ys
      split at h
      · rename_i sz bX
        obtain⟨tm,rfl,h9⟩:=ad
        obtain⟨tn,rfl,vw⟩:=bu
        have hi:∃i,P.info? e=some i/\i.size=sz:=by
         unfold dQ at bX
         split at bX
         · rename_i i hi;cases bX;exact⟨i,hi,rfl⟩
         · cases bX
        obtain⟨i,hi,PM⟩:=hi
        have PN:P.cellsOf e=sz:=by unfold Program.cellsOf;rw[hi];exact PM
        rw[run_equalIn_array w D _ _ hu hi,PN,List.range_eq_range']
        exact HY w D (iT P H d) (λt x y b bF gZ he ab ae=>tp ah d t x y b bF gZ D (by omega) he ab ae) h9 vw n 0 b h
      · cases h
    · cases h
   all_goals cases h
theorem HZ{u:TypeDesc}{dx:TypeId}(hu:P.underlying dx=some u){k x:J}{kv bF:Value}{b:Bool}(ax:pC P dx k=true)(h:qF k x=some b)(ab:bn μ k kv)(ae:bn μ x bF):Instr.sameNow u kv bF=some b:=by
 unfold pC at ax
 rw[hu] at ax
 cases u<;>simp only at ax<;>try cases ax
 ·
  split at ax<;>try cases ax
  cases x<;>simp only[qF] at h<;>cases h
  cases ab;cases ae;rfl
 ·
  split at ax<;>try cases ax
  cases x<;>simp only[qF] at h<;>try cases h
  split at h
  · rename_i e;cases h;subst e;cases ab;cases ae;simp[Instr.sameNow,ba]
  · cases h
 · split at ax<;>try cases ax
   cases x<;>simp only[qF] at h<;>cases h
   obtain⟨s1,rfl,rfl⟩:=ab
   obtain⟨s2,rfl,rfl⟩:=ae
   simp only[Instr.sameNow]
   rw[oR,<-r0,<-r0,<-beq_toListBytes]
def AG(μ:bG):Option (Nat×J)->Option (Nat×Value)->Prop
 |none,none=>True
 |some (i,a),some (j,v)=>i=j/\bn μ a v
 |_,_=>False
theorem H2{H:aa}{dx:TypeId}{k x:J}(ax:∀cs,k≠ .agg cs):xm P H dx k x=qF k x:=by
 cases k<;>first|rfl|exact absurd rfl (ax _)
theorem H3{dx:TypeId}{k:J}(ax:∀cs,k≠ .agg cs)(h:pD P dx k=true):pC P dx k=true:=by
 cases k<;>first|exact h|exact absurd rfl (ax _)
theorem H4{H:aa}{u:TypeDesc}{dx:TypeId}(hu:P.underlying dx=some u){k:J}{kv:Value}(hs:∀cs,k≠ .agg cs)(ax:pC P dx k=true)(ab:bn μ k kv):∀(es:List hC) (ents:List MapEntry) (i:Nat) (r:Option (Nat×J)),gU μ es ents->lL P H dx k es i=some r->
  ∃r',Instr.findNow u kv ents i=some r'/\AG μ r r'
 |[],_,i,r,he,h=>by
  cases he;simp[lL] at h;subst h
  exact⟨none,rfl,trivial⟩
 |e::es,_,i,r,⟨m,ms,aF,aG,bJ⟩,h=>by
  subst aF
  simp only[lL,H2 hs] at h
  split at h
  · rename_i hs
    cases h
    exact⟨some (i,m.val),by simp[Instr.findNow,HZ hu ax hs ab aG.1],rfl,aG.2.1⟩
  · rename_i aS
    obtain⟨r',aY,aR⟩:=H4 hu hs ax ab es ms (i+1) r bJ h
    exact⟨r',by simp[Instr.findNow,HZ hu ax aS ab aG.1,aY],aR⟩
  · cases h
theorem H5(ah:bD μ H w){dx:TypeId}{cs:List J}{kv:Value}(ab:bn μ (.agg cs) kv):∀(es:List hC) (ents:List MapEntry) (i:Nat) (r:Option (Nat×J)),gU μ es ents->lL P H dx (.agg cs) es i=some r->
  ∃r',(Instr.findAsking dx kv ents i).run P w=.ok r' w/\AG μ r r'
 |[],_,i,r,he,h=>by
  cases he;simp[lL] at h;subst h
  exact⟨none,rfl,trivial⟩
 |e::es,_,i,r,⟨m,ms,aF,aG,bJ⟩,h=>by
  subst aF
  simp only[lL,xm] at h
  split at h
  · rename_i hs
    cases h
    have:=tp (P:=P) ah 8 dx _ _ true kv m.key Op.maxDepth (by decide) hs ab aG.1
    exact⟨some (i,m.val),by simp[Instr.findAsking,Op.equal,this],rfl,aG.2.1⟩
  · rename_i hs
    have:=tp (P:=P) ah 8 dx _ _ false kv m.key Op.maxDepth (by decide) hs ab aG.1
    obtain⟨r',aY,aR⟩:=H5 ah ab es ms (i+1) r bJ h
    exact⟨r',by simp[Instr.findAsking,Op.equal,this,aY],aR⟩
  · cases h
theorem Du{H:aa}{dx:TypeId}{k:J}:∀(es:List hC) (i:Nat) (j:Nat) (v:J),lL P H dx k es i=some (some (j,v))->i<=j/\∃e,es[j-i]? =some e/\e.val=v/\xm P H dx k e.key=some true
 |[],i,j,v,h=>by simp[lL] at h
 |e::es,i,j,v,h=>by
  simp only[lL] at h
  split at h
  · rename_i hs
    cases h;exact⟨Nat.le_refl _,e,by simp,rfl,hs⟩
  · obtain⟨ab,ed,ae,aB⟩:=Du es (i+1) j v h
    refine⟨by omega,ed,?_,aB⟩
    have:j-i=(j-(i+1))+1:=by omega
    rw[this];simpa using ae
  · cases h
theorem Dv{dx:TypeId}{k:J}{kv:Value}(ax:pC P dx k=true)(b:Bool)(n:Nat):(Instr.checkKey b (n+1) dx kv).run P w=.ok () w:=by
 unfold pC at ax
 cases hu:P.underlying dx with
 |none=>rw[hu] at ax;cases ax
 |some u=>
  rw[hu] at ax
  cases u<;>simp only at ax<;>try cases ax
  all_goals simp[Instr.checkKey,b7 hu]
theorem H6(b:Bool){m n:Nat}(hm:m=n+1){cs:List J}{l:List Value}(aD:cy μ cs l):∀(dm:List Field),z7 P cs dm=true->
  (forIn dm PUnit.unit (λf _=>if f.name≠ "_" then(do let x<-part f.type ⟨l⟩ f.offset;Instr.checkKey b m f.type x;pure (ForInStep.yield PUnit.unit)) else pure (ForInStep.yield PUnit.unit)):Sem PUnit).run P w=.ok PUnit.unit w
 |[],h=>by simp
 |f::dm,h=>by
  unfold z7 at h
  split at h
  · rename_i a bl
    split at h
    · rename_i ax
      have bt:=H6 b hm aD dm h
      obtain⟨u,cO,eo⟩:=r2 (P:=P) (w:=w) aD bl
      have ai:=Dv (P:=P) (w:=w) (kv:=u) ax b n
      rw[<-hm] at ai
      rw[List.forIn_cons]
      by_cases aM:f.name= "_"
      · simp only[aM,ne_eq,not_true_eq_false,if_false,Sem.run_bind,Sem.run_pure,Result.andThen_ok]
        exact bt
      · simp only[ne_eq,aM,not_false_eq_true,if_true,Sem.run_bind,cO,Result.andThen_ok,ai,Sem.run_pure]
        exact bt
    · cases h
  · cases h
theorem H7(b:Bool){m n:Nat}(hm:m=n+1){e:TypeId}{sz:Nat}(bX:dQ P e=some sz){cs:List J}{l:List Value}(aD:cy μ cs l):∀(k i:Nat),z8 P e sz cs k i=true->
  (forIn (List.range' i k) PUnit.unit (λi _=>do (Instr.checkKey b m e (<-part e ⟨l⟩ (i*(<-_root_.Go.sizeOf e))));pure (ForInStep.yield PUnit.unit)):Sem PUnit).run P w=.ok PUnit.unit w
 |0,i,h=>by simp
 |k+1,i,h=>by
  unfold z8 at h
  split at h
  · rename_i a bl
    split at h
    · rename_i ax
      have bt:=H7 b hm bX aD k (i+1) h
      obtain⟨u,cO,eo⟩:=r2 (P:=P) (w:=w) aD bl
      have ai:=Dv (P:=P) (w:=w) (kv:=u) ax b n
      rw[<-hm] at ai
      rw[List.range'_succ,List.forIn_cons]
      simp only[Sem.run_bind,run_sizeOf bX,cO,Result.andThen_ok,ai,Sem.run_pure]
      exact bt
    · cases h
  · cases h
theorem PO{dx:TypeId}{cs:List J}{l:List Value}(aD:cy μ cs l)(ax:pD P dx (.agg cs)=true)(b:Bool){m n:Nat}(hm:m=n+1):(Instr.checkKey b (m+1) dx (.agg ⟨l⟩)).run P w=.ok () w:=by
 unfold pD at ax
 simp only at ax
 split at ax
 · rename_i dm hu
   have key:=H6 (P:=P) (w:=w) b hm aD dm.toList ax
   simp only[Instr.checkKey,Sem.run_bind,b7 hu,Result.andThen_ok]
   rw[<-Array.forIn_toList]
   first|exact key|exact Eq.trans (congrArg (λq=>Result.andThen q _) key) rfl|simpa using key
 · rename_i pQ e hu
   split at ax
   · rename_i sz bX
     have key:=H7 (P:=P) (w:=w) b hm bX aD pQ 0 ax
     simp only[Instr.checkKey,Sem.run_bind,b7 hu,Result.andThen_ok]
     simp only[Std.Legacy.Range.forIn_eq_forIn_range',Std.Legacy.Range.size,Nat.sub_zero,Nat.add_one_sub_one,Nat.div_one]
     first|exact key|exact Eq.trans (congrArg (λq=>Result.andThen q _) key) rfl|simpa using key
   · cases ax
 · cases ax
theorem pR{dx:TypeId}{k:J}{kv:Value}(ax:pD P dx k=true)(ab:bn μ k kv)(b:Bool):(Instr.checkKey b 10000 dx kv).run P w=.ok () w:=by
 by_cases hs:∀cs,k≠ .agg cs
 · exact Dv (H3 hs ax) b 9999
 · have:∃cs,k=.agg cs:=by
     cases k<;>first|exact⟨_,rfl⟩|exact absurd (λcs h=>by cases h) hs
   obtain⟨cs,rfl⟩:=this
   obtain⟨l,rfl,aD⟩:=ab
   exact PO aD ax b (m:=9999) (n:=9998) rfl
theorem r7(ah:bD μ H w){dx:TypeId}{k:J}{kv:Value}(ax:pD P dx k=true)(ab:bn μ k kv){es:List hC}{ents:List MapEntry}{r:Option (Nat×J)}(he:gU μ es ents)(h:lL P H dx k es 0=some r):
  ∃r',(Instr.findKey dx kv ents).run P w=.ok r' w/\AG μ r r':=by
 by_cases hs:∀cs,k≠ .agg cs
 · have gn:=H3 hs ax
   cases hu:P.underlying dx with
   |none=>unfold pC at gn;rw[hu] at gn;cases gn
   |some u=>
    obtain⟨r',aY,aR⟩:=H4 hu hs gn ab es ents 0 r he h
    exact⟨r',by simp[Instr.findKey,b7 hu,aY],aR⟩
 · have:∃cs,k=.agg cs:=by
     cases k<;>first|exact⟨_,rfl⟩|exact absurd (λcs h=>by cases h) hs
   obtain⟨cs,rfl⟩:=this
   have hu:∃u,P.underlying dx=some u:=by
    unfold pD at ax
    simp only at ax
    split at ax
    · exact⟨_,by assumption⟩
    · exact⟨_,by assumption⟩
    · cases ax
   obtain⟨u,hu⟩:=hu
   obtain⟨r',aY,aR⟩:=H5 (P:=P) ah ab es ents 0 r he h
   obtain⟨l,rfl,aD⟩:=ab
   refine⟨r',?_,aR⟩
   have aM:∀(ms:List MapEntry),ms≠[]->Instr.findNow u (.agg ⟨l⟩) ms 0=none:=λms PQ=>by
    cases ms with
    |nil=>exact absurd rfl PQ
    |cons m ms=>cases u<;>rfl
   cases ents with
   |nil=>
    cases es with
    |nil=>simp only[lL] at h;cases h;cases r' with
     |none=>simp[Instr.findKey,b7 hu,Instr.findNow]
     |some y=>exact aR.elim
    |cons e es=>obtain⟨_,_,ai,_⟩:=he;cases ai
   |cons m ms=>
    simp only[Instr.findKey,Sem.run_bind,b7 hu,Result.andThen_ok,aM (m::ms) (by simp)]
    exact aY
theorem gU.append:∀{es dm:List hC} {ms ns:List MapEntry},gU μ es ms->gU μ dm ns->gU μ (es++dm) (ms++ns)
 |[],_,_,_,h,an=>by cases h;exact an
 |_::_,_,_,_,⟨m,ms,e,ab,ae⟩,an=>by subst e;exact⟨m,ms++_,rfl,ab,gU.append ae an⟩
theorem gU.get:∀{es:List hC} {ms:List MapEntry} (_:gU μ es ms) {j:Nat} {e:hC},es[j]? =some e->∃m,ms[j]? =some m/\vn μ e m
 |[],_,_,j,e,h=>by simp at h
 |x::es,_,⟨m,ms,e,ab,ae⟩,0,a,h=>by subst e;simp at h;subst h;exact⟨m,rfl,ab⟩
 |x::es,_,⟨m,ms,e,ab,ae⟩,j+1,a,h=>by subst e;simp at h;simpa using gU.get ae h
theorem gU.set{v key:J}{vv kv:Value}(aJ:bn μ v vv)(ax:bn μ key kv):∀(i:Nat) {es:List hC} {ms:List MapEntry},gU μ es ms->gU μ (ta v key i es) (ms.modify i λe=>{e with key:=kv,val:=vv})
 |0,[],_,h=>by cases h;rfl
 |_+1,[],_,h=>by cases h;rfl
 |0,e::es,_,⟨m,ms,ed,ab,ae⟩=>by subst ed;exact⟨_,ms,rfl,⟨ax,aJ,ab.2.2⟩,ae⟩
 |i+1,e::es,_,⟨m,ms,ed,ab,ae⟩=>by subst ed;exact⟨m,_,rfl,ab,gU.set aJ ax i ae⟩
theorem gU.del:∀(i:Nat) {es:List hC} {ms:List MapEntry},gU μ es ms->gU μ (C0 i es) (ms.eraseIdx i)
 |0,[],_,h=>by cases h;rfl
 |_+1,[],_,h=>by cases h;rfl
 |0,e::es,_,⟨m,ms,ed,ab,ae⟩=>by subst ed;exact ae
 |i+1,e::es,_,⟨m,ms,ed,ab,ae⟩=>by subst ed;exact⟨m,_,rfl,ab,gU.del i ae⟩
theorem xO{r:Nat}{i:h3}{es:List hC}{clock:Nat}(ah:bD μ H w)(hi:μ r=some i)(au:H.get r=some (.map es clock)):∃ents,w.heap[i.bo]? =some (.map ⟨ents⟩ clock)/\gU μ es ents/\(getObj i.bo).run P w=.ok (.map ⟨ents⟩ clock) w:=by
 obtain⟨ents,aF,aG⟩:=ah.rel _ _ i au hi
 exact⟨ents,aF,aG,by simp[getObj,Sem.run,aF]⟩
theorem tq{r:Nat}{i:h3}{es r8:List hC}{clock c':Nat}{ents ents':List MapEntry}(ah:bD μ H w)(hi:μ r=some i)(au:H.get r=some (.map es clock))(he:w.heap[i.bo]? =some (.map ⟨ents⟩ clock))(al:gU μ r8 ents'):
  ∃w',(setObj i.bo (.map ⟨ents'⟩ c')).run P w=.ok () w'/\bD μ (H.set r (some (.map r8 c'))) w'/\cw μ H w μ (H.set r (some (.map r8 c'))) w':=by
 have cB:i.bo<w.heap.size:=(ah.lt _ _ hi).2
 obtain⟨bq,a9⟩:=ah.update (w':={w with heap:=w.heap.setIfInBounds i.bo (.map ⟨ents'⟩ c')}) (o':=.map r8 c') au rfl hi (by simp) (λr al=>by simp[Array.getElem?_setIfInBounds];intro e;exact absurd e.symm al) rfl rfl rfl
  ⟨ents',by simp[cB],al⟩
 exact⟨_,by simp[setObj,Sem.run,he],bq,a9⟩
end
end aC
namespace aC
open Go
section
variable {P:Program} {μ:bG} {H:aa} {w:World}
theorem H8{jN:TypeId}{ok:Bool}{r:Option (Nat×J)}{r':Option (Nat×Value)}(al:AG μ r r'){v:J}(h:xo P jN ok r=some v):
  ∃u b,bn μ v (if ok then .tuple #[u,.bool b] else u)/\((∃j,r'=some (j,u)/\b=true)\/(r'=none/\(zeroValue jN).run P w=.ok u w/\b=false)):=by
 cases r with
 |none=>
  cases r' with
  |some x=>exact al.elim
  |none=>
   simp only[xo] at h
   split at h
   · rename_i z bj
     cases h
     obtain⟨gp,aY,rfl,_⟩:=mE (P:=P) (w:=w) bj
     have:=kU μ gp
     refine⟨gp,false,?_,.inr ⟨rfl,aY,rfl⟩⟩
     cases ok
     · exact this
     · exact⟨_,rfl,_,_,rfl,this,_,_,rfl,rfl,rfl⟩
   · cases h
 |some x=>
  cases r' with
  |none=>exact al.elim
  |some y=>
   obtain⟨i,a⟩:=x
   obtain⟨j,u⟩:=y
   obtain⟨rfl,vy⟩:=al
   simp only[xo] at h
   cases h
   refine⟨u,true,?_,.inl ⟨_,rfl,rfl⟩⟩
   cases ok
   · exact vy
   · exact⟨_,rfl,_,_,rfl,vy,_,_,rfl,rfl,rfl⟩
theorem PR(ah:bD μ H w){t:TypeId}{m k:J}{mJ kv:Value}(hm:bn μ m mJ)(ax:bn μ k kv){ok:Bool}{v:J}(h:z9 P H t m k ok=some v):fS P μ H w (Instr.lookup t mJ kv ok) v H:=by
 unfold z9 at h
 split at h
 · rename_i dx jN hu
   split at h
   · rename_i jS
     split at h
     · cases hm
       obtain⟨u,b,aY,aR⟩:=H8 (P:=P) (w:=w) (μ:=μ) (r:=none) (r':=none) trivial h
       refine .same ah (v':=if ok then .tuple #[u,.bool b] else u) ?_ aY
       have hf:(Instr.findKey dx kv []).run P w=.ok none w:=by
        obtain⟨r',dG,eJ⟩:=r7 (P:=P) (w:=w) (μ:=μ) (es:=[]) (ents:=[]) (r:=none) ah jS ax rfl rfl
        cases r' with
        |none=>exact dG
        |some x=>exact eJ.elim
       rcases aR with⟨j,e,_⟩|⟨_,aR,rfl⟩
       · cases e
       · simp[Instr.lookup,b7 hu,pR jS ax,hf,aR]
     · rename_i r
       split at h
       · rename_i es clock au
         split at h
         · rename_i bS hf
           obtain⟨i,hi,rfl⟩:=hm
           obtain⟨ents,aF,aG,bJ⟩:=xO (P:=P) ah hi au
           obtain⟨r',dG,eJ⟩:=r7 (P:=P) (w:=w) ah jS ax aG hf
           obtain⟨u,b,aY,aR⟩:=H8 (P:=P) (w:=w) (μ:=μ) eJ h
           refine .same ah (v':=if ok then .tuple #[u,.bool b] else u) ?_ aY
           rcases aR with⟨j,rfl,rfl⟩|⟨rfl,aR,rfl⟩
           · simp[Instr.lookup,b7 hu,pR jS ax,bJ,dG]
           · simp[Instr.lookup,b7 hu,pR jS ax,bJ,dG,aR]
         · cases h
       · cases h
     · cases h
   · cases h
 · cases h
theorem H9{k x:J}{kv bF:Value}(n:Nat)(h:qF k x=some true)(ab:bn μ k kv)(ae:bn μ x bF):Instr.sameBits n bF kv=true:=by
 cases k<;>cases x<;>simp only[qF] at h<;>try cases h
 · simp at h;subst h;cases ab;cases ae;simp[Instr.sameBits]
 · split at h
   · rename_i e;subst e
     simp[ba] at h;subst h;cases ab;cases ae;simp[Instr.sameBits]
   · cases h
 · simp only[Option.some.injEq] at h
   obtain⟨s1,rfl,rfl⟩:=ab
   obtain⟨s2,rfl,rfl⟩:=ae
   rw[oR,<-r0,<-r0,<-beq_toListBytes] at h
   have:(s2==s1)=true:=by rw[beq_toListBytes] at h⊢;rw[beq_iff_eq] at h⊢;exact h.symm
   simpa[Instr.sameBits] using this
theorem H_(n:Nat):∀(a b:List J) (tr ts:List Value),xl a b=true->cy μ a tr->cy μ b ts->ts.length=tr.length/\(ts.zip tr).all (λ(x,y)=>Instr.sameBits n x y)=true
 |[],[],tr,ts,_,ab,ae=>by cases ab;cases ae;exact⟨rfl,rfl⟩
 |[],_::_,_,_,h,_,_=>by cases h
 |_::_,[],_,_,h,_,_=>by cases h
 |x::a,y::b,_,_,h,⟨u,us,rfl,ky,vz⟩,⟨v,vs,rfl,v1,v2⟩=>by
  unfold xl at h
  split at h
  · rename_i hs
    obtain⟨aF,aG⟩:=H_ n a b us vs h vz v2
    refine⟨by simp[aF],?_⟩
    rw[List.zip_cons_cons,List.all_cons,aG,Bool.and_true]
    exact H9 n hs ky v1
  · cases h
theorem Ia{dx:TypeId}{k x:J}{kv bF:Value}(h:xm P H dx k x=some true)(cL:rK k x=true)(ab:bn μ k kv)(ae:bn μ x bF):Instr.sameBits 10000 bF kv=true:=by
 by_cases hs:∀cs,k≠ .agg cs
 · rw[H2 hs] at h
   exact H9 10000 h ab ae
 · have:∃cs,k=.agg cs:=by
     cases k<;>first|exact⟨_,rfl⟩|exact absurd (λcs h=>by cases h) hs
   obtain⟨a,rfl⟩:=this
   have:∃b,x=.agg b:=by
    cases x<;>first|exact⟨_,rfl⟩|cases cL
   obtain⟨b,rfl⟩:=this
   obtain⟨tr,rfl,vz⟩:=ab
   obtain⟨ts,rfl,v2⟩:=ae
   have PS:xl a b=true:=cL
   obtain⟨aF,aG⟩:=H_ (μ:=μ) 9999 a b tr ts PS vz v2
   show Instr.sameBits (9999+1) (.agg ⟨ts⟩) (.agg ⟨tr⟩)=true
   generalize 9999=n at aG⊢
   simp only[Instr.sameBits]
   rw[aG,Bool.and_true]
   simp[aF]
theorem Dw(l:List MapEntry)(i:Nat)(f:MapEntry->MapEntry):(⟨l⟩:Array MapEntry).modify i f=⟨l.modify i f⟩:=by
 apply Array.ext'
 simp
theorem Ib(ah:bD μ H w){t:TypeId}{m k x:J}{mJ kv bF:Value}(hm:bn μ m mJ)(ax:bn μ k kv)(ad:bn μ x bF){bf:aa}(h:vh P H t m k x=some bf):
  ∃w',(Instr.mapUpdate t mJ kv bF).run P w=.ok () w'/\bD μ bf w'/\cw μ H w μ bf w':=by
 unfold vh at h
 split at h
 · rename_i dx jN hu
   split at h
   · rename_i jS
     split at h
     · rename_i r
       split at h
       · rename_i es clock au
         obtain⟨i,hi,rfl⟩:=hm
         obtain⟨ents,aF,aG,bJ⟩:=xO (P:=P) ah hi au
         split at h
         · rename_i j a hf
           have tt:rK k (xn j es)=true:=by
            cases ai:rK k (xn j es) with
            |true=>rfl
            |false=>rw[ai] at h;cases h
           rw[tt] at h
           cases h
           obtain⟨r',dG,eJ⟩:=r7 (P:=P) (w:=w) ah jS ax aG hf
           cases r' with
           |none=>exact eJ.elim
           |some y=>
            obtain⟨ku,u⟩:=y
            obtain⟨rfl,vy⟩:=eJ
            obtain⟨_,lk,aY,aR,bW⟩:=Du es 0 j a hf
            obtain⟨nb,cO,eo⟩:=aG.get (by simpa using aY)
            have tt:rK k lk.key=true:=by
             have:xn j es=lk.key:=by unfold xn;rw[qO,show es[j]? =some lk by simpa using aY]
             rw[<-this];exact tt
            have cL:(Instr.keyThatStays (((ents[j]?).map (·.key)).getD kv) kv).run P w=.ok kv w:=by
             simp only[Instr.keyThatStays,cO,Option.map_some,Option.getD_some,Ia bW tt ax eo.1,if_true,Sem.run_pure]
            obtain⟨w',ff,fN,lP⟩:=tq (P:=P) (c':=clock) ah hi au aF (aG.set ad ax j)
            refine⟨w',?_,fN,lP⟩
            simp only[Instr.mapUpdate,Sem.run_bind,b7 hu,Result.andThen_ok,bJ,pR jS ax,dG,List.getElem?_toArray,cL,Dw,ff]
         · rename_i hf
           cases h
           obtain⟨r',dG,eJ⟩:=r7 (P:=P) (w:=w) ah jS ax aG hf
           cases r' with
           |some y=>exact eJ.elim
           |none=>
            obtain⟨w',ff,fN,lP⟩:=tq (P:=P) (c':=clock+1) (ents':=ents++[⟨kv,bF,clock⟩]) ah hi au aF (aG.append (show gU μ [⟨k,x,clock⟩] [⟨kv,bF,clock⟩] from⟨_,_,rfl,⟨ax,ad,rfl⟩,rfl⟩))
            refine⟨w',?_,fN,lP⟩
            simp only[Instr.mapUpdate,Sem.run_bind,b7 hu,Result.andThen_ok,bJ,pR jS ax,dG,List.push_toArray,ff]
         · cases h
       · cases h
     · cases h
   · cases h
 · cases h
theorem PT(ah:bD μ H w){t:TypeId}{m k:J}{mJ kv:Value}(hm:bn μ m mJ)(ax:bn μ k kv){v:J}{bf:aa}(h:z_ P H t m k=some (v,bf)):fS P μ H w (Instr.mapEntry t mJ kv) v bf:=by
 unfold z_ at h
 split at h
 · rename_i dx jN hu
   split at h
   · rename_i jS
     split at h
     · rename_i r
       split at h
       · rename_i es clock au
         obtain⟨i,hi,rfl⟩:=hm
         obtain⟨ents,aF,aG,bJ⟩:=xO (P:=P) ah hi au
         split at h
         · rename_i j a hf
           split at h
           · rename_i lk xP
             have tt:rK k lk.key=true:=by
              cases ai:rK k lk.key with
              |true=>rfl
              |false=>rw[ai] at h;cases h
             rw[tt] at h
             cases h
             rw[qO] at xP
             obtain⟨r',dG,eJ⟩:=r7 (P:=P) (w:=w) ah jS ax aG hf
             cases r' with
             |none=>exact eJ.elim
             |some y=>
              obtain⟨ku,u⟩:=y
              obtain⟨rfl,vy⟩:=eJ
              obtain⟨_,Ic,aY,aR,bW⟩:=Du es 0 j a hf
              have:Ic=lk:=by
               have r9:es[j]? =some Ic:=by simpa using aY
               rw[xP] at r9;cases r9;rfl
              subst this
              obtain⟨nb,cO,eo⟩:=aG.get xP
              have cL:(Instr.keyThatStays (((ents[j]?).map (·.key)).getD kv) kv).run P w=.ok kv w:=by
               simp only[Instr.keyThatStays,cO,Option.map_some,Option.getD_some,Ia bW tt ax eo.1,if_true,Sem.run_pure]
              have Dx:gU μ (ta a k j es) (ents.modify j λe=>{e with key:=kv}):=by
               have hs:=aG.set (v:=a) (vv:=nb.val) (key:=k) (kv:=kv) (by rw[<-aR];exact eo.2.1) ax j
               have:(ents.modify j λe=>{e with key:=kv,val:=nb.val})=(ents.modify j λe=>{e with key:=kv}):=by
                apply List.ext_getElem?
                intro q
                rw[List.getElem?_modify,List.getElem?_modify]
                by_cases aS:j=q
                · subst aS;rw[cO];simp
                · simp[aS]
               rw[<-this];exact hs
              obtain⟨w',ff,fN,lP⟩:=tq (P:=P) (c':=clock) ah hi au aF Dx
              refine⟨μ,w',.tuple #[u,.int .i64 (nb.born:Int)],?_,⟨_,rfl,_,_,rfl,vy,_,_,rfl,by rw[eo.2.2];rfl,rfl⟩,fN,lP⟩
              rw[cO,Option.map_some,Option.getD_some] at cL
              simp only[Instr.mapEntry,Sem.run_bind,b7 hu,Result.andThen_ok,bJ,pR jS ax,dG,List.getElem?_toArray,cO,Option.map_some,Option.getD_some,cL,Dw,ff,goInt,Sem.run_pure]
           · cases h
         · rename_i hf
           split at h
           · rename_i z bj
             cases h
             obtain⟨gp,xQ,rfl,_⟩:=mE (P:=P) (w:=w) bj
             obtain⟨r',dG,eJ⟩:=r7 (P:=P) (w:=w) ah jS ax aG hf
             cases r' with
             |some y=>exact eJ.elim
             |none=>
              obtain⟨w',ff,fN,lP⟩:=tq (P:=P) (c':=clock+1) (ents':=ents++[⟨kv,gp,clock⟩]) ah hi au aF (aG.append (show gU μ [⟨k,oF gp,clock⟩] [⟨kv,gp,clock⟩] from⟨_,_,rfl,⟨ax,kU μ gp,rfl⟩,rfl⟩))
              refine⟨μ,w',.tuple #[gp,.int .i64 (clock:Int)],?_,⟨_,rfl,_,_,rfl,kU μ gp,_,_,rfl,rfl,rfl⟩,fN,lP⟩
              simp only[Instr.mapEntry,Sem.run_bind,b7 hu,Result.andThen_ok,bJ,pR jS ax,dG,xQ,List.push_toArray,ff,goInt,Sem.run_pure]
           · cases h
         · cases h
       · cases h
     · cases h
   · cases h
 · cases h
theorem Ie{born:Int}:∀(es:List hC) (ents:List MapEntry) (i j:Nat) (e:hC),gU μ es ents->xp born es i=some (j,e)->i<=j/\es[j-i]? =some e/\ents.findIdx? (λm=>(m.born:Int)==born)=some (j-i)
 |[],_,i,j,e,_,h=>by simp[xp] at h
 |x::es,_,i,j,e,⟨m,ms,aF,aG,bJ⟩,h=>by
  subst aF
  simp only[xp] at h
  have ag:ba (Int.ofNat x.born) born=((m.born:Int)==born):=by rw[aG.2.2];rfl
  split at h
  · rename_i hs
    cases h
    rw[ag] at hs
    exact⟨Nat.le_refl _,by simp,by simp[List.findIdx?_cons,hs]⟩
  · rename_i hs
    rw[ag] at hs
    obtain⟨aY,aR,bW⟩:=Ie es ms (i+1) j e bJ h
    have:j-i=(j-(i+1))+1:=by omega
    refine⟨by omega,by rw[this];simpa using aR,?_⟩
    rw[this]
    simp[List.findIdx?_cons,hs,bW]
theorem PU(ah:bD μ H w){t:TypeId}{m s x:J}{mJ nY bF:Value}(hm:bn μ m mJ)(hs:bn μ s nY)(ad:bn μ x bF){bf:aa}(h:Aa H m s x=some bf):
  ∃w',(Instr.entryStore t mJ nY bF).run P w=.ok () w'/\bD μ bf w'/\cw μ H w μ bf w':=by
 unfold Aa at h
 split at h
 · rename_i r bN born
   split at h
   · rename_i es clock au
     split at h
     · rename_i j lk ag
       cases h
       cases hs
       obtain⟨i,hi,rfl⟩:=hm
       obtain⟨ents,aF,aG,bJ⟩:=xO (P:=P) ah hi au
       obtain⟨_,aY,aR⟩:=Ie es ents 0 j lk aG ag
       obtain⟨nb,cO,eo⟩:=aG.get (by simpa using aY)
       have Dx:gU μ (ta x lk.key j es) (ents.modify j λe=>{e with val:=bF}):=by
        have hs:=aG.set (v:=x) (vv:=bF) (key:=lk.key) (kv:=nb.key) ad eo.1 j
        have:(ents.modify j λe=>{e with key:=nb.key,val:=bF})=(ents.modify j λe=>{e with val:=bF}):=by
         apply List.ext_getElem?
         intro q
         rw[List.getElem?_modify,List.getElem?_modify]
         by_cases aS:j=q
         · subst aS;rw[cO];simp
         · simp[aS]
        rw[<-this];exact hs
       obtain⟨w',ff,fN,lP⟩:=tq (P:=P) (c':=clock) ah hi au aF Dx
       refine⟨w',?_,fN,lP⟩
       have qS:(⟨ents⟩:Array MapEntry).findIdx? (λe=>(e.born:Int)==born)=some j:=by
        have:=aR
        simp only[Nat.sub_zero] at this
        rw[<-this];simp
       simp only[Instr.entryStore,Sem.run_bind,Result.andThen_ok,bJ,asInt,asIntOf,Sem.run_pure,qS,Dw,ff]
     · cases h
   · cases h
 · cases h
theorem PV(ah:bD μ H w){argTypes:Array TypeId}{ty t:TypeId}(az:argTypes[0]? =some t){m k:J}{mJ kv:Value}(hm:bn μ m mJ)(ax:bn μ k kv){v:J}{bf:aa}(h:Ab P H t m k=some (v,bf)):
  fS P μ H w (Builtin.delete_ argTypes ty #[mJ,kv]) v bf:=by
 unfold Ab at h
 split at h
 · rename_i dx jN hu
   split at h
   · rename_i jS
     split at h
     · cases h;cases hm
       refine .same ah (v':=.tuple #[]) ?_ ⟨[],rfl,rfl⟩
       simp[Builtin.delete_,az,b7 hu,pR jS ax]
     · rename_i r
       split at h
       · rename_i es clock au
         obtain⟨i,hi,rfl⟩:=hm
         obtain⟨ents,aF,aG,bJ⟩:=xO (P:=P) ah hi au
         split at h
         · rename_i j a hf
           cases h
           obtain⟨r',dG,eJ⟩:=r7 (P:=P) (w:=w) ah jS ax aG hf
           cases r' with
           |none=>exact eJ.elim
           |some y=>
            obtain⟨ku,u⟩:=y
            obtain⟨rfl,vy⟩:=eJ
            obtain⟨w',ff,fN,lP⟩:=tq (P:=P) (c':=clock) ah hi au aF (aG.del j)
            refine⟨μ,w',.tuple #[],?_,⟨[],rfl,rfl⟩,fN,lP⟩
            have he:(⟨ents⟩:Array MapEntry).eraseIdxIfInBounds j=⟨ents.eraseIdx j⟩:=by
             apply Array.ext'
             simp
            simp[Builtin.delete_,az,b7 hu,pR jS ax,bJ,dG,he,ff]
         · rename_i hf
           cases h
           obtain⟨r',dG,eJ⟩:=r7 (P:=P) (w:=w) ah jS ax aG hf
           cases r' with
           |some y=>exact eJ.elim
           |none=>
            obtain⟨w',ff,fN,lP⟩:=tq (P:=P) (c':=clock) ah hi au aF aG
            refine⟨μ,w',.tuple #[],?_,⟨[],rfl,rfl⟩,fN,lP⟩
            simp[Builtin.delete_,az,b7 hu,pR jS ax,bJ,dG,ff]
         · cases h
       · cases h
     · cases h
   · cases h
 · cases h
theorem PW(ah:bD μ H w){t:TypeId}:fS P μ H w (Instr.makeMap t none) (.map H.n) (H.push (.map [] 0)):=by
 obtain⟨bq,a9⟩:=ah.alloc (.map [] 0) (.map #[] 0) 0 ⟨[],World.heap_alloc_new _ _,rfl⟩
 exact⟨_,_,.map (some w.heap.size),rfl,⟨_,gY _ _ _,rfl⟩,bq,a9⟩
theorem PX(ah:bD μ H w){t dx jN:TypeId}{k:IntKind}{n:Int}(hu:P.underlying t=some (.map dx jN)):fS P μ H w (Instr.makeMap t (some (.int k n))) (.map H.n) (H.push (.map [] 0)):=by
 obtain⟨bq,a9⟩:=ah.alloc (.map [] 0) (.map #[] 0) 0 ⟨[],World.heap_alloc_new _ _,rfl⟩
 refine⟨_,_,.map (some w.heap.size),?_,⟨_,gY _ _ _,rfl⟩,bq,a9⟩
 simp only[Instr.makeMap,Sem.run_bind,b7 hu,Result.andThen_ok,asInt,asIntOf,Sem.run_pure,run_newObj]
 rfl
theorem PY(ah:bD μ H w){t:TypeId}(hu:P.underlying t=some .string){s:List UInt8}{bF:Value}(ad:bn μ (.str s) bF):fS P μ H w (Instr.range t bF) (.ptr H.n 0) (H.push (.rI s 0)):=by
 obtain⟨bs,rfl,rfl⟩:=ad
 obtain⟨bq,a9⟩:=ah.alloc (.rI bs.data.toList 0) (.stringIter bs 0) 0 ⟨rfl,bs,World.heap_alloc_new _ _,rfl⟩
 refine⟨_,_,.pointer (some ⟨w.heap.size,0,none⟩),?_,⟨_,gY _ _ _,rfl⟩,bq,a9⟩
 simp only[Instr.range,Sem.run_bind,b7 hu,Result.andThen_ok,Sem.run_pure,run_newObj]
 rfl
theorem PZ(ah:bD μ H w){t dx jN:TypeId}(hu:P.underlying t=some (.map dx jN)){bF:Value}(ad:bn μ .iR bF):fS P μ H w (Instr.range t bF) (.ptr H.n 0) (H.push (.mapIter none 0 [] 0)):=by
 cases ad
 obtain⟨bq,a9⟩:=ah.alloc (.mapIter none 0 [] 0) (.mapIter none 0 #[] 0) 0 ⟨rfl,World.heap_alloc_new _ _⟩
 refine⟨_,_,.pointer (some ⟨w.heap.size,0,none⟩),?_,⟨_,gY _ _ _,rfl⟩,bq,a9⟩
 simp only[Instr.range,Sem.run_bind,b7 hu,Result.andThen_ok,Sem.run_pure,run_newObj]
 rfl
def P0(at':Nat->Nat)(lt:Nat->Bool):Nat×Nat:=
 let cont (k:Nat):Bool:=lt k&&at' k/64==2
 let c5:=at' 0
 if c5<0x80 then(c5,1)
 else if c5/32==6&&cont 1 then
  let c:=(c5 %32)*64+at' 1 %64
  if c>=0x80 then(c,2) else(Utf8.runeError,1)
 else if c5/16==14&&cont 1&&cont 2 then
  let c:=(c5 %16)*4096+(at' 1 %64)*64+at' 2 %64
  if c>=0x800&&Utf8.valid c then(c,3) else(Utf8.runeError,1)
 else if c5/8==30&&cont 1&&cont 2&&cont 3 then
  let c:=(c5 %8)*262144+(at' 1 %64)*4096+(at' 2 %64)*64+at' 3 %64
  if c>=0x10000&&Utf8.valid c then(c,4) else(Utf8.runeError,1)
 else(Utf8.runeError,1)
theorem Ig(s:ByteArray)(i:Nat):Utf8.decode s i=P0 (λk=>(s.get! (i+k)).toNat) (λk=>decide (i+k<s.size)):=rfl
theorem P1(full:ByteArray)(pos:Nat)(aU:pos<=full.size):Utf8.decode full pos=Utf8.decode ⟨(full.data.toList.drop pos).toArray⟩ 0:=by
 have vx:full.data.toList.length=full.size:=Array.length_toList
 have bX:(⟨(full.data.toList.drop pos).toArray⟩:ByteArray).size=full.size-pos:=by
  show((full.data.toList.drop pos).toArray).size=_
  rw[List.size_toArray,List.length_drop,vx]
 have js:∀k,full.get! (pos+k)=(⟨(full.data.toList.drop pos).toArray⟩:ByteArray).get! (0+k):=λk=>by
  show full.data[pos+k]! =((full.data.toList.drop pos).toArray)[0+k]!
  rw[Nat.zero_add]
  rw[getElem!_def,getElem!_def]
  have:((full.data.toList.drop pos).toArray)[k]? =full.data[pos+k]? :=by
   rw[List.getElem?_toArray,List.getElem?_drop,Array.getElem?_toList]
  rw[this]
 rw[Ig,Ig]
 have bl:(λk=>(full.get! (pos+k)).toNat)=(λk=>((⟨(full.data.toList.drop pos).toArray⟩:ByteArray).get! (0+k)).toNat):=by
  funext k;rw[js k]
 have ag:(λk=>decide (pos+k<full.size))=(λk=>decide (0+k<(⟨(full.data.toList.drop pos).toArray⟩:ByteArray).size)):=by
  funext k
  exact decide_eq_decide.2 (by rw[bX];omega)
 rw[bl,ag]
theorem P2(ah:bD μ H w){t:TypeId}{it:J}{xR:Value}(hi:bn μ it xR){b:Bool}{v:J}{bf:aa}(h:Ac H it b=some (v,bf)):fS P μ H w (Instr.next xR b t) v bf:=by
 unfold Ac at h
 split at h
 · rename_i r
   obtain⟨i,jE,rfl⟩:=hi
   split at h
   · rename_i s pos au
     obtain⟨dc,full,aF,aG⟩:=ah.rel _ _ i au jE
     obtain⟨ke,i0,AH⟩:=i
     simp only at dc;subst dc
     have js:(getObj ke).run P w=.ok (.stringIter full pos) w:=by simp[getObj,Sem.run,aF]
     have vx:full.data.toList.length=full.size:=Array.length_toList
     have Ih:=congrArg List.length aG
     rw[List.length_drop,vx] at Ih
     split at h
     · cases h
       have aM:¬pos<full.size:=by simp at Ih;omega
       exact .same ah (v':=.tuple #[.bool false]) (by simp[Instr.next,js,aM]) ⟨_,rfl,_,_,rfl,rfl,rfl⟩
     · rename_i eb
       have cB:pos<full.size:=by
        rcases Nat.lt_or_ge pos full.size with h|h
        · exact h
        · exfalso;apply eb
          exact List.length_eq_zero_iff.1 (by omega)
       have pS:Utf8.decode full pos=C1 s:=by rw[P1 full pos (by omega),aG];rfl
       generalize C1 s=nc at pS h
       obtain⟨c,wd⟩:=nc
       cases h
       have P3:ke<w.heap.size:=(ah.lt _ _ jE).2
       obtain⟨bq,a9⟩:=ah.update (w':={w with heap:=w.heap.setIfInBounds ke (.stringIter full (pos+wd))}) (o':=.rI (jB wd s) (pos+wd)) au rfl jE (by simp) (λr al=>by simp[Array.getElem?_setIfInBounds];intro e;exact absurd e.symm al) rfl rfl rfl
        ⟨rfl,full,by simp[P3],by rw[m9,<-aG,List.drop_drop]⟩
       refine⟨μ,_,.tuple #[.bool true,.int .i64 (pos:Int),.int .i32 (c:Int)],?_,⟨_,rfl,_,_,rfl,rfl,_,_,rfl,rfl,_,_,rfl,rfl,rfl⟩,bq,a9⟩
       have tu:(setObj ke (.stringIter full (pos+wd))).run P w=.ok () {w with heap:=w.heap.setIfInBounds ke (.stringIter full (pos+wd))}:=by simp[setObj,Sem.run,aF]
       simp[Instr.next,js,cB,pS,tu,goInt]
   · rename_i since seen last au
     cases h
     obtain⟨dc,aF⟩:=ah.rel _ _ i au jE
     obtain⟨ke,i0,AH⟩:=i
     simp only at dc;subst dc
     have vA:w.heap[ke]? =some (.mapIter none since ⟨seen⟩ last):=aF
     have js:(getObj ke).run P w=.ok (.mapIter none since ⟨seen⟩ last) w:=by simp[getObj,Sem.run,vA]
     exact .same ah (v':=.tuple #[.bool false]) (by simp[Instr.next,js]) ⟨_,rfl,_,_,rfl,rfl,rfl⟩
   · cases h
 · cases h
theorem Ii:∀(es:List hC) (ms:List MapEntry) (b:Nat) (e:hC),gU μ es ms->xq b es=some e->∃m,ms.find? (λx=>x.born==b)=some m/\vn μ e m
 |[],ms,b,e,al,h=>by simp[xq] at h
 |x::es,ms,b,e,al,h=>by
  obtain⟨m,P4,rfl,ab,ae⟩:=al
  unfold xq at h
  rw[List.find?_cons,<-ab.2.2]
  cases ag:Nat.beq x.born b with
  |true=>
   rw[ag] at h
   cases h
   have:x.born=b:=Nat.eq_of_beq_eq_true ag
   rw[this]
   simp only[beq_self_eq_true]
   exact⟨m,rfl,ab⟩
  |false=>
   rw[ag] at h
   have:(x.born==b)=false:=by
    cases ai:x.born==b with
    |false=>rfl
    |true=>rw[beq_iff_eq.1 ai] at ag;rw[Nat.beq_refl] at ag;cases ag
   rw[this]
   exact Ii es P4 b e ae h
theorem Ij:∀(l:List Nat),Ad l=l.getLast?
 |[]=>rfl
 |[b]=>rfl
 |a::b::l=>by
  show Ad (b::l)=_
  rw[Ij (b::l),List.getLast?_cons_cons]
theorem P5(ah:bD μ H w){it:J}{xR:Value}(hi:bn μ it xR){v:J}(h:Ae H it=some v):fS P μ H w (Instr.entry xR) v H:=by
 unfold Ae at h
 split at h
 · rename_i r
   obtain⟨i,jE,rfl⟩:=hi
   split at h
   · rename_i m since seen last au
     obtain⟨dc,j,aV,aF⟩:=ah.rel _ _ i au jE
     obtain⟨ke,i0,AH⟩:=i
     simp only at dc;subst dc
     have vA:w.heap[ke]? =some (.mapIter (some j.bo) since ⟨seen⟩ last):=aF
     split at h
     · rename_i es clock b Dy P6
       obtain⟨ents,f1,f2⟩:=ah.rel _ _ j Dy aV
       split at h
       · rename_i ir
         have ir:clock=last:=Nat.eq_of_beq_eq_true ir
         split at h
         · rename_i e P7
           cases h
           obtain⟨Dz,aq,ak⟩:=Ii es ents b e f2 P7
           have js:(getObj ke).run P w=.ok (.mapIter (some j.bo) since ⟨seen⟩ last) w:=by simp[getObj,Sem.run,vA]
           have P8:(getObj j.bo).run P w=.ok (.map ⟨ents⟩ clock) w:=by simp[getObj,Sem.run,f1]
           have P9:(⟨seen⟩:Array Nat).back?=some b:=by
            rw[<-P6,Ij];simp
           have xS:(⟨ents⟩:Array MapEntry).find? (λx=>x.born==b)=some Dz:=by rw[<-aq];simp
           refine .same ah (v':=.tuple #[Dz.key,Dz.val]) ?_ ⟨_,rfl,_,_,rfl,ak.1,_,_,rfl,ak.2.1,rfl⟩
           have eb:(clock !=last)=false:=by simp[ir]
           simp only[Instr.entry,Sem.run_bind,js,Result.andThen_ok,P9,P8,eb,Bool.false_eq_true,if_false,xS]
           rfl
         · cases h
       · cases h
     · cases h
   · cases h
 · cases h
end
end aC
namespace aC
open Go
section
variable {P:Program} {μ:bG} {H:aa} {w:World}
theorem P_(k:IntKind)(x y:Int){v:J}(h:arith .xor k x y=some v):∃u,(Op.intBits .xor k x y).run P w=.ok u w/\bn μ v u:=by
 simp only[arith] at h;cases h;exact⟨_,rfl,rfl⟩
theorem Qa{x:Value}{b:Bool}(ad:bn μ (.bool b) x):∃u,(Op.unary .not x).run P w=.ok u w/\bn μ (.bool (!b)) u:=by
 cases ad;exact⟨_,rfl,rfl⟩
theorem Qb{x:Value}{k:IntKind}{n:Int}(ad:bn μ (.int k n) x):∃u,(Op.unary .neg x).run P w=.ok u w/\bn μ (.int k (k.wrap (0-n))) u:=by
 cases ad;exact⟨_,rfl,rfl⟩
theorem Qc{x:Value}{k:IntKind}{n:Int}{v:J}(ad:bn μ (.int k n) x)(h:arith .xor k (if k.signed then-1 else k.max) n=some v):∃u,(Op.unary .xor x).run P w=.ok u w/\bn μ v u:=by
 cases ad;exact P_ k _ n h
def tv:Value->Bool
 |.int _ _|.float _ _|.complex _ _ _|.string _=>true
 |_=>false
theorem binOp_eql(t:TypeId){x y:Value}(h:tv x=false):binOp .eql t x y=(do pure (.bool (<-Op.equal t x y))):=by
 cases x<;>simp[tv] at h<;>cases y<;>rfl
theorem binOp_neq(t:TypeId){x y:Value}(h:tv x=false):binOp .neq t x y=(do pure (.bool (!(<-Op.equal t x y)))):=by
 cases x<;>simp[tv] at h<;>cases y<;>rfl
theorem Ik:∀{d:Nat} {t:TypeId} {x y:J} {b:Bool} {bF:Value},iT P H d t x y=some b->(∀j a k c,¬(x=.int j a/\y=.int k c))->(∀a c,¬(x=.str a/\y=.str c))->bn μ x bF->tv bF=false:=by
 intro d t x y b bF h hi hs ad
 cases d with
 |zero=>simp[iT] at h
 |succ d=>
  cases x with
  |bad=>unfold iT at h;split at h<;>simp at h
  |int j a=>
   unfold iT at h
   split at h
   all_goals first
    |(cases y<;>simp at h;done)
    |(cases y<;>simp at h;exact absurd ⟨rfl,rfl⟩ (hi _ _ _ _))
    |cases h
  |str a=>
   unfold iT at h
   split at h
   all_goals first
    |(cases y<;>simp at h;done)
    |(cases y<;>simp at h;exact absurd ⟨rfl,rfl⟩ (hs _ _))
    |cases h
  |bool b=>cases ad;rfl
  |bb=>cases ad;rfl
  |ptr b off=>obtain⟨i,_,rfl⟩:=ad;rfl
  |aA=>cases ad;rfl
  |slice b off n c=>
   obtain⟨i,_,ai⟩:=ad
   cases c with
   |exact c=>cases ai;rfl
   |a5 g_=>obtain⟨c,rfl,_⟩:=ai;rfl
   |dead=>obtain⟨_,a,c,rfl⟩:=ai;rfl
  |iR=>cases ad;rfl
  |map r=>obtain⟨i,_,rfl⟩:=ad;rfl
  |gj=>cases ad;rfl
  |fn f a b=>obtain⟨_,_,rfl,_⟩:=ad;rfl
  |ca l=>obtain⟨i,_,rfl⟩:=ad;rfl
  |fy=>cases ad;rfl
  |iface t x=>obtain⟨_,rfl,_⟩:=ad;rfl
  |agg cs=>obtain⟨_,rfl,_⟩:=ad;rfl
  |aL cs=>obtain⟨_,rfl,_⟩:=ad;rfl
theorem Il{op:BinOp}(h:op≠ .eql)(an:op≠ .neq)(t:TypeId)(lf j_:Operand)(a b:Value):(eqGuard op t lf j_ a b).run P w=.ok () w:=by
 cases op<;>first|exact absurd rfl h|exact absurd rfl an|simp[eqGuard]
def r_:Value->Nat
 |.nilIface=>1
 |.agg _=>2
 |_=>0
theorem DA{op:BinOp}(gO:op=.eql\/op=.neq){t:TypeId}{lf j_:Operand}{a b:Value}(h:r_ a=0\/r_ a≠r_ b):(eqGuard op t lf j_ a b).run P w=.ok () w:=by
 rcases gO with rfl|rfl<;>(cases a<;>first|rfl|(cases b<;>first|rfl|simp[r_] at h))
def tw:J->Nat
 |.fy=>1
 |.agg _=>2
 |_=>0
theorem Im{x:J}{a:Value}(ad:bn μ x a)(ag:x≠ .bad):r_ a=tw x:=by
 cases x with
 |bad=>exact absurd rfl ag
 |bool b=>cases ad;rfl
 |int k n=>cases ad;rfl
 |str s=>obtain⟨_,rfl,_⟩:=ad;rfl
 |bb=>cases ad;rfl
 |ptr b off=>obtain⟨i,_,rfl⟩:=ad;rfl
 |aA=>cases ad;rfl
 |slice b off n c=>
  obtain⟨i,_,ai⟩:=ad
  cases c with
  |exact c=>cases ai;rfl
  |a5 g_=>obtain⟨c,rfl,_⟩:=ai;rfl
  |dead=>obtain⟨_,a,c,rfl⟩:=ai;rfl
 |iR=>cases ad;rfl
 |map r=>obtain⟨i,_,rfl⟩:=ad;rfl
 |gj=>cases ad;rfl
 |fn f a b=>obtain⟨_,_,rfl,_⟩:=ad;rfl
 |ca l=>obtain⟨i,_,rfl⟩:=ad;rfl
 |fy=>cases ad;rfl
 |iface t x=>obtain⟨_,rfl,_⟩:=ad;rfl
 |agg cs=>obtain⟨_,rfl,_⟩:=ad;rfl
 |aL cs=>obtain⟨_,rfl,_⟩:=ad;rfl
theorem Io{op:BinOp}(gO:op=.eql\/op=.neq){t:TypeId}{lf j_:Operand}{x y:J}{a b:Value}(ad:bn μ x a)(bu:bn μ y b)(Ip:x≠ .bad)(Qd:y≠ .bad)(h:rJ P t lf j_ x y=true):
  (eqGuard op t lf j_ a b).run P w=.ok () w:=by
 have kY:=Im ad Ip
 have iV:=Im bu Qd
 by_cases al:r_ a=0\/r_ a≠r_ b
 · exact DA gO al
 · have ab:tw x≠0:=λe=>al (.inl (kY.trans e))
   have ae:tw x=tw y:=by
    rw[<-kY,<-iV];exact Classical.byContradiction λe=>al (.inr e)
   cases x<;>simp[tw] at ab
   · cases y<;>simp[tw] at ae
     cases ad;cases bu
     simp only[rJ] at h
     rcases gO with rfl|rfl<;>(cases lf<;>cases j_<;>first|rfl|simp at h)
   · cases y<;>simp[tw] at ae
     obtain⟨bK,rfl,_⟩:=ad
     obtain⟨bQ,rfl,_⟩:=bu
     simp only[rJ,Bool.not_eq_true'] at h
     rcases gO with rfl|rfl<;>simp[eqGuard,h]
theorem Iq{d:Nat}{t:TypeId}{x y:J}{b:Bool}(h:iT P H d t x y=some b):x≠ .bad/\y≠ .bad:=by
 cases d with
 |zero=>simp[iT] at h
 |succ d=>
  constructor
  · rintro rfl;unfold iT at h;split at h<;>simp at h
  · rintro rfl;unfold iT at h;split at h<;>(try cases x)<;>simp at h
theorem Qe(ah:bD μ H w){op:BinOp}{t yt:TypeId}{lf j_:Operand}{x y v:J}{bF gZ:Value}(ad:bn μ x bF)(bu:bn μ y gZ)(h:dr P H op t lf j_ x y=some v):
  ∃u,(do eqGuard op t lf j_ bF gZ;binOp op t bF gZ:Sem Value).run P w=.ok u w/\bn μ v u:=by
 unfold dr at h
 split at h
 · rename_i k a k' b
   cases ad;cases bu
   have au:(eqGuard op t lf j_ (.int k a) (.int k' b)).run P w=.ok () w:=by
    by_cases gO:op=.eql\/op=.neq
    · exact DA gO (.inl rfl)
    · exact Il (λe=>gO (.inl e)) (λe=>gO (.inr e)) t lf j_ _ _
   simp only[Sem.run_bind,au,Result.andThen_ok]
   split at h
   · exact Hy h t
   · exact Hy h t
   · rename_i ab ae
     split at h
     · rename_i ax;subst ax
       exact OU h ⟨ab,ae⟩ t
     · cases h
 · rename_i a b
   obtain⟨s1,rfl,rfl⟩:=ad
   obtain⟨s2,rfl,rfl⟩:=bu
   have au:(eqGuard op t lf j_ (.string s1) (.string s2)).run P w=.ok () w:=by
    by_cases gO:op=.eql\/op=.neq
    · exact DA gO (.inl rfl)
    · exact Il (λe=>gO (.inl e)) (λe=>gO (.inr e)) t lf j_ _ _
   simp only[Sem.run_bind,au,Result.andThen_ok]
   exact OW h t
 · rename_i eG pU
   split at h
   · split at h
     · rename_i cp
       split at h
       · rename_i b he
         cases h
         obtain⟨a8,aW⟩:=Iq he
         have au:=Io (w:=w) (op:=.eql) (.inl rfl) ad bu a8 aW cp
         have aM:tv bF=false:=Ik he (λj a k c e=>eG j a k c e.1 e.2) (λa c e=>pU a c e.1 e.2) ad
         have al:=tp (P:=P) ah 100 t x y b bF gZ Op.maxDepth (by decide) he ad bu
         refine⟨.bool b,?_,rfl⟩
         simp only[Sem.run_bind,au,Result.andThen_ok,binOp_eql t aM,Op.equal,al,Sem.run_pure]
       · cases h
     · cases h
   · split at h
     · rename_i cp
       split at h
       · rename_i b he
         cases h
         obtain⟨a8,aW⟩:=Iq he
         have au:=Io (w:=w) (op:=.neq) (.inr rfl) ad bu a8 aW cp
         have aM:tv bF=false:=Ik he (λj a k c e=>eG j a k c e.1 e.2) (λa c e=>pU a c e.1 e.2) ad
         have al:=tp (P:=P) ah 100 t x y b bF gZ Op.maxDepth (by decide) he ad bu
         refine⟨.bool (!b),?_,rfl⟩
         simp only[Sem.run_bind,au,Result.andThen_ok,binOp_neq t aM,Op.equal,al,Sem.run_pure]
       · cases h
     · cases h
   · cases h
theorem Qf{t:TypeId}{d:TypeDesc}(hu:P.underlying t=some d)(eG:∀m,d≠ .interface m){x:J}{bF:Value}(ad:bn μ x bF):
  (Instr.makeInterface t bF).run P w=.ok (.iface t bF) w:=by
 simp only[Instr.makeInterface,Sem.run_bind,b7 hu,Result.andThen_ok]
 cases d<;>first|rfl|exact absurd rfl (eG _)
theorem Ir{xT as:TypeId}{ok:Bool}{d:TypeDesc}(hu:P.underlying as=some d)(eG:∀m,d≠ .interface m){x:J}{bF:Value}(ad:bn μ x bF):
  (∀z,x=.fy->ok=true->fq P as=some z->∃u,(Instr.typeAssert bF xT as ok).run P w=.ok u w/\bn μ (.aL [z,.bool false]) u)/\
  (∀v,x=.iface as v->∃u,(Instr.typeAssert bF xT as ok).run P w=.ok u w/\bn μ (if ok then .aL [v,.bool true] else v) u)/\
  (∀t v z,x=.iface t v->t≠as->ok=true->fq P as=some z->∃u,(Instr.typeAssert bF xT as ok).run P w=.ok u w/\bn μ (.aL [z,.bool false]) u):=by
 refine⟨λz qT cp bj=>?_,λv qT=>?_,λt v z qT eb cp bj=>?_⟩
 · subst qT;cases ad;subst cp
   obtain⟨gp,xQ,rfl,_⟩:=mE (P:=P) (w:=w) bj
   refine⟨.tuple #[gp,.bool false],?_,⟨_,rfl,_,_,rfl,kU μ gp,_,_,rfl,rfl,rfl⟩⟩
   simp only[Instr.typeAssert,Sem.run_bind,b7 hu,Result.andThen_ok]
   cases d<;>first|exact absurd rfl (eG _)|simp[xQ]
 · subst qT;obtain⟨y,rfl,bu⟩:=ad
   refine⟨if ok then .tuple #[y,.bool true] else y,?_,?_⟩
   · simp only[Instr.typeAssert,Sem.run_bind,b7 hu,Result.andThen_ok]
     cases d<;>first|exact absurd rfl (eG _)|simp
   · cases ok
     · exact bu
     · exact⟨_,rfl,_,_,rfl,bu,_,_,rfl,rfl,rfl⟩
 · subst qT;obtain⟨y,rfl,bu⟩:=ad;subst cp
   obtain⟨gp,xQ,rfl,_⟩:=mE (P:=P) (w:=w) bj
   refine⟨.tuple #[gp,.bool false],?_,⟨_,rfl,_,_,rfl,kU μ gp,_,_,rfl,rfl,rfl⟩⟩
   simp only[Instr.typeAssert,Sem.run_bind,b7 hu,Result.andThen_ok]
   cases d<;>first|exact absurd rfl (eG _)|simp[xQ,eb]
theorem Qg{vs:List J}{x:Value}{i:Nat}{v:J}(ad:bn μ (.aL vs) x)(h:nth i vs=some v):∃u,(Instr.extract x i).run P w=.ok u w/\bn μ v u:=by
 obtain⟨l,rfl,aD⟩:=ad
 rw[qO] at h
 obtain⟨u,hu,al⟩:=aD.get h
 refine⟨u,?_,al⟩
 simp[Instr.extract,hu]
theorem Is{r el:Nat}{c:Array Value}{bS:Nat×Nat}(h:w.heap[r]? =some (.cells c el bS)):(viewAt r).run P w=.ok none w:=by
 simp[viewAt,World.shape?,h]
theorem Qh(ah:bD μ H w){src dst u:TypeId}{b off n:Nat}{cs:List J}{el lo hi:Nat}{k:eE}(hs:P.underlying src=some (.pointer u))(aj:P.underlying dst=some .unsafePointer)
  (bj:dQ P u=some (n+1))(au:H.get b=some (.cells cs el k lo hi))(cB:off<cs.length){x:Value}(ad:bn μ (.ptr b off) x):(convert src dst x).run P w=.ok x w:=by
 obtain⟨i,hi,rfl⟩:=ad
 obtain⟨c,gV,gW,aF,aG,bJ,dh⟩:=ah.rel _ _ i au hi
 obtain⟨v,aJ⟩:∃v,cs[off]? =some v:=⟨_,List.getElem?_eq_getElem cB⟩
 obtain⟨Qi,hu,_⟩:=aG off v aJ
 have eV:i.base+off<c.size:=by
  rcases Nat.lt_or_ge (i.base+off) c.size with h|h
  · exact h
  · rw[Array.getElem?_eq_none h] at hu;cases hu
 have xH:(Conv.seenAt ⟨i.bo,i.base+off,none⟩).run P w=.ok ⟨i.bo,i.base+off,none⟩ w:=by
  simp[Conv.seenAt,Is aF]
 have It:(cellsIn i.bo).run P w=.ok (some c.size) w:=by simp[cellsIn,World.shape?,aF]
 have ti:¬(c.size<=i.base+off):=by omega
 simp[convert,b7 hs,b7 aj,Conv.unsafePointer,xH,It,run_sizeOf bj,ti]
theorem Qj(ah:bD μ H w){src dst u:TypeId}{b off n:Nat}{cs:List J}{el lo hi:Nat}(hs:P.underlying src=some .unsafePointer)(aj:P.underlying dst=some (.pointer u))
  (bj:dQ P u=some (n+1))(au:H.get b=some (.cells cs el .own lo hi))(aD:liesAt P P.depth el (cs.length/P.cellsOf el) off u 1=true){x:Value}(ad:bn μ (.ptr b off) x):(convert src dst x).run P w=.ok x w:=by
 obtain⟨i,hi,rfl⟩:=ad
 obtain⟨c,gV,gW,aF,aG,bJ,dh,iq,_⟩:=ah.rel _ _ i au hi
 have ai:c.size=cs.length:=by omega
 have xH:(Conv.seenAt ⟨i.bo,i.base+off,none⟩).run P w=.ok ⟨i.bo,i.base+off,none⟩ w:=by
  simp[Conv.seenAt,Is aF]
 have DB:(variablesAt ⟨i.bo,i.base+off,none⟩ u 1).run P w=.ok true w:=by
  simp[variablesAt,World.shape?,aF,dh,ai,aD]
 simp[convert,b7 hs,b7 aj,Conv.unsafePointer,xH,run_sizeOf bj,DB]
end
end aC
namespace aC
open Go
section
variable {P:Program} {μ:bG} {H:aa} {w:World}
theorem Iu(ah:bD μ H w){b:Nat}{i:h3}(hi:μ b=some i){cs:List J}{el lo fM:Nat}{k:eE}(au:H.get b=some (.cells cs el k lo fM)):
  ∀(n off:Nat) (r:List J) (bs:List UInt8) (acc:ByteArray),takeN n (jB off cs)=some r->nR r=some bs->
   (loadBytes ⟨i.bo,i.base+off,none⟩ acc n).run P w=.ok ⟨acc.data++bs.toArray⟩ w
 |0,off,r,bs,acc,h,ag=>by
  simp only[takeN] at h;cases h
  simp only[nR] at ag;cases ag
  simp[loadBytes]
 |n+1,off,r,bs,acc,h,ag=>by
  rw[m9] at h
  cases aj:cs.drop off with
  |nil=>rw[aj] at h;simp[takeN] at h
  |cons a l=>
   rw[aj] at h
   simp only[takeN] at h
   cases bh:takeN n l with
   |none=>rw[bh] at h;cases h
   |some r'=>
    rw[bh] at h;cases h
    unfold nR at ag
    split at ag
    · rename_i heq;cases heq
    · rename_i m pV heq
      cases heq
      split at ag
      · rename_i Qk hm jo
        cases ag
        have Ql:cs[off]? =some (.int .u8 (Int.ofNat m)):=by
         have:=congrArg List.head? aj
         simpa[List.head?_drop] using this
        have aD:l=cs.drop (off+1):=by
         have:=congrArg List.tail aj
         simpa[List.tail_drop] using this.symm
        obtain⟨u,ab,ae⟩:=C9 (P:=P) (off:=off) ah hi (show av H b off=some (.int .u8 (Int.ofNat m)) by simp[av,au,qO,Ql])
        cases ae
        have bt:=Iu ah hi au n (off+1) r' Qk (acc.push (UInt8.ofNat m)) (by rw[m9,<-aD];exact bh) jo
        have e:(⟨i.bo,i.base+off,none⟩:Addr).add 1=⟨i.bo,i.base+(off+1),none⟩:=by simp[Addr.add,Nat.add_assoc]
        simp only[loadBytes,Sem.run_bind,ab,Result.andThen_ok,e]
        refine Eq.trans ?_ (bt.trans ?_)
        · rfl
        · congr 1
          simp[ByteArray.ext_iff,ByteArray.push]
      · cases ag
    · cases ag
theorem DC{α:Type}(p:Option Addr)(l:Value)(f:Option Addr->Value->α)(g:Array Value->α):Builtin.unsafeString_.match_3 (λ_=>α) #[.pointer p,l] f g=f p l:=rfl
theorem Qm(argTypes:Array TypeId)(ty pT:TypeId)(az:argTypes[0]? =some pT)(k:IntKind)(m:Nat)(a:Addr)(u:TypeId)(hu:P.underlying pT=some (.pointer u))(qR:m≠0)(hm:m<=281474976710656)
  {s:ByteArray}(aJ:(variablesAt a u m).run P w=.ok true w)(aD:(loadBytes a .empty m).run P w=.ok s w):
  (Builtin.unsafeString_ argTypes ty #[.pointer (some a),.int k (m:Int)]).run P w=.ok (.string s) (w.freeze a m):=by
 have xU:¬((9223372036854775807:Int)<(m:Int)):=by omega
 have jq:IntKind.i64.max=9223372036854775807:=rfl
 have he:(elemOf pT).run P w=.ok u w:=by simp[elemOf,b7 hu]
 have xV:¬((m:Int)<0):=by omega
 delta Builtin.unsafeString_
 rw[DC]
 simp[asInt,asIntOf,az,jq,xU,qR,he,aJ,aD,xV]
theorem Iv(argTypes:Array TypeId)(ty pT:TypeId)(az:argTypes[0]? =some pT)(k:IntKind)(p:Option Addr):(Builtin.unsafeString_ argTypes ty #[.pointer p,.int k 0]).run P w=.ok (.string .empty) w:=by
 have jq:IntKind.i64.max=9223372036854775807:=rfl
 cases p with
 |none=>
  delta Builtin.unsafeString_
  rw[DC]
  simp[asInt,asIntOf,az,jq]
 |some a=>
  delta Builtin.unsafeString_
  rw[DC]
  simp[asInt,asIntOf,az,jq]
theorem AI:P.depth=(2*(P.types.size+Made.depth)+1)+1:=rfl
theorem Qn{e u count off n:Nat}(ab:P.underlyingId e=P.underlyingId u)(hs:P.cellsOf e=1)(ag:off+n<=count):liesAt P P.depth e count off u n=true:=by
 have aD:sameLayout P P.depth e u=true:=by rw[AI];simp[sameLayout,ab]
 have al:rowAt P (sameLayout P P.depth · u) P.depth e count off n=true:=by
  rw[AI]
  unfold rowAt
  simp only[hs,Nat.div_one,Nat.mod_one]
  rw[AI] at aD
  simp[ag,aD]
 have:∀d,rowAt P (sameLayout P P.depth · u) P.depth e count off n=true->liesAt P (d+1) e count off u n=true:=λd h=>by
  unfold liesAt;rw[h];rfl
 conv=>lhs;arg 2;rw[AI]
 exact this _ al
theorem Qo(ah:bD μ H w){argTypes:Array TypeId}{ty pT:TypeId}(az:argTypes[0]? =some pT){p n v:J}{DD DE:Value}(aU:bn μ p DD)(aM:bn μ n DE){bf:aa}(h:qE P H pT p n=some (v,bf)):
  fS P μ H w (Builtin.unsafeString_ argTypes ty #[DD,DE]) v bf:=by
 unfold qE at h
 have Iw:∀m,gb n=some m->∃k,DE=.int k (m:Int):=by
  intro m hm
  unfold gb at hm
  split at hm
  · cases hm;cases aM;exact⟨_,rfl⟩
  · cases hm
 split at h
 · rename_i bj
   cases h;cases aU
   obtain⟨k,rfl⟩:=Iw 0 bj
   exact .same ah (v':=.string .empty) (Iv argTypes ty pT az k none) ⟨.empty,rfl,rfl⟩
 · rename_i b off m hm
   obtain⟨k,rfl⟩:=Iw m hm
   obtain⟨i,hi,rfl⟩:=aU
   split at h
   · rename_i bj
     cases h;subst bj
     exact .same ah (v':=.string .empty) (Iv argTypes ty pT az k _) ⟨.empty,rfl,rfl⟩
   · rename_i qR
     split at h
     · rename_i u cs el bN lo fM hu au
       split at h
       · rename_i ai
         simp only[Bool.and_eq_true,decide_eq_true_eq,Nat.ble_eq] at ai
         obtain⟨⟨⟨c1,c2⟩,c3⟩,c4⟩:=ai
         split at h
         · rename_i r al
           split at h
           · rename_i bs ag
             cases h
             obtain⟨c,gV,gW,aF,aG,bJ,dh⟩:=ah.rel _ _ i au hi
             have Qp:=Iu (P:=P) ah hi au m off r bs .empty al ag
             have hlen:off+m<=cs.length:=by
              rw[m9] at al
              have:=(th m _ _ al).1
              rw[List.length_drop] at this
              omega
             have Ar:0<m:=Nat.pos_of_ne_zero qR
             have eV:i.base+off+m<=c.size:=by
              obtain⟨x,ad⟩:∃x,cs[off+m-1]? =some x:=⟨_,List.getElem?_eq_getElem (by omega)⟩
              obtain⟨Qi,rS,_⟩:=aG _ x ad
              rcases Nat.lt_or_ge (i.base+(off+m-1)) c.size with h|h
              · omega
              · rw[Array.getElem?_eq_none h] at rS;cases rS
             have Ix:P.cellsOf el=1:=by
              unfold dQ at c2
              unfold Program.cellsOf
              cases fM:P.info? el with
              |none=>rw[fM] at c2;cases c2
              |some ii=>rw[fM] at c2;simpa using c2
             have DB:(variablesAt ⟨i.bo,i.base+off,none⟩ u m).run P w=.ok true w:=by
              have aD:=Qn (P:=P) (e:=el) (u:=u) (count:=c.size/P.cellsOf el) (off:=i.base+off) (n:=m) c1 Ix (by rw[Ix];simpa using eV)
              simp[variablesAt,World.shape?,aF,aD]
             have fr:=Qm (P:=P) (w:=w) argTypes ty pT az k m _ u hu qR c3 DB Qp
             have Qq:∃bS:Nat×Nat,w.freeze ⟨i.bo,i.base+off,none⟩ m={w with heap:=w.heap.modify i.bo λ
               |.cells c elem (lo,hi)=>.cells c elem (if lo==hi then(i.base+off,i.base+off+m) else(min lo (i.base+off),max hi (i.base+off+m)))
               |o=>o}/\(w.freeze ⟨i.bo,i.base+off,none⟩ m).heap[i.bo]? =some (.cells c el bS):=by
              have:w.freeze ⟨i.bo,i.base+off,none⟩ m={w with heap:=w.heap.modify i.bo λ
               |.cells c elem (lo,hi)=>.cells c elem (if lo==hi then(i.base+off,i.base+off+m) else(min lo (i.base+off),max hi (i.base+off+m)))
               |o=>o}:=by simp[World.freeze,qR];rfl
              refine⟨if gV==gW then(i.base+off,i.base+off+m) else(min gV (i.base+off),max gW (i.base+off+m)),this,?_⟩
              rw[this]
              simp[Array.getElem?_modify,aF]
             obtain⟨⟨f1,f2⟩,aY,aR⟩:=Qq
             have iU:(cJ.cells cs el bN lo fM).pI=false:=by cases bN<;>first|rfl|exact absurd rfl c4
             obtain⟨bq,a9⟩:=ah.update (w':=w.freeze ⟨i.bo,i.base+off,none⟩ m) (o':=.cells cs el .fz lo fM) au iU hi (by rw[aY];simp) (λr al=>by rw[aY];simp[Array.getElem?_modify];intro e;exact absurd e.symm al) (by rw[aY]) (by rw[aY]) (by rw[aY])
              ⟨c,f1,f2,aR,aG,bJ,trivial⟩ (hdr:=by rw[aY];exact Nat.le_refl _)
             exact⟨μ,_,.string _,fr,⟨_,rfl,by simp⟩,bq,a9⟩
           · cases h
         · cases h
       · cases h
     · cases h
 · cases h
theorem Qr{argTypes:Array TypeId}{ty:TypeId}{x:J}{bF:Value}(ad:bn μ x bF):
  (x=.aA->(Builtin.unsafeSliceData_ argTypes ty #[bF]).run P w=.ok (.pointer none) w)/\
  (∀b off n c,x=.slice b off n (.exact c)->c≠0->∃u,(Builtin.unsafeSliceData_ argTypes ty #[bF]).run P w=.ok u w/\bn μ (.ptr b off) u)/\
  (∀b off n e,x=.slice b off n (.a5 e)->n≠0->∃u,(Builtin.unsafeSliceData_ argTypes ty #[bF]).run P w=.ok u w/\bn μ (.ptr b off) u):=by
 have key:∀(a:Addr) (n c:Nat),c≠0->(Builtin.unsafeSliceData_ argTypes ty #[.slice (some a) n c]).run P w=.ok (.pointer (some a)) w:=λa n c ai=>by
  obtain⟨k,rfl⟩:∃k,c=k+1:=⟨c-1,by omega⟩
  rfl
 refine⟨λh=>?_,λb off n c h ai=>?_,λb off n e h aM=>?_⟩
 · subst h;cases ad;rfl
 · subst h;obtain⟨i,hi,pJ⟩:=ad;cases pJ
   exact⟨_,key _ n c ai,i,hi,rfl⟩
 · subst h;obtain⟨i,hi,c,rfl,hle,_⟩:=ad
   exact⟨_,key _ n c (by omega),i,hi,rfl⟩
theorem Iy{mK:Value}{first caps:List J}{g:Nat}{args:List J}{vs:List Value}(hf:bn μ (.fn g first caps) mK)(bl:cy μ args vs):
  ∃dm cs:List Value,(do let d<-Deferred.ofValue mK ⟨vs⟩;invoke d.target d.args:Sem Next).run P w=(callFunc g ⟨dm++vs++cs⟩).run P w/\cy μ (first++args++caps) (dm++vs++cs)/\
   (Deferred.ofValue mK ⟨vs⟩).run P w=.ok {target:=.fn (.func g) ⟨cs⟩,args:=⟨dm++vs⟩} w:=by
 obtain⟨dm,cs,rfl,ab,ae⟩:=hf
 refine⟨dm,cs,?_,(ab.append bl).append ae,?_⟩
 · simp[Deferred.ofValue,invoke]
 · simp[Deferred.ofValue]
theorem Qs{l:Nat}{mK:Value}{vs:List Value}(hf:bn μ (.ca l) mK):
  ∃i,μ l=some i/\(do let d<-Deferred.ofValue mK ⟨vs⟩;invoke d.target d.args:Sem Next).run P w=(Instr.yield i.bo ⟨vs⟩).run P w:=by
 obtain⟨i,hi,rfl⟩:=hf
 exact⟨i,hi,by simp[Deferred.ofValue,invoke]⟩
theorem Qt{t:TypeId}{name:String}{f:Nat}(h:Af P t name=some f)(v:Value)(n:Nat):(method (n+1) t v name).run P w=.ok (f,v) w:=by
 unfold Af at h
 split at h
 · rename_i i hi
   split at h
   · rename_i m hm
     have hf:∀q,m.path.isEmpty=q->m.path.isEmpty=q:=λ_ h=>h
     split at h
     all_goals first
      |(cases h;done)
      |(rename_i aU n1 hu
        cases h
        have Qu:m.path.toList=[]:=by simpa using aU
        simp[method,run_typeInfo hi,hm,Qu,follow,n1,receiverAt,b7 hu,Place.get]
        done)
   · cases h
 · cases h
end
end aC
namespace aC
open Go
def kf(P:Program)(μ:bG)(H:aa)(w:World)(s:Sem Next):fc->Prop
 |.val v bf=>∃a4 w' u,(s.run P w=.ok (.value u) w'\/(u=undef/\s.run P w=.ok .skip w'))/\bn a4 v u/\bD a4 bf w'/\cw μ H w a4 bf w'
 |.bp v bf=>bf=H/\∃u,s.run P w=.halt (.panic u) w/\bn μ v u
 |.call f args bf=>bf=H/\∃vs:List Value,s.run P w=(callFunc f ⟨vs⟩).run P w/\cy μ args vs
 |.ca l args bf=>bf=H/\∃i,∃vs:List Value,μ l=some i/\s.run P w=(Instr.yield i.bo ⟨vs⟩).run P w/\cy μ args vs
 |.j8 d=>∃pW,s.run P w=.ok (.defer pW) w/\tf μ d pW
 |.s_=>s.run P w=.ok .recover w
 |.fail _=>True
section
variable {P:Program} {μ:bG} {H:aa} {w:World}
theorem kf.kg{s:Sem Value}{v:J}{bf:aa}(h:fS P μ H w s v bf):kf P μ H w (do pure (.value (<-s))) (.val v bf):=by
 obtain⟨a4,w',u,ab,ae,aB,aP⟩:=h
 exact⟨a4,w',u,.inl (by simp[ab]),ae,aB,aP⟩
theorem kf.of_same(ah:bD μ H w){s:Sem Value}{v:J}(h:∃u,s.run P w=.ok u w/\bn μ v u):kf P μ H w (do pure (.value (<-s))) (.val v H):=by
 obtain⟨u,ab,ae⟩:=h
 exact⟨μ,w,u,.inl (by simp[ab]),ae,ah,cw.refl _ _ _⟩
theorem kf.AJ(ah:bD μ H w){u:Value}{v:J}(h:bn μ v u){s:Sem Next}(hs:s.run P w=.ok (.value u) w):kf P μ H w s (.val v H):=
 ⟨μ,w,u,.inl hs,h,ah,cw.refl _ _ _⟩
theorem kf.Qv{s:Sem Unit}{bf:aa}(h:∃w',s.run P w=.ok () w'/\bD μ bf w'/\cw μ H w μ bf w'):kf P μ H w (do s;pure .skip) (.val (.aL []) bf):=by
 obtain⟨w',ab,aB,aP⟩:=h
 exact⟨μ,w',undef,.inr ⟨rfl,by simp[ab]⟩,⟨[],rfl,rfl⟩,aB,aP⟩
theorem xW(ah:bD μ H w){s:Sem Value}{o:Option J}{jL:String}(h:∀v,o=some v->∃u,s.run P w=.ok u w/\bn μ v u):kf P μ H w (do pure (.value (<-s))) (gy H jL o):=by
 cases o with
 |none=>trivial
 |some v=>exact .of_same ah (h v rfl)
theorem sa{s:Sem Value}{o:Option J}{jL:String}(h:∀v,o=some v->fS P μ H w s v H):kf P μ H w (do pure (.value (<-s))) (gy H jL o):=by
 cases o with
 |none=>trivial
 |some v=>exact .kg (h v rfl)
theorem tx{s:Sem Value}{o:Option (J×aa)}{jL:String}(h:∀v bf,o=some (v,bf)->fS P μ H w s v bf):kf P μ H w (do pure (.value (<-s))) (l9 jL o):=by
 cases o with
 |none=>trivial
 |some p=>exact .kg (h p.1 p.2 rfl)
theorem AK{s:Sem Unit}{o:Option aa}{jL:String}(h:∀bf,o=some bf->∃w',s.run P w=.ok () w'/\bD μ bf w'/\cw μ H w μ bf w'):kf P μ H w (do s;pure .skip) (qG jL o):=by
 cases o with
 |none=>trivial
 |some bf=>exact .Qv (h bf rfl)
theorem sb{a:J}{n:Nat}{v:Value}(h:gb a=some n)(aJ:bn μ a v):∃k,v=.int k (n:Int):=by
 unfold gb at h
 split at h
 · cases h;cases aJ;exact⟨_,rfl⟩
 · cases h
theorem Iz(ah:bD μ H w){f:J}{mK:Value}{args:List J}{vs:List Value}(hf:bn μ f mK)(bl:cy μ args vs):
  kf P μ H w (do let d<-Deferred.ofValue mK ⟨vs⟩;invoke d.target d.args) (tb f args H):=by
 unfold tb
 split
 · obtain⟨dm,cs,ab,ae,_⟩:=Iy (P:=P) (w:=w) hf bl
   exact⟨rfl,_,ab,ae⟩
 · obtain⟨i,ab,ae⟩:=Qs (P:=P) (w:=w) (vs:=vs) hf
   exact⟨rfl,i,vs,ab,ae,bl⟩
 · trivial
theorem Qw(ah:bD μ H w){b:Builtin}{ats:Array TypeId}{ty:TypeId}{consts:Array Bool}{vs:List J}{us:List Value}(aJ:cy μ vs us):
  kf P μ H w (builtin b ats ty consts ⟨us⟩) (jn P b ats vs H):=by
 unfold jn
 split
 · rfl
 · cases vs with
   |nil=>trivial
   |cons x l=>
    obtain⟨bF,jR,rfl,ab,ae⟩:=aJ
    refine xW ah λv h=>?_
    obtain⟨u,aY,aR⟩:=Dq (P:=P) (w:=w) mz Builtin.min2 (λ_ _ _ _ _ h ad bu=>PD h ad bu) l x bF jR v ab ae h
    exact⟨u,by simpa[Builtin.min_] using aY,aR⟩
 · cases vs with
   |nil=>trivial
   |cons x l=>
    obtain⟨bF,jR,rfl,ab,ae⟩:=aJ
    refine xW ah λv h=>?_
    obtain⟨u,aY,aR⟩:=Dq (P:=P) (w:=w) xk Builtin.max2 (λ_ _ _ _ _ h ad bu=>PE h ad bu) l x bF jR v ab ae h
    exact⟨u,by simpa[Builtin.max_] using aY,aR⟩
 · split
   · rename_i t x az
     obtain⟨bF,jR,rfl,ab,ae⟩:=aJ
     cases ae
     split
     · exact sa λv h=>PB ah az ab h
     · exact sa λv h=>PC ah az ab h
     · exact tx λv bf h=>Pz ah az ab h
     · obtain⟨s1,s2,ck⟩:=Qr (P:=P) (w:=w) (argTypes:=ats) (ty:=ty) ab
       split
       · exact .of_same ah ⟨_,s1 rfl,rfl⟩
       · split
         · trivial
         · rename_i ai;exact .of_same ah (s2 _ _ _ _ rfl ai)
       · split
         · trivial
         · rename_i ai;exact .of_same ah (ck _ _ _ _ rfl ai)
       · trivial
     · trivial
   · rename_i t x y az
     obtain⟨bF,jR,rfl,ab,gZ,HV,rfl,ae,aB⟩:=aJ
     cases aB
     split
     · exact tx λv bf h=>Ps ah az ab ae h
     · exact tx λv bf h=>Py ah az ab ae h
     · exact tx λv bf h=>PV ah az ab ae h
     · exact tx λv bf h=>Qo ah az ab ae h
     · trivial
   · trivial
theorem Qx(ah:bD μ H w){src dst:TypeId}{x:J}{bF:Value}(ad:bn μ x bF):
  kf P μ H w (do pure (.value (<-convert src dst bF))) (ec P src dst x H):=by
 unfold ec
 split
 · rename_i kd k bx n hs aj
   cases ad
   exact .of_same ah ⟨.int k (k.wrap n),by simp[convert,b7 hs,b7 aj,Conv.intToInt],rfl⟩
 · rename_i kd bx n hs aj
   cases ad
   exact .of_same ah ⟨.string (Utf8.encode n),by simp[convert,b7 hs,b7 aj,Conv.intToString],_,rfl,rfl⟩
 · rename_i s hs aj
   obtain⟨t,rfl,rfl⟩:=ad
   exact .of_same ah ⟨.string t,by simp[convert,b7 hs,b7 aj],_,rfl,rfl⟩
 · rename_i e s hs aj
   obtain⟨t,rfl,rfl⟩:=ad
   split
   · rename_i he
     refine .kg ?_
     have cL:=PG (P:=P) ah (e:=e) (bs:=t)
     obtain⟨a4,w',u,ab,ae,aB,aP⟩:=cL
     exact⟨a4,w',u,by simp[convert,b7 hs,b7 aj,b7 he,ab],ae,aB,aP⟩
   · trivial
 · rename_i e hs aj
   have key:P.underlying e=some (.int .u8)->∀a n c,(convert src dst (.slice a n c)).run P w=(Conv.bytesToString (.slice a n c)).run P w:=by
    intro he a n c
    simp[convert,b7 hs,b7 aj,b7 he]
   split
   · rename_i he
     cases ad
     refine .of_same ah ⟨.string .empty,?_,.empty,rfl,rfl⟩
     rw[key he];rfl
   · rename_i b off n he
     split
     · rename_i aM
       subst aM
       obtain⟨i,_,_,a,c,rfl⟩:=ad
       refine .of_same ah ⟨.string .empty,?_,.empty,rfl,rfl⟩
       rw[key he];rfl
     · trivial
   · rename_i b off n c n0 he
     split
     · rename_i cs aD
       split
       · rename_i bs ag
         obtain⟨a4,w',u,ab,ae,aB,aP⟩:=PF (P:=P) ah (by intro e;subst e;exact n0 rfl) ad aD ag
         refine .kg ⟨a4,w',u,?_,ae,aB,aP⟩
         have mF:∃a m k,bF=.slice a m k:=by
          obtain⟨i,_,ai⟩:=ad
          cases c with
          |exact c=>cases ai;exact⟨_,_,_,rfl⟩
          |a5 g_=>obtain⟨c,rfl,_⟩:=ai;exact⟨_,_,_,rfl⟩
          |dead=>obtain⟨_,a,c,rfl⟩:=ai;exact⟨_,_,_,rfl⟩
         obtain⟨a,m,k,rfl⟩:=mF
         rw[key he];exact ab
       · trivial
     · trivial
   · trivial
 · rename_i u b off hs aj
   split
   · rename_i cs el k lo hi n au bj
     split
     · rename_i cB
       exact .of_same ah ⟨bF,Qh ah hs aj bj au (by simpa using cB) ad,ad⟩
     · trivial
   · trivial
 · rename_i u b off hs aj
   split
   · rename_i cs el lo hi n au bj
     split
     · rename_i ai
       exact .of_same ah ⟨bF,Qj ah hs aj bj au ai ad,ad⟩
     · trivial
   · trivial
 · trivial
end
end aC
namespace aC
open Go
section
variable {P:Program} {μ:bG} {H:aa} {w:World}
theorem IA(ah:bD μ H w){c a b:Operand}{g:Operand->J}{cH:Operand->Value}(au:∀x,bn μ (g x) (cH x)){eW:Bool}(ai:g c=.bool eW):
  kf P μ H w (do pure (.value (if<-asBool (cH c) then cH a else cH b))) (.val (if eW then g a else g b) H):=by
 have ab:=au c
 rw[ai] at ab
 refine .AJ ah (u:=if eW then cH a else cH b) ?_ ?_
 · cases eW
   · exact au b
   · exact au a
 · have:cH c=.bool eW:=ab
   simp[this,asBool]
theorem AL{g:Operand->J}{cH:Operand->Value}(au:∀x,bn μ (g x) (cH x))(args:Array Operand):cy μ (args.toList.map g) (args.map cH).toList:=by
 rw[Array.toList_map];exact cy.map g cH au _
theorem Qy(ah:bD μ H w){g:Operand->J}{cH:Operand->Value}(au:∀x,bn μ (g x) (cH x))(o:Oper)(x:Operand)(a7:o.op=.nilCheck x):kf P μ H w (execOp cH o) (match g x with
  |.ptr b o=>.val (.ptr b o) H
  |.slice b o n c=>.val (.slice b o n c) H
  |.fn f a b=>.val (.fn f a b) H
  |.iface t v=>.val (.iface t v) H
  |_=>.fail "nilCheck"):=by
 have ab:=au x
 have e:∀(v:J),g x=v->((∃b o,v=.ptr b o)\/(∃b o n c,v=.slice b o n c)\/(∃f a b,v=.fn f a b)\/∃t y,v=.iface t y)->kf P μ H w (execOp cH o) (.val v H):=by
  intro v aJ hs
  have ae:=ab
  rw[aJ] at ae
  exact .AJ ah ae (OR ae hs o x cH rfl a7)
 split
 · rename_i b o ad;exact e _ ad (.inl ⟨_,_,rfl⟩)
 · rename_i b o n c ad;exact e _ ad (.inr (.inl ⟨_,_,_,_,rfl⟩))
 · rename_i f a b ad;exact e _ ad (.inr (.inr (.inl ⟨_,_,_,rfl⟩)))
 · rename_i t v ad;exact e _ ad (.inr (.inr (.inr ⟨_,_,rfl⟩)))
 · trivial
theorem Qz(ah:bD μ H w){g:Operand->J}{cH:Operand->Value}(au:∀x,bn μ (g x) (cH x))(c:Call)(type:TypeId):kf P μ H w (do let d<-resolve cH c type;invoke d.target d.args) (match c.callee with
  |.value f=>tb (g f) (c.args.toList.map g) H
  |.invoke r name=>match g r with
   |.iface t v=>match Af P t name with
    |some f=>.call f (v::c.args.toList.map g) H
    |none=>.fail ("invoke " ++name)
   |_=>.fail ("invoke " ++name)
  |.builtin b=>jn P b c.argTypes (c.args.toList.map g) H):=by
 have bl:=AL (μ:=μ) au c.args
 cases ai:c.callee with
 |value f=>
  simp only[resolve,ai]
  exact Iz ah (au f) bl
 |invoke r name=>
  simp only[]
  split
  · rename_i t v al
    split
    · rename_i f hm
      have ab:=au r
      rw[al] at ab
      obtain⟨y,bu,aJ⟩:=ab
      refine⟨rfl,y::(c.args.map cH).toList,?_,⟨_,_,rfl,aJ,bl⟩⟩
      have ab8:0<Made.depth:=by decide
      obtain⟨n,aM⟩:∃n,P.types.size+Made.depth=n+1:=⟨P.types.size+Made.depth-1,by omega⟩
      have QA:=Qt (P:=P) (w:=w) hm y n
      have az:(#[cH r]++c.args.map cH)[0]? =some (cH r):=by rw[Array.getElem?_append_left (by simp)];rfl
      have ae:(#[cH r]++c.args.map cH).extract 1 (#[cH r]++c.args.map cH).size=c.args.map cH:=by
       apply Array.ext'
       simp only[Array.toList_extract,Array.toList_append,Array.toList_map,List.cons_append,List.nil_append,List.extract_eq_take_drop]
       rw[List.take_of_length_le]
       · rfl
       · simp
      have aB:(#[y]++c.args.map cH:Array Value)=⟨y::(c.args.map cH).toList⟩:=by apply Array.ext';simp
      rw[bu] at az ae
      simp only[resolve,ai,Sem.run_bind,Sem.run_pure,Result.andThen_ok,invoke,bu,az,ae,callMethod,run_program,aM,QA,aB]
    · trivial
  · trivial
 |builtin b=>
  have ag:=Qw (P:=P) (b:=b) (ats:=c.argTypes) (ty:=type) (consts:=c.args.map λ|.const _=>true|_=>false) ah bl
  have he:(do let d<-resolve cH c type;invoke d.target d.args:Sem Next)=builtin b c.argTypes type (c.args.map λ|.const _=>true|_=>false) (c.args.map cH):=by
   simp only[resolve,ai];rfl
  rw[he];exact ag
set_option maxHeartbeats 4000000 in
theorem QB(ah:bD μ H w)(o:Oper){g:Operand->J}{cH:Operand->Value}(au:∀x,bn μ (g x) (cH x)):kf P μ H w (execOp cH o) (c0 P o g H):=by
 obtain⟨dst,op,type,pos,after,guard⟩:=o
 cases op<;>simp only[c0,execOp]
 case move x=>exact .AJ ah (au x) rfl
 case assign x=>exact .AJ ah (au x) rfl
 case pick c a b=>
  split
  · rename_i ai;exact IA ah au ai
  · rename_i ai;exact IA ah au ai
  · trivial
 case alloc e=>
  split
  · rename_i z bj
    split
    · rename_i b an al;exact .kg (OF ah bj al)
    · trivial
  · trivial
 case box e x=>
  split
  · rename_i b an al;exact .kg (OG ah (au x) al)
  · trivial
 case build t parts=>
  split
  · rename_i z bj
    split
    · rename_i dm hu
      split
      · rename_i cs gm hf;exact .kg (OM ah g cH au bj hu gm parts hf)
      · trivial
    · rename_i n e hu
      split
      · rename_i sz hs
        split
        · rename_i cs hf;exact .kg (OO ah g cH au bj hu hs parts hf)
        · trivial
      · trivial
    · trivial
  · trivial
 case buildSlice t len parts=>
  split
  · rename_i e hu
    split
    · rename_i sz z hs bj
      split
      · rename_i cs ai hf
        rw[Bool.and_eq_true,Nat.ble_eq,Nat.beq_eq] at ai
        split
        · rename_i b an al;exact .kg (OP ah g cH au hu hs bj ai.1 ai.2 parts hf al)
        · trivial
      · trivial
    · trivial
  · trivial
 case insert t m k v=>exact AK λbf h=>Ib ah (au m) (au k) (au v) h
 case load t a=>
  split
  · rename_i b off bl
    have ab:=au a
    rw[bl] at ab
    obtain⟨bK,bQ⟩:=OH (P:=P) ah (t:=t) ab
    split
    · rename_i n DF aM
      split
      · rename_i cs aD;exact .kg (bK n cs DF aM aD)
      · trivial
    · rename_i DF
      exact sa λv h=>bQ v DF h
    · trivial
  · trivial
 case store t a v=>
  split
  · rename_i b off bl
    have ab:=au a
    rw[bl] at ab
    split
    · trivial
    · rename_i n aM QC
      split
      · rename_i aD
        exact AK λbf h=>OI ah ab (au v) QC aM (by simpa using aD) h
      · trivial
    · trivial
  · trivial
 case ready=>trivial
 case waits=>trivial
 case nilCheck x=>exact Qy ah au ⟨dst,.nilCheck x,type,pos,after,guard⟩ x rfl
 case binOp op t x y yt=>exact xW ah λv h=>Qe ah (yt:=yt) (au x) (au y) h
 case unOp op t x=>
  have ab:=au x
  split
  · rename_i b ad;rw[ad] at ab;exact .of_same ah (Qa ab)
  · rename_i k n ad;rw[ad] at ab;exact .of_same ah (Qb ab)
  · rename_i k n ad;rw[ad] at ab;exact xW ah λv h=>Qc ab h
  · trivial
 case convert src ab9 x=>exact Qx ah (au x)
 case sliceToArrayPointer=>trivial
 case makeInterface t x=>
  split
  · trivial
  · rename_i d eG hu
    refine .of_same ah ⟨.iface t (cH x),Qf hu (λm e=>eG m (e▸rfl)) (au x),_,rfl,au x⟩
  · trivial
 case makeFunc fn first caps=>
  split
  · rename_i f
    exact .of_same ah ⟨.func (.func f) (first.map cH) (caps.map cH),rfl,_,_,rfl,AL au first,AL au caps⟩
  · trivial
 case makeMap t r=>
  cases r with
  |none=>exact .kg (PW ah)
  |some x=>
   simp only[]
   split
   · rename_i dx jN k n hu ad
     have ab:=au x
     rw[ad] at ab
     have ae:cH x=.int k n:=ab
     rw[Option.map_some,ae]
     exact .kg (PX ah hu)
   · trivial
 case makeChan=>trivial
 case makeSlice t l c=>
  split
  · rename_i e pV c' hu aD ai
    obtain⟨kl,el⟩:=sb aD (au l)
    obtain⟨kc,xX⟩:=sb ai (au c)
    split
    · rename_i i z hi bj
      split
      · rename_i lj
        rw[Bool.and_eq_true,Bool.and_eq_true,Nat.ble_eq,Nat.beq_eq,decide_eq_true_eq] at lj
        split
        · rename_i b an al
          rw[el,xX]
          exact .kg (OQ ah hu hi bj lj.1.1 lj.1.2 lj.2 al)
        · trivial
      · trivial
    · trivial
  · trivial
 case slice t x lo hi mx=>
  exact sa λv h=>O0 ah (au x) (nW.map g cH au lo) (nW.map g cH au hi) (nW.map g cH au mx) h
 case fieldAddr s x f=>
  split
  · rename_i dm b off hu ad
    have ab:=au x
    rw[ad] at ab
    split
    · rename_i fd hf
      split
      · trivial
      · rename_i n Di aM
        exact .kg (O3 ah hu hf aM (λe=>Di e) ab)
      · trivial
    · trivial
  · trivial
 case field t x f=>
  split
  · rename_i dm cs hu ad
    have ab:=au x
    rw[ad] at ab
    split
    · rename_i fd hf
      exact sa λv h=>O2 ah hu hf ab h
    · trivial
  · trivial
 case indexAddr t x i=>
  split
  · rename_i n e b off k hu ad hi
    have ab:=au x
    rw[ad] at ab
    obtain⟨bN,nd⟩:=sb hi (au i)
    split
    · rename_i sz hs
      split
      · rename_i ax;rw[nd];exact .kg (O5 ah hu hs ab ax)
      · trivial
    · trivial
  · rename_i e b off n c k hu ad hi
    have ab:=au x
    rw[ad] at ab
    obtain⟨bN,nd⟩:=sb hi (au i)
    split
    · rename_i sz hs
      split
      · rename_i ax;rw[nd];exact .kg (O4 ah hu hs ab ax)
      · trivial
    · trivial
  · trivial
 case index t x i=>
  split
  · rename_i n e cs k hu ad hi
    have ab:=au x
    rw[ad] at ab
    obtain⟨bN,nd⟩:=sb hi (au i)
    split
    · rename_i sz hs
      split
      · rename_i ax;rw[nd];exact sa λv h=>O6 ah hu hs ab ax h
      · trivial
    · trivial
  · rename_i s k hu ad hi
    have ab:=au x
    rw[ad] at ab
    obtain⟨bN,nd⟩:=sb hi (au i)
    split
    · rename_i c ai;rw[nd];exact .kg (O7 ah hu ab ai)
    · trivial
  · trivial
 case lookup t x i ok=>exact sa λv h=>PR ah (au x) (au i) h
 case mapUpdate t m k v=>exact AK λbf h=>Ib ah (au m) (au k) (au v) h
 case mapEntry t m k=>exact tx λv bf h=>PT ah (au m) (au k) h
 case entryStore t m s v=>exact AK λbf h=>PU ah (au m) (au s) (au v) h
 case range t x=>
  split
  · rename_i s hu ad
    have ab:=au x
    rw[ad] at ab
    exact .kg (PY ah hu ab)
  · rename_i dx jN hu ad
    have ab:=au x
    rw[ad] at ab
    exact .kg (PZ ah hu ab)
  · rename_i dx jN m hu ad
    have ab:=au x
    rw[ad] at ab
    split
    · rename_i es c Dy
      obtain⟨i,hi,aJ⟩:=ab
      obtain⟨ents,aF,aG⟩:=ah.rel _ _ i Dy hi
      obtain⟨bq,a9⟩:=ah.alloc (.mapIter (some m) c [] c) (.mapIter (some i.bo) c #[] c) 0 ⟨rfl,i,ah.oN _ _ _ hi,World.heap_alloc_new _ _⟩
      refine .kg ⟨_,_,.pointer (some ⟨w.heap.size,0,none⟩),?_,⟨_,gY _ _ _,rfl⟩,bq,a9⟩
      have h_:(getObj i.bo).run P w=.ok (.map ⟨ents⟩ c) w:=by simp[getObj,Sem.run,aF]
      rw[aJ]
      simp only[Instr.range,Sem.run_bind,b7 hu,Result.andThen_ok,h_,Sem.run_pure,run_newObj]
      rfl
    · trivial
  · trivial
 case next it isStr=>exact tx λv bf h=>P2 ah (au it) h
 case entry it=>exact sa λv h=>P5 ah (au it) h
 case typeAssert x xT as ok=>
  have ab:=au x
  split
  · trivial
  · rename_i d eG hu ad
    obtain⟨t1,_,_⟩:=Ir (P:=P) (w:=w) (xT:=xT) (ok:=ok) hu (λm e=>eG m (e▸rfl)) ab
    split
    · rename_i cp
      split
      · rename_i z bj;exact .of_same ah (t1 z ad cp bj)
      · trivial
    · trivial
  · rename_i d t v eG hu ad
    obtain⟨_,t2,t3⟩:=Ir (P:=P) (w:=w) (xT:=xT) (ok:=ok) hu (λm e=>eG m (e▸rfl)) ab
    split
    · rename_i he;subst he;exact .of_same ah (t2 v ad)
    · rename_i eb
      split
      · rename_i cp
        split
        · rename_i z bj;exact .of_same ah (t3 t v z ad eb cp bj)
        · trivial
      · trivial
  · trivial
 case extract t i=>
  have ab:=au t
  split
  · rename_i vs ad
    rw[ad] at ab
    exact xW ah λv h=>Qg ab h
  · trivial
 case call c=>exact Qz ah au c type
 case go=>trivial
 case defer c=>
  split
  · rename_i f hf
    split
    · rename_i k first caps ad
      have ab:=au f
      rw[ad] at ab
      obtain⟨dm,cs,_,aB,aP⟩:=Iy (P:=P) (w:=w) ab (AL au c.args)
      refine⟨_,?_,.call k _ cs _ aB⟩
      simp only[resolve,hf,Sem.run_bind]
      have vB:(Deferred.ofValue (cH f) (c.args.map cH)).run P w=.ok {target:=.fn (.func k) ⟨cs⟩,args:=⟨dm++(c.args.map cH).toList⟩} w:=aP
      rw[vB];rfl
    · trivial
  · trivial
 case panic x=>
  have ab:=au x
  split
  · rename_i t v ad
    rw[ad] at ab
    obtain⟨y,bu,aJ⟩:=ab
    refine⟨rfl,.iface t y,?_,⟨y,rfl,aJ⟩⟩
    rw[bu];rfl
  · trivial
 all_goals trivial
end
end aC
namespace aC
open Go
section
variable {P:Program} {μ:bG} {w:World}
def sc(P:Program)(μ:bG)(w:World)(s:Sem Value)(e:TypeId)(cs:List J)(val:Addr->Value):Prop:=
 ∃us:List Value,cy μ cs us/\s.run P w=.ok (val ⟨w.heap.size,0,none⟩) (w.alloc (.cells ⟨us⟩ e))
theorem IB(el:TypeId)(us:List Value):(_root_.Go.newRow el ⟨us⟩).run P w=.ok ⟨w.heap.size,0,none⟩ (w.alloc (.cells ⟨us⟩ el)):=by simp[_root_.Go.newRow]
theorem QD{e:TypeId}{z:J}(bj:fq P e=some z):sc P μ w (Instr.alloc e true (.tuple #[])) e z.cells (λa=>.pointer (some a)):=by
 obtain⟨v,aJ,rfl,ag⟩:=mE (w:=w) bj
 refine⟨v.cells.toList,(kU μ v).cells ag,?_⟩
 simp[Instr.alloc,aJ,newVar,_root_.Go.newRow]
theorem QE{e:TypeId}{x:J}{v:Value}(aJ:bn μ x v)(ag:x≠ .bad):sc P μ w (Instr.box e v) e x.cells (λa=>.pointer (some a)):=by
 refine⟨v.cells.toList,aJ.cells ag,?_⟩
 simp[Instr.box,newVar,_root_.Go.newRow]
theorem QF(g:Operand->J)(cH:Operand->Value)(au:∀x,bn μ (g x) (cH x)){t e:TypeId}{len sz:Nat}{z:J}(hu:P.underlying t=some (.slice e))(hs:dQ P e=some sz)
  (bj:fq P e=some z)(hle:len*sz<=16777216)(pN:z.cells.length=sz)(parts:Array (Nat×Operand)){cs:List J}
  (hf:mw (λi=>some (i*sz,sz)) (if len*sz=0 then[] else gv len z.cells) (parts.toList.map λp=>(p.1,g p.2))=some cs):
  sc P μ w (Instr.buildSlice t len (parts.map λ(i,x)=>(i,cH x))) e cs (λa=>.slice (some a) len len):=by
 obtain⟨v,aJ,rfl,ag⟩:=mE (w:=w) bj
 have ai:=(kU μ v).cells ag
 have oQ:¬(len*sz>2^24):=by omega
 have key:∀zero:Array Value,cy μ (if len*sz=0 then[] else gv len (oF v).cells) ((Array.range (len*sz)).map (λi=>zero[i %zero.size]!)).toList->
   (∀r:Result Value,r=(match Instr.fill (λi=>some (i*sz,sz)) ((Array.range (len*sz)).map (λi=>zero[i %zero.size]!)) (parts.toList.map λp=>(p.1,cH p.2)) with
    |some cells=>do pure (.slice (some (<-_root_.Go.newRow e cells)) len len)
    |none=>stuck "buildSlice: a part of the wrong size" :Sem Value).run P w->(Instr.buildSlice t len (parts.map λ(i,x)=>(i,cH x))).run P w=r)->
   sc P μ w (Instr.buildSlice t len (parts.map λ(i,x)=>(i,cH x))) e cs (λa=>.slice (some a) len len):=by
  intro zero qP fr
  obtain⟨c',ab,ae⟩:=xC _ g cH au parts.toList _ cs _ qP hf
  refine⟨c',ae,fr _ ?_⟩
  rw[ab]
  simp[IB]
 by_cases az:len*sz=0
 · refine key #[] (by rw[if_pos az,az];simp[cy]) λr al=>?_
   rw[al]
   simp only[Instr.buildSlice,Sem.run_bind,b7 hu,Result.andThen_ok,run_sizeOf hs,if_neg oQ,if_pos az,Sem.run_pure,Array.toList_map]
   generalize Instr.fill _ _ _=F
   cases F<;>rfl
 · refine key v.cells (by rw[if_neg az];exact xE ai pN len) λr al=>?_
   rw[al]
   simp only[Instr.buildSlice,Sem.run_bind,b7 hu,Result.andThen_ok,run_sizeOf hs,if_neg oQ,if_neg az,Sem.run_pure,Array.toList_map,aJ]
   generalize Instr.fill _ _ _=F
   cases F<;>rfl
theorem QG{t e:TypeId}{l c:Nat}{i:TypeInfo}{z:J}{kl kc:IntKind}(hu:P.underlying t=some (.slice e))(hi:P.info? e=some i)(bj:fq P e=some z)(rX:l<=c)
  (vq:c*(i.bytes+1)<=1099511627776)(pN:z.cells.length=i.size):
  sc P μ w (Instr.makeSlice t (.int kl l) (.int kc c)) e (if c*i.size=0 then[] else gv c z.cells) (λa=>.slice (some a) l c):=by
 obtain⟨v,aJ,rfl,ag⟩:=mE (w:=w) bj
 have ai:=(kU μ v).cells ag
 have Da:c<=1099511627776:=Nat.le_trans (Nat.le_mul_of_pos_right c (by omega)) vq
 have rZ:i.bytes*c<=1099511627776:=by
  have:c*i.bytes<=c*(i.bytes+1):=Nat.mul_le_mul_left c (by omega)
  rw[Nat.mul_comm];omega
 have xF:∀n:Nat,n<=1099511627776->IntKind.wrap .i64 (n:Int)=(n:Int):=λn aM=>rY n (by omega)
 have lO:=xF l (by omega)
 have xG:=xF c Da
 have ti:¬((c:Int)<0||(i.bytes:Int)*(c:Int)>2^48||(l:Int)<0||(l:Int)>(c:Int))=true:=by
  have ab:((i.bytes:Int)*(c:Int))<=1099511627776:=by
   have az:((i.bytes*c:Nat):Int)<=1099511627776:=by omega
   rw[Int.natCast_mul] at az;exact az
  have ae:(2:Int)^48=281474976710656:=by rfl
  generalize (i.bytes:Int)*(c:Int)=q at ab⊢
  rw[ae]
  simp only[Bool.or_eq_true,decide_eq_true_eq]
  omega
 have key:∀zero:Array Value,cy μ (if c*i.size=0 then[] else gv c (oF v).cells) ((Array.range (c*i.size)).map (λj=>zero[j %zero.size]!)).toList->
   (Instr.makeSlice t (.int kl l) (.int kc c)).run P w=(do let a<-_root_.Go.newRow e ((Array.range (c*i.size)).map (λj=>zero[j %zero.size]!));pure (.slice (some a) l c):Sem Value).run P w->
   sc P μ w (Instr.makeSlice t (.int kl l) (.int kc c)) e (if c*i.size=0 then[] else gv c (oF v).cells) (λa=>.slice (some a) l c):=by
  intro zero qP fr
  refine⟨_,qP,?_⟩
  rw[fr]
  simp only[Sem.run_bind,Sem.run_pure]
  have a1:=IB (P:=P) (w:=w) e ((Array.range (c*i.size)).map (λj=>zero[j %zero.size]!)).toList
  have:(⟨((Array.range (c*i.size)).map (λj=>zero[j %zero.size]!)).toList⟩:Array Value)=((Array.range (c*i.size)).map (λj=>zero[j %zero.size]!)):=rfl
  rw[this] at a1
  rw[a1];rfl
 have bX:(_root_.Go.sizeOf e).run P w=.ok i.size w:=by simp[_root_.Go.sizeOf,run_typeInfo hi]
 by_cases az:c*i.size=0
 · refine key #[] (by rw[if_pos az,az];simp[cy]) ?_
   simp only[Instr.makeSlice,Sem.run_bind,b7 hu,Result.andThen_ok,asInt,asIntOf,Sem.run_pure,run_typeInfo hi,lO,xG]
   rw[if_neg ti]
   simp[bX,az]
 · refine key v.cells (by rw[if_neg az];exact xE ai pN c) ?_
   simp only[Instr.makeSlice,Sem.run_bind,b7 hu,Result.andThen_ok,asInt,asIntOf,Sem.run_pure,run_typeInfo hi,lO,xG]
   rw[if_neg ti]
   simp[bX,az,aJ]
structure Laid(P:Program)(μ:bG)(w:World)(s:Sem Next)(b:Nat)(v:J)(ob:cJ)(u:Value)(X:Obj)(sz:Nat):Prop where
 run:s.run P w=.ok (.value u) (w.alloc X)
 val:∀a4,fL μ a4->a4 b=some ⟨w.heap.size,0,sz⟩->bn a4 v u
 obj:∀a4 w',fL μ a4->w'.heap[w.heap.size]? =some X->pH a4 ob ⟨w.heap.size,0,sz⟩ w'
 ro:ob.pI=false
theorem sc.laid{s:Sem Value}{e:TypeId}{cs:List J}{val:Addr->Value}(h:sc P μ w s e cs val){b:Nat}{v:J}(aJ:∀a4 sz,a4 b=some ⟨w.heap.size,0,sz⟩->bn a4 v (val ⟨w.heap.size,0,none⟩)):
  ∃u X sz,Laid P μ w (do pure (.value (<-s))) b v (.cells cs e .own 0 0) u X sz:=by
 obtain⟨us,ab,ae⟩:=h
 refine⟨_,.cells ⟨us⟩ e,us.length,by simp[ae],λa4 _ hm=>aJ a4 _ hm,λa4 w' hle bB=>?_,rfl⟩
 exact⟨⟨us⟩,0,0,bB,λj v aV=>by
  obtain⟨u,hu,al⟩:=ab.get aV
  exact⟨u,by simpa using hu,al.mono hle⟩,by simp,rfl,ab.length.symm,rfl,rfl⟩
theorem QH(o:Oper){g:Operand->J}{cH:Operand->Value}(au:∀x,bn μ (g x) (cH x)){b:Nat}{v:J}{ob:cJ}(h:lM P o.op g b=some (v,ob)):
  ∃u X sz,Laid P μ w (execOp cH o) b v ob u X sz:=by
 obtain⟨dst,op,type,pos,after,guard⟩:=o
 cases op<;>simp only[lM] at h<;>try (cases h;done)
 case alloc e=>
  split at h
  · rename_i z bj
    split at h
    · cases h
      exact(QD bj).laid λa4 sz hm=>⟨_,hm,rfl⟩
    · cases h
  · cases h
 case box e x=>
  split at h
  · rename_i gm
    cases h
    have ag:g x≠ .bad:=by intro e;rw[e] at gm;simp[J.cells,J.cu] at gm
    exact(QE (au x) ag).laid λa4 sz hm=>⟨_,hm,rfl⟩
  · cases h
 case buildSlice t len parts=>
  split at h
  · rename_i e hu
    split at h
    · rename_i sz z hs bj
      split at h
      · rename_i cs ai hf
        rw[Bool.and_eq_true,Nat.ble_eq,Nat.beq_eq] at ai
        split at h
        · cases h
          exact(QF g cH au hu hs bj ai.1 ai.2 parts hf).laid λa4 sz hm=>⟨_,hm,rfl⟩
        · cases h
      · cases h
    · cases h
  · cases h
 case makeMap t r=>
  cases r with
  |some x=>cases h
  |none=>
   cases h
   exact⟨.map (some w.heap.size),.map #[] 0,0,rfl,λa4 _ hm=>⟨_,hm,rfl⟩,λa4 w' _ bB=>⟨[],bB,rfl⟩,rfl⟩
 case makeSlice t l c=>
  split at h
  · rename_i e pV c' hu aD ai
    obtain⟨kl,el⟩:=sb aD (au l)
    obtain⟨kc,xX⟩:=sb ai (au c)
    split at h
    · rename_i i z hi bj
      split at h
      · rename_i cs lj
        split at h
        · cases h
          rw[Bool.and_eq_true,Bool.and_eq_true,Nat.ble_eq,Nat.beq_eq,decide_eq_true_eq] at lj
          have:=(QG (P:=P) (μ:=μ) (w:=w) (kl:=kl) (kc:=kc) hu hi bj lj.1.1 lj.1.2 lj.2).laid (b:=b) (v:=.slice b 0 pV (.exact c')) λa4 sz hm=>⟨_,hm,rfl⟩
          simp only[execOp,el,xX]
          exact this
        · cases h
      · cases h
    · cases h
  · cases h
end
end aC
namespace aC
open Go
def jt(P:Program)(μ:bG):Prop:=∀g,g<P.globals.size->∃i,μ g=some i/\i.bo=g/\i.base=0
theorem jt.mono{P:Program}{μ a4:bG}(h:jt P μ)(hle:fL μ a4):jt P a4:=λg au=>let⟨i,ab,ae⟩:=h g au;⟨i,hle _ _ ab,ae⟩
def Ends(μ:bG)(H:aa)(w:World):ao->Ending->World->Prop
 |.ret v bf,e,w'=>∃a4 u,e=.returned u/\bn a4 v u/\bD a4 bf w'/\cw μ H w a4 bf w'
 |.bp v bf,e,w'=>∃a4 u,e=.panicked [{v:=u,recovered:=false}]/\bn a4 v u/\bD a4 bf w'/\cw μ H w a4 bf w'
 |.fail _,_,_=>True
def ao.mb:ao->Bool
 |.fail _=>false
 |_=>true
def vC(P:Program)(f:FuncId)(vs:List Value)(w:World)(R:Ending->World->Prop):Prop:=
 (∃v w',(callFunc f ⟨vs⟩).run P w=.ok (.value v) w'/\R (.returned v) w')\/
 ((callFunc f ⟨vs⟩).run P w=.ok (.enter f ⟨vs⟩) w/\Calls P f ⟨vs⟩ w R)
def sd(P:Program)(m:Machine)(c:Frame)(cs:List Frame)(R:Ending->World->Prop):Prop:=
 ∃e w',R e w'/\match e with
  |.returned v=>Steps P m (lone (c.finish v) cs w')
  |.panicked chain=>Steps P m (lone (c.raise chain) cs w')
  |.outgrown=>False
def IC(P:Program)(l:Nat)(vs:List Value)(w:World)(R:Ending->World->Prop):Prop:=
 ∃f tmps assign body,(Instr.yield l ⟨vs⟩).run P w=.ok (.round l f tmps assign body) w/\∀c cs,sd P (lone (Frame.round l f tmps assign body .normal) (c::cs) w) c cs R
structure mL(P:Program)(call:aE->List J->aa->ao):Prop where
 fn:∀f args H,(call (.fn f) args H).mb=true->∀μ w (vs:List Value),bD μ H w->jt P μ->cy μ args vs->vC P f vs w (Ends μ H w (call (.fn f) args H))
 ca:∀l args H,(call (.ca l) args H).mb=true->∀μ w i (vs:List Value),bD μ H w->jt P μ->μ l=some i->cy μ args vs->IC P i.bo vs w (Ends μ H w (call (.ca l) args H))
theorem sd.of_steps{P:Program}{m c9:Machine}{c:Frame}{cs:List Frame}{R:Ending->World->Prop}(h:Steps P m c9)(an:sd P c9 c cs R):sd P m c cs R:=by
 obtain⟨e,w',al,hs⟩:=an
 refine⟨e,w',al,?_⟩
 cases e with
 |returned v=>exact h.trans hs
 |panicked QI=>exact h.trans hs
 |outgrown=>exact hs.elim
theorem ID{P:Program}{f:FuncId}{args:Array Value}{w:World}{R:Ending->World->Prop}(gq:∀w',¬R .outgrown w')(h:Calls P f args w R)(c:Frame)(cs:List Frame):
  sd P (lone (Frame.enter P f args .normal) (c::cs) w) c cs R:=by
 obtain⟨e,w',bS,al,ai,_,aD⟩:=h (c::cs)
 refine⟨e,w',al,?_⟩
 cases e with
 |returned v=>exact Steps.trans ai (.one (step_leave_returned aD))
 |panicked QI=>exact Steps.trans ai (.one (step_leave_panicked aD))
 |outgrown=>exact(gq _ al).elim
def iW(μ:bG)(kind:CallKind)(cs0:List Frame):bH->List Frame->Prop
 |.none,cs=>cs=cs0/\∀bS:Frame,bS.kind=kind->tryRecover bS cs0=none
 |.act v,cs=>cs=cs0/\kind=.deferred/\∃c rest u,cs0=c::rest/\c.mode=.panicking [{v:=u,recovered:=false}]/\bn μ v u
 |.done v,cs=>kind=.deferred/\∃c rest u,cs0=c::rest/\c.mode=.panicking [{v:=u,recovered:=false}]/\bn μ v u/\cs={c with mode:=.panicking [{v:=u,recovered:=true}]}::rest
theorem iW.mono{μ a4:bG}(hle:fL μ a4){kind:CallKind}{cs0 cs:List Frame}{q:bH}(h:iW μ kind cs0 q cs):iW a4 kind cs0 q cs:=by
 cases q with
 |none=>exact h
 |act v=>obtain⟨ab,ae,c,rest,u,aB,aP,cg⟩:=h;exact⟨ab,ae,c,rest,u,aB,aP,cg.mono hle⟩
 |done v=>obtain⟨ab,c,rest,u,aB,aP,cg,dN⟩:=h;exact⟨ab,c,rest,u,aB,aP,cg.mono hle,dN⟩
section
variable {P:Program} {μ:bG} {H:aa} {w:World}
theorem DG{b:Frame}{a:Act}{ops:Array Oper}{i:Nat}{rest:List Nat}{k:List Item}{cs:List Frame}{s:Sem Next}
  (cL:stepG P true {frame:=b.atR a (.inRegion ops (i::rest)::k),callers:=cs,status:=.running,dying:=none} w=stepG.apply P true (b.atR a (.inRegion ops (i::rest)::k)) cs none s w):
  (∀v w',s.run P w=.ok (.value v) w'->Steps P (lone (b.atR a (.inRegion ops (i::rest)::k)) cs w) (lone ((b.atR a (.inRegion ops (i::rest)::k)).finish v) cs w'))/\
  (∀w',s.run P w=.ok .skip w'->Steps P (lone (b.atR a (.inRegion ops (i::rest)::k)) cs w) (lone ((b.atR a (.inRegion ops (i::rest)::k)).finish undef) cs w'))/\
  (∀u w',s.run P w=.halt (.panic u) w'->Steps P (lone (b.atR a (.inRegion ops (i::rest)::k)) cs w) (lone ((b.atR a (.inRegion ops (i::rest)::k)).raise [{v:=u,recovered:=false}]) cs w'))/\
  (∀d w',s.run P w=.ok (.defer d) w'->Steps P (lone (b.atR a (.inRegion ops (i::rest)::k)) cs w) (lone (b.atR ({a with defers:=d::a.defers}.put ((ops[i]?).bind (·.dst)) undef) (.inRegion ops rest::k)) cs w'))/\
  (∀f args w',s.run P w=.ok (.enter f args) w'->Steps P (lone (b.atR a (.inRegion ops (i::rest)::k)) cs w) (lone (Frame.enter P f args .normal) (b.atR a (.inRegion ops (i::rest)::k)::cs) w'))/\
  (∀l f tmps assign body w',s.run P w=.ok (.round l f tmps assign body) w'->Steps P (lone (b.atR a (.inRegion ops (i::rest)::k)) cs w) (lone (Frame.round l f tmps assign body .normal) (b.atR a (.inRegion ops (i::rest)::k)::cs) w'))/\
  (b.roundOf=none->∀w',s.run P w=.ok .recover w'->∀v b9,tryRecover (b.atR a (.inRegion ops (i::rest)::k)) cs=some (v,b9)->Steps P (lone (b.atR a (.inRegion ops (i::rest)::k)) cs w) (lone ((b.atR a (.inRegion ops (i::rest)::k)).finish v) b9 w'))/\
  (b.roundOf=none->∀w',s.run P w=.ok .recover w'->tryRecover (b.atR a (.inRegion ops (i::rest)::k)) cs=none->Steps P (lone (b.atR a (.inRegion ops (i::rest)::k)) cs w) (lone ((b.atR a (.inRegion ops (i::rest)::k)).finish .nilIface) cs w')):=by
 refine⟨λv w' al=>.one (step_lone_go ?_),λw' al=>.one (step_lone_go ?_),λu w' al=>.one (step_lone_go ?_),λd w' al=>.one (step_lone_go ?_),λf args w' al=>.one (step_lone_go ?_),λl f tmps assign body w' al=>.one (step_lone_go ?_),λag w' al v b9 bh=>.one (step_lone_go ?_),λag w' al bh=>.one (step_lone_go ?_)⟩
 · rw[cL];simp[stepG.apply,al]
 · rw[cL];simp[stepG.apply,al]
 · rw[cL];simp[stepG.apply,al]
 · rw[cL]
   have:=Frame.finish_atR b {a with defers:=d::a.defers} ops i rest k undef
   simp only[stepG.apply,Sem.runT_eq,al,GStep.bare_after]
   exact congrArg (λbS=>GStep.go {frame:=bS,callers:=cs,status:=.running,dying:=none} w') this
 · rw[cL];simp[stepG.apply,al,Frame.atR]
 · rw[cL];simp[stepG.apply,al,Frame.atR]
 · rw[cL]
   have jo:(b.atR a (.inRegion ops (i::rest)::k)).roundOf=none:=ag
   simp[stepG.apply,al,jo,bh]
 · rw[cL]
   have jo:(b.atR a (.inRegion ops (i::rest)::k)).roundOf=none:=ag
   simp[stepG.apply,al,jo,bh]
def DH(P:Program)(μ:bG)(H:aa)(w:World)(b:Frame)(a:Act)(ops:Array Oper)(o:Oper)(i:Nat)(rest:List Nat)(k:List Item)(cs0 cs:List Frame):xr->Prop
 |.ok v bO bE bf=>∃a4 w' u nf b9,Steps P (lone (b.atR a (.inRegion ops (i::rest)::k)) cs w) (lone (b.atR {tmps:=(a.put o.dst u).tmps,defers:=nf} (.inRegion ops rest::k)) b9 w')/\
   bn a4 v u/\bD a4 bf w'/\cw μ H w a4 bf w'/\hr a4 bO nf/\iW a4 b.kind cs0 bE b9
 |.bp v bO bE bf=>∃a4 w' u,Steps P (lone (b.atR a (.inRegion ops (i::rest)::k)) cs w) (lone {b.atR a (.inRegion ops (i::rest)::k) with mode:=.panicking [{v:=u,recovered:=false}]} cs w')/\
   bn a4 v u/\bD a4 bf w'/\cw μ H w a4 bf w'/\hr a4 bO a.defers/\iW a4 b.kind cs0 bE cs
 |.fail _=>True
theorem put_defers(a:Act)(dst:Option Tmp)(u:Value):(a.put dst u).defers=a.defers:=by cases dst<;>rfl
theorem AM(a:Act)(dst:Option Tmp)(u:Value):a.put dst u={tmps:=(a.put dst u).tmps,defers:=a.defers}:=by cases dst<;>rfl
theorem QJ(a:Act)(bd:List Deferred)(dst:Option Tmp)(u:Value):({a with defers:=bd}:Act).put dst u={tmps:=(a.put dst u).tmps,defers:=bd}:=by cases dst<;>rfl
theorem IE{b:Frame}{a:Act}{ops:Array Oper}{o:Oper}{i:Nat}{rest:List Nat}{k:List Item}{cs0 cs:List Frame}(a7:ops[i]? =some o){d:List bU}{q:bH}
  (aj:hr μ d a.defers)(aS:iW μ b.kind cs0 q cs){r:ao}{m:Machine}(hs:Steps P (lone (b.atR a (.inRegion ops (i::rest)::k)) cs w) m)
  (aD:sd P m (b.atR a (.inRegion ops (i::rest)::k)) cs (Ends μ H w r)):DH P μ H w b a ops o i rest k cs0 cs (xt d q r):=by
 obtain⟨e,w',al,cL⟩:=aD
 cases r with
 |ret v bf=>
  obtain⟨a4,u,rfl,ab,ae,aB⟩:=al
  refine⟨a4,w',u,a.defers,cs,hs.trans ?_,ab,ae,aB,aj.mono aB.le,aS.mono aB.le⟩
  have:(b.atR a (.inRegion ops (i::rest)::k)).finish u=b.atR {tmps:=(a.put o.dst u).tmps,defers:=a.defers} (.inRegion ops rest::k):=by
   rw[Frame.finish_atR,a7,<-AM];rfl
  rw[<-this];exact cL
 |bp v bf=>
  obtain⟨a4,u,rfl,ab,ae,aB⟩:=al
  exact⟨a4,w',u,hs.trans cL,ab,ae,aB,aj.mono aB.le,aS.mono aB.le⟩
 |fail w=>trivial
theorem AN{r:ao}(h:r.mb=false):∃s,r=.fail s:=by
 cases r with
 |fail s=>exact⟨s,rfl⟩
 |_=>cases h
theorem DI{r:ao}(au:r.mb=true):∀w',¬Ends μ H w r .outgrown w':=by
 intro w' h
 cases r with
 |ret v bf=>obtain⟨_,_,e,_⟩:=h;cases e
 |bp v bf=>obtain⟨_,_,e,_⟩:=h;cases e
 |fail s=>cases au
theorem IF{call:aE->List J->aa->ao}(ai:mL P call)(ah:bD μ H w)(pX:jt P μ){b:Frame}{a:Act}{ops:Array Oper}{o:Oper}{i:Nat}{rest:List Nat}{k:List Item}{cs0 cs:List Frame}
  (a7:ops[i]? =some o){gd:Option (J×Bool)}(hS:∀mc,e_ gd=some mc->Region.wanted o (yielded ops a.tmps)=mc){g:Operand->J}(au:∀x,bn μ (g x) (a.eval x)){d:List bU}{q:bH}
  (aj:hr μ d a.defers)(aS:iW μ b.kind cs0 q cs){inR:Bool}(eV:inR=b.roundOf.isSome):DH P μ H w b a ops o i rest k cs0 cs (eA P inR call gd o g d q H):=by
 unfold eA
 have oW:∀u,(b.atR a (.inRegion ops (i::rest)::k)).finish u=b.atR {tmps:=(a.put o.dst u).tmps,defers:=a.defers} (.inRegion ops rest::k):=λu=>by
  rw[Frame.finish_atR,a7,<-AM];rfl
 split
 · trivial
 · rename_i hw
   have DJ:=hS _ hw
   refine⟨μ,w,undef,a.defers,cs,?_,⟨[],rfl,rfl⟩,ah,cw.refl _ _ _,aj,aS⟩
   have hs:=stepR_op_skip (P:=P) (b:=b) (a:=a) (k:=k) (cs:=cs) (w:=w) (ops:=ops) (i:=i) (rest:=rest) (by simp[a7,DJ])
   rw[a7] at hs
   have he:a.put ((some o).bind (·.dst)) undef={tmps:=(a.put o.dst undef).tmps,defers:=a.defers}:=AM a o.dst undef
   rw[he] at hs
   exact .one hs
 · rename_i hw
   have DK:=hS _ hw
   have cL:=stepGR_op (P:=P) (b:=b) (a:=a) (k:=k) (cs:=cs) (w:=w) (rest:=rest) a7 DK
   have gO:=QB (P:=P) ah o au
   by_cases IG:b.roundOf.isSome=true/\∃c,o.op=.defer c
   · obtain⟨al,c,QK⟩:=IG
     have:(∃x,c0 P o g H=.j8 x)\/∃s,c0 P o g H=.fail s:=by
      unfold c0
      rw[QK]
      simp only
      split
      · split
        · exact .inl ⟨_,rfl⟩
        · exact .inr ⟨_,rfl⟩
      · exact .inr ⟨_,rfl⟩
     rcases this with⟨x,e⟩|⟨s,e⟩
     · rw[e];simp only[eV,al,if_true];trivial
     · rw[e];trivial
   · have xY:o.semAt b.roundOf a.eval=execOp a.eval o:=by
       cases iU:b.roundOf with
       |none=>rfl
       |some l=>exact Oper.semAt_eq _ _ _ λc e=>IG ⟨by rw[iU];rfl,c,e⟩
     rw[xY] at cL
     obtain⟨aq,ak,aQ,a3,bZ,b2,b5,b1⟩:=DG cL
     cases hc:c0 P o g H with
     |val v bf=>
      rw[hc] at gO
      obtain⟨a4,w',u,al,ab,ae,aB⟩:=gO
      refine⟨a4,w',u,a.defers,cs,?_,ab,ae,aB,aj.mono aB.le,aS.mono aB.le⟩
      rw[<-oW]
      rcases al with al|⟨rfl,al⟩
      · exact aq _ _ al
      · exact ak _ al
     |bp v bf=>
      rw[hc] at gO
      obtain⟨rfl,u,al,ab⟩:=gO
      exact⟨μ,w,u,aQ _ _ al,ab,ah,cw.refl _ _ _,aj,aS⟩
     |call f args bf=>
      rw[hc] at gO
      obtain⟨rfl,vs,al,ab⟩:=gO
      simp only
      cases cb:(call (.fn f) args bf).mb with
      |false=>obtain⟨s,hs⟩:=AN cb;rw[hs];trivial
      |true=>
       rcases ai.fn f args bf cb μ w vs ah pX ab with⟨v,w',aY,aR⟩|⟨aY,aR⟩
       · rw[<-al] at aY
         have hs:=aq _ _ aY
         cases IH:call (.fn f) args bf with
         |fail s=>trivial
         |ret v' ay=>
          rw[IH] at aR
          obtain⟨a4,u,e,ae,aB,aP⟩:=aR
          cases e
          exact⟨a4,w',_,a.defers,cs,by rw[<-oW];exact hs,ae,aB,aP,aj.mono aP.le,aS.mono aP.le⟩
         |bp v' ay=>
          rw[IH] at aR
          obtain⟨a4,u,e,ae,aB,aP⟩:=aR
          cases e
       · rw[<-al] at aY
         have hs:=bZ _ _ _ aY
         exact IE a7 aj aS hs (ID (DI cb) aR _ _)
     |ca l args bf=>
      rw[hc] at gO
      obtain⟨rfl,e1,vs,aD,al,ab⟩:=gO
      simp only
      cases cb:(call (.ca l) args bf).mb with
      |false=>obtain⟨s,hs⟩:=AN cb;rw[hs];trivial
      |true=>
       obtain⟨f,tmps,as,cr,aY,aR⟩:=ai.ca l args bf cb μ w e1 vs ah pX aD ab
       rw[<-al] at aY
       have hs:=b2 _ _ _ _ _ _ aY
       exact IE a7 aj aS hs (aR _ _)
     |j8 x=>
      rw[hc] at gO
      obtain⟨pW,al,ab⟩:=gO
      simp only
      split
      · trivial
      · refine⟨μ,w,undef,pW::a.defers,cs,?_,⟨[],rfl,rfl⟩,ah,cw.refl _ _ _,⟨_,_,rfl,ab,aj⟩,aS⟩
        have hs:=a3 _ _ al
        rw[a7] at hs
        have he:({a with defers:=pW::a.defers}:Act).put ((some o).bind (·.dst)) undef={tmps:=(a.put o.dst undef).tmps,defers:=pW::a.defers}:=QJ a _ o.dst undef
        rw[he] at hs
        exact hs
     |s_=>
      rw[hc] at gO
      have al:(execOp a.eval o).run P w=.ok .recover w:=gO
      simp only
      split
      · trivial
      · rename_i AA
        have xZ:b.roundOf=none:=by
         cases iU:b.roundOf with
         |none=>rfl
         |some l=>rw[iU] at eV;exact absurd eV AA
        have ax:(b.atR a (.inRegion ops (i::rest)::k)).kind=b.kind:=rfl
        split
        · obtain⟨rfl,bh⟩:=aS
          refine⟨μ,w,.nilIface,a.defers,cs,?_,rfl,ah,cw.refl _ _ _,aj,⟨rfl,bh⟩⟩
          rw[<-oW]
          exact b1 xZ _ al (bh _ ax)
        · have QL:=aS
          obtain⟨ng,c,rs,u,aF,aG,bJ,rfl⟩:=aS
          refine⟨μ,w,.nilIface,a.defers,_,?_,rfl,ah,cw.refl _ _ _,aj,QL⟩
          rw[<-oW]
          refine b1 xZ _ al ?_
          have x0:(b.atR a (.inRegion ops (i::rest)::k)).kind=.deferred:=ax.trans ng
          simp only[tryRecover,x0]
        · obtain⟨rfl,ng,c,rs,u,aF,aG,bJ⟩:=aS
          subst aF
          refine⟨μ,w,u,a.defers,{c with mode:=.panicking [{v:=u,recovered:=true}]}::rs,?_,bJ,ah,cw.refl _ _ _,aj,⟨ng,c,rs,u,rfl,aG,bJ,rfl⟩⟩
          rw[<-oW]
          refine b5 xZ _ al _ _ ?_
          have x0:(b.atR a (.inRegion ops (i::rest)::k)).kind=.deferred:=ax.trans ng
          simp only[tryRecover,x0,aG]
     |fail s=>trivial
end
end aC
