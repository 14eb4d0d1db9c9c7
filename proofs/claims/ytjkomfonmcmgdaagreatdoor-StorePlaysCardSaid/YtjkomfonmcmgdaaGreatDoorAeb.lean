/-
  THE ABSTRACT EVALUATOR (operations): a deterministic semantics of loaded code, and the proof that its runs are runs of the program in the model, whatever the tape draws. No condition.
-/
import Derived.Test.YtjkomfonmcmgdaaGreatDoorAea
import Derived.ChangeKeysEq
import Derived.Laws.StructEq
import Derived.AtR
set_option linter.unusedVariables false
set_option linter.unusedSimpArgs false
namespace bg
open Go
section
variable {P:Program} {μ:bI} {H:ab} {w:World}
theorem Dq{b off n:Nat}{cs:List ad}(h:loadCells H b off n=some cs):cs.length=n:=by
 unfold loadCells at h
 split at h
 · obtain⟨I,rfl⟩:=vH _ _ _ h
   simp;omega
 · cases h
theorem Dr:∀l:List UInt8,(dR l).length=l.length
 |[]=>rfl
 |_::l=>by simp[dR,Dr l]
theorem Mf{size n:Nat}{x:ad}{cs:List ad}(h:fu H size x=some (n,cs)):cs.length=n*size:=by
 cases x<;>simp only[fu] at h<;>try cases h
 · split at h<;>cases h
   rw[Dr];simp
 · simp
 · rename_i b off len cap
   cases cap with
   |dead=>
    simp only at h
    split at h
    · cases h;simp
    · cases h
   |exact c=>
    simp only at h
    split at h
    · rename_i b5 aA;cases h;exact Dq aA
    · cases h
   |aL hK=>
    simp only at h
    split at h
    · rename_i b5 aA;cases h;exact Dq aA
    · cases h
theorem UD(au:bK μ H w){argTypes:Array TypeId}{ty sT:TypeId}(h0:argTypes[0]? =some sT){s x:ad}{pI bR:Value}(al:bz μ s pI)(aa:bz μ x bR){v:ad}{a6:ab}
  (h:dJ P H sT argTypes[1]? s x=some (v,a6)):fP P μ H w (Builtin.append_ argTypes ty #[pI,bR]) v a6:=by
 unfold dJ at h
 split at h
 · rename_i e hu fm
   split at h
   · rename_i i z hi a7
     split at h
     · cases h
     · rename_i n cs fG
       obtain⟨aA,us,ku,nf⟩:=Dm (P:=P) au aa fG
       have jb:=Mf fG
       cases s<;>(try simp only at h)<;>try cases h
       ·
        cases al
        cases n with
        |zero=>
         cases h
         have:=Ap (P:=P) (ty:=ty) h0 rfl hu fm hi (base:=none) (sLen:=0) (sCap:=0) aA ku (by omega)
         exact .same au this rfl
        |succ n=>
         have ar:l_ H e i.bytes i.size (0+(n+1)) z ([]++cs) 0=some (v,a6):=by simpa using h
         exact Gz au h0 rfl hu fm hi a7 aa fG (old:=[]) ⟨[],rfl,rfl⟩ (by simp) jb (by omega) au (cA.refl _ _ _) ar
       · rename_i b off len cap
         obtain⟨e_,jd,ah⟩:=al
         cases cap with
         |dead=>cases h
         |exact cap=>
          cases ah
          simp only at h
          split at h
          · rename_i hle
            have hle:=Nat.le_of_ble_eq_true hle
            have ao:=Ap (P:=P) (ty:=ty) h0 rfl hu fm hi (base:=some ⟨e_.bx,e_.base+off,none⟩) (sLen:=len) (sCap:=cap) aA ku hle
            simp only[add_plain] at ao
            split at h
            · cases h
              have GB:us=[]:=by
               have I:=jb;have ae:=nf.length
               cases us with
               |nil=>rfl
               |cons a l=>simp at I ae;omega
              subst GB
              refine .same au (v':=.slice (some ⟨e_.bx,e_.base+off,none⟩) len cap) ?_ ⟨e_,jd,rfl⟩
              rw[ao];simp[_root_.Go.storeCells]
            · split at h
              · rename_i I cL
                cases h
                obtain⟨w',aG,aE,bH⟩:=Ae (P:=P) au jd nf cL
                refine⟨μ,w',.slice (some ⟨e_.bx,e_.base+off,none⟩) (len+n) cap,?_,⟨e_,jd,rfl⟩,aE,bH⟩
                rw[ao,Nat.add_assoc,aG];rfl
              · cases h
          · rename_i hle
            have cB:cap<len+n:=by
             rcases Nat.lt_or_ge cap (len+n) with h|h
             · exact h
             · rw[Al h] at hle;cases hle
            split at h
            · rename_i old hold
              obtain⟨os,dy,ed⟩:=tX (P:=P) au.drew jd hold
              exact Gz au h0 rfl hu fm hi a7 aa fG (old:=old) ⟨os,by simp only[Builtin.firstCells];exact dy,ed⟩ (Dq hold) jb cB au (cA.refl _ _ _) h
            · cases h
         |aL hK=>
          obtain⟨cap,rfl,tY,bJ⟩:=ah
          simp only at h
          split at h
          · rename_i ma
            simp only[Bool.and_eq_true,Nat.blt_eq] at ma
            have UE:=Nat.eq_of_beq_eq_true ma.1
            subst UE
            have rE:=ma.2
            split at h
            · cases h
              have ao:=Ap (P:=P) (ty:=ty) h0 rfl hu fm hi (base:=some ⟨e_.bx,e_.base+off,none⟩) (sLen:=len) (sCap:=cap) aA ku (by omega)
              simp only[add_plain] at ao
              have GB:us=[]:=by
               have I:=jb;have ae:=nf.length
               cases us with
               |nil=>rfl
               |cons a l=>simp at I ae;omega
              subst GB
              refine .same au (v':=.slice (some ⟨e_.bx,e_.base+off,none⟩) len cap) ?_ ⟨e_,jd,cap,rfl,tY,bJ⟩
              rw[ao];simp[_root_.Go.storeCells]
            · split at h
              · rename_i old el lo fi ag
                have UF:=au.rel b _ e_ ag jd
                obtain⟨c,ht,hv,a8,a2,bX,eG,gi⟩:=UF
                split at h
                · rename_i uf
                  have uf:=Nat.le_of_ble_eq_true uf
                  split at h
                  · rename_i I cL
                    cases h
                    have mb:len+n<=cap:=by
                     have:(len+n)*i.size<=cap*i.size:=by omega
                     exact Nat.le_of_mul_le_mul_right this rE
                    have ao:=Ap (P:=P) (ty:=ty) h0 rfl hu fm hi (base:=some ⟨e_.bx,e_.base+off,none⟩) (sLen:=len) (sCap:=cap) aA ku mb
                    simp only[add_plain] at ao
                    obtain⟨w',aG,aE,bH⟩:=Ae (P:=P) au jd nf cL
                    refine⟨μ,w',.slice (some ⟨e_.bx,e_.base+off,none⟩) (len+n) cap,?_,⟨e_,jd,cap,rfl,mb,bJ⟩,aE,bH⟩
                    rw[ao,Nat.add_assoc,aG];rfl
                  · cases h
                · split at h
                  · rename_i o Mg hold
                    simp only[Bool.and_eq_true] at Mg
                    obtain⟨lP,sC⟩:=Mg
                    have lP:=Nat.le_of_ble_eq_true lP
                    have sC:=Nat.eq_of_beq_eq_true sC
                    subst sC
                    have ar:=h
                    unfold l_ at h
                    split at h
                    · rename_i Mh
                      simp only[Bool.and_eq_true] at Mh
                      obtain⟨⟨nQ,pE⟩,eL⟩:=Mh
                      cases h
                      have Ar:=Dq hold
                      by_cases uf:len+n<=cap
                      ·
                       have ao:=Ap (P:=P) (ty:=ty) h0 rfl hu fm hi (base:=some ⟨e_.bx,e_.base+off,none⟩) (sLen:=len) (sCap:=cap) aA ku uf
                       simp only[add_plain] at ao
                       have hmul:(len+n)*i.size<=cap*i.size:=Nat.mul_le_mul_right _ uf
                       have Me:(len+n)*i.size=len*i.size+n*i.size:=Nat.add_mul _ _ _
                       have LZ:us.length=n*i.size:=by rw[<-nf.length];exact jb
                       obtain⟨w',c',aG,aE,bH,eu,eZ,hd,hA,ic,hN⟩:=LX P e_.bx (e_.base+(off+len*i.size)) us w 0 c el ht hv a8
                        (nf.Aa λa aV=>Uu eL a (List.mem_append_right _ aV)) (by omega) (λj fW mc ⟨f1,f2⟩=>by
                         have:=gi (j-e_.base) (by omega) (by omega) (by omega)
                         omega)
                       have UG:e_.base+off+(e_.size-off)=c'.size:=by rw[ic,<-bX,<-bJ];omega
                       obtain⟨r1,r2⟩:=au.Up (w':=w') (o':=.cells (o++cs) el .aL 0 (fi-off)) ag rfl jd eu bH eZ hd hA.1 (e_.base+off) (e_.size-off) (hdr:=Nat.le_of_eq hA.2.symm)
                        ⟨c',ht,hv,aE,λj a aO=>by
                         show∃u,c'[e_.base+off+j]? =some u/\_
                         rw[hN]
                         by_cases oN:j<o.length
                         · rw[List.getElem?_append_left oN] at aO
                           rw[if_neg (by omega)]
                           unfold loadCells at hold
                           rw[ag] at hold
                           simp only at hold
                           rw[pB] at hold
                           obtain⟨t1,rfl⟩:=vH _ _ _ hold
                           rw[List.getElem?_take] at aO
                           split at aO
                           · rw[List.getElem?_drop] at aO
                             obtain⟨u,GC,rF⟩:=a2 (off+j) a aO
                             exact⟨u,by rw[Nat.add_assoc];exact GC,rF.mono (au.qo _)⟩
                           · cases aO
                         · rw[List.getElem?_append_right (by omega)] at aO
                           have Mi:j-o.length<cs.length:=by
                            rcases Nat.lt_or_ge (j-o.length) cs.length with h|h
                            · exact h
                            · rw[List.getElem?_eq_none h] at aO;cases aO
                           have aji:=nf.length
                           rw[if_pos (by omega)]
                           obtain⟨u,GC,rF⟩:=nf.get aO
                           refine⟨u,?_,rF.mono (au.qo _)⟩
                           rw[<-GC]
                           have UH:e_.base+off+j-(e_.base+(off+len*i.size)+0)=j-o.length:=by rw[Ar];omega
                           rw[UH],UG,by
                         refine⟨?_,λj fW mc Mj=>?_⟩
                         · simp only[List.length_append];have:=jb;omega
                         · have:=gi (off+j) (by simp only at fW;omega) (by simp only at mc;omega) (by simp only at Mj;omega)
                           omega⟩
                       refine⟨_,w',.slice (some ⟨e_.bx,e_.base+off,none⟩) (len+n) cap,?_,⟨_,hy _ _ _,cap,by simp,uf,by simp only;omega⟩,r1,r2⟩
                       rw[ao,Nat.add_assoc,aG];rfl
                      ·
                       obtain⟨bG,b0⟩:=au.kill ag rfl jd
                       obtain⟨os,dy,ed⟩:=tX (P:=P) au.drew jd hold
                       exact Gz (ty:=ty) au h0 rfl hu fm hi a7 aa fG (old:=o) ⟨os,by simp only[Builtin.firstCells];exact dy,ed⟩ Ar jb (by omega) bG b0 ar
                    · cases h
                  · cases h
              · cases h
          · cases h
   · cases h
 · cases h
end
end bg
namespace bg
open Go
section
variable {P:Program} {μ:bI} {H:ab} {w:World}
theorem cG.take{μ:bI}{as:List ad}{vs:List Value}(h:cG μ as vs)(n:Nat):cG μ (as.take n) (vs.take n):=by
 refine cG.z_ (by simp[h.length]) λj a aO=>?_
 rw[List.getElem?_take] at aO⊢
 split at aO
 · rename_i aA;rw[if_pos aA];exact h.get aO
 · cases aO
theorem Mk(au:bK μ H w){size n m:Nat}{x:ad}{bR:Value}(aa:bz μ x bR){cs r:List ad}(h:fu H size x=some (n,cs))(hm:m<=n)(ao:takeN (m*size) cs=some r):
  ∃us:List Value,(Builtin.firstCells size m bR).run P w=.ok ⟨us⟩ w/\cG μ r us:=by
 obtain⟨bm,rfl⟩:=vH _ _ _ ao
 have jb:=Mf h
 cases x<;>simp only[fu] at h<;>try cases h
 · split at h<;>cases h
   obtain⟨bs,rfl,rfl⟩:=aa
   refine⟨_,?_,(Dl μ _).take _⟩
   simp only[Builtin.firstCells,Sem.run_pure]
   congr 1
   apply Array.ext'
   simp[ByteArray.data_extract,List.map_take]
 · cases aa
   exact⟨[],rfl,by simp;rfl⟩
 · rename_i b off len cap
   obtain⟨i,hi,ah⟩:=aa
   have load:∀b5,loadCells H b off (len*size)=some b5->n=len->cs=b5->∀c,∃us:List Value,(Builtin.firstCells size m (.slice (some ⟨i.bx,i.base+off,none⟩) len c)).run P w=.ok ⟨us⟩ w/\cG μ (cs.take (m*size)) us:=by
    intro b5 aA aH gG c
    subst gG;subst aH
    have vL:loadCells H b off (m*size)=some (cs.take (m*size)):=by
     unfold loadCells at aA⊢
     split at aA
     · rename_i a8 a2 bX eG gi ag
       obtain⟨t1,t2⟩:=vH _ _ _ aA
       have hmul:m*size<=n*size:=Nat.mul_le_mul_right _ hm
       have e:∀(k:Nat) (l:List ad),k<=l.length->takeN k l=some (l.take k):=by
        intro k
        induction k with
        |zero=>intro l _;simp[takeN]
        |succ k bl=>
         intro l aA
         cases l with
         |nil=>simp at aA
         |cons a l=>simp[takeN,bl l (by simpa using aA)]
       rw[e _ _ (by omega),t2,List.take_take,Nat.min_eq_left hmul]
     · cases aA
    obtain⟨us,I,ae⟩:=tX (P:=P) au hi vL
    exact⟨us,by simp only[Builtin.firstCells];exact I,ae⟩
   cases cap with
   |dead=>
    simp only at h
    split at h
    · cases h
      obtain⟨_,a,c,rfl⟩:=ah
      have:m=0:=by omega
      subst this
      exact⟨[],by simp[Builtin.firstCells,_root_.Go.loadCells,loadCellsFrom],by simp;rfl⟩
    · cases h
   |exact c=>
    cases ah
    simp only at h
    split at h
    · rename_i b5 aA;cases h;exact load _ aA rfl rfl c
    · cases h
   |aL hK=>
    obtain⟨c,rfl,_⟩:=ah
    simp only at h
    split at h
    · rename_i b5 aA;cases h;exact load _ aA rfl rfl c
    · cases h
theorem UI(au:bK μ H w){argTypes:Array TypeId}{ty C5:TypeId}(h0:argTypes[0]? =some C5){d s:ad}{GD pI:Value}(ai:bz μ d GD)(al:bz μ s pI){v:ad}{a6:ab}
  (h:xM P H C5 d s=some (v,a6)):fP P μ H w (Builtin.copy_ argTypes ty #[GD,pI]) v a6:=by
 unfold xM at h
 split at h
 · rename_i e hu
   split at h
   · rename_i sz bJ
     split at h
     · rename_i n cs fG
       obtain⟨aA,_⟩:=Dm (P:=P) au al fG
       have mM:∀w:World,(_root_.Go.sizeOf e).run P w=.ok sz w:=λw=>run_sizeOf bJ
       have Ml:∀bR:Value,bR=pI->(Builtin.firstCells sz 0 pI).run P w=.ok #[] w:=λbR _=>by
        obtain⟨us,I,ae⟩:=Mk (P:=P) (m:=0) (r:=[]) au al fG (Nat.zero_le _) (by simp[takeN])
        cases us with
        |nil=>exact I
        |cons a l=>cases ae
       split at h
       · cases h;cases ai
         refine .same au (v':=.int .i64 0) ?_ rfl
         simp[Builtin.copy_,h0,cl hu,aA,mM,Ml pI rfl,goInt]
       · rename_i b off len cap
         simp only at h
         obtain⟨i,hi,ah⟩:=ai
         have ks:∃(a:Addr) (c:Nat),GD=.slice (some a) len c/\(cap≠ .dead->a=⟨i.bx,i.base+off,none⟩):=by
          cases cap with
          |exact c=>cases ah;exact⟨_,c,rfl,λ_=>rfl⟩
          |aL hK=>obtain⟨c,rfl,_⟩:=ah;exact⟨_,c,rfl,λ_=>rfl⟩
          |dead=>obtain⟨rfl,a,c,rfl⟩:=ah;exact⟨a,c,rfl,λh=>absurd rfl h⟩
         obtain⟨a,c,rfl,aV⟩:=ks
         split at h
         · rename_i sD
           cases h
           refine .same au (v':=.int .i64 0) ?_ rfl
           simp[Builtin.copy_,h0,cl hu,aA,mM,sD,Ml pI rfl,goInt,_root_.Go.storeCells]
         · rename_i sD
           split at h
           · rename_i b5 bm
             split at h
             · rename_i I cL
               cases h
               have Ds:cap≠ .dead:=by
                intro e;subst e
                obtain⟨aG,_⟩:=ah
                subst aG;simp[Nat.min_def] at sD
               have:=aV Ds
               subst this
               obtain⟨us,a8,a2⟩:=Mk (P:=P) au al fG (Nat.min_le_left _ _) bm
               obtain⟨w',aG,aE,bH⟩:=Ae (P:=P) au hi a2 cL
               refine⟨μ,w',.int .i64 (Nat.min n len:Nat),?_,rfl,aE,bH⟩
               simp[Builtin.copy_,h0,cl hu,aA,mM,a8,aG,goInt]
             · cases h
           · cases h
       · cases h
     · cases h
   · cases h
 · cases h
theorem UJ(au:bK μ H w){argTypes:Array TypeId}{ty t:TypeId}(h0:argTypes[0]? =some t){x:ad}{bR:Value}(aa:bz μ x bR){v:ad}{a6:ab}
  (h:rh P H t x=some (v,a6)):fP P μ H w (Builtin.clear_ argTypes ty #[bR]) v a6:=by
 unfold rh at h
 split at h
 · rename_i hu;cases h;cases aa
   exact .same au (v':=.tuple #[]) (by simp[Builtin.clear_,h0,cl hu]) ⟨[],rfl,rfl⟩
 · rename_i hu;cases h;cases aa
   exact .same au (v':=.tuple #[]) (by simp[Builtin.clear_,h0,cl hu]) ⟨[],rfl,rfl⟩
 · rename_i hu
   split at h
   · rename_i es c ar
     cases h
     obtain⟨i,hi,rfl⟩:=aa
     obtain⟨ents,aG,aE⟩:=au.rel _ _ i ar hi
     have cB:i.bx<w.heap.size:=(au.lt _ _ hi).2
     obtain⟨r1,r2⟩:=au.update (w':={w with heap:=w.heap.setIfInBounds i.bx (.map #[] c)}) (o':=.map [] c) ar rfl hi (by simp) (λr ao=>by simp[Array.getElem?_setIfInBounds];intro e;exact absurd e.symm ao) rfl rfl rfl
      ⟨[],by simp[cB],rfl⟩
     refine⟨μ,_,.tuple #[],?_,⟨[],rfl,rfl⟩,r1,r2⟩
     simp[Builtin.clear_,h0,cl hu,getObj,setObj,Sem.run,aG]
   · cases h
 · rename_i e b off n cap hu
   split at h
   · rename_i aH
     cases h
     subst aH
     obtain⟨i,hi,ah⟩:=aa
     have:∃a c,bR=.slice (some a) 0 c:=by
      cases cap with
      |exact c=>cases ah;exact⟨_,c,rfl⟩
      |aL hK=>obtain⟨c,rfl,_⟩:=ah;exact⟨_,c,rfl⟩
      |dead=>obtain⟨_,a,c,rfl⟩:=ah;exact⟨a,c,rfl⟩
     obtain⟨a,c,rfl⟩:=this
     exact .same au (v':=.tuple #[]) (by simp[Builtin.clear_,h0,cl hu]) ⟨[],rfl,rfl⟩
   · rename_i aH
     split at h
     · rename_i z a7
       split at h
       · rename_i I cL
         cases h
         obtain⟨gy,nS,rfl,ag⟩:=nO (P:=P) (w:=w) a7
         have jc:=Un n ((lO μ gy).cells ag)
         obtain⟨i,hi,ah⟩:=aa
         have:∃c,bR=.slice (some ⟨i.bx,i.base+off,none⟩) n c:=by
          cases cap with
          |exact c=>cases ah;exact⟨c,rfl⟩
          |aL hK=>obtain⟨c,rfl,_⟩:=ah;exact⟨c,rfl⟩
          |dead=>obtain⟨h0,_⟩:=ah;exact absurd h0 aH
         obtain⟨c,rfl⟩:=this
         obtain⟨w',aG,aE,bH⟩:=Ae (P:=P) au hi jc cL
         refine⟨μ,w',.tuple #[],?_,⟨[],rfl,rfl⟩,aE,bH⟩
         cases n with
         |zero=>exact absurd rfl aH
         |succ n=>simp[Builtin.clear_,h0,cl hu,nS,aG]
       · cases h
     · cases h
 · cases h
theorem UK(au:bK μ H w){argTypes:Array TypeId}{ty t:TypeId}(h0:argTypes[0]? =some t){x:ad}{bR:Value}(aa:bz μ x bR){v:ad}(h:bV P H t x=some v):
  fP P μ H w (Builtin.len_ argTypes ty #[bR]) v H:=by
 unfold bV at h
 split at h
 · rename_i s hu;cases h
   obtain⟨bs,rfl,rfl⟩:=aa
   refine .same au (v':=.int .i64 (bs.size:Int)) (by simp[Builtin.len_,h0,cl hu,goInt]) ?_
   have:bs.data.toList.length=bs.size:=Array.length_toList
   rw[this];rfl
 · rename_i n e hu;cases h
   exact .same au (v':=.int .i64 (n:Int)) (by simp[Builtin.len_,h0,cl hu,goInt]) rfl
 · rename_i e b off n cap hu;cases h
   obtain⟨i,hi,ah⟩:=aa
   have:∃a c,bR=.slice a n c:=by
    cases cap with
    |exact c=>cases ah;exact⟨_,c,rfl⟩
    |aL hK=>obtain⟨c,rfl,_⟩:=ah;exact⟨_,c,rfl⟩
    |dead=>obtain⟨rfl,a,c,rfl⟩:=ah;exact⟨_,c,rfl⟩
   obtain⟨a,c,rfl⟩:=this
   exact .same au (v':=.int .i64 (n:Int)) (by simp[Builtin.len_,h0,cl hu,goInt]) rfl
 · rename_i hu;cases h;cases aa
   exact .same au (v':=.int .i64 0) (by simp[Builtin.len_,h0,cl hu,goInt]) rfl
 · rename_i hu;cases h;cases aa
   exact .same au (v':=.int .i64 0) (by simp[Builtin.len_,h0,cl hu,goInt]) rfl
 · rename_i r hu
   split at h
   · rename_i es c ar
     cases h
     obtain⟨i,hi,rfl⟩:=aa
     obtain⟨ents,aG,aE⟩:=au.rel _ _ i ar hi
     have hlen:es.length=ents.length:=by
      clear aG ar
      induction es generalizing ents with
      |nil=>cases aE;rfl
      |cons e es bl=>obtain⟨m,ms,rfl,_,ae⟩:=aE;simp[bl ms ae]
     refine .same au (v':=.int .i64 (ents.length:Int)) ?_ (by rw[hlen];rfl)
     simp[Builtin.len_,h0,cl hu,goInt,getObj,Sem.run,aG]
   · cases h
 · rename_i arr hu
   split at h
   · rename_i n e rF;cases h
     exact .same au (v':=.int .i64 (n:Int)) (by simp[Builtin.len_,h0,cl hu,cl rF,goInt]) rfl
   · cases h
 · cases h
theorem UL(au:bK μ H w){argTypes:Array TypeId}{ty t:TypeId}(h0:argTypes[0]? =some t){x:ad}{bR:Value}(aa:bz μ x bR){v:ad}(h:xL P t x=some v):
  fP P μ H w (Builtin.cap_ argTypes ty #[bR]) v H:=by
 unfold xL at h
 split at h
 · rename_i n e hu;cases h
   exact .same au (v':=.int .i64 (n:Int)) (by simp[Builtin.cap_,h0,cl hu,goInt]) rfl
 · rename_i e b off n c hu;cases h
   obtain⟨i,hi,ah⟩:=aa
   cases ah
   exact .same au (v':=.int .i64 (c:Int)) (by simp[Builtin.cap_,h0,cl hu,goInt]) rfl
 · rename_i hu;cases h;cases aa
   exact .same au (v':=.int .i64 0) (by simp[Builtin.cap_,h0,cl hu,goInt]) rfl
 · cases h
theorem GF(f:ad->ad->Option ad)(F:Value->Value->Sem Value)(hf:∀x y z bR hB,f x y=some z->bz μ x bR->bz μ y hB->∃gy,(F bR hB).run P w=.ok gy w/\bz μ z gy):
  ∀(l:List ad) (x:ad) (bR:Value) (mN:List Value) (z:ad),bz μ x bR->cG μ l mN->mH f x l=some z->∃gy,(mN.foldlM F bR).run P w=.ok gy w/\bz μ z gy
 |[],x,bR,mN,z,aa,aA,h=>by
  cases aA;simp[mH] at h;subst h
  exact⟨bR,rfl,aa⟩
 |y::l,x,bR,mN,z,aa,⟨hB,Mm,e,aZ,aA⟩,h=>by
  subst e
  simp only[mH] at h
  split at h
  · rename_i u hu
    obtain⟨UM,r1,r2⟩:=hf x y u bR hB hu aa aZ
    obtain⟨gy,s1,s2⟩:=GF f F hf l u UM Mm z r2 aA h
    exact⟨gy,by simp only[List.foldlM_cons,Sem.run_bind,r1,Result.andThen_ok,s1],s2⟩
  · cases h
theorem UN{x y z:ad}{bR hB:Value}(h:sm x y=some z)(aa:bz μ x bR)(aZ:bz μ y hB):∃gy,(Builtin.min2 bR hB).run P w=.ok gy w/\bz μ z gy:=by
 unfold sm at h
 split at h
 · split at h
   · rename_i ay;cases h;subst ay
     cases aa;cases aZ
     exact⟨_,rfl,by simp[bz,gY]⟩
   · cases h
 · cases h
theorem UO{x y z:ad}{bR hB:Value}(h:sn x y=some z)(aa:bz μ x bR)(aZ:bz μ y hB):∃gy,(Builtin.max2 bR hB).run P w=.ok gy w/\bz μ z gy:=by
 unfold sn at h
 split at h
 · split at h
   · rename_i ay;cases h;subst ay
     cases aa;cases aZ
     exact⟨_,rfl,by simp[bz,gY]⟩
   · cases h
 · cases h
end
end bg
namespace bg
open Go
section
variable {P:Program} {μ:bI} {H:ab} {w:World}
theorem Mn:∀(cs:List ad) (bs:List UInt8) (us:List Value),pw cs=some bs->cG μ cs us->us=bs.map λb=>.int .u8 (b.toNat:Int)
 |[],bs,us,h,ao=>by cases ao;simp[pw] at h;subst h;rfl
 |c::cs,bs,us,h,⟨v,vs,e,I,ae⟩=>by
  subst e
  unfold pw at h
  split at h
  · rename_i heq;cases heq
  · rename_i n l heq
    cases heq
    split at h
    · rename_i r aH ao
      cases h
      cases I
      rw[Mn cs r vs ao ae]
      simp only[Nat.blt_eq] at aH
      have:n %256=n:=Nat.mod_eq_of_lt aH
      simp[UInt8.toNat_ofNat',this]
    · cases h
  · cases h
theorem Mo(w:World):∀(bs:List UInt8) (acc:ByteArray),(forIn (bs.map λb=>Value.int .u8 (b.toNat:Int)) acc λc s=>
  (match c with
  |.int .u8 n=>pure (ForInStep.yield (s.push (UInt8.ofNat n.toNat)))
  |_=>do stuck "bytesToString: byte expected";pure (ForInStep.yield s):Sem (ForInStep ByteArray))).run P w=.ok ⟨acc.data++bs.toArray⟩ w
 |[],acc=>by simp
 |b::bs,acc=>by
  simp only[List.map_cons,List.forIn_cons,Sem.run_bind,Sem.run_pure,Result.andThen_ok,Mo w bs]
  congr 1
  simp[ByteArray.ext_iff,ByteArray.push]
theorem UP(au:bK μ H w){b off n:Nat}{cap:ct}(mb:cap≠ .dead){bR:Value}(aa:bz μ (.slice b off n cap) bR){cs:List ad}(aA:loadCells H b off n=some cs){bs:List UInt8}(ag:pw cs=some bs):
  fP P μ H w (Conv.bytesToString bR) (.str bs) H:=by
 obtain⟨i,hi,ah⟩:=aa
 have:∃c,bR=.slice (some ⟨i.bx,i.base+off,none⟩) n c:=by
  cases cap with
  |exact c=>cases ah;exact⟨c,rfl⟩
  |aL hK=>obtain⟨c,rfl,_⟩:=ah;exact⟨c,rfl⟩
  |dead=>exact absurd rfl mb
 obtain⟨c,rfl⟩:=this
 obtain⟨us,I,ae⟩:=tX (P:=P) au hi aA
 have ku:=Mn cs bs us ag ae
 subst ku
 refine .same au (v':=.string ⟨bs.toArray⟩) ?_ ⟨_,rfl,by simp⟩
 simp only[Conv.bytesToString,Sem.run_bind,I,Result.andThen_ok]
 have e:=Mo (P:=P) w bs ByteArray.empty
 rw[<-List.forIn_toArray] at e
 refine(congrArg (λr=>Result.andThen r _) e).trans ?_
 simp
theorem UQ(au:bK μ H w){e:TypeId}{bs:ByteArray}:
  fP P μ H w (Conv.stringToBytes e bs) (.slice H.n 0 bs.data.toList.length (.aL 1)) (H.push (.cells (dR bs.data.toList) e .aL 0 0)):=by
 have Dn:(Question.appendCap bs.size 0 e).forced=false:=rfl
 have bJ:bs.data.toList.length=bs.size:=Array.length_toList
 obtain⟨cap,mb,hle⟩:∃cap,(Question.appendCap bs.size 0 e).cut (w.tape w.drawn (Question.appendCap bs.size 0 e))=cap/\bs.size<=cap:=⟨_,rfl,by simp[Question.cut]⟩
 have Dt:=au.drew.qo ⟨w.heap.size,0,cap⟩
 let c:Array Value:=(bs.data.map λb=>.int .u8 b.toNat)++Array.replicate (cap-bs.size) (.int .u8 0)
 have gG:c.size=cap:=by
  have:bs.data.size=bs.size:=rfl
  simp only[c,Array.size_append,Array.size_map,Array.size_replicate,this];omega
 have jJ:De (gx μ H.n ⟨w.heap.size,0,cap⟩) (dR bs.data.toList) c 0:=λj v aO=>by
  obtain⟨u,hu,ao⟩:=(Dl μ bs.data.toList).get aO
  refine⟨u,?_,ao.mono Dt⟩
  have xY:j<bs.data.size:=by
   rcases Nat.lt_or_ge j bs.data.size with h|h
   · exact h
   · rw[List.getElem?_eq_none (by simpa using h)] at hu;cases hu
  simp only[c,Nat.zero_add]
  rw[Array.getElem?_append_left (by simpa using xY)]
  simpa using hu
 have UR:bK (gx μ H.n ⟨w.heap.size,0,cap⟩) (H.push (.cells (dR bs.data.toList) e .aL 0 0)) (w.drew.alloc (.cells c e))/\cA μ H w.drew (gx μ H.n ⟨w.heap.size,0,cap⟩) (H.push (.cells (dR bs.data.toList) e .aL 0 0)) (w.drew.alloc (.cells c e)):=
  au.drew.alloc (.cells (dR bs.data.toList) e .aL 0 0) (.cells c e) cap
  ⟨c,0,0,World.heap_alloc_new _ _,jJ,by simp[gG],by
    refine⟨?_,λj _ _ h=>by omega⟩
    rw[Dr,bJ];exact hle⟩
 obtain⟨r1,r2⟩:=UR
 let db:World:=(w.drew.alloc (.cells c e)).freeze ⟨w.heap.size,cap,none⟩ 1
 have As:db.heap[w.heap.size]? =some (.cells c e (cap,cap+1)):=by
  simp only[db,World.freeze,if_neg (show¬(1=0) by omega),Array.getElem?_modify]
  have:(w.drew.alloc (.cells c e)).heap[w.heap.size]? =some (.cells c e (0,0)):=World.heap_alloc_new _ _
  rw[this];simp
 have uc:(H.push (.cells (dR bs.data.toList) e .aL 0 0)).get H.n=some (.cells (dR bs.data.toList) e .aL 0 0):=by rw[ab.hr,if_pos rfl]
 have cL:bK (gx μ H.n ⟨w.heap.size,0,cap⟩) ((H.push (.cells (dR bs.data.toList) e .aL 0 0)).set H.n (some (.cells (dR bs.data.toList) e .aL 0 0))) db/\
   cA (gx μ H.n ⟨w.heap.size,0,cap⟩) (H.push (.cells (dR bs.data.toList) e .aL 0 0)) (w.drew.alloc (.cells c e)) (gx μ H.n ⟨w.heap.size,0,cap⟩) ((H.push (.cells (dR bs.data.toList) e .aL 0 0)).set H.n (some (.cells (dR bs.data.toList) e .aL 0 0))) db:=
  r1.update uc rfl (hy _ _ _) (by simp[db,World.freeze]) (λr ao=>by
   simp only[db,World.freeze,if_neg (show¬(1=0) by omega),Array.getElem?_modify]
   rw[if_neg (λe=>ao e.symm)]) (by simp[db,World.freeze]) (by simp[db,World.freeze]) (by simp[db,World.freeze])
   ⟨c,cap,cap+1,As,jJ,by simp[gG],by
     refine⟨by rw[Dr,bJ];exact hle,λj fW mc Mj=>by simp only at fW mc;omega⟩⟩
 refine⟨gx μ H.n ⟨w.heap.size,0,cap⟩,db,.slice (some ⟨w.heap.size,0,none⟩) bs.size cap,?_,⟨⟨w.heap.size,0,cap⟩,hy _ _ _,cap,by simp[bJ],by rw[bJ];exact hle,by simp⟩,?_,?_⟩
 · simp only[Conv.stringToBytes,Sem.run_bind,run_choose,Dn,Bool.false_eq_true,if_false,World.drew_eq,Result.andThen_ok,mb]
   have aG:(_root_.Go.newRow e c).run P w.drew=.ok ⟨w.heap.size,0,none⟩ (w.drew.alloc (.cells c e)):=rfl
   rw[show(_root_.Go.newRow e ((bs.data.map λb=>.int .u8 b.toNat)++Array.replicate (cap-bs.size) (.int .u8 0))).run P w.drew=_ from aG]
   have aE:(w.drew.alloc (.cells c e)).shape? w.heap.size=some (e,cap):=by
    have:(w.drew.alloc (.cells c e)).heap[w.heap.size]? =some (.cells c e (0,0)):=World.heap_alloc_new _ _
    simp only[World.shape?,this,gG]
   simp only[Result.andThen_ok,markStringish,Sem.run_bind,run_shape,aE,run_freeze,Sem.run_pure]
   rfl
 ·
  refine⟨λb o i ag hi=>cL.1.rel b o i ?_ hi,λb c' i j ag ah=>cL.1.inj b c' i j ?_ ?_,cL.1.lt,λb ag=>?_⟩
  · rw[ab.dx];split
    · rename_i e;subst e;rw[uc] at ag;exact ag
    · exact ag
  · rw[ab.dx];split
    · simp
    · exact ag
  · rw[ab.dx];split
    · exact⟨_,rfl,rfl⟩
    · exact ah
  · exact r1.bound b ag
 · refine cA.trans au au.drew cA.drew (cA.trans au.drew r1 r2 ⟨ga.refl _,cL.2.size,Nat.le_refl _,λ_ _ h=>h,λ_ _ _=>rfl,cL.2.old,λb i h aw=>(by rw[h] at aw;cases aw),λb o i ag ao hi=>⟨ag,(cL.2.ro b o i ag ao hi).2⟩,cL.2.os,cL.2.out,cL.2.tape,cL.2.drawn⟩)
theorem US{i:fO}{o o':Nat}:(sameAddr ⟨i.bx,i.base+o,none⟩ ⟨i.bx,i.base+o',none⟩).run P w=.ok (Nat.beq o o') w:=by
 simp only[sameAddr,beq_self_eq_true,if_true,Sem.run_pure]
 congr 1
 rw[Bool.eq_iff_iff]
 simp
theorem UT{r r' o o' el qv:Nat}{c c':Array Value}(h:w.heap[r]? =some (.cells c el (0,0)))(aw:w.heap[r']? =some (.cells c' qv (0,0)))(dr:r≠r'):
  (sameAddr ⟨r,o,none⟩ ⟨r',o',none⟩).run P w=.ok false w:=by
 have ag:(r==r')=false:=beq_eq_false_iff_ne.2 dr
 have f1:∀k,w.frozen? ⟨r,k,none⟩=false:=λk=>by simp[World.frozen?,h]
 have f2:∀k,w.frozen? ⟨r',k,none⟩=false:=λk=>by simp[World.frozen?,aw]
 have s1:w.shape? r=some (el,c.size):=by simp[World.shape?,h]
 have s2:w.shape? r'=some (qv,c'.size):=by simp[World.shape?,aw]
 simp[sameAddr,ag,f1,f2,noView,viewAt,s1,s2,mayBeOne,stringish]
theorem GG(w:World)(D:Nat)(E:TypeId->ad->ad->Option Bool)(e4:∀t x y b bR hB,E t x y=some b->bz μ x bR->bz μ y hB->(Op.equalIn D t bR hB).run P w=.ok b w)
  {xs ys:List ad}{sE vM:List Value}(aa:cG μ xs sE)(aZ:cG μ ys vM):∀(b6:List Field) (b:Bool),eqFields P E xs ys b6=some b->(Op.eqFields D ⟨sE⟩ ⟨vM⟩ b6).run P w=.ok b w
 |[],b,h=>by cases h;rfl
 |f::b6,b,h=>by
  simp only[eqFields] at h
  split at h
  · rename_i aH
    have aH:f.name= "_" :=of_decide_eq_true aH
    have bl:=GG w D E e4 aa aZ b6 b h
    simp only[Op.eqFields,aH,ne_eq,not_true_eq_false,if_false]
    exact bl
  · rename_i aH
    have aH:¬(f.name= "_"):=of_decide_eq_false aH
    split at h
    · rename_i a c aV ah
      obtain⟨At,cT,dv⟩:=ub (P:=P) (w:=w) aa aV
      obtain⟨sF,a8,a2⟩:=ub (P:=P) (w:=w) aZ ah
      split at h
      · rename_i he
        have ao:=e4 _ _ _ _ At sF he dv a2
        have bl:=GG w D E e4 aa aZ b6 b h
        simp only[Op.eqFields,ne_eq,aH,not_false_eq_true,if_true,Sem.run_bind,cT,a8,Result.andThen_ok,ao,Bool.not_true,Bool.false_eq_true,if_false]
        exact bl
      · rename_i r ao
        cases b with
        |true=>exact absurd h ao
        |false=>
         have Au:=e4 _ _ _ _ At sF h dv a2
         simp only[Op.eqFields,ne_eq,aH,not_false_eq_true,if_true,Sem.run_bind,cT,a8,Result.andThen_ok,Au,Bool.not_false,Sem.run_pure]
    · cases h
theorem Mp(w:World)(D:Nat){e:TypeId}{sz:Nat}(E:TypeId->ad->ad->Option Bool)(e4:∀t x y b bR hB,E t x y=some b->bz μ x bR->bz μ y hB->(Op.equalIn D t bR hB).run P w=.ok b w){xs ys:List ad}{sE vM:List Value}(aa:cG μ xs sE)(aZ:cG μ ys vM):
  ∀(n i:Nat) (b:Bool),zX P E e sz xs ys n i=some b->(Op.eqItems D e sz ⟨sE⟩ ⟨vM⟩ (List.range' i n)).run P w=.ok b w
 |0,i,b,h=>by simp only[zX] at h;cases h;simp[Op.eqItems]
 |n+1,i,b,h=>by
  simp only[zX] at h
  rw[List.range'_succ]
  split at h
  · rename_i a c aV ah
    obtain⟨At,cT,dv⟩:=ub (P:=P) (w:=w) aa aV
    obtain⟨sF,a8,a2⟩:=ub (P:=P) (w:=w) aZ ah
    split at h
    · rename_i he
      have ao:=e4 _ _ _ _ At sF he dv a2
      have bl:=Mp w D E e4 aa aZ n (i+1) b h
      simp only[Op.eqItems,Sem.run_bind,cT,a8,Result.andThen_ok,ao,Bool.not_true,Bool.false_eq_true,if_false]
      exact bl
    · rename_i r ao
      cases b with
      |true=>exact absurd h ao
      |false=>
       have Au:=e4 _ _ _ _ At sF h dv a2
       simp only[Op.eqItems,Sem.run_bind,cT,a8,Result.andThen_ok,Au,Bool.not_false,if_true,Sem.run_pure]
  · cases h
set_option maxHeartbeats 4000000 in
theorem vN(au:bK μ H w):∀(d:Nat) (t:TypeId) (x y:ad) (b:Bool) (bR hB:Value) (D:Nat),d<=D->gZ P H d t x y=some b->bz μ x bR->bz μ y hB->(Op.equalIn D t bR hB).run P w=.ok b w
 |0,t,x,y,b,bR,hB,D,_,h,_,_=>by simp[gZ] at h
 |d+1,t,x,y,b,bR,hB,0,ai,_,_,_=>by omega
 |d+1,t,x,y,b,bR,hB,D+1,ai,h,aa,aZ=>by
  unfold gZ at h
  cases hu:P.underlying t with
  |none=>rw[hu] at h;cases h
  |some u=>
   rw[hu] at h
   cases u<;>simp only at h
   case bool=>
    split at h<;>cases h
    cases aa;cases aZ
    simp[Op.equalIn,cl hu]
   case int jy=>
    split at h
    · split at h
      · rename_i ay;cases h;subst ay;cases aa;cases aZ
        simp[Op.equalIn,cl hu,fc]
      · cases h
    · cases h
   case string=>
    split at h<;>cases h
    obtain⟨s1,rfl,rfl⟩:=aa
    obtain⟨s2,rfl,rfl⟩:=aZ
    rw[nP,<-ua,<-ua,<-beq_toListBytes]
    simp[Op.equalIn,cl hu]
   case pointer e=>
    split at h
    · cases h;cases aa;cases aZ;simp[Op.equalIn,cl hu]
    · cases h;cases aa;obtain⟨i,_,rfl⟩:=aZ;simp[Op.equalIn,cl hu]
    · cases h;cases aZ;obtain⟨i,_,rfl⟩:=aa;simp[Op.equalIn,cl hu]
    · rename_i a i hP j
      split at h
      · rename_i n al
        obtain⟨xZ,GH,rfl⟩:=aa
        obtain⟨iz,Du,rfl⟩:=aZ
        have bJ:(_root_.Go.sizeOf e).run P w=.ok (n+1) w:=run_sizeOf al
        have goal:∀r,(sameAddr ⟨xZ.bx,xZ.base+i,none⟩ ⟨iz.bx,iz.base+j,none⟩).run P w=r->(Op.equalIn (D+1) t (.pointer (some ⟨xZ.bx,xZ.base+i,none⟩)) (.pointer (some ⟨iz.bx,iz.base+j,none⟩))).run P w=r:=by
         intro r ao
         simp[Op.equalIn,cl hu,bJ,ao]
        unfold Gh at h
        split at h
        · rename_i fC
          cases h
          have:=Nat.eq_of_beq_eq_true fC
          subst this
          rw[GH] at Du;cases Du
          exact goal _ US
        · rename_i fC
          split at h
          · rename_i sG Dv
            cases h
            obtain⟨aM,_,_,bG,_,_,b0⟩:=au.rel _ _ xZ sG GH
            obtain⟨bf,_,_,bt,_,_,bw⟩:=au.rel _ _ iz Dv Du
            obtain⟨_,_,rfl,rfl⟩:=b0
            obtain⟨_,_,rfl,rfl⟩:=bw
            refine goal _ (UT bG bt λe=>?_)
            have:=au.inj _ _ xZ iz (by rw[sG];simp) ⟨_,Dv,rfl⟩ GH Du e
            subst this
            simp at fC
          · cases h
      · cases h
    · cases h
   case slice e=>
    have gN:∀(b off n:Nat) (c:ct) (v:Value),bz μ (.slice b off n c) v->∃a m k,v=.slice (some a) m k:=by
     rintro b off n c v ⟨i,_,ah⟩
     cases c with
     |exact c=>cases ah;exact⟨_,_,_,rfl⟩
     |aL hK=>obtain⟨c,rfl,_⟩:=ah;exact⟨_,_,_,rfl⟩
     |dead=>obtain⟨_,a,c,rfl⟩:=ah;exact⟨_,_,_,rfl⟩
    split at h
    · cases h;cases aa;cases aZ;simp[Op.equalIn,cl hu]
    · cases h;cases aa;obtain⟨a,m,k,rfl⟩:=gN _ _ _ _ _ aZ;simp[Op.equalIn,cl hu]
    · cases h;cases aZ;obtain⟨a,m,k,rfl⟩:=gN _ _ _ _ _ aa;simp[Op.equalIn,cl hu]
    · cases h
   case map k e=>
    split at h
    · cases h;cases aa;cases aZ;simp[Op.equalIn,cl hu]
    · cases h;cases aa;obtain⟨i,_,rfl⟩:=aZ;simp[Op.equalIn,cl hu]
    · cases h;cases aZ;obtain⟨i,_,rfl⟩:=aa;simp[Op.equalIn,cl hu]
    · cases h
   case func ps rs v=>
    split at h
    · cases h;cases aa;cases aZ;simp[Op.equalIn,cl hu]
    · cases h;cases aa;obtain⟨_,_,rfl,_⟩:=aZ;simp[Op.equalIn,cl hu]
    · cases h;cases aZ;obtain⟨_,_,rfl,_⟩:=aa;simp[Op.equalIn,cl hu]
    · cases h
   case interface ms=>
    split at h
    · cases h;cases aa;cases aZ;simp[Op.equalIn,cl hu]
    · cases h;cases aa;obtain⟨_,rfl,_⟩:=aZ;simp[Op.equalIn,cl hu]
    · cases h;cases aZ;obtain⟨_,rfl,_⟩:=aa;simp[Op.equalIn,cl hu]
    · rename_i a v hP u
      obtain⟨v1,rfl,r1⟩:=aa
      obtain⟨gO,rfl,r2⟩:=aZ
      split at h
      · rename_i fC
        cases h
        have:a≠hP:=by intro e;subst e;simp at fC
        simp[Op.equalIn,cl hu,this]
      · rename_i fC
        have:=Nat.eq_of_beq_eq_true fC
        subst this
        split at h
        · rename_i sH ud
          split at h
          · rename_i UU
            have bl:=vN au d a v u b v1 gO D (by omega) h r1 r2
            simp[Op.equalIn,cl hu,run_typeInfo ud,UU,bl]
          · cases h
        · cases h
    · cases h
   case struct b6=>
    split at h
    · rename_i xs ys
      split at h
      · cases h
      · rename_i cL
        obtain⟨sE,rfl,fH⟩:=aa
        obtain⟨vM,rfl,x0⟩:=aZ
        have key:=GG (P:=P) w D (gZ P H d) (λt x y b bR hB he I ae=>vN au d t x y b bR hB D (by omega) he I ae) fH x0 b6.toList b h
        have nT:P.fieldsOf t=b6:=by simp[Program.fieldsOf,hu]
        rw[run_equalIn_struct w D t _ _ (by rw[nT];exact hu) cL,nT]
        exact key
    · cases h
   case array n e=>
    split at h
    · rename_i xs ys
      split at h
      · rename_i sz bJ
        obtain⟨sE,rfl,fH⟩:=aa
        obtain⟨vM,rfl,x0⟩:=aZ
        have hi:∃i,P.info? e=some i/\i.size=sz:=by
         unfold ef at bJ
         split at bJ
         · rename_i i hi;cases bJ;exact⟨i,hi,rfl⟩
         · cases bJ
        obtain⟨i,hi,UW⟩:=hi
        have UX:P.cellsOf e=sz:=by unfold Program.cellsOf;rw[hi];exact UW
        rw[run_equalIn_array w D _ _ hu hi,UX,List.range_eq_range']
        exact Mp w D (gZ P H d) (λt x y b bR hB he I ae=>vN au d t x y b bR hB D (by omega) he I ae) fH x0 n 0 b h
      · cases h
    · cases h
   all_goals cases h
theorem Mq{u:TypeDesc}{kt:TypeId}(hu:P.underlying kt=some u){k x:ad}{kv bR:Value}{b:Bool}(ay:qi P kt k=true)(h:rj k x=some b)(I:bz μ k kv)(ae:bz μ x bR):Instr.sameNow u kv bR=some b:=by
 unfold qi at ay
 rw[hu] at ay
 cases u<;>simp only at ay<;>try cases ay
 ·
  split at ay<;>try cases ay
  cases x<;>simp only[rj] at h<;>cases h
  cases I;cases ae;rfl
 ·
  split at ay<;>try cases ay
  cases x<;>simp only[rj] at h<;>try cases h
  split at h
  · rename_i e;cases h;subst e;cases I;cases ae;simp[Instr.sameNow,fc]
  · cases h
 · split at ay<;>try cases ay
   cases x<;>simp only[rj] at h<;>cases h
   obtain⟨s1,rfl,rfl⟩:=I
   obtain⟨s2,rfl,rfl⟩:=ae
   simp only[Instr.sameNow]
   rw[nP,<-ua,<-ua,<-beq_toListBytes]
def Dw(μ:bI):Option (Nat×ad)->Option (Nat×Value)->Prop
 |none,none=>True
 |some (i,a),some (j,v)=>i=j/\bz μ a v
 |_,_=>False
theorem Mr{H:ab}{kt:TypeId}{k x:ad}(ay:∀cs,k≠ .agg cs):rk P H kt k x=rj k x:=by
 cases k<;>first|rfl|exact absurd rfl (ay _)
theorem Ms{kt:TypeId}{k:ad}(ay:∀cs,k≠ .agg cs)(h:nL P kt k=true):qi P kt k=true:=by
 cases k<;>first|exact h|exact absurd rfl (ay _)
theorem Mt{H:ab}{u:TypeDesc}{kt:TypeId}(hu:P.underlying kt=some u){k:ad}{kv:Value}(al:∀cs,k≠ .agg cs)(ay:qi P kt k=true)(I:bz μ k kv):∀(es:List eH) (ents:List MapEntry) (i:Nat) (r:Option (Nat×ad)),g0 μ es ents->k4 P H kt k es i=some r->
  ∃r',Instr.findNow u kv ents i=some r'/\Dw μ r r'
 |[],_,i,r,he,h=>by
  cases he;simp[k4] at h;subst h
  exact⟨none,rfl,trivial⟩
 |e::es,_,i,r,⟨m,ms,aG,aE,bH⟩,h=>by
  subst aG
  simp only[k4,Mr al] at h
  split at h
  · rename_i al
    cases h
    exact⟨some (i,m.val),by simp[Instr.findNow,Mq hu ay al I aE.1],rfl,aE.2.1⟩
  · rename_i aK
    obtain⟨r',a8,a2⟩:=Mt hu al ay I es ms (i+1) r bH h
    exact⟨r',by simp[Instr.findNow,Mq hu ay aK I aE.1,a8],a2⟩
  · cases h
theorem Mu(au:bK μ H w){kt:TypeId}{cs:List ad}{kv:Value}(I:bz μ (.agg cs) kv):∀(es:List eH) (ents:List MapEntry) (i:Nat) (r:Option (Nat×ad)),g0 μ es ents->k4 P H kt (.agg cs) es i=some r->
  ∃r',(Instr.findAsking kt kv ents i).run P w=.ok r' w/\Dw μ r r'
 |[],_,i,r,he,h=>by
  cases he;simp[k4] at h;subst h
  exact⟨none,rfl,trivial⟩
 |e::es,_,i,r,⟨m,ms,aG,aE,bH⟩,h=>by
  subst aG
  simp only[k4,rk] at h
  split at h
  · rename_i al
    cases h
    have:=vN (P:=P) au 8 kt _ _ true kv m.key Op.maxDepth (by decide) al I aE.1
    exact⟨some (i,m.val),by simp[Instr.findAsking,Op.equal,this],rfl,aE.2.1⟩
  · rename_i al
    have:=vN (P:=P) au 8 kt _ _ false kv m.key Op.maxDepth (by decide) al I aE.1
    obtain⟨r',a8,a2⟩:=Mu au I es ms (i+1) r bH h
    exact⟨r',by simp[Instr.findAsking,Op.equal,this,a8],a2⟩
  · cases h
theorem GI{H:ab}{kt:TypeId}{k:ad}:∀(es:List eH) (i j:Nat) (v:ad),k4 P H kt k es i=some (some (j,v))->i<=j/\∃e,es[j-i]? =some e/\e.val=v/\rk P H kt k e.key=some true
 |[],i,j,v,h=>by simp[k4] at h
 |e::es,i,j,v,h=>by
  simp only[k4] at h
  split at h
  · rename_i al
    cases h;exact⟨Nat.le_refl _,e,by simp,rfl,al⟩
  · obtain⟨I,dc,ae,ax⟩:=GI es (i+1) j v h
    refine⟨by omega,dc,?_,ax⟩
    have:j-i=(j-(i+1))+1:=by omega
    rw[this];simpa using ae
  · cases h
theorem GJ{kt:TypeId}{k:ad}{kv:Value}(ay:qi P kt k=true)(b:Bool)(n:Nat):(Instr.checkKey b (n+1) kt kv).run P w=.ok () w:=by
 unfold qi at ay
 cases hu:P.underlying kt with
 |none=>rw[hu] at ay;cases ay
 |some u=>
  rw[hu] at ay
  cases u<;>simp only at ay<;>try cases ay
  all_goals simp[Instr.checkKey,cl hu]
theorem Mv(b:Bool){m n:Nat}(hm:m=n+1){cs:List ad}{l:List Value}(aA:cG μ cs l):∀(b6:List Field),C6 P cs b6=true->
  (forIn b6 PUnit.unit (λf _=>if f.name≠ "_" then(do let x<-part f.type ⟨l⟩ f.offset;Instr.checkKey b m f.type x;pure (ForInStep.yield PUnit.unit)) else pure (ForInStep.yield PUnit.unit)):Sem PUnit).run P w=.ok PUnit.unit w
 |[],h=>by simp
 |f::b6,h=>by
  unfold C6 at h
  split at h
  · rename_i a aV
    split at h
    · rename_i ay
      have bl:=Mv b hm aA b6 h
      obtain⟨u,cT,dv⟩:=ub (P:=P) (w:=w) aA aV
      have ah:=GJ (P:=P) (w:=w) (kv:=u) ay b n
      rw[<-hm] at ah
      rw[List.forIn_cons]
      by_cases aH:f.name= "_"
      · simp only[aH,ne_eq,not_true_eq_false,if_false,Sem.run_bind,Sem.run_pure,Result.andThen_ok]
        exact bl
      · simp only[ne_eq,aH,not_false_eq_true,if_true,Sem.run_bind,cT,Result.andThen_ok,ah,Sem.run_pure]
        exact bl
    · cases h
  · cases h
theorem Mw(b:Bool){m n:Nat}(hm:m=n+1){e:TypeId}{sz:Nat}(bJ:ef P e=some sz){cs:List ad}{l:List Value}(aA:cG μ cs l):∀(k i:Nat),C7 P e sz cs k i=true->
  (forIn (List.range' i k) PUnit.unit (λi _=>do (Instr.checkKey b m e (<-part e ⟨l⟩ (i*(<-_root_.Go.sizeOf e))));pure (ForInStep.yield PUnit.unit)):Sem PUnit).run P w=.ok PUnit.unit w
 |0,i,h=>by simp
 |k+1,i,h=>by
  unfold C7 at h
  split at h
  · rename_i a aV
    split at h
    · rename_i ay
      have bl:=Mw b hm bJ aA k (i+1) h
      obtain⟨u,cT,dv⟩:=ub (P:=P) (w:=w) aA aV
      have ah:=GJ (P:=P) (w:=w) (kv:=u) ay b n
      rw[<-hm] at ah
      rw[List.range'_succ,List.forIn_cons]
      simp only[Sem.run_bind,run_sizeOf bJ,cT,Result.andThen_ok,ah,Sem.run_pure]
      exact bl
    · cases h
  · cases h
theorem UY{kt:TypeId}{cs:List ad}{l:List Value}(aA:cG μ cs l)(ay:nL P kt (.agg cs)=true)(b:Bool){m n:Nat}(hm:m=n+1):(Instr.checkKey b (m+1) kt (.agg ⟨l⟩)).run P w=.ok () w:=by
 unfold nL at ay
 simp only at ay
 split at ay
 · rename_i b6 hu
   have key:=Mv (P:=P) (w:=w) b hm aA b6.toList ay
   simp only[Instr.checkKey,Sem.run_bind,cl hu,Result.andThen_ok]
   rw[<-Array.forIn_toList]
   first|exact key|exact Eq.trans (congrArg (λq=>Result.andThen q _) key) rfl|simpa using key
 · rename_i UZ e hu
   split at ay
   · rename_i sz bJ
     have key:=Mw (P:=P) (w:=w) b hm bJ aA UZ 0 ay
     simp only[Instr.checkKey,Sem.run_bind,cl hu,Result.andThen_ok]
     simp only[Std.Legacy.Range.forIn_eq_forIn_range',Std.Legacy.Range.size,Nat.sub_zero,Nat.add_one_sub_one,Nat.div_one]
     first|exact key|exact Eq.trans (congrArg (λq=>Result.andThen q _) key) rfl|simpa using key
   · cases ay
 · cases ay
theorem rG{kt:TypeId}{k:ad}{kv:Value}(ay:nL P kt k=true)(I:bz μ k kv)(b:Bool):(Instr.checkKey b 10000 kt kv).run P w=.ok () w:=by
 by_cases al:∀cs,k≠ .agg cs
 · exact GJ (Ms al ay) b 9999
 · have:∃cs,k=.agg cs:=by
     cases k<;>first|exact⟨_,rfl⟩|exact absurd (λcs h=>by cases h) al
   obtain⟨cs,rfl⟩:=this
   obtain⟨l,rfl,aA⟩:=I
   exact UY aA ay b (m:=9999) (n:=9998) rfl
theorem ug(au:bK μ H w){kt:TypeId}{k:ad}{kv:Value}(ay:nL P kt k=true)(I:bz μ k kv){es:List eH}{ents:List MapEntry}{r:Option (Nat×ad)}(he:g0 μ es ents)(h:k4 P H kt k es 0=some r):
  ∃r',(Instr.findKey kt kv ents).run P w=.ok r' w/\Dw μ r r':=by
 by_cases al:∀cs,k≠ .agg cs
 · have fl:=Ms al ay
   cases hu:P.underlying kt with
   |none=>unfold qi at fl;rw[hu] at fl;cases fl
   |some u=>
    obtain⟨r',a8,a2⟩:=Mt hu al fl I es ents 0 r he h
    exact⟨r',by simp[Instr.findKey,cl hu,a8],a2⟩
 · have:∃cs,k=.agg cs:=by
     cases k<;>first|exact⟨_,rfl⟩|exact absurd (λcs h=>by cases h) al
   obtain⟨cs,rfl⟩:=this
   have hu:∃u,P.underlying kt=some u:=by
    unfold nL at ay
    simp only at ay
    split at ay
    · exact⟨_,by assumption⟩
    · exact⟨_,by assumption⟩
    · cases ay
   obtain⟨u,hu⟩:=hu
   obtain⟨r',a8,a2⟩:=Mu (P:=P) au I es ents 0 r he h
   obtain⟨l,rfl,aA⟩:=I
   refine⟨r',?_,a2⟩
   have aH:∀(ms:List MapEntry),ms≠[]->Instr.findNow u (.agg ⟨l⟩) ms 0=none:=λms U0=>by
    cases ms with
    |nil=>exact absurd rfl U0
    |cons m ms=>cases u<;>rfl
   cases ents with
   |nil=>
    cases es with
    |nil=>simp only[k4] at h;cases h;cases r' with
     |none=>simp[Instr.findKey,cl hu,Instr.findNow]
     |some y=>exact a2.elim
    |cons e es=>obtain⟨_,_,ah,_⟩:=he;cases ah
   |cons m ms=>
    simp only[Instr.findKey,Sem.run_bind,cl hu,Result.andThen_ok,aH (m::ms) (by simp)]
    exact a8
theorem g0.append:∀{es b6:List eH} {ms ns:List MapEntry},g0 μ es ms->g0 μ b6 ns->g0 μ (es++b6) (ms++ns)
 |[],_,_,_,h,aw=>by cases h;exact aw
 |_::_,_,_,_,⟨m,ms,e,I,ae⟩,aw=>by subst e;exact⟨m,ms++_,rfl,I,g0.append ae aw⟩
theorem g0.get:∀{es:List eH} {ms:List MapEntry} (_:g0 μ es ms) {j:Nat} {e:eH},es[j]? =some e->∃m,ms[j]? =some m/\tU μ e m
 |[],_,_,j,e,h=>by simp at h
 |x::es,_,⟨m,ms,e,I,ae⟩,0,a,h=>by subst e;simp at h;subst h;exact⟨m,rfl,I⟩
 |x::es,_,⟨m,ms,e,I,ae⟩,j+1,a,h=>by subst e;simp at h;simpa using g0.get ae h
theorem g0.set{v key:ad}{vv kv:Value}(aI:bz μ v vv)(ay:bz μ key kv):∀(i:Nat) {es:List eH} {ms:List MapEntry},g0 μ es ms->g0 μ (so v key i es) (ms.modify i λe=>{e with key:=kv,val:=vv})
 |0,[],_,h=>by cases h;rfl
 |_+1,[],_,h=>by cases h;rfl
 |0,e::es,_,⟨m,ms,dc,I,ae⟩=>by subst dc;exact⟨_,ms,rfl,⟨ay,aI,I.2.2⟩,ae⟩
 |i+1,e::es,_,⟨m,ms,dc,I,ae⟩=>by subst dc;exact⟨m,_,rfl,I,g0.set aI ay i ae⟩
theorem g0.del:∀(i:Nat) {es:List eH} {ms:List MapEntry},g0 μ es ms->g0 μ (z0 i es) (ms.eraseIdx i)
 |0,[],_,h=>by cases h;rfl
 |_+1,[],_,h=>by cases h;rfl
 |0,e::es,_,⟨m,ms,dc,I,ae⟩=>by subst dc;exact ae
 |i+1,e::es,_,⟨m,ms,dc,I,ae⟩=>by subst dc;exact⟨m,_,rfl,I,g0.del i ae⟩
theorem Av{r:Nat}{i:fO}{es:List eH}{clock:Nat}(au:bK μ H w)(hi:μ r=some i)(ar:H.get r=some (.map es clock)):∃ents,w.heap[i.bx]? =some (.map ⟨ents⟩ clock)/\g0 μ es ents/\(getObj i.bx).run P w=.ok (.map ⟨ents⟩ clock) w:=by
 obtain⟨ents,aG,aE⟩:=au.rel _ _ i ar hi
 exact⟨ents,aG,aE,by simp[getObj,Sem.run,aG]⟩
theorem vO{r:Nat}{i:fO}{es uh:List eH}{clock c':Nat}{ents ents':List MapEntry}(au:bK μ H w)(hi:μ r=some i)(ar:H.get r=some (.map es clock))(he:w.heap[i.bx]? =some (.map ⟨ents⟩ clock))(ao:g0 μ uh ents'):
  ∃w',(setObj i.bx (.map ⟨ents'⟩ c')).run P w=.ok () w'/\bK μ (H.set r (some (.map uh c'))) w'/\cA μ H w μ (H.set r (some (.map uh c'))) w':=by
 have cB:i.bx<w.heap.size:=(au.lt _ _ hi).2
 obtain⟨r1,r2⟩:=au.update (w':={w with heap:=w.heap.setIfInBounds i.bx (.map ⟨ents'⟩ c')}) (o':=.map uh c') ar rfl hi (by simp) (λr ao=>by simp[Array.getElem?_setIfInBounds];intro e;exact absurd e.symm ao) rfl rfl rfl
  ⟨ents',by simp[cB],ao⟩
 exact⟨_,by simp[setObj,Sem.run,he],r1,r2⟩
end
end bg
namespace bg
open Go
section
variable {P:Program} {μ:bI} {H:ab} {w:World}
theorem Mx{kI:TypeId}{ok:Bool}{r:Option (Nat×ad)}{r':Option (Nat×Value)}(ao:Dw μ r r'){v:ad}(h:rl P kI ok r=some v):
  ∃u b,bz μ v (if ok then .tuple #[u,.bool b] else u)/\((∃j,r'=some (j,u)/\b=true)\/(r'=none/\(zeroValue kI).run P w=.ok u w/\b=false)):=by
 cases r with
 |none=>
  cases r' with
  |some x=>exact ao.elim
  |none=>
   simp only[rl] at h
   split at h
   · rename_i z a7
     cases h
     obtain⟨gy,a8,rfl,_⟩:=nO (P:=P) (w:=w) a7
     have:=lO μ gy
     refine⟨gy,false,?_,.inr ⟨rfl,a8,rfl⟩⟩
     cases ok
     · exact this
     · exact⟨_,rfl,_,_,rfl,this,_,_,rfl,rfl,rfl⟩
   · cases h
 |some x=>
  cases r' with
  |none=>exact ao.elim
  |some y=>
   obtain⟨i,a⟩:=x
   obtain⟨j,u⟩:=y
   obtain⟨rfl,x1⟩:=ao
   simp only[rl] at h
   cases h
   refine⟨u,true,?_,.inl ⟨_,rfl,rfl⟩⟩
   cases ok
   · exact x1
   · exact⟨_,rfl,_,_,rfl,x1,_,_,rfl,rfl,rfl⟩
theorem U1(au:bK μ H w){t:TypeId}{m k:ad}{ie kv:Value}(hm:bz μ m ie)(ay:bz μ k kv){ok:Bool}{v:ad}(h:ho P H t m k ok=some v):fP P μ H w (Instr.lookup t ie kv ok) v H:=by
 unfold ho at h
 split at h
 · rename_i kt kI hu
   split at h
   · rename_i kL
     split at h
     · cases hm
       obtain⟨u,b,a8,a2⟩:=Mx (P:=P) (w:=w) (μ:=μ) (r:=none) (r':=none) trivial h
       refine .same au (v':=if ok then .tuple #[u,.bool b] else u) ?_ a8
       have hf:(Instr.findKey kt kv []).run P w=.ok none w:=by
        obtain⟨r',cu,cU⟩:=ug (P:=P) (w:=w) (μ:=μ) (es:=[]) (ents:=[]) (r:=none) au kL ay rfl rfl
        cases r' with
        |none=>exact cu
        |some x=>exact cU.elim
       rcases a2 with⟨j,e,_⟩|⟨_,a2,rfl⟩
       · cases e
       · simp[Instr.lookup,cl hu,rG kL ay,hf,a2]
     · rename_i r
       split at h
       · rename_i es clock ar
         split at h
         · rename_i dj hf
           obtain⟨i,hi,rfl⟩:=hm
           obtain⟨ents,aG,aE,bH⟩:=Av (P:=P) au hi ar
           obtain⟨r',cu,cU⟩:=ug (P:=P) (w:=w) au kL ay aE hf
           obtain⟨u,b,a8,a2⟩:=Mx (P:=P) (w:=w) (μ:=μ) cU h
           refine .same au (v':=if ok then .tuple #[u,.bool b] else u) ?_ a8
           rcases a2 with⟨j,rfl,rfl⟩|⟨rfl,a2,rfl⟩
           · simp[Instr.lookup,cl hu,rG kL ay,bH,cu]
           · simp[Instr.lookup,cl hu,rG kL ay,bH,cu,a2]
         · cases h
       · cases h
     · cases h
   · cases h
 · cases h
theorem My{k x:ad}{kv bR:Value}(n:Nat)(h:rj k x=some true)(I:bz μ k kv)(ae:bz μ x bR):Instr.sameBits n bR kv=true:=by
 cases k<;>cases x<;>simp only[rj] at h<;>try cases h
 · simp at h;subst h;cases I;cases ae;simp[Instr.sameBits]
 · split at h
   · rename_i e;subst e
     simp[fc] at h;subst h;cases I;cases ae;simp[Instr.sameBits]
   · cases h
 · simp only[Option.some.injEq] at h
   obtain⟨s1,rfl,rfl⟩:=I
   obtain⟨s2,rfl,rfl⟩:=ae
   rw[nP,<-ua,<-ua,<-beq_toListBytes] at h
   have:(s2==s1)=true:=by rw[beq_toListBytes] at h⊢;rw[beq_iff_eq] at h⊢;exact h.symm
   simpa[Instr.sameBits] using this
theorem Mz(n:Nat):∀(a b:List ad) (qw lQ:List Value),zY a b=true->cG μ a qw->cG μ b lQ->lQ.length=qw.length/\(lQ.zip qw).all (λ(x,y)=>Instr.sameBits n x y)=true
 |[],[],qw,lQ,_,I,ae=>by cases I;cases ae;exact⟨rfl,rfl⟩
 |[],_::_,_,_,h,_,_=>by cases h
 |_::_,[],_,_,h,_,_=>by cases h
 |x::a,y::b,_,_,h,⟨u,us,rfl,gO,j9⟩,⟨v,vs,rfl,v1,v2⟩=>by
  unfold zY at h
  split at h
  · rename_i al
    obtain⟨aG,aE⟩:=Mz n a b us vs h j9 v2
    refine⟨by simp[aG],?_⟩
    rw[List.zip_cons_cons,List.all_cons,aE,Bool.and_true]
    exact My n al gO v1
  · cases h
theorem MA{kt:TypeId}{k x:ad}{kv bR:Value}(h:rk P H kt k x=some true)(cL:tM k x=true)(I:bz μ k kv)(ae:bz μ x bR):Instr.sameBits 10000 bR kv=true:=by
 by_cases al:∀cs,k≠ .agg cs
 · rw[Mr al] at h
   exact My 10000 h I ae
 · have:∃cs,k=.agg cs:=by
     cases k<;>first|exact⟨_,rfl⟩|exact absurd (λcs h=>by cases h) al
   obtain⟨a,rfl⟩:=this
   have:∃b,x=.agg b:=by
    cases x<;>first|exact⟨_,rfl⟩|cases cL
   obtain⟨b,rfl⟩:=this
   obtain⟨qw,rfl,j9⟩:=I
   obtain⟨lQ,rfl,v2⟩:=ae
   have U2:zY a b=true:=cL
   obtain⟨aG,aE⟩:=Mz (μ:=μ) 9999 a b qw lQ U2 j9 v2
   show Instr.sameBits (9999+1) (.agg ⟨lQ⟩) (.agg ⟨qw⟩)=true
   generalize 9999=n at aE⊢
   simp only[Instr.sameBits]
   rw[aE,Bool.and_true]
   simp[aG]
theorem GK(l:List MapEntry)(i:Nat)(f:MapEntry->MapEntry):(⟨l⟩:Array MapEntry).modify i f=⟨l.modify i f⟩:=by
 apply Array.ext'
 simp
theorem MB(au:bK μ H w){t:TypeId}{m k x:ad}{ie kv bR:Value}(hm:bz μ m ie)(ay:bz μ k kv)(aa:bz μ x bR){a6:ab}(h:xN P H t m k x=some a6):
  ∃w',(Instr.mapUpdate t ie kv bR).run P w=.ok () w'/\bK μ a6 w'/\cA μ H w μ a6 w':=by
 unfold xN at h
 split at h
 · rename_i kt kI hu
   split at h
   · rename_i kL
     split at h
     · rename_i r
       split at h
       · rename_i es clock ar
         obtain⟨i,hi,rfl⟩:=hm
         obtain⟨ents,aG,aE,bH⟩:=Av (P:=P) au hi ar
         split at h
         · rename_i j a hf
           have vP:tM k (zZ j es)=true:=by
            cases ah:tM k (zZ j es) with
            |true=>rfl
            |false=>rw[ah] at h;cases h
           rw[vP] at h
           cases h
           obtain⟨r',cu,cU⟩:=ug (P:=P) (w:=w) au kL ay aE hf
           cases r' with
           |none=>exact cU.elim
           |some y=>
            obtain⟨j7,u⟩:=y
            obtain⟨rfl,x1⟩:=cU
            obtain⟨_,pJ,a8,a2,bX⟩:=GI es 0 j a hf
            obtain⟨nU,cT,dv⟩:=aE.get (by simpa using a8)
            have vP:tM k pJ.key=true:=by
             have:zZ j es=pJ.key:=by unfold zZ;rw[sx,show es[j]? =some pJ by simpa using a8]
             rw[<-this];exact vP
            have cL:(Instr.keyThatStays (((ents[j]?).map (·.key)).getD kv) kv).run P w=.ok kv w:=by
             simp only[Instr.keyThatStays,cT,Option.map_some,Option.getD_some,MA bX vP ay dv.1,if_true,Sem.run_pure]
            obtain⟨w',dS,gb,nV⟩:=vO (P:=P) (c':=clock) au hi ar aG (aE.set aa ay j)
            refine⟨w',?_,gb,nV⟩
            simp only[Instr.mapUpdate,Sem.run_bind,cl hu,Result.andThen_ok,bH,rG kL ay,cu,List.getElem?_toArray,cL,GK,dS]
         · rename_i hf
           cases h
           obtain⟨r',cu,cU⟩:=ug (P:=P) (w:=w) au kL ay aE hf
           cases r' with
           |some y=>exact cU.elim
           |none=>
            obtain⟨w',dS,gb,nV⟩:=vO (P:=P) (c':=clock+1) (ents':=ents++[⟨kv,bR,clock⟩]) au hi ar aG (aE.append (show g0 μ [⟨k,x,clock⟩] [⟨kv,bR,clock⟩] from⟨_,_,rfl,⟨ay,aa,rfl⟩,rfl⟩))
            refine⟨w',?_,gb,nV⟩
            simp only[Instr.mapUpdate,Sem.run_bind,cl hu,Result.andThen_ok,bH,rG kL ay,cu,List.push_toArray,dS]
         · cases h
       · cases h
     · cases h
   · cases h
 · cases h
theorem U3(au:bK μ H w){t:TypeId}{m k:ad}{ie kv:Value}(hm:bz μ m ie)(ay:bz μ k kv){v:ad}{a6:ab}(h:rm P H t m k=some (v,a6)):fP P μ H w (Instr.mapEntry t ie kv) v a6:=by
 unfold rm at h
 split at h
 · rename_i kt kI hu
   split at h
   · rename_i kL
     split at h
     · rename_i r
       split at h
       · rename_i es clock ar
         obtain⟨i,hi,rfl⟩:=hm
         obtain⟨ents,aG,aE,bH⟩:=Av (P:=P) au hi ar
         split at h
         · rename_i j a hf
           split at h
           · rename_i pJ rH
             have vP:tM k pJ.key=true:=by
              cases ah:tM k pJ.key with
              |true=>rfl
              |false=>rw[ah] at h;cases h
             rw[vP] at h
             cases h
             rw[sx] at rH
             obtain⟨r',cu,cU⟩:=ug (P:=P) (w:=w) au kL ay aE hf
             cases r' with
             |none=>exact cU.elim
             |some y=>
              obtain⟨j7,u⟩:=y
              obtain⟨rfl,x1⟩:=cU
              obtain⟨_,MC,a8,a2,bX⟩:=GI es 0 j a hf
              have:MC=pJ:=by
               have MD:es[j]? =some MC:=by simpa using a8
               rw[rH] at MD;cases MD;rfl
              subst this
              obtain⟨nU,cT,dv⟩:=aE.get rH
              have cL:(Instr.keyThatStays (((ents[j]?).map (·.key)).getD kv) kv).run P w=.ok kv w:=by
               simp only[Instr.keyThatStays,cT,Option.map_some,Option.getD_some,MA bX vP ay dv.1,if_true,Sem.run_pure]
              have vQ:g0 μ (so a k j es) (ents.modify j λe=>{e with key:=kv}):=by
               have al:=aE.set (v:=a) (vv:=nU.val) (key:=k) (kv:=kv) (by rw[<-a2];exact dv.2.1) ay j
               have:(ents.modify j λe=>{e with key:=kv,val:=nU.val})=(ents.modify j λe=>{e with key:=kv}):=by
                apply List.ext_getElem?
                intro q
                rw[List.getElem?_modify,List.getElem?_modify]
                by_cases aK:j=q
                · subst aK;rw[cT];simp
                · simp[aK]
               rw[<-this];exact al
              obtain⟨w',dS,gb,nV⟩:=vO (P:=P) (c':=clock) au hi ar aG vQ
              refine⟨μ,w',.tuple #[u,.int .i64 (nU.born:Int)],?_,⟨_,rfl,_,_,rfl,x1,_,_,rfl,by rw[dv.2.2];rfl,rfl⟩,gb,nV⟩
              rw[cT,Option.map_some,Option.getD_some] at cL
              simp only[Instr.mapEntry,Sem.run_bind,cl hu,Result.andThen_ok,bH,rG kL ay,cu,List.getElem?_toArray,cT,Option.map_some,Option.getD_some,cL,GK,dS,goInt,Sem.run_pure]
           · cases h
         · rename_i hf
           split at h
           · rename_i z a7
             cases h
             obtain⟨gy,Aw,rfl,_⟩:=nO (P:=P) (w:=w) a7
             obtain⟨r',cu,cU⟩:=ug (P:=P) (w:=w) au kL ay aE hf
             cases r' with
             |some y=>exact cU.elim
             |none=>
              obtain⟨w',dS,gb,nV⟩:=vO (P:=P) (c':=clock+1) (ents':=ents++[⟨kv,gy,clock⟩]) au hi ar aG (aE.append (show g0 μ [⟨k,qh gy,clock⟩] [⟨kv,gy,clock⟩] from⟨_,_,rfl,⟨ay,lO μ gy,rfl⟩,rfl⟩))
              refine⟨μ,w',.tuple #[gy,.int .i64 (clock:Int)],?_,⟨_,rfl,_,_,rfl,lO μ gy,_,_,rfl,rfl,rfl⟩,gb,nV⟩
              simp only[Instr.mapEntry,Sem.run_bind,cl hu,Result.andThen_ok,bH,rG kL ay,cu,Aw,List.push_toArray,dS,goInt,Sem.run_pure]
           · cases h
         · cases h
       · cases h
     · cases h
   · cases h
 · cases h
theorem ME{born:Int}:∀(es:List eH) (ents:List MapEntry) (i j:Nat) (e:eH),g0 μ es ents->vz born es i=some (j,e)->i<=j/\es[j-i]? =some e/\ents.findIdx? (λm=>(m.born:Int)==born)=some (j-i)
 |[],_,i,j,e,_,h=>by simp[vz] at h
 |x::es,_,i,j,e,⟨m,ms,aG,aE,bH⟩,h=>by
  subst aG
  simp only[vz] at h
  have ag:fc (Int.ofNat x.born) born=((m.born:Int)==born):=by rw[aE.2.2];rfl
  split at h
  · rename_i al
    cases h
    rw[ag] at al
    exact⟨Nat.le_refl _,by simp,by simp[List.findIdx?_cons,al]⟩
  · rename_i al
    rw[ag] at al
    obtain⟨a8,a2,bX⟩:=ME es ms (i+1) j e bH h
    have:j-i=(j-(i+1))+1:=by omega
    refine⟨by omega,by rw[this];simpa using a2,?_⟩
    rw[this]
    simp[List.findIdx?_cons,al,bX]
theorem U4(au:bK μ H w){t:TypeId}{m s x:ad}{ie pI bR:Value}(hm:bz μ m ie)(al:bz μ s pI)(aa:bz μ x bR){a6:ab}(h:rn H m s x=some a6):
  ∃w',(Instr.entryStore t ie pI bR).run P w=.ok () w'/\bK μ a6 w'/\cA μ H w μ a6 w':=by
 unfold rn at h
 split at h
 · rename_i r bq born
   split at h
   · rename_i es clock ar
     split at h
     · rename_i j pJ ag
       cases h
       cases al
       obtain⟨i,hi,rfl⟩:=hm
       obtain⟨ents,aG,aE,bH⟩:=Av (P:=P) au hi ar
       obtain⟨_,a8,a2⟩:=ME es ents 0 j pJ aE ag
       obtain⟨nU,cT,dv⟩:=aE.get (by simpa using a8)
       have vQ:g0 μ (so x pJ.key j es) (ents.modify j λe=>{e with val:=bR}):=by
        have al:=aE.set (v:=x) (vv:=bR) (key:=pJ.key) (kv:=nU.key) aa dv.1 j
        have:(ents.modify j λe=>{e with key:=nU.key,val:=bR})=(ents.modify j λe=>{e with val:=bR}):=by
         apply List.ext_getElem?
         intro q
         rw[List.getElem?_modify,List.getElem?_modify]
         by_cases aK:j=q
         · subst aK;rw[cT];simp
         · simp[aK]
        rw[<-this];exact al
       obtain⟨w',dS,gb,nV⟩:=vO (P:=P) (c':=clock) au hi ar aG vQ
       refine⟨w',?_,gb,nV⟩
       have U5:(⟨ents⟩:Array MapEntry).findIdx? (λe=>(e.born:Int)==born)=some j:=by
        have:=a2
        simp only[Nat.sub_zero] at this
        rw[<-this];simp
       simp only[Instr.entryStore,Sem.run_bind,Result.andThen_ok,bH,asInt,asIntOf,Sem.run_pure,U5,GK,dS]
     · cases h
   · cases h
 · cases h
theorem U6(au:bK μ H w){argTypes:Array TypeId}{ty t:TypeId}(h0:argTypes[0]? =some t){m k:ad}{ie kv:Value}(hm:bz μ m ie)(ay:bz μ k kv){v:ad}{a6:ab}(h:rp P H t m k=some (v,a6)):
  fP P μ H w (Builtin.delete_ argTypes ty #[ie,kv]) v a6:=by
 unfold rp at h
 split at h
 · rename_i kt kI hu
   split at h
   · rename_i kL
     split at h
     · cases h;cases hm
       refine .same au (v':=.tuple #[]) ?_ ⟨[],rfl,rfl⟩
       simp[Builtin.delete_,h0,cl hu,rG kL ay]
     · rename_i r
       split at h
       · rename_i es clock ar
         obtain⟨i,hi,rfl⟩:=hm
         obtain⟨ents,aG,aE,bH⟩:=Av (P:=P) au hi ar
         split at h
         · rename_i j a hf
           cases h
           obtain⟨r',cu,cU⟩:=ug (P:=P) (w:=w) au kL ay aE hf
           cases r' with
           |none=>exact cU.elim
           |some y=>
            obtain⟨j7,u⟩:=y
            obtain⟨rfl,x1⟩:=cU
            obtain⟨w',dS,gb,nV⟩:=vO (P:=P) (c':=clock) au hi ar aG (aE.del j)
            refine⟨μ,w',.tuple #[],?_,⟨[],rfl,rfl⟩,gb,nV⟩
            have he:(⟨ents⟩:Array MapEntry).eraseIdxIfInBounds j=⟨ents.eraseIdx j⟩:=by
             apply Array.ext'
             simp
            simp[Builtin.delete_,h0,cl hu,rG kL ay,bH,cu,he,dS]
         · rename_i hf
           cases h
           obtain⟨r',cu,cU⟩:=ug (P:=P) (w:=w) au kL ay aE hf
           cases r' with
           |some y=>exact cU.elim
           |none=>
            obtain⟨w',dS,gb,nV⟩:=vO (P:=P) (c':=clock) au hi ar aG aE
            refine⟨μ,w',.tuple #[],?_,⟨[],rfl,rfl⟩,gb,nV⟩
            simp[Builtin.delete_,h0,cl hu,rG kL ay,bH,cu,dS]
         · cases h
       · cases h
     · cases h
   · cases h
 · cases h
theorem U7(au:bK μ H w){t:TypeId}:fP P μ H w (Instr.makeMap t none) (.map H.n) (H.push (.map [] 0)):=by
 obtain⟨r1,r2⟩:=au.alloc (.map [] 0) (.map #[] 0) 0 ⟨[],World.heap_alloc_new _ _,rfl⟩
 exact⟨_,_,.map (some w.heap.size),rfl,⟨_,hy _ _ _,rfl⟩,r1,r2⟩
theorem U8(au:bK μ H w){t kt kI:TypeId}{k:IntKind}{n:Int}(hu:P.underlying t=some (.map kt kI)):fP P μ H w (Instr.makeMap t (some (.int k n))) (.map H.n) (H.push (.map [] 0)):=by
 obtain⟨r1,r2⟩:=au.alloc (.map [] 0) (.map #[] 0) 0 ⟨[],World.heap_alloc_new _ _,rfl⟩
 refine⟨_,_,.map (some w.heap.size),?_,⟨_,hy _ _ _,rfl⟩,r1,r2⟩
 simp only[Instr.makeMap,Sem.run_bind,cl hu,Result.andThen_ok,asInt,asIntOf,Sem.run_pure,run_newObj]
 rfl
theorem U9(au:bK μ H w){t:TypeId}(hu:P.underlying t=some .string){s:List UInt8}{bR:Value}(aa:bz μ (.str s) bR):fP P μ H w (Instr.range t bR) (.ptr H.n 0) (H.push (.tJ s 0)):=by
 obtain⟨bs,rfl,rfl⟩:=aa
 obtain⟨r1,r2⟩:=au.alloc (.tJ bs.data.toList 0) (.stringIter bs 0) 0 ⟨rfl,bs,World.heap_alloc_new _ _,rfl⟩
 refine⟨_,_,.pointer (some ⟨w.heap.size,0,none⟩),?_,⟨_,hy _ _ _,rfl⟩,r1,r2⟩
 simp only[Instr.range,Sem.run_bind,cl hu,Result.andThen_ok,Sem.run_pure,run_newObj]
 rfl
theorem U_(au:bK μ H w){t kt kI:TypeId}(hu:P.underlying t=some (.map kt kI)){bR:Value}(aa:bz μ .jw bR):fP P μ H w (Instr.range t bR) (.ptr H.n 0) (H.push (.mapIter none 0 [] 0)):=by
 cases aa
 obtain⟨r1,r2⟩:=au.alloc (.mapIter none 0 [] 0) (.mapIter none 0 #[] 0) 0 ⟨rfl,World.heap_alloc_new _ _⟩
 refine⟨_,_,.pointer (some ⟨w.heap.size,0,none⟩),?_,⟨_,hy _ _ _,rfl⟩,r1,r2⟩
 simp only[Instr.range,Sem.run_bind,cl hu,Result.andThen_ok,Sem.run_pure,run_newObj]
 rfl
def Va(at':Nat->Nat)(lt:Nat->Bool):Nat×Nat:=
 let cont (k:Nat):Bool:=lt k&&at' k/64==2
 let c2:=at' 0
 if c2<0x80 then(c2,1)
 else if c2/32==6&&cont 1 then
  let c:=(c2 %32)*64+at' 1 %64
  if c>=0x80 then(c,2) else(Utf8.runeError,1)
 else if c2/16==14&&cont 1&&cont 2 then
  let c:=(c2 %16)*4096+(at' 1 %64)*64+at' 2 %64
  if c>=0x800&&Utf8.valid c then(c,3) else(Utf8.runeError,1)
 else if c2/8==30&&cont 1&&cont 2&&cont 3 then
  let c:=(c2 %8)*262144+(at' 1 %64)*4096+(at' 2 %64)*64+at' 3 %64
  if c>=0x10000&&Utf8.valid c then(c,4) else(Utf8.runeError,1)
 else(Utf8.runeError,1)
theorem MF(s:ByteArray)(i:Nat):Utf8.decode s i=Va (λk=>(s.get! (i+k)).toNat) (λk=>decide (i+k<s.size)):=rfl
theorem Vb(full:ByteArray)(pos:Nat)(a0:pos<=full.size):Utf8.decode full pos=Utf8.decode ⟨(full.data.toList.drop pos).toArray⟩ 0:=by
 have nT:full.data.toList.length=full.size:=Array.length_toList
 have bJ:(⟨(full.data.toList.drop pos).toArray⟩:ByteArray).size=full.size-pos:=by
  show((full.data.toList.drop pos).toArray).size=_
  rw[List.size_toArray,List.length_drop,nT]
 have h2:∀k,full.get! (pos+k)=(⟨(full.data.toList.drop pos).toArray⟩:ByteArray).get! (0+k):=λk=>by
  show full.data[pos+k]! =((full.data.toList.drop pos).toArray)[0+k]!
  rw[Nat.zero_add]
  rw[getElem!_def,getElem!_def]
  have:((full.data.toList.drop pos).toArray)[k]? =full.data[pos+k]? :=by
   rw[List.getElem?_toArray,List.getElem?_drop,Array.getElem?_toList]
  rw[this]
 rw[MF,MF]
 have aV:(λk=>(full.get! (pos+k)).toNat)=(λk=>((⟨(full.data.toList.drop pos).toArray⟩:ByteArray).get! (0+k)).toNat):=by
  funext k;rw[h2 k]
 have ag:(λk=>decide (pos+k<full.size))=(λk=>decide (0+k<(⟨(full.data.toList.drop pos).toArray⟩:ByteArray).size)):=by
  funext k
  exact decide_eq_decide.2 (by rw[bJ];omega)
 rw[aV,ag]
theorem Vc(au:bK μ H w){t:TypeId}{it:ad}{sI:Value}(hi:bz μ it sI){b:Bool}{v:ad}{a6:ab}(h:C8 H it b=some (v,a6)):fP P μ H w (Instr.next sI b t) v a6:=by
 unfold C8 at h
 split at h
 · rename_i r
   obtain⟨i,jd,rfl⟩:=hi
   split at h
   · rename_i s pos ar
     obtain⟨c6,full,aG,aE⟩:=au.rel _ _ i ar jd
     obtain⟨iz,i0,Ax⟩:=i
     simp only at c6;subst c6
     have h2:(getObj iz).run P w=.ok (.stringIter full pos) w:=by simp[getObj,Sem.run,aG]
     have nT:full.data.toList.length=full.size:=Array.length_toList
     have j_:=congrArg List.length aE
     rw[List.length_drop,nT] at j_
     split at h
     · cases h
       have aH:¬pos<full.size:=by simp at j_;omega
       exact .same au (v':=.tuple #[.bool false]) (by simp[Instr.next,h2,aH]) ⟨_,rfl,_,_,rfl,rfl,rfl⟩
     · rename_i dr
       have cB:pos<full.size:=by
        rcases Nat.lt_or_ge pos full.size with h|h
        · exact h
        · exfalso;apply dr
          exact List.length_eq_zero_iff.1 (by omega)
       have MG:Utf8.decode full pos=Gi s:=by rw[Vb full pos (by omega),aE];rfl
       generalize Gi s=Vd at MG h
       obtain⟨c,wd⟩:=Vd
       cases h
       have GL:iz<w.heap.size:=(au.lt _ _ jd).2
       obtain⟨r1,r2⟩:=au.update (w':={w with heap:=w.heap.setIfInBounds iz (.stringIter full (pos+wd))}) (o':=.tJ (j4 wd s) (pos+wd)) ar rfl jd (by simp) (λr ao=>by simp[Array.getElem?_setIfInBounds];intro e;exact absurd e.symm ao) rfl rfl rfl
        ⟨rfl,full,by simp[GL],by rw[pB,<-aE,List.drop_drop]⟩
       refine⟨μ,_,.tuple #[.bool true,.int .i64 (pos:Int),.int .i32 (c:Int)],?_,⟨_,rfl,_,_,rfl,rfl,_,_,rfl,rfl,_,_,rfl,rfl,rfl⟩,r1,r2⟩
       have md:(setObj iz (.stringIter full (pos+wd))).run P w=.ok () {w with heap:=w.heap.setIfInBounds iz (.stringIter full (pos+wd))}:=by simp[setObj,Sem.run,aG]
       simp[Instr.next,h2,cB,MG,md,goInt]
   · rename_i since seen last ar
     cases h
     obtain⟨c6,aG⟩:=au.rel _ _ i ar jd
     obtain⟨iz,i0,Ax⟩:=i
     simp only at c6;subst c6
     have x2:w.heap[iz]? =some (.mapIter none since ⟨seen⟩ last):=aG
     have h2:(getObj iz).run P w=.ok (.mapIter none since ⟨seen⟩ last) w:=by simp[getObj,Sem.run,x2]
     exact .same au (v':=.tuple #[.bool false]) (by simp[Instr.next,h2]) ⟨_,rfl,_,_,rfl,rfl,rfl⟩
   · cases h
 · cases h
theorem MH:∀(es:List eH) (ms:List MapEntry) (b:Nat) (e:eH),g0 μ es ms->vA b es=some e->∃m,ms.find? (λx=>x.born==b)=some m/\tU μ e m
 |[],ms,b,e,ao,h=>by simp[vA] at h
 |x::es,ms,b,e,ao,h=>by
  obtain⟨m,Ve,rfl,I,ae⟩:=ao
  unfold vA at h
  rw[List.find?_cons,<-I.2.2]
  cases ag:Nat.beq x.born b with
  |true=>
   rw[ag] at h
   cases h
   have:x.born=b:=Nat.eq_of_beq_eq_true ag
   rw[this]
   simp only[beq_self_eq_true]
   exact⟨m,rfl,I⟩
  |false=>
   rw[ag] at h
   have:(x.born==b)=false:=by
    cases ah:x.born==b with
    |false=>rfl
    |true=>rw[beq_iff_eq.1 ah] at ag;rw[Nat.beq_refl] at ag;cases ag
   rw[this]
   exact MH es Ve b e ae h
theorem GM:∀(l:List Nat),z1 l=l.getLast?
 |[]=>rfl
 |[b]=>rfl
 |a::b::l=>by
  show z1 (b::l)=_
  rw[GM (b::l),List.getLast?_cons_cons]
theorem Vf(au:bK μ H w){it:ad}{sI:Value}(hi:bz μ it sI){v:ad}(h:vB H it=some v):fP P μ H w (Instr.entry sI) v H:=by
 unfold vB at h
 split at h
 · rename_i r
   obtain⟨i,jd,rfl⟩:=hi
   split at h
   · rename_i m since seen last ar
     obtain⟨c6,j,aO,aG⟩:=au.rel _ _ i ar jd
     obtain⟨iz,i0,Ax⟩:=i
     simp only at c6;subst c6
     have x2:w.heap[iz]? =some (.mapIter (some j.bx) since ⟨seen⟩ last):=aG
     split at h
     · rename_i es clock b Ay Vg
       obtain⟨ents,f1,f2⟩:=au.rel _ _ j Ay aO
       split at h
       · rename_i jb
         have jb:clock=last:=Nat.eq_of_beq_eq_true jb
         split at h
         · rename_i e GN
           cases h
           obtain⟨GO,ak,av⟩:=MH es ents b e f2 GN
           have h2:(getObj iz).run P w=.ok (.mapIter (some j.bx) since ⟨seen⟩ last) w:=by simp[getObj,Sem.run,x2]
           have Dx:(getObj j.bx).run P w=.ok (.map ⟨ents⟩ clock) w:=by simp[getObj,Sem.run,f1]
           have Vh:(⟨seen⟩:Array Nat).back?=some b:=by
            rw[<-Vg,GM];simp
           have Az:(⟨ents⟩:Array MapEntry).find? (λx=>x.born==b)=some GO:=by rw[<-ak];simp
           refine .same au (v':=.tuple #[GO.key,GO.val]) ?_ ⟨_,rfl,_,_,rfl,av.1,_,_,rfl,av.2.1,rfl⟩
           have dr:(clock !=last)=false:=by simp[jb]
           simp only[Instr.entry,Sem.run_bind,h2,Result.andThen_ok,Vh,Dx,dr,Bool.false_eq_true,if_false,Az]
           rfl
         · cases h
       · cases h
     · cases h
   · cases h
 · cases h
end
end bg
namespace bg
open Go
section
variable {P:Program} {μ:bI} {H:ab} {w:World}
theorem Vi(k:IntKind)(x y:Int){v:ad}(h:arith .xor k x y=some v):∃u,(Op.intBits .xor k x y).run P w=.ok u w/\bz μ v u:=by
 simp only[arith] at h;cases h;exact⟨_,rfl,rfl⟩
theorem Vj{x:Value}{b:Bool}(aa:bz μ (.bool b) x):∃u,(Op.unary .not x).run P w=.ok u w/\bz μ (.bool (!b)) u:=by
 cases aa;exact⟨_,rfl,rfl⟩
theorem Vk{x:Value}{k:IntKind}{n:Int}(aa:bz μ (.int k n) x):∃u,(Op.unary .neg x).run P w=.ok u w/\bz μ (.int k (k.wrap (0-n))) u:=by
 cases aa;exact⟨_,rfl,rfl⟩
theorem Vl{x:Value}{k:IntKind}{n:Int}{v:ad}(aa:bz μ (.int k n) x)(h:arith .xor k (if k.signed then-1 else k.max) n=some v):∃u,(Op.unary .xor x).run P w=.ok u w/\bz μ v u:=by
 cases aa;exact Vi k _ n h
def vR:Value->Bool
 |.int _ _|.float _ _|.complex _ _ _|.string _=>true
 |_=>false
theorem binOp_eql(t:TypeId){x y:Value}(h:vR x=false):binOp .eql t x y=(do pure (.bool (<-Op.equal t x y))):=by
 cases x<;>simp[vR] at h<;>cases y<;>rfl
theorem binOp_neq(t:TypeId){x y:Value}(h:vR x=false):binOp .neq t x y=(do pure (.bool (!(<-Op.equal t x y)))):=by
 cases x<;>simp[vR] at h<;>cases y<;>rfl
theorem MI:∀{d:Nat} {t:TypeId} {x y:ad} {b:Bool} {bR:Value},gZ P H d t x y=some b->(∀j a k c,¬(x=.int j a/\y=.int k c))->(∀a c,¬(x=.str a/\y=.str c))->bz μ x bR->vR bR=false:=by
 intro d t x y b bR h hi al aa
 cases d with
 |zero=>simp[gZ] at h
 |succ d=>
  cases x with
  |bad=>unfold gZ at h;split at h<;>simp at h
  |int j a=>
   unfold gZ at h
   split at h
   all_goals first
    |(cases y<;>simp at h;done)
    |(cases y<;>simp at h;exact absurd ⟨rfl,rfl⟩ (hi _ _ _ _))
    |cases h
  |str a=>
   unfold gZ at h
   split at h
   all_goals first
    |(cases y<;>simp at h;done)
    |(cases y<;>simp at h;exact absurd ⟨rfl,rfl⟩ (al _ _))
    |cases h
  |bool b=>cases aa;rfl
  |aX=>cases aa;rfl
  |ptr b off=>obtain⟨i,_,rfl⟩:=aa;rfl
  |aP=>cases aa;rfl
  |slice b off n c=>
   obtain⟨i,_,ah⟩:=aa
   cases c with
   |exact c=>cases ah;rfl
   |aL hK=>obtain⟨c,rfl,_⟩:=ah;rfl
   |dead=>obtain⟨_,a,c,rfl⟩:=ah;rfl
  |jw=>cases aa;rfl
  |map r=>obtain⟨i,_,rfl⟩:=aa;rfl
  |gW=>cases aa;rfl
  |fn f a b=>obtain⟨_,_,rfl,_⟩:=aa;rfl
  |eb l=>obtain⟨i,_,rfl⟩:=aa;rfl
  |fU=>cases aa;rfl
  |iface t x=>obtain⟨_,rfl,_⟩:=aa;rfl
  |agg cs=>obtain⟨_,rfl,_⟩:=aa;rfl
  |aR cs=>obtain⟨_,rfl,_⟩:=aa;rfl
theorem MJ{op:BinOp}(h:op≠ .eql)(aw:op≠ .neq)(t:TypeId)(l8 l9:Operand)(a b:Value):(eqGuard op t l8 l9 a b).run P w=.ok () w:=by
 cases op<;>first|exact absurd rfl h|exact absurd rfl aw|simp[eqGuard]
def ui:Value->Nat
 |.nilIface=>1
 |.agg _=>2
 |_=>0
theorem GP{op:BinOp}(eM:op=.eql\/op=.neq){t:TypeId}{l8 l9:Operand}{a b:Value}(h:ui a=0\/ui a≠ui b):(eqGuard op t l8 l9 a b).run P w=.ok () w:=by
 rcases eM with rfl|rfl<;>(cases a<;>first|rfl|(cases b<;>first|rfl|simp[ui] at h))
def vS:ad->Nat
 |.fU=>1
 |.agg _=>2
 |_=>0
theorem MK{x:ad}{a:Value}(aa:bz μ x a)(ag:x≠ .bad):ui a=vS x:=by
 cases x with
 |bad=>exact absurd rfl ag
 |bool b=>cases aa;rfl
 |int k n=>cases aa;rfl
 |str s=>obtain⟨_,rfl,_⟩:=aa;rfl
 |aX=>cases aa;rfl
 |ptr b off=>obtain⟨i,_,rfl⟩:=aa;rfl
 |aP=>cases aa;rfl
 |slice b off n c=>
  obtain⟨i,_,ah⟩:=aa
  cases c with
  |exact c=>cases ah;rfl
  |aL hK=>obtain⟨c,rfl,_⟩:=ah;rfl
  |dead=>obtain⟨_,a,c,rfl⟩:=ah;rfl
 |jw=>cases aa;rfl
 |map r=>obtain⟨i,_,rfl⟩:=aa;rfl
 |gW=>cases aa;rfl
 |fn f a b=>obtain⟨_,_,rfl,_⟩:=aa;rfl
 |eb l=>obtain⟨i,_,rfl⟩:=aa;rfl
 |fU=>cases aa;rfl
 |iface t x=>obtain⟨_,rfl,_⟩:=aa;rfl
 |agg cs=>obtain⟨_,rfl,_⟩:=aa;rfl
 |aR cs=>obtain⟨_,rfl,_⟩:=aa;rfl
theorem ML{op:BinOp}(eM:op=.eql\/op=.neq){t:TypeId}{l8 l9:Operand}{x y:ad}{a b:Value}(aa:bz μ x a)(aZ:bz μ y b)(sJ:x≠ .bad)(AA:y≠ .bad)(h:tK P t l8 l9 x y=true):
  (eqGuard op t l8 l9 a b).run P w=.ok () w:=by
 have MM:=MK aa sJ
 have GQ:=MK aZ AA
 by_cases ao:ui a=0\/ui a≠ui b
 · exact GP eM ao
 · have I:vS x≠0:=λe=>ao (.inl (MM.trans e))
   have ae:vS x=vS y:=by
    rw[<-MM,<-GQ];exact Classical.byContradiction λe=>ao (.inr e)
   cases x<;>simp[vS] at I
   · cases y<;>simp[vS] at ae
     cases aa;cases aZ
     simp only[tK] at h
     rcases eM with rfl|rfl<;>(cases l8<;>cases l9<;>first|rfl|simp at h)
   · cases y<;>simp[vS] at ae
     obtain⟨bt,rfl,_⟩:=aa
     obtain⟨bw,rfl,_⟩:=aZ
     simp only[tK,Bool.not_eq_true'] at h
     rcases eM with rfl|rfl<;>simp[eqGuard,h]
theorem MN{d:Nat}{t:TypeId}{x y:ad}{b:Bool}(h:gZ P H d t x y=some b):x≠ .bad/\y≠ .bad:=by
 cases d with
 |zero=>simp[gZ] at h
 |succ d=>
  constructor
  · rintro rfl;unfold gZ at h;split at h<;>simp at h
  · rintro rfl;unfold gZ at h;split at h<;>(try cases x)<;>simp at h
theorem Vm(au:bK μ H w){op:BinOp}{t yt:TypeId}{l8 l9:Operand}{x y v:ad}{bR hB:Value}(aa:bz μ x bR)(aZ:bz μ y hB)(h:ec P H op t l8 l9 x y=some v):
  ∃u,(do eqGuard op t l8 l9 bR hB;binOp op t bR hB:Sem Value).run P w=.ok u w/\bz μ v u:=by
 unfold ec at h
 split at h
 · rename_i k a cO b
   cases aa;cases aZ
   have ar:(eqGuard op t l8 l9 (.int k a) (.int cO b)).run P w=.ok () w:=by
    by_cases eM:op=.eql\/op=.neq
    · exact GP eM (.inl rfl)
    · exact MJ (λe=>eM (.inl e)) (λe=>eM (.inr e)) t l8 l9 _ _
   simp only[Sem.run_bind,ar,Result.andThen_ok]
   split at h
   · exact L2 h t
   · exact L2 h t
   · rename_i I ae
     split at h
     · rename_i ay;subst ay
       exact T9 h ⟨I,ae⟩ t
     · cases h
 · rename_i a b
   obtain⟨s1,rfl,rfl⟩:=aa
   obtain⟨s2,rfl,rfl⟩:=aZ
   have ar:(eqGuard op t l8 l9 (.string s1) (.string s2)).run P w=.ok () w:=by
    by_cases eM:op=.eql\/op=.neq
    · exact GP eM (.inl rfl)
    · exact MJ (λe=>eM (.inl e)) (λe=>eM (.inr e)) t l8 l9 _ _
   simp only[Sem.run_bind,ar,Result.andThen_ok]
   exact Ua h t
 · rename_i eN ig
   split at h
   · split at h
     · rename_i di
       split at h
       · rename_i b he
         cases h
         obtain⟨bn,bo⟩:=MN he
         have ar:=ML (w:=w) (op:=.eql) (.inl rfl) aa aZ bn bo di
         have aH:vR bR=false:=MI he (λj a k c e=>eN j a k c e.1 e.2) (λa c e=>ig a c e.1 e.2) aa
         have ao:=vN (P:=P) au 100 t x y b bR hB Op.maxDepth (by decide) he aa aZ
         refine⟨.bool b,?_,rfl⟩
         simp only[Sem.run_bind,ar,Result.andThen_ok,binOp_eql t aH,Op.equal,ao,Sem.run_pure]
       · cases h
     · cases h
   · split at h
     · rename_i di
       split at h
       · rename_i b he
         cases h
         obtain⟨bn,bo⟩:=MN he
         have ar:=ML (w:=w) (op:=.neq) (.inr rfl) aa aZ bn bo di
         have aH:vR bR=false:=MI he (λj a k c e=>eN j a k c e.1 e.2) (λa c e=>ig a c e.1 e.2) aa
         have ao:=vN (P:=P) au 100 t x y b bR hB Op.maxDepth (by decide) he aa aZ
         refine⟨.bool (!b),?_,rfl⟩
         simp only[Sem.run_bind,ar,Result.andThen_ok,binOp_neq t aH,Op.equal,ao,Sem.run_pure]
       · cases h
     · cases h
   · cases h
theorem Vn{t:TypeId}{d:TypeDesc}(hu:P.underlying t=some d)(eN:∀m,d≠ .interface m){x:ad}{bR:Value}(aa:bz μ x bR):
  (Instr.makeInterface t bR).run P w=.ok (.iface t bR) w:=by
 simp only[Instr.makeInterface,Sem.run_bind,cl hu,Result.andThen_ok]
 cases d<;>first|rfl|exact absurd rfl (eN _)
theorem MO{xT as:TypeId}{ok:Bool}{d:TypeDesc}(hu:P.underlying as=some d)(eN:∀m,d≠ .interface m){x:ad}{bR:Value}(aa:bz μ x bR):
  (∀z,x=.fU->ok=true->eT P as=some z->∃u,(Instr.typeAssert bR xT as ok).run P w=.ok u w/\bz μ (.aR [z,.bool false]) u)/\
  (∀v,x=.iface as v->∃u,(Instr.typeAssert bR xT as ok).run P w=.ok u w/\bz μ (if ok then .aR [v,.bool true] else v) u)/\
  (∀t v z,x=.iface t v->t≠as->ok=true->eT P as=some z->∃u,(Instr.typeAssert bR xT as ok).run P w=.ok u w/\bz μ (.aR [z,.bool false]) u):=by
 refine⟨λz ng di a7=>?_,λv ng=>?_,λt v z ng dr di a7=>?_⟩
 · subst ng;cases aa;subst di
   obtain⟨gy,Aw,rfl,_⟩:=nO (P:=P) (w:=w) a7
   refine⟨.tuple #[gy,.bool false],?_,⟨_,rfl,_,_,rfl,lO μ gy,_,_,rfl,rfl,rfl⟩⟩
   simp only[Instr.typeAssert,Sem.run_bind,cl hu,Result.andThen_ok]
   cases d<;>first|exact absurd rfl (eN _)|simp[Aw]
 · subst ng;obtain⟨y,rfl,aZ⟩:=aa
   refine⟨if ok then .tuple #[y,.bool true] else y,?_,?_⟩
   · simp only[Instr.typeAssert,Sem.run_bind,cl hu,Result.andThen_ok]
     cases d<;>first|exact absurd rfl (eN _)|simp
   · cases ok
     · exact aZ
     · exact⟨_,rfl,_,_,rfl,aZ,_,_,rfl,rfl,rfl⟩
 · subst ng;obtain⟨y,rfl,aZ⟩:=aa;subst di
   obtain⟨gy,Aw,rfl,_⟩:=nO (P:=P) (w:=w) a7
   refine⟨.tuple #[gy,.bool false],?_,⟨_,rfl,_,_,rfl,lO μ gy,_,_,rfl,rfl,rfl⟩⟩
   simp only[Instr.typeAssert,Sem.run_bind,cl hu,Result.andThen_ok]
   cases d<;>first|exact absurd rfl (eN _)|simp[Aw,dr]
theorem Vo{vs:List ad}{x:Value}{i:Nat}{v:ad}(aa:bz μ (.aR vs) x)(h:nth i vs=some v):∃u,(Instr.extract x i).run P w=.ok u w/\bz μ v u:=by
 obtain⟨l,rfl,aA⟩:=aa
 rw[sx] at h
 obtain⟨u,hu,ao⟩:=aA.get h
 refine⟨u,?_,ao⟩
 simp[Instr.extract,hu]
theorem MP{r el:Nat}{c:Array Value}{dj:Nat×Nat}(h:w.heap[r]? =some (.cells c el dj)):(viewAt r).run P w=.ok none w:=by
 simp[viewAt,World.shape?,h]
theorem Vp(au:bK μ H w){src dst u:TypeId}{b off n:Nat}{cs:List ad}{el lo hi:Nat}{k:hb}(al:P.underlying src=some (.pointer u))(ai:P.underlying dst=some .unsafePointer)
  (a7:ef P u=some (n+1))(ar:H.get b=some (.cells cs el k lo hi))(cB:off<cs.length){x:Value}(aa:bz μ (.ptr b off) x):(convert src dst x).run P w=.ok x w:=by
 obtain⟨i,hi,rfl⟩:=aa
 obtain⟨c,ht,hv,aG,aE,bH,eu⟩:=au.rel _ _ i ar hi
 obtain⟨v,aI⟩:∃v,cs[off]? =some v:=⟨_,List.getElem?_eq_getElem cB⟩
 obtain⟨Vq,hu,_⟩:=aE off v aI
 have gp:i.base+off<c.size:=by
  rcases Nat.lt_or_ge (i.base+off) c.size with h|h
  · exact h
  · rw[Array.getElem?_eq_none h] at hu;cases hu
 have qs:(Conv.seenAt ⟨i.bx,i.base+off,none⟩).run P w=.ok ⟨i.bx,i.base+off,none⟩ w:=by
  simp[Conv.seenAt,MP aG]
 have MQ:(cellsIn i.bx).run P w=.ok (some c.size) w:=by simp[cellsIn,World.shape?,aG]
 have vI:¬(c.size<=i.base+off):=by omega
 simp[convert,cl al,cl ai,Conv.unsafePointer,qs,MQ,run_sizeOf a7,vI]
theorem Vr(au:bK μ H w){src dst u:TypeId}{b off n:Nat}{cs:List ad}{el lo hi:Nat}(al:P.underlying src=some .unsafePointer)(ai:P.underlying dst=some (.pointer u))
  (a7:ef P u=some (n+1))(ar:H.get b=some (.cells cs el .own lo hi))(aA:liesAt P P.depth el (cs.length/P.cellsOf el) off u 1=true){x:Value}(aa:bz μ (.ptr b off) x):(convert src dst x).run P w=.ok x w:=by
 obtain⟨i,hi,rfl⟩:=aa
 obtain⟨c,ht,hv,aG,aE,bH,eu,eZ,_⟩:=au.rel _ _ i ar hi
 have ah:c.size=cs.length:=by omega
 have qs:(Conv.seenAt ⟨i.bx,i.base+off,none⟩).run P w=.ok ⟨i.bx,i.base+off,none⟩ w:=by
  simp[Conv.seenAt,MP aG]
 have mO:(variablesAt ⟨i.bx,i.base+off,none⟩ u 1).run P w=.ok true w:=by
  simp[variablesAt,World.shape?,aG,eu,ah,aA]
 simp[convert,cl al,cl ai,Conv.unsafePointer,qs,run_sizeOf a7,mO]
end
end bg
namespace bg
open Go
section
variable {P:Program} {μ:bI} {H:ab} {w:World}
theorem MR(au:bK μ H w){b:Nat}{i:fO}(hi:μ b=some i){cs:List ad}{el lo fi:Nat}{k:hb}(ar:H.get b=some (.cells cs el k lo fi)):
  ∀(n off:Nat) (r:List ad) (bs:List UInt8) (acc:ByteArray),takeN n (j4 off cs)=some r->pw r=some bs->
   (loadBytes ⟨i.bx,i.base+off,none⟩ acc n).run P w=.ok ⟨acc.data++bs.toArray⟩ w
 |0,off,r,bs,acc,h,ag=>by
  simp only[takeN] at h;cases h
  simp only[pw] at ag;cases ag
  simp[loadBytes]
 |n+1,off,r,bs,acc,h,ag=>by
  rw[pB] at h
  cases ai:cs.drop off with
  |nil=>rw[ai] at h;simp[takeN] at h
  |cons a l=>
   rw[ai] at h
   simp only[takeN] at h
   cases bm:takeN n l with
   |none=>rw[bm] at h;cases h
   |some r'=>
    rw[bm] at h;cases h
    unfold pw at ag
    split at ag
    · rename_i heq;cases heq
    · rename_i m nW heq
      cases heq
      split at ag
      · rename_i Vs hm kK
        cases ag
        have MS:cs[off]? =some (.int .u8 (Int.ofNat m)):=by
         have:=congrArg List.head? ai
         simpa[List.head?_drop] using this
        have aA:l=cs.drop (off+1):=by
         have:=congrArg List.tail ai
         simpa[List.tail_drop] using this.symm
        obtain⟨u,I,ae⟩:=Gr (P:=P) (off:=off) au hi (show aq H b off=some (.int .u8 (Int.ofNat m)) by simp[aq,ar,sx,MS])
        cases ae
        have bl:=MR au hi ar n (off+1) r' Vs (acc.push (UInt8.ofNat m)) (by rw[pB,<-aA];exact bm) kK
        have e:(⟨i.bx,i.base+off,none⟩:Addr).add 1=⟨i.bx,i.base+(off+1),none⟩:=by simp[Addr.add,Nat.add_assoc]
        simp only[loadBytes,Sem.run_bind,I,Result.andThen_ok,e]
        refine Eq.trans ?_ (bl.trans ?_)
        · rfl
        · congr 1
          simp[ByteArray.ext_iff,ByteArray.push]
      · cases ag
    · cases ag
theorem GR{α:Type}(p:Option Addr)(l:Value)(f:Option Addr->Value->α)(g:Array Value->α):Builtin.unsafeString_.match_3 (λ_=>α) #[.pointer p,l] f g=f p l:=rfl
theorem Vt(argTypes:Array TypeId)(ty pT:TypeId)(h0:argTypes[0]? =some pT)(k:IntKind)(m:Nat)(a:Addr)(u:TypeId)(hu:P.underlying pT=some (.pointer u))(sD:m≠0)(hm:m<=281474976710656)
  {s:ByteArray}(aI:(variablesAt a u m).run P w=.ok true w)(aA:(loadBytes a .empty m).run P w=.ok s w):
  (Builtin.unsafeString_ argTypes ty #[.pointer (some a),.int k (m:Int)]).run P w=.ok (.string s) (w.freeze a m):=by
 have AB:¬((9223372036854775807:Int)<(m:Int)):=by omega
 have j8:IntKind.i64.max=9223372036854775807:=rfl
 have he:(elemOf pT).run P w=.ok u w:=by simp[elemOf,cl hu]
 have AD:¬((m:Int)<0):=by omega
 delta Builtin.unsafeString_
 rw[GR]
 simp[asInt,asIntOf,h0,j8,AB,sD,he,aI,aA,AD]
theorem MT(argTypes:Array TypeId)(ty pT:TypeId)(h0:argTypes[0]? =some pT)(k:IntKind)(p:Option Addr):(Builtin.unsafeString_ argTypes ty #[.pointer p,.int k 0]).run P w=.ok (.string .empty) w:=by
 have j8:IntKind.i64.max=9223372036854775807:=rfl
 cases p with
 |none=>
  delta Builtin.unsafeString_
  rw[GR]
  simp[asInt,asIntOf,h0,j8]
 |some a=>
  delta Builtin.unsafeString_
  rw[GR]
  simp[asInt,asIntOf,h0,j8]
theorem Dy:P.depth=(2*(P.types.size+Made.depth)+1)+1:=rfl
theorem Vu{e u count off n:Nat}(I:P.underlyingId e=P.underlyingId u)(al:P.cellsOf e=1)(ag:off+n<=count):liesAt P P.depth e count off u n=true:=by
 have aA:sameLayout P P.depth e u=true:=by rw[Dy];simp[sameLayout,I]
 have ao:rowAt P (sameLayout P P.depth · u) P.depth e count off n=true:=by
  rw[Dy]
  unfold rowAt
  simp only[al,Nat.div_one,Nat.mod_one]
  rw[Dy] at aA
  simp[ag,aA]
 have:∀d,rowAt P (sameLayout P P.depth · u) P.depth e count off n=true->liesAt P (d+1) e count off u n=true:=λd h=>by
  unfold liesAt;rw[h];rfl
 conv=>lhs;arg 2;rw[Dy]
 exact this _ ao
theorem Vv(au:bK μ H w){argTypes:Array TypeId}{ty pT:TypeId}(h0:argTypes[0]? =some pT){p n v:ad}{GS GU:Value}(a0:bz μ p GS)(aH:bz μ n GU){a6:ab}(h:ri P H pT p n=some (v,a6)):
  fP P μ H w (Builtin.unsafeString_ argTypes ty #[GS,GU]) v a6:=by
 unfold ri at h
 have MU:∀m,fe n=some m->∃k,GU=.int k (m:Int):=by
  intro m hm
  unfold fe at hm
  split at hm
  · cases hm;cases aH;exact⟨_,rfl⟩
  · cases hm
 split at h
 · rename_i a7
   cases h;cases a0
   obtain⟨k,rfl⟩:=MU 0 a7
   exact .same au (v':=.string .empty) (MT argTypes ty pT h0 k none) ⟨.empty,rfl,rfl⟩
 · rename_i b off m hm
   obtain⟨k,rfl⟩:=MU m hm
   obtain⟨i,hi,rfl⟩:=a0
   split at h
   · rename_i a7
     cases h;subst a7
     exact .same au (v':=.string .empty) (MT argTypes ty pT h0 k _) ⟨.empty,rfl,rfl⟩
   · rename_i sD
     split at h
     · rename_i u cs el bq lo fi hu ar
       split at h
       · rename_i ah
         simp only[Bool.and_eq_true,decide_eq_true_eq,Nat.ble_eq] at ah
         obtain⟨⟨⟨aM,bf⟩,ee⟩,fQ⟩:=ah
         split at h
         · rename_i r ao
           split at h
           · rename_i bs ag
             cases h
             obtain⟨c,ht,hv,aG,aE,bH,eu⟩:=au.rel _ _ i ar hi
             have GV:=MR (P:=P) au hi ar m off r bs .empty ao ag
             have hlen:off+m<=cs.length:=by
              rw[pB] at ao
              have:=(vH m _ _ ao).1
              rw[List.length_drop] at this
              omega
             have rE:0<m:=Nat.pos_of_ne_zero sD
             have gp:i.base+off+m<=c.size:=by
              obtain⟨x,aa⟩:∃x,cs[off+m-1]? =some x:=⟨_,List.getElem?_eq_getElem (by omega)⟩
              obtain⟨Vq,oK,_⟩:=aE _ x aa
              rcases Nat.lt_or_ge (i.base+(off+m-1)) c.size with h|h
              · omega
              · rw[Array.getElem?_eq_none h] at oK;cases oK
             have AE:P.cellsOf el=1:=by
              unfold ef at bf
              unfold Program.cellsOf
              cases fi:P.info? el with
              |none=>rw[fi] at bf;cases bf
              |some ii=>rw[fi] at bf;simpa using bf
             have mO:(variablesAt ⟨i.bx,i.base+off,none⟩ u m).run P w=.ok true w:=by
              have aA:=Vu (P:=P) (e:=el) (u:=u) (count:=c.size/P.cellsOf el) (off:=i.base+off) (n:=m) aM AE (by rw[AE];simpa using gp)
              simp[variablesAt,World.shape?,aG,aA]
             have fB:=Vt (P:=P) (w:=w) argTypes ty pT h0 k m _ u hu sD ee mO GV
             have Vw:∃dj:Nat×Nat,w.freeze ⟨i.bx,i.base+off,none⟩ m={w with heap:=w.heap.modify i.bx λ
               |.cells c elem (lo,hi)=>.cells c elem (if lo==hi then(i.base+off,i.base+off+m) else(min lo (i.base+off),max hi (i.base+off+m)))
               |o=>o}/\(w.freeze ⟨i.bx,i.base+off,none⟩ m).heap[i.bx]? =some (.cells c el dj):=by
              have:w.freeze ⟨i.bx,i.base+off,none⟩ m={w with heap:=w.heap.modify i.bx λ
               |.cells c elem (lo,hi)=>.cells c elem (if lo==hi then(i.base+off,i.base+off+m) else(min lo (i.base+off),max hi (i.base+off+m)))
               |o=>o}:=by simp[World.freeze,sD];rfl
              refine⟨if ht==hv then(i.base+off,i.base+off+m) else(min ht (i.base+off),max hv (i.base+off+m)),this,?_⟩
              rw[this]
              simp[Array.getElem?_modify,aG]
             obtain⟨⟨f1,f2⟩,a8,a2⟩:=Vw
             have gn:(dQ.cells cs el bq lo fi).rA=false:=by cases bq<;>first|rfl|exact absurd rfl fQ
             obtain⟨r1,r2⟩:=au.update (w':=w.freeze ⟨i.bx,i.base+off,none⟩ m) (o':=.cells cs el .fz lo fi) ar gn hi (by rw[a8];simp) (λr ao=>by rw[a8];simp[Array.getElem?_modify];intro e;exact absurd e.symm ao) (by rw[a8]) (by rw[a8]) (by rw[a8])
              ⟨c,f1,f2,a2,aE,bH,trivial⟩ (hdr:=by rw[a8];exact Nat.le_refl _)
             exact⟨μ,_,.string _,fB,⟨_,rfl,by simp⟩,r1,r2⟩
           · cases h
         · cases h
       · cases h
     · cases h
 · cases h
theorem Vx{argTypes:Array TypeId}{ty:TypeId}{x:ad}{bR:Value}(aa:bz μ x bR):
  (x=.aP->(Builtin.unsafeSliceData_ argTypes ty #[bR]).run P w=.ok (.pointer none) w)/\
  (∀b off n c,x=.slice b off n (.exact c)->c≠0->∃u,(Builtin.unsafeSliceData_ argTypes ty #[bR]).run P w=.ok u w/\bz μ (.ptr b off) u)/\
  (∀b off n e,x=.slice b off n (.aL e)->n≠0->∃u,(Builtin.unsafeSliceData_ argTypes ty #[bR]).run P w=.ok u w/\bz μ (.ptr b off) u):=by
 have key:∀(a:Addr) (n c:Nat),c≠0->(Builtin.unsafeSliceData_ argTypes ty #[.slice (some a) n c]).run P w=.ok (.pointer (some a)) w:=λa n c ah=>by
  obtain⟨k,rfl⟩:∃k,c=k+1:=⟨c-1,by omega⟩
  rfl
 refine⟨λh=>?_,λb off n c h ah=>?_,λb off n e h aH=>?_⟩
 · subst h;cases aa;rfl
 · subst h;obtain⟨i,hi,qn⟩:=aa;cases qn
   exact⟨_,key _ n c ah,i,hi,rfl⟩
 · subst h;obtain⟨i,hi,c,rfl,hle,_⟩:=aa
   exact⟨_,key _ n c (by omega),i,hi,rfl⟩
theorem MV{sK:Value}{first a_:List ad}{g:Nat}{args:List ad}{vs:List Value}(hf:bz μ (.fn g first a_) sK)(aV:cG μ args vs):
  ∃b6 cs:List Value,(do let d<-Deferred.ofValue sK ⟨vs⟩;invoke d.target d.args:Sem Next).run P w=(callFunc g ⟨b6++vs++cs⟩).run P w/\cG μ (first++args++a_) (b6++vs++cs)/\
   (Deferred.ofValue sK ⟨vs⟩).run P w=.ok {target:=.fn (.func g) ⟨cs⟩,args:=⟨b6++vs⟩} w:=by
 obtain⟨b6,cs,rfl,I,ae⟩:=hf
 refine⟨b6,cs,?_,(I.append aV).append ae,?_⟩
 · simp[Deferred.ofValue,invoke]
 · simp[Deferred.ofValue]
theorem Vy{l:Nat}{sK:Value}{vs:List Value}(hf:bz μ (.eb l) sK):
  ∃i,μ l=some i/\(do let d<-Deferred.ofValue sK ⟨vs⟩;invoke d.target d.args:Sem Next).run P w=(Instr.yield i.bx ⟨vs⟩).run P w:=by
 obtain⟨i,hi,rfl⟩:=hf
 exact⟨i,hi,by simp[Deferred.ofValue,invoke]⟩
theorem Vz{t:TypeId}{name:String}{f:Nat}(h:C9 P t name=some f)(v:Value)(n:Nat):(method (n+1) t v name).run P w=.ok (f,v) w:=by
 unfold C9 at h
 split at h
 · rename_i i hi
   split at h
   · rename_i m hm
     have hf:∀q,m.path.isEmpty=q->m.path.isEmpty=q:=λ_ h=>h
     split at h
     all_goals first
      |(cases h;done)
      |(rename_i a0 pK hu
        cases h
        have Dz:m.path.toList=[]:=by simpa using a0
        simp[method,run_typeInfo hi,hm,Dz,follow,pK,receiverAt,cl hu,Place.get]
        done)
   · cases h
 · cases h
end
end bg
namespace bg
open Go
def k7(P:Program)(μ:bI)(H:ab)(w:World)(s:Sem Next):ia->Prop
 |.val v a6=>∃a9 w' u,(s.run P w=.ok (.value u) w'\/(u=undef/\s.run P w=.ok .skip w'))/\bz a9 v u/\bK a9 a6 w'/\cA μ H w a9 a6 w'
 |.cw v a6=>a6=H/\∃u,s.run P w=.halt (.panic u) w/\bz μ v u
 |.call f args a6=>a6=H/\∃vs:List Value,s.run P w=(callFunc f ⟨vs⟩).run P w/\cG μ args vs
 |.eb l args a6=>a6=H/\∃i,∃vs:List Value,μ l=some i/\s.run P w=(Instr.yield i.bx ⟨vs⟩).run P w/\cG μ args vs
 |.m_ d=>∃uj,s.run P w=.ok (.defer uj) w/\vG μ d uj
 |.vy=>s.run P w=.ok .recover w
 |.fail _=>True
section
variable {P:Program} {μ:bI} {H:ab} {w:World}
theorem k7.k8{s:Sem Value}{v:ad}{a6:ab}(h:fP P μ H w s v a6):k7 P μ H w (do pure (.value (<-s))) (.val v a6):=by
 obtain⟨a9,w',u,I,ae,ax,aN⟩:=h
 exact⟨a9,w',u,.inl (by simp[I]),ae,ax,aN⟩
theorem k7.of_same(au:bK μ H w){s:Sem Value}{v:ad}(h:∃u,s.run P w=.ok u w/\bz μ v u):k7 P μ H w (do pure (.value (<-s))) (.val v H):=by
 obtain⟨u,I,ae⟩:=h
 exact⟨μ,w,u,.inl (by simp[I]),ae,au,cA.refl _ _ _⟩
theorem k7.DA(au:bK μ H w){u:Value}{v:ad}(h:bz μ v u){s:Sem Next}(al:s.run P w=.ok (.value u) w):k7 P μ H w s (.val v H):=
 ⟨μ,w,u,.inl al,h,au,cA.refl _ _ _⟩
theorem k7.VA{s:Sem Unit}{a6:ab}(h:∃w',s.run P w=.ok () w'/\bK μ a6 w'/\cA μ H w μ a6 w'):k7 P μ H w (do s;pure .skip) (.val (.aR []) a6):=by
 obtain⟨w',I,ax,aN⟩:=h
 exact⟨μ,w',undef,.inr ⟨rfl,by simp[I]⟩,⟨[],rfl,rfl⟩,ax,aN⟩
theorem AF(au:bK μ H w){s:Sem Value}{o:Option ad}{kH:String}(h:∀v,o=some v->∃u,s.run P w=.ok u w/\bz μ v u):k7 P μ H w (do pure (.value (<-s))) (gL H kH o):=by
 cases o with
 |none=>trivial
 |some v=>exact .of_same au (h v rfl)
theorem uk{s:Sem Value}{o:Option ad}{kH:String}(h:∀v,o=some v->fP P μ H w s v H):k7 P μ H w (do pure (.value (<-s))) (gL H kH o):=by
 cases o with
 |none=>trivial
 |some v=>exact .k8 (h v rfl)
theorem vT{s:Sem Value}{o:Option (ad×ab)}{kH:String}(h:∀v a6,o=some (v,a6)->fP P μ H w s v a6):k7 P μ H w (do pure (.value (<-s))) (na kH o):=by
 cases o with
 |none=>trivial
 |some p=>exact .k8 (h p.1 p.2 rfl)
theorem DB{s:Sem Unit}{o:Option ab}{kH:String}(h:∀a6,o=some a6->∃w',s.run P w=.ok () w'/\bK μ a6 w'/\cA μ H w μ a6 w'):k7 P μ H w (do s;pure .skip) (sq kH o):=by
 cases o with
 |none=>trivial
 |some a6=>exact .VA (h a6 rfl)
theorem um{a:ad}{n:Nat}{v:Value}(h:fe a=some n)(aI:bz μ a v):∃k,v=.int k (n:Int):=by
 unfold fe at h
 split at h
 · cases h;cases aI;exact⟨_,rfl⟩
 · cases h
theorem MW(au:bK μ H w){f:ad}{sK:Value}{args:List ad}{vs:List Value}(hf:bz μ f sK)(aV:cG μ args vs):
  k7 P μ H w (do let d<-Deferred.ofValue sK ⟨vs⟩;invoke d.target d.args) (vC f args H):=by
 unfold vC
 split
 · obtain⟨b6,cs,I,ae,_⟩:=MV (P:=P) (w:=w) hf aV
   exact⟨rfl,_,I,ae⟩
 · obtain⟨i,I,ae⟩:=Vy (P:=P) (w:=w) (vs:=vs) hf
   exact⟨rfl,i,vs,I,ae,aV⟩
 · trivial
theorem VB(au:bK μ H w){b:Builtin}{ats:Array TypeId}{ty:TypeId}{consts:Array Bool}{vs:List ad}{us:List Value}(aI:cG μ vs us):
  k7 P μ H w (builtin b ats ty consts ⟨us⟩) (jH P b ats vs H):=by
 unfold jH
 split
 · rfl
 · cases vs with
   |nil=>trivial
   |cons x l=>
    obtain⟨bR,mN,rfl,I,ae⟩:=aI
    refine AF au λv h=>?_
    obtain⟨u,a8,a2⟩:=GF (P:=P) (w:=w) sm Builtin.min2 (λ_ _ _ _ _ h aa aZ=>UN h aa aZ) l x bR mN v I ae h
    exact⟨u,by simpa[Builtin.min_] using a8,a2⟩
 · cases vs with
   |nil=>trivial
   |cons x l=>
    obtain⟨bR,mN,rfl,I,ae⟩:=aI
    refine AF au λv h=>?_
    obtain⟨u,a8,a2⟩:=GF (P:=P) (w:=w) sn Builtin.max2 (λ_ _ _ _ _ h aa aZ=>UO h aa aZ) l x bR mN v I ae h
    exact⟨u,by simpa[Builtin.max_] using a8,a2⟩
 · split
   · rename_i t x h0
     obtain⟨bR,mN,rfl,I,ae⟩:=aI
     cases ae
     split
     · exact uk λv h=>UK au h0 I h
     · exact uk λv h=>UL au h0 I h
     · exact vT λv a6 h=>UJ au h0 I h
     · obtain⟨s1,s2,b1⟩:=Vx (P:=P) (w:=w) (argTypes:=ats) (ty:=ty) I
       split
       · exact .of_same au ⟨_,s1 rfl,rfl⟩
       · split
         · trivial
         · rename_i ah;exact .of_same au (s2 _ _ _ _ rfl ah)
       · split
         · trivial
         · rename_i ah;exact .of_same au (b1 _ _ _ _ rfl ah)
       · trivial
     · trivial
   · rename_i t x y h0
     obtain⟨bR,mN,rfl,I,hB,Mm,rfl,ae,ax⟩:=aI
     cases ax
     split
     · exact vT λv a6 h=>UD au h0 I ae h
     · exact vT λv a6 h=>UI au h0 I ae h
     · exact vT λv a6 h=>U6 au h0 I ae h
     · exact vT λv a6 h=>Vv au h0 I ae h
     · trivial
   · trivial
theorem VC(au:bK μ H w){src dst:TypeId}{x:ad}{bR:Value}(aa:bz μ x bR):
  k7 P μ H w (do pure (.value (<-convert src dst bR))) (hp P src dst x H):=by
 unfold hp
 split
 · rename_i jy k bG n al ai
   cases aa
   exact .of_same au ⟨.int k (k.wrap n),by simp[convert,cl al,cl ai,Conv.intToInt],rfl⟩
 · rename_i jy bG n al ai
   cases aa
   exact .of_same au ⟨.string (Utf8.encode n),by simp[convert,cl al,cl ai,Conv.intToString],_,rfl,rfl⟩
 · rename_i s al ai
   obtain⟨t,rfl,rfl⟩:=aa
   exact .of_same au ⟨.string t,by simp[convert,cl al,cl ai],_,rfl,rfl⟩
 · rename_i e s al ai
   obtain⟨t,rfl,rfl⟩:=aa
   split
   · rename_i he
     refine .k8 ?_
     have cL:=UQ (P:=P) au (e:=e) (bs:=t)
     obtain⟨a9,w',u,I,ae,ax,aN⟩:=cL
     exact⟨a9,w',u,by simp[convert,cl al,cl ai,cl he,I],ae,ax,aN⟩
   · trivial
 · rename_i e al ai
   have key:P.underlying e=some (.int .u8)->∀a n c,(convert src dst (.slice a n c)).run P w=(Conv.bytesToString (.slice a n c)).run P w:=by
    intro he a n c
    simp[convert,cl al,cl ai,cl he]
   split
   · rename_i he
     cases aa
     refine .of_same au ⟨.string .empty,?_,.empty,rfl,rfl⟩
     rw[key he];rfl
   · rename_i b off n he
     split
     · rename_i aH
       subst aH
       obtain⟨i,_,_,a,c,rfl⟩:=aa
       refine .of_same au ⟨.string .empty,?_,.empty,rfl,rfl⟩
       rw[key he];rfl
     · trivial
   · rename_i b off n c Ds he
     split
     · rename_i cs aA
       split
       · rename_i bs ag
         obtain⟨a9,w',u,I,ae,ax,aN⟩:=UP (P:=P) au (by intro e;subst e;exact Ds rfl) aa aA ag
         refine .k8 ⟨a9,w',u,?_,ae,ax,aN⟩
         have ks:∃a m k,bR=.slice a m k:=by
          obtain⟨i,_,ah⟩:=aa
          cases c with
          |exact c=>cases ah;exact⟨_,_,_,rfl⟩
          |aL hK=>obtain⟨c,rfl,_⟩:=ah;exact⟨_,_,_,rfl⟩
          |dead=>obtain⟨_,a,c,rfl⟩:=ah;exact⟨_,_,_,rfl⟩
         obtain⟨a,m,k,rfl⟩:=ks
         rw[key he];exact I
       · trivial
     · trivial
   · trivial
 · rename_i u b off al ai
   split
   · rename_i cs el k lo hi n ar a7
     split
     · rename_i cB
       exact .of_same au ⟨bR,Vp au al ai a7 ar (by simpa using cB) aa,aa⟩
     · trivial
   · trivial
 · rename_i u b off al ai
   split
   · rename_i cs el lo hi n ar a7
     split
     · rename_i ah
       exact .of_same au ⟨bR,Vr au al ai a7 ar ah aa,aa⟩
     · trivial
   · trivial
 · trivial
end
end bg
namespace bg
open Go
section
variable {P:Program} {μ:bI} {H:ab} {w:World}
theorem MX(au:bK μ H w){c a b:Operand}{g:Operand->ad}{cP:Operand->Value}(ar:∀x,bz μ (g x) (cP x)){gz:Bool}(ah:g c=.bool gz):
  k7 P μ H w (do pure (.value (if<-asBool (cP c) then cP a else cP b))) (.val (if gz then g a else g b) H):=by
 have I:=ar c
 rw[ah] at I
 refine .DA au (u:=if gz then cP a else cP b) ?_ ?_
 · cases gz
   · exact ar b
   · exact ar a
 · have:cP c=.bool gz:=I
   simp[this,asBool]
theorem DC{g:Operand->ad}{cP:Operand->Value}(ar:∀x,bz μ (g x) (cP x))(args:Array Operand):cG μ (args.toList.map g) (args.map cP).toList:=by
 rw[Array.toList_map];exact cG.map g cP ar _
theorem VD(au:bK μ H w){g:Operand->ad}{cP:Operand->Value}(ar:∀x,bz μ (g x) (cP x))(o:Oper)(x:Operand)(bc:o.op=.nilCheck x):k7 P μ H w (execOp cP o) (match g x with
  |.ptr b o=>.val (.ptr b o) H
  |.slice b o n c=>.val (.slice b o n c) H
  |.fn f a b=>.val (.fn f a b) H
  |.iface t v=>.val (.iface t v) H
  |_=>.fail ""):=by
 have I:=ar x
 have e:∀(v:ad),g x=v->((∃b o,v=.ptr b o)\/(∃b o n c,v=.slice b o n c)\/(∃f a b,v=.fn f a b)\/∃t y,v=.iface t y)->k7 P μ H w (execOp cP o) (.val v H):=by
  intro v aI al
  have ae:=I
  rw[aI] at ae
  exact .DA au ae (T6 ae al o x cP rfl bc)
 split
 · rename_i b o aa;exact e _ aa (.inl ⟨_,_,rfl⟩)
 · rename_i b o n c aa;exact e _ aa (.inr (.inl ⟨_,_,_,_,rfl⟩))
 · rename_i f a b aa;exact e _ aa (.inr (.inr (.inl ⟨_,_,_,rfl⟩)))
 · rename_i t v aa;exact e _ aa (.inr (.inr (.inr ⟨_,_,rfl⟩)))
 · trivial
theorem VE(au:bK μ H w){g:Operand->ad}{cP:Operand->Value}(ar:∀x,bz μ (g x) (cP x))(c:Call)(type:TypeId):k7 P μ H w (do let d<-resolve cP c type;invoke d.target d.args) (match c.callee with
  |.value f=>vC (g f) (c.args.toList.map g) H
  |.invoke r name=>match g r with
   |.iface t v=>match C9 P t name with
    |some f=>.call f (v::c.args.toList.map g) H
    |none=>.fail ""
   |_=>.fail ""
  |.builtin b=>jH P b c.argTypes (c.args.toList.map g) H):=by
 have aV:=DC (μ:=μ) ar c.args
 cases ah:c.callee with
 |value f=>
  simp only[resolve,ah]
  exact MW au (ar f) aV
 |invoke r name=>
  simp only[]
  split
  · rename_i t v ao
    split
    · rename_i f hm
      have I:=ar r
      rw[ao] at I
      obtain⟨y,aZ,aI⟩:=I
      refine⟨rfl,y::(c.args.map cP).toList,?_,⟨_,_,rfl,aI,aV⟩⟩
      have ajj:0<Made.depth:=by decide
      obtain⟨n,aH⟩:∃n,P.types.size+Made.depth=n+1:=⟨P.types.size+Made.depth-1,by omega⟩
      have VF:=Vz (P:=P) (w:=w) hm y n
      have h0:(#[cP r]++c.args.map cP)[0]? =some (cP r):=by rw[Array.getElem?_append_left (by simp)];rfl
      have ae:(#[cP r]++c.args.map cP).extract 1 (#[cP r]++c.args.map cP).size=c.args.map cP:=by
       apply Array.ext'
       simp only[Array.toList_extract,Array.toList_append,Array.toList_map,List.cons_append,List.nil_append,List.extract_eq_take_drop]
       rw[List.take_of_length_le]
       · rfl
       · simp
      have ax:(#[y]++c.args.map cP:Array Value)=⟨y::(c.args.map cP).toList⟩:=by apply Array.ext';simp
      rw[aZ] at h0 ae
      simp only[resolve,ah,Sem.run_bind,Sem.run_pure,Result.andThen_ok,invoke,aZ,h0,ae,callMethod,run_program,aH,VF,ax]
    · trivial
  · trivial
 |builtin b=>
  have ag:=VB (P:=P) (b:=b) (ats:=c.argTypes) (ty:=type) (consts:=c.args.map λ|.const _=>true|_=>false) au aV
  have he:(do let d<-resolve cP c type;invoke d.target d.args:Sem Next)=builtin b c.argTypes type (c.args.map λ|.const _=>true|_=>false) (c.args.map cP):=by
   simp only[resolve,ah];rfl
  rw[he];exact ag
set_option maxHeartbeats 4000000 in
theorem VG(au:bK μ H w)(o:Oper){g:Operand->ad}{cP:Operand->Value}(ar:∀x,bz μ (g x) (cP x)):k7 P μ H w (execOp cP o) (c7 P o g H):=by
 obtain⟨dst,op,type,pos,after,guard⟩:=o
 cases op<;>simp only[c7,execOp]
 case move x=>exact .DA au (ar x) rfl
 case assign x=>exact .DA au (ar x) rfl
 case pick c a b=>
  split
  · rename_i ah;exact MX au ar ah
  · rename_i ah;exact MX au ar ah
  · trivial
 case alloc e=>
  split
  · rename_i z a7
    split
    · rename_i b aw ao;exact .k8 (TU au a7 ao)
    · trivial
  · trivial
 case box e x=>
  split
  · rename_i b aw ao;exact .k8 (TV au (ar x) ao)
  · trivial
 case build t parts=>
  split
  · rename_i z a7
    split
    · rename_i b6 hu
      split
      · rename_i cs eL hf;exact .k8 (T1 au g cP ar a7 hu eL parts hf)
      · trivial
    · rename_i n e hu
      split
      · rename_i sz al
        split
        · rename_i cs hf;exact .k8 (T3 au g cP ar a7 hu al parts hf)
        · trivial
      · trivial
    · trivial
  · trivial
 case buildSlice t len parts=>
  split
  · rename_i e hu
    split
    · rename_i sz z al a7
      split
      · rename_i cs ah hf
        rw[Bool.and_eq_true,Nat.ble_eq,Nat.beq_eq] at ah
        split
        · rename_i b aw ao;exact .k8 (T4 au g cP ar hu al a7 ah.1 ah.2 parts hf ao)
        · trivial
      · trivial
    · trivial
  · trivial
 case insert t m k v=>exact DB λa6 h=>MB au (ar m) (ar k) (ar v) h
 case load t a=>
  split
  · rename_i b off aV
    have I:=ar a
    rw[aV] at I
    obtain⟨bt,bw⟩:=TW (P:=P) au (t:=t) I
    split
    · rename_i n vU aH
      split
      · rename_i cs aA;exact .k8 (bt n cs vU aH aA)
      · trivial
    · rename_i vU
      exact uk λv h=>bw v vU h
    · trivial
  · trivial
 case store t a v=>
  split
  · rename_i b off aV
    have I:=ar a
    rw[aV] at I
    split
    · trivial
    · rename_i n aH kx
      split
      · rename_i aA
        exact DB λa6 h=>TX au I (ar v) kx aH (by simpa using aA) h
      · trivial
    · trivial
  · trivial
 case ready=>trivial
 case waits=>trivial
 case nilCheck x=>exact VD au ar ⟨dst,.nilCheck x,type,pos,after,guard⟩ x rfl
 case binOp op t x y yt=>exact AF au λv h=>Vm au (yt:=yt) (ar x) (ar y) h
 case unOp op t x=>
  have I:=ar x
  split
  · rename_i b aa;rw[aa] at I;exact .of_same au (Vj I)
  · rename_i k n aa;rw[aa] at I;exact .of_same au (Vk I)
  · rename_i k n aa;rw[aa] at I;exact AF au λv h=>Vl I h
  · trivial
 case convert src ajk x=>exact VC au (ar x)
 case sliceToArrayPointer=>trivial
 case makeInterface t x=>
  split
  · trivial
  · rename_i d eN hu
    refine .of_same au ⟨.iface t (cP x),Vn hu (λm e=>eN m (e▸rfl)) (ar x),_,rfl,ar x⟩
  · trivial
 case makeFunc fn first a_=>
  split
  · rename_i f
    exact .of_same au ⟨.func (.func f) (first.map cP) (a_.map cP),rfl,_,_,rfl,DC ar first,DC ar a_⟩
  · trivial
 case makeMap t r=>
  cases r with
  |none=>exact .k8 (U7 au)
  |some x=>
   simp only[]
   split
   · rename_i kt kI k n hu aa
     have I:=ar x
     rw[aa] at I
     have ae:cP x=.int k n:=I
     rw[Option.map_some,ae]
     exact .k8 (U8 au hu)
   · trivial
 case makeChan=>trivial
 case makeSlice t l c=>
  split
  · rename_i e nW c' hu aA ah
    obtain⟨kl,el⟩:=um aA (ar l)
    obtain⟨kc,AG⟩:=um ah (ar c)
    split
    · rename_i i z hi a7
      split
      · rename_i ma
        rw[Bool.and_eq_true,Bool.and_eq_true,Nat.ble_eq,Nat.beq_eq,decide_eq_true_eq] at ma
        split
        · rename_i b aw ao
          rw[el,AG]
          exact .k8 (T5 au hu hi a7 ma.1.1 ma.1.2 ma.2 ao)
        · trivial
      · trivial
    · trivial
  · trivial
 case slice t x lo hi mx=>
  exact uk λv h=>Uf au (ar x) (pF.map g cP ar lo) (pF.map g cP ar hi) (pF.map g cP ar mx) h
 case fieldAddr s x f=>
  split
  · rename_i b6 b off hu aa
    have I:=ar x
    rw[aa] at I
    split
    · rename_i fd hf
      split
      · trivial
      · rename_i n Ao aH
        exact .k8 (Uh au hu hf aH (λe=>Ao e) I)
      · trivial
    · trivial
  · trivial
 case field t x f=>
  split
  · rename_i b6 cs hu aa
    have I:=ar x
    rw[aa] at I
    split
    · rename_i fd hf
      exact uk λv h=>Ug au hu hf I h
    · trivial
  · trivial
 case indexAddr t x i=>
  split
  · rename_i n e b off k hu aa hi
    have I:=ar x
    rw[aa] at I
    obtain⟨bq,oO⟩:=um hi (ar i)
    split
    · rename_i sz al
      split
      · rename_i ay;rw[oO];exact .k8 (Uj au hu al I ay)
      · trivial
    · trivial
  · rename_i e b off n c k hu aa hi
    have I:=ar x
    rw[aa] at I
    obtain⟨bq,oO⟩:=um hi (ar i)
    split
    · rename_i sz al
      split
      · rename_i ay;rw[oO];exact .k8 (Ui au hu al I ay)
      · trivial
    · trivial
  · trivial
 case index t x i=>
  split
  · rename_i n e cs k hu aa hi
    have I:=ar x
    rw[aa] at I
    obtain⟨bq,oO⟩:=um hi (ar i)
    split
    · rename_i sz al
      split
      · rename_i ay;rw[oO];exact uk λv h=>Uk au hu al I ay h
      · trivial
    · trivial
  · rename_i s k hu aa hi
    have I:=ar x
    rw[aa] at I
    obtain⟨bq,oO⟩:=um hi (ar i)
    split
    · rename_i c ah;rw[oO];exact .k8 (Ul au hu I ah)
    · trivial
  · trivial
 case lookup t x i ok=>exact uk λv h=>U1 au (ar x) (ar i) h
 case mapUpdate t m k v=>exact DB λa6 h=>MB au (ar m) (ar k) (ar v) h
 case mapEntry t m k=>exact vT λv a6 h=>U3 au (ar m) (ar k) h
 case entryStore t m s v=>exact DB λa6 h=>U4 au (ar m) (ar s) (ar v) h
 case range t x=>
  split
  · rename_i s hu aa
    have I:=ar x
    rw[aa] at I
    exact .k8 (U9 au hu I)
  · rename_i kt kI hu aa
    have I:=ar x
    rw[aa] at I
    exact .k8 (U_ au hu I)
  · rename_i kt kI m hu aa
    have I:=ar x
    rw[aa] at I
    split
    · rename_i es c Ay
      obtain⟨i,hi,aI⟩:=I
      obtain⟨ents,aG,aE⟩:=au.rel _ _ i Ay hi
      obtain⟨r1,r2⟩:=au.alloc (.mapIter (some m) c [] c) (.mapIter (some i.bx) c #[] c) 0 ⟨rfl,i,au.qo _ _ _ hi,World.heap_alloc_new _ _⟩
      refine .k8 ⟨_,_,.pointer (some ⟨w.heap.size,0,none⟩),?_,⟨_,hy _ _ _,rfl⟩,r1,r2⟩
      have kb:(getObj i.bx).run P w=.ok (.map ⟨ents⟩ c) w:=by simp[getObj,Sem.run,aG]
      rw[aI]
      simp only[Instr.range,Sem.run_bind,cl hu,Result.andThen_ok,kb,Sem.run_pure,run_newObj]
      rfl
    · trivial
  · trivial
 case next it isStr=>exact vT λv a6 h=>Vc au (ar it) h
 case entry it=>exact uk λv h=>Vf au (ar it) h
 case typeAssert x xT as ok=>
  have I:=ar x
  split
  · trivial
  · rename_i d eN hu aa
    obtain⟨t1,_,_⟩:=MO (P:=P) (w:=w) (xT:=xT) (ok:=ok) hu (λm e=>eN m (e▸rfl)) I
    split
    · rename_i di
      split
      · rename_i z a7;exact .of_same au (t1 z aa di a7)
      · trivial
    · trivial
  · rename_i d t v eN hu aa
    obtain⟨_,t2,t3⟩:=MO (P:=P) (w:=w) (xT:=xT) (ok:=ok) hu (λm e=>eN m (e▸rfl)) I
    split
    · rename_i he;subst he;exact .of_same au (t2 v aa)
    · rename_i dr
      split
      · rename_i di
        split
        · rename_i z a7;exact .of_same au (t3 t v z aa dr di a7)
        · trivial
      · trivial
  · trivial
 case extract t i=>
  have I:=ar t
  split
  · rename_i vs aa
    rw[aa] at I
    exact AF au λv h=>Vo I h
  · trivial
 case call c=>exact VE au ar c type
 case go=>trivial
 case defer c=>
  split
  · rename_i f hf
    split
    · rename_i k first a_ aa
      have I:=ar f
      rw[aa] at I
      obtain⟨b6,cs,_,ax,aN⟩:=MV (P:=P) (w:=w) I (DC ar c.args)
      refine⟨_,?_,.call k _ cs _ ax⟩
      simp only[resolve,hf,Sem.run_bind]
      have x3:(Deferred.ofValue (cP f) (c.args.map cP)).run P w=.ok {target:=.fn (.func k) ⟨cs⟩,args:=⟨b6++(c.args.map cP).toList⟩} w:=aN
      rw[x3];rfl
    · trivial
  · trivial
 case panic x=>
  have I:=ar x
  split
  · rename_i t v aa
    rw[aa] at I
    obtain⟨y,aZ,aI⟩:=I
    refine⟨rfl,.iface t y,?_,⟨y,rfl,aI⟩⟩
    rw[aZ];rfl
  · trivial
 all_goals trivial
end
end bg
namespace bg
open Go
section
variable {P:Program} {μ:bI} {w:World}
def uo(P:Program)(μ:bI)(w:World)(s:Sem Value)(e:TypeId)(cs:List ad)(val:Addr->Value):Prop:=
 ∃us:List Value,cG μ cs us/\s.run P w=.ok (val ⟨w.heap.size,0,none⟩) (w.alloc (.cells ⟨us⟩ e))
theorem MY(el:TypeId)(us:List Value):(_root_.Go.newRow el ⟨us⟩).run P w=.ok ⟨w.heap.size,0,none⟩ (w.alloc (.cells ⟨us⟩ el)):=by simp[_root_.Go.newRow]
theorem VH{e:TypeId}{z:ad}(a7:eT P e=some z):uo P μ w (Instr.alloc e true (.tuple #[])) e z.cells (λa=>.pointer (some a)):=by
 obtain⟨v,aI,rfl,ag⟩:=nO (w:=w) a7
 refine⟨v.cells.toList,(lO μ v).cells ag,?_⟩
 simp[Instr.alloc,aI,newVar,_root_.Go.newRow]
theorem VI{e:TypeId}{x:ad}{v:Value}(aI:bz μ x v)(ag:x≠ .bad):uo P μ w (Instr.box e v) e x.cells (λa=>.pointer (some a)):=by
 refine⟨v.cells.toList,aI.cells ag,?_⟩
 simp[Instr.box,newVar,_root_.Go.newRow]
theorem VJ(g:Operand->ad)(cP:Operand->Value)(ar:∀x,bz μ (g x) (cP x)){t e:TypeId}{len sz:Nat}{z:ad}(hu:P.underlying t=some (.slice e))(al:ef P e=some sz)
  (a7:eT P e=some z)(hle:len*sz<=16777216)(pE:z.cells.length=sz)(parts:Array (Nat×Operand)){cs:List ad}
  (hf:lq (λi=>some (i*sz,sz)) (if len*sz=0 then[] else gm len z.cells) (parts.toList.map λp=>(p.1,g p.2))=some cs):
  uo P μ w (Instr.buildSlice t len (parts.map λ(i,x)=>(i,cP x))) e cs (λa=>.slice (some a) len len):=by
 obtain⟨v,aI,rfl,ag⟩:=nO (w:=w) a7
 have ah:=(lO μ v).cells ag
 have Ai:¬(len*sz>2^24):=by omega
 have key:∀zero:Array Value,cG μ (if len*sz=0 then[] else gm len (qh v).cells) ((Array.range (len*sz)).map (λi=>zero[i %zero.size]!)).toList->
   (∀r:Result Value,r=(match Instr.fill (λi=>some (i*sz,sz)) ((Array.range (len*sz)).map (λi=>zero[i %zero.size]!)) (parts.toList.map λp=>(p.1,cP p.2)) with
    |some cells=>do pure (.slice (some (<-_root_.Go.newRow e cells)) len len)
    |none=>stuck "buildSlice: a part of the wrong size" :Sem Value).run P w->(Instr.buildSlice t len (parts.map λ(i,x)=>(i,cP x))).run P w=r)->
   uo P μ w (Instr.buildSlice t len (parts.map λ(i,x)=>(i,cP x))) e cs (λa=>.slice (some a) len len):=by
  intro zero sy fB
  obtain⟨c',I,ae⟩:=Af _ g cP ar parts.toList _ cs _ sy hf
  refine⟨c',ae,fB _ ?_⟩
  rw[I]
  simp[MY]
 by_cases h0:len*sz=0
 · refine key #[] (by rw[if_pos h0,h0];simp[cG]) λr ao=>?_
   rw[ao]
   simp only[Instr.buildSlice,Sem.run_bind,cl hu,Result.andThen_ok,run_sizeOf al,if_neg Ai,if_pos h0,Sem.run_pure,Array.toList_map]
   generalize Instr.fill _ _ _=F
   cases F<;>rfl
 · refine key v.cells (by rw[if_neg h0];exact Ah ah pE len) λr ao=>?_
   rw[ao]
   simp only[Instr.buildSlice,Sem.run_bind,cl hu,Result.andThen_ok,run_sizeOf al,if_neg Ai,if_neg h0,Sem.run_pure,Array.toList_map,aI]
   generalize Instr.fill _ _ _=F
   cases F<;>rfl
theorem VK{t e:TypeId}{l c:Nat}{i:TypeInfo}{z:ad}{kl kc:IntKind}(hu:P.underlying t=some (.slice e))(hi:P.info? e=some i)(a7:eT P e=some z)(tY:l<=c)
  (xX:c*(i.bytes+1)<=1099511627776)(pE:z.cells.length=i.size):
  uo P μ w (Instr.makeSlice t (.int kl l) (.int kc c)) e (if c*i.size=0 then[] else gm c z.cells) (λa=>.slice (some a) l c):=by
 obtain⟨v,aI,rfl,ag⟩:=nO (w:=w) a7
 have ah:=(lO μ v).cells ag
 have t_:c<=1099511627776:=Nat.le_trans (Nat.le_mul_of_pos_right c (by omega)) xX
 have mK:i.bytes*c<=1099511627776:=by
  have:c*i.bytes<=c*(i.bytes+1):=Nat.mul_le_mul_left c (by omega)
  rw[Nat.mul_comm];omega
 have Aj:∀n:Nat,n<=1099511627776->IntKind.wrap .i64 (n:Int)=(n:Int):=λn aH=>tZ n (by omega)
 have mL:=Aj l (by omega)
 have Ak:=Aj c t_
 have vI:¬((c:Int)<0||(i.bytes:Int)*(c:Int)>2^48||(l:Int)<0||(l:Int)>(c:Int))=true:=by
  have I:((i.bytes:Int)*(c:Int))<=1099511627776:=by
   have h0:((i.bytes*c:Nat):Int)<=1099511627776:=by omega
   rw[Int.natCast_mul] at h0;exact h0
  have ae:(2:Int)^48=281474976710656:=by rfl
  generalize (i.bytes:Int)*(c:Int)=q at I⊢
  rw[ae]
  simp only[Bool.or_eq_true,decide_eq_true_eq]
  omega
 have key:∀zero:Array Value,cG μ (if c*i.size=0 then[] else gm c (qh v).cells) ((Array.range (c*i.size)).map (λj=>zero[j %zero.size]!)).toList->
   (Instr.makeSlice t (.int kl l) (.int kc c)).run P w=(do let a<-_root_.Go.newRow e ((Array.range (c*i.size)).map (λj=>zero[j %zero.size]!));pure (.slice (some a) l c):Sem Value).run P w->
   uo P μ w (Instr.makeSlice t (.int kl l) (.int kc c)) e (if c*i.size=0 then[] else gm c (qh v).cells) (λa=>.slice (some a) l c):=by
  intro zero sy fB
  refine⟨_,sy,?_⟩
  rw[fB]
  simp only[Sem.run_bind,Sem.run_pure]
  have aB:=MY (P:=P) (w:=w) e ((Array.range (c*i.size)).map (λj=>zero[j %zero.size]!)).toList
  have:(⟨((Array.range (c*i.size)).map (λj=>zero[j %zero.size]!)).toList⟩:Array Value)=((Array.range (c*i.size)).map (λj=>zero[j %zero.size]!)):=rfl
  rw[this] at aB
  rw[aB];rfl
 have bJ:(_root_.Go.sizeOf e).run P w=.ok i.size w:=by simp[_root_.Go.sizeOf,run_typeInfo hi]
 by_cases h0:c*i.size=0
 · refine key #[] (by rw[if_pos h0,h0];simp[cG]) ?_
   simp only[Instr.makeSlice,Sem.run_bind,cl hu,Result.andThen_ok,asInt,asIntOf,Sem.run_pure,run_typeInfo hi,mL,Ak]
   rw[if_neg vI]
   simp[bJ,h0]
 · refine key v.cells (by rw[if_neg h0];exact Ah ah pE c) ?_
   simp only[Instr.makeSlice,Sem.run_bind,cl hu,Result.andThen_ok,asInt,asIntOf,Sem.run_pure,run_typeInfo hi,mL,Ak]
   rw[if_neg vI]
   simp[bJ,h0,aI]
structure Laid(P:Program)(μ:bI)(w:World)(s:Sem Next)(b:Nat)(v:ad)(ob:dQ)(u:Value)(X:Obj)(sz:Nat):Prop where
 run:s.run P w=.ok (.value u) (w.alloc X)
 val:∀a9,ga μ a9->a9 b=some ⟨w.heap.size,0,sz⟩->bz a9 v u
 obj:∀a9 w',ga μ a9->w'.heap[w.heap.size]? =some X->rz a9 ob ⟨w.heap.size,0,sz⟩ w'
 ro:ob.rA=false
theorem uo.laid{s:Sem Value}{e:TypeId}{cs:List ad}{val:Addr->Value}(h:uo P μ w s e cs val){b:Nat}{v:ad}(aI:∀a9 sz,a9 b=some ⟨w.heap.size,0,sz⟩->bz a9 v (val ⟨w.heap.size,0,none⟩)):
  ∃u X sz,Laid P μ w (do pure (.value (<-s))) b v (.cells cs e .own 0 0) u X sz:=by
 obtain⟨us,I,ae⟩:=h
 refine⟨_,.cells ⟨us⟩ e,us.length,by simp[ae],λa9 _ hm=>aI a9 _ hm,λa9 w' hle bO=>?_,rfl⟩
 exact⟨⟨us⟩,0,0,bO,λj v aO=>by
  obtain⟨u,hu,ao⟩:=I.get aO
  exact⟨u,by simpa using hu,ao.mono hle⟩,by simp,rfl,I.length.symm,rfl,rfl⟩
theorem VL(o:Oper){g:Operand->ad}{cP:Operand->Value}(ar:∀x,bz μ (g x) (cP x)){b:Nat}{v:ad}{ob:dQ}(h:lN P o.op g b=some (v,ob)):
  ∃u X sz,Laid P μ w (execOp cP o) b v ob u X sz:=by
 obtain⟨dst,op,type,pos,after,guard⟩:=o
 cases op<;>simp only[lN] at h<;>try (cases h;done)
 case alloc e=>
  split at h
  · rename_i z a7
    split at h
    · cases h
      exact(VH a7).laid λa9 sz hm=>⟨_,hm,rfl⟩
    · cases h
  · cases h
 case box e x=>
  split at h
  · rename_i eL
    cases h
    have ag:g x≠ .bad:=by intro e;rw[e] at eL;simp[ad.cells,ad.de] at eL
    exact(VI (ar x) ag).laid λa9 sz hm=>⟨_,hm,rfl⟩
  · cases h
 case buildSlice t len parts=>
  split at h
  · rename_i e hu
    split at h
    · rename_i sz z al a7
      split at h
      · rename_i cs ah hf
        rw[Bool.and_eq_true,Nat.ble_eq,Nat.beq_eq] at ah
        split at h
        · cases h
          exact(VJ g cP ar hu al a7 ah.1 ah.2 parts hf).laid λa9 sz hm=>⟨_,hm,rfl⟩
        · cases h
      · cases h
    · cases h
  · cases h
 case makeMap t r=>
  cases r with
  |some x=>cases h
  |none=>
   cases h
   exact⟨.map (some w.heap.size),.map #[] 0,0,rfl,λa9 _ hm=>⟨_,hm,rfl⟩,λa9 w' _ bO=>⟨[],bO,rfl⟩,rfl⟩
 case makeSlice t l c=>
  split at h
  · rename_i e nW c' hu aA ah
    obtain⟨kl,el⟩:=um aA (ar l)
    obtain⟨kc,AG⟩:=um ah (ar c)
    split at h
    · rename_i i z hi a7
      split at h
      · rename_i cs ma
        split at h
        · cases h
          rw[Bool.and_eq_true,Bool.and_eq_true,Nat.ble_eq,Nat.beq_eq,decide_eq_true_eq] at ma
          have:=(VK (P:=P) (μ:=μ) (w:=w) (kl:=kl) (kc:=kc) hu hi a7 ma.1.1 ma.1.2 ma.2).laid (b:=b) (v:=.slice b 0 nW (.exact c')) λa9 sz hm=>⟨_,hm,rfl⟩
          simp only[execOp,el,AG]
          exact this
        · cases h
      · cases h
    · cases h
  · cases h
end
end bg
namespace bg
open Go
def iA(P:Program)(μ:bI):Prop:=∀g,g<P.globals.size->∃i,μ g=some i/\i.bx=g/\i.base=0
theorem iA.mono{P:Program}{μ a9:bI}(h:iA P μ)(hle:ga μ a9):iA P a9:=λg ar=>let⟨i,I,ae⟩:=h g ar;⟨i,hle _ _ I,ae⟩
def Ends(μ:bI)(H:ab)(w:World):bE->Ending->World->Prop
 |.ret v a6,e,w'=>∃a9 u,e=.returned u/\bz a9 v u/\bK a9 a6 w'/\cA μ H w a9 a6 w'
 |.cw v a6,e,w'=>∃a9 u,e=.panicked [{v:=u,recovered:=false}]/\bz a9 v u/\bK a9 a6 w'/\cA μ H w a9 a6 w'
 |.fail _,_,_=>True
def bE.mP:bE->Bool
 |.fail _=>false
 |_=>true
def vV(P:Program)(f:FuncId)(vs:List Value)(w:World)(R:Ending->World->Prop):Prop:=
 (∃v w',(callFunc f ⟨vs⟩).run P w=.ok (.value v) w'/\R (.returned v) w')\/
 ((callFunc f ⟨vs⟩).run P w=.ok (.enter f ⟨vs⟩) w/\Calls P f ⟨vs⟩ w R)
def uq(P:Program)(m:Machine)(c:Frame)(cs:List Frame)(R:Ending->World->Prop):Prop:=
 ∃e w',R e w'/\match e with
  |.returned v=>Steps P m (lone (c.finish v) cs w')
  |.panicked chain=>Steps P m (lone (c.raise chain) cs w')
  |.outgrown=>False
def MZ(P:Program)(l:Nat)(vs:List Value)(w:World)(R:Ending->World->Prop):Prop:=
 ∃f tmps assign body,(Instr.yield l ⟨vs⟩).run P w=.ok (.round l f tmps assign body) w/\∀c cs,uq P (lone (Frame.round l f tmps assign body .normal) (c::cs) w) c cs R
structure kM(P:Program)(call:ff->List ad->ab->bE):Prop where
 fn:∀f args H,(call (.fn f) args H).mP=true->∀μ w (vs:List Value),bK μ H w->iA P μ->cG μ args vs->vV P f vs w (Ends μ H w (call (.fn f) args H))
 eb:∀l args H,(call (.eb l) args H).mP=true->∀μ w i (vs:List Value),bK μ H w->iA P μ->μ l=some i->cG μ args vs->MZ P i.bx vs w (Ends μ H w (call (.eb l) args H))
theorem uq.of_steps{P:Program}{m a3:Machine}{c:Frame}{cs:List Frame}{R:Ending->World->Prop}(h:Steps P m a3)(aw:uq P a3 c cs R):uq P m c cs R:=by
 obtain⟨e,w',ao,al⟩:=aw
 refine⟨e,w',ao,?_⟩
 cases e with
 |returned v=>exact h.trans al
 |panicked x4=>exact h.trans al
 |outgrown=>exact al.elim
theorem M0{P:Program}{f:FuncId}{args:Array Value}{w:World}{R:Ending->World->Prop}(dV:∀w',¬R .outgrown w')(h:Calls P f args w R)(c:Frame)(cs:List Frame):
  uq P (lone (Frame.enter P f args .normal) (c::cs) w) c cs R:=by
 obtain⟨e,w',dj,ao,ah,_,aA⟩:=h (c::cs)
 refine⟨e,w',ao,?_⟩
 cases e with
 |returned v=>exact Steps.trans ah (.one (step_leave_returned aA))
 |panicked x4=>exact Steps.trans ah (.one (step_leave_panicked aA))
 |outgrown=>exact(dV _ ao).elim
def iO(μ:bI)(kind:CallKind)(cs0:List Frame):bU->List Frame->Prop
 |.none,cs=>cs=cs0/\∀dj:Frame,dj.kind=kind->tryRecover dj cs0=none
 |.act v,cs=>cs=cs0/\kind=.deferred/\∃c rest u,cs0=c::rest/\c.mode=.panicking [{v:=u,recovered:=false}]/\bz μ v u
 |.done v,cs=>kind=.deferred/\∃c rest u,cs0=c::rest/\c.mode=.panicking [{v:=u,recovered:=false}]/\bz μ v u/\cs={c with mode:=.panicking [{v:=u,recovered:=true}]}::rest
theorem iO.mono{μ a9:bI}(hle:ga μ a9){kind:CallKind}{cs0 cs:List Frame}{q:bU}(h:iO μ kind cs0 q cs):iO a9 kind cs0 q cs:=by
 cases q with
 |none=>exact h
 |act v=>obtain⟨I,ae,c,rest,u,ax,aN,bS⟩:=h;exact⟨I,ae,c,rest,u,ax,aN,bS.mono hle⟩
 |done v=>obtain⟨I,c,rest,u,ax,aN,bS,cz⟩:=h;exact⟨I,c,rest,u,ax,aN,bS.mono hle,cz⟩
section
variable {P:Program} {μ:bI} {H:ab} {w:World}
theorem DD{b:Frame}{a:Act}{ops:Array Oper}{i:Nat}{rest:List Nat}{k:List Item}{cs:List Frame}{s:Sem Next}
  (cL:stepG P true {frame:=b.atR a (.inRegion ops (i::rest)::k),callers:=cs,status:=.running,dying:=none} w=stepG.apply P true (b.atR a (.inRegion ops (i::rest)::k)) cs none s w):
  (∀v w',s.run P w=.ok (.value v) w'->Steps P (lone (b.atR a (.inRegion ops (i::rest)::k)) cs w) (lone ((b.atR a (.inRegion ops (i::rest)::k)).finish v) cs w'))/\
  (∀w',s.run P w=.ok .skip w'->Steps P (lone (b.atR a (.inRegion ops (i::rest)::k)) cs w) (lone ((b.atR a (.inRegion ops (i::rest)::k)).finish undef) cs w'))/\
  (∀u w',s.run P w=.halt (.panic u) w'->Steps P (lone (b.atR a (.inRegion ops (i::rest)::k)) cs w) (lone ((b.atR a (.inRegion ops (i::rest)::k)).raise [{v:=u,recovered:=false}]) cs w'))/\
  (∀d w',s.run P w=.ok (.defer d) w'->Steps P (lone (b.atR a (.inRegion ops (i::rest)::k)) cs w) (lone (b.atR ({a with defers:=d::a.defers}.put ((ops[i]?).bind (·.dst)) undef) (.inRegion ops rest::k)) cs w'))/\
  (∀f args w',s.run P w=.ok (.enter f args) w'->Steps P (lone (b.atR a (.inRegion ops (i::rest)::k)) cs w) (lone (Frame.enter P f args .normal) (b.atR a (.inRegion ops (i::rest)::k)::cs) w'))/\
  (∀l f tmps assign body w',s.run P w=.ok (.round l f tmps assign body) w'->Steps P (lone (b.atR a (.inRegion ops (i::rest)::k)) cs w) (lone (Frame.round l f tmps assign body .normal) (b.atR a (.inRegion ops (i::rest)::k)::cs) w'))/\
  (b.roundOf=none->∀w',s.run P w=.ok .recover w'->∀v b5,tryRecover (b.atR a (.inRegion ops (i::rest)::k)) cs=some (v,b5)->Steps P (lone (b.atR a (.inRegion ops (i::rest)::k)) cs w) (lone ((b.atR a (.inRegion ops (i::rest)::k)).finish v) b5 w'))/\
  (b.roundOf=none->∀w',s.run P w=.ok .recover w'->tryRecover (b.atR a (.inRegion ops (i::rest)::k)) cs=none->Steps P (lone (b.atR a (.inRegion ops (i::rest)::k)) cs w) (lone ((b.atR a (.inRegion ops (i::rest)::k)).finish .nilIface) cs w')):=by
 refine⟨λv w' ao=>.one (step_lone_go ?_),λw' ao=>.one (step_lone_go ?_),λu w' ao=>.one (step_lone_go ?_),λd w' ao=>.one (step_lone_go ?_),λf args w' ao=>.one (step_lone_go ?_),λl f tmps assign body w' ao=>.one (step_lone_go ?_),λag w' ao v b5 bm=>.one (step_lone_go ?_),λag w' ao bm=>.one (step_lone_go ?_)⟩
 · rw[cL];simp[stepG.apply,ao]
 · rw[cL];simp[stepG.apply,ao]
 · rw[cL];simp[stepG.apply,ao]
 · rw[cL]
   have:=Frame.finish_atR b {a with defers:=d::a.defers} ops i rest k undef
   simp only[stepG.apply,Sem.runT_eq,ao,GStep.bare_after]
   exact congrArg (λdj=>GStep.go {frame:=dj,callers:=cs,status:=.running,dying:=none} w') this
 · rw[cL];simp[stepG.apply,ao,Frame.atR]
 · rw[cL];simp[stepG.apply,ao,Frame.atR]
 · rw[cL]
   have kK:(b.atR a (.inRegion ops (i::rest)::k)).roundOf=none:=ag
   simp[stepG.apply,ao,kK,bm]
 · rw[cL]
   have kK:(b.atR a (.inRegion ops (i::rest)::k)).roundOf=none:=ag
   simp[stepG.apply,ao,kK,bm]
def GW(P:Program)(μ:bI)(H:ab)(w:World)(b:Frame)(a:Act)(ops:Array Oper)(o:Oper)(i:Nat)(rest:List Nat)(k:List Item)(cs0 cs:List Frame):z2->Prop
 |.ok v d' br a6=>∃a9 w' u vW b5,Steps P (lone (b.atR a (.inRegion ops (i::rest)::k)) cs w) (lone (b.atR {tmps:=(a.put o.dst u).tmps,defers:=vW} (.inRegion ops rest::k)) b5 w')/\
   bz a9 v u/\bK a9 a6 w'/\cA μ H w a9 a6 w'/\hs a9 d' vW/\iO a9 b.kind cs0 br b5
 |.cw v d' br a6=>∃a9 w' u,Steps P (lone (b.atR a (.inRegion ops (i::rest)::k)) cs w) (lone {b.atR a (.inRegion ops (i::rest)::k) with mode:=.panicking [{v:=u,recovered:=false}]} cs w')/\
   bz a9 v u/\bK a9 a6 w'/\cA μ H w a9 a6 w'/\hs a9 d' a.defers/\iO a9 b.kind cs0 br cs
 |.fail _=>True
theorem put_defers(a:Act)(dst:Option Tmp)(u:Value):(a.put dst u).defers=a.defers:=by cases dst<;>rfl
theorem DE(a:Act)(dst:Option Tmp)(u:Value):a.put dst u={tmps:=(a.put dst u).tmps,defers:=a.defers}:=by cases dst<;>rfl
theorem VM(a:Act)(ds:List Deferred)(dst:Option Tmp)(u:Value):({a with defers:=ds}:Act).put dst u={tmps:=(a.put dst u).tmps,defers:=ds}:=by cases dst<;>rfl
theorem M1{b:Frame}{a:Act}{ops:Array Oper}{o:Oper}{i:Nat}{rest:List Nat}{k:List Item}{cs0 cs:List Frame}(bc:ops[i]? =some o){d:List cb}{q:bU}
  (ai:hs μ d a.defers)(aK:iO μ b.kind cs0 q cs){r:bE}{m:Machine}(al:Steps P (lone (b.atR a (.inRegion ops (i::rest)::k)) cs w) m)
  (aA:uq P m (b.atR a (.inRegion ops (i::rest)::k)) cs (Ends μ H w r)):GW P μ H w b a ops o i rest k cs0 cs (z3 d q r):=by
 obtain⟨e,w',ao,cL⟩:=aA
 cases r with
 |ret v a6=>
  obtain⟨a9,u,rfl,I,ae,ax⟩:=ao
  refine⟨a9,w',u,a.defers,cs,al.trans ?_,I,ae,ax,ai.mono ax.le,aK.mono ax.le⟩
  have:(b.atR a (.inRegion ops (i::rest)::k)).finish u=b.atR {tmps:=(a.put o.dst u).tmps,defers:=a.defers} (.inRegion ops rest::k):=by
   rw[Frame.finish_atR,bc,<-DE];rfl
  rw[<-this];exact cL
 |cw v a6=>
  obtain⟨a9,u,rfl,I,ae,ax⟩:=ao
  exact⟨a9,w',u,al.trans cL,I,ae,ax,ai.mono ax.le,aK.mono ax.le⟩
 |fail w=>trivial
theorem DF{r:bE}(h:r.mP=false):∃s,r=.fail s:=by
 cases r with
 |fail s=>exact⟨s,rfl⟩
 |_=>cases h
theorem DG{r:bE}(ar:r.mP=true):∀w',¬Ends μ H w r .outgrown w':=by
 intro w' h
 cases r with
 |ret v a6=>obtain⟨_,_,e,_⟩:=h;cases e
 |cw v a6=>obtain⟨_,_,e,_⟩:=h;cases e
 |fail s=>cases ar
theorem M3{call:ff->List ad->ab->bE}(ah:kM P call)(au:bK μ H w)(nX:iA P μ){b:Frame}{a:Act}{ops:Array Oper}{o:Oper}{i:Nat}{rest:List Nat}{k:List Item}{cs0 cs:List Frame}
  (bc:ops[i]? =some o){gd:Option (ad×Bool)}(hC:∀rI,fg gd=some rI->Region.wanted o (yielded ops a.tmps)=rI){g:Operand->ad}(ar:∀x,bz μ (g x) (a.eval x)){d:List cb}{q:bU}
  (ai:hs μ d a.defers)(aK:iO μ b.kind cs0 q cs){inR:Bool}(gp:inR=b.roundOf.isSome):GW P μ H w b a ops o i rest k cs0 cs (eI P inR call gd o g d q H):=by
 unfold eI
 have oP:∀u,(b.atR a (.inRegion ops (i::rest)::k)).finish u=b.atR {tmps:=(a.put o.dst u).tmps,defers:=a.defers} (.inRegion ops rest::k):=λu=>by
  rw[Frame.finish_atR,bc,<-DE];rfl
 split
 · trivial
 · rename_i hw
   have vX:=hC _ hw
   refine⟨μ,w,undef,a.defers,cs,?_,⟨[],rfl,rfl⟩,au,cA.refl _ _ _,ai,aK⟩
   have al:=stepR_op_skip (P:=P) (b:=b) (a:=a) (k:=k) (cs:=cs) (w:=w) (ops:=ops) (i:=i) (rest:=rest) (by simp[bc,vX])
   rw[bc] at al
   have he:a.put ((some o).bind (·.dst)) undef={tmps:=(a.put o.dst undef).tmps,defers:=a.defers}:=DE a o.dst undef
   rw[he] at al
   exact .one al
 · rename_i hw
   have GX:=hC _ hw
   have cL:=stepGR_op (P:=P) (b:=b) (a:=a) (k:=k) (cs:=cs) (w:=w) (rest:=rest) bc GX
   have eM:=VG (P:=P) au o ar
   by_cases M4:b.roundOf.isSome=true/\∃c,o.op=.defer c
   · obtain⟨ao,c,VN⟩:=M4
     have:(∃x,c7 P o g H=.m_ x)\/∃s,c7 P o g H=.fail s:=by
      unfold c7
      rw[VN]
      simp only
      split
      · split
        · exact .inl ⟨_,rfl⟩
        · exact .inr ⟨_,rfl⟩
      · exact .inr ⟨_,rfl⟩
     rcases this with⟨x,e⟩|⟨s,e⟩
     · rw[e];simp only[gp,ao,if_true];trivial
     · rw[e];trivial
   · have vY:o.semAt b.roundOf a.eval=execOp a.eval o:=by
       cases gn:b.roundOf with
       |none=>rfl
       |some l=>exact Oper.semAt_eq _ _ _ λc e=>M4 ⟨by rw[gn];rfl,c,e⟩
     rw[vY] at cL
     obtain⟨ak,av,aD,a4,bk,cQ,dO,dW⟩:=DD cL
     cases gu:c7 P o g H with
     |val v a6=>
      rw[gu] at eM
      obtain⟨a9,w',u,ao,I,ae,ax⟩:=eM
      refine⟨a9,w',u,a.defers,cs,?_,I,ae,ax,ai.mono ax.le,aK.mono ax.le⟩
      rw[<-oP]
      rcases ao with ao|⟨rfl,ao⟩
      · exact ak _ _ ao
      · exact av _ ao
     |cw v a6=>
      rw[gu] at eM
      obtain⟨rfl,u,ao,I⟩:=eM
      exact⟨μ,w,u,aD _ _ ao,I,au,cA.refl _ _ _,ai,aK⟩
     |call f args a6=>
      rw[gu] at eM
      obtain⟨rfl,vs,ao,I⟩:=eM
      simp only
      cases cx:(call (.fn f) args a6).mP with
      |false=>obtain⟨s,al⟩:=DF cx;rw[al];trivial
      |true=>
       rcases ah.fn f args a6 cx μ w vs au nX I with⟨v,w',a8,a2⟩|⟨a8,a2⟩
       · rw[<-ao] at a8
         have al:=ak _ _ a8
         cases M5:call (.fn f) args a6 with
         |fail s=>trivial
         |ret v' bh=>
          rw[M5] at a2
          obtain⟨a9,u,e,ae,ax,aN⟩:=a2
          cases e
          exact⟨a9,w',_,a.defers,cs,by rw[<-oP];exact al,ae,ax,aN,ai.mono aN.le,aK.mono aN.le⟩
         |cw v' bh=>
          rw[M5] at a2
          obtain⟨a9,u,e,ae,ax,aN⟩:=a2
          cases e
       · rw[<-ao] at a8
         have al:=bk _ _ _ a8
         exact M1 bc ai aK al (M0 (DG cx) a2 _ _)
     |eb l args a6=>
      rw[gu] at eM
      obtain⟨rfl,e_,vs,aA,ao,I⟩:=eM
      simp only
      cases cx:(call (.eb l) args a6).mP with
      |false=>obtain⟨s,al⟩:=DF cx;rw[al];trivial
      |true=>
       obtain⟨f,tmps,as,cK,a8,a2⟩:=ah.eb l args a6 cx μ w e_ vs au nX aA I
       rw[<-ao] at a8
       have al:=cQ _ _ _ _ _ _ a8
       exact M1 bc ai aK al (a2 _ _)
     |m_ x=>
      rw[gu] at eM
      obtain⟨uj,ao,I⟩:=eM
      simp only
      split
      · trivial
      · refine⟨μ,w,undef,uj::a.defers,cs,?_,⟨[],rfl,rfl⟩,au,cA.refl _ _ _,⟨_,_,rfl,I,ai⟩,aK⟩
        have al:=a4 _ _ ao
        rw[bc] at al
        have he:({a with defers:=uj::a.defers}:Act).put ((some o).bind (·.dst)) undef={tmps:=(a.put o.dst undef).tmps,defers:=uj::a.defers}:=VM a _ o.dst undef
        rw[he] at al
        exact al
     |vy=>
      rw[gu] at eM
      have ao:(execOp a.eval o).run P w=.ok .recover w:=eM
      simp only
      split
      · trivial
      · rename_i Dp
        have AH:b.roundOf=none:=by
         cases gn:b.roundOf with
         |none=>rfl
         |some l=>rw[gn] at gp;exact absurd gp Dp
        have ay:(b.atR a (.inRegion ops (i::rest)::k)).kind=b.kind:=rfl
        split
        · obtain⟨rfl,bm⟩:=aK
          refine⟨μ,w,.nilIface,a.defers,cs,?_,rfl,au,cA.refl _ _ _,ai,⟨rfl,bm⟩⟩
          rw[<-oP]
          exact dW AH _ ao (bm _ ay)
        · have rJ:=aK
          obtain⟨oQ,c,rs,u,aG,aE,bH,rfl⟩:=aK
          refine⟨μ,w,.nilIface,a.defers,_,?_,rfl,au,cA.refl _ _ _,ai,rJ⟩
          rw[<-oP]
          refine dW AH _ ao ?_
          have AI:(b.atR a (.inRegion ops (i::rest)::k)).kind=.deferred:=ay.trans oQ
          simp only[tryRecover,AI]
        · obtain⟨rfl,oQ,c,rs,u,aG,aE,bH⟩:=aK
          subst aG
          refine⟨μ,w,u,a.defers,{c with mode:=.panicking [{v:=u,recovered:=true}]}::rs,?_,bH,au,cA.refl _ _ _,ai,⟨oQ,c,rs,u,rfl,aE,bH,rfl⟩⟩
          rw[<-oP]
          refine dO AH _ ao _ _ ?_
          have AI:(b.atR a (.inRegion ops (i::rest)::k)).kind=.deferred:=ay.trans oQ
          simp only[tryRecover,AI,aE]
     |fail s=>trivial
end
end bg
