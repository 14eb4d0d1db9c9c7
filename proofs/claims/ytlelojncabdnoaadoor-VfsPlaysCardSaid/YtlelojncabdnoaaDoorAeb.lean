/-
  THE ABSTRACT EVALUATOR (operations): a deterministic semantics of loaded code, and the proof that its runs are runs of the program in the model, whatever the tape draws. No condition.
-/
import Derived.Test.YtlelojncabdnoaaDoorAea
import Derived.ChangeKeysEq
import Derived.Laws.StructEq
import Derived.AtR
set_option linter.unusedVariables false
set_option linter.unusedSimpArgs false
namespace aS
open Go
section
variable {P:Program} {μ:bd} {H:J} {w:World}
theorem x1{b off n:Nat}{cs:List I}(h:loadCells H b off n=some cs):cs.length=n:=by
 unfold loadCells at h
 split at h
 · obtain⟨h1,rfl⟩:=q9 _ _ _ h
   simp;omega
 · cases h
theorem x2:∀l:List UInt8,(cU l).length=l.length
 |[]=>rfl
 |_::l=>by simp[cU,x2 l]
theorem Ex{size n:Nat}{x:I}{cs:List I}(h:h7 H size x=some (n,cs)):cs.length=n*size:=by
 cases x<;>simp only[h7] at h<;>try cases h
 · split at h<;>cases h
   rw[x2];simp
 · simp
 · rename_i b off len cap
   cases cap with
   |dead=>
    simp only at h
    split at h
    · cases h;simp
    · cases h
   |exact c=>
    simp only at h
    split at h
    · rename_i bC ar;cases h;exact x1 ar
    · cases h
   |aH fx=>
    simp only at h
    split at h
    · rename_i bC ar;cases h;exact x1 ar
    · cases h
theorem LL(af:bg μ H w){argTypes:Array TypeId}{ty sT:TypeId}(aA:argTypes[0]? =some sT){s x:I}{mv bo:Value}(ad:a1 μ s mv)(U:a1 μ x bo){v:I}{aD:J}
  (h:en P H sT argTypes[1]? s x=some (v,aD)):ep P μ H w (Builtin.append_ argTypes ty #[mv,bo]) v aD:=by
 unfold en at h
 split at h
 · rename_i e hu e5
   split at h
   · rename_i i z ag aW
     split at h
     · cases h
     · rename_i n cs gn
       obtain⟨ar,us,k4,iE⟩:=xV (P:=P) af U gn
       have dt:=Ex gn
       cases s<;>(try simp only at h)<;>try cases h
       ·
        cases ad
        cases n with
        |zero=>
         cases h
         have:=vh (P:=P) (ty:=ty) aA rfl hu e5 ag (base:=none) (sLen:=0) (sCap:=0) ar k4 (by omega)
         exact .same af this rfl
        |succ n=>
         have an:mU H e i.bytes i.size (0+(n+1)) z ([]++cs) 0=some (v,aD):=by simpa using h
         exact AH af aA rfl hu e5 ag aW U gn (old:=[]) ⟨[],rfl,rfl⟩ (by simp) dt (by omega) af (bN.refl _ _ _) an
       · rename_i b off len cap
         obtain⟨cV,gg,ab⟩:=ad
         cases cap with
         |dead=>cases h
         |exact cap=>
          cases ab
          simp only at h
          split at h
          · rename_i hle
            have hle:=Nat.le_of_ble_eq_true hle
            have aj:=vh (P:=P) (ty:=ty) aA rfl hu e5 ag (base:=some ⟨cV.a6,cV.base+off,none⟩) (sLen:=len) (sCap:=cap) ar k4 hle
            simp only[add_plain] at aj
            split at h
            · cases h
              have AJ:us=[]:=by
               have h1:=dt;have aa:=iE.length
               cases us with
               |nil=>rfl
               |cons a l=>simp at h1 aa;omega
              subst AJ
              refine .same af (v':=.slice (some ⟨cV.a6,cV.base+off,none⟩) len cap) ?_ ⟨cV,gg,rfl⟩
              rw[aj];simp[_root_.Go.storeCells]
            · split at h
              · rename_i h1 bW
                cases h
                obtain⟨w',av,au,bm⟩:=u6 (P:=P) af gg iE bW
                refine⟨μ,w',.slice (some ⟨cV.a6,cV.base+off,none⟩) (len+n) cap,?_,⟨cV,gg,rfl⟩,au,bm⟩
                rw[aj,Nat.add_assoc,av];rfl
              · cases h
          · rename_i hle
            have bx:cap<len+n:=by
             rcases Nat.lt_or_ge cap (len+n) with h|h
             · exact h
             · rw[vf h] at hle;cases hle
            split at h
            · rename_i old hold
              obtain⟨os,dO,ef⟩:=pS (P:=P) af.drew gg hold
              exact AH af aA rfl hu e5 ag aW U gn (old:=old) ⟨os,by simp only[Builtin.firstCells];exact dO,ef⟩ (x1 hold) dt bx af (bN.refl _ _ _) h
            · cases h
         |aH fx=>
          obtain⟨cap,rfl,pU,bp⟩:=ab
          simp only at h
          split at h
          · rename_i jI
            simp only[Bool.and_eq_true,Nat.blt_eq] at jI
            have LM:=Nat.eq_of_beq_eq_true jI.1
            subst LM
            have ni:=jI.2
            split at h
            · cases h
              have aj:=vh (P:=P) (ty:=ty) aA rfl hu e5 ag (base:=some ⟨cV.a6,cV.base+off,none⟩) (sLen:=len) (sCap:=cap) ar k4 (by omega)
              simp only[add_plain] at aj
              have AJ:us=[]:=by
               have h1:=dt;have aa:=iE.length
               cases us with
               |nil=>rfl
               |cons a l=>simp at h1 aa;omega
              subst AJ
              refine .same af (v':=.slice (some ⟨cV.a6,cV.base+off,none⟩) len cap) ?_ ⟨cV,gg,cap,rfl,pU,bp⟩
              rw[aj];simp[_root_.Go.storeCells]
            · split at h
              · rename_i old el bB dV ae
                have LN:=af.rel b _ cV ae gg
                obtain⟨c,eK,eL,aT,bb,bP,gP,k2⟩:=LN
                split at h
                · rename_i p3
                  have p3:=Nat.le_of_ble_eq_true p3
                  split at h
                  · rename_i h1 bW
                    cases h
                    have k5:len+n<=cap:=by
                     have:(len+n)*i.size<=cap*i.size:=by omega
                     exact Nat.le_of_mul_le_mul_right this ni
                    have aj:=vh (P:=P) (ty:=ty) aA rfl hu e5 ag (base:=some ⟨cV.a6,cV.base+off,none⟩) (sLen:=len) (sCap:=cap) ar k4 k5
                    simp only[add_plain] at aj
                    obtain⟨w',av,au,bm⟩:=u6 (P:=P) af gg iE bW
                    refine⟨μ,w',.slice (some ⟨cV.a6,cV.base+off,none⟩) (len+n) cap,?_,⟨cV,gg,cap,rfl,k5,bp⟩,au,bm⟩
                    rw[aj,Nat.add_assoc,av];rfl
                  · cases h
                · split at h
                  · rename_i o Ey hold
                    simp only[Bool.and_eq_true] at Ey
                    obtain⟨jr,vk⟩:=Ey
                    have jr:=Nat.le_of_ble_eq_true jr
                    have vk:=Nat.eq_of_beq_eq_true vk
                    subst vk
                    have an:=h
                    unfold mU at h
                    split at h
                    · rename_i Ez
                      simp only[Bool.and_eq_true] at Ez
                      obtain⟨⟨n3,n1⟩,dD⟩:=Ez
                      cases h
                      have vi:=x1 hold
                      by_cases p3:len+n<=cap
                      ·
                       have aj:=vh (P:=P) (ty:=ty) aA rfl hu e5 ag (base:=some ⟨cV.a6,cV.base+off,none⟩) (sLen:=len) (sCap:=cap) ar k4 p3
                       simp only[add_plain] at aj
                       have hmul:(len+n)*i.size<=cap*i.size:=Nat.mul_le_mul_right _ p3
                       have Ew:(len+n)*i.size=len*i.size+n*i.size:=Nat.add_mul _ _ _
                       have K4:us.length=n*i.size:=by rw[<-iE.length];exact dt
                       obtain⟨w',c',av,au,bm,cN,fE,h8,n0,nj,ra⟩:=Ef P cV.a6 (cV.base+(off+len*i.size)) us w 0 c el eK eL aT
                        (iE.u1 λa aJ=>LA dD a (List.mem_append_right _ aJ)) (by omega) (λj h9 lM ⟨f1,f2⟩=>by
                         have:=k2 (j-cV.base) (by omega) (by omega) (by omega)
                         omega)
                       have LO:cV.base+off+(cV.size-off)=c'.size:=by rw[nj,<-bP,<-bp];omega
                       obtain⟨ba,bH⟩:=af.Lw (w':=w') (o':=.cells (o++cs) el .aH 0 (dV-off)) ae rfl gg cN bm fE h8 n0.1 (cV.base+off) (cV.size-off) (hdr:=Nat.le_of_eq n0.2.symm)
                        ⟨c',eK,eL,au,λj a aG=>by
                         show∃u,c'[cV.base+off+j]? =some u/\_
                         rw[ra]
                         by_cases lN:j<o.length
                         · rw[List.getElem?_append_left lN] at aG
                           rw[if_neg (by omega)]
                           unfold loadCells at hold
                           rw[ae] at hold
                           simp only at hold
                           rw[lL] at hold
                           obtain⟨t1,rfl⟩:=q9 _ _ _ hold
                           rw[List.getElem?_take] at aG
                           split at aG
                           · rw[List.getElem?_drop] at aG
                             obtain⟨u,AK,pZ⟩:=bb (off+j) a aG
                             exact⟨u,by rw[Nat.add_assoc];exact AK,pZ.mono (af.ng _)⟩
                           · cases aG
                         · rw[List.getElem?_append_right (by omega)] at aG
                           have EA:j-o.length<cs.length:=by
                            rcases Nat.lt_or_ge (j-o.length) cs.length with h|h
                            · exact h
                            · rw[List.getElem?_eq_none h] at aG;cases aG
                           have Xe:=iE.length
                           rw[if_pos (by omega)]
                           obtain⟨u,AK,pZ⟩:=iE.get aG
                           refine⟨u,?_,pZ.mono (af.ng _)⟩
                           rw[<-AK]
                           have AL:cV.base+off+j-(cV.base+(off+len*i.size)+0)=j-o.length:=by rw[vi];omega
                           rw[AL],LO,by
                         refine⟨?_,λj h9 lM EB=>?_⟩
                         · simp only[List.length_append];have:=dt;omega
                         · have:=k2 (off+j) (by simp only at h9;omega) (by simp only at lM;omega) (by simp only at EB;omega)
                           omega⟩
                       refine⟨_,w',.slice (some ⟨cV.a6,cV.base+off,none⟩) (len+n) cap,?_,⟨_,fD _ _ _,cap,by simp,p3,by simp only;omega⟩,ba,bH⟩
                       rw[aj,Nat.add_assoc,av];rfl
                      ·
                       obtain⟨bt,bA⟩:=af.kill ae rfl gg
                       obtain⟨os,dO,ef⟩:=pS (P:=P) af.drew gg hold
                       exact AH (ty:=ty) af aA rfl hu e5 ag aW U gn (old:=o) ⟨os,by simp only[Builtin.firstCells];exact dO,ef⟩ vi dt (by omega) bt bA an
                    · cases h
                  · cases h
              · cases h
          · cases h
   · cases h
 · cases h
end
end aS
namespace aS
open Go
section
variable {P:Program} {μ:bd} {H:J} {w:World}
theorem bL.take{μ:bd}{as:List I}{vs:List Value}(h:bL μ as vs)(n:Nat):bL μ (as.take n) (vs.take n):=by
 refine bL.tb (by simp[h.length]) λj a aG=>?_
 rw[List.getElem?_take] at aG⊢
 split at aG
 · rename_i ar;rw[if_pos ar];exact h.get aG
 · cases aG
theorem EC(af:bg μ H w){size n m:Nat}{x:I}{bo:Value}(U:a1 μ x bo){cs r:List I}(h:h7 H size x=some (n,cs))(hm:m<=n)(aj:takeN (m*size) cs=some r):
  ∃us:List Value,(Builtin.firstCells size m bo).run P w=.ok ⟨us⟩ w/\bL μ r us:=by
 obtain⟨bk,rfl⟩:=q9 _ _ _ aj
 have dt:=Ex h
 cases x<;>simp only[h7] at h<;>try cases h
 · split at h<;>cases h
   obtain⟨bs,rfl,rfl⟩:=U
   refine⟨_,?_,(xU μ _).take _⟩
   simp only[Builtin.firstCells,Sem.run_pure]
   congr 1
   apply Array.ext'
   simp[ByteArray.data_extract,List.map_take]
 · cases U
   exact⟨[],rfl,by simp;rfl⟩
 · rename_i b off len cap
   obtain⟨i,ag,ab⟩:=U
   have load:∀bC,loadCells H b off (len*size)=some bC->n=len->cs=bC->∀c,∃us:List Value,(Builtin.firstCells size m (.slice (some ⟨i.a6,i.base+off,none⟩) len c)).run P w=.ok ⟨us⟩ w/\bL μ (cs.take (m*size)) us:=by
    intro bC ar aC gf c
    subst gf;subst aC
    have LP:loadCells H b off (m*size)=some (cs.take (m*size)):=by
     unfold loadCells at ar⊢
     split at ar
     · rename_i aT bb bP gP k2 ae
       obtain⟨t1,t2⟩:=q9 _ _ _ ar
       have hmul:m*size<=n*size:=Nat.mul_le_mul_right _ hm
       have e:∀(k:Nat) (l:List I),k<=l.length->takeN k l=some (l.take k):=by
        intro k
        induction k with
        |zero=>intro l _;simp[takeN]
        |succ k bc=>
         intro l ar
         cases l with
         |nil=>simp at ar
         |cons a l=>simp[takeN,bc l (by simpa using ar)]
       rw[e _ _ (by omega),t2,List.take_take,Nat.min_eq_left hmul]
     · cases ar
    obtain⟨us,h1,aa⟩:=pS (P:=P) af ag LP
    exact⟨us,by simp only[Builtin.firstCells];exact h1,aa⟩
   cases cap with
   |dead=>
    simp only at h
    split at h
    · cases h
      obtain⟨_,a,c,rfl⟩:=ab
      have:m=0:=by omega
      subst this
      exact⟨[],by simp[Builtin.firstCells,_root_.Go.loadCells,loadCellsFrom],by simp;rfl⟩
    · cases h
   |exact c=>
    cases ab
    simp only at h
    split at h
    · rename_i bC ar;cases h;exact load _ ar rfl rfl c
    · cases h
   |aH fx=>
    obtain⟨c,rfl,_⟩:=ab
    simp only at h
    split at h
    · rename_i bC ar;cases h;exact load _ ar rfl rfl c
    · cases h
theorem LQ(af:bg μ H w){argTypes:Array TypeId}{ty xA:TypeId}(aA:argTypes[0]? =some xA){d s:I}{AM mv:Value}(ak:a1 μ d AM)(ad:a1 μ s mv){v:I}{aD:J}
  (h:s6 P H xA d s=some (v,aD)):ep P μ H w (Builtin.copy_ argTypes ty #[AM,mv]) v aD:=by
 unfold s6 at h
 split at h
 · rename_i e hu
   split at h
   · rename_i sz bp
     split at h
     · rename_i n cs gn
       obtain⟨ar,_⟩:=xV (P:=P) af ad gn
       have iF:∀w:World,(_root_.Go.sizeOf e).run P w=.ok sz w:=λw=>run_sizeOf bp
       have ED:∀bo:Value,bo=mv->(Builtin.firstCells sz 0 mv).run P w=.ok #[] w:=λbo _=>by
        obtain⟨us,h1,aa⟩:=EC (P:=P) (m:=0) (r:=[]) af ad gn (Nat.zero_le _) (by simp[takeN])
        cases us with
        |nil=>exact h1
        |cons a l=>cases aa
       split at h
       · cases h;cases ak
         refine .same af (v':=.int .i64 0) ?_ rfl
         simp[Builtin.copy_,aA,bD hu,ar,iF,ED mv rfl,goInt]
       · rename_i b off len cap
         simp only at h
         obtain⟨i,ag,ab⟩:=ak
         have jt:∃(a:Addr) (c:Nat),AM=.slice (some a) len c/\(cap≠ .dead->a=⟨i.a6,i.base+off,none⟩):=by
          cases cap with
          |exact c=>cases ab;exact⟨_,c,rfl,λ_=>rfl⟩
          |aH fx=>obtain⟨c,rfl,_⟩:=ab;exact⟨_,c,rfl,λ_=>rfl⟩
          |dead=>obtain⟨rfl,a,c,rfl⟩:=ab;exact⟨a,c,rfl,λh=>absurd rfl h⟩
         obtain⟨a,c,rfl,aJ⟩:=jt
         split at h
         · rename_i np
           cases h
           refine .same af (v':=.int .i64 0) ?_ rfl
           simp[Builtin.copy_,aA,bD hu,ar,iF,np,ED mv rfl,goInt,_root_.Go.storeCells]
         · rename_i np
           split at h
           · rename_i bC bk
             split at h
             · rename_i h1 bW
               cases h
               have iW:cap≠ .dead:=by
                intro e;subst e
                obtain⟨av,_⟩:=ab
                subst av;simp[Nat.min_def] at np
               have:=aJ iW
               subst this
               obtain⟨us,aT,bb⟩:=EC (P:=P) af ad gn (Nat.min_le_left _ _) bk
               obtain⟨w',av,au,bm⟩:=u6 (P:=P) af ag bb bW
               refine⟨μ,w',.int .i64 (Nat.min n len:Nat),?_,rfl,au,bm⟩
               simp[Builtin.copy_,aA,bD hu,ar,iF,aT,av,goInt]
             · cases h
           · cases h
       · cases h
     · cases h
   · cases h
 · cases h
theorem LR(af:bg μ H w){argTypes:Array TypeId}{ty t:TypeId}(aA:argTypes[0]? =some t){x:I}{bo:Value}(U:a1 μ x bo){v:I}{aD:J}
  (h:xB P H t x=some (v,aD)):ep P μ H w (Builtin.clear_ argTypes ty #[bo]) v aD:=by
 unfold xB at h
 split at h
 · rename_i hu;cases h;cases U
   exact .same af (v':=.tuple #[]) (by simp[Builtin.clear_,aA,bD hu]) ⟨[],rfl,rfl⟩
 · rename_i hu;cases h;cases U
   exact .same af (v':=.tuple #[]) (by simp[Builtin.clear_,aA,bD hu]) ⟨[],rfl,rfl⟩
 · rename_i hu
   split at h
   · rename_i es c an
     cases h
     obtain⟨i,ag,rfl⟩:=U
     obtain⟨ents,av,au⟩:=af.rel _ _ i an ag
     have bx:i.a6<w.heap.size:=(af.lt _ _ ag).2
     obtain⟨ba,bH⟩:=af.update (w':={w with heap:=w.heap.setIfInBounds i.a6 (.map #[] c)}) (o':=.map [] c) an rfl ag (by simp) (λr aj=>by simp[Array.getElem?_setIfInBounds];intro e;exact absurd e.symm aj) rfl rfl rfl
      ⟨[],by simp[bx],rfl⟩
     refine⟨μ,_,.tuple #[],?_,⟨[],rfl,rfl⟩,ba,bH⟩
     simp[Builtin.clear_,aA,bD hu,getObj,setObj,Sem.run,av]
   · cases h
 · rename_i e b off n cap hu
   split at h
   · rename_i aC
     cases h
     subst aC
     obtain⟨i,ag,ab⟩:=U
     have:∃a c,bo=.slice (some a) 0 c:=by
      cases cap with
      |exact c=>cases ab;exact⟨_,c,rfl⟩
      |aH fx=>obtain⟨c,rfl,_⟩:=ab;exact⟨_,c,rfl⟩
      |dead=>obtain⟨_,a,c,rfl⟩:=ab;exact⟨a,c,rfl⟩
     obtain⟨a,c,rfl⟩:=this
     exact .same af (v':=.tuple #[]) (by simp[Builtin.clear_,aA,bD hu]) ⟨[],rfl,rfl⟩
   · rename_i aC
     split at h
     · rename_i z aW
       split at h
       · rename_i h1 bW
         cases h
         obtain⟨eV,LS,rfl,ae⟩:=kZ (P:=P) (w:=w) aW
         have mu:=Lu n ((jq μ eV).cells ae)
         obtain⟨i,ag,ab⟩:=U
         have:∃c,bo=.slice (some ⟨i.a6,i.base+off,none⟩) n c:=by
          cases cap with
          |exact c=>cases ab;exact⟨c,rfl⟩
          |aH fx=>obtain⟨c,rfl,_⟩:=ab;exact⟨c,rfl⟩
          |dead=>obtain⟨aA,_⟩:=ab;exact absurd aA aC
         obtain⟨c,rfl⟩:=this
         obtain⟨w',av,au,bm⟩:=u6 (P:=P) af ag mu bW
         refine⟨μ,w',.tuple #[],?_,⟨[],rfl,rfl⟩,au,bm⟩
         cases n with
         |zero=>exact absurd rfl aC
         |succ n=>simp[Builtin.clear_,aA,bD hu,LS,av]
       · cases h
     · cases h
 · cases h
theorem LU(af:bg μ H w){argTypes:Array TypeId}{ty t:TypeId}(aA:argTypes[0]? =some t){x:I}{bo:Value}(U:a1 μ x bo){v:I}(h:fO P H t x=some v):
  ep P μ H w (Builtin.len_ argTypes ty #[bo]) v H:=by
 unfold fO at h
 split at h
 · rename_i s hu;cases h
   obtain⟨bs,rfl,rfl⟩:=U
   refine .same af (v':=.int .i64 (bs.size:Int)) (by simp[Builtin.len_,aA,bD hu,goInt]) ?_
   have:bs.data.toList.length=bs.size:=Array.length_toList
   rw[this];rfl
 · rename_i n e hu;cases h
   exact .same af (v':=.int .i64 (n:Int)) (by simp[Builtin.len_,aA,bD hu,goInt]) rfl
 · rename_i e b off n cap hu;cases h
   obtain⟨i,ag,ab⟩:=U
   have:∃a c,bo=.slice a n c:=by
    cases cap with
    |exact c=>cases ab;exact⟨_,c,rfl⟩
    |aH fx=>obtain⟨c,rfl,_⟩:=ab;exact⟨_,c,rfl⟩
    |dead=>obtain⟨rfl,a,c,rfl⟩:=ab;exact⟨_,c,rfl⟩
   obtain⟨a,c,rfl⟩:=this
   exact .same af (v':=.int .i64 (n:Int)) (by simp[Builtin.len_,aA,bD hu,goInt]) rfl
 · rename_i hu;cases h;cases U
   exact .same af (v':=.int .i64 0) (by simp[Builtin.len_,aA,bD hu,goInt]) rfl
 · rename_i hu;cases h;cases U
   exact .same af (v':=.int .i64 0) (by simp[Builtin.len_,aA,bD hu,goInt]) rfl
 · rename_i r hu
   split at h
   · rename_i es c an
     cases h
     obtain⟨i,ag,rfl⟩:=U
     obtain⟨ents,av,au⟩:=af.rel _ _ i an ag
     have hlen:es.length=ents.length:=by
      clear av an
      induction es generalizing ents with
      |nil=>cases au;rfl
      |cons e es bc=>obtain⟨m,ms,rfl,_,aa⟩:=au;simp[bc ms aa]
     refine .same af (v':=.int .i64 (ents.length:Int)) ?_ (by rw[hlen];rfl)
     simp[Builtin.len_,aA,bD hu,goInt,getObj,Sem.run,av]
   · cases h
 · rename_i arr hu
   split at h
   · rename_i n e pZ;cases h
     exact .same af (v':=.int .i64 (n:Int)) (by simp[Builtin.len_,aA,bD hu,bD pZ,goInt]) rfl
   · cases h
 · cases h
theorem LV(af:bg μ H w){argTypes:Array TypeId}{ty t:TypeId}(aA:argTypes[0]? =some t){x:I}{bo:Value}(U:a1 μ x bo){v:I}(h:s5 P t x=some v):
  ep P μ H w (Builtin.cap_ argTypes ty #[bo]) v H:=by
 unfold s5 at h
 split at h
 · rename_i n e hu;cases h
   exact .same af (v':=.int .i64 (n:Int)) (by simp[Builtin.cap_,aA,bD hu,goInt]) rfl
 · rename_i e b off n c hu;cases h
   obtain⟨i,ag,ab⟩:=U
   cases ab
   exact .same af (v':=.int .i64 (c:Int)) (by simp[Builtin.cap_,aA,bD hu,goInt]) rfl
 · rename_i hu;cases h;cases U
   exact .same af (v':=.int .i64 0) (by simp[Builtin.cap_,aA,bD hu,goInt]) rfl
 · cases h
theorem AN(f:I->I->Option I)(F:Value->Value->Sem Value)(hf:∀x y z bo fF,f x y=some z->a1 μ x bo->a1 μ y fF->∃eV,(F bo fF).run P w=.ok eV w/\a1 μ z eV):
  ∀(l:List I) (x:I) (bo:Value) (k6:List Value) (z:I),a1 μ x bo->bL μ l k6->gX f x l=some z->∃eV,(k6.foldlM F bo).run P w=.ok eV w/\a1 μ z eV
 |[],x,bo,k6,z,U,ar,h=>by
  cases ar;simp[gX] at h;subst h
  exact⟨bo,rfl,U⟩
 |y::l,x,bo,k6,z,U,⟨fF,EE,e,aP,ar⟩,h=>by
  subst e
  simp only[gX] at h
  split at h
  · rename_i u hu
    obtain⟨LW,ba,bH⟩:=hf x y u bo fF hu U aP
    obtain⟨eV,s1,s2⟩:=AN f F hf l u LW EE z bH ar h
    exact⟨eV,by simp only[List.foldlM_cons,Sem.run_bind,ba,Result.andThen_ok,s1],s2⟩
  · cases h
theorem LX{x y z:I}{bo fF:Value}(h:jZ x y=some z)(U:a1 μ x bo)(aP:a1 μ y fF):∃eV,(Builtin.min2 bo fF).run P w=.ok eV w/\a1 μ z eV:=by
 unfold jZ at h
 split at h
 · split at h
   · rename_i hk;cases h;subst hk
     cases U;cases aP
     exact⟨_,rfl,by simp[a1,eC]⟩
   · cases h
 · cases h
theorem LY{x y z:I}{bo fF:Value}(h:mV x y=some z)(U:a1 μ x bo)(aP:a1 μ y fF):∃eV,(Builtin.max2 bo fF).run P w=.ok eV w/\a1 μ z eV:=by
 unfold mV at h
 split at h
 · split at h
   · rename_i hk;cases h;subst hk
     cases U;cases aP
     exact⟨_,rfl,by simp[a1,eC]⟩
   · cases h
 · cases h
end
end aS
namespace aS
open Go
section
variable {P:Program} {μ:bd} {H:J} {w:World}
theorem EF:∀(cs:List I) (bs:List UInt8) (us:List Value),lF cs=some bs->bL μ cs us->us=bs.map λb=>.int .u8 (b.toNat:Int)
 |[],bs,us,h,aj=>by cases aj;simp[lF] at h;subst h;rfl
 |c::cs,bs,us,h,⟨v,vs,e,h1,aa⟩=>by
  subst e
  unfold lF at h
  split at h
  · rename_i heq;cases heq
  · rename_i n l heq
    cases heq
    split at h
    · rename_i r aC aj
      cases h
      cases h1
      rw[EF cs r vs aj aa]
      simp only[Nat.blt_eq] at aC
      have:n %256=n:=Nat.mod_eq_of_lt aC
      simp[UInt8.toNat_ofNat',this]
    · cases h
  · cases h
theorem EG(w:World):∀(bs:List UInt8) (acc:ByteArray),(forIn (bs.map λb=>Value.int .u8 (b.toNat:Int)) acc λc s=>
  (match c with
  |.int .u8 n=>pure (ForInStep.yield (s.push (UInt8.ofNat n.toNat)))
  |_=>do stuck "bytesToString: byte expected";pure (ForInStep.yield s):Sem (ForInStep ByteArray))).run P w=.ok ⟨acc.data++bs.toArray⟩ w
 |[],acc=>by simp
 |b::bs,acc=>by
  simp only[List.map_cons,List.forIn_cons,Sem.run_bind,Sem.run_pure,Result.andThen_ok,EG w bs]
  congr 1
  simp[ByteArray.ext_iff,ByteArray.push]
theorem EH(af:bg μ H w){b off n:Nat}{cap:cb}(k5:cap≠ .dead){bo:Value}(U:a1 μ (.slice b off n cap) bo){cs:List I}(ar:loadCells H b off n=some cs){bs:List UInt8}(ae:lF cs=some bs):
  ∃u,(Conv.bytesToString bo).run P w=.ok u w/\a1 μ (.str bs) u:=by
 obtain⟨i,ag,ab⟩:=U
 have:∃c,bo=.slice (some ⟨i.a6,i.base+off,none⟩) n c:=by
  cases cap with
  |exact c=>cases ab;exact⟨c,rfl⟩
  |aH fx=>obtain⟨c,rfl,_⟩:=ab;exact⟨c,rfl⟩
  |dead=>exact absurd rfl k5
 obtain⟨c,rfl⟩:=this
 obtain⟨us,h1,aa⟩:=pS (P:=P) af ag ar
 have k4:=EF cs bs us ae aa
 subst k4
 refine⟨.string ⟨bs.toArray⟩,?_,⟨_,rfl,by simp⟩⟩
 simp only[Conv.bytesToString,Sem.run_bind,h1,Result.andThen_ok]
 have e:=EG (P:=P) w bs ByteArray.empty
 rw[<-List.forIn_toArray] at e
 refine(congrArg (λr=>Result.andThen r _) e).trans ?_
 simp
theorem LZ(af:bg μ H w){b off n:Nat}{cap:cb}(k5:cap≠ .dead){bo:Value}(U:a1 μ (.slice b off n cap) bo){cs:List I}(ar:loadCells H b off n=some cs){bs:List UInt8}(ae:lF cs=some bs):
  ep P μ H w (Conv.bytesToString bo) (.str bs) H:=by
 obtain⟨u,h1,aa⟩:=EH (P:=P) af k5 U ar ae
 exact .same af h1 aa
theorem L0(af:bg μ H w){e:TypeId}{bs:ByteArray}:
  ep P μ H w (Conv.stringToBytes e bs) (.slice H.n 0 bs.data.toList.length (.aH 1)) (H.push (.cells (cU bs.data.toList) e .aH 0 0)):=by
 have xY:(Question.appendCap bs.size 0 e).forced=false:=rfl
 have bp:bs.data.toList.length=bs.size:=Array.length_toList
 obtain⟨cap,k5,hle⟩:∃cap,(Question.appendCap bs.size 0 e).cut (w.tape w.drawn (Question.appendCap bs.size 0 e))=cap/\bs.size<=cap:=⟨_,rfl,by simp[Question.cut]⟩
 have x3:=af.drew.ng ⟨w.heap.size,0,cap⟩
 let c:Array Value:=(bs.data.map λb=>.int .u8 b.toNat)++Array.replicate (cap-bs.size) (.int .u8 0)
 have gf:c.size=cap:=by
  have:bs.data.size=bs.size:=rfl
  simp only[c,Array.size_append,Array.size_map,Array.size_replicate,this];omega
 have q_:tc (fC μ H.n ⟨w.heap.size,0,cap⟩) (cU bs.data.toList) c 0:=λj v aG=>by
  obtain⟨u,hu,aj⟩:=(xU μ bs.data.toList).get aG
  refine⟨u,?_,aj.mono x3⟩
  have oS:j<bs.data.size:=by
   rcases Nat.lt_or_ge j bs.data.size with h|h
   · exact h
   · rw[List.getElem?_eq_none (by simpa using h)] at hu;cases hu
  simp only[c,Nat.zero_add]
  rw[Array.getElem?_append_left (by simpa using oS)]
  simpa using hu
 have L1:bg (fC μ H.n ⟨w.heap.size,0,cap⟩) (H.push (.cells (cU bs.data.toList) e .aH 0 0)) (w.drew.alloc (.cells c e))/\bN μ H w.drew (fC μ H.n ⟨w.heap.size,0,cap⟩) (H.push (.cells (cU bs.data.toList) e .aH 0 0)) (w.drew.alloc (.cells c e)):=
  af.drew.alloc (.cells (cU bs.data.toList) e .aH 0 0) (.cells c e) cap
  ⟨c,0,0,World.heap_alloc_new _ _,q_,by simp[gf],by
    refine⟨?_,λj _ _ h=>by omega⟩
    rw[x2,bp];exact hle⟩
 obtain⟨ba,bH⟩:=L1
 let bQ:World:=(w.drew.alloc (.cells c e)).freeze ⟨w.heap.size,cap,none⟩ 1
 have AO:bQ.heap[w.heap.size]? =some (.cells c e (cap,cap+1)):=by
  simp only[bQ,World.freeze,if_neg (show¬(1=0) by omega),Array.getElem?_modify]
  have:(w.drew.alloc (.cells c e)).heap[w.heap.size]? =some (.cells c e (0,0)):=World.heap_alloc_new _ _
  rw[this];simp
 have p2:(H.push (.cells (cU bs.data.toList) e .aH 0 0)).get H.n=some (.cells (cU bs.data.toList) e .aH 0 0):=by rw[J.gC,if_pos rfl]
 have bW:bg (fC μ H.n ⟨w.heap.size,0,cap⟩) ((H.push (.cells (cU bs.data.toList) e .aH 0 0)).set H.n (some (.cells (cU bs.data.toList) e .aH 0 0))) bQ/\
   bN (fC μ H.n ⟨w.heap.size,0,cap⟩) (H.push (.cells (cU bs.data.toList) e .aH 0 0)) (w.drew.alloc (.cells c e)) (fC μ H.n ⟨w.heap.size,0,cap⟩) ((H.push (.cells (cU bs.data.toList) e .aH 0 0)).set H.n (some (.cells (cU bs.data.toList) e .aH 0 0))) bQ:=
  ba.update p2 rfl (fD _ _ _) (by simp[bQ,World.freeze]) (λr aj=>by
   simp only[bQ,World.freeze,if_neg (show¬(1=0) by omega),Array.getElem?_modify]
   rw[if_neg (λe=>aj e.symm)]) (by simp[bQ,World.freeze]) (by simp[bQ,World.freeze]) (by simp[bQ,World.freeze])
   ⟨c,cap,cap+1,AO,q_,by simp[gf],by
     refine⟨by rw[x2,bp];exact hle,λj h9 lM EB=>by simp only at h9 lM;omega⟩⟩
 refine⟨fC μ H.n ⟨w.heap.size,0,cap⟩,bQ,.slice (some ⟨w.heap.size,0,none⟩) bs.size cap,?_,⟨⟨w.heap.size,0,cap⟩,fD _ _ _,cap,by simp[bp],by rw[bp];exact hle,by simp⟩,?_,?_⟩
 · simp only[Conv.stringToBytes,Sem.run_bind,run_choose,xY,Bool.false_eq_true,if_false,World.drew_eq,Result.andThen_ok,k5]
   have av:(_root_.Go.newRow e c).run P w.drew=.ok ⟨w.heap.size,0,none⟩ (w.drew.alloc (.cells c e)):=rfl
   rw[show(_root_.Go.newRow e ((bs.data.map λb=>.int .u8 b.toNat)++Array.replicate (cap-bs.size) (.int .u8 0))).run P w.drew=_ from av]
   have au:(w.drew.alloc (.cells c e)).shape? w.heap.size=some (e,cap):=by
    have:(w.drew.alloc (.cells c e)).heap[w.heap.size]? =some (.cells c e (0,0)):=World.heap_alloc_new _ _
    simp only[World.shape?,this,gf]
   simp only[Result.andThen_ok,markStringish,Sem.run_bind,run_shape,au,run_freeze,Sem.run_pure]
   rfl
 ·
  refine⟨λb o i ae ag=>bW.1.rel b o i ?_ ag,λb c' i j ae ab=>bW.1.inj b c' i j ?_ ?_,bW.1.lt,λb ae=>?_⟩
  · rw[J.cL];split
    · rename_i e;subst e;rw[p2] at ae;exact ae
    · exact ae
  · rw[J.cL];split
    · simp
    · exact ae
  · rw[J.cL];split
    · exact⟨_,rfl,rfl⟩
    · exact ab
  · exact ba.bound b ae
 · refine bN.trans af af.drew bN.drew (bN.trans af.drew ba bH ⟨dB.refl _,bW.2.size,Nat.le_refl _,λ_ _ h=>h,λ_ _ _=>rfl,bW.2.old,λb i h ah=>(by rw[h] at ah;cases ah),λb o i ae aj ag=>⟨ae,(bW.2.ro b o i ae aj ag).2⟩,bW.2.os,bW.2.out,bW.2.tape,bW.2.drawn⟩)
theorem L2{i:fW}{o o':Nat}:(sameAddr ⟨i.a6,i.base+o,none⟩ ⟨i.a6,i.base+o',none⟩).run P w=.ok (Nat.beq o o') w:=by
 simp only[sameAddr,beq_self_eq_true,if_true,Sem.run_pure]
 congr 1
 rw[Bool.eq_iff_iff]
 simp
theorem L3{r r' o o' el oT:Nat}{c c':Array Value}(h:w.heap[r]? =some (.cells c el (0,0)))(ah:w.heap[r']? =some (.cells c' oT (0,0)))(b9:r≠r'):
  (sameAddr ⟨r,o,none⟩ ⟨r',o',none⟩).run P w=.ok false w:=by
 have ae:(r==r')=false:=beq_eq_false_iff_ne.2 b9
 have f1:∀k,w.frozen? ⟨r,k,none⟩=false:=λk=>by simp[World.frozen?,h]
 have f2:∀k,w.frozen? ⟨r',k,none⟩=false:=λk=>by simp[World.frozen?,ah]
 have s1:w.shape? r=some (el,c.size):=by simp[World.shape?,h]
 have s2:w.shape? r'=some (oT,c'.size):=by simp[World.shape?,ah]
 simp[sameAddr,ae,f1,f2,noView,viewAt,s1,s2,mayBeOne,stringish]
theorem AP(w:World)(D:Nat)(E:TypeId->I->I->Option Bool)(dc:∀t x y b bo fF,E t x y=some b->a1 μ x bo->a1 μ y fF->(Op.equalIn D t bo fF).run P w=.ok b w)
  {xs fa:List I}{ri rj:List Value}(U:bL μ xs ri)(aP:bL μ fa rj):∀(ax:List Field) (b:Bool),eqFields P E xs fa ax=some b->(Op.eqFields D ⟨ri⟩ ⟨rj⟩ ax).run P w=.ok b w
 |[],b,h=>by cases h;rfl
 |f::ax,b,h=>by
  simp only[eqFields] at h
  split at h
  · rename_i aC
    have aC:f.name= "_" :=of_decide_eq_true aC
    have bc:=AP w D E dc U aP ax b h
    simp only[Op.eqFields,aC,ne_eq,not_true_eq_false,if_false]
    exact bc
  · rename_i aC
    have aC:¬(f.name= "_"):=of_decide_eq_false aC
    split at h
    · rename_i a c aJ ab
      obtain⟨vl,dH,ea⟩:=p0 (P:=P) (w:=w) U aJ
      obtain⟨p4,aT,bb⟩:=p0 (P:=P) (w:=w) aP ab
      split at h
      · rename_i he
        have aj:=dc _ _ _ _ vl p4 he ea bb
        have bc:=AP w D E dc U aP ax b h
        simp only[Op.eqFields,ne_eq,aC,not_false_eq_true,if_true,Sem.run_bind,dH,aT,Result.andThen_ok,aj,Bool.not_true,Bool.false_eq_true,if_false]
        exact bc
      · rename_i r aj
        cases b with
        |true=>exact absurd h aj
        |false=>
         have oU:=dc _ _ _ _ vl p4 h ea bb
         simp only[Op.eqFields,ne_eq,aC,not_false_eq_true,if_true,Sem.run_bind,dH,aT,Result.andThen_ok,oU,Bool.not_false,Sem.run_pure]
    · cases h
theorem EI(w:World)(D:Nat){e:TypeId}{sz:Nat}(E:TypeId->I->I->Option Bool)(dc:∀t x y b bo fF,E t x y=some b->a1 μ x bo->a1 μ y fF->(Op.equalIn D t bo fF).run P w=.ok b w){xs fa:List I}{ri rj:List Value}(U:bL μ xs ri)(aP:bL μ fa rj):
  ∀(n i:Nat) (b:Bool),uP P E e sz xs fa n i=some b->(Op.eqItems D e sz ⟨ri⟩ ⟨rj⟩ (List.range' i n)).run P w=.ok b w
 |0,i,b,h=>by simp only[uP] at h;cases h;simp[Op.eqItems]
 |n+1,i,b,h=>by
  simp only[uP] at h
  rw[List.range'_succ]
  split at h
  · rename_i a c aJ ab
    obtain⟨vl,dH,ea⟩:=p0 (P:=P) (w:=w) U aJ
    obtain⟨p4,aT,bb⟩:=p0 (P:=P) (w:=w) aP ab
    split at h
    · rename_i he
      have aj:=dc _ _ _ _ vl p4 he ea bb
      have bc:=EI w D E dc U aP n (i+1) b h
      simp only[Op.eqItems,Sem.run_bind,dH,aT,Result.andThen_ok,aj,Bool.not_true,Bool.false_eq_true,if_false]
      exact bc
    · rename_i r aj
      cases b with
      |true=>exact absurd h aj
      |false=>
       have oU:=dc _ _ _ _ vl p4 h ea bb
       simp only[Op.eqItems,Sem.run_bind,dH,aT,Result.andThen_ok,oU,Bool.not_false,if_true,Sem.run_pure]
  · cases h
set_option maxHeartbeats 4000000 in
theorem rk(af:bg μ H w):∀(d:Nat) (t:TypeId) (x y:I) (b:Bool) (bo fF:Value) (D:Nat),d<=D->hq P H d t x y=some b->a1 μ x bo->a1 μ y fF->(Op.equalIn D t bo fF).run P w=.ok b w
 |0,t,x,y,b,bo,fF,D,_,h,_,_=>by simp[hq] at h
 |d+1,t,x,y,b,bo,fF,0,ak,_,_,_=>by omega
 |d+1,t,x,y,b,bo,fF,D+1,ak,h,U,aP=>by
  unfold hq at h
  cases hu:P.underlying t with
  |none=>rw[hu] at h;cases h
  |some u=>
   rw[hu] at h
   cases u<;>simp only at h
   case bool=>
    split at h<;>cases h
    cases U;cases aP
    simp[Op.equalIn,bD hu]
   case int kt=>
    split at h
    · split at h
      · rename_i hk;cases h;subst hk;cases U;cases aP
        simp[Op.equalIn,bD hu,dP]
      · cases h
    · cases h
   case string=>
    split at h<;>cases h
    obtain⟨s1,rfl,rfl⟩:=U
    obtain⟨s2,rfl,rfl⟩:=aP
    rw[ha,<-pW,<-pW,<-beq_toListBytes]
    simp[Op.equalIn,bD hu]
   case pointer e=>
    split at h
    · cases h;cases U;cases aP;simp[Op.equalIn,bD hu]
    · cases h;cases U;obtain⟨i,_,rfl⟩:=aP;simp[Op.equalIn,bD hu]
    · cases h;cases aP;obtain⟨i,_,rfl⟩:=U;simp[Op.equalIn,bD hu]
    · rename_i a i ku j
      split at h
      · rename_i n ad
        obtain⟨th,AQ,rfl⟩:=U
        obtain⟨gF,x4,rfl⟩:=aP
        have bp:(_root_.Go.sizeOf e).run P w=.ok (n+1) w:=run_sizeOf ad
        have goal:∀r,(sameAddr ⟨th.a6,th.base+i,none⟩ ⟨gF.a6,gF.base+j,none⟩).run P w=r->(Op.equalIn (D+1) t (.pointer (some ⟨th.a6,th.base+i,none⟩)) (.pointer (some ⟨gF.a6,gF.base+j,none⟩))).run P w=r:=by
         intro r aj
         simp[Op.equalIn,bD hu,bp,aj]
        unfold Am at h
        split at h
        · rename_i kx
          cases h
          have:=Nat.eq_of_beq_eq_true kx
          subst this
          rw[AQ] at x4;cases x4
          exact goal _ L2
        · rename_i kx
          split at h
          · rename_i x5 x6
            cases h
            obtain⟨c1,_,_,bt,_,_,bA⟩:=af.rel _ _ th x5 AQ
            obtain⟨c2,_,_,dI,_,_,dQ⟩:=af.rel _ _ gF x6 x4
            obtain⟨_,_,rfl,rfl⟩:=bA
            obtain⟨_,_,rfl,rfl⟩:=dQ
            refine goal _ (L3 bt dI λe=>?_)
            have:=af.inj _ _ th gF (by rw[x5];simp) ⟨_,x6,rfl⟩ AQ x4 e
            subst this
            simp at kx
          · cases h
      · cases h
    · cases h
   case slice e=>
    have nq:∀(b off n:Nat) (c:cb) (v:Value),a1 μ (.slice b off n c) v->∃a m k,v=.slice (some a) m k:=by
     rintro b off n c v ⟨i,_,ab⟩
     cases c with
     |exact c=>cases ab;exact⟨_,_,_,rfl⟩
     |aH fx=>obtain⟨c,rfl,_⟩:=ab;exact⟨_,_,_,rfl⟩
     |dead=>obtain⟨_,a,c,rfl⟩:=ab;exact⟨_,_,_,rfl⟩
    split at h
    · cases h;cases U;cases aP;simp[Op.equalIn,bD hu]
    · cases h;cases U;obtain⟨a,m,k,rfl⟩:=nq _ _ _ _ _ aP;simp[Op.equalIn,bD hu]
    · cases h;cases aP;obtain⟨a,m,k,rfl⟩:=nq _ _ _ _ _ U;simp[Op.equalIn,bD hu]
    · cases h
   case map k e=>
    split at h
    · cases h;cases U;cases aP;simp[Op.equalIn,bD hu]
    · cases h;cases U;obtain⟨i,_,rfl⟩:=aP;simp[Op.equalIn,bD hu]
    · cases h;cases aP;obtain⟨i,_,rfl⟩:=U;simp[Op.equalIn,bD hu]
    · cases h
   case func ps rs v=>
    split at h
    · cases h;cases U;cases aP;simp[Op.equalIn,bD hu]
    · cases h;cases U;obtain⟨_,_,rfl,_⟩:=aP;simp[Op.equalIn,bD hu]
    · cases h;cases aP;obtain⟨_,_,rfl,_⟩:=U;simp[Op.equalIn,bD hu]
    · cases h
   case interface ms=>
    split at h
    · cases h;cases U;cases aP;simp[Op.equalIn,bD hu]
    · cases h;cases U;obtain⟨_,rfl,_⟩:=aP;simp[Op.equalIn,bD hu]
    · cases h;cases aP;obtain⟨_,rfl,_⟩:=U;simp[Op.equalIn,bD hu]
    · rename_i a v ku u
      obtain⟨v1,rfl,ba⟩:=U
      obtain⟨eF,rfl,bH⟩:=aP
      split at h
      · rename_i kx
        cases h
        have:a≠ku:=by intro e;subst e;simp at kx
        simp[Op.equalIn,bD hu,this]
      · rename_i kx
        have:=Nat.eq_of_beq_eq_true kx
        subst this
        split at h
        · rename_i Xf xZ
          split at h
          · rename_i AR
            have bc:=rk af d a v u b v1 eF D (by omega) h ba bH
            simp[Op.equalIn,bD hu,run_typeInfo xZ,AR,bc]
          · cases h
        · cases h
    · cases h
   case struct ax=>
    split at h
    · rename_i xs fa
      split at h
      · cases h
      · rename_i bW
        obtain⟨ri,rfl,j4⟩:=U
        obtain⟨rj,rfl,AS⟩:=aP
        have key:=AP (P:=P) w D (hq P H d) (λt x y b bo fF he h1 aa=>rk af d t x y b bo fF D (by omega) he h1 aa) j4 AS ax.toList b h
        have nr:P.fieldsOf t=ax:=by simp[Program.fieldsOf,hu]
        rw[run_equalIn_struct w D t _ _ (by rw[nr];exact hu) bW,nr]
        exact key
    · cases h
   case array n e=>
    split at h
    · rename_i xs fa
      split at h
      · rename_i sz bp
        obtain⟨ri,rfl,j4⟩:=U
        obtain⟨rj,rfl,AS⟩:=aP
        have ag:∃i,P.info? e=some i/\i.size=sz:=by
         unfold cQ at bp
         split at bp
         · rename_i i ag;cases bp;exact⟨i,ag,rfl⟩
         · cases bp
        obtain⟨i,ag,L4⟩:=ag
        have L5:P.cellsOf e=sz:=by unfold Program.cellsOf;rw[ag];exact L4
        rw[run_equalIn_array w D _ _ hu ag,L5,List.range_eq_range']
        exact EI w D (hq P H d) (λt x y b bo fF he h1 aa=>rk af d t x y b bo fF D (by omega) he h1 aa) j4 AS n 0 b h
      · cases h
    · cases h
   all_goals cases h
theorem EJ{u:TypeDesc}{cI:TypeId}(hu:P.underlying cI=some u){k x:I}{kv bo:Value}{b:Bool}(hk:nW P cI k=true)(h:oJ k x=some b)(h1:a1 μ k kv)(aa:a1 μ x bo):Instr.sameNow u kv bo=some b:=by
 unfold nW at hk
 rw[hu] at hk
 cases u<;>simp only at hk<;>try cases hk
 ·
  split at hk<;>try cases hk
  cases x<;>simp only[oJ] at h<;>cases h
  cases h1;cases aa;rfl
 ·
  split at hk<;>try cases hk
  cases x<;>simp only[oJ] at h<;>try cases h
  split at h
  · rename_i e;cases h;subst e;cases h1;cases aa;simp[Instr.sameNow,dP]
  · cases h
 · split at hk<;>try cases hk
   cases x<;>simp only[oJ] at h<;>cases h
   obtain⟨s1,rfl,rfl⟩:=h1
   obtain⟨s2,rfl,rfl⟩:=aa
   simp only[Instr.sameNow]
   rw[ha,<-pW,<-pW,<-beq_toListBytes]
def x7(μ:bd):Option (Nat×I)->Option (Nat×Value)->Prop
 |none,none=>True
 |some (i,a),some (j,v)=>i=j/\a1 μ a v
 |_,_=>False
theorem EK{H:J}{cI:TypeId}{k x:I}(hk:∀cs,k≠ .agg cs):s7 P H cI k x=oJ k x:=by
 cases k<;>first|rfl|exact absurd rfl (hk _)
theorem EL{cI:TypeId}{k:I}(hk:∀cs,k≠ .agg cs)(h:mW P cI k=true):nW P cI k=true:=by
 cases k<;>first|exact h|exact absurd rfl (hk _)
theorem EM{H:J}{u:TypeDesc}{cI:TypeId}(hu:P.underlying cI=some u){k:I}{kv:Value}(ad:∀cs,k≠ .agg cs)(hk:nW P cI k=true)(h1:a1 μ k kv):∀(es:List dj) (ents:List MapEntry) (i:Nat) (r:Option (Nat×I)),eE μ es ents->jn P H cI k es i=some r->
  ∃r',Instr.findNow u kv ents i=some r'/\x7 μ r r'
 |[],_,i,r,he,h=>by
  cases he;simp[jn] at h;subst h
  exact⟨none,rfl,trivial⟩
 |e::es,_,i,r,⟨m,ms,av,au,bm⟩,h=>by
  subst av
  simp only[jn,EK ad] at h
  split at h
  · rename_i ad
    cases h
    exact⟨some (i,m.val),by simp[Instr.findNow,EJ hu hk ad h1 au.1],rfl,au.2.1⟩
  · rename_i bj
    obtain⟨r',aT,bb⟩:=EM hu ad hk h1 es ms (i+1) r bm h
    exact⟨r',by simp[Instr.findNow,EJ hu hk bj h1 au.1,aT],bb⟩
  · cases h
theorem EN(af:bg μ H w){cI:TypeId}{cs:List I}{kv:Value}(h1:a1 μ (.agg cs) kv):∀(es:List dj) (ents:List MapEntry) (i:Nat) (r:Option (Nat×I)),eE μ es ents->jn P H cI (.agg cs) es i=some r->
  ∃r',(Instr.findAsking cI kv ents i).run P w=.ok r' w/\x7 μ r r'
 |[],_,i,r,he,h=>by
  cases he;simp[jn] at h;subst h
  exact⟨none,rfl,trivial⟩
 |e::es,_,i,r,⟨m,ms,av,au,bm⟩,h=>by
  subst av
  simp only[jn,s7] at h
  split at h
  · rename_i ad
    cases h
    have:=rk (P:=P) af 8 cI _ _ true kv m.key Op.maxDepth (by decide) ad h1 au.1
    exact⟨some (i,m.val),by simp[Instr.findAsking,Op.equal,this],rfl,au.2.1⟩
  · rename_i ad
    have:=rk (P:=P) af 8 cI _ _ false kv m.key Op.maxDepth (by decide) ad h1 au.1
    obtain⟨r',aT,bb⟩:=EN af h1 es ms (i+1) r bm h
    exact⟨r',by simp[Instr.findAsking,Op.equal,this,aT],bb⟩
  · cases h
theorem AT{H:J}{cI:TypeId}{k:I}:∀(es:List dj) (i j:Nat) (v:I),jn P H cI k es i=some (some (j,v))->i<=j/\∃e,es[j-i]? =some e/\e.val=v/\s7 P H cI k e.key=some true
 |[],i,j,v,h=>by simp[jn] at h
 |e::es,i,j,v,h=>by
  simp only[jn] at h
  split at h
  · rename_i ad
    cases h;exact⟨Nat.le_refl _,e,by simp,rfl,ad⟩
  · obtain⟨h1,cw,aa,ao⟩:=AT es (i+1) j v h
    refine⟨by omega,cw,?_,ao⟩
    have:j-i=(j-(i+1))+1:=by omega
    rw[this];simpa using aa
  · cases h
theorem AU{cI:TypeId}{k:I}{kv:Value}(hk:nW P cI k=true)(b:Bool)(n:Nat):(Instr.checkKey b (n+1) cI kv).run P w=.ok () w:=by
 unfold nW at hk
 cases hu:P.underlying cI with
 |none=>rw[hu] at hk;cases hk
 |some u=>
  rw[hu] at hk
  cases u<;>simp only at hk<;>try cases hk
  all_goals simp[Instr.checkKey,bD hu]
theorem EO(b:Bool){m n:Nat}(hm:m=n+1){cs:List I}{l:List Value}(ar:bL μ cs l):∀(ax:List Field),xC P cs ax=true->
  (forIn ax PUnit.unit (λf _=>if f.name≠ "_" then(do let x<-part f.type ⟨l⟩ f.offset;Instr.checkKey b m f.type x;pure (ForInStep.yield PUnit.unit)) else pure (ForInStep.yield PUnit.unit)):Sem PUnit).run P w=.ok PUnit.unit w
 |[],h=>by simp
 |f::ax,h=>by
  unfold xC at h
  split at h
  · rename_i a aJ
    split at h
    · rename_i hk
      have bc:=EO b hm ar ax h
      obtain⟨u,dH,ea⟩:=p0 (P:=P) (w:=w) ar aJ
      have ab:=AU (P:=P) (w:=w) (kv:=u) hk b n
      rw[<-hm] at ab
      rw[List.forIn_cons]
      by_cases aC:f.name= "_"
      · simp only[aC,ne_eq,not_true_eq_false,if_false,Sem.run_bind,Sem.run_pure,Result.andThen_ok]
        exact bc
      · simp only[ne_eq,aC,not_false_eq_true,if_true,Sem.run_bind,dH,Result.andThen_ok,ab,Sem.run_pure]
        exact bc
    · cases h
  · cases h
theorem EP(b:Bool){m n:Nat}(hm:m=n+1){e:TypeId}{sz:Nat}(bp:cQ P e=some sz){cs:List I}{l:List Value}(ar:bL μ cs l):∀(k i:Nat),xD P e sz cs k i=true->
  (forIn (List.range' i k) PUnit.unit (λi _=>do (Instr.checkKey b m e (<-part e ⟨l⟩ (i*(<-_root_.Go.sizeOf e))));pure (ForInStep.yield PUnit.unit)):Sem PUnit).run P w=.ok PUnit.unit w
 |0,i,h=>by simp
 |k+1,i,h=>by
  unfold xD at h
  split at h
  · rename_i a aJ
    split at h
    · rename_i hk
      have bc:=EP b hm bp ar k (i+1) h
      obtain⟨u,dH,ea⟩:=p0 (P:=P) (w:=w) ar aJ
      have ab:=AU (P:=P) (w:=w) (kv:=u) hk b n
      rw[<-hm] at ab
      rw[List.range'_succ,List.forIn_cons]
      simp only[Sem.run_bind,run_sizeOf bp,dH,Result.andThen_ok,ab,Sem.run_pure]
      exact bc
    · cases h
  · cases h
theorem L6{cI:TypeId}{cs:List I}{l:List Value}(ar:bL μ cs l)(hk:mW P cI (.agg cs)=true)(b:Bool){m n:Nat}(hm:m=n+1):(Instr.checkKey b (m+1) cI (.agg ⟨l⟩)).run P w=.ok () w:=by
 unfold mW at hk
 simp only at hk
 split at hk
 · rename_i ax hu
   have key:=EO (P:=P) (w:=w) b hm ar ax.toList hk
   simp only[Instr.checkKey,Sem.run_bind,bD hu,Result.andThen_ok]
   rw[<-Array.forIn_toList]
   first|exact key|exact Eq.trans (congrArg (λq=>Result.andThen q _) key) rfl|simpa using key
 · rename_i mw e hu
   split at hk
   · rename_i sz bp
     have key:=EP (P:=P) (w:=w) b hm bp ar mw 0 hk
     simp only[Instr.checkKey,Sem.run_bind,bD hu,Result.andThen_ok]
     simp only[Std.Legacy.Range.forIn_eq_forIn_range',Std.Legacy.Range.size,Nat.sub_zero,Nat.add_one_sub_one,Nat.div_one]
     first|exact key|exact Eq.trans (congrArg (λq=>Result.andThen q _) key) rfl|simpa using key
   · cases hk
 · cases hk
theorem n4{cI:TypeId}{k:I}{kv:Value}(hk:mW P cI k=true)(h1:a1 μ k kv)(b:Bool):(Instr.checkKey b 10000 cI kv).run P w=.ok () w:=by
 by_cases ad:∀cs,k≠ .agg cs
 · exact AU (EL ad hk) b 9999
 · have:∃cs,k=.agg cs:=by
     cases k<;>first|exact⟨_,rfl⟩|exact absurd (λcs h=>by cases h) ad
   obtain⟨cs,rfl⟩:=this
   obtain⟨l,rfl,ar⟩:=h1
   exact L6 ar hk b (m:=9999) (n:=9998) rfl
theorem p5(af:bg μ H w){cI:TypeId}{k:I}{kv:Value}(hk:mW P cI k=true)(h1:a1 μ k kv){es:List dj}{ents:List MapEntry}{r:Option (Nat×I)}(he:eE μ es ents)(h:jn P H cI k es 0=some r):
  ∃r',(Instr.findKey cI kv ents).run P w=.ok r' w/\x7 μ r r':=by
 by_cases ad:∀cs,k≠ .agg cs
 · have eP:=EL ad hk
   cases hu:P.underlying cI with
   |none=>unfold nW at eP;rw[hu] at eP;cases eP
   |some u=>
    obtain⟨r',aT,bb⟩:=EM hu ad eP h1 es ents 0 r he h
    exact⟨r',by simp[Instr.findKey,bD hu,aT],bb⟩
 · have:∃cs,k=.agg cs:=by
     cases k<;>first|exact⟨_,rfl⟩|exact absurd (λcs h=>by cases h) ad
   obtain⟨cs,rfl⟩:=this
   have hu:∃u,P.underlying cI=some u:=by
    unfold mW at hk
    simp only at hk
    split at hk
    · exact⟨_,by assumption⟩
    · exact⟨_,by assumption⟩
    · cases hk
   obtain⟨u,hu⟩:=hu
   obtain⟨r',aT,bb⟩:=EN (P:=P) af h1 es ents 0 r he h
   obtain⟨l,rfl,ar⟩:=h1
   refine⟨r',?_,bb⟩
   have aC:∀(ms:List MapEntry),ms≠[]->Instr.findNow u (.agg ⟨l⟩) ms 0=none:=λms vm=>by
    cases ms with
    |nil=>exact absurd rfl vm
    |cons m ms=>cases u<;>rfl
   cases ents with
   |nil=>
    cases es with
    |nil=>simp only[jn] at h;cases h;cases r' with
     |none=>simp[Instr.findKey,bD hu,Instr.findNow]
     |some y=>exact bb.elim
    |cons e es=>obtain⟨_,_,ab,_⟩:=he;cases ab
   |cons m ms=>
    simp only[Instr.findKey,Sem.run_bind,bD hu,Result.andThen_ok,aC (m::ms) (by simp)]
    exact aT
theorem eE.append:∀{es ax:List dj} {ms fh:List MapEntry},eE μ es ms->eE μ ax fh->eE μ (es++ax) (ms++fh)
 |[],_,_,_,h,ah=>by cases h;exact ah
 |_::_,_,_,_,⟨m,ms,e,h1,aa⟩,ah=>by subst e;exact⟨m,ms++_,rfl,h1,eE.append aa ah⟩
theorem eE.get:∀{es:List dj} {ms:List MapEntry} (_:eE μ es ms) {j:Nat} {e:dj},es[j]? =some e->∃m,ms[j]? =some m/\pN μ e m
 |[],_,_,j,e,h=>by simp at h
 |x::es,_,⟨m,ms,e,h1,aa⟩,0,a,h=>by subst e;simp at h;subst h;exact⟨m,rfl,h1⟩
 |x::es,_,⟨m,ms,e,h1,aa⟩,j+1,a,h=>by subst e;simp at h;simpa using eE.get aa h
theorem eE.set{v key:I}{vv kv:Value}(aM:a1 μ v vv)(hk:a1 μ key kv):∀(i:Nat) {es:List dj} {ms:List MapEntry},eE μ es ms->eE μ (oL v key i es) (ms.modify i λe=>{e with key:=kv,val:=vv})
 |0,[],_,h=>by cases h;rfl
 |_+1,[],_,h=>by cases h;rfl
 |0,e::es,_,⟨m,ms,cw,h1,aa⟩=>by subst cw;exact⟨_,ms,rfl,⟨hk,aM,h1.2.2⟩,aa⟩
 |i+1,e::es,_,⟨m,ms,cw,h1,aa⟩=>by subst cw;exact⟨m,_,rfl,h1,eE.set aM hk i aa⟩
theorem eE.del:∀(i:Nat) {es:List dj} {ms:List MapEntry},eE μ es ms->eE μ (uT i es) (ms.eraseIdx i)
 |0,[],_,h=>by cases h;rfl
 |_+1,[],_,h=>by cases h;rfl
 |0,e::es,_,⟨m,ms,cw,h1,aa⟩=>by subst cw;exact aa
 |i+1,e::es,_,⟨m,ms,cw,h1,aa⟩=>by subst cw;exact⟨m,_,rfl,h1,eE.del i aa⟩
theorem vn{r:Nat}{i:fW}{es:List dj}{clock:Nat}(af:bg μ H w)(ag:μ r=some i)(an:H.get r=some (.map es clock)):∃ents,w.heap[i.a6]? =some (.map ⟨ents⟩ clock)/\eE μ es ents/\(getObj i.a6).run P w=.ok (.map ⟨ents⟩ clock) w:=by
 obtain⟨ents,av,au⟩:=af.rel _ _ i an ag
 exact⟨ents,av,au,by simp[getObj,Sem.run,av]⟩
theorem rl{r:Nat}{i:fW}{es x8:List dj}{clock c':Nat}{ents ents':List MapEntry}(af:bg μ H w)(ag:μ r=some i)(an:H.get r=some (.map es clock))(he:w.heap[i.a6]? =some (.map ⟨ents⟩ clock))(aj:eE μ x8 ents'):
  ∃w',(setObj i.a6 (.map ⟨ents'⟩ c')).run P w=.ok () w'/\bg μ (H.set r (some (.map x8 c'))) w'/\bN μ H w μ (H.set r (some (.map x8 c'))) w':=by
 have bx:i.a6<w.heap.size:=(af.lt _ _ ag).2
 obtain⟨ba,bH⟩:=af.update (w':={w with heap:=w.heap.setIfInBounds i.a6 (.map ⟨ents'⟩ c')}) (o':=.map x8 c') an rfl ag (by simp) (λr aj=>by simp[Array.getElem?_setIfInBounds];intro e;exact absurd e.symm aj) rfl rfl rfl
  ⟨ents',by simp[bx],aj⟩
 exact⟨_,by simp[setObj,Sem.run,he],ba,bH⟩
end
end aS
namespace aS
open Go
section
variable {P:Program} {μ:bd} {H:J} {w:World}
theorem ER{fq:TypeId}{ok:Bool}{r:Option (Nat×I)}{r':Option (Nat×Value)}(aj:x7 μ r r'){v:I}(h:q0 P fq ok r=some v):
  ∃u b,a1 μ v (if ok then .tuple #[u,.bool b] else u)/\((∃j,r'=some (j,u)/\b=true)\/(r'=none/\(zeroValue fq).run P w=.ok u w/\b=false)):=by
 cases r with
 |none=>
  cases r' with
  |some x=>exact aj.elim
  |none=>
   simp only[q0] at h
   split at h
   · rename_i z aW
     cases h
     obtain⟨eV,aT,rfl,_⟩:=kZ (P:=P) (w:=w) aW
     have:=jq μ eV
     refine⟨eV,false,?_,.inr ⟨rfl,aT,rfl⟩⟩
     cases ok
     · exact this
     · exact⟨_,rfl,_,_,rfl,this,_,_,rfl,rfl,rfl⟩
   · cases h
 |some x=>
  cases r' with
  |none=>exact aj.elim
  |some y=>
   obtain⟨i,a⟩:=x
   obtain⟨j,u⟩:=y
   obtain⟨rfl,ti⟩:=aj
   simp only[q0] at h
   cases h
   refine⟨u,true,?_,.inl ⟨_,rfl,rfl⟩⟩
   cases ok
   · exact ti
   · exact⟨_,rfl,_,_,rfl,ti,_,_,rfl,rfl,rfl⟩
theorem L7(af:bg μ H w){t:TypeId}{m k:I}{iG kv:Value}(hm:a1 μ m iG)(hk:a1 μ k kv){ok:Bool}{v:I}(h:hF P H t m k ok=some v):ep P μ H w (Instr.lookup t iG kv ok) v H:=by
 unfold hF at h
 split at h
 · rename_i cI fq hu
   split at h
   · rename_i h_
     split at h
     · cases hm
       obtain⟨u,b,aT,bb⟩:=ER (P:=P) (w:=w) (μ:=μ) (r:=none) (r':=none) trivial h
       refine .same af (v':=if ok then .tuple #[u,.bool b] else u) ?_ aT
       have hf:(Instr.findKey cI kv []).run P w=.ok none w:=by
        obtain⟨r',bO,a2⟩:=p5 (P:=P) (w:=w) (μ:=μ) (es:=[]) (ents:=[]) (r:=none) af h_ hk rfl rfl
        cases r' with
        |none=>exact bO
        |some x=>exact a2.elim
       rcases bb with⟨j,e,_⟩|⟨_,bb,rfl⟩
       · cases e
       · simp[Instr.lookup,bD hu,n4 h_ hk,hf,bb]
     · rename_i r
       split at h
       · rename_i es clock an
         split at h
         · rename_i cx hf
           obtain⟨i,ag,rfl⟩:=hm
           obtain⟨ents,av,au,bm⟩:=vn (P:=P) af ag an
           obtain⟨r',bO,a2⟩:=p5 (P:=P) (w:=w) af h_ hk au hf
           obtain⟨u,b,aT,bb⟩:=ER (P:=P) (w:=w) (μ:=μ) a2 h
           refine .same af (v':=if ok then .tuple #[u,.bool b] else u) ?_ aT
           rcases bb with⟨j,rfl,rfl⟩|⟨rfl,bb,rfl⟩
           · simp[Instr.lookup,bD hu,n4 h_ hk,bm,bO]
           · simp[Instr.lookup,bD hu,n4 h_ hk,bm,bO,bb]
         · cases h
       · cases h
     · cases h
   · cases h
 · cases h
theorem ES{k x:I}{kv bo:Value}(n:Nat)(h:oJ k x=some true)(h1:a1 μ k kv)(aa:a1 μ x bo):Instr.sameBits n bo kv=true:=by
 cases k<;>cases x<;>simp only[oJ] at h<;>try cases h
 · simp at h;subst h;cases h1;cases aa;simp[Instr.sameBits]
 · split at h
   · rename_i e;subst e
     simp[dP] at h;subst h;cases h1;cases aa;simp[Instr.sameBits]
   · cases h
 · simp only[Option.some.injEq] at h
   obtain⟨s1,rfl,rfl⟩:=h1
   obtain⟨s2,rfl,rfl⟩:=aa
   rw[ha,<-pW,<-pW,<-beq_toListBytes] at h
   have:(s2==s1)=true:=by rw[beq_toListBytes] at h⊢;rw[beq_iff_eq] at h⊢;exact h.symm
   simpa[Instr.sameBits] using this
theorem ET(n:Nat):∀(a b:List I) (ky rm:List Value),uR a b=true->bL μ a ky->bL μ b rm->rm.length=ky.length/\(rm.zip ky).all (λ(x,y)=>Instr.sameBits n x y)=true
 |[],[],ky,rm,_,h1,aa=>by cases h1;cases aa;exact⟨rfl,rfl⟩
 |[],_::_,_,_,h,_,_=>by cases h
 |_::_,[],_,_,h,_,_=>by cases h
 |x::a,y::b,_,_,h,⟨u,us,rfl,eF,fG⟩,⟨v,vs,rfl,v1,v2⟩=>by
  unfold uR at h
  split at h
  · rename_i ad
    obtain⟨av,au⟩:=ET n a b us vs h fG v2
    refine⟨by simp[av],?_⟩
    rw[List.zip_cons_cons,List.all_cons,au,Bool.and_true]
    exact ES n ad eF v1
  · cases h
theorem EU{cI:TypeId}{k x:I}{kv bo:Value}(h:s7 P H cI k x=some true)(bW:oK k x=true)(h1:a1 μ k kv)(aa:a1 μ x bo):Instr.sameBits 10000 bo kv=true:=by
 by_cases ad:∀cs,k≠ .agg cs
 · rw[EK ad] at h
   exact ES 10000 h h1 aa
 · have:∃cs,k=.agg cs:=by
     cases k<;>first|exact⟨_,rfl⟩|exact absurd (λcs h=>by cases h) ad
   obtain⟨a,rfl⟩:=this
   have:∃b,x=.agg b:=by
    cases x<;>first|exact⟨_,rfl⟩|cases bW
   obtain⟨b,rfl⟩:=this
   obtain⟨ky,rfl,fG⟩:=h1
   obtain⟨rm,rfl,v2⟩:=aa
   have AV:uR a b=true:=bW
   obtain⟨av,au⟩:=ET (μ:=μ) 9999 a b ky rm AV fG v2
   show Instr.sameBits (9999+1) (.agg ⟨rm⟩) (.agg ⟨ky⟩)=true
   generalize 9999=n at au⊢
   simp only[Instr.sameBits]
   rw[au,Bool.and_true]
   simp[av]
theorem AW(l:List MapEntry)(i:Nat)(f:MapEntry->MapEntry):(⟨l⟩:Array MapEntry).modify i f=⟨l.modify i f⟩:=by
 apply Array.ext'
 simp
theorem EV(af:bg μ H w){t:TypeId}{m k x:I}{iG kv bo:Value}(hm:a1 μ m iG)(hk:a1 μ k kv)(U:a1 μ x bo){aD:J}(h:lG P H t m k x=some aD):
  ∃w',(Instr.mapUpdate t iG kv bo).run P w=.ok () w'/\bg μ aD w'/\bN μ H w μ aD w':=by
 unfold lG at h
 split at h
 · rename_i cI fq hu
   split at h
   · rename_i h_
     split at h
     · rename_i r
       split at h
       · rename_i es clock an
         obtain⟨i,ag,rfl⟩:=hm
         obtain⟨ents,av,au,bm⟩:=vn (P:=P) af ag an
         split at h
         · rename_i j a hf
           have rn:oK k (qZ j es)=true:=by
            cases ab:oK k (qZ j es) with
            |true=>rfl
            |false=>rw[ab] at h;cases h
           rw[rn] at h
           cases h
           obtain⟨r',bO,a2⟩:=p5 (P:=P) (w:=w) af h_ hk au hf
           cases r' with
           |none=>exact a2.elim
           |some y=>
            obtain⟨gZ,u⟩:=y
            obtain⟨rfl,ti⟩:=a2
            obtain⟨_,my,aT,bb,bP⟩:=AT es 0 j a hf
            obtain⟨k7,dH,ea⟩:=au.get (by simpa using aT)
            have rn:oK k my.key=true:=by
             have:qZ j es=my.key:=by unfold qZ;rw[ks,show es[j]? =some my by simpa using aT]
             rw[<-this];exact rn
            have bW:(Instr.keyThatStays (((ents[j]?).map (·.key)).getD kv) kv).run P w=.ok kv w:=by
             simp only[Instr.keyThatStays,dH,Option.map_some,Option.getD_some,EU bP rn hk ea.1,if_true,Sem.run_pure]
            obtain⟨w',bS,z2,z3⟩:=rl (P:=P) (c':=clock) af ag an av (au.set U hk j)
            refine⟨w',?_,z2,z3⟩
            simp only[Instr.mapUpdate,Sem.run_bind,bD hu,Result.andThen_ok,bm,n4 h_ hk,bO,List.getElem?_toArray,bW,AW,bS]
         · rename_i hf
           cases h
           obtain⟨r',bO,a2⟩:=p5 (P:=P) (w:=w) af h_ hk au hf
           cases r' with
           |some y=>exact a2.elim
           |none=>
            obtain⟨w',bS,z2,z3⟩:=rl (P:=P) (c':=clock+1) (ents':=ents++[⟨kv,bo,clock⟩]) af ag an av (au.append (show eE μ [⟨k,x,clock⟩] [⟨kv,bo,clock⟩] from⟨_,_,rfl,⟨hk,U,rfl⟩,rfl⟩))
            refine⟨w',?_,z2,z3⟩
            simp only[Instr.mapUpdate,Sem.run_bind,bD hu,Result.andThen_ok,bm,n4 h_ hk,bO,List.push_toArray,bS]
         · cases h
       · cases h
     · cases h
   · cases h
 · cases h
theorem L8(af:bg μ H w){t:TypeId}{m k:I}{iG kv:Value}(hm:a1 μ m iG)(hk:a1 μ k kv){v:I}{aD:J}(h:xE P H t m k=some (v,aD)):ep P μ H w (Instr.mapEntry t iG kv) v aD:=by
 unfold xE at h
 split at h
 · rename_i cI fq hu
   split at h
   · rename_i h_
     split at h
     · rename_i r
       split at h
       · rename_i es clock an
         obtain⟨i,ag,rfl⟩:=hm
         obtain⟨ents,av,au,bm⟩:=vn (P:=P) af ag an
         split at h
         · rename_i j a hf
           split at h
           · rename_i my vo
             have rn:oK k my.key=true:=by
              cases ab:oK k my.key with
              |true=>rfl
              |false=>rw[ab] at h;cases h
             rw[rn] at h
             cases h
             rw[ks] at vo
             obtain⟨r',bO,a2⟩:=p5 (P:=P) (w:=w) af h_ hk au hf
             cases r' with
             |none=>exact a2.elim
             |some y=>
              obtain⟨gZ,u⟩:=y
              obtain⟨rfl,ti⟩:=a2
              obtain⟨_,EW,aT,bb,bP⟩:=AT es 0 j a hf
              have:EW=my:=by
               have EX:es[j]? =some EW:=by simpa using aT
               rw[vo] at EX;cases EX;rfl
              subst this
              obtain⟨k7,dH,ea⟩:=au.get vo
              have bW:(Instr.keyThatStays (((ents[j]?).map (·.key)).getD kv) kv).run P w=.ok kv w:=by
               simp only[Instr.keyThatStays,dH,Option.map_some,Option.getD_some,EU bP rn hk ea.1,if_true,Sem.run_pure]
              have rp:eE μ (oL a k j es) (ents.modify j λe=>{e with key:=kv}):=by
               have ad:=au.set (v:=a) (vv:=k7.val) (key:=k) (kv:=kv) (by rw[<-bb];exact ea.2.1) hk j
               have:(ents.modify j λe=>{e with key:=kv,val:=k7.val})=(ents.modify j λe=>{e with key:=kv}):=by
                apply List.ext_getElem?
                intro q
                rw[List.getElem?_modify,List.getElem?_modify]
                by_cases bj:j=q
                · subst bj;rw[dH];simp
                · simp[bj]
               rw[<-this];exact ad
              obtain⟨w',bS,z2,z3⟩:=rl (P:=P) (c':=clock) af ag an av rp
              refine⟨μ,w',.tuple #[u,.int .i64 (k7.born:Int)],?_,⟨_,rfl,_,_,rfl,ti,_,_,rfl,by rw[ea.2.2];rfl,rfl⟩,z2,z3⟩
              rw[dH,Option.map_some,Option.getD_some] at bW
              simp only[Instr.mapEntry,Sem.run_bind,bD hu,Result.andThen_ok,bm,n4 h_ hk,bO,List.getElem?_toArray,dH,Option.map_some,Option.getD_some,bW,AW,bS,goInt,Sem.run_pure]
           · cases h
         · rename_i hf
           split at h
           · rename_i z aW
             cases h
             obtain⟨eV,vp,rfl,_⟩:=kZ (P:=P) (w:=w) aW
             obtain⟨r',bO,a2⟩:=p5 (P:=P) (w:=w) af h_ hk au hf
             cases r' with
             |some y=>exact a2.elim
             |none=>
              obtain⟨w',bS,z2,z3⟩:=rl (P:=P) (c':=clock+1) (ents':=ents++[⟨kv,eV,clock⟩]) af ag an av (au.append (show eE μ [⟨k,mT eV,clock⟩] [⟨kv,eV,clock⟩] from⟨_,_,rfl,⟨hk,jq μ eV,rfl⟩,rfl⟩))
              refine⟨μ,w',.tuple #[eV,.int .i64 (clock:Int)],?_,⟨_,rfl,_,_,rfl,jq μ eV,_,_,rfl,rfl,rfl⟩,z2,z3⟩
              simp only[Instr.mapEntry,Sem.run_bind,bD hu,Result.andThen_ok,bm,n4 h_ hk,bO,vp,List.push_toArray,bS,goInt,Sem.run_pure]
           · cases h
         · cases h
       · cases h
     · cases h
   · cases h
 · cases h
theorem EY{born:Int}:∀(es:List dj) (ents:List MapEntry) (i j:Nat) (e:dj),eE μ es ents->uS born es i=some (j,e)->i<=j/\es[j-i]? =some e/\ents.findIdx? (λm=>(m.born:Int)==born)=some (j-i)
 |[],_,i,j,e,_,h=>by simp[uS] at h
 |x::es,_,i,j,e,⟨m,ms,av,au,bm⟩,h=>by
  subst av
  simp only[uS] at h
  have ae:dP (Int.ofNat x.born) born=((m.born:Int)==born):=by rw[au.2.2];rfl
  split at h
  · rename_i ad
    cases h
    rw[ae] at ad
    exact⟨Nat.le_refl _,by simp,by simp[List.findIdx?_cons,ad]⟩
  · rename_i ad
    rw[ae] at ad
    obtain⟨aT,bb,bP⟩:=EY es ms (i+1) j e bm h
    have:j-i=(j-(i+1))+1:=by omega
    refine⟨by omega,by rw[this];simpa using bb,?_⟩
    rw[this]
    simp[List.findIdx?_cons,ad,bP]
theorem L9(af:bg μ H w){t:TypeId}{m s x:I}{iG mv bo:Value}(hm:a1 μ m iG)(ad:a1 μ s mv)(U:a1 μ x bo){aD:J}(h:xF H m s x=some aD):
  ∃w',(Instr.entryStore t iG mv bo).run P w=.ok () w'/\bg μ aD w'/\bN μ H w μ aD w':=by
 unfold xF at h
 split at h
 · rename_i r cO born
   split at h
   · rename_i es clock an
     split at h
     · rename_i j my ae
       cases h
       cases ad
       obtain⟨i,ag,rfl⟩:=hm
       obtain⟨ents,av,au,bm⟩:=vn (P:=P) af ag an
       obtain⟨_,aT,bb⟩:=EY es ents 0 j my au ae
       obtain⟨k7,dH,ea⟩:=au.get (by simpa using aT)
       have rp:eE μ (oL x my.key j es) (ents.modify j λe=>{e with val:=bo}):=by
        have ad:=au.set (v:=x) (vv:=bo) (key:=my.key) (kv:=k7.key) U ea.1 j
        have:(ents.modify j λe=>{e with key:=k7.key,val:=bo})=(ents.modify j λe=>{e with val:=bo}):=by
         apply List.ext_getElem?
         intro q
         rw[List.getElem?_modify,List.getElem?_modify]
         by_cases bj:j=q
         · subst bj;rw[dH];simp
         · simp[bj]
        rw[<-this];exact ad
       obtain⟨w',bS,z2,z3⟩:=rl (P:=P) (c':=clock) af ag an av rp
       refine⟨w',?_,z2,z3⟩
       have L_:(⟨ents⟩:Array MapEntry).findIdx? (λe=>(e.born:Int)==born)=some j:=by
        have:=bb
        simp only[Nat.sub_zero] at this
        rw[<-this];simp
       simp only[Instr.entryStore,Sem.run_bind,Result.andThen_ok,bm,asInt,asIntOf,Sem.run_pure,L_,AW,bS]
     · cases h
   · cases h
 · cases h
theorem AX(af:bg μ H w){argTypes:Array TypeId}{ty t:TypeId}(aA:argTypes[0]? =some t){m k:I}{iG kv:Value}(hm:a1 μ m iG)(hk:a1 μ k kv){v:I}{aD:J}(h:q1 P H t m k=some (v,aD)):
  ep P μ H w (Builtin.delete_ argTypes ty #[iG,kv]) v aD:=by
 unfold q1 at h
 split at h
 · rename_i cI fq hu
   split at h
   · rename_i h_
     split at h
     · cases h;cases hm
       refine .same af (v':=.tuple #[]) ?_ ⟨[],rfl,rfl⟩
       simp[Builtin.delete_,aA,bD hu,n4 h_ hk]
     · rename_i r
       split at h
       · rename_i es clock an
         obtain⟨i,ag,rfl⟩:=hm
         obtain⟨ents,av,au,bm⟩:=vn (P:=P) af ag an
         split at h
         · rename_i j a hf
           cases h
           obtain⟨r',bO,a2⟩:=p5 (P:=P) (w:=w) af h_ hk au hf
           cases r' with
           |none=>exact a2.elim
           |some y=>
            obtain⟨gZ,u⟩:=y
            obtain⟨rfl,ti⟩:=a2
            obtain⟨w',bS,z2,z3⟩:=rl (P:=P) (c':=clock) af ag an av (au.del j)
            refine⟨μ,w',.tuple #[],?_,⟨[],rfl,rfl⟩,z2,z3⟩
            have he:(⟨ents⟩:Array MapEntry).eraseIdxIfInBounds j=⟨ents.eraseIdx j⟩:=by
             apply Array.ext'
             simp
            simp[Builtin.delete_,aA,bD hu,n4 h_ hk,bm,bO,he,bS]
         · rename_i hf
           cases h
           obtain⟨r',bO,a2⟩:=p5 (P:=P) (w:=w) af h_ hk au hf
           cases r' with
           |some y=>exact a2.elim
           |none=>
            obtain⟨w',bS,z2,z3⟩:=rl (P:=P) (c':=clock) af ag an av au
            refine⟨μ,w',.tuple #[],?_,⟨[],rfl,rfl⟩,z2,z3⟩
            simp[Builtin.delete_,aA,bD hu,n4 h_ hk,bm,bO,bS]
         · cases h
       · cases h
     · cases h
   · cases h
 · cases h
theorem Ma(af:bg μ H w){t:TypeId}:ep P μ H w (Instr.makeMap t none) (.map H.n) (H.push (.map [] 0)):=by
 obtain⟨ba,bH⟩:=af.alloc (.map [] 0) (.map #[] 0) 0 ⟨[],World.heap_alloc_new _ _,rfl⟩
 exact⟨_,_,.map (some w.heap.size),rfl,⟨_,fD _ _ _,rfl⟩,ba,bH⟩
theorem Mb(af:bg μ H w){t cI fq:TypeId}{k:IntKind}{n:Int}(hu:P.underlying t=some (.map cI fq)):ep P μ H w (Instr.makeMap t (some (.int k n))) (.map H.n) (H.push (.map [] 0)):=by
 obtain⟨ba,bH⟩:=af.alloc (.map [] 0) (.map #[] 0) 0 ⟨[],World.heap_alloc_new _ _,rfl⟩
 refine⟨_,_,.map (some w.heap.size),?_,⟨_,fD _ _ _,rfl⟩,ba,bH⟩
 simp only[Instr.makeMap,Sem.run_bind,bD hu,Result.andThen_ok,asInt,asIntOf,Sem.run_pure,run_newObj]
 rfl
theorem Mc(af:bg μ H w){t:TypeId}(hu:P.underlying t=some .string){s:List UInt8}{bo:Value}(U:a1 μ (.str s) bo):ep P μ H w (Instr.range t bo) (.ptr H.n 0) (H.push (.oG s 0)):=by
 obtain⟨bs,rfl,rfl⟩:=U
 obtain⟨ba,bH⟩:=af.alloc (.oG bs.data.toList 0) (.stringIter bs 0) 0 ⟨rfl,bs,World.heap_alloc_new _ _,rfl⟩
 refine⟨_,_,.pointer (some ⟨w.heap.size,0,none⟩),?_,⟨_,fD _ _ _,rfl⟩,ba,bH⟩
 simp only[Instr.range,Sem.run_bind,bD hu,Result.andThen_ok,Sem.run_pure,run_newObj]
 rfl
theorem Md(af:bg μ H w){t cI fq:TypeId}(hu:P.underlying t=some (.map cI fq)){bo:Value}(U:a1 μ .fy bo):ep P μ H w (Instr.range t bo) (.ptr H.n 0) (H.push (.mapIter none 0 [] 0)):=by
 cases U
 obtain⟨ba,bH⟩:=af.alloc (.mapIter none 0 [] 0) (.mapIter none 0 #[] 0) 0 ⟨rfl,World.heap_alloc_new _ _⟩
 refine⟨_,_,.pointer (some ⟨w.heap.size,0,none⟩),?_,⟨_,fD _ _ _,rfl⟩,ba,bH⟩
 simp only[Instr.range,Sem.run_bind,bD hu,Result.andThen_ok,Sem.run_pure,run_newObj]
 rfl
def Me(at':Nat->Nat)(lt:Nat->Bool):Nat×Nat:=
 let cont (k:Nat):Bool:=lt k&&at' k/64==2
 let cf:=at' 0
 if cf<0x80 then(cf,1)
 else if cf/32==6&&cont 1 then
  let c:=(cf %32)*64+at' 1 %64
  if c>=0x80 then(c,2) else(Utf8.runeError,1)
 else if cf/16==14&&cont 1&&cont 2 then
  let c:=(cf %16)*4096+(at' 1 %64)*64+at' 2 %64
  if c>=0x800&&Utf8.valid c then(c,3) else(Utf8.runeError,1)
 else if cf/8==30&&cont 1&&cont 2&&cont 3 then
  let c:=(cf %8)*262144+(at' 1 %64)*4096+(at' 2 %64)*64+at' 3 %64
  if c>=0x10000&&Utf8.valid c then(c,4) else(Utf8.runeError,1)
 else(Utf8.runeError,1)
theorem EZ(s:ByteArray)(i:Nat):Utf8.decode s i=Me (λk=>(s.get! (i+k)).toNat) (λk=>decide (i+k<s.size)):=rfl
theorem Mf(full:ByteArray)(pos:Nat)(a8:pos<=full.size):Utf8.decode full pos=Utf8.decode ⟨(full.data.toList.drop pos).toArray⟩ 0:=by
 have nr:full.data.toList.length=full.size:=Array.length_toList
 have bp:(⟨(full.data.toList.drop pos).toArray⟩:ByteArray).size=full.size-pos:=by
  show((full.data.toList.drop pos).toArray).size=_
  rw[List.size_toArray,List.length_drop,nr]
 have fc:∀k,full.get! (pos+k)=(⟨(full.data.toList.drop pos).toArray⟩:ByteArray).get! (0+k):=λk=>by
  show full.data[pos+k]! =((full.data.toList.drop pos).toArray)[0+k]!
  rw[Nat.zero_add]
  rw[getElem!_def,getElem!_def]
  have:((full.data.toList.drop pos).toArray)[k]? =full.data[pos+k]? :=by
   rw[List.getElem?_toArray,List.getElem?_drop,Array.getElem?_toList]
  rw[this]
 rw[EZ,EZ]
 have aJ:(λk=>(full.get! (pos+k)).toNat)=(λk=>((⟨(full.data.toList.drop pos).toArray⟩:ByteArray).get! (0+k)).toNat):=by
  funext k;rw[fc k]
 have ae:(λk=>decide (pos+k<full.size))=(λk=>decide (0+k<(⟨(full.data.toList.drop pos).toArray⟩:ByteArray).size)):=by
  funext k
  exact decide_eq_decide.2 (by rw[bp];omega)
 rw[aJ,ae]
theorem Mg(af:bg μ H w){t:TypeId}{it:I}{oV:Value}(ag:a1 μ it oV){b:Bool}{v:I}{aD:J}(h:xG H it b=some (v,aD)):ep P μ H w (Instr.next oV b t) v aD:=by
 unfold xG at h
 split at h
 · rename_i r
   obtain⟨i,gg,rfl⟩:=ag
   split at h
   · rename_i s pos an
     obtain⟨er,full,av,au⟩:=af.rel _ _ i an gg
     obtain⟨gF,i0,vq⟩:=i
     simp only at er;subst er
     have fc:(getObj gF).run P w=.ok (.stringIter full pos) w:=by simp[getObj,Sem.run,av]
     have nr:full.data.toList.length=full.size:=Array.length_toList
     have p6:=congrArg List.length au
     rw[List.length_drop,nr] at p6
     split at h
     · cases h
       have aC:¬pos<full.size:=by simp at p6;omega
       exact .same af (v':=.tuple #[.bool false]) (by simp[Instr.next,fc,aC]) ⟨_,rfl,_,_,rfl,rfl,rfl⟩
     · rename_i b9
       have bx:pos<full.size:=by
        rcases Nat.lt_or_ge pos full.size with h|h
        · exact h
        · exfalso;apply b9
          exact List.length_eq_zero_iff.1 (by omega)
       have E0:Utf8.decode full pos=An s:=by rw[Mf full pos (by omega),au];rfl
       generalize An s=Mh at E0 h
       obtain⟨c,wd⟩:=Mh
       cases h
       have AY:gF<w.heap.size:=(af.lt _ _ gg).2
       obtain⟨ba,bH⟩:=af.update (w':={w with heap:=w.heap.setIfInBounds gF (.stringIter full (pos+wd))}) (o':=.oG (hQ wd s) (pos+wd)) an rfl gg (by simp) (λr aj=>by simp[Array.getElem?_setIfInBounds];intro e;exact absurd e.symm aj) rfl rfl rfl
        ⟨rfl,full,by simp[AY],by rw[lL,<-au,List.drop_drop]⟩
       refine⟨μ,_,.tuple #[.bool true,.int .i64 (pos:Int),.int .i32 (c:Int)],?_,⟨_,rfl,_,_,rfl,rfl,_,_,rfl,rfl,_,_,rfl,rfl,rfl⟩,ba,bH⟩
       have oW:(setObj gF (.stringIter full (pos+wd))).run P w=.ok () {w with heap:=w.heap.setIfInBounds gF (.stringIter full (pos+wd))}:=by simp[setObj,Sem.run,av]
       simp[Instr.next,fc,bx,E0,oW,goInt]
   · rename_i since seen last an
     cases h
     obtain⟨er,av⟩:=af.rel _ _ i an gg
     obtain⟨gF,i0,vq⟩:=i
     simp only at er;subst er
     have p7:w.heap[gF]? =some (.mapIter none since ⟨seen⟩ last):=av
     have fc:(getObj gF).run P w=.ok (.mapIter none since ⟨seen⟩ last) w:=by simp[getObj,Sem.run,p7]
     exact .same af (v':=.tuple #[.bool false]) (by simp[Instr.next,fc]) ⟨_,rfl,_,_,rfl,rfl,rfl⟩
   · cases h
 · cases h
theorem E1:∀(es:List dj) (ms:List MapEntry) (b:Nat) (e:dj),eE μ es ms->q2 b es=some e->∃m,ms.find? (λx=>x.born==b)=some m/\pN μ e m
 |[],ms,b,e,aj,h=>by simp[q2] at h
 |x::es,ms,b,e,aj,h=>by
  obtain⟨m,x9,rfl,h1,aa⟩:=aj
  unfold q2 at h
  rw[List.find?_cons,<-h1.2.2]
  cases ae:Nat.beq x.born b with
  |true=>
   rw[ae] at h
   cases h
   have:x.born=b:=Nat.eq_of_beq_eq_true ae
   rw[this]
   simp only[beq_self_eq_true]
   exact⟨m,rfl,h1⟩
  |false=>
   rw[ae] at h
   have:(x.born==b)=false:=by
    cases ab:x.born==b with
    |false=>rfl
    |true=>rw[beq_iff_eq.1 ab] at ae;rw[Nat.beq_refl] at ae;cases ae
   rw[this]
   exact E1 es x9 b e aa h
theorem AZ:∀(l:List Nat),uU l=l.getLast?
 |[]=>rfl
 |[b]=>rfl
 |a::b::l=>by
  show uU (b::l)=_
  rw[AZ (b::l),List.getLast?_cons_cons]
theorem Mi(af:bg μ H w){it:I}{oV:Value}(ag:a1 μ it oV){v:I}(h:q3 H it=some v):ep P μ H w (Instr.entry oV) v H:=by
 unfold q3 at h
 split at h
 · rename_i r
   obtain⟨i,gg,rfl⟩:=ag
   split at h
   · rename_i m since seen last an
     obtain⟨er,j,aG,av⟩:=af.rel _ _ i an gg
     obtain⟨gF,i0,vq⟩:=i
     simp only at er;subst er
     have p7:w.heap[gF]? =some (.mapIter (some j.a6) since ⟨seen⟩ last):=av
     split at h
     · rename_i es clock b vr A0
       obtain⟨ents,f1,f2⟩:=af.rel _ _ j vr aG
       split at h
       · rename_i dt
         have dt:clock=last:=Nat.eq_of_beq_eq_true dt
         split at h
         · rename_i e iX
           cases h
           obtain⟨A1,g1,g2⟩:=E1 es ents b e f2 iX
           have fc:(getObj gF).run P w=.ok (.mapIter (some j.a6) since ⟨seen⟩ last) w:=by simp[getObj,Sem.run,p7]
           have x_:(getObj j.a6).run P w=.ok (.map ⟨ents⟩ clock) w:=by simp[getObj,Sem.run,f1]
           have Mj:(⟨seen⟩:Array Nat).back?=some b:=by
            rw[<-A0,AZ];simp
           have vt:(⟨ents⟩:Array MapEntry).find? (λx=>x.born==b)=some A1:=by rw[<-g1];simp
           refine .same af (v':=.tuple #[A1.key,A1.val]) ?_ ⟨_,rfl,_,_,rfl,g2.1,_,_,rfl,g2.2.1,rfl⟩
           have b9:(clock !=last)=false:=by simp[dt]
           simp only[Instr.entry,Sem.run_bind,fc,Result.andThen_ok,Mj,x_,b9,Bool.false_eq_true,if_false,vt]
           rfl
         · cases h
       · cases h
     · cases h
   · cases h
 · cases h
end
end aS
namespace aS
open Go
section
variable {P:Program} {μ:bd} {H:J} {w:World}
theorem Mk(k:IntKind)(x y:Int){v:I}(h:arith .xor k x y=some v):∃u,(Op.intBits .xor k x y).run P w=.ok u w/\a1 μ v u:=by
 simp only[arith] at h;cases h;exact⟨_,rfl,rfl⟩
theorem Ml{x:Value}{b:Bool}(U:a1 μ (.bool b) x):∃u,(Op.unary .not x).run P w=.ok u w/\a1 μ (.bool (!b)) u:=by
 cases U;exact⟨_,rfl,rfl⟩
theorem Mm{x:Value}{k:IntKind}{n:Int}(U:a1 μ (.int k n) x):∃u,(Op.unary .neg x).run P w=.ok u w/\a1 μ (.int k (k.wrap (0-n))) u:=by
 cases U;exact⟨_,rfl,rfl⟩
theorem Mn{x:Value}{k:IntKind}{n:Int}{v:I}(U:a1 μ (.int k n) x)(h:arith .xor k (if k.signed then-1 else k.max) n=some v):∃u,(Op.unary .xor x).run P w=.ok u w/\a1 μ v u:=by
 cases U;exact Mk k _ n h
def rq:Value->Bool
 |.int _ _|.float _ _|.complex _ _ _|.string _=>true
 |_=>false
theorem binOp_eql(t:TypeId){x y:Value}(h:rq x=false):binOp .eql t x y=(do pure (.bool (<-Op.equal t x y))):=by
 cases x<;>simp[rq] at h<;>cases y<;>rfl
theorem binOp_neq(t:TypeId){x y:Value}(h:rq x=false):binOp .neq t x y=(do pure (.bool (!(<-Op.equal t x y)))):=by
 cases x<;>simp[rq] at h<;>cases y<;>rfl
theorem E2:∀{d:Nat} {t:TypeId} {x y:I} {b:Bool} {bo:Value},hq P H d t x y=some b->(∀j a k c,¬(x=.int j a/\y=.int k c))->(∀a c,¬(x=.str a/\y=.str c))->a1 μ x bo->rq bo=false:=by
 intro d t x y b bo h ag ad U
 cases d with
 |zero=>simp[hq] at h
 |succ d=>
  cases x with
  |bad=>unfold hq at h;split at h<;>simp at h
  |int j a=>
   unfold hq at h
   split at h
   all_goals first
    |(cases y<;>simp at h;done)
    |(cases y<;>simp at h;exact absurd ⟨rfl,rfl⟩ (ag _ _ _ _))
    |cases h
  |str a=>
   unfold hq at h
   split at h
   all_goals first
    |(cases y<;>simp at h;done)
    |(cases y<;>simp at h;exact absurd ⟨rfl,rfl⟩ (ad _ _))
    |cases h
  |bool b=>cases U;rfl
  |c_=>cases U;rfl
  |ptr b off=>obtain⟨i,_,rfl⟩:=U;rfl
  |bn=>cases U;rfl
  |slice b off n c=>
   obtain⟨i,_,ab⟩:=U
   cases c with
   |exact c=>cases ab;rfl
   |aH fx=>obtain⟨c,rfl,_⟩:=ab;rfl
   |dead=>obtain⟨_,a,c,rfl⟩:=ab;rfl
  |fy=>cases U;rfl
  |map r=>obtain⟨i,_,rfl⟩:=U;rfl
  |h5=>cases U;rfl
  |fn f a b=>obtain⟨_,_,rfl,_⟩:=U;rfl
  |b7 l=>obtain⟨i,_,rfl⟩:=U;rfl
  |ej=>cases U;rfl
  |iface t x=>obtain⟨_,rfl,_⟩:=U;rfl
  |agg cs=>obtain⟨_,rfl,_⟩:=U;rfl
  |aF cs=>obtain⟨_,rfl,_⟩:=U;rfl
theorem E3{op:BinOp}(h:op≠ .eql)(ah:op≠ .neq)(t:TypeId)(iy jG:Operand)(a b:Value):(eqGuard op t iy jG a b).run P w=.ok () w:=by
 cases op<;>first|exact absurd rfl h|exact absurd rfl ah|simp[eqGuard]
def p8:Value->Nat
 |.nilIface=>1
 |.agg _=>2
 |_=>0
theorem A2{op:BinOp}(dW:op=.eql\/op=.neq){t:TypeId}{iy jG:Operand}{a b:Value}(h:p8 a=0\/p8 a≠p8 b):(eqGuard op t iy jG a b).run P w=.ok () w:=by
 rcases dW with rfl|rfl<;>(cases a<;>first|rfl|(cases b<;>first|rfl|simp[p8] at h))
def rr:I->Nat
 |.ej=>1
 |.agg _=>2
 |_=>0
theorem E4{x:I}{a:Value}(U:a1 μ x a)(ae:x≠ .bad):p8 a=rr x:=by
 cases x with
 |bad=>exact absurd rfl ae
 |bool b=>cases U;rfl
 |int k n=>cases U;rfl
 |str s=>obtain⟨_,rfl,_⟩:=U;rfl
 |c_=>cases U;rfl
 |ptr b off=>obtain⟨i,_,rfl⟩:=U;rfl
 |bn=>cases U;rfl
 |slice b off n c=>
  obtain⟨i,_,ab⟩:=U
  cases c with
  |exact c=>cases ab;rfl
  |aH fx=>obtain⟨c,rfl,_⟩:=ab;rfl
  |dead=>obtain⟨_,a,c,rfl⟩:=ab;rfl
 |fy=>cases U;rfl
 |map r=>obtain⟨i,_,rfl⟩:=U;rfl
 |h5=>cases U;rfl
 |fn f a b=>obtain⟨_,_,rfl,_⟩:=U;rfl
 |b7 l=>obtain⟨i,_,rfl⟩:=U;rfl
 |ej=>cases U;rfl
 |iface t x=>obtain⟨_,rfl,_⟩:=U;rfl
 |agg cs=>obtain⟨_,rfl,_⟩:=U;rfl
 |aF cs=>obtain⟨_,rfl,_⟩:=U;rfl
theorem E5{op:BinOp}(dW:op=.eql\/op=.neq){t:TypeId}{iy jG:Operand}{x y:I}{a b:Value}(U:a1 μ x a)(aP:a1 μ y b)(A3:x≠ .bad)(Mo:y≠ .bad)(h:pE P t iy jG x y=true):
  (eqGuard op t iy jG a b).run P w=.ok () w:=by
 have E6:=E4 U A3
 have Mp:=E4 aP Mo
 by_cases aj:p8 a=0\/p8 a≠p8 b
 · exact A2 dW aj
 · have h1:rr x≠0:=λe=>aj (.inl (E6.trans e))
   have aa:rr x=rr y:=by
    rw[<-E6,<-Mp];exact Classical.byContradiction λe=>aj (.inr e)
   cases x<;>simp[rr] at h1
   · cases y<;>simp[rr] at aa
     cases U;cases aP
     simp only[pE] at h
     rcases dW with rfl|rfl<;>(cases iy<;>cases jG<;>first|rfl|simp at h)
   · cases y<;>simp[rr] at aa
     obtain⟨dI,rfl,_⟩:=U
     obtain⟨dQ,rfl,_⟩:=aP
     simp only[pE,Bool.not_eq_true'] at h
     rcases dW with rfl|rfl<;>simp[eqGuard,h]
theorem E7{d:Nat}{t:TypeId}{x y:I}{b:Bool}(h:hq P H d t x y=some b):x≠ .bad/\y≠ .bad:=by
 cases d with
 |zero=>simp[hq] at h
 |succ d=>
  constructor
  · rintro rfl;unfold hq at h;split at h<;>simp at h
  · rintro rfl;unfold hq at h;split at h<;>(try cases x)<;>simp at h
theorem Mq(af:bg μ H w){op:BinOp}{t yt:TypeId}{iy jG:Operand}{x y v:I}{bo fF:Value}(U:a1 μ x bo)(aP:a1 μ y fF)(h:ec P H op t iy jG x y=some v):
  ∃u,(do eqGuard op t iy jG bo fF;binOp op t bo fF:Sem Value).run P w=.ok u w/\a1 μ v u:=by
 unfold ec at h
 split at h
 · rename_i k a gA b
   cases U;cases aP
   have an:(eqGuard op t iy jG (.int k a) (.int gA b)).run P w=.ok () w:=by
    by_cases dW:op=.eql\/op=.neq
    · exact A2 dW (.inl rfl)
    · exact E3 (λe=>dW (.inl e)) (λe=>dW (.inr e)) t iy jG _ _
   simp only[Sem.run_bind,an,Result.andThen_ok]
   split at h
   · exact Ej h t
   · exact Ej h t
   · rename_i h1 aa
     split at h
     · rename_i hk;subst hk
       exact Le h ⟨h1,aa⟩ t
     · cases h
 · rename_i a b
   obtain⟨s1,rfl,rfl⟩:=U
   obtain⟨s2,rfl,rfl⟩:=aP
   have an:(eqGuard op t iy jG (.string s1) (.string s2)).run P w=.ok () w:=by
    by_cases dW:op=.eql\/op=.neq
    · exact A2 dW (.inl rfl)
    · exact E3 (λe=>dW (.inl e)) (λe=>dW (.inr e)) t iy jG _ _
   simp only[Sem.run_bind,an,Result.andThen_ok]
   exact Lg h t
 · rename_i df jJ
   split at h
   · split at h
     · rename_i cP
       split at h
       · rename_i b he
         cases h
         obtain⟨ck,cn⟩:=E7 he
         have an:=E5 (w:=w) (op:=.eql) (.inl rfl) U aP ck cn cP
         have aC:rq bo=false:=E2 he (λj a k c e=>df j a k c e.1 e.2) (λa c e=>jJ a c e.1 e.2) U
         have aj:=rk (P:=P) af 100 t x y b bo fF Op.maxDepth (by decide) he U aP
         refine⟨.bool b,?_,rfl⟩
         simp only[Sem.run_bind,an,Result.andThen_ok,binOp_eql t aC,Op.equal,aj,Sem.run_pure]
       · cases h
     · cases h
   · split at h
     · rename_i cP
       split at h
       · rename_i b he
         cases h
         obtain⟨ck,cn⟩:=E7 he
         have an:=E5 (w:=w) (op:=.neq) (.inr rfl) U aP ck cn cP
         have aC:rq bo=false:=E2 he (λj a k c e=>df j a k c e.1 e.2) (λa c e=>jJ a c e.1 e.2) U
         have aj:=rk (P:=P) af 100 t x y b bo fF Op.maxDepth (by decide) he U aP
         refine⟨.bool (!b),?_,rfl⟩
         simp only[Sem.run_bind,an,Result.andThen_ok,binOp_neq t aC,Op.equal,aj,Sem.run_pure]
       · cases h
     · cases h
   · cases h
theorem Mr{t:TypeId}{d:TypeDesc}(hu:P.underlying t=some d)(df:∀m,d≠ .interface m){x:I}{bo:Value}(U:a1 μ x bo):
  (Instr.makeInterface t bo).run P w=.ok (.iface t bo) w:=by
 simp only[Instr.makeInterface,Sem.run_bind,bD hu,Result.andThen_ok]
 cases d<;>first|rfl|exact absurd rfl (df _)
theorem E8{xT as:TypeId}{ok:Bool}{d:TypeDesc}(hu:P.underlying as=some d)(df:∀m,d≠ .interface m){x:I}{bo:Value}(U:a1 μ x bo):
  (∀z,x=.ej->ok=true->ek P as=some z->∃u,(Instr.typeAssert bo xT as ok).run P w=.ok u w/\a1 μ (.aF [z,.bool false]) u)/\
  (∀v,x=.iface as v->∃u,(Instr.typeAssert bo xT as ok).run P w=.ok u w/\a1 μ (if ok then .aF [v,.bool true] else v) u)/\
  (∀t v z,x=.iface t v->t≠as->ok=true->ek P as=some z->∃u,(Instr.typeAssert bo xT as ok).run P w=.ok u w/\a1 μ (.aF [z,.bool false]) u):=by
 refine⟨λz oX cP aW=>?_,λv oX=>?_,λt v z oX b9 cP aW=>?_⟩
 · subst oX;cases U;subst cP
   obtain⟨eV,vp,rfl,_⟩:=kZ (P:=P) (w:=w) aW
   refine⟨.tuple #[eV,.bool false],?_,⟨_,rfl,_,_,rfl,jq μ eV,_,_,rfl,rfl,rfl⟩⟩
   simp only[Instr.typeAssert,Sem.run_bind,bD hu,Result.andThen_ok]
   cases d<;>first|exact absurd rfl (df _)|simp[vp]
 · subst oX;obtain⟨y,rfl,aP⟩:=U
   refine⟨if ok then .tuple #[y,.bool true] else y,?_,?_⟩
   · simp only[Instr.typeAssert,Sem.run_bind,bD hu,Result.andThen_ok]
     cases d<;>first|exact absurd rfl (df _)|simp
   · cases ok
     · exact aP
     · exact⟨_,rfl,_,_,rfl,aP,_,_,rfl,rfl,rfl⟩
 · subst oX;obtain⟨y,rfl,aP⟩:=U;subst cP
   obtain⟨eV,vp,rfl,_⟩:=kZ (P:=P) (w:=w) aW
   refine⟨.tuple #[eV,.bool false],?_,⟨_,rfl,_,_,rfl,jq μ eV,_,_,rfl,rfl,rfl⟩⟩
   simp only[Instr.typeAssert,Sem.run_bind,bD hu,Result.andThen_ok]
   cases d<;>first|exact absurd rfl (df _)|simp[vp,b9]
theorem Ms{vs:List I}{x:Value}{i:Nat}{v:I}(U:a1 μ (.aF vs) x)(h:nth i vs=some v):∃u,(Instr.extract x i).run P w=.ok u w/\a1 μ v u:=by
 obtain⟨l,rfl,ar⟩:=U
 rw[ks] at h
 obtain⟨u,hu,aj⟩:=ar.get h
 refine⟨u,?_,aj⟩
 simp[Instr.extract,hu]
theorem E9{r el:Nat}{c:Array Value}{cx:Nat×Nat}(h:w.heap[r]? =some (.cells c el cx)):(viewAt r).run P w=.ok none w:=by
 simp[viewAt,World.shape?,h]
theorem E_(af:bg μ H w){src dst u:TypeId}{b off n:Nat}{cs:List I}{el bB ag:Nat}{k:e3}(ad:P.underlying src=some (.pointer u))(ak:P.underlying dst=some .unsafePointer)
  (aW:cQ P u=some (n+1))(an:H.get b=some (.cells cs el k bB ag))(bx:off<cs.length){x:Value}(U:a1 μ (.ptr b off) x):(convert src dst x).run P w=.ok x w:=by
 obtain⟨i,ag,rfl⟩:=U
 obtain⟨c,eK,eL,av,au,bm,cN⟩:=af.rel _ _ i an ag
 obtain⟨v,aM⟩:∃v,cs[off]? =some v:=⟨_,List.getElem?_eq_getElem bx⟩
 obtain⟨Mt,hu,_⟩:=au off v aM
 have dC:i.base+off<c.size:=by
  rcases Nat.lt_or_ge (i.base+off) c.size with h|h
  · exact h
  · rw[Array.getElem?_eq_none h] at hu;cases hu
 have ve:(Conv.seenAt ⟨i.a6,i.base+off,none⟩).run P w=.ok ⟨i.a6,i.base+off,none⟩ w:=by
  simp[Conv.seenAt,E9 av]
 have vu:(cellsIn i.a6).run P w=.ok (some c.size) w:=by simp[cellsIn,World.shape?,av]
 have re:¬(c.size<=i.base+off):=by omega
 simp[convert,bD ad,bD ak,Conv.unsafePointer,ve,vu,run_sizeOf aW,re]
theorem Fa(af:bg μ H w){src dst u:TypeId}{b off n:Nat}{cs:List I}{el bB ag:Nat}(ad:P.underlying src=some .unsafePointer)(ak:P.underlying dst=some (.pointer u))
  (aW:cQ P u=some (n+1))(an:H.get b=some (.cells cs el .own bB ag))(ar:liesAt P P.depth el (cs.length/P.cellsOf el) off u 1=true){x:Value}(U:a1 μ (.ptr b off) x):(convert src dst x).run P w=.ok x w:=by
 obtain⟨i,ag,rfl⟩:=U
 obtain⟨c,eK,eL,av,au,bm,cN,fE,_⟩:=af.rel _ _ i an ag
 have ab:c.size=cs.length:=by omega
 have ve:(Conv.seenAt ⟨i.a6,i.base+off,none⟩).run P w=.ok ⟨i.a6,i.base+off,none⟩ w:=by
  simp[Conv.seenAt,E9 av]
 have A4:(variablesAt ⟨i.a6,i.base+off,none⟩ u 1).run P w=.ok true w:=by
  simp[variablesAt,World.shape?,av,cN,ab,ar]
 simp[convert,bD ad,bD ak,Conv.unsafePointer,ve,run_sizeOf aW,A4]
end
end aS
namespace aS
open Go
section
variable {P:Program} {μ:bd} {H:J} {w:World}
theorem Fb(af:bg μ H w){b:Nat}{i:fW}(ag:μ b=some i){cs:List I}{el bB dV:Nat}{k:e3}(an:H.get b=some (.cells cs el k bB dV)):
  ∀(n off:Nat) (r:List I) (bs:List UInt8) (acc:ByteArray),takeN n (hQ off cs)=some r->lF r=some bs->
   (loadBytes ⟨i.a6,i.base+off,none⟩ acc n).run P w=.ok ⟨acc.data++bs.toArray⟩ w
 |0,off,r,bs,acc,h,ae=>by
  simp only[takeN] at h;cases h
  simp only[lF] at ae;cases ae
  simp[loadBytes]
 |n+1,off,r,bs,acc,h,ae=>by
  rw[lL] at h
  cases ak:cs.drop off with
  |nil=>rw[ak] at h;simp[takeN] at h
  |cons a l=>
   rw[ak] at h
   simp only[takeN] at h
   cases bk:takeN n l with
   |none=>rw[bk] at h;cases h
   |some r'=>
    rw[bk] at h;cases h
    unfold lF at ae
    split at ae
    · rename_i heq;cases heq
    · rename_i m eG heq
      cases heq
      split at ae
      · rename_i Mu hm iC
        cases ae
        have Mv:cs[off]? =some (.int .u8 (Int.ofNat m)):=by
         have:=congrArg List.head? ak
         simpa[List.head?_drop] using this
        have ar:l=cs.drop (off+1):=by
         have:=congrArg List.tail ak
         simpa[List.tail_drop] using this.symm
        obtain⟨u,h1,aa⟩:=Aw (P:=P) (off:=off) af ag (show aO H b off=some (.int .u8 (Int.ofNat m)) by simp[aO,an,ks,Mv])
        cases aa
        have bc:=Fb af ag an n (off+1) r' Mu (acc.push (UInt8.ofNat m)) (by rw[lL,<-ar];exact bk) iC
        have e:(⟨i.a6,i.base+off,none⟩:Addr).add 1=⟨i.a6,i.base+(off+1),none⟩:=by simp[Addr.add,Nat.add_assoc]
        simp only[loadBytes,Sem.run_bind,h1,Result.andThen_ok,e]
        refine Eq.trans ?_ (bc.trans ?_)
        · rfl
        · congr 1
          simp[ByteArray.ext_iff,ByteArray.push]
      · cases ae
    · cases ae
theorem A5{α:Type}(p:Option Addr)(l:Value)(f:Option Addr->Value->α)(g:Array Value->α):Builtin.unsafeString_.match_3 (λ_=>α) #[.pointer p,l] f g=f p l:=rfl
theorem Mw(argTypes:Array TypeId)(ty pT:TypeId)(aA:argTypes[0]? =some pT)(k:IntKind)(m:Nat)(a:Addr)(u:TypeId)(hu:P.underlying pT=some (.pointer u))(np:m≠0)(hm:m<=281474976710656)
  {s:ByteArray}(aM:(variablesAt a u m).run P w=.ok true w)(ar:(loadBytes a .empty m).run P w=.ok s w):
  (Builtin.unsafeString_ argTypes ty #[.pointer (some a),.int k (m:Int)]).run P w=.ok (.string s) (w.freeze a m):=by
 have vw:¬((9223372036854775807:Int)<(m:Int)):=by omega
 have js:IntKind.i64.max=9223372036854775807:=rfl
 have he:(elemOf pT).run P w=.ok u w:=by simp[elemOf,bD hu]
 have tj:¬((m:Int)<0):=by omega
 delta Builtin.unsafeString_
 rw[A5]
 simp[asInt,asIntOf,aA,js,vw,np,he,aM,ar,tj]
theorem Fc(argTypes:Array TypeId)(ty pT:TypeId)(aA:argTypes[0]? =some pT)(k:IntKind)(p:Option Addr):(Builtin.unsafeString_ argTypes ty #[.pointer p,.int k 0]).run P w=.ok (.string .empty) w:=by
 have js:IntKind.i64.max=9223372036854775807:=rfl
 cases p with
 |none=>
  delta Builtin.unsafeString_
  rw[A5]
  simp[asInt,asIntOf,aA,js]
 |some a=>
  delta Builtin.unsafeString_
  rw[A5]
  simp[asInt,asIntOf,aA,js]
theorem ya:P.depth=(2*(P.types.size+Made.depth)+1)+1:=rfl
theorem Mx{e u count off n:Nat}(h1:P.underlyingId e=P.underlyingId u)(ad:P.cellsOf e=1)(ae:off+n<=count):liesAt P P.depth e count off u n=true:=by
 have ar:sameLayout P P.depth e u=true:=by rw[ya];simp[sameLayout,h1]
 have aj:rowAt P (sameLayout P P.depth · u) P.depth e count off n=true:=by
  rw[ya]
  unfold rowAt
  simp only[ad,Nat.div_one,Nat.mod_one]
  rw[ya] at ar
  simp[ae,ar]
 have:∀d,rowAt P (sameLayout P P.depth · u) P.depth e count off n=true->liesAt P (d+1) e count off u n=true:=λd h=>by
  unfold liesAt;rw[h];rfl
 conv=>lhs;arg 2;rw[ya]
 exact this _ aj
theorem My(af:bg μ H w){argTypes:Array TypeId}{ty pT:TypeId}(aA:argTypes[0]? =some pT){p n v:I}{A6 A7:Value}(a8:a1 μ p A6)(aC:a1 μ n A7){aD:J}(h:oI P H pT p n=some (v,aD)):
  ep P μ H w (Builtin.unsafeString_ argTypes ty #[A6,A7]) v aD:=by
 unfold oI at h
 have Fe:∀m,eT n=some m->∃k,A7=.int k (m:Int):=by
  intro m hm
  unfold eT at hm
  split at hm
  · cases hm;cases aC;exact⟨_,rfl⟩
  · cases hm
 split at h
 · rename_i aW
   cases h;cases a8
   obtain⟨k,rfl⟩:=Fe 0 aW
   exact .same af (v':=.string .empty) (Fc argTypes ty pT aA k none) ⟨.empty,rfl,rfl⟩
 · rename_i b off m hm
   obtain⟨k,rfl⟩:=Fe m hm
   obtain⟨i,ag,rfl⟩:=a8
   split at h
   · rename_i aW
     cases h;subst aW
     exact .same af (v':=.string .empty) (Fc argTypes ty pT aA k _) ⟨.empty,rfl,rfl⟩
   · rename_i np
     split at h
     · rename_i u cs el cO bB dV hu an
       split at h
       · rename_i ab
         simp only[Bool.and_eq_true,decide_eq_true_eq,Nat.ble_eq] at ab
         obtain⟨⟨⟨c1,c2⟩,c3⟩,gG⟩:=ab
         split at h
         · rename_i r aj
           split at h
           · rename_i bs ae
             cases h
             obtain⟨c,eK,eL,av,au,bm,cN⟩:=af.rel _ _ i an ag
             have Mz:=Fb (P:=P) af ag an m off r bs .empty aj ae
             have hlen:off+m<=cs.length:=by
              rw[lL] at aj
              have:=(q9 m _ _ aj).1
              rw[List.length_drop] at this
              omega
             have ni:0<m:=Nat.pos_of_ne_zero np
             have dC:i.base+off+m<=c.size:=by
              obtain⟨x,U⟩:∃x,cs[off+m-1]? =some x:=⟨_,List.getElem?_eq_getElem (by omega)⟩
              obtain⟨Mt,nh,_⟩:=au _ x U
              rcases Nat.lt_or_ge (i.base+(off+m-1)) c.size with h|h
              · omega
              · rw[Array.getElem?_eq_none h] at nh;cases nh
             have Ff:P.cellsOf el=1:=by
              unfold cQ at c2
              unfold Program.cellsOf
              cases dV:P.info? el with
              |none=>rw[dV] at c2;cases c2
              |some ii=>rw[dV] at c2;simpa using c2
             have A4:(variablesAt ⟨i.a6,i.base+off,none⟩ u m).run P w=.ok true w:=by
              have ar:=Mx (P:=P) (e:=el) (u:=u) (count:=c.size/P.cellsOf el) (off:=i.base+off) (n:=m) c1 Ff (by rw[Ff];simpa using dC)
              simp[variablesAt,World.shape?,av,ar]
             have de:=Mw (P:=P) (w:=w) argTypes ty pT aA k m _ u hu np c3 A4 Mz
             have MA:∃cx:Nat×Nat,w.freeze ⟨i.a6,i.base+off,none⟩ m={w with heap:=w.heap.modify i.a6 λ
               |.cells c elem (bB,ag)=>.cells c elem (if bB==ag then(i.base+off,i.base+off+m) else(min bB (i.base+off),max ag (i.base+off+m)))
               |o=>o}/\(w.freeze ⟨i.a6,i.base+off,none⟩ m).heap[i.a6]? =some (.cells c el cx):=by
              have:w.freeze ⟨i.a6,i.base+off,none⟩ m={w with heap:=w.heap.modify i.a6 λ
               |.cells c elem (bB,ag)=>.cells c elem (if bB==ag then(i.base+off,i.base+off+m) else(min bB (i.base+off),max ag (i.base+off+m)))
               |o=>o}:=by simp[World.freeze,np];rfl
              refine⟨if eK==eL then(i.base+off,i.base+off+m) else(min eK (i.base+off),max eL (i.base+off+m)),this,?_⟩
              rw[this]
              simp[Array.getElem?_modify,av]
             obtain⟨⟨f1,f2⟩,aT,bb⟩:=MA
             have gO:(b8.cells cs el cO bB dV).nd=false:=by cases cO<;>first|rfl|exact absurd rfl gG
             obtain⟨ba,bH⟩:=af.update (w':=w.freeze ⟨i.a6,i.base+off,none⟩ m) (o':=.cells cs el .fz bB dV) an gO ag (by rw[aT];simp) (λr aj=>by rw[aT];simp[Array.getElem?_modify];intro e;exact absurd e.symm aj) (by rw[aT]) (by rw[aT]) (by rw[aT])
              ⟨c,f1,f2,bb,au,bm,trivial⟩ (hdr:=by rw[aT];exact Nat.le_refl _)
             exact⟨μ,_,.string _,de,⟨_,rfl,by simp⟩,ba,bH⟩
           · cases h
         · cases h
       · cases h
     · cases h
 · cases h
theorem MB{argTypes:Array TypeId}{ty:TypeId}{x:I}{bo:Value}(U:a1 μ x bo):
  (x=.bn->(Builtin.unsafeSliceData_ argTypes ty #[bo]).run P w=.ok (.pointer none) w)/\
  (∀b off n c,x=.slice b off n (.exact c)->c≠0->∃u,(Builtin.unsafeSliceData_ argTypes ty #[bo]).run P w=.ok u w/\a1 μ (.ptr b off) u)/\
  (∀b off n e,x=.slice b off n (.aH e)->n≠0->∃u,(Builtin.unsafeSliceData_ argTypes ty #[bo]).run P w=.ok u w/\a1 μ (.ptr b off) u):=by
 have key:∀(a:Addr) (n c:Nat),c≠0->(Builtin.unsafeSliceData_ argTypes ty #[.slice (some a) n c]).run P w=.ok (.pointer (some a)) w:=λa n c ab=>by
  obtain⟨k,rfl⟩:∃k,c=k+1:=⟨c-1,by omega⟩
  rfl
 refine⟨λh=>?_,λb off n c h ab=>?_,λb off n e h aC=>?_⟩
 · subst h;cases U;rfl
 · subst h;obtain⟨i,ag,u3⟩:=U;cases u3
   exact⟨_,key _ n c ab,i,ag,rfl⟩
 · subst h;obtain⟨i,ag,c,rfl,hle,_⟩:=U
   exact⟨_,key _ n c (by omega),i,ag,rfl⟩
theorem Fg{lO:Value}{first caps:List I}{g:Nat}{args:List I}{vs:List Value}(hf:a1 μ (.fn g first caps) lO)(aJ:bL μ args vs):
  ∃ax cs:List Value,(do let d<-Deferred.ofValue lO ⟨vs⟩;invoke d.target d.args:Sem Next).run P w=(callFunc g ⟨ax++vs++cs⟩).run P w/\bL μ (first++args++caps) (ax++vs++cs)/\
   (Deferred.ofValue lO ⟨vs⟩).run P w=.ok {target:=.fn (.func g) ⟨cs⟩,args:=⟨ax++vs⟩} w:=by
 obtain⟨ax,cs,rfl,h1,aa⟩:=hf
 refine⟨ax,cs,?_,(h1.append aJ).append aa,?_⟩
 · simp[Deferred.ofValue,invoke]
 · simp[Deferred.ofValue]
theorem MC{l:Nat}{lO:Value}{vs:List Value}(hf:a1 μ (.b7 l) lO):
  ∃i,μ l=some i/\(do let d<-Deferred.ofValue lO ⟨vs⟩;invoke d.target d.args:Sem Next).run P w=(Instr.yield i.a6 ⟨vs⟩).run P w:=by
 obtain⟨i,ag,rfl⟩:=hf
 exact⟨i,ag,by simp[Deferred.ofValue,invoke]⟩
theorem MD{t:TypeId}{name:String}{f:Nat}(h:xH P t name=some f)(v:Value)(n:Nat):(method (n+1) t v name).run P w=.ok (f,v) w:=by
 unfold xH at h
 split at h
 · rename_i i ag
   split at h
   · rename_i m hm
     have hf:∀q,m.path.isEmpty=q->m.path.isEmpty=q:=λ_ h=>h
     split at h
     all_goals first
      |(cases h;done)
      |(rename_i a8 mz hu
        cases h
        have ME:m.path.toList=[]:=by simpa using a8
        simp[method,run_typeInfo ag,hm,ME,follow,mz,receiverAt,bD hu,Place.get]
        done)
   · cases h
 · cases h
end
end aS
namespace aS
open Go
def iH(P:Program)(μ:bd)(H:J)(w:World)(s:Sem Next):iT->Prop
 |.val v aD=>∃aL w' u,(s.run P w=.ok (.value u) w'\/(u=undef/\s.run P w=.ok .skip w'))/\a1 aL v u/\bg aL aD w'/\bN μ H w aL aD w'
 |.bu v aD=>aD=H/\∃u,s.run P w=.halt (.panic u) w/\a1 μ v u
 |.call f args aD=>aD=H/\∃vs:List Value,s.run P w=(callFunc f ⟨vs⟩).run P w/\bL μ args vs
 |.b7 l args aD=>aD=H/\∃i,∃vs:List Value,μ l=some i/\s.run P w=(Instr.yield i.a6 ⟨vs⟩).run P w/\bL μ args vs
 |.mf d=>∃p9,s.run P w=.ok (.defer p9) w/\nc μ d p9
 |.qY=>s.run P w=.ok .recover w
 |.fail _=>True
section
variable {P:Program} {μ:bd} {H:J} {w:World}
theorem iH.iI{s:Sem Value}{v:I}{aD:J}(h:ep P μ H w s v aD):iH P μ H w (do pure (.value (<-s))) (.val v aD):=by
 obtain⟨aL,w',u,h1,aa,ao,aI⟩:=h
 exact⟨aL,w',u,.inl (by simp[h1]),aa,ao,aI⟩
theorem iH.of_same(af:bg μ H w){s:Sem Value}{v:I}(h:∃u,s.run P w=.ok u w/\a1 μ v u):iH P μ H w (do pure (.value (<-s))) (.val v H):=by
 obtain⟨u,h1,aa⟩:=h
 exact⟨μ,w,u,.inl (by simp[h1]),aa,af,bN.refl _ _ _⟩
theorem iH.yb(af:bg μ H w){u:Value}{v:I}(h:a1 μ v u){s:Sem Next}(ad:s.run P w=.ok (.value u) w):iH P μ H w s (.val v H):=
 ⟨μ,w,u,.inl ad,h,af,bN.refl _ _ _⟩
theorem iH.MF{s:Sem Unit}{aD:J}(h:∃w',s.run P w=.ok () w'/\bg μ aD w'/\bN μ H w μ aD w'):iH P μ H w (do s;pure .skip) (.val (.aF []) aD):=by
 obtain⟨w',h1,ao,aI⟩:=h
 exact⟨μ,w',undef,.inr ⟨rfl,by simp[h1]⟩,⟨[],rfl,rfl⟩,ao,aI⟩
theorem vx(af:bg μ H w){s:Sem Value}{o:Option I}{h6:String}(h:∀v,o=some v->∃u,s.run P w=.ok u w/\a1 μ v u):iH P μ H w (do pure (.value (<-s))) (fb H h6 o):=by
 cases o with
 |none=>trivial
 |some v=>exact .of_same af (h v rfl)
theorem p_{s:Sem Value}{o:Option I}{h6:String}(h:∀v,o=some v->ep P μ H w s v H):iH P μ H w (do pure (.value (<-s))) (fb H h6 o):=by
 cases o with
 |none=>trivial
 |some v=>exact .iI (h v rfl)
theorem ru{s:Sem Value}{o:Option (I×J)}{h6:String}(h:∀v aD,o=some (v,aD)->ep P μ H w s v aD):iH P μ H w (do pure (.value (<-s))) (kq h6 o):=by
 cases o with
 |none=>trivial
 |some p=>exact .iI (h p.1 p.2 rfl)
theorem yc{s:Sem Unit}{o:Option J}{h6:String}(h:∀aD,o=some aD->∃w',s.run P w=.ok () w'/\bg μ aD w'/\bN μ H w μ aD w'):iH P μ H w (do s;pure .skip) (oM h6 o):=by
 cases o with
 |none=>trivial
 |some aD=>exact .MF (h aD rfl)
theorem qa{a:I}{n:Nat}{v:Value}(h:eT a=some n)(aM:a1 μ a v):∃k,v=.int k (n:Int):=by
 unfold eT at h
 split at h
 · cases h;cases aM;exact⟨_,rfl⟩
 · cases h
theorem A8(af:bg μ H w){f:I}{lO:Value}{args:List I}{vs:List Value}(hf:a1 μ f lO)(aJ:bL μ args vs):
  iH P μ H w (do let d<-Deferred.ofValue lO ⟨vs⟩;invoke d.target d.args) (q4 f args H):=by
 unfold q4
 split
 · obtain⟨ax,cs,h1,aa,_⟩:=Fg (P:=P) (w:=w) hf aJ
   exact⟨rfl,_,h1,aa⟩
 · obtain⟨i,h1,aa⟩:=MC (P:=P) (w:=w) (vs:=vs) hf
   exact⟨rfl,i,vs,h1,aa,aJ⟩
 · trivial
theorem MG(af:bg μ H w){b:Builtin}{ats:Array TypeId}{ty:TypeId}{consts:Array Bool}{vs:List I}{us:List Value}(aM:bL μ vs us):
  iH P μ H w (builtin b ats ty consts ⟨us⟩) (hR P b ats vs H):=by
 unfold hR
 split
 · rfl
 · cases vs with
   |nil=>trivial
   |cons x l=>
    obtain⟨bo,k6,rfl,h1,aa⟩:=aM
    refine vx af λv h=>?_
    obtain⟨u,aT,bb⟩:=AN (P:=P) (w:=w) jZ Builtin.min2 (λ_ _ _ _ _ h U aP=>LX h U aP) l x bo k6 v h1 aa h
    exact⟨u,by simpa[Builtin.min_] using aT,bb⟩
 · cases vs with
   |nil=>trivial
   |cons x l=>
    obtain⟨bo,k6,rfl,h1,aa⟩:=aM
    refine vx af λv h=>?_
    obtain⟨u,aT,bb⟩:=AN (P:=P) (w:=w) mV Builtin.max2 (λ_ _ _ _ _ h U aP=>LY h U aP) l x bo k6 v h1 aa h
    exact⟨u,by simpa[Builtin.max_] using aT,bb⟩
 · split
   · rename_i t x aA
     obtain⟨bo,k6,rfl,h1,aa⟩:=aM
     cases aa
     split
     · exact p_ λv h=>LU af aA h1 h
     · exact p_ λv h=>LV af aA h1 h
     · exact ru λv aD h=>LR af aA h1 h
     · obtain⟨s1,s2,bz⟩:=MB (P:=P) (w:=w) (argTypes:=ats) (ty:=ty) h1
       split
       · exact .of_same af ⟨_,s1 rfl,rfl⟩
       · split
         · trivial
         · rename_i ab;exact .of_same af (s2 _ _ _ _ rfl ab)
       · split
         · trivial
         · rename_i ab;exact .of_same af (bz _ _ _ _ rfl ab)
       · trivial
     · trivial
   · rename_i t x y aA
     obtain⟨bo,k6,rfl,h1,fF,EE,rfl,aa,ao⟩:=aM
     cases ao
     split
     · exact ru λv aD h=>LL af aA h1 aa h
     · exact ru λv aD h=>LQ af aA h1 aa h
     · exact ru λv aD h=>AX af aA h1 aa h
     · exact ru λv aD h=>My af aA h1 aa h
     · trivial
   · trivial
theorem MH(af:bg μ H w){src dst:TypeId}{x:I}{bo:Value}(U:a1 μ x bo):
  iH P μ H w (do pure (.value (<-convert src dst bo))) (iB P src dst x H):=by
 unfold iB
 split
 · rename_i kt k bt n ad ak
   cases U
   exact .of_same af ⟨.int k (k.wrap n),by simp[convert,bD ad,bD ak,Conv.intToInt],rfl⟩
 · rename_i kt bt n ad ak
   cases U
   exact .of_same af ⟨.string (Utf8.encode n),by simp[convert,bD ad,bD ak,Conv.intToString],_,rfl,rfl⟩
 · rename_i s ad ak
   obtain⟨t,rfl,rfl⟩:=U
   exact .of_same af ⟨.string t,by simp[convert,bD ad,bD ak],_,rfl,rfl⟩
 · rename_i e s ad ak
   obtain⟨t,rfl,rfl⟩:=U
   split
   · rename_i he
     refine .iI ?_
     have bW:=L0 (P:=P) af (e:=e) (bs:=t)
     obtain⟨aL,w',u,h1,aa,ao,aI⟩:=bW
     exact⟨aL,w',u,by simp[convert,bD ad,bD ak,bD he,h1],aa,ao,aI⟩
   · trivial
 · rename_i e ad ak
   have key:P.underlying e=some (.int .u8)->∀a n c,(convert src dst (.slice a n c)).run P w=(Conv.bytesToString (.slice a n c)).run P w:=by
    intro he a n c
    simp[convert,bD ad,bD ak,bD he]
   split
   · rename_i he
     cases U
     refine .of_same af ⟨.string .empty,?_,.empty,rfl,rfl⟩
     rw[key he];rfl
   · rename_i b off n he
     split
     · rename_i aC
       subst aC
       obtain⟨i,_,_,a,c,rfl⟩:=U
       refine .of_same af ⟨.string .empty,?_,.empty,rfl,rfl⟩
       rw[key he];rfl
     · trivial
   · rename_i b off n c iW he
     split
     · rename_i cs ar
       split
       · rename_i bs ae
         obtain⟨aL,w',u,h1,aa,ao,aI⟩:=LZ (P:=P) af (by intro e;subst e;exact iW rfl) U ar ae
         refine .iI ⟨aL,w',u,?_,aa,ao,aI⟩
         have jt:∃a m k,bo=.slice a m k:=by
          obtain⟨i,_,ab⟩:=U
          cases c with
          |exact c=>cases ab;exact⟨_,_,_,rfl⟩
          |aH fx=>obtain⟨c,rfl,_⟩:=ab;exact⟨_,_,_,rfl⟩
          |dead=>obtain⟨_,a,c,rfl⟩:=ab;exact⟨_,_,_,rfl⟩
         obtain⟨a,m,k,rfl⟩:=jt
         rw[key he];exact h1
       · trivial
     · trivial
   · trivial
 · rename_i u b off ad ak
   split
   · rename_i cs el k bB ag n an aW
     split
     · rename_i bx
       exact .of_same af ⟨bo,E_ af ad ak aW an (by simpa using bx) U,U⟩
     · trivial
   · trivial
 · rename_i u b off ad ak
   split
   · rename_i cs el bB ag n an aW
     split
     · rename_i ab
       exact .of_same af ⟨bo,Fa af ad ak aW an ab U,U⟩
     · trivial
   · trivial
 · trivial
end
end aS
namespace aS
open Go
section
variable {P:Program} {μ:bd} {H:J} {w:World}
theorem Fh(af:bg μ H w){c a b:Operand}{g:Operand->I}{ρ:Operand->Value}(an:∀x,a1 μ (g x) (ρ x)){hI:Bool}(ab:g c=.bool hI):
  iH P μ H w (do pure (.value (if<-asBool (ρ c) then ρ a else ρ b))) (.val (if hI then g a else g b) H):=by
 have h1:=an c
 rw[ab] at h1
 refine .yb af (u:=if hI then ρ a else ρ b) ?_ ?_
 · cases hI
   · exact an b
   · exact an a
 · have:ρ c=.bool hI:=h1
   simp[this,asBool]
theorem yd{g:Operand->I}{ρ:Operand->Value}(an:∀x,a1 μ (g x) (ρ x))(args:Array Operand):bL μ (args.toList.map g) (args.map ρ).toList:=by
 rw[Array.toList_map];exact bL.map g ρ an _
theorem MI(af:bg μ H w){g:Operand->I}{ρ:Operand->Value}(an:∀x,a1 μ (g x) (ρ x))(o:Oper)(x:Operand)(aQ:o.op=.nilCheck x):iH P μ H w (execOp ρ o) (match g x with
  |.ptr b o=>.val (.ptr b o) H
  |.slice b o n c=>.val (.slice b o n c) H
  |.fn f a b=>.val (.fn f a b) H
  |.iface t v=>.val (.iface t v) H
  |_=>.fail ""):=by
 have h1:=an x
 have e:∀(v:I),g x=v->((∃b o,v=.ptr b o)\/(∃b o n c,v=.slice b o n c)\/(∃f a b,v=.fn f a b)\/∃t y,v=.iface t y)->iH P μ H w (execOp ρ o) (.val v H):=by
  intro v aM ad
  have aa:=h1
  rw[aM] at aa
  exact .yb af aa (La aa ad o x ρ rfl aQ)
 split
 · rename_i b o U;exact e _ U (.inl ⟨_,_,rfl⟩)
 · rename_i b o n c U;exact e _ U (.inr (.inl ⟨_,_,_,_,rfl⟩))
 · rename_i f a b U;exact e _ U (.inr (.inr (.inl ⟨_,_,_,rfl⟩)))
 · rename_i t v U;exact e _ U (.inr (.inr (.inr ⟨_,_,rfl⟩)))
 · trivial
theorem MJ(af:bg μ H w){g:Operand->I}{ρ:Operand->Value}(an:∀x,a1 μ (g x) (ρ x))(c:Call)(type:TypeId):iH P μ H w (do let d<-resolve ρ c type;invoke d.target d.args) (match c.callee with
  |.value f=>q4 (g f) (c.args.toList.map g) H
  |.invoke r name=>match g r with
   |.iface t v=>match xH P t name with
    |some f=>.call f (v::c.args.toList.map g) H
    |none=>.fail ""
   |_=>.fail ""
  |.builtin b=>hR P b c.argTypes (c.args.toList.map g) H):=by
 have aJ:=yd (μ:=μ) an c.args
 cases ab:c.callee with
 |value f=>
  simp only[resolve,ab]
  exact A8 af (an f) aJ
 |invoke r name=>
  simp only[]
  split
  · rename_i t v aj
    split
    · rename_i f hm
      have h1:=an r
      rw[aj] at h1
      obtain⟨y,aP,aM⟩:=h1
      refine⟨rfl,y::(c.args.map ρ).toList,?_,⟨_,_,rfl,aM,aJ⟩⟩
      have Xg:0<Made.depth:=by decide
      obtain⟨n,aC⟩:∃n,P.types.size+Made.depth=n+1:=⟨P.types.size+Made.depth-1,by omega⟩
      have MK:=MD (P:=P) (w:=w) hm y n
      have aA:(#[ρ r]++c.args.map ρ)[0]? =some (ρ r):=by rw[Array.getElem?_append_left (by simp)];rfl
      have aa:(#[ρ r]++c.args.map ρ).extract 1 (#[ρ r]++c.args.map ρ).size=c.args.map ρ:=by
       apply Array.ext'
       simp only[Array.toList_extract,Array.toList_append,Array.toList_map,List.cons_append,List.nil_append,List.extract_eq_take_drop]
       rw[List.take_of_length_le]
       · rfl
       · simp
      have ao:(#[y]++c.args.map ρ:Array Value)=⟨y::(c.args.map ρ).toList⟩:=by apply Array.ext';simp
      rw[aP] at aA aa
      simp only[resolve,ab,Sem.run_bind,Sem.run_pure,Result.andThen_ok,invoke,aP,aA,aa,callMethod,run_program,aC,MK,ao]
    · trivial
  · trivial
 |builtin b=>
  have ae:=MG (P:=P) (b:=b) (ats:=c.argTypes) (ty:=type) (consts:=c.args.map λ|.const _=>true|_=>false) af aJ
  have he:(do let d<-resolve ρ c type;invoke d.target d.args:Sem Next)=builtin b c.argTypes type (c.args.map λ|.const _=>true|_=>false) (c.args.map ρ):=by
   simp only[resolve,ab];rfl
  rw[he];exact ae
set_option maxHeartbeats 4000000 in
theorem Fi(af:bg μ H w)(o:Oper){g:Operand->I}{ρ:Operand->Value}(an:∀x,a1 μ (g x) (ρ x)):iH P μ H w (execOp ρ o) (b6 P o g H):=by
 obtain⟨dst,op,type,pos,after,guard⟩:=o
 cases op<;>simp only[b6,execOp]
 case move x=>exact .yb af (an x) rfl
 case assign x=>exact .yb af (an x) rfl
 case pick c a b=>
  split
  · rename_i ab;exact Fh af an ab
  · rename_i ab;exact Fh af an ab
  · trivial
 case alloc e=>
  split
  · rename_i z aW
    split
    · rename_i b ah aj;exact .iI (KY af aW aj)
    · trivial
  · trivial
 case box e x=>
  split
  · rename_i b ah aj;exact .iI (KZ af (an x) aj)
  · trivial
 case build t parts=>
  split
  · rename_i z aW
    split
    · rename_i ax hu
      split
      · rename_i cs dD hf;exact .iI (K6 af g ρ an aW hu dD parts hf)
      · trivial
    · rename_i n e hu
      split
      · rename_i sz ad
        split
        · rename_i cs hf;exact .iI (K8 af g ρ an aW hu ad parts hf)
        · trivial
      · trivial
    · trivial
  · trivial
 case buildSlice t len parts=>
  split
  · rename_i e hu
    split
    · rename_i sz z ad aW
      split
      · rename_i cs ab hf
        rw[Bool.and_eq_true,Nat.ble_eq,Nat.beq_eq] at ab
        split
        · rename_i b ah aj;exact .iI (K9 af g ρ an hu ad aW ab.1 ab.2 parts hf aj)
        · trivial
      · trivial
    · trivial
  · trivial
 case insert t m k v=>exact yc λaD h=>EV af (an m) (an k) (an v) h
 case load t a=>
  split
  · rename_i b off aJ
    have h1:=an a
    rw[aJ] at h1
    obtain⟨dI,dQ⟩:=K0 (P:=P) af (t:=t) h1
    split
    · rename_i n A9 aC
      split
      · rename_i cs ar;exact .iI (dI n cs A9 aC ar)
      · trivial
    · rename_i A9
      exact p_ λv h=>dQ v A9 h
    · trivial
  · trivial
 case store t a v=>
  split
  · rename_i b off aJ
    have h1:=an a
    rw[aJ] at h1
    split
    · trivial
    · rename_i n aC tk
      split
      · rename_i ar
        exact yc λaD h=>K1 af h1 (an v) tk aC (by simpa using ar) h
      · trivial
    · trivial
  · trivial
 case ready=>trivial
 case waits=>trivial
 case nilCheck x=>exact MI af an ⟨dst,.nilCheck x,type,pos,after,guard⟩ x rfl
 case binOp op t x y yt=>exact vx af λv h=>Mq af (yt:=yt) (an x) (an y) h
 case unOp op t x=>
  have h1:=an x
  split
  · rename_i b U;rw[U] at h1;exact .of_same af (Ml h1)
  · rename_i k n U;rw[U] at h1;exact .of_same af (Mm h1)
  · rename_i k n U;rw[U] at h1;exact vx af λv h=>Mn h1 h
  · trivial
 case convert src Xh x=>exact MH af (an x)
 case sliceToArrayPointer=>trivial
 case makeInterface t x=>
  split
  · trivial
  · rename_i d df hu
    refine .of_same af ⟨.iface t (ρ x),Mr hu (λm e=>df m (e▸rfl)) (an x),_,rfl,an x⟩
  · trivial
 case makeFunc fn first caps=>
  split
  · rename_i f
    exact .of_same af ⟨.func (.func f) (first.map ρ) (caps.map ρ),rfl,_,_,rfl,yd an first,yd an caps⟩
  · trivial
 case makeMap t r=>
  cases r with
  |none=>exact .iI (Ma af)
  |some x=>
   simp only[]
   split
   · rename_i cI fq k n hu U
     have h1:=an x
     rw[U] at h1
     have aa:ρ x=.int k n:=h1
     rw[Option.map_some,aa]
     exact .iI (Mb af hu)
   · trivial
 case makeChan=>trivial
 case makeSlice t l c=>
  split
  · rename_i e eG c' hu ar ab
    obtain⟨kl,el⟩:=qa ar (an l)
    obtain⟨kc,A_⟩:=qa ab (an c)
    split
    · rename_i i z ag aW
      split
      · rename_i jI
        rw[Bool.and_eq_true,Bool.and_eq_true,Nat.ble_eq,Nat.beq_eq,decide_eq_true_eq] at jI
        split
        · rename_i b ah aj
          rw[el,A_]
          exact .iI (K_ af hu ag aW jI.1.1 jI.1.2 jI.2 aj)
        · trivial
      · trivial
    · trivial
  · trivial
 case slice t x bB ag mx=>
  exact p_ λv h=>Lk af (an x) (mq.map g ρ an bB) (mq.map g ρ an ag) (mq.map g ρ an mx) h
 case fieldAddr s x f=>
  split
  · rename_i ax b off hu U
    have h1:=an x
    rw[U] at h1
    split
    · rename_i fd hf
      split
      · trivial
      · rename_i n p1 aC
        exact .iI (Lo af hu hf aC (λe=>p1 e) h1)
      · trivial
    · trivial
  · trivial
 case field t x f=>
  split
  · rename_i ax cs hu U
    have h1:=an x
    rw[U] at h1
    split
    · rename_i fd hf
      exact p_ λv h=>Ln af hu hf h1 h
    · trivial
  · trivial
 case indexAddr t x i=>
  split
  · rename_i n e b off k hu U ag
    have h1:=an x
    rw[U] at h1
    obtain⟨cO,rv⟩:=qa ag (an i)
    split
    · rename_i sz ad
      split
      · rename_i hk;rw[rv];exact .iI (Lq af hu ad h1 hk)
      · trivial
    · trivial
  · rename_i e b off n c k hu U ag
    have h1:=an x
    rw[U] at h1
    obtain⟨cO,rv⟩:=qa ag (an i)
    split
    · rename_i sz ad
      split
      · rename_i hk;rw[rv];exact .iI (Lp af hu ad h1 hk)
      · trivial
    · trivial
  · trivial
 case index t x i=>
  split
  · rename_i n e cs k hu U ag
    have h1:=an x
    rw[U] at h1
    obtain⟨cO,rv⟩:=qa ag (an i)
    split
    · rename_i sz ad
      split
      · rename_i hk;rw[rv];exact p_ λv h=>Lr af hu ad h1 hk h
      · trivial
    · trivial
  · rename_i s k hu U ag
    have h1:=an x
    rw[U] at h1
    obtain⟨cO,rv⟩:=qa ag (an i)
    split
    · rename_i c ab;rw[rv];exact .iI (Ls af hu h1 ab)
    · trivial
  · trivial
 case lookup t x i ok=>exact p_ λv h=>L7 af (an x) (an i) h
 case mapUpdate t m k v=>exact yc λaD h=>EV af (an m) (an k) (an v) h
 case mapEntry t m k=>exact ru λv aD h=>L8 af (an m) (an k) h
 case entryStore t m s v=>exact yc λaD h=>L9 af (an m) (an s) (an v) h
 case range t x=>
  split
  · rename_i s hu U
    have h1:=an x
    rw[U] at h1
    exact .iI (Mc af hu h1)
  · rename_i cI fq hu U
    have h1:=an x
    rw[U] at h1
    exact .iI (Md af hu h1)
  · rename_i cI fq m hu U
    have h1:=an x
    rw[U] at h1
    split
    · rename_i es c vr
      obtain⟨i,ag,aM⟩:=h1
      obtain⟨ents,av,au⟩:=af.rel _ _ i vr ag
      obtain⟨ba,bH⟩:=af.alloc (.mapIter (some m) c [] c) (.mapIter (some i.a6) c #[] c) 0 ⟨rfl,i,af.ng _ _ _ ag,World.heap_alloc_new _ _⟩
      refine .iI ⟨_,_,.pointer (some ⟨w.heap.size,0,none⟩),?_,⟨_,fD _ _ _,rfl⟩,ba,bH⟩
      have hJ:(getObj i.a6).run P w=.ok (.map ⟨ents⟩ c) w:=by simp[getObj,Sem.run,av]
      rw[aM]
      simp only[Instr.range,Sem.run_bind,bD hu,Result.andThen_ok,hJ,Sem.run_pure,run_newObj]
      rfl
    · trivial
  · trivial
 case next it isStr=>exact ru λv aD h=>Mg af (an it) h
 case entry it=>exact p_ λv h=>Mi af (an it) h
 case typeAssert x xT as ok=>
  have h1:=an x
  split
  · trivial
  · rename_i d df hu U
    obtain⟨t1,_,_⟩:=E8 (P:=P) (w:=w) (xT:=xT) (ok:=ok) hu (λm e=>df m (e▸rfl)) h1
    split
    · rename_i cP
      split
      · rename_i z aW;exact .of_same af (t1 z U cP aW)
      · trivial
    · trivial
  · rename_i d t v df hu U
    obtain⟨_,t2,t3⟩:=E8 (P:=P) (w:=w) (xT:=xT) (ok:=ok) hu (λm e=>df m (e▸rfl)) h1
    split
    · rename_i he;subst he;exact .of_same af (t2 v U)
    · rename_i b9
      split
      · rename_i cP
        split
        · rename_i z aW;exact .of_same af (t3 t v z U b9 cP aW)
        · trivial
      · trivial
  · trivial
 case extract t i=>
  have h1:=an t
  split
  · rename_i vs U
    rw[U] at h1
    exact vx af λv h=>Ms h1 h
  · trivial
 case call c=>exact MJ af an c type
 case go=>trivial
 case defer c=>
  split
  · rename_i f hf
    split
    · rename_i k first caps U
      have h1:=an f
      rw[U] at h1
      obtain⟨ax,cs,_,ao,aI⟩:=Fg (P:=P) (w:=w) h1 (yd an c.args)
      refine⟨_,?_,.call k _ cs _ ao⟩
      simp only[resolve,hf,Sem.run_bind]
      have ye:(Deferred.ofValue (ρ f) (c.args.map ρ)).run P w=.ok {target:=.fn (.func k) ⟨cs⟩,args:=⟨ax++(c.args.map ρ).toList⟩} w:=aI
      rw[ye];rfl
    · trivial
  · trivial
 case panic x=>
  have h1:=an x
  split
  · rename_i t v U
    rw[U] at h1
    obtain⟨y,aP,aM⟩:=h1
    refine⟨rfl,.iface t y,?_,⟨y,rfl,aM⟩⟩
    rw[aP];rfl
  · trivial
 all_goals trivial
end
end aS
namespace aS
open Go
section
variable {P:Program} {μ:bd} {w:World}
def qb(P:Program)(μ:bd)(w:World)(s:Sem Value)(e:TypeId)(cs:List I)(val:Addr->Value):Prop:=
 ∃us:List Value,bL μ cs us/\s.run P w=.ok (val ⟨w.heap.size,0,none⟩) (w.alloc (.cells ⟨us⟩ e))
theorem Fj(el:TypeId)(us:List Value):(_root_.Go.newRow el ⟨us⟩).run P w=.ok ⟨w.heap.size,0,none⟩ (w.alloc (.cells ⟨us⟩ el)):=by simp[_root_.Go.newRow]
theorem ML{e:TypeId}{z:I}(aW:ek P e=some z):qb P μ w (Instr.alloc e true (.tuple #[])) e z.cells (λa=>.pointer (some a)):=by
 obtain⟨v,aM,rfl,ae⟩:=kZ (w:=w) aW
 refine⟨v.cells.toList,(jq μ v).cells ae,?_⟩
 simp[Instr.alloc,aM,newVar,_root_.Go.newRow]
theorem MM{e:TypeId}{x:I}{v:Value}(aM:a1 μ x v)(ae:x≠ .bad):qb P μ w (Instr.box e v) e x.cells (λa=>.pointer (some a)):=by
 refine⟨v.cells.toList,aM.cells ae,?_⟩
 simp[Instr.box,newVar,_root_.Go.newRow]
theorem MN(g:Operand->I)(ρ:Operand->Value)(an:∀x,a1 μ (g x) (ρ x)){t e:TypeId}{len sz:Nat}{z:I}(hu:P.underlying t=some (.slice e))(ad:cQ P e=some sz)
  (aW:ek P e=some z)(hle:len*sz<=16777216)(n1:z.cells.length=sz)(parts:Array (Nat×Operand)){cs:List I}
  (hf:iU (λi=>some (i*sz,sz)) (if len*sz=0 then[] else fN len z.cells) (parts.toList.map λp=>(p.1,g p.2))=some cs):
  qb P μ w (Instr.buildSlice t len (parts.map λ(i,x)=>(i,ρ x))) e cs (λa=>.slice (some a) len len):=by
 obtain⟨v,aM,rfl,ae⟩:=kZ (w:=w) aW
 have ab:=(jq μ v).cells ae
 have va:¬(len*sz>2^24):=by omega
 have key:∀zero:Array Value,bL μ (if len*sz=0 then[] else fN len (mT v).cells) ((Array.range (len*sz)).map (λi=>zero[i %zero.size]!)).toList->
   (∀r:Result Value,r=(match Instr.fill (λi=>some (i*sz,sz)) ((Array.range (len*sz)).map (λi=>zero[i %zero.size]!)) (parts.toList.map λp=>(p.1,ρ p.2)) with
    |some cells=>do pure (.slice (some (<-_root_.Go.newRow e cells)) len len)
    |none=>stuck "buildSlice: a part of the wrong size" :Sem Value).run P w->(Instr.buildSlice t len (parts.map λ(i,x)=>(i,ρ x))).run P w=r)->
   qb P μ w (Instr.buildSlice t len (parts.map λ(i,x)=>(i,ρ x))) e cs (λa=>.slice (some a) len len):=by
  intro zero nk de
  obtain⟨c',h1,aa⟩:=u7 _ g ρ an parts.toList _ cs _ nk hf
  refine⟨c',aa,de _ ?_⟩
  rw[h1]
  simp[Fj]
 by_cases aA:len*sz=0
 · refine key #[] (by rw[if_pos aA,aA];simp[bL]) λr aj=>?_
   rw[aj]
   simp only[Instr.buildSlice,Sem.run_bind,bD hu,Result.andThen_ok,run_sizeOf ad,if_neg va,if_pos aA,Sem.run_pure,Array.toList_map]
   generalize Instr.fill _ _ _=F
   cases F<;>rfl
 · refine key v.cells (by rw[if_neg aA];exact u_ ab n1 len) λr aj=>?_
   rw[aj]
   simp only[Instr.buildSlice,Sem.run_bind,bD hu,Result.andThen_ok,run_sizeOf ad,if_neg va,if_neg aA,Sem.run_pure,Array.toList_map,aM]
   generalize Instr.fill _ _ _=F
   cases F<;>rfl
theorem MO{t e:TypeId}{l c:Nat}{i:TypeInfo}{z:I}{kl kc:IntKind}(hu:P.underlying t=some (.slice e))(ag:P.info? e=some i)(aW:ek P e=some z)(pU:l<=c)
  (tf:c*(i.bytes+1)<=1099511627776)(n1:z.cells.length=i.size):
  qb P μ w (Instr.makeSlice t (.int kl l) (.int kc c)) e (if c*i.size=0 then[] else fN c z.cells) (λa=>.slice (some a) l c):=by
 obtain⟨v,aM,rfl,ae⟩:=kZ (w:=w) aW
 have ab:=(jq μ v).cells ae
 have pV:c<=1099511627776:=Nat.le_trans (Nat.le_mul_of_pos_right c (by omega)) tf
 have j3:i.bytes*c<=1099511627776:=by
  have:c*i.bytes<=c*(i.bytes+1):=Nat.mul_le_mul_left c (by omega)
  rw[Nat.mul_comm];omega
 have vb:∀n:Nat,n<=1099511627776->IntKind.wrap .i64 (n:Int)=(n:Int):=λn aC=>n2 n (by omega)
 have vc:=vb l (by omega)
 have vd:=vb c pV
 have re:¬((c:Int)<0||(i.bytes:Int)*(c:Int)>2^48||(l:Int)<0||(l:Int)>(c:Int))=true:=by
  have h1:((i.bytes:Int)*(c:Int))<=1099511627776:=by
   have aA:((i.bytes*c:Nat):Int)<=1099511627776:=by omega
   rw[Int.natCast_mul] at aA;exact aA
  have aa:(2:Int)^48=281474976710656:=by rfl
  generalize (i.bytes:Int)*(c:Int)=q at h1⊢
  rw[aa]
  simp only[Bool.or_eq_true,decide_eq_true_eq]
  omega
 have key:∀zero:Array Value,bL μ (if c*i.size=0 then[] else fN c (mT v).cells) ((Array.range (c*i.size)).map (λj=>zero[j %zero.size]!)).toList->
   (Instr.makeSlice t (.int kl l) (.int kc c)).run P w=(do let a<-_root_.Go.newRow e ((Array.range (c*i.size)).map (λj=>zero[j %zero.size]!));pure (.slice (some a) l c):Sem Value).run P w->
   qb P μ w (Instr.makeSlice t (.int kl l) (.int kc c)) e (if c*i.size=0 then[] else fN c (mT v).cells) (λa=>.slice (some a) l c):=by
  intro zero nk de
  refine⟨_,nk,?_⟩
  rw[de]
  simp only[Sem.run_bind,Sem.run_pure]
  have aE:=Fj (P:=P) (w:=w) e ((Array.range (c*i.size)).map (λj=>zero[j %zero.size]!)).toList
  have:(⟨((Array.range (c*i.size)).map (λj=>zero[j %zero.size]!)).toList⟩:Array Value)=((Array.range (c*i.size)).map (λj=>zero[j %zero.size]!)):=rfl
  rw[this] at aE
  rw[aE];rfl
 have bp:(_root_.Go.sizeOf e).run P w=.ok i.size w:=by simp[_root_.Go.sizeOf,run_typeInfo ag]
 by_cases aA:c*i.size=0
 · refine key #[] (by rw[if_pos aA,aA];simp[bL]) ?_
   simp only[Instr.makeSlice,Sem.run_bind,bD hu,Result.andThen_ok,asInt,asIntOf,Sem.run_pure,run_typeInfo ag,vc,vd]
   rw[if_neg re]
   simp[bp,aA]
 · refine key v.cells (by rw[if_neg aA];exact u_ ab n1 c) ?_
   simp only[Instr.makeSlice,Sem.run_bind,bD hu,Result.andThen_ok,asInt,asIntOf,Sem.run_pure,run_typeInfo ag,vc,vd]
   rw[if_neg re]
   simp[bp,aA,aM]
structure Laid(P:Program)(μ:bd)(w:World)(s:Sem Next)(b:Nat)(v:I)(bY:b8)(u:Value)(X:Obj)(sz:Nat):Prop where
 run:s.run P w=.ok (.value u) (w.alloc X)
 val:∀aL,dB μ aL->aL b=some ⟨w.heap.size,0,sz⟩->a1 aL v u
 obj:∀aL w',dB μ aL->w'.heap[w.heap.size]? =some X->j1 aL bY ⟨w.heap.size,0,sz⟩ w'
 ro:bY.nd=false
theorem qb.laid{s:Sem Value}{e:TypeId}{cs:List I}{val:Addr->Value}(h:qb P μ w s e cs val){b:Nat}{v:I}(aM:∀aL sz,aL b=some ⟨w.heap.size,0,sz⟩->a1 aL v (val ⟨w.heap.size,0,none⟩)):
  ∃u X sz,Laid P μ w (do pure (.value (<-s))) b v (.cells cs e .own 0 0) u X sz:=by
 obtain⟨us,h1,aa⟩:=h
 refine⟨_,.cells ⟨us⟩ e,us.length,by simp[aa],λaL _ hm=>aM aL _ hm,λaL w' hle bh=>?_,rfl⟩
 exact⟨⟨us⟩,0,0,bh,λj v aG=>by
  obtain⟨u,hu,aj⟩:=h1.get aG
  exact⟨u,by simpa using hu,aj.mono hle⟩,by simp,rfl,h1.length.symm,rfl,rfl⟩
theorem MP(o:Oper){g:Operand->I}{ρ:Operand->Value}(an:∀x,a1 μ (g x) (ρ x)){b:Nat}{v:I}{bY:b8}(h:hs P o.op g b=some (v,bY)):
  ∃u X sz,Laid P μ w (execOp ρ o) b v bY u X sz:=by
 obtain⟨dst,op,type,pos,after,guard⟩:=o
 cases op<;>simp only[hs] at h<;>try (cases h;done)
 case alloc e=>
  split at h
  · rename_i z aW
    split at h
    · cases h
      exact(ML aW).laid λaL sz hm=>⟨_,hm,rfl⟩
    · cases h
  · cases h
 case box e x=>
  split at h
  · rename_i dD
    cases h
    have ae:g x≠ .bad:=by intro e;rw[e] at dD;simp[I.cells,I.ca] at dD
    exact(MM (an x) ae).laid λaL sz hm=>⟨_,hm,rfl⟩
  · cases h
 case buildSlice t len parts=>
  split at h
  · rename_i e hu
    split at h
    · rename_i sz z ad aW
      split at h
      · rename_i cs ab hf
        rw[Bool.and_eq_true,Nat.ble_eq,Nat.beq_eq] at ab
        split at h
        · cases h
          exact(MN g ρ an hu ad aW ab.1 ab.2 parts hf).laid λaL sz hm=>⟨_,hm,rfl⟩
        · cases h
      · cases h
    · cases h
  · cases h
 case makeMap t r=>
  cases r with
  |some x=>cases h
  |none=>
   cases h
   exact⟨.map (some w.heap.size),.map #[] 0,0,rfl,λaL _ hm=>⟨_,hm,rfl⟩,λaL w' _ bh=>⟨[],bh,rfl⟩,rfl⟩
 case makeSlice t l c=>
  split at h
  · rename_i e eG c' hu ar ab
    obtain⟨kl,el⟩:=qa ar (an l)
    obtain⟨kc,A_⟩:=qa ab (an c)
    split at h
    · rename_i i z ag aW
      split at h
      · rename_i cs jI
        split at h
        · cases h
          rw[Bool.and_eq_true,Bool.and_eq_true,Nat.ble_eq,Nat.beq_eq,decide_eq_true_eq] at jI
          have:=(MO (P:=P) (μ:=μ) (w:=w) (kl:=kl) (kc:=kc) hu ag aW jI.1.1 jI.1.2 jI.2).laid (b:=b) (v:=.slice b 0 eG (.exact c')) λaL sz hm=>⟨_,hm,rfl⟩
          simp only[execOp,el,A_]
          exact this
        · cases h
      · cases h
    · cases h
  · cases h
end
end aS
namespace aS
open Go
def fR(P:Program)(μ:bd):Prop:=∀g,g<P.globals.size->∃i,μ g=some i/\i.a6=g/\i.base=0
theorem fR.mono{P:Program}{μ aL:bd}(h:fR P μ)(hle:dB μ aL):fR P aL:=λg an=>let⟨i,h1,aa⟩:=h g an;⟨i,hle _ _ h1,aa⟩
def Ends(μ:bd)(H:J)(w:World):bM->Ending->World->Prop
 |.ret v aD,e,w'=>∃aL u,e=.returned u/\a1 aL v u/\bg aL aD w'/\bN μ H w aL aD w'
 |.bu v aD,e,w'=>∃aL u,e=.panicked [{v:=u,recovered:=false}]/\a1 aL v u/\bg aL aD w'/\bN μ H w aL aD w'
 |.fail _,_,_=>True
def bM.kz:bM->Bool
 |.fail _=>false
 |_=>true
def qc(P:Program)(f:FuncId)(vs:List Value)(w:World)(R:Ending->World->Prop):Prop:=
 (∃v w',(callFunc f ⟨vs⟩).run P w=.ok (.value v) w'/\R (.returned v) w')\/
 ((callFunc f ⟨vs⟩).run P w=.ok (.enter f ⟨vs⟩) w/\Calls P f ⟨vs⟩ w R)
def oY(P:Program)(m:Machine)(c:Frame)(cs:List Frame)(R:Ending->World->Prop):Prop:=
 ∃e w',R e w'/\match e with
  |.returned v=>Steps P m (lone (c.finish v) cs w')
  |.panicked chain=>Steps P m (lone (c.raise chain) cs w')
  |.outgrown=>False
def Fk(P:Program)(l:Nat)(vs:List Value)(w:World)(R:Ending->World->Prop):Prop:=
 ∃f tmps assign body,(Instr.yield l ⟨vs⟩).run P w=.ok (.round l f tmps assign body) w/\∀c cs,oY P (lone (Frame.round l f tmps assign body .normal) (c::cs) w) c cs R
structure iY(P:Program)(call:cR->List I->J->bM):Prop where
 fn:∀f args H,(call (.fn f) args H).kz=true->∀μ w (vs:List Value),bg μ H w->fR P μ->bL μ args vs->qc P f vs w (Ends μ H w (call (.fn f) args H))
 b7:∀l args H,(call (.b7 l) args H).kz=true->∀μ w i (vs:List Value),bg μ H w->fR P μ->μ l=some i->bL μ args vs->Fk P i.a6 vs w (Ends μ H w (call (.b7 l) args H))
theorem oY.of_steps{P:Program}{m m1:Machine}{c:Frame}{cs:List Frame}{R:Ending->World->Prop}(h:Steps P m m1)(ah:oY P m1 c cs R):oY P m c cs R:=by
 obtain⟨e,w',aj,ad⟩:=ah
 refine⟨e,w',aj,?_⟩
 cases e with
 |returned v=>exact h.trans ad
 |panicked Ba=>exact h.trans ad
 |outgrown=>exact ad.elim
theorem yf{P:Program}{f:FuncId}{args:Array Value}{w:World}{R:Ending->World->Prop}(dJ:∀w',¬R .outgrown w')(h:Calls P f args w R)(c:Frame)(cs:List Frame):
  oY P (lone (Frame.enter P f args .normal) (c::cs) w) c cs R:=by
 obtain⟨e,w',cx,aj,ab,_,ar⟩:=h (c::cs)
 refine⟨e,w',aj,?_⟩
 cases e with
 |returned v=>exact Steps.trans ab (.one (step_leave_returned ar))
 |panicked Ba=>exact Steps.trans ab (.one (step_leave_panicked ar))
 |outgrown=>exact(dJ _ aj).elim
def gp(μ:bd)(kind:CallKind)(cs0:List Frame):az->List Frame->Prop
 |.none,cs=>cs=cs0/\∀cx:Frame,cx.kind=kind->tryRecover cx cs0=none
 |.act v,cs=>cs=cs0/\kind=.deferred/\∃c rest u,cs0=c::rest/\c.mode=.panicking [{v:=u,recovered:=false}]/\a1 μ v u
 |.done v,cs=>kind=.deferred/\∃c rest u,cs0=c::rest/\c.mode=.panicking [{v:=u,recovered:=false}]/\a1 μ v u/\cs={c with mode:=.panicking [{v:=u,recovered:=true}]}::rest
theorem gp.mono{μ aL:bd}(hle:dB μ aL){kind:CallKind}{cs0 cs:List Frame}{q:az}(h:gp μ kind cs0 q cs):gp aL kind cs0 q cs:=by
 cases q with
 |none=>exact h
 |act v=>obtain⟨h1,aa,c,rest,u,ao,aI,bl⟩:=h;exact⟨h1,aa,c,rest,u,ao,aI,bl.mono hle⟩
 |done v=>obtain⟨h1,c,rest,u,ao,aI,bl,cg⟩:=h;exact⟨h1,c,rest,u,ao,aI,bl.mono hle,cg⟩
section
variable {P:Program} {μ:bd} {H:J} {w:World}
theorem ry{b:Frame}{a:Act}{ops:Array Oper}{i:Nat}{rest:List Nat}{k:List Item}{cs:List Frame}{s:Sem Next}
  (bW:stepG P true {frame:=b.atR a (.inRegion ops (i::rest)::k),callers:=cs,status:=.running,dying:=none} w=stepG.apply P true (b.atR a (.inRegion ops (i::rest)::k)) cs none s w):
  (∀v w',s.run P w=.ok (.value v) w'->Steps P (lone (b.atR a (.inRegion ops (i::rest)::k)) cs w) (lone ((b.atR a (.inRegion ops (i::rest)::k)).finish v) cs w'))/\
  (∀w',s.run P w=.ok .skip w'->Steps P (lone (b.atR a (.inRegion ops (i::rest)::k)) cs w) (lone ((b.atR a (.inRegion ops (i::rest)::k)).finish undef) cs w'))/\
  (∀u w',s.run P w=.halt (.panic u) w'->Steps P (lone (b.atR a (.inRegion ops (i::rest)::k)) cs w) (lone ((b.atR a (.inRegion ops (i::rest)::k)).raise [{v:=u,recovered:=false}]) cs w'))/\
  (∀d w',s.run P w=.ok (.defer d) w'->Steps P (lone (b.atR a (.inRegion ops (i::rest)::k)) cs w) (lone (b.atR ({a with defers:=d::a.defers}.put ((ops[i]?).bind (·.dst)) undef) (.inRegion ops rest::k)) cs w'))/\
  (∀f args w',s.run P w=.ok (.enter f args) w'->Steps P (lone (b.atR a (.inRegion ops (i::rest)::k)) cs w) (lone (Frame.enter P f args .normal) (b.atR a (.inRegion ops (i::rest)::k)::cs) w'))/\
  (∀l f tmps assign body w',s.run P w=.ok (.round l f tmps assign body) w'->Steps P (lone (b.atR a (.inRegion ops (i::rest)::k)) cs w) (lone (Frame.round l f tmps assign body .normal) (b.atR a (.inRegion ops (i::rest)::k)::cs) w'))/\
  (b.roundOf=none->∀w',s.run P w=.ok .recover w'->∀v bC,tryRecover (b.atR a (.inRegion ops (i::rest)::k)) cs=some (v,bC)->Steps P (lone (b.atR a (.inRegion ops (i::rest)::k)) cs w) (lone ((b.atR a (.inRegion ops (i::rest)::k)).finish v) bC w'))/\
  (b.roundOf=none->∀w',s.run P w=.ok .recover w'->tryRecover (b.atR a (.inRegion ops (i::rest)::k)) cs=none->Steps P (lone (b.atR a (.inRegion ops (i::rest)::k)) cs w) (lone ((b.atR a (.inRegion ops (i::rest)::k)).finish .nilIface) cs w')):=by
 refine⟨λv w' aj=>.one (step_lone_go ?_),λw' aj=>.one (step_lone_go ?_),λu w' aj=>.one (step_lone_go ?_),λd w' aj=>.one (step_lone_go ?_),λf args w' aj=>.one (step_lone_go ?_),λl f tmps assign body w' aj=>.one (step_lone_go ?_),λae w' aj v bC bk=>.one (step_lone_go ?_),λae w' aj bk=>.one (step_lone_go ?_)⟩
 · rw[bW];simp[stepG.apply,aj]
 · rw[bW];simp[stepG.apply,aj]
 · rw[bW];simp[stepG.apply,aj]
 · rw[bW]
   have:=Frame.finish_atR b {a with defers:=d::a.defers} ops i rest k undef
   simp only[stepG.apply,Sem.runT_eq,aj,GStep.bare_after]
   exact congrArg (λcx=>GStep.go {frame:=cx,callers:=cs,status:=.running,dying:=none} w') this
 · rw[bW];simp[stepG.apply,aj,Frame.atR]
 · rw[bW];simp[stepG.apply,aj,Frame.atR]
 · rw[bW]
   have iC:(b.atR a (.inRegion ops (i::rest)::k)).roundOf=none:=ae
   simp[stepG.apply,aj,iC,bk]
 · rw[bW]
   have iC:(b.atR a (.inRegion ops (i::rest)::k)).roundOf=none:=ae
   simp[stepG.apply,aj,iC,bk]
def yg(P:Program)(μ:bd)(H:J)(w:World)(b:Frame)(a:Act)(ops:Array Oper)(o:Oper)(i:Nat)(rest:List Nat)(k:List Item)(cs0 cs:List Frame):uV->Prop
 |.ok v d' aX aD=>∃aL w' u iZ bC,Steps P (lone (b.atR a (.inRegion ops (i::rest)::k)) cs w) (lone (b.atR {tmps:=(a.put o.dst u).tmps,defers:=iZ} (.inRegion ops rest::k)) bC w')/\
   a1 aL v u/\bg aL aD w'/\bN μ H w aL aD w'/\eD aL d' iZ/\gp aL b.kind cs0 aX bC
 |.bu v d' aX aD=>∃aL w' u,Steps P (lone (b.atR a (.inRegion ops (i::rest)::k)) cs w) (lone {b.atR a (.inRegion ops (i::rest)::k) with mode:=.panicking [{v:=u,recovered:=false}]} cs w')/\
   a1 aL v u/\bg aL aD w'/\bN μ H w aL aD w'/\eD aL d' a.defers/\gp aL b.kind cs0 aX cs
 |.fail _=>True
theorem put_defers(a:Act)(dst:Option Tmp)(u:Value):(a.put dst u).defers=a.defers:=by cases dst<;>rfl
theorem tl(a:Act)(dst:Option Tmp)(u:Value):a.put dst u={tmps:=(a.put dst u).tmps,defers:=a.defers}:=by cases dst<;>rfl
theorem MQ(a:Act)(ds:List Deferred)(dst:Option Tmp)(u:Value):({a with defers:=ds}:Act).put dst u={tmps:=(a.put dst u).tmps,defers:=ds}:=by cases dst<;>rfl
theorem Bb{b:Frame}{a:Act}{ops:Array Oper}{o:Oper}{i:Nat}{rest:List Nat}{k:List Item}{cs0 cs:List Frame}(aQ:ops[i]? =some o){d:List bw}{q:az}
  (ak:eD μ d a.defers)(bj:gp μ b.kind cs0 q cs){r:bM}{m:Machine}(ad:Steps P (lone (b.atR a (.inRegion ops (i::rest)::k)) cs w) m)
  (ar:oY P m (b.atR a (.inRegion ops (i::rest)::k)) cs (Ends μ H w r)):yg P μ H w b a ops o i rest k cs0 cs (uW d q r):=by
 obtain⟨e,w',aj,bW⟩:=ar
 cases r with
 |ret v aD=>
  obtain⟨aL,u,rfl,h1,aa,ao⟩:=aj
  refine⟨aL,w',u,a.defers,cs,ad.trans ?_,h1,aa,ao,ak.mono ao.le,bj.mono ao.le⟩
  have:(b.atR a (.inRegion ops (i::rest)::k)).finish u=b.atR {tmps:=(a.put o.dst u).tmps,defers:=a.defers} (.inRegion ops rest::k):=by
   rw[Frame.finish_atR,aQ,<-tl];rfl
  rw[<-this];exact bW
 |bu v aD=>
  obtain⟨aL,u,rfl,h1,aa,ao⟩:=aj
  exact⟨aL,w',u,ad.trans bW,h1,aa,ao,ak.mono ao.le,bj.mono ao.le⟩
 |fail w=>trivial
theorem yh{r:bM}(h:r.kz=false):∃s,r=.fail s:=by
 cases r with
 |fail s=>exact⟨s,rfl⟩
 |_=>cases h
theorem yi{r:bM}(an:r.kz=true):∀w',¬Ends μ H w r .outgrown w':=by
 intro w' h
 cases r with
 |ret v aD=>obtain⟨_,_,e,_⟩:=h;cases e
 |bu v aD=>obtain⟨_,_,e,_⟩:=h;cases e
 |fail s=>cases an
theorem Fl{call:cR->List I->J->bM}(ab:iY P call)(af:bg μ H w)(mA:fR P μ){b:Frame}{a:Act}{ops:Array Oper}{o:Oper}{i:Nat}{rest:List Nat}{k:List Item}{cs0 cs:List Frame}
  (aQ:ops[i]? =some o){gd:Option (I×Bool)}(eb:∀lP,dr gd=some lP->Region.wanted o (yielded ops a.tmps)=lP){g:Operand->I}(an:∀x,a1 μ (g x) (a.eval x)){d:List bw}{q:az}
  (ak:eD μ d a.defers)(bj:gp μ b.kind cs0 q cs){inR:Bool}(dC:inR=b.roundOf.isSome):yg P μ H w b a ops o i rest k cs0 cs (dk P inR call gd o g d q H):=by
 unfold dk
 have hW:∀u,(b.atR a (.inRegion ops (i::rest)::k)).finish u=b.atR {tmps:=(a.put o.dst u).tmps,defers:=a.defers} (.inRegion ops rest::k):=λu=>by
  rw[Frame.finish_atR,aQ,<-tl];rfl
 split
 · trivial
 · rename_i hw
   have vy:=eb _ hw
   refine⟨μ,w,undef,a.defers,cs,?_,⟨[],rfl,rfl⟩,af,bN.refl _ _ _,ak,bj⟩
   have ad:=stepR_op_skip (P:=P) (b:=b) (a:=a) (k:=k) (cs:=cs) (w:=w) (ops:=ops) (i:=i) (rest:=rest) (by simp[aQ,vy])
   rw[aQ] at ad
   have he:a.put ((some o).bind (·.dst)) undef={tmps:=(a.put o.dst undef).tmps,defers:=a.defers}:=tl a o.dst undef
   rw[he] at ad
   exact .one ad
 · rename_i hw
   have rz:=eb _ hw
   have bW:=stepGR_op (P:=P) (b:=b) (a:=a) (k:=k) (cs:=cs) (w:=w) (rest:=rest) aQ rz
   have dW:=Fi (P:=P) af o an
   by_cases Fm:b.roundOf.isSome=true/\∃c,o.op=.defer c
   · obtain⟨aj,c,MR⟩:=Fm
     have:(∃x,b6 P o g H=.mf x)\/∃s,b6 P o g H=.fail s:=by
      unfold b6
      rw[MR]
      simp only
      split
      · split
        · exact .inl ⟨_,rfl⟩
        · exact .inr ⟨_,rfl⟩
      · exact .inr ⟨_,rfl⟩
     rcases this with⟨x,e⟩|⟨s,e⟩
     · rw[e];simp only[dC,aj,if_true];trivial
     · rw[e];trivial
   · have lQ:o.semAt b.roundOf a.eval=execOp a.eval o:=by
       cases gO:b.roundOf with
       |none=>rfl
       |some l=>exact Oper.semAt_eq _ _ _ λc e=>Fm ⟨by rw[gO];rfl,c,e⟩
     rw[lQ] at bW
     obtain⟨g1,g2,g3,g4,g5,g6,g7,g8⟩:=ry bW
     cases dK:b6 P o g H with
     |val v aD=>
      rw[dK] at dW
      obtain⟨aL,w',u,aj,h1,aa,ao⟩:=dW
      refine⟨aL,w',u,a.defers,cs,?_,h1,aa,ao,ak.mono ao.le,bj.mono ao.le⟩
      rw[<-hW]
      rcases aj with aj|⟨rfl,aj⟩
      · exact g1 _ _ aj
      · exact g2 _ aj
     |bu v aD=>
      rw[dK] at dW
      obtain⟨rfl,u,aj,h1⟩:=dW
      exact⟨μ,w,u,g3 _ _ aj,h1,af,bN.refl _ _ _,ak,bj⟩
     |call f args aD=>
      rw[dK] at dW
      obtain⟨rfl,vs,aj,h1⟩:=dW
      simp only
      cases bR:(call (.fn f) args aD).kz with
      |false=>obtain⟨s,ad⟩:=yh bR;rw[ad];trivial
      |true=>
       rcases ab.fn f args aD bR μ w vs af mA h1 with⟨v,w',aT,bb⟩|⟨aT,bb⟩
       · rw[<-aj] at aT
         have ad:=g1 _ _ aT
         cases Fo:call (.fn f) args aD with
         |fail s=>trivial
         |ret v' cy=>
          rw[Fo] at bb
          obtain⟨aL,u,e,aa,ao,aI⟩:=bb
          cases e
          exact⟨aL,w',_,a.defers,cs,by rw[<-hW];exact ad,aa,ao,aI,ak.mono aI.le,bj.mono aI.le⟩
         |bu v' cy=>
          rw[Fo] at bb
          obtain⟨aL,u,e,aa,ao,aI⟩:=bb
          cases e
       · rw[<-aj] at aT
         have ad:=g5 _ _ _ aT
         exact Bb aQ ak bj ad (yf (yi bR) bb _ _)
     |b7 l args aD=>
      rw[dK] at dW
      obtain⟨rfl,cV,vs,ar,aj,h1⟩:=dW
      simp only
      cases bR:(call (.b7 l) args aD).kz with
      |false=>obtain⟨s,ad⟩:=yh bR;rw[ad];trivial
      |true=>
       obtain⟨f,tmps,as,b2,aT,bb⟩:=ab.b7 l args aD bR μ w cV vs af mA ar h1
       rw[<-aj] at aT
       have ad:=g6 _ _ _ _ _ _ aT
       exact Bb aQ ak bj ad (bb _ _)
     |mf x=>
      rw[dK] at dW
      obtain⟨p9,aj,h1⟩:=dW
      simp only
      split
      · trivial
      · refine⟨μ,w,undef,p9::a.defers,cs,?_,⟨[],rfl,rfl⟩,af,bN.refl _ _ _,⟨_,_,rfl,h1,ak⟩,bj⟩
        have ad:=g4 _ _ aj
        rw[aQ] at ad
        have he:({a with defers:=p9::a.defers}:Act).put ((some o).bind (·.dst)) undef={tmps:=(a.put o.dst undef).tmps,defers:=p9::a.defers}:=MQ a _ o.dst undef
        rw[he] at ad
        exact ad
     |qY=>
      rw[dK] at dW
      have aj:(execOp a.eval o).run P w=.ok .recover w:=dW
      simp only
      split
      · trivial
      · rename_i x0
        have vz:b.roundOf=none:=by
         cases gO:b.roundOf with
         |none=>rfl
         |some l=>rw[gO] at dC;exact absurd dC x0
        have hk:(b.atR a (.inRegion ops (i::rest)::k)).kind=b.kind:=rfl
        split
        · obtain⟨rfl,bk⟩:=bj
          refine⟨μ,w,.nilIface,a.defers,cs,?_,rfl,af,bN.refl _ _ _,ak,⟨rfl,bk⟩⟩
          rw[<-hW]
          exact g8 vz _ aj (bk _ hk)
        · have k8:=bj
          obtain⟨lR,c,rs,u,av,au,bm,rfl⟩:=bj
          refine⟨μ,w,.nilIface,a.defers,_,?_,rfl,af,bN.refl _ _ _,ak,k8⟩
          rw[<-hW]
          refine g8 vz _ aj ?_
          have Bc:(b.atR a (.inRegion ops (i::rest)::k)).kind=.deferred:=hk.trans lR
          simp only[tryRecover,Bc]
        · obtain⟨rfl,lR,c,rs,u,av,au,bm⟩:=bj
          subst av
          refine⟨μ,w,u,a.defers,{c with mode:=.panicking [{v:=u,recovered:=true}]}::rs,?_,bm,af,bN.refl _ _ _,ak,⟨lR,c,rs,u,rfl,au,bm,rfl⟩⟩
          rw[<-hW]
          refine g7 vz _ aj _ _ ?_
          have Bc:(b.atR a (.inRegion ops (i::rest)::k)).kind=.deferred:=hk.trans lR
          simp only[tryRecover,Bc,au]
     |fail s=>trivial
end
end aS
