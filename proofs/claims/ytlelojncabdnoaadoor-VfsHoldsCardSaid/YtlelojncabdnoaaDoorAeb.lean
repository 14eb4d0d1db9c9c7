/-
  THE ABSTRACT EVALUATOR (operations): a deterministic semantics of loaded code, and the proof that its runs are runs of the program in the model, whatever the tape draws. No condition.
-/
import Derived.Test.YtlelojncabdnoaaDoorAea
import Derived.ChangeKeysEq
import Derived.Laws.StructEq
import Derived.AtR
set_option linter.unusedVariables false
set_option linter.unusedSimpArgs false
namespace aU
open Go
section
variable {P:Program} {μ:aW} {H:J} {w:World}
theorem w4{b off n:Nat}{cs:List I}(h:loadCells H b off n=some cs):cs.length=n:=by
 unfold loadCells at h
 split at h
 · obtain⟨h1,rfl⟩:=qd _ _ _ h
   simp;omega
 · cases h
theorem w5:∀l:List UInt8,(cI l).length=l.length
 |[]=>rfl
 |_::l=>by simp[cI,w5 l]
theorem Dt{size n:Nat}{x:I}{cs:List I}(h:hz H size x=some (n,cs)):cs.length=n*size:=by
 cases x<;>simp only[hz] at h<;>try cases h
 · split at h<;>cases h
   rw[w5];simp
 · simp
 · rename_i b off len cap
   cases cap with
   |dead=>
    simp only at h
    split at h
    · cases h;simp
    · cases h
   |exact c=>
    simp only at h
    split at h
    · rename_i bq aq;cases h;exact w4 aq
    · cases h
   |aE e1=>
    simp only at h
    split at h
    · rename_i bq aq;cases h;exact w4 aq
    · cases h
theorem Ka(af:a8 μ H w){argTypes:Array TypeId}{ty sT:TypeId}(ay:argTypes[0]? =some sT){s x:I}{lO bf:Value}(ae:aS μ s lO)(U:aS μ x bf){v:I}{ax:J}
  (h:eA P H sT argTypes[1]? s x=some (v,ax)):dW P μ H w (Builtin.append_ argTypes ty #[lO,bf]) v ax:=by
 unfold eA at h
 split at h
 · rename_i e hu eB
   split at h
   · rename_i i z ag aL
     split at h
     · cases h
     · rename_i n cs fs
       obtain⟨aq,us,kg,jN⟩:=wY (P:=P) af U fs
       have c9:=Dt fs
       cases s<;>(try simp only at h)<;>try cases h
       ·
        cases ae
        cases n with
        |zero=>
         cases h
         have:=uh (P:=P) (ty:=ty) ay rfl hu eB ag (base:=none) (sLen:=0) (sCap:=0) aq kg (by omega)
         exact .same af this rfl
        |succ n=>
         have aj:ma H e i.bytes i.size (0+(n+1)) z ([]++cs) 0=some (v,ax):=by simpa using h
         exact zy af ay rfl hu eB ag aL U fs (old:=[]) ⟨[],rfl,rfl⟩ (by simp) c9 (by omega) af (bE.refl _ _ _) aj
       · rename_i b off len cap
         obtain⟨dy,ft,ab⟩:=ae
         cases cap with
         |dead=>cases h
         |exact cap=>
          cases ab
          simp only at h
          split at h
          · rename_i hle
            have hle:=Nat.le_of_ble_eq_true hle
            have ah:=uh (P:=P) (ty:=ty) ay rfl hu eB ag (base:=some ⟨dy.aT,dy.base+off,none⟩) (sLen:=len) (sCap:=cap) aq kg hle
            simp only[add_plain] at ah
            split at h
            · cases h
              have zA:us=[]:=by
               have h1:=c9;have aa:=jN.length
               cases us with
               |nil=>rfl
               |cons a l=>simp at h1 aa;omega
              subst zA
              refine .same af (v':=.slice (some ⟨dy.aT,dy.base+off,none⟩) len cap) ?_ ⟨dy,ft,rfl⟩
              rw[ah];simp[_root_.Go.storeCells]
            · split at h
              · rename_i h1 b0
                cases h
                obtain⟨w',aw,ar,bn⟩:=tV (P:=P) af ft jN b0
                refine⟨μ,w',.slice (some ⟨dy.aT,dy.base+off,none⟩) (len+n) cap,?_,⟨dy,ft,rfl⟩,ar,bn⟩
                rw[ah,Nat.add_assoc,aw];rfl
              · cases h
          · rename_i hle
            have bN:cap<len+n:=by
             rcases Nat.lt_or_ge cap (len+n) with h|h
             · exact h
             · rw[ue h] at hle;cases hle
            split at h
            · rename_i old hold
              obtain⟨os,dp,dD⟩:=oM (P:=P) af.drew ft hold
              exact zy af ay rfl hu eB ag aL U fs (old:=old) ⟨os,by simp only[Builtin.firstCells];exact dp,dD⟩ (w4 hold) c9 bN af (bE.refl _ _ _) h
            · cases h
         |aE e1=>
          obtain⟨cap,rfl,oP,bg⟩:=ab
          simp only at h
          split at h
          · rename_i iZ
            simp only[Bool.and_eq_true,Nat.blt_eq] at iZ
            have Kb:=Nat.eq_of_beq_eq_true iZ.1
            subst Kb
            have oN:=iZ.2
            split at h
            · cases h
              have ah:=uh (P:=P) (ty:=ty) ay rfl hu eB ag (base:=some ⟨dy.aT,dy.base+off,none⟩) (sLen:=len) (sCap:=cap) aq kg (by omega)
              simp only[add_plain] at ah
              have zA:us=[]:=by
               have h1:=c9;have aa:=jN.length
               cases us with
               |nil=>rfl
               |cons a l=>simp at h1 aa;omega
              subst zA
              refine .same af (v':=.slice (some ⟨dy.aT,dy.base+off,none⟩) len cap) ?_ ⟨dy,ft,cap,rfl,oP,bg⟩
              rw[ah];simp[_root_.Go.storeCells]
            · split at h
              · rename_i old el bF dG ad
                have Kc:=af.rel b _ dy ad ft
                obtain⟨c,ed,ee,aK,a_,bO,kO,nS⟩:=Kc
                split at h
                · rename_i oX
                  have oX:=Nat.le_of_ble_eq_true oX
                  split at h
                  · rename_i h1 b0
                    cases h
                    have kh:len+n<=cap:=by
                     have:(len+n)*i.size<=cap*i.size:=by omega
                     exact Nat.le_of_mul_le_mul_right this oN
                    have ah:=uh (P:=P) (ty:=ty) ay rfl hu eB ag (base:=some ⟨dy.aT,dy.base+off,none⟩) (sLen:=len) (sCap:=cap) aq kg kh
                    simp only[add_plain] at ah
                    obtain⟨w',aw,ar,bn⟩:=tV (P:=P) af ft jN b0
                    refine⟨μ,w',.slice (some ⟨dy.aT,dy.base+off,none⟩) (len+n) cap,?_,⟨dy,ft,cap,rfl,kh,bg⟩,ar,bn⟩
                    rw[ah,Nat.add_assoc,aw];rfl
                  · cases h
                · split at h
                  · rename_i o Du hold
                    simp only[Bool.and_eq_true] at Du
                    obtain⟨iI,uk⟩:=Du
                    have iI:=Nat.le_of_ble_eq_true iI
                    have uk:=Nat.eq_of_beq_eq_true uk
                    subst uk
                    have aj:=h
                    unfold ma at h
                    split at h
                    · rename_i Dv
                      simp only[Bool.and_eq_true] at Dv
                      obtain⟨⟨lM,mX⟩,dn⟩:=Dv
                      cases h
                      have ui:=w4 hold
                      by_cases oX:len+n<=cap
                      ·
                       have ah:=uh (P:=P) (ty:=ty) ay rfl hu eB ag (base:=some ⟨dy.aT,dy.base+off,none⟩) (sLen:=len) (sCap:=cap) aq kg oX
                       simp only[add_plain] at ah
                       have hmul:(len+n)*i.size<=cap*i.size:=Nat.mul_le_mul_right _ oX
                       have Ds:(len+n)*i.size=len*i.size+n*i.size:=Nat.add_mul _ _ _
                       have Ju:us.length=n*i.size:=by rw[<-jN.length];exact c9
                       obtain⟨w',c',aw,ar,bn,cR,fD,lH,oO,wT,tW⟩:=Db P dy.aT (dy.base+(off+len*i.size)) us w 0 c el ed ee aK
                        (jN.tQ λa aH=>J1 dn a (List.mem_append_right _ aH)) (by omega) (λj dj hB ⟨f1,f2⟩=>by
                         have:=nS (j-dy.base) (by omega) (by omega) (by omega)
                         omega)
                       have Kd:dy.base+off+(dy.size-off)=c'.size:=by rw[wT,<-bO,<-bg];omega
                       obtain⟨aX,bx⟩:=af.JX (w':=w') (o':=.cells (o++cs) el .aE 0 (dG-off)) ad rfl ft cR bn fD lH oO.1 (dy.base+off) (dy.size-off) (hdr:=Nat.le_of_eq oO.2.symm)
                        ⟨c',ed,ee,ar,λj a aG=>by
                         show∃u,c'[dy.base+off+j]? =some u/\_
                         rw[tW]
                         by_cases kP:j<o.length
                         · rw[List.getElem?_append_left kP] at aG
                           rw[if_neg (by omega)]
                           unfold loadCells at hold
                           rw[ad] at hold
                           simp only at hold
                           rw[lF] at hold
                           obtain⟨t1,rfl⟩:=qd _ _ _ hold
                           rw[List.getElem?_take] at aG
                           split at aG
                           · rw[List.getElem?_drop] at aG
                             obtain⟨u,zB,oU⟩:=a_ (off+j) a aG
                             exact⟨u,by rw[Nat.add_assoc];exact zB,oU.mono (af.mn _)⟩
                           · cases aG
                         · rw[List.getElem?_append_right (by omega)] at aG
                           have Dw:j-o.length<cs.length:=by
                            rcases Nat.lt_or_ge (j-o.length) cs.length with h|h
                            · exact h
                            · rw[List.getElem?_eq_none h] at aG;cases aG
                           have TO:=jN.length
                           rw[if_pos (by omega)]
                           obtain⟨u,zB,oU⟩:=jN.get aG
                           refine⟨u,?_,oU.mono (af.mn _)⟩
                           rw[<-zB]
                           have Ke:dy.base+off+j-(dy.base+(off+len*i.size)+0)=j-o.length:=by rw[ui];omega
                           rw[Ke],Kd,by
                         refine⟨?_,λj dj hB ki=>?_⟩
                         · simp only[List.length_append];have:=c9;omega
                         · have:=nS (off+j) (by simp only at dj;omega) (by simp only at hB;omega) (by simp only at ki;omega)
                           omega⟩
                       refine⟨_,w',.slice (some ⟨dy.aT,dy.base+off,none⟩) (len+n) cap,?_,⟨_,e5 _ _ _,cap,by simp,oX,by simp only;omega⟩,aX,bx⟩
                       rw[ah,Nat.add_assoc,aw];rfl
                      ·
                       obtain⟨bz,bZ⟩:=af.kill ad rfl ft
                       obtain⟨os,dp,dD⟩:=oM (P:=P) af.drew ft hold
                       exact zy (ty:=ty) af ay rfl hu eB ag aL U fs (old:=o) ⟨os,by simp only[Builtin.firstCells];exact dp,dD⟩ ui c9 (by omega) bz bZ aj
                    · cases h
                  · cases h
              · cases h
          · cases h
   · cases h
 · cases h
end
end aU
namespace aU
open Go
section
variable {P:Program} {μ:aW} {H:J} {w:World}
theorem bD.take{μ:aW}{as:List I}{vs:List Value}(h:bD μ as vs)(n:Nat):bD μ (as.take n) (vs.take n):=by
 refine bD.r9 (by simp[h.length]) λj a aG=>?_
 rw[List.getElem?_take] at aG⊢
 split at aG
 · rename_i aq;rw[if_pos aq];exact h.get aG
 · cases aG
theorem Dx(af:a8 μ H w){size n m:Nat}{x:I}{bf:Value}(U:aS μ x bf){cs r:List I}(h:hz H size x=some (n,cs))(hm:m<=n)(ah:takeN (m*size) cs=some r):
  ∃us:List Value,(Builtin.firstCells size m bf).run P w=.ok ⟨us⟩ w/\bD μ r us:=by
 obtain⟨bd,rfl⟩:=qd _ _ _ ah
 have c9:=Dt h
 cases x<;>simp only[hz] at h<;>try cases h
 · split at h<;>cases h
   obtain⟨bs,rfl,rfl⟩:=U
   refine⟨_,?_,(wX μ _).take _⟩
   simp only[Builtin.firstCells,Sem.run_pure]
   congr 1
   apply Array.ext'
   simp[ByteArray.data_extract,List.map_take]
 · cases U
   exact⟨[],rfl,by simp;rfl⟩
 · rename_i b off len cap
   obtain⟨i,ag,ab⟩:=U
   have load:∀bq,loadCells H b off (len*size)=some bq->n=len->cs=bq->∀c,∃us:List Value,(Builtin.firstCells size m (.slice (some ⟨i.aT,i.base+off,none⟩) len c)).run P w=.ok ⟨us⟩ w/\bD μ (cs.take (m*size)) us:=by
    intro bq aq aB fr c
    subst fr;subst aB
    have Kf:loadCells H b off (m*size)=some (cs.take (m*size)):=by
     unfold loadCells at aq⊢
     split at aq
     · rename_i aK a_ bO kO nS ad
       obtain⟨t1,t2⟩:=qd _ _ _ aq
       have hmul:m*size<=n*size:=Nat.mul_le_mul_right _ hm
       have e:∀(k:Nat) (l:List I),k<=l.length->takeN k l=some (l.take k):=by
        intro k
        induction k with
        |zero=>intro l _;simp[takeN]
        |succ k a7=>
         intro l aq
         cases l with
         |nil=>simp at aq
         |cons a l=>simp[takeN,a7 l (by simpa using aq)]
       rw[e _ _ (by omega),t2,List.take_take,Nat.min_eq_left hmul]
     · cases aq
    obtain⟨us,h1,aa⟩:=oM (P:=P) af ag Kf
    exact⟨us,by simp only[Builtin.firstCells];exact h1,aa⟩
   cases cap with
   |dead=>
    simp only at h
    split at h
    · cases h
      obtain⟨_,a,c,rfl⟩:=ab
      have:m=0:=by omega
      subst this
      exact⟨[],by simp[Builtin.firstCells,_root_.Go.loadCells,loadCellsFrom],by simp;rfl⟩
    · cases h
   |exact c=>
    cases ab
    simp only at h
    split at h
    · rename_i bq aq;cases h;exact load _ aq rfl rfl c
    · cases h
   |aE e1=>
    obtain⟨c,rfl,_⟩:=ab
    simp only at h
    split at h
    · rename_i bq aq;cases h;exact load _ aq rfl rfl c
    · cases h
theorem Kg(af:a8 μ H w){argTypes:Array TypeId}{ty wD:TypeId}(ay:argTypes[0]? =some wD){d s:I}{zC lO:Value}(al:aS μ d zC)(ae:aS μ s lO){v:I}{ax:J}
  (h:r2 P H wD d s=some (v,ax)):dW P μ H w (Builtin.copy_ argTypes ty #[zC,lO]) v ax:=by
 unfold r2 at h
 split at h
 · rename_i e hu
   split at h
   · rename_i sz bg
     split at h
     · rename_i n cs fs
       obtain⟨aq,_⟩:=wY (P:=P) af ae fs
       have i_:∀w:World,(_root_.Go.sizeOf e).run P w=.ok sz w:=λw=>run_sizeOf bg
       have Dy:∀bf:Value,bf=lO->(Builtin.firstCells sz 0 lO).run P w=.ok #[] w:=λbf _=>by
        obtain⟨us,h1,aa⟩:=Dx (P:=P) (m:=0) (r:=[]) af ae fs (Nat.zero_le _) (by simp[takeN])
        cases us with
        |nil=>exact h1
        |cons a l=>cases aa
       split at h
       · cases h;cases al
         refine .same af (v':=.int .i64 0) ?_ rfl
         simp[Builtin.copy_,ay,bt hu,aq,i_,Dy lO rfl,goInt]
       · rename_i b off len cap
         simp only at h
         obtain⟨i,ag,ab⟩:=al
         have jn:∃(a:Addr) (c:Nat),zC=.slice (some a) len c/\(cap≠ .dead->a=⟨i.aT,i.base+off,none⟩):=by
          cases cap with
          |exact c=>cases ab;exact⟨_,c,rfl,λ_=>rfl⟩
          |aE e1=>obtain⟨c,rfl,_⟩:=ab;exact⟨_,c,rfl,λ_=>rfl⟩
          |dead=>obtain⟨rfl,a,c,rfl⟩:=ab;exact⟨a,c,rfl,λh=>absurd rfl h⟩
         obtain⟨a,c,rfl,aH⟩:=jn
         split at h
         · rename_i mu
           cases h
           refine .same af (v':=.int .i64 0) ?_ rfl
           simp[Builtin.copy_,ay,bt hu,aq,i_,mu,Dy lO rfl,goInt,_root_.Go.storeCells]
         · rename_i mu
           split at h
           · rename_i bq bd
             split at h
             · rename_i h1 b0
               cases h
               have hl:cap≠ .dead:=by
                intro e;subst e
                obtain⟨aw,_⟩:=ab
                subst aw;simp[Nat.min_def] at mu
               have:=aH hl
               subst this
               obtain⟨us,aK,a_⟩:=Dx (P:=P) af ae fs (Nat.min_le_left _ _) bd
               obtain⟨w',aw,ar,bn⟩:=tV (P:=P) af ag a_ b0
               refine⟨μ,w',.int .i64 (Nat.min n len:Nat),?_,rfl,ar,bn⟩
               simp[Builtin.copy_,ay,bt hu,aq,i_,aK,aw,goInt]
             · cases h
           · cases h
       · cases h
     · cases h
   · cases h
 · cases h
theorem Kh(af:a8 μ H w){argTypes:Array TypeId}{ty t:TypeId}(ay:argTypes[0]? =some t){x:I}{bf:Value}(U:aS μ x bf){v:I}{ax:J}
  (h:wE P H t x=some (v,ax)):dW P μ H w (Builtin.clear_ argTypes ty #[bf]) v ax:=by
 unfold wE at h
 split at h
 · rename_i hu;cases h;cases U
   exact .same af (v':=.tuple #[]) (by simp[Builtin.clear_,ay,bt hu]) ⟨[],rfl,rfl⟩
 · rename_i hu;cases h;cases U
   exact .same af (v':=.tuple #[]) (by simp[Builtin.clear_,ay,bt hu]) ⟨[],rfl,rfl⟩
 · rename_i hu
   split at h
   · rename_i es c aj
     cases h
     obtain⟨i,ag,rfl⟩:=U
     obtain⟨ents,aw,ar⟩:=af.rel _ _ i aj ag
     have bN:i.aT<w.heap.size:=(af.lt _ _ ag).2
     obtain⟨aX,bx⟩:=af.update (w':={w with heap:=w.heap.setIfInBounds i.aT (.map #[] c)}) (o':=.map [] c) aj rfl ag (by simp) (λr ah=>by simp[Array.getElem?_setIfInBounds];intro e;exact absurd e.symm ah) rfl rfl rfl
      ⟨[],by simp[bN],rfl⟩
     refine⟨μ,_,.tuple #[],?_,⟨[],rfl,rfl⟩,aX,bx⟩
     simp[Builtin.clear_,ay,bt hu,getObj,setObj,Sem.run,aw]
   · cases h
 · rename_i e b off n cap hu
   split at h
   · rename_i aB
     cases h
     subst aB
     obtain⟨i,ag,ab⟩:=U
     have:∃a c,bf=.slice (some a) 0 c:=by
      cases cap with
      |exact c=>cases ab;exact⟨_,c,rfl⟩
      |aE e1=>obtain⟨c,rfl,_⟩:=ab;exact⟨_,c,rfl⟩
      |dead=>obtain⟨_,a,c,rfl⟩:=ab;exact⟨a,c,rfl⟩
     obtain⟨a,c,rfl⟩:=this
     exact .same af (v':=.tuple #[]) (by simp[Builtin.clear_,ay,bt hu]) ⟨[],rfl,rfl⟩
   · rename_i aB
     split at h
     · rename_i z aL
       split at h
       · rename_i h1 b0
         cases h
         obtain⟨ep,Ki,rfl,ad⟩:=kb (P:=P) (w:=w) aL
         have lN:=JV n ((iG μ ep).cells ad)
         obtain⟨i,ag,ab⟩:=U
         have:∃c,bf=.slice (some ⟨i.aT,i.base+off,none⟩) n c:=by
          cases cap with
          |exact c=>cases ab;exact⟨c,rfl⟩
          |aE e1=>obtain⟨c,rfl,_⟩:=ab;exact⟨c,rfl⟩
          |dead=>obtain⟨ay,_⟩:=ab;exact absurd ay aB
         obtain⟨c,rfl⟩:=this
         obtain⟨w',aw,ar,bn⟩:=tV (P:=P) af ag lN b0
         refine⟨μ,w',.tuple #[],?_,⟨[],rfl,rfl⟩,ar,bn⟩
         cases n with
         |zero=>exact absurd rfl aB
         |succ n=>simp[Builtin.clear_,ay,bt hu,Ki,aw]
       · cases h
     · cases h
 · cases h
theorem Kj(af:a8 μ H w){argTypes:Array TypeId}{ty t:TypeId}(ay:argTypes[0]? =some t){x:I}{bf:Value}(U:aS μ x bf){v:I}(h:gX P H t x=some v):
  dW P μ H w (Builtin.len_ argTypes ty #[bf]) v H:=by
 unfold gX at h
 split at h
 · rename_i s hu;cases h
   obtain⟨bs,rfl,rfl⟩:=U
   refine .same af (v':=.int .i64 (bs.size:Int)) (by simp[Builtin.len_,ay,bt hu,goInt]) ?_
   have:bs.data.toList.length=bs.size:=Array.length_toList
   rw[this];rfl
 · rename_i n e hu;cases h
   exact .same af (v':=.int .i64 (n:Int)) (by simp[Builtin.len_,ay,bt hu,goInt]) rfl
 · rename_i e b off n cap hu;cases h
   obtain⟨i,ag,ab⟩:=U
   have:∃a c,bf=.slice a n c:=by
    cases cap with
    |exact c=>cases ab;exact⟨_,c,rfl⟩
    |aE e1=>obtain⟨c,rfl,_⟩:=ab;exact⟨_,c,rfl⟩
    |dead=>obtain⟨rfl,a,c,rfl⟩:=ab;exact⟨_,c,rfl⟩
   obtain⟨a,c,rfl⟩:=this
   exact .same af (v':=.int .i64 (n:Int)) (by simp[Builtin.len_,ay,bt hu,goInt]) rfl
 · rename_i hu;cases h;cases U
   exact .same af (v':=.int .i64 0) (by simp[Builtin.len_,ay,bt hu,goInt]) rfl
 · rename_i hu;cases h;cases U
   exact .same af (v':=.int .i64 0) (by simp[Builtin.len_,ay,bt hu,goInt]) rfl
 · rename_i r hu
   split at h
   · rename_i es c aj
     cases h
     obtain⟨i,ag,rfl⟩:=U
     obtain⟨ents,aw,ar⟩:=af.rel _ _ i aj ag
     have hlen:es.length=ents.length:=by
      clear aw aj
      induction es generalizing ents with
      |nil=>cases ar;rfl
      |cons e es a7=>obtain⟨m,ms,rfl,_,aa⟩:=ar;simp[a7 ms aa]
     refine .same af (v':=.int .i64 (ents.length:Int)) ?_ (by rw[hlen];rfl)
     simp[Builtin.len_,ay,bt hu,goInt,getObj,Sem.run,aw]
   · cases h
 · rename_i arr hu
   split at h
   · rename_i n e oU;cases h
     exact .same af (v':=.int .i64 (n:Int)) (by simp[Builtin.len_,ay,bt hu,bt oU,goInt]) rfl
   · cases h
 · cases h
theorem Kk(af:a8 μ H w){argTypes:Array TypeId}{ty t:TypeId}(ay:argTypes[0]? =some t){x:I}{bf:Value}(U:aS μ x bf){v:I}(h:r1 P t x=some v):
  dW P μ H w (Builtin.cap_ argTypes ty #[bf]) v H:=by
 unfold r1 at h
 split at h
 · rename_i n e hu;cases h
   exact .same af (v':=.int .i64 (n:Int)) (by simp[Builtin.cap_,ay,bt hu,goInt]) rfl
 · rename_i e b off n c hu;cases h
   obtain⟨i,ag,ab⟩:=U
   cases ab
   exact .same af (v':=.int .i64 (c:Int)) (by simp[Builtin.cap_,ay,bt hu,goInt]) rfl
 · rename_i hu;cases h;cases U
   exact .same af (v':=.int .i64 0) (by simp[Builtin.cap_,ay,bt hu,goInt]) rfl
 · cases h
theorem zD(f:I->I->Option I)(F:Value->Value->Sem Value)(hf:∀x y z bf e6,f x y=some z->aS μ x bf->aS μ y e6->∃ep,(F bf e6).run P w=.ok ep w/\aS μ z ep):
  ∀(l:List I) (x:I) (bf:Value) (mY:List Value) (z:I),aS μ x bf->bD μ l mY->fA f x l=some z->∃ep,(mY.foldlM F bf).run P w=.ok ep w/\aS μ z ep
 |[],x,bf,mY,z,U,aq,h=>by
  cases aq;simp[fA] at h;subst h
  exact⟨bf,rfl,U⟩
 |y::l,x,bf,mY,z,U,⟨e6,Dz,e,bc,aq⟩,h=>by
  subst e
  simp only[fA] at h
  split at h
  · rename_i u hu
    obtain⟨Kl,aX,bx⟩:=hf x y u bf e6 hu U bc
    obtain⟨ep,s1,s2⟩:=zD f F hf l u Kl Dz z bx aq h
    exact⟨ep,by simp only[List.foldlM_cons,Sem.run_bind,aX,Result.andThen_ok,s1],s2⟩
  · cases h
theorem Km{x y z:I}{bf e6:Value}(h:ji x y=some z)(U:aS μ x bf)(bc:aS μ y e6):∃ep,(Builtin.min2 bf e6).run P w=.ok ep w/\aS μ z ep:=by
 unfold ji at h
 split at h
 · split at h
   · rename_i hk;cases h;subst hk
     cases U;cases bc
     exact⟨_,rfl,by simp[aS,eW]⟩
   · cases h
 · cases h
theorem Kn{x y z:I}{bf e6:Value}(h:jK x y=some z)(U:aS μ x bf)(bc:aS μ y e6):∃ep,(Builtin.max2 bf e6).run P w=.ok ep w/\aS μ z ep:=by
 unfold jK at h
 split at h
 · split at h
   · rename_i hk;cases h;subst hk
     cases U;cases bc
     exact⟨_,rfl,by simp[aS,eW]⟩
   · cases h
 · cases h
end
end aU
namespace aU
open Go
section
variable {P:Program} {μ:aW} {H:J} {w:World}
theorem DA:∀(cs:List I) (bs:List UInt8) (us:List Value),kK cs=some bs->bD μ cs us->us=bs.map λb=>.int .u8 (b.toNat:Int)
 |[],bs,us,h,ah=>by cases ah;simp[kK] at h;subst h;rfl
 |c::cs,bs,us,h,⟨v,vs,e,h1,aa⟩=>by
  subst e
  unfold kK at h
  split at h
  · rename_i heq;cases heq
  · rename_i n l heq
    cases heq
    split at h
    · rename_i r aB ah
      cases h
      cases h1
      rw[DA cs r vs ah aa]
      simp only[Nat.blt_eq] at aB
      have:n %256=n:=Nat.mod_eq_of_lt aB
      simp[UInt8.toNat_ofNat',this]
    · cases h
  · cases h
theorem DB(w:World):∀(bs:List UInt8) (acc:ByteArray),(forIn (bs.map λb=>Value.int .u8 (b.toNat:Int)) acc λc s=>
  (match c with
  |.int .u8 n=>pure (ForInStep.yield (s.push (UInt8.ofNat n.toNat)))
  |_=>do stuck "bytesToString: byte expected";pure (ForInStep.yield s):Sem (ForInStep ByteArray))).run P w=.ok ⟨acc.data++bs.toArray⟩ w
 |[],acc=>by simp
 |b::bs,acc=>by
  simp only[List.map_cons,List.forIn_cons,Sem.run_bind,Sem.run_pure,Result.andThen_ok,DB w bs]
  congr 1
  simp[ByteArray.ext_iff,ByteArray.push]
theorem DC(af:a8 μ H w){b off n:Nat}{cap:cy}(kh:cap≠ .dead){bf:Value}(U:aS μ (.slice b off n cap) bf){cs:List I}(aq:loadCells H b off n=some cs){bs:List UInt8}(ad:kK cs=some bs):
  ∃u,(Conv.bytesToString bf).run P w=.ok u w/\aS μ (.str bs) u:=by
 obtain⟨i,ag,ab⟩:=U
 have:∃c,bf=.slice (some ⟨i.aT,i.base+off,none⟩) n c:=by
  cases cap with
  |exact c=>cases ab;exact⟨c,rfl⟩
  |aE e1=>obtain⟨c,rfl,_⟩:=ab;exact⟨c,rfl⟩
  |dead=>exact absurd rfl kh
 obtain⟨c,rfl⟩:=this
 obtain⟨us,h1,aa⟩:=oM (P:=P) af ag aq
 have kg:=DA cs bs us ad aa
 subst kg
 refine⟨.string ⟨bs.toArray⟩,?_,⟨_,rfl,by simp⟩⟩
 simp only[Conv.bytesToString,Sem.run_bind,h1,Result.andThen_ok]
 have e:=DB (P:=P) w bs ByteArray.empty
 rw[<-List.forIn_toArray] at e
 refine(congrArg (λr=>Result.andThen r _) e).trans ?_
 simp
theorem Ko(af:a8 μ H w){b off n:Nat}{cap:cy}(kh:cap≠ .dead){bf:Value}(U:aS μ (.slice b off n cap) bf){cs:List I}(aq:loadCells H b off n=some cs){bs:List UInt8}(ad:kK cs=some bs):
  dW P μ H w (Conv.bytesToString bf) (.str bs) H:=by
 obtain⟨u,h1,aa⟩:=DC (P:=P) af kh U aq ad
 exact .same af h1 aa
theorem Kp(af:a8 μ H w){e:TypeId}{bs:ByteArray}:
  dW P μ H w (Conv.stringToBytes e bs) (.slice H.n 0 bs.data.toList.length (.aE 1)) (H.push (.cells (cI bs.data.toList) e .aE 0 0)):=by
 have w1:(Question.appendCap bs.size 0 e).forced=false:=rfl
 have bg:bs.data.toList.length=bs.size:=Array.length_toList
 obtain⟨cap,kh,hle⟩:∃cap,(Question.appendCap bs.size 0 e).cut (w.tape w.drawn (Question.appendCap bs.size 0 e))=cap/\bs.size<=cap:=⟨_,rfl,by simp[Question.cut]⟩
 have w6:=af.drew.mn ⟨w.heap.size,0,cap⟩
 let c:Array Value:=(bs.data.map λb=>.int .u8 b.toNat)++Array.replicate (cap-bs.size) (.int .u8 0)
 have fr:c.size=cap:=by
  have:bs.data.size=bs.size:=rfl
  simp only[c,Array.size_append,Array.size_map,Array.size_replicate,this];omega
 have qe:r_ (eJ μ H.n ⟨w.heap.size,0,cap⟩) (cI bs.data.toList) c 0:=λj v aG=>by
  obtain⟨u,hu,ah⟩:=(wX μ bs.data.toList).get aG
  refine⟨u,?_,ah.mono w6⟩
  have nT:j<bs.data.size:=by
   rcases Nat.lt_or_ge j bs.data.size with h|h
   · exact h
   · rw[List.getElem?_eq_none (by simpa using h)] at hu;cases hu
  simp only[c,Nat.zero_add]
  rw[Array.getElem?_append_left (by simpa using nT)]
  simpa using hu
 have Kq:a8 (eJ μ H.n ⟨w.heap.size,0,cap⟩) (H.push (.cells (cI bs.data.toList) e .aE 0 0)) (w.drew.alloc (.cells c e))/\bE μ H w.drew (eJ μ H.n ⟨w.heap.size,0,cap⟩) (H.push (.cells (cI bs.data.toList) e .aE 0 0)) (w.drew.alloc (.cells c e)):=
  af.drew.alloc (.cells (cI bs.data.toList) e .aE 0 0) (.cells c e) cap
  ⟨c,0,0,World.heap_alloc_new _ _,qe,by simp[fr],by
    refine⟨?_,λj _ _ h=>by omega⟩
    rw[w5,bg];exact hle⟩
 obtain⟨aX,bx⟩:=Kq
 let cf:World:=(w.drew.alloc (.cells c e)).freeze ⟨w.heap.size,cap,none⟩ 1
 have zE:cf.heap[w.heap.size]? =some (.cells c e (cap,cap+1)):=by
  simp only[cf,World.freeze,if_neg (show¬(1=0) by omega),Array.getElem?_modify]
  have:(w.drew.alloc (.cells c e)).heap[w.heap.size]? =some (.cells c e (0,0)):=World.heap_alloc_new _ _
  rw[this];simp
 have oW:(H.push (.cells (cI bs.data.toList) e .aE 0 0)).get H.n=some (.cells (cI bs.data.toList) e .aE 0 0):=by rw[J.fO,if_pos rfl]
 have b0:a8 (eJ μ H.n ⟨w.heap.size,0,cap⟩) ((H.push (.cells (cI bs.data.toList) e .aE 0 0)).set H.n (some (.cells (cI bs.data.toList) e .aE 0 0))) cf/\
   bE (eJ μ H.n ⟨w.heap.size,0,cap⟩) (H.push (.cells (cI bs.data.toList) e .aE 0 0)) (w.drew.alloc (.cells c e)) (eJ μ H.n ⟨w.heap.size,0,cap⟩) ((H.push (.cells (cI bs.data.toList) e .aE 0 0)).set H.n (some (.cells (cI bs.data.toList) e .aE 0 0))) cf:=
  aX.update oW rfl (e5 _ _ _) (by simp[cf,World.freeze]) (λr ah=>by
   simp only[cf,World.freeze,if_neg (show¬(1=0) by omega),Array.getElem?_modify]
   rw[if_neg (λe=>ah e.symm)]) (by simp[cf,World.freeze]) (by simp[cf,World.freeze]) (by simp[cf,World.freeze])
   ⟨c,cap,cap+1,zE,qe,by simp[fr],by
     refine⟨by rw[w5,bg];exact hle,λj dj hB ki=>by simp only at dj hB;omega⟩⟩
 refine⟨eJ μ H.n ⟨w.heap.size,0,cap⟩,cf,.slice (some ⟨w.heap.size,0,none⟩) bs.size cap,?_,⟨⟨w.heap.size,0,cap⟩,e5 _ _ _,cap,by simp[bg],by rw[bg];exact hle,by simp⟩,?_,?_⟩
 · simp only[Conv.stringToBytes,Sem.run_bind,run_choose,w1,Bool.false_eq_true,if_false,World.drew_eq,Result.andThen_ok,kh]
   have aw:(_root_.Go.newRow e c).run P w.drew=.ok ⟨w.heap.size,0,none⟩ (w.drew.alloc (.cells c e)):=rfl
   rw[show(_root_.Go.newRow e ((bs.data.map λb=>.int .u8 b.toNat)++Array.replicate (cap-bs.size) (.int .u8 0))).run P w.drew=_ from aw]
   have ar:(w.drew.alloc (.cells c e)).shape? w.heap.size=some (e,cap):=by
    have:(w.drew.alloc (.cells c e)).heap[w.heap.size]? =some (.cells c e (0,0)):=World.heap_alloc_new _ _
    simp only[World.shape?,this,fr]
   simp only[Result.andThen_ok,markStringish,Sem.run_bind,run_shape,ar,run_freeze,Sem.run_pure]
   rfl
 ·
  refine⟨λb o i ad ag=>b0.1.rel b o i ?_ ag,λb c' i j ad ab=>b0.1.inj b c' i j ?_ ?_,b0.1.lt,λb ad=>?_⟩
  · rw[J.cv];split
    · rename_i e;subst e;rw[oW] at ad;exact ad
    · exact ad
  · rw[J.cv];split
    · simp
    · exact ad
  · rw[J.cv];split
    · exact⟨_,rfl,rfl⟩
    · exact ab
  · exact aX.bound b ad
 · refine bE.trans af af.drew bE.drew (bE.trans af.drew aX bx ⟨dm.refl _,b0.2.size,Nat.le_refl _,λ_ _ h=>h,λ_ _ _=>rfl,b0.2.old,λb i h ai=>(by rw[h] at ai;cases ai),λb o i ad ah ag=>⟨ad,(b0.2.ro b o i ad ah ag).2⟩,b0.2.os,b0.2.out,b0.2.tape,b0.2.drawn⟩)
theorem Kr{i:fl}{o o':Nat}:(sameAddr ⟨i.aT,i.base+o,none⟩ ⟨i.aT,i.base+o',none⟩).run P w=.ok (Nat.beq o o') w:=by
 simp only[sameAddr,beq_self_eq_true,if_true,Sem.run_pure]
 congr 1
 rw[Bool.eq_iff_iff]
 simp
theorem Ks{r r' o o' el w7:Nat}{c c':Array Value}(h:w.heap[r]? =some (.cells c el (0,0)))(ai:w.heap[r']? =some (.cells c' w7 (0,0)))(cj:r≠r'):
  (sameAddr ⟨r,o,none⟩ ⟨r',o',none⟩).run P w=.ok false w:=by
 have ad:(r==r')=false:=beq_eq_false_iff_ne.2 cj
 have f1:∀k,w.frozen? ⟨r,k,none⟩=false:=λk=>by simp[World.frozen?,h]
 have f2:∀k,w.frozen? ⟨r',k,none⟩=false:=λk=>by simp[World.frozen?,ai]
 have s1:w.shape? r=some (el,c.size):=by simp[World.shape?,h]
 have s2:w.shape? r'=some (w7,c'.size):=by simp[World.shape?,ai]
 simp[sameAddr,ad,f1,f2,noView,viewAt,s1,s2,mayBeOne,stringish]
theorem zF(w:World)(D:Nat)(E:TypeId->I->I->Option Bool)(dM:∀t x y b bf e6,E t x y=some b->aS μ x bf->aS μ y e6->(Op.equalIn D t bf e6).run P w=.ok b w)
  {xs eG:List I}{mZ qk:List Value}(U:bD μ xs mZ)(bc:bD μ eG qk):∀(aP:List Field) (b:Bool),eqFields P E xs eG aP=some b->(Op.eqFields D ⟨mZ⟩ ⟨qk⟩ aP).run P w=.ok b w
 |[],b,h=>by cases h;rfl
 |f::aP,b,h=>by
  simp only[eqFields] at h
  split at h
  · rename_i aB
    have aB:f.name= "_" :=of_decide_eq_true aB
    have a7:=zF w D E dM U bc aP b h
    simp only[Op.eqFields,aB,ne_eq,not_true_eq_false,if_false]
    exact a7
  · rename_i aB
    have aB:¬(f.name= "_"):=of_decide_eq_false aB
    split at h
    · rename_i a c aH ab
      obtain⟨um,di,dC⟩:=oV (P:=P) (w:=w) U aH
      obtain⟨oY,aK,a_⟩:=oV (P:=P) (w:=w) bc ab
      split at h
      · rename_i he
        have ah:=dM _ _ _ _ um oY he dC a_
        have a7:=zF w D E dM U bc aP b h
        simp only[Op.eqFields,ne_eq,aB,not_false_eq_true,if_true,Sem.run_bind,di,aK,Result.andThen_ok,ah,Bool.not_true,Bool.false_eq_true,if_false]
        exact a7
      · rename_i r ah
        cases b with
        |true=>exact absurd h ah
        |false=>
         have nU:=dM _ _ _ _ um oY h dC a_
         simp only[Op.eqFields,ne_eq,aB,not_false_eq_true,if_true,Sem.run_bind,di,aK,Result.andThen_ok,nU,Bool.not_false,Sem.run_pure]
    · cases h
theorem DD(w:World)(D:Nat){e:TypeId}{sz:Nat}(E:TypeId->I->I->Option Bool)(dM:∀t x y b bf e6,E t x y=some b->aS μ x bf->aS μ y e6->(Op.equalIn D t bf e6).run P w=.ok b w){xs eG:List I}{mZ qk:List Value}(U:bD μ xs mZ)(bc:bD μ eG qk):
  ∀(n i:Nat) (b:Bool),tE P E e sz xs eG n i=some b->(Op.eqItems D e sz ⟨mZ⟩ ⟨qk⟩ (List.range' i n)).run P w=.ok b w
 |0,i,b,h=>by simp only[tE] at h;cases h;simp[Op.eqItems]
 |n+1,i,b,h=>by
  simp only[tE] at h
  rw[List.range'_succ]
  split at h
  · rename_i a c aH ab
    obtain⟨um,di,dC⟩:=oV (P:=P) (w:=w) U aH
    obtain⟨oY,aK,a_⟩:=oV (P:=P) (w:=w) bc ab
    split at h
    · rename_i he
      have ah:=dM _ _ _ _ um oY he dC a_
      have a7:=DD w D E dM U bc n (i+1) b h
      simp only[Op.eqItems,Sem.run_bind,di,aK,Result.andThen_ok,ah,Bool.not_true,Bool.false_eq_true,if_false]
      exact a7
    · rename_i r ah
      cases b with
      |true=>exact absurd h ah
      |false=>
       have nU:=dM _ _ _ _ um oY h dC a_
       simp only[Op.eqItems,Sem.run_bind,di,aK,Result.andThen_ok,nU,Bool.not_false,if_true,Sem.run_pure]
  · cases h
set_option maxHeartbeats 4000000 in
theorem ql(af:a8 μ H w):∀(d:Nat) (t:TypeId) (x y:I) (b:Bool) (bf e6:Value) (D:Nat),d<=D->gG P H d t x y=some b->aS μ x bf->aS μ y e6->(Op.equalIn D t bf e6).run P w=.ok b w
 |0,t,x,y,b,bf,e6,D,_,h,_,_=>by simp[gG] at h
 |d+1,t,x,y,b,bf,e6,0,al,_,_,_=>by omega
 |d+1,t,x,y,b,bf,e6,D+1,al,h,U,bc=>by
  unfold gG at h
  cases hu:P.underlying t with
  |none=>rw[hu] at h;cases h
  |some u=>
   rw[hu] at h
   cases u<;>simp only at h
   case bool=>
    split at h<;>cases h
    cases U;cases bc
    simp[Op.equalIn,bt hu]
   case int mv=>
    split at h
    · split at h
      · rename_i hk;cases h;subst hk;cases U;cases bc
        simp[Op.equalIn,bt hu,dQ]
      · cases h
    · cases h
   case string=>
    split at h<;>cases h
    obtain⟨s1,rfl,rfl⟩:=U
    obtain⟨s2,rfl,rfl⟩:=bc
    rw[hA,<-oR,<-oR,<-beq_toListBytes]
    simp[Op.equalIn,bt hu]
   case pointer e=>
    split at h
    · cases h;cases U;cases bc;simp[Op.equalIn,bt hu]
    · cases h;cases U;obtain⟨i,_,rfl⟩:=bc;simp[Op.equalIn,bt hu]
    · cases h;cases bc;obtain⟨i,_,rfl⟩:=U;simp[Op.equalIn,bt hu]
    · rename_i a i ib j
      split at h
      · rename_i n ae
        obtain⟨se,zG,rfl⟩:=U
        obtain⟨fR,w8,rfl⟩:=bc
        have bg:(_root_.Go.sizeOf e).run P w=.ok (n+1) w:=run_sizeOf ae
        have goal:∀r,(sameAddr ⟨se.aT,se.base+i,none⟩ ⟨fR.aT,fR.base+j,none⟩).run P w=r->(Op.equalIn (D+1) t (.pointer (some ⟨se.aT,se.base+i,none⟩)) (.pointer (some ⟨fR.aT,fR.base+j,none⟩))).run P w=r:=by
         intro r ah
         simp[Op.equalIn,bt hu,bg,ah]
        unfold ze at h
        split at h
        · rename_i kQ
          cases h
          have:=Nat.eq_of_beq_eq_true kQ
          subst this
          rw[zG] at w8;cases w8
          exact goal _ Kr
        · rename_i kQ
          split at h
          · rename_i w9 w_
            cases h
            obtain⟨c1,_,_,bz,_,_,bZ⟩:=af.rel _ _ se w9 zG
            obtain⟨c2,_,_,dx,_,_,l2⟩:=af.rel _ _ fR w_ w8
            obtain⟨_,_,rfl,rfl⟩:=bZ
            obtain⟨_,_,rfl,rfl⟩:=l2
            refine goal _ (Ks bz dx λe=>?_)
            have:=af.inj _ _ se fR (by rw[w9];simp) ⟨_,w_,rfl⟩ zG w8 e
            subst this
            simp at kQ
          · cases h
      · cases h
    · cases h
   case slice e=>
    have jO:∀(b off n:Nat) (c:cy) (v:Value),aS μ (.slice b off n c) v->∃a m k,v=.slice (some a) m k:=by
     rintro b off n c v ⟨i,_,ab⟩
     cases c with
     |exact c=>cases ab;exact⟨_,_,_,rfl⟩
     |aE e1=>obtain⟨c,rfl,_⟩:=ab;exact⟨_,_,_,rfl⟩
     |dead=>obtain⟨_,a,c,rfl⟩:=ab;exact⟨_,_,_,rfl⟩
    split at h
    · cases h;cases U;cases bc;simp[Op.equalIn,bt hu]
    · cases h;cases U;obtain⟨a,m,k,rfl⟩:=jO _ _ _ _ _ bc;simp[Op.equalIn,bt hu]
    · cases h;cases bc;obtain⟨a,m,k,rfl⟩:=jO _ _ _ _ _ U;simp[Op.equalIn,bt hu]
    · cases h
   case map k e=>
    split at h
    · cases h;cases U;cases bc;simp[Op.equalIn,bt hu]
    · cases h;cases U;obtain⟨i,_,rfl⟩:=bc;simp[Op.equalIn,bt hu]
    · cases h;cases bc;obtain⟨i,_,rfl⟩:=U;simp[Op.equalIn,bt hu]
    · cases h
   case func ps rs v=>
    split at h
    · cases h;cases U;cases bc;simp[Op.equalIn,bt hu]
    · cases h;cases U;obtain⟨_,_,rfl,_⟩:=bc;simp[Op.equalIn,bt hu]
    · cases h;cases bc;obtain⟨_,_,rfl,_⟩:=U;simp[Op.equalIn,bt hu]
    · cases h
   case interface ms=>
    split at h
    · cases h;cases U;cases bc;simp[Op.equalIn,bt hu]
    · cases h;cases U;obtain⟨_,rfl,_⟩:=bc;simp[Op.equalIn,bt hu]
    · cases h;cases bc;obtain⟨_,rfl,_⟩:=U;simp[Op.equalIn,bt hu]
    · rename_i a v ib u
      obtain⟨v1,rfl,aX⟩:=U
      obtain⟨fh,rfl,bx⟩:=bc
      split at h
      · rename_i kQ
        cases h
        have:a≠ib:=by intro e;subst e;simp at kQ
        simp[Op.equalIn,bt hu,this]
      · rename_i kQ
        have:=Nat.eq_of_beq_eq_true kQ
        subst this
        split at h
        · rename_i TP w2
          split at h
          · rename_i zH
            have a7:=ql af d a v u b v1 fh D (by omega) h aX bx
            simp[Op.equalIn,bt hu,run_typeInfo w2,zH,a7]
          · cases h
        · cases h
    · cases h
   case struct aP=>
    split at h
    · rename_i xs eG
      split at h
      · cases h
      · rename_i b0
        obtain⟨mZ,rfl,m_⟩:=U
        obtain⟨qk,rfl,zI⟩:=bc
        have key:=zF (P:=P) w D (gG P H d) (λt x y b bf e6 he h1 aa=>ql af d t x y b bf e6 D (by omega) he h1 aa) m_ zI aP.toList b h
        have mw:P.fieldsOf t=aP:=by simp[Program.fieldsOf,hu]
        rw[run_equalIn_struct w D t _ _ (by rw[mw];exact hu) b0,mw]
        exact key
    · cases h
   case array n e=>
    split at h
    · rename_i xs eG
      split at h
      · rename_i sz bg
        obtain⟨mZ,rfl,m_⟩:=U
        obtain⟨qk,rfl,zI⟩:=bc
        have ag:∃i,P.info? e=some i/\i.size=sz:=by
         unfold cG at bg
         split at bg
         · rename_i i ag;cases bg;exact⟨i,ag,rfl⟩
         · cases bg
        obtain⟨i,ag,Kt⟩:=ag
        have Ku:P.cellsOf e=sz:=by unfold Program.cellsOf;rw[ag];exact Kt
        rw[run_equalIn_array w D _ _ hu ag,Ku,List.range_eq_range']
        exact DD w D (gG P H d) (λt x y b bf e6 he h1 aa=>ql af d t x y b bf e6 D (by omega) he h1 aa) m_ zI n 0 b h
      · cases h
    · cases h
   all_goals cases h
theorem DE{u:TypeDesc}{cq:TypeId}(hu:P.underlying cq=some u){k x:I}{kv bf:Value}{b:Bool}(hk:mU P cq k=true)(h:nK k x=some b)(h1:aS μ k kv)(aa:aS μ x bf):Instr.sameNow u kv bf=some b:=by
 unfold mU at hk
 rw[hu] at hk
 cases u<;>simp only at hk<;>try cases hk
 ·
  split at hk<;>try cases hk
  cases x<;>simp only[nK] at h<;>cases h
  cases h1;cases aa;rfl
 ·
  split at hk<;>try cases hk
  cases x<;>simp only[nK] at h<;>try cases h
  split at h
  · rename_i e;cases h;subst e;cases h1;cases aa;simp[Instr.sameNow,dQ]
  · cases h
 · split at hk<;>try cases hk
   cases x<;>simp only[nK] at h<;>cases h
   obtain⟨s1,rfl,rfl⟩:=h1
   obtain⟨s2,rfl,rfl⟩:=aa
   simp only[Instr.sameNow]
   rw[hA,<-oR,<-oR,<-beq_toListBytes]
def xa(μ:aW):Option (Nat×I)->Option (Nat×Value)->Prop
 |none,none=>True
 |some (i,a),some (j,v)=>i=j/\aS μ a v
 |_,_=>False
theorem DF{H:J}{cq:TypeId}{k x:I}(hk:∀cs,k≠ .agg cs):r3 P H cq k x=nK k x:=by
 cases k<;>first|rfl|exact absurd rfl (hk _)
theorem DG{cq:TypeId}{k:I}(hk:∀cs,k≠ .agg cs)(h:mb P cq k=true):mU P cq k=true:=by
 cases k<;>first|exact h|exact absurd rfl (hk _)
theorem DH{H:J}{u:TypeDesc}{cq:TypeId}(hu:P.underlying cq=some u){k:I}{kv:Value}(ae:∀cs,k≠ .agg cs)(hk:mU P cq k=true)(h1:aS μ k kv):∀(es:List df) (ents:List MapEntry) (i:Nat) (r:Option (Nat×I)),ec μ es ents->iE P H cq k es i=some r->
  ∃r',Instr.findNow u kv ents i=some r'/\xa μ r r'
 |[],_,i,r,he,h=>by
  cases he;simp[iE] at h;subst h
  exact⟨none,rfl,trivial⟩
 |e::es,_,i,r,⟨m,ms,aw,ar,bn⟩,h=>by
  subst aw
  simp only[iE,DF ae] at h
  split at h
  · rename_i ae
    cases h
    exact⟨some (i,m.val),by simp[Instr.findNow,DE hu hk ae h1 ar.1],rfl,ar.2.1⟩
  · rename_i bj
    obtain⟨r',aK,a_⟩:=DH hu ae hk h1 es ms (i+1) r bn h
    exact⟨r',by simp[Instr.findNow,DE hu hk bj h1 ar.1,aK],a_⟩
  · cases h
theorem DI(af:a8 μ H w){cq:TypeId}{cs:List I}{kv:Value}(h1:aS μ (.agg cs) kv):∀(es:List df) (ents:List MapEntry) (i:Nat) (r:Option (Nat×I)),ec μ es ents->iE P H cq (.agg cs) es i=some r->
  ∃r',(Instr.findAsking cq kv ents i).run P w=.ok r' w/\xa μ r r'
 |[],_,i,r,he,h=>by
  cases he;simp[iE] at h;subst h
  exact⟨none,rfl,trivial⟩
 |e::es,_,i,r,⟨m,ms,aw,ar,bn⟩,h=>by
  subst aw
  simp only[iE,r3] at h
  split at h
  · rename_i ae
    cases h
    have:=ql (P:=P) af 8 cq _ _ true kv m.key Op.maxDepth (by decide) ae h1 ar.1
    exact⟨some (i,m.val),by simp[Instr.findAsking,Op.equal,this],rfl,ar.2.1⟩
  · rename_i ae
    have:=ql (P:=P) af 8 cq _ _ false kv m.key Op.maxDepth (by decide) ae h1 ar.1
    obtain⟨r',aK,a_⟩:=DI af h1 es ms (i+1) r bn h
    exact⟨r',by simp[Instr.findAsking,Op.equal,this,aK],a_⟩
  · cases h
theorem zJ{H:J}{cq:TypeId}{k:I}:∀(es:List df) (i j:Nat) (v:I),iE P H cq k es i=some (some (j,v))->i<=j/\∃e,es[j-i]? =some e/\e.val=v/\r3 P H cq k e.key=some true
 |[],i,j,v,h=>by simp[iE] at h
 |e::es,i,j,v,h=>by
  simp only[iE] at h
  split at h
  · rename_i ae
    cases h;exact⟨Nat.le_refl _,e,by simp,rfl,ae⟩
  · obtain⟨h1,b_,aa,ao⟩:=zJ es (i+1) j v h
    refine⟨by omega,b_,?_,ao⟩
    have:j-i=(j-(i+1))+1:=by omega
    rw[this];simpa using aa
  · cases h
theorem zK{cq:TypeId}{k:I}{kv:Value}(hk:mU P cq k=true)(b:Bool)(n:Nat):(Instr.checkKey b (n+1) cq kv).run P w=.ok () w:=by
 unfold mU at hk
 cases hu:P.underlying cq with
 |none=>rw[hu] at hk;cases hk
 |some u=>
  rw[hu] at hk
  cases u<;>simp only at hk<;>try cases hk
  all_goals simp[Instr.checkKey,bt hu]
theorem DJ(b:Bool){m n:Nat}(hm:m=n+1){cs:List I}{l:List Value}(aq:bD μ cs l):∀(aP:List Field),wF P cs aP=true->
  (forIn aP PUnit.unit (λf _=>if f.name≠ "_" then(do let x<-part f.type ⟨l⟩ f.offset;Instr.checkKey b m f.type x;pure (ForInStep.yield PUnit.unit)) else pure (ForInStep.yield PUnit.unit)):Sem PUnit).run P w=.ok PUnit.unit w
 |[],h=>by simp
 |f::aP,h=>by
  unfold wF at h
  split at h
  · rename_i a aH
    split at h
    · rename_i hk
      have a7:=DJ b hm aq aP h
      obtain⟨u,di,dC⟩:=oV (P:=P) (w:=w) aq aH
      have ab:=zK (P:=P) (w:=w) (kv:=u) hk b n
      rw[<-hm] at ab
      rw[List.forIn_cons]
      by_cases aB:f.name= "_"
      · simp only[aB,ne_eq,not_true_eq_false,if_false,Sem.run_bind,Sem.run_pure,Result.andThen_ok]
        exact a7
      · simp only[ne_eq,aB,not_false_eq_true,if_true,Sem.run_bind,di,Result.andThen_ok,ab,Sem.run_pure]
        exact a7
    · cases h
  · cases h
theorem DK(b:Bool){m n:Nat}(hm:m=n+1){e:TypeId}{sz:Nat}(bg:cG P e=some sz){cs:List I}{l:List Value}(aq:bD μ cs l):∀(k i:Nat),wG P e sz cs k i=true->
  (forIn (List.range' i k) PUnit.unit (λi _=>do (Instr.checkKey b m e (<-part e ⟨l⟩ (i*(<-_root_.Go.sizeOf e))));pure (ForInStep.yield PUnit.unit)):Sem PUnit).run P w=.ok PUnit.unit w
 |0,i,h=>by simp
 |k+1,i,h=>by
  unfold wG at h
  split at h
  · rename_i a aH
    split at h
    · rename_i hk
      have a7:=DK b hm bg aq k (i+1) h
      obtain⟨u,di,dC⟩:=oV (P:=P) (w:=w) aq aH
      have ab:=zK (P:=P) (w:=w) (kv:=u) hk b n
      rw[<-hm] at ab
      rw[List.range'_succ,List.forIn_cons]
      simp only[Sem.run_bind,run_sizeOf bg,di,Result.andThen_ok,ab,Sem.run_pure]
      exact a7
    · cases h
  · cases h
theorem Kv{cq:TypeId}{cs:List I}{l:List Value}(aq:bD μ cs l)(hk:mb P cq (.agg cs)=true)(b:Bool){m n:Nat}(hm:m=n+1):(Instr.checkKey b (m+1) cq (.agg ⟨l⟩)).run P w=.ok () w:=by
 unfold mb at hk
 simp only at hk
 split at hk
 · rename_i aP hu
   have key:=DJ (P:=P) (w:=w) b hm aq aP.toList hk
   simp only[Instr.checkKey,Sem.run_bind,bt hu,Result.andThen_ok]
   rw[<-Array.forIn_toList]
   first|exact key|exact Eq.trans (congrArg (λq=>Result.andThen q _) key) rfl|simpa using key
 · rename_i Kw e hu
   split at hk
   · rename_i sz bg
     have key:=DK (P:=P) (w:=w) b hm bg aq Kw 0 hk
     simp only[Instr.checkKey,Sem.run_bind,bt hu,Result.andThen_ok]
     simp only[Std.Legacy.Range.forIn_eq_forIn_range',Std.Legacy.Range.size,Nat.sub_zero,Nat.add_one_sub_one,Nat.div_one]
     first|exact key|exact Eq.trans (congrArg (λq=>Result.andThen q _) key) rfl|simpa using key
   · cases hk
 · cases hk
theorem na{cq:TypeId}{k:I}{kv:Value}(hk:mb P cq k=true)(h1:aS μ k kv)(b:Bool):(Instr.checkKey b 10000 cq kv).run P w=.ok () w:=by
 by_cases ae:∀cs,k≠ .agg cs
 · exact zK (DG ae hk) b 9999
 · have:∃cs,k=.agg cs:=by
     cases k<;>first|exact⟨_,rfl⟩|exact absurd (λcs h=>by cases h) ae
   obtain⟨cs,rfl⟩:=this
   obtain⟨l,rfl,aq⟩:=h1
   exact Kv aq hk b (m:=9999) (n:=9998) rfl
theorem oZ(af:a8 μ H w){cq:TypeId}{k:I}{kv:Value}(hk:mb P cq k=true)(h1:aS μ k kv){es:List df}{ents:List MapEntry}{r:Option (Nat×I)}(he:ec μ es ents)(h:iE P H cq k es 0=some r):
  ∃r',(Instr.findKey cq kv ents).run P w=.ok r' w/\xa μ r r':=by
 by_cases ae:∀cs,k≠ .agg cs
 · have eh:=DG ae hk
   cases hu:P.underlying cq with
   |none=>unfold mU at eh;rw[hu] at eh;cases eh
   |some u=>
    obtain⟨r',aK,a_⟩:=DH hu ae eh h1 es ents 0 r he h
    exact⟨r',by simp[Instr.findKey,bt hu,aK],a_⟩
 · have:∃cs,k=.agg cs:=by
     cases k<;>first|exact⟨_,rfl⟩|exact absurd (λcs h=>by cases h) ae
   obtain⟨cs,rfl⟩:=this
   have hu:∃u,P.underlying cq=some u:=by
    unfold mb at hk
    simp only at hk
    split at hk
    · exact⟨_,by assumption⟩
    · exact⟨_,by assumption⟩
    · cases hk
   obtain⟨u,hu⟩:=hu
   obtain⟨r',aK,a_⟩:=DI (P:=P) af h1 es ents 0 r he h
   obtain⟨l,rfl,aq⟩:=h1
   refine⟨r',?_,a_⟩
   have aB:∀(ms:List MapEntry),ms≠[]->Instr.findNow u (.agg ⟨l⟩) ms 0=none:=λms uo=>by
    cases ms with
    |nil=>exact absurd rfl uo
    |cons m ms=>cases u<;>rfl
   cases ents with
   |nil=>
    cases es with
    |nil=>simp only[iE] at h;cases h;cases r' with
     |none=>simp[Instr.findKey,bt hu,Instr.findNow]
     |some y=>exact a_.elim
    |cons e es=>obtain⟨_,_,ab,_⟩:=he;cases ab
   |cons m ms=>
    simp only[Instr.findKey,Sem.run_bind,bt hu,Result.andThen_ok,aB (m::ms) (by simp)]
    exact aK
theorem ec.append:∀{es aP:List df} {ms eP:List MapEntry},ec μ es ms->ec μ aP eP->ec μ (es++aP) (ms++eP)
 |[],_,_,_,h,ai=>by cases h;exact ai
 |_::_,_,_,_,⟨m,ms,e,h1,aa⟩,ai=>by subst e;exact⟨m,ms++_,rfl,h1,ec.append aa ai⟩
theorem ec.get:∀{es:List df} {ms:List MapEntry} (_:ec μ es ms) {j:Nat} {e:df},es[j]? =some e->∃m,ms[j]? =some m/\oI μ e m
 |[],_,_,j,e,h=>by simp at h
 |x::es,_,⟨m,ms,e,h1,aa⟩,0,a,h=>by subst e;simp at h;subst h;exact⟨m,rfl,h1⟩
 |x::es,_,⟨m,ms,e,h1,aa⟩,j+1,a,h=>by subst e;simp at h;simpa using ec.get aa h
theorem ec.set{v key:I}{vv kv:Value}(aI:aS μ v vv)(hk:aS μ key kv):∀(i:Nat) {es:List df} {ms:List MapEntry},ec μ es ms->ec μ (nM v key i es) (ms.modify i λe=>{e with key:=kv,val:=vv})
 |0,[],_,h=>by cases h;rfl
 |_+1,[],_,h=>by cases h;rfl
 |0,e::es,_,⟨m,ms,b_,h1,aa⟩=>by subst b_;exact⟨_,ms,rfl,⟨hk,aI,h1.2.2⟩,aa⟩
 |i+1,e::es,_,⟨m,ms,b_,h1,aa⟩=>by subst b_;exact⟨m,_,rfl,h1,ec.set aI hk i aa⟩
theorem ec.del:∀(i:Nat) {es:List df} {ms:List MapEntry},ec μ es ms->ec μ (tI i es) (ms.eraseIdx i)
 |0,[],_,h=>by cases h;rfl
 |_+1,[],_,h=>by cases h;rfl
 |0,e::es,_,⟨m,ms,b_,h1,aa⟩=>by subst b_;exact aa
 |i+1,e::es,_,⟨m,ms,b_,h1,aa⟩=>by subst b_;exact⟨m,_,rfl,h1,ec.del i aa⟩
theorem uq{r:Nat}{i:fl}{es:List df}{clock:Nat}(af:a8 μ H w)(ag:μ r=some i)(aj:H.get r=some (.map es clock)):∃ents,w.heap[i.aT]? =some (.map ⟨ents⟩ clock)/\ec μ es ents/\(getObj i.aT).run P w=.ok (.map ⟨ents⟩ clock) w:=by
 obtain⟨ents,aw,ar⟩:=af.rel _ _ i aj ag
 exact⟨ents,aw,ar,by simp[getObj,Sem.run,aw]⟩
theorem qm{r:Nat}{i:fl}{es xb:List df}{clock c':Nat}{ents ents':List MapEntry}(af:a8 μ H w)(ag:μ r=some i)(aj:H.get r=some (.map es clock))(he:w.heap[i.aT]? =some (.map ⟨ents⟩ clock))(ah:ec μ xb ents'):
  ∃w',(setObj i.aT (.map ⟨ents'⟩ c')).run P w=.ok () w'/\a8 μ (H.set r (some (.map xb c'))) w'/\bE μ H w μ (H.set r (some (.map xb c'))) w':=by
 have bN:i.aT<w.heap.size:=(af.lt _ _ ag).2
 obtain⟨aX,bx⟩:=af.update (w':={w with heap:=w.heap.setIfInBounds i.aT (.map ⟨ents'⟩ c')}) (o':=.map xb c') aj rfl ag (by simp) (λr ah=>by simp[Array.getElem?_setIfInBounds];intro e;exact absurd e.symm ah) rfl rfl rfl
  ⟨ents',by simp[bN],ah⟩
 exact⟨_,by simp[setObj,Sem.run,he],aX,bx⟩
end
end aU
namespace aU
open Go
section
variable {P:Program} {μ:aW} {H:J} {w:World}
theorem DL{eX:TypeId}{ok:Bool}{r:Option (Nat×I)}{r':Option (Nat×Value)}(ah:xa μ r r'){v:I}(h:p4 P eX ok r=some v):
  ∃u b,aS μ v (if ok then .tuple #[u,.bool b] else u)/\((∃j,r'=some (j,u)/\b=true)\/(r'=none/\(zeroValue eX).run P w=.ok u w/\b=false)):=by
 cases r with
 |none=>
  cases r' with
  |some x=>exact ah.elim
  |none=>
   simp only[p4] at h
   split at h
   · rename_i z aL
     cases h
     obtain⟨ep,aK,rfl,_⟩:=kb (P:=P) (w:=w) aL
     have:=iG μ ep
     refine⟨ep,false,?_,.inr ⟨rfl,aK,rfl⟩⟩
     cases ok
     · exact this
     · exact⟨_,rfl,_,_,rfl,this,_,_,rfl,rfl,rfl⟩
   · cases h
 |some x=>
  cases r' with
  |none=>exact ah.elim
  |some y=>
   obtain⟨i,a⟩:=x
   obtain⟨j,u⟩:=y
   obtain⟨rfl,sf⟩:=ah
   simp only[p4] at h
   cases h
   refine⟨u,true,?_,.inl ⟨_,rfl,rfl⟩⟩
   cases ok
   · exact sf
   · exact⟨_,rfl,_,_,rfl,sf,_,_,rfl,rfl,rfl⟩
theorem Kx(af:a8 μ H w){t:TypeId}{m k:I}{hT kv:Value}(hm:aS μ m hT)(hk:aS μ k kv){ok:Bool}{v:I}(h:gq P H t m k ok=some v):dW P μ H w (Instr.lookup t hT kv ok) v H:=by
 unfold gq at h
 split at h
 · rename_i cq eX hu
   split at h
   · rename_i hC
     split at h
     · cases hm
       obtain⟨u,b,aK,a_⟩:=DL (P:=P) (w:=w) (μ:=μ) (r:=none) (r':=none) trivial h
       refine .same af (v':=if ok then .tuple #[u,.bool b] else u) ?_ aK
       have hf:(Instr.findKey cq kv []).run P w=.ok none w:=by
        obtain⟨r',bl,a2⟩:=oZ (P:=P) (w:=w) (μ:=μ) (es:=[]) (ents:=[]) (r:=none) af hC hk rfl rfl
        cases r' with
        |none=>exact bl
        |some x=>exact a2.elim
       rcases a_ with⟨j,e,_⟩|⟨_,a_,rfl⟩
       · cases e
       · simp[Instr.lookup,bt hu,na hC hk,hf,a_]
     · rename_i r
       split at h
       · rename_i es clock aj
         split at h
         · rename_i ca hf
           obtain⟨i,ag,rfl⟩:=hm
           obtain⟨ents,aw,ar,bn⟩:=uq (P:=P) af ag aj
           obtain⟨r',bl,a2⟩:=oZ (P:=P) (w:=w) af hC hk ar hf
           obtain⟨u,b,aK,a_⟩:=DL (P:=P) (w:=w) (μ:=μ) a2 h
           refine .same af (v':=if ok then .tuple #[u,.bool b] else u) ?_ aK
           rcases a_ with⟨j,rfl,rfl⟩|⟨rfl,a_,rfl⟩
           · simp[Instr.lookup,bt hu,na hC hk,bn,bl]
           · simp[Instr.lookup,bt hu,na hC hk,bn,bl,a_]
         · cases h
       · cases h
     · cases h
   · cases h
 · cases h
theorem DM{k x:I}{kv bf:Value}(n:Nat)(h:nK k x=some true)(h1:aS μ k kv)(aa:aS μ x bf):Instr.sameBits n bf kv=true:=by
 cases k<;>cases x<;>simp only[nK] at h<;>try cases h
 · simp at h;subst h;cases h1;cases aa;simp[Instr.sameBits]
 · split at h
   · rename_i e;subst e
     simp[dQ] at h;subst h;cases h1;cases aa;simp[Instr.sameBits]
   · cases h
 · simp only[Option.some.injEq] at h
   obtain⟨s1,rfl,rfl⟩:=h1
   obtain⟨s2,rfl,rfl⟩:=aa
   rw[hA,<-oR,<-oR,<-beq_toListBytes] at h
   have:(s2==s1)=true:=by rw[beq_toListBytes] at h⊢;rw[beq_iff_eq] at h⊢;exact h.symm
   simpa[Instr.sameBits] using this
theorem DN(n:Nat):∀(a b:List I) (jo my:List Value),tG a b=true->bD μ a jo->bD μ b my->my.length=jo.length/\(my.zip jo).all (λ(x,y)=>Instr.sameBits n x y)=true
 |[],[],jo,my,_,h1,aa=>by cases h1;cases aa;exact⟨rfl,rfl⟩
 |[],_::_,_,_,h,_,_=>by cases h
 |_::_,[],_,_,h,_,_=>by cases h
 |x::a,y::b,_,_,h,⟨u,us,rfl,fh,gg⟩,⟨v,vs,rfl,v1,v2⟩=>by
  unfold tG at h
  split at h
  · rename_i ae
    obtain⟨aw,ar⟩:=DN n a b us vs h gg v2
    refine⟨by simp[aw],?_⟩
    rw[List.zip_cons_cons,List.all_cons,ar,Bool.and_true]
    exact DM n ae fh v1
  · cases h
theorem DO{cq:TypeId}{k x:I}{kv bf:Value}(h:r3 P H cq k x=some true)(b0:nL k x=true)(h1:aS μ k kv)(aa:aS μ x bf):Instr.sameBits 10000 bf kv=true:=by
 by_cases ae:∀cs,k≠ .agg cs
 · rw[DF ae] at h
   exact DM 10000 h h1 aa
 · have:∃cs,k=.agg cs:=by
     cases k<;>first|exact⟨_,rfl⟩|exact absurd (λcs h=>by cases h) ae
   obtain⟨a,rfl⟩:=this
   have:∃b,x=.agg b:=by
    cases x<;>first|exact⟨_,rfl⟩|cases b0
   obtain⟨b,rfl⟩:=this
   obtain⟨jo,rfl,gg⟩:=h1
   obtain⟨my,rfl,v2⟩:=aa
   have zL:tG a b=true:=b0
   obtain⟨aw,ar⟩:=DN (μ:=μ) 9999 a b jo my zL gg v2
   show Instr.sameBits (9999+1) (.agg ⟨my⟩) (.agg ⟨jo⟩)=true
   generalize 9999=n at ar⊢
   simp only[Instr.sameBits]
   rw[ar,Bool.and_true]
   simp[aw]
theorem zM(l:List MapEntry)(i:Nat)(f:MapEntry->MapEntry):(⟨l⟩:Array MapEntry).modify i f=⟨l.modify i f⟩:=by
 apply Array.ext'
 simp
theorem DP(af:a8 μ H w){t:TypeId}{m k x:I}{hT kv bf:Value}(hm:aS μ m hT)(hk:aS μ k kv)(U:aS μ x bf){ax:J}(h:jj P H t m k x=some ax):
  ∃w',(Instr.mapUpdate t hT kv bf).run P w=.ok () w'/\a8 μ ax w'/\bE μ H w μ ax w':=by
 unfold jj at h
 split at h
 · rename_i cq eX hu
   split at h
   · rename_i hC
     split at h
     · rename_i r
       split at h
       · rename_i es clock aj
         obtain⟨i,ag,rfl⟩:=hm
         obtain⟨ents,aw,ar,bn⟩:=uq (P:=P) af ag aj
         split at h
         · rename_i j a hf
           have qn:nL k (p3 j es)=true:=by
            cases ab:nL k (p3 j es) with
            |true=>rfl
            |false=>rw[ab] at h;cases h
           rw[qn] at h
           cases h
           obtain⟨r',bl,a2⟩:=oZ (P:=P) (w:=w) af hC hk ar hf
           cases r' with
           |none=>exact a2.elim
           |some y=>
            obtain⟨hi,u⟩:=y
            obtain⟨rfl,sf⟩:=a2
            obtain⟨_,lP,aK,a_,bO⟩:=zJ es 0 j a hf
            obtain⟨kj,di,dC⟩:=ar.get (by simpa using aK)
            have qn:nL k lP.key=true:=by
             have:p3 j es=lP.key:=by unfold p3;rw[lE,show es[j]? =some lP by simpa using aK]
             rw[<-this];exact qn
            have b0:(Instr.keyThatStays (((ents[j]?).map (·.key)).getD kv) kv).run P w=.ok kv w:=by
             simp only[Instr.keyThatStays,di,Option.map_some,Option.getD_some,DO bO qn hk dC.1,if_true,Sem.run_pure]
            obtain⟨w',b5,z2,z3⟩:=qm (P:=P) (c':=clock) af ag aj aw (ar.set U hk j)
            refine⟨w',?_,z2,z3⟩
            simp only[Instr.mapUpdate,Sem.run_bind,bt hu,Result.andThen_ok,bn,na hC hk,bl,List.getElem?_toArray,b0,zM,b5]
         · rename_i hf
           cases h
           obtain⟨r',bl,a2⟩:=oZ (P:=P) (w:=w) af hC hk ar hf
           cases r' with
           |some y=>exact a2.elim
           |none=>
            obtain⟨w',b5,z2,z3⟩:=qm (P:=P) (c':=clock+1) (ents':=ents++[⟨kv,bf,clock⟩]) af ag aj aw (ar.append (show ec μ [⟨k,x,clock⟩] [⟨kv,bf,clock⟩] from⟨_,_,rfl,⟨hk,U,rfl⟩,rfl⟩))
            refine⟨w',?_,z2,z3⟩
            simp only[Instr.mapUpdate,Sem.run_bind,bt hu,Result.andThen_ok,bn,na hC hk,bl,List.push_toArray,b5]
         · cases h
       · cases h
     · cases h
   · cases h
 · cases h
theorem Ky(af:a8 μ H w){t:TypeId}{m k:I}{hT kv:Value}(hm:aS μ m hT)(hk:aS μ k kv){v:I}{ax:J}(h:wH P H t m k=some (v,ax)):dW P μ H w (Instr.mapEntry t hT kv) v ax:=by
 unfold wH at h
 split at h
 · rename_i cq eX hu
   split at h
   · rename_i hC
     split at h
     · rename_i r
       split at h
       · rename_i es clock aj
         obtain⟨i,ag,rfl⟩:=hm
         obtain⟨ents,aw,ar,bn⟩:=uq (P:=P) af ag aj
         split at h
         · rename_i j a hf
           split at h
           · rename_i lP ur
             have qn:nL k lP.key=true:=by
              cases ab:nL k lP.key with
              |true=>rfl
              |false=>rw[ab] at h;cases h
             rw[qn] at h
             cases h
             rw[lE] at ur
             obtain⟨r',bl,a2⟩:=oZ (P:=P) (w:=w) af hC hk ar hf
             cases r' with
             |none=>exact a2.elim
             |some y=>
              obtain⟨hi,u⟩:=y
              obtain⟨rfl,sf⟩:=a2
              obtain⟨_,DQ,aK,a_,bO⟩:=zJ es 0 j a hf
              have:DQ=lP:=by
               have DR:es[j]? =some DQ:=by simpa using aK
               rw[ur] at DR;cases DR;rfl
              subst this
              obtain⟨kj,di,dC⟩:=ar.get ur
              have b0:(Instr.keyThatStays (((ents[j]?).map (·.key)).getD kv) kv).run P w=.ok kv w:=by
               simp only[Instr.keyThatStays,di,Option.map_some,Option.getD_some,DO bO qn hk dC.1,if_true,Sem.run_pure]
              have qo:ec μ (nM a k j es) (ents.modify j λe=>{e with key:=kv}):=by
               have ae:=ar.set (v:=a) (vv:=kj.val) (key:=k) (kv:=kv) (by rw[<-a_];exact dC.2.1) hk j
               have:(ents.modify j λe=>{e with key:=kv,val:=kj.val})=(ents.modify j λe=>{e with key:=kv}):=by
                apply List.ext_getElem?
                intro q
                rw[List.getElem?_modify,List.getElem?_modify]
                by_cases bj:j=q
                · subst bj;rw[di];simp
                · simp[bj]
               rw[<-this];exact ae
              obtain⟨w',b5,z2,z3⟩:=qm (P:=P) (c':=clock) af ag aj aw qo
              refine⟨μ,w',.tuple #[u,.int .i64 (kj.born:Int)],?_,⟨_,rfl,_,_,rfl,sf,_,_,rfl,by rw[dC.2.2];rfl,rfl⟩,z2,z3⟩
              rw[di,Option.map_some,Option.getD_some] at b0
              simp only[Instr.mapEntry,Sem.run_bind,bt hu,Result.andThen_ok,bn,na hC hk,bl,List.getElem?_toArray,di,Option.map_some,Option.getD_some,b0,zM,b5,goInt,Sem.run_pure]
           · cases h
         · rename_i hf
           split at h
           · rename_i z aL
             cases h
             obtain⟨ep,uu,rfl,_⟩:=kb (P:=P) (w:=w) aL
             obtain⟨r',bl,a2⟩:=oZ (P:=P) (w:=w) af hC hk ar hf
             cases r' with
             |some y=>exact a2.elim
             |none=>
              obtain⟨w',b5,z2,z3⟩:=qm (P:=P) (c':=clock+1) (ents':=ents++[⟨kv,ep,clock⟩]) af ag aj aw (ar.append (show ec μ [⟨k,l9 ep,clock⟩] [⟨kv,ep,clock⟩] from⟨_,_,rfl,⟨hk,iG μ ep,rfl⟩,rfl⟩))
              refine⟨μ,w',.tuple #[ep,.int .i64 (clock:Int)],?_,⟨_,rfl,_,_,rfl,iG μ ep,_,_,rfl,rfl,rfl⟩,z2,z3⟩
              simp only[Instr.mapEntry,Sem.run_bind,bt hu,Result.andThen_ok,bn,na hC hk,bl,uu,List.push_toArray,b5,goInt,Sem.run_pure]
           · cases h
         · cases h
       · cases h
     · cases h
   · cases h
 · cases h
theorem DS{born:Int}:∀(es:List df) (ents:List MapEntry) (i j:Nat) (e:df),ec μ es ents->tH born es i=some (j,e)->i<=j/\es[j-i]? =some e/\ents.findIdx? (λm=>(m.born:Int)==born)=some (j-i)
 |[],_,i,j,e,_,h=>by simp[tH] at h
 |x::es,_,i,j,e,⟨m,ms,aw,ar,bn⟩,h=>by
  subst aw
  simp only[tH] at h
  have ad:dQ (Int.ofNat x.born) born=((m.born:Int)==born):=by rw[ar.2.2];rfl
  split at h
  · rename_i ae
    cases h
    rw[ad] at ae
    exact⟨Nat.le_refl _,by simp,by simp[List.findIdx?_cons,ae]⟩
  · rename_i ae
    rw[ad] at ae
    obtain⟨aK,a_,bO⟩:=DS es ms (i+1) j e bn h
    have:j-i=(j-(i+1))+1:=by omega
    refine⟨by omega,by rw[this];simpa using a_,?_⟩
    rw[this]
    simp[List.findIdx?_cons,ae,bO]
theorem Kz(af:a8 μ H w){t:TypeId}{m s x:I}{hT lO bf:Value}(hm:aS μ m hT)(ae:aS μ s lO)(U:aS μ x bf){ax:J}(h:wI H m s x=some ax):
  ∃w',(Instr.entryStore t hT lO bf).run P w=.ok () w'/\a8 μ ax w'/\bE μ H w μ ax w':=by
 unfold wI at h
 split at h
 · rename_i r cz born
   split at h
   · rename_i es clock aj
     split at h
     · rename_i j lP ad
       cases h
       cases ae
       obtain⟨i,ag,rfl⟩:=hm
       obtain⟨ents,aw,ar,bn⟩:=uq (P:=P) af ag aj
       obtain⟨_,aK,a_⟩:=DS es ents 0 j lP ar ad
       obtain⟨kj,di,dC⟩:=ar.get (by simpa using aK)
       have qo:ec μ (nM x lP.key j es) (ents.modify j λe=>{e with val:=bf}):=by
        have ae:=ar.set (v:=x) (vv:=bf) (key:=lP.key) (kv:=kj.key) U dC.1 j
        have:(ents.modify j λe=>{e with key:=kj.key,val:=bf})=(ents.modify j λe=>{e with val:=bf}):=by
         apply List.ext_getElem?
         intro q
         rw[List.getElem?_modify,List.getElem?_modify]
         by_cases bj:j=q
         · subst bj;rw[di];simp
         · simp[bj]
        rw[<-this];exact ae
       obtain⟨w',b5,z2,z3⟩:=qm (P:=P) (c':=clock) af ag aj aw qo
       refine⟨w',?_,z2,z3⟩
       have KA:(⟨ents⟩:Array MapEntry).findIdx? (λe=>(e.born:Int)==born)=some j:=by
        have:=a_
        simp only[Nat.sub_zero] at this
        rw[<-this];simp
       simp only[Instr.entryStore,Sem.run_bind,Result.andThen_ok,bn,asInt,asIntOf,Sem.run_pure,KA,zM,b5]
     · cases h
   · cases h
 · cases h
theorem zN(af:a8 μ H w){argTypes:Array TypeId}{ty t:TypeId}(ay:argTypes[0]? =some t){m k:I}{hT kv:Value}(hm:aS μ m hT)(hk:aS μ k kv){v:I}{ax:J}(h:p5 P H t m k=some (v,ax)):
  dW P μ H w (Builtin.delete_ argTypes ty #[hT,kv]) v ax:=by
 unfold p5 at h
 split at h
 · rename_i cq eX hu
   split at h
   · rename_i hC
     split at h
     · cases h;cases hm
       refine .same af (v':=.tuple #[]) ?_ ⟨[],rfl,rfl⟩
       simp[Builtin.delete_,ay,bt hu,na hC hk]
     · rename_i r
       split at h
       · rename_i es clock aj
         obtain⟨i,ag,rfl⟩:=hm
         obtain⟨ents,aw,ar,bn⟩:=uq (P:=P) af ag aj
         split at h
         · rename_i j a hf
           cases h
           obtain⟨r',bl,a2⟩:=oZ (P:=P) (w:=w) af hC hk ar hf
           cases r' with
           |none=>exact a2.elim
           |some y=>
            obtain⟨hi,u⟩:=y
            obtain⟨rfl,sf⟩:=a2
            obtain⟨w',b5,z2,z3⟩:=qm (P:=P) (c':=clock) af ag aj aw (ar.del j)
            refine⟨μ,w',.tuple #[],?_,⟨[],rfl,rfl⟩,z2,z3⟩
            have he:(⟨ents⟩:Array MapEntry).eraseIdxIfInBounds j=⟨ents.eraseIdx j⟩:=by
             apply Array.ext'
             simp
            simp[Builtin.delete_,ay,bt hu,na hC hk,bn,bl,he,b5]
         · rename_i hf
           cases h
           obtain⟨r',bl,a2⟩:=oZ (P:=P) (w:=w) af hC hk ar hf
           cases r' with
           |some y=>exact a2.elim
           |none=>
            obtain⟨w',b5,z2,z3⟩:=qm (P:=P) (c':=clock) af ag aj aw ar
            refine⟨μ,w',.tuple #[],?_,⟨[],rfl,rfl⟩,z2,z3⟩
            simp[Builtin.delete_,ay,bt hu,na hC hk,bn,bl,b5]
         · cases h
       · cases h
     · cases h
   · cases h
 · cases h
theorem KB(af:a8 μ H w){t:TypeId}:dW P μ H w (Instr.makeMap t none) (.map H.n) (H.push (.map [] 0)):=by
 obtain⟨aX,bx⟩:=af.alloc (.map [] 0) (.map #[] 0) 0 ⟨[],World.heap_alloc_new _ _,rfl⟩
 exact⟨_,_,.map (some w.heap.size),rfl,⟨_,e5 _ _ _,rfl⟩,aX,bx⟩
theorem KC(af:a8 μ H w){t cq eX:TypeId}{k:IntKind}{n:Int}(hu:P.underlying t=some (.map cq eX)):dW P μ H w (Instr.makeMap t (some (.int k n))) (.map H.n) (H.push (.map [] 0)):=by
 obtain⟨aX,bx⟩:=af.alloc (.map [] 0) (.map #[] 0) 0 ⟨[],World.heap_alloc_new _ _,rfl⟩
 refine⟨_,_,.map (some w.heap.size),?_,⟨_,e5 _ _ _,rfl⟩,aX,bx⟩
 simp only[Instr.makeMap,Sem.run_bind,bt hu,Result.andThen_ok,asInt,asIntOf,Sem.run_pure,run_newObj]
 rfl
theorem KD(af:a8 μ H w){t:TypeId}(hu:P.underlying t=some .string){s:List UInt8}{bf:Value}(U:aS μ (.str s) bf):dW P μ H w (Instr.range t bf) (.ptr H.n 0) (H.push (.nI s 0)):=by
 obtain⟨bs,rfl,rfl⟩:=U
 obtain⟨aX,bx⟩:=af.alloc (.nI bs.data.toList 0) (.stringIter bs 0) 0 ⟨rfl,bs,World.heap_alloc_new _ _,rfl⟩
 refine⟨_,_,.pointer (some ⟨w.heap.size,0,none⟩),?_,⟨_,e5 _ _ _,rfl⟩,aX,bx⟩
 simp only[Instr.range,Sem.run_bind,bt hu,Result.andThen_ok,Sem.run_pure,run_newObj]
 rfl
theorem KE(af:a8 μ H w){t cq eX:TypeId}(hu:P.underlying t=some (.map cq eX)){bf:Value}(U:aS μ .gw bf):dW P μ H w (Instr.range t bf) (.ptr H.n 0) (H.push (.mapIter none 0 [] 0)):=by
 cases U
 obtain⟨aX,bx⟩:=af.alloc (.mapIter none 0 [] 0) (.mapIter none 0 #[] 0) 0 ⟨rfl,World.heap_alloc_new _ _⟩
 refine⟨_,_,.pointer (some ⟨w.heap.size,0,none⟩),?_,⟨_,e5 _ _ _,rfl⟩,aX,bx⟩
 simp only[Instr.range,Sem.run_bind,bt hu,Result.andThen_ok,Sem.run_pure,run_newObj]
 rfl
def KF(at':Nat->Nat)(lt:Nat->Bool):Nat×Nat:=
 let cont (k:Nat):Bool:=lt k&&at' k/64==2
 let bW:=at' 0
 if bW<0x80 then(bW,1)
 else if bW/32==6&&cont 1 then
  let c:=(bW %32)*64+at' 1 %64
  if c>=0x80 then(c,2) else(Utf8.runeError,1)
 else if bW/16==14&&cont 1&&cont 2 then
  let c:=(bW %16)*4096+(at' 1 %64)*64+at' 2 %64
  if c>=0x800&&Utf8.valid c then(c,3) else(Utf8.runeError,1)
 else if bW/8==30&&cont 1&&cont 2&&cont 3 then
  let c:=(bW %8)*262144+(at' 1 %64)*4096+(at' 2 %64)*64+at' 3 %64
  if c>=0x10000&&Utf8.valid c then(c,4) else(Utf8.runeError,1)
 else(Utf8.runeError,1)
theorem DT(s:ByteArray)(i:Nat):Utf8.decode s i=KF (λk=>(s.get! (i+k)).toNat) (λk=>decide (i+k<s.size)):=rfl
theorem KG(full:ByteArray)(pos:Nat)(aZ:pos<=full.size):Utf8.decode full pos=Utf8.decode ⟨(full.data.toList.drop pos).toArray⟩ 0:=by
 have mw:full.data.toList.length=full.size:=Array.length_toList
 have bg:(⟨(full.data.toList.drop pos).toArray⟩:ByteArray).size=full.size-pos:=by
  show((full.data.toList.drop pos).toArray).size=_
  rw[List.size_toArray,List.length_drop,mw]
 have eL:∀k,full.get! (pos+k)=(⟨(full.data.toList.drop pos).toArray⟩:ByteArray).get! (0+k):=λk=>by
  show full.data[pos+k]! =((full.data.toList.drop pos).toArray)[0+k]!
  rw[Nat.zero_add]
  rw[getElem!_def,getElem!_def]
  have:((full.data.toList.drop pos).toArray)[k]? =full.data[pos+k]? :=by
   rw[List.getElem?_toArray,List.getElem?_drop,Array.getElem?_toList]
  rw[this]
 rw[DT,DT]
 have aH:(λk=>(full.get! (pos+k)).toNat)=(λk=>((⟨(full.data.toList.drop pos).toArray⟩:ByteArray).get! (0+k)).toNat):=by
  funext k;rw[eL k]
 have ad:(λk=>decide (pos+k<full.size))=(λk=>decide (0+k<(⟨(full.data.toList.drop pos).toArray⟩:ByteArray).size)):=by
  funext k
  exact decide_eq_decide.2 (by rw[bg];omega)
 rw[aH,ad]
theorem KH(af:a8 μ H w){t:TypeId}{it:I}{nV:Value}(ag:aS μ it nV){b:Bool}{v:I}{ax:J}(h:wJ H it b=some (v,ax)):dW P μ H w (Instr.next nV b t) v ax:=by
 unfold wJ at h
 split at h
 · rename_i r
   obtain⟨i,ft,rfl⟩:=ag
   split at h
   · rename_i s pos aj
     obtain⟨dg,full,aw,ar⟩:=af.rel _ _ i aj ft
     obtain⟨fR,i0,uv⟩:=i
     simp only at dg;subst dg
     have eL:(getObj fR).run P w=.ok (.stringIter full pos) w:=by simp[getObj,Sem.run,aw]
     have mw:full.data.toList.length=full.size:=Array.length_toList
     have o0:=congrArg List.length ar
     rw[List.length_drop,mw] at o0
     split at h
     · cases h
       have aB:¬pos<full.size:=by simp at o0;omega
       exact .same af (v':=.tuple #[.bool false]) (by simp[Instr.next,eL,aB]) ⟨_,rfl,_,_,rfl,rfl,rfl⟩
     · rename_i cj
       have bN:pos<full.size:=by
        rcases Nat.lt_or_ge pos full.size with h|h
        · exact h
        · exfalso;apply cj
          exact List.length_eq_zero_iff.1 (by omega)
       have DU:Utf8.decode full pos=zf s:=by rw[KG full pos (by omega),ar];rfl
       generalize zf s=KI at DU h
       obtain⟨c,wd⟩:=KI
       cases h
       have zO:fR<w.heap.size:=(af.lt _ _ ft).2
       obtain⟨aX,bx⟩:=af.update (w':={w with heap:=w.heap.setIfInBounds fR (.stringIter full (pos+wd))}) (o':=.nI (hc wd s) (pos+wd)) aj rfl ft (by simp) (λr ah=>by simp[Array.getElem?_setIfInBounds];intro e;exact absurd e.symm ah) rfl rfl rfl
        ⟨rfl,full,by simp[zO],by rw[lF,<-ar,List.drop_drop]⟩
       refine⟨μ,_,.tuple #[.bool true,.int .i64 (pos:Int),.int .i32 (c:Int)],?_,⟨_,rfl,_,_,rfl,rfl,_,_,rfl,rfl,_,_,rfl,rfl,rfl⟩,aX,bx⟩
       have nW:(setObj fR (.stringIter full (pos+wd))).run P w=.ok () {w with heap:=w.heap.setIfInBounds fR (.stringIter full (pos+wd))}:=by simp[setObj,Sem.run,aw]
       simp[Instr.next,eL,bN,DU,nW,goInt]
   · rename_i since seen last aj
     cases h
     obtain⟨dg,aw⟩:=af.rel _ _ i aj ft
     obtain⟨fR,i0,uv⟩:=i
     simp only at dg;subst dg
     have o1:w.heap[fR]? =some (.mapIter none since ⟨seen⟩ last):=aw
     have eL:(getObj fR).run P w=.ok (.mapIter none since ⟨seen⟩ last) w:=by simp[getObj,Sem.run,o1]
     exact .same af (v':=.tuple #[.bool false]) (by simp[Instr.next,eL]) ⟨_,rfl,_,_,rfl,rfl,rfl⟩
   · cases h
 · cases h
theorem DV:∀(es:List df) (ms:List MapEntry) (b:Nat) (e:df),ec μ es ms->p6 b es=some e->∃m,ms.find? (λx=>x.born==b)=some m/\oI μ e m
 |[],ms,b,e,ah,h=>by simp[p6] at h
 |x::es,ms,b,e,ah,h=>by
  obtain⟨m,xc,rfl,h1,aa⟩:=ah
  unfold p6 at h
  rw[List.find?_cons,<-h1.2.2]
  cases ad:Nat.beq x.born b with
  |true=>
   rw[ad] at h
   cases h
   have:x.born=b:=Nat.eq_of_beq_eq_true ad
   rw[this]
   simp only[beq_self_eq_true]
   exact⟨m,rfl,h1⟩
  |false=>
   rw[ad] at h
   have:(x.born==b)=false:=by
    cases ab:x.born==b with
    |false=>rfl
    |true=>rw[beq_iff_eq.1 ab] at ad;rw[Nat.beq_refl] at ad;cases ad
   rw[this]
   exact DV es xc b e aa h
theorem zP:∀(l:List Nat),tJ l=l.getLast?
 |[]=>rfl
 |[b]=>rfl
 |a::b::l=>by
  show tJ (b::l)=_
  rw[zP (b::l),List.getLast?_cons_cons]
theorem KJ(af:a8 μ H w){it:I}{nV:Value}(ag:aS μ it nV){v:I}(h:p7 H it=some v):dW P μ H w (Instr.entry nV) v H:=by
 unfold p7 at h
 split at h
 · rename_i r
   obtain⟨i,ft,rfl⟩:=ag
   split at h
   · rename_i m since seen last aj
     obtain⟨dg,j,aG,aw⟩:=af.rel _ _ i aj ft
     obtain⟨fR,i0,uv⟩:=i
     simp only at dg;subst dg
     have o1:w.heap[fR]? =some (.mapIter (some j.aT) since ⟨seen⟩ last):=aw
     split at h
     · rename_i es clock b uw zQ
       obtain⟨ents,f1,f2⟩:=af.rel _ _ j uw aG
       split at h
       · rename_i c9
         have c9:clock=last:=Nat.eq_of_beq_eq_true c9
         split at h
         · rename_i e ic
           cases h
           obtain⟨zR,g1,g2⟩:=DV es ents b e f2 ic
           have eL:(getObj fR).run P w=.ok (.mapIter (some j.aT) since ⟨seen⟩ last) w:=by simp[getObj,Sem.run,o1]
           have xd:(getObj j.aT).run P w=.ok (.map ⟨ents⟩ clock) w:=by simp[getObj,Sem.run,f1]
           have KK:(⟨seen⟩:Array Nat).back?=some b:=by
            rw[<-zQ,zP];simp
           have ux:(⟨ents⟩:Array MapEntry).find? (λx=>x.born==b)=some zR:=by rw[<-g1];simp
           refine .same af (v':=.tuple #[zR.key,zR.val]) ?_ ⟨_,rfl,_,_,rfl,g2.1,_,_,rfl,g2.2.1,rfl⟩
           have cj:(clock !=last)=false:=by simp[c9]
           simp only[Instr.entry,Sem.run_bind,eL,Result.andThen_ok,KK,xd,cj,Bool.false_eq_true,if_false,ux]
           rfl
         · cases h
       · cases h
     · cases h
   · cases h
 · cases h
end
end aU
namespace aU
open Go
section
variable {P:Program} {μ:aW} {H:J} {w:World}
theorem KL(k:IntKind)(x y:Int){v:I}(h:arith .xor k x y=some v):∃u,(Op.intBits .xor k x y).run P w=.ok u w/\aS μ v u:=by
 simp only[arith] at h;cases h;exact⟨_,rfl,rfl⟩
theorem KM{x:Value}{b:Bool}(U:aS μ (.bool b) x):∃u,(Op.unary .not x).run P w=.ok u w/\aS μ (.bool (!b)) u:=by
 cases U;exact⟨_,rfl,rfl⟩
theorem KN{x:Value}{k:IntKind}{n:Int}(U:aS μ (.int k n) x):∃u,(Op.unary .neg x).run P w=.ok u w/\aS μ (.int k (k.wrap (0-n))) u:=by
 cases U;exact⟨_,rfl,rfl⟩
theorem KO{x:Value}{k:IntKind}{n:Int}{v:I}(U:aS μ (.int k n) x)(h:arith .xor k (if k.signed then-1 else k.max) n=some v):∃u,(Op.unary .xor x).run P w=.ok u w/\aS μ v u:=by
 cases U;exact KL k _ n h
def qp:Value->Bool
 |.int _ _|.float _ _|.complex _ _ _|.string _=>true
 |_=>false
theorem binOp_eql(t:TypeId){x y:Value}(h:qp x=false):binOp .eql t x y=(do pure (.bool (<-Op.equal t x y))):=by
 cases x<;>simp[qp] at h<;>cases y<;>rfl
theorem binOp_neq(t:TypeId){x y:Value}(h:qp x=false):binOp .neq t x y=(do pure (.bool (!(<-Op.equal t x y)))):=by
 cases x<;>simp[qp] at h<;>cases y<;>rfl
theorem DW:∀{d:Nat} {t:TypeId} {x y:I} {b:Bool} {bf:Value},gG P H d t x y=some b->(∀j a k c,¬(x=.int j a/\y=.int k c))->(∀a c,¬(x=.str a/\y=.str c))->aS μ x bf->qp bf=false:=by
 intro d t x y b bf h ag ae U
 cases d with
 |zero=>simp[gG] at h
 |succ d=>
  cases x with
  |bad=>unfold gG at h;split at h<;>simp at h
  |int j a=>
   unfold gG at h
   split at h
   all_goals first
    |(cases y<;>simp at h;done)
    |(cases y<;>simp at h;exact absurd ⟨rfl,rfl⟩ (ag _ _ _ _))
    |cases h
  |str a=>
   unfold gG at h
   split at h
   all_goals first
    |(cases y<;>simp at h;done)
    |(cases y<;>simp at h;exact absurd ⟨rfl,rfl⟩ (ae _ _))
    |cases h
  |bool b=>cases U;rfl
  |d_=>cases U;rfl
  |ptr b off=>obtain⟨i,_,rfl⟩:=U;rfl
  |bK=>cases U;rfl
  |slice b off n c=>
   obtain⟨i,_,ab⟩:=U
   cases c with
   |exact c=>cases ab;rfl
   |aE e1=>obtain⟨c,rfl,_⟩:=ab;rfl
   |dead=>obtain⟨_,a,c,rfl⟩:=ab;rfl
  |gw=>cases U;rfl
  |map r=>obtain⟨i,_,rfl⟩:=U;rfl
  |h8=>cases U;rfl
  |fn f a b=>obtain⟨_,_,rfl,_⟩:=U;rfl
  |bY l=>obtain⟨i,_,rfl⟩:=U;rfl
  |dY=>cases U;rfl
  |iface t x=>obtain⟨_,rfl,_⟩:=U;rfl
  |agg cs=>obtain⟨_,rfl,_⟩:=U;rfl
  |aF cs=>obtain⟨_,rfl,_⟩:=U;rfl
theorem DX{op:BinOp}(h:op≠ .eql)(ai:op≠ .neq)(t:TypeId)(iV iW:Operand)(a b:Value):(eqGuard op t iV iW a b).run P w=.ok () w:=by
 cases op<;>first|exact absurd rfl h|exact absurd rfl ai|simp[eqGuard]
def o2:Value->Nat
 |.nilIface=>1
 |.agg _=>2
 |_=>0
theorem zS{op:BinOp}(dH:op=.eql\/op=.neq){t:TypeId}{iV iW:Operand}{a b:Value}(h:o2 a=0\/o2 a≠o2 b):(eqGuard op t iV iW a b).run P w=.ok () w:=by
 rcases dH with rfl|rfl<;>(cases a<;>first|rfl|(cases b<;>first|rfl|simp[o2] at h))
def qq:I->Nat
 |.dY=>1
 |.agg _=>2
 |_=>0
theorem DY{x:I}{a:Value}(U:aS μ x a)(ad:x≠ .bad):o2 a=qq x:=by
 cases x with
 |bad=>exact absurd rfl ad
 |bool b=>cases U;rfl
 |int k n=>cases U;rfl
 |str s=>obtain⟨_,rfl,_⟩:=U;rfl
 |d_=>cases U;rfl
 |ptr b off=>obtain⟨i,_,rfl⟩:=U;rfl
 |bK=>cases U;rfl
 |slice b off n c=>
  obtain⟨i,_,ab⟩:=U
  cases c with
  |exact c=>cases ab;rfl
  |aE e1=>obtain⟨c,rfl,_⟩:=ab;rfl
  |dead=>obtain⟨_,a,c,rfl⟩:=ab;rfl
 |gw=>cases U;rfl
 |map r=>obtain⟨i,_,rfl⟩:=U;rfl
 |h8=>cases U;rfl
 |fn f a b=>obtain⟨_,_,rfl,_⟩:=U;rfl
 |bY l=>obtain⟨i,_,rfl⟩:=U;rfl
 |dY=>cases U;rfl
 |iface t x=>obtain⟨_,rfl,_⟩:=U;rfl
 |agg cs=>obtain⟨_,rfl,_⟩:=U;rfl
 |aF cs=>obtain⟨_,rfl,_⟩:=U;rfl
theorem DZ{op:BinOp}(dH:op=.eql\/op=.neq){t:TypeId}{iV iW:Operand}{x y:I}{a b:Value}(U:aS μ x a)(bc:aS μ y b)(zT:x≠ .bad)(KP:y≠ .bad)(h:oz P t iV iW x y=true):
  (eqGuard op t iV iW a b).run P w=.ok () w:=by
 have D0:=DY U zT
 have KQ:=DY bc KP
 by_cases ah:o2 a=0\/o2 a≠o2 b
 · exact zS dH ah
 · have h1:qq x≠0:=λe=>ah (.inl (D0.trans e))
   have aa:qq x=qq y:=by
    rw[<-D0,<-KQ];exact Classical.byContradiction λe=>ah (.inr e)
   cases x<;>simp[qq] at h1
   · cases y<;>simp[qq] at aa
     cases U;cases bc
     simp only[oz] at h
     rcases dH with rfl|rfl<;>(cases iV<;>cases iW<;>first|rfl|simp at h)
   · cases y<;>simp[qq] at aa
     obtain⟨dx,rfl,_⟩:=U
     obtain⟨l2,rfl,_⟩:=bc
     simp only[oz,Bool.not_eq_true'] at h
     rcases dH with rfl|rfl<;>simp[eqGuard,h]
theorem D1{d:Nat}{t:TypeId}{x y:I}{b:Bool}(h:gG P H d t x y=some b):x≠ .bad/\y≠ .bad:=by
 cases d with
 |zero=>simp[gG] at h
 |succ d=>
  constructor
  · rintro rfl;unfold gG at h;split at h<;>simp at h
  · rintro rfl;unfold gG at h;split at h<;>(try cases x)<;>simp at h
theorem KR(af:a8 μ H w){op:BinOp}{t yt:TypeId}{iV iW:Operand}{x y v:I}{bf e6:Value}(U:aS μ x bf)(bc:aS μ y e6)(h:eo P H op t iV iW x y=some v):
  ∃u,(do eqGuard op t iV iW bf e6;binOp op t bf e6:Sem Value).run P w=.ok u w/\aS μ v u:=by
 unfold eo at h
 split at h
 · rename_i k a gn b
   cases U;cases bc
   have aj:(eqGuard op t iV iW (.int k a) (.int gn b)).run P w=.ok () w:=by
    by_cases dH:op=.eql\/op=.neq
    · exact zS dH (.inl rfl)
    · exact DX (λe=>dH (.inl e)) (λe=>dH (.inr e)) t iV iW _ _
   simp only[Sem.run_bind,aj,Result.andThen_ok]
   split at h
   · exact Df h t
   · exact Df h t
   · rename_i h1 aa
     split at h
     · rename_i hk;subst hk
       exact JF h ⟨h1,aa⟩ t
     · cases h
 · rename_i a b
   obtain⟨s1,rfl,rfl⟩:=U
   obtain⟨s2,rfl,rfl⟩:=bc
   have aj:(eqGuard op t iV iW (.string s1) (.string s2)).run P w=.ok () w:=by
    by_cases dH:op=.eql\/op=.neq
    · exact zS dH (.inl rfl)
    · exact DX (λe=>dH (.inl e)) (λe=>dH (.inr e)) t iV iW _ _
   simp only[Sem.run_bind,aj,Result.andThen_ok]
   exact JH h t
 · rename_i cY ja
   split at h
   · split at h
     · rename_i cD
       split at h
       · rename_i b he
         cases h
         obtain⟨cC,cE⟩:=D1 he
         have aj:=DZ (w:=w) (op:=.eql) (.inl rfl) U bc cC cE cD
         have aB:qp bf=false:=DW he (λj a k c e=>cY j a k c e.1 e.2) (λa c e=>ja a c e.1 e.2) U
         have ah:=ql (P:=P) af 100 t x y b bf e6 Op.maxDepth (by decide) he U bc
         refine⟨.bool b,?_,rfl⟩
         simp only[Sem.run_bind,aj,Result.andThen_ok,binOp_eql t aB,Op.equal,ah,Sem.run_pure]
       · cases h
     · cases h
   · split at h
     · rename_i cD
       split at h
       · rename_i b he
         cases h
         obtain⟨cC,cE⟩:=D1 he
         have aj:=DZ (w:=w) (op:=.neq) (.inr rfl) U bc cC cE cD
         have aB:qp bf=false:=DW he (λj a k c e=>cY j a k c e.1 e.2) (λa c e=>ja a c e.1 e.2) U
         have ah:=ql (P:=P) af 100 t x y b bf e6 Op.maxDepth (by decide) he U bc
         refine⟨.bool (!b),?_,rfl⟩
         simp only[Sem.run_bind,aj,Result.andThen_ok,binOp_neq t aB,Op.equal,ah,Sem.run_pure]
       · cases h
     · cases h
   · cases h
theorem KS{t:TypeId}{d:TypeDesc}(hu:P.underlying t=some d)(cY:∀m,d≠ .interface m){x:I}{bf:Value}(U:aS μ x bf):
  (Instr.makeInterface t bf).run P w=.ok (.iface t bf) w:=by
 simp only[Instr.makeInterface,Sem.run_bind,bt hu,Result.andThen_ok]
 cases d<;>first|rfl|exact absurd rfl (cY _)
theorem D2{xT as:TypeId}{ok:Bool}{d:TypeDesc}(hu:P.underlying as=some d)(cY:∀m,d≠ .interface m){x:I}{bf:Value}(U:aS μ x bf):
  (∀z,x=.dY->ok=true->dV P as=some z->∃u,(Instr.typeAssert bf xT as ok).run P w=.ok u w/\aS μ (.aF [z,.bool false]) u)/\
  (∀v,x=.iface as v->∃u,(Instr.typeAssert bf xT as ok).run P w=.ok u w/\aS μ (if ok then .aF [v,.bool true] else v) u)/\
  (∀t v z,x=.iface t v->t≠as->ok=true->dV P as=some z->∃u,(Instr.typeAssert bf xT as ok).run P w=.ok u w/\aS μ (.aF [z,.bool false]) u):=by
 refine⟨λz qs cD aL=>?_,λv qs=>?_,λt v z qs cj cD aL=>?_⟩
 · subst qs;cases U;subst cD
   obtain⟨ep,uu,rfl,_⟩:=kb (P:=P) (w:=w) aL
   refine⟨.tuple #[ep,.bool false],?_,⟨_,rfl,_,_,rfl,iG μ ep,_,_,rfl,rfl,rfl⟩⟩
   simp only[Instr.typeAssert,Sem.run_bind,bt hu,Result.andThen_ok]
   cases d<;>first|exact absurd rfl (cY _)|simp[uu]
 · subst qs;obtain⟨y,rfl,bc⟩:=U
   refine⟨if ok then .tuple #[y,.bool true] else y,?_,?_⟩
   · simp only[Instr.typeAssert,Sem.run_bind,bt hu,Result.andThen_ok]
     cases d<;>first|exact absurd rfl (cY _)|simp
   · cases ok
     · exact bc
     · exact⟨_,rfl,_,_,rfl,bc,_,_,rfl,rfl,rfl⟩
 · subst qs;obtain⟨y,rfl,bc⟩:=U;subst cD
   obtain⟨ep,uu,rfl,_⟩:=kb (P:=P) (w:=w) aL
   refine⟨.tuple #[ep,.bool false],?_,⟨_,rfl,_,_,rfl,iG μ ep,_,_,rfl,rfl,rfl⟩⟩
   simp only[Instr.typeAssert,Sem.run_bind,bt hu,Result.andThen_ok]
   cases d<;>first|exact absurd rfl (cY _)|simp[uu,cj]
theorem KT{vs:List I}{x:Value}{i:Nat}{v:I}(U:aS μ (.aF vs) x)(h:nth i vs=some v):∃u,(Instr.extract x i).run P w=.ok u w/\aS μ v u:=by
 obtain⟨l,rfl,aq⟩:=U
 rw[lE] at h
 obtain⟨u,hu,ah⟩:=aq.get h
 refine⟨u,?_,ah⟩
 simp[Instr.extract,hu]
theorem D3{r el:Nat}{c:Array Value}{ca:Nat×Nat}(h:w.heap[r]? =some (.cells c el ca)):(viewAt r).run P w=.ok none w:=by
 simp[viewAt,World.shape?,h]
theorem D4(af:a8 μ H w){src dst u:TypeId}{b off n:Nat}{cs:List I}{el bF ag:Nat}{k:e3}(ae:P.underlying src=some (.pointer u))(al:P.underlying dst=some .unsafePointer)
  (aL:cG P u=some (n+1))(aj:H.get b=some (.cells cs el k bF ag))(bN:off<cs.length){x:Value}(U:aS μ (.ptr b off) x):(convert src dst x).run P w=.ok x w:=by
 obtain⟨i,ag,rfl⟩:=U
 obtain⟨c,ed,ee,aw,ar,bn,cR⟩:=af.rel _ _ i aj ag
 obtain⟨v,aI⟩:∃v,cs[off]? =some v:=⟨_,List.getElem?_eq_getElem bN⟩
 obtain⟨KU,hu,_⟩:=ar off v aI
 have dU:i.base+off<c.size:=by
  rcases Nat.lt_or_ge (i.base+off) c.size with h|h
  · exact h
  · rw[Array.getElem?_eq_none h] at hu;cases hu
 have ud:(Conv.seenAt ⟨i.aT,i.base+off,none⟩).run P w=.ok ⟨i.aT,i.base+off,none⟩ w:=by
  simp[Conv.seenAt,D3 aw]
 have uy:(cellsIn i.aT).run P w=.ok (some c.size) w:=by simp[cellsIn,World.shape?,aw]
 have qi:¬(c.size<=i.base+off):=by omega
 simp[convert,bt ae,bt al,Conv.unsafePointer,ud,uy,run_sizeOf aL,qi]
theorem D5(af:a8 μ H w){src dst u:TypeId}{b off n:Nat}{cs:List I}{el bF ag:Nat}(ae:P.underlying src=some .unsafePointer)(al:P.underlying dst=some (.pointer u))
  (aL:cG P u=some (n+1))(aj:H.get b=some (.cells cs el .own bF ag))(aq:liesAt P P.depth el (cs.length/P.cellsOf el) off u 1=true){x:Value}(U:aS μ (.ptr b off) x):(convert src dst x).run P w=.ok x w:=by
 obtain⟨i,ag,rfl⟩:=U
 obtain⟨c,ed,ee,aw,ar,bn,cR,fD,_⟩:=af.rel _ _ i aj ag
 have ab:c.size=cs.length:=by omega
 have ud:(Conv.seenAt ⟨i.aT,i.base+off,none⟩).run P w=.ok ⟨i.aT,i.base+off,none⟩ w:=by
  simp[Conv.seenAt,D3 aw]
 have zU:(variablesAt ⟨i.aT,i.base+off,none⟩ u 1).run P w=.ok true w:=by
  simp[variablesAt,World.shape?,aw,cR,ab,aq]
 simp[convert,bt ae,bt al,Conv.unsafePointer,ud,run_sizeOf aL,zU]
end
end aU
namespace aU
open Go
section
variable {P:Program} {μ:aW} {H:J} {w:World}
theorem D6(af:a8 μ H w){b:Nat}{i:fl}(ag:μ b=some i){cs:List I}{el bF dG:Nat}{k:e3}(aj:H.get b=some (.cells cs el k bF dG)):
  ∀(n off:Nat) (r:List I) (bs:List UInt8) (acc:ByteArray),takeN n (hc off cs)=some r->kK r=some bs->
   (loadBytes ⟨i.aT,i.base+off,none⟩ acc n).run P w=.ok ⟨acc.data++bs.toArray⟩ w
 |0,off,r,bs,acc,h,ad=>by
  simp only[takeN] at h;cases h
  simp only[kK] at ad;cases ad
  simp[loadBytes]
 |n+1,off,r,bs,acc,h,ad=>by
  rw[lF] at h
  cases al:cs.drop off with
  |nil=>rw[al] at h;simp[takeN] at h
  |cons a l=>
   rw[al] at h
   simp only[takeN] at h
   cases bd:takeN n l with
   |none=>rw[bd] at h;cases h
   |some r'=>
    rw[bd] at h;cases h
    unfold kK at ad
    split at ad
    · rename_i heq;cases heq
    · rename_i m jP heq
      cases heq
      split at ad
      · rename_i KV hm hR
        cases ad
        have KW:cs[off]? =some (.int .u8 (Int.ofNat m)):=by
         have:=congrArg List.head? al
         simpa[List.head?_drop] using this
        have aq:l=cs.drop (off+1):=by
         have:=congrArg List.tail al
         simpa[List.tail_drop] using this.symm
        obtain⟨u,h1,aa⟩:=zn (P:=P) (off:=off) af ag (show aO H b off=some (.int .u8 (Int.ofNat m)) by simp[aO,aj,lE,KW])
        cases aa
        have a7:=D6 af ag aj n (off+1) r' KV (acc.push (UInt8.ofNat m)) (by rw[lF,<-aq];exact bd) hR
        have e:(⟨i.aT,i.base+off,none⟩:Addr).add 1=⟨i.aT,i.base+(off+1),none⟩:=by simp[Addr.add,Nat.add_assoc]
        simp only[loadBytes,Sem.run_bind,h1,Result.andThen_ok,e]
        refine Eq.trans ?_ (a7.trans ?_)
        · rfl
        · congr 1
          simp[ByteArray.ext_iff,ByteArray.push]
      · cases ad
    · cases ad
theorem zV{α:Type}(p:Option Addr)(l:Value)(f:Option Addr->Value->α)(g:Array Value->α):Builtin.unsafeString_.match_3 (λ_=>α) #[.pointer p,l] f g=f p l:=rfl
theorem KX(argTypes:Array TypeId)(ty pT:TypeId)(ay:argTypes[0]? =some pT)(k:IntKind)(m:Nat)(a:Addr)(u:TypeId)(hu:P.underlying pT=some (.pointer u))(mu:m≠0)(hm:m<=281474976710656)
  {s:ByteArray}(aI:(variablesAt a u m).run P w=.ok true w)(aq:(loadBytes a .empty m).run P w=.ok s w):
  (Builtin.unsafeString_ argTypes ty #[.pointer (some a),.int k (m:Int)]).run P w=.ok (.string s) (w.freeze a m):=by
 have uz:¬((9223372036854775807:Int)<(m:Int)):=by omega
 have iJ:IntKind.i64.max=9223372036854775807:=rfl
 have he:(elemOf pT).run P w=.ok u w:=by simp[elemOf,bt hu]
 have sg:¬((m:Int)<0):=by omega
 delta Builtin.unsafeString_
 rw[zV]
 simp[asInt,asIntOf,ay,iJ,uz,mu,he,aI,aq,sg]
theorem D7(argTypes:Array TypeId)(ty pT:TypeId)(ay:argTypes[0]? =some pT)(k:IntKind)(p:Option Addr):(Builtin.unsafeString_ argTypes ty #[.pointer p,.int k 0]).run P w=.ok (.string .empty) w:=by
 have iJ:IntKind.i64.max=9223372036854775807:=rfl
 cases p with
 |none=>
  delta Builtin.unsafeString_
  rw[zV]
  simp[asInt,asIntOf,ay,iJ]
 |some a=>
  delta Builtin.unsafeString_
  rw[zV]
  simp[asInt,asIntOf,ay,iJ]
theorem xe:P.depth=(2*(P.types.size+Made.depth)+1)+1:=rfl
theorem KY{e u count off n:Nat}(h1:P.underlyingId e=P.underlyingId u)(ae:P.cellsOf e=1)(ad:off+n<=count):liesAt P P.depth e count off u n=true:=by
 have aq:sameLayout P P.depth e u=true:=by rw[xe];simp[sameLayout,h1]
 have ah:rowAt P (sameLayout P P.depth · u) P.depth e count off n=true:=by
  rw[xe]
  unfold rowAt
  simp only[ae,Nat.div_one,Nat.mod_one]
  rw[xe] at aq
  simp[ad,aq]
 have:∀d,rowAt P (sameLayout P P.depth · u) P.depth e count off n=true->liesAt P (d+1) e count off u n=true:=λd h=>by
  unfold liesAt;rw[h];rfl
 conv=>lhs;arg 2;rw[xe]
 exact this _ ah
theorem KZ(af:a8 μ H w){argTypes:Array TypeId}{ty pT:TypeId}(ay:argTypes[0]? =some pT){p n v:I}{zW zX:Value}(aZ:aS μ p zW)(aB:aS μ n zX){ax:J}(h:nJ P H pT p n=some (v,ax)):
  dW P μ H w (Builtin.unsafeString_ argTypes ty #[zW,zX]) v ax:=by
 unfold nJ at h
 have D8:∀m,ez n=some m->∃k,zX=.int k (m:Int):=by
  intro m hm
  unfold ez at hm
  split at hm
  · cases hm;cases aB;exact⟨_,rfl⟩
  · cases hm
 split at h
 · rename_i aL
   cases h;cases aZ
   obtain⟨k,rfl⟩:=D8 0 aL
   exact .same af (v':=.string .empty) (D7 argTypes ty pT ay k none) ⟨.empty,rfl,rfl⟩
 · rename_i b off m hm
   obtain⟨k,rfl⟩:=D8 m hm
   obtain⟨i,ag,rfl⟩:=aZ
   split at h
   · rename_i aL
     cases h;subst aL
     exact .same af (v':=.string .empty) (D7 argTypes ty pT ay k _) ⟨.empty,rfl,rfl⟩
   · rename_i mu
     split at h
     · rename_i u cs el cz bF dG hu aj
       split at h
       · rename_i ab
         simp only[Bool.and_eq_true,decide_eq_true_eq,Nat.ble_eq] at ab
         obtain⟨⟨⟨c1,c2⟩,c3⟩,fu⟩:=ab
         split at h
         · rename_i r ah
           split at h
           · rename_i bs ad
             cases h
             obtain⟨c,ed,ee,aw,ar,bn,cR⟩:=af.rel _ _ i aj ag
             have K0:=D6 (P:=P) af ag aj m off r bs .empty ah ad
             have hlen:off+m<=cs.length:=by
              rw[lF] at ah
              have:=(qd m _ _ ah).1
              rw[List.length_drop] at this
              omega
             have oN:0<m:=Nat.pos_of_ne_zero mu
             have dU:i.base+off+m<=c.size:=by
              obtain⟨x,U⟩:∃x,cs[off+m-1]? =some x:=⟨_,List.getElem?_eq_getElem (by omega)⟩
              obtain⟨KU,mo,_⟩:=ar _ x U
              rcases Nat.lt_or_ge (i.base+(off+m-1)) c.size with h|h
              · omega
              · rw[Array.getElem?_eq_none h] at mo;cases mo
             have D9:P.cellsOf el=1:=by
              unfold cG at c2
              unfold Program.cellsOf
              cases dG:P.info? el with
              |none=>rw[dG] at c2;cases c2
              |some ii=>rw[dG] at c2;simpa using c2
             have zU:(variablesAt ⟨i.aT,i.base+off,none⟩ u m).run P w=.ok true w:=by
              have aq:=KY (P:=P) (e:=el) (u:=u) (count:=c.size/P.cellsOf el) (off:=i.base+off) (n:=m) c1 D9 (by rw[D9];simpa using dU)
              simp[variablesAt,World.shape?,aw,aq]
             have dw:=KX (P:=P) (w:=w) argTypes ty pT ay k m _ u hu mu c3 zU K0
             have K1:∃ca:Nat×Nat,w.freeze ⟨i.aT,i.base+off,none⟩ m={w with heap:=w.heap.modify i.aT λ
               |.cells c elem (bF,ag)=>.cells c elem (if bF==ag then(i.base+off,i.base+off+m) else(min bF (i.base+off),max ag (i.base+off+m)))
               |o=>o}/\(w.freeze ⟨i.aT,i.base+off,none⟩ m).heap[i.aT]? =some (.cells c el ca):=by
              have:w.freeze ⟨i.aT,i.base+off,none⟩ m={w with heap:=w.heap.modify i.aT λ
               |.cells c elem (bF,ag)=>.cells c elem (if bF==ag then(i.base+off,i.base+off+m) else(min bF (i.base+off),max ag (i.base+off+m)))
               |o=>o}:=by simp[World.freeze,mu];rfl
              refine⟨if ed==ee then(i.base+off,i.base+off+m) else(min ed (i.base+off),max ee (i.base+off+m)),this,?_⟩
              rw[this]
              simp[Array.getElem?_modify,aw]
             obtain⟨⟨f1,f2⟩,aK,a_⟩:=K1
             have gb:(b2.cells cs el cz bF dG).ml=false:=by cases cz<;>first|rfl|exact absurd rfl fu
             obtain⟨aX,bx⟩:=af.update (w':=w.freeze ⟨i.aT,i.base+off,none⟩ m) (o':=.cells cs el .fz bF dG) aj gb ag (by rw[aK];simp) (λr ah=>by rw[aK];simp[Array.getElem?_modify];intro e;exact absurd e.symm ah) (by rw[aK]) (by rw[aK]) (by rw[aK])
              ⟨c,f1,f2,a_,ar,bn,trivial⟩ (hdr:=by rw[aK];exact Nat.le_refl _)
             exact⟨μ,_,.string _,dw,⟨_,rfl,by simp⟩,aX,bx⟩
           · cases h
         · cases h
       · cases h
     · cases h
 · cases h
theorem K2{argTypes:Array TypeId}{ty:TypeId}{x:I}{bf:Value}(U:aS μ x bf):
  (x=.bK->(Builtin.unsafeSliceData_ argTypes ty #[bf]).run P w=.ok (.pointer none) w)/\
  (∀b off n c,x=.slice b off n (.exact c)->c≠0->∃u,(Builtin.unsafeSliceData_ argTypes ty #[bf]).run P w=.ok u w/\aS μ (.ptr b off) u)/\
  (∀b off n e,x=.slice b off n (.aE e)->n≠0->∃u,(Builtin.unsafeSliceData_ argTypes ty #[bf]).run P w=.ok u w/\aS μ (.ptr b off) u):=by
 have key:∀(a:Addr) (n c:Nat),c≠0->(Builtin.unsafeSliceData_ argTypes ty #[.slice (some a) n c]).run P w=.ok (.pointer (some a)) w:=λa n c ab=>by
  obtain⟨k,rfl⟩:∃k,c=k+1:=⟨c-1,by omega⟩
  rfl
 refine⟨λh=>?_,λb off n c h ab=>?_,λb off n e h aB=>?_⟩
 · subst h;cases U;rfl
 · subst h;obtain⟨i,ag,tS⟩:=U;cases tS
   exact⟨_,key _ n c ab,i,ag,rfl⟩
 · subst h;obtain⟨i,ag,c,rfl,hle,_⟩:=U
   exact⟨_,key _ n c (by omega),i,ag,rfl⟩
theorem D_{kR:Value}{first caps:List I}{g:Nat}{args:List I}{vs:List Value}(hf:aS μ (.fn g first caps) kR)(aH:bD μ args vs):
  ∃aP cs:List Value,(do let d<-Deferred.ofValue kR ⟨vs⟩;invoke d.target d.args:Sem Next).run P w=(callFunc g ⟨aP++vs++cs⟩).run P w/\bD μ (first++args++caps) (aP++vs++cs)/\
   (Deferred.ofValue kR ⟨vs⟩).run P w=.ok {target:=.fn (.func g) ⟨cs⟩,args:=⟨aP++vs⟩} w:=by
 obtain⟨aP,cs,rfl,h1,aa⟩:=hf
 refine⟨aP,cs,?_,(h1.append aH).append aa,?_⟩
 · simp[Deferred.ofValue,invoke]
 · simp[Deferred.ofValue]
theorem K3{l:Nat}{kR:Value}{vs:List Value}(hf:aS μ (.bY l) kR):
  ∃i,μ l=some i/\(do let d<-Deferred.ofValue kR ⟨vs⟩;invoke d.target d.args:Sem Next).run P w=(Instr.yield i.aT ⟨vs⟩).run P w:=by
 obtain⟨i,ag,rfl⟩:=hf
 exact⟨i,ag,by simp[Deferred.ofValue,invoke]⟩
theorem K4{t:TypeId}{name:String}{f:Nat}(h:wK P t name=some f)(v:Value)(n:Nat):(method (n+1) t v name).run P w=.ok (f,v) w:=by
 unfold wK at h
 split at h
 · rename_i i ag
   split at h
   · rename_i m hm
     have hf:∀q,m.path.isEmpty=q->m.path.isEmpty=q:=λ_ h=>h
     split at h
     all_goals first
      |(cases h;done)
      |(rename_i aZ lQ hu
        cases h
        have K5:m.path.toList=[]:=by simpa using aZ
        simp[method,run_typeInfo ag,hm,K5,follow,lQ,receiverAt,bt hu,Place.get]
        done)
   · cases h
 · cases h
end
end aU
namespace aU
open Go
def hU(P:Program)(μ:aW)(H:J)(w:World)(s:Sem Next):h9->Prop
 |.val v ax=>∃az w' u,(s.run P w=.ok (.value u) w'\/(u=undef/\s.run P w=.ok .skip w'))/\aS az v u/\a8 az ax w'/\bE μ H w az ax w'
 |.bm v ax=>ax=H/\∃u,s.run P w=.halt (.panic u) w/\aS μ v u
 |.call f args ax=>ax=H/\∃vs:List Value,s.run P w=(callFunc f ⟨vs⟩).run P w/\bD μ args vs
 |.bY l args ax=>ax=H/\∃i,∃vs:List Value,μ l=some i/\s.run P w=(Instr.yield i.aT ⟨vs⟩).run P w/\bD μ args vs
 |.lu d=>∃o3,s.run P w=.ok (.defer o3) w/\mj μ d o3
 |.p2=>s.run P w=.ok .recover w
 |.fail _=>True
section
variable {P:Program} {μ:aW} {H:J} {w:World}
theorem hU.hV{s:Sem Value}{v:I}{ax:J}(h:dW P μ H w s v ax):hU P μ H w (do pure (.value (<-s))) (.val v ax):=by
 obtain⟨az,w',u,h1,aa,ao,aM⟩:=h
 exact⟨az,w',u,.inl (by simp[h1]),aa,ao,aM⟩
theorem hU.of_same(af:a8 μ H w){s:Sem Value}{v:I}(h:∃u,s.run P w=.ok u w/\aS μ v u):hU P μ H w (do pure (.value (<-s))) (.val v H):=by
 obtain⟨u,h1,aa⟩:=h
 exact⟨μ,w,u,.inl (by simp[h1]),aa,af,bE.refl _ _ _⟩
theorem hU.xf(af:a8 μ H w){u:Value}{v:I}(h:aS μ v u){s:Sem Next}(ae:s.run P w=.ok (.value u) w):hU P μ H w s (.val v H):=
 ⟨μ,w,u,.inl ae,h,af,bE.refl _ _ _⟩
theorem hU.K6{s:Sem Unit}{ax:J}(h:∃w',s.run P w=.ok () w'/\a8 μ ax w'/\bE μ H w μ ax w'):hU P μ H w (do s;pure .skip) (.val (.aF []) ax):=by
 obtain⟨w',h1,ao,aM⟩:=h
 exact⟨μ,w',undef,.inr ⟨rfl,by simp[h1]⟩,⟨[],rfl,rfl⟩,ao,aM⟩
theorem uA(af:a8 μ H w){s:Sem Value}{o:Option I}{hy:String}(h:∀v,o=some v->∃u,s.run P w=.ok u w/\aS μ v u):hU P μ H w (do pure (.value (<-s))) (eH H hy o):=by
 cases o with
 |none=>trivial
 |some v=>exact .of_same af (h v rfl)
theorem o4{s:Sem Value}{o:Option I}{hy:String}(h:∀v,o=some v->dW P μ H w s v H):hU P μ H w (do pure (.value (<-s))) (eH H hy o):=by
 cases o with
 |none=>trivial
 |some v=>exact .hV (h v rfl)
theorem qt{s:Sem Value}{o:Option (I×J)}{hy:String}(h:∀v ax,o=some (v,ax)->dW P μ H w s v ax):hU P μ H w (do pure (.value (<-s))) (jL hy o):=by
 cases o with
 |none=>trivial
 |some p=>exact .hV (h p.1 p.2 rfl)
theorem xg{s:Sem Unit}{o:Option J}{hy:String}(h:∀ax,o=some ax->∃w',s.run P w=.ok () w'/\a8 μ ax w'/\bE μ H w μ ax w'):hU P μ H w (do s;pure .skip) (nN hy o):=by
 cases o with
 |none=>trivial
 |some ax=>exact .K6 (h ax rfl)
theorem o5{a:I}{n:Nat}{v:Value}(h:ez a=some n)(aI:aS μ a v):∃k,v=.int k (n:Int):=by
 unfold ez at h
 split at h
 · cases h;cases aI;exact⟨_,rfl⟩
 · cases h
theorem zY(af:a8 μ H w){f:I}{kR:Value}{args:List I}{vs:List Value}(hf:aS μ f kR)(aH:bD μ args vs):
  hU P μ H w (do let d<-Deferred.ofValue kR ⟨vs⟩;invoke d.target d.args) (p8 f args H):=by
 unfold p8
 split
 · obtain⟨aP,cs,h1,aa,_⟩:=D_ (P:=P) (w:=w) hf aH
   exact⟨rfl,_,h1,aa⟩
 · obtain⟨i,h1,aa⟩:=K3 (P:=P) (w:=w) (vs:=vs) hf
   exact⟨rfl,i,vs,h1,aa,aH⟩
 · trivial
theorem K7(af:a8 μ H w){b:Builtin}{ats:Array TypeId}{ty:TypeId}{consts:Array Bool}{vs:List I}{us:List Value}(aI:bD μ vs us):
  hU P μ H w (builtin b ats ty consts ⟨us⟩) (hd P b ats vs H):=by
 unfold hd
 split
 · rfl
 · cases vs with
   |nil=>trivial
   |cons x l=>
    obtain⟨bf,mY,rfl,h1,aa⟩:=aI
    refine uA af λv h=>?_
    obtain⟨u,aK,a_⟩:=zD (P:=P) (w:=w) ji Builtin.min2 (λ_ _ _ _ _ h U bc=>Km h U bc) l x bf mY v h1 aa h
    exact⟨u,by simpa[Builtin.min_] using aK,a_⟩
 · cases vs with
   |nil=>trivial
   |cons x l=>
    obtain⟨bf,mY,rfl,h1,aa⟩:=aI
    refine uA af λv h=>?_
    obtain⟨u,aK,a_⟩:=zD (P:=P) (w:=w) jK Builtin.max2 (λ_ _ _ _ _ h U bc=>Kn h U bc) l x bf mY v h1 aa h
    exact⟨u,by simpa[Builtin.max_] using aK,a_⟩
 · split
   · rename_i t x ay
     obtain⟨bf,mY,rfl,h1,aa⟩:=aI
     cases aa
     split
     · exact o4 λv h=>Kj af ay h1 h
     · exact o4 λv h=>Kk af ay h1 h
     · exact qt λv ax h=>Kh af ay h1 h
     · obtain⟨s1,s2,bw⟩:=K2 (P:=P) (w:=w) (argTypes:=ats) (ty:=ty) h1
       split
       · exact .of_same af ⟨_,s1 rfl,rfl⟩
       · split
         · trivial
         · rename_i ab;exact .of_same af (s2 _ _ _ _ rfl ab)
       · split
         · trivial
         · rename_i ab;exact .of_same af (bw _ _ _ _ rfl ab)
       · trivial
     · trivial
   · rename_i t x y ay
     obtain⟨bf,mY,rfl,h1,e6,Dz,rfl,aa,ao⟩:=aI
     cases ao
     split
     · exact qt λv ax h=>Ka af ay h1 aa h
     · exact qt λv ax h=>Kg af ay h1 aa h
     · exact qt λv ax h=>zN af ay h1 aa h
     · exact qt λv ax h=>KZ af ay h1 aa h
     · trivial
   · trivial
theorem K8(af:a8 μ H w){src dst:TypeId}{x:I}{bf:Value}(U:aS μ x bf):
  hU P μ H w (do pure (.value (<-convert src dst bf))) (hQ P src dst x H):=by
 unfold hQ
 split
 · rename_i mv k bz n ae al
   cases U
   exact .of_same af ⟨.int k (k.wrap n),by simp[convert,bt ae,bt al,Conv.intToInt],rfl⟩
 · rename_i mv bz n ae al
   cases U
   exact .of_same af ⟨.string (Utf8.encode n),by simp[convert,bt ae,bt al,Conv.intToString],_,rfl,rfl⟩
 · rename_i s ae al
   obtain⟨t,rfl,rfl⟩:=U
   exact .of_same af ⟨.string t,by simp[convert,bt ae,bt al],_,rfl,rfl⟩
 · rename_i e s ae al
   obtain⟨t,rfl,rfl⟩:=U
   split
   · rename_i he
     refine .hV ?_
     have b0:=Kp (P:=P) af (e:=e) (bs:=t)
     obtain⟨az,w',u,h1,aa,ao,aM⟩:=b0
     exact⟨az,w',u,by simp[convert,bt ae,bt al,bt he,h1],aa,ao,aM⟩
   · trivial
 · rename_i e ae al
   have key:P.underlying e=some (.int .u8)->∀a n c,(convert src dst (.slice a n c)).run P w=(Conv.bytesToString (.slice a n c)).run P w:=by
    intro he a n c
    simp[convert,bt ae,bt al,bt he]
   split
   · rename_i he
     cases U
     refine .of_same af ⟨.string .empty,?_,.empty,rfl,rfl⟩
     rw[key he];rfl
   · rename_i b off n he
     split
     · rename_i aB
       subst aB
       obtain⟨i,_,_,a,c,rfl⟩:=U
       refine .of_same af ⟨.string .empty,?_,.empty,rfl,rfl⟩
       rw[key he];rfl
     · trivial
   · rename_i b off n c hl he
     split
     · rename_i cs aq
       split
       · rename_i bs ad
         obtain⟨az,w',u,h1,aa,ao,aM⟩:=Ko (P:=P) af (by intro e;subst e;exact hl rfl) U aq ad
         refine .hV ⟨az,w',u,?_,aa,ao,aM⟩
         have jn:∃a m k,bf=.slice a m k:=by
          obtain⟨i,_,ab⟩:=U
          cases c with
          |exact c=>cases ab;exact⟨_,_,_,rfl⟩
          |aE e1=>obtain⟨c,rfl,_⟩:=ab;exact⟨_,_,_,rfl⟩
          |dead=>obtain⟨_,a,c,rfl⟩:=ab;exact⟨_,_,_,rfl⟩
         obtain⟨a,m,k,rfl⟩:=jn
         rw[key he];exact h1
       · trivial
     · trivial
   · trivial
 · rename_i u b off ae al
   split
   · rename_i cs el k bF ag n aj aL
     split
     · rename_i bN
       exact .of_same af ⟨bf,D4 af ae al aL aj (by simpa using bN) U,U⟩
     · trivial
   · trivial
 · rename_i u b off ae al
   split
   · rename_i cs el bF ag n aj aL
     split
     · rename_i ab
       exact .of_same af ⟨bf,D5 af ae al aL aj ab U,U⟩
     · trivial
   · trivial
 · trivial
end
end aU
namespace aU
open Go
section
variable {P:Program} {μ:aW} {H:J} {w:World}
theorem Ea(af:a8 μ H w){c a b:Operand}{g:Operand->I}{ρ:Operand->Value}(aj:∀x,aS μ (g x) (ρ x)){er:Bool}(ab:g c=.bool er):
  hU P μ H w (do pure (.value (if<-asBool (ρ c) then ρ a else ρ b))) (.val (if er then g a else g b) H):=by
 have h1:=aj c
 rw[ab] at h1
 refine .xf af (u:=if er then ρ a else ρ b) ?_ ?_
 · cases er
   · exact aj b
   · exact aj a
 · have:ρ c=.bool er:=h1
   simp[this,asBool]
theorem xh{g:Operand->I}{ρ:Operand->Value}(aj:∀x,aS μ (g x) (ρ x))(args:Array Operand):bD μ (args.toList.map g) (args.map ρ).toList:=by
 rw[Array.toList_map];exact bD.map g ρ aj _
theorem K9(af:a8 μ H w){g:Operand->I}{ρ:Operand->Value}(aj:∀x,aS μ (g x) (ρ x))(o:Oper)(x:Operand)(aN:o.op=.nilCheck x):hU P μ H w (execOp ρ o) (match g x with
  |.ptr b o=>.val (.ptr b o) H
  |.slice b o n c=>.val (.slice b o n c) H
  |.fn f a b=>.val (.fn f a b) H
  |.iface t v=>.val (.iface t v) H
  |_=>.fail ""):=by
 have h1:=aj x
 have e:∀(v:I),g x=v->((∃b o,v=.ptr b o)\/(∃b o n c,v=.slice b o n c)\/(∃f a b,v=.fn f a b)\/∃t y,v=.iface t y)->hU P μ H w (execOp ρ o) (.val v H):=by
  intro v aI ae
  have aa:=h1
  rw[aI] at aa
  exact .xf af aa (JB aa ae o x ρ rfl aN)
 split
 · rename_i b o U;exact e _ U (.inl ⟨_,_,rfl⟩)
 · rename_i b o n c U;exact e _ U (.inr (.inl ⟨_,_,_,_,rfl⟩))
 · rename_i f a b U;exact e _ U (.inr (.inr (.inl ⟨_,_,_,rfl⟩)))
 · rename_i t v U;exact e _ U (.inr (.inr (.inr ⟨_,_,rfl⟩)))
 · trivial
theorem K_(af:a8 μ H w){g:Operand->I}{ρ:Operand->Value}(aj:∀x,aS μ (g x) (ρ x))(c:Call)(type:TypeId):hU P μ H w (do let d<-resolve ρ c type;invoke d.target d.args) (match c.callee with
  |.value f=>p8 (g f) (c.args.toList.map g) H
  |.invoke r name=>match g r with
   |.iface t v=>match wK P t name with
    |some f=>.call f (v::c.args.toList.map g) H
    |none=>.fail ""
   |_=>.fail ""
  |.builtin b=>hd P b c.argTypes (c.args.toList.map g) H):=by
 have aH:=xh (μ:=μ) aj c.args
 cases ab:c.callee with
 |value f=>
  simp only[resolve,ab]
  exact zY af (aj f) aH
 |invoke r name=>
  simp only[]
  split
  · rename_i t v ah
    split
    · rename_i f hm
      have h1:=aj r
      rw[ah] at h1
      obtain⟨y,bc,aI⟩:=h1
      refine⟨rfl,y::(c.args.map ρ).toList,?_,⟨_,_,rfl,aI,aH⟩⟩
      have TQ:0<Made.depth:=by decide
      obtain⟨n,aB⟩:∃n,P.types.size+Made.depth=n+1:=⟨P.types.size+Made.depth-1,by omega⟩
      have xi:=K4 (P:=P) (w:=w) hm y n
      have ay:(#[ρ r]++c.args.map ρ)[0]? =some (ρ r):=by rw[Array.getElem?_append_left (by simp)];rfl
      have aa:(#[ρ r]++c.args.map ρ).extract 1 (#[ρ r]++c.args.map ρ).size=c.args.map ρ:=by
       apply Array.ext'
       simp only[Array.toList_extract,Array.toList_append,Array.toList_map,List.cons_append,List.nil_append,List.extract_eq_take_drop]
       rw[List.take_of_length_le]
       · rfl
       · simp
      have ao:(#[y]++c.args.map ρ:Array Value)=⟨y::(c.args.map ρ).toList⟩:=by apply Array.ext';simp
      rw[bc] at ay aa
      simp only[resolve,ab,Sem.run_bind,Sem.run_pure,Result.andThen_ok,invoke,bc,ay,aa,callMethod,run_program,aB,xi,ao]
    · trivial
  · trivial
 |builtin b=>
  have ad:=K7 (P:=P) (b:=b) (ats:=c.argTypes) (ty:=type) (consts:=c.args.map λ|.const _=>true|_=>false) af aH
  have he:(do let d<-resolve ρ c type;invoke d.target d.args:Sem Next)=builtin b c.argTypes type (c.args.map λ|.const _=>true|_=>false) (c.args.map ρ):=by
   simp only[resolve,ab];rfl
  rw[he];exact ad
set_option maxHeartbeats 4000000 in
theorem Eb(af:a8 μ H w)(o:Oper){g:Operand->I}{ρ:Operand->Value}(aj:∀x,aS μ (g x) (ρ x)):hU P μ H w (execOp ρ o) (bV P o g H):=by
 obtain⟨dst,op,type,pos,after,guard⟩:=o
 cases op<;>simp only[bV,execOp]
 case move x=>exact .xf af (aj x) rfl
 case assign x=>exact .xf af (aj x) rfl
 case pick c a b=>
  split
  · rename_i ab;exact Ea af aj ab
  · rename_i ab;exact Ea af aj ab
  · trivial
 case alloc e=>
  split
  · rename_i z aL
    split
    · rename_i b ai ah;exact .hV (Jo af aL ah)
    · trivial
  · trivial
 case box e x=>
  split
  · rename_i b ai ah;exact .hV (Jp af (aj x) ah)
  · trivial
 case build t parts=>
  split
  · rename_i z aL
    split
    · rename_i aP hu
      split
      · rename_i cs dn hf;exact .hV (Jw af g ρ aj aL hu dn parts hf)
      · trivial
    · rename_i n e hu
      split
      · rename_i sz ae
        split
        · rename_i cs hf;exact .hV (Jy af g ρ aj aL hu ae parts hf)
        · trivial
      · trivial
    · trivial
  · trivial
 case buildSlice t len parts=>
  split
  · rename_i e hu
    split
    · rename_i sz z ae aL
      split
      · rename_i cs ab hf
        rw[Bool.and_eq_true,Nat.ble_eq,Nat.beq_eq] at ab
        split
        · rename_i b ai ah;exact .hV (Jz af g ρ aj hu ae aL ab.1 ab.2 parts hf ah)
        · trivial
      · trivial
    · trivial
  · trivial
 case insert t m k v=>exact xg λax h=>DP af (aj m) (aj k) (aj v) h
 case load t a=>
  split
  · rename_i b off aH
    have h1:=aj a
    rw[aH] at h1
    obtain⟨dx,l2⟩:=Jq (P:=P) af (t:=t) h1
    split
    · rename_i n zZ aB
      split
      · rename_i cs aq;exact .hV (dx n cs zZ aB aq)
      · trivial
    · rename_i zZ
      exact o4 λv h=>l2 v zZ h
    · trivial
  · trivial
 case store t a v=>
  split
  · rename_i b off aH
    have h1:=aj a
    rw[aH] at h1
    split
    · trivial
    · rename_i n aB sh
      split
      · rename_i aq
        exact xg λax h=>Jr af h1 (aj v) sh aB (by simpa using aq) h
      · trivial
    · trivial
  · trivial
 case ready=>trivial
 case waits=>trivial
 case nilCheck x=>exact K9 af aj ⟨dst,.nilCheck x,type,pos,after,guard⟩ x rfl
 case binOp op t x y yt=>exact uA af λv h=>KR af (yt:=yt) (aj x) (aj y) h
 case unOp op t x=>
  have h1:=aj x
  split
  · rename_i b U;rw[U] at h1;exact .of_same af (KM h1)
  · rename_i k n U;rw[U] at h1;exact .of_same af (KN h1)
  · rename_i k n U;rw[U] at h1;exact uA af λv h=>KO h1 h
  · trivial
 case convert src TR x=>exact K8 af (aj x)
 case sliceToArrayPointer=>trivial
 case makeInterface t x=>
  split
  · trivial
  · rename_i d cY hu
    refine .of_same af ⟨.iface t (ρ x),KS hu (λm e=>cY m (e▸rfl)) (aj x),_,rfl,aj x⟩
  · trivial
 case makeFunc fn first caps=>
  split
  · rename_i f
    exact .of_same af ⟨.func (.func f) (first.map ρ) (caps.map ρ),rfl,_,_,rfl,xh aj first,xh aj caps⟩
  · trivial
 case makeMap t r=>
  cases r with
  |none=>exact .hV (KB af)
  |some x=>
   simp only[]
   split
   · rename_i cq eX k n hu U
     have h1:=aj x
     rw[U] at h1
     have aa:ρ x=.int k n:=h1
     rw[Option.map_some,aa]
     exact .hV (KC af hu)
   · trivial
 case makeChan=>trivial
 case makeSlice t l c=>
  split
  · rename_i e jP c' hu aq ab
    obtain⟨kl,el⟩:=o5 aq (aj l)
    obtain⟨kc,z1⟩:=o5 ab (aj c)
    split
    · rename_i i z ag aL
      split
      · rename_i iZ
        rw[Bool.and_eq_true,Bool.and_eq_true,Nat.ble_eq,Nat.beq_eq,decide_eq_true_eq] at iZ
        split
        · rename_i b ai ah
          rw[el,z1]
          exact .hV (JA af hu ag aL iZ.1.1 iZ.1.2 iZ.2 ah)
        · trivial
      · trivial
    · trivial
  · trivial
 case slice t x bF ag mx=>
  exact o4 λv h=>JL af (aj x) (lK.map g ρ aj bF) (lK.map g ρ aj ag) (lK.map g ρ aj mx) h
 case fieldAddr s x f=>
  split
  · rename_i aP b off hu U
    have h1:=aj x
    rw[U] at h1
    split
    · rename_i fd hf
      split
      · trivial
      · rename_i n ug aB
        exact .hV (JP af hu hf aB (λe=>ug e) h1)
      · trivial
    · trivial
  · trivial
 case field t x f=>
  split
  · rename_i aP cs hu U
    have h1:=aj x
    rw[U] at h1
    split
    · rename_i fd hf
      exact o4 λv h=>JO af hu hf h1 h
    · trivial
  · trivial
 case indexAddr t x i=>
  split
  · rename_i n e b off k hu U ag
    have h1:=aj x
    rw[U] at h1
    obtain⟨cz,qu⟩:=o5 ag (aj i)
    split
    · rename_i sz ae
      split
      · rename_i hk;rw[qu];exact .hV (JR af hu ae h1 hk)
      · trivial
    · trivial
  · rename_i e b off n c k hu U ag
    have h1:=aj x
    rw[U] at h1
    obtain⟨cz,qu⟩:=o5 ag (aj i)
    split
    · rename_i sz ae
      split
      · rename_i hk;rw[qu];exact .hV (JQ af hu ae h1 hk)
      · trivial
    · trivial
  · trivial
 case index t x i=>
  split
  · rename_i n e cs k hu U ag
    have h1:=aj x
    rw[U] at h1
    obtain⟨cz,qu⟩:=o5 ag (aj i)
    split
    · rename_i sz ae
      split
      · rename_i hk;rw[qu];exact o4 λv h=>JS af hu ae h1 hk h
      · trivial
    · trivial
  · rename_i s k hu U ag
    have h1:=aj x
    rw[U] at h1
    obtain⟨cz,qu⟩:=o5 ag (aj i)
    split
    · rename_i c ab;rw[qu];exact .hV (JT af hu h1 ab)
    · trivial
  · trivial
 case lookup t x i ok=>exact o4 λv h=>Kx af (aj x) (aj i) h
 case mapUpdate t m k v=>exact xg λax h=>DP af (aj m) (aj k) (aj v) h
 case mapEntry t m k=>exact qt λv ax h=>Ky af (aj m) (aj k) h
 case entryStore t m s v=>exact xg λax h=>Kz af (aj m) (aj s) (aj v) h
 case range t x=>
  split
  · rename_i s hu U
    have h1:=aj x
    rw[U] at h1
    exact .hV (KD af hu h1)
  · rename_i cq eX hu U
    have h1:=aj x
    rw[U] at h1
    exact .hV (KE af hu h1)
  · rename_i cq eX m hu U
    have h1:=aj x
    rw[U] at h1
    split
    · rename_i es c uw
      obtain⟨i,ag,aI⟩:=h1
      obtain⟨ents,aw,ar⟩:=af.rel _ _ i uw ag
      obtain⟨aX,bx⟩:=af.alloc (.mapIter (some m) c [] c) (.mapIter (some i.aT) c #[] c) 0 ⟨rfl,i,af.mn _ _ _ ag,World.heap_alloc_new _ _⟩
      refine .hV ⟨_,_,.pointer (some ⟨w.heap.size,0,none⟩),?_,⟨_,e5 _ _ _,rfl⟩,aX,bx⟩
      have gZ:(getObj i.aT).run P w=.ok (.map ⟨ents⟩ c) w:=by simp[getObj,Sem.run,aw]
      rw[aI]
      simp only[Instr.range,Sem.run_bind,bt hu,Result.andThen_ok,gZ,Sem.run_pure,run_newObj]
      rfl
    · trivial
  · trivial
 case next it isStr=>exact qt λv ax h=>KH af (aj it) h
 case entry it=>exact o4 λv h=>KJ af (aj it) h
 case typeAssert x xT as ok=>
  have h1:=aj x
  split
  · trivial
  · rename_i d cY hu U
    obtain⟨t1,_,_⟩:=D2 (P:=P) (w:=w) (xT:=xT) (ok:=ok) hu (λm e=>cY m (e▸rfl)) h1
    split
    · rename_i cD
      split
      · rename_i z aL;exact .of_same af (t1 z U cD aL)
      · trivial
    · trivial
  · rename_i d t v cY hu U
    obtain⟨_,t2,t3⟩:=D2 (P:=P) (w:=w) (xT:=xT) (ok:=ok) hu (λm e=>cY m (e▸rfl)) h1
    split
    · rename_i he;subst he;exact .of_same af (t2 v U)
    · rename_i cj
      split
      · rename_i cD
        split
        · rename_i z aL;exact .of_same af (t3 t v z U cj cD aL)
        · trivial
      · trivial
  · trivial
 case extract t i=>
  have h1:=aj t
  split
  · rename_i vs U
    rw[U] at h1
    exact uA af λv h=>KT h1 h
  · trivial
 case call c=>exact K_ af aj c type
 case go=>trivial
 case defer c=>
  split
  · rename_i f hf
    split
    · rename_i k first caps U
      have h1:=aj f
      rw[U] at h1
      obtain⟨aP,cs,_,ao,aM⟩:=D_ (P:=P) (w:=w) h1 (xh aj c.args)
      refine⟨_,?_,.call k _ cs _ ao⟩
      simp only[resolve,hf,Sem.run_bind]
      have xj:(Deferred.ofValue (ρ f) (c.args.map ρ)).run P w=.ok {target:=.fn (.func k) ⟨cs⟩,args:=⟨aP++(c.args.map ρ).toList⟩} w:=aM
      rw[xj];rfl
    · trivial
  · trivial
 case panic x=>
  have h1:=aj x
  split
  · rename_i t v U
    rw[U] at h1
    obtain⟨y,bc,aI⟩:=h1
    refine⟨rfl,.iface t y,?_,⟨y,rfl,aI⟩⟩
    rw[bc];rfl
  · trivial
 all_goals trivial
end
end aU
namespace aU
open Go
section
variable {P:Program} {μ:aW} {w:World}
def o6(P:Program)(μ:aW)(w:World)(s:Sem Value)(e:TypeId)(cs:List I)(val:Addr->Value):Prop:=
 ∃us:List Value,bD μ cs us/\s.run P w=.ok (val ⟨w.heap.size,0,none⟩) (w.alloc (.cells ⟨us⟩ e))
theorem Ec(el:TypeId)(us:List Value):(_root_.Go.newRow el ⟨us⟩).run P w=.ok ⟨w.heap.size,0,none⟩ (w.alloc (.cells ⟨us⟩ el)):=by simp[_root_.Go.newRow]
theorem La{e:TypeId}{z:I}(aL:dV P e=some z):o6 P μ w (Instr.alloc e true (.tuple #[])) e z.cells (λa=>.pointer (some a)):=by
 obtain⟨v,aI,rfl,ad⟩:=kb (w:=w) aL
 refine⟨v.cells.toList,(iG μ v).cells ad,?_⟩
 simp[Instr.alloc,aI,newVar,_root_.Go.newRow]
theorem Lb{e:TypeId}{x:I}{v:Value}(aI:aS μ x v)(ad:x≠ .bad):o6 P μ w (Instr.box e v) e x.cells (λa=>.pointer (some a)):=by
 refine⟨v.cells.toList,aI.cells ad,?_⟩
 simp[Instr.box,newVar,_root_.Go.newRow]
theorem Lc(g:Operand->I)(ρ:Operand->Value)(aj:∀x,aS μ (g x) (ρ x)){t e:TypeId}{len sz:Nat}{z:I}(hu:P.underlying t=some (.slice e))(ae:cG P e=some sz)
  (aL:dV P e=some z)(hle:len*sz<=16777216)(mX:z.cells.length=sz)(parts:Array (Nat×Operand)){cs:List I}
  (hf:h_ (λi=>some (i*sz,sz)) (if len*sz=0 then[] else fc len z.cells) (parts.toList.map λp=>(p.1,g p.2))=some cs):
  o6 P μ w (Instr.buildSlice t len (parts.map λ(i,x)=>(i,ρ x))) e cs (λa=>.slice (some a) len len):=by
 obtain⟨v,aI,rfl,ad⟩:=kb (w:=w) aL
 have ab:=(iG μ v).cells ad
 have t_:¬(len*sz>2^24):=by omega
 have key:∀zero:Array Value,bD μ (if len*sz=0 then[] else fc len (l9 v).cells) ((Array.range (len*sz)).map (λi=>zero[i %zero.size]!)).toList->
   (∀r:Result Value,r=(match Instr.fill (λi=>some (i*sz,sz)) ((Array.range (len*sz)).map (λi=>zero[i %zero.size]!)) (parts.toList.map λp=>(p.1,ρ p.2)) with
    |some cells=>do pure (.slice (some (<-_root_.Go.newRow e cells)) len len)
    |none=>stuck "buildSlice: a part of the wrong size" :Sem Value).run P w->(Instr.buildSlice t len (parts.map λ(i,x)=>(i,ρ x))).run P w=r)->
   o6 P μ w (Instr.buildSlice t len (parts.map λ(i,x)=>(i,ρ x))) e cs (λa=>.slice (some a) len len):=by
  intro zero qh dw
  obtain⟨c',h1,aa⟩:=tX _ g ρ aj parts.toList _ cs _ qh hf
  refine⟨c',aa,dw _ ?_⟩
  rw[h1]
  simp[Ec]
 by_cases ay:len*sz=0
 · refine key #[] (by rw[if_pos ay,ay];simp[bD]) λr ah=>?_
   rw[ah]
   simp only[Instr.buildSlice,Sem.run_bind,bt hu,Result.andThen_ok,run_sizeOf ae,if_neg t_,if_pos ay,Sem.run_pure,Array.toList_map]
   generalize Instr.fill _ _ _=F
   cases F<;>rfl
 · refine key v.cells (by rw[if_neg ay];exact tZ ab mX len) λr ah=>?_
   rw[ah]
   simp only[Instr.buildSlice,Sem.run_bind,bt hu,Result.andThen_ok,run_sizeOf ae,if_neg t_,if_neg ay,Sem.run_pure,Array.toList_map,aI]
   generalize Instr.fill _ _ _=F
   cases F<;>rfl
theorem Ld{t e:TypeId}{l c:Nat}{i:TypeInfo}{z:I}{kl kc:IntKind}(hu:P.underlying t=some (.slice e))(ag:P.info? e=some i)(aL:dV P e=some z)(oP:l<=c)
  (sc:c*(i.bytes+1)<=1099511627776)(mX:z.cells.length=i.size):
  o6 P μ w (Instr.makeSlice t (.int kl l) (.int kc c)) e (if c*i.size=0 then[] else fc c z.cells) (λa=>.slice (some a) l c):=by
 obtain⟨v,aI,rfl,ad⟩:=kb (w:=w) aL
 have ab:=(iG μ v).cells ad
 have oQ:c<=1099511627776:=Nat.le_trans (Nat.le_mul_of_pos_right c (by omega)) sc
 have iH:i.bytes*c<=1099511627776:=by
  have:c*i.bytes<=c*(i.bytes+1):=Nat.mul_le_mul_left c (by omega)
  rw[Nat.mul_comm];omega
 have ua:∀n:Nat,n<=1099511627776->IntKind.wrap .i64 (n:Int)=(n:Int):=λn aB=>nR n (by omega)
 have ub:=ua l (by omega)
 have uc:=ua c oQ
 have qi:¬((c:Int)<0||(i.bytes:Int)*(c:Int)>2^48||(l:Int)<0||(l:Int)>(c:Int))=true:=by
  have h1:((i.bytes:Int)*(c:Int))<=1099511627776:=by
   have ay:((i.bytes*c:Nat):Int)<=1099511627776:=by omega
   rw[Int.natCast_mul] at ay;exact ay
  have aa:(2:Int)^48=281474976710656:=by rfl
  generalize (i.bytes:Int)*(c:Int)=q at h1⊢
  rw[aa]
  simp only[Bool.or_eq_true,decide_eq_true_eq]
  omega
 have key:∀zero:Array Value,bD μ (if c*i.size=0 then[] else fc c (l9 v).cells) ((Array.range (c*i.size)).map (λj=>zero[j %zero.size]!)).toList->
   (Instr.makeSlice t (.int kl l) (.int kc c)).run P w=(do let a<-_root_.Go.newRow e ((Array.range (c*i.size)).map (λj=>zero[j %zero.size]!));pure (.slice (some a) l c):Sem Value).run P w->
   o6 P μ w (Instr.makeSlice t (.int kl l) (.int kc c)) e (if c*i.size=0 then[] else fc c (l9 v).cells) (λa=>.slice (some a) l c):=by
  intro zero qh dw
  refine⟨_,qh,?_⟩
  rw[dw]
  simp only[Sem.run_bind,Sem.run_pure]
  have aY:=Ec (P:=P) (w:=w) e ((Array.range (c*i.size)).map (λj=>zero[j %zero.size]!)).toList
  have:(⟨((Array.range (c*i.size)).map (λj=>zero[j %zero.size]!)).toList⟩:Array Value)=((Array.range (c*i.size)).map (λj=>zero[j %zero.size]!)):=rfl
  rw[this] at aY
  rw[aY];rfl
 have bg:(_root_.Go.sizeOf e).run P w=.ok i.size w:=by simp[_root_.Go.sizeOf,run_typeInfo ag]
 by_cases ay:c*i.size=0
 · refine key #[] (by rw[if_pos ay,ay];simp[bD]) ?_
   simp only[Instr.makeSlice,Sem.run_bind,bt hu,Result.andThen_ok,asInt,asIntOf,Sem.run_pure,run_typeInfo ag,ub,uc]
   rw[if_neg qi]
   simp[bg,ay]
 · refine key v.cells (by rw[if_neg ay];exact tZ ab mX c) ?_
   simp only[Instr.makeSlice,Sem.run_bind,bt hu,Result.andThen_ok,asInt,asIntOf,Sem.run_pure,run_typeInfo ag,ub,uc]
   rw[if_neg qi]
   simp[bg,ay,aI]
structure Laid(P:Program)(μ:aW)(w:World)(s:Sem Next)(b:Nat)(v:I)(bX:b2)(u:Value)(X:Obj)(sz:Nat):Prop where
 run:s.run P w=.ok (.value u) (w.alloc X)
 val:∀az,dm μ az->az b=some ⟨w.heap.size,0,sz⟩->aS az v u
 obj:∀az w',dm μ az->w'.heap[w.heap.size]? =some X->jl az bX ⟨w.heap.size,0,sz⟩ w'
 ro:bX.ml=false
theorem o6.laid{s:Sem Value}{e:TypeId}{cs:List I}{val:Addr->Value}(h:o6 P μ w s e cs val){b:Nat}{v:I}(aI:∀az sz,az b=some ⟨w.heap.size,0,sz⟩->aS az v (val ⟨w.heap.size,0,none⟩)):
  ∃u X sz,Laid P μ w (do pure (.value (<-s))) b v (.cells cs e .own 0 0) u X sz:=by
 obtain⟨us,h1,aa⟩:=h
 refine⟨_,.cells ⟨us⟩ e,us.length,by simp[aa],λaz _ hm=>aI az _ hm,λaz w' hle ba=>?_,rfl⟩
 exact⟨⟨us⟩,0,0,ba,λj v aG=>by
  obtain⟨u,hu,ah⟩:=h1.get aG
  exact⟨u,by simpa using hu,ah.mono hle⟩,by simp,rfl,h1.length.symm,rfl,rfl⟩
theorem Le(o:Oper){g:Operand->I}{ρ:Operand->Value}(aj:∀x,aS μ (g x) (ρ x)){b:Nat}{v:I}{bX:b2}(h:gI P o.op g b=some (v,bX)):
  ∃u X sz,Laid P μ w (execOp ρ o) b v bX u X sz:=by
 obtain⟨dst,op,type,pos,after,guard⟩:=o
 cases op<;>simp only[gI] at h<;>try (cases h;done)
 case alloc e=>
  split at h
  · rename_i z aL
    split at h
    · cases h
      exact(La aL).laid λaz sz hm=>⟨_,hm,rfl⟩
    · cases h
  · cases h
 case box e x=>
  split at h
  · rename_i dn
    cases h
    have ad:g x≠ .bad:=by intro e;rw[e] at dn;simp[I.cells,I.cL] at dn
    exact(Lb (aj x) ad).laid λaz sz hm=>⟨_,hm,rfl⟩
  · cases h
 case buildSlice t len parts=>
  split at h
  · rename_i e hu
    split at h
    · rename_i sz z ae aL
      split at h
      · rename_i cs ab hf
        rw[Bool.and_eq_true,Nat.ble_eq,Nat.beq_eq] at ab
        split at h
        · cases h
          exact(Lc g ρ aj hu ae aL ab.1 ab.2 parts hf).laid λaz sz hm=>⟨_,hm,rfl⟩
        · cases h
      · cases h
    · cases h
  · cases h
 case makeMap t r=>
  cases r with
  |some x=>cases h
  |none=>
   cases h
   exact⟨.map (some w.heap.size),.map #[] 0,0,rfl,λaz _ hm=>⟨_,hm,rfl⟩,λaz w' _ ba=>⟨[],ba,rfl⟩,rfl⟩
 case makeSlice t l c=>
  split at h
  · rename_i e jP c' hu aq ab
    obtain⟨kl,el⟩:=o5 aq (aj l)
    obtain⟨kc,z1⟩:=o5 ab (aj c)
    split at h
    · rename_i i z ag aL
      split at h
      · rename_i cs iZ
        split at h
        · cases h
          rw[Bool.and_eq_true,Bool.and_eq_true,Nat.ble_eq,Nat.beq_eq,decide_eq_true_eq] at iZ
          have:=(Ld (P:=P) (μ:=μ) (w:=w) (kl:=kl) (kc:=kc) hu ag aL iZ.1.1 iZ.1.2 iZ.2).laid (b:=b) (v:=.slice b 0 jP (.exact c')) λaz sz hm=>⟨_,hm,rfl⟩
          simp only[execOp,el,z1]
          exact this
        · cases h
      · cases h
    · cases h
  · cases h
end
end aU
namespace aU
open Go
def fi(P:Program)(μ:aW):Prop:=∀g,g<P.globals.size->∃i,μ g=some i/\i.aT=g/\i.base=0
theorem fi.mono{P:Program}{μ az:aW}(h:fi P μ)(hle:dm μ az):fi P az:=λg aj=>let⟨i,h1,aa⟩:=h g aj;⟨i,hle _ _ h1,aa⟩
def Ends(μ:aW)(H:J)(w:World):bL->Ending->World->Prop
 |.ret v ax,e,w'=>∃az u,e=.returned u/\aS az v u/\a8 az ax w'/\bE μ H w az ax w'
 |.bm v ax,e,w'=>∃az u,e=.panicked [{v:=u,recovered:=false}]/\aS az v u/\a8 az ax w'/\bE μ H w az ax w'
 |.fail _,_,_=>True
def bL.jQ:bL->Bool
 |.fail _=>false
 |_=>true
def o7(P:Program)(f:FuncId)(vs:List Value)(w:World)(R:Ending->World->Prop):Prop:=
 (∃v w',(callFunc f ⟨vs⟩).run P w=.ok (.value v) w'/\R (.returned v) w')\/
 ((callFunc f ⟨vs⟩).run P w=.ok (.enter f ⟨vs⟩) w/\Calls P f ⟨vs⟩ w R)
def nX(P:Program)(m:Machine)(c:Frame)(cs:List Frame)(R:Ending->World->Prop):Prop:=
 ∃e w',R e w'/\match e with
  |.returned v=>Steps P m (lone (c.finish v) cs w')
  |.panicked chain=>Steps P m (lone (c.raise chain) cs w')
  |.outgrown=>False
def Ed(P:Program)(l:Nat)(vs:List Value)(w:World)(R:Ending->World->Prop):Prop:=
 ∃f tmps assign body,(Instr.yield l ⟨vs⟩).run P w=.ok (.round l f tmps assign body) w/\∀c cs,nX P (lone (Frame.round l f tmps assign body .normal) (c::cs) w) c cs R
structure ie(P:Program)(call:cM->List I->J->bL):Prop where
 fn:∀f args H,(call (.fn f) args H).jQ=true->∀μ w (vs:List Value),a8 μ H w->fi P μ->bD μ args vs->o7 P f vs w (Ends μ H w (call (.fn f) args H))
 bY:∀l args H,(call (.bY l) args H).jQ=true->∀μ w i (vs:List Value),a8 μ H w->fi P μ->μ l=some i->bD μ args vs->Ed P i.aT vs w (Ends μ H w (call (.bY l) args H))
theorem nX.of_steps{P:Program}{m m1:Machine}{c:Frame}{cs:List Frame}{R:Ending->World->Prop}(h:Steps P m m1)(ai:nX P m1 c cs R):nX P m c cs R:=by
 obtain⟨e,w',ah,ae⟩:=ai
 refine⟨e,w',ah,?_⟩
 cases e with
 |returned v=>exact h.trans ae
 |panicked cm=>exact h.trans ae
 |outgrown=>exact ae.elim
theorem xk{P:Program}{f:FuncId}{args:Array Value}{w:World}{R:Ending->World->Prop}(ei:∀w',¬R .outgrown w')(h:Calls P f args w R)(c:Frame)(cs:List Frame):
  nX P (lone (Frame.enter P f args .normal) (c::cs) w) c cs R:=by
 obtain⟨e,w',ca,ah,ab,_,aq⟩:=h (c::cs)
 refine⟨e,w',ah,?_⟩
 cases e with
 |returned v=>exact Steps.trans ab (.one (step_leave_returned aq))
 |panicked cm=>exact Steps.trans ab (.one (step_leave_panicked aq))
 |outgrown=>exact(ei _ ah).elim
def fE(μ:aW)(kind:CallKind)(cs0:List Frame):aJ->List Frame->Prop
 |.none,cs=>cs=cs0/\∀ca:Frame,ca.kind=kind->tryRecover ca cs0=none
 |.act v,cs=>cs=cs0/\kind=.deferred/\∃c rest u,cs0=c::rest/\c.mode=.panicking [{v:=u,recovered:=false}]/\aS μ v u
 |.done v,cs=>kind=.deferred/\∃c rest u,cs0=c::rest/\c.mode=.panicking [{v:=u,recovered:=false}]/\aS μ v u/\cs={c with mode:=.panicking [{v:=u,recovered:=true}]}::rest
theorem fE.mono{μ az:aW}(hle:dm μ az){kind:CallKind}{cs0 cs:List Frame}{q:aJ}(h:fE μ kind cs0 q cs):fE az kind cs0 q cs:=by
 cases q with
 |none=>exact h
 |act v=>obtain⟨h1,aa,c,rest,u,ao,aM,bA⟩:=h;exact⟨h1,aa,c,rest,u,ao,aM,bA.mono hle⟩
 |done v=>obtain⟨h1,c,rest,u,ao,aM,bA,dB⟩:=h;exact⟨h1,c,rest,u,ao,aM,bA.mono hle,dB⟩
section
variable {P:Program} {μ:aW} {H:J} {w:World}
theorem qv{b:Frame}{a:Act}{ops:Array Oper}{i:Nat}{rest:List Nat}{k:List Item}{cs:List Frame}{s:Sem Next}
  (b0:stepG P true {frame:=b.atR a (.inRegion ops (i::rest)::k),callers:=cs,status:=.running,dying:=none} w=stepG.apply P true (b.atR a (.inRegion ops (i::rest)::k)) cs none s w):
  (∀v w',s.run P w=.ok (.value v) w'->Steps P (lone (b.atR a (.inRegion ops (i::rest)::k)) cs w) (lone ((b.atR a (.inRegion ops (i::rest)::k)).finish v) cs w'))/\
  (∀w',s.run P w=.ok .skip w'->Steps P (lone (b.atR a (.inRegion ops (i::rest)::k)) cs w) (lone ((b.atR a (.inRegion ops (i::rest)::k)).finish undef) cs w'))/\
  (∀u w',s.run P w=.halt (.panic u) w'->Steps P (lone (b.atR a (.inRegion ops (i::rest)::k)) cs w) (lone ((b.atR a (.inRegion ops (i::rest)::k)).raise [{v:=u,recovered:=false}]) cs w'))/\
  (∀d w',s.run P w=.ok (.defer d) w'->Steps P (lone (b.atR a (.inRegion ops (i::rest)::k)) cs w) (lone (b.atR ({a with defers:=d::a.defers}.put ((ops[i]?).bind (·.dst)) undef) (.inRegion ops rest::k)) cs w'))/\
  (∀f args w',s.run P w=.ok (.enter f args) w'->Steps P (lone (b.atR a (.inRegion ops (i::rest)::k)) cs w) (lone (Frame.enter P f args .normal) (b.atR a (.inRegion ops (i::rest)::k)::cs) w'))/\
  (∀l f tmps assign body w',s.run P w=.ok (.round l f tmps assign body) w'->Steps P (lone (b.atR a (.inRegion ops (i::rest)::k)) cs w) (lone (Frame.round l f tmps assign body .normal) (b.atR a (.inRegion ops (i::rest)::k)::cs) w'))/\
  (b.roundOf=none->∀w',s.run P w=.ok .recover w'->∀v bq,tryRecover (b.atR a (.inRegion ops (i::rest)::k)) cs=some (v,bq)->Steps P (lone (b.atR a (.inRegion ops (i::rest)::k)) cs w) (lone ((b.atR a (.inRegion ops (i::rest)::k)).finish v) bq w'))/\
  (b.roundOf=none->∀w',s.run P w=.ok .recover w'->tryRecover (b.atR a (.inRegion ops (i::rest)::k)) cs=none->Steps P (lone (b.atR a (.inRegion ops (i::rest)::k)) cs w) (lone ((b.atR a (.inRegion ops (i::rest)::k)).finish .nilIface) cs w')):=by
 refine⟨λv w' ah=>.one (step_lone_go ?_),λw' ah=>.one (step_lone_go ?_),λu w' ah=>.one (step_lone_go ?_),λd w' ah=>.one (step_lone_go ?_),λf args w' ah=>.one (step_lone_go ?_),λl f tmps assign body w' ah=>.one (step_lone_go ?_),λad w' ah v bq bd=>.one (step_lone_go ?_),λad w' ah bd=>.one (step_lone_go ?_)⟩
 · rw[b0];simp[stepG.apply,ah]
 · rw[b0];simp[stepG.apply,ah]
 · rw[b0];simp[stepG.apply,ah]
 · rw[b0]
   have:=Frame.finish_atR b {a with defers:=d::a.defers} ops i rest k undef
   simp only[stepG.apply,Sem.runT_eq,ah,GStep.bare_after]
   exact congrArg (λca=>GStep.go {frame:=ca,callers:=cs,status:=.running,dying:=none} w') this
 · rw[b0];simp[stepG.apply,ah,Frame.atR]
 · rw[b0];simp[stepG.apply,ah,Frame.atR]
 · rw[b0]
   have hR:(b.atR a (.inRegion ops (i::rest)::k)).roundOf=none:=ad
   simp[stepG.apply,ah,hR,bd]
 · rw[b0]
   have hR:(b.atR a (.inRegion ops (i::rest)::k)).roundOf=none:=ad
   simp[stepG.apply,ah,hR,bd]
def xl(P:Program)(μ:aW)(H:J)(w:World)(b:Frame)(a:Act)(ops:Array Oper)(o:Oper)(i:Nat)(rest:List Nat)(k:List Item)(cs0 cs:List Frame):tK->Prop
 |.ok v d' aR ax=>∃az w' u ig bq,Steps P (lone (b.atR a (.inRegion ops (i::rest)::k)) cs w) (lone (b.atR {tmps:=(a.put o.dst u).tmps,defers:=ig} (.inRegion ops rest::k)) bq w')/\
   aS az v u/\a8 az ax w'/\bE μ H w az ax w'/\eb az d' ig/\fE az b.kind cs0 aR bq
 |.bm v d' aR ax=>∃az w' u,Steps P (lone (b.atR a (.inRegion ops (i::rest)::k)) cs w) (lone {b.atR a (.inRegion ops (i::rest)::k) with mode:=.panicking [{v:=u,recovered:=false}]} cs w')/\
   aS az v u/\a8 az ax w'/\bE μ H w az ax w'/\eb az d' a.defers/\fE az b.kind cs0 aR cs
 |.fail _=>True
theorem put_defers(a:Act)(dst:Option Tmp)(u:Value):(a.put dst u).defers=a.defers:=by cases dst<;>rfl
theorem si(a:Act)(dst:Option Tmp)(u:Value):a.put dst u={tmps:=(a.put dst u).tmps,defers:=a.defers}:=by cases dst<;>rfl
theorem Lf(a:Act)(ds:List Deferred)(dst:Option Tmp)(u:Value):({a with defers:=ds}:Act).put dst u={tmps:=(a.put dst u).tmps,defers:=ds}:=by cases dst<;>rfl
theorem z6{b:Frame}{a:Act}{ops:Array Oper}{o:Oper}{i:Nat}{rest:List Nat}{k:List Item}{cs0 cs:List Frame}(aN:ops[i]? =some o){d:List bo}{q:aJ}
  (al:eb μ d a.defers)(bj:fE μ b.kind cs0 q cs){r:bL}{m:Machine}(ae:Steps P (lone (b.atR a (.inRegion ops (i::rest)::k)) cs w) m)
  (aq:nX P m (b.atR a (.inRegion ops (i::rest)::k)) cs (Ends μ H w r)):xl P μ H w b a ops o i rest k cs0 cs (tL d q r):=by
 obtain⟨e,w',ah,b0⟩:=aq
 cases r with
 |ret v ax=>
  obtain⟨az,u,rfl,h1,aa,ao⟩:=ah
  refine⟨az,w',u,a.defers,cs,ae.trans ?_,h1,aa,ao,al.mono ao.le,bj.mono ao.le⟩
  have:(b.atR a (.inRegion ops (i::rest)::k)).finish u=b.atR {tmps:=(a.put o.dst u).tmps,defers:=a.defers} (.inRegion ops rest::k):=by
   rw[Frame.finish_atR,aN,<-si];rfl
  rw[<-this];exact b0
 |bm v ax=>
  obtain⟨az,u,rfl,h1,aa,ao⟩:=ah
  exact⟨az,w',u,ae.trans b0,h1,aa,ao,al.mono ao.le,bj.mono ao.le⟩
 |fail w=>trivial
theorem xm{r:bL}(h:r.jQ=false):∃s,r=.fail s:=by
 cases r with
 |fail s=>exact⟨s,rfl⟩
 |_=>cases h
theorem xn{r:bL}(aj:r.jQ=true):∀w',¬Ends μ H w r .outgrown w':=by
 intro w' h
 cases r with
 |ret v ax=>obtain⟨_,_,e,_⟩:=h;cases e
 |bm v ax=>obtain⟨_,_,e,_⟩:=h;cases e
 |fail s=>cases aj
theorem Ee{call:cM->List I->J->bL}(ab:ie P call)(af:a8 μ H w)(lR:fi P μ){b:Frame}{a:Act}{ops:Array Oper}{o:Oper}{i:Nat}{rest:List Nat}{k:List Item}{cs0 cs:List Frame}
  (aN:ops[i]? =some o){gd:Option (I×Bool)}(dN:∀kS,c8 gd=some kS->Region.wanted o (yielded ops a.tmps)=kS){g:Operand->I}(aj:∀x,aS μ (g x) (a.eval x)){d:List bo}{q:aJ}
  (al:eb μ d a.defers)(bj:fE μ b.kind cs0 q cs){inR:Bool}(dU:inR=b.roundOf.isSome):xl P μ H w b a ops o i rest k cs0 cs (c5 P inR call gd o g d q H):=by
 unfold c5
 have hn:∀u,(b.atR a (.inRegion ops (i::rest)::k)).finish u=b.atR {tmps:=(a.put o.dst u).tmps,defers:=a.defers} (.inRegion ops rest::k):=λu=>by
  rw[Frame.finish_atR,aN,<-si];rfl
 split
 · trivial
 · rename_i hw
   have uB:=dN _ hw
   refine⟨μ,w,undef,a.defers,cs,?_,⟨[],rfl,rfl⟩,af,bE.refl _ _ _,al,bj⟩
   have ae:=stepR_op_skip (P:=P) (b:=b) (a:=a) (k:=k) (cs:=cs) (w:=w) (ops:=ops) (i:=i) (rest:=rest) (by simp[aN,uB])
   rw[aN] at ae
   have he:a.put ((some o).bind (·.dst)) undef={tmps:=(a.put o.dst undef).tmps,defers:=a.defers}:=si a o.dst undef
   rw[he] at ae
   exact .one ae
 · rename_i hw
   have qw:=dN _ hw
   have b0:=stepGR_op (P:=P) (b:=b) (a:=a) (k:=k) (cs:=cs) (w:=w) (rest:=rest) aN qw
   have dH:=Eb (P:=P) af o aj
   by_cases Ef:b.roundOf.isSome=true/\∃c,o.op=.defer c
   · obtain⟨ah,c,Lg⟩:=Ef
     have:(∃x,bV P o g H=.lu x)\/∃s,bV P o g H=.fail s:=by
      unfold bV
      rw[Lg]
      simp only
      split
      · split
        · exact .inl ⟨_,rfl⟩
        · exact .inr ⟨_,rfl⟩
      · exact .inr ⟨_,rfl⟩
     rcases this with⟨x,e⟩|⟨s,e⟩
     · rw[e];simp only[dU,ah,if_true];trivial
     · rw[e];trivial
   · have kT:o.semAt b.roundOf a.eval=execOp a.eval o:=by
       cases gb:b.roundOf with
       |none=>rfl
       |some l=>exact Oper.semAt_eq _ _ _ λc e=>Ef ⟨by rw[gb];rfl,c,e⟩
     rw[kT] at b0
     obtain⟨g1,g2,g3,g4,g5,g6,g7,g8⟩:=qv b0
     cases dr:bV P o g H with
     |val v ax=>
      rw[dr] at dH
      obtain⟨az,w',u,ah,h1,aa,ao⟩:=dH
      refine⟨az,w',u,a.defers,cs,?_,h1,aa,ao,al.mono ao.le,bj.mono ao.le⟩
      rw[<-hn]
      rcases ah with ah|⟨rfl,ah⟩
      · exact g1 _ _ ah
      · exact g2 _ ah
     |bm v ax=>
      rw[dr] at dH
      obtain⟨rfl,u,ah,h1⟩:=dH
      exact⟨μ,w,u,g3 _ _ ah,h1,af,bE.refl _ _ _,al,bj⟩
     |call f args ax=>
      rw[dr] at dH
      obtain⟨rfl,vs,ah,h1⟩:=dH
      simp only
      cases bI:(call (.fn f) args ax).jQ with
      |false=>obtain⟨s,ae⟩:=xm bI;rw[ae];trivial
      |true=>
       rcases ab.fn f args ax bI μ w vs af lR h1 with⟨v,w',aK,a_⟩|⟨aK,a_⟩
       · rw[<-ah] at aK
         have ae:=g1 _ _ aK
         cases Eg:call (.fn f) args ax with
         |fail s=>trivial
         |ret v' ch=>
          rw[Eg] at a_
          obtain⟨az,u,e,aa,ao,aM⟩:=a_
          cases e
          exact⟨az,w',_,a.defers,cs,by rw[<-hn];exact ae,aa,ao,aM,al.mono aM.le,bj.mono aM.le⟩
         |bm v' ch=>
          rw[Eg] at a_
          obtain⟨az,u,e,aa,ao,aM⟩:=a_
          cases e
       · rw[<-ah] at aK
         have ae:=g5 _ _ _ aK
         exact z6 aN al bj ae (xk (xn bI) a_ _ _)
     |bY l args ax=>
      rw[dr] at dH
      obtain⟨rfl,dy,vs,aq,ah,h1⟩:=dH
      simp only
      cases bI:(call (.bY l) args ax).jQ with
      |false=>obtain⟨s,ae⟩:=xm bI;rw[ae];trivial
      |true=>
       obtain⟨f,tmps,as,bS,aK,a_⟩:=ab.bY l args ax bI μ w dy vs af lR aq h1
       rw[<-ah] at aK
       have ae:=g6 _ _ _ _ _ _ aK
       exact z6 aN al bj ae (a_ _ _)
     |lu x=>
      rw[dr] at dH
      obtain⟨o3,ah,h1⟩:=dH
      simp only
      split
      · trivial
      · refine⟨μ,w,undef,o3::a.defers,cs,?_,⟨[],rfl,rfl⟩,af,bE.refl _ _ _,⟨_,_,rfl,h1,al⟩,bj⟩
        have ae:=g4 _ _ ah
        rw[aN] at ae
        have he:({a with defers:=o3::a.defers}:Act).put ((some o).bind (·.dst)) undef={tmps:=(a.put o.dst undef).tmps,defers:=o3::a.defers}:=Lf a _ o.dst undef
        rw[he] at ae
        exact ae
     |p2=>
      rw[dr] at dH
      have ah:(execOp a.eval o).run P w=.ok .recover w:=dH
      simp only
      split
      · trivial
      · rename_i w3
        have uC:b.roundOf=none:=by
         cases gb:b.roundOf with
         |none=>rfl
         |some l=>rw[gb] at dU;exact absurd dU w3
        have hk:(b.atR a (.inRegion ops (i::rest)::k)).kind=b.kind:=rfl
        split
        · obtain⟨rfl,bd⟩:=bj
          refine⟨μ,w,.nilIface,a.defers,cs,?_,rfl,af,bE.refl _ _ _,al,⟨rfl,bd⟩⟩
          rw[<-hn]
          exact g8 uC _ ah (bd _ hk)
        · have sj:=bj
          obtain⟨kU,c,rs,u,aw,ar,bn,rfl⟩:=bj
          refine⟨μ,w,.nilIface,a.defers,_,?_,rfl,af,bE.refl _ _ _,al,sj⟩
          rw[<-hn]
          refine g8 uC _ ah ?_
          have z7:(b.atR a (.inRegion ops (i::rest)::k)).kind=.deferred:=hk.trans kU
          simp only[tryRecover,z7]
        · obtain⟨rfl,kU,c,rs,u,aw,ar,bn⟩:=bj
          subst aw
          refine⟨μ,w,u,a.defers,{c with mode:=.panicking [{v:=u,recovered:=true}]}::rs,?_,bn,af,bE.refl _ _ _,al,⟨kU,c,rs,u,rfl,ar,bn,rfl⟩⟩
          rw[<-hn]
          refine g7 uC _ ah _ _ ?_
          have z7:(b.atR a (.inRegion ops (i::rest)::k)).kind=.deferred:=hk.trans kU
          simp only[tryRecover,z7,ar]
     |fail s=>trivial
end
end aU
