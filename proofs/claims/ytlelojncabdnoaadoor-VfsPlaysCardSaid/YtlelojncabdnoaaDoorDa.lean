/-
  PROVED HERE: contracts of functions (Da). No condition beside each statement's own.
-/
import Derived.Test.YtlelojncabdnoaaDoorSxa
import Derived.Test.YtlelojncabdnoaaDoorTx
import Derived.Test.YtlelojncabdnoaaDoorSxb
import Derived.Test.YtlelojncabdnoaaDoorAx
import Derived.Test.YtlelojncabdnoaaDoorProg
import Derived.Test.YtlelojncabdnoaaDoorSy
set_option linter.unusedVariables false
set_option linter.unusedSimpArgs false
set_option maxRecDepth 100000
set_option maxHeartbeats 1000000
namespace aS
open Go Go.Proofs
noncomputable abbrev al:Program:=Tryd.prog
end aS
namespace Go.Proofs.hD
open Go aS Go.Proofs
variable {Q:aU->aB->Prop} {R:bM->Prop} (call:cJ)
theorem PZ(l dq m k:Nat)(h g:J)
  (H1:aO h dq 0=some (.map m))
  (cy:yL h (I.map m)=some (I.ptr k 0,g)):
  aZ al Tryd.f42 none call [0] (aR [(0,.b7 l),(1,aq dq)] h) (.nrm)
   (aR [(0,.b7 l),(6,aq k)] g):=
 bK [0,6] [.v (.map m),.hz (aq k) g] 16 2 35 (lk H1 cy bJ)
theorem P0(h:J):
  aZ al Tryd.f42 none call [1,0,0,1] (aR [(8,.bool false)] h) (.exit 0)
   (aR [] h):=
 bK [] [.b false] 16 1 1 bJ
theorem P1(l it n:Nat)(key p x:List UInt8)(h g g2:J)
  (H1:q3 h (I.ptr it 0)=some (I.aF [I.str key,I.agg [I.str p,I.str x,aK n]]))
  (cy:aS.storeCells (J.push h (ay [.str [],.str [],aK 0] 40)) (J.n h) 0 [.str p,.str x,aK n]=some g)
  (dn:aS.loadCells g (J.n h) 0 3=some [.str p,.str x,aK n])
  (il:call (.b7 l) [.agg [.str p,.str x,aK n]] g=bM.ret (.bool true) g2):
  aZ al Tryd.f42 none call [1,0,0,1] (aR [(0,.b7 l),(6,aq it),(8,.bool true)] h) (.nrm)
   (aR [(0,.b7 l),(6,aq it)] g2):=
 bK [0,6] [.b true,.v (.aF [.str key,.agg [.str p,.str x,aK n]]),.hz (.aF []) g,.v (.agg [.str p,.str x,aK n]),.c (.bool true) g2,.b false] 16 6 144470 (qu H1 (⟨by kernel_rfl,cy,rfl⟩:some 3=some 3/\aS.storeCells (J.push h (b8.cells [I.str [],I.str [],aK 0] 40 e3.own 0 0)) (J.n h) 0 [I.str p,I.str x,aK n]=some g/\I.aF []=I.aF []) dn il (by kernel_rfl:(!true)=false) bJ)
theorem P2(dq:Nat)(h:J):
  aZ al Tryd.f53 none call [0] (aR [(0,.bn),(1,.fn 42 [] [aq dq])] h) (.nrm)
   (aR [(1,.fn 42 [] [aq dq]),(2,aq (J.n h)),(4,.bn)] (J.push h (ay [.bn] 32))):=
 bK [1,2,4] [] 16 0 0 bJ
theorem P3(s dq:Nat)(h:J):
  aZ al Tryd.f53 none call [1,0,0] (aR [(1,.fn 42 [] [aq dq]),(2,aq s),(4,.bn)] h) (.nrm)
   (aR [(2,aq s),(4,.bn),(6,.fn 42 [] [aq dq])] h):=
 bK [2,4,6] [] 16 0 0 bJ
theorem P4(l s n:Nat)(p x:List UInt8)(h g:J)
  (H1:aS.storeCells (J.push h (ay [.str [],.str [],aK 0] 40)) (J.n h) 0 [.str p,.str x,aK n]=some g):
  aZ al Tryd.f53 (some l) call [1,0,1,0,0] (aR [(2,aq s),(7,.agg [.str p,.str x,aK n])] h) (.nrm)
   (aR [(2,aq s),(5,aq (J.n h))] g):=
 bK [2,5] [.hz (.aF []) g] 16 1 2 (hc (⟨by kernel_rfl,H1,rfl⟩:some 3=some 3/\aS.storeCells (J.push h (b8.cells [I.str [],I.str [],aK 0] 40 e3.own 0 0)) (J.n h) 0 [I.str p,I.str x,aK n]=some g/\I.aF []=I.aF []) bJ)
theorem P5(l s f n q k:Nat)(p x:List UInt8)(v:I)(h g g2:J)
  (H1:aO h s 0=some v)
  (cy:aS.loadCells h f 0 3=some [.str p,.str x,aK n])
  (dn:en al (J.push h (b8.cells [I.str p,I.str x,aK n] 40 e3.own 0 0)) 32 (some 32) v (I.slice (J.n h) 0 1 (cb.exact 1))=some (I.slice q 0 k (cb.aH 3),g))
  (il:aS.storeCells g s 0 [.slice q 0 k (.aH 3)]=some g2):
  aZ al Tryd.f53 (some l) call [1,0,1,0,1] (aR [(2,aq s),(5,aq f)] h) (.nrm)
   (aR [(2,aq s)] g2):=
 bK [2] [.v v,.v (.agg [.str p,.str x,aK n]),.hz (.slice q 0 k (.aH 3)) g,.hz (.aF []) g2] 16 4 9029 (ll H1 cy dn (⟨by kernel_rfl,il,rfl⟩:some 1=some 1/\aS.storeCells g s 0 [I.slice q 0 k (cb.aH 3)]=some g2/\I.aF []=I.aF []) bJ)
theorem P6(s b:Nat)(v:I)(h:J)
  (H1:aO h s 0=some v):
  aZ al Tryd.f53 none call [1,1] (aB.mk [(2,aq s)] [.collected b] .none h) (.ret)
   (aB.mk [(4,v)] [.collected b] .none h):=
 bK [4] [.v v] 16 1 2 (hc H1 bJ)
theorem P7(dq:Nat)(h:J):
  aZ al Tryd.f40 none call [0] (aR [(0,.fn 42 [] [aq dq])] h) (.nrm)
   (aR [(0,.fn 42 [] [aq dq])] h):=
 bK [0] [] 16 0 0 bJ
theorem P8(dq:Nat)(h:J):
  aZ al Tryd.f22 none call [0] (aR [(0,.fn 42 [] [aq dq]),(1,.fn 24 [] [])] h) (.nrm)
   (aR [(0,.fn 42 [] [aq dq]),(1,.fn 24 [] [])] h):=
 bK [0,1] [] 16 0 0 bJ
theorem H2(v:I)(h g:J)
  (H1:call (.fn 41) [v,.fn 24 [] []] h=bM.ret (.aF []) g):
  aZ al Tryd.f22 none call [1,1] (aR [(1,.fn 24 [] []),(5,v)] h) (.ret)
   (aR [(4,v)] g):=
 bK [4] [.c (.aF []) g] 16 1 2 (hc H1 bJ)
theorem P9(v:I)(h:J):
  aZ al Tryd.f40 none call [1,1] (aR [(2,v)] h) (.ret)
   (aR [(2,v)] h):=
 bK [2] [] 16 0 0 bJ
structure bV where
 p:List UInt8
 x:List UInt8
 n:Nat
abbrev cW(d:bV):List I:=[.str d.p,.str d.x,aK d.n]
theorem r8:pa al cW 3 40 32 where
 hu:=by kernel_rfl
 gn:=by kernel_rfl
 info:=by
  obtain⟨i,ag⟩:∃i,al.info? 40=some i:=Option.isSome_iff_exists.1 (by kernel_rfl)
  refine⟨i,ag,?_,?_⟩
  · have:(al.info? 40).map (·.size)=some 3:=by kernel_rfl
    rw[ag] at this;exact Option.some.inj this
  · have:(al.info? 40).map (λi=>Nat.ble i.bytes 1000)=some true:=by kernel_rfl
    rw[ag] at this
    exact Nat.le_of_ble_eq_true (Option.some.inj this)
 zero:=by
  obtain⟨z,aW⟩:∃z,ek al 40=some z:=Option.isSome_iff_exists.1 (by kernel_rfl)
  refine⟨z,aW,?_⟩
  have:(ek al 40).map (·.cells.length)=some 3:=by kernel_rfl
  rw[aW] at this;exact Option.some.inj this
 size:=by kernel_rfl
 len:=λ_=>rfl
 cell:=λ_=>rfl
 pos:=by decide
theorem P_{P:Program}{call:cJ}{l need t cK:Nat}{Γ fY gT:Env}{cA cB:Code}{v:I}{h h1 aa:J}{q bb:az}{e:aU}{r:aN}
  (an:h.get l=some (.loop .ready none need r [t] cA cB cK))(hm:Mod r Γ)
  (aJ:dy P need (some l) call cA ⟨put t v Γ,[],.none,h⟩ .nrm ⟨fY,[],q,h1⟩)(ew:h1.get l=some (.loop .ready none need r [t] cA cB cK))
  (ae:dy P need (some l) call cB ⟨fY,[],.none,h1.set l (some (.loop .busy none need r [t] cA cB cK))⟩ e ⟨gT,[],bb,aa⟩)
  (hk:aa.get l=some (.loop .busy none need r [t] cA cB cK)):
  mj P call l [v] h=Cc l e need r [t] cA cB cK aa:=by
 obtain⟨ba,av,m1⟩:=aJ _ (hm.put t v)
 obtain⟨bH,au,m2⟩:=ae _ m1
 simp only at av au
 simp only[mj,an,q7,av,xI,ew,au]
 simp only[ta,hk]
 cases e<;>rfl
structure e0 where
 k:List UInt8
 f:bV
 born:Nat
def uj(e:dj):Option e0:=match e.key,e.val with
 |.str k,.agg [.str p,.str x,.int .u64 (.ofNat n)]=>some ⟨k,⟨p,x,n⟩,e.born⟩
 |_,_=>none
theorem wQ{e:dj}{d:e0}(h:uj e=some d):e.key=.str d.k/\e.val=.agg (cW d.f)/\e.born=d.born:=by
 unfold uj at h
 split at h
 · rename_i k p x n h1 aa
   cases h
   exact⟨h1,aa,rfl⟩
 · cases h
inductive ph:List dj->List e0->Prop where
 |nil:ph [] []
 |cons {e es d l}:uj e=some d->ph es l->ph (e::es) (d::l)
theorem ph.uk{es:List dj}{l:List e0}(ar:ph es l):∀e∈es,∃d∈l,uj e=some d:=by
 induction ar with
 |nil=>intro e he;cases he
 |cons h1 aa bc=>
  intro e he
  rcases List.mem_cons.1 he with rfl|he
  · exact⟨_,by simp,h1⟩
  · obtain⟨d,ao,aI⟩:=bc e he;exact⟨d,by simp[ao],aI⟩
theorem ph.Qa{es:List dj}{l:List e0}(ar:ph es l):∀d∈l,∃e∈es,uj e=some d:=by
 induction ar with
 |nil=>intro e he;cases he
 |cons h1 aa bc=>
  intro e he
  rcases List.mem_cons.1 he with rfl|he
  · exact⟨_,by simp,h1⟩
  · obtain⟨d,ao,aI⟩:=bc e he;exact⟨d,by simp[ao],aI⟩
def pj(l:List e0)(S:List Nat):List bV:=(l.filter λd=>S.contains d.born).map (·.f)
theorem Qb{l:List e0}{S:List Nat}(h:∀d∈l,d.born∈S):pj l S=l.map (·.f):=by
 unfold pj
 rw[List.filter_eq_self.2 (λd ak=>by simpa using h d ak)]
theorem H3{S:List Nat}{d:e0}(ad:d.born∉S):∀{l:List e0},(l.map (·.born)).Nodup->d∈l->(pj l (S++[d.born])).Perm (pj l S++[d.f])
 |[],_,h=>by cases h
 |x::l,aC,hm=>by
  have kA:x.born∉l.map (·.born)/\(l.map (·.born)).Nodup:=List.nodup_cons.1 aC
  unfold pj
  rw[List.filter_cons,List.filter_cons]
  by_cases U:x.born=d.born
  · have Qc:x=d:=by
      rcases List.mem_cons.1 hm with h|h
      · exact h.symm
      · exact absurd (List.mem_map.2 ⟨d,h,U.symm⟩) kA.1
    subst Qc
    have av:(l.filter λy=>(S++[x.born]).contains y.born)=l.filter λy=>S.contains y.born:=by
     apply List.filter_congr
     intro y aP
     have:¬y.born=x.born:=λe=>kA.1 (List.mem_map.2 ⟨y,aP,e⟩)
     simp[this]
    have au:(S++[x.born]).contains x.born=true:=by simp
    have bm:S.contains x.born=false:=by simpa using ad
    rw[av,au,bm]
    simp only[if_true,Bool.false_eq_true,if_false,List.map_cons]
    exact(List.perm_append_singleton _ _).symm
  · have pX:d∈l:=by
      rcases List.mem_cons.1 hm with h|h
      · exact absurd (by rw[h]) U
      · exact h
    have bc:=H3 ad kA.2 pX
    have au:(S++[d.born]).contains x.born=S.contains x.born:=by simp[U]
    rw[au]
    cases ab:S.contains x.born with
    |true=>simp only[if_true,List.map_cons,List.cons_append];exact List.Perm.cons _ bc
    |false=>simp only[Bool.false_eq_true,if_false];exact bc
def sD(l:List e0)(S:List Nat):Nat:=(l.filter λd=>!S.contains d.born).length
theorem H4{S:List Nat}{d:e0}(ad:d.born∉S):∀{l:List e0},(l.map (·.born)).Nodup->d∈l->sD l (S++[d.born])<sD l S
 |[],_,h=>by cases h
 |x::l,aC,hm=>by
  have kA:x.born∉l.map (·.born)/\(l.map (·.born)).Nodup:=List.nodup_cons.1 aC
  have mono:∀l:List e0,(l.filter λy=>!(S++[d.born]).contains y.born).length<=(l.filter λy=>!S.contains y.born).length:=λl=>by
   induction l with
   |nil=>exact Nat.le_refl _
   |cons y l bc=>
    rw[List.filter_cons,List.filter_cons]
    by_cases h1:y.born∈S
    · have bO:(!(S++[d.born]).contains y.born)=false:=by simp[h1]
      have a2:(!S.contains y.born)=false:=by simp[h1]
      rw[bO,a2];exact bc
    · have a2:(!S.contains y.born)=true:=by simp[h1]
      rw[a2]
      split
      · simp only[if_true,List.length_cons];omega
      · simp only[if_true,List.length_cons];omega
  unfold sD
  rw[List.filter_cons,List.filter_cons]
  by_cases U:x.born=d.born
  · have bO:(!(S++[d.born]).contains x.born)=false:=by simp[U]
    have a2:(!S.contains x.born)=true:=by rw[U];simpa using ad
    rw[bO,a2]
    have:=mono l
    simp only[Bool.false_eq_true,if_false,if_true,List.length_cons];omega
  · have pX:d∈l:=by
      rcases List.mem_cons.1 hm with h|h
      · exact absurd (by rw[h]) U
      · exact h
    have bc:=H4 ad kA.2 pX
    unfold sD at bc
    have bO:(!(S++[d.born]).contains x.born)=(!S.contains x.born):=by simp[U]
    rw[bO]
    cases ab:(!S.contains x.born) with
    |true=>simp only[if_true,List.length_cons];omega
    |false=>simp only[Bool.false_eq_true,if_false];exact bc
noncomputable def qH:Code:=sub (c5 Tryd.f53) [1,0,1,0,0]
noncomputable def qI:Code:=sub (c5 Tryd.f53) [1,0,1,0,1]
noncomputable abbrev zx(need:Nat)(r:aN)(cK:Nat):b8:=.loop .ready none need r [7] qH qI cK
structure lu(B:Nat)(bI:J)(m clock need:Nat)(r:aN)(S:List Nat)(ds:List bV)(g:J):Prop where
 low:∀b,b<B->g.get b=bI.get b
 n:B+4<=g.n
 cK:g.get (B+1)=some (.defrd (some []))
 hM:g.get (B+2)=some (zx need r (B+1))
 it:g.get (B+3)=some (.mapIter (some m) clock S clock)
 cell:∃v,g.get B=some (ay [v] 32)/\fU cW 3 40 (B+4) g v ds
theorem Qd(b3:Nat->List I->J->Option (I×J))(n:Nat){B m clock need:Nat}{bI g:J}{r:aN}{S:List Nat}{ds:List bV}(aC:need=bG Tryd.f53)(aj:Mod r [(2,.ptr B 0)])(w:lu B bI m clock need r S ds g)(d:bV)(ar:ds.length<=100000):
  ∃ct,cF al b3 (n+1) (.b7 (B+2)) [.agg (cW d)] g=.ret (.bool true) ct/\lu B bI m clock need r S (ds++[d]) ct:=by
 subst aC
 obtain⟨v,ab,aQ⟩:=w.cell
 have oy:=w.n
 obtain⟨h1,gN⟩:∃h1,h1=g.push (ay (cW d) 40):=⟨_,rfl⟩
 have aE:h1.n=g.n+1:=by rw[gN];rfl
 have XN:∀b,b<g.n->h1.get b=g.get b:=λb ae=>by rw[gN];exact ch ae rfl
 obtain⟨aa,rH⟩:∃aa,aa=(g.push (ay [.str [],.str [],aK 0] 40)).set g.n (some (ay (cW d) 40)):=⟨_,rfl⟩
 have a_:aa.n=g.n+1:=by rw[rH];rfl
 have H5:∀b,b<g.n->aa.get b=g.get b:=λb ae=>by rw[rH];exact c9 (by omega) (ch ae rfl)
 have Qe:aa.get g.n=some (ay (cW d) 40):=by rw[rH];exact e8 rfl
 have eN:=P4 (cF al b3 n) (B+2) B d.n d.p d.x g aa (by rw[rH];exact gI (c8 rfl) rfl rfl)
 obtain⟨ae,wR⟩:∃ae,ae=aa.set (B+2) (some (.loop .busy none (bG Tryd.f53) r [7] qH qI (B+1))):=⟨_,rfl⟩
 have lv:ae.n=g.n+1:=by rw[wR];exact a_
 have C1:∀b,b<g.n->¬b=B+2->ae.get b=g.get b:=λb h1 aa=>by rw[wR];exact c9 aa (H5 b h1)
 have Qf:ae.get g.n=some (ay (cW d) 40):=by rw[wR];exact c9 (by omega) Qe
 have Qg:ae.get (B+2)=some (.loop .busy none (bG Tryd.f53) r [7] qH qI (B+1)):=by rw[wR];exact e8 rfl
 have j3:ae.get B=some (ay [v] 32):=(C1 B (by omega) (by omega)).trans ab
 have Bw:fU cW 3 40 (B+4) ae v ds:=by
  rcases aQ with aQ|⟨p,av,au,bm,cN,fE⟩
  · exact .inl aQ
  · exact .inr ⟨p,av,au,(C1 p fE (by omega)).trans bm,cN,by omega⟩
 obtain⟨a8,um⟩:∃a8,a8=ae.push (ay (cW d) 40):=⟨_,rfl⟩
 have XO:a8.n=g.n+2:=by rw[um];show ae.n+1=_;omega
 have dW:fU cW 3 40 (B+4) a8 v ds:=Bw.mono (Ext.qt (Nat.le_refl _) (Ext.refl _ _)|> λe=>by rw[um];exact e) (Nat.le_refl _)
 obtain⟨v2,g3,bO,a2,a3,a4,a5⟩:=Ha r8 (es:=[d]) dW (by omega) (by rw[um];exact Ci r8 ae 40 d) (by simp;omega)
 have b9:∀c,c<B+4->∀n cp,v≠ .slice c 0 n cp:=λc dt n cp e=>by
  rcases aQ with⟨av,_⟩|⟨p,av,_,_,cN,_⟩
  · rw[e] at av;cases av
  · rw[e] at av;cases av;omega
 have zy:∀b,b<B+4->¬b=B+2->g3.get b=g.get b:=λb h1 aa=>by
  rw[a5 b (by omega) (b9 b h1),um]
  exact ch (by omega) (C1 b (by omega) aa)
 have Qh:g3.get (B+2)=some (.loop .busy none (bG Tryd.f53) r [7] qH qI (B+1)):=by
  rw[a5 (B+2) (by omega) (b9 _ (by omega)),um]
  exact ch (by omega) Qg
 have Qi:g3.get B=some (ay [v] 32):=(zy B (by omega) (by omega)).trans ab
 obtain⟨bb,rfl,cn,fT,kg,pf⟩:∃p,v2=.slice p 0 (ds++[d]).length (.aH 3)/\0<(ds++[d]).length/\g3.get p=some (.cells (cc cW (ds++[d])) 40 .aH 0 0)/\B+4<=p/\p<g3.n:=by
  rcases a2 with⟨_,e⟩|h
  · simp at e
  · exact h
 obtain⟨g4,pk⟩:∃g4,g4=g3.set B (some (ay [.slice bb 0 (ds++[d]).length (.aH 3)] 32)):=⟨_,rfl⟩
 have CP:=P5 (cF al b3 n) (B+2) B g.n d.n bb (ds++[d]).length d.p d.x v ae g3 g4 (ld1 j3 rfl) (ih Qf rfl) (by rw[<-um];exact bO) (by rw[pk];exact gI Qi rfl rfl)
 have hk:g4.get (B+2)=some (.loop .busy none (bG Tryd.f53) r [7] qH qI (B+1)):=by rw[pk];exact c9 (by omega) Qh
 have dK:=P_ (P:=al) (call:=cF al b3 n) (t:=7) (Γ:=[(2,.ptr B 0)]) (cA:=qH) (cB:=qI) (v:=.agg (cW d)) w.hM aj
  (dy.pre (st1:=⟨put 7 (.agg (cW d)) [(2,.ptr B 0)],[],.none,g⟩) eN ⟨rfl,rfl,trivial⟩ rfl rfl rfl) ((H5 (B+2) (by omega)).trans w.hM) (by rw[<-wR];exact CP) hk
 refine⟨_,dK,?_,?_,?_,?_,?_,?_⟩
 · intro b ae
   show(g4.set (B+2) _).get b=_
   rw[pk]
   exact c9 (by omega) (c9 (by omega) ((zy b (by omega) (by omega)).trans (w.low b ae)))
 · show B+4<=g4.n
   rw[pk];show B+4<=g3.n;omega
 · show(g4.set (B+2) _).get (B+1)=_
   rw[pk]
   exact c9 (by omega) (c9 (by omega) ((zy _ (by omega) (by omega)).trans w.cK))
 · exact e8 rfl
 · show(g4.set (B+2) _).get (B+3)=_
   rw[pk]
   exact c9 (by omega) (c9 (by omega) ((zy _ (by omega) (by omega)).trans w.it))
 · refine⟨.slice bb 0 (ds++[d]).length (.aH 3),?_,.inr ⟨bb,rfl,cn,?_,kg,?_⟩⟩
   · show(g4.set (B+2) _).get B=_
     rw[pk]
     exact c9 (by omega) (e8 rfl)
   · show(g4.set (B+2) _).get bb=_
     rw[pk]
     exact c9 (by omega) (c9 (by omega) fT)
   · show bb<g4.n
     rw[pk];exact pf
theorem lu.top{B m clock need:Nat}{bI g ct:J}{r:aN}{S:List Nat}{ds:List bV}(w:lu B bI m clock need r S ds g)(aC:g.n<=ct.n)(an:∀b,b<g.n->ct.get b=g.get b):lu B bI m clock need r S ds ct:=by
 have:=w.n
 obtain⟨v,h1,aa⟩:=w.cell
 refine⟨λb ae=>(an b (by omega)).trans (w.low b ae),by omega,(an _ (by omega)).trans w.cK,(an _ (by omega)).trans w.hM,(an _ (by omega)).trans w.it,v,(an _ (by omega)).trans h1,?_⟩
 rcases aa with aa|⟨p,av,au,bm,cN,fE⟩
 · exact .inl aa
 · exact .inr ⟨p,av,au,(an p fE).trans bm,cN,by omega⟩
theorem lu.step{B m clock need:Nat}{bI g:J}{r:aN}{S:List Nat}{ds:List bV}(w:lu B bI m clock need r S ds g)(b:Nat):lu B bI m clock need r (S++[b]) ds (g.set (B+3) (some (.mapIter (some m) clock (S++[b]) clock))):=by
 have:=w.n
 obtain⟨v,h1,aa⟩:=w.cell
 refine⟨λb ae=>c9 (by omega) (w.low b ae),w.n,c9 (by omega) w.cK,c9 (by omega) w.hM,e8 rfl,v,c9 (by omega) h1,?_⟩
 rcases aa with aa|⟨p,av,au,bm,cN,fE⟩
 · exact .inl aa
 · exact .inr ⟨p,av,au,c9 (by omega) bm,cN,fE⟩
structure qJ(H:J)(dq m clock:Nat)(es:List dj)(l:List e0):Prop where
 ab:aO H dq 0=some (.map m)
 hm:H.get m=some (.map es clock)
 hY:ph es l
 dG:(l.map (·.born)).Nodup
 lt:∀d∈l,d.born<clock
 len:l.length<=100000
 Qj:dq<H.n
 k7:m<H.n
theorem Qk{l:List e0}(aC:(l.map (·.born)).Nodup):∀a∈l,∀b∈l,a.born=b.born->a=b:=by
 induction l with
 |nil=>intro a aJ;cases aJ
 |cons x l bc=>
  have kA:x.born∉l.map (·.born)/\(l.map (·.born)).Nodup:=List.nodup_cons.1 aC
  intro a aJ b ae e
  rcases List.mem_cons.1 aJ with rfl|lX<;>rcases List.mem_cons.1 ae with rfl|iC
  · rfl
  · exact absurd (List.mem_map.2 ⟨b,iC,e.symm⟩) kA.1
  · exact absurd (List.mem_map.2 ⟨a,lX,e⟩) kA.1
  · exact bc kA.2 a lX b iC e
theorem H6{b:Nat}:∀{es:List dj} {e:dj},e∈es->(∀x∈es,x.born=e.born->x=e)->e.born=b->q2 b es=some e
 |[],e,he,_,_=>by cases he
 |x::es,e,he,hu,ae=>by
  unfold q2
  by_cases U:x.born=b
  · have:Nat.beq x.born b=true:=by rw[U];exact Nat.beq_refl _
    rw[this]
    rw[hu x (by simp) (U.trans ae.symm)]
  · have:Nat.beq x.born b=false:=by
      cases ab:Nat.beq x.born b with
      |false=>rfl
      |true=>exact absurd (Nat.eq_of_beq_eq_true ab) U
    rw[this]
    rcases List.mem_cons.1 he with rfl|he
    · exact absurd ae U
    · exact H6 he (λx U=>hu x (by simp[U])) ae
theorem qJ.uniq{H:J}{dq m clock:Nat}{es:List dj}{l:List e0}(w:qJ H dq m clock es l):∀x∈es,∀e∈es,x.born=e.born->x=e:=by
 intro x U e he ae
 obtain⟨Ql,Qm,Qn⟩:=w.hY.uk x U
 obtain⟨Qo,Qp,Qq⟩:=w.hY.uk e he
 obtain⟨bO,a2,a3⟩:=wQ Qn
 obtain⟨ck,cn,fT⟩:=wQ Qq
 have:=Qk w.dG Ql Qm Qo Qp (by omega)
 subst this
 obtain⟨bt,v1,b5⟩:=x
 obtain⟨bA,v2,bQ⟩:=e
 simp only at bO a2 a3 ck cn fT
 rw[bO,a2,a3,ck,cn,fT]
def C2(B:Nat)(bI:J)(m clock need:Nat)(r:aN)(l:List e0)(k:Nat)(s:aB):Prop:=∃S ds g,s=⟨[(0,.b7 (B+2)),(6,.ptr (B+3) 0)],[],.none,g⟩/\lu B bI m clock need r S ds g/\ds.Perm (pj l S)/\sD l S=k
def H7(B:Nat)(bI:J)(m clock need:Nat)(r:aN)(l:List e0)(e:aU)(s:aB):Prop:=e=.exit 0/\∃S ds g,s=⟨[],[],.none,g⟩/\lu B bI m clock need r S ds g/\ds.Perm (l.map (·.f))
theorem Qr{b3:Nat->List I->J->Option (I×J)}(hf:Fit al)(iN:hy al b3)(n:Nat){B dq m clock need:Nat}{bI:J}{r:aN}{es:List dj}{l:List e0}(dX:bI.n=B)(w:qJ bI dq m clock es l)(C3:need=bG Tryd.f53)(aj:Mod r [(2,.ptr B 0)])(k:Nat)(s:aB)(ad:C2 B bI m clock need r l k s):
  dp al Tryd.f42 none [1,0,0] s (HP (C2 B bI m clock need r l) k (H7 B bI m clock need r l)):=by
 obtain⟨S,ds,g,rfl,aM,a8,hk⟩:=ad
 have hj:=rU hf iN (n+1)
 have hdr:∀need br,j5 al need br (cF al b3 (n+1)):=λneed br=>tI hf.mixed hj need br
 have H8:m<B:=by have:=w.k7;omega
 have vr:g.get m=some (.map es clock):=(aM.low m H8).trans w.hm
 have oy:=aM.n
 refine dp.seq (p:=[1,0,0]) (R1:=λe s=>e=.nrm/\((s=⟨put 8 (.bool false) [(0,.b7 (B+2)),(6,.ptr (B+3) 0)],[],.none,g⟩/\∀e∈es,e.born∈S)\/∃e∈es,e.born∉S/\s=⟨put 8 (.bool true) [(0,.b7 (B+2)),(6,.ptr (B+3) 0)],[],.none,g.set (B+3) (some (.mapIter (some m) clock (S++[e.born]) clock))⟩)) (by kernel_rfl)
  (dp.next hj (p:=[1,0,0,0]) (it:=6) (a:=7) (t:=8) (by kernel_rfl) (by kernel_rfl) (by kernel_rfl) (by kernel_rfl) (by kernel_rfl) rfl aM.it vr (λe he=>by
   obtain⟨d,d1,d2⟩:=w.hY.uk e he
   obtain⟨_,_,a3⟩:=wQ d2
   have:=w.lt d d1;omega) (Nat.le_refl _) (λdD=>⟨rfl,.inl ⟨rfl,dD⟩⟩) λe he jJ=>⟨rfl,.inr ⟨e,he,jJ,rfl⟩⟩) (λaV h1=>?_) λe aV he h1=>absurd h1.1 he
 obtain⟨_,⟨rfl,fr⟩|⟨e,he,jJ,rfl⟩⟩:=h1
 · have Qs:∀d∈l,d.born∈S:=λd ak=>by
     obtain⟨e,he,ym⟩:=w.hY.Qa d ak
     obtain⟨_,_,a3⟩:=wQ ym
     rw[<-a3];exact fr e he
   exact dp.pre (dp.of_run hj hdr (by kernel_rfl) (P0 (cF al b3 (n+1)) g) (.inr ⟨by simp,rfl,S,ds,g,rfl,aM,by rw[<-Qb Qs];exact a8⟩)) ⟨rfl,trivial⟩ rfl rfl rfl
 · obtain⟨d,d1,d2⟩:=w.hY.uk e he
   obtain⟨bO,a2,a3⟩:=wQ d2
   have qm:=aM.step e.born
   obtain⟨g1,ew⟩:∃g1,g1=g.set (B+3) (some (.mapIter (some m) clock (S++[e.born]) clock)):=⟨_,rfl⟩
   rw[<-ew] at qm⊢
   have Bs:g1.get m=some (.map es clock):=(qm.low m H8).trans w.hm
   have uk:q3 g1 (.ptr (B+3) 0)=some (.aF [.str d.k,.agg (cW d.f)]):=by
    have iX:=H6 he (λx U ae=>w.uniq x U e he ae) rfl
    have A0:uU (S++[e.born])=some e.born:=by rw[AZ];simp
    unfold q3
    simp only[qm.it,Bs,A0,iX,bO,a2]
    rw[Nat.beq_refl]
   obtain⟨g2,hZ⟩:∃g2,g2=(g1.push (ay [.str [],.str [],aK 0] 40)).set g1.n (some (ay (cW d.f) 40)):=⟨_,rfl⟩
   have sE:lu B bI m clock need r (S++[e.born]) ds g2:=qm.top (by rw[hZ];exact Nat.le_succ _) λb ae=>by rw[hZ];exact c9 (by omega) (ch ae rfl)
   have hlen:ds.length<=100000:=by
    rw[a8.length_eq]
    unfold pj
    rw[List.length_map]
    exact Nat.le_trans (List.length_filter_le _ _) w.len
   obtain⟨g3,aP,Qt⟩:=Qd b3 n C3 aj sE d.f hlen
   have H9:d.born∉S:=by rw[<-a3];exact jJ
   have wS:(ds++[d.f]).Perm (pj l (S++[e.born])):=by
    rw[a3]
    exact(a8.append_right [d.f]).trans (H3 H9 w.dG d1).symm
   have bx:sD l (S++[e.born])<k:=by rw[<-hk,a3];exact H4 H9 w.dG d1
   exact dp.pre (dp.of_run hj hdr (by kernel_rfl) (P1 (cF al b3 (n+1)) (B+2) (B+3) d.f.n d.k d.f.p d.f.x g1 g2 g3 uk (by rw[hZ];exact gI (c8 rfl) rfl rfl) (ih (by rw[hZ];exact e8 rfl) rfl) aP)
    (.inl ⟨rfl,_,bx,S++[e.born],ds++[d.f],g3,rfl,Qt,wS,rfl⟩)) ⟨rfl,rfl,rfl,trivial⟩ rfl rfl rfl
theorem Qu{b3:Nat->List I->J->Option (I×J)}(hf:Fit al)(iN:hy al b3)(n:Nat){dq m clock need:Nat}{bI:J}{r:aN}{es:List dj}{l:List e0}(w:qJ bI dq m clock es l)(C3:need=bG Tryd.f53)(aj:Mod r [(2,.ptr bI.n 0)]):
  l_ al 42 [.b7 (bI.n+2),.ptr dq 0] (((bI.push (ay [.bn] 32)).push (.defrd (some []))).push (zx need r (bI.n+1)))
   (λv g=>v=.aF []/\∃S ds,lu bI.n bI m clock need r S ds g/\ds.Perm (l.map (·.f))):=by
 have hj:=rU hf iN (n+1)
 have hdr:∀need br,j5 al need br (cF al b3 (n+1)):=λneed br=>tI hf.mixed hj need br
 obtain⟨ma,uo⟩:∃ma,ma=((bI.push (ay [.bn] 32)).push (.defrd (some []))).push (zx need r (bI.n+1)):=⟨_,rfl⟩
 have Qv:ma.n=bI.n+3:=by rw[uo];rfl
 have C4:∀b,b<bI.n->ma.get b=bI.get b:=λb ae=>by rw[uo];exact ch (by show b<bI.n+1+1;omega) (ch (by show b<bI.n+1;omega) (ch ae rfl))
 have Qw:ma.get bI.n=some (ay [.bn] 32):=by rw[uo];exact ch (by show bI.n<bI.n+1+1;omega) (ch (by show bI.n<bI.n+1;omega) (c8 rfl))
 have Qx:ma.get (bI.n+1)=some (.defrd (some [])):=by rw[uo];exact ch (by show bI.n+1<bI.n+1+1;omega) (c8 rfl)
 have Qy:ma.get (bI.n+2)=some (zx need r (bI.n+1)):=by rw[uo];exact c8 rfl
 rw[<-uo]
 have Qz:=w.k7
 have xW:=w.Qj
 have QA:lu bI.n bI m clock need r [] [] (ma.push (.mapIter (some m) clock [] clock)):=
  ⟨λb ae=>ch (by omega) (C4 b ae),by show bI.n+4<=ma.n+1;omega,ch (by omega) Qx,ch (by omega) Qy,c8 (by omega),.bn,ch (by omega) Qw,.inl ⟨rfl,rfl⟩⟩
 have QB:=PZ (cF al b3 (n+1)) (bI.n+2) dq m ma.n ma (ma.push (.mapIter (some m) clock [] clock)) (by unfold aO;rw[C4 dq xW];exact w.ab) (by simp only[yL,(C4 m Qz).trans w.hm])
 refine l_.zn hj hdr hf.code Tryd.func42 (by kernel_rfl) (by kernel_rfl) ?_
 refine dp.seq (p:=[]) (R1:=λe s=>e=.nrm/\s=⟨[(0,.b7 (bI.n+2)),(6,.ptr (bI.n+3) 0)],[],.none,ma.push (.mapIter (some m) clock [] clock)⟩) (by kernel_rfl) (dp.of_run hj hdr (by kernel_rfl) QB ⟨rfl,by rw[Qv]⟩) (λs ad=>?_) λe s he ad=>absurd ad.1 he
 obtain⟨_,rfl⟩:=ad
 refine dp.block (p:=[1]) (id:=0) (R1:=H7 bI.n bI m clock need r l) (by kernel_rfl)
  (dp.loop (p:=[1,0]) (C2 bI.n bI m clock need r l) (by kernel_rfl) (λk s ad=>Qr hf iN n rfl w C3 aj k s ad) (sD l []) ⟨[],[],_,rfl,QA,by unfold pj;simp,rfl⟩)
  λe s ad=>?_
 obtain⟨rfl,S,ds,g,rfl,h1,aa⟩:=ad
 exact⟨.inl rfl,rfl,.aF [],g,zo (by kernel_rfl),rfl,S,ds,h1,aa⟩
def zz(bI:J)(l:List e0)(v:I)(g:J):Prop:=bI.n+4<=g.n/\(∀b,b<bI.n->g.get b=bI.get b)/\∃ds,ds.Perm (l.map (·.f))/\fU cW 3 40 (bI.n+4) g v ds
theorem H_:sub (c5 Tryd.f53) [1,0,1,0]=.rangeFunc (.tmp 6) #[7] qH qI:=by kernel_rfl
theorem QC{b3:Nat->List I->J->Option (I×J)}(hf:Fit al)(iN:hy al b3)(n:Nat){dq m clock:Nat}{bI:J}{es:List dj}{l:List e0}(w:qJ bI dq m clock es l):
  l_ al 53 [.bn,.fn 42 [] [.ptr dq 0]] bI (zz bI l):=by
 have hj:=rU hf iN n
 have hdr:∀need br,j5 al need br (cF al b3 n):=λneed br=>tI hf.mixed hj need br
 refine l_.zn hj hdr hf.code Tryd.func53 (by kernel_rfl) (by kernel_rfl) ?_
 refine dp.seq (p:=[]) (R1:=λe s=>e=.nrm/\s=⟨[(1,.fn 42 [] [.ptr dq 0]),(2,.ptr bI.n 0),(4,.bn)],[],.none,bI.push (ay [.bn] 32)⟩) (by kernel_rfl) (dp.of_run hj hdr (by kernel_rfl) (P2 (cF al b3 n) dq bI) ⟨rfl,rfl⟩) (λs ad=>?_) λe s he ad=>absurd ad.1 he
 obtain⟨_,rfl⟩:=ad
 refine dp.seq (p:=[1]) (R1:=λe s=>e=.nrm/\∃g v ds,s=⟨[(2,.ptr bI.n 0)],[.collected (bI.n+1)],.none,g⟩/\bI.n+4<=g.n/\(∀b,b<bI.n->g.get b=bI.get b)/\g.get (bI.n+1)=some (.defrd (some []))/\g.get bI.n=some (ay [v] 32)/\ds.Perm (l.map (·.f))/\fU cW 3 40 (bI.n+4) g v ds) (by kernel_rfl) ?_ (λs ad=>?_) λe s he ad=>absurd ad.1 he
 · refine dp.seq (p:=[1,0]) (R1:=λe s=>e=.nrm/\s=⟨[(2,.ptr bI.n 0),(4,.bn),(6,.fn 42 [] [.ptr dq 0])],[],.none,bI.push (ay [.bn] 32)⟩) (by kernel_rfl) (dp.of_run hj hdr (by kernel_rfl) (P3 (cF al b3 n) bI.n dq _) ⟨rfl,rfl⟩) (λs ad=>?_) λe s he ad=>absurd ad.1 he
   obtain⟨_,rfl⟩:=ad
   refine dp.block (p:=[1,0,1]) (id:=0) (R1:=λe s=>e=.nrm/\∃g v ds,s=⟨[(2,.ptr bI.n 0)],[.collected (bI.n+1)],.none,g⟩/\bI.n+4<=g.n/\(∀b,b<bI.n->g.get b=bI.get b)/\g.get (bI.n+1)=some (.defrd (some []))/\g.get bI.n=some (ay [v] 32)/\ds.Perm (l.map (·.f))/\fU cW 3 40 (bI.n+4) g v ds) (by kernel_rfl) ?_ λe s ad=>?_
   · intro r aj
     show gJ al _ _ none (sub (c5 Tryd.f53) [1,0,1,0]) _ _ _ _ _
     rw[H_]
     have oU:Mod r [(2,.ptr bI.n 0)]:=aj.sub ⟨rfl,trivial⟩
     have cg:r.get (fA 6)=.fn 42 [] [.ptr dq 0]:=aj 6 _ rfl
     refine gJ.range (g:=42) (first:=[]) (caps:=[.ptr dq 0]) (R0:=λv g=>v=.aF []/\∃S ds,lu bI.n bI m clock (bG Tryd.f53) r S ds g/\ds.Perm (l.map (·.f))) (by rw[<-H_];kernel_rfl) ?_ ?_ λv dn dJ=>?_
     · have:bX al (bG Tryd.f53) [] (.tmp 6)=.jo (fA 6):=by kernel_rfl
       rw[this];exact cg
     · exact Qu hf iN n w rfl oU
     · obtain⟨rfl,S,ds,h1,aa⟩:=dJ
       obtain⟨v,ao,aI⟩:=h1.cell
       have aC:=h1.n
       refine⟨.ready,_,r,[7],qH,qI,bI.n+1,h1.hM,by simp,_,oU,rfl,_,v,ds,rfl,aC,λb ae=>c9 (by show¬b=bI.n+1+1;omega) (h1.low b ae),c9 (by show¬bI.n+1=bI.n+1+1;omega) h1.cK,c9 (by show¬bI.n=bI.n+1+1;omega) ao,aa,?_⟩
       rcases aI with aI|⟨p,av,au,bm,cN,fE⟩
       · exact .inl aI
       · exact .inr ⟨p,av,au,c9 (by show¬p=bI.n+1+1;omega) bm,cN,fE⟩
   · obtain⟨rfl,ad⟩:=ad
     exact⟨rfl,ad⟩
 · obtain⟨_,g,v,ds,rfl,h1,aa,ao,aI,bl,cg⟩:=ad
   refine dp.mono (dp.of_run (R:=λe s=>e=.ret/\s=⟨[(4,v)],[.collected (bI.n+1)],.none,g⟩) hj hdr (by kernel_rfl) (?_:aZ al Tryd.f53 none (cF al b3 n) [1,1] ⟨[(2,.ptr bI.n 0)],[.collected (bI.n+1)],.none,g⟩ .ret ⟨[(4,v)],[.collected (bI.n+1)],.none,g⟩) ⟨rfl,rfl⟩) λe s ad=>?_
   · exact P6 (cF al b3 n) bI.n (bI.n+1) v g (ld1 aI rfl)
   · obtain⟨rfl,rfl⟩:=ad
     have b9:∀b,¬b=bI.n+1->(g.set (bI.n+1) (some (.defrd none))).get b=g.get b:=λb ae=>c9 ae rfl
     refine⟨.inr rfl,rfl,v,_,Py ao (by kernel_rfl),h1,λb ae=>(b9 b (by omega)).trans (aa b ae),ds,bl,?_⟩
     rcases cg with cg|⟨p,av,au,bm,cN,fE⟩
     · exact .inl cg
     · exact .inr ⟨p,av,au,(b9 p (by omega)).trans bm,cN,fE⟩
theorem QD{b3:Nat->List I->J->Option (I×J)}(hf:Fit al)(iN:hy al b3)(n:Nat){dq m clock:Nat}{bI:J}{es:List dj}{l:List e0}(w:qJ bI dq m clock es l):
  l_ al 40 [.fn 42 [] [.ptr dq 0]] bI (zz bI l):=by
 have hj:=rU hf iN n
 have hdr:∀need br,j5 al need br (cF al b3 n):=λneed br=>tI hf.mixed hj need br
 refine l_.zn hj hdr hf.code Tryd.func40 (by kernel_rfl) (by kernel_rfl) ?_
 refine dp.seq (p:=[]) (R1:=λe s=>e=.nrm/\s=⟨[(0,.fn 42 [] [.ptr dq 0])],[],.none,bI⟩) (by kernel_rfl) (dp.of_run hj hdr (by kernel_rfl) (P7 (cF al b3 n) dq bI) ⟨rfl,rfl⟩) (λs ad=>?_) λe s he ad=>absurd ad.1 he
 obtain⟨_,rfl⟩:=ad
 refine dp.seq (p:=[1]) (R1:=λe s=>e=.nrm/\∃v g,s.d=[]/\s.q=.none/\s.h=g/\c4 2 s.Γ=some v/\zz bI l v g) (by kernel_rfl)
  (dp.HS (p:=[1,0]) (f:=53) (accs:=[.val .bn,.jo (fA 0)]) (loc:=(kX al (bG Tryd.f40) (opsOf (sub (c5 Tryd.f40) [1,0]))).loc) (by kernel_rfl) (by kernel_rfl) (args:=[.bn,.fn 42 [] [.ptr dq 0]]) (by kernel_rfl) (QC hf iN n w) λv g an=>⟨rfl,v,g,rfl,rfl,rfl,by kernel_rfl,an⟩) (λs ad=>?_) λe s he ad=>absurd ad.1 he
 obtain⟨_,v,g,h1,aa,ao,aI,bl⟩:=ad
 refine dp.pre (dp.of_run hj hdr (by kernel_rfl) (P9 (cF al b3 n) v g) ?_) ⟨aI,trivial⟩ h1 aa ao
 exact⟨.inr rfl,rfl,v,g,zo (by kernel_rfl),bl⟩
theorem C5(x y:UInt8)(a b:List UInt8):c7 (x::a) (y::b)=if x.toNat=y.toNat then c7 a b else decide (x.toNat<y.toNat):=by
 by_cases h:x.toNat=y.toNat
 · rw[if_pos h];simp only[c7,h,Nat.beq_refl]
 · rw[if_neg h]
   have ae:Nat.beq x.toNat y.toNat=false:=by
    cases ae:Nat.beq x.toNat y.toNat with
    |false=>rfl
    |true=>exact absurd (Nat.eq_of_beq_eq_true ae) h
   simp only[c7,ae]
   exact Bool.eq_iff_iff.2 (by rw[Nat.blt_eq];simp)
theorem sF:∀a:List UInt8,c7 a a=false
 |[]=>rfl
 |x::a=>by rw[C5,if_pos rfl];exact sF a
theorem sG:∀a b c:List UInt8,c7 a b=true->c7 b c=true->c7 a c=true
 |[],[],_,h,_=>by cases h
 |_::_,[],_,h,_=>by cases h
 |[],_::_,[],_,h=>by cases h
 |_::_,_::_,[],_,h=>by cases h
 |[],_::_,_::_,_,_=>rfl
 |x::a,y::b,z::c,h1,aa=>by
  rw[C5] at h1 aa⊢
  by_cases av:x.toNat=y.toNat
  · rw[if_pos av] at h1
    by_cases au:y.toNat=z.toNat
    · rw[if_pos au] at aa;rw[if_pos (av.trans au)];exact sG a b c h1 aa
    · rw[if_neg au] at aa;rw[if_neg (by omega)];simp at aa⊢;omega
  · rw[if_neg av] at h1
    by_cases au:y.toNat=z.toNat
    · rw[if_neg (by omega)];simp at h1⊢;omega
    · rw[if_neg au] at aa;simp at h1 aa;rw[if_neg (by omega)];simp;omega
theorem uq:∀a b:List UInt8,c7 a b=false->c7 b a=false->a=b
 |[],[],_,_=>rfl
 |[],_::_,h,_=>by cases h
 |_::_,[],_,h=>by cases h
 |x::a,y::b,h1,aa=>by
  rw[C5] at h1 aa
  by_cases av:x.toNat=y.toNat
  · rw[if_pos av] at h1;rw[if_pos av.symm] at aa
    rw[UInt8.toNat_inj.1 av,uq a b h1 aa]
  · rw[if_neg av] at h1;rw[if_neg (λe=>av e.symm)] at aa
    simp at h1 aa;omega
theorem Ia(a b c:List UInt8)(h1:c7 a b=false)(aa:c7 b c=false):c7 a c=false:=by
 cases h:c7 a c with
 |false=>rfl
 |true=>
  cases ao:c7 c b with
  |true=>rw[sG a c b h ao] at h1;cases h1
  |false=>rw[uq b c aa ao,h] at h1;cases h1
abbrev XP:=List UInt8×Int×Int
abbrev bf:=List UInt8
def hE(a b:bf):Bool:=!c7 b a
theorem zA(a b c:bf)(h1:hE a b=true)(aa:hE b c=true):hE a c=true:=by
 simp only[hE,Bool.not_eq_true'] at*
 exact Ia c b a aa h1
theorem C6(a b:bf):(hE a b||hE b a)=true:=by
 simp only[hE,Bool.or_eq_true,Bool.not_eq_true']
 cases h:c7 b a with
 |false=>exact .inl rfl
 |true=>
  right
  cases aa:c7 a b with
  |false=>rfl
  |true=>have:=sG _ _ _ h aa;rw[sF] at this;cases this
theorem QE{a b:bf}(h1:hE a b=true)(aa:hE b a=true):a=b:=by
 simp only[hE,Bool.not_eq_true'] at*
 exact uq _ _ aa h1
theorem sorted_perm:∀{l m:List bf},l.Pairwise (λa b=>hE a b=true)->m.Pairwise (λa b=>hE a b=true)->l.Perm m->l=m
 |[],m,_,_,h=>h.nil_eq
 |a::l,[],_,_,h=>absurd h.length_eq (by simp)
 |a::l,b::m,h1,aa,h=>by
  have ft:=List.pairwise_cons.1 h1
  have vM:=List.pairwise_cons.1 aa
  have kx:a=b:=by
   have aJ:a∈b::m:=h.subset (by simp)
   have ae:b∈a::l:=h.symm.subset (by simp)
   rcases List.mem_cons.1 aJ with e|aJ
   · exact e
   · rcases List.mem_cons.1 ae with e|ae
     · exact e.symm
     · exact QE (ft.1 b ae) (vM.1 a aJ)
  subst kx
  rw[sorted_perm ft.2 vM.2 (List.Perm.cons_inv h)]
def qK(l:List bf):List bf:=l.mergeSort hE
theorem QF{l m:List bf}(h:l.Perm m):qK l=qK m:=
 sorted_perm (List.pairwise_mergeSort zA C6 l) (List.pairwise_mergeSort zA C6 m) (((List.mergeSort_perm l hE).trans h).trans (List.mergeSort_perm m hE).symm)
open Go aS Go.Proofs Go.Sort Go.Shelf
theorem zB(s:List UInt8)(h:J):
  aZ al Tryd.f43 none call [] (aR [(0,.str s)] h) (.ret)
   (aR [(2,.bool !cr s s)] h):=
 bK [2] [] 16 0 0 bJ
theorem QG(a b:List UInt8)(h:J)
  (H1:call (.fn 43) [.str a] h=bM.ret (.bool false) h)
  (cy:call (.fn 43) [.str b] h=bM.ret (.bool false) h)
  (dn:c7 a b=true):
  aZ al Tryd.f25 none call [] (aR [(0,.str a),(1,.str b)] h) (.ret)
   (aR [(4,.int .i64 (.negSucc 0))] h):=
 bK [4] (.c (.bool false) h::.c (.bool false) h::dR 3 1 []) 16 5 143636 (r_ H1 cy dn bJ)
theorem QH(a b:List UInt8)(h:J)
  (H1:call (.fn 43) [.str a] h=bM.ret (.bool false) h)
  (cy:call (.fn 43) [.str b] h=bM.ret (.bool false) h)
  (dn:c7 a b=false)
  (il:c7 b a=true):
  aZ al Tryd.f25 none call [] (aR [(0,.str a),(1,.str b)] h) (.ret)
   (aR [(4,ai 1)] h):=
 bK [4] (.c (.bool false) h::.c (.bool false) h::dR 4 1 []) 16 6 2298181 (ll H1 cy dn il bJ)
theorem QI(a b:List UInt8)(h:J)
  (H1:call (.fn 43) [.str a] h=bM.ret (.bool false) h)
  (cy:call (.fn 43) [.str b] h=bM.ret (.bool false) h)
  (dn:c7 a b=false)
  (il:c7 b a=false):
  aZ al Tryd.f25 none call [] (aR [(0,.str a),(1,.str b)] h) (.ret)
   (aR [(4,ai 0)] h):=
 bK [4] (.c (.bool false) h::.c (.bool false) h::dR 4 0 []) 16 6 2298181 (ll H1 cy dn il bJ)
theorem lc(p x q y:List UInt8)(n k:Nat)(r:Int)(h g:J)
  (H1:aO (J.push (J.push h (ay [.str p,.str x,aK n] 40)) (ay [.str q,.str y,aK k] 40)) (J.n h) (0+0)=some (.str p))
  (cy:aO (J.push (J.push h (ay [.str p,.str x,aK n] 40)) (ay [.str q,.str y,aK k] 40)) (J.n (J.push h (ay [.str p,.str x,aK n] 40))) (0+0)=some (.str q))
  (dn:call (.fn 25) [.str p,.str q] (J.push (J.push h (ay [.str p,.str x,aK n] 40)) (ay [.str q,.str y,aK k] 40))=bM.ret (.int .i64 r) g):
  aZ al Tryd.f24 none call [] (aR [(0,.agg [.str p,.str x,aK n]),(1,.agg [.str q,.str y,aK k])] h) (.ret)
   (aR [(4,.int .i64 r)] g):=
 bK [4] [.v (.str p),.v (.str q),.c (.int .i64 r) g] 16 3 564 (r_ H1 cy dn bJ)
def Ib:Go.Shelf.Ren:=⟨λ|6=>41|14=>54|15=>55|20=>63|21=>64|22=>65|23=>66|24=>67|25=>68|26=>69|27=>70|28=>71|29=>72|46=>78|47=>79|48=>80|49=>81|50=>82|57=>88|n=>n,λ|0=>0|3=>3|4=>4|5=>5|9=>9|22=>32|24=>40|25=>65|39=>89|45=>101|46=>102|50=>106|53=>109|55=>22|66=>122|70=>126|76=>131|77=>132|n=>n,λn=>n⟩
theorem Ic:SlLaysF0.n6 al Ib where
 mixed:=by kernel_rfl
 f6:=⟨Tryd.f41.name,by decide,Tryd.func41.trans (congrArg some (by kernel_rfl))⟩
 f14:=⟨Tryd.f54.name,by decide,Tryd.func54.trans (congrArg some (by kernel_rfl))⟩
 f15:=Tryd.func55.trans (congrArg some (by kernel_rfl))
 f20:=⟨Tryd.f63.name,by decide,Tryd.func63.trans (congrArg some (by kernel_rfl))⟩
 f21:=⟨Tryd.f64.name,by decide,Tryd.func64.trans (congrArg some (by kernel_rfl))⟩
 f22:=⟨Tryd.f65.name,by decide,Tryd.func65.trans (congrArg some (by kernel_rfl))⟩
 f23:=⟨Tryd.f66.name,by decide,Tryd.func66.trans (congrArg some (by kernel_rfl))⟩
 f24:=⟨Tryd.f67.name,by decide,Tryd.func67.trans (congrArg some (by kernel_rfl))⟩
 f25:=⟨Tryd.f68.name,by decide,Tryd.func68.trans (congrArg some (by kernel_rfl))⟩
 f26:=⟨Tryd.f69.name,by decide,Tryd.func69.trans (congrArg some (by kernel_rfl))⟩
 f27:=⟨Tryd.f70.name,by decide,Tryd.func70.trans (congrArg some (by kernel_rfl))⟩
 f28:=Tryd.func71.trans (congrArg some (by kernel_rfl))
 f29:=Tryd.func72.trans (congrArg some (by kernel_rfl))
 f46:=⟨Tryd.f78.name,by decide,Tryd.func78.trans (congrArg some (by kernel_rfl))⟩
 f47:=Tryd.func79.trans (congrArg some (by kernel_rfl))
 f48:=Tryd.func80.trans (congrArg some (by kernel_rfl))
 f49:=⟨Tryd.f81.name,by decide,Tryd.func81.trans (congrArg some (by kernel_rfl))⟩
 f50:=⟨Tryd.f82.name,by decide,Tryd.func82.trans (congrArg some (by kernel_rfl))⟩
 f57:=⟨Tryd.f88.name,by decide,Tryd.func88.trans (congrArg some (by kernel_rfl))⟩
 t0:=Tryd.underlying0
 a0:=Tryd.isAgg0
 z0:=Tryd.sizeOf0
 v0:=Tryd.zeroValue0
 t3:=Tryd.underlying3
 a3:=Tryd.isAgg3
 z3:=Tryd.sizeOf3
 v3:=Tryd.zeroValue3
 t4:=Tryd.underlying4
 a4:=Tryd.isAgg4
 z4:=Tryd.sizeOf4
 v4:=Tryd.zeroValue4
 t5:=Tryd.underlying5
 a5:=Tryd.isAgg5
 z5:=Tryd.sizeOf5
 v5:=Tryd.zeroValue5
 t9:=Tryd.underlying9
 a9:=Tryd.isAgg9
 z9:=Tryd.sizeOf9
 v9:=Tryd.zeroValue9
 t22:=Tryd.underlying32
 a22:=Tryd.isAgg32
 z22:=Tryd.sizeOf32
 v22:=Tryd.zeroValue32
 t25:=Tryd.underlying65
 a25:=Tryd.isAgg65
 z25:=Tryd.sizeOf65
 v25:=Tryd.zeroValue65
 t39:=Tryd.underlying89
 a39:=Tryd.isAgg89
 z39:=Tryd.sizeOf89
 v39:=Tryd.zeroValue89
 t45:=Tryd.underlying101
 a45:=Tryd.isAgg101
 z45:=Tryd.sizeOf101
 v45:=Tryd.zeroValue101
 t46:=Tryd.underlying102
 a46:=Tryd.isAgg102
 z46:=Tryd.sizeOf102
 v46:=Tryd.zeroValue102
 t50:=Tryd.underlying106
 a50:=Tryd.isAgg106
 z50:=Tryd.sizeOf106
 v50:=Tryd.zeroValue106
 t53:=Tryd.underlying109
 a53:=Tryd.isAgg109
 z53:=Tryd.sizeOf109
 v53:=Tryd.zeroValue109
 t55:=Tryd.underlying22
 a55:=Tryd.isAgg22
 z55:=Tryd.sizeOf22
 v55:=Tryd.zeroValue22
 t66:=Tryd.underlying122
 a66:=Tryd.isAgg122
 z66:=Tryd.sizeOf122
 v66:=Tryd.zeroValue122
 t70:=Tryd.underlying126
 a70:=Tryd.isAgg126
 z70:=Tryd.sizeOf126
 v70:=Tryd.zeroValue126
 t76:=Tryd.underlying131
 a76:=Tryd.isAgg131
 z76:=Tryd.sizeOf131
 v76:=Tryd.zeroValue131
 t77:=Tryd.underlying132
 a77:=Tryd.isAgg132
 z77:=Tryd.sizeOf132
 v77:=Tryd.zeroValue132
def sH(x y:bf):Int:=if c7 x y then-1 else if c7 y x then 1 else 0
theorem Ie(m:Nat)(s:bf)(h:J):cF al (λ_ _ _=>none) (m+1) (.fn 43) [.str s] h=.ret (.bool false) h:=by
 have e:cr s s=true:=by rw[ha];simp
 exact hA (intr:=λ_ _ _=>none) (n:=m) (args:=[.str s]) Tryd.func43 (zB (cF al (λ_ _ _=>none) m) s h) (.inl rfl) (by rw[e];kernel_rfl)
theorem QJ(m:Nat)(a b:bf)(h:J):cF al (λ_ _ _=>none) (m+2) (.fn 25) [.str a,.str b] h=.ret (.int .i64 (sH a b)) h:=by
 have aE:=Ie m a h
 have a_:=Ie m b h
 have go:∀(r:Int),aZ al Tryd.f25 none (cF al (λ_ _ _=>none) (m+1)) [] ⟨[(0,.str a),(1,.str b)],[],.none,h⟩ .ret ⟨[(4,.int .i64 r)],[],.none,h⟩->cF al (λ_ _ _=>none) (m+2) (.fn 25) [.str a,.str b] h=.ret (.int .i64 r) h:=λr aj=>
  hA (intr:=λ_ _ _=>none) (n:=m+1) (args:=[.str a,.str b]) Tryd.func25 aj (.inl rfl) (by kernel_rfl)
 unfold sH
 cases h1:c7 a b with
 |true=>exact go _ (QG _ a b h aE a_ h1)
 |false=>
  cases aa:c7 b a with
  |true=>exact go _ (QH _ a b h aE a_ h1 aa)
  |false=>exact go _ (QI _ a b h aE a_ h1 aa)
theorem QK(x y:bf):ltOf sH x y=c7 x y:=by
 unfold ltOf sH
 cases h1:c7 x y with
 |true=>simp
 |false=>
  cases aa:c7 y x with
  |true=>simp
  |false=>simp
theorem QL:SWO c7 where
 irrefl x:=sF x
 trans x y z h1 aa:=sG x y z h1 aa
 ntrans x y z h1 aa:=Ia x y z h1 aa
def im(F:bf->bf×Nat)(p:bf):List I:=[.str p,.str (F p).1,aK (F p).2]
def sI(F:bf->bf×Nat)(p:bf):List Value:=[.string ⟨p.toArray⟩,.string ⟨(F p).1.toArray⟩,.int .u64 ((F p).2:Nat)]
theorem Ig{μ:bd}{s:bf}{u:Value}(h:a1 μ (.str s) u):u=.string ⟨s.toArray⟩:=by
 obtain⟨t,rfl,bk⟩:=h
 cases t with
 |mk data=>simp only[<-bk]
theorem QM(F:bf->bf×Nat)(μ:bd)(d:bf)(t:Nat)(a:I)(u:Value)(h:(im F d)[t]? =some a)(aj:a1 μ a u):(sI F d)[t]? =some u:=by
 rcases t with _|_|_|t
 · have e:a=.str d:=by simpa[im] using h.symm
   subst e
   rw[Ig aj];rfl
 · have e:a=.str (F d).1:=by simpa[im] using h.symm
   subst e
   rw[Ig aj];rfl
 · have e:a=aK (F d).2:=by simpa[im] using h.symm
   subst e
   have:u=.int .u64 ((F d).2:Nat):=aj
   rw[this];rfl
 · simp[im] at h
theorem QN(F:bf->bf×Nat)(μ:bd)(d:bf)(t:Nat)(a:I)(u:Value)(h:(im F d)[t]? =some a)(hu:(sI F d)[t]? =some u):a1 μ a u:=by
 rcases t with _|_|_|t
 · have e:a=.str d:=by simpa[im] using h.symm
   have au:u=.string ⟨d.toArray⟩:=by simpa[sI] using hu.symm
   subst e;subst au
   exact⟨_,rfl,by simp⟩
 · have e:a=.str (F d).1:=by simpa[im] using h.symm
   have au:u=.string ⟨(F d).1.toArray⟩:=by simpa[sI] using hu.symm
   subst e;subst au
   exact⟨_,rfl,by simp⟩
 · have e:a=aK (F d).2:=by simpa[im] using h.symm
   have au:u=.int .u64 ((F d).2:Nat):=by simpa[sI] using hu.symm
   subst e;subst au;rfl
 · simp[im] at h
theorem QO:jX al 40=some true:=by kernel_rfl
theorem QP:cQ al 40=some 3:=by kernel_rfl
noncomputable def Ih(F:bf->bf×Nat):Nat->List I->J->Option (I×J):=wN (im F) qK 41 24
theorem QQ(hf:Fit al)(F:bf->bf×Nat):hy al (Ih F):=by
 obtain⟨c,ab⟩:=Option.isSome_iff_exists.1 (show Tryd.f24.body.isSome=true by kernel_rfl)
 have C7:ltOf sH=c7:=funext λx=>funext λy=>QK x y
 have key:=PN (P:=al) (ρ:=Ib) hf Ic (w:=3) (by omega) (λW=>aS.rb QO) (λW=>aS.run_sizeOf QP) (encA:=im F) (encV:=sI F) (λ_=>rfl) (λ_=>rfl) (QM F) (QN F)
  (λd v aM=>by simp[sI] at aM;rcases aM with rfl|rfl|rfl<;>rfl) sH (by rw[C7];exact QL) (λx y h1 aa=>by
   rw[C7] at h1 aa
   exact uq x y h1 aa) (g:=24) Tryd.func24 ab (Nq al) (λx y=>by
   refine⟨3,_,hA (intr:=λ_ _ _=>none) (n:=2) (args:=[.agg (im F x),.agg (im F y)]) Tryd.func24 (lc (cF al (λ_ _ _=>none) 2) x (F x).1 y (F y).1 (F x).2 (F y).2 (sH x y) _ _ (ld1 (ch (Nat.lt_succ_self _) (c8 rfl)) rfl) (ld1 (c8 rfl) rfl) (QJ 0 x y _)) (.inl rfl) (by kernel_rfl)⟩)
 rw[C7] at key
 exact key
def sJ(x:bf):List bf->List bf
 |[]=>[x]
 |y::l=>match c7 y x with
  |true=>y::sJ x l
  |false=>x::y::l
def sK:List bf->List bf
 |[]=>[]
 |x::l=>sJ x (sK l)
theorem C8(x:bf):∀l:List bf,(sJ x l).Perm (x::l)
 |[]=>List.Perm.refl _
 |y::l=>by
  unfold sJ
  split
  · exact(List.Perm.cons y (C8 x l)).trans (List.Perm.swap x y l)
  · exact List.Perm.refl _
theorem sL:∀l:List bf,(sK l).Perm l
 |[]=>List.Perm.refl _
 |x::l=>(C8 x (sK l)).trans (List.Perm.cons x (sL l))
theorem Ii(x:bf):∀l:List bf,l.Pairwise (λa b=>hE a b=true)->(sJ x l).Pairwise (λa b=>hE a b=true)
 |[],_=>by unfold sJ;simp
 |y::l,h=>by
  have ah:=List.pairwise_cons.1 h
  unfold sJ
  split
  · rename_i bx
    refine List.pairwise_cons.2 ⟨λz aW=>?_,Ii x l ah.2⟩
    rcases List.mem_cons.1 ((C8 x l).subset aW) with rfl|aW
    · simp only[hE,Bool.not_eq_true']
      cases aa:c7 z y with
      |false=>rfl
      |true=>have:=sG _ _ _ bx aa;rw[sF] at this;cases this
    · exact ah.1 z aW
  · rename_i bx
    have zC:hE x y=true:=by simp only[hE,Bool.not_eq_true'];exact bx
    refine List.pairwise_cons.2 ⟨λz aW=>?_,h⟩
    rcases List.mem_cons.1 aW with rfl|aW
    · exact zC
    · exact zA _ _ _ zC (ah.1 z aW)
theorem C9:∀l:List bf,(sK l).Pairwise (λa b=>hE a b=true)
 |[]=>List.Pairwise.nil
 |x::l=>Ii x _ (C9 l)
def kN:List e0->bf->bf×Nat
 |[],_=>([],0)
 |d::l,p=>match cr d.f.p p with
  |true=>(d.f.x,d.f.n)
  |false=>kN l p
theorem wT:∀{l:List e0},(l.map (·.f.p)).Nodup->∀d∈l,kN l d.f.p=(d.f.x,d.f.n)
 |[],_,d,ak=>by cases ak
 |x::l,aC,d,ak=>by
  have kA:x.f.p∉l.map (·.f.p)/\(l.map (·.f.p)).Nodup:=List.nodup_cons.1 aC
  unfold kN
  rcases List.mem_cons.1 ak with rfl|ak
  · have:cr d.f.p d.f.p=true:=by rw[ha];simp
    rw[this]
  · have b9:¬x.f.p=d.f.p:=λe=>kA.1 (List.mem_map.2 ⟨d,ak,e.symm⟩)
    have:cr x.f.p d.f.p=false:=by
     rw[ha]
     simpa using b9
    rw[this]
    exact wT kA.2 d ak
def mb(l:List e0):List bV:=(sK (l.map (·.f.p))).map λp=>⟨p,(kN l p).1,(kN l p).2⟩
theorem QR(l:List bf):qK l=sK l:=
 sorted_perm (List.pairwise_mergeSort zA C6 l) (C9 l) ((List.mergeSort_perm l hE).trans (sL l).symm)
theorem Ij(F:bf->bf×Nat):∀ps:List bf,cc (im F) ps=cc cW (ps.map λp=>⟨p,(F p).1,(F p).2⟩)
 |[]=>rfl
 |p::ps=>by
  have bc:=Ij F ps
  rw[o_,List.map_cons,o_,bc]
  rfl
theorem Ik{l:List e0}(aC:(l.map (·.f.p)).Nodup):∀{ds:List bV},(∀f∈ds,∃d∈l,d.f=f)->cc cW ds=cc (im (kN l)) (ds.map (·.p))
 |[],_=>rfl
 |f::ds,h=>by
  have bc:=Ik aC (ds:=ds) λf hf=>h f (by simp[hf])
  rw[List.map_cons,o_,o_,bc]
  obtain⟨d,ak,rfl⟩:=h f (by simp)
  have:=wT aC d ak
  unfold im
  rw[this]
theorem Il(hf:Fit al){dq m clock:Nat}{bI:J}{es:List dj}{l:List e0}(w:qJ bI dq m clock es l)(a8:(l.map (·.f.p)).Nodup):
  l_ al 22 [.fn 42 [] [.ptr dq 0],.fn 24 [] []] bI
   (λv g=>(∀b,b<bI.n->g.get b=bI.get b)/\((l=[]/\v=.bn)\/∃p,0<l.length/\v=.slice p 0 l.length (.aH 3)/\bI.n<=p/\g.get p=some (.cells (cc cW (mb l)) 40 .aH 0 0))):=by
 obtain⟨b3,C_⟩:∃b3,b3=zw (zv 41) (Ih (kN l)):=⟨_,rfl⟩
 have iN:hy al b3:=by rw[C_];exact PY (PX Ic) (QQ hf (kN l))
 have hj:=rU hf iN 1
 have hdr:∀need br,j5 al need br (cF al b3 1):=λneed br=>tI hf.mixed hj need br
 refine l_.zn hj hdr hf.code Tryd.func22 (by kernel_rfl) (by kernel_rfl) ?_
 refine dp.seq (p:=[]) (R1:=λe s=>e=.nrm/\s=⟨[(0,.fn 42 [] [.ptr dq 0]),(1,.fn 24 [] [])],[],.none,bI⟩) (by kernel_rfl) (dp.of_run hj hdr (by kernel_rfl) (P8 (cF al b3 1) dq bI) ⟨rfl,rfl⟩) (λs ad=>?_) λe s he ad=>absurd ad.1 he
 obtain⟨_,rfl⟩:=ad
 refine dp.seq (p:=[1]) (R1:=λe s=>e=.nrm/\∃v g,s.d=[]/\s.q=.none/\s.h=g/\c4 5 s.Γ=some v/\c4 1 s.Γ=some (.fn 24 [] [])/\zz bI l v g) (by kernel_rfl)
  (dp.HS (p:=[1,0]) (f:=40) (accs:=[.jo (fA 0)]) (loc:=(kX al (bG Tryd.f22) (opsOf (sub (c5 Tryd.f22) [1,0]))).loc) (by kernel_rfl) (by kernel_rfl) (args:=[.fn 42 [] [.ptr dq 0]]) (by kernel_rfl) (QD hf iN 1 w) λv g an=>⟨rfl,v,g,rfl,rfl,rfl,by kernel_rfl,by kernel_rfl,an⟩) (λs ad=>?_) λe s he ad=>absurd ad.1 he
 obtain⟨_,v,g,h1,aa,ao,aI,ye,aC,mN,ds,wS,aQ⟩:=ad
 have hlen:ds.length=l.length:=by rw[wS.length_eq,List.length_map]
 rcases aQ with⟨rfl,rfl⟩|⟨p,rfl,au,bm,cN,fE⟩
 · have xS:l=[]:=List.eq_nil_of_length_eq_zero (by simpa using hlen.symm)
   have ab:cF al b3 1 (.fn 41) [.bn,.fn 24 [] []] g=.ret (.aF []) g:=by
    rw[C_];rfl
   refine dp.pre (dp.of_run hj hdr (by kernel_rfl) (H2 (cF al b3 1) .bn g g ab) ?_) ⟨ye,aI,trivial⟩ h1 aa ao
   exact⟨.inr rfl,rfl,.bn,g,zo (by kernel_rfl),mN,.inl ⟨xS,rfl⟩⟩
 · have nu:∀f∈ds,∃d∈l,d.f=f:=λf QS=>by
     obtain⟨d,bl,cg⟩:=List.mem_map.1 (wS.subset QS)
     exact⟨d,bl,cg⟩
   rw[Ik a8 nu] at bm
   have Im:=PL (enc:=im (kN l)) (srt:=qK) (w:=3) (λ_=>rfl) (λa b e=>by simp only[im,List.cons.injEq,I.str.injEq] at e;exact e.1) (fS:=41) (g:=24) (b:=p) (len:=ds.length) (cap:=.aH 3) (H:=g) (ds:=ds.map (·.p)) (rest:=[]) (el:=40) (k:=.aH) au (by have:=w.len;omega) (by rw[List.append_nil];exact bm) (by simp) (.inr rfl)
   rw[List.append_nil] at Im
   have ab:cF al b3 1 (.fn 41) [.slice p 0 ds.length (.aH 3),.fn 24 [] []] g=.ret (.aF []) (g.set p (some (.cells (cc (im (kN l)) (qK (ds.map (·.p)))) 40 .aH 0 0))):=by
    have aA:zv 41 41 [.slice p 0 ds.length (.aH 3),.fn 24 [] []] g=none:=by
     obtain⟨k,hk⟩:∃k,ds.length=k+1:=⟨ds.length-1,by omega⟩
     rw[hk];rfl
    have:b3 41 [.slice p 0 ds.length (.aH 3),.fn 24 [] []] g=some (.aF [],g.set p (some (.cells (cc (im (kN l)) (qK (ds.map (·.p)))) 40 .aH 0 0))):=by
     rw[C_];unfold zw;rw[aA];exact Im
    simp only[cF,this]
   refine dp.pre (dp.of_run hj hdr (by kernel_rfl) (H2 (cF al b3 1) (.slice p 0 ds.length (.aH 3)) g _ ab) ?_) ⟨ye,aI,trivial⟩ h1 aa ao
   have rD:qK (ds.map (·.p))=sK (l.map (·.f.p)):=by
    rw[<-QR]
    refine QF ?_
    have:=wS.map (·.p)
    rwa [List.map_map] at this
   refine⟨.inr rfl,rfl,.slice p 0 ds.length (.aH 3),_,zo (by kernel_rfl),λb ae=>(c9 (by omega) rfl).trans (mN b ae),.inr ⟨p,by omega,by rw[hlen],by omega,?_⟩⟩
   rw[e8 rfl,rD,Ij]
   rfl
def ur:List dj->Option (List e0)
 |[]=>some []
 |e::es=>match uj e with
  |some d=>match ur es with
   |some l=>some (d::l)
   |none=>none
  |none=>none
theorem Io:∀{es:List dj} {l:List e0},ur es=some l->ph es l
 |[],l,ar=>by cases ar;exact .nil
 |e::es,l,ar=>by
  unfold ur at ar
  split at ar
  · rename_i d ak
    split at ar
    · rename_i eG pY
      cases ar
      exact .cons ak (Io pY)
    · cases ar
  · cases ar
def pn:List Nat->Bool
 |[]=>true
 |a::l=>match l.any λx=>Nat.beq a x with
  |true=>false
  |false=>pn l
theorem Ip:∀{l:List Nat},pn l=true->l.Nodup
 |[],_=>List.nodup_nil
 |a::l,h=>by
  unfold pn at h
  split at h
  · cases h
  · rename_i h1
    refine List.nodup_cons.2 ⟨λhm=>?_,Ip h⟩
    have:(l.any λx=>Nat.beq a x)=true:=List.any_eq_true.2 ⟨a,hm,Nat.beq_refl _⟩
    rw[this] at h1;cases h1
def qL:List bf->Bool
 |[]=>true
 |a::l=>match l.any λx=>cr a x with
  |true=>false
  |false=>qL l
theorem Iq:∀{l:List bf},qL l=true->l.Nodup
 |[],_=>List.nodup_nil
 |a::l,h=>by
  unfold qL at h
  split at h
  · cases h
  · rename_i h1
    refine List.nodup_cons.2 ⟨λhm=>?_,Iq h⟩
    have:(l.any λx=>cr a x)=true:=List.any_eq_true.2 ⟨a,hm,by rw[ha];simp⟩
    rw[this] at h1;cases h1
def sM(f:Nat)(args:List I)(H:J):Option (I×J):=match Nat.beq f 22,args with
 |true,[.fn f1 [] [.ptr dq 0],.fn f2 [] []]=>match Nat.beq f1 42&&Nat.beq f2 24,aO H dq 0 with
  |true,some (.map m)=>match H.get m with
   |some (.map es clock)=>match ur es with
    |some l=>match pn (l.map (·.born))&&(qL (l.map (·.f.p))&&((l.all λd=>Nat.blt d.born clock)&&(Nat.ble l.length 100000&&(Nat.blt dq H.n&&Nat.blt m H.n)))),l with
     |true,[]=>some (.bn,H)
     |true,d::eG=>some (.slice H.n 0 (d::eG).length (.aH 3),H.push (.cells (cc cW (mb (d::eG))) 40 .aH 0 0))
     |false,_=>none
    |none=>none
   |_=>none
  |_,_=>none
 |_,_=>none
theorem Ir:∀l:List bV,lb (cc cW l)=true
 |[]=>rfl
 |d::l=>by
  rw[o_]
  show(true&&(true&&(true&&lb (cc cW l))))=true
  rw[Ir l];rfl
theorem QT(hf:Fit al):hy al sM:=by
 intro f args H v aD U μ W vs af an aM
 unfold sM at U
 split at U
 · rename_i f1 dq f2 wO
   obtain rfl:=Nat.eq_of_beq_eq_true wO
   split at U
   · rename_i m Is ab
     simp only[Bool.and_eq_true] at Is
     obtain⟨Bq,nK⟩:=Is
     obtain rfl:=Nat.eq_of_beq_eq_true Bq
     obtain rfl:=Nat.eq_of_beq_eq_true nK
     split at U
     · rename_i es clock hm
       split at U
       · rename_i l ar
         have key:(pn (l.map (·.born))&&(qL (l.map (·.f.p))&&((l.all λd=>Nat.blt d.born clock)&&(Nat.ble l.length 100000&&(Nat.blt dq H.n&&Nat.blt m H.n)))))=true->qJ H dq m clock es l/\(l.map (·.f.p)).Nodup:=λh=>by
          simp only[Bool.and_eq_true,Nat.blt_eq] at h
          obtain⟨bt,bA,eU,fe,ny,gQ⟩:=h
          exact⟨⟨ab,hm,Io ar,Ip bt,λd ak=>by simpa using List.all_eq_true.1 eU d ak,Nat.le_of_ble_eq_true fe,ny,gQ⟩,Iq bA⟩
         split at U
         · rename_i hk
           cases U
           obtain⟨w,a8⟩:=key hk
           refine(Il hf w a8 μ W vs af an aM).mono λe w' oz=>?_
           obtain⟨v,g,⟨mN,h1⟩,dc⟩:=oz
           rcases h1 with⟨_,rfl⟩|⟨p,aA,_⟩
           · exact Ends.none rfl mN af dc
           · simp at aA
         · rename_i d eG hk
           cases U
           obtain⟨w,a8⟩:=key hk
           refine(Il hf w a8 μ W vs af an aM).mono λe w' oz=>?_
           obtain⟨v,g,⟨mN,h1⟩,dc⟩:=oz
           rcases h1 with⟨aA,_⟩|⟨p,aA,rfl,aa,ao⟩
           · cases aA
           · exact Ends.row (Ir _) (.inr rfl) aa ao mN af dc
         · cases U
       · cases U
     · cases U
   · cases U
 · cases U
end Go.Proofs.hD
