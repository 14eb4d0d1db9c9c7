/-
  PROVED HERE: contracts of functions (Da). No condition beside each statement's own.
-/
import Derived.Test.YtlelojncabdnoaaDoorSxa
import Derived.Test.YtlelojncabdnoaaDoorTx
import Derived.Test.YtlelojncabdnoaaDoorSxb
import Derived.Test.YtlelojncabdnoaaDoorAx
import Derived.Test.YtlelojncabdnoaaDoorProg
import Derived.Test.YtlelojncabdnoaaDoorSy
set_option linter.unusedVariables false
set_option linter.unusedSimpArgs false
set_option maxRecDepth 100000
set_option maxHeartbeats 1000000
namespace aU
open Go Go.Proofs
noncomputable abbrev an:Program:=Tryd.prog
end aU
namespace Go.Proofs.h3
open Go aU Go.Proofs
variable {Q:bh->aQ->Prop} {R:bL->Prop} (call:cJ)
theorem Oz(l cF m k:Nat)(h g:J)
  (H1:aO h cF 0=some (.map m))
  (ch:xS h (I.map m)=some (I.ptr k 0,g)):
  br an Tryd.f42 none call [0] (bb [(0,.bY l),(1,aA cF)] h) (.nrm)
   (bb [(0,.bY l),(6,aA k)] g):=
 cO [0,6] [.v (.map m),.hE (aA k) g] 16 2 35 (q7 H1 ch cN)
theorem OA(h:J):
  br an Tryd.f42 none call [1,0,0,1] (bb [(8,.bool false)] h) (.exit 0)
   (bb [] h):=
 cO [] [.b false] 16 1 1 cN
theorem OB(l it n:Nat)(key p x:List UInt8)(h g g2:J)
  (H1:p7 h (I.ptr it 0)=some (I.aF [I.str key,I.agg [I.str p,I.str x,a6 n]]))
  (ch:aU.storeCells (J.push h (av [.str [],.str [],a6 0] 40)) (J.n h) 0 [.str p,.str x,a6 n]=some g)
  (c6:aU.loadCells g (J.n h) 0 3=some [.str p,.str x,a6 n])
  (hJ:call (.bY l) [.agg [.str p,.str x,a6 n]] g=bL.ret (.bool true) g2):
  br an Tryd.f42 none call [1,0,0,1] (bb [(0,.bY l),(6,aA it),(8,.bool true)] h) (.nrm)
   (bb [(0,.bY l),(6,aA it)] g2):=
 cO [0,6] [.b true,.v (.aF [.str key,.agg [.str p,.str x,a6 n]]),.hE (.aF []) g,.v (.agg [.str p,.str x,a6 n]),.c (.bool true) g2,.b false] 16 6 144470 (sW H1 (⟨by kernel_rfl,ch,rfl⟩:some 3=some 3/\aU.storeCells (J.push h (b2.cells [I.str [],I.str [],a6 0] 40 e3.own 0 0)) (J.n h) 0 [I.str p,I.str x,a6 n]=some g/\I.aF []=I.aF []) c6 hJ (by kernel_rfl:(!true)=false) cN)
theorem OC(cF:Nat)(h:J):
  br an Tryd.f53 none call [0] (bb [(0,.bK),(1,.fn 42 [] [aA cF])] h) (.nrm)
   (bb [(1,.fn 42 [] [aA cF]),(2,aA (J.n h)),(4,.bK)] (J.push h (av [.bK] 32))):=
 cO [1,2,4] [] 16 0 0 cN
theorem OD(s cF:Nat)(h:J):
  br an Tryd.f53 none call [1,0,0] (bb [(1,.fn 42 [] [aA cF]),(2,aA s),(4,.bK)] h) (.nrm)
   (bb [(2,aA s),(4,.bK),(6,.fn 42 [] [aA cF])] h):=
 cO [2,4,6] [] 16 0 0 cN
theorem OE(l s n:Nat)(p x:List UInt8)(h g:J)
  (H1:aU.storeCells (J.push h (av [.str [],.str [],a6 0] 40)) (J.n h) 0 [.str p,.str x,a6 n]=some g):
  br an Tryd.f53 (some l) call [1,0,1,0,0] (bb [(2,aA s),(7,.agg [.str p,.str x,a6 n])] h) (.nrm)
   (bb [(2,aA s),(5,aA (J.n h))] g):=
 cO [2,5] [.hE (.aF []) g] 16 1 2 (k8 (⟨by kernel_rfl,H1,rfl⟩:some 3=some 3/\aU.storeCells (J.push h (b2.cells [I.str [],I.str [],a6 0] 40 e3.own 0 0)) (J.n h) 0 [I.str p,I.str x,a6 n]=some g/\I.aF []=I.aF []) cN)
theorem OF(l s f n q k:Nat)(p x:List UInt8)(v:I)(h g g2:J)
  (H1:aO h s 0=some v)
  (ch:aU.loadCells h f 0 3=some [.str p,.str x,a6 n])
  (c6:eA an (J.push h (b2.cells [I.str p,I.str x,a6 n] 40 e3.own 0 0)) 32 (some 32) v (I.slice (J.n h) 0 1 (cy.exact 1))=some (I.slice q 0 k (cy.aE 3),g))
  (hJ:aU.storeCells g s 0 [.slice q 0 k (.aE 3)]=some g2):
  br an Tryd.f53 (some l) call [1,0,1,0,1] (bb [(2,aA s),(5,aA f)] h) (.nrm)
   (bb [(2,aA s)] g2):=
 cO [2] [.v v,.v (.agg [.str p,.str x,a6 n]),.hE (.slice q 0 k (.aE 3)) g,.hE (.aF []) g2] 16 4 9029 (lX H1 ch c6 (⟨by kernel_rfl,hJ,rfl⟩:some 1=some 1/\aU.storeCells g s 0 [I.slice q 0 k (cy.aE 3)]=some g2/\I.aF []=I.aF []) cN)
theorem OG(s b:Nat)(v:I)(h:J)
  (H1:aO h s 0=some v):
  br an Tryd.f53 none call [1,1] (aQ.mk [(2,aA s)] [.collected b] .none h) (.ret)
   (aQ.mk [(4,v)] [.collected b] .none h):=
 cO [4] [.v v] 16 1 2 (k8 H1 cN)
theorem OH(cF:Nat)(h:J):
  br an Tryd.f40 none call [0] (bb [(0,.fn 42 [] [aA cF])] h) (.nrm)
   (bb [(0,.fn 42 [] [aA cF])] h):=
 cO [0] [] 16 0 0 cN
theorem OI(cF:Nat)(h:J):
  br an Tryd.f22 none call [0] (bb [(0,.fn 42 [] [aA cF]),(1,.fn 24 [] [])] h) (.nrm)
   (bb [(0,.fn 42 [] [aA cF]),(1,.fn 24 [] [])] h):=
 cO [0,1] [] 16 0 0 cN
theorem GP(v:I)(h g:J)
  (H1:call (.fn 41) [v,.fn 24 [] []] h=bL.ret (.aF []) g):
  br an Tryd.f22 none call [1,1] (bb [(1,.fn 24 [] []),(5,v)] h) (.ret)
   (bb [(4,v)] g):=
 cO [4] [.c (.aF []) g] 16 1 2 (k8 H1 cN)
theorem OJ(v:I)(h:J):
  br an Tryd.f40 none call [1,1] (bb [(2,v)] h) (.ret)
   (bb [(2,v)] h):=
 cO [2] [] 16 0 0 cN
structure b7 where
 p:List UInt8
 x:List UInt8
 n:Nat
abbrev c_(d:b7):List I:=[.str d.p,.str d.x,a6 d.n]
theorem yd:sU an c_ 3 40 32 where
 hu:=by kernel_rfl
 fs:=by kernel_rfl
 info:=by
  obtain⟨i,ag⟩:∃i,an.info? 40=some i:=Option.isSome_iff_exists.1 (by kernel_rfl)
  refine⟨i,ag,?_,?_⟩
  · have:(an.info? 40).map (·.size)=some 3:=by kernel_rfl
    rw[ag] at this;exact Option.some.inj this
  · have:(an.info? 40).map (λi=>Nat.ble i.bytes 1000)=some true:=by kernel_rfl
    rw[ag] at this
    exact Nat.le_of_ble_eq_true (Option.some.inj this)
 zero:=by
  obtain⟨z,aL⟩:∃z,dV an 40=some z:=Option.isSome_iff_exists.1 (by kernel_rfl)
  refine⟨z,aL,?_⟩
  have:(dV an 40).map (·.cells.length)=some 3:=by kernel_rfl
  rw[aL] at this;exact Option.some.inj this
 size:=by kernel_rfl
 len:=λ_=>rfl
 cell:=λ_=>rfl
 pos:=by decide
theorem OK{P:Program}{call:cJ}{l need t ct:Nat}{Γ fo gj:Env}{cA cB:Code}{v:I}{h h1 aa:J}{q a_:aJ}{e:bh}{r:aC}
  (aj:h.get l=some (.loop .ready none need r [t] cA cB ct))(hm:Mod r Γ)
  (aH:dO P need (some l) call cA ⟨put t v Γ,[],.none,h⟩ .nrm ⟨fo,[],q,h1⟩)(dZ:h1.get l=some (.loop .ready none need r [t] cA cB ct))
  (ad:dO P need (some l) call cB ⟨fo,[],.none,h1.set l (some (.loop .busy none need r [t] cA cB ct))⟩ e ⟨gj,[],a_,aa⟩)
  (hk:aa.get l=some (.loop .busy none need r [t] cA cB ct)):
  lB P call l [v] h=Bd l e need r [t] cA cB ct aa:=by
 obtain⟨aX,aw,m1⟩:=aH _ (hm.put t v)
 obtain⟨bx,ar,m2⟩:=ad _ m1
 simp only at aw ar
 simp only[lB,aj,qa,aw,wL,dZ,ar]
 simp only[r8,hk]
 cases e<;>rfl
structure eE where
 k:List UInt8
 f:b7
 born:Nat
def ta(e:df):Option eE:=match e.key,e.val with
 |.str k,.agg [.str p,.str x,.int .u64 (.ofNat n)]=>some ⟨k,⟨p,x,n⟩,e.born⟩
 |_,_=>none
theorem vG{e:df}{d:eE}(h:ta e=some d):e.key=.str d.k/\e.val=.agg (c_ d.f)/\e.born=d.born:=by
 unfold ta at h
 split at h
 · rename_i k p x n h1 aa
   cases h
   exact⟨h1,aa,rfl⟩
 · cases h
inductive og:List df->List eE->Prop where
 |nil:og [] []
 |cons {e es d l}:ta e=some d->og es l->og (e::es) (d::l)
theorem og.tb{es:List df}{l:List eE}(aq:og es l):∀e∈es,∃d∈l,ta e=some d:=by
 induction aq with
 |nil=>intro e he;cases he
 |cons h1 aa a7=>
  intro e he
  rcases List.mem_cons.1 he with rfl|he
  · exact⟨_,by simp,h1⟩
  · obtain⟨d,ao,aM⟩:=a7 e he;exact⟨d,by simp[ao],aM⟩
theorem og.OL{es:List df}{l:List eE}(aq:og es l):∀d∈l,∃e∈es,ta e=some d:=by
 induction aq with
 |nil=>intro e he;cases he
 |cons h1 aa a7=>
  intro e he
  rcases List.mem_cons.1 he with rfl|he
  · exact⟨_,by simp,h1⟩
  · obtain⟨d,ao,aM⟩:=a7 e he;exact⟨d,by simp[ao],aM⟩
def oh(l:List eE)(S:List Nat):List b7:=(l.filter λd=>S.contains d.born).map (·.f)
theorem OM{l:List eE}{S:List Nat}(h:∀d∈l,d.born∈S):oh l S=l.map (·.f):=by
 unfold oh
 rw[List.filter_eq_self.2 (λd al=>by simpa using h d al)]
theorem GQ{S:List Nat}{d:eE}(ae:d.born∉S):∀{l:List eE},(l.map (·.born)).Nodup->d∈l->(oh l (S++[d.born])).Perm (oh l S++[d.f])
 |[],_,h=>by cases h
 |x::l,aB,hm=>by
  have kn:x.born∉l.map (·.born)/\(l.map (·.born)).Nodup:=List.nodup_cons.1 aB
  unfold oh
  rw[List.filter_cons,List.filter_cons]
  by_cases U:x.born=d.born
  · have ON:x=d:=by
      rcases List.mem_cons.1 hm with h|h
      · exact h.symm
      · exact absurd (List.mem_map.2 ⟨d,h,U.symm⟩) kn.1
    subst ON
    have aw:(l.filter λy=>(S++[x.born]).contains y.born)=l.filter λy=>S.contains y.born:=by
     apply List.filter_congr
     intro y bc
     have:¬y.born=x.born:=λe=>kn.1 (List.mem_map.2 ⟨y,bc,e⟩)
     simp[this]
    have ar:(S++[x.born]).contains x.born=true:=by simp
    have bn:S.contains x.born=false:=by simpa using ae
    rw[aw,ar,bn]
    simp only[if_true,Bool.false_eq_true,if_false,List.map_cons]
    exact(List.perm_append_singleton _ _).symm
  · have oS:d∈l:=by
      rcases List.mem_cons.1 hm with h|h
      · exact absurd (by rw[h]) U
      · exact h
    have a7:=GQ ae kn.2 oS
    have ar:(S++[d.born]).contains x.born=S.contains x.born:=by simp[U]
    rw[ar]
    cases ab:S.contains x.born with
    |true=>simp only[if_true,List.map_cons,List.cons_append];exact List.Perm.cons _ a7
    |false=>simp only[Bool.false_eq_true,if_false];exact a7
def rF(l:List eE)(S:List Nat):Nat:=(l.filter λd=>!S.contains d.born).length
theorem GR{S:List Nat}{d:eE}(ae:d.born∉S):∀{l:List eE},(l.map (·.born)).Nodup->d∈l->rF l (S++[d.born])<rF l S
 |[],_,h=>by cases h
 |x::l,aB,hm=>by
  have kn:x.born∉l.map (·.born)/\(l.map (·.born)).Nodup:=List.nodup_cons.1 aB
  have mono:∀l:List eE,(l.filter λy=>!(S++[d.born]).contains y.born).length<=(l.filter λy=>!S.contains y.born).length:=λl=>by
   induction l with
   |nil=>exact Nat.le_refl _
   |cons y l a7=>
    rw[List.filter_cons,List.filter_cons]
    by_cases h1:y.born∈S
    · have bl:(!(S++[d.born]).contains y.born)=false:=by simp[h1]
      have a2:(!S.contains y.born)=false:=by simp[h1]
      rw[bl,a2];exact a7
    · have a2:(!S.contains y.born)=true:=by simp[h1]
      rw[a2]
      split
      · simp only[if_true,List.length_cons];omega
      · simp only[if_true,List.length_cons];omega
  unfold rF
  rw[List.filter_cons,List.filter_cons]
  by_cases U:x.born=d.born
  · have bl:(!(S++[d.born]).contains x.born)=false:=by simp[U]
    have a2:(!S.contains x.born)=true:=by rw[U];simpa using ae
    rw[bl,a2]
    have:=mono l
    simp only[Bool.false_eq_true,if_false,if_true,List.length_cons];omega
  · have oS:d∈l:=by
      rcases List.mem_cons.1 hm with h|h
      · exact absurd (by rw[h]) U
      · exact h
    have a7:=GR ae kn.2 oS
    unfold rF at a7
    have bl:(!(S++[d.born]).contains x.born)=(!S.contains x.born):=by simp[U]
    rw[bl]
    cases ab:(!S.contains x.born) with
    |true=>simp only[if_true,List.length_cons];omega
    |false=>simp only[Bool.false_eq_true,if_false];exact a7
noncomputable def pL:Code:=sub (cS Tryd.f53) [1,0,1,0,0]
noncomputable def pM:Code:=sub (cS Tryd.f53) [1,0,1,0,1]
noncomputable abbrev yF(need:Nat)(r:aC)(ct:Nat):b2:=.loop .ready none need r [7] pL pM ct
structure ky(B:Nat)(bB:J)(m clock need:Nat)(r:aC)(S:List Nat)(ds:List b7)(g:J):Prop where
 low:∀b,b<B->g.get b=bB.get b
 n:B+4<=g.n
 ct:g.get (B+1)=some (.defrd (some []))
 gR:g.get (B+2)=some (yF need r (B+1))
 it:g.get (B+3)=some (.mapIter (some m) clock S clock)
 cell:∃v,g.get B=some (av [v] 32)/\mK c_ 3 40 (B+4) g v ds
theorem OO(cr:Nat->List I->J->Option (I×J))(n:Nat){B m clock need:Nat}{bB g:J}{r:aC}{S:List Nat}{ds:List b7}(aB:need=bH Tryd.f53)(ah:Mod r [(2,.ptr B 0)])(w:ky B bB m clock need r S ds g)(d:b7)(aq:ds.length<=100000):
  ∃cb,cu an cr (n+1) (.bY (B+2)) [.agg (c_ d)] g=.ret (.bool true) cb/\ky B bB m clock need r S (ds++[d]) cb:=by
 subst aB
 obtain⟨v,ab,aN⟩:=w.cell
 have pJ:=w.n
 obtain⟨h1,ga⟩:∃h1,h1=g.push (av (c_ d) 40):=⟨_,rfl⟩
 have aY:h1.n=g.n+1:=by rw[ga];rfl
 have Uo:∀b,b<g.n->h1.get b=g.get b:=λb ad=>by rw[ga];exact b8 ad rfl
 obtain⟨aa,qE⟩:∃aa,aa=(g.push (av [.str [],.str [],a6 0] 40)).set g.n (some (av (c_ d) 40)):=⟨_,rfl⟩
 have bQ:aa.n=g.n+1:=by rw[qE];rfl
 have GS:∀b,b<g.n->aa.get b=g.get b:=λb ad=>by rw[qE];exact dt (by omega) (b8 ad rfl)
 have OP:aa.get g.n=some (av (c_ d) 40):=by rw[qE];exact fw rfl
 have j1:=OE (cu an cr n) (B+2) B d.n d.p d.x g aa (by rw[qE];exact iM (cT rfl) rfl rfl)
 obtain⟨ad,vH⟩:∃ad,ad=aa.set (B+2) (some (.loop .busy none (bH Tryd.f53) r [7] pL pM (B+1))):=⟨_,rfl⟩
 have fJ:ad.n=g.n+1:=by rw[vH];exact bQ
 have B6:∀b,b<g.n->¬b=B+2->ad.get b=g.get b:=λb h1 aa=>by rw[vH];exact dt aa (GS b h1)
 have OQ:ad.get g.n=some (av (c_ d) 40):=by rw[vH];exact dt (by omega) OP
 have OR:ad.get (B+2)=some (.loop .busy none (bH Tryd.f53) r [7] pL pM (B+1)):=by rw[vH];exact fw rfl
 have iH:ad.get B=some (av [v] 32):=(B6 B (by omega) (by omega)).trans ab
 have Au:mK c_ 3 40 (B+4) ad v ds:=by
  rcases aN with aN|⟨p,aw,ar,bn,cR,fD⟩
  · exact .inl aN
  · exact .inr ⟨p,aw,ar,(B6 p fD (by omega)).trans bn,cR,by omega⟩
 obtain⟨aZ,tc⟩:∃aZ,aZ=ad.push (av (c_ d) 40):=⟨_,rfl⟩
 have Up:aZ.n=g.n+2:=by rw[tc];show ad.n+1=_;omega
 have dH:mK c_ 3 40 (B+4) aZ v ds:=Au.mono (Ext.pt (Nat.le_refl _) (Ext.refl _ _)|> λe=>by rw[tc];exact e) (Nat.le_refl _)
 obtain⟨v2,g3,bl,a2,a3,a4,a5⟩:=Nj yd (es:=[d]) dH (by omega) (by rw[tc];exact Nk yd ad 40 d) (by simp;omega)
 have cj:∀c,c<B+4->∀n cp,v≠ .slice c 0 n cp:=λc c9 n cp e=>by
  rcases aN with⟨aw,_⟩|⟨p,aw,_,_,cR,_⟩
  · rw[e] at aw;cases aw
  · rw[e] at aw;cases aw;omega
 have yG:∀b,b<B+4->¬b=B+2->g3.get b=g.get b:=λb h1 aa=>by
  rw[a5 b (by omega) (cj b h1),tc]
  exact b8 (by omega) (B6 b (by omega) aa)
 have OS:g3.get (B+2)=some (.loop .busy none (bH Tryd.f53) r [7] pL pM (B+1)):=by
  rw[a5 (B+2) (by omega) (cj _ (by omega)),tc]
  exact b8 (by omega) OR
 have OT:g3.get B=some (av [v] 32):=(yG B (by omega) (by omega)).trans ab
 obtain⟨a_,rfl,cE,gr,l1,ku⟩:∃p,v2=.slice p 0 (ds++[d]).length (.aE 3)/\0<(ds++[d]).length/\g3.get p=some (.cells (cw c_ (ds++[d])) 40 .aE 0 0)/\B+4<=p/\p<g3.n:=by
  rcases a2 with⟨_,e⟩|h
  · simp at e
  · exact h
 obtain⟨g4,oi⟩:∃g4,g4=g3.set B (some (av [.slice a_ 0 (ds++[d]).length (.aE 3)] 32)):=⟨_,rfl⟩
 have BR:=OF (cu an cr n) (B+2) B g.n d.n a_ (ds++[d]).length d.p d.x v ad g3 g4 (ld1 iH rfl) (mJ OQ rfl) (by rw[<-tc];exact bl) (by rw[oi];exact iM OT rfl rfl)
 have hk:g4.get (B+2)=some (.loop .busy none (bH Tryd.f53) r [7] pL pM (B+1)):=by rw[oi];exact dt (by omega) OS
 have dr:=OK (P:=an) (call:=cu an cr n) (t:=7) (Γ:=[(2,.ptr B 0)]) (cA:=pL) (cB:=pM) (v:=.agg (c_ d)) w.gR ah
  (dO.pre (st1:=⟨put 7 (.agg (c_ d)) [(2,.ptr B 0)],[],.none,g⟩) j1 ⟨rfl,rfl,trivial⟩ rfl rfl rfl) ((GS (B+2) (by omega)).trans w.gR) (by rw[<-vH];exact BR) hk
 refine⟨_,dr,?_,?_,?_,?_,?_,?_⟩
 · intro b ad
   show(g4.set (B+2) _).get b=_
   rw[oi]
   exact dt (by omega) (dt (by omega) ((yG b (by omega) (by omega)).trans (w.low b ad)))
 · show B+4<=g4.n
   rw[oi];show B+4<=g3.n;omega
 · show(g4.set (B+2) _).get (B+1)=_
   rw[oi]
   exact dt (by omega) (dt (by omega) ((yG _ (by omega) (by omega)).trans w.ct))
 · exact fw rfl
 · show(g4.set (B+2) _).get (B+3)=_
   rw[oi]
   exact dt (by omega) (dt (by omega) ((yG _ (by omega) (by omega)).trans w.it))
 · refine⟨.slice a_ 0 (ds++[d]).length (.aE 3),?_,.inr ⟨a_,rfl,cE,?_,l1,?_⟩⟩
   · show(g4.set (B+2) _).get B=_
     rw[oi]
     exact dt (by omega) (fw rfl)
   · show(g4.set (B+2) _).get a_=_
     rw[oi]
     exact dt (by omega) (dt (by omega) gr)
   · show a_<g4.n
     rw[oi];exact ku
theorem ky.top{B m clock need:Nat}{bB g cb:J}{r:aC}{S:List Nat}{ds:List b7}(w:ky B bB m clock need r S ds g)(aB:g.n<=cb.n)(aj:∀b,b<g.n->cb.get b=g.get b):ky B bB m clock need r S ds cb:=by
 have:=w.n
 obtain⟨v,h1,aa⟩:=w.cell
 refine⟨λb ad=>(aj b (by omega)).trans (w.low b ad),by omega,(aj _ (by omega)).trans w.ct,(aj _ (by omega)).trans w.gR,(aj _ (by omega)).trans w.it,v,(aj _ (by omega)).trans h1,?_⟩
 rcases aa with aa|⟨p,aw,ar,bn,cR,fD⟩
 · exact .inl aa
 · exact .inr ⟨p,aw,ar,(aj p fD).trans bn,cR,by omega⟩
theorem ky.step{B m clock need:Nat}{bB g:J}{r:aC}{S:List Nat}{ds:List b7}(w:ky B bB m clock need r S ds g)(b:Nat):ky B bB m clock need r (S++[b]) ds (g.set (B+3) (some (.mapIter (some m) clock (S++[b]) clock))):=by
 have:=w.n
 obtain⟨v,h1,aa⟩:=w.cell
 refine⟨λb ad=>dt (by omega) (w.low b ad),w.n,dt (by omega) w.ct,dt (by omega) w.gR,fw rfl,v,dt (by omega) h1,?_⟩
 rcases aa with aa|⟨p,aw,ar,bn,cR,fD⟩
 · exact .inl aa
 · exact .inr ⟨p,aw,ar,dt (by omega) bn,cR,fD⟩
structure pN(H:J)(cF m clock:Nat)(es:List df)(l:List eE):Prop where
 ab:aO H cF 0=some (.map m)
 hm:H.get m=some (.map es clock)
 hr:og es l
 du:(l.map (·.born)).Nodup
 lt:∀d∈l,d.born<clock
 len:l.length<=100000
 OU:cF<H.n
 kj:m<H.n
theorem OV{l:List eE}(aB:(l.map (·.born)).Nodup):∀a∈l,∀b∈l,a.born=b.born->a=b:=by
 induction l with
 |nil=>intro a aH;cases aH
 |cons x l a7=>
  have kn:x.born∉l.map (·.born)/\(l.map (·.born)).Nodup:=List.nodup_cons.1 aB
  intro a aH b ad e
  rcases List.mem_cons.1 aH with rfl|k1<;>rcases List.mem_cons.1 ad with rfl|hR
  · rfl
  · exact absurd (List.mem_map.2 ⟨b,hR,e.symm⟩) kn.1
  · exact absurd (List.mem_map.2 ⟨a,k1,e⟩) kn.1
  · exact a7 kn.2 a k1 b hR e
theorem GU{b:Nat}:∀{es:List df} {e:df},e∈es->(∀x∈es,x.born=e.born->x=e)->e.born=b->p6 b es=some e
 |[],e,he,_,_=>by cases he
 |x::es,e,he,hu,ad=>by
  unfold p6
  by_cases U:x.born=b
  · have:Nat.beq x.born b=true:=by rw[U];exact Nat.beq_refl _
    rw[this]
    rw[hu x (by simp) (U.trans ad.symm)]
  · have:Nat.beq x.born b=false:=by
      cases ab:Nat.beq x.born b with
      |false=>rfl
      |true=>exact absurd (Nat.eq_of_beq_eq_true ab) U
    rw[this]
    rcases List.mem_cons.1 he with rfl|he
    · exact absurd ad U
    · exact GU he (λx U=>hu x (by simp[U])) ad
theorem pN.uniq{H:J}{cF m clock:Nat}{es:List df}{l:List eE}(w:pN H cF m clock es l):∀x∈es,∀e∈es,x.born=e.born->x=e:=by
 intro x U e he ad
 obtain⟨OW,OX,OY⟩:=w.hr.tb x U
 obtain⟨OZ,O0,O1⟩:=w.hr.tb e he
 obtain⟨bl,a2,a3⟩:=vG OY
 obtain⟨cC,cE,gr⟩:=vG O1
 have:=OV w.du OW OX OZ O0 (by omega)
 subst this
 obtain⟨bz,v1,cK⟩:=x
 obtain⟨bZ,v2,cf⟩:=e
 simp only at bl a2 a3 cC cE gr
 rw[bl,a2,a3,cC,cE,gr]
def B7(B:Nat)(bB:J)(m clock need:Nat)(r:aC)(l:List eE)(k:Nat)(s:aQ):Prop:=∃S ds g,s=⟨[(0,.bY (B+2)),(6,.ptr (B+3) 0)],[],.none,g⟩/\ky B bB m clock need r S ds g/\ds.Perm (oh l S)/\rF l S=k
def GV(B:Nat)(bB:J)(m clock need:Nat)(r:aC)(l:List eE)(e:bh)(s:aQ):Prop:=e=.exit 0/\∃S ds g,s=⟨[],[],.none,g⟩/\ky B bB m clock need r S ds g/\ds.Perm (l.map (·.f))
theorem O2{cr:Nat->List I->J->Option (I×J)}(hf:Fit an)(h4:gN an cr)(n:Nat){B cF m clock need:Nat}{bB:J}{r:aC}{es:List df}{l:List eE}(hY:bB.n=B)(w:pN bB cF m clock es l)(B8:need=bH Tryd.f53)(ah:Mod r [(2,.ptr B 0)])(k:Nat)(s:aQ)(ae:B7 B bB m clock need r l k s):
  c7 an Tryd.f42 none [1,0,0] s (GC (B7 B bB m clock need r l) k (GV B bB m clock need r l)):=by
 obtain⟨S,ds,g,rfl,aI,aZ,hk⟩:=ae
 have gB:=qQ hf h4 (n+1)
 have hdr:∀need bk,jq an need bk (cu an cr (n+1)):=λneed bk=>sD hf.mixed gB need bk
 have GW:m<B:=by have:=w.kj;omega
 have uw:g.get m=some (.map es clock):=(aI.low m GW).trans w.hm
 have pJ:=aI.n
 refine c7.seq (p:=[1,0,0]) (R1:=λe s=>e=.nrm/\((s=⟨put 8 (.bool false) [(0,.bY (B+2)),(6,.ptr (B+3) 0)],[],.none,g⟩/\∀e∈es,e.born∈S)\/∃e∈es,e.born∉S/\s=⟨put 8 (.bool true) [(0,.bY (B+2)),(6,.ptr (B+3) 0)],[],.none,g.set (B+3) (some (.mapIter (some m) clock (S++[e.born]) clock))⟩)) (by kernel_rfl)
  (c7.next gB (p:=[1,0,0,0]) (it:=6) (a:=7) (t:=8) (by kernel_rfl) (by kernel_rfl) (by kernel_rfl) (by kernel_rfl) (by kernel_rfl) rfl aI.it uw (λe he=>by
   obtain⟨d,d1,d2⟩:=w.hr.tb e he
   obtain⟨_,_,a3⟩:=vG d2
   have:=w.lt d d1;omega) (Nat.le_refl _) (λdn=>⟨rfl,.inl ⟨rfl,dn⟩⟩) λe he ja=>⟨rfl,.inr ⟨e,he,ja,rfl⟩⟩) (λaD h1=>?_) λe aD he h1=>absurd h1.1 he
 obtain⟨_,⟨rfl,eY⟩|⟨e,he,ja,rfl⟩⟩:=h1
 · have O3:∀d∈l,d.born∈S:=λd al=>by
     obtain⟨e,he,xr⟩:=w.hr.OL d al
     obtain⟨_,_,a3⟩:=vG xr
     rw[<-a3];exact eY e he
   exact c7.pre (c7.of_run gB hdr (by kernel_rfl) (OA (cu an cr (n+1)) g) (.inr ⟨by simp,rfl,S,ds,g,rfl,aI,by rw[<-OM O3];exact aZ⟩)) ⟨rfl,trivial⟩ rfl rfl rfl
 · obtain⟨d,d1,d2⟩:=w.hr.tb e he
   obtain⟨bl,a2,a3⟩:=vG d2
   have pg:=aI.step e.born
   obtain⟨g1,dZ⟩:∃g1,g1=g.set (B+3) (some (.mapIter (some m) clock (S++[e.born]) clock)):=⟨_,rfl⟩
   rw[<-dZ] at pg⊢
   have Ap:g1.get m=some (.map es clock):=(pg.low m GW).trans w.hm
   have tb:p7 g1 (.ptr (B+3) 0)=some (.aF [.str d.k,.agg (c_ d.f)]):=by
    have ic:=GU he (λx U ad=>w.uniq x U e he ad) rfl
    have zQ:tJ (S++[e.born])=some e.born:=by rw[zP];simp
    unfold p7
    simp only[pg.it,Ap,zQ,ic,bl,a2]
    rw[Nat.beq_refl]
   obtain⟨g2,hs⟩:∃g2,g2=(g1.push (av [.str [],.str [],a6 0] 40)).set g1.n (some (av (c_ d.f) 40)):=⟨_,rfl⟩
   have B9:ky B bB m clock need r (S++[e.born]) ds g2:=pg.top (by rw[hs];exact Nat.le_succ _) λb ad=>by rw[hs];exact dt (by omega) (b8 ad rfl)
   have hlen:ds.length<=100000:=by
    rw[aZ.length_eq]
    unfold oh
    rw[List.length_map]
    exact Nat.le_trans (List.length_filter_le _ _) w.len
   obtain⟨g3,bc,O4⟩:=OO cr n B8 ah B9 d.f hlen
   have GX:d.born∉S:=by rw[<-a3];exact ja
   have vI:(ds++[d.f]).Perm (oh l (S++[e.born])):=by
    rw[a3]
    exact(aZ.append_right [d.f]).trans (GQ GX w.du d1).symm
   have bN:rF l (S++[e.born])<k:=by rw[<-hk,a3];exact GR GX w.du d1
   exact c7.pre (c7.of_run gB hdr (by kernel_rfl) (OB (cu an cr (n+1)) (B+2) (B+3) d.f.n d.k d.f.p d.f.x g1 g2 g3 tb (by rw[hs];exact iM (cT rfl) rfl rfl) (mJ (by rw[hs];exact fw rfl) rfl) bc)
    (.inl ⟨rfl,_,bN,S++[e.born],ds++[d.f],g3,rfl,O4,vI,rfl⟩)) ⟨rfl,rfl,rfl,trivial⟩ rfl rfl rfl
theorem O5{cr:Nat->List I->J->Option (I×J)}(hf:Fit an)(h4:gN an cr)(n:Nat){cF m clock need:Nat}{bB:J}{r:aC}{es:List df}{l:List eE}(w:pN bB cF m clock es l)(B8:need=bH Tryd.f53)(ah:Mod r [(2,.ptr bB.n 0)]):
  lh an 42 [.bY (bB.n+2),.ptr cF 0] (((bB.push (av [.bK] 32)).push (.defrd (some []))).push (yF need r (bB.n+1)))
   (λv g=>v=.aF []/\∃S ds,ky bB.n bB m clock need r S ds g/\ds.Perm (l.map (·.f))):=by
 have gB:=qQ hf h4 (n+1)
 have hdr:∀need bk,jq an need bk (cu an cr (n+1)):=λneed bk=>sD hf.mixed gB need bk
 obtain⟨lj,td⟩:∃lj,lj=((bB.push (av [.bK] 32)).push (.defrd (some []))).push (yF need r (bB.n+1)):=⟨_,rfl⟩
 have O6:lj.n=bB.n+3:=by rw[td];rfl
 have B_:∀b,b<bB.n->lj.get b=bB.get b:=λb ad=>by rw[td];exact b8 (by show b<bB.n+1+1;omega) (b8 (by show b<bB.n+1;omega) (b8 ad rfl))
 have O7:lj.get bB.n=some (av [.bK] 32):=by rw[td];exact b8 (by show bB.n<bB.n+1+1;omega) (b8 (by show bB.n<bB.n+1;omega) (cT rfl))
 have O8:lj.get (bB.n+1)=some (.defrd (some [])):=by rw[td];exact b8 (by show bB.n+1<bB.n+1+1;omega) (cT rfl)
 have O9:lj.get (bB.n+2)=some (yF need r (bB.n+1)):=by rw[td];exact cT rfl
 rw[<-td]
 have O_:=w.kj
 have wZ:=w.OU
 have Pa:ky bB.n bB m clock need r [] [] (lj.push (.mapIter (some m) clock [] clock)):=
  ⟨λb ad=>b8 (by omega) (B_ b ad),by show bB.n+4<=lj.n+1;omega,b8 (by omega) O8,b8 (by omega) O9,cT (by omega),.bK,b8 (by omega) O7,.inl ⟨rfl,rfl⟩⟩
 have Pb:=Oz (cu an cr (n+1)) (bB.n+2) cF m lj.n lj (lj.push (.mapIter (some m) clock [] clock)) (by unfold aO;rw[B_ cF wZ];exact w.ab) (by simp only[xS,(B_ m O_).trans w.hm])
 refine lh.yw gB hdr hf.code Tryd.func42 (by kernel_rfl) (by kernel_rfl) ?_
 refine c7.seq (p:=[]) (R1:=λe s=>e=.nrm/\s=⟨[(0,.bY (bB.n+2)),(6,.ptr (bB.n+3) 0)],[],.none,lj.push (.mapIter (some m) clock [] clock)⟩) (by kernel_rfl) (c7.of_run gB hdr (by kernel_rfl) Pb ⟨rfl,by rw[O6]⟩) (λs ae=>?_) λe s he ae=>absurd ae.1 he
 obtain⟨_,rfl⟩:=ae
 refine c7.block (p:=[1]) (id:=0) (R1:=GV bB.n bB m clock need r l) (by kernel_rfl)
  (c7.loop (p:=[1,0]) (B7 bB.n bB m clock need r l) (by kernel_rfl) (λk s ae=>O2 hf h4 n rfl w B8 ah k s ae) (rF l []) ⟨[],[],_,rfl,Pa,by unfold oh;simp,rfl⟩)
  λe s ae=>?_
 obtain⟨rfl,S,ds,g,rfl,h1,aa⟩:=ae
 exact⟨.inl rfl,rfl,.aF [],g,yx (by kernel_rfl),rfl,S,ds,h1,aa⟩
def yH(bB:J)(l:List eE)(v:I)(g:J):Prop:=bB.n+4<=g.n/\(∀b,b<bB.n->g.get b=bB.get b)/\∃ds,ds.Perm (l.map (·.f))/\mK c_ 3 40 (bB.n+4) g v ds
theorem GY:sub (cS Tryd.f53) [1,0,1,0]=.rangeFunc (.tmp 6) #[7] pL pM:=by kernel_rfl
theorem Pc{cr:Nat->List I->J->Option (I×J)}(hf:Fit an)(h4:gN an cr)(n:Nat){cF m clock:Nat}{bB:J}{es:List df}{l:List eE}(w:pN bB cF m clock es l):
  lh an 53 [.bK,.fn 42 [] [.ptr cF 0]] bB (yH bB l):=by
 have gB:=qQ hf h4 n
 have hdr:∀need bk,jq an need bk (cu an cr n):=λneed bk=>sD hf.mixed gB need bk
 refine lh.yw gB hdr hf.code Tryd.func53 (by kernel_rfl) (by kernel_rfl) ?_
 refine c7.seq (p:=[]) (R1:=λe s=>e=.nrm/\s=⟨[(1,.fn 42 [] [.ptr cF 0]),(2,.ptr bB.n 0),(4,.bK)],[],.none,bB.push (av [.bK] 32)⟩) (by kernel_rfl) (c7.of_run gB hdr (by kernel_rfl) (OC (cu an cr n) cF bB) ⟨rfl,rfl⟩) (λs ae=>?_) λe s he ae=>absurd ae.1 he
 obtain⟨_,rfl⟩:=ae
 refine c7.seq (p:=[1]) (R1:=λe s=>e=.nrm/\∃g v ds,s=⟨[(2,.ptr bB.n 0)],[.collected (bB.n+1)],.none,g⟩/\bB.n+4<=g.n/\(∀b,b<bB.n->g.get b=bB.get b)/\g.get (bB.n+1)=some (.defrd (some []))/\g.get bB.n=some (av [v] 32)/\ds.Perm (l.map (·.f))/\mK c_ 3 40 (bB.n+4) g v ds) (by kernel_rfl) ?_ (λs ae=>?_) λe s he ae=>absurd ae.1 he
 · refine c7.seq (p:=[1,0]) (R1:=λe s=>e=.nrm/\s=⟨[(2,.ptr bB.n 0),(4,.bK),(6,.fn 42 [] [.ptr cF 0])],[],.none,bB.push (av [.bK] 32)⟩) (by kernel_rfl) (c7.of_run gB hdr (by kernel_rfl) (OD (cu an cr n) bB.n cF _) ⟨rfl,rfl⟩) (λs ae=>?_) λe s he ae=>absurd ae.1 he
   obtain⟨_,rfl⟩:=ae
   refine c7.block (p:=[1,0,1]) (id:=0) (R1:=λe s=>e=.nrm/\∃g v ds,s=⟨[(2,.ptr bB.n 0)],[.collected (bB.n+1)],.none,g⟩/\bB.n+4<=g.n/\(∀b,b<bB.n->g.get b=bB.get b)/\g.get (bB.n+1)=some (.defrd (some []))/\g.get bB.n=some (av [v] 32)/\ds.Perm (l.map (·.f))/\mK c_ 3 40 (bB.n+4) g v ds) (by kernel_rfl) ?_ λe s ae=>?_
   · intro r ah
     show fW an _ _ none (sub (cS Tryd.f53) [1,0,1,0]) _ _ _ _ _
     rw[GY]
     have nU:Mod r [(2,.ptr bB.n 0)]:=ah.sub ⟨rfl,trivial⟩
     have dB:r.get (e2 6)=.fn 42 [] [.ptr cF 0]:=ah 6 _ rfl
     refine fW.range (g:=42) (first:=[]) (caps:=[.ptr cF 0]) (R0:=λv g=>v=.aF []/\∃S ds,ky bB.n bB m clock (bH Tryd.f53) r S ds g/\ds.Perm (l.map (·.f))) (by rw[<-GY];kernel_rfl) ?_ ?_ λv c6 ei=>?_
     · have:bM an (bH Tryd.f53) [] (.tmp 6)=.iF (e2 6):=by kernel_rfl
       rw[this];exact dB
     · exact O5 hf h4 n w rfl nU
     · obtain⟨rfl,S,ds,h1,aa⟩:=ei
       obtain⟨v,ao,aM⟩:=h1.cell
       have aB:=h1.n
       refine⟨.ready,_,r,[7],pL,pM,bB.n+1,h1.gR,by simp,_,nU,rfl,_,v,ds,rfl,aB,λb ad=>dt (by show¬b=bB.n+1+1;omega) (h1.low b ad),dt (by show¬bB.n+1=bB.n+1+1;omega) h1.ct,dt (by show¬bB.n=bB.n+1+1;omega) ao,aa,?_⟩
       rcases aM with aM|⟨p,aw,ar,bn,cR,fD⟩
       · exact .inl aM
       · exact .inr ⟨p,aw,ar,dt (by show¬p=bB.n+1+1;omega) bn,cR,fD⟩
   · obtain⟨rfl,ae⟩:=ae
     exact⟨rfl,ae⟩
 · obtain⟨_,g,v,ds,rfl,h1,aa,ao,aM,bA,dB⟩:=ae
   refine c7.mono (c7.of_run (R:=λe s=>e=.ret/\s=⟨[(4,v)],[.collected (bB.n+1)],.none,g⟩) gB hdr (by kernel_rfl) (?_:br an Tryd.f53 none (cu an cr n) [1,1] ⟨[(2,.ptr bB.n 0)],[.collected (bB.n+1)],.none,g⟩ .ret ⟨[(4,v)],[.collected (bB.n+1)],.none,g⟩) ⟨rfl,rfl⟩) λe s ae=>?_
   · exact OG (cu an cr n) bB.n (bB.n+1) v g (ld1 aM rfl)
   · obtain⟨rfl,rfl⟩:=ae
     have cj:∀b,¬b=bB.n+1->(g.set (bB.n+1) (some (.defrd none))).get b=g.get b:=λb ad=>dt ad rfl
     refine⟨.inr rfl,rfl,v,_,N5 ao (by kernel_rfl),h1,λb ad=>(cj b (by omega)).trans (aa b ad),ds,bA,?_⟩
     rcases dB with dB|⟨p,aw,ar,bn,cR,fD⟩
     · exact .inl dB
     · exact .inr ⟨p,aw,ar,(cj p (by omega)).trans bn,cR,fD⟩
theorem Pd{cr:Nat->List I->J->Option (I×J)}(hf:Fit an)(h4:gN an cr)(n:Nat){cF m clock:Nat}{bB:J}{es:List df}{l:List eE}(w:pN bB cF m clock es l):
  lh an 40 [.fn 42 [] [.ptr cF 0]] bB (yH bB l):=by
 have gB:=qQ hf h4 n
 have hdr:∀need bk,jq an need bk (cu an cr n):=λneed bk=>sD hf.mixed gB need bk
 refine lh.yw gB hdr hf.code Tryd.func40 (by kernel_rfl) (by kernel_rfl) ?_
 refine c7.seq (p:=[]) (R1:=λe s=>e=.nrm/\s=⟨[(0,.fn 42 [] [.ptr cF 0])],[],.none,bB⟩) (by kernel_rfl) (c7.of_run gB hdr (by kernel_rfl) (OH (cu an cr n) cF bB) ⟨rfl,rfl⟩) (λs ae=>?_) λe s he ae=>absurd ae.1 he
 obtain⟨_,rfl⟩:=ae
 refine c7.seq (p:=[1]) (R1:=λe s=>e=.nrm/\∃v g,s.d=[]/\s.q=.none/\s.h=g/\cU 2 s.Γ=some v/\yH bB l v g) (by kernel_rfl)
  (c7.GG (p:=[1,0]) (f:=53) (accs:=[.val .bK,.iF (e2 0)]) (loc:=(j_ an (bH Tryd.f40) (opsOf (sub (cS Tryd.f40) [1,0]))).loc) (by kernel_rfl) (by kernel_rfl) (args:=[.bK,.fn 42 [] [.ptr cF 0]]) (by kernel_rfl) (Pc hf h4 n w) λv g aj=>⟨rfl,v,g,rfl,rfl,rfl,by kernel_rfl,aj⟩) (λs ae=>?_) λe s he ae=>absurd ae.1 he
 obtain⟨_,v,g,h1,aa,ao,aM,bA⟩:=ae
 refine c7.pre (c7.of_run gB hdr (by kernel_rfl) (OJ (cu an cr n) v g) ?_) ⟨aM,trivial⟩ h1 aa ao
 exact⟨.inr rfl,rfl,v,g,yx (by kernel_rfl),bA⟩
theorem Ca(x y:UInt8)(a b:List UInt8):dA (x::a) (y::b)=if x.toNat=y.toNat then dA a b else decide (x.toNat<y.toNat):=by
 by_cases h:x.toNat=y.toNat
 · rw[if_pos h];simp only[dA,h,Nat.beq_refl]
 · rw[if_neg h]
   have ad:Nat.beq x.toNat y.toNat=false:=by
    cases ad:Nat.beq x.toNat y.toNat with
    |false=>rfl
    |true=>exact absurd (Nat.eq_of_beq_eq_true ad) h
   simp only[dA,ad]
   exact Bool.eq_iff_iff.2 (by rw[Nat.blt_eq];simp)
theorem yI:∀a:List UInt8,dA a a=false
 |[]=>rfl
 |x::a=>by rw[Ca,if_pos rfl];exact yI a
theorem vJ:∀a b c:List UInt8,dA a b=true->dA b c=true->dA a c=true
 |[],[],_,h,_=>by cases h
 |_::_,[],_,h,_=>by cases h
 |[],_::_,[],_,h=>by cases h
 |_::_,_::_,[],_,h=>by cases h
 |[],_::_,_::_,_,_=>rfl
 |x::a,y::b,z::c,h1,aa=>by
  rw[Ca] at h1 aa⊢
  by_cases aw:x.toNat=y.toNat
  · rw[if_pos aw] at h1
    by_cases ar:y.toNat=z.toNat
    · rw[if_pos ar] at aa;rw[if_pos (aw.trans ar)];exact vJ a b c h1 aa
    · rw[if_neg ar] at aa;rw[if_neg (by omega)];simp at aa⊢;omega
  · rw[if_neg aw] at h1
    by_cases ar:y.toNat=z.toNat
    · rw[if_neg (by omega)];simp at h1⊢;omega
    · rw[if_neg ar] at aa;simp at h1 aa;rw[if_neg (by omega)];simp;omega
theorem vK:∀a b:List UInt8,dA a b=false->dA b a=false->a=b
 |[],[],_,_=>rfl
 |[],_::_,h,_=>by cases h
 |_::_,[],_,h=>by cases h
 |x::a,y::b,h1,aa=>by
  rw[Ca] at h1 aa
  by_cases aw:x.toNat=y.toNat
  · rw[if_pos aw] at h1;rw[if_pos aw.symm] at aa
    rw[UInt8.toNat_inj.1 aw,vK a b h1 aa]
  · rw[if_neg aw] at h1;rw[if_neg (λe=>aw e.symm)] at aa
    simp at h1 aa;omega
theorem GZ(a b c:List UInt8)(h1:dA a b=false)(aa:dA b c=false):dA a c=false:=by
 cases h:dA a c with
 |false=>rfl
 |true=>
  cases ao:dA c b with
  |true=>rw[vJ a c b h ao] at h1;cases h1
  |false=>rw[vK b c aa ao,h] at h1;cases h1
abbrev a1:=List UInt8
def gU(a b:a1):Bool:=!dA b a
theorem yJ(a b c:a1)(h1:gU a b=true)(aa:gU b c=true):gU a c=true:=by
 simp only[gU,Bool.not_eq_true'] at*
 exact GZ c b a aa h1
theorem Cb(a b:a1):(gU a b||gU b a)=true:=by
 simp only[gU,Bool.or_eq_true,Bool.not_eq_true']
 cases h:dA b a with
 |false=>exact .inl rfl
 |true=>
  right
  cases aa:dA a b with
  |false=>rfl
  |true=>have:=vJ _ _ _ h aa;rw[yI] at this;cases this
theorem Pe{a b:a1}(h1:gU a b=true)(aa:gU b a=true):a=b:=by
 simp only[gU,Bool.not_eq_true'] at*
 exact vK _ _ aa h1
theorem sorted_perm:∀{l m:List a1},l.Pairwise (λa b=>gU a b=true)->m.Pairwise (λa b=>gU a b=true)->l.Perm m->l=m
 |[],m,_,_,h=>h.nil_eq
 |a::l,[],_,_,h=>absurd h.length_eq (by simp)
 |a::l,b::m,h1,aa,h=>by
  have eZ:=List.pairwise_cons.1 h1
  have uQ:=List.pairwise_cons.1 aa
  have kQ:a=b:=by
   have aH:a∈b::m:=h.subset (by simp)
   have ad:b∈a::l:=h.symm.subset (by simp)
   rcases List.mem_cons.1 aH with e|aH
   · exact e
   · rcases List.mem_cons.1 ad with e|ad
     · exact e.symm
     · exact Pe (eZ.1 b ad) (uQ.1 a aH)
  subst kQ
  rw[sorted_perm eZ.2 uQ.2 (List.Perm.cons_inv h)]
def pO(l:List a1):List a1:=l.mergeSort gU
theorem Pf{l m:List a1}(h:l.Perm m):pO l=pO m:=
 sorted_perm (List.pairwise_mergeSort yJ Cb l) (List.pairwise_mergeSort yJ Cb m) (((List.mergeSort_perm l gU).trans h).trans (List.mergeSort_perm m gU).symm)
open Go aU Go.Proofs Go.Sort Go.Shelf
theorem yK(s:List UInt8)(h:J):
  br an Tryd.f43 none call [] (bb [(0,.str s)] h) (.ret)
   (bb [(2,.bool !cW s s)] h):=
 cO [2] [] 16 0 0 cN
theorem Pg(a b:List UInt8)(h:J)
  (H1:call (.fn 43) [.str a] h=bL.ret (.bool false) h)
  (ch:call (.fn 43) [.str b] h=bL.ret (.bool false) h)
  (c6:dA a b=true):
  br an Tryd.f25 none call [] (bb [(0,.str a),(1,.str b)] h) (.ret)
   (bb [(4,.int .i64 (.negSucc 0))] h):=
 cO [4] (.c (.bool false) h::.c (.bool false) h::iv 3 1 []) 16 5 143636 (q8 H1 ch c6 cN)
theorem Ph(a b:List UInt8)(h:J)
  (H1:call (.fn 43) [.str a] h=bL.ret (.bool false) h)
  (ch:call (.fn 43) [.str b] h=bL.ret (.bool false) h)
  (c6:dA a b=false)
  (hJ:dA b a=true):
  br an Tryd.f25 none call [] (bb [(0,.str a),(1,.str b)] h) (.ret)
   (bb [(4,ak 1)] h):=
 cO [4] (.c (.bool false) h::.c (.bool false) h::iv 4 1 []) 16 6 2298181 (lX H1 ch c6 hJ cN)
theorem Pj(a b:List UInt8)(h:J)
  (H1:call (.fn 43) [.str a] h=bL.ret (.bool false) h)
  (ch:call (.fn 43) [.str b] h=bL.ret (.bool false) h)
  (c6:dA a b=false)
  (hJ:dA b a=false):
  br an Tryd.f25 none call [] (bb [(0,.str a),(1,.str b)] h) (.ret)
   (bb [(4,ak 0)] h):=
 cO [4] (.c (.bool false) h::.c (.bool false) h::iv 4 0 []) 16 6 2298181 (lX H1 ch c6 hJ cN)
theorem lc(p x q y:List UInt8)(n k:Nat)(r:Int)(h g:J)
  (H1:aO (J.push (J.push h (av [.str p,.str x,a6 n] 40)) (av [.str q,.str y,a6 k] 40)) (J.n h) (0+0)=some (.str p))
  (ch:aO (J.push (J.push h (av [.str p,.str x,a6 n] 40)) (av [.str q,.str y,a6 k] 40)) (J.n (J.push h (av [.str p,.str x,a6 n] 40))) (0+0)=some (.str q))
  (c6:call (.fn 25) [.str p,.str q] (J.push (J.push h (av [.str p,.str x,a6 n] 40)) (av [.str q,.str y,a6 k] 40))=bL.ret (.int .i64 r) g):
  br an Tryd.f24 none call [] (bb [(0,.agg [.str p,.str x,a6 n]),(1,.agg [.str q,.str y,a6 k])] h) (.ret)
   (bb [(4,.int .i64 r)] g):=
 cO [4] [.v (.str p),.v (.str q),.c (.int .i64 r) g] 16 3 564 (q8 H1 ch c6 cN)
def G0:Go.Shelf.Ren:=⟨λ|6=>41|14=>54|15=>55|20=>63|21=>64|22=>65|23=>66|24=>67|25=>68|26=>69|27=>70|28=>71|29=>72|46=>78|47=>79|48=>80|49=>81|50=>82|57=>88|n=>n,λ|0=>0|3=>3|4=>4|5=>5|9=>9|22=>32|24=>40|25=>65|39=>89|45=>101|46=>102|50=>106|53=>109|55=>22|66=>122|70=>126|76=>131|77=>132|n=>n,λn=>n⟩
theorem G1:SlLaysF0.n6 an G0 where
 mixed:=by kernel_rfl
 f6:=⟨Tryd.f41.name,by decide,Tryd.func41.trans (congrArg some (by kernel_rfl))⟩
 f14:=⟨Tryd.f54.name,by decide,Tryd.func54.trans (congrArg some (by kernel_rfl))⟩
 f15:=Tryd.func55.trans (congrArg some (by kernel_rfl))
 f20:=⟨Tryd.f63.name,by decide,Tryd.func63.trans (congrArg some (by kernel_rfl))⟩
 f21:=⟨Tryd.f64.name,by decide,Tryd.func64.trans (congrArg some (by kernel_rfl))⟩
 f22:=⟨Tryd.f65.name,by decide,Tryd.func65.trans (congrArg some (by kernel_rfl))⟩
 f23:=⟨Tryd.f66.name,by decide,Tryd.func66.trans (congrArg some (by kernel_rfl))⟩
 f24:=⟨Tryd.f67.name,by decide,Tryd.func67.trans (congrArg some (by kernel_rfl))⟩
 f25:=⟨Tryd.f68.name,by decide,Tryd.func68.trans (congrArg some (by kernel_rfl))⟩
 f26:=⟨Tryd.f69.name,by decide,Tryd.func69.trans (congrArg some (by kernel_rfl))⟩
 f27:=⟨Tryd.f70.name,by decide,Tryd.func70.trans (congrArg some (by kernel_rfl))⟩
 f28:=Tryd.func71.trans (congrArg some (by kernel_rfl))
 f29:=Tryd.func72.trans (congrArg some (by kernel_rfl))
 f46:=⟨Tryd.f78.name,by decide,Tryd.func78.trans (congrArg some (by kernel_rfl))⟩
 f47:=Tryd.func79.trans (congrArg some (by kernel_rfl))
 f48:=Tryd.func80.trans (congrArg some (by kernel_rfl))
 f49:=⟨Tryd.f81.name,by decide,Tryd.func81.trans (congrArg some (by kernel_rfl))⟩
 f50:=⟨Tryd.f82.name,by decide,Tryd.func82.trans (congrArg some (by kernel_rfl))⟩
 f57:=⟨Tryd.f88.name,by decide,Tryd.func88.trans (congrArg some (by kernel_rfl))⟩
 t0:=Tryd.underlying0
 a0:=Tryd.isAgg0
 z0:=Tryd.sizeOf0
 v0:=Tryd.zeroValue0
 t3:=Tryd.underlying3
 a3:=Tryd.isAgg3
 z3:=Tryd.sizeOf3
 v3:=Tryd.zeroValue3
 t4:=Tryd.underlying4
 a4:=Tryd.isAgg4
 z4:=Tryd.sizeOf4
 v4:=Tryd.zeroValue4
 t5:=Tryd.underlying5
 a5:=Tryd.isAgg5
 z5:=Tryd.sizeOf5
 v5:=Tryd.zeroValue5
 t9:=Tryd.underlying9
 a9:=Tryd.isAgg9
 z9:=Tryd.sizeOf9
 v9:=Tryd.zeroValue9
 t22:=Tryd.underlying32
 a22:=Tryd.isAgg32
 z22:=Tryd.sizeOf32
 v22:=Tryd.zeroValue32
 t25:=Tryd.underlying65
 a25:=Tryd.isAgg65
 z25:=Tryd.sizeOf65
 v25:=Tryd.zeroValue65
 t39:=Tryd.underlying89
 a39:=Tryd.isAgg89
 z39:=Tryd.sizeOf89
 v39:=Tryd.zeroValue89
 t45:=Tryd.underlying101
 a45:=Tryd.isAgg101
 z45:=Tryd.sizeOf101
 v45:=Tryd.zeroValue101
 t46:=Tryd.underlying102
 a46:=Tryd.isAgg102
 z46:=Tryd.sizeOf102
 v46:=Tryd.zeroValue102
 t50:=Tryd.underlying106
 a50:=Tryd.isAgg106
 z50:=Tryd.sizeOf106
 v50:=Tryd.zeroValue106
 t53:=Tryd.underlying109
 a53:=Tryd.isAgg109
 z53:=Tryd.sizeOf109
 v53:=Tryd.zeroValue109
 t55:=Tryd.underlying22
 a55:=Tryd.isAgg22
 z55:=Tryd.sizeOf22
 v55:=Tryd.zeroValue22
 t66:=Tryd.underlying122
 a66:=Tryd.isAgg122
 z66:=Tryd.sizeOf122
 v66:=Tryd.zeroValue122
 t70:=Tryd.underlying126
 a70:=Tryd.isAgg126
 z70:=Tryd.sizeOf126
 v70:=Tryd.zeroValue126
 t76:=Tryd.underlying131
 a76:=Tryd.isAgg131
 z76:=Tryd.sizeOf131
 v76:=Tryd.zeroValue131
 t77:=Tryd.underlying132
 a77:=Tryd.isAgg132
 z77:=Tryd.sizeOf132
 v77:=Tryd.zeroValue132
def rG(x y:a1):Int:=if dA x y then-1 else if dA y x then 1 else 0
theorem G2(m:Nat)(s:a1)(h:J):cu an (λ_ _ _=>none) (m+1) (.fn 43) [.str s] h=.ret (.bool false) h:=by
 have e:cW s s=true:=by rw[hA];simp
 exact hZ (intr:=λ_ _ _=>none) (n:=m) (args:=[.str s]) Tryd.func43 (yK (cu an (λ_ _ _=>none) m) s h) (.inl rfl) (by rw[e];kernel_rfl)
theorem Pk(m:Nat)(a b:a1)(h:J):cu an (λ_ _ _=>none) (m+2) (.fn 25) [.str a,.str b] h=.ret (.int .i64 (rG a b)) h:=by
 have aY:=G2 m a h
 have bQ:=G2 m b h
 have go:∀(r:Int),br an Tryd.f25 none (cu an (λ_ _ _=>none) (m+1)) [] ⟨[(0,.str a),(1,.str b)],[],.none,h⟩ .ret ⟨[(4,.int .i64 r)],[],.none,h⟩->cu an (λ_ _ _=>none) (m+2) (.fn 25) [.str a,.str b] h=.ret (.int .i64 r) h:=λr ah=>
  hZ (intr:=λ_ _ _=>none) (n:=m+1) (args:=[.str a,.str b]) Tryd.func25 ah (.inl rfl) (by kernel_rfl)
 unfold rG
 cases h1:dA a b with
 |true=>exact go _ (Pg _ a b h aY bQ h1)
 |false=>
  cases aa:dA b a with
  |true=>exact go _ (Ph _ a b h aY bQ h1 aa)
  |false=>exact go _ (Pj _ a b h aY bQ h1 aa)
theorem Pl(x y:a1):ltOf rG x y=dA x y:=by
 unfold ltOf rG
 cases h1:dA x y with
 |true=>simp
 |false=>
  cases aa:dA y x with
  |true=>simp
  |false=>simp
theorem Pm:SWO dA where
 irrefl x:=yI x
 trans x y z h1 aa:=vJ x y z h1 aa
 ntrans x y z h1 aa:=GZ x y z h1 aa
def hK(F:a1->a1×Nat)(p:a1):List I:=[.str p,.str (F p).1,a6 (F p).2]
def rH(F:a1->a1×Nat)(p:a1):List Value:=[.string ⟨p.toArray⟩,.string ⟨(F p).1.toArray⟩,.int .u64 ((F p).2:Nat)]
theorem G3{μ:aW}{s:a1}{u:Value}(h:aS μ (.str s) u):u=.string ⟨s.toArray⟩:=by
 obtain⟨t,rfl,bd⟩:=h
 cases t with
 |mk data=>simp only[<-bd]
theorem Pn(F:a1->a1×Nat)(μ:aW)(d:a1)(t:Nat)(a:I)(u:Value)(h:(hK F d)[t]? =some a)(ah:aS μ a u):(rH F d)[t]? =some u:=by
 rcases t with _|_|_|t
 · have e:a=.str d:=by simpa[hK] using h.symm
   subst e
   rw[G3 ah];rfl
 · have e:a=.str (F d).1:=by simpa[hK] using h.symm
   subst e
   rw[G3 ah];rfl
 · have e:a=a6 (F d).2:=by simpa[hK] using h.symm
   subst e
   have:u=.int .u64 ((F d).2:Nat):=ah
   rw[this];rfl
 · simp[hK] at h
theorem Po(F:a1->a1×Nat)(μ:aW)(d:a1)(t:Nat)(a:I)(u:Value)(h:(hK F d)[t]? =some a)(hu:(rH F d)[t]? =some u):aS μ a u:=by
 rcases t with _|_|_|t
 · have e:a=.str d:=by simpa[hK] using h.symm
   have ar:u=.string ⟨d.toArray⟩:=by simpa[rH] using hu.symm
   subst e;subst ar
   exact⟨_,rfl,by simp⟩
 · have e:a=.str (F d).1:=by simpa[hK] using h.symm
   have ar:u=.string ⟨(F d).1.toArray⟩:=by simpa[rH] using hu.symm
   subst e;subst ar
   exact⟨_,rfl,by simp⟩
 · have e:a=a6 (F d).2:=by simpa[hK] using h.symm
   have ar:u=.int .u64 ((F d).2:Nat):=by simpa[rH] using hu.symm
   subst e;subst ar;rfl
 · simp[hK] at h
theorem Pp:jJ an 40=some true:=by kernel_rfl
theorem Pq:cG an 40=some 3:=by kernel_rfl
noncomputable def G4(F:a1->a1×Nat):Nat->List I->J->Option (I×J):=vD (hK F) pO 41 24
theorem Pr(hf:Fit an)(F:a1->a1×Nat):gN an (G4 F):=by
 obtain⟨c,ab⟩:=Option.isSome_iff_exists.1 (show Tryd.f24.body.isSome=true by kernel_rfl)
 have Cc:ltOf rG=dA:=funext λx=>funext λy=>Pl x y
 have key:=Oj (P:=an) (ρ:=G0) hf G1 (w:=3) (by omega) (λW=>aU.qg Pp) (λW=>aU.run_sizeOf Pq) (encA:=hK F) (encV:=rH F) (λ_=>rfl) (λ_=>rfl) (Pn F) (Po F)
  (λd v aI=>by simp[rH] at aI;rcases aI with rfl|rfl|rfl<;>rfl) rG (by rw[Cc];exact Pm) (λx y h1 aa=>by
   rw[Cc] at h1 aa
   exact vK x y h1 aa) (g:=24) Tryd.func24 ab (LO an) (λx y=>by
   refine⟨3,_,hZ (intr:=λ_ _ _=>none) (n:=2) (args:=[.agg (hK F x),.agg (hK F y)]) Tryd.func24 (lc (cu an (λ_ _ _=>none) 2) x (F x).1 y (F y).1 (F x).2 (F y).2 (rG x y) _ _ (ld1 (b8 (Nat.lt_succ_self _) (cT rfl)) rfl) (ld1 (cT rfl) rfl) (Pk 0 x y _)) (.inl rfl) (by kernel_rfl)⟩)
 rw[Cc] at key
 exact key
def rI(x:a1):List a1->List a1
 |[]=>[x]
 |y::l=>match dA y x with
  |true=>y::rI x l
  |false=>x::y::l
def rJ:List a1->List a1
 |[]=>[]
 |x::l=>rI x (rJ l)
theorem Cd(x:a1):∀l:List a1,(rI x l).Perm (x::l)
 |[]=>List.Perm.refl _
 |y::l=>by
  unfold rI
  split
  · exact(List.Perm.cons y (Cd x l)).trans (List.Perm.swap x y l)
  · exact List.Perm.refl _
theorem te:∀l:List a1,(rJ l).Perm l
 |[]=>List.Perm.refl _
 |x::l=>(Cd x (rJ l)).trans (List.Perm.cons x (te l))
theorem G5(x:a1):∀l:List a1,l.Pairwise (λa b=>gU a b=true)->(rI x l).Pairwise (λa b=>gU a b=true)
 |[],_=>by unfold rI;simp
 |y::l,h=>by
  have ai:=List.pairwise_cons.1 h
  unfold rI
  split
  · rename_i bN
    refine List.pairwise_cons.2 ⟨λz aL=>?_,G5 x l ai.2⟩
    rcases List.mem_cons.1 ((Cd x l).subset aL) with rfl|aL
    · simp only[gU,Bool.not_eq_true']
      cases aa:dA z y with
      |false=>rfl
      |true=>have:=vJ _ _ _ bN aa;rw[yI] at this;cases this
    · exact ai.1 z aL
  · rename_i bN
    have G6:gU x y=true:=by simp only[gU,Bool.not_eq_true'];exact bN
    refine List.pairwise_cons.2 ⟨λz aL=>?_,h⟩
    rcases List.mem_cons.1 aL with rfl|aL
    · exact G6
    · exact yJ _ _ _ G6 (ai.1 z aL)
theorem Ce:∀l:List a1,(rJ l).Pairwise (λa b=>gU a b=true)
 |[]=>List.Pairwise.nil
 |x::l=>G5 x _ (Ce l)
def mQ:List eE->a1->a1×Nat
 |[],_=>([],0)
 |d::l,p=>match cW d.f.p p with
  |true=>(d.f.x,d.f.n)
  |false=>mQ l p
theorem yL:∀{l:List eE},(l.map (·.f.p)).Nodup->∀d∈l,mQ l d.f.p=(d.f.x,d.f.n)
 |[],_,d,al=>by cases al
 |x::l,aB,d,al=>by
  have kn:x.f.p∉l.map (·.f.p)/\(l.map (·.f.p)).Nodup:=List.nodup_cons.1 aB
  unfold mQ
  rcases List.mem_cons.1 al with rfl|al
  · have:cW d.f.p d.f.p=true:=by rw[hA];simp
    rw[this]
  · have cj:¬x.f.p=d.f.p:=λe=>kn.1 (List.mem_map.2 ⟨d,al,e.symm⟩)
    have:cW x.f.p d.f.p=false:=by
     rw[hA]
     simpa using cj
    rw[this]
    exact yL kn.2 d al
def jg(l:List eE):List b7:=(rJ (l.map (·.f.p))).map λp=>⟨p,(mQ l p).1,(mQ l p).2⟩
theorem Ps(l:List a1):pO l=rJ l:=
 sorted_perm (List.pairwise_mergeSort yJ Cb l) (Ce l) ((List.mergeSort_perm l gU).trans (te l).symm)
theorem G7(F:a1->a1×Nat):∀ps:List a1,cw (hK F) ps=cw c_ (ps.map λp=>⟨p,(F p).1,(F p).2⟩)
 |[]=>rfl
 |p::ps=>by
  have a7:=G7 F ps
  rw[q6,List.map_cons,q6,a7]
  rfl
theorem G8{l:List eE}(aB:(l.map (·.f.p)).Nodup):∀{ds:List b7},(∀f∈ds,∃d∈l,d.f=f)->cw c_ ds=cw (hK (mQ l)) (ds.map (·.p))
 |[],_=>rfl
 |f::ds,h=>by
  have a7:=G8 aB (ds:=ds) λf hf=>h f (by simp[hf])
  rw[List.map_cons,q6,q6,a7]
  obtain⟨d,al,rfl⟩:=h f (by simp)
  have:=yL aB d al
  unfold hK
  rw[this]
theorem G9(hf:Fit an){cF m clock:Nat}{bB:J}{es:List df}{l:List eE}(w:pN bB cF m clock es l)(aZ:(l.map (·.f.p)).Nodup):
  lh an 22 [.fn 42 [] [.ptr cF 0],.fn 24 [] []] bB
   (λv g=>(∀b,b<bB.n->g.get b=bB.get b)/\((l=[]/\v=.bK)\/∃p,0<l.length/\v=.slice p 0 l.length (.aE 3)/\bB.n<=p/\g.get p=some (.cells (cw c_ (jg l)) 40 .aE 0 0))):=by
 obtain⟨cr,Cf⟩:∃cr,cr=yE (yD 41) (G4 (mQ l)):=⟨_,rfl⟩
 have h4:gN an cr:=by rw[Cf];exact Oy (Ox G1) (Pr hf (mQ l))
 have gB:=qQ hf h4 1
 have hdr:∀need bk,jq an need bk (cu an cr 1):=λneed bk=>sD hf.mixed gB need bk
 refine lh.yw gB hdr hf.code Tryd.func22 (by kernel_rfl) (by kernel_rfl) ?_
 refine c7.seq (p:=[]) (R1:=λe s=>e=.nrm/\s=⟨[(0,.fn 42 [] [.ptr cF 0]),(1,.fn 24 [] [])],[],.none,bB⟩) (by kernel_rfl) (c7.of_run gB hdr (by kernel_rfl) (OI (cu an cr 1) cF bB) ⟨rfl,rfl⟩) (λs ae=>?_) λe s he ae=>absurd ae.1 he
 obtain⟨_,rfl⟩:=ae
 refine c7.seq (p:=[1]) (R1:=λe s=>e=.nrm/\∃v g,s.d=[]/\s.q=.none/\s.h=g/\cU 5 s.Γ=some v/\cU 1 s.Γ=some (.fn 24 [] [])/\yH bB l v g) (by kernel_rfl)
  (c7.GG (p:=[1,0]) (f:=40) (accs:=[.iF (e2 0)]) (loc:=(j_ an (bH Tryd.f22) (opsOf (sub (cS Tryd.f22) [1,0]))).loc) (by kernel_rfl) (by kernel_rfl) (args:=[.fn 42 [] [.ptr cF 0]]) (by kernel_rfl) (Pd hf h4 1 w) λv g aj=>⟨rfl,v,g,rfl,rfl,rfl,by kernel_rfl,by kernel_rfl,aj⟩) (λs ae=>?_) λe s he ae=>absurd ae.1 he
 obtain⟨_,v,g,h1,aa,ao,aM,xj,aB,l4,ds,vI,aN⟩:=ae
 have hlen:ds.length=l.length:=by rw[vI.length_eq,List.length_map]
 rcases aN with⟨rfl,rfl⟩|⟨p,rfl,ar,bn,cR,fD⟩
 · have wW:l=[]:=List.eq_nil_of_length_eq_zero (by simpa using hlen.symm)
   have ab:cu an cr 1 (.fn 41) [.bK,.fn 24 [] []] g=.ret (.aF []) g:=by
    rw[Cf];rfl
   refine c7.pre (c7.of_run gB hdr (by kernel_rfl) (GP (cu an cr 1) .bK g g ab) ?_) ⟨xj,aM,trivial⟩ h1 aa ao
   exact⟨.inr rfl,rfl,.bK,g,yx (by kernel_rfl),l4,.inl ⟨wW,rfl⟩⟩
 · have mA:∀f∈ds,∃d∈l,d.f=f:=λf Pt=>by
     obtain⟨d,bA,dB⟩:=List.mem_map.1 (vI.subset Pt)
     exact⟨d,bA,dB⟩
   rw[G8 aZ mA] at bn
   have G_:=Oh (enc:=hK (mQ l)) (srt:=pO) (w:=3) (λ_=>rfl) (λa b e=>by simp only[hK,List.cons.injEq,I.str.injEq] at e;exact e.1) (fS:=41) (g:=24) (b:=p) (len:=ds.length) (cap:=.aE 3) (H:=g) (ds:=ds.map (·.p)) (rest:=[]) (el:=40) (k:=.aE) ar (by have:=w.len;omega) (by rw[List.append_nil];exact bn) (by simp) (.inr rfl)
   rw[List.append_nil] at G_
   have ab:cu an cr 1 (.fn 41) [.slice p 0 ds.length (.aE 3),.fn 24 [] []] g=.ret (.aF []) (g.set p (some (.cells (cw (hK (mQ l)) (pO (ds.map (·.p)))) 40 .aE 0 0))):=by
    have ay:yD 41 41 [.slice p 0 ds.length (.aE 3),.fn 24 [] []] g=none:=by
     obtain⟨k,hk⟩:∃k,ds.length=k+1:=⟨ds.length-1,by omega⟩
     rw[hk];rfl
    have:cr 41 [.slice p 0 ds.length (.aE 3),.fn 24 [] []] g=some (.aF [],g.set p (some (.cells (cw (hK (mQ l)) (pO (ds.map (·.p)))) 40 .aE 0 0))):=by
     rw[Cf];unfold yE;rw[ay];exact G_
    simp only[cu,this]
   refine c7.pre (c7.of_run gB hdr (by kernel_rfl) (GP (cu an cr 1) (.slice p 0 ds.length (.aE 3)) g _ ab) ?_) ⟨xj,aM,trivial⟩ h1 aa ao
   have qA:pO (ds.map (·.p))=rJ (l.map (·.f.p)):=by
    rw[<-Ps]
    refine Pf ?_
    have:=vI.map (·.p)
    rwa [List.map_map] at this
   refine⟨.inr rfl,rfl,.slice p 0 ds.length (.aE 3),_,yx (by kernel_rfl),λb ad=>(dt (by omega) rfl).trans (l4 b ad),.inr ⟨p,by omega,by rw[hlen],by omega,?_⟩⟩
   rw[fw rfl,qA,G7]
   rfl
def tf:List df->Option (List eE)
 |[]=>some []
 |e::es=>match ta e with
  |some d=>match tf es with
   |some l=>some (d::l)
   |none=>none
  |none=>none
theorem Ha:∀{es:List df} {l:List eE},tf es=some l->og es l
 |[],l,aq=>by cases aq;exact .nil
 |e::es,l,aq=>by
  unfold tf at aq
  split at aq
  · rename_i d al
    split at aq
    · rename_i jP oT
      cases aq
      exact .cons al (Ha oT)
    · cases aq
  · cases aq
def oj:List Nat->Bool
 |[]=>true
 |a::l=>match l.any λx=>Nat.beq a x with
  |true=>false
  |false=>oj l
theorem Hb:∀{l:List Nat},oj l=true->l.Nodup
 |[],_=>List.nodup_nil
 |a::l,h=>by
  unfold oj at h
  split at h
  · cases h
  · rename_i h1
    refine List.nodup_cons.2 ⟨λhm=>?_,Hb h⟩
    have:(l.any λx=>Nat.beq a x)=true:=List.any_eq_true.2 ⟨a,hm,Nat.beq_refl _⟩
    rw[this] at h1;cases h1
def pP:List a1->Bool
 |[]=>true
 |a::l=>match l.any λx=>cW a x with
  |true=>false
  |false=>pP l
theorem Hc:∀{l:List a1},pP l=true->l.Nodup
 |[],_=>List.nodup_nil
 |a::l,h=>by
  unfold pP at h
  split at h
  · cases h
  · rename_i h1
    refine List.nodup_cons.2 ⟨λhm=>?_,Hc h⟩
    have:(l.any λx=>cW a x)=true:=List.any_eq_true.2 ⟨a,hm,by rw[hA];simp⟩
    rw[this] at h1;cases h1
def rK(f:Nat)(args:List I)(H:J):Option (I×J):=match Nat.beq f 22,args with
 |true,[.fn f1 [] [.ptr cF 0],.fn f2 [] []]=>match Nat.beq f1 42&&Nat.beq f2 24,aO H cF 0 with
  |true,some (.map m)=>match H.get m with
   |some (.map es clock)=>match tf es with
    |some l=>match oj (l.map (·.born))&&(pP (l.map (·.f.p))&&((l.all λd=>Nat.blt d.born clock)&&(Nat.ble l.length 100000&&(Nat.blt cF H.n&&Nat.blt m H.n)))),l with
     |true,[]=>some (.bK,H)
     |true,d::jP=>some (.slice H.n 0 (d::jP).length (.aE 3),H.push (.cells (cw c_ (jg (d::jP))) 40 .aE 0 0))
     |false,_=>none
    |none=>none
   |_=>none
  |_,_=>none
 |_,_=>none
theorem Hd:∀l:List b7,kp (cw c_ l)=true
 |[]=>rfl
 |d::l=>by
  rw[q6]
  show(true&&(true&&(true&&kp (cw c_ l))))=true
  rw[Hd l];rfl
theorem Pu(hf:Fit an):gN an rK:=by
 intro f args H v ax U μ W vs af aj aI
 unfold rK at U
 split at U
 · rename_i f1 cF f2 vE
   obtain rfl:=Nat.eq_of_beq_eq_true vE
   split at U
   · rename_i m He ab
     simp only[Bool.and_eq_true] at He
     obtain⟨An,pF⟩:=He
     obtain rfl:=Nat.eq_of_beq_eq_true An
     obtain rfl:=Nat.eq_of_beq_eq_true pF
     split at U
     · rename_i es clock hm
       split at U
       · rename_i l aq
         have key:(oj (l.map (·.born))&&(pP (l.map (·.f.p))&&((l.all λd=>Nat.blt d.born clock)&&(Nat.ble l.length 100000&&(Nat.blt cF H.n&&Nat.blt m H.n)))))=true->pN H cF m clock es l/\(l.map (·.f.p)).Nodup:=λh=>by
          simp only[Bool.and_eq_true,Nat.blt_eq] at h
          obtain⟨bz,bZ,eO,ho,jr,fT⟩:=h
          exact⟨⟨ab,hm,Ha aq,Hb bz,λd al=>by simpa using List.all_eq_true.1 eO d al,Nat.le_of_ble_eq_true ho,jr,fT⟩,Hc bZ⟩
         split at U
         · rename_i hk
           cases U
           obtain⟨w,aZ⟩:=key hk
           refine(G9 hf w aZ μ W vs af aj aI).mono λe w' Cg=>?_
           obtain⟨v,g,⟨l4,h1⟩,dM⟩:=Cg
           rcases h1 with⟨_,rfl⟩|⟨p,ay,_⟩
           · exact Ends.none rfl l4 af dM
           · simp at ay
         · rename_i d jP hk
           cases U
           obtain⟨w,aZ⟩:=key hk
           refine(G9 hf w aZ μ W vs af aj aI).mono λe w' Cg=>?_
           obtain⟨v,g,⟨l4,h1⟩,dM⟩:=Cg
           rcases h1 with⟨ay,_⟩|⟨p,ay,rfl,aa,ao⟩
           · cases ay
           · exact Ends.row (Hd _) (.inr rfl) aa ao l4 af dM
         · cases U
       · cases U
     · cases U
   · cases U
 · cases U
end Go.Proofs.h3
