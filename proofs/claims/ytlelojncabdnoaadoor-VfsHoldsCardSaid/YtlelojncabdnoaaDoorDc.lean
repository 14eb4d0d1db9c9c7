/-
  PROVED HERE: contracts of functions (Dc). No condition beside each statement's own.
-/
import Derived.Test.YtlelojncabdnoaaDoorDb
set_option linter.unusedVariables false
set_option linter.unusedSimpArgs false
set_option maxRecDepth 100000
set_option maxHeartbeats 1000000
namespace Go.Proofs.h3
open Go aU Go.Proofs
variable {Q:bh->aQ->Prop} {R:bL->Prop} (call:cJ)
theorem PG(m:Nat)(a b c:Int)(d e:Nat)(h:J)(H:∃b5:Int,∃z2:Int,∃z3:Int,∃aY bQ,aU.loadCells (J.push h (av [.int .i64 a,.int .i64 b,.int .i64 c,a6 d,a6 e] 24)) h.n 0 5=some [.int .i64 b5,.int .i64 z2,.int .i64 z3,a6 aY,a6 bQ]/\I.cL (.int .i64 b5)=true/\I.cL (.int .i64 z2)=true/\I.cL (.int .i64 z3)=true/\I.cL (.int .i64 b5)=true/\I.cL (.int .i64 z2)=true/\I.cL (.int .i64 z3)=true/\R (.ret (.ptr (J.n (J.push (J.push (J.push h (av [.int .i64 a,.int .i64 b,.int .i64 c,a6 d,a6 e] 24)) (.map [] 0)) (.map [] 0))) 0) (J.push (J.push (J.push (J.push h (av [.int .i64 a,.int .i64 b,.int .i64 c,a6 d,a6 e] 24)) (.map [] 0)) (.map [] 0)) (av [.int .i64 b5,.int .i64 z2,.int .i64 z3,a6 aY,a6 bQ,.map (J.n (J.push h (av [.int .i64 a,.int .i64 b,.int .i64 c,a6 d,a6 e] 24))),.map (J.n (J.push (J.push h (av [.int .i64 a,.int .i64 b,.int .i64 c,a6 d,a6 e] 24)) (.map [] 0))),ak 0] 59)))):
  R (Y (m+1) (.fn 6) [.agg [.int .i64 a,.int .i64 b,.int .i64 c,a6 d,a6 e]] h):=
 BV [(3,.bJ (.dz [.z .i64,.z .i64,.z .i64,.n .u64,.n .u64]))] [(0,.dz [.v (.int .i64 a),.v (.int .i64 b),.v (.int .i64 c),.v (a6 d),.v (a6 e)])] Tryd.func6 H
theorem PH(m p:Nat)(h:J)(H:R (.ret (ak 0) h)):
  R (Y (m+1) (.fn 28) [aA p] h):=
 hq [] [] Tryd.func28 H
theorem PI(m a:Nat)(h:J)(H:R (.ret (.fn 44 [] [aA h.n]) (J.push h (av [aA a] 69)))):
  R (Y (m+1) (.fn 29) [aA a] h):=
 hq [] [] Tryd.func29 H
theorem PJ(m c a:Nat)(h:J)(H:aO (h.room 11) c 0=some (aA a)/\aO (h.room 11) c 0=some (aA a)/\∃s1,aO (h.room 11) a 0=some (.str s1)/\∃s2 aY g1,Y m (.fn 45) [.str s1] (h.room 11)=.ret (.aF [.str s2,ak aY]) g1/\∃g2,aU.storeCells g1 a 0 [.str s2]=some g2/\aO g1 c 0=some (aA a)/\R (.ret (ak aY) g2)):
  R (Y (m+1) (.fn 44) [aA c] h):=
 hq [(3,.bJ (.is (aA a))),(4,.bJ (.is (aA a))),(2,.bJ (.ev [.st,.n .i64])),(7,.bJ (.ev [.st,.n .i64]))] [] Tryd.func44 H
theorem PK(m p a e:Nat)(b:Bool)(h:J)(H:R (.ret (.fn 47 [] [aA h.n,.ptr (J.n (J.push h (av [aA p] 26))) 0,.ptr (J.n (J.push (J.push h (av [aA p] 26)) (av [aA a] 69))) 0,.ptr (J.n (J.push (J.push (J.push h (av [aA p] 26)) (av [aA a] 69)) (av [.bool b] 4))) 0]) (J.push (J.push (J.push (J.push h (av [aA p] 26)) (av [aA a] 69)) (av [.bool b] 4)) (av [ak e] 34)))):
  R (Y (m+1) (.fn 32) [aA p,aA a,.bool b,ak e] h):=
 hq [] [] Tryd.func32 H
theorem PL(m c0 c1 c2 c3 p a m1:Nat)(h:J)(H:aO (h.room 14) c0 0=some (aA p)/\aO (h.room 14) p 5=some (.map m1)/\aO (h.room 14) c1 0=some (aA a)/\∃s1,aO (h.room 14) a 0=some (.str s1)/\∃s2 bw aY cC,gq an (h.room 14) 57 (.map m1) (.str s1) true=some (.aF [.agg [.str s2,.str bw,a6 aY],.bool cC])/\∃g1,aU.storeCells (J.set (h.room 14) (h.n+11) (some (av [.str [],.str [],a6 0] 40))) (h.n+11) 0 [.str s2,.str bw,a6 aY]=some g1/\aO (J.set (h.room 14) (h.n+11) (some (av [.str [],.str [],a6 0] 40))) c0 0=some (aA p)/\aO (J.set (h.room 14) (h.n+11) (some (av [.str [],.str [],a6 0] 40))) p 5=some (.map m1)/\aO (J.set (h.room 14) (h.n+11) (some (av [.str [],.str [],a6 0] 40))) c1 0=some (aA a)/\aO (J.set (h.room 14) (h.n+11) (some (av [.str [],.str [],a6 0] 40))) a 0=some (.str s1)/\gq an (J.set (h.room 14) (h.n+11) (some (av [.str [],.str [],a6 0] 40))) 57 (.map m1) (.str s1) true=some (.aF [.agg [.str s2,.str bw,a6 aY],.bool cC])/\∃cE,aO g1 c2 0=some (.bool cE)/\(py cC cE=true->R (.ret (ak 0) g1))/\(py cC cE=false->∃bQ,aO g1 c3 0=some (ak bQ)/\R (.ret (ak bQ) g1))):
  R (Y (m+1) (.fn 47) [aA c0,aA c1,aA c2,aA c3] h):=
 hq [(8,.bJ (.is (aA p))),(11,.bJ (.is (.map m1))),(12,.bJ (.is (aA a))),(15,.bJ (.ev [.dz [.st,.st,.n .u64],.b])),(7,.bJ (.ev [.dz [.st,.st,.n .u64],.b]))] [] Tryd.func47 H
theorem PM(m p a:Nat)(s:List UInt8)(h:J)(H:R (.ret (.fn 46 [] [aA h.n,.ptr (J.n (J.push h (av [aA p] 26))) 0,.ptr (J.n (J.push (J.push h (av [aA p] 26)) (av [aA a] 69))) 0]) (J.push (J.push (J.push h (av [aA p] 26)) (av [aA a] 69)) (av [.str s] 9)))):
  R (Y (m+1) (.fn 30) [aA p,aA a,.str s] h):=
 hq [] [] Tryd.func30 H
theorem PN(m c0 c1 c2 p a m1:Nat)(h:J)(H:aO h c0 0=some (aA p)/\aO h p 5=some (.map m1)/\∃aY,gX an h 57 (.map m1)=some (ak aY)/\aO (h.room 14) c0 0=some (aA p)/\aO (h.room 14) p 5=some (.map m1)/\aO (h.room 14) c1 0=some (aA a)/\∃s1,aO (h.room 14) a 0=some (.str s1)/\∃s2 bw bQ cC,gq an (h.room 14) 57 (.map m1) (.str s1) true=some (.aF [.agg [.str s2,.str bw,a6 bQ],.bool cC])/\∃g1,aU.storeCells (J.set (h.room 14) (h.n+11) (some (av [.str [],.str [],a6 0] 40))) (h.n+11) 0 [.str s2,.str bw,a6 bQ]=some g1/\aO (J.set (h.room 14) (h.n+11) (some (av [.str [],.str [],a6 0] 40))) c0 0=some (aA p)/\aO (J.set (h.room 14) (h.n+11) (some (av [.str [],.str [],a6 0] 40))) p 5=some (.map m1)/\aO (J.set (h.room 14) (h.n+11) (some (av [.str [],.str [],a6 0] 40))) c1 0=some (aA a)/\aO (J.set (h.room 14) (h.n+11) (some (av [.str [],.str [],a6 0] 40))) a 0=some (.str s1)/\gq an (J.set (h.room 14) (h.n+11) (some (av [.str [],.str [],a6 0] 40))) 57 (.map m1) (.str s1) true=some (.aF [.agg [.str s2,.str bw,a6 bQ],.bool cC])/\(cC=true->aO (g1.room 27) c0 0=some (aA p)/\∃b5:Int,aO (g1.room 27) p 0=some (.int .i64 b5)/\∃z2:Int,fA ji (.int .i64 b5) [ak 64]=some (.int .i64 z2)/\(eW z2 (.ofNat aY)=true->I.sound (.int .i64 b5)=true/\I.sound (.int .i64 z2)=true/\R (.ret (ak 7) (g1.room 27)))/\(eW z2 (.ofNat aY)=false->aO (g1.room 27) c0 0=some (aA p)/\∃cX,aO (g1.room 27) p 7=some (ak cX)/\∃bG,aO (g1.room 27) (h.n+11) 1=some (.str bG)/\(List.length bG<=cX/\cX<9223372036854775808)/\∃bP,aO (g1.room 27) c2 0=some (.str bP)/\cX-List.length bG+List.length bP<9223372036854775808/\aO (g1.room 27) c0 0=some (aA p)/\∃z3:Int,aO (g1.room 27) p 1=some (.int .i64 z3)/\I.sound (.int .i64 b5)=true/\I.sound (.int .i64 z2)=true/\I.sound (.int .i64 z3)=true/\(eW z3 (.ofNat (cX-List.length bG+List.length bP))=true->R (.ret (ak 7) (g1.room 27)))/\(eW z3 (.ofNat (cX-List.length bG+List.length bP))=false->R (.ret (ak 0) (g1.room 27)))))/\(cC=false->aY+1<9223372036854775808/\aO (g1.room 27) c0 0=some (aA p)/\∃z4:Int,aO (g1.room 27) p 0=some (.int .i64 z4)/\∃z5:Int,fA ji (.int .i64 z4) [ak 64]=some (.int .i64 z5)/\(eW z5 (.ofNat (aY+1))=true->I.sound (.int .i64 z4)=true/\I.sound (.int .i64 z5)=true/\R (.ret (ak 7) (g1.room 27)))/\(eW z5 (.ofNat (aY+1))=false->aO (g1.room 27) c0 0=some (aA p)/\∃dL,aO (g1.room 27) p 7=some (ak dL)/\∃cn,aO (g1.room 27) (h.n+11) 1=some (.str cn)/\(List.length cn<=dL/\dL<9223372036854775808)/\∃cP,aO (g1.room 27) c2 0=some (.str cP)/\dL-List.length cn+List.length cP<9223372036854775808/\aO (g1.room 27) c0 0=some (aA p)/\∃yQ:Int,aO (g1.room 27) p 1=some (.int .i64 yQ)/\I.sound (.int .i64 z4)=true/\I.sound (.int .i64 z5)=true/\I.sound (.int .i64 yQ)=true/\(eW yQ (.ofNat (dL-List.length cn+List.length cP))=true->R (.ret (ak 7) (g1.room 27)))/\(eW yQ (.ofNat (dL-List.length cn+List.length cP))=false->R (.ret (ak 0) (g1.room 27)))))):
  R (Y (m+1) (.fn 46) [aA c0,aA c1,aA c2] h):=
 hq [(7,.bJ (.is (aA p))),(10,.bJ (.is (.map m1))),(13,.bJ (.is (aA p))),(16,.bJ (.is (.map m1))),(17,.bJ (.is (aA a))),(20,.bJ (.ev [.dz [.st,.st,.n .u64],.b])),(12,.bJ (.ev [.dz [.st,.st,.n .u64],.b])),(28,.bJ (.is (aA p))),(32,.bJ (.z .i64)),(33,.bJ (.z .i64)),(36,.bJ (.is (aA p))),(47,.bJ (.is (aA p))),(51,.bJ (.z .i64))] [] Tryd.func46 H
theorem PO(m p m1 m2:Nat)(s t:List UInt8)(h:J)(H:∃aY,aO (h.room 19) p 7=some (ak aY)/\aO (h.room 19) p 5=some (.map m1)/\∃s1 s2 bQ,gq an (h.room 19) 57 (.map m1) (.str s) false=some (.agg [.str s1,.str s2,a6 bQ])/\∃b5:Int,arith .sub .i64 (.ofNat t.length) (.ofNat s2.length)=some (.int .i64 b5)/\∃cX,arith .add .i64 (.ofNat aY) b5=some (ak cX)/\∃g1,aU.storeCells (h.room 19) p 7 [ak cX]=some g1/\I.sound (.int .i64 b5)=true/\aO g1 p 6=some (.map m2)/\∃dL,gq an g1 28 (.map m2) (.str s) false=some (a6 dL)/\dL+1<18446744073709551616/\∃g2,(jj an g1 28 (.map m2) (.str s) (a6 (dL+1))=some g2/\I.aF []=.aF [])/\aO (g2.room 15) p 5=some (.map m1)/\aO (g2.room 15) p 6=some (.map m2)/\∃fL,gq an (g2.room 15) 28 (.map m2) (.str s) false=some (a6 fL)/\∃g3,(jj an (g2.room 15) 57 (.map m1) (.str s) (.agg [.str s,.str t,a6 fL])=some g3/\I.aF []=.aF [])/\aO g3 p 6=some (.map m2)/\∃n6,gq an g3 28 (.map m2) (.str s) false=some (a6 n6)/\R (.ret (a6 n6) g3)):
  R (Y (m+1) (.fn 31) [aA p,.str s,.str t] h):=
 hq [(16,.bJ (.is (.map m1))),(35,.bJ (.is (.map m1))),(28,.bJ (.is (.map m2))),(42,.bJ (.is (.map m2))),(49,.bJ (.is (.map m2))),(18,.bJ (.dz [.st,.st,.n .u64])),(21,.bJ (.z .i64)),(22,.bJ (.n .i64)),(30,.bJ (.n .u64)),(44,.bJ (.n .u64)),(51,.bJ (.n .u64))] [] Tryd.func31 H
theorem PQ(m p m1:Nat)(s:List UInt8)(h:J)(H:aO h p 5=some (.map m1)/\∃s1 s2 aY,gq an h 57 (.map m1) (.str s) false=some (.agg [.str s1,.str s2,a6 aY])/\∃bQ,aO h p 7=some (ak bQ)/\(List.length s2<=bQ/\bQ<9223372036854775808)/\∃g1,aU.storeCells h p 7 [ak (bQ-List.length s2)]=some g1/\aO g1 p 5=some (.map m1)/\∃g2,p5 an g1 57 (.map m1) (.str s)=some (.aF [],g2)/\R (.ret (.str s2) g2)):
  R (Y (m+1) (.fn 33) [aA p,.str s] h):=
 hq [(9,.bJ (.is (.map m1))),(25,.bJ (.is (.map m1))),(11,.bJ (.dz [.st,.st,.n .u64]))] [] Tryd.func33 H
theorem PR(m c:Nat)(h:J)(H:∃s1,aO h c 0=some (.str s1)/\(4096<List.length s1->R (.ret (ak 3) h))/\(¬4096<List.length s1->R (.ret (ak 0) h))):
  R (Y (m+1) (.fn 26) [aA c] h):=
 hq [] [] Tryd.func26 H
theorem PS(m p:Nat)(h:J)(H:∃aY,aO h p 7=some (ak aY)/\R (.ret (ak aY) h)):
  R (Y (m+1) (.fn 15) [aA p] h):=
 hq [] [] Tryd.func15 H
theorem PT(m p m1:Nat)(h:J)(H:aO h p 5=some (.map m1)/\∃v1 g1,Y m (.fn 23) [.map m1] h=.ret v1 g1/\∃v2 g2,Y m (.fn 22) [v1,.fn 24 [] []] g1=.ret v2 g2/\R (.ret v2 g2)):
  R (Y (m+1) (.fn 8) [aA p] h):=
 hq [(8,.bJ (.is (.map m1))),(9,.bJ .o),(10,.bJ .o)] [] Tryd.func8 H
abbrev pU(f:b7):I:=.agg (c_ f)
abbrev tj(n:Nat):I:=a6 n
structure fb where
 a:Int
 b:Int
 c:Int
 d:Nat
 e:Nat
def tk(q:fb)(m1 m2 dK:Nat):b2:=av [.int .i64 q.a,.int .i64 q.b,.int .i64 q.c,a6 q.d,a6 q.e,.map m1,.map m2,ak dK] 59
structure vO(F:Nat->Prop)(h:J)(p m1 m2 c1 c2:Nat)(q:fb)(dK:Nat)(A:List (dh b7))(T:List (dh Nat)):Prop where
 st:h.get p=some (tk q m1 m2 dK)
 f1:h.get m1=some (.map (A.map (fa pU)) c1)
 f2:h.get m2=some (.map (T.map (fa tj)) c2)
 aY:(A.map (·.k)).Nodup
 bQ:(T.map (·.k)).Nodup
 jE:∀x∈A,x.v.p=x.k
 tl:(∀x∈A,x.born<c1)/\(A.map (·.born)).Nodup
 lT:(∀x∈T,x.born<c2)/\(T.map (·.born)).Nodup
 up:p<h.n/\m1<h.n/\m2<h.n
 ne:p≠m1/\p≠m2/\m1≠m2
 ca:¬F p/\¬F m1/\¬F m2
def dP(F:Nat->Prop)(h:J)(p:Nat)(q:fb)(s:dd):Prop:=∃m1 m2 c1 c2 dK A T,vO F h p m1 m2 c1 c2 q dK A T/\s.pR=q.a/\s.rL=q.b/\s.aP=A.map (·.v)/\s.ts=T.map (λx=>(x.k,x.v))/\s.ej=Int.ofNat dK
theorem vO.move{F G:Nat->Prop}{h g:J}{p m1 m2 c1 c2:Nat}{q:fb}{dK:Nat}{A:List (dh b7)}{T:List (dh Nat)}(w:vO F h p m1 m2 c1 c2 q dK A T)(aB:h.n<=g.n)(hk:∀d,d<h.n->¬F d->g.get d=h.get d)(lU:∀d,d<h.n->G d->F d):vO G g p m1 m2 c1 c2 q dK A T:=by
 obtain⟨fh,gg,j3⟩:=w.up
 obtain⟨aX,bx,db⟩:=w.ca
 exact⟨(hk p fh aX).trans w.st,(hk m1 gg bx).trans w.f1,(hk m2 j3 db).trans w.f2,w.aY,w.bQ,w.jE,w.tl,w.lT,⟨by omega,by omega,by omega⟩,w.ne,⟨λh=>aX (lU p fh h),λh=>bx (lU m1 gg h),λh=>db (lU m2 j3 h)⟩⟩
theorem dP.move{F G:Nat->Prop}{h g:J}{p:Nat}{q:fb}{s:dd}(w:dP F h p q s)(aB:h.n<=g.n)(hk:∀d,d<h.n->¬F d->g.get d=h.get d)(lU:∀d,d<h.n->G d->F d):dP G g p q s:=by
 obtain⟨m1,m2,c1,c2,dK,A,T,w,r⟩:=w
 exact⟨m1,m2,c1,c2,dK,A,T,w.move aB hk lU,r⟩
theorem dP.ext{F:Nat->Prop}{h g:J}{p:Nat}{q:fb}{s:dd}(w:dP F h p q s)(x:Ext h.n h g):dP F g p q s:=w.move x.n (λd al _=>x.get d al) λ_ _ h=>h
theorem PU(m:Nat){F:Nat->Prop}{h:J}(q:fb)(kB:∀d,F d->d<h.n):∃g p,Y (m+1) (.fn 6) [.agg [.int .i64 q.a,.int .i64 q.b,.int .i64 q.c,a6 q.d,a6 q.e]] h=.ret (.ptr p 0) g/\dP F g p q ⟨q.a,q.b,[],[],0⟩/\Ext h.n h g:=by
 obtain⟨h1,aw⟩:∃x,x=h.push (av [.int .i64 q.a,.int .i64 q.b,.int .i64 q.c,a6 q.d,a6 q.e] 24):=⟨_,rfl⟩
 obtain⟨aa,ar⟩:∃x,x=h1.push (.map [] 0):=⟨_,rfl⟩
 obtain⟨ao,bn⟩:∃x,x=aa.push (.map [] 0):=⟨_,rfl⟩
 obtain⟨aM,cR⟩:∃x,x=ao.push (tk q h1.n aa.n 0):=⟨_,rfl⟩
 have aY:h1.n=h.n+1:=by rw[aw];rfl
 have bQ:aa.n=h1.n+1:=by rw[ar];rfl
 have cX:ao.n=aa.n+1:=by rw[bn];rfl
 have dL:aM.n=ao.n+1:=by rw[cR];rfl
 refine⟨aM,ao.n,PG m q.a q.b q.c q.d q.e h (R:=λx=>x=.ret (.ptr ao.n 0) aM) ⟨q.a,q.b,q.c,q.d,q.e,mJ (cT rfl) rfl,rfl,rfl,rfl,rfl,rfl,rfl,by rw[cR,bn,ar,aw];rfl⟩,⟨h1.n,aa.n,0,0,0,[],[],⟨?_,?_,?_,by simp,by simp,(λx U=>by cases U),⟨(λx U=>by cases U),by simp⟩,⟨(λx U=>by cases U),by simp⟩,⟨by omega,by omega,by omega⟩,⟨by omega,by omega,by omega⟩,⟨λaf=>?_,λaf=>?_,λaf=>?_⟩⟩,rfl,rfl,rfl,rfl,rfl⟩,?_⟩
 · rw[cR];exact cT rfl
 · rw[cR];refine b8 (by omega) ?_;rw[bn];refine b8 (by omega) ?_;rw[ar];exact cT rfl
 · rw[cR];refine b8 (by omega) ?_;rw[bn];exact cT rfl
 · have:=kB _ af;omega
 · have:=kB _ af;omega
 · have:=kB _ af;omega
 · rw[cR];refine Ext.pt (by omega) ?_;rw[bn];refine Ext.pt (by omega) ?_;rw[ar];refine Ext.pt (by omega) ?_;rw[aw];exact Ext.push (Nat.le_refl _) _
theorem PV(m:Nat){F:Nat->Prop}{h:J}{p:Nat}{q:fb}{s:dd}(w:dP F h p q s):Y (m+1) (.fn 15) [.ptr p 0] h=.ret (.int .i64 s.ej) h:=by
 obtain⟨m1,m2,c1,c2,dK,A,T,w,_,_,_,_,ad⟩:=w
 rw[ad]
 exact PS m p h (R:=λx=>x=.ret (ak dK) h) ⟨dK,ld1 w.st rfl,rfl⟩
theorem pV:an.underlying 57=some (.map 9 40):=by kernel_rfl
theorem rO:an.underlying 28=some (.map 9 22):=by kernel_rfl
theorem Hu:dV an 40=some (.agg [.str [],.str [],a6 0]):=by kernel_rfl
theorem Hv:dV an 22=some (a6 0):=by kernel_rfl
structure j4(F:Nat->Prop)(h g:J):Prop where
 n:h.n<=g.n
 get:∀d,d<h.n->F d->g.get d=h.get d
theorem Ck{A:List (dh b7)}(hk:∀x∈A,x.v.p=x.k){p:a1}{f:b7}(h:da (A.map (·.v)) p=some f):∃x∈A,x.v=f/\x.k=p:=by
 obtain⟨h1,aa⟩:=nz h
 obtain⟨x,U,rfl⟩:=List.mem_map.1 h1
 exact⟨x,U,rfl,(hk x U).symm.trans aa⟩
theorem Hw{A:List (dh b7)}(hk:∀x∈A,x.v.p=x.k){p:a1}(h:da (A.map (·.v)) p=none):∀x∈A,x.k≠p:=λx U e=>ti h x.v (List.mem_map.2 ⟨x,U,rfl⟩) ((hk x U).trans e)
theorem PW{A:List (dh b7)}(hk:∀x∈A,x.v.p=x.k)(p:a1):ht (A.map (·.v)) p=(A.filter λy=>!iz p y).map (·.v):=by
 unfold ht
 rw[List.filter_map]
 congr 1
 refine List.filter_congr λx U=>?_
 show(!decide (x.v.p=p))=!iz p x
 unfold iz
 rw[hk x U]
 congr 1
 exact decide_eq_decide.2 eq_comm
theorem Hx(m:Nat){F:Nat->Prop}{h:J}{p:Nat}{q:fb}{s:dd}{a:a1}{f:b7}(w:dP F h p q s)(ok:kA s)(ad:s.ej<=1000000000)(hf:da s.aP a=some f):∃g,Y (m+1) (.fn 33) [.ptr p 0,.str a] h=.ret (.str f.x) g/\dP F g p q (dT a s)/\j4 F h g:=by
 obtain⟨m1,m2,c1,c2,dK,A,T,w,aX,bx,db,dc,gC⟩:=w
 have pW:=hf
 rw[db] at pW
 obtain⟨x,U,vP,tm⟩:=Ck w.jE pW
 have aq:dJ s.aP a=f.x.length:=by unfold dJ;rw[hf]
 have ae:=vM ok.du a
 have lk:=ok.bT
 have hle:f.x.length<=dK:=by
  rw[gC] at lk
  simp only[Int.ofNat_eq_natCast] at lk
  omega
 have jR:dK<=1000000000:=by rw[gC] at ad;simp only[Int.ofNat_eq_natCast] at ad;omega
 obtain⟨aw,ar,bn⟩:=w.ne
 obtain⟨fh,gg,j3⟩:=w.up
 obtain⟨bz,bZ,eO⟩:=w.ca
 obtain⟨g1,dZ⟩:∃g,g=h.set p (some (tk q m1 m2 (dK-f.x.length))):=⟨_,rfl⟩
 obtain⟨g2,hs⟩:∃g,g=g1.set m1 (some (.map ((A.filter λy=>!iz a y).map (fa pU)) c1)):=⟨_,rfl⟩
 have PX:g1.get m1=some (.map (A.map (fa pU)) c1):=by rw[dZ];exact(dt (λe=>aw e.symm) rfl).trans w.f1
 have cU:=th pV w.f1 w.aY U false
 rw[tm] at cU
 have dl:=Py pV PX w.aY U
 rw[tm,<-hs] at dl
 have vQ:g1.get p=some (tk q m1 m2 (dK-f.x.length)):=by rw[dZ];exact fw rfl
 refine⟨g2,PQ m p m1 a h (R:=λy=>y=.ret (.str f.x) g2) ⟨ld1 w.st rfl,f.p,f.x,f.n,by rw[cU,vP];rfl,dK,ld1 w.st rfl,⟨hle,by omega⟩,g1,by rw[dZ];exact iM w.st rfl (by rfl),ld1 vQ rfl,g2,dl,rfl⟩,⟨m1,m2,c1,c2,dK-f.x.length,A.filter λy=>!iz a y,T,⟨?_,?_,?_,?_,w.bQ,λy bc=>w.jE y (List.mem_filter.1 bc).1,⟨λy bc=>w.tl.1 y (List.mem_filter.1 bc).1,w.tl.2.sublist (List.filter_sublist.map _)⟩,w.lT,?_,w.ne,w.ca⟩,aX,bx,?_,dc,?_⟩,⟨?_,λd al kB=>?_⟩⟩
 · rw[hs];exact(dt aw rfl).trans vQ
 · rw[hs];exact fw rfl
 · rw[hs,dZ];exact(dt (λe=>bn e.symm) rfl).trans ((dt (λe=>ar e.symm) rfl).trans w.f2)
 · exact w.aY.sublist (List.filter_sublist.map _)
 · rw[hs,dZ];exact⟨fh,gg,j3⟩
 · show ht s.aP a=_
   rw[db,PW w.jE]
 · show s.ej-Int.ofNat (dJ s.aP a)=_
   rw[gC,aq];simp only[Int.ofNat_eq_natCast];omega
 · rw[hs,dZ];exact Nat.le_refl _
 · rw[hs,dZ]
   exact(dt (λe:d=m1=>bZ (e▸kB)) rfl).trans (dt (λe:d=p=>bz (e▸kB)) rfl)
theorem Hy(z:Int)(h1:-9223372036854775808<=z)(aa:z<9223372036854775808):IntKind.wrap .i64 z=z:=by
 have ar:(2:Int)^64=18446744073709551616:=by rfl
 have bn:(2:Int)^63=9223372036854775808:=by rfl
 simp only[IntKind.wrap,IntKind.bits,IntKind.signed,ar,bn,Bool.true_and,decide_eq_true_eq,Nat.add_one_sub_one]
 by_cases aL:0<=z
 · have e:z %18446744073709551616=z:=by omega
   rw[e,if_neg (by show¬((2:Int)^63<=z);rw[bn];omega)]
 · have e:z %18446744073709551616=z+18446744073709551616:=by omega
   rw[e,if_pos (by show(2:Int)^63<=z+18446744073709551616;rw[bn];omega)]
   omega
def Hz(A:List (dh b7))(c:Nat)(f:b7):List (dh b7):=if A.any (λx=>decide (x.k=f.p)) then A.map (λy=>if y.k=f.p then⟨y.k,f,y.born⟩ else y) else A++[⟨f.p,f,c⟩]
def rf(T:List (dh Nat))(c:Nat)(p:a1)(n:Nat):List (dh Nat):=if T.any (λx=>decide (x.k=p)) then T.map (λy=>if y.k=p then⟨y.k,n,y.born⟩ else y) else T++[⟨p,n,c⟩]
theorem HA{α:Type}{A:List (dh α)}{p:a1}:A.any (λx=>decide (x.k=p))=true<-> ∃x∈A,x.k=p:=by
 rw[List.any_eq_true]
 simp
theorem PY{A:List (dh b7)}(hk:∀x∈A,x.v.p=x.k)(c:Nat)(f:b7):(Hz A c f).map (·.v)=iu (A.map (·.v)) f:=by
 have aH:(A.map (·.v)).any (λg=>decide (g.p=f.p))=A.any (λx=>decide (x.k=f.p)):=by
  rw[List.any_map]
  apply Bool.eq_iff_iff.2
  rw[List.any_eq_true,List.any_eq_true]
  constructor
  · rintro⟨x,U,h⟩;exact⟨x,U,by rw[<-hk x U];exact h⟩
  · rintro⟨x,U,h⟩;exact⟨x,U,by show decide (x.v.p=f.p)=true;rw[hk x U];exact h⟩
 unfold Hz iu
 rw[aH]
 split
 · rw[List.map_map,List.map_map]
   refine List.map_congr_left λx U=>?_
   show(if x.k=f.p then(⟨x.k,f,x.born⟩:dh b7) else x).v=if x.v.p=f.p then f else x.v
   rw[hk x U]
   split<;>rfl
 · simp
theorem HB(T:List (dh Nat))(c:Nat)(p:a1)(n:Nat):(rf T c p n).map (λx=>(x.k,x.v))=gu (T.map λx=>(x.k,x.v)) p n:=by
 have aH:(T.map λx=>(x.k,x.v)).any (λg=>decide (g.1=p))=T.any (λx=>decide (x.k=p)):=by
  rw[List.any_map];rfl
 unfold rf gu
 rw[aH]
 split
 · rw[List.map_map,List.map_map]
   refine List.map_congr_left λx U=>?_
   show((if x.k=p then(⟨x.k,n,x.born⟩:dh Nat) else x).k,(if x.k=p then(⟨x.k,n,x.born⟩:dh Nat) else x).v)=if x.k=p then(p,n) else(x.k,x.v)
   split
   · rename_i h;rw[h]
   · rfl
 · simp
theorem PZ{α:Type}{A:List (dh α)}{p:a1}{v:α}:(A.map λy=>if y.k=p then(⟨y.k,v,y.born⟩:dh α) else y).map (·.k)=A.map (·.k)/\(A.map λy=>if y.k=p then(⟨y.k,v,y.born⟩:dh α) else y).map (·.born)=A.map (·.born):=by
 constructor<;>rw[List.map_map]<;>refine List.map_congr_left λx _=>?_<;>show _=_<;>simp only[Function.comp]<;>split<;>rfl
theorem Cl{T eX:TypeId}(hu:an.underlying T=some (.map 9 eX)){α:Type}{enc:α->I}{h:J}{m c:Nat}{M:List (dh α)}(hm:h.get m=some (.map (M.map (fa enc)) c))(aZ:(M.map (·.k)).Nodup)(ad:(∀x∈M,x.born<c)/\(M.map (·.born)).Nodup)(p:a1)(v:α):
  ∃rP c',jj an h T (.map m) (.str p) (enc v)=some (h.set m (some (.map (rP.map (fa enc)) c')))/\rP=(if M.any (λx=>decide (x.k=p)) then M.map (λy=>if y.k=p then⟨y.k,v,y.born⟩ else y) else M++[⟨p,v,c⟩])/\(rP.map (·.k)).Nodup/\(∀x∈rP,x.born<c')/\(rP.map (·.born)).Nodup/\(∃x∈rP,x.k=p/\x.v=v)/\∀x∈rP,x∈M\/(x.k=p/\x.v=v):=by
 by_cases aH:M.any (λx=>decide (x.k=p))=true
 · obtain⟨x,U,rfl⟩:=HA.1 aH
   obtain⟨bz,bZ⟩:=PZ (A:=M) (p:=x.k) (v:=v)
   refine⟨_,c,Px hu hm aZ U v,by rw[if_pos aH],by rw[bz];exact aZ,λy bc=>?_,by rw[bZ];exact ad.2,⟨⟨x.k,v,x.born⟩,List.mem_map.2 ⟨x,U,by rw[if_pos rfl]⟩,rfl,rfl⟩,λy bc=>?_⟩
   · obtain⟨z,aL,rfl⟩:=List.mem_map.1 bc
     have:=ad.1 z aL
     split<;>exact this
   · obtain⟨z,aL,rfl⟩:=List.mem_map.1 bc
     by_cases e:z.k=x.k
     · rw[if_pos e];exact .inr ⟨e,rfl⟩
     · rw[if_neg e];exact .inl aL
 · have aB:∀x∈M,x.k≠p:=λx U e=>aH (HA.2 ⟨x,U,e⟩)
   refine⟨_,c+1,Pw hu hm aB v,by rw[if_neg aH],?_,λy bc=>?_,?_,⟨⟨p,v,c⟩,by simp,rfl,rfl⟩,λy bc=>?_⟩
   · rw[List.map_append,List.nodup_append]
     refine⟨aZ,by simp,λa k1 b hR=>?_⟩
     obtain⟨x,U,rfl⟩:=List.mem_map.1 k1
     have:b=p:=by simpa using hR
     rw[this];exact aB x U
   · rcases List.mem_append.1 bc with bc|bc
     · have:=ad.1 y bc;omega
     · rw[List.mem_singleton.1 bc];exact Nat.lt_succ_self c
   · rw[List.map_append,List.nodup_append]
     refine⟨ad.2,by simp,λa k1 b hR=>?_⟩
     obtain⟨x,U,rfl⟩:=List.mem_map.1 k1
     have:b=c:=by simpa using hR
     have:=ad.1 x U
     omega
   · rcases List.mem_append.1 bc with bc|bc
     · exact .inl bc
     · rw[List.mem_singleton.1 bc];exact .inr ⟨rfl,rfl⟩
theorem HC{T:List (dh Nat)}(aB:(T.map (·.k)).Nodup){x:dh Nat}(U:x∈T):de (T.map λx=>(x.k,x.v)) x.k=x.v:=by
 unfold de
 have:(T.map λx=>(x.k,x.v)).find? (λf=>decide (f.1=x.k))=some (x.k,x.v):=by
  induction T with
  |nil=>cases U
  |cons y T a7=>
   rw[List.map_cons,List.nodup_cons] at aB
   rw[List.map_cons]
   by_cases h:y.k=x.k
   · have:y=x:=by
       rcases List.mem_cons.1 U with e|e
       · exact e.symm
       · exact absurd (List.mem_map.2 ⟨x,e,h.symm⟩) aB.1
     subst this
     rw[List.find?_cons_of_pos (by simp)]
   · rw[List.find?_cons_of_neg (by simpa using h)]
     rcases List.mem_cons.1 U with e|e
     · rw[e] at h;exact absurd rfl h
     · exact a7 aB.2 e
 rw[this]
theorem HD{T:List (dh Nat)}{p:a1}(aB:∀x∈T,x.k≠p):de (T.map λx=>(x.k,x.v)) p=0:=by
 unfold de
 have:(T.map λx=>(x.k,x.v)).find? (λf=>decide (f.1=p))=none:=List.find?_eq_none.2 λy bc=>by
  obtain⟨x,U,rfl⟩:=List.mem_map.1 bc
  simpa using aB x U
 rw[this]
theorem HE(m:Nat){F:Nat->Prop}{h:J}{p:Nat}{q:fb}{s:dd}{a t:a1}(w:dP F h p q s)(ok:kA s)(ad:s.ej<=1000000000)(aq:t.length<=1000000000)(bd:de s.ts a<=1000000000):∃g,Y (m+1) (.fn 31) [.ptr p 0,.str a,.str t] h=.ret (a6 (fq a t s).1) g/\dP F g p q (fq a t s).2/\j4 F h g:=by
 obtain⟨m1,m2,c1,c2,dK,A,T,w,aX,bx,db,dc,gC⟩:=w
 obtain⟨aw,ar,bn⟩:=w.ne
 obtain⟨fh,gg,j3⟩:=w.up
 obtain⟨bz,bZ,eO⟩:=w.ca
 have ae:=vM ok.du a
 have lk:=ok.bT
 have hle:dJ s.aP a<=dK:=by
  rw[gC] at lk
  simp only[Int.ofNat_eq_natCast] at lk
  omega
 have jR:dK<=1000000000:=by rw[gC] at ad;simp only[Int.ofNat_eq_natCast] at ad;omega
 obtain⟨cC,cE,gv,eR,eI⟩:∃cC cE gv,gq an (h.room 19) 57 (.map m1) (.str a) false=some (.agg [.str cC,.str cE,a6 gv])/\cE.length=dJ s.aP a:=by
  cases hf:da s.aP a with
  |none=>
   have pW:=hf
   rw[db] at pW
   exact⟨[],[],0,yN (h:=h.room 19) pV Hu w.f1 (Hw w.jE pW) false,by unfold dJ;rw[hf];rfl⟩
  |some f=>
   have pW:=hf
   rw[db] at pW
   obtain⟨x,U,vP,tm⟩:=Ck w.jE pW
   have cU:=th (h:=h.room 19) pV w.f1 w.aY U false
   rw[tm] at cU
   exact⟨f.p,f.x,f.n,by rw[cU,vP];rfl,by unfold dJ;rw[hf]⟩
 obtain⟨fJ,sh⟩:∃fJ,fJ=dK+t.length-dJ s.aP a:=⟨_,rfl⟩
 obtain⟨g1,dZ⟩:∃g,g=(h.room 19).set p (some (tk q m1 m2 fJ)):=⟨_,rfl⟩
 have aY:g1.n=h.n+19:=by rw[dZ];rfl
 have vQ:g1.get p=some (tk q m1 m2 fJ):=by rw[dZ];exact fw rfl
 have Cm:g1.get m2=some (.map (T.map (fa tj)) c2):=by rw[dZ];exact(dt (λe=>ar e.symm) rfl).trans w.f2
 have P0:g1.get m1=some (.map (A.map (fa pU)) c1):=by rw[dZ];exact(dt (λe=>aw e.symm) rfl).trans w.f1
 have P1:gq an g1 28 (.map m2) (.str a) false=some (a6 (de s.ts a)):=by
  rw[dc]
  by_cases U:∃x∈T,x.k=a
  · obtain⟨x,U,rfl⟩:=U
    rw[HC w.bQ U]
    exact th rO Cm w.bQ U false
  · have aB:∀x∈T,x.k≠a:=λx B5 e=>U ⟨x,B5,e⟩
    rw[HD aB]
    exact yN rO Hv Cm aB false
 obtain⟨yR,om,HF,P2,HG,P3,P4,⟨y,bc,P5,P6⟩,_⟩:=Cl rO Cm w.bQ w.lT a (de s.ts a+1)
 obtain⟨g2,hs⟩:∃g,g=g1.set m2 (some (.map (yR.map (fa tj)) om)):=⟨_,rfl⟩
 rw[<-hs] at HF
 have bQ:g2.n=g1.n:=by rw[hs];rfl
 have HH:g2.get m2=some (.map (yR.map (fa tj)) om):=by rw[hs];exact fw rfl
 have nA:∀d,d≠m2->g2.get d=g1.get d:=λd al=>by rw[hs];exact dt al rfl
 have Cn:=(nA p ar).trans vQ
 have HI:∀{g:J},g.get m2=some (.map (yR.map (fa tj)) om)->gq an g 28 (.map m2) (.str a) false=some (a6 (de s.ts a+1)):=λ{g} aj=>by
  have:=th rO aj HG bc false
  rw[P5] at this
  rw[this,P6];rfl
 have P7:(g2.room 15).get m1=some (.map (A.map (fa pU)) c1):=(nA m1 bn).trans P0
 obtain⟨HJ,HK,HL,P8,HM,P9,P_,_,Qa⟩:=Cl pV P7 w.aY w.tl a (⟨a,t,de s.ts a+1⟩:b7)
 obtain⟨g3,o9⟩:∃g,g=(g2.room 15).set m1 (some (.map (HJ.map (fa pU)) HK)):=⟨_,rfl⟩
 rw[<-o9] at HL
 have cX:g3.n=g2.n+15:=by rw[o9];rfl
 have iQ:∀d,d≠m1->g3.get d=g2.get d:=λd al=>by rw[o9];exact dt al rfl
 have HN:=(iQ p aw).trans Cn
 have HO:=(iQ m2 λe=>bn e.symm).trans HH
 refine⟨g3,PO m p m1 m2 a t h (R:=λy=>y=.ret (a6 (de s.ts a+1)) g3) ⟨dK,ld1 (h:=h.room 19) w.st rfl,ld1 (h:=h.room 19) w.st rfl,cC,cE,gv,eR,Int.ofNat t.length-Int.ofNat cE.length,?_,fJ,?_,g1,by rw[dZ];exact iM (h:=h.room 19) w.st rfl (by rfl),rfl,ld1 vQ rfl,de s.ts a,P1,by omega,g2,⟨HF,rfl⟩,ld1 (h:=g2.room 15) Cn rfl,ld1 (h:=g2.room 15) Cn rfl,de s.ts a+1,HI (g:=g2.room 15) HH,g3,⟨HL,rfl⟩,ld1 HN rfl,de s.ts a+1,HI HO,rfl⟩,⟨m1,m2,HK,om,fJ,HJ,yR,⟨HN,by rw[o9];exact fw rfl,HO,HM,HG,λx U=>?_,⟨P9,P_⟩,⟨P3,P4⟩,⟨by omega,by omega,by omega⟩,w.ne,w.ca⟩,aX,bx,?_,?_,?_⟩,⟨by omega,λd al kB=>?_⟩⟩
 · rw[Nc,Hy _ (by simp only[Int.ofNat_eq_natCast];omega) (by simp only[Int.ofNat_eq_natCast];omega)]
 · show some (I.int .i64 (IntKind.i64.wrap (Int.ofNat dK+(Int.ofNat t.length-Int.ofNat cE.length))))=some (ak fJ)
   rw[Hy _ (by simp only[Int.ofNat_eq_natCast];omega) (by simp only[Int.ofNat_eq_natCast];omega),sh]
   congr 2
   simp only[Int.ofNat_eq_natCast]
   omega
 · rcases Qa x U with h|⟨h1,aa⟩
   · exact w.jE x h
   · rw[h1,aa]
 · show iu s.aP ⟨a,t,de s.ts a+1⟩=_
   rw[db,<-PY w.jE c1,P8];rfl
 · show gu s.ts a (de s.ts a+1)=_
   rw[P2,dc,<-HB T c2];rfl
 · show s.ej+(Int.ofNat t.length-Int.ofNat (dJ s.aP a))=_
   rw[gC,sh];simp only[Int.ofNat_eq_natCast];omega
 · exact(iQ d λe=>bZ (e▸kB)).trans ((nA d λe=>eO (e▸kB)).trans (by rw[dZ];exact dt (λe:d=p=>bz (e▸kB)) rfl))
theorem Co{F:Nat->Prop}{h:J}{p m1 m2 c1 c2 dK:Nat}{q:fb}{A:List (dh b7)}{T:List (dh Nat)}(w:vO F h p m1 m2 c1 c2 q dK A T)(a:a1):∃cC cE gv,(∀g:J,g.get m1=h.get m1->∀ok,gq an g 57 (.map m1) (.str a) ok=some (if ok=true then .aF [.agg [.str cC,.str cE,a6 gv],.bool (da (A.map (·.v)) a).isSome] else .agg [.str cC,.str cE,a6 gv]))/\cE.length=dJ (A.map (·.v)) a/\∀f,da (A.map (·.v)) a=some f->cC=f.p/\cE=f.x/\gv=f.n:=by
 cases hf:da (A.map (·.v)) a with
 |none=>exact⟨[],[],0,λg aj ok=>yN (h:=g) pV Hu (aj.trans w.f1) (Hw w.jE hf) ok,by unfold dJ;rw[hf];rfl,λf e=>by cases e⟩
 |some f=>
  obtain⟨x,U,vP,tm⟩:=Ck w.jE hf
  refine⟨f.p,f.x,f.n,λg aj ok=>?_,by unfold dJ;rw[hf],λAe e=>by cases e;exact⟨rfl,rfl,rfl⟩⟩
  have cU:=th (h:=g) pV (aj.trans w.f1) w.aY U ok
  rw[tm] at cU
  rw[cU,vP];rfl
theorem yS(m:Nat){F:Nat->Prop}{h:J}{p c0 c1 c2 c3 a e:Nat}{b:Bool}{q:fb}{s:dd}{t:a1}(w:dP F h p q s)
  (ay:aO h c0 0=some (.ptr p 0))(h1:aO h c1 0=some (.ptr a 0))(aa:aO h c2 0=some (.bool b))(ao:aO h c3 0=some (ak e))(aH:aO h a 0=some (.str t))(aB:c0<h.n/\c1<h.n/\c2<h.n/\c3<h.n/\a<h.n):
  ∃g,Y (m+1) (.fn 47) [.ptr c0 0,.ptr c1 0,.ptr c2 0,.ptr c3 0] h=.ret (ak (if(da s.aP t).isSome=b then 0 else e)) g/\Ext h.n h g:=by
 obtain⟨m1,m2,d1,d2,dK,A,T,w,aX,bx,db,dc,gC⟩:=w
 obtain⟨fh,gg,j3⟩:=w.up
 obtain⟨fY,dx,l2,pj,jo⟩:=aB
 obtain⟨cC,cE,gv,cU,_,_⟩:=Co w t
 obtain⟨H,hH⟩:∃H,H=(h.room 14).set (h.n+11) (some (av [.str [],.str [],a6 0] 40)):=⟨_,rfl⟩
 have ek:Ext h.n h (h.room 14):=Ext.room _ _ _
 have hb:Ext h.n h H:=by rw[hH];exact Ext.nn (by omega) ek
 obtain⟨g1,dZ⟩:∃g,g=H.set (h.n+11) (some (av [.str cC,.str cE,a6 gv] 40)):=⟨_,rfl⟩
 have dq:Ext h.n h g1:=by rw[dZ];exact Ext.nn (by omega) hb
 have eF:∀{g:J},Ext h.n h g->∀{d o:Nat} {v:I},d<h.n->aO h d o=some v->aO g d o=some v:=λ{g} x {d o v} al aI=>by
  have:=x.get d al
  unfold aO at aI⊢
  rw[this];exact aI
 have e8:aU.storeCells H (h.n+11) 0 [.str cC,.str cE,a6 gv]=some g1:=by rw[dZ];exact iM (by rw[hH];exact fw rfl) rfl rfl
 have gR:aO h p 5=some (.map m1):=ld1 w.st rfl
 rw[db]
 refine⟨g1,PL m c0 c1 c2 c3 p a m1 h (R:=λy=>y=.ret (.int .i64 (Int.ofNat (if(da (A.map (·.v)) t).isSome=b then 0 else e))) g1) ⟨eF ek fY ay,eF ek fh gR,eF ek dx h1,t,eF ek jo aH,cC,cE,gv,_,cU (h.room 14) (ek.get m1 gg) true,g1,by rw[<-hH];exact e8,?_,?_,?_,?_,?_,b,eF dq l2 aa,λad=>?_,λad=>⟨e,eF dq pj ao,?_⟩⟩,dq⟩
 · rw[<-hH];exact eF hb fY ay
 · rw[<-hH];exact eF hb fh gR
 · rw[<-hH];exact eF hb dx h1
 · rw[<-hH];exact eF hb jo aH
 · rw[<-hH];exact cU H (hb.get m1 gg) true
 · have:(da (A.map (·.v)) t).isSome=b:=by
     revert ad;cases (da (A.map (·.v)) t).isSome<;>cases b<;>simp[py]
   rw[if_pos this]
 · have:¬(da (A.map (·.v)) t).isSome=b:=by
     revert ad;cases (da (A.map (·.v)) t).isSome<;>cases b<;>simp[py]
   rw[if_neg this]
theorem rQ(a b:Int):eW a b=decide (a<b):=by simp[eW]
theorem HP(a:Int):fA ji (.int .i64 a) [ak 64]=some (.int .i64 (min a 64)):=by
 have key:(if eW (Int.ofNat 64) a=true then Int.ofNat 64 else a)=min a 64:=by
  rw[rQ]
  by_cases h:Int.ofNat 64<a
  · rw[if_pos (decide_eq_true h)]
    simp only[Int.ofNat_eq_natCast] at h⊢
    omega
  · rw[if_neg (by simpa using h)]
    simp only[Int.ofNat_eq_natCast] at h
    omega
 simp only[fA,ji,if_true,key]
theorem Qb(m:Nat){F:Nat->Prop}{h:J}{p c0 c1 c2 a:Nat}{q:fb}{s:dd}{t u:a1}(w:dP F h p q s)(ok:kA s)(ad:s.ej<=1000000000)(aq:t.length<=1000000000)
  (ay:aO h c0 0=some (.ptr p 0))(h1:aO h c1 0=some (.ptr a 0))(aa:aO h c2 0=some (.str t))(aH:aO h a 0=some (.str u))(aB:c0<h.n/\c1<h.n/\c2<h.n/\a<h.n):
  ∃g,Y (m+1) (.fn 46) [.ptr c0 0,.ptr c1 0,.ptr c2 0] h=.ret (ak (if kz u t s=true then 0 else 7)) g/\Ext h.n h g:=by
 obtain⟨m1,m2,d1,d2,dK,A,T,w,aX,bx,db,dc,gC⟩:=w
 obtain⟨fh,gg,j3⟩:=w.up
 obtain⟨fY,dx,l2,jo⟩:=aB
 obtain⟨cC,cE,gv,cU,eI,_⟩:=Co w u
 have ae:=vM ok.du u
 have lk:=ok.bT
 have hle:dJ s.aP u<=dK:=by
  rw[gC] at lk
  simp only[Int.ofNat_eq_natCast] at lk
  omega
 have jR:dK<=1000000000:=by rw[gC] at ad;simp only[Int.ofNat_eq_natCast] at ad;omega
 have hlen:A.length=s.aP.length:=by rw[db,List.length_map]
 have Qc:=ok.pS.2
 rw[<-db] at eI
 obtain⟨H,hH⟩:∃H,H=(h.room 14).set (h.n+11) (some (av [.str [],.str [],a6 0] 40)):=⟨_,rfl⟩
 have ek:Ext h.n h (h.room 14):=Ext.room _ _ _
 have hb:Ext h.n h H:=by rw[hH];exact Ext.nn (by omega) ek
 obtain⟨g1,dZ⟩:∃g,g=H.set (h.n+11) (some (av [.str cC,.str cE,a6 gv] 40)):=⟨_,rfl⟩
 have dq:Ext h.n h g1:=by rw[dZ];exact Ext.nn (by omega) hb
 have cd:Ext h.n h (g1.room 27):=dq.trans dq.n (Ext.room _ _ _)
 have eF:∀{g:J},Ext h.n h g->∀{d o:Nat} {v:I},d<h.n->aO h d o=some v->aO g d o=some v:=λ{g} x {d o v} al aI=>by
  have:=x.get d al
  unfold aO at aI⊢
  rw[this];exact aI
 have e8:aU.storeCells H (h.n+11) 0 [.str cC,.str cE,a6 gv]=some g1:=by rw[dZ];exact iM (by rw[hH];exact fw rfl) rfl rfl
 have gR:aO h p 5=some (.map m1):=ld1 w.st rfl
 have HQ:aO h p 0=some (.int .i64 q.a):=ld1 w.st rfl
 have HR:aO h p 1=some (.int .i64 q.b):=ld1 w.st rfl
 have HS:aO h p 7=some (ak dK):=ld1 w.st rfl
 have HT:aO (g1.room 27) (h.n+11) 1=some (.str cE):=ld1 (h:=g1.room 27) (by rw[dZ];exact fw rfl) rfl
 have Qd:gX an h 57 (.map m1)=some (ak A.length):=by
  have hu:=pV
  simp only[gX,hu,w.f1,List.length_map]
 have ah:kz u t s=!(decide (min q.a 64<Int.ofNat (A.length+if(da (A.map (·.v)) u).isSome then 0 else 1))||decide (q.b<Int.ofNat (dK-cE.length+t.length))):=by
  unfold kz
  rw[aX,bx,gC,<-hlen,db]
  congr 3
  rw[<-db,<-eI]
  have:cE.length<=dK:=by omega
  simp only[Int.ofNat_eq_natCast]
  congr 1
  omega
 have fin:∀{n:Nat} {G:J},min q.a 64<Int.ofNat n\/q.b<Int.ofNat (dK-cE.length+t.length)->n=(A.length+if(da (A.map (·.v)) u).isSome then 0 else 1)->bL.ret (ak 7) G=.ret (ak (if kz u t s=true then 0 else 7)) G:=λ{n G} ab e=>by
  have:kz u t s=false:=by
   rw[ah,<-e]
   simp only[Bool.not_eq_false',Bool.or_eq_true,decide_eq_true_eq]
   exact ab
  rw[this];rfl
 have HU:∀{n:Nat} {G:J},¬min q.a 64<Int.ofNat n->¬q.b<Int.ofNat (dK-cE.length+t.length)->n=(A.length+if(da (A.map (·.v)) u).isSome then 0 else 1)->bL.ret (ak 0) G=.ret (ak (if kz u t s=true then 0 else 7)) G:=λ{n G} ab al e=>by
  have:kz u t s=true:=by
   rw[ah,<-e]
   simp only[Bool.not_eq_true',Bool.or_eq_false_iff,decide_eq_false_iff_not]
   exact⟨ab,al⟩
  rw[this];rfl
 have yT:∀{x y:Int},eW x y=true->x<y:=λh=>by rw[rQ] at h;exact of_decide_eq_true h
 have ct:∀{x y:Int},eW x y=false->¬x<y:=λh=>by rw[rQ] at h;exact of_decide_eq_false h
 refine⟨g1.room 27,PN m c0 c1 c2 p a m1 h (R:=λy=>y=.ret (.int .i64 (Int.ofNat (if kz u t s=true then 0 else 7))) (g1.room 27)) ⟨ay,gR,A.length,Qd,eF ek fY ay,eF ek fh gR,eF ek dx h1,u,eF ek jo aH,cC,cE,gv,_,cU (h.room 14) (ek.get m1 gg) true,g1,by rw[<-hH];exact e8,by rw[<-hH];exact eF hb fY ay,by rw[<-hH];exact eF hb fh gR,by rw[<-hH];exact eF hb dx h1,by rw[<-hH];exact eF hb jo aH,by rw[<-hH];exact cU H (hb.get m1 gg) true,λag=>?_,λag=>?_⟩,cd⟩
 · have e:A.length=A.length+if(da (A.map (·.v)) u).isSome then 0 else 1:=by rw[ag];rfl
   exact⟨eF cd fY ay,q.a,eF cd fh HQ,min q.a 64,HP q.a,λc=>⟨rfl,rfl,fin (.inl (yT c)) e⟩,λc=>⟨eF cd fY ay,dK,eF cd fh HS,cE,HT,⟨by omega,by omega⟩,t,eF cd l2 aa,by omega,eF cd fY ay,q.b,eF cd fh HR,rfl,rfl,rfl,λc2=>fin (.inr (yT c2)) e,λc2=>HU (ct c) (ct c2) e⟩⟩
 · have e:A.length+1=A.length+if(da (A.map (·.v)) u).isSome then 0 else 1:=by rw[ag];rfl
   exact⟨by omega,eF cd fY ay,q.a,eF cd fh HQ,min q.a 64,HP q.a,λc=>⟨rfl,rfl,fin (.inl (yT c)) e⟩,λc=>⟨eF cd fY ay,dK,eF cd fh HS,cE,HT,⟨by omega,by omega⟩,t,eF cd l2 aa,by omega,eF cd fY ay,q.b,eF cd fh HR,rfl,rfl,rfl,λc2=>fin (.inr (yT c2)) e,λc2=>HU (ct c) (ct c2) e⟩⟩
theorem Qe(m b N:Nat)(cp:cy)(h:J)(H:cc an Tryd.f27 (Y m) [1,0,1,0] (bb [(2,ak 0),(6,.slice b 0 N cp),(7,ak N),(8,ak 0)] h) (λfj fk=>((∃g1 dx,fj=.exit 0/\fk=bb dx g1/\eu [] dx/\R (.ret (ak 0) g1))\/(∃aY g2 l2,fj=.ret/\fk=bb l2 g2/\eu [(2,ak aY)] l2/\R (.ret (ak aY) g2))))):
  R (Y (m+1) (.fn 27) [.slice b 0 N cp] h):=
 hq [(4000,.gR [2,6,7,8] [(.exit 0,[]),(.ret,[(2,.n .i64)])])] [] Tryd.func27 H
theorem Qf(b N i f p:Nat)(cp:cy)(h:J)(H:(i<N->i<N/\aO h b (0+i*1)=some (.fn f [aA p] [])/\∃aY g1,call (.fn f) [aA p] h=.ret (ak aY) g1/\(aY=0->i+1<9223372036854775808/\Q .nrm (bb [(6,.slice b 0 N cp),(7,ak N),(8,ak (i+1))] g1))/\(¬aY=0->Q .ret (bb [(2,ak aY),(6,.slice b 0 N cp),(7,ak N),(8,ak i)] g1)))/\(¬i<N->Q (.exit 0) (bb [(6,.slice b 0 N cp),(7,ak N),(8,ak i)] h))):
  cc an Tryd.f27 call [1,0,1,0,0] (bb [(6,.slice b 0 N cp),(7,ak N),(8,ak i)] h) Q:=
 fy [(11,.bJ (.is (.fn f [aA p] []))),(13,.bJ (.n .i64))] [2,6,7,8] [] H
theorem HV(b N i f:Nat)(cs:List I)(cp:cy)(h:J)(H:(i<N->i<N/\aO h b (0+i*1)=some (.fn f [] cs)/\∃aY g1,call (.fn f) cs h=.ret (ak aY) g1/\(aY=0->i+1<9223372036854775808/\Q .nrm (bb [(6,.slice b 0 N cp),(7,ak N),(8,ak (i+1))] g1))/\(¬aY=0->Q .ret (bb [(2,ak aY),(6,.slice b 0 N cp),(7,ak N),(8,ak i)] g1)))/\(¬i<N->Q (.exit 0) (bb [(6,.slice b 0 N cp),(7,ak N),(8,ak i)] h))):
  cc an Tryd.f27 call [1,0,1,0,0] (bb [(6,.slice b 0 N cp),(7,ak N),(8,ak i)] h) Q:=
 fy [(11,.bJ (.is (.fn f [] cs))),(13,.bJ (.n .i64))] [2,6,7,8] [] H
theorem HW(m p f1 f2:Nat)(c1 c2:List I)(s t:List UInt8)(h:J)(H:∃g1,Y m (.fn 29) [aA h.n] (J.room (J.push (J.push h (av [.str s] 9)) (av [.str t] 9)) 10)=.ret (.fn f1 [] c1) g1/\∃s1,aO g1 (J.n (J.push h (av [.str s] 9))) 0=some (.str s1)/\∃g2,Y m (.fn 30) [aA p,aA h.n,.str s1] g1=.ret (.fn f2 [] c2) g2/\∃aY g3,Y m (.fn 27) [.slice (J.n (J.push (J.push h (av [.str s] 9)) (av [.str t] 9))+7) 0 4 (.exact 4)] (J.set g2 (J.n (J.push (J.push h (av [.str s] 9)) (av [.str t] 9))+7) (some (av [.fn 28 [aA p] [],.fn f1 [] c1,.fn 26 [] [.ptr (J.n (J.push h (av [.str s] 9))) 0],.fn f2 [] c2] 66)))=.ret (ak aY) g3/\aO (J.room (J.push (J.push h (av [.str s] 9)) (av [.str t] 9)) 10) (J.n (J.push h (av [.str s] 9))) 0=some (.str s1)/\(aY=0->∃s2,aO g3 h.n 0=some (.str s2)/\∃bw,aO g3 (J.n (J.push h (av [.str s] 9))) 0=some (.str bw)/\∃bQ g4,Y m (.fn 31) [aA p,.str s2,.str bw] g3=.ret (a6 bQ) g4/\R (.ret (.aF [a6 bQ,ak 0]) g4))/\(¬aY=0->R (.ret (.aF [a6 0,ak aY]) g3))):
  R (Y (m+1) (.fn 9) [aA p,.str s,.str t] h):=
 hq [(13,.bJ (.is (.fn f1 [] c1))),(17,.bJ (.is (.fn f2 [] c2)))] [] Tryd.func9 H
theorem Qg(m p f1 f2:Nat)(c1 c2:List I)(s:List UInt8)(h:J)(H:∃g1,Y m (.fn 29) [aA h.n] (J.push h (av [.str s] 9))=.ret (.fn f1 [] c1) g1/\∃g2,Y m (.fn 32) [aA p,aA h.n,.bool true,ak 5] g1=.ret (.fn f2 [] c2) g2/\∃aY g3,Y m (.fn 27) [.slice g2.n 0 3 (.exact 3)] (J.push g2 (av [.fn 28 [aA p] [],.fn f1 [] c1,.fn f2 [] c2] 66))=.ret (ak aY) g3/\(aY=0->∃s1,aO g3 h.n 0=some (.str s1)/\∃s2 g4,Y m (.fn 33) [aA p,.str s1] g3=.ret (.str s2) g4/\R (.ret (ak aY) g4))/\(¬aY=0->R (.ret (ak aY) g3))):
  R (Y (m+1) (.fn 12) [aA p,.str s] h):=
 hq [(8,.bJ (.is (.fn f1 [] c1))),(10,.bJ (.is (.fn f2 [] c2))),(17,.bJ .st)] [] Tryd.func12 H
theorem Qh(m p f1 f2 f3 f4:Nat)(c1 c2 c3 fu:List I)(s t:List UInt8)(h:J)(H:∃g1,Y m (.fn 29) [aA h.n] (J.push (J.push h (av [.str s] 9)) (av [.str t] 9))=.ret (.fn f1 [] c1) g1/\∃g2,Y m (.fn 29) [.ptr (J.n (J.push h (av [.str s] 9))) 0] g1=.ret (.fn f2 [] c2) g2/\∃g3,Y m (.fn 32) [aA p,aA h.n,.bool true,ak 5] g2=.ret (.fn f3 [] c3) g3/\∃g4,Y m (.fn 32) [aA p,.ptr (J.n (J.push h (av [.str s] 9))) 0,.bool false,ak 14] g3=.ret (.fn f4 [] fu) g4/\∃aY g5,Y m (.fn 27) [.slice g4.n 0 5 (.exact 5)] (J.push g4 (av [.fn 28 [aA p] [],.fn f1 [] c1,.fn f2 [] c2,.fn f3 [] c3,.fn f4 [] fu] 66))=.ret (ak aY) g5/\(aY=0->∃s1,aO g5 h.n 0=some (.str s1)/\∃s2 g6,Y m (.fn 33) [aA p,.str s1] g5=.ret (.str s2) g6/\∃bw,aO g6 (J.n (J.push h (av [.str s] 9))) 0=some (.str bw)/\∃bQ g7,Y m (.fn 31) [aA p,.str bw,.str s2] g6=.ret (a6 bQ) g7/\R (.ret (.aF [a6 bQ,ak 0]) g7))/\(¬aY=0->R (.ret (.aF [a6 0,ak aY]) g5))):
  R (Y (m+1) (.fn 13) [aA p,.str s,.str t] h):=
 hq [(12,.bJ (.is (.fn f1 [] c1))),(13,.bJ (.is (.fn f2 [] c2))),(15,.bJ (.is (.fn f3 [] c3))),(17,.bJ (.is (.fn f4 [] fu))),(25,.bJ .st)] [] Tryd.func13 H
theorem HX(p f1 f2 m1:Nat)(c1 c2:List I)(s:List UInt8)(h:J)(H:∃g1,call (.fn 29) [aA h.n] (J.push (J.push h (av [.str s] 9)) (av [.str [],.str [],a6 0] 40))=.ret (.fn f1 [] c1) g1/\∃g2,call (.fn 32) [aA p,aA h.n,.bool true,ak 5] g1=.ret (.fn f2 [] c2) g2/\∃aY g3,call (.fn 27) [.slice g2.n 0 3 (.exact 3)] (J.push g2 (av [.fn 28 [aA p] [],.fn f1 [] c1,.fn f2 [] c2] 66))=.ret (ak aY) g3/\(aY=0->aO (g3.room 8) p 5=some (.map m1)/\∃s1,aO (g3.room 8) h.n 0=some (.str s1)/\∃s2 bw bQ,gq an (g3.room 8) 57 (.map m1) (.str s1) false=some (.agg [.str s2,.str bw,a6 bQ])/\∃g4,aU.storeCells (g3.room 8) (J.n (J.push h (av [.str s] 9))) 0 [.str s2,.str bw,a6 bQ]=some g4/\Q .ret (bb [(4,.ptr (J.n (J.push h (av [.str s] 9))) 0),(5,ak 0)] g4))/\(¬aY=0->∃g5,aU.storeCells g3 (J.n (J.push h (av [.str s] 9))) 0 [.str [],.str [],a6 0]=some g5/\Q .ret (bb [(4,.ptr (J.n (J.push h (av [.str s] 9))) 0),(5,ak aY)] g5))):
  cc an Tryd.f11 call [] (bb [(0,aA p),(1,.str s)] h) Q:=
 fy [(9,.bJ (.is (.fn f1 [] c1))),(11,.bJ (.is (.fn f2 [] c2))),(21,.bJ (.is (.map m1))),(23,.bJ (.dz [.st,.st,.n .u64]))] [4,5] [] H
theorem Qi(m:Nat)(s:List UInt8)(h:J)(H:∃aY,fA ji (ak s.length) [ak 200]=some (ak aY)/\∃s1,gp an h 9 (.str s) none (some (ak aY)) none=some (.str s1)/\R (.ret (.str s1) h)):
  R (Y (m+1) (.fn 7) [.str s] h):=
 hq [] [] Tryd.func7 H
def jF(n b:Nat)(o:Option b2):List (I×Nat×List I)->J->Nat->J->Prop
 |[],h,r,g=>h.get b=o/\r=0/\g=h
 |x::l,h,r,g=>h.get b=o/\∃e h1,Y n (.fn x.2.1) x.2.2 h=.ret (ak e) h1/\((e≠0/\r=e/\g=h1)\/(e=0/\jF n b o l h1 r g))
def Qj(x:I×Nat×List I):Prop:=(∃p,x.1=.fn x.2.1 [.ptr p 0] []/\x.2.2=[.ptr p 0])\/x.1=.fn x.2.1 [] x.2.2
theorem yU(m b:Nat){cp:cy}{h g:J}{l:List (I×Nat×List I)}{r:Nat}{el:TypeId}(aN:jF m b (some (av (l.map (·.1)) el)) l h r g)(aI:∀x∈l,Qj x)(aq:l.length<=10):Y (m+1) (.fn 27) [.slice b 0 l.length cp] h=.ret (ak r) g:=by
 refine Qe m b l.length cp h (R:=λx=>x=.ret (ak r) g) ?_
 refine q9 (λk st=>∃i y Γ,st=lg Γ y/\eu [(6,.slice b 0 l.length cp),(7,ak l.length),(8,ak i)] Γ/\l.length-i=k/\i<=l.length/\jF m b (some (av (l.map (·.1)) el)) (l.drop i) y r g) ?_ l.length _ (by omega) ⟨0,h,_,rfl,⟨rfl,rfl,rfl,trivial⟩,by omega,by omega,aN⟩
 rintro k st ⟨i,y,Γ,rfl,gA,hk,ag,aH⟩
 by_cases i1:i<l.length
 · rw[List.drop_eq_getElem_cons i1,jF] at aH
   obtain⟨Qk,e,h1,ab,al⟩:=aH
   have jX:aO y b (0+i*1)=some l[i].1:=by
    refine Nl Qk ?_
    rw[Nat.zero_add,Nat.mul_one,List.getElem?_map,List.getElem?_eq_getElem i1];rfl
   have go:∀(n4:¬i<l.length->False),(e=0->i+1<9223372036854775808/\∃j,j<k/\∃i2 eS gj,aQ.mk [(6,.slice b 0 l.length cp),(7,ak l.length),(8,ak (i+1))] [] .none h1=lg gj eS/\eu [(6,.slice b 0 l.length cp),(7,ak l.length),(8,ak i2)] gj/\l.length-i2=j/\i2<=l.length/\jF m b (some (av (l.map (·.1)) el)) (l.drop i2) eS r g):=λ_ dg=>by
    rcases al with⟨ai,_⟩|⟨_,ai⟩
    · exact absurd dg ai
    · exact⟨by omega,_,(by show _<k;omega),i+1,h1,_,rfl,⟨rfl,rfl,rfl,trivial⟩,rfl,by omega,ai⟩
   have stop:¬e=0->r=e/\g=h1:=λdg=>by
    rcases al with⟨_,h1,aa⟩|⟨ai,_⟩
    · exact⟨h1,aa⟩
    · exact absurd ai dg
   rcases aI _ (List.getElem_mem i1) with⟨p,v1,v2⟩|v1
   · rw[v1] at jX
     rw[v2] at ab
     exact iN (Qf _ b l.length i l[i].2.1 p cp y ⟨λ_=>⟨i1,jX,e,h1,ab,λdg=>go (λh=>h i1) dg,λdg=>.inr ⟨e,h1,_,rfl,rfl,⟨rfl,trivial⟩,by rw[(stop dg).1,(stop dg).2]⟩⟩,λh=>absurd i1 h⟩) gA
   · rw[v1] at jX
     exact iN (HV _ b l.length i l[i].2.1 l[i].2.2 cp y ⟨λ_=>⟨i1,jX,e,h1,ab,λdg=>go (λh=>h i1) dg,λdg=>.inr ⟨e,h1,_,rfl,rfl,⟨rfl,trivial⟩,by rw[(stop dg).1,(stop dg).2]⟩⟩,λh=>absurd i1 h⟩) gA
 · have n4:i=l.length:=by omega
   rw[List.drop_eq_nil_of_le (by omega),jF] at aH
   obtain⟨_,ah,aj⟩:=aH
   exact iN (HV _ b l.length i 0 [] cp y ⟨λh=>absurd h i1,λ_=>.inl ⟨y,_,rfl,rfl,trivial,by rw[ah,aj]⟩⟩) gA
theorem yV(m p:Nat)(h:J):Y (m+1) (.fn 28) [.ptr p 0] h=.ret (ak 0) h:=PH m p h (R:=λx=>x=.ret (ak 0) h) rfl
theorem Ql(m c:Nat){h:J}{t:a1}(ab:aO h c 0=some (.str t)):Y (m+1) (.fn 26) [.ptr c 0] h=.ret (ak (if t.length<=4096 then 0 else 3)) h:=by
 refine PR m c h (R:=λx=>x=.ret (ak (if t.length<=4096 then 0 else 3)) h) ⟨t,ab,λaq=>?_,λaq=>?_⟩
 · rw[if_neg (by omega)]
 · rw[if_pos (by omega)]
def tn(cl:a1->Option a1):Prop:=∀(n:Nat) (s:a1) (h:J),20<=n->s.length<=10000->∃g,Y n (.fn 45) [.str s] h=.ret (.aF [.str ((cl s).getD []),ak (if(cl s).isSome then 0 else 6)]) g/\Ext h.n h g
theorem vR(m:Nat){cl:a1->Option a1}(ab:tn cl){h:J}{c a:Nat}{s:a1}(hm:20<=m)(aq:s.length<=10000)(ay:aO h c 0=some (.ptr a 0))(aH:h.get a=some (av [.str s] 9))(aB:c<h.n/\a<h.n):
  ∃g,Y (m+1) (.fn 44) [.ptr c 0] h=.ret (ak (if(cl s).isSome then 0 else 6)) g/\h.n<=g.n/\(∀d,d<h.n->d≠a->g.get d=h.get d)/\g.get a=some (av [.str ((cl s).getD [])] 9):=by
 obtain⟨fY,jo⟩:=aB
 have ek:Ext h.n h (h.room 11):=Ext.room _ _ _
 obtain⟨g1,c1,dq⟩:=ab m s (h.room 11) hm aq
 have s9:Ext h.n h g1:=ek.trans ek.n dq
 have eF:∀{g:J},Ext h.n h g->aO g c 0=some (.ptr a 0):=λ{g} x=>by
  have:=x.get c fY
  unfold aO at ay⊢
  rw[this];exact ay
 have bl:=(s9.get a jo).trans aH
 obtain⟨g2,hs⟩:∃g,g=g1.set a (some (av [.str ((cl s).getD [])] 9)):=⟨_,rfl⟩
 refine⟨g2,PJ m c a h (R:=λy=>y=.ret (ak (if(cl s).isSome then 0 else 6)) g2) ⟨eF ek,eF ek,s,ld1 (h:=h.room 11) aH rfl,_,_,g1,c1,g2,by rw[hs];exact iM bl rfl rfl,eF s9,rfl⟩,by rw[hs];exact s9.n,λd al cj=>by rw[hs];exact(dt cj rfl).trans (s9.get d al),by rw[hs];exact fw rfl⟩
theorem vS(m a:Nat)(h:J):Y (m+1) (.fn 29) [.ptr a 0] h=.ret (.fn 44 [] [.ptr h.n 0]) (h.push (av [.ptr a 0] 69)):=
 PI m a h (R:=λx=>x=.ret (.fn 44 [] [.ptr h.n 0]) (h.push (av [.ptr a 0] 69))) rfl
theorem Qm(m p a:Nat)(t:a1)(h:J):Y (m+1) (.fn 30) [.ptr p 0,.ptr a 0,.str t] h=.ret (.fn 46 [] [.ptr h.n 0,.ptr (h.n+1) 0,.ptr (h.n+2) 0]) (((h.push (av [.ptr p 0] 26)).push (av [.ptr a 0] 69)).push (av [.str t] 9)):=
 PM m p a t h (R:=λx=>x=.ret (.fn 46 [] [.ptr h.n 0,.ptr (h.n+1) 0,.ptr (h.n+2) 0]) (((h.push (av [.ptr p 0] 26)).push (av [.ptr a 0] 69)).push (av [.str t] 9))) rfl
theorem yW(m p a e:Nat)(b:Bool)(h:J):Y (m+1) (.fn 32) [.ptr p 0,.ptr a 0,.bool b,ak e] h=.ret (.fn 47 [] [.ptr h.n 0,.ptr (h.n+1) 0,.ptr (h.n+2) 0,.ptr (h.n+3) 0]) ((((h.push (av [.ptr p 0] 26)).push (av [.ptr a 0] 69)).push (av [.bool b] 4)).push (av [ak e] 34)):=
 PK m p a e b h (R:=λx=>x=.ret (.fn 47 [] [.ptr h.n 0,.ptr (h.n+1) 0,.ptr (h.n+2) 0,.ptr (h.n+3) 0]) ((((h.push (av [.ptr p 0] 26)).push (av [.ptr a 0] 69)).push (av [.bool b] 4)).push (av [ak e] 34))) rfl
end Go.Proofs.h3
