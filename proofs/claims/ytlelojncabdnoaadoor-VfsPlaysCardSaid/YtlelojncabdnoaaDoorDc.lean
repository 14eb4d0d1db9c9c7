/-
  PROVED HERE: contracts of functions (Dc). No condition beside each statement's own.
-/
import Derived.Test.YtlelojncabdnoaaDoorDb
set_option linter.unusedVariables false
set_option linter.unusedSimpArgs false
set_option maxRecDepth 100000
set_option maxHeartbeats 1000000
namespace Go.Proofs.hD
open Go aS Go.Proofs
variable {Q:aU->aB->Prop} {R:bM->Prop} (call:cJ)
theorem Q7(m:Nat)(a b c:Int)(d e:Nat)(h:J)(H:∃bS:Int,∃z2:Int,∃z3:Int,∃aE a_,aS.loadCells (J.push h (ay [.int .i64 a,.int .i64 b,.int .i64 c,aK d,aK e] 24)) h.n 0 5=some [.int .i64 bS,.int .i64 z2,.int .i64 z3,aK aE,aK a_]/\I.ca (.int .i64 bS)=true/\I.ca (.int .i64 z2)=true/\I.ca (.int .i64 z3)=true/\I.ca (.int .i64 bS)=true/\I.ca (.int .i64 z2)=true/\I.ca (.int .i64 z3)=true/\R (.ret (.ptr (J.n (J.push (J.push (J.push h (ay [.int .i64 a,.int .i64 b,.int .i64 c,aK d,aK e] 24)) (.map [] 0)) (.map [] 0))) 0) (J.push (J.push (J.push (J.push h (ay [.int .i64 a,.int .i64 b,.int .i64 c,aK d,aK e] 24)) (.map [] 0)) (.map [] 0)) (ay [.int .i64 bS,.int .i64 z2,.int .i64 z3,aK aE,aK a_,.map (J.n (J.push h (ay [.int .i64 a,.int .i64 b,.int .i64 c,aK d,aK e] 24))),.map (J.n (J.push (J.push h (ay [.int .i64 a,.int .i64 b,.int .i64 c,aK d,aK e] 24)) (.map [] 0))),ai 0] 59)))):
  R (Y (m+1) (.fn 6) [.agg [.int .i64 a,.int .i64 b,.int .i64 c,aK d,aK e]] h):=
 HJ [(3,.aY (.c6 [.z .i64,.z .i64,.z .i64,.n .u64,.n .u64]))] [(0,.c6 [.v (.int .i64 a),.v (.int .i64 b),.v (.int .i64 c),.v (aK d),.v (aK e)])] Tryd.func6 H
theorem Q8(m p:Nat)(h:J)(H:R (.ret (ai 0) h)):
  R (Y (m+1) (.fn 28) [aq p] h):=
 fv [] [] Tryd.func28 H
theorem Q9(m a:Nat)(h:J)(H:R (.ret (.fn 44 [] [aq h.n]) (J.push h (ay [aq a] 69)))):
  R (Y (m+1) (.fn 29) [aq a] h):=
 fv [] [] Tryd.func29 H
theorem Q_(m c a:Nat)(h:J)(H:aO (h.room 11) c 0=some (aq a)/\aO (h.room 11) c 0=some (aq a)/\∃s1,aO (h.room 11) a 0=some (.str s1)/\∃s2 aE g1,Y m (.fn 45) [.str s1] (h.room 11)=.ret (.aF [.str s2,ai aE]) g1/\∃g2,aS.storeCells g1 a 0 [.str s2]=some g2/\aO g1 c 0=some (aq a)/\R (.ret (ai aE) g2)):
  R (Y (m+1) (.fn 44) [aq c] h):=
 fv [(3,.aY (.is (aq a))),(4,.aY (.is (aq a))),(2,.aY (.dw [.st,.n .i64])),(7,.aY (.dw [.st,.n .i64]))] [] Tryd.func44 H
theorem Ra(m p a e:Nat)(b:Bool)(h:J)(H:R (.ret (.fn 47 [] [aq h.n,.ptr (J.n (J.push h (ay [aq p] 26))) 0,.ptr (J.n (J.push (J.push h (ay [aq p] 26)) (ay [aq a] 69))) 0,.ptr (J.n (J.push (J.push (J.push h (ay [aq p] 26)) (ay [aq a] 69)) (ay [.bool b] 4))) 0]) (J.push (J.push (J.push (J.push h (ay [aq p] 26)) (ay [aq a] 69)) (ay [.bool b] 4)) (ay [ai e] 34)))):
  R (Y (m+1) (.fn 32) [aq p,aq a,.bool b,ai e] h):=
 fv [] [] Tryd.func32 H
theorem Rb(m c0 c1 c2 c3 p a m1:Nat)(h:J)(H:aO (h.room 14) c0 0=some (aq p)/\aO (h.room 14) p 5=some (.map m1)/\aO (h.room 14) c1 0=some (aq a)/\∃s1,aO (h.room 14) a 0=some (.str s1)/\∃s2 bz aE ck,hF al (h.room 14) 57 (.map m1) (.str s1) true=some (.aF [.agg [.str s2,.str bz,aK aE],.bool ck])/\∃g1,aS.storeCells (J.set (h.room 14) (h.n+11) (some (ay [.str [],.str [],aK 0] 40))) (h.n+11) 0 [.str s2,.str bz,aK aE]=some g1/\aO (J.set (h.room 14) (h.n+11) (some (ay [.str [],.str [],aK 0] 40))) c0 0=some (aq p)/\aO (J.set (h.room 14) (h.n+11) (some (ay [.str [],.str [],aK 0] 40))) p 5=some (.map m1)/\aO (J.set (h.room 14) (h.n+11) (some (ay [.str [],.str [],aK 0] 40))) c1 0=some (aq a)/\aO (J.set (h.room 14) (h.n+11) (some (ay [.str [],.str [],aK 0] 40))) a 0=some (.str s1)/\hF al (J.set (h.room 14) (h.n+11) (some (ay [.str [],.str [],aK 0] 40))) 57 (.map m1) (.str s1) true=some (.aF [.agg [.str s2,.str bz,aK aE],.bool ck])/\∃cn,aO g1 c2 0=some (.bool cn)/\(qy ck cn=true->R (.ret (ai 0) g1))/\(qy ck cn=false->∃a_,aO g1 c3 0=some (ai a_)/\R (.ret (ai a_) g1))):
  R (Y (m+1) (.fn 47) [aq c0,aq c1,aq c2,aq c3] h):=
 fv [(8,.aY (.is (aq p))),(11,.aY (.is (.map m1))),(12,.aY (.is (aq a))),(15,.aY (.dw [.c6 [.st,.st,.n .u64],.b])),(7,.aY (.dw [.c6 [.st,.st,.n .u64],.b]))] [] Tryd.func47 H
theorem Rc(m p a:Nat)(s:List UInt8)(h:J)(H:R (.ret (.fn 46 [] [aq h.n,.ptr (J.n (J.push h (ay [aq p] 26))) 0,.ptr (J.n (J.push (J.push h (ay [aq p] 26)) (ay [aq a] 69))) 0]) (J.push (J.push (J.push h (ay [aq p] 26)) (ay [aq a] 69)) (ay [.str s] 9)))):
  R (Y (m+1) (.fn 30) [aq p,aq a,.str s] h):=
 fv [] [] Tryd.func30 H
theorem Re(m c0 c1 c2 p a m1:Nat)(h:J)(H:aO h c0 0=some (aq p)/\aO h p 5=some (.map m1)/\∃aE,fO al h 57 (.map m1)=some (ai aE)/\aO (h.room 14) c0 0=some (aq p)/\aO (h.room 14) p 5=some (.map m1)/\aO (h.room 14) c1 0=some (aq a)/\∃s1,aO (h.room 14) a 0=some (.str s1)/\∃s2 bz a_ ck,hF al (h.room 14) 57 (.map m1) (.str s1) true=some (.aF [.agg [.str s2,.str bz,aK a_],.bool ck])/\∃g1,aS.storeCells (J.set (h.room 14) (h.n+11) (some (ay [.str [],.str [],aK 0] 40))) (h.n+11) 0 [.str s2,.str bz,aK a_]=some g1/\aO (J.set (h.room 14) (h.n+11) (some (ay [.str [],.str [],aK 0] 40))) c0 0=some (aq p)/\aO (J.set (h.room 14) (h.n+11) (some (ay [.str [],.str [],aK 0] 40))) p 5=some (.map m1)/\aO (J.set (h.room 14) (h.n+11) (some (ay [.str [],.str [],aK 0] 40))) c1 0=some (aq a)/\aO (J.set (h.room 14) (h.n+11) (some (ay [.str [],.str [],aK 0] 40))) a 0=some (.str s1)/\hF al (J.set (h.room 14) (h.n+11) (some (ay [.str [],.str [],aK 0] 40))) 57 (.map m1) (.str s1) true=some (.aF [.agg [.str s2,.str bz,aK a_],.bool ck])/\(ck=true->aO (g1.room 27) c0 0=some (aq p)/\∃bS:Int,aO (g1.room 27) p 0=some (.int .i64 bS)/\∃z2:Int,gX jZ (.int .i64 bS) [ai 64]=some (.int .i64 z2)/\(eC z2 (.ofNat aE)=true->I.sound (.int .i64 bS)=true/\I.sound (.int .i64 z2)=true/\R (.ret (ai 7) (g1.room 27)))/\(eC z2 (.ofNat aE)=false->aO (g1.room 27) c0 0=some (aq p)/\∃bZ,aO (g1.room 27) p 7=some (ai bZ)/\∃bT,aO (g1.room 27) (h.n+11) 1=some (.str bT)/\(List.length bT<=bZ/\bZ<9223372036854775808)/\∃b0,aO (g1.room 27) c2 0=some (.str b0)/\bZ-List.length bT+List.length b0<9223372036854775808/\aO (g1.room 27) c0 0=some (aq p)/\∃z3:Int,aO (g1.room 27) p 1=some (.int .i64 z3)/\I.sound (.int .i64 bS)=true/\I.sound (.int .i64 z2)=true/\I.sound (.int .i64 z3)=true/\(eC z3 (.ofNat (bZ-List.length bT+List.length b0))=true->R (.ret (ai 7) (g1.room 27)))/\(eC z3 (.ofNat (bZ-List.length bT+List.length b0))=false->R (.ret (ai 0) (g1.room 27)))))/\(ck=false->aE+1<9223372036854775808/\aO (g1.room 27) c0 0=some (aq p)/\∃z4:Int,aO (g1.room 27) p 0=some (.int .i64 z4)/\∃z5:Int,gX jZ (.int .i64 z4) [ai 64]=some (.int .i64 z5)/\(eC z5 (.ofNat (aE+1))=true->I.sound (.int .i64 z4)=true/\I.sound (.int .i64 z5)=true/\R (.ret (ai 7) (g1.room 27)))/\(eC z5 (.ofNat (aE+1))=false->aO (g1.room 27) c0 0=some (aq p)/\∃cG,aO (g1.room 27) p 7=some (ai cG)/\∃cC,aO (g1.room 27) (h.n+11) 1=some (.str cC)/\(List.length cC<=cG/\cG<9223372036854775808)/\∃cY,aO (g1.room 27) c2 0=some (.str cY)/\cG-List.length cC+List.length cY<9223372036854775808/\aO (g1.room 27) c0 0=some (aq p)/\∃ly:Int,aO (g1.room 27) p 1=some (.int .i64 ly)/\I.sound (.int .i64 z4)=true/\I.sound (.int .i64 z5)=true/\I.sound (.int .i64 ly)=true/\(eC ly (.ofNat (cG-List.length cC+List.length cY))=true->R (.ret (ai 7) (g1.room 27)))/\(eC ly (.ofNat (cG-List.length cC+List.length cY))=false->R (.ret (ai 0) (g1.room 27)))))):
  R (Y (m+1) (.fn 46) [aq c0,aq c1,aq c2] h):=
 fv [(7,.aY (.is (aq p))),(10,.aY (.is (.map m1))),(13,.aY (.is (aq p))),(16,.aY (.is (.map m1))),(17,.aY (.is (aq a))),(20,.aY (.dw [.c6 [.st,.st,.n .u64],.b])),(12,.aY (.dw [.c6 [.st,.st,.n .u64],.b])),(28,.aY (.is (aq p))),(32,.aY (.z .i64)),(33,.aY (.z .i64)),(36,.aY (.is (aq p))),(47,.aY (.is (aq p))),(51,.aY (.z .i64))] [] Tryd.func46 H
theorem Rf(m p m1 m2:Nat)(s t:List UInt8)(h:J)(H:∃aE,aO (h.room 19) p 7=some (ai aE)/\aO (h.room 19) p 5=some (.map m1)/\∃s1 s2 a_,hF al (h.room 19) 57 (.map m1) (.str s) false=some (.agg [.str s1,.str s2,aK a_])/\∃bS:Int,arith .sub .i64 (.ofNat t.length) (.ofNat s2.length)=some (.int .i64 bS)/\∃bZ,arith .add .i64 (.ofNat aE) bS=some (ai bZ)/\∃g1,aS.storeCells (h.room 19) p 7 [ai bZ]=some g1/\I.sound (.int .i64 bS)=true/\aO g1 p 6=some (.map m2)/\∃cG,hF al g1 28 (.map m2) (.str s) false=some (aK cG)/\cG+1<18446744073709551616/\∃g2,(lG al g1 28 (.map m2) (.str s) (aK (cG+1))=some g2/\I.aF []=.aF [])/\aO (g2.room 15) p 5=some (.map m1)/\aO (g2.room 15) p 6=some (.map m2)/\∃eg,hF al (g2.room 15) 28 (.map m2) (.str s) false=some (aK eg)/\∃g3,(lG al (g2.room 15) 57 (.map m1) (.str s) (.agg [.str s,.str t,aK eg])=some g3/\I.aF []=.aF [])/\aO g3 p 6=some (.map m2)/\∃n6,hF al g3 28 (.map m2) (.str s) false=some (aK n6)/\R (.ret (aK n6) g3)):
  R (Y (m+1) (.fn 31) [aq p,.str s,.str t] h):=
 fv [(16,.aY (.is (.map m1))),(35,.aY (.is (.map m1))),(28,.aY (.is (.map m2))),(42,.aY (.is (.map m2))),(49,.aY (.is (.map m2))),(18,.aY (.c6 [.st,.st,.n .u64])),(21,.aY (.z .i64)),(22,.aY (.n .i64)),(30,.aY (.n .u64)),(44,.aY (.n .u64)),(51,.aY (.n .u64))] [] Tryd.func31 H
theorem Rg(m p m1:Nat)(s:List UInt8)(h:J)(H:aO h p 5=some (.map m1)/\∃s1 s2 aE,hF al h 57 (.map m1) (.str s) false=some (.agg [.str s1,.str s2,aK aE])/\∃a_,aO h p 7=some (ai a_)/\(List.length s2<=a_/\a_<9223372036854775808)/\∃g1,aS.storeCells h p 7 [ai (a_-List.length s2)]=some g1/\aO g1 p 5=some (.map m1)/\∃g2,q1 al g1 57 (.map m1) (.str s)=some (.aF [],g2)/\R (.ret (.str s2) g2)):
  R (Y (m+1) (.fn 33) [aq p,.str s] h):=
 fv [(9,.aY (.is (.map m1))),(25,.aY (.is (.map m1))),(11,.aY (.c6 [.st,.st,.n .u64]))] [] Tryd.func33 H
theorem Rh(m c:Nat)(h:J)(H:∃s1,aO h c 0=some (.str s1)/\(4096<List.length s1->R (.ret (ai 3) h))/\(¬4096<List.length s1->R (.ret (ai 0) h))):
  R (Y (m+1) (.fn 26) [aq c] h):=
 fv [] [] Tryd.func26 H
theorem Ri(m p:Nat)(h:J)(H:∃aE,aO h p 7=some (ai aE)/\R (.ret (ai aE) h)):
  R (Y (m+1) (.fn 15) [aq p] h):=
 fv [] [] Tryd.func15 H
theorem Rj(m p m1:Nat)(h:J)(H:aO h p 5=some (.map m1)/\∃v1 g1,Y m (.fn 23) [.map m1] h=.ret v1 g1/\∃v2 g2,Y m (.fn 22) [v1,.fn 24 [] []] g1=.ret v2 g2/\R (.ret v2 g2)):
  R (Y (m+1) (.fn 8) [aq p] h):=
 fv [(8,.aY (.is (.map m1))),(9,.aY .o),(10,.aY .o)] [] Tryd.func8 H
abbrev po(f:bV):I:=.agg (cW f)
abbrev uw(n:Nat):I:=aK n
structure cT where
 a:Int
 b:Int
 c:Int
 d:Nat
 e:Nat
def sN(q:cT)(m1 m2 dF:Nat):b8:=ay [.int .i64 q.a,.int .i64 q.b,.int .i64 q.c,aK q.d,aK q.e,.map m1,.map m2,ai dF] 59
structure wY(F:Nat->Prop)(h:J)(p m1 m2 c1 c2:Nat)(q:cT)(dF:Nat)(A:List (dz bV))(T:List (dz Nat)):Prop where
 st:h.get p=some (sN q m1 m2 dF)
 f1:h.get m1=some (.map (A.map (fw po)) c1)
 f2:h.get m2=some (.map (T.map (fw uw)) c2)
 aE:(A.map (·.k)).Nodup
 a_:(T.map (·.k)).Nodup
 jg:∀x∈A,x.v.p=x.k
 sO:(∀x∈A,x.born<c1)/\(A.map (·.born)).Nodup
 fs:(∀x∈T,x.born<c2)/\(T.map (·.born)).Nodup
 up:p<h.n/\m1<h.n/\m2<h.n
 ne:p≠m1/\p≠m2/\m1≠m2
 cx:¬F p/\¬F m1/\¬F m2
def dL(F:Nat->Prop)(h:J)(p:Nat)(q:cT)(s:cj):Prop:=∃m1 m2 c1 c2 dF A T,wY F h p m1 m2 c1 c2 q dF A T/\s.nL=q.a/\s.nM=q.b/\s.ax=A.map (·.v)/\s.ts=T.map (λx=>(x.k,x.v))/\s.e1=Int.ofNat dF
theorem wY.move{F G:Nat->Prop}{h g:J}{p m1 m2 c1 c2:Nat}{q:cT}{dF:Nat}{A:List (dz bV)}{T:List (dz Nat)}(w:wY F h p m1 m2 c1 c2 q dF A T)(aC:h.n<=g.n)(hk:∀d,d<h.n->¬F d->g.get d=h.get d)(lf:∀d,d<h.n->G d->F d):wY G g p m1 m2 c1 c2 q dF A T:=by
 obtain⟨eF,fG,jT⟩:=w.up
 obtain⟨ba,bH,dv⟩:=w.cx
 exact⟨(hk p eF ba).trans w.st,(hk m1 fG bH).trans w.f1,(hk m2 jT dv).trans w.f2,w.aE,w.a_,w.jg,w.sO,w.fs,⟨by omega,by omega,by omega⟩,w.ne,⟨λh=>ba (lf p eF h),λh=>bH (lf m1 fG h),λh=>dv (lf m2 jT h)⟩⟩
theorem dL.move{F G:Nat->Prop}{h g:J}{p:Nat}{q:cT}{s:cj}(w:dL F h p q s)(aC:h.n<=g.n)(hk:∀d,d<h.n->¬F d->g.get d=h.get d)(lf:∀d,d<h.n->G d->F d):dL G g p q s:=by
 obtain⟨m1,m2,c1,c2,dF,A,T,w,r⟩:=w
 exact⟨m1,m2,c1,c2,dF,A,T,w.move aC hk lf,r⟩
theorem dL.ext{F:Nat->Prop}{h g:J}{p:Nat}{q:cT}{s:cj}(w:dL F h p q s)(x:Ext h.n h g):dL F g p q s:=w.move x.n (λd ak _=>x.get d ak) λ_ _ h=>h
theorem Rk(m:Nat){F:Nat->Prop}{h:J}(q:cT)(kh:∀d,F d->d<h.n):∃g p,Y (m+1) (.fn 6) [.agg [.int .i64 q.a,.int .i64 q.b,.int .i64 q.c,aK q.d,aK q.e]] h=.ret (.ptr p 0) g/\dL F g p q ⟨q.a,q.b,[],[],0⟩/\Ext h.n h g:=by
 obtain⟨h1,av⟩:∃x,x=h.push (ay [.int .i64 q.a,.int .i64 q.b,.int .i64 q.c,aK q.d,aK q.e] 24):=⟨_,rfl⟩
 obtain⟨aa,au⟩:∃x,x=h1.push (.map [] 0):=⟨_,rfl⟩
 obtain⟨ao,bm⟩:∃x,x=aa.push (.map [] 0):=⟨_,rfl⟩
 obtain⟨aI,cN⟩:∃x,x=ao.push (sN q h1.n aa.n 0):=⟨_,rfl⟩
 have aE:h1.n=h.n+1:=by rw[av];rfl
 have a_:aa.n=h1.n+1:=by rw[au];rfl
 have bZ:ao.n=aa.n+1:=by rw[bm];rfl
 have cG:aI.n=ao.n+1:=by rw[cN];rfl
 refine⟨aI,ao.n,Q7 m q.a q.b q.c q.d q.e h (R:=λx=>x=.ret (.ptr ao.n 0) aI) ⟨q.a,q.b,q.c,q.d,q.e,ih (c8 rfl) rfl,rfl,rfl,rfl,rfl,rfl,rfl,by rw[cN,bm,au,av];rfl⟩,⟨h1.n,aa.n,0,0,0,[],[],⟨?_,?_,?_,by simp,by simp,(λx U=>by cases U),⟨(λx U=>by cases U),by simp⟩,⟨(λx U=>by cases U),by simp⟩,⟨by omega,by omega,by omega⟩,⟨by omega,by omega,by omega⟩,⟨λaf=>?_,λaf=>?_,λaf=>?_⟩⟩,rfl,rfl,rfl,rfl,rfl⟩,?_⟩
 · rw[cN];exact c8 rfl
 · rw[cN];refine ch (by omega) ?_;rw[bm];refine ch (by omega) ?_;rw[au];exact c8 rfl
 · rw[cN];refine ch (by omega) ?_;rw[bm];exact c8 rfl
 · have:=kh _ af;omega
 · have:=kh _ af;omega
 · have:=kh _ af;omega
 · rw[cN];refine Ext.qt (by omega) ?_;rw[bm];refine Ext.qt (by omega) ?_;rw[au];refine Ext.qt (by omega) ?_;rw[av];exact Ext.push (Nat.le_refl _) _
theorem Rl(m:Nat){F:Nat->Prop}{h:J}{p:Nat}{q:cT}{s:cj}(w:dL F h p q s):Y (m+1) (.fn 15) [.ptr p 0] h=.ret (.int .i64 s.e1) h:=by
 obtain⟨m1,m2,c1,c2,dF,A,T,w,_,_,_,_,ae⟩:=w
 rw[ae]
 exact Ri m p h (R:=λx=>x=.ret (ai dF) h) ⟨dF,ld1 w.st rfl,rfl⟩
theorem qP:al.underlying 57=some (.map 9 40):=by kernel_rfl
theorem zF:al.underlying 28=some (.map 9 22):=by kernel_rfl
theorem IE:ek al 40=some (.agg [.str [],.str [],aK 0]):=by kernel_rfl
theorem Rm:ek al 22=some (aK 0):=by kernel_rfl
structure jh(F:Nat->Prop)(h g:J):Prop where
 n:h.n<=g.n
 get:∀d,d<h.n->F d->g.get d=h.get d
theorem De{A:List (dz bV)}(hk:∀x∈A,x.v.p=x.k){p:bf}{f:bV}(h:cM (A.map (·.v)) p=some f):∃x∈A,x.v=f/\x.k=p:=by
 obtain⟨h1,aa⟩:=lx h
 obtain⟨x,U,rfl⟩:=List.mem_map.1 h1
 exact⟨x,U,rfl,(hk x U).symm.trans aa⟩
theorem IF{A:List (dz bV)}(hk:∀x∈A,x.v.p=x.k){p:bf}(h:cM (A.map (·.v)) p=none):∀x∈A,x.k≠p:=λx U e=>qN h x.v (List.mem_map.2 ⟨x,U,rfl⟩) ((hk x U).trans e)
theorem Rn{A:List (dz bV)}(hk:∀x∈A,x.v.p=x.k)(p:bf):dZ (A.map (·.v)) p=(A.filter λy=>!jf p y).map (·.v):=by
 unfold dZ
 rw[List.filter_map]
 congr 1
 refine List.filter_congr λx U=>?_
 show(!decide (x.v.p=p))=!jf p x
 unfold jf
 rw[hk x U]
 congr 1
 exact decide_eq_decide.2 eq_comm
theorem IG(m:Nat){F:Nat->Prop}{h:J}{p:Nat}{q:cT}{s:cj}{a:bf}{f:bV}(w:dL F h p q s)(ok:ir s)(ae:s.e1<=1000000000)(hf:cM s.ax a=some f):∃g,Y (m+1) (.fn 33) [.ptr p 0,.str a] h=.ret (.str f.x) g/\dL F g p q (d_ a s)/\jh F h g:=by
 obtain⟨m1,m2,c1,c2,dF,A,T,w,ba,bH,dv,dm,hN⟩:=w
 have qQ:=hf
 rw[dv] at qQ
 obtain⟨x,U,wZ,ux⟩:=De w.jg qQ
 have ar:dE s.ax a=f.x.length:=by unfold dE;rw[hf]
 have ad:=wW ok.dG a
 have kO:=ok.ia
 have hle:f.x.length<=dF:=by
  rw[hN] at kO
  simp only[Int.ofNat_eq_natCast] at kO
  omega
 have kB:dF<=1000000000:=by rw[hN] at ae;simp only[Int.ofNat_eq_natCast] at ae;omega
 obtain⟨av,au,bm⟩:=w.ne
 obtain⟨eF,fG,jT⟩:=w.up
 obtain⟨bt,bA,eU⟩:=w.cx
 obtain⟨g1,ew⟩:∃g,g=h.set p (some (sN q m1 m2 (dF-f.x.length))):=⟨_,rfl⟩
 obtain⟨g2,hZ⟩:∃g,g=g1.set m1 (some (.map ((A.filter λy=>!jf a y).map (fw po)) c1)):=⟨_,rfl⟩
 have Ro:g1.get m1=some (.map (A.map (fw po)) c1):=by rw[ew];exact(c9 (λe=>av e.symm) rfl).trans w.f1
 have c4:=wV qP w.f1 w.aE U false
 rw[ux] at c4
 have dl:=QX qP Ro w.aE U
 rw[ux,<-hZ] at dl
 have w0:g1.get p=some (sN q m1 m2 (dF-f.x.length)):=by rw[ew];exact e8 rfl
 refine⟨g2,Rg m p m1 a h (R:=λy=>y=.ret (.str f.x) g2) ⟨ld1 w.st rfl,f.p,f.x,f.n,by rw[c4,wZ];rfl,dF,ld1 w.st rfl,⟨hle,by omega⟩,g1,by rw[ew];exact gI w.st rfl (by rfl),ld1 w0 rfl,g2,dl,rfl⟩,⟨m1,m2,c1,c2,dF-f.x.length,A.filter λy=>!jf a y,T,⟨?_,?_,?_,?_,w.a_,λy aP=>w.jg y (List.mem_filter.1 aP).1,⟨λy aP=>w.sO.1 y (List.mem_filter.1 aP).1,w.sO.2.sublist (List.filter_sublist.map _)⟩,w.fs,?_,w.ne,w.cx⟩,ba,bH,?_,dm,?_⟩,⟨?_,λd ak kh=>?_⟩⟩
 · rw[hZ];exact(c9 av rfl).trans w0
 · rw[hZ];exact e8 rfl
 · rw[hZ,ew];exact(c9 (λe=>bm e.symm) rfl).trans ((c9 (λe=>au e.symm) rfl).trans w.f2)
 · exact w.aE.sublist (List.filter_sublist.map _)
 · rw[hZ,ew];exact⟨eF,fG,jT⟩
 · show dZ s.ax a=_
   rw[dv,Rn w.jg]
 · show s.e1-Int.ofNat (dE s.ax a)=_
   rw[hN,ar];simp only[Int.ofNat_eq_natCast];omega
 · rw[hZ,ew];exact Nat.le_refl _
 · rw[hZ,ew]
   exact(c9 (λe:d=m1=>bA (e▸kh)) rfl).trans (c9 (λe:d=p=>bt (e▸kh)) rfl)
theorem IH(z:Int)(h1:-9223372036854775808<=z)(aa:z<9223372036854775808):IntKind.wrap .i64 z=z:=by
 have au:(2:Int)^64=18446744073709551616:=by rfl
 have bm:(2:Int)^63=9223372036854775808:=by rfl
 simp only[IntKind.wrap,IntKind.bits,IntKind.signed,au,bm,Bool.true_and,decide_eq_true_eq,Nat.add_one_sub_one]
 by_cases aW:0<=z
 · have e:z %18446744073709551616=z:=by omega
   rw[e,if_neg (by show¬((2:Int)^63<=z);rw[bm];omega)]
 · have e:z %18446744073709551616=z+18446744073709551616:=by omega
   rw[e,if_pos (by show(2:Int)^63<=z+18446744073709551616;rw[bm];omega)]
   omega
def II(A:List (dz bV))(c:Nat)(f:bV):List (dz bV):=if A.any (λx=>decide (x.k=f.p)) then A.map (λy=>if y.k=f.p then⟨y.k,f,y.born⟩ else y) else A++[⟨f.p,f,c⟩]
def sf(T:List (dz Nat))(c:Nat)(p:bf)(n:Nat):List (dz Nat):=if T.any (λx=>decide (x.k=p)) then T.map (λy=>if y.k=p then⟨y.k,n,y.born⟩ else y) else T++[⟨p,n,c⟩]
theorem IJ{α:Type}{A:List (dz α)}{p:bf}:A.any (λx=>decide (x.k=p))=true<-> ∃x∈A,x.k=p:=by
 rw[List.any_eq_true]
 simp
theorem Rp{A:List (dz bV)}(hk:∀x∈A,x.v.p=x.k)(c:Nat)(f:bV):(II A c f).map (·.v)=iL (A.map (·.v)) f:=by
 have aJ:(A.map (·.v)).any (λg=>decide (g.p=f.p))=A.any (λx=>decide (x.k=f.p)):=by
  rw[List.any_map]
  apply Bool.eq_iff_iff.2
  rw[List.any_eq_true,List.any_eq_true]
  constructor
  · rintro⟨x,U,h⟩;exact⟨x,U,by rw[<-hk x U];exact h⟩
  · rintro⟨x,U,h⟩;exact⟨x,U,by show decide (x.v.p=f.p)=true;rw[hk x U];exact h⟩
 unfold II iL
 rw[aJ]
 split
 · rw[List.map_map,List.map_map]
   refine List.map_congr_left λx U=>?_
   show(if x.k=f.p then(⟨x.k,f,x.born⟩:dz bV) else x).v=if x.v.p=f.p then f else x.v
   rw[hk x U]
   split<;>rfl
 · simp
theorem Rq(T:List (dz Nat))(c:Nat)(p:bf)(n:Nat):(sf T c p n).map (λx=>(x.k,x.v))=e9 (T.map λx=>(x.k,x.v)) p n:=by
 have aJ:(T.map λx=>(x.k,x.v)).any (λg=>decide (g.1=p))=T.any (λx=>decide (x.k=p)):=by
  rw[List.any_map];rfl
 unfold sf e9
 rw[aJ]
 split
 · rw[List.map_map,List.map_map]
   refine List.map_congr_left λx U=>?_
   show((if x.k=p then(⟨x.k,n,x.born⟩:dz Nat) else x).k,(if x.k=p then(⟨x.k,n,x.born⟩:dz Nat) else x).v)=if x.k=p then(p,n) else(x.k,x.v)
   split
   · rename_i h;rw[h]
   · rfl
 · simp
theorem Rr{α:Type}{A:List (dz α)}{p:bf}{v:α}:(A.map λy=>if y.k=p then(⟨y.k,v,y.born⟩:dz α) else y).map (·.k)=A.map (·.k)/\(A.map λy=>if y.k=p then(⟨y.k,v,y.born⟩:dz α) else y).map (·.born)=A.map (·.born):=by
 constructor<;>rw[List.map_map]<;>refine List.map_congr_left λx _=>?_<;>show _=_<;>simp only[Function.comp]<;>split<;>rfl
theorem IK{T fq:TypeId}(hu:al.underlying T=some (.map 9 fq)){α:Type}{enc:α->I}{h:J}{m c:Nat}{M:List (dz α)}(hm:h.get m=some (.map (M.map (fw enc)) c))(a8:(M.map (·.k)).Nodup)(ae:(∀x∈M,x.born<c)/\(M.map (·.born)).Nodup)(p:bf)(v:α):
  ∃sP c',lG al h T (.map m) (.str p) (enc v)=some (h.set m (some (.map (sP.map (fw enc)) c')))/\sP=(if M.any (λx=>decide (x.k=p)) then M.map (λy=>if y.k=p then⟨y.k,v,y.born⟩ else y) else M++[⟨p,v,c⟩])/\(sP.map (·.k)).Nodup/\(∀x∈sP,x.born<c')/\(sP.map (·.born)).Nodup/\(∃x∈sP,x.k=p/\x.v=v)/\∀x∈sP,x∈M\/(x.k=p/\x.v=v):=by
 by_cases aJ:M.any (λx=>decide (x.k=p))=true
 · obtain⟨x,U,rfl⟩:=IJ.1 aJ
   obtain⟨bt,bA⟩:=Rr (A:=M) (p:=x.k) (v:=v)
   refine⟨_,c,QW hu hm a8 U v,by rw[if_pos aJ],by rw[bt];exact a8,λy aP=>?_,by rw[bA];exact ae.2,⟨⟨x.k,v,x.born⟩,List.mem_map.2 ⟨x,U,by rw[if_pos rfl]⟩,rfl,rfl⟩,λy aP=>?_⟩
   · obtain⟨z,aW,rfl⟩:=List.mem_map.1 aP
     have:=ae.1 z aW
     split<;>exact this
   · obtain⟨z,aW,rfl⟩:=List.mem_map.1 aP
     by_cases e:z.k=x.k
     · rw[if_pos e];exact .inr ⟨e,rfl⟩
     · rw[if_neg e];exact .inl aW
 · have aC:∀x∈M,x.k≠p:=λx U e=>aJ (IJ.2 ⟨x,U,e⟩)
   refine⟨_,c+1,QV hu hm aC v,by rw[if_neg aJ],?_,λy aP=>?_,?_,⟨⟨p,v,c⟩,by simp,rfl,rfl⟩,λy aP=>?_⟩
   · rw[List.map_append,List.nodup_append]
     refine⟨a8,by simp,λa lX b iC=>?_⟩
     obtain⟨x,U,rfl⟩:=List.mem_map.1 lX
     have:b=p:=by simpa using iC
     rw[this];exact aC x U
   · rcases List.mem_append.1 aP with aP|aP
     · have:=ae.1 y aP;omega
     · rw[List.mem_singleton.1 aP];exact Nat.lt_succ_self c
   · rw[List.map_append,List.nodup_append]
     refine⟨ae.2,by simp,λa lX b iC=>?_⟩
     obtain⟨x,U,rfl⟩:=List.mem_map.1 lX
     have:b=c:=by simpa using iC
     have:=ae.1 x U
     omega
   · rcases List.mem_append.1 aP with aP|aP
     · exact .inl aP
     · rw[List.mem_singleton.1 aP];exact .inr ⟨rfl,rfl⟩
theorem Rs{T:List (dz Nat)}(aC:(T.map (·.k)).Nodup){x:dz Nat}(U:x∈T):cE (T.map λx=>(x.k,x.v)) x.k=x.v:=by
 unfold cE
 have:(T.map λx=>(x.k,x.v)).find? (λf=>decide (f.1=x.k))=some (x.k,x.v):=by
  induction T with
  |nil=>cases U
  |cons y T bc=>
   rw[List.map_cons,List.nodup_cons] at aC
   rw[List.map_cons]
   by_cases h:y.k=x.k
   · have:y=x:=by
       rcases List.mem_cons.1 U with e|e
       · exact e.symm
       · exact absurd (List.mem_map.2 ⟨x,e,h.symm⟩) aC.1
     subst this
     rw[List.find?_cons_of_pos (by simp)]
   · rw[List.find?_cons_of_neg (by simpa using h)]
     rcases List.mem_cons.1 U with e|e
     · rw[e] at h;exact absurd rfl h
     · exact bc aC.2 e
 rw[this]
theorem Rt{T:List (dz Nat)}{p:bf}(aC:∀x∈T,x.k≠p):cE (T.map λx=>(x.k,x.v)) p=0:=by
 unfold cE
 have:(T.map λx=>(x.k,x.v)).find? (λf=>decide (f.1=p))=none:=List.find?_eq_none.2 λy aP=>by
  obtain⟨x,U,rfl⟩:=List.mem_map.1 aP
  simpa using aC x U
 rw[this]
theorem IL(m:Nat){F:Nat->Prop}{h:J}{p:Nat}{q:cT}{s:cj}{a t:bf}(w:dL F h p q s)(ok:ir s)(ae:s.e1<=1000000000)(ar:t.length<=1000000000)(bk:cE s.ts a<=1000000000):∃g,Y (m+1) (.fn 31) [.ptr p 0,.str a,.str t] h=.ret (aK (fg a t s).1) g/\dL F g p q (fg a t s).2/\jh F h g:=by
 obtain⟨m1,m2,c1,c2,dF,A,T,w,ba,bH,dv,dm,hN⟩:=w
 obtain⟨av,au,bm⟩:=w.ne
 obtain⟨eF,fG,jT⟩:=w.up
 obtain⟨bt,bA,eU⟩:=w.cx
 have ad:=wW ok.dG a
 have kO:=ok.ia
 have hle:dE s.ax a<=dF:=by
  rw[hN] at kO
  simp only[Int.ofNat_eq_natCast] at kO
  omega
 have kB:dF<=1000000000:=by rw[hN] at ae;simp only[Int.ofNat_eq_natCast] at ae;omega
 obtain⟨ck,cn,gx,fi,ev⟩:∃ck cn gx,hF al (h.room 19) 57 (.map m1) (.str a) false=some (.agg [.str ck,.str cn,aK gx])/\cn.length=dE s.ax a:=by
  cases hf:cM s.ax a with
  |none=>
   have qQ:=hf
   rw[dv] at qQ
   exact⟨[],[],0,Db (h:=h.room 19) qP IE w.f1 (IF w.jg qQ) false,by unfold dE;rw[hf];rfl⟩
  |some f=>
   have qQ:=hf
   rw[dv] at qQ
   obtain⟨x,U,wZ,ux⟩:=De w.jg qQ
   have c4:=wV (h:=h.room 19) qP w.f1 w.aE U false
   rw[ux] at c4
   exact⟨f.p,f.x,f.n,by rw[c4,wZ];rfl,by unfold dE;rw[hf]⟩
 obtain⟨lv,tk⟩:∃lv,lv=dF+t.length-dE s.ax a:=⟨_,rfl⟩
 obtain⟨g1,ew⟩:∃g,g=(h.room 19).set p (some (sN q m1 m2 lv)):=⟨_,rfl⟩
 have aE:g1.n=h.n+19:=by rw[ew];rfl
 have w0:g1.get p=some (sN q m1 m2 lv):=by rw[ew];exact e8 rfl
 have Df:g1.get m2=some (.map (T.map (fw uw)) c2):=by rw[ew];exact(c9 (λe=>au e.symm) rfl).trans w.f2
 have Ru:g1.get m1=some (.map (A.map (fw po)) c1):=by rw[ew];exact(c9 (λe=>av e.symm) rfl).trans w.f1
 have Rv:hF al g1 28 (.map m2) (.str a) false=some (aK (cE s.ts a)):=by
  rw[dm]
  by_cases U:∃x∈T,x.k=a
  · obtain⟨x,U,rfl⟩:=U
    rw[Rs w.a_ U]
    exact wV zF Df w.a_ U false
  · have aC:∀x∈T,x.k≠a:=λx C0 e=>U ⟨x,C0,e⟩
    rw[Rt aC]
    exact Db zF Rm Df aC false
 obtain⟨zG,pq,nP,Rw,IM,Rx,Ry,⟨y,aP,Rz,RA⟩,_⟩:=IK zF Df w.a_ w.fs a (cE s.ts a+1)
 obtain⟨g2,hZ⟩:∃g,g=g1.set m2 (some (.map (zG.map (fw uw)) pq)):=⟨_,rfl⟩
 rw[<-hZ] at nP
 have a_:g2.n=g1.n:=by rw[hZ];rfl
 have IN:g2.get m2=some (.map (zG.map (fw uw)) pq):=by rw[hZ];exact e8 rfl
 have oA:∀d,d≠m2->g2.get d=g1.get d:=λd ak=>by rw[hZ];exact c9 ak rfl
 have Dg:=(oA p au).trans w0
 have IP:∀{g:J},g.get m2=some (.map (zG.map (fw uw)) pq)->hF al g 28 (.map m2) (.str a) false=some (aK (cE s.ts a+1)):=λ{g} an=>by
  have:=wV zF an IM aP false
  rw[Rz] at this
  rw[this,RA];rfl
 have RB:(g2.room 15).get m1=some (.map (A.map (fw po)) c1):=(oA m1 bm).trans Ru
 obtain⟨IQ,IS,IT,RC,RD,RE,RF,_,RG⟩:=IK qP RB w.aE w.sO a (⟨a,t,cE s.ts a+1⟩:bV)
 obtain⟨g3,qe⟩:∃g,g=(g2.room 15).set m1 (some (.map (IQ.map (fw po)) IS)):=⟨_,rfl⟩
 rw[<-qe] at IT
 have bZ:g3.n=g2.n+15:=by rw[qe];rfl
 have jB:∀d,d≠m1->g3.get d=g2.get d:=λd ak=>by rw[qe];exact c9 ak rfl
 have IU:=(jB p av).trans Dg
 have IV:=(jB m2 λe=>bm e.symm).trans IN
 refine⟨g3,Rf m p m1 m2 a t h (R:=λy=>y=.ret (aK (cE s.ts a+1)) g3) ⟨dF,ld1 (h:=h.room 19) w.st rfl,ld1 (h:=h.room 19) w.st rfl,ck,cn,gx,fi,Int.ofNat t.length-Int.ofNat cn.length,?_,lv,?_,g1,by rw[ew];exact gI (h:=h.room 19) w.st rfl (by rfl),rfl,ld1 w0 rfl,cE s.ts a,Rv,by omega,g2,⟨nP,rfl⟩,ld1 (h:=g2.room 15) Dg rfl,ld1 (h:=g2.room 15) Dg rfl,cE s.ts a+1,IP (g:=g2.room 15) IN,g3,⟨IT,rfl⟩,ld1 IU rfl,cE s.ts a+1,IP IV,rfl⟩,⟨m1,m2,IS,pq,lv,IQ,zG,⟨IU,by rw[qe];exact e8 rfl,IV,RD,IM,λx U=>?_,⟨RE,RF⟩,⟨Rx,Ry⟩,⟨by omega,by omega,by omega⟩,w.ne,w.cx⟩,ba,bH,?_,?_,?_⟩,⟨by omega,λd ak kh=>?_⟩⟩
 · rw[OM,IH _ (by simp only[Int.ofNat_eq_natCast];omega) (by simp only[Int.ofNat_eq_natCast];omega)]
 · show some (I.int .i64 (IntKind.i64.wrap (Int.ofNat dF+(Int.ofNat t.length-Int.ofNat cn.length))))=some (ai lv)
   rw[IH _ (by simp only[Int.ofNat_eq_natCast];omega) (by simp only[Int.ofNat_eq_natCast];omega),tk]
   congr 2
   simp only[Int.ofNat_eq_natCast]
   omega
 · rcases RG x U with h|⟨h1,aa⟩
   · exact w.jg x h
   · rw[h1,aa]
 · show iL s.ax ⟨a,t,cE s.ts a+1⟩=_
   rw[dv,<-Rp w.jg c1,RC];rfl
 · show e9 s.ts a (cE s.ts a+1)=_
   rw[Rw,dm,<-Rq T c2];rfl
 · show s.e1+(Int.ofNat t.length-Int.ofNat (dE s.ax a))=_
   rw[hN,tk];simp only[Int.ofNat_eq_natCast];omega
 · exact(jB d λe=>bA (e▸kh)).trans ((oA d λe=>eU (e▸kh)).trans (by rw[ew];exact c9 (λe:d=p=>bt (e▸kh)) rfl))
theorem Dh{F:Nat->Prop}{h:J}{p m1 m2 c1 c2 dF:Nat}{q:cT}{A:List (dz bV)}{T:List (dz Nat)}(w:wY F h p m1 m2 c1 c2 q dF A T)(a:bf):∃ck cn gx,(∀g:J,g.get m1=h.get m1->∀ok,hF al g 57 (.map m1) (.str a) ok=some (if ok=true then .aF [.agg [.str ck,.str cn,aK gx],.bool (cM (A.map (·.v)) a).isSome] else .agg [.str ck,.str cn,aK gx]))/\cn.length=dE (A.map (·.v)) a/\∀f,cM (A.map (·.v)) a=some f->ck=f.p/\cn=f.x/\gx=f.n:=by
 cases hf:cM (A.map (·.v)) a with
 |none=>exact⟨[],[],0,λg an ok=>Db (h:=g) qP IE (an.trans w.f1) (IF w.jg hf) ok,by unfold dE;rw[hf];rfl,λf e=>by cases e⟩
 |some f=>
  obtain⟨x,U,wZ,ux⟩:=De w.jg hf
  refine⟨f.p,f.x,f.n,λg an ok=>?_,by unfold dE;rw[hf],λmC e=>by cases e;exact⟨rfl,rfl,rfl⟩⟩
  have c4:=wV (h:=g) qP (an.trans w.f1) w.aE U ok
  rw[ux] at c4
  rw[c4,wZ];rfl
theorem zH(m:Nat){F:Nat->Prop}{h:J}{p c0 c1 c2 c3 a e:Nat}{b:Bool}{q:cT}{s:cj}{t:bf}(w:dL F h p q s)
  (aA:aO h c0 0=some (.ptr p 0))(h1:aO h c1 0=some (.ptr a 0))(aa:aO h c2 0=some (.bool b))(ao:aO h c3 0=some (ai e))(aJ:aO h a 0=some (.str t))(aC:c0<h.n/\c1<h.n/\c2<h.n/\c3<h.n/\a<h.n):
  ∃g,Y (m+1) (.fn 47) [.ptr c0 0,.ptr c1 0,.ptr c2 0,.ptr c3 0] h=.ret (ai (if(cM s.ax t).isSome=b then 0 else e)) g/\Ext h.n h g:=by
 obtain⟨m1,m2,d1,d2,dF,A,T,w,ba,bH,dv,dm,hN⟩:=w
 obtain⟨eF,fG,jT⟩:=w.up
 obtain⟨iV,dI,dQ,la,ky⟩:=aC
 obtain⟨ck,cn,gx,c4,_,_⟩:=Dh w t
 obtain⟨H,hH⟩:∃H,H=(h.room 14).set (h.n+11) (some (ay [.str [],.str [],aK 0] 40)):=⟨_,rfl⟩
 have gy:Ext h.n h (h.room 14):=Ext.room _ _ _
 have gW:Ext h.n h H:=by rw[hH];exact Ext.l3 (by omega) gy
 obtain⟨g1,ew⟩:∃g,g=H.set (h.n+11) (some (ay [.str ck,.str cn,aK gx] 40)):=⟨_,rfl⟩
 have cH:Ext h.n h g1:=by rw[ew];exact Ext.l3 (by omega) gW
 have e_:∀{g:J},Ext h.n h g->∀{d o:Nat} {v:I},d<h.n->aO h d o=some v->aO g d o=some v:=λ{g} x {d o v} ak aM=>by
  have:=x.get d ak
  unfold aO at aM⊢
  rw[this];exact aM
 have fH:aS.storeCells H (h.n+11) 0 [.str ck,.str cn,aK gx]=some g1:=by rw[ew];exact gI (by rw[hH];exact e8 rfl) rfl rfl
 have hM:aO h p 5=some (.map m1):=ld1 w.st rfl
 rw[dv]
 refine⟨g1,Rb m c0 c1 c2 c3 p a m1 h (R:=λy=>y=.ret (.int .i64 (Int.ofNat (if(cM (A.map (·.v)) t).isSome=b then 0 else e))) g1) ⟨e_ gy iV aA,e_ gy eF hM,e_ gy dI h1,t,e_ gy ky aJ,ck,cn,gx,_,c4 (h.room 14) (gy.get m1 fG) true,g1,by rw[<-hH];exact fH,?_,?_,?_,?_,?_,b,e_ cH dQ aa,λae=>?_,λae=>⟨e,e_ cH la ao,?_⟩⟩,cH⟩
 · rw[<-hH];exact e_ gW iV aA
 · rw[<-hH];exact e_ gW eF hM
 · rw[<-hH];exact e_ gW dI h1
 · rw[<-hH];exact e_ gW ky aJ
 · rw[<-hH];exact c4 H (gW.get m1 fG) true
 · have:(cM (A.map (·.v)) t).isSome=b:=by
     revert ae;cases (cM (A.map (·.v)) t).isSome<;>cases b<;>simp[qy]
   rw[if_pos this]
 · have:¬(cM (A.map (·.v)) t).isSome=b:=by
     revert ae;cases (cM (A.map (·.v)) t).isSome<;>cases b<;>simp[qy]
   rw[if_neg this]
theorem nQ(a b:Int):eC a b=decide (a<b):=by simp[eC]
theorem IW(a:Int):gX jZ (.int .i64 a) [ai 64]=some (.int .i64 (min a 64)):=by
 have key:(if eC (Int.ofNat 64) a=true then Int.ofNat 64 else a)=min a 64:=by
  rw[nQ]
  by_cases h:Int.ofNat 64<a
  · rw[if_pos (decide_eq_true h)]
    simp only[Int.ofNat_eq_natCast] at h⊢
    omega
  · rw[if_neg (by simpa using h)]
    simp only[Int.ofNat_eq_natCast] at h
    omega
 simp only[gX,jZ,if_true,key]
theorem RH(m:Nat){F:Nat->Prop}{h:J}{p c0 c1 c2 a:Nat}{q:cT}{s:cj}{t u:bf}(w:dL F h p q s)(ok:ir s)(ae:s.e1<=1000000000)(ar:t.length<=1000000000)
  (aA:aO h c0 0=some (.ptr p 0))(h1:aO h c1 0=some (.ptr a 0))(aa:aO h c2 0=some (.str t))(aJ:aO h a 0=some (.str u))(aC:c0<h.n/\c1<h.n/\c2<h.n/\a<h.n):
  ∃g,Y (m+1) (.fn 46) [.ptr c0 0,.ptr c1 0,.ptr c2 0] h=.ret (ai (if iq u t s=true then 0 else 7)) g/\Ext h.n h g:=by
 obtain⟨m1,m2,d1,d2,dF,A,T,w,ba,bH,dv,dm,hN⟩:=w
 obtain⟨eF,fG,jT⟩:=w.up
 obtain⟨iV,dI,dQ,ky⟩:=aC
 obtain⟨ck,cn,gx,c4,ev,_⟩:=Dh w u
 have ad:=wW ok.dG u
 have kO:=ok.ia
 have hle:dE s.ax u<=dF:=by
  rw[hN] at kO
  simp only[Int.ofNat_eq_natCast] at kO
  omega
 have kB:dF<=1000000000:=by rw[hN] at ae;simp only[Int.ofNat_eq_natCast] at ae;omega
 have hlen:A.length=s.ax.length:=by rw[dv,List.length_map]
 have RI:=ok.wX.2
 rw[<-dv] at ev
 obtain⟨H,hH⟩:∃H,H=(h.room 14).set (h.n+11) (some (ay [.str [],.str [],aK 0] 40)):=⟨_,rfl⟩
 have gy:Ext h.n h (h.room 14):=Ext.room _ _ _
 have gW:Ext h.n h H:=by rw[hH];exact Ext.l3 (by omega) gy
 obtain⟨g1,ew⟩:∃g,g=H.set (h.n+11) (some (ay [.str ck,.str cn,aK gx] 40)):=⟨_,rfl⟩
 have cH:Ext h.n h g1:=by rw[ew];exact Ext.l3 (by omega) gW
 have cD:Ext h.n h (g1.room 27):=cH.trans cH.n (Ext.room _ _ _)
 have e_:∀{g:J},Ext h.n h g->∀{d o:Nat} {v:I},d<h.n->aO h d o=some v->aO g d o=some v:=λ{g} x {d o v} ak aM=>by
  have:=x.get d ak
  unfold aO at aM⊢
  rw[this];exact aM
 have fH:aS.storeCells H (h.n+11) 0 [.str ck,.str cn,aK gx]=some g1:=by rw[ew];exact gI (by rw[hH];exact e8 rfl) rfl rfl
 have hM:aO h p 5=some (.map m1):=ld1 w.st rfl
 have IX:aO h p 0=some (.int .i64 q.a):=ld1 w.st rfl
 have IY:aO h p 1=some (.int .i64 q.b):=ld1 w.st rfl
 have IZ:aO h p 7=some (ai dF):=ld1 w.st rfl
 have I0:aO (g1.room 27) (h.n+11) 1=some (.str cn):=ld1 (h:=g1.room 27) (by rw[ew];exact e8 rfl) rfl
 have RJ:fO al h 57 (.map m1)=some (ai A.length):=by
  have hu:=qP
  simp only[fO,hu,w.f1,List.length_map]
 have aj:iq u t s=!(decide (min q.a 64<Int.ofNat (A.length+if(cM (A.map (·.v)) u).isSome then 0 else 1))||decide (q.b<Int.ofNat (dF-cn.length+t.length))):=by
  unfold iq
  rw[ba,bH,hN,<-hlen,dv]
  congr 3
  rw[<-dv,<-ev]
  have:cn.length<=dF:=by omega
  simp only[Int.ofNat_eq_natCast]
  congr 1
  omega
 have fin:∀{n:Nat} {G:J},min q.a 64<Int.ofNat n\/q.b<Int.ofNat (dF-cn.length+t.length)->n=(A.length+if(cM (A.map (·.v)) u).isSome then 0 else 1)->bM.ret (ai 7) G=.ret (ai (if iq u t s=true then 0 else 7)) G:=λ{n G} ab e=>by
  have:iq u t s=false:=by
   rw[aj,<-e]
   simp only[Bool.not_eq_false',Bool.or_eq_true,decide_eq_true_eq]
   exact ab
  rw[this];rfl
 have I1:∀{n:Nat} {G:J},¬min q.a 64<Int.ofNat n->¬q.b<Int.ofNat (dF-cn.length+t.length)->n=(A.length+if(cM (A.map (·.v)) u).isSome then 0 else 1)->bM.ret (ai 0) G=.ret (ai (if iq u t s=true then 0 else 7)) G:=λ{n G} ab ak e=>by
  have:iq u t s=true:=by
   rw[aj,<-e]
   simp only[Bool.not_eq_true',Bool.or_eq_false_iff,decide_eq_false_iff_not]
   exact⟨ab,ak⟩
  rw[this];rfl
 have pr:∀{x y:Int},eC x y=true->x<y:=λh=>by rw[nQ] at h;exact of_decide_eq_true h
 have cK:∀{x y:Int},eC x y=false->¬x<y:=λh=>by rw[nQ] at h;exact of_decide_eq_false h
 refine⟨g1.room 27,Re m c0 c1 c2 p a m1 h (R:=λy=>y=.ret (.int .i64 (Int.ofNat (if iq u t s=true then 0 else 7))) (g1.room 27)) ⟨aA,hM,A.length,RJ,e_ gy iV aA,e_ gy eF hM,e_ gy dI h1,u,e_ gy ky aJ,ck,cn,gx,_,c4 (h.room 14) (gy.get m1 fG) true,g1,by rw[<-hH];exact fH,by rw[<-hH];exact e_ gW iV aA,by rw[<-hH];exact e_ gW eF hM,by rw[<-hH];exact e_ gW dI h1,by rw[<-hH];exact e_ gW ky aJ,by rw[<-hH];exact c4 H (gW.get m1 fG) true,λag=>?_,λag=>?_⟩,cD⟩
 · have e:A.length=A.length+if(cM (A.map (·.v)) u).isSome then 0 else 1:=by rw[ag];rfl
   exact⟨e_ cD iV aA,q.a,e_ cD eF IX,min q.a 64,IW q.a,λc=>⟨rfl,rfl,fin (.inl (pr c)) e⟩,λc=>⟨e_ cD iV aA,dF,e_ cD eF IZ,cn,I0,⟨by omega,by omega⟩,t,e_ cD dQ aa,by omega,e_ cD iV aA,q.b,e_ cD eF IY,rfl,rfl,rfl,λc2=>fin (.inr (pr c2)) e,λc2=>I1 (cK c) (cK c2) e⟩⟩
 · have e:A.length+1=A.length+if(cM (A.map (·.v)) u).isSome then 0 else 1:=by rw[ag];rfl
   exact⟨by omega,e_ cD iV aA,q.a,e_ cD eF IX,min q.a 64,IW q.a,λc=>⟨rfl,rfl,fin (.inl (pr c)) e⟩,λc=>⟨e_ cD iV aA,dF,e_ cD eF IZ,cn,I0,⟨by omega,by omega⟩,t,e_ cD dQ aa,by omega,e_ cD iV aA,q.b,e_ cD eF IY,rfl,rfl,rfl,λc2=>fin (.inr (pr c2)) e,λc2=>I1 (cK c) (cK c2) e⟩⟩
theorem RK(m b N:Nat)(cp:cb)(h:J)(H:bU al Tryd.f27 (Y m) [1,0,1,0] (aR [(2,ai 0),(6,.slice b 0 N cp),(7,ai N),(8,ai 0)] h) (λey fK=>((∃g1 dI,ey=.exit 0/\fK=aR dI g1/\eI [] dI/\R (.ret (ai 0) g1))\/(∃aE g2 dQ,ey=.ret/\fK=aR dQ g2/\eI [(2,ai aE)] dQ/\R (.ret (ai aE) g2))))):
  R (Y (m+1) (.fn 27) [.slice b 0 N cp] h):=
 fv [(4000,.hM [2,6,7,8] [(.exit 0,[]),(.ret,[(2,.n .i64)])])] [] Tryd.func27 H
theorem RL(b N i f p:Nat)(cp:cb)(h:J)(H:(i<N->i<N/\aO h b (0+i*1)=some (.fn f [aq p] [])/\∃aE g1,call (.fn f) [aq p] h=.ret (ai aE) g1/\(aE=0->i+1<9223372036854775808/\Q .nrm (aR [(6,.slice b 0 N cp),(7,ai N),(8,ai (i+1))] g1))/\(¬aE=0->Q .ret (aR [(2,ai aE),(6,.slice b 0 N cp),(7,ai N),(8,ai i)] g1)))/\(¬i<N->Q (.exit 0) (aR [(6,.slice b 0 N cp),(7,ai N),(8,ai i)] h))):
  bU al Tryd.f27 call [1,0,1,0,0] (aR [(6,.slice b 0 N cp),(7,ai N),(8,ai i)] h) Q:=
 du [(11,.aY (.is (.fn f [aq p] []))),(13,.aY (.n .i64))] [2,6,7,8] [] H
theorem I2(b N i f:Nat)(cs:List I)(cp:cb)(h:J)(H:(i<N->i<N/\aO h b (0+i*1)=some (.fn f [] cs)/\∃aE g1,call (.fn f) cs h=.ret (ai aE) g1/\(aE=0->i+1<9223372036854775808/\Q .nrm (aR [(6,.slice b 0 N cp),(7,ai N),(8,ai (i+1))] g1))/\(¬aE=0->Q .ret (aR [(2,ai aE),(6,.slice b 0 N cp),(7,ai N),(8,ai i)] g1)))/\(¬i<N->Q (.exit 0) (aR [(6,.slice b 0 N cp),(7,ai N),(8,ai i)] h))):
  bU al Tryd.f27 call [1,0,1,0,0] (aR [(6,.slice b 0 N cp),(7,ai N),(8,ai i)] h) Q:=
 du [(11,.aY (.is (.fn f [] cs))),(13,.aY (.n .i64))] [2,6,7,8] [] H
theorem I3(m p f1 f2:Nat)(c1 c2:List I)(s t:List UInt8)(h:J)(H:∃g1,Y m (.fn 29) [aq h.n] (J.room (J.push (J.push h (ay [.str s] 9)) (ay [.str t] 9)) 10)=.ret (.fn f1 [] c1) g1/\∃s1,aO g1 (J.n (J.push h (ay [.str s] 9))) 0=some (.str s1)/\∃g2,Y m (.fn 30) [aq p,aq h.n,.str s1] g1=.ret (.fn f2 [] c2) g2/\∃aE g3,Y m (.fn 27) [.slice (J.n (J.push (J.push h (ay [.str s] 9)) (ay [.str t] 9))+7) 0 4 (.exact 4)] (J.set g2 (J.n (J.push (J.push h (ay [.str s] 9)) (ay [.str t] 9))+7) (some (ay [.fn 28 [aq p] [],.fn f1 [] c1,.fn 26 [] [.ptr (J.n (J.push h (ay [.str s] 9))) 0],.fn f2 [] c2] 66)))=.ret (ai aE) g3/\aO (J.room (J.push (J.push h (ay [.str s] 9)) (ay [.str t] 9)) 10) (J.n (J.push h (ay [.str s] 9))) 0=some (.str s1)/\(aE=0->∃s2,aO g3 h.n 0=some (.str s2)/\∃bz,aO g3 (J.n (J.push h (ay [.str s] 9))) 0=some (.str bz)/\∃a_ g4,Y m (.fn 31) [aq p,.str s2,.str bz] g3=.ret (aK a_) g4/\R (.ret (.aF [aK a_,ai 0]) g4))/\(¬aE=0->R (.ret (.aF [aK 0,ai aE]) g3))):
  R (Y (m+1) (.fn 9) [aq p,.str s,.str t] h):=
 fv [(13,.aY (.is (.fn f1 [] c1))),(17,.aY (.is (.fn f2 [] c2)))] [] Tryd.func9 H
theorem RM(m p f1 f2:Nat)(c1 c2:List I)(s:List UInt8)(h:J)(H:∃g1,Y m (.fn 29) [aq h.n] (J.push h (ay [.str s] 9))=.ret (.fn f1 [] c1) g1/\∃g2,Y m (.fn 32) [aq p,aq h.n,.bool true,ai 5] g1=.ret (.fn f2 [] c2) g2/\∃aE g3,Y m (.fn 27) [.slice g2.n 0 3 (.exact 3)] (J.push g2 (ay [.fn 28 [aq p] [],.fn f1 [] c1,.fn f2 [] c2] 66))=.ret (ai aE) g3/\(aE=0->∃s1,aO g3 h.n 0=some (.str s1)/\∃s2 g4,Y m (.fn 33) [aq p,.str s1] g3=.ret (.str s2) g4/\R (.ret (ai aE) g4))/\(¬aE=0->R (.ret (ai aE) g3))):
  R (Y (m+1) (.fn 12) [aq p,.str s] h):=
 fv [(8,.aY (.is (.fn f1 [] c1))),(10,.aY (.is (.fn f2 [] c2))),(17,.aY .st)] [] Tryd.func12 H
theorem RN(m p f1 f2 f3 f4:Nat)(c1 c2 c3 gG:List I)(s t:List UInt8)(h:J)(H:∃g1,Y m (.fn 29) [aq h.n] (J.push (J.push h (ay [.str s] 9)) (ay [.str t] 9))=.ret (.fn f1 [] c1) g1/\∃g2,Y m (.fn 29) [.ptr (J.n (J.push h (ay [.str s] 9))) 0] g1=.ret (.fn f2 [] c2) g2/\∃g3,Y m (.fn 32) [aq p,aq h.n,.bool true,ai 5] g2=.ret (.fn f3 [] c3) g3/\∃g4,Y m (.fn 32) [aq p,.ptr (J.n (J.push h (ay [.str s] 9))) 0,.bool false,ai 14] g3=.ret (.fn f4 [] gG) g4/\∃aE g5,Y m (.fn 27) [.slice g4.n 0 5 (.exact 5)] (J.push g4 (ay [.fn 28 [aq p] [],.fn f1 [] c1,.fn f2 [] c2,.fn f3 [] c3,.fn f4 [] gG] 66))=.ret (ai aE) g5/\(aE=0->∃s1,aO g5 h.n 0=some (.str s1)/\∃s2 g6,Y m (.fn 33) [aq p,.str s1] g5=.ret (.str s2) g6/\∃bz,aO g6 (J.n (J.push h (ay [.str s] 9))) 0=some (.str bz)/\∃a_ g7,Y m (.fn 31) [aq p,.str bz,.str s2] g6=.ret (aK a_) g7/\R (.ret (.aF [aK a_,ai 0]) g7))/\(¬aE=0->R (.ret (.aF [aK 0,ai aE]) g5))):
  R (Y (m+1) (.fn 13) [aq p,.str s,.str t] h):=
 fv [(12,.aY (.is (.fn f1 [] c1))),(13,.aY (.is (.fn f2 [] c2))),(15,.aY (.is (.fn f3 [] c3))),(17,.aY (.is (.fn f4 [] gG))),(25,.aY .st)] [] Tryd.func13 H
theorem I4(p f1 f2 m1:Nat)(c1 c2:List I)(s:List UInt8)(h:J)(H:∃g1,call (.fn 29) [aq h.n] (J.push (J.push h (ay [.str s] 9)) (ay [.str [],.str [],aK 0] 40))=.ret (.fn f1 [] c1) g1/\∃g2,call (.fn 32) [aq p,aq h.n,.bool true,ai 5] g1=.ret (.fn f2 [] c2) g2/\∃aE g3,call (.fn 27) [.slice g2.n 0 3 (.exact 3)] (J.push g2 (ay [.fn 28 [aq p] [],.fn f1 [] c1,.fn f2 [] c2] 66))=.ret (ai aE) g3/\(aE=0->aO (g3.room 8) p 5=some (.map m1)/\∃s1,aO (g3.room 8) h.n 0=some (.str s1)/\∃s2 bz a_,hF al (g3.room 8) 57 (.map m1) (.str s1) false=some (.agg [.str s2,.str bz,aK a_])/\∃g4,aS.storeCells (g3.room 8) (J.n (J.push h (ay [.str s] 9))) 0 [.str s2,.str bz,aK a_]=some g4/\Q .ret (aR [(4,.ptr (J.n (J.push h (ay [.str s] 9))) 0),(5,ai 0)] g4))/\(¬aE=0->∃g5,aS.storeCells g3 (J.n (J.push h (ay [.str s] 9))) 0 [.str [],.str [],aK 0]=some g5/\Q .ret (aR [(4,.ptr (J.n (J.push h (ay [.str s] 9))) 0),(5,ai aE)] g5))):
  bU al Tryd.f11 call [] (aR [(0,aq p),(1,.str s)] h) Q:=
 du [(9,.aY (.is (.fn f1 [] c1))),(11,.aY (.is (.fn f2 [] c2))),(21,.aY (.is (.map m1))),(23,.aY (.c6 [.st,.st,.n .u64]))] [4,5] [] H
theorem RO(m:Nat)(s:List UInt8)(h:J)(H:∃aE,gX jZ (ai s.length) [ai 200]=some (ai aE)/\∃s1,fV al h 9 (.str s) none (some (ai aE)) none=some (.str s1)/\R (.ret (.str s1) h)):
  R (Y (m+1) (.fn 7) [.str s] h):=
 fv [] [] Tryd.func7 H
def ki(n b:Nat)(o:Option b8):List (I×Nat×List I)->J->Nat->J->Prop
 |[],h,r,g=>h.get b=o/\r=0/\g=h
 |x::l,h,r,g=>h.get b=o/\∃e h1,Y n (.fn x.2.1) x.2.2 h=.ret (ai e) h1/\((e≠0/\r=e/\g=h1)\/(e=0/\ki n b o l h1 r g))
def RP(x:I×Nat×List I):Prop:=(∃p,x.1=.fn x.2.1 [.ptr p 0] []/\x.2.2=[.ptr p 0])\/x.1=.fn x.2.1 [] x.2.2
theorem zI(m b:Nat){cp:cb}{h g:J}{l:List (I×Nat×List I)}{r:Nat}{el:TypeId}(aQ:ki m b (some (ay (l.map (·.1)) el)) l h r g)(aM:∀x∈l,RP x)(ar:l.length<=10):Y (m+1) (.fn 27) [.slice b 0 l.length cp] h=.ret (ai r) g:=by
 refine RK m b l.length cp h (R:=λx=>x=.ret (ai r) g) ?_
 refine mH (λk st=>∃i y Γ,st=hi Γ y/\eI [(6,.slice b 0 l.length cp),(7,ai l.length),(8,ai i)] Γ/\l.length-i=k/\i<=l.length/\ki m b (some (ay (l.map (·.1)) el)) (l.drop i) y r g) ?_ l.length _ (by omega) ⟨0,h,_,rfl,⟨rfl,rfl,rfl,trivial⟩,by omega,by omega,aQ⟩
 rintro k st ⟨i,y,Γ,rfl,fL,hk,ag,aJ⟩
 by_cases i1:i<l.length
 · rw[List.drop_eq_getElem_cons i1,ki] at aJ
   obtain⟨RQ,e,h1,ab,ak⟩:=aJ
   have l4:aO y b (0+i*1)=some l[i].1:=by
    refine OQ RQ ?_
    rw[Nat.zero_add,Nat.mul_one,List.getElem?_map,List.getElem?_eq_getElem i1];rfl
   have go:∀(o5:¬i<l.length->False),(e=0->i+1<9223372036854775808/\∃j,j<k/\∃i2 ic gT,aB.mk [(6,.slice b 0 l.length cp),(7,ai l.length),(8,ai (i+1))] [] .none h1=hi gT ic/\eI [(6,.slice b 0 l.length cp),(7,ai l.length),(8,ai i2)] gT/\l.length-i2=j/\i2<=l.length/\ki m b (some (ay (l.map (·.1)) el)) (l.drop i2) ic r g):=λ_ er=>by
    rcases ak with⟨ah,_⟩|⟨_,ah⟩
    · exact absurd er ah
    · exact⟨by omega,_,(by show _<k;omega),i+1,h1,_,rfl,⟨rfl,rfl,rfl,trivial⟩,rfl,by omega,ah⟩
   have stop:¬e=0->r=e/\g=h1:=λer=>by
    rcases ak with⟨_,h1,aa⟩|⟨ah,_⟩
    · exact⟨h1,aa⟩
    · exact absurd ah er
   rcases aM _ (List.getElem_mem i1) with⟨p,v1,v2⟩|v1
   · rw[v1] at l4
     rw[v2] at ab
     exact ij (RL _ b l.length i l[i].2.1 p cp y ⟨λ_=>⟨i1,l4,e,h1,ab,λer=>go (λh=>h i1) er,λer=>.inr ⟨e,h1,_,rfl,rfl,⟨rfl,trivial⟩,by rw[(stop er).1,(stop er).2]⟩⟩,λh=>absurd i1 h⟩) fL
   · rw[v1] at l4
     exact ij (I2 _ b l.length i l[i].2.1 l[i].2.2 cp y ⟨λ_=>⟨i1,l4,e,h1,ab,λer=>go (λh=>h i1) er,λer=>.inr ⟨e,h1,_,rfl,rfl,⟨rfl,trivial⟩,by rw[(stop er).1,(stop er).2]⟩⟩,λh=>absurd i1 h⟩) fL
 · have o5:i=l.length:=by omega
   rw[List.drop_eq_nil_of_le (by omega),ki] at aJ
   obtain⟨_,aj,an⟩:=aJ
   exact ij (I2 _ b l.length i 0 [] cp y ⟨λh=>absurd h i1,λ_=>.inl ⟨y,_,rfl,rfl,trivial,by rw[aj,an]⟩⟩) fL
theorem zJ(m p:Nat)(h:J):Y (m+1) (.fn 28) [.ptr p 0] h=.ret (ai 0) h:=Q8 m p h (R:=λx=>x=.ret (ai 0) h) rfl
theorem RR(m c:Nat){h:J}{t:bf}(ab:aO h c 0=some (.str t)):Y (m+1) (.fn 26) [.ptr c 0] h=.ret (ai (if t.length<=4096 then 0 else 3)) h:=by
 refine Rh m c h (R:=λx=>x=.ret (ai (if t.length<=4096 then 0 else 3)) h) ⟨t,ab,λar=>?_,λar=>?_⟩
 · rw[if_neg (by omega)]
 · rw[if_pos (by omega)]
def uy(cl:bf->Option bf):Prop:=∀(n:Nat) (s:bf) (h:J),20<=n->s.length<=10000->∃g,Y n (.fn 45) [.str s] h=.ret (.aF [.str ((cl s).getD []),ai (if(cl s).isSome then 0 else 6)]) g/\Ext h.n h g
theorem w1(m:Nat){cl:bf->Option bf}(ab:uy cl){h:J}{c a:Nat}{s:bf}(hm:20<=m)(ar:s.length<=10000)(aA:aO h c 0=some (.ptr a 0))(aJ:h.get a=some (ay [.str s] 9))(aC:c<h.n/\a<h.n):
  ∃g,Y (m+1) (.fn 44) [.ptr c 0] h=.ret (ai (if(cl s).isSome then 0 else 6)) g/\h.n<=g.n/\(∀d,d<h.n->d≠a->g.get d=h.get d)/\g.get a=some (ay [.str ((cl s).getD [])] 9):=by
 obtain⟨iV,ky⟩:=aC
 have gy:Ext h.n h (h.room 11):=Ext.room _ _ _
 obtain⟨g1,c1,cH⟩:=ab m s (h.room 11) hm ar
 have ui:Ext h.n h g1:=gy.trans gy.n cH
 have e_:∀{g:J},Ext h.n h g->aO g c 0=some (.ptr a 0):=λ{g} x=>by
  have:=x.get c iV
  unfold aO at aA⊢
  rw[this];exact aA
 have bO:=(ui.get a ky).trans aJ
 obtain⟨g2,hZ⟩:∃g,g=g1.set a (some (ay [.str ((cl s).getD [])] 9)):=⟨_,rfl⟩
 refine⟨g2,Q_ m c a h (R:=λy=>y=.ret (ai (if(cl s).isSome then 0 else 6)) g2) ⟨e_ gy,e_ gy,s,ld1 (h:=h.room 11) aJ rfl,_,_,g1,c1,g2,by rw[hZ];exact gI bO rfl rfl,e_ ui,rfl⟩,by rw[hZ];exact ui.n,λd ak b9=>by rw[hZ];exact(c9 b9 rfl).trans (ui.get d ak),by rw[hZ];exact e8 rfl⟩
theorem w2(m a:Nat)(h:J):Y (m+1) (.fn 29) [.ptr a 0] h=.ret (.fn 44 [] [.ptr h.n 0]) (h.push (ay [.ptr a 0] 69)):=
 Q9 m a h (R:=λx=>x=.ret (.fn 44 [] [.ptr h.n 0]) (h.push (ay [.ptr a 0] 69))) rfl
theorem RS(m p a:Nat)(t:bf)(h:J):Y (m+1) (.fn 30) [.ptr p 0,.ptr a 0,.str t] h=.ret (.fn 46 [] [.ptr h.n 0,.ptr (h.n+1) 0,.ptr (h.n+2) 0]) (((h.push (ay [.ptr p 0] 26)).push (ay [.ptr a 0] 69)).push (ay [.str t] 9)):=
 Rc m p a t h (R:=λx=>x=.ret (.fn 46 [] [.ptr h.n 0,.ptr (h.n+1) 0,.ptr (h.n+2) 0]) (((h.push (ay [.ptr p 0] 26)).push (ay [.ptr a 0] 69)).push (ay [.str t] 9))) rfl
theorem zK(m p a e:Nat)(b:Bool)(h:J):Y (m+1) (.fn 32) [.ptr p 0,.ptr a 0,.bool b,ai e] h=.ret (.fn 47 [] [.ptr h.n 0,.ptr (h.n+1) 0,.ptr (h.n+2) 0,.ptr (h.n+3) 0]) ((((h.push (ay [.ptr p 0] 26)).push (ay [.ptr a 0] 69)).push (ay [.bool b] 4)).push (ay [ai e] 34)):=
 Ra m p a e b h (R:=λx=>x=.ret (.fn 47 [] [.ptr h.n 0,.ptr (h.n+1) 0,.ptr (h.n+2) 0,.ptr (h.n+3) 0]) ((((h.push (ay [.ptr p 0] 26)).push (ay [.ptr a 0] 69)).push (ay [.bool b] 4)).push (ay [ai e] 34))) rfl
end Go.Proofs.hD
