/-
  PROVED HERE: contracts of functions (Dz). No condition beside each statement's own.
-/
import Derived.Test.YtfooahfebojldaaGreatDoorDy
set_option linter.unusedVariables false
set_option linter.unusedSimpArgs false
namespace Go.Proofs.dQ
open Go aB Go.Proofs df Go.Proofs.cD
open Go.Proofs.dg (cV)
open Go.Proofs.gI (ct)
set_option maxRecDepth 100000
set_option maxHeartbeats 1000000
theorem WW(m:Nat)(v:I)(h:J){R:ao->Prop}(H:∃dn:Int,∃al:J,(Y m) (.fn 63) [v,.fn 37 [] []] h=.ret (.int .i64 dn) al/\R (.ret (.bool (dv (.ofNat 0) dn)) al)):
  R (Y (m+1) (.fn 36) [v,.fn 37 [] []] h):=
 dp (intr:=bW) [(7,.b7 (.z .i64))] [(0,.o v),(1,.v (.fn 37 [] []))] Tryz.func36 (by kernel_rfl) (by kernel_rfl) (by kernel_rfl) rfl (Eq.mp (by kernel_rfl) H)
theorem WX(m:Nat)(v:I)(h:J){R:ao->Prop}(H:∃aN:Nat,bO Tryz.prog h 33 v=some (.int .i64 (.ofNat aN))/\bj Tryz.prog Tryz.f63 (Y m) [1,0,1,0] (ah.mk [(0,v),(1,.fn 37 [] []),(7,.int .i64 (.ofNat aN)),(8,.int .i64 (.ofNat 0))] [] .none h) (λcq cr=>((∃al:J,∃bl:Env,cq=.exit 0/\cr=ah.mk bl [] .none al/\cg [] bl/\R (.ret (.int .i64 (.negSucc 0)) al))\/(∃bz:Nat,∃ar:J,∃bB:Env,cq=.ret/\cr=ah.mk bB [] .none ar/\cg [(4,.int .i64 (.ofNat bz))] bB/\R (.ret (.int .i64 (.ofNat bz)) ar))))):
  R (Y (m+1) (.fn 63) [v,.fn 37 [] []] h):=
 dp (intr:=bW) [(4000,.hD [0,1,7,8] [(.exit 0,[]),(.ret,[(4,.n .i64)])])] [(0,.o v),(1,.v (.fn 37 [] []))] Tryz.func63 (by kernel_rfl) (by kernel_rfl) (by kernel_rfl) rfl (Eq.mp (by kernel_rfl) H)
theorem WY(call:aF->List I->J->ao)(b:Nat)(off:Nat)(N:Nat)(i:Nat)(aH:ch)(h:J){Q:bw->ah->Prop}(H:(i<N->i<N/\∃s1:List UInt8,∃a5:Bool,∃s2:List UInt8,∃bt:Bool,∃v1:I,∃v2:I,aB.loadCells h b (off+i*6) 6=some [.str s1,.bool a5,.str s2,.bool bt,v1,v2]/\∃dP:Bool,∃al:J,call (.fn 37) [.agg [.str s1,.bool a5,.str s2,.bool bt,v1,v2]] h=.ret (.bool dP) al/\(dP=true->Q .ret (ah.mk [(0,.slice b off N aH),(1,.fn 37 [] []),(4,.int .i64 (.ofNat i)),(7,.int .i64 (.ofNat N)),(8,.int .i64 (.ofNat i))] [] .none al))/\(dP=false->i+1<9223372036854775808/\Q .nrm (ah.mk [(0,.slice b off N aH),(1,.fn 37 [] []),(7,.int .i64 (.ofNat N)),(8,.int .i64 (.ofNat (i+1)))] [] .none al)))/\(¬i<N->Q (.exit 0) (ah.mk [(0,.slice b off N aH),(1,.fn 37 [] []),(7,.int .i64 (.ofNat N)),(8,.int .i64 (.ofNat i))] [] .none h))):
  bj Tryz.prog Tryz.f63 call [1,0,1,0,0] ⟨[(0,.slice b off N aH),(1,.fn 37 [] []),(7,.int .i64 (.ofNat N)),(8,.int .i64 (.ofNat i))],[],.none,h⟩ Q:=
 eu [(15,.b7 (.fM [.st,.b,.st,.b,.o,.o]))] [0,1,4,7,8] [(0,.v (.slice b off N aH)),(1,.v (.fn 37 [] [])),(7,.v (.int .i64 (.ofNat N))),(8,.v (.int .i64 (.ofNat i)))] rfl (Eq.mp (by kernel_rfl) H)
theorem WZ(call:aF->List I->J->ao)(N:Nat)(i:Nat)(v:I)(h:J){Q:bw->ah->Prop}(H:¬i<N/\Q (.exit 0) (ah.mk [] [] .none h)):
  bj Tryz.prog Tryz.f63 call [1,0,1,0,0] ⟨[(0,v),(1,.fn 37 [] []),(7,.int .i64 (.ofNat N)),(8,.int .i64 (.ofNat i))],[],.none,h⟩ Q:=
 eu [(1009,.f)] [] [(0,.o v),(1,.v (.fn 37 [] [])),(7,.v (.int .i64 (.ofNat N))),(8,.v (.int .i64 (.ofNat i)))] rfl (Eq.mp (by kernel_rfl) H)
theorem W0(m:Nat)(p:List UInt8)(q:List UInt8)(t:Bool)(b:Bool)(v:I)(w:I)(h:J){R:ao->Prop}(H:I.b0 v=true/\I.b0 w=true/\∃a5:Bool,au (J.push h (.cells [.str p,.bool t,.str q,.bool b,v,w] 55 .own 0 0)) h.n (0+1)=some (.bool a5)/\(a5=true->∃s1:List UInt8,∃bt:Bool,∃v1:I,∃v2:I,aB.loadCells (J.push h (.cells [.str p,.bool t,.str q,.bool b,v,w] 55 .own 0 0)) h.n (0+2) 4=some [.str s1,.bool bt,v1,v2]/\∃dP:Bool,∃al:J,(Y m) (.fn 29) [.agg [.str s1,.bool bt,v1,v2]] (J.push h (.cells [.str p,.bool t,.str q,.bool b,v,w] 55 .own 0 0))=.ret (.bool dP) al/\R (.ret (.bool !dP) al))/\(a5=false->R (.ret (.bool false) (J.push h (.cells [.str p,.bool t,.str q,.bool b,v,w] 55 .own 0 0))))):
  R (Y (m+1) (.fn 37) [.agg [.str p,.bool t,.str q,.bool b,v,w]] h):=
 dp (intr:=bW) [] [(0,.fM [.v (.str p),.v (.bool t),.v (.str q),.v (.bool b),.o v,.o w])] Tryz.func37 (by kernel_rfl) (by kernel_rfl) (by kernel_rfl) rfl (Eq.mp (by kernel_rfl) H)
theorem W1(m:Nat)(p:List UInt8)(q:List UInt8)(t:Bool)(b:Bool)(v:I)(w:I)(c:Nat)(h:J){R:ao->Prop}(H:I.b0 v=true/\I.b0 w=true/\∃aN:Nat,au (J.room (J.push h (.cells [.str p,.bool t,.str q,.bool b,v,w] 55 .own 0 0)) 6) c 0=some (.ptr aN 0)/\∃s1:List UInt8,au (J.room (J.push h (.cells [.str p,.bool t,.str q,.bool b,v,w] 55 .own 0 0)) 6) h.n (0+0)=some (.str s1)/\∃al:J,(Y m) (.fn 38) [.ptr aN (0+0),.str s1] (J.room (J.push h (.cells [.str p,.bool t,.str q,.bool b,v,w] 55 .own 0 0)) 6)=.ret (.aP []) al/\∃a5:Bool,au al h.n (0+1)=some (.bool a5)/\(a5=true->∃bz:Nat,au al c 0=some (.ptr bz 0)/\∃ar:J,(Y m) (.fn 41) [.ptr bz (0+0),.int .i64 (.ofNat 1)] al=.ret (.aP []) ar/\∃cm:Nat,au ar c 0=some (.ptr cm 0)/\∃s2:List UInt8,∃bt:Bool,∃v1:I,∃v2:I,aB.loadCells ar h.n (0+2) 4=some [.str s2,.bool bt,v1,v2]/\∃aZ:J,(Y m) (.fn 42) [.ptr cm 0,.agg [.str s2,.bool bt,v1,v2]] ar=.ret (.aP []) aZ/\R (.ret (.aP []) aZ))/\(a5=false->∃cy:Nat,au al c 0=some (.ptr cy 0)/\∃cb:J,(Y m) (.fn 41) [.ptr cy (0+0),.int .i64 (.ofNat 0)] al=.ret (.aP []) cb/\R (.ret (.aP []) cb))):
  R (Y (m+1) (.fn 40) [.agg [.str p,.bool t,.str q,.bool b,v,w],.ptr c 0] h):=
 dp (intr:=bW) [] [(0,.fM [.v (.str p),.v (.bool t),.v (.str q),.v (.bool b),.o v,.o w]),(1,.v (.ptr c 0))] Tryz.func40 (by kernel_rfl) (by kernel_rfl) (by kernel_rfl) rfl (Eq.mp (by kernel_rfl) H)
theorem W2(m:Nat)(b:Nat)(v:I)(c:Nat)(h:J){R:ao->Prop}(H:∃aN:Nat,bO Tryz.prog h 33 v=some (.int .i64 (.ofNat aN))/\∃al:J,(Y m) (.fn 41) [.ptr b (0+0),.int .i64 (.ofNat aN)] h=.ret (.aP []) al/\∃bz:Nat,bO Tryz.prog al 33 v=some (.int .i64 (.ofNat bz))/\bj Tryz.prog Tryz.f39 (Y m) [1,1,0] (ah.mk [(2,.fn 40 [] [.ptr c 0]),(14,v),(15,.int .i64 (.ofNat bz)),(16,.int .i64 (.ofNat 0))] [] .none al) (λcq cr=>∃ar:J,∃bl:Env,cq=.exit 0/\cr=ah.mk bl [] .none ar/\cg [] bl/\R (.ret (.aP []) ar))):
  R (Y (m+1) (.fn 39) [.ptr b 0,v,.fn 40 [] [.ptr c 0]] h):=
 dp (intr:=bW) [(4000,.hD [2,14,15,16] [(.exit 0,[])])] [(0,.v (.ptr b 0)),(1,.o v),(2,.v (.fn 40 [] [.ptr c 0]))] Tryz.func39 (by kernel_rfl) (by kernel_rfl) (by kernel_rfl) rfl (Eq.mp (by kernel_rfl) H)
theorem W3(call:aF->List I->J->ao)(b:Nat)(off:Nat)(N:Nat)(i:Nat)(aH:ch)(c:Nat)(h:J){Q:bw->ah->Prop}(H:(i<N->i<N/\∃s1:List UInt8,∃a5:Bool,∃s2:List UInt8,∃bt:Bool,∃v1:I,∃v2:I,aB.loadCells h b (off+i*6) 6=some [.str s1,.bool a5,.str s2,.bool bt,v1,v2]/\I.b0 v1=true/\I.b0 v2=true/\∃al:J,aB.storeCells (J.push h (.cells [.str [],.bool false,.str [],.bool false,.bf,.bf] 55 .own 0 0)) h.n 0 [.str s1,.bool a5,.str s2,.bool bt,v1,v2]=some al/\∃bq:List UInt8,∃dP:Bool,∃bL:List UInt8,∃kn:Bool,∃dc:I,∃v4:I,aB.loadCells al h.n 0 6=some [.str bq,.bool dP,.str bL,.bool kn,dc,v4]/\∃ar:J,call (.fn 40) [.agg [.str bq,.bool dP,.str bL,.bool kn,dc,v4],.ptr c 0] al=.ret (.aP []) ar/\i+1<9223372036854775808/\Q .nrm (ah.mk [(2,.fn 40 [] [.ptr c 0]),(14,.slice b off N aH),(15,.int .i64 (.ofNat N)),(16,.int .i64 (.ofNat (i+1)))] [] .none ar))/\(¬i<N->Q (.exit 0) (ah.mk [(2,.fn 40 [] [.ptr c 0]),(14,.slice b off N aH),(15,.int .i64 (.ofNat N)),(16,.int .i64 (.ofNat i))] [] .none h))):
  bj Tryz.prog Tryz.f39 call [1,1,0,0] ⟨[(2,.fn 40 [] [.ptr c 0]),(14,.slice b off N aH),(15,.int .i64 (.ofNat N)),(16,.int .i64 (.ofNat i))],[],.none,h⟩ Q:=
 eu [(19,.b7 (.fM [.st,.b,.st,.b,.o,.o])),(21,.b7 (.fM [.st,.b,.st,.b,.o,.o]))] [2,14,15,16] [(2,.v (.fn 40 [] [.ptr c 0])),(14,.v (.slice b off N aH)),(15,.v (.int .i64 (.ofNat N))),(16,.v (.int .i64 (.ofNat i)))] rfl (Eq.mp (by kernel_rfl) H)
theorem W4(call:aF->List I->J->ao)(N:Nat)(i:Nat)(v:I)(c:Nat)(h:J){Q:bw->ah->Prop}(H:¬i<N/\Q (.exit 0) (ah.mk [] [] .none h)):
  bj Tryz.prog Tryz.f39 call [1,1,0,0] ⟨[(2,.fn 40 [] [.ptr c 0]),(14,v),(15,.int .i64 (.ofNat N)),(16,.int .i64 (.ofNat i))],[],.none,h⟩ Q:=
 eu [(1017,.f)] [] [(2,.v (.fn 40 [] [.ptr c 0])),(14,.o v),(15,.v (.int .i64 (.ofNat N))),(16,.v (.int .i64 (.ofNat i)))] rfl (Eq.mp (by kernel_rfl) H)
theorem W5(m:Nat)(p:List UInt8)(q:List UInt8)(v:I)(h:J){R:ao->Prop}(H:∃a5:Bool,∃al:J,(Y m) (.fn 36) [v,.fn 37 [] []] h=.ret (.bool a5) al/\(a5=true->R (.ret (.str []) al))/\(a5=false->∃ar:J,aB.storeCells (J.push (J.push al (.cells [.str []] 83 .own 0 0)) (.cells [.bm] 79 .own 0 0)) (J.n (J.push al (.cells [.str []] 83 .own 0 0))) 0 [.ptr al.n 0]=some ar/\∃aN:Nat,au ar (J.n (J.push al (.cells [.str []] 83 .own 0 0))) 0=some (.ptr aN 0)/\∃aZ:J,(Y m) (.fn 38) [.ptr aN (0+0),.str p] ar=.ret (.aP []) aZ/\∃bz:Nat,au aZ (J.n (J.push al (.cells [.str []] 83 .own 0 0))) 0=some (.ptr bz 0)/\∃cb:J,(Y m) (.fn 38) [.ptr bz (0+0),.str q] aZ=.ret (.aP []) cb/\∃cm:Nat,au cb (J.n (J.push al (.cells [.str []] 83 .own 0 0))) 0=some (.ptr cm 0)/\∃da:J,(Y m) (.fn 39) [.ptr cm 0,v,.fn 40 [] [.ptr (J.n (J.push al (.cells [.str []] 83 .own 0 0))) 0]] cb=.ret (.aP []) da/\∃cy:Nat,au da (J.n (J.push al (.cells [.str []] 83 .own 0 0))) 0=some (.ptr cy 0)/\∃s1:List UInt8,au da cy (0+0+0)=some (.str s1)/\R (.ret (.str s1) da))):
  R (Y (m+1) (.fn 13) [.str p,.str q,v] h):=
 dp (intr:=bW) [] [(0,.v (.str p)),(1,.v (.str q)),(2,.o v)] Tryz.func13 (by kernel_rfl) (by kernel_rfl) (by kernel_rfl) rfl (Eq.mp (by kernel_rfl) H)
theorem W6(m:Nat)(p:List UInt8)(q:List UInt8)(v:I)(h:J){R:ao->Prop}(H:∃s1:List UInt8,∃al:J,(Y m) (.fn 43) [.str [],.str p] h=.ret (.str s1) al/\∃s2:List UInt8,∃ar:J,(Y m) (.fn 43) [.str s1,.str q] al=.ret (.str s2) ar/\∃aN:Nat,bO Tryz.prog ar 33 v=some (.int .i64 (.ofNat aN))/\∃bz:Nat,et Tryz.prog 3 65 (.int .i64 (.ofNat aN)) ar=e5.val (.int .u64 (.ofNat bz)) ar/\∃bq:List UInt8,∃aZ:J,(Y m) (.fn 44) [.str s2,.int .u64 (.ofNat bz)] ar=.ret (.str bq) aZ/\bj Tryz.prog Tryz.f15 (Y m) [1,1,1,0,1,0] (ah.mk [(2,v),(7,.str bq),(8,.int .i64 (.ofNat 0))] [] .none aZ) (λcq cr=>((∃bL:List UInt8,∃cb:J,∃bl:Env,cq=.exit 0/\cr=ah.mk bl [] .none cb/\cg [(7,.str bL)] bl/\R (.ret (.str bL) cb))\/(∃da:J,∃bB:Env,cq=.ret/\cr=ah.mk bB [] .none da/\cg [(6,.str [])] bB/\R (.ret (.str []) da))))):
  R (Y (m+1) (.fn 15) [.str p,.str q,v] h):=
 dp (intr:=bW) [(4000,.hD [2,7,8] [(.exit 0,[(7,.st)]),(.ret,[(6,.is (.str []))])])] [(0,.v (.str p)),(1,.v (.str q)),(2,.o v)] Tryz.func15 (by kernel_rfl) (by kernel_rfl) (by kernel_rfl) rfl (Eq.mp (by kernel_rfl) H)
theorem W7(call:aF->List I->J->ao)(b:Nat)(off:Nat)(N:Nat)(i:Nat)(aH:ch)(s:List UInt8)(h:J){Q:bw->ah->Prop}(H:(i<N->i<N/\∃s1:List UInt8,∃a5:Bool,∃s2:List UInt8,∃bt:Bool,∃v1:I,∃v2:I,aB.loadCells h b (off+i*6) 6=some [.str s1,.bool a5,.str s2,.bool bt,v1,v2]/\I.b0 v1=true/\I.b0 v2=true/\∃al:J,aB.storeCells (J.push h (.cells [.str [],.bool false,.str [],.bool false,.bf,.bf] 55 .own 0 0)) h.n 0 [.str s1,.bool a5,.str s2,.bool bt,v1,v2]=some al/\∃bq:List UInt8,au al h.n (0+0)=some (.str bq)/\∃bL:List UInt8,∃ar:J,call (.fn 43) [.str s,.str bq] al=.ret (.str bL) ar/\∃dP:Bool,au ar h.n (0+1)=some (.bool dP)/\(dP=true->∃cB:List UInt8,∃kn:Bool,∃dc:I,∃v4:I,aB.loadCells ar h.n (0+2) 4=some [.str cB,.bool kn,dc,v4]/\∃qU:Bool,∃aZ:J,call (.fn 34) [.agg [.str cB,.bool kn,dc,v4]] ar=.ret (.bool qU) aZ/\(qU=true->∃dN:List UInt8,∃cb:J,call (.fn 44) [.str bL,.int .u64 (.ofNat 1)] (aZ.room 6)=.ret (.str dN) cb/\∃eP:List UInt8,∃ko:Bool,∃hH:I,∃v6:I,aB.loadCells cb h.n (0+2) 4=some [.str eP,.bool ko,hH,v6]/\∃u0:List UInt8,∃da:J,call (.fn 45) [.str dN,.agg [.str eP,.bool ko,hH,v6]] cb=.ret (.str u0) da/\I.sound hH=true/\I.sound v6=true/\aB.loadCells (aZ.room 6) h.n (0+2) 4=some [.str eP,.bool ko,hH,v6]/\i+1<9223372036854775808/\Q .nrm (ah.mk [(2,.slice b off N aH),(7,.str u0),(8,.int .i64 (.ofNat (i+1)))] [] .none da))/\(qU=false->Q .ret (ah.mk [(2,.slice b off N aH),(6,.str []),(7,.str bL),(8,.int .i64 (.ofNat i))] [] .none aZ)))/\(dP=false->∃xv:List UInt8,∃e2:J,call (.fn 44) [.str bL,.int .u64 (.ofNat 0)] ar=.ret (.str xv) e2/\i+1<9223372036854775808/\Q .nrm (ah.mk [(2,.slice b off N aH),(7,.str xv),(8,.int .i64 (.ofNat (i+1)))] [] .none e2)))/\(¬i<N->Q (.exit 0) (ah.mk [(2,.slice b off N aH),(7,.str s),(8,.int .i64 (.ofNat i))] [] .none h))):
  bj Tryz.prog Tryz.f15 call [1,1,1,0,1,0,0] ⟨[(2,.slice b off N aH),(7,.str s),(8,.int .i64 (.ofNat i))],[],.none,h⟩ Q:=
 eu [(28,.b7 (.fM [.st,.b,.st,.b,.o,.o]))] [2,6,7,8] [(2,.v (.slice b off N aH)),(7,.v (.str s)),(8,.v (.int .i64 (.ofNat i)))] rfl (Eq.mp (by kernel_rfl) H)
theorem W8(call:aF->List I->J->ao)(i:Nat)(v:I)(s:List UInt8)(h:J){Q:bw->ah->Prop}(H:∃aN:Nat,bO Tryz.prog h 33 v=some (.int .i64 (.ofNat aN))/\¬i<aN/\Q (.exit 0) (ah.mk [(7,.str s)] [] .none h)):
  bj Tryz.prog Tryz.f15 call [1,1,1,0,1,0,0] ⟨[(2,v),(7,.str s),(8,.int .i64 (.ofNat i))],[],.none,h⟩ Q:=
 eu [(1022,.f)] [7] [(2,.o v),(7,.v (.str s)),(8,.v (.int .i64 (.ofNat i)))] rfl (Eq.mp (by kernel_rfl) H)
theorem W9(m:Nat)(v:I)(h:J){R:ao->Prop}(H:bj Tryz.prog Tryz.f14 (Y m) [1,1,0,1,0] (ah.mk [(0,v),(3,.bf),(4,.int .i64 (.ofNat 0))] [] .none h) (λcq cr=>∃v1:I,∃al:J,∃bl:Env,cq=.exit 0/\cr=ah.mk bl [] .none al/\cg [(3,v1)] bl/\R (.ret v1 al))):
  R (Y (m+1) (.fn 14) [v] h):=
 dp (intr:=bW) [(4000,.hD [0,3,4] [(.exit 0,[(3,.o)])])] [(0,.o v)] Tryz.func14 (by kernel_rfl) (by kernel_rfl) (by kernel_rfl) rfl (Eq.mp (by kernel_rfl) H)
theorem W_(call:aF->List I->J->ao)(b:Nat)(off:Nat)(N:Nat)(i:Nat)(aH:ch)(w:I)(h:J){Q:bw->ah->Prop}(H:(i<N->(i<10->i<N/\∃s1:List UInt8,au (h.room 29) b (off+i*6+0)=some (.str s1)/\i<N/\∃s2:List UInt8,au (h.room 29) b (off+i*6+0)=some (.str s2)/\∃aN:Nat,hM ir (.int .i64 (.ofNat (List.length s2))) [.int .i64 (.ofNat 50)]=some (.int .i64 (.ofNat aN))/\∃bq:List UInt8,e1 Tryz.prog (h.room 29) 9 (.str s1) none (some (.int .i64 (.ofNat aN))) none=some (.str bq)/\i<N/\∃a5:Bool,au (h.room 29) b (off+i*6+1)=some (.bool a5)/\i<N/\∃bL:List UInt8,∃bt:Bool,∃v1:I,∃v2:I,aB.loadCells (h.room 29) b (off+i*6+2) 4=some [.str bL,.bool bt,v1,v2]/\∃cB:List UInt8,∃dP:Bool,∃dc:I,∃v4:I,∃al:J,call (.fn 16) [.agg [.str bL,.bool bt,v1,v2]] (h.room 29)=.ret (.agg [.str cB,.bool dP,dc,v4]) al/\I.b0 dc=true/\I.b0 v4=true/\I.b0 dc=true/\I.b0 v4=true/\∃bz:Nat,∃cm:Nat,∃ar:J,gx Tryz.prog (J.set al (h.n+26) (some (.cells [.str bq,.bool a5,.str cB,.bool dP,dc,v4] 55 .own 0 0))) 33 (some 33) w (.slice (h.n+26) 0 1 (.exact 1))=some (.slice bz 0 cm (.aS 6),ar)/\I.sound w=true/\au (J.set al (h.n+26) (some (.cells [.str bq,.bool a5,.str cB,.bool dP,dc,v4] 55 .own 0 0))) b (off+i*6+0)=some (.str s1)/\au (J.set al (h.n+26) (some (.cells [.str bq,.bool a5,.str cB,.bool dP,dc,v4] 55 .own 0 0))) b (off+i*6+0)=some (.str s2)/\hM ir (.int .i64 (.ofNat (List.length s2))) [.int .i64 (.ofNat 50)]=some (.int .i64 (.ofNat aN))/\e1 Tryz.prog (J.set al (h.n+26) (some (.cells [.str bq,.bool a5,.str cB,.bool dP,dc,v4] 55 .own 0 0))) 9 (.str s1) none (some (.int .i64 (.ofNat aN))) none=some (.str bq)/\au (J.set al (h.n+26) (some (.cells [.str bq,.bool a5,.str cB,.bool dP,dc,v4] 55 .own 0 0))) b (off+i*6+1)=some (.bool a5)/\I.sound v1=true/\I.sound v2=true/\I.sound dc=true/\I.sound v4=true/\i+1<9223372036854775808/\Q .nrm (ah.mk [(0,.slice b off N aH),(3,.slice bz 0 cm (.aS 6)),(4,.int .i64 (.ofNat (i+1)))] [] .none ar))/\(¬i<10->Q (.exit 0) (ah.mk [(0,.slice b off N aH),(3,w),(4,.int .i64 (.ofNat i))] [] .none h)))/\(¬i<N->Q (.exit 0) (ah.mk [(0,.slice b off N aH),(3,w),(4,.int .i64 (.ofNat i))] [] .none h))):
  bj Tryz.prog Tryz.f14 call [1,1,0,1,0,0] ⟨[(0,.slice b off N aH),(3,w),(4,.int .i64 (.ofNat i))],[],.none,h⟩ Q:=
 eu [(42,.b7 (.wK (.aS 6)))] [0,3,4] [(0,.v (.slice b off N aH)),(3,.o w),(4,.v (.int .i64 (.ofNat i)))] rfl (Eq.mp (by kernel_rfl) H)
theorem KS(call:aF->List I->J->ao)(i:Nat)(v:I)(w:I)(h:J){Q:bw->ah->Prop}(H:∃aN:Nat,bO Tryz.prog h 31 v=some (.int .i64 (.ofNat aN))/\(i<aN->¬i<10/\Q (.exit 0) (ah.mk [(3,w)] [] .none h))/\(¬i<aN->Q (.exit 0) (ah.mk [(3,w)] [] .none h))):
  bj Tryz.prog Tryz.f14 call [1,1,0,1,0,0] ⟨[(0,v),(3,w),(4,.int .i64 (.ofNat i))],[],.none,h⟩ Q:=
 eu [(1012,.f)] [3] [(0,.o v),(3,.o w),(4,.v (.int .i64 (.ofNat i)))] rfl (Eq.mp (by kernel_rfl) H)
theorem Xa(m:Nat)(p:List UInt8)(q:List UInt8)(v:I)(h:J){R:ao->Prop}(H:∃aN:Nat,hM ir (.int .i64 (.ofNat (List.length p))) [.int .i64 (.ofNat 50)]=some (.int .i64 (.ofNat aN))/\∃s1:List UInt8,e1 Tryz.prog (h.room 12) 9 (.str p) none (some (.int .i64 (.ofNat aN))) none=some (.str s1)/\∃bz:Nat,hM ir (.int .i64 (.ofNat (List.length q))) [.int .i64 (.ofNat 300)]=some (.int .i64 (.ofNat bz))/\∃s2:List UInt8,e1 Tryz.prog (h.room 12) 9 (.str q) none (some (.int .i64 (.ofNat bz))) none=some (.str s2)/\∃v1:I,∃al:J,(Y m) (.fn 14) [v] (h.room 12)=.ret v1 al/\∃bq:List UInt8,∃ar:J,(Y m) (.fn 13) [.str s1,.str s2,v1] al=.ret (.str bq) ar/\∃v2:I,∃aZ:J,(Y m) (.fn 14) [v] ar=.ret v2 aZ/\∃bL:List UInt8,∃cb:J,(Y m) (.fn 15) [.str s1,.str s2,v2] aZ=.ret (.str bL) cb/\dU bq bL=true/\∃a5:Bool,∃da:J,(Y m) (.fn 12) [] cb=.ret (.bool a5) da/\R (.ret (.bool a5) da)):
  R (Y (m+1) (.fn 4) [.str p,.str q,v] h):=
 dp (intr:=bW) [(1029,.t)] [(0,.v (.str p)),(1,.v (.str q)),(2,.o v)] Tryz.func4 (by kernel_rfl) (by kernel_rfl) (by kernel_rfl) rfl (Eq.mp (by kernel_rfl) H)
structure jl where
 path:aO
 jm:Bool
 f_:mm
def g7(x:jl):aO:=cV x.path++(if x.jm then ct 1++jM x.f_ else ct 0)
def hL(x:jl):Bool:=!x.jm||kY x.f_
def pW(p q:aO)(l:List jl):aO:=cV p++(cV q++(ct l.length++(l.map g7).flatten))
def jq(p q:aO)(l:List jl):aO:=if l.all hL then pW p q l else[]
def Ax(x:jl)(v w:I):List I:=[.str x.path,.bool x.jm,.str x.f_.path,.bool x.f_.gv,v,w]
abbrev pX(x:jl)(v w:I):cp:=.cells [.str x.path,.bool x.jm,.str x.f_.path,.bool x.f_.gv,v,w] 55 .own 0 0
def oR(B:Nat)(h:J)(v:I)(l:List jl):Prop:=(v=.bf/\l=[])\/∃b off aH,v=.slice b off l.length aH/\b<B/\∀i (ae:i<l.length),∃vv bR,aB.loadCells h b (off+i*6) 6=some (Ax l[i] vv bR)/\mo B h vv bR l[i].f_
structure xK(l:List jl):Prop where
 n:l.length<=1000
 p:∀x∈l,x.path.length<=90000
 f:∀x∈l,pS x.f_
theorem u_{B b o n:Nat}{h g:J}{cs:List I}(e:Ext B h g)(af:b<B)(aq:aB.loadCells h b o n=some cs):aB.loadCells g b o n=some cs:=by
 unfold aB.loadCells at aq⊢
 rw[e.get b af];exact aq
theorem oR.len{B:Nat}{h:J}{v:I}{l:List jl}(o:oR B h v l)(g:J):bO Tryz.prog g 33 v=some (.int .i64 (Int.ofNat l.length)):=by
 rcases o with⟨rfl,rfl⟩|⟨b,off,aH,rfl,_⟩<;>rfl
theorem KT{p q EC bG:aO}{t b C8 lS:Bool}{v w v' w':I}(aC:v.b0=true)(hw:w.b0=true):eR 0 [.str p,.bool t,.str q,.bool b,v,w] [.str EC,.bool C8,.str bG,.bool lS,v',w']=some [.str p,.bool t,.str q,.bool b,v,w]:=ud [.str p,.bool t,.str q,.bool b,v,w] _ (by simp[I.b0] at*;exact⟨aC,hw⟩) (Nat.le_refl _)
theorem Xb(m:Nat){B:Nat}{h:J}{vv bR:I}{x:jl}(hm:460<=m)(bI:B<=h.n)(hs:mo B h vv bR x.f_)(hf:pS x.f_):bM B h (.bool (!hL x)) (Y (m+2) (.fn 37) [.agg (Ax x vv bR)] h):=by
 obtain⟨H,cS⟩:∃H,H=h.push (pX x vv bR):=⟨_,rfl⟩
 have dz:Ext B h H:=by rw[cS];exact Ext.push bI _
 have h9:H.get h.n=some (pX x vv bR):=by rw[cS];exact gf rfl
 refine W0 (m+1) x.path x.f_.path x.jm x.f_.gv vv bR h ⟨hs.v.cell,hs.t.cell,?_⟩
 rw[<-cS]
 refine⟨x.jm,aL h9 rfl,λaU=>?_,λaU=>?_⟩
 · obtain⟨g,c,fl⟩:=Wc m hm (Nat.le_trans bI dz.n) (hs.b6 dz) hf
   exact⟨_,_,_,_,nC h9 rfl,_,g,c,bM.of (eo (by simp[hL,aU])) (dz.trans (Nat.le_refl _) fl)⟩
 · exact bM.of (eo (by simp[hL,aU])) dz
theorem KU{l:List jl}(h:∀j (aG:j<l.length),hL l[j]=true):l.all hL=true:=List.all_eq_true.2 λx ab=>by
 obtain⟨j,aG,rfl⟩:=List.getElem_of_mem ab
 exact h j aG
theorem KV{l:List jl}{i:Nat}(ae:i<l.length)(h:hL l[i]=false):l.all hL=false:=by
 cases e:l.all hL with
 |false=>rfl
 |true=>rw[List.all_eq_true.1 e l[i] (List.getElem_mem ae)] at h;cases h
theorem Xc(m:Nat){B:Nat}{h:J}{v:I}{l:List jl}(hm:460<=m)(bI:B<=h.n)(aC:oR B h v l)(hf:xK l):bM B h (.bool (!l.all hL)) (Y (m+4) (.fn 36) [v,.fn 37 [] []] h):=by
 refine WW (m+3) v h ?_
 have aI:=hf.n
 have key:∃i g,Y (m+3) (.fn 63) [v,.fn 37 [] []] h=.ret (.int .i64 i) g/\dv (Int.ofNat 0) i=(!l.all hL)/\Ext B h g:=by
  refine WX (m+2) v h (R:=λx=>∃i g,x=.ret (.int .i64 i) g/\dv (Int.ofNat 0) i=(!l.all hL)/\Ext B h g) ⟨l.length,aC.len h,?_⟩
  refine bj.loop (by kernel_rfl) (λk st=>∃i x Γ,st=⟨Γ,[],.none,x⟩/\cg [(0,v),(1,.fn 37 [] []),(7,.int .i64 (Int.ofNat l.length)),(8,.int .i64 (Int.ofNat i))] Γ/\l.length-i=k/\i<=l.length/\Ext B h x/\∀j (aG:j<l.length),j<i->hL l[j]=true) ?_ l.length _ (by omega) ⟨0,h,_,rfl,⟨rfl,rfl,rfl,rfl,trivial⟩,by omega,by omega,Ext.refl _ _,λj aG k7=>by omega⟩
  rintro k st ⟨i,x,Γ,rfl,cJ,av,ae,ab,bp⟩
  rcases aC with⟨rfl,rfl⟩|⟨b,off,aH,rfl,af,aq⟩
  · exact bj.pre (WZ (Y (m+2)) _ i _ x ⟨by simp,.inl ⟨x,_,rfl,rfl,trivial,_,x,rfl,rfl,ab⟩⟩) cJ rfl rfl rfl
  · refine bj.pre (WY (Y (m+2)) b off _ i aH x ⟨λaa=>?_,λaa=>?_⟩) cJ rfl rfl rfl
    · obtain⟨vv,bR,bQ,cl⟩:=aq i aa
      obtain⟨g,c1,a8⟩:=Xb m hm (Nat.le_trans bI ab.n) (cl.b6 ab) (hf.f _ (List.getElem_mem aa))
      have ak:=ab.trans (Nat.le_refl _) a8
      refine⟨aa,_,_,_,_,vv,bR,u_ ab af bQ,_,g,c1,λag=>?_,λag=>?_⟩
      · refine .inr ⟨i,g,_,rfl,rfl,⟨rfl,trivial⟩,_,g,rfl,?_,ak⟩
        rw[KV aa (by simpa using ag)];exact iD (by omega)
      · refine⟨by omega,_,(by show _<k;omega),i+1,g,_,rfl,⟨rfl,rfl,rfl,rfl,trivial⟩,rfl,by omega,ak,λj aG k7=>?_⟩
        by_cases e:j=i
        · subst e;simpa using ag
        · exact bp j aG (by omega)
    · refine .inl ⟨x,_,rfl,rfl,trivial,_,x,rfl,?_,ab⟩
      rw[KU λj aG=>bp j aG (by omega)];rfl
 obtain⟨i,g,c1,ax,a8⟩:=key
 exact⟨i,g,c1,bM.of (eo ax.symm) a8⟩
theorem Xd(m:Nat){b c B:Nat}{h0 y:J}{s:aO}{vv bR:I}{x:jl}(hm:250<=m)(af:B<=b)(a2:g5 b y s)(dH:Ext B h0 y)(ag:c<y.n)(ke:c≠b)(gc:y.get c=some (.cells [.ptr b 0] 79 .own 0 0))(hs:mo B h0 vv bR x.f_)(hf:pS x.f_)(a_:x.path.length<=90000)(ml:hL x=true)(aq:s.length+(g7 x).length<=1000000):
  m8 b y (s++g7 x) (Y (m+2) (.fn 40) [.agg (Ax x vv bR),.ptr c 0] y):=by
 obtain⟨P,q7⟩:∃P,P=y.push (pX x vv bR):=⟨_,rfl⟩
 have Ay:Ext y.n y P:=by rw[q7];exact Ext.push (Nat.le_refl _) _
 have qH:P.get y.n=some (pX x vv bR):=by rw[q7];exact gf rfl
 have YH:P.n=y.n+1:=by rw[q7];rfl
 have Fb:=a2.1
 have xD:=(a2.ext Ay).room 6
 obtain⟨al,c1,bl,a8⟩:=th (m-5) b s x.path (P.room 6) xD (by omega) (by omega)
 rw[show m-5+6=m+1 by omega] at c1
 have hn:eJ b y.n y al:=(Ay.mX b).trans Ay.n (((Ext.room _ P 6).mX b).trans (Nat.le_refl _) (a8.le (by simp)))
 have Al:al.get y.n=some (pX x vv bR):=(a8.get y.n (by simp;omega) (by omega)).trans qH
 have EI:al.get c=some (.cells [.ptr b 0] 79 .own 0 0):=(hn.get c ag ke).trans gc
 have aN:y.n<al.n:=by have:=a8.n;simp at this;omega
 refine W1 (m+1) x.path x.f_.path x.jm x.f_.gv vv bR c y ⟨hs.v.cell,hs.t.cell,?_⟩
 rw[<-q7]
 refine⟨b,aL (nB ((Ay.get c ag).trans gc)) rfl,x.path,aL (nB qH) rfl,al,c1,x.jm,aL Al rfl,λaU=>?_,λaU=>?_⟩
 · have bI:g7 x=cV x.path++(ct 1++jM x.f_):=by unfold g7;rw[aU];rfl
   rw[bI] at aq⊢
   simp only[List.length_append] at aq
   obtain⟨ar,c2,bB,bu⟩:=pQ (m-4) b 1 (s++cV x.path) al bl (by omega) (by simp only[List.length_append];omega)
   rw[show m-4+5=m+1 by omega] at c2
   have Xe:=(bu.get y.n aN (by omega)).trans Al
   have Xf:=(bu.get c (by omega) ke).trans EI
   have lH:=hn.trans hn.n bu
   have qm:kY x.f_=true:=by simpa[hL,aU] using ml
   obtain⟨aZ,c3,de,cU⟩:=Wf m (b:=b) (B:=B) (h0:=h0) (y:=ar) (by omega) af bB (a2.below af dH lH) hs hf (Ku hf qm) (by simp only[List.length_append];omega)
   exact⟨b,aL EI rfl,ar,c2,b,aL Xf rfl,_,_,_,_,nC Xe rfl,aZ,c3,aZ,rfl,by simpa only[List.append_assoc] using de,lH.trans lH.n cU⟩
 · have bI:g7 x=cV x.path++ct 0:=by unfold g7;rw[aU];rfl
   rw[bI] at aq⊢
   simp only[List.length_append] at aq
   obtain⟨ar,c2,bB,bu⟩:=pQ (m-4) b 0 (s++cV x.path) al bl (by omega) (by simp only[List.length_append];omega)
   rw[show m-4+5=m+1 by omega] at c2
   exact⟨b,aL EI rfl,ar,c2,ar,rfl,by simpa only[List.append_assoc] using bB,hn.trans hn.n bu⟩
theorem Xg(m:Nat){b c B:Nat}{h0 x:J}{v:I}{l:List jl}{s:aO}(hm:250<=m)(af:B<=b)(ai:oR B h0 v l)(hf:xK l)(ml:∀e∈l,hL e=true)(ab:g5 b x s)(dt:Ext B h0 x)(ag:c<x.n)(ke:c≠b)(gc:x.get c=some (.cells [.ptr b 0] 79 .own 0 0))(aq:s.length+(ct l.length++(l.map g7).flatten).length<=1000000):
  m8 b x (s++(ct l.length++(l.map g7).flatten)) (Y (m+3) (.fn 39) [.ptr b 0,v,.fn 40 [] [.ptr c 0]] x):=by
 simp only[List.length_append] at aq
 have aI:=hf.n
 obtain⟨al,c1,bl,a8⟩:=pQ (m-3) b l.length s x ab (by omega) (by omega)
 rw[show m-3+5=m+2 by omega] at c1
 refine W2 (m+2) b v c x ⟨_,ai.len x,al,c1,_,ai.len al,?_⟩
 refine bj.loop (by kernel_rfl) (λk st=>∃i y Γ,st=⟨Γ,[],.none,y⟩/\cg [(2,.fn 40 [] [.ptr c 0]),(14,v),(15,.int .i64 (Int.ofNat l.length)),(16,.int .i64 (Int.ofNat i))] Γ/\l.length-i=k/\i<=l.length/\g5 b y (s++(ct l.length++((l.map g7).take i).flatten))/\eJ b x.n x y) ?_ l.length _ (by omega) ⟨0,al,_,rfl,⟨rfl,rfl,rfl,rfl,trivial⟩,by omega,by omega,by simpa using bl,a8⟩
 rintro k st ⟨i,y,Γ,rfl,cJ,av,ae,a2,hK⟩
 have dH:=ab.below af dt hK
 have Au:=hK.n
 by_cases aa:i<l.length
 · rcases ai with⟨_,rfl⟩|⟨dT,off,aH,rfl,j6,fA⟩
   · simp at aa
   obtain⟨vv,bR,ft,aU⟩:=fA i aa
   have ad:i<(l.map g7).length:=by simpa using aa
   have t1:=tf (l.map g7) (i+1)
   have t2:=te (l.map g7) ad
   rw[t2,List.getElem_map] at t1
   simp only[List.length_append] at t1
   obtain⟨g,ak⟩:∃g,g=(y.push (.cells [.str [],.bool false,.str [],.bool false,.bf,.bf] 55 .own 0 0)).set y.n (some (pX l[i] vv bR)):=⟨_,rfl⟩
   have cf:aB.storeCells (y.push (.cells [.str [],.bool false,.str [],.bool false,.bf,.bf] 55 .own 0 0)) y.n 0 [.str l[i].path,.bool l[i].jm,.str l[i].f_.path,.bool l[i].f_.gv,vv,bR]=some g:=by
    rw[ak];exact iE (gf rfl) rfl (KT aU.v.cell aU.t.cell)
   have nV:g.get y.n=some (pX l[i] vv bR):=by rw[ak];exact iW rfl
   have fl:Ext y.n y g:=by rw[ak];exact(Ext.push (Nat.le_refl _) _).hg (Nat.le_refl _)
   have sS:=fl.n
   have lD:B<=y.n:=Nat.le_trans af (Nat.le_of_lt a2.1)
   have hj:=dH.trans (Nat.le_refl _) (fl.le lD)
   have Xh:g.get c=some (.cells [.ptr b 0] 79 .own 0 0):=(fl.get c (by omega)).trans ((hK.get c ag ke).trans gc)
   obtain⟨ar,c2,bB,bu⟩:=Xd m (b:=b) (c:=c) (B:=B) (h0:=h0) (y:=g) (x:=l[i]) (by omega) af (a2.ext fl) hj (by omega) ke Xh aU (hf.f _ (List.getElem_mem aa)) (hf.p _ (List.getElem_mem aa)) (ml _ (List.getElem_mem aa)) (by simp only[List.length_append];omega)
   refine bj.pre (W3 (Y (m+2)) dT off _ i aH c y ⟨λ_=>⟨aa,_,_,_,_,vv,bR,u_ dH j6 ft,aU.v.cell,aU.t.cell,g,cf,_,_,_,_,vv,bR,nC nV rfl,ar,c2,by omega,?_⟩,λaj=>absurd aa aj⟩) cJ rfl rfl rfl
   refine⟨_,(by show l.length-(i+1)<k;omega),i+1,ar,_,rfl,⟨rfl,rfl,rfl,rfl,trivial⟩,rfl,by omega,?_,hK.trans hK.n ((fl.mX b).trans fl.n bu)⟩
   rw[t2,List.getElem_map]
   simpa only[List.append_assoc] using bB
 · refine bj.pre (W4 (Y (m+2)) l.length i v c y ⟨aa,y,_,rfl,rfl,trivial,y,rfl,?_,hK⟩) cJ rfl rfl rfl
   rw[List.take_of_length_le (by simp;omega)] at a2
   exact a2
theorem Xi(m:Nat){B:Nat}{h:J}{v:I}{l:List jl}{p q:aO}(hm:470<=m)(bI:B<=h.n)(aC:oR B h v l)(hf:xK l)(a_:p.length<=90000)(bp:q.length<=90000)(aq:(pW p q l).length<=1000000):bM B h (.str (jq p q l)) (Y (m+5) (.fn 13) [.str p,.str q,v] h):=by
 obtain⟨al,c1,a8⟩:=Xc m (by omega) bI aC hf
 refine W5 (m+4) p q v h ⟨_,al,c1,λaf=>?_,λaf=>?_⟩
 · exact bM.of (by unfold jq;rw[show l.all hL=false by simpa using af];rfl) a8
 have e7:l.all hL=true:=by simpa using af
 have av:jq p q l=pW p q l:=by unfold jq;rw[e7];rfl
 rw[av]
 unfold pW at aq⊢
 simp only[List.length_append] at aq
 have kT:=Nat.le_trans bI a8.n
 obtain⟨KW,Az⟩:∃P,P=al.push (.cells [.str []] 83 .own 0 0):=⟨_,rfl⟩
 have aN:KW.n=al.n+1:=by rw[Az];rfl
 obtain⟨KX,xL⟩:∃P,P=KW.push (.cells [.bm] 79 .own 0 0):=⟨_,rfl⟩
 obtain⟨ar,m4⟩:∃g,g=KX.set (al.n+1) (some (.cells [.ptr al.n 0] 79 .own 0 0)):=⟨_,rfl⟩
 have s2:aB.storeCells KX (al.n+1) 0 [.ptr al.n 0]=some ar:=by rw[m4];exact iE (by rw[xL];exact gf aN.symm) rfl rfl
 have bz:ar.n=al.n+2:=by rw[m4,xL];simp;omega
 have bu:Ext al.n al ar:=by rw[m4];refine Ext.hg (by omega) ?_;rw[xL];refine Ext.po (by omega) ?_;rw[Az];exact Ext.push (Nat.le_refl _) _
 have o4:g5 al.n ar []:=⟨by omega,by rw[m4];refine pn (by omega) ?_;rw[xL];refine zt (by omega) ?_;rw[Az];exact gf rfl⟩
 have gc:ar.get (al.n+1)=some (.cells [.ptr al.n 0] 79 .own 0 0):=by rw[m4];exact iW rfl
 have ay:Ext B h ar:=a8.trans (Nat.le_refl _) (bu.le kT)
 obtain⟨aZ,c3,de,cU⟩:=th (m-2) al.n [] p ar o4 (by simp) (by omega)
 rw[show m-2+6=m+4 by omega] at c3
 have Ag:=(cU.get (al.n+1) (by omega) (by omega)).trans gc
 obtain⟨cb,c4,jH,h5⟩:=th (m-2) al.n _ q aZ de (by simp;omega) (by omega)
 rw[show m-2+6=m+4 by omega] at c4
 have aw:=cU.n
 have aQ:=h5.n
 have EJ:=(h5.get (al.n+1) (by omega) (by omega)).trans Ag
 have Xj:=cU.trans cU.n h5
 have en:Ext B h cb:=ay.trans (Nat.le_refl _) (dQ.below kT (by omega) Xj)
 obtain⟨da,nQ,hh,zF⟩:=Xg (m+1) (b:=al.n) (c:=al.n+1) (B:=B) (h0:=h) (x:=cb) (by omega) kT aC hf (List.all_eq_true.1 e7) jH en (by omega) (by omega) EJ (by simp only[List.length_append,List.length_nil];omega)
 have Xk:=(zF.get (al.n+1) (by omega) (by omega)).trans EJ
 subst xL
 subst Az
 exact⟨ar,s2,al.n,aL gc rfl,aZ,c3,al.n,aL Ag rfl,cb,c4,al.n,aL EJ rfl,da,nQ,al.n,aL Xk rfl,_,aL hh.2 rfl,bM.of (by simp only[List.nil_append,List.append_assoc]) (en.trans (Nat.le_refl _) (dQ.below kT (by omega) zF))⟩
theorem Xl(m:Nat){B:Nat}{h:J}{v:I}{l:List jl}{p q:aO}(hm:470<=m)(bI:B<=h.n)(aC:oR B h v l)(hf:xK l)(a_:p.length<=90000)(bp:q.length<=90000)(aq:(pW p q l).length<=1000000):bM B h (.str (jq p q l)) (Y (m+2) (.fn 15) [.str p,.str q,v] h):=by
 have aI:=hf.n
 have AW:=aq
 unfold pW at aq
 simp only[List.length_append] at aq
 obtain⟨al,c1,a8⟩:=dg.td (m-2) [] p h (by simp) (by omega)
 rw[show m-2+3=m+1 by omega] at c1
 obtain⟨ar,c2,bu⟩:=dg.td (m-2) ([]++cV p) q al (by simp;omega) (by omega)
 rw[show m-2+3=m+1 by omega] at c2
 obtain⟨aZ,c3,cU⟩:=dg.nT (m-1) l.length ([]++cV p++cV q) ar (by omega) (by simp;omega)
 rw[show m-1+2=m+1 by omega] at c3
 have ax:Ext B h al:=a8.le bI
 have ay:Ext B h ar:=ax.trans (Nat.le_refl _) (bu.le (Nat.le_trans bI ax.n))
 have bF:Ext B h aZ:=ay.trans (Nat.le_refl _) (cU.le (Nat.le_trans bI ay.n))
 refine W6 (m+1) p q v h ⟨_,al,c1,_,ar,c2,l.length,aC.len ar,_,Aj l.length (by omega) ar,_,aZ,c3,?_⟩
 refine bj.loop (by kernel_rfl) (λk st=>∃i y Γ,st=⟨Γ,[],.none,y⟩/\cg [(2,v),(7,.str ([]++cV p++cV q++ct l.length++((l.map g7).take i).flatten)),(8,.int .i64 (Int.ofNat i))] Γ/\l.length-i=k/\i<=l.length/\Ext B h y/\∀j (aG:j<l.length),j<i->hL l[j]=true) ?_ l.length _ (by omega) ⟨0,aZ,_,rfl,⟨rfl,by simp[eQ],rfl,trivial⟩,by omega,by omega,bF,λj aG k7=>by omega⟩
 rintro k st ⟨i,y,Γ,rfl,cJ,av,ae,dH,yE⟩
 have lD:=Nat.le_trans bI dH.n
 by_cases aa:i<l.length
 · rcases aC with⟨_,rfl⟩|⟨dT,off,aH,rfl,j6,fA⟩
   · simp at aa
   obtain⟨vv,bR,ft,aU⟩:=fA i aa
   have ad:i<(l.map g7).length:=by simpa using aa
   have t1:=tf (l.map g7) (i+1)
   have t2:=te (l.map g7) ad
   rw[t2,List.getElem_map] at t1
   simp only[List.length_append] at t1
   have iQ:=hf.p _ (List.getElem_mem aa)
   have EK:=hf.f _ (List.getElem_mem aa)
   obtain⟨g,ak⟩:∃g,g=(y.push (.cells [.str [],.bool false,.str [],.bool false,.bf,.bf] 55 .own 0 0)).set y.n (some (pX l[i] vv bR)):=⟨_,rfl⟩
   have cf:aB.storeCells (y.push (.cells [.str [],.bool false,.str [],.bool false,.bf,.bf] 55 .own 0 0)) y.n 0 [.str l[i].path,.bool l[i].jm,.str l[i].f_.path,.bool l[i].f_.gv,vv,bR]=some g:=by
    rw[ak];exact iE (gf rfl) rfl (KT aU.v.cell aU.t.cell)
   have nV:g.get y.n=some (pX l[i] vv bR):=by rw[ak];exact iW rfl
   have fl:Ext y.n y g:=by rw[ak];exact(Ext.push (Nat.le_refl _) _).hg (Nat.le_refl _)
   have KY:y.n<g.n:=by rw[ak];simp
   have hj:=dH.trans (Nat.le_refl _) (fl.le lD)
   have kT:=Nat.le_trans bI hj.n
   have jS:([]++cV p++cV q++ct l.length++((l.map g7).take i).flatten).length+(g7 l[i]).length<=1000000:=by simp only[List.length_append,List.length_nil];omega
   obtain⟨s,hs⟩:∃s,s=[]++cV p++cV q++ct l.length++((l.map g7).take i).flatten:=⟨_,rfl⟩
   rw[<-hs] at jS cJ
   obtain⟨f1,d1,dn⟩:=dg.td (m-2) s l[i].path g (by omega) (by omega)
   rw[show m-2+3=m+1 by omega] at d1
   have EL:=(dn.get y.n KY).trans nV
   have AA:Ext B h f1:=hj.trans (Nat.le_refl _) (dn.le kT)
   have EM:=Nat.le_trans bI AA.n
   have KZ:y.n<f1.n:=Nat.lt_of_lt_of_le KY dn.n
   have K0:∀(Z w':aO),w'=s++g7 l[i]->eQ 7 [(2,I.slice dT off l.length aH),(7,I.str w'),(8,I.int .i64 (Int.ofNat (i+1)))]=some (.str ([]++cV p++cV q++ct l.length++((l.map g7).take (i+1)).flatten)):=λ_ w' e=>by
    show some (I.str w')=_
    rw[e,t2,List.getElem_map,hs]
    simp only[List.append_assoc]
   have tE:hL l[i]=true->∀j (aG:j<l.length),j<i+1->hL l[j]=true:=λdV j aG k7=>by
    by_cases e:j=i
    · subst e;exact dV
    · exact yE j aG (by omega)
   refine bj.pre (W7 (Y (m+1)) dT off _ i aH s y ⟨λ_=>⟨aa,_,_,_,_,vv,bR,u_ dH j6 ft,aU.v.cell,aU.t.cell,g,cf,_,aL nV rfl,_,f1,d1,l[i].jm,aL EL rfl,λxM=>?_,λxM=>?_⟩,λaj=>absurd aa aj⟩) cJ rfl rfl rfl
   · have xN:g7 l[i]=cV l[i].path++(ct 1++jM l[i].f_):=by unfold g7;rw[xM];rfl
     have xO:=jS
     rw[xN] at xO
     simp only[List.length_append] at xO
     obtain⟨f2,d2,fj⟩:=Wd m (by omega) (Nat.le_refl f1.n) ((aU.b6 AA).le EM) EK
     have K1:=(fj.get y.n KZ).trans EL
     have K2:Ext B h f2:=AA.trans (Nat.le_refl _) (fj.le EM)
     have YI:y.n<f2.n:=Nat.lt_of_lt_of_le KZ fj.n
     refine⟨_,_,_,_,nC EL rfl,_,f2,d2,λqm=>?_,λqm=>?_⟩
     · obtain⟨f3,d3,jU⟩:=dg.nT (m-1) 1 (s++cV l[i].path) (f2.room 6) (by omega) (by simp only[List.length_append];omega)
       rw[show m-1+2=m+1 by omega] at d3
       have Xm:=(jU.get y.n (by simp;omega)).trans (nB K1)
       have ai:Ext B h (f2.room 6):=K2.il
       have EN:Ext B h f3:=ai.trans (Nat.le_refl _) (jU.le (Nat.le_trans bI ai.n))
       obtain⟨f4,d4,Xn⟩:=Wg m (by omega) (Nat.le_trans bI EN.n) (aU.b6 EN) EK (Ku EK qm) (s:=s++cV l[i].path++ct 1) (by simp only[List.length_append];omega)
       refine⟨_,f3,d3,_,_,_,_,nC Xm rfl,_,f4,d4,aU.v.snd,aU.t.snd,nC (nB K1) rfl,by omega,?_⟩
       exact⟨_,(by show l.length-(i+1)<k;omega),i+1,f4,_,rfl,⟨rfl,K0 [] _ (by rw[xN];simp only[List.append_assoc]),rfl,trivial⟩,rfl,by omega,EN.trans (Nat.le_refl _) Xn,tE (by simp[hL,qm])⟩
     · refine .inr ⟨f2,_,rfl,rfl,⟨rfl,trivial⟩,bM.of ?_ K2⟩
       unfold jq
       rw[KV aa (by simp[hL,xM,qm])];rfl
   · have xN:g7 l[i]=cV l[i].path++ct 0:=by unfold g7;rw[xM];rfl
     have xO:=jS
     rw[xN] at xO
     simp only[List.length_append] at xO
     obtain⟨f2,d2,fj⟩:=dg.nT (m-1) 0 (s++cV l[i].path) f1 (by omega) (by simp only[List.length_append];omega)
     rw[show m-1+2=m+1 by omega] at d2
     exact⟨_,f2,d2,by omega,_,(by show l.length-(i+1)<k;omega),i+1,f2,_,rfl,⟨rfl,K0 [] _ (by rw[xN];simp only[List.append_assoc]),rfl,trivial⟩,rfl,by omega,AA.trans (Nat.le_refl _) (fj.le EM),tE (by simp[hL,xM])⟩
 · refine bj.pre (W8 (Y (m+1)) i v _ y ⟨l.length,aC.len y,aa,.inl ⟨_,y,_,rfl,rfl,⟨rfl,trivial⟩,bM.of ?_ dH⟩⟩) cJ rfl rfl rfl
   rw[List.take_of_length_le (by simp;omega)]
   unfold jq pW
   rw[KU λj aG=>yE j aG (by omega)]
   simp only[if_true,List.nil_append,List.append_assoc]
end Go.Proofs.dQ
namespace Go.Proofs.dQ
open Go aB Go.Proofs df Go.Proofs.cD
open Go.Proofs.dg (cV)
open Go.Proofs.gI (ct)
set_option maxRecDepth 100000
set_option maxHeartbeats 1000000
structure j8 where
 path:aO
 jm:Bool
 p:aO
 b:Bool
 c_:List (aO×Nat)
 lt:List (aO×Nat)
noncomputable def EO(x:j8):jl:=⟨cut 50 x.path,x.jm,xG x.p x.b x.c_ x.lt⟩
noncomputable def mv(l:List j8):List jl:=(l.take 10).map EO
theorem va(l:List j8):(mv l).length=min l.length 10:=by simp[mv,Nat.min_comm]
def rv(B:Nat)(h:J)(v:I)(l:List j8):Prop:=(v=.bf/\l=[])\/∃b off aH,v=.slice b off l.length aH/\b<B/\∀i (ae:i<l.length),∃w d,aB.loadCells h b (off+i*6) 6=some [.str l[i].path,.bool l[i].jm,.str l[i].p,.bool l[i].b,w,d]/\m_ B h w d l[i].c_ l[i].lt
theorem rv.ext{B:Nat}{h g:J}{v:I}{l:List j8}(x:Ext B h g)(o:rv B h v l):rv B g v l:=by
 rcases o with o|⟨b,off,aH,aa,ad,aw⟩
 · exact .inl o
 · refine .inr ⟨b,off,aH,aa,ad,λi ae=>?_⟩
   obtain⟨w,d,bQ,cl⟩:=aw i ae
   exact⟨w,d,u_ x ad bQ,cl.ext x⟩
theorem rv.len{B:Nat}{h:J}{v:I}{l:List j8}(o:rv B h v l)(g:J):bO Tryz.prog g 31 v=some (.int .i64 (Int.ofNat l.length)):=by
 rcases o with⟨rfl,rfl⟩|⟨b,off,aH,rfl,_⟩<;>rfl
theorem K3{a b c d e f:I}:∀(o:Nat) (cs:List I),takeN 6 (ho o cs)=some [a,b,c,d,e,f]->nth o cs=some a/\nth (o+1) cs=some b/\takeN 4 (ho (o+2) cs)=some [c,d,e,f]
 |0,a::b::c::d::e::f::l,h=>by cases h;exact⟨rfl,rfl,rfl⟩
 |0,[],h=>by cases h
 |0,[_],h=>by cases h
 |0,[_,_],h=>by cases h
 |0,[_,_,_],h=>by cases h
 |0,[_,_,_,_],h=>by cases h
 |0,[_,_,_,_,_],h=>by cases h
 |o+1,[],h=>by cases h
 |o+1,x::l,h=>K3 o l h
theorem K4{h:J}{b o:Nat}{c9 dJ gA iZ km uv:I}(aq:aB.loadCells h b o 6=some [c9,dJ,gA,iZ,km,uv]):au h b (o+0)=some c9/\au h b (o+1)=some dJ/\aB.loadCells h b (o+2) 4=some [gA,iZ,km,uv]:=by
 unfold aB.loadCells at aq⊢
 unfold au
 split at aq
 · exact K3 o _ aq
 · cases aq
def nb:Option (Nat×Nat×Nat×ch)->I
 |none=>.bf
 |some (b,o,n,c)=>.slice b o n c
theorem K5{F:Nat->Prop}{h:J}{v:I}{l:List gJ}(ai:gT F h v l):∃u,v=nb u:=by
 rcases ai with⟨rfl,_⟩|⟨b,off,aH,rfl,_⟩
 · exact⟨none,rfl⟩
 · exact⟨some (b,off,l.length,aH),rfl⟩
abbrev AB:=aO×Bool×aO×Bool×Option (Nat×Nat×Nat×ch)×Option (Nat×Nat×Nat×ch)
def tn(d:AB):List I:=[.str d.1,.bool d.2.1,.str d.2.2.1,.bool d.2.2.2.1,nb d.2.2.2.2.1,nb d.2.2.2.2.2]
theorem xP(u:Option (Nat×Nat×Nat×ch)):(nb u).b0=true:=by
 cases u<;>rfl
theorem K6:su Tryz.prog tn 6 55 33 where
 hu:=by kernel_rfl
 gk:=by kernel_rfl
 info:=by
  obtain⟨i,ae⟩:=Option.isSome_iff_exists.1 (show(Tryz.prog.info? 55).isSome=true by kernel_rfl)
  refine⟨i,ae,?_,?_⟩
  · have:(Tryz.prog.info? 55).map (·.size)=some 6:=by kernel_rfl
    rw[ae] at this;simpa using this
  · have:(Tryz.prog.info? 55).map (λi=>Nat.ble i.bytes 1000)=some true:=by kernel_rfl
    rw[ae] at this
    exact Nat.le_of_ble_eq_true (by simpa using this)
 zero:=⟨.agg [.str [],.bool false,.str [],.bool false,.bf,.bf],by kernel_rfl,rfl⟩
 size:=by kernel_rfl
 len:=λ_=>rfl
 cell:=λd=>by simp only[tn,List.all_cons,List.all_nil,xP,Bool.and_true];rfl
 pos:=by decide
structure xQ(A:Nat)(l:List j8)(i:Nat)(y:J)(w:I)(F:Nat->Prop)(aW:List AB):Prop where
 o:ki tn 6 55 A y w aW
 n:aW.length=i
 d:∀j (aG:j<aW.length),∃aq:j<l.length,tn aW[j]=Ax (EO l[j]) (nb aW[j].2.2.2.2.1) (nb aW[j].2.2.2.2.2)/\gT F y (nb aW[j].2.2.2.2.1) (hx l[j].c_)/\gT F y (nb aW[j].2.2.2.2.2) (hx l[j].lt)
 f:∀d,F d->A<=d/\d<y.n/\∀n aH,w≠ .slice d 0 n aH
theorem xQ.row{A:Nat}{l:List j8}{i:Nat}{y:J}{w:I}{F:Nat->Prop}{aW:List AB}(p:xQ A l i y w F aW)(ae:i=min l.length 10):oR y.n y w (mv l):=by
 have aI:=p.n
 rcases p.o with⟨rfl,rfl⟩|⟨b,rfl,ad,aw,aQ,bS⟩
 · refine .inl ⟨rfl,?_⟩
   have:(mv l).length=0:=by rw[va];simp at aI;omega
   exact List.length_eq_zero_iff.1 this
 · refine .inr ⟨b,0,.aS 6,by rw[va,<-ae,aI],bS,λj aG=>?_⟩
   rw[va] at aG
   obtain⟨aq,ax,ay,bF⟩:=p.d j (by omega)
   obtain⟨_,_,fr⟩:=ki.load K6 (.inr ⟨b,rfl,ad,aw,aQ,bS⟩:ki tn 6 55 A y (.slice b 0 aW.length (.aS 6)) aW)
   have e:(mv l)[j]'(by rw[va];omega)=EO l[j]:=by simp[mv]
   rw[e]
   refine⟨_,_,(fr j (by omega)).trans (by rw[ax]),⟨gT.at (λd aA=>(p.f d aA).2.1) ay,gT.at (λd aA=>(p.f d aA).2.1) bF⟩⟩
theorem K7(m:Nat){B:Nat}{h:J}{v:I}{l:List j8}(bI:B<=h.n)(aC:rv B h v l):∃v' g,Y (m+5) (.fn 14) [v] h=.ret v' g/\Ext h.n h g/\oR g.n g v' (mv l):=by
 refine W9 (m+4) v h (R:=λx=>∃v' g,x=.ret v' g/\Ext h.n h g/\oR g.n g v' (mv l)) ?_
 refine bj.loop (by kernel_rfl) (λk s=>∃i w F aW y Γ,s=⟨Γ,[],.none,y⟩/\cg [(0,v),(3,w),(4,.int .i64 (Int.ofNat i))] Γ/\min l.length 10-i=k/\i<=min l.length 10/\Ext h.n h y/\xQ h.n l i y w F aW) ?_ (min l.length 10) _ (by omega) ⟨0,.bf,λ_=>False,[],h,_,rfl,⟨rfl,rfl,rfl,trivial⟩,by omega,by omega,Ext.refl _ _,.inl ⟨rfl,rfl⟩,rfl,λj aG=>by simp at aG,λd aA=>aA.elim⟩
 rintro k s ⟨i,w,F,aW,y,Γ,rfl,cJ,av,ae,ab,a7⟩
 have Au:=ab.n
 have fin:i=min l.length 10->∀bU,cg [(3,w)] bU->∃(v1:I) (al:J) (bl:Env),bw.exit 0=.exit 0/\(⟨bU,[],.none,y⟩:ah)=⟨bl,[],.none,al⟩/\cg [(3,v1)] bl/\∃v' g,ao.ret v1 al=.ret v' g/\Ext h.n h g/\oR g.n g v' (mv l):=λe bU ak=>⟨w,y,bU,rfl,rfl,ak,w,y,rfl,ab,a7.row e⟩
 by_cases cY:i<l.length
 · by_cases K8:i<10
   · rcases aC with⟨_,rfl⟩|⟨b,off,aH,rfl,af,kX⟩
     · simp at cY
     obtain⟨Xo,wt,ag,hm⟩:=kX i cY
     obtain⟨H,cS⟩:∃H,H=y.room 29:=⟨_,rfl⟩
     have jf:H.n=y.n+29:=by rw[cS];simp
     have dz:Ext h.n h H:=by rw[cS];exact ab.il
     have Xp:∀d,H.get d=y.get d:=λd=>by rw[cS];rfl
     have Xq:=u_ (dz.le bI) af ag
     obtain⟨ng,bl,bB⟩:=K4 Xq
     have u9:m_ B H Xo wt l[i].c_ l[i].lt:=hm.ext (dz.le bI)
     obtain⟨tl,tm,al,c1,a8,r1,r2⟩:=WJ m (p:=l[i].p) (b:=l[i].b) (show B<=H.n by omega) u9
     have KK:=a8.n
     obtain⟨ig,rfl⟩:=K5 r1
     obtain⟨qo,rfl⟩:=K5 r2
     obtain⟨D,K9⟩:∃D:AB,D=(cut 50 l[i].path,l[i].jm,cut 50 l[i].p,l[i].b,ig,qo):=⟨_,rfl⟩
     obtain⟨iL,nX⟩:∃iL,iL=al.set (y.n+26) (some (.cells [.str (cut 50 l[i].path),.bool l[i].jm,.str (cut 50 l[i].p),.bool l[i].b,nb ig,nb qo] 55 .own 0 0)):=⟨_,rfl⟩
     have Ex:iL.n=al.n:=by rw[nX];simp
     have K_:∀d,d<y.n->iL.get d=y.get d:=λd aA=>by rw[nX];exact pn (by omega) ((a8.get d (by omega)).trans (Xp d))
     have La:Ext y.n y iL:=⟨by omega,K_⟩
     have Lb:Ext h.n h iL:=ab.trans (Nat.le_refl _) (La.le Au)
     have Xr:∀d,H.n<=d->iL.get d=al.get d:=λd aA=>by rw[nX];exact pn (by omega) rfl
     have hs:hW iL 6 (.slice (y.n+26) 0 1 (.exact 1))=some (1,tn D):=by
      have:aB.loadCells iL (y.n+26) 0 (1*6)=some [.str (cut 50 l[i].path),.bool l[i].jm,.str (cut 50 l[i].p),.bool l[i].b,nb ig,nb qo]:=by rw[nX];exact nC (iW rfl) rfl
      simp only[hW,this,K9,tn]
     have tp:=a7.n
     have hw:∀d n aH,y.n<=d->w≠ .slice d 0 n aH:=λd n aH aA e=>by
      rcases a7.o with⟨rfl,_⟩|⟨q,rfl,_,_,_,bp⟩
      · cases e
      · injection e with ax;omega
     obtain⟨g,fZ,kE,fV,Ey,Ez⟩:=Kz K6 (B:=h.n) (d:=D) (ki.mono a7.o La (Nat.le_refl _)) (by omega) hs (by omega)
     rw[List.length_append,List.length_singleton,tp] at fZ
     have fl:Ext h.n h g:=Lb.trans (Nat.le_refl _) Ey
     have Lc:∀d,F d->g.get d=y.get d:=λd aA=>by
      obtain⟨bQ,cl,fr⟩:=a7.f d aA
      exact(Ez d (by omega) fr).trans (K_ d cl)
     have Ld:∀d,hV H.n al.n d->g.get d=al.get d:=λd aA=>(Ez d (by omega) λn aH=>hw d n aH (by omega)).trans (Xr d aA.1)
     have a_:xQ h.n l (i+1) g (.slice iL.n 0 (i+1) (.aS 6)) (λd=>F d\/hV H.n al.n d) (aW++[D]):=by
      refine⟨.inr ⟨iL.n,by rw[List.length_append,List.length_singleton,tp],by simp,kE,by omega,by omega⟩,by simp[tp],λj aG=>?_,λd aA=>?_⟩
      · rw[List.length_append,List.length_singleton] at aG
        by_cases jP:j<aW.length
        · obtain⟨aq,ax,ay,bF⟩:=a7.d j jP
          rw[List.getElem_append_left jP]
          exact⟨aq,ax,gT.b6 (λd aA=>⟨.inl aA,Lc d aA⟩) ay,gT.b6 (λd aA=>⟨.inl aA,Lc d aA⟩) bF⟩
        · obtain rfl:j=i:=by omega
          rw[List.getElem_append_right (by omega)]
          simp only[tp,Nat.sub_self,List.getElem_singleton]
          subst K9
          exact⟨cY,rfl,gT.b6 (λd aA=>⟨.inr aA,Ld d aA⟩) r1,gT.b6 (λd aA=>⟨.inr aA,Ld d aA⟩) r2⟩
      · rcases aA with aA|aA
        · obtain⟨bQ,cl,fr⟩:=a7.f d aA
          exact⟨bQ,by omega,λn aH e=>by injection e with ax;omega⟩
        · exact⟨by omega,by omega,λn aH e=>by injection e with ax;omega⟩
     have oN:∃j,j<k/\∃mS w F aW gO Γ,(⟨[(0,.slice b off l.length aH),(3,.slice iL.n 0 (i+1) (.aS 6)),(4,.int .i64 (Int.ofNat (i+1)))],[],.none,g⟩:ah)=⟨Γ,[],.none,gO⟩/\cg [(0,.slice b off l.length aH),(3,w),(4,.int .i64 (Int.ofNat mS))] Γ/\min l.length 10-mS=j/\mS<=min l.length 10/\Ext h.n h gO/\xQ h.n l mS gO w F aW:=⟨_,(by show min l.length 10-(i+1)<k;omega),i+1,_,_,_,g,_,rfl,⟨rfl,rfl,rfl,trivial⟩,rfl,by omega,fl,a_⟩
     have Xs:=u_ (Lb.le bI) af ag
     obtain⟨rp,fy,gO⟩:=K4 Xs
     subst cS
     subst nX
     exact bj.pre (W_ (Y (m+4)) b off _ i aH w y ⟨λ_=>⟨λ_=>⟨cY,_,ng,cY,_,ng,_,ox _ _,_,pU _ _,cY,_,bl,cY,_,_,_,_,bB,_,_,_,_,al,c1,xP _,xP _,xP _,xP _,_,_,g,fZ,a7.o.sound,rp,rp,ox _ _,pU _ _,fy,hm.v.snd,hm.t.snd,r1.snd,r2.snd,by omega,oN⟩,λaj=>absurd K8 aj⟩,λaj=>absurd cY aj⟩) cJ rfl rfl rfl
   · refine bj.pre (KS (Y (m+4)) i v w y ⟨l.length,aC.len y,λ_=>⟨K8,fin (by omega) _ ⟨rfl,trivial⟩⟩,λaj=>absurd cY aj⟩) cJ rfl rfl rfl
 · refine bj.pre (KS (Y (m+4)) i v w y ⟨l.length,aC.len y,λaj=>absurd aj cY,λ_=>fin (by omega) _ ⟨rfl,trivial⟩⟩) cJ rfl rfl rfl
theorem Le(l:List j8):xK (mv l):=⟨by rw[va];omega,λx ab=>by
 obtain⟨y,_,rfl⟩:=List.mem_map.1 ab
 show(cut 50 y.path).length<=_
 simp only[cut,List.length_take];omega,λx ab=>by
 obtain⟨y,_,rfl⟩:=List.mem_map.1 ab
 exact(WL _ _ _ _).1⟩
theorem Lf(p q:aO)(l:List j8):(pW (cut 50 p) (cut 300 q) (mv l)).length<=1000000:=by
 have aa:=dg.xu (cut 50 p)
 have ad:=dg.xu (cut 300 q)
 have aw:(cut 50 p).length<=50:=by simp only[cut,List.length_take];omega
 have aQ:(cut 300 q).length<=300:=by simp only[cut,List.length_take];omega
 have bS:=dg.oQ (mv l).length
 have dm:=EE (k:=42000) ((mv l).map g7) λx ab=>by
  obtain⟨e,he,rfl⟩:=List.mem_map.1 ab
  obtain⟨y,_,rfl⟩:=List.mem_map.1 he
  have bQ:=dg.xu (cut 50 y.path)
  have cl:(cut 50 y.path).length<=50:=by simp only[cut,List.length_take];omega
  have fr:=KM y.p y.b y.c_ y.lt
  have o8:=dg.oQ 0
  have yO:=dg.oQ 1
  show(cV (cut 50 y.path)++(if y.jm then ct 1++jM (xG y.p y.b y.c_ y.lt) else ct 0)).length<=_
  rw[List.length_append]
  split
  · rw[List.length_append];omega
  · omega
 rw[List.length_map,va] at dm
 have eG:min l.length 10*42000<=10*42000:=Nat.mul_le_mul_right _ (by omega)
 unfold pW
 rw[List.length_append,List.length_append,List.length_append]
 omega
theorem Xt(m:Nat){B:Nat}{h:J}{p q:aO}{v:I}{l:List j8}(bI:B<=h.n)(aC:rv B h v l):∃g,Y (m+502) (.fn 4) [.str p,.str q,v] h=.ret (.bool true) g:=by
 have a_:(cut 50 p).length<=90000:=by simp only[cut,List.length_take];omega
 have bp:(cut 300 q).length<=90000:=by simp only[cut,List.length_take];omega
 obtain⟨H,cS⟩:∃H,H=h.room 12:=⟨_,rfl⟩
 have dz:Ext h.n h H:=by rw[cS];exact Ext.room _ _ _
 have jf:=dz.n
 obtain⟨v1,al,c1,a8,i1⟩:=K7 (m+496) (show B<=H.n by omega) (aC.ext (dz.le bI))
 have aN:=a8.n
 obtain⟨ar,c2,bu⟩:=Xi (m+496) (by omega) (Nat.le_refl _) i1 (Le l) a_ bp (Lf p q l)
 have bz:=bu.n
 have gO:Ext h.n h ar:=dz.trans (Nat.le_refl _) ((a8.le jf).trans (Nat.le_refl _) (bu.le (by omega)))
 obtain⟨v2,aZ,c3,cU,i3⟩:=K7 (m+496) (show B<=ar.n by omega) (aC.ext (gO.le bI))
 have cm:=cU.n
 obtain⟨cb,c4,h5⟩:=Xl (m+499) (by omega) (Nat.le_refl _) i3 (Le l) a_ bp (Lf p q l)
 refine⟨cb,?_⟩
 refine Xa (m+501) p q v h (R:=λx=>x=.ret (.bool true) cb) ?_
 rw[<-cS]
 exact⟨_,ox _ _,_,pU 50 p,_,ox _ _,_,pU 300 q,v1,al,c1,_,ar,c2,v2,aZ,c3,_,cb,c4,by simp[n8],true,cb,WK _ _,rfl⟩
end Go.Proofs.dQ
namespace Go.Proofs.dQ
open Go aB Go.Proofs df Go.Proofs.cD
open Go.Proofs.dg (cV)
open Go.Proofs.gI (ct)
set_option maxRecDepth 100000
set_option maxHeartbeats 1000000
def Lg(μ:bg)(W:World)(i:dY)(cs:List I)(el:Nat):Prop:=∃c fz,W.heap[i.bb]? =some (.cells c el fz)/\yd μ cs c i.base/\i.base+i.size=c.size
theorem EP{P:Program}{W:World}(hq:P.globals.size<=W.heap.size)(l:List (dY×List I×Nat))(aq:∀x∈l,Lg (oq P.globals.size (l.map (·.1))) W x.1 x.2.1 x.2.2):
  bn (oq P.globals.size (l.map (·.1))) (qK P.globals.size (l.map (·.2))) W/\ha P (oq P.globals.size (l.map (·.1)))/\tV (qK P.globals.size (l.map (·.2))):=by
 have ro:∀b o,(qK P.globals.size (l.map (·.2))).get b=some o->∃x,l[b-P.globals.size]? =some x/\¬b<P.globals.size/\o=.cells x.2.1 x.2.2 .ro 0 0:=by
  intro b o h
  rw[Cb] at h
  split at h
  · cases h
  · rename_i af
    rw[List.getElem?_map] at h
    cases ab:l[b-P.globals.size]? with
    |none=>rw[ab] at h;cases h
    |some x=>rw[ab] at h;cases h;exact⟨x,rfl,af,rfl⟩
 refine⟨⟨λb o j h aG=>?_,λb c' j k aa ad=>?_,λb j h=>?_,λb h=>?_⟩,λg ak=>⟨⟨g,0,0⟩,by simp[oq,ak],rfl,rfl⟩,λb o h=>?_⟩
 · obtain⟨x,ab,af,rfl⟩:=ro b o h
   have rF:=aG
   unfold oq at rF
   rw[if_neg af,List.getElem?_map,ab] at rF
   cases rF
   obtain⟨c,fz,aV,aY,cw⟩:=aq x (List.mem_of_getElem? ab)
   exact⟨c,fz.1,fz.2,aV,aY,cw,trivial⟩
 · obtain⟨o,ad,aw⟩:=ad
   obtain⟨x,_,_,rfl⟩:=ro _ o ad
   cases aw
 · rw[Ca,List.length_map]
   unfold oq at h
   split at h
   · rename_i af;cases h;exact⟨by omega,Nat.lt_of_lt_of_le af hq⟩
   · rw[List.getElem?_map] at h
     cases ab:l[b-P.globals.size]? with
     |none=>rw[ab] at h;cases h
     |some x=>
      rw[ab] at h;cases h
      obtain⟨c,fz,aV,_⟩:=aq x (List.mem_of_getElem? ab)
      have:=(List.getElem?_eq_some_iff.1 ab).1
      exact⟨by omega,(Array.getElem?_eq_some_iff.1 aV).1⟩
 · rw[Ca,List.length_map] at h
   rw[Cb,if_neg (by omega),List.getElem?_map,List.getElem?_eq_none (by omega)];rfl
 · obtain⟨x,_,_,rfl⟩:=ro b o h;rfl
theorem Xu{W:World}{i:dY}{cs:List I}{el:Nat}(h:tW W i cs el)(μ:bg):Lg μ W i cs el:=by
 obtain⟨c,fz,aa,ad,aw⟩:=h
 exact⟨c,fz,aa,ad μ,aw⟩
theorem Lh{μ:bg}:∀(ws:List I) (vs:List Value),b4 μ ws vs->∀(j:Nat) (v:I),ws[j]? =some v->∃u,vs[j]? =some u/\a9 μ v u
 |[],vs,h,j,v,aG=>by simp at aG
 |a::ws,vs,h,j,v,aG=>by
  obtain⟨u,us,rfl,aa,ad⟩:=h
  cases j with
  |zero=>cases aG;exact⟨u,rfl,aa⟩
  |succ j=>exact Lh ws us ad j v aG
theorem Li{H:Type}{enc:TypeId×Value->H}{W:World}{sp:Nat->Bool}{held:Bool}{fuel:Nat}{c:Value}{x:DataW H×List MemPlace}(h:DataW.trod enc Tryz.prog W 0 sp held fuel 36 [c]=some x):
  ∃aW rows,(∀d∈aW,d.2<256)/\(∀x∈rows,tW W x.1 x.2.1 x.2.2)/\∀B iM,∃v,∀(μ:bg) (h:J) i0,μ iM=some i0->iM<h.n->pV rows μ h B->ku h.n h v aW/\a9 μ v c:=by
 obtain⟨na,len,cap,rfl⟩:∃na len cap,c=.slice na len cap:=by
  rcases DataW.trod_slice KQ h with⟨h0,_⟩|⟨a,WS,BL,_,_,_,_,h0,_⟩<;>cases h0<;>exact⟨_,_,_,rfl⟩
 by_cases h0:len=0
 · subst h0
   rcases KR h with⟨rfl,_,rfl⟩|⟨a,rfl,_⟩
   · exact⟨[],[],by simp,by simp,λB iM=>⟨.bf,λμ h i0 _ _ _=>⟨.inl ⟨rfl,rfl⟩,rfl⟩⟩⟩
   · exact⟨[],[],by simp,by simp,λB iM=>⟨.slice iM 0 0 .dead,λμ h i0 aa aw _=>⟨.inr ⟨iM,0,.dead,rfl,aw,λi ae=>by simp at ae⟩,⟨_,aa,rfl,a,cap,rfl⟩⟩⟩⟩
 · obtain⟨aW,rows,aa,ad,aw⟩:=WU h h0
   exact⟨aW,rows,aa,ad,λB iM=>let⟨v,k⟩:=aw B;⟨v,λμ h i0 _ _ ai=>k μ h ai⟩⟩
theorem Xv:∃f0 f1 f2 f3:Field,Tryz.prog.underlying 38=some (.struct #[f0,f1,f2,f3])/\[f0,f1,f2,f3].map (λf=>(f.type,f.offset))=[(9,0),(4,1),(36,2),(36,3)]:=by
 obtain⟨cc,kF⟩:∃cc,Tryz.prog.underlying 38=some (.struct cc):=by
  have:(match Tryz.prog.underlying 38 with|some (.struct _)=>true|_=>false)=true:=by kernel_rfl
  revert this
  cases Tryz.prog.underlying 38 with
  |none=>intro h;cases h
  |some d=>cases d<;>intro h<;>first|exact⟨_,rfl⟩|cases h
 have k:(match Tryz.prog.underlying 38 with|some (.struct cc)=>cc.toList.map λf=>(f.type,f.offset)|_=>[])=[(9,0),(4,1),(36,2),(36,3)]:=by kernel_rfl
 rw[kF] at k
 simp only at k
 obtain⟨l⟩:=cc
 match l,k with
 |[f0,f1,f2,f3],k=>exact⟨f0,f1,f2,f3,kF,k⟩
theorem Xw:∃f0 f1 f2:Field,Tryz.prog.underlying 90=some (.struct #[f0,f1,f2])/\[f0,f1,f2].map (λf=>(f.type,f.offset))=[(9,0),(4,1),(38,2)]:=by
 obtain⟨cc,kF⟩:∃cc,Tryz.prog.underlying 90=some (.struct cc):=by
  have:(match Tryz.prog.underlying 90 with|some (.struct _)=>true|_=>false)=true:=by kernel_rfl
  revert this
  cases Tryz.prog.underlying 90 with
  |none=>intro h;cases h
  |some d=>cases d<;>intro h<;>first|exact⟨_,rfl⟩|cases h
 have k:(match Tryz.prog.underlying 90 with|some (.struct cc)=>cc.toList.map λf=>(f.type,f.offset)|_=>[])=[(9,0),(4,1),(38,2)]:=by kernel_rfl
 rw[kF] at k
 simp only at k
 obtain⟨l⟩:=cc
 match l,k with
 |[f0,f1,f2],k=>exact⟨f0,f1,f2,kF,k⟩
def tq(x:j8×I×I):List I:=[.str x.1.path,.bool x.1.jm,.str x.1.p,.bool x.1.b,x.2.1,x.2.2]
theorem Xx{H:Type}{enc:TypeId×Value->H}{W:World}{sp:Nat->Bool}{held:Bool}{fuel:Nat}{cs:List Value}{x:DataW H×List MemPlace}(h:DataW.trod enc Tryz.prog W 0 sp held fuel 90 cs=some x):
  ∃(y:j8) (rows:List (dY×List I×Nat)),(∀x∈rows,tW W x.1 x.2.1 x.2.2)/\∀B iM,∃w d,∀(μ:bg) (h:J) i0,μ iM=some i0->iM<h.n->pV rows μ h B->m_ h.n h w d y.c_ y.lt/\b4 μ (tq (y,w,d)) cs:=by
 obtain⟨f0,f1,f2,hs,k⟩:=Xw
 simp only[List.map_cons,List.map_nil,List.cons.injEq,Prod.mk.injEq] at k
 obtain⟨⟨t0,nk⟩,⟨t1,cH⟩,⟨t2,fJ⟩,_⟩:=k
 obtain⟨xs,n,_,_,ft,gM,hf⟩:=DataW.trod_struct hs h
 have AD:Tryz.prog.cellsOf 90=6:=by kernel_rfl
 rw[AD] at ft
 obtain⟨xR,c1,c2,c3,c4,nQ,rfl⟩:∃xR c1 c2 c3 c4 nQ,cs=[xR,c1,c2,c3,c4,nQ]:=by
  match cs,ft with
  |[xR,c1,c2,c3,c4,nQ],_=>exact⟨xR,c1,c2,c3,c4,nQ,rfl⟩
 have YJ:xs.length=3:=gM
 have Lj:=hf 0 f0 rfl
 have aV:=hf 1 f1 rfl
 have aY:=hf 2 f2 rfl
 rw[List.getElem?_eq_getElem (by omega),t0,nk,(by kernel_rfl:Tryz.prog.cellsOf 9=1)] at Lj
 rw[List.getElem?_eq_getElem (by omega),t1,cH,(by kernel_rfl:Tryz.prog.cellsOf 4=1)] at aV
 rw[List.getElem?_eq_getElem (by omega),t2,fJ,(by kernel_rfl:Tryz.prog.cellsOf 38=4)] at aY
 obtain⟨s,dt,_,_⟩:=DataW.trod_string u6 Lj
 obtain⟨g6,ax,_⟩:=DataW.trod_bool (by kernel_rfl) aV
 obtain⟨Xy,al,ar,aZ,dD,k⟩:=Xv
 simp only[List.map_cons,List.map_nil,List.cons.injEq,Prod.mk.injEq] at k
 obtain⟨⟨t0,nk⟩,⟨t1,cH⟩,⟨t2,fJ⟩,⟨t3,Kw⟩,_⟩:=k
 obtain⟨eS,m,_,_,_,vM,ak⟩:=DataW.trod_struct dD aY
 have YK:eS.length=4:=vM
 have Lk:=ak 0 Xy rfl
 have eO:=ak 1 al rfl
 have fY:=ak 2 ar rfl
 have k8:=ak 3 aZ rfl
 rw[List.getElem?_eq_getElem (by omega),t0,nk,(by kernel_rfl:Tryz.prog.cellsOf 9=1)] at Lk
 rw[List.getElem?_eq_getElem (by omega),t1,cH,(by kernel_rfl:Tryz.prog.cellsOf 4=1)] at eO
 rw[List.getElem?_eq_getElem (by omega),t2,fJ,(by kernel_rfl:Tryz.prog.cellsOf 36=1)] at fY
 rw[List.getElem?_eq_getElem (by omega),t3,Kw,(by kernel_rfl:Tryz.prog.cellsOf 36=1)] at k8
 obtain⟨s2,ay,_,_⟩:=DataW.trod_string u6 Lk
 obtain⟨Ll,bF,_⟩:=DataW.trod_bool (by kernel_rfl) eO
 obtain⟨c_,r1,na,c9,dJ⟩:=Li (c:=c4) fY
 obtain⟨lt,r2,cE,a5,bt⟩:=Li (c:=nQ) k8
 have EG:xR=.string s:=by simpa using dt
 have rV:c1=.bool g6:=by simpa using ax
 have Am:c2=.string s2:=by simpa using ay
 have Xz:c3=.bool Ll:=by simpa using bF
 subst EG rV Am Xz
 refine⟨⟨s.data.toList,g6,s2.data.toList,Ll,c_,lt⟩,r1++r2,λx ab=>?_,λB iM=>?_⟩
 · rcases List.mem_append.1 ab with ab|ab
   · exact c9 x ab
   · exact a5 x ab
 · obtain⟨w,kw⟩:=dJ B iM
   obtain⟨d,XA⟩:=bt (B+r1.length) iM
   refine⟨w,d,λμ h i0 eV lT ai=>?_⟩
   obtain⟨dn,fj⟩:=EF ai
   obtain⟨a8,bu⟩:=kw μ h i0 eV lT dn
   obtain⟨cU,h5⟩:=XA μ h i0 eV lT fj
   exact⟨⟨a8,cU,na,cE⟩,_,_,rfl,⟨s,rfl,rfl⟩,_,_,rfl,rfl,_,_,rfl,⟨s2,rfl,rfl⟩,_,_,rfl,rfl,_,_,rfl,bu,_,_,rfl,h5,rfl⟩
theorem Lm{H:Type}{enc:TypeId×Value->H}{W:World}{sp:Nat->Bool}{held:Bool}{a:Addr}:∀n,(∀i,i<n->∃cs fuel x,W.cells? 0 (a.add (i*6)) 6=some cs/\DataW.trod enc Tryz.prog W 0 sp held fuel 90 cs=some x)->
  ∃(l:List j8) (rows:List (dY×List I×Nat)),l.length=n/\(∀x∈rows,tW W x.1 x.2.1 x.2.2)/\∀B iM,∃aW:List (j8×I×I),aW.map (·.1)=l/\∀(μ:bg) (h:J) i0,μ iM=some i0->iM<h.n->pV rows μ h B->∀i (ae:i<aW.length),m_ h.n h aW[i].2.1 aW[i].2.2 aW[i].1.c_ aW[i].1.lt/\∀j v,(tq aW[i])[j]? =some v->∃u,W.cell? ((a.add (i*6)).add j)=some u/\a9 μ v u
 |0,_=>⟨[],[],rfl,by simp,λB iM=>⟨[],rfl,λμ h i0 _ _ _ i ae=>by simp at ae⟩⟩
 |n+1,nr=>by
  obtain⟨l,rows,aq,ai,af⟩:=Lm n λi ae=>nr i (by omega)
  obtain⟨cs,fuel,x,g_,ab⟩:=nr n (by omega)
  obtain⟨y,r,qj,a2⟩:=Xx ab
  refine⟨l++[y],rows++r,by simp[aq],λx ab=>?_,λB iM=>?_⟩
  · rcases List.mem_append.1 ab with ab|ab
    · exact ai x ab
    · exact qj x ab
  · obtain⟨aW,xS,av⟩:=af B iM
    obtain⟨w,d,y4⟩:=a2 (B+rows.length) iM
    have tp:aW.length=n:=by rw[<-aq,<-xS,List.length_map]
    refine⟨aW++[(y,w,d)],by simp[xS],λμ h i0 eV lT XB i ae=>?_⟩
    obtain⟨dn,fj⟩:=EF XB
    rw[List.length_append,List.length_singleton] at ae
    by_cases cY:i<aW.length
    · rw[List.getElem_append_left cY]
      exact av μ h i0 eV lT dn i cY
    · obtain rfl:i=n:=by omega
      rw[List.getElem_append_right (by omega)]
      simp only[tp,Nat.sub_self,List.getElem_singleton]
      obtain⟨a8,bu⟩:=y4 μ h i0 eV lT fj
      refine⟨a8,λj v aG=>?_⟩
      obtain⟨u,hu,aC⟩:=Lh _ _ bu j v aG
      have:=World.cells?_some g_
      have vK:=(List.getElem?_eq_some_iff.1 aG).1
      exact⟨u,(this.2.2 j vK).trans hu,aC⟩
theorem ER:Tryz.prog.underlying 31=some (.slice 90):=by kernel_rfl
theorem XC{H:Type}{enc:TypeId×Value->H}{W:World}{base:Nat}{sp:Nat->Bool}{held:Bool}{fuel:Nat}{v:Value}{x:DataW H×List MemPlace}(hq:Tryz.prog.globals.size<=W.heap.size)(aC:Cell.okWide Tryz.prog W .any base 31 v)(h:DataW.trod enc Tryz.prog W 0 sp held fuel 31 [v]=some x):
  ∃(l:List j8) (μ:bg) (g:J) (u:I),bn μ g W/\ha Tryz.prog μ/\tV g/\rv g.n g u l/\a9 μ u v:=by
 have AD:Tryz.prog.cellsOf 90=6:=by kernel_rfl
 rcases DataW.trod_slice ER h with⟨h0,_⟩|⟨a,len,cap,elems,rest,n,_,h0,_,uA,aq,hm,hlen,nr,_,_⟩
 · cases h0
   obtain⟨s1,s2,bq⟩:=EP (P:=Tryz.prog) hq [] (by simp)
   exact⟨[],_,_,.bf,s1,s2,bq,.inl ⟨rfl,rfl⟩,rfl⟩
 cases h0
 by_cases h0:len=0
 · subst h0
   obtain⟨c,el,fz,af⟩:=WM ER aC
   obtain⟨s1,s2,bq⟩:=EP (P:=Tryz.prog) hq [(⟨a.block,0,c.size⟩,[],el)] (λx ab=>by
    obtain rfl:x=(⟨a.block,0,c.size⟩,[],el):=by simpa using ab
    exact⟨c,fz,af,λj v aG=>by simp at aG,Nat.zero_add _⟩)
   obtain⟨aa,ad,aw⟩:=KO (rows:=[(⟨a.block,0,c.size⟩,[],el)]) 0 _ rfl
   exact⟨[],_,_,.slice _ 0 0 .dead,s1,s2,bq,.inr ⟨_,0,.dead,rfl,aw,λi ae=>by simp at ae⟩,⟨_,aa,rfl,a,cap,rfl⟩⟩
 obtain⟨l,rows,Ln,ai,av⟩:=Lm (a:=a) len λi ae=>by
  have he:=nr i ae
  rw[List.getElem?_eq_getElem (by omega),AD,Option.bind_eq_some_iff] at he
  obtain⟨cs,g_,a2⟩:=he
  exact⟨cs,n,_,g_,a2⟩
 obtain⟨aW,xS,av⟩:=av (Tryz.prog.globals.size+1) Tryz.prog.globals.size
 have tp:aW.length=len:=by rw[<-Ln,<-xS,List.length_map]
 obtain⟨c,el,fz,af,xJ,F4⟩:∃c el fz,W.heap[a.block]? =some (.cells c el fz)/\a.spot=none/\a.off<=c.size:=by
  have he:=nr 0 (by omega)
  rw[List.getElem?_eq_getElem (by omega),AD,Option.bind_eq_some_iff] at he
  obtain⟨cs,g_,a2⟩:=he
  have k:=World.cells?_some g_
  obtain⟨dt,bQ⟩:∃dt,W.cell? ((a.add (0*6)).add 0)=some dt:=by
   have:=k.2.2 0 (by omega)
   obtain⟨dt,XD⟩:∃dt,cs[0]? =some dt:=⟨_,List.getElem?_eq_getElem (by have:=k.1;omega)⟩
   exact⟨dt,this.trans XD⟩
  obtain⟨c,el,fz,af,jV,hs⟩:=Aw bQ
  exact⟨c,el,fz,af,hs (by omega) rfl,by have:=(Array.getElem?_eq_some_iff.1 jV).1;omega⟩
 obtain⟨R,gl⟩:∃R:List (dY×List I×Nat),R=(⟨a.block,a.off,c.size-a.off⟩,fk tq aW,el)::rows:=⟨_,rfl⟩
 have ES:=KO (rows:=R)
 obtain⟨μ,o0⟩:∃μ,μ=oq Tryz.prog.globals.size (R.map (·.1)):=⟨_,rfl⟩
 obtain⟨g,ak⟩:∃g,g=qK Tryz.prog.globals.size (R.map (·.2)):=⟨_,rfl⟩
 rw[<-o0,<-ak] at ES
 obtain⟨aa,ad,aw⟩:=ES 0 _ (by rw[gl];rfl)
 simp only[Nat.add_zero] at aa ad aw
 have XE:pV rows μ g (Tryz.prog.globals.size+1):=(EF (r1:=[(⟨a.block,a.off,c.size-a.off⟩,fk tq aW,el)]) (r2:=rows) (by rw[List.singleton_append,<-gl];exact ES)).2
 have av:=av μ g _ aa aw XE
 obtain⟨s1,s2,bq⟩:=EP (P:=Tryz.prog) hq R (λx ab=>by
  rw[gl] at ab
  rcases List.mem_cons.1 ab with rfl|ab
  · refine⟨c,fz,af,λt v aC=>?_,by simp;omega⟩
    have mg:(aW.flatMap tq)[t]? =some v:=aC
    rw[zu (w:=6) λd=>rfl] at mg
    split at mg
    · rename_i aU
      have ae:t/6<aW.length:=Nat.div_lt_of_lt_mul (by rw[Nat.mul_comm];exact aU)
      rw[List.getElem?_eq_getElem ae] at mg
      have EH:(tq aW[t/6])[t %6]? =some v:=mg
      obtain⟨u,hu,XF⟩:=(av (t/6) ae).2 (t %6) v EH
      obtain⟨c',qi,WV,gz,ab,_⟩:=Aw hu
      rw[af] at gz
      cases gz
      have e:a.off+t/6*6+t %6=a.off+t:=by omega
      rw[e] at ab
      exact⟨_,ab,by rw[<-o0];exact XF⟩
    · cases mg
  · exact Xu (ai x ab) _)
 rw[<-o0,<-ak] at s1
 rw[<-o0] at s2
 rw[<-ak] at bq
 refine⟨l,μ,g,.slice Tryz.prog.globals.size 0 len (.exact cap),s1,s2,bq,.inr ⟨_,0,.exact cap,by rw[Ln],aw,λi ae=>?_⟩,⟨_,aa,?_⟩⟩
 · have dV:i<aW.length:=by omega
   have qi:l[i]=aW[i].1:=by simp[<-xS]
   rw[qi]
   exact⟨_,_,CC (enc:=tq) (w:=6) (rest:=[]) (λ_=>rfl) (by rw[List.append_nil];exact ad) dV (by omega),(av i dV).1⟩
 · obtain⟨bb,off,spot⟩:=a
   simp only at xJ
   subst xJ
   rfl
end Go.Proofs.dQ
