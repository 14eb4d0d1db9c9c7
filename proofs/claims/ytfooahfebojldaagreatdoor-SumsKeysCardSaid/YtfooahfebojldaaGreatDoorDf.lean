/-
  PROVED HERE: contracts of functions (Df). No condition beside each statement's own.
-/
import Derived.Test.YtfooahfebojldaaGreatDoorDe
import Derived.Test.YtfooahfebojldaaGreatDoorTx
set_option linter.unusedVariables false
set_option linter.unusedSimpArgs false
namespace Go.Proofs.cD
open Go aB Go.Proofs df
set_option maxRecDepth 100000
set_option maxHeartbeats 1000000
theorem Tt(m:Nat)(v:I)(f:Nat)(aK:List I)(h:J){R:ao->Prop}(H:∃dn:Int,∃al:J,(Y m) (.fn 117) [v,.fn f [] aK] h=.ret (.int .i64 dn) al/\R (.ret (.bool (dv (.ofNat 0) dn)) al)):
  R (Y (m+1) (.fn 105) [v,.fn f [] aK] h):=
 dp (intr:=bW) [(7,.b7 (.z .i64))] [(0,.o v),(1,.o (.fn f [] aK))] Tryz.func105 (by kernel_rfl) (by kernel_rfl) (by kernel_rfl) rfl (Eq.mp (by kernel_rfl) H)
theorem Tu(m:Nat)(v:I)(f:Nat)(aK:List I)(h:J){R:ao->Prop}(H:∃aN:Nat,bO Tryz.prog h 48 v=some (.int .i64 (.ofNat aN))/\bj Tryz.prog Tryz.f117 (Y m) [1,0,1,0] (ah.mk [(0,v),(1,.fn f [] aK),(7,.int .i64 (.ofNat aN)),(8,.int .i64 (.ofNat 0))] [] .none h) (λcq cr=>((∃al:J,∃bl:Env,cq=.exit 0/\cr=ah.mk bl [] .none al/\cg [] bl/\R (.ret (.int .i64 (.negSucc 0)) al))\/(∃bz:Nat,∃ar:J,∃bB:Env,cq=.ret/\cr=ah.mk bB [] .none ar/\cg [(4,.int .i64 (.ofNat bz))] bB/\R (.ret (.int .i64 (.ofNat bz)) ar))))):
  R (Y (m+1) (.fn 117) [v,.fn f [] aK] h):=
 dp (intr:=bW) [(4000,.hD [0,1,7,8] [(.exit 0,[]),(.ret,[(4,.n .i64)])])] [(0,.o v),(1,.o (.fn f [] aK))] Tryz.func117 (by kernel_rfl) (by kernel_rfl) (by kernel_rfl) rfl (Eq.mp (by kernel_rfl) H)
theorem Tv(call:aF->List I->J->ao)(b:Nat)(off:Nat)(N:Nat)(i:Nat)(f:Nat)(aK:List I)(aH:ch)(h:J){Q:bw->ah->Prop}(H:(i<N->i<N/\∃v1:I,au h b (off+i*1)=some v1/\∃a5:Bool,∃al:J,call (.fn f) (v1::aK) h=.ret (.bool a5) al/\(a5=true->Q .ret (ah.mk [(0,.slice b off N aH),(1,.fn f [] aK),(4,.int .i64 (.ofNat i)),(7,.int .i64 (.ofNat N)),(8,.int .i64 (.ofNat i))] [] .none al))/\(a5=false->i+1<9223372036854775808/\Q .nrm (ah.mk [(0,.slice b off N aH),(1,.fn f [] aK),(7,.int .i64 (.ofNat N)),(8,.int .i64 (.ofNat (i+1)))] [] .none al)))/\(¬i<N->Q (.exit 0) (ah.mk [(0,.slice b off N aH),(1,.fn f [] aK),(7,.int .i64 (.ofNat N)),(8,.int .i64 (.ofNat i))] [] .none h))):
  bj Tryz.prog Tryz.f117 call [1,0,1,0,0] ⟨[(0,.slice b off N aH),(1,.fn f [] aK),(7,.int .i64 (.ofNat N)),(8,.int .i64 (.ofNat i))],[],.none,h⟩ Q:=
 eu [(15,.b7 .o)] [0,1,4,7,8] [(0,.v (.slice b off N aH)),(1,.o (.fn f [] aK)),(7,.v (.int .i64 (.ofNat N))),(8,.v (.int .i64 (.ofNat i)))] rfl (Eq.mp (by kernel_rfl) H)
theorem Tw(call:aF->List I->J->ao)(N:Nat)(i:Nat)(f:Nat)(aK:List I)(v:I)(h:J){Q:bw->ah->Prop}(H:¬i<N/\Q (.exit 0) (ah.mk [] [] .none h)):
  bj Tryz.prog Tryz.f117 call [1,0,1,0,0] ⟨[(0,v),(1,.fn f [] aK),(7,.int .i64 (.ofNat N)),(8,.int .i64 (.ofNat i))],[],.none,h⟩ Q:=
 eu [(1009,.f)] [] [(0,.o v),(1,.o (.fn f [] aK)),(7,.v (.int .i64 (.ofNat N))),(8,.v (.int .i64 (.ofNat i)))] rfl (Eq.mp (by kernel_rfl) H)
theorem Tx(m:Nat)(v:I)(f:Nat)(aK:List I)(h:J){R:ao->Prop}(H:∃aN:Nat,bO Tryz.prog h 48 v=some (.int .i64 (.ofNat aN))/\(1<=aN/\aN<9223372036854775808)/\bj Tryz.prog Tryz.f119 (Y m) [1,0,1,0] (ah.mk [(0,v),(1,.fn f [] aK),(5,.int .i64 (.ofNat (aN-1)))] [] .none h) (λcq cr=>((∃al:J,∃bl:Env,cq=.exit 0/\cr=ah.mk bl [] .none al/\cg [] bl/\R (.ret (.bool true) al))\/(∃ar:J,∃bB:Env,cq=.ret/\cr=ah.mk bB [] .none ar/\cg [(4,.bool false)] bB/\R (.ret (.bool false) ar))))):
  R (Y (m+1) (.fn 119) [v,.fn f [] aK] h):=
 dp (intr:=bW) [(4000,.hD [0,1,5] [(.exit 0,[]),(.ret,[(4,.is (.bool false))])])] [(0,.o v),(1,.o (.fn f [] aK))] Tryz.func119 (by kernel_rfl) (by kernel_rfl) (by kernel_rfl) rfl (Eq.mp (by kernel_rfl) H)
theorem Ty(m:Nat)(v:I)(f:Nat)(aK:List I)(h:J){R:ao->Prop}(H:∃aN:Nat,bO Tryz.prog h 48 v=some (.int .i64 (.ofNat aN))/\∃dn:Int,arith .sub .i64 (.ofNat aN) (.ofNat 1)=some (.int .i64 dn)/\bj Tryz.prog Tryz.f119 (Y m) [1,0,1,0] (ah.mk [(0,v),(1,.fn f [] aK),(5,.int .i64 dn)] [] .none h) (λcq cr=>∃al:J,∃bl:Env,cq=.exit 0/\cr=ah.mk bl [] .none al/\cg [] bl/\R (.ret (.bool true) al))):
  R (Y (m+1) (.fn 119) [v,.fn f [] aK] h):=
 dp (intr:=bW) [(8,.b7 (.z .i64)),(4000,.hD [0,1,5] [(.exit 0,[])])] [(0,.o v),(1,.o (.fn f [] aK))] Tryz.func119 (by kernel_rfl) (by kernel_rfl) (by kernel_rfl) rfl (Eq.mp (by kernel_rfl) H)
theorem Tz(call:aF->List I->J->ao)(b:Nat)(off:Nat)(N:Nat)(i:Nat)(f:Nat)(aK:List I)(aH:ch)(h:J){Q:bw->ah->Prop}(H:(0<i->i<N/\∃v1:I,au (h.room 12) b (off+i*1)=some v1/\(1<=i/\i<9223372036854775808)/\i-1<N/\∃v2:I,au (h.room 12) b (off+(i-1)*1)=some v2/\∃dn:Int,∃al:J,call (.fn f) (v1::v2::aK) (h.room 12)=.ret (.int .i64 dn) al/\I.sound (.fn f [] aK)=true/\I.sound v1=true/\I.sound v2=true/\(bD dn (.ofNat 0)=true->Q .ret (ah.mk [(0,.slice b off N aH),(1,.fn f [] aK),(4,.bool false),(5,.int .i64 (.ofNat i))] [] .none al))/\(bD dn (.ofNat 0)=false->(1<=i/\i<9223372036854775808)/\Q .nrm (ah.mk [(0,.slice b off N aH),(1,.fn f [] aK),(5,.int .i64 (.ofNat (i-1)))] [] .none al)))/\(¬0<i->Q (.exit 0) (ah.mk [(0,.slice b off N aH),(1,.fn f [] aK),(5,.int .i64 (.ofNat i))] [] .none h))):
  bj Tryz.prog Tryz.f119 call [1,0,1,0,0] ⟨[(0,.slice b off N aH),(1,.fn f [] aK),(5,.int .i64 (.ofNat i))],[],.none,h⟩ Q:=
 eu [(17,.b7 .o),(22,.b7 .o),(23,.b7 (.z .i64))] [0,1,4,5] [(0,.v (.slice b off N aH)),(1,.o (.fn f [] aK)),(5,.v (.int .i64 (.ofNat i)))] rfl (Eq.mp (by kernel_rfl) H)
theorem TA(call:aF->List I->J->ao)(v:I)(f:Nat)(aK:List I)(h:J){Q:bw->ah->Prop}(H:bD (.ofNat 0) (.negSucc 0)=false/\Q (.exit 0) (ah.mk [] [] .none h)):
  bj Tryz.prog Tryz.f119 call [1,0,1,0,0] ⟨[(0,v),(1,.fn f [] aK),(5,.int .i64 (.negSucc 0))],[],.none,h⟩ Q:=
 eu [(1010,.f)] [] [(0,.o v),(1,.o (.fn f [] aK)),(5,.v (.int .i64 (.negSucc 0)))] rfl (Eq.mp (by kernel_rfl) H)
theorem TB(m:Nat)(x:I)(y:I)(a:Nat)(f:Nat)(aK:List I)(h:J){R:ao->Prop}(H:au (h.room 7) a 0=some (.fn f [] aK)/\∃s1:List UInt8,∃al:J,(Y m) (.fn f) (x::aK) (h.room 7)=.ret (.str s1) al/\au al a 0=some (.fn f [] aK)/\∃s2:List UInt8,∃ar:J,(Y m) (.fn f) (y::aK) al=.ret (.str s2) ar/\I.sound (.fn f [] aK)=true/\I.sound x=true/\I.sound (.fn f [] aK)=true/\au (h.room 7) a 0=some (.fn f [] aK)/\I.sound y=true/\(dB s1 s2=true->R (.ret (.int .i64 (.negSucc 0)) ar))/\(dB s1 s2=false->R (.ret (.int .i64 (.ofNat 1)) ar))):
  R (Y (m+1) (.fn 120) [x,y,.ptr a 0] h):=
 dp (intr:=bW) [(6,.b7 (.io (.fn f [] aK))),(9,.b7 (.io (.fn f [] aK)))] [(0,.o x),(1,.o y),(2,.v (.ptr a 0))] Tryz.func120 (by kernel_rfl) (by kernel_rfl) (by kernel_rfl) rfl (Eq.mp (by kernel_rfl) H)
theorem TC(m:Nat)(x:I)(y:I)(a:Nat)(f:Nat)(aK:List I)(h:J){R:ao->Prop}(H:au (h.room 8) a 0=some (.fn f [] aK)/\∃s1:List UInt8,∃al:J,(Y m) (.fn f) (x::aK) (h.room 8)=.ret (.str s1) al/\au al a 0=some (.fn f [] aK)/\∃s2:List UInt8,∃ar:J,(Y m) (.fn f) (y::aK) al=.ret (.str s2) ar/\I.sound (.fn f [] aK)=true/\I.sound x=true/\I.sound (.fn f [] aK)=true/\au (h.room 8) a 0=some (.fn f [] aK)/\I.sound y=true/\R (.ret (.bool (dU s1 s2)) ar)):
  R (Y (m+1) (.fn 123) [x,y,.ptr a 0] h):=
 dp (intr:=bW) [(6,.b7 (.io (.fn f [] aK))),(9,.b7 (.io (.fn f [] aK)))] [(0,.o x),(1,.o y),(2,.v (.ptr a 0))] Tryz.func123 (by kernel_rfl) (by kernel_rfl) (by kernel_rfl) rfl (Eq.mp (by kernel_rfl) H)
theorem Jt(m:Nat)(v:I)(f:Nat)(aK:List I)(h:J){R:ao->Prop}(H:∃aN:Nat,bO Tryz.prog h 48 v=some (.int .i64 (.ofNat aN))/\(aN<2->R (.ret v h))/\(¬aN<2->bj Tryz.prog Tryz.f121 (Y m) [1,1,0,1,0] (ah.mk [(0,v),(1,.fn f [] aK),(5,.int .i64 (.ofNat 1))] [] .none h) (λcq cr=>((∃v1:I,∃al:J,∃bl:Env,cq=.exit 0/\cr=ah.mk bl [] .none al/\cg [(0,v1)] bl/\R (.ret v1 al))\/(∃v2:I,∃ar:J,∃bB:Env,cq=.ret/\cr=ah.mk bB [] .none ar/\cg [(4,v2)] bB/\R (.ret v2 ar)))))):
  R (Y (m+1) (.fn 121) [v,.fn f [] aK] h):=
 dp (intr:=bW) [(4000,.hD [0,1,5] [(.exit 0,[(0,.o)]),(.ret,[(4,.o)])])] [(0,.o v),(1,.o (.fn f [] aK))] Tryz.func121 (by kernel_rfl) (by kernel_rfl) (by kernel_rfl) rfl (Eq.mp (by kernel_rfl) H)
theorem TD(call:aF->List I->J->ao)(b:Nat)(N:Nat)(k:Nat)(f:Nat)(aK:List I)(h:J){Q:bw->ah->Prop}(H:(k<N->k<N/\∃v1:I,au (h.room 11) b (0+k*1)=some v1/\(1<=k/\k<9223372036854775808)/\k-1<N/\∃v2:I,au (h.room 11) b (0+(k-1)*1)=some v2/\∃a5:Bool,∃al:J,call (.fn f) (v1::v2::aK) (h.room 11)=.ret (.bool a5) al/\I.sound (.fn f [] aK)=true/\I.sound v1=true/\I.sound v2=true/\(a5=true->∃aN:Nat,∃bz:Nat,∃cm:Nat,∃c1:ch,e1 Tryz.prog al 48 (.slice b 0 N (.aS 1)) (some (.int .i64 (.ofNat k))) none none=some (.slice aN bz cm c1)/\bj Tryz.prog Tryz.f121 call [1,1,0,1,0,0,1,0,0,1,0,1,0,1,0] (ah.mk [(0,.slice b 0 N (.aS 1)),(1,.fn f [] aK),(5,.int .i64 (.ofNat k)),(6,.slice aN bz cm c1),(7,.int .i64 (.ofNat 1))] [] .none al) (λcq cr=>∃cy:Nat,∃c6:Nat,∃dr:Nat,∃c2:ch,∃ev:Nat,∃ar:J,∃bl:Env,cq=.exit 2/\cr=ah.mk bl [] .none ar/\cg [(0,.slice cy c6 dr c2),(5,.int .i64 (.ofNat ev))] bl/\∃gS:Nat,∃gH:Nat,∃gr:Nat,∃c3:ch,e1 Tryz.prog ar 48 (.slice cy c6 dr c2) (some (.int .i64 (.ofNat ev))) none none=some (.slice gS gH gr c3)/\∃aZ:J,n0 Tryz.prog ar 48 (.slice gS gH gr c3)=some (.aP [],aZ)/\∃dc:I,e1 Tryz.prog aZ 48 (.slice cy c6 dr c2) none (some (.int .i64 (.ofNat ev))) none=some dc/\Q .ret (ah.mk [(0,.slice cy c6 dr c2),(4,dc),(5,.int .i64 (.ofNat ev))] [] .none aZ)))/\(a5=false->k+1<9223372036854775808/\Q .nrm (ah.mk [(0,.slice b 0 N (.aS 1)),(1,.fn f [] aK),(5,.int .i64 (.ofNat (k+1)))] [] .none al)))/\(¬k<N->Q (.exit 0) (ah.mk [(0,.slice b 0 N (.aS 1)),(1,.fn f [] aK),(5,.int .i64 (.ofNat k))] [] .none h))):
  bj Tryz.prog Tryz.f121 call [1,1,0,1,0,0] ⟨[(0,.slice b 0 N (.aS 1)),(1,.fn f [] aK),(5,.int .i64 (.ofNat k))],[],.none,h⟩ Q:=
 eu [(22,.b7 .o),(27,.b7 .o),(31,.b7 .fL),(4002,.hD [0,1,5,6,7] [(.exit 2,[(0,.fL),(5,.n .i64)])]),(61,.b7 .fL),(64,.b7 .o)] [0,1,4,5] [(0,.v (.slice b 0 N (.aS 1))),(1,.o (.fn f [] aK)),(5,.v (.int .i64 (.ofNat k)))] rfl (Eq.mp (by kernel_rfl) H)
theorem TE(call:aF->List I->J->ao)(b:Nat)(N:Nat)(k:Nat)(f:Nat)(fJ:Nat)(M:Nat)(j:Nat)(aK:List I)(h:J){Q:bw->ah->Prop}(H:(j<M->j<M/\∃v1:I,au (h.room 12) b (fJ+j*1)=some v1/\(1<=j/\j<9223372036854775808)/\j-1<M/\∃v2:I,au (h.room 12) b (fJ+(j-1)*1)=some v2/\∃a5:Bool,∃al:J,call (.fn f) (v1::v2::aK) (h.room 12)=.ret (.bool a5) al/\I.sound (.fn f [] aK)=true/\I.sound v1=true/\I.sound v2=true/\(a5=true->j+1<9223372036854775808/\Q .nrm (ah.mk [(0,.slice b 0 N (.aS 1)),(1,.fn f [] aK),(5,.int .i64 (.ofNat k)),(6,.slice b fJ M (.aS 1)),(7,.int .i64 (.ofNat (j+1)))] [] .none al))/\(a5=false->j<M/\∃s1:List UInt8,au al b (fJ+j*1)=some (.str s1)/\k<N/\∃ar:J,aB.storeCells al b (0+k*1) [.str s1]=some ar/\k+1<9223372036854775808/\j+1<9223372036854775808/\Q .nrm (ah.mk [(0,.slice b 0 N (.aS 1)),(1,.fn f [] aK),(5,.int .i64 (.ofNat (k+1))),(6,.slice b fJ M (.aS 1)),(7,.int .i64 (.ofNat (j+1)))] [] .none ar)))/\(¬j<M->Q (.exit 2) (ah.mk [(0,.slice b 0 N (.aS 1)),(1,.fn f [] aK),(5,.int .i64 (.ofNat k)),(6,.slice b fJ M (.aS 1)),(7,.int .i64 (.ofNat j))] [] .none h))):
  bj Tryz.prog Tryz.f121 call [1,1,0,1,0,0,1,0,0,1,0,1,0,1,0,0] ⟨[(0,.slice b 0 N (.aS 1)),(1,.fn f [] aK),(5,.int .i64 (.ofNat k)),(6,.slice b fJ M (.aS 1)),(7,.int .i64 (.ofNat j))],[],.none,h⟩ Q:=
 eu [(42,.b7 .o),(47,.b7 .o)] [0,1,5,6,7] [(0,.v (.slice b 0 N (.aS 1))),(1,.o (.fn f [] aK)),(5,.v (.int .i64 (.ofNat k))),(6,.v (.slice b fJ M (.aS 1))),(7,.v (.int .i64 (.ofNat j)))] rfl (Eq.mp (by kernel_rfl) H)
theorem TF(m:Nat)(b:Nat)(off:Nat)(N:Nat)(aH:ch)(h:J){R:ao->Prop}(H:∃v1:I,∃al:J,gx Tryz.prog (J.push h (.cells [] 9 .own 0 0)) 48 (some 48) (.slice h.n 0 0 (.exact 0)) (.slice b off N aH)=some (v1,al)/\R (.ret v1 al)):
  R (Y (m+1) (.fn 122) [.slice b off N aH] h):=
 dp (intr:=bW) [(7,.b7 .o)] [(0,.v (.slice b off N aH))] Tryz.func122 (by kernel_rfl) (by kernel_rfl) (by kernel_rfl) rfl (Eq.mp (by kernel_rfl) H)
theorem TG(m:Nat)(h:J){R:ao->Prop}(H:R (.ret .bf h)):
  R (Y (m+1) (.fn 122) [.bf] h):=
 dp (intr:=bW) [] [(0,.v .bf)] Tryz.func122 (by kernel_rfl) (by kernel_rfl) (by kernel_rfl) rfl (Eq.mp (by kernel_rfl) H)
theorem TH(m:Nat)(v:I)(f:Nat)(aK:List I)(h:J){R:ao->Prop}(H:I.b0 (.fn f [] aK)=true/\∃a5:Bool,∃al:J,(Y m) (.fn 119) [v,.fn 120 [] [.ptr h.n 0]] (J.push h (.cells [.fn f [] aK] 150 .own 0 0))=.ret (.bool a5) al/\(a5=true->∃v1:I,∃ar:J,(Y m) (.fn 122) [v] al=.ret v1 ar/\∃v2:I,∃aZ:J,(Y m) (.fn 121) [v1,.fn 123 [] [.ptr h.n 0]] ar=.ret v2 aZ/\∃aN:Nat,bO Tryz.prog aZ 48 v2=some (.int .i64 (.ofNat aN))/\∃bz:Nat,bO Tryz.prog aZ 48 v=some (.int .i64 (.ofNat bz))/\R (.ret (.bool (a0 (.ofNat aN) (.ofNat bz))) aZ))/\(a5=false->R (.ret (.bool false) al))):
  R (Y (m+1) (.fn 108) [v,.fn f [] aK] h):=
 dp (intr:=bW) [] [(0,.o v),(1,.o (.fn f [] aK))] Tryz.func108 (by kernel_rfl) (by kernel_rfl) (by kernel_rfl) rfl (Eq.mp (by kernel_rfl) H)
theorem TI(m:Nat)(v:I)(f:Nat)(aK:List I)(h:J){R:ao->Prop}(H:∃dn:Int,∃al:J,(Y m) (.fn 115) [v,.fn f [] aK] h=.ret (.int .i64 dn) al/\R (.ret (.bool (dv (.ofNat 0) dn)) al)):
  R (Y (m+1) (.fn 103) [v,.fn f [] aK] h):=
 dp (intr:=bW) [(7,.b7 (.z .i64))] [(0,.o v),(1,.o (.fn f [] aK))] Tryz.func103 (by kernel_rfl) (by kernel_rfl) (by kernel_rfl) rfl (Eq.mp (by kernel_rfl) H)
theorem TJ(m:Nat)(v:I)(f:Nat)(aK:List I)(h:J){R:ao->Prop}(H:∃aN:Nat,bO Tryz.prog h 49 v=some (.int .i64 (.ofNat aN))/\bj Tryz.prog Tryz.f115 (Y m) [1,0,1,0] (ah.mk [(0,v),(1,.fn f [] aK),(7,.int .i64 (.ofNat aN)),(8,.int .i64 (.ofNat 0))] [] .none h) (λcq cr=>((∃al:J,∃bl:Env,cq=.exit 0/\cr=ah.mk bl [] .none al/\cg [] bl/\R (.ret (.int .i64 (.negSucc 0)) al))\/(∃bz:Nat,∃ar:J,∃bB:Env,cq=.ret/\cr=ah.mk bB [] .none ar/\cg [(4,.int .i64 (.ofNat bz))] bB/\R (.ret (.int .i64 (.ofNat bz)) ar))))):
  R (Y (m+1) (.fn 115) [v,.fn f [] aK] h):=
 dp (intr:=bW) [(4000,.hD [0,1,7,8] [(.exit 0,[]),(.ret,[(4,.n .i64)])])] [(0,.o v),(1,.o (.fn f [] aK))] Tryz.func115 (by kernel_rfl) (by kernel_rfl) (by kernel_rfl) rfl (Eq.mp (by kernel_rfl) H)
theorem TK(call:aF->List I->J->ao)(b:Nat)(off:Nat)(N:Nat)(i:Nat)(f:Nat)(aK:List I)(aH:ch)(h:J){Q:bw->ah->Prop}(H:(i<N->i<N/\∃v1:I,au h b (off+i*1)=some v1/\∃a5:Bool,∃al:J,call (.fn f) (v1::aK) h=.ret (.bool a5) al/\(a5=true->Q .ret (ah.mk [(0,.slice b off N aH),(1,.fn f [] aK),(4,.int .i64 (.ofNat i)),(7,.int .i64 (.ofNat N)),(8,.int .i64 (.ofNat i))] [] .none al))/\(a5=false->i+1<9223372036854775808/\Q .nrm (ah.mk [(0,.slice b off N aH),(1,.fn f [] aK),(7,.int .i64 (.ofNat N)),(8,.int .i64 (.ofNat (i+1)))] [] .none al)))/\(¬i<N->Q (.exit 0) (ah.mk [(0,.slice b off N aH),(1,.fn f [] aK),(7,.int .i64 (.ofNat N)),(8,.int .i64 (.ofNat i))] [] .none h))):
  bj Tryz.prog Tryz.f115 call [1,0,1,0,0] ⟨[(0,.slice b off N aH),(1,.fn f [] aK),(7,.int .i64 (.ofNat N)),(8,.int .i64 (.ofNat i))],[],.none,h⟩ Q:=
 eu [(15,.b7 .o)] [0,1,4,7,8] [(0,.v (.slice b off N aH)),(1,.o (.fn f [] aK)),(7,.v (.int .i64 (.ofNat N))),(8,.v (.int .i64 (.ofNat i)))] rfl (Eq.mp (by kernel_rfl) H)
theorem TL(call:aF->List I->J->ao)(N:Nat)(i:Nat)(f:Nat)(aK:List I)(v:I)(h:J){Q:bw->ah->Prop}(H:¬i<N/\Q (.exit 0) (ah.mk [] [] .none h)):
  bj Tryz.prog Tryz.f115 call [1,0,1,0,0] ⟨[(0,v),(1,.fn f [] aK),(7,.int .i64 (.ofNat N)),(8,.int .i64 (.ofNat i))],[],.none,h⟩ Q:=
 eu [(1009,.f)] [] [(0,.o v),(1,.o (.fn f [] aK)),(7,.v (.int .i64 (.ofNat N))),(8,.v (.int .i64 (.ofNat i)))] rfl (Eq.mp (by kernel_rfl) H)
theorem TM(m:Nat)(v:I)(f:Nat)(aK:List I)(h:J){R:ao->Prop}(H:∃aN:Nat,bO Tryz.prog h 49 v=some (.int .i64 (.ofNat aN))/\(1<=aN/\aN<9223372036854775808)/\bj Tryz.prog Tryz.f124 (Y m) [1,0,1,0] (ah.mk [(0,v),(1,.fn f [] aK),(5,.int .i64 (.ofNat (aN-1)))] [] .none h) (λcq cr=>((∃al:J,∃bl:Env,cq=.exit 0/\cr=ah.mk bl [] .none al/\cg [] bl/\R (.ret (.bool true) al))\/(∃ar:J,∃bB:Env,cq=.ret/\cr=ah.mk bB [] .none ar/\cg [(4,.bool false)] bB/\R (.ret (.bool false) ar))))):
  R (Y (m+1) (.fn 124) [v,.fn f [] aK] h):=
 dp (intr:=bW) [(4000,.hD [0,1,5] [(.exit 0,[]),(.ret,[(4,.is (.bool false))])])] [(0,.o v),(1,.o (.fn f [] aK))] Tryz.func124 (by kernel_rfl) (by kernel_rfl) (by kernel_rfl) rfl (Eq.mp (by kernel_rfl) H)
theorem TN(m:Nat)(v:I)(f:Nat)(aK:List I)(h:J){R:ao->Prop}(H:∃aN:Nat,bO Tryz.prog h 49 v=some (.int .i64 (.ofNat aN))/\∃dn:Int,arith .sub .i64 (.ofNat aN) (.ofNat 1)=some (.int .i64 dn)/\bj Tryz.prog Tryz.f124 (Y m) [1,0,1,0] (ah.mk [(0,v),(1,.fn f [] aK),(5,.int .i64 dn)] [] .none h) (λcq cr=>∃al:J,∃bl:Env,cq=.exit 0/\cr=ah.mk bl [] .none al/\cg [] bl/\R (.ret (.bool true) al))):
  R (Y (m+1) (.fn 124) [v,.fn f [] aK] h):=
 dp (intr:=bW) [(8,.b7 (.z .i64)),(4000,.hD [0,1,5] [(.exit 0,[])])] [(0,.o v),(1,.o (.fn f [] aK))] Tryz.func124 (by kernel_rfl) (by kernel_rfl) (by kernel_rfl) rfl (Eq.mp (by kernel_rfl) H)
theorem TO(call:aF->List I->J->ao)(b:Nat)(off:Nat)(N:Nat)(i:Nat)(f:Nat)(aK:List I)(aH:ch)(h:J){Q:bw->ah->Prop}(H:(0<i->i<N/\∃v1:I,au (h.room 12) b (off+i*1)=some v1/\(1<=i/\i<9223372036854775808)/\i-1<N/\∃v2:I,au (h.room 12) b (off+(i-1)*1)=some v2/\∃dn:Int,∃al:J,call (.fn f) (v1::v2::aK) (h.room 12)=.ret (.int .i64 dn) al/\I.sound (.fn f [] aK)=true/\I.sound v1=true/\I.sound v2=true/\(bD dn (.ofNat 0)=true->Q .ret (ah.mk [(0,.slice b off N aH),(1,.fn f [] aK),(4,.bool false),(5,.int .i64 (.ofNat i))] [] .none al))/\(bD dn (.ofNat 0)=false->(1<=i/\i<9223372036854775808)/\Q .nrm (ah.mk [(0,.slice b off N aH),(1,.fn f [] aK),(5,.int .i64 (.ofNat (i-1)))] [] .none al)))/\(¬0<i->Q (.exit 0) (ah.mk [(0,.slice b off N aH),(1,.fn f [] aK),(5,.int .i64 (.ofNat i))] [] .none h))):
  bj Tryz.prog Tryz.f124 call [1,0,1,0,0] ⟨[(0,.slice b off N aH),(1,.fn f [] aK),(5,.int .i64 (.ofNat i))],[],.none,h⟩ Q:=
 eu [(17,.b7 .o),(22,.b7 .o),(23,.b7 (.z .i64))] [0,1,4,5] [(0,.v (.slice b off N aH)),(1,.o (.fn f [] aK)),(5,.v (.int .i64 (.ofNat i)))] rfl (Eq.mp (by kernel_rfl) H)
theorem TP(call:aF->List I->J->ao)(v:I)(f:Nat)(aK:List I)(h:J){Q:bw->ah->Prop}(H:bD (.ofNat 0) (.negSucc 0)=false/\Q (.exit 0) (ah.mk [] [] .none h)):
  bj Tryz.prog Tryz.f124 call [1,0,1,0,0] ⟨[(0,v),(1,.fn f [] aK),(5,.int .i64 (.negSucc 0))],[],.none,h⟩ Q:=
 eu [(1010,.f)] [] [(0,.o v),(1,.o (.fn f [] aK)),(5,.v (.int .i64 (.negSucc 0)))] rfl (Eq.mp (by kernel_rfl) H)
theorem TQ(m:Nat)(x:I)(y:I)(a:Nat)(f:Nat)(aK:List I)(h:J){R:ao->Prop}(H:au (h.room 7) a 0=some (.fn f [] aK)/\∃s1:List UInt8,∃al:J,(Y m) (.fn f) (x::aK) (h.room 7)=.ret (.str s1) al/\au al a 0=some (.fn f [] aK)/\∃s2:List UInt8,∃ar:J,(Y m) (.fn f) (y::aK) al=.ret (.str s2) ar/\I.sound (.fn f [] aK)=true/\I.sound x=true/\I.sound (.fn f [] aK)=true/\au (h.room 7) a 0=some (.fn f [] aK)/\I.sound y=true/\(dB s1 s2=true->R (.ret (.int .i64 (.negSucc 0)) ar))/\(dB s1 s2=false->R (.ret (.int .i64 (.ofNat 1)) ar))):
  R (Y (m+1) (.fn 125) [x,y,.ptr a 0] h):=
 dp (intr:=bW) [(6,.b7 (.io (.fn f [] aK))),(9,.b7 (.io (.fn f [] aK)))] [(0,.o x),(1,.o y),(2,.v (.ptr a 0))] Tryz.func125 (by kernel_rfl) (by kernel_rfl) (by kernel_rfl) rfl (Eq.mp (by kernel_rfl) H)
theorem TR(m:Nat)(x:I)(y:I)(a:Nat)(f:Nat)(aK:List I)(h:J){R:ao->Prop}(H:au (h.room 8) a 0=some (.fn f [] aK)/\∃s1:List UInt8,∃al:J,(Y m) (.fn f) (x::aK) (h.room 8)=.ret (.str s1) al/\au al a 0=some (.fn f [] aK)/\∃s2:List UInt8,∃ar:J,(Y m) (.fn f) (y::aK) al=.ret (.str s2) ar/\I.sound (.fn f [] aK)=true/\I.sound x=true/\I.sound (.fn f [] aK)=true/\au (h.room 8) a 0=some (.fn f [] aK)/\I.sound y=true/\R (.ret (.bool (dU s1 s2)) ar)):
  R (Y (m+1) (.fn 128) [x,y,.ptr a 0] h):=
 dp (intr:=bW) [(6,.b7 (.io (.fn f [] aK))),(9,.b7 (.io (.fn f [] aK)))] [(0,.o x),(1,.o y),(2,.v (.ptr a 0))] Tryz.func128 (by kernel_rfl) (by kernel_rfl) (by kernel_rfl) rfl (Eq.mp (by kernel_rfl) H)
theorem Ju(m:Nat)(v:I)(f:Nat)(aK:List I)(h:J){R:ao->Prop}(H:∃aN:Nat,bO Tryz.prog h 49 v=some (.int .i64 (.ofNat aN))/\(aN<2->R (.ret v h))/\(¬aN<2->bj Tryz.prog Tryz.f126 (Y m) [1,1,0,1,0] (ah.mk [(0,v),(1,.fn f [] aK),(5,.int .i64 (.ofNat 1))] [] .none h) (λcq cr=>((∃v1:I,∃al:J,∃bl:Env,cq=.exit 0/\cr=ah.mk bl [] .none al/\cg [(0,v1)] bl/\R (.ret v1 al))\/(∃v2:I,∃ar:J,∃bB:Env,cq=.ret/\cr=ah.mk bB [] .none ar/\cg [(4,v2)] bB/\R (.ret v2 ar)))))):
  R (Y (m+1) (.fn 126) [v,.fn f [] aK] h):=
 dp (intr:=bW) [(4000,.hD [0,1,5] [(.exit 0,[(0,.o)]),(.ret,[(4,.o)])])] [(0,.o v),(1,.o (.fn f [] aK))] Tryz.func126 (by kernel_rfl) (by kernel_rfl) (by kernel_rfl) rfl (Eq.mp (by kernel_rfl) H)
theorem TS(call:aF->List I->J->ao)(b:Nat)(N:Nat)(k:Nat)(f:Nat)(aK:List I)(h:J){Q:bw->ah->Prop}(H:(k<N->k<N/\∃v1:I,au (h.room 11) b (0+k*1)=some v1/\(1<=k/\k<9223372036854775808)/\k-1<N/\∃v2:I,au (h.room 11) b (0+(k-1)*1)=some v2/\∃a5:Bool,∃al:J,call (.fn f) (v1::v2::aK) (h.room 11)=.ret (.bool a5) al/\I.sound (.fn f [] aK)=true/\I.sound v1=true/\I.sound v2=true/\(a5=true->∃aN:Nat,∃bz:Nat,∃cm:Nat,∃c1:ch,e1 Tryz.prog al 49 (.slice b 0 N (.aS 1)) (some (.int .i64 (.ofNat k))) none none=some (.slice aN bz cm c1)/\bj Tryz.prog Tryz.f126 call [1,1,0,1,0,0,1,0,0,1,0,1,0,1,0] (ah.mk [(0,.slice b 0 N (.aS 1)),(1,.fn f [] aK),(5,.int .i64 (.ofNat k)),(6,.slice aN bz cm c1),(7,.int .i64 (.ofNat 1))] [] .none al) (λcq cr=>∃cy:Nat,∃c6:Nat,∃dr:Nat,∃c2:ch,∃ev:Nat,∃ar:J,∃bl:Env,cq=.exit 2/\cr=ah.mk bl [] .none ar/\cg [(0,.slice cy c6 dr c2),(5,.int .i64 (.ofNat ev))] bl/\∃gS:Nat,∃gH:Nat,∃gr:Nat,∃c3:ch,e1 Tryz.prog ar 49 (.slice cy c6 dr c2) (some (.int .i64 (.ofNat ev))) none none=some (.slice gS gH gr c3)/\∃aZ:J,n0 Tryz.prog ar 49 (.slice gS gH gr c3)=some (.aP [],aZ)/\∃dc:I,e1 Tryz.prog aZ 49 (.slice cy c6 dr c2) none (some (.int .i64 (.ofNat ev))) none=some dc/\Q .ret (ah.mk [(0,.slice cy c6 dr c2),(4,dc),(5,.int .i64 (.ofNat ev))] [] .none aZ)))/\(a5=false->k+1<9223372036854775808/\Q .nrm (ah.mk [(0,.slice b 0 N (.aS 1)),(1,.fn f [] aK),(5,.int .i64 (.ofNat (k+1)))] [] .none al)))/\(¬k<N->Q (.exit 0) (ah.mk [(0,.slice b 0 N (.aS 1)),(1,.fn f [] aK),(5,.int .i64 (.ofNat k))] [] .none h))):
  bj Tryz.prog Tryz.f126 call [1,1,0,1,0,0] ⟨[(0,.slice b 0 N (.aS 1)),(1,.fn f [] aK),(5,.int .i64 (.ofNat k))],[],.none,h⟩ Q:=
 eu [(22,.b7 .o),(27,.b7 .o),(31,.b7 .fL),(4002,.hD [0,1,5,6,7] [(.exit 2,[(0,.fL),(5,.n .i64)])]),(61,.b7 .fL),(64,.b7 .o)] [0,1,4,5] [(0,.v (.slice b 0 N (.aS 1))),(1,.o (.fn f [] aK)),(5,.v (.int .i64 (.ofNat k)))] rfl (Eq.mp (by kernel_rfl) H)
theorem TT(call:aF->List I->J->ao)(b:Nat)(N:Nat)(k:Nat)(f:Nat)(fJ:Nat)(M:Nat)(j:Nat)(aK:List I)(h:J){Q:bw->ah->Prop}(H:(j<M->j<M/\∃v1:I,au (h.room 12) b (fJ+j*1)=some v1/\(1<=j/\j<9223372036854775808)/\j-1<M/\∃v2:I,au (h.room 12) b (fJ+(j-1)*1)=some v2/\∃a5:Bool,∃al:J,call (.fn f) (v1::v2::aK) (h.room 12)=.ret (.bool a5) al/\I.sound (.fn f [] aK)=true/\I.sound v1=true/\I.sound v2=true/\(a5=true->j+1<9223372036854775808/\Q .nrm (ah.mk [(0,.slice b 0 N (.aS 1)),(1,.fn f [] aK),(5,.int .i64 (.ofNat k)),(6,.slice b fJ M (.aS 1)),(7,.int .i64 (.ofNat (j+1)))] [] .none al))/\(a5=false->j<M/\∃aN:Nat,au al b (fJ+j*1)=some (.ptr aN 0)/\k<N/\∃ar:J,aB.storeCells al b (0+k*1) [.ptr aN 0]=some ar/\k+1<9223372036854775808/\j+1<9223372036854775808/\Q .nrm (ah.mk [(0,.slice b 0 N (.aS 1)),(1,.fn f [] aK),(5,.int .i64 (.ofNat (k+1))),(6,.slice b fJ M (.aS 1)),(7,.int .i64 (.ofNat (j+1)))] [] .none ar)))/\(¬j<M->Q (.exit 2) (ah.mk [(0,.slice b 0 N (.aS 1)),(1,.fn f [] aK),(5,.int .i64 (.ofNat k)),(6,.slice b fJ M (.aS 1)),(7,.int .i64 (.ofNat j))] [] .none h))):
  bj Tryz.prog Tryz.f126 call [1,1,0,1,0,0,1,0,0,1,0,1,0,1,0,0] ⟨[(0,.slice b 0 N (.aS 1)),(1,.fn f [] aK),(5,.int .i64 (.ofNat k)),(6,.slice b fJ M (.aS 1)),(7,.int .i64 (.ofNat j))],[],.none,h⟩ Q:=
 eu [(42,.b7 .o),(47,.b7 .o)] [0,1,5,6,7] [(0,.v (.slice b 0 N (.aS 1))),(1,.o (.fn f [] aK)),(5,.v (.int .i64 (.ofNat k))),(6,.v (.slice b fJ M (.aS 1))),(7,.v (.int .i64 (.ofNat j)))] rfl (Eq.mp (by kernel_rfl) H)
theorem TU(m:Nat)(b:Nat)(off:Nat)(N:Nat)(aH:ch)(h:J){R:ao->Prop}(H:∃v1:I,∃al:J,gx Tryz.prog (J.push h (.cells [] 47 .own 0 0)) 49 (some 49) (.slice h.n 0 0 (.exact 0)) (.slice b off N aH)=some (v1,al)/\R (.ret v1 al)):
  R (Y (m+1) (.fn 127) [.slice b off N aH] h):=
 dp (intr:=bW) [(7,.b7 .o)] [(0,.v (.slice b off N aH))] Tryz.func127 (by kernel_rfl) (by kernel_rfl) (by kernel_rfl) rfl (Eq.mp (by kernel_rfl) H)
theorem TV(m:Nat)(h:J){R:ao->Prop}(H:R (.ret .bf h)):
  R (Y (m+1) (.fn 127) [.bf] h):=
 dp (intr:=bW) [] [(0,.v .bf)] Tryz.func127 (by kernel_rfl) (by kernel_rfl) (by kernel_rfl) rfl (Eq.mp (by kernel_rfl) H)
theorem TW(m:Nat)(v:I)(f:Nat)(aK:List I)(h:J){R:ao->Prop}(H:I.b0 (.fn f [] aK)=true/\∃a5:Bool,∃al:J,(Y m) (.fn 124) [v,.fn 125 [] [.ptr h.n 0]] (J.push h (.cells [.fn f [] aK] 145 .own 0 0))=.ret (.bool a5) al/\(a5=true->∃v1:I,∃ar:J,(Y m) (.fn 127) [v] al=.ret v1 ar/\∃v2:I,∃aZ:J,(Y m) (.fn 126) [v1,.fn 128 [] [.ptr h.n 0]] ar=.ret v2 aZ/\∃aN:Nat,bO Tryz.prog aZ 49 v2=some (.int .i64 (.ofNat aN))/\∃bz:Nat,bO Tryz.prog aZ 49 v=some (.int .i64 (.ofNat bz))/\R (.ret (.bool (a0 (.ofNat aN) (.ofNat bz))) aZ))/\(a5=false->R (.ret (.bool false) al))):
  R (Y (m+1) (.fn 111) [v,.fn f [] aK] h):=
 dp (intr:=bW) [] [(0,.o v),(1,.o (.fn f [] aK))] Tryz.func111 (by kernel_rfl) (by kernel_rfl) (by kernel_rfl) rfl (Eq.mp (by kernel_rfl) H)
theorem TX(m:Nat)(v:I)(h:J){R:ao->Prop}(H:∃a5:Bool,∃al:J,(Y m) (.fn 90) [v] h=.ret (.bool a5) al/\R (.ret (.bool !a5) al)):
  R (Y (m+1) (.fn 102) [v] h):=
 dp (intr:=bW) [] [(0,.o v)] Tryz.func102 (by kernel_rfl) (by kernel_rfl) (by kernel_rfl) rfl (Eq.mp (by kernel_rfl) H)
theorem TY(m:Nat)(s:List UInt8)(h:J){R:ao->Prop}(H:∃a5:Bool,∃al:J,(Y m) (.fn 107) [.str s] h=.ret (.bool a5) al/\R (.ret (.bool !a5) al)):
  R (Y (m+1) (.fn 106) [.str s] h):=
 dp (intr:=bW) [] [(0,.v (.str s))] Tryz.func106 (by kernel_rfl) (by kernel_rfl) (by kernel_rfl) rfl (Eq.mp (by kernel_rfl) H)
theorem TZ(m:Nat)(s:List UInt8)(h:J){R:ao->Prop}(H:R (.ret (.str s) h)):
  R (Y (m+1) (.fn 109) [.str s] h):=
 dp (intr:=bW) [] [(0,.v (.str s))] Tryz.func109 (by kernel_rfl) (by kernel_rfl) (by kernel_rfl) rfl (Eq.mp (by kernel_rfl) H)
theorem T0(m:Nat)(r:Nat)(h:J){R:ao->Prop}(H:∃aN:Nat,au h r (0+0)=some (.int .i64 (.ofNat aN))/\(aN=9->R (.ret (.bool true) h))/\(¬aN=9->∃bz:Nat,au h r (0+0)=some (.int .i64 (.ofNat bz))/\R (.ret (.bool (a0 (.ofNat bz) (.ofNat 1))) h))):
  R (Y (m+1) (.fn 110) [.ptr r 0] h):=
 dp (intr:=bW) [] [(0,.v (.ptr r 0))] Tryz.func110 (by kernel_rfl) (by kernel_rfl) (by kernel_rfl) rfl (Eq.mp (by kernel_rfl) H)
theorem T1(m:Nat)(r:Nat)(h:J){R:ao->Prop}(H:∃aN:Nat,∃al:J,(Y m) (.fn 70) [.ptr r 0] h=.ret (.int .i64 (.ofNat aN)) al/\(60<aN->R (.ret (.int .i64 (.ofNat 3)) al))/\(¬60<aN->∃a5:Bool,∃ar:J,(Y m) (.fn 90) [.ptr r 0] al=.ret (.bool a5) ar/\(a5=true->R (.ret (.int .i64 (.ofNat 0)) ar))/\(a5=false->R (.ret (.int .i64 (.ofNat 2)) ar)))):
  R (Y (m+1) (.fn 76) [.ptr r 0] h):=
 dp (intr:=bW) [] [(0,.v (.ptr r 0))] Tryz.func76 (by kernel_rfl) (by kernel_rfl) (by kernel_rfl) rfl (Eq.mp (by kernel_rfl) H)
theorem T2(m:Nat)(h:J){R:ao->Prop}(H:R (.ret (.int .i64 (.ofNat 1)) h)):
  R (Y (m+1) (.fn 76) [.bm] h):=
 dp (intr:=bW) [] [(0,.v .bm)] Tryz.func76 (by kernel_rfl) (by kernel_rfl) (by kernel_rfl) rfl (Eq.mp (by kernel_rfl) H)
theorem q8{n:Nat}{q:Nat->Bool}(h:∀j,j<n->q j=false):(List.range n).any q=false:=by
 rw[List.any_eq_false];intro j aG;rw[h j (by simpa using aG)];simp
theorem uT{n i:Nat}{q:Nat->Bool}(ae:i<n)(h:q i=true):(List.range n).any q=true:=List.any_eq_true.2 ⟨i,by simpa using ae,h⟩
theorem lE{f:Nat}{aK:List I}(h:iC aK=true):I.sound (.fn f [] aK)=true:=by simp[I.sound,iC,h]
theorem Jv(z:I)(a4:z.b0=true)(L:List I)(k:Nat)(av:k<L.length):eR k [z] L=some (L.set k z):=by
 have h:=wF (L.take k) [z] (L.drop k) (by simp[a4]) (by simp;omega)
 rw[List.length_take,Nat.min_eq_left (by omega),List.take_append_drop] at h
 rw[h,List.drop_drop]
 congr 1
 rw[List.set_eq_take_append_cons_drop,if_pos av]
 rfl
theorem Jw(xs:List I)(ab:xs.all I.b0=true)(L:List I)(k:Nat)(av:k+xs.length<=L.length):∃q9,eR k xs L=some q9/\q9.length=L.length:=by
 have h:=wF (L.take k) xs (L.drop k) ab (by simp;omega)
 rw[List.length_take,Nat.min_eq_left (by omega),List.take_append_drop] at h
 exact⟨_,h,by simp;omega⟩
theorem T3:∀(l cs:List I) (o:Nat),(∀i (ae:i<l.length),nth (o+i) cs=some l[i])->takeN l.length (ho o cs)=some l:=by
 have base:∀(l cs:List I),(∀i (ae:i<l.length),nth i cs=some l[i])->takeN l.length cs=some l:=by
  intro l
  induction l with
  |nil=>intro cs _;rfl
  |cons a l bd=>
   intro cs h
   cases cs with
   |nil=>have:=h 0 (by simp);simp[nth] at this
   |cons c cs=>
    have h0:=h 0 (by simp)
    simp only[nth,List.getElem_cons_zero,Option.some.injEq] at h0
    subst h0
    have:=bd cs (λi ae=>by have:=h (i+1) (by simpa using ae);simpa[nth] using this)
    simp only[List.length_cons,takeN,this]
 intro l cs o
 induction o generalizing cs with
 |zero=>intro h;exact base l cs (λi ae=>by have:=h i ae;rwa [Nat.zero_add] at this)
 |succ o bd=>
  intro h
  cases cs with
  |nil=>
   cases l with
   |nil=>rfl
   |cons a l=>have:=h 0 (by simp);simp[nth] at this
  |cons c cs=>
   refine bd cs (λi ae=>?_)
   have:=h i ae
   rw[show o+1+i=(o+i)+1 by omega] at this
   simpa[nth] using this
theorem c7.src{B:Nat}{h:J}{b off:Nat}{aH:ch}{vs:List I}(aq:∀i (ae:i<vs.length),au h b (off+i*1)=some vs[i])(h0:0<vs.length)(ag:aH≠ .dead):hW h 1 (.slice b off vs.length aH)=some (vs.length,vs):=by
 have af:∃cs e k bk up,h.get b=some (.cells cs e k bk up):=by
  have:=aq 0 h0
  unfold au at this
  split at this
  · rename_i cs e k bk up ak
    exact⟨cs,e,k,bk,up,ak⟩
  · cases this
 obtain⟨cs,e,k,bk,up,ak⟩:=af
 have fA:aB.loadCells h b off (vs.length*1)=some vs:=by
  refine nC ak ?_
  rw[Nat.mul_one]
  refine T3 vs cs off (λi ae=>?_)
  have:=aq i ae
  simp only[au,ak,Nat.mul_one] at this
  exact this
 cases aH with
 |dead=>exact absurd rfl ag
 |exact c=>simp only[hW,fA]
 |aS c=>simp only[hW,fA]
def hk(h:J)(b:Nat)(el:Nat)(L:List I):Prop:=h.get b=some (.cells L el .aS 0 0)
theorem hk.oK{h:J}{b el:Nat}{L:List I}(a7:hk h b el L){i o:Nat}(ae:i<L.length)(e:o=i):au h b o=some L[i]:=by
 subst e;exact CD a7 (List.getElem?_eq_getElem ae)
theorem T4(m:Nat){B:Nat}{h:J}{v:I}{vs:List I}(f:Nat)(aK:List I)(q:Nat->Bool)(aC:c7 B h v vs)(hlen:vs.length<=90000)(hf:∀i (ae:i<vs.length) x,Ext B h x->bM B x (.bool (q i)) (Y m (.fn f) (vs[i]::aK) x)):
  bM B h (.bool ((List.range vs.length).any q)) (Y (m+2) (.fn 105) [v,.fn f [] aK] h):=by
 refine Tt (m+1) v f aK h ?_
 have key:∃i g,Y (m+1) (.fn 117) [v,.fn f [] aK] h=.ret (.int .i64 i) g/\dv (Int.ofNat 0) i=(List.range vs.length).any q/\Ext B h g:=by
  refine Tu m v f aK h (R:=λx=>∃i g,x=.ret (.int .i64 i) g/\dv (Int.ofNat 0) i=(List.range vs.length).any q/\Ext B h g) ⟨vs.length,aC.len (t:=48) (e:=9) (by kernel_rfl),?_⟩
  refine bj.loop (by kernel_rfl) (λk st=>∃i x Γ,st=⟨Γ,[],.none,x⟩/\cg [(0,v),(1,.fn f [] aK),(7,.int .i64 (Int.ofNat vs.length)),(8,.int .i64 (Int.ofNat i))] Γ/\vs.length-i=k/\i<=vs.length/\Ext B h x/\∀j,j<i->q j=false) ?_ vs.length _ (by omega) ⟨0,h,_,rfl,⟨rfl,rfl,rfl,rfl,trivial⟩,by omega,by omega,Ext.refl _ _,λj aG=>by omega⟩
  rintro k st ⟨i,x,Γ,rfl,cJ,av,ae,ab,bp⟩
  rcases aC with⟨rfl,rfl⟩|⟨b,off,aH,rfl,af,aq,a_,aA⟩
  · exact bj.pre (Tw (Y m) _ i f aK _ x ⟨by simp,.inl ⟨x,_,rfl,rfl,trivial,_,x,rfl,rfl,ab⟩⟩) cJ rfl rfl rfl
  · refine bj.pre (Tv (Y m) b off _ i f aK aH x ⟨λaa=>⟨aa,_,gg ab af (aq i aa),?_⟩,λaa=>?_⟩) cJ rfl rfl rfl
    · obtain⟨g,c1,a8⟩:=hf i aa x ab
      have ak:=ab.trans (Nat.le_refl _) a8
      refine⟨q i,g,c1,λag=>?_,λag=>?_⟩
      · exact .inr ⟨i,g,_,rfl,rfl,⟨rfl,trivial⟩,_,g,rfl,by rw[uT aa ag];exact iD (by omega),ak⟩
      · refine⟨by omega,_,(by show _<k;omega),i+1,g,_,rfl,⟨rfl,rfl,rfl,rfl,trivial⟩,rfl,by omega,ak,λj aG=>?_⟩
        by_cases e:j=i
        · rw[e];exact ag
        · exact bp j (by omega)
    · exact .inl ⟨x,_,rfl,rfl,trivial,_,x,rfl,by rw[q8 (λj aG=>bp j (by omega))];rfl,ab⟩
 obtain⟨i,g,c1,ax,a8⟩:=key
 exact⟨i,g,c1,bM.of (eo ax.symm) a8⟩
theorem T5(m:Nat){B:Nat}{h:J}{v:I}{vs:List I}(f:Nat)(aK:List I)(q:Nat->Nat->Bool)(aC:c7 B h v vs)(hlen:vs.length<=90000)(g0:iC aK=true)(eK:∀i (ae:i<vs.length),I.sound vs[i]=true)(hf:∀i j (ae:i<vs.length) (aG:j<vs.length) x,Ext B h x->bM B x (.int .i64 (if q i j then Int.negSucc 0 else Int.ofNat 1)) (Y m (.fn f) (vs[i]::vs[j]::aK) x)):
  bM B h (.bool (!(List.range vs.length).any (λi=>decide (0<i)&&q i (i-1)))) (Y (m+1) (.fn 119) [v,.fn f [] aK] h):=by
 by_cases h0:vs.length=0
 · refine Ty m v f aK h ⟨0,by rw[<-h0];exact aC.len (t:=48) (e:=9) (by kernel_rfl),Int.negSucc 0,by kernel_rfl,?_⟩
   refine bj.loop (by kernel_rfl) (λk st=>∃Γ,st=⟨Γ,[],.none,h⟩/\cg [(0,v),(1,.fn f [] aK),(5,.int .i64 (Int.negSucc 0))] Γ) ?_ 1 _ (by omega) ⟨_,rfl,rfl,rfl,rfl,trivial⟩
   rintro k st ⟨Γ,rfl,cJ⟩
   exact bj.pre (TA (Y m) v f aK h ⟨rfl,h,_,rfl,rfl,trivial,bM.of (eo (by rw[h0];rfl)) (Ext.refl _ _)⟩) cJ rfl rfl rfl
 · refine Tx m v f aK h ⟨vs.length,aC.len (t:=48) (e:=9) (by kernel_rfl),⟨by omega,by omega⟩,?_⟩
   refine bj.loop (by kernel_rfl) (λk st=>∃i x Γ,st=⟨Γ,[],.none,x⟩/\cg [(0,v),(1,.fn f [] aK),(5,.int .i64 (Int.ofNat i))] Γ/\i=k/\i<vs.length/\Ext B h x/\∀j,i<j->j<vs.length->q j (j-1)=false) ?_ (vs.length-1) _ (by omega) ⟨vs.length-1,h,_,rfl,⟨rfl,rfl,rfl,trivial⟩,by omega,by omega,Ext.refl _ _,λj aG k7=>by omega⟩
   rintro k st ⟨i,x,Γ,rfl,cJ,av,ae,ab,bp⟩
   rcases aC with⟨rfl,rfl⟩|⟨b,off,aH,rfl,af,aq,a_,aA⟩
   · simp at h0
   · refine bj.pre (Tz (Y m) b off _ i f aK aH x ⟨λaa=>?_,λaa=>?_⟩) cJ rfl rfl rfl
     · have ai:=ab.il (k:=12)
       obtain⟨g,c1,a8⟩:=hf i (i-1) ae (by omega) _ ai
       have ak:=ai.trans (Nat.le_refl _) a8
       refine⟨ae,_,gg ai af (aq i ae),⟨by omega,by omega⟩,by omega,_,gg ai af (aq (i-1) (by omega)),_,g,c1,lE g0,eK i ae,eK (i-1) (by omega),λag=>?_,λag=>?_⟩
       · have s6:q i (i-1)=true:=by
           cases o9:q i (i-1) with
           |true=>rfl
           |false=>rw[o9] at ag;exact absurd ag (by decide)
         exact .inr ⟨g,_,rfl,rfl,⟨rfl,trivial⟩,bM.of (eo (by rw[uT ae (by simp[aa,s6])];rfl)) ak⟩
       · have s6:q i (i-1)=false:=by
           cases o9:q i (i-1) with
           |false=>rfl
           |true=>rw[o9] at ag;exact absurd ag (by decide)
         refine⟨⟨by omega,by omega⟩,_,(by show _<k;omega),i-1,g,_,rfl,⟨rfl,rfl,rfl,trivial⟩,rfl,by omega,ak,λj aG k7=>?_⟩
         by_cases e:j=i
         · rw[e];exact s6
         · exact bp j (by omega) k7
     · refine .inl ⟨x,_,rfl,rfl,trivial,bM.of (eo ?_) ab⟩
       rw[q8 (λj aG=>?_)];rfl
       by_cases e:0<j
       · rw[bp j (by omega) aG,Bool.and_false]
       · simp[e]
theorem Jx(m:Nat){B:Nat}{h:J}{v:I}{vs:List I}(f:Nat)(aK:List I)(q:Nat->Bool)(aC:c7 B h v vs)(hlen:vs.length<=90000)(hf:∀i (ae:i<vs.length) x,Ext B h x->bM B x (.bool (q i)) (Y m (.fn f) (vs[i]::aK) x)):
  bM B h (.bool ((List.range vs.length).any q)) (Y (m+2) (.fn 103) [v,.fn f [] aK] h):=by
 refine TI (m+1) v f aK h ?_
 have key:∃i g,Y (m+1) (.fn 115) [v,.fn f [] aK] h=.ret (.int .i64 i) g/\dv (Int.ofNat 0) i=(List.range vs.length).any q/\Ext B h g:=by
  refine TJ m v f aK h (R:=λx=>∃i g,x=.ret (.int .i64 i) g/\dv (Int.ofNat 0) i=(List.range vs.length).any q/\Ext B h g) ⟨vs.length,aC.len (t:=49) (e:=47) (by kernel_rfl),?_⟩
  refine bj.loop (by kernel_rfl) (λk st=>∃i x Γ,st=⟨Γ,[],.none,x⟩/\cg [(0,v),(1,.fn f [] aK),(7,.int .i64 (Int.ofNat vs.length)),(8,.int .i64 (Int.ofNat i))] Γ/\vs.length-i=k/\i<=vs.length/\Ext B h x/\∀j,j<i->q j=false) ?_ vs.length _ (by omega) ⟨0,h,_,rfl,⟨rfl,rfl,rfl,rfl,trivial⟩,by omega,by omega,Ext.refl _ _,λj aG=>by omega⟩
  rintro k st ⟨i,x,Γ,rfl,cJ,av,ae,ab,bp⟩
  rcases aC with⟨rfl,rfl⟩|⟨b,off,aH,rfl,af,aq,a_,aA⟩
  · exact bj.pre (TL (Y m) _ i f aK _ x ⟨by simp,.inl ⟨x,_,rfl,rfl,trivial,_,x,rfl,rfl,ab⟩⟩) cJ rfl rfl rfl
  · refine bj.pre (TK (Y m) b off _ i f aK aH x ⟨λaa=>⟨aa,_,gg ab af (aq i aa),?_⟩,λaa=>?_⟩) cJ rfl rfl rfl
    · obtain⟨g,c1,a8⟩:=hf i aa x ab
      have ak:=ab.trans (Nat.le_refl _) a8
      refine⟨q i,g,c1,λag=>?_,λag=>?_⟩
      · exact .inr ⟨i,g,_,rfl,rfl,⟨rfl,trivial⟩,_,g,rfl,by rw[uT aa ag];exact iD (by omega),ak⟩
      · refine⟨by omega,_,(by show _<k;omega),i+1,g,_,rfl,⟨rfl,rfl,rfl,rfl,trivial⟩,rfl,by omega,ak,λj aG=>?_⟩
        by_cases e:j=i
        · rw[e];exact ag
        · exact bp j (by omega)
    · exact .inl ⟨x,_,rfl,rfl,trivial,_,x,rfl,by rw[q8 (λj aG=>bp j (by omega))];rfl,ab⟩
 obtain⟨i,g,c1,ax,a8⟩:=key
 exact⟨i,g,c1,bM.of (eo ax.symm) a8⟩
theorem T6(m:Nat){B:Nat}{h:J}{v:I}{vs:List I}(f:Nat)(aK:List I)(q:Nat->Nat->Bool)(aC:c7 B h v vs)(hlen:vs.length<=90000)(g0:iC aK=true)(eK:∀i (ae:i<vs.length),I.sound vs[i]=true)(hf:∀i j (ae:i<vs.length) (aG:j<vs.length) x,Ext B h x->bM B x (.int .i64 (if q i j then Int.negSucc 0 else Int.ofNat 1)) (Y m (.fn f) (vs[i]::vs[j]::aK) x)):
  bM B h (.bool (!(List.range vs.length).any (λi=>decide (0<i)&&q i (i-1)))) (Y (m+1) (.fn 124) [v,.fn f [] aK] h):=by
 by_cases h0:vs.length=0
 · refine TN m v f aK h ⟨0,by rw[<-h0];exact aC.len (t:=49) (e:=47) (by kernel_rfl),Int.negSucc 0,by kernel_rfl,?_⟩
   refine bj.loop (by kernel_rfl) (λk st=>∃Γ,st=⟨Γ,[],.none,h⟩/\cg [(0,v),(1,.fn f [] aK),(5,.int .i64 (Int.negSucc 0))] Γ) ?_ 1 _ (by omega) ⟨_,rfl,rfl,rfl,rfl,trivial⟩
   rintro k st ⟨Γ,rfl,cJ⟩
   exact bj.pre (TP (Y m) v f aK h ⟨rfl,h,_,rfl,rfl,trivial,bM.of (eo (by rw[h0];rfl)) (Ext.refl _ _)⟩) cJ rfl rfl rfl
 · refine TM m v f aK h ⟨vs.length,aC.len (t:=49) (e:=47) (by kernel_rfl),⟨by omega,by omega⟩,?_⟩
   refine bj.loop (by kernel_rfl) (λk st=>∃i x Γ,st=⟨Γ,[],.none,x⟩/\cg [(0,v),(1,.fn f [] aK),(5,.int .i64 (Int.ofNat i))] Γ/\i=k/\i<vs.length/\Ext B h x/\∀j,i<j->j<vs.length->q j (j-1)=false) ?_ (vs.length-1) _ (by omega) ⟨vs.length-1,h,_,rfl,⟨rfl,rfl,rfl,trivial⟩,by omega,by omega,Ext.refl _ _,λj aG k7=>by omega⟩
   rintro k st ⟨i,x,Γ,rfl,cJ,av,ae,ab,bp⟩
   rcases aC with⟨rfl,rfl⟩|⟨b,off,aH,rfl,af,aq,a_,aA⟩
   · simp at h0
   · refine bj.pre (TO (Y m) b off _ i f aK aH x ⟨λaa=>?_,λaa=>?_⟩) cJ rfl rfl rfl
     · have ai:=ab.il (k:=12)
       obtain⟨g,c1,a8⟩:=hf i (i-1) ae (by omega) _ ai
       have ak:=ai.trans (Nat.le_refl _) a8
       refine⟨ae,_,gg ai af (aq i ae),⟨by omega,by omega⟩,by omega,_,gg ai af (aq (i-1) (by omega)),_,g,c1,lE g0,eK i ae,eK (i-1) (by omega),λag=>?_,λag=>?_⟩
       · have s6:q i (i-1)=true:=by
           cases o9:q i (i-1) with
           |true=>rfl
           |false=>rw[o9] at ag;exact absurd ag (by decide)
         exact .inr ⟨g,_,rfl,rfl,⟨rfl,trivial⟩,bM.of (eo (by rw[uT ae (by simp[aa,s6])];rfl)) ak⟩
       · have s6:q i (i-1)=false:=by
           cases o9:q i (i-1) with
           |false=>rfl
           |true=>rw[o9] at ag;exact absurd ag (by decide)
         refine⟨⟨by omega,by omega⟩,_,(by show _<k;omega),i-1,g,_,rfl,⟨rfl,rfl,rfl,trivial⟩,rfl,by omega,ak,λj aG k7=>?_⟩
         by_cases e:j=i
         · rw[e];exact s6
         · exact bp j (by omega) k7
     · refine .inl ⟨x,_,rfl,rfl,trivial,bM.of (eo ?_) ab⟩
       rw[q8 (λj aG=>?_)];rfl
       by_cases e:0<j
       · rw[bp j (by omega) aG,Bool.and_false]
       · simp[e]
end Go.Proofs.cD
namespace Go.Proofs.cD
open Go aB Go.Proofs df
set_option maxRecDepth 100000
set_option maxHeartbeats 1000000
theorem Jy{n:Nat}(h:¬n<2):2<=n:=by omega
theorem z3{P:Program}{h:J}{T E b n k:Nat}(hu:P.underlying T=some (.slice E))(hs:dd P E=some 1)(h0:0<k)(av:k<n):e1 P h T (.slice b 0 n (.aS 1)) (some (.int .i64 (Int.ofNat k))) none none=some (.slice b (0+k*1) (n-k) (.aS 1)):=by
 have a5:Nat.ble n n=true:=by rw[Nat.ble_eq];omega
 have bt:Nat.ble k n=true:=by rw[Nat.ble_eq];omega
 have dP:Nat.blt k n=true:=by rw[Nat.blt_eq];exact av
 have dt:¬k=0:=by omega
 simp only[e1,hu,hs,bounds,jo,fo,a5,bt,dP,if_true,if_neg dt]
theorem Jz{P:Program}{h:J}{T E b n k:Nat}(hu:P.underlying T=some (.slice E))(hs:dd P E=some 1)(av:k<=n):e1 P h T (.slice b 0 n (.aS 1)) none (some (.int .i64 (Int.ofNat k))) none=some (.slice b 0 k (.aS 1)):=by
 have a5:Nat.ble n n=true:=by rw[Nat.ble_eq];omega
 have bt:Nat.ble k n=true:=by rw[Nat.ble_eq];omega
 have dP:Nat.ble 0 k=true:=by rw[Nat.ble_eq];omega
 simp only[e1,hu,hs,bounds,jo,fo,a5,bt,dP,if_true,Nat.sub_zero]
theorem JA:∀a:aO,dB a a=false
 |[]=>rfl
 |x::a=>by rw[zO,if_pos rfl];exact JA a
theorem JB:∀a b:aO,dB a b=true->dB b a=false
 |[],b,h=>by cases b<;>rfl
 |x::a,[],h=>by simp[dB] at h
 |x::a,y::b,h=>by
  rw[zO] at h⊢
  by_cases e:x.toNat=y.toNat
  · rw[if_pos e] at h;rw[if_pos e.symm];exact JB a b h
  · rw[if_neg e] at h;rw[if_neg (λh=>e h.symm)]
    have:x.toNat<y.toNat:=by simpa using h
    simp;omega
theorem JC:∀a b:aO,dB a b=false->dB b a=false->a=b
 |[],[],_,_=>rfl
 |[],y::b,h,_=>by simp[dB] at h
 |x::a,[],_,h=>by simp[dB] at h
 |x::a,y::b,aa,ad=>by
  rw[zO] at aa ad
  by_cases e:x.toNat=y.toNat
  · rw[if_pos e] at aa;rw[if_pos e.symm] at ad
    rw[JC a b aa ad,show x=y from UInt8.toNat_inj.1 e]
  · rw[if_neg e] at aa;rw[if_neg (λh=>e h.symm)] at ad
    simp at aa ad;omega
theorem JD(a b:aO):dB a b=(!dB b a&&!dU b a):=by
 by_cases e:b=a
 · subst e;rw[JA,PM];rfl
 · have af:dU b a=false:=by
     cases ab:dU b a with
     |false=>rfl
     |true=>exact absurd (by simpa[n8] using ab) e
   rw[af]
   cases aa:dB a b with
   |true=>rw[JB a b aa];rfl
   |false=>
    cases ad:dB b a with
    |true=>rfl
    |false=>exact absurd (JC a b aa ad).symm e
def oL(w:Nat->aO)(n:Nat):Bool:=!(List.range n).any (λi=>decide (0<i)&&!dB (w (i-1)) (w i))
theorem JE(w:Nat->aO)(n:Nat)(hs:(!(List.range n).any (λi=>decide (0<i)&&dB (w i) (w (i-1))))=true):oL w n=(!(List.range n).any (λi=>decide (0<i)&&dU (w i) (w (i-1)))):=by
 unfold oL
 congr 1
 rw[Bool.not_eq_true',List.any_eq_false] at hs
 rw[Bool.eq_iff_iff,List.any_eq_true,List.any_eq_true]
 refine exists_congr λi=>and_congr_right λae=>?_
 have:=hs i ae
 rw[JD (w (i-1)) (w i)]
 by_cases e:0<i
 · have aq:dB (w i) (w (i-1))=false:=by simpa[e] using this
   rw[aq];simp[e]
 · simp[e]
theorem JF(w:Nat->aO)(n:Nat)(hs:(!(List.range n).any (λi=>decide (0<i)&&dB (w i) (w (i-1))))=false):oL w n=false:=by
 unfold oL
 rw[Bool.not_eq_false',List.any_eq_true] at hs⊢
 obtain⟨i,ae,bp⟩:=hs
 refine⟨i,ae,?_⟩
 rw[JD (w (i-1)) (w i)]
 simp only[Bool.and_eq_true] at bp⊢
 rw[bp.2];exact⟨bp.1,rfl⟩
def xf(L vs:List I):Prop:=∀i (ae:i<L.length),∃s,∃hs:s<vs.length,L[i]=vs[s]
theorem xf.set{L vs:List I}(h:xf L vs)(k:Nat){s:Nat}(hs:s<vs.length):xf (L.set k vs[s]) vs:=by
 intro i ae
 rw[List.getElem_set]
 split
 · exact⟨s,hs,rfl⟩
 · exact h i (by simpa using ae)
theorem JG{a:Bool}{n k:Nat}(h:a=decide (k=n)):a0 (Int.ofNat k) (Int.ofNat n)=a:=by rw[pD,h]
theorem JH{E U:Nat}{h:J}{v:I}{vs:List I}{a:Nat}(hu:Tryz.prog.underlying U=some (.slice E))(gk:nZ Tryz.prog (some U)=true){i:TypeInfo}{z:I}(ae:Tryz.prog.info? E=some i)(bH:i.size=1)(mR:i.bytes<=1000)(a4:ea Tryz.prog E=some z)(ie:z.cells.length=1)(aC:hW h 1 v=some (vs.length,vs))(h0:0<vs.length)(aq:vs.length<=90000)(ag:vs.all I.b0=true)(ba:h.get a=some (.cells [] E .own 0 0)):
  gx Tryz.prog h U (some U) (.slice a 0 0 (.exact 0)) v=some (.slice h.n 0 vs.length (.aS 1),h.push (.cells vs E .aS 0 0)):=by
 obtain⟨k,av⟩:∃k,vs.length=k+1:=⟨vs.length-1,by omega⟩
 have hmul:(4*(0+(k+1))+2048)*(i.bytes+1)<=(4*90000+2048)*1001:=Nat.mul_le_mul (by omega) (by omega)
 have hS:j_ h E i.bytes 1 (0+(k+1)) z ([]++vs) 0=some (.slice h.n 0 (0+(k+1)) (.aS 1),h.push (.cells ([]++vs) E .aS 0 0)):=
  wE (by unfold k2;rw[Nat.ble_eq];omega) (by rw[ie];rfl) (by rw[List.nil_append];exact ag)
 have pk:Nat.ble (0+(k+1)) 0=false:=by
  cases ab:Nat.ble (0+(k+1)) 0 with
  |false=>rfl
  |true=>have:=Nat.le_of_ble_eq_true ab;omega
 have fA:aB.loadCells h a 0 (0*1)=some []:=by simp only[aB.loadCells,ba];rfl
 rw[av] at aC
 simp only[gx,hu,gk,ae,a4,bH,aC,av,pk,fA,hS]
 rw[List.nil_append,Nat.zero_add]
theorem T7(m:Nat){B:Nat}{h:J}{v:I}{vs:List I}(bI:B<=h.n)(aC:c7 B h v vs)(hlen:vs.length<=90000)(ag:vs.all I.b0=true):(v=.bf/\vs=[]/\Y (m+1) (.fn 122) [v] h=.ret .bf h)\/(0<vs.length/\∃b an,Y (m+1) (.fn 122) [v] h=.ret (.slice b 0 vs.length (.aS 1)) an/\B<=b/\b<an.n/\hk an b 9 vs/\Ext B h an):=by
 rcases aC with⟨rfl,rfl⟩|⟨b,off,aH,rfl,af,aq,a_,aA⟩
 · exact .inl ⟨rfl,rfl,TG m h (R:=λx=>x=.ret .bf h) rfl⟩
 · right
   refine⟨a_,?_⟩
   obtain⟨H,cS⟩:∃H,H=h.push (.cells [] 9 .own 0 0):=⟨_,rfl⟩
   have dz:Ext B h H:=by rw[cS];exact Ext.push bI _
   have jf:H.n=h.n+1:=by rw[cS];rfl
   have gk:=c7.src (B:=B) (h:=H) (λi ae=>gg dz af (aq i ae)) a_ aA
   obtain⟨i,ae⟩:=Option.isSome_iff_exists.1 (show(Tryz.prog.info? 9).isSome=true by kernel_rfl)
   have bH:i.size=1:=by
    have:(Tryz.prog.info? 9).map (·.size)=some 1:=by kernel_rfl
    rw[ae] at this;simpa using this
   have mR:i.bytes<=1000:=by
    have:(Tryz.prog.info? 9).map (λi=>Nat.ble i.bytes 1000)=some true:=by kernel_rfl
    rw[ae] at this;exact Nat.le_of_ble_eq_true (by simpa using this)
   obtain⟨z,a4⟩:=Option.isSome_iff_exists.1 (show(ea Tryz.prog 9).isSome=true by kernel_rfl)
   have ie:z.cells.length=1:=by
    have:(ea Tryz.prog 9).map (λz=>z.cells.length)=some 1:=by kernel_rfl
    rw[a4] at this;simpa using this
   have ap:=JH (U:=48) (E:=9) (a:=h.n) (by kernel_rfl) (by kernel_rfl) ae bH mR a4 ie gk a_ hlen ag (by rw[cS];exact gf rfl)
   refine TF m b off vs.length aH h (R:=λx=>∃b an,x=.ret (.slice b 0 vs.length (.aS 1)) an/\B<=b/\b<an.n/\hk an b 9 vs/\Ext B h an) ?_
   rw[<-cS]
   exact⟨_,_,ap,_,_,rfl,by omega,by simp,gf rfl,dz.trans (Nat.le_refl _) (Ext.push (Nat.le_trans bI dz.n) _)⟩
theorem T8(m:Nat){B b K f:Nat}{h:J}{vs:List I}(aK:List I)(q:Nat->Nat->Bool)(hlen:vs.length<=90000)(md:B<=b)(du:1<=K)(T9:K<vs.length)(g0:iC aK=true)(eK:∀i (ae:i<vs.length),I.sound vs[i]=true)(ij:∀i (ae:i<vs.length),∃z:List UInt8,vs[i]=(.str z))(hf:∀i j (ae:i<vs.length) (aG:j<vs.length) x,Ext B h x->bM x.n x (.bool (q i j)) (Y m (.fn f) (vs[i]::vs[j]::aK) x))
  {g:J}(af:b<g.n)(a7:hk g b 9 vs)(ab:Ext B h g){Γ:Env}(cJ:cg [(0,.slice b 0 vs.length (.aS 1)),(1,.fn f [] aK),(5,.int .i64 (Int.ofNat K)),(6,.slice b (0+K*1) (vs.length-K) (.aS 1)),(7,.int .i64 (Int.ofNat 1))] Γ):
  bj Tryz.prog Tryz.f121 (Y m) [1,1,0,1,0,0,1,0,0,1,0,1,0,1,0] ⟨Γ,[],.none,g⟩ (λcq cr=>∃(cl:Nat) (ar:J) (bU:Env),cq=.exit 2/\cr=⟨bU,[],.none,ar⟩/\cg [(0,.slice b 0 vs.length (.aS 1)),(5,.int .i64 (Int.ofNat cl))] bU/\K<=cl/\cl<vs.length/\b<ar.n/\Ext B h ar/\∃L,hk ar b 9 L/\L.length=vs.length):=by
 refine bj.loop (by kernel_rfl) (λt st=>∃j k L x Γ,st=⟨Γ,[],.none,x⟩/\cg [(0,.slice b 0 vs.length (.aS 1)),(1,.fn f [] aK),(5,.int .i64 (Int.ofNat k)),(6,.slice b (0+K*1) (vs.length-K) (.aS 1)),(7,.int .i64 (Int.ofNat j))] Γ/\(vs.length-K)-j=t/\1<=j/\j<=vs.length-K/\K<=k/\k+1<=K+j/\b<x.n/\hk x b 9 L/\L.length=vs.length/\xf L vs/\Ext B h x) ?_ (vs.length-K-1) _ (by omega) ⟨1,K,vs,g,Γ,rfl,cJ,by omega,by omega,by omega,by omega,by omega,af,a7,rfl,λi ae=>⟨i,ae,rfl⟩,ab⟩
 rintro t st ⟨j,k,L,x,Γ,rfl,cJ,aU,aG,tE,av,BQ,xg,pJ,m5,me,je⟩
 refine bj.pre (TE (Y m) b _ k f (0+K*1) _ j aK x ⟨λaa=>?_,λaa=>?_⟩) cJ rfl rfl rfl
 · have ai:=je.il (k:=12)
   have kU:hk (x.room 12) b 9 L:=pJ
   have i1:K+j<L.length:=by omega
   have i2:K+j-1<L.length:=by omega
   obtain⟨s,hs,es⟩:=me (K+j) i1
   obtain⟨bC,dD,qn⟩:=me (K+j-1) i2
   obtain⟨al,c1,a8⟩:=hf s bC hs dD _ ai
   have eW:=ai.trans (Nat.le_refl _) (a8.le (show B<=(x.room 12).n by simp;omega))
   have nN:b<(x.room 12).n:=by simp;omega
   have mf:hk al b 9 L:=(a8.get b nN).trans kU
   have pK:b<al.n:=Nat.lt_of_lt_of_le nN a8.n
   obtain⟨z,a4⟩:=ij s hs
   refine⟨aa,_,(kU.oK i1 (by omega)).trans (by rw[es]),⟨by omega,by omega⟩,by omega,_,(kU.oK i2 (by omega)).trans (by rw[qn]),_,al,c1,lE g0,eK s hs,eK bC dD,λag=>?_,λag=>?_⟩
   · exact⟨by omega,_,(by show _<t;omega),j+1,k,L,al,_,rfl,⟨rfl,rfl,rfl,rfl,rfl,trivial⟩,rfl,by omega,by omega,by omega,by omega,pK,mf,m5,me,eW⟩
   · have cf:aB.storeCells al b (0+k*1) [(.str z)]=some (al.set b (some (.cells (L.set k (.str z)) 9 .aS 0 0))):=
       iE mf (wI _ _) (by rw[show 0+k*1=k by omega];exact Jv _ rfl L k (by omega))
     refine⟨aa,z,(mf.oK i1 (by omega)).trans (by rw[es,a4]),by omega,_,cf,by omega,by omega,_,(by show _<t;omega),j+1,k+1,L.set k (.str z),_,_,rfl,⟨rfl,rfl,rfl,rfl,rfl,trivial⟩,rfl,by omega,by omega,by omega,by omega,by simp;omega,iW rfl,by simpa using m5,?_,Ext.hg md eW⟩
     rw[<-a4]
     exact me.set k hs
 · exact⟨k,x,_,rfl,rfl,⟨rfl,rfl,trivial⟩,av,by omega,xg,je,L,pJ,m5⟩
theorem T_(m:Nat){B b f:Nat}{h:J}{vs:List I}(aK:List I)(q:Nat->Nat->Bool)(hlen:vs.length<=90000)(md:B<=b)(g0:iC aK=true)(eK:∀i (ae:i<vs.length),I.sound vs[i]=true)(ij:∀i (ae:i<vs.length),∃z:List UInt8,vs[i]=(.str z))(hf:∀i j (ae:i<vs.length) (aG:j<vs.length) x,Ext B h x->bM x.n x (.bool (q i j)) (Y m (.fn f) (vs[i]::vs[j]::aK) x))
  (af:b<h.n)(a7:hk h b 9 vs):
  ∃w g k,Y (m+1) (.fn 121) [.slice b 0 vs.length (.aS 1),.fn f [] aK] h=.ret w g/\bO Tryz.prog g 48 w=some (.int .i64 (Int.ofNat k))/\(!(List.range vs.length).any (λi=>decide (0<i)&&q i (i-1)))=decide (k=vs.length)/\Ext B h g:=by
 refine Jt m (.slice b 0 vs.length (.aS 1)) f aK h (R:=λx=>∃w g k,x=.ret w g/\bO Tryz.prog g 48 w=some (.int .i64 (Int.ofNat k))/\(!(List.range vs.length).any (λi=>decide (0<i)&&q i (i-1)))=decide (k=vs.length)/\Ext B h g) ⟨vs.length,by rfl,λad=>?_,λad=>?_⟩
 · refine⟨_,h,vs.length,rfl,by rfl,?_,Ext.refl _ _⟩
   rw[q8 (λj aG=>by simp[show¬0<j by omega])];simp
 · replace ad:=Jy ad
   refine bj.loop (by kernel_rfl) (λt st=>∃k x Γ,st=⟨Γ,[],.none,x⟩/\cg [(0,.slice b 0 vs.length (.aS 1)),(1,.fn f [] aK),(5,.int .i64 (Int.ofNat k))] Γ/\vs.length-k=t/\1<=k/\k<=vs.length/\b<x.n/\hk x b 9 vs/\Ext B h x/\∀j,0<j->j<k->q j (j-1)=false) ?_ (vs.length-1) _ (by omega) ⟨1,h,_,rfl,⟨rfl,rfl,rfl,trivial⟩,by omega,by omega,by omega,af,a7,Ext.refl _ _,λj aG k7=>by omega⟩
   rintro t st ⟨k,x,Γ,rfl,cJ,aU,av,sN,xg,pJ,je,bp⟩
   refine bj.pre (TD (Y m) b _ k f aK x ⟨λaa=>?_,λaa=>?_⟩) cJ rfl rfl rfl
   · have ai:=je.il (k:=11)
     have kU:hk (x.room 11) b 9 vs:=pJ
     obtain⟨al,c1,a8⟩:=hf k (k-1) aa (by omega) _ ai
     have eW:=ai.trans (Nat.le_refl _) (a8.le (show B<=(x.room 11).n by simp;omega))
     have nN:b<(x.room 11).n:=by simp;omega
     have mf:hk al b 9 vs:=(a8.get b nN).trans kU
     have pK:b<al.n:=Nat.lt_of_lt_of_le nN a8.n
     refine⟨aa,_,kU.oK aa (by omega),⟨by omega,by omega⟩,by omega,_,kU.oK (by omega) (by omega),_,al,c1,lE g0,eK k aa,eK (k-1) (by omega),λag=>?_,λag=>?_⟩
     · have s2:e1 Tryz.prog al 48 (.slice b 0 vs.length (.aS 1)) (some (.int .i64 (Int.ofNat k))) none none=some (.slice b (0+k*1) (vs.length-k) (.aS 1)):=z3 (E:=9) (by kernel_rfl) (by kernel_rfl) (by omega) aa
       refine⟨_,_,_,_,s2,?_⟩
       refine bj.mono (T8 m aK q hlen md av aa g0 eK ij hf pK mf eW ⟨rfl,rfl,rfl,rfl,rfl,trivial⟩) ?_
       rintro cq cr ⟨cl,ar,bU,rfl,rfl,pL,vX,DN,ek,z4,L,m5,DO⟩
       refine⟨_,_,_,_,cl,ar,bU,rfl,rfl,pL,_,_,_,_,z3 (E:=9) (by kernel_rfl) (by kernel_rfl) (by omega) DN,?_⟩
       obtain⟨z,a4⟩:=Option.isSome_iff_exists.1 (show(ea Tryz.prog 9).isSome=true by kernel_rfl)
       have ie:z.cells.length=1/\z.cells.all I.b0=true:=by
        have aa:(ea Tryz.prog 9).map (λz=>z.cells.length)=some 1:=by kernel_rfl
        have ad:(ea Tryz.prog 9).map (λz=>z.cells.all I.b0)=some true:=by kernel_rfl
        rw[a4] at aa ad;exact⟨by simpa using aa,by simpa using ad⟩
       have s7:∀n,(eD n z.cells).length=n/\(eD n z.cells).all I.b0=true:=by
        intro n
        induction n with
        |zero=>exact⟨rfl,rfl⟩
        |succ n bd=>simp only[eD,List.length_append,List.all_append,bd.1,bd.2,ie.1,ie.2];exact⟨by omega,rfl⟩
       obtain⟨q9,eO,fY⟩:=Jw (eD (vs.length-cl) z.cells) (s7 _).2 L (0+cl*1) (by rw[(s7 _).1,DO];omega)
       have cf:aB.storeCells ar b (0+cl*1) (eD (vs.length-cl) z.cells)=some (ar.set b (some (.cells q9 9 .aS 0 0))):=iE m5 (wI _ _) eO
       have ft:n0 Tryz.prog ar 48 (.slice b (0+cl*1) (vs.length-cl) (.aS 1))=some (.aP [],ar.set b (some (.cells q9 9 .aS 0 0))):=by
        have hu:Tryz.prog.underlying 48=some (.slice 9):=by kernel_rfl
        simp only[n0,hu,a4,cf]
        rw[if_neg (by omega)]
       refine⟨_,ft,_,Jz (E:=9) (by kernel_rfl) (by kernel_rfl) (by omega),.inr ⟨_,_,_,rfl,rfl,⟨rfl,trivial⟩,_,_,cl,rfl,by rfl,?_,Ext.hg md z4⟩⟩
       rw[uT aa (by rw[ag];simp;omega)]
       simp;omega
     · exact⟨by omega,_,(by show _<t;omega),k+1,al,_,rfl,⟨rfl,rfl,rfl,trivial⟩,rfl,by omega,by omega,pK,mf,eW,λj aG k7=>by
        by_cases e:j=k
        · rw[e];exact ag
        · exact bp j aG (by omega)⟩
   · refine .inl ⟨_,x,_,rfl,rfl,⟨rfl,trivial⟩,_,_,vs.length,rfl,by rfl,?_,je⟩
     rw[q8 (λj aG=>?_)]
     · simp
     · by_cases e:0<j
       · rw[bp j e (by omega),Bool.and_false]
       · simp[e]
theorem Ua(m:Nat){B:Nat}{h:J}{v:I}{vs:List I}(f:Nat)(aK:List I)(w:Nat->aO)(bI:B<=h.n)(aC:c7 B h v vs)(hlen:vs.length<=90000)(g0:iC aK=true)(eK:∀i (ae:i<vs.length),I.sound vs[i]=true)(ij:∀i (ae:i<vs.length),∃z:List UInt8,vs[i]=(.str z))(me:∀i (ae:i<vs.length) x,Ext B h x->bM x.n x (.str (w i)) (Y m (.fn f) (vs[i]::aK) x)):
  bM B h (.bool (oL w vs.length)) (Y (m+3) (.fn 108) [v,.fn f [] aK] h):=by
 refine TH (m+2) v f aK h ?_
 obtain⟨H,cS⟩:∃H,H=h.push (.cells [.fn f [] aK] 150 .own 0 0):=⟨_,rfl⟩
 rw[<-cS]
 have dz:Ext B h H:=by rw[cS];exact Ext.push bI _
 have jf:H.n=h.n+1:=by rw[cS];rfl
 have jg:B<=H.n:=Nat.le_trans bI dz.n
 have kE:H.get h.n=some (.cells [.fn f [] aK] 150 .own 0 0):=by rw[cS];exact gf rfl
 have m6:∀i (ae:i<vs.length) x,Ext H.n H x->∃g,Y m (.fn f) (vs[i]::aK) x=.ret (.str (w i)) g/\Ext x.n x g:=λi ae x ab=>me i ae x (dz.trans jg ab)
 have s8:c7 H.n H v vs:=(aC.b6 (e3.ext dz (Nat.le_refl _))).le (Nat.le_trans bI dz.n)
 have fb:∀x,Ext H.n H x->au x h.n 0=some (.fn f [] aK):=λx ab=>aL ((ab.get h.n (by omega)).trans kE) rfl
 obtain⟨g,c1,a8⟩:=T5 (m+1) (B:=H.n) (h:=H) (v:=v) (vs:=vs) 120 [.ptr h.n 0] (λi j=>dB (w i) (w j)) s8 hlen rfl eK (λi j ae aG x ab=>by
  have ai:Ext H.n H (x.room 7):=ab.il
  obtain⟨al,c1,a8⟩:=m6 i ae _ ai
  have g2:Ext H.n H al:=ai.trans ai.n a8
  obtain⟨ar,c2,bu⟩:=m6 j aG _ g2
  refine TB m vs[i] vs[j] h.n f aK x ⟨fb _ ai,_,al,c1,fb _ g2,_,ar,c2,lE g0,eK i ae,lE g0,fb _ ai,eK j aG,λag=>?_,λag=>?_⟩
  · exact bM.of (by rw[ag];rfl) ((g2.trans g2.n bu).le (Nat.le_refl _)|> λe=>by have dt:Ext H.n x ar:=⟨by have a:=a8.n;have b:=bu.n;simp at a;omega,λb af=>by rw[(g2.trans g2.n bu).get b af,ab.get b af]⟩;exact dt)
  · exact bM.of (by rw[ag];rfl) ((g2.trans g2.n bu).le (Nat.le_refl _)|> λe=>by have dt:Ext H.n x ar:=⟨by have a:=a8.n;have b:=bu.n;simp at a;omega,λb af=>by rw[(g2.trans g2.n bu).get b af,ab.get b af]⟩;exact dt))
 have fl:Ext B h g:=dz.trans jg a8
 refine⟨rfl,_,g,c1,λhs=>?_,λhs=>?_⟩
 · have p9:vs.all I.b0=true:=by
     rw[List.all_eq_true]
     intro x ab
     obtain⟨i,ae,rfl⟩:=List.getElem_of_mem ab
     obtain⟨z,a4⟩:=ij i ae
     rw[a4];rfl
   have DP:c7 H.n g v vs:=s8.b6 (e3.ext a8 (Nat.le_refl _))
   have fin:∀v2 ar b,Y (m+2) (.fn 122) [v] g=.ret v2 ar->v2=.slice b 0 vs.length (.aS 1)->H.n<=b->b<ar.n->hk ar b 9 vs->Ext H.n g ar->∃(v2:I) (ar:J),Y (m+2) (.fn 122) [v] g=.ret v2 ar/\∃(w':I) (aZ:J),Y (m+2) (.fn 121) [v2,.fn 123 [] [.ptr h.n 0]] ar=.ret w' aZ/\∃(k:Nat),bO Tryz.prog aZ 48 w'=some (.int .i64 (Int.ofNat k))/\∃(n:Nat),bO Tryz.prog aZ 48 v=some (.int .i64 (Int.ofNat n))/\bM B h (.bool (oL w vs.length)) (.ret (.bool (a0 (Int.ofNat k) (Int.ofNat n))) aZ):=by
    intro v2 ar b c2 ay af ek a7 bu
    subst ay
    have xh:Ext H.n H ar:=a8.trans (Nat.le_refl _) bu
    obtain⟨w',aZ,k,c3,de,bF,cU⟩:=T_ (m+1) (B:=H.n) (h:=ar) (vs:=vs) (f:=123) [.ptr h.n 0] (λi j=>dU (w i) (w j)) hlen af rfl eK ij (λi j ae aG x ab=>by
     have je:Ext H.n H x:=xh.trans (Nat.le_refl _) ab
     have ai:Ext H.n H (x.room 8):=je.il
     obtain⟨al,c1,fy⟩:=m6 i ae _ ai
     have g2:Ext H.n H al:=ai.trans ai.n fy
     obtain⟨ar,c2,gO⟩:=m6 j aG _ g2
     refine TC m vs[i] vs[j] h.n f aK x ⟨fb _ ai,_,al,c1,fb _ g2,_,ar,c2,lE g0,eK i ae,lE g0,fb _ ai,eK j aG,bM.of rfl ?_⟩
     refine⟨by have a:=fy.n;have b:=gO.n;simp at a;omega,λb af=>?_⟩
     have a:=fy.n
     simp at a
     rw[gO.get b (by omega),fy.get b (by simp;omega)];rfl) ek a7
    have pM:Ext H.n H aZ:=xh.trans (Nat.le_refl _) cU
    have DQ:c7 H.n aZ v vs:=s8.b6 (e3.ext pM (Nat.le_refl _))
    refine⟨_,ar,c2,w',aZ,c3,k,de,vs.length,DQ.len (t:=48) (e:=9) (by kernel_rfl),bM.of (eo ?_) (dz.trans jg pM)⟩
    rw[JG bF]
    exact JE w vs.length hs
   rcases T7 (m+1) (B:=H.n) (h:=g) a8.n DP hlen p9 with⟨rfl,rfl,c2⟩|⟨a_,b,ar,c2,af,ek,a7,bu⟩
   · refine⟨.bf,g,c2,.bf,g,?_,0,by rfl,0,by rfl,bM.of (eo rfl) fl⟩
     exact Jt (m+1) .bf _ _ g (R:=λx=>x=.ret .bf g) ⟨0,by rfl,λ_=>rfl,λaI=>absurd (by omega) aI⟩
   · exact fin _ ar b c2 rfl af ek a7 bu
 · refine bM.of (eo ?_) fl
   exact JF w vs.length hs
theorem Ub(m:Nat){B:Nat}{h:J}{v:I}{vs:List I}(bI:B<=h.n)(aC:c7 B h v vs)(hlen:vs.length<=90000)(ag:vs.all I.b0=true):(v=.bf/\vs=[]/\Y (m+1) (.fn 127) [v] h=.ret .bf h)\/(0<vs.length/\∃b an,Y (m+1) (.fn 127) [v] h=.ret (.slice b 0 vs.length (.aS 1)) an/\B<=b/\b<an.n/\hk an b 47 vs/\Ext B h an):=by
 rcases aC with⟨rfl,rfl⟩|⟨b,off,aH,rfl,af,aq,a_,aA⟩
 · exact .inl ⟨rfl,rfl,TV m h (R:=λx=>x=.ret .bf h) rfl⟩
 · right
   refine⟨a_,?_⟩
   obtain⟨H,cS⟩:∃H,H=h.push (.cells [] 47 .own 0 0):=⟨_,rfl⟩
   have dz:Ext B h H:=by rw[cS];exact Ext.push bI _
   have jf:H.n=h.n+1:=by rw[cS];rfl
   have gk:=c7.src (B:=B) (h:=H) (λi ae=>gg dz af (aq i ae)) a_ aA
   obtain⟨i,ae⟩:=Option.isSome_iff_exists.1 (show(Tryz.prog.info? 47).isSome=true by kernel_rfl)
   have bH:i.size=1:=by
    have:(Tryz.prog.info? 47).map (·.size)=some 1:=by kernel_rfl
    rw[ae] at this;simpa using this
   have mR:i.bytes<=1000:=by
    have:(Tryz.prog.info? 47).map (λi=>Nat.ble i.bytes 1000)=some true:=by kernel_rfl
    rw[ae] at this;exact Nat.le_of_ble_eq_true (by simpa using this)
   obtain⟨z,a4⟩:=Option.isSome_iff_exists.1 (show(ea Tryz.prog 47).isSome=true by kernel_rfl)
   have ie:z.cells.length=1:=by
    have:(ea Tryz.prog 47).map (λz=>z.cells.length)=some 1:=by kernel_rfl
    rw[a4] at this;simpa using this
   have ap:=JH (U:=49) (E:=47) (a:=h.n) (by kernel_rfl) (by kernel_rfl) ae bH mR a4 ie gk a_ hlen ag (by rw[cS];exact gf rfl)
   refine TU m b off vs.length aH h (R:=λx=>∃b an,x=.ret (.slice b 0 vs.length (.aS 1)) an/\B<=b/\b<an.n/\hk an b 47 vs/\Ext B h an) ?_
   rw[<-cS]
   exact⟨_,_,ap,_,_,rfl,by omega,by simp,gf rfl,dz.trans (Nat.le_refl _) (Ext.push (Nat.le_trans bI dz.n) _)⟩
theorem Uc(m:Nat){B b K f:Nat}{h:J}{vs:List I}(aK:List I)(q:Nat->Nat->Bool)(hlen:vs.length<=90000)(md:B<=b)(du:1<=K)(T9:K<vs.length)(g0:iC aK=true)(eK:∀i (ae:i<vs.length),I.sound vs[i]=true)(ij:∀i (ae:i<vs.length),∃z:Nat,vs[i]=(.ptr z 0))(hf:∀i j (ae:i<vs.length) (aG:j<vs.length) x,Ext B h x->bM x.n x (.bool (q i j)) (Y m (.fn f) (vs[i]::vs[j]::aK) x))
  {g:J}(af:b<g.n)(a7:hk g b 47 vs)(ab:Ext B h g){Γ:Env}(cJ:cg [(0,.slice b 0 vs.length (.aS 1)),(1,.fn f [] aK),(5,.int .i64 (Int.ofNat K)),(6,.slice b (0+K*1) (vs.length-K) (.aS 1)),(7,.int .i64 (Int.ofNat 1))] Γ):
  bj Tryz.prog Tryz.f126 (Y m) [1,1,0,1,0,0,1,0,0,1,0,1,0,1,0] ⟨Γ,[],.none,g⟩ (λcq cr=>∃(cl:Nat) (ar:J) (bU:Env),cq=.exit 2/\cr=⟨bU,[],.none,ar⟩/\cg [(0,.slice b 0 vs.length (.aS 1)),(5,.int .i64 (Int.ofNat cl))] bU/\K<=cl/\cl<vs.length/\b<ar.n/\Ext B h ar/\∃L,hk ar b 47 L/\L.length=vs.length):=by
 refine bj.loop (by kernel_rfl) (λt st=>∃j k L x Γ,st=⟨Γ,[],.none,x⟩/\cg [(0,.slice b 0 vs.length (.aS 1)),(1,.fn f [] aK),(5,.int .i64 (Int.ofNat k)),(6,.slice b (0+K*1) (vs.length-K) (.aS 1)),(7,.int .i64 (Int.ofNat j))] Γ/\(vs.length-K)-j=t/\1<=j/\j<=vs.length-K/\K<=k/\k+1<=K+j/\b<x.n/\hk x b 47 L/\L.length=vs.length/\xf L vs/\Ext B h x) ?_ (vs.length-K-1) _ (by omega) ⟨1,K,vs,g,Γ,rfl,cJ,by omega,by omega,by omega,by omega,by omega,af,a7,rfl,λi ae=>⟨i,ae,rfl⟩,ab⟩
 rintro t st ⟨j,k,L,x,Γ,rfl,cJ,aU,aG,tE,av,BQ,xg,pJ,m5,me,je⟩
 refine bj.pre (TT (Y m) b _ k f (0+K*1) _ j aK x ⟨λaa=>?_,λaa=>?_⟩) cJ rfl rfl rfl
 · have ai:=je.il (k:=12)
   have kU:hk (x.room 12) b 47 L:=pJ
   have i1:K+j<L.length:=by omega
   have i2:K+j-1<L.length:=by omega
   obtain⟨s,hs,es⟩:=me (K+j) i1
   obtain⟨bC,dD,qn⟩:=me (K+j-1) i2
   obtain⟨al,c1,a8⟩:=hf s bC hs dD _ ai
   have eW:=ai.trans (Nat.le_refl _) (a8.le (show B<=(x.room 12).n by simp;omega))
   have nN:b<(x.room 12).n:=by simp;omega
   have mf:hk al b 47 L:=(a8.get b nN).trans kU
   have pK:b<al.n:=Nat.lt_of_lt_of_le nN a8.n
   obtain⟨z,a4⟩:=ij s hs
   refine⟨aa,_,(kU.oK i1 (by omega)).trans (by rw[es]),⟨by omega,by omega⟩,by omega,_,(kU.oK i2 (by omega)).trans (by rw[qn]),_,al,c1,lE g0,eK s hs,eK bC dD,λag=>?_,λag=>?_⟩
   · exact⟨by omega,_,(by show _<t;omega),j+1,k,L,al,_,rfl,⟨rfl,rfl,rfl,rfl,rfl,trivial⟩,rfl,by omega,by omega,by omega,by omega,pK,mf,m5,me,eW⟩
   · have cf:aB.storeCells al b (0+k*1) [(.ptr z 0)]=some (al.set b (some (.cells (L.set k (.ptr z 0)) 47 .aS 0 0))):=
       iE mf (wI _ _) (by rw[show 0+k*1=k by omega];exact Jv _ rfl L k (by omega))
     refine⟨aa,z,(mf.oK i1 (by omega)).trans (by rw[es,a4]),by omega,_,cf,by omega,by omega,_,(by show _<t;omega),j+1,k+1,L.set k (.ptr z 0),_,_,rfl,⟨rfl,rfl,rfl,rfl,rfl,trivial⟩,rfl,by omega,by omega,by omega,by omega,by simp;omega,iW rfl,by simpa using m5,?_,Ext.hg md eW⟩
     rw[<-a4]
     exact me.set k hs
 · exact⟨k,x,_,rfl,rfl,⟨rfl,rfl,trivial⟩,av,by omega,xg,je,L,pJ,m5⟩
theorem Ud(m:Nat){B b f:Nat}{h:J}{vs:List I}(aK:List I)(q:Nat->Nat->Bool)(hlen:vs.length<=90000)(md:B<=b)(g0:iC aK=true)(eK:∀i (ae:i<vs.length),I.sound vs[i]=true)(ij:∀i (ae:i<vs.length),∃z:Nat,vs[i]=(.ptr z 0))(hf:∀i j (ae:i<vs.length) (aG:j<vs.length) x,Ext B h x->bM x.n x (.bool (q i j)) (Y m (.fn f) (vs[i]::vs[j]::aK) x))
  (af:b<h.n)(a7:hk h b 47 vs):
  ∃w g k,Y (m+1) (.fn 126) [.slice b 0 vs.length (.aS 1),.fn f [] aK] h=.ret w g/\bO Tryz.prog g 49 w=some (.int .i64 (Int.ofNat k))/\(!(List.range vs.length).any (λi=>decide (0<i)&&q i (i-1)))=decide (k=vs.length)/\Ext B h g:=by
 refine Ju m (.slice b 0 vs.length (.aS 1)) f aK h (R:=λx=>∃w g k,x=.ret w g/\bO Tryz.prog g 49 w=some (.int .i64 (Int.ofNat k))/\(!(List.range vs.length).any (λi=>decide (0<i)&&q i (i-1)))=decide (k=vs.length)/\Ext B h g) ⟨vs.length,by rfl,λad=>?_,λad=>?_⟩
 · refine⟨_,h,vs.length,rfl,by rfl,?_,Ext.refl _ _⟩
   rw[q8 (λj aG=>by simp[show¬0<j by omega])];simp
 · replace ad:=Jy ad
   refine bj.loop (by kernel_rfl) (λt st=>∃k x Γ,st=⟨Γ,[],.none,x⟩/\cg [(0,.slice b 0 vs.length (.aS 1)),(1,.fn f [] aK),(5,.int .i64 (Int.ofNat k))] Γ/\vs.length-k=t/\1<=k/\k<=vs.length/\b<x.n/\hk x b 47 vs/\Ext B h x/\∀j,0<j->j<k->q j (j-1)=false) ?_ (vs.length-1) _ (by omega) ⟨1,h,_,rfl,⟨rfl,rfl,rfl,trivial⟩,by omega,by omega,by omega,af,a7,Ext.refl _ _,λj aG k7=>by omega⟩
   rintro t st ⟨k,x,Γ,rfl,cJ,aU,av,sN,xg,pJ,je,bp⟩
   refine bj.pre (TS (Y m) b _ k f aK x ⟨λaa=>?_,λaa=>?_⟩) cJ rfl rfl rfl
   · have ai:=je.il (k:=11)
     have kU:hk (x.room 11) b 47 vs:=pJ
     obtain⟨al,c1,a8⟩:=hf k (k-1) aa (by omega) _ ai
     have eW:=ai.trans (Nat.le_refl _) (a8.le (show B<=(x.room 11).n by simp;omega))
     have nN:b<(x.room 11).n:=by simp;omega
     have mf:hk al b 47 vs:=(a8.get b nN).trans kU
     have pK:b<al.n:=Nat.lt_of_lt_of_le nN a8.n
     refine⟨aa,_,kU.oK aa (by omega),⟨by omega,by omega⟩,by omega,_,kU.oK (by omega) (by omega),_,al,c1,lE g0,eK k aa,eK (k-1) (by omega),λag=>?_,λag=>?_⟩
     · have s2:e1 Tryz.prog al 49 (.slice b 0 vs.length (.aS 1)) (some (.int .i64 (Int.ofNat k))) none none=some (.slice b (0+k*1) (vs.length-k) (.aS 1)):=z3 (E:=47) (by kernel_rfl) (by kernel_rfl) (by omega) aa
       refine⟨_,_,_,_,s2,?_⟩
       refine bj.mono (Uc m aK q hlen md av aa g0 eK ij hf pK mf eW ⟨rfl,rfl,rfl,rfl,rfl,trivial⟩) ?_
       rintro cq cr ⟨cl,ar,bU,rfl,rfl,pL,vX,DN,ek,z4,L,m5,DO⟩
       refine⟨_,_,_,_,cl,ar,bU,rfl,rfl,pL,_,_,_,_,z3 (E:=47) (by kernel_rfl) (by kernel_rfl) (by omega) DN,?_⟩
       obtain⟨z,a4⟩:=Option.isSome_iff_exists.1 (show(ea Tryz.prog 47).isSome=true by kernel_rfl)
       have ie:z.cells.length=1/\z.cells.all I.b0=true:=by
        have aa:(ea Tryz.prog 47).map (λz=>z.cells.length)=some 1:=by kernel_rfl
        have ad:(ea Tryz.prog 47).map (λz=>z.cells.all I.b0)=some true:=by kernel_rfl
        rw[a4] at aa ad;exact⟨by simpa using aa,by simpa using ad⟩
       have s7:∀n,(eD n z.cells).length=n/\(eD n z.cells).all I.b0=true:=by
        intro n
        induction n with
        |zero=>exact⟨rfl,rfl⟩
        |succ n bd=>simp only[eD,List.length_append,List.all_append,bd.1,bd.2,ie.1,ie.2];exact⟨by omega,rfl⟩
       obtain⟨q9,eO,fY⟩:=Jw (eD (vs.length-cl) z.cells) (s7 _).2 L (0+cl*1) (by rw[(s7 _).1,DO];omega)
       have cf:aB.storeCells ar b (0+cl*1) (eD (vs.length-cl) z.cells)=some (ar.set b (some (.cells q9 47 .aS 0 0))):=iE m5 (wI _ _) eO
       have ft:n0 Tryz.prog ar 49 (.slice b (0+cl*1) (vs.length-cl) (.aS 1))=some (.aP [],ar.set b (some (.cells q9 47 .aS 0 0))):=by
        have hu:Tryz.prog.underlying 49=some (.slice 47):=by kernel_rfl
        simp only[n0,hu,a4,cf]
        rw[if_neg (by omega)]
       refine⟨_,ft,_,Jz (E:=47) (by kernel_rfl) (by kernel_rfl) (by omega),.inr ⟨_,_,_,rfl,rfl,⟨rfl,trivial⟩,_,_,cl,rfl,by rfl,?_,Ext.hg md z4⟩⟩
       rw[uT aa (by rw[ag];simp;omega)]
       simp;omega
     · exact⟨by omega,_,(by show _<t;omega),k+1,al,_,rfl,⟨rfl,rfl,rfl,trivial⟩,rfl,by omega,by omega,pK,mf,eW,λj aG k7=>by
        by_cases e:j=k
        · rw[e];exact ag
        · exact bp j aG (by omega)⟩
   · refine .inl ⟨_,x,_,rfl,rfl,⟨rfl,trivial⟩,_,_,vs.length,rfl,by rfl,?_,je⟩
     rw[q8 (λj aG=>?_)]
     · simp
     · by_cases e:0<j
       · rw[bp j e (by omega),Bool.and_false]
       · simp[e]
theorem Ue(m:Nat){B:Nat}{h:J}{v:I}{vs:List I}(f:Nat)(aK:List I)(w:Nat->aO)(bI:B<=h.n)(aC:c7 B h v vs)(hlen:vs.length<=90000)(g0:iC aK=true)(eK:∀i (ae:i<vs.length),I.sound vs[i]=true)(ij:∀i (ae:i<vs.length),∃z:Nat,vs[i]=(.ptr z 0))(me:∀i (ae:i<vs.length) x,Ext B h x->bM x.n x (.str (w i)) (Y m (.fn f) (vs[i]::aK) x)):
  bM B h (.bool (oL w vs.length)) (Y (m+3) (.fn 111) [v,.fn f [] aK] h):=by
 refine TW (m+2) v f aK h ?_
 obtain⟨H,cS⟩:∃H,H=h.push (.cells [.fn f [] aK] 145 .own 0 0):=⟨_,rfl⟩
 rw[<-cS]
 have dz:Ext B h H:=by rw[cS];exact Ext.push bI _
 have jf:H.n=h.n+1:=by rw[cS];rfl
 have jg:B<=H.n:=Nat.le_trans bI dz.n
 have kE:H.get h.n=some (.cells [.fn f [] aK] 145 .own 0 0):=by rw[cS];exact gf rfl
 have m6:∀i (ae:i<vs.length) x,Ext H.n H x->∃g,Y m (.fn f) (vs[i]::aK) x=.ret (.str (w i)) g/\Ext x.n x g:=λi ae x ab=>me i ae x (dz.trans jg ab)
 have s8:c7 H.n H v vs:=(aC.b6 (e3.ext dz (Nat.le_refl _))).le (Nat.le_trans bI dz.n)
 have fb:∀x,Ext H.n H x->au x h.n 0=some (.fn f [] aK):=λx ab=>aL ((ab.get h.n (by omega)).trans kE) rfl
 obtain⟨g,c1,a8⟩:=T6 (m+1) (B:=H.n) (h:=H) (v:=v) (vs:=vs) 125 [.ptr h.n 0] (λi j=>dB (w i) (w j)) s8 hlen rfl eK (λi j ae aG x ab=>by
  have ai:Ext H.n H (x.room 7):=ab.il
  obtain⟨al,c1,a8⟩:=m6 i ae _ ai
  have g2:Ext H.n H al:=ai.trans ai.n a8
  obtain⟨ar,c2,bu⟩:=m6 j aG _ g2
  refine TQ m vs[i] vs[j] h.n f aK x ⟨fb _ ai,_,al,c1,fb _ g2,_,ar,c2,lE g0,eK i ae,lE g0,fb _ ai,eK j aG,λag=>?_,λag=>?_⟩
  · exact bM.of (by rw[ag];rfl) ((g2.trans g2.n bu).le (Nat.le_refl _)|> λe=>by have dt:Ext H.n x ar:=⟨by have a:=a8.n;have b:=bu.n;simp at a;omega,λb af=>by rw[(g2.trans g2.n bu).get b af,ab.get b af]⟩;exact dt)
  · exact bM.of (by rw[ag];rfl) ((g2.trans g2.n bu).le (Nat.le_refl _)|> λe=>by have dt:Ext H.n x ar:=⟨by have a:=a8.n;have b:=bu.n;simp at a;omega,λb af=>by rw[(g2.trans g2.n bu).get b af,ab.get b af]⟩;exact dt))
 have fl:Ext B h g:=dz.trans jg a8
 refine⟨rfl,_,g,c1,λhs=>?_,λhs=>?_⟩
 · have p9:vs.all I.b0=true:=by
     rw[List.all_eq_true]
     intro x ab
     obtain⟨i,ae,rfl⟩:=List.getElem_of_mem ab
     obtain⟨z,a4⟩:=ij i ae
     rw[a4];rfl
   have DP:c7 H.n g v vs:=s8.b6 (e3.ext a8 (Nat.le_refl _))
   have fin:∀v2 ar b,Y (m+2) (.fn 127) [v] g=.ret v2 ar->v2=.slice b 0 vs.length (.aS 1)->H.n<=b->b<ar.n->hk ar b 47 vs->Ext H.n g ar->∃(v2:I) (ar:J),Y (m+2) (.fn 127) [v] g=.ret v2 ar/\∃(w':I) (aZ:J),Y (m+2) (.fn 126) [v2,.fn 128 [] [.ptr h.n 0]] ar=.ret w' aZ/\∃(k:Nat),bO Tryz.prog aZ 49 w'=some (.int .i64 (Int.ofNat k))/\∃(n:Nat),bO Tryz.prog aZ 49 v=some (.int .i64 (Int.ofNat n))/\bM B h (.bool (oL w vs.length)) (.ret (.bool (a0 (Int.ofNat k) (Int.ofNat n))) aZ):=by
    intro v2 ar b c2 ay af ek a7 bu
    subst ay
    have xh:Ext H.n H ar:=a8.trans (Nat.le_refl _) bu
    obtain⟨w',aZ,k,c3,de,bF,cU⟩:=Ud (m+1) (B:=H.n) (h:=ar) (vs:=vs) (f:=128) [.ptr h.n 0] (λi j=>dU (w i) (w j)) hlen af rfl eK ij (λi j ae aG x ab=>by
     have je:Ext H.n H x:=xh.trans (Nat.le_refl _) ab
     have ai:Ext H.n H (x.room 8):=je.il
     obtain⟨al,c1,fy⟩:=m6 i ae _ ai
     have g2:Ext H.n H al:=ai.trans ai.n fy
     obtain⟨ar,c2,gO⟩:=m6 j aG _ g2
     refine TR m vs[i] vs[j] h.n f aK x ⟨fb _ ai,_,al,c1,fb _ g2,_,ar,c2,lE g0,eK i ae,lE g0,fb _ ai,eK j aG,bM.of rfl ?_⟩
     refine⟨by have a:=fy.n;have b:=gO.n;simp at a;omega,λb af=>?_⟩
     have a:=fy.n
     simp at a
     rw[gO.get b (by omega),fy.get b (by simp;omega)];rfl) ek a7
    have pM:Ext H.n H aZ:=xh.trans (Nat.le_refl _) cU
    have DQ:c7 H.n aZ v vs:=s8.b6 (e3.ext pM (Nat.le_refl _))
    refine⟨_,ar,c2,w',aZ,c3,k,de,vs.length,DQ.len (t:=49) (e:=47) (by kernel_rfl),bM.of (eo ?_) (dz.trans jg pM)⟩
    rw[JG bF]
    exact JE w vs.length hs
   rcases Ub (m+1) (B:=H.n) (h:=g) a8.n DP hlen p9 with⟨rfl,rfl,c2⟩|⟨a_,b,ar,c2,af,ek,a7,bu⟩
   · refine⟨.bf,g,c2,.bf,g,?_,0,by rfl,0,by rfl,bM.of (eo rfl) fl⟩
     exact Ju (m+1) .bf _ _ g (R:=λx=>x=.ret .bf g) ⟨0,by rfl,λ_=>rfl,λaI=>absurd (by omega) aI⟩
   · exact fin _ ar b c2 rfl af ek a7 bu
 · refine bM.of (eo ?_) fl
   exact JF w vs.length hs
end Go.Proofs.cD
