/-
  PROVED HERE: contracts of functions (Df). No condition beside each statement's own.
-/
import Derived.Test.YtfooahfebojldaaGreatDoorDe
import Derived.Test.YtfooahfebojldaaGreatDoorTx
set_option linter.unusedVariables false
set_option linter.unusedSimpArgs false
namespace Go.Proofs.b0
open Go aw Go.Proofs cu
set_option maxRecDepth 100000
set_option maxHeartbeats 1000000
theorem R6(m:Nat)(v:I)(f:Nat)(aF:List I)(h:J){R:av->Prop}(H:∃c7:Int,∃al:J,(Y m) (.fn 117) [v,.fn f [] aF] h=.ret (.int .i64 c7) al/\R (.ret (.bool (fh (.ofNat 0) c7)) al)):
  R (Y (m+1) (.fn 105) [v,.fn f [] aF] h):=
 dd (intr:=bW) [(7,.b1 (.z .i64))] [(0,.o v),(1,.o (.fn f [] aF))] Tryz.func105 (by kernel_rfl) (by kernel_rfl) (by kernel_rfl) rfl (Eq.mp (by kernel_rfl) H)
theorem R7(m:Nat)(v:I)(f:Nat)(aF:List I)(h:J){R:av->Prop}(H:∃aI:Nat,cb Tryz.prog h 48 v=some (.int .i64 (.ofNat aI))/\bm Tryz.prog Tryz.f117 (Y m) [1,0,1,0] (ao.mk [(0,v),(1,.fn f [] aF),(7,.int .i64 (.ofNat aI)),(8,.int .i64 (.ofNat 0))] [] .none h) (λcE cF=>((∃al:J,∃bq:Env,cE=.exit 0/\cF=ao.mk bq [] .none al/\cl [] bq/\R (.ret (.int .i64 (.negSucc 0)) al))\/(∃bw:Nat,∃au:J,∃bT:Env,cE=.ret/\cF=ao.mk bT [] .none au/\cl [(4,.int .i64 (.ofNat bw))] bT/\R (.ret (.int .i64 (.ofNat bw)) au))))):
  R (Y (m+1) (.fn 117) [v,.fn f [] aF] h):=
 dd (intr:=bW) [(4000,.gw [0,1,7,8] [(.exit 0,[]),(.ret,[(4,.n .i64)])])] [(0,.o v),(1,.o (.fn f [] aF))] Tryz.func117 (by kernel_rfl) (by kernel_rfl) (by kernel_rfl) rfl (Eq.mp (by kernel_rfl) H)
theorem R8(call:aP->List I->J->av)(b:Nat)(off:Nat)(N:Nat)(i:Nat)(f:Nat)(aF:List I)(aE:cf)(h:J){Q:bu->ao->Prop}(H:(i<N->i<N/\∃v1:I,ay h b (off+i*1)=some v1/\∃a4:Bool,∃al:J,call (.fn f) (v1::aF) h=.ret (.bool a4) al/\(a4=true->Q .ret (ao.mk [(0,.slice b off N aE),(1,.fn f [] aF),(4,.int .i64 (.ofNat i)),(7,.int .i64 (.ofNat N)),(8,.int .i64 (.ofNat i))] [] .none al))/\(a4=false->i+1<9223372036854775808/\Q .nrm (ao.mk [(0,.slice b off N aE),(1,.fn f [] aF),(7,.int .i64 (.ofNat N)),(8,.int .i64 (.ofNat (i+1)))] [] .none al)))/\(¬i<N->Q (.exit 0) (ao.mk [(0,.slice b off N aE),(1,.fn f [] aF),(7,.int .i64 (.ofNat N)),(8,.int .i64 (.ofNat i))] [] .none h))):
  bm Tryz.prog Tryz.f117 call [1,0,1,0,0] ⟨[(0,.slice b off N aE),(1,.fn f [] aF),(7,.int .i64 (.ofNat N)),(8,.int .i64 (.ofNat i))],[],.none,h⟩ Q:=
 e9 [(15,.b1 .o)] [0,1,4,7,8] [(0,.v (.slice b off N aE)),(1,.o (.fn f [] aF)),(7,.v (.int .i64 (.ofNat N))),(8,.v (.int .i64 (.ofNat i)))] rfl (Eq.mp (by kernel_rfl) H)
theorem R9(call:aP->List I->J->av)(N:Nat)(i:Nat)(f:Nat)(aF:List I)(v:I)(h:J){Q:bu->ao->Prop}(H:¬i<N/\Q (.exit 0) (ao.mk [] [] .none h)):
  bm Tryz.prog Tryz.f117 call [1,0,1,0,0] ⟨[(0,v),(1,.fn f [] aF),(7,.int .i64 (.ofNat N)),(8,.int .i64 (.ofNat i))],[],.none,h⟩ Q:=
 e9 [(1009,.f)] [] [(0,.o v),(1,.o (.fn f [] aF)),(7,.v (.int .i64 (.ofNat N))),(8,.v (.int .i64 (.ofNat i)))] rfl (Eq.mp (by kernel_rfl) H)
theorem R_(m:Nat)(v:I)(f:Nat)(aF:List I)(h:J){R:av->Prop}(H:∃aI:Nat,cb Tryz.prog h 48 v=some (.int .i64 (.ofNat aI))/\(1<=aI/\aI<9223372036854775808)/\bm Tryz.prog Tryz.f119 (Y m) [1,0,1,0] (ao.mk [(0,v),(1,.fn f [] aF),(5,.int .i64 (.ofNat (aI-1)))] [] .none h) (λcE cF=>((∃al:J,∃bq:Env,cE=.exit 0/\cF=ao.mk bq [] .none al/\cl [] bq/\R (.ret (.bool true) al))\/(∃au:J,∃bT:Env,cE=.ret/\cF=ao.mk bT [] .none au/\cl [(4,.bool false)] bT/\R (.ret (.bool false) au))))):
  R (Y (m+1) (.fn 119) [v,.fn f [] aF] h):=
 dd (intr:=bW) [(4000,.gw [0,1,5] [(.exit 0,[]),(.ret,[(4,.is (.bool false))])])] [(0,.o v),(1,.o (.fn f [] aF))] Tryz.func119 (by kernel_rfl) (by kernel_rfl) (by kernel_rfl) rfl (Eq.mp (by kernel_rfl) H)
theorem Sa(m:Nat)(v:I)(f:Nat)(aF:List I)(h:J){R:av->Prop}(H:∃aI:Nat,cb Tryz.prog h 48 v=some (.int .i64 (.ofNat aI))/\∃c7:Int,arith .sub .i64 (.ofNat aI) (.ofNat 1)=some (.int .i64 c7)/\bm Tryz.prog Tryz.f119 (Y m) [1,0,1,0] (ao.mk [(0,v),(1,.fn f [] aF),(5,.int .i64 c7)] [] .none h) (λcE cF=>∃al:J,∃bq:Env,cE=.exit 0/\cF=ao.mk bq [] .none al/\cl [] bq/\R (.ret (.bool true) al))):
  R (Y (m+1) (.fn 119) [v,.fn f [] aF] h):=
 dd (intr:=bW) [(8,.b1 (.z .i64)),(4000,.gw [0,1,5] [(.exit 0,[])])] [(0,.o v),(1,.o (.fn f [] aF))] Tryz.func119 (by kernel_rfl) (by kernel_rfl) (by kernel_rfl) rfl (Eq.mp (by kernel_rfl) H)
theorem Sb(call:aP->List I->J->av)(b:Nat)(off:Nat)(N:Nat)(i:Nat)(f:Nat)(aF:List I)(aE:cf)(h:J){Q:bu->ao->Prop}(H:(0<i->i<N/\∃v1:I,ay (h.room 12) b (off+i*1)=some v1/\(1<=i/\i<9223372036854775808)/\i-1<N/\∃v2:I,ay (h.room 12) b (off+(i-1)*1)=some v2/\∃c7:Int,∃al:J,call (.fn f) (v1::v2::aF) (h.room 12)=.ret (.int .i64 c7) al/\I.sound (.fn f [] aF)=true/\I.sound v1=true/\I.sound v2=true/\(et c7 (.ofNat 0)=true->Q .ret (ao.mk [(0,.slice b off N aE),(1,.fn f [] aF),(4,.bool false),(5,.int .i64 (.ofNat i))] [] .none al))/\(et c7 (.ofNat 0)=false->(1<=i/\i<9223372036854775808)/\Q .nrm (ao.mk [(0,.slice b off N aE),(1,.fn f [] aF),(5,.int .i64 (.ofNat (i-1)))] [] .none al)))/\(¬0<i->Q (.exit 0) (ao.mk [(0,.slice b off N aE),(1,.fn f [] aF),(5,.int .i64 (.ofNat i))] [] .none h))):
  bm Tryz.prog Tryz.f119 call [1,0,1,0,0] ⟨[(0,.slice b off N aE),(1,.fn f [] aF),(5,.int .i64 (.ofNat i))],[],.none,h⟩ Q:=
 e9 [(17,.b1 .o),(22,.b1 .o),(23,.b1 (.z .i64))] [0,1,4,5] [(0,.v (.slice b off N aE)),(1,.o (.fn f [] aF)),(5,.v (.int .i64 (.ofNat i)))] rfl (Eq.mp (by kernel_rfl) H)
theorem Sc(call:aP->List I->J->av)(v:I)(f:Nat)(aF:List I)(h:J){Q:bu->ao->Prop}(H:et (.ofNat 0) (.negSucc 0)=false/\Q (.exit 0) (ao.mk [] [] .none h)):
  bm Tryz.prog Tryz.f119 call [1,0,1,0,0] ⟨[(0,v),(1,.fn f [] aF),(5,.int .i64 (.negSucc 0))],[],.none,h⟩ Q:=
 e9 [(1010,.f)] [] [(0,.o v),(1,.o (.fn f [] aF)),(5,.v (.int .i64 (.negSucc 0)))] rfl (Eq.mp (by kernel_rfl) H)
theorem Sd(m:Nat)(x:I)(y:I)(a:Nat)(f:Nat)(aF:List I)(h:J){R:av->Prop}(H:ay (h.room 7) a 0=some (.fn f [] aF)/\∃s1:List UInt8,∃al:J,(Y m) (.fn f) (x::aF) (h.room 7)=.ret (.str s1) al/\ay al a 0=some (.fn f [] aF)/\∃s2:List UInt8,∃au:J,(Y m) (.fn f) (y::aF) al=.ret (.str s2) au/\I.sound (.fn f [] aF)=true/\I.sound x=true/\I.sound (.fn f [] aF)=true/\ay (h.room 7) a 0=some (.fn f [] aF)/\I.sound y=true/\(eA s1 s2=true->R (.ret (.int .i64 (.negSucc 0)) au))/\(eA s1 s2=false->R (.ret (.int .i64 (.ofNat 1)) au))):
  R (Y (m+1) (.fn 120) [x,y,.ptr a 0] h):=
 dd (intr:=bW) [(6,.b1 (.io (.fn f [] aF))),(9,.b1 (.io (.fn f [] aF)))] [(0,.o x),(1,.o y),(2,.v (.ptr a 0))] Tryz.func120 (by kernel_rfl) (by kernel_rfl) (by kernel_rfl) rfl (Eq.mp (by kernel_rfl) H)
theorem Se(m:Nat)(x:I)(y:I)(a:Nat)(f:Nat)(aF:List I)(h:J){R:av->Prop}(H:ay (h.room 8) a 0=some (.fn f [] aF)/\∃s1:List UInt8,∃al:J,(Y m) (.fn f) (x::aF) (h.room 8)=.ret (.str s1) al/\ay al a 0=some (.fn f [] aF)/\∃s2:List UInt8,∃au:J,(Y m) (.fn f) (y::aF) al=.ret (.str s2) au/\I.sound (.fn f [] aF)=true/\I.sound x=true/\I.sound (.fn f [] aF)=true/\ay (h.room 8) a 0=some (.fn f [] aF)/\I.sound y=true/\R (.ret (.bool (bR s1 s2)) au)):
  R (Y (m+1) (.fn 123) [x,y,.ptr a 0] h):=
 dd (intr:=bW) [(6,.b1 (.io (.fn f [] aF))),(9,.b1 (.io (.fn f [] aF)))] [(0,.o x),(1,.o y),(2,.v (.ptr a 0))] Tryz.func123 (by kernel_rfl) (by kernel_rfl) (by kernel_rfl) rfl (Eq.mp (by kernel_rfl) H)
theorem IU(m:Nat)(v:I)(f:Nat)(aF:List I)(h:J){R:av->Prop}(H:∃aI:Nat,cb Tryz.prog h 48 v=some (.int .i64 (.ofNat aI))/\(aI<2->R (.ret v h))/\(¬aI<2->bm Tryz.prog Tryz.f121 (Y m) [1,1,0,1,0] (ao.mk [(0,v),(1,.fn f [] aF),(5,.int .i64 (.ofNat 1))] [] .none h) (λcE cF=>((∃v1:I,∃al:J,∃bq:Env,cE=.exit 0/\cF=ao.mk bq [] .none al/\cl [(0,v1)] bq/\R (.ret v1 al))\/(∃v2:I,∃au:J,∃bT:Env,cE=.ret/\cF=ao.mk bT [] .none au/\cl [(4,v2)] bT/\R (.ret v2 au)))))):
  R (Y (m+1) (.fn 121) [v,.fn f [] aF] h):=
 dd (intr:=bW) [(4000,.gw [0,1,5] [(.exit 0,[(0,.o)]),(.ret,[(4,.o)])])] [(0,.o v),(1,.o (.fn f [] aF))] Tryz.func121 (by kernel_rfl) (by kernel_rfl) (by kernel_rfl) rfl (Eq.mp (by kernel_rfl) H)
theorem Sf(call:aP->List I->J->av)(b:Nat)(N:Nat)(k:Nat)(f:Nat)(aF:List I)(h:J){Q:bu->ao->Prop}(H:(k<N->k<N/\∃v1:I,ay (h.room 11) b (0+k*1)=some v1/\(1<=k/\k<9223372036854775808)/\k-1<N/\∃v2:I,ay (h.room 11) b (0+(k-1)*1)=some v2/\∃a4:Bool,∃al:J,call (.fn f) (v1::v2::aF) (h.room 11)=.ret (.bool a4) al/\I.sound (.fn f [] aF)=true/\I.sound v1=true/\I.sound v2=true/\(a4=true->∃aI:Nat,∃bw:Nat,∃cH:Nat,∃c1:cf,eu Tryz.prog al 48 (.slice b 0 N (.aN 1)) (some (.int .i64 (.ofNat k))) none none=some (.slice aI bw cH c1)/\bm Tryz.prog Tryz.f121 call [1,1,0,1,0,0,1,0,0,1,0,1,0,1,0] (ao.mk [(0,.slice b 0 N (.aN 1)),(1,.fn f [] aF),(5,.int .i64 (.ofNat k)),(6,.slice aI bw cH c1),(7,.int .i64 (.ofNat 1))] [] .none al) (λcE cF=>∃cZ:Nat,∃eG:Nat,∃fg:Nat,∃c2:cf,∃iE:Nat,∃au:J,∃bq:Env,cE=.exit 2/\cF=ao.mk bq [] .none au/\cl [(0,.slice cZ eG fg c2),(5,.int .i64 (.ofNat iE))] bq/\∃sP:Nat,∃pq:Nat,∃pr:Nat,∃c3:cf,eu Tryz.prog au 48 (.slice cZ eG fg c2) (some (.int .i64 (.ofNat iE))) none none=some (.slice sP pq pr c3)/\∃a7:J,nz Tryz.prog au 48 (.slice sP pq pr c3)=some (.aK [],a7)/\∃cX:I,eu Tryz.prog a7 48 (.slice cZ eG fg c2) none (some (.int .i64 (.ofNat iE))) none=some cX/\Q .ret (ao.mk [(0,.slice cZ eG fg c2),(4,cX),(5,.int .i64 (.ofNat iE))] [] .none a7)))/\(a4=false->k+1<9223372036854775808/\Q .nrm (ao.mk [(0,.slice b 0 N (.aN 1)),(1,.fn f [] aF),(5,.int .i64 (.ofNat (k+1)))] [] .none al)))/\(¬k<N->Q (.exit 0) (ao.mk [(0,.slice b 0 N (.aN 1)),(1,.fn f [] aF),(5,.int .i64 (.ofNat k))] [] .none h))):
  bm Tryz.prog Tryz.f121 call [1,1,0,1,0,0] ⟨[(0,.slice b 0 N (.aN 1)),(1,.fn f [] aF),(5,.int .i64 (.ofNat k))],[],.none,h⟩ Q:=
 e9 [(22,.b1 .o),(27,.b1 .o),(31,.b1 .hz),(4002,.gw [0,1,5,6,7] [(.exit 2,[(0,.hz),(5,.n .i64)])]),(61,.b1 .hz),(64,.b1 .o)] [0,1,4,5] [(0,.v (.slice b 0 N (.aN 1))),(1,.o (.fn f [] aF)),(5,.v (.int .i64 (.ofNat k)))] rfl (Eq.mp (by kernel_rfl) H)
theorem Sg(call:aP->List I->J->av)(b:Nat)(N:Nat)(k:Nat)(f:Nat)(e6:Nat)(M:Nat)(j:Nat)(aF:List I)(h:J){Q:bu->ao->Prop}(H:(j<M->j<M/\∃v1:I,ay (h.room 12) b (e6+j*1)=some v1/\(1<=j/\j<9223372036854775808)/\j-1<M/\∃v2:I,ay (h.room 12) b (e6+(j-1)*1)=some v2/\∃a4:Bool,∃al:J,call (.fn f) (v1::v2::aF) (h.room 12)=.ret (.bool a4) al/\I.sound (.fn f [] aF)=true/\I.sound v1=true/\I.sound v2=true/\(a4=true->j+1<9223372036854775808/\Q .nrm (ao.mk [(0,.slice b 0 N (.aN 1)),(1,.fn f [] aF),(5,.int .i64 (.ofNat k)),(6,.slice b e6 M (.aN 1)),(7,.int .i64 (.ofNat (j+1)))] [] .none al))/\(a4=false->j<M/\∃s1:List UInt8,ay al b (e6+j*1)=some (.str s1)/\k<N/\∃au:J,aw.storeCells al b (0+k*1) [.str s1]=some au/\k+1<9223372036854775808/\j+1<9223372036854775808/\Q .nrm (ao.mk [(0,.slice b 0 N (.aN 1)),(1,.fn f [] aF),(5,.int .i64 (.ofNat (k+1))),(6,.slice b e6 M (.aN 1)),(7,.int .i64 (.ofNat (j+1)))] [] .none au)))/\(¬j<M->Q (.exit 2) (ao.mk [(0,.slice b 0 N (.aN 1)),(1,.fn f [] aF),(5,.int .i64 (.ofNat k)),(6,.slice b e6 M (.aN 1)),(7,.int .i64 (.ofNat j))] [] .none h))):
  bm Tryz.prog Tryz.f121 call [1,1,0,1,0,0,1,0,0,1,0,1,0,1,0,0] ⟨[(0,.slice b 0 N (.aN 1)),(1,.fn f [] aF),(5,.int .i64 (.ofNat k)),(6,.slice b e6 M (.aN 1)),(7,.int .i64 (.ofNat j))],[],.none,h⟩ Q:=
 e9 [(42,.b1 .o),(47,.b1 .o)] [0,1,5,6,7] [(0,.v (.slice b 0 N (.aN 1))),(1,.o (.fn f [] aF)),(5,.v (.int .i64 (.ofNat k))),(6,.v (.slice b e6 M (.aN 1))),(7,.v (.int .i64 (.ofNat j)))] rfl (Eq.mp (by kernel_rfl) H)
theorem Sh(m:Nat)(b:Nat)(off:Nat)(N:Nat)(aE:cf)(h:J){R:av->Prop}(H:∃v1:I,∃al:J,fW Tryz.prog (J.push h (.cells [] 9 .own 0 0)) 48 (some 48) (.slice h.n 0 0 (.exact 0)) (.slice b off N aE)=some (v1,al)/\R (.ret v1 al)):
  R (Y (m+1) (.fn 122) [.slice b off N aE] h):=
 dd (intr:=bW) [(7,.b1 .o)] [(0,.v (.slice b off N aE))] Tryz.func122 (by kernel_rfl) (by kernel_rfl) (by kernel_rfl) rfl (Eq.mp (by kernel_rfl) H)
theorem Si(m:Nat)(h:J){R:av->Prop}(H:R (.ret .a0 h)):
  R (Y (m+1) (.fn 122) [.a0] h):=
 dd (intr:=bW) [] [(0,.v .a0)] Tryz.func122 (by kernel_rfl) (by kernel_rfl) (by kernel_rfl) rfl (Eq.mp (by kernel_rfl) H)
theorem Sj(m:Nat)(v:I)(f:Nat)(aF:List I)(h:J){R:av->Prop}(H:I.bC (.fn f [] aF)=true/\∃a4:Bool,∃al:J,(Y m) (.fn 119) [v,.fn 120 [] [.ptr h.n 0]] (J.push h (.cells [.fn f [] aF] 150 .own 0 0))=.ret (.bool a4) al/\(a4=true->∃v1:I,∃au:J,(Y m) (.fn 122) [v] al=.ret v1 au/\∃v2:I,∃a7:J,(Y m) (.fn 121) [v1,.fn 123 [] [.ptr h.n 0]] au=.ret v2 a7/\∃aI:Nat,cb Tryz.prog a7 48 v2=some (.int .i64 (.ofNat aI))/\∃bw:Nat,cb Tryz.prog a7 48 v=some (.int .i64 (.ofNat bw))/\R (.ret (.bool (cU (.ofNat aI) (.ofNat bw))) a7))/\(a4=false->R (.ret (.bool false) al))):
  R (Y (m+1) (.fn 108) [v,.fn f [] aF] h):=
 dd (intr:=bW) [] [(0,.o v),(1,.o (.fn f [] aF))] Tryz.func108 (by kernel_rfl) (by kernel_rfl) (by kernel_rfl) rfl (Eq.mp (by kernel_rfl) H)
theorem Sk(m:Nat)(v:I)(f:Nat)(aF:List I)(h:J){R:av->Prop}(H:∃c7:Int,∃al:J,(Y m) (.fn 115) [v,.fn f [] aF] h=.ret (.int .i64 c7) al/\R (.ret (.bool (fh (.ofNat 0) c7)) al)):
  R (Y (m+1) (.fn 103) [v,.fn f [] aF] h):=
 dd (intr:=bW) [(7,.b1 (.z .i64))] [(0,.o v),(1,.o (.fn f [] aF))] Tryz.func103 (by kernel_rfl) (by kernel_rfl) (by kernel_rfl) rfl (Eq.mp (by kernel_rfl) H)
theorem Sl(m:Nat)(v:I)(f:Nat)(aF:List I)(h:J){R:av->Prop}(H:∃aI:Nat,cb Tryz.prog h 49 v=some (.int .i64 (.ofNat aI))/\bm Tryz.prog Tryz.f115 (Y m) [1,0,1,0] (ao.mk [(0,v),(1,.fn f [] aF),(7,.int .i64 (.ofNat aI)),(8,.int .i64 (.ofNat 0))] [] .none h) (λcE cF=>((∃al:J,∃bq:Env,cE=.exit 0/\cF=ao.mk bq [] .none al/\cl [] bq/\R (.ret (.int .i64 (.negSucc 0)) al))\/(∃bw:Nat,∃au:J,∃bT:Env,cE=.ret/\cF=ao.mk bT [] .none au/\cl [(4,.int .i64 (.ofNat bw))] bT/\R (.ret (.int .i64 (.ofNat bw)) au))))):
  R (Y (m+1) (.fn 115) [v,.fn f [] aF] h):=
 dd (intr:=bW) [(4000,.gw [0,1,7,8] [(.exit 0,[]),(.ret,[(4,.n .i64)])])] [(0,.o v),(1,.o (.fn f [] aF))] Tryz.func115 (by kernel_rfl) (by kernel_rfl) (by kernel_rfl) rfl (Eq.mp (by kernel_rfl) H)
theorem Sm(call:aP->List I->J->av)(b:Nat)(off:Nat)(N:Nat)(i:Nat)(f:Nat)(aF:List I)(aE:cf)(h:J){Q:bu->ao->Prop}(H:(i<N->i<N/\∃v1:I,ay h b (off+i*1)=some v1/\∃a4:Bool,∃al:J,call (.fn f) (v1::aF) h=.ret (.bool a4) al/\(a4=true->Q .ret (ao.mk [(0,.slice b off N aE),(1,.fn f [] aF),(4,.int .i64 (.ofNat i)),(7,.int .i64 (.ofNat N)),(8,.int .i64 (.ofNat i))] [] .none al))/\(a4=false->i+1<9223372036854775808/\Q .nrm (ao.mk [(0,.slice b off N aE),(1,.fn f [] aF),(7,.int .i64 (.ofNat N)),(8,.int .i64 (.ofNat (i+1)))] [] .none al)))/\(¬i<N->Q (.exit 0) (ao.mk [(0,.slice b off N aE),(1,.fn f [] aF),(7,.int .i64 (.ofNat N)),(8,.int .i64 (.ofNat i))] [] .none h))):
  bm Tryz.prog Tryz.f115 call [1,0,1,0,0] ⟨[(0,.slice b off N aE),(1,.fn f [] aF),(7,.int .i64 (.ofNat N)),(8,.int .i64 (.ofNat i))],[],.none,h⟩ Q:=
 e9 [(15,.b1 .o)] [0,1,4,7,8] [(0,.v (.slice b off N aE)),(1,.o (.fn f [] aF)),(7,.v (.int .i64 (.ofNat N))),(8,.v (.int .i64 (.ofNat i)))] rfl (Eq.mp (by kernel_rfl) H)
theorem Sn(call:aP->List I->J->av)(N:Nat)(i:Nat)(f:Nat)(aF:List I)(v:I)(h:J){Q:bu->ao->Prop}(H:¬i<N/\Q (.exit 0) (ao.mk [] [] .none h)):
  bm Tryz.prog Tryz.f115 call [1,0,1,0,0] ⟨[(0,v),(1,.fn f [] aF),(7,.int .i64 (.ofNat N)),(8,.int .i64 (.ofNat i))],[],.none,h⟩ Q:=
 e9 [(1009,.f)] [] [(0,.o v),(1,.o (.fn f [] aF)),(7,.v (.int .i64 (.ofNat N))),(8,.v (.int .i64 (.ofNat i)))] rfl (Eq.mp (by kernel_rfl) H)
theorem So(m:Nat)(v:I)(f:Nat)(aF:List I)(h:J){R:av->Prop}(H:∃aI:Nat,cb Tryz.prog h 49 v=some (.int .i64 (.ofNat aI))/\(1<=aI/\aI<9223372036854775808)/\bm Tryz.prog Tryz.f124 (Y m) [1,0,1,0] (ao.mk [(0,v),(1,.fn f [] aF),(5,.int .i64 (.ofNat (aI-1)))] [] .none h) (λcE cF=>((∃al:J,∃bq:Env,cE=.exit 0/\cF=ao.mk bq [] .none al/\cl [] bq/\R (.ret (.bool true) al))\/(∃au:J,∃bT:Env,cE=.ret/\cF=ao.mk bT [] .none au/\cl [(4,.bool false)] bT/\R (.ret (.bool false) au))))):
  R (Y (m+1) (.fn 124) [v,.fn f [] aF] h):=
 dd (intr:=bW) [(4000,.gw [0,1,5] [(.exit 0,[]),(.ret,[(4,.is (.bool false))])])] [(0,.o v),(1,.o (.fn f [] aF))] Tryz.func124 (by kernel_rfl) (by kernel_rfl) (by kernel_rfl) rfl (Eq.mp (by kernel_rfl) H)
theorem Sp(m:Nat)(v:I)(f:Nat)(aF:List I)(h:J){R:av->Prop}(H:∃aI:Nat,cb Tryz.prog h 49 v=some (.int .i64 (.ofNat aI))/\∃c7:Int,arith .sub .i64 (.ofNat aI) (.ofNat 1)=some (.int .i64 c7)/\bm Tryz.prog Tryz.f124 (Y m) [1,0,1,0] (ao.mk [(0,v),(1,.fn f [] aF),(5,.int .i64 c7)] [] .none h) (λcE cF=>∃al:J,∃bq:Env,cE=.exit 0/\cF=ao.mk bq [] .none al/\cl [] bq/\R (.ret (.bool true) al))):
  R (Y (m+1) (.fn 124) [v,.fn f [] aF] h):=
 dd (intr:=bW) [(8,.b1 (.z .i64)),(4000,.gw [0,1,5] [(.exit 0,[])])] [(0,.o v),(1,.o (.fn f [] aF))] Tryz.func124 (by kernel_rfl) (by kernel_rfl) (by kernel_rfl) rfl (Eq.mp (by kernel_rfl) H)
theorem Sq(call:aP->List I->J->av)(b:Nat)(off:Nat)(N:Nat)(i:Nat)(f:Nat)(aF:List I)(aE:cf)(h:J){Q:bu->ao->Prop}(H:(0<i->i<N/\∃v1:I,ay (h.room 12) b (off+i*1)=some v1/\(1<=i/\i<9223372036854775808)/\i-1<N/\∃v2:I,ay (h.room 12) b (off+(i-1)*1)=some v2/\∃c7:Int,∃al:J,call (.fn f) (v1::v2::aF) (h.room 12)=.ret (.int .i64 c7) al/\I.sound (.fn f [] aF)=true/\I.sound v1=true/\I.sound v2=true/\(et c7 (.ofNat 0)=true->Q .ret (ao.mk [(0,.slice b off N aE),(1,.fn f [] aF),(4,.bool false),(5,.int .i64 (.ofNat i))] [] .none al))/\(et c7 (.ofNat 0)=false->(1<=i/\i<9223372036854775808)/\Q .nrm (ao.mk [(0,.slice b off N aE),(1,.fn f [] aF),(5,.int .i64 (.ofNat (i-1)))] [] .none al)))/\(¬0<i->Q (.exit 0) (ao.mk [(0,.slice b off N aE),(1,.fn f [] aF),(5,.int .i64 (.ofNat i))] [] .none h))):
  bm Tryz.prog Tryz.f124 call [1,0,1,0,0] ⟨[(0,.slice b off N aE),(1,.fn f [] aF),(5,.int .i64 (.ofNat i))],[],.none,h⟩ Q:=
 e9 [(17,.b1 .o),(22,.b1 .o),(23,.b1 (.z .i64))] [0,1,4,5] [(0,.v (.slice b off N aE)),(1,.o (.fn f [] aF)),(5,.v (.int .i64 (.ofNat i)))] rfl (Eq.mp (by kernel_rfl) H)
theorem Sr(call:aP->List I->J->av)(v:I)(f:Nat)(aF:List I)(h:J){Q:bu->ao->Prop}(H:et (.ofNat 0) (.negSucc 0)=false/\Q (.exit 0) (ao.mk [] [] .none h)):
  bm Tryz.prog Tryz.f124 call [1,0,1,0,0] ⟨[(0,v),(1,.fn f [] aF),(5,.int .i64 (.negSucc 0))],[],.none,h⟩ Q:=
 e9 [(1010,.f)] [] [(0,.o v),(1,.o (.fn f [] aF)),(5,.v (.int .i64 (.negSucc 0)))] rfl (Eq.mp (by kernel_rfl) H)
theorem Ss(m:Nat)(x:I)(y:I)(a:Nat)(f:Nat)(aF:List I)(h:J){R:av->Prop}(H:ay (h.room 7) a 0=some (.fn f [] aF)/\∃s1:List UInt8,∃al:J,(Y m) (.fn f) (x::aF) (h.room 7)=.ret (.str s1) al/\ay al a 0=some (.fn f [] aF)/\∃s2:List UInt8,∃au:J,(Y m) (.fn f) (y::aF) al=.ret (.str s2) au/\I.sound (.fn f [] aF)=true/\I.sound x=true/\I.sound (.fn f [] aF)=true/\ay (h.room 7) a 0=some (.fn f [] aF)/\I.sound y=true/\(eA s1 s2=true->R (.ret (.int .i64 (.negSucc 0)) au))/\(eA s1 s2=false->R (.ret (.int .i64 (.ofNat 1)) au))):
  R (Y (m+1) (.fn 125) [x,y,.ptr a 0] h):=
 dd (intr:=bW) [(6,.b1 (.io (.fn f [] aF))),(9,.b1 (.io (.fn f [] aF)))] [(0,.o x),(1,.o y),(2,.v (.ptr a 0))] Tryz.func125 (by kernel_rfl) (by kernel_rfl) (by kernel_rfl) rfl (Eq.mp (by kernel_rfl) H)
theorem St(m:Nat)(x:I)(y:I)(a:Nat)(f:Nat)(aF:List I)(h:J){R:av->Prop}(H:ay (h.room 8) a 0=some (.fn f [] aF)/\∃s1:List UInt8,∃al:J,(Y m) (.fn f) (x::aF) (h.room 8)=.ret (.str s1) al/\ay al a 0=some (.fn f [] aF)/\∃s2:List UInt8,∃au:J,(Y m) (.fn f) (y::aF) al=.ret (.str s2) au/\I.sound (.fn f [] aF)=true/\I.sound x=true/\I.sound (.fn f [] aF)=true/\ay (h.room 8) a 0=some (.fn f [] aF)/\I.sound y=true/\R (.ret (.bool (bR s1 s2)) au)):
  R (Y (m+1) (.fn 128) [x,y,.ptr a 0] h):=
 dd (intr:=bW) [(6,.b1 (.io (.fn f [] aF))),(9,.b1 (.io (.fn f [] aF)))] [(0,.o x),(1,.o y),(2,.v (.ptr a 0))] Tryz.func128 (by kernel_rfl) (by kernel_rfl) (by kernel_rfl) rfl (Eq.mp (by kernel_rfl) H)
theorem IV(m:Nat)(v:I)(f:Nat)(aF:List I)(h:J){R:av->Prop}(H:∃aI:Nat,cb Tryz.prog h 49 v=some (.int .i64 (.ofNat aI))/\(aI<2->R (.ret v h))/\(¬aI<2->bm Tryz.prog Tryz.f126 (Y m) [1,1,0,1,0] (ao.mk [(0,v),(1,.fn f [] aF),(5,.int .i64 (.ofNat 1))] [] .none h) (λcE cF=>((∃v1:I,∃al:J,∃bq:Env,cE=.exit 0/\cF=ao.mk bq [] .none al/\cl [(0,v1)] bq/\R (.ret v1 al))\/(∃v2:I,∃au:J,∃bT:Env,cE=.ret/\cF=ao.mk bT [] .none au/\cl [(4,v2)] bT/\R (.ret v2 au)))))):
  R (Y (m+1) (.fn 126) [v,.fn f [] aF] h):=
 dd (intr:=bW) [(4000,.gw [0,1,5] [(.exit 0,[(0,.o)]),(.ret,[(4,.o)])])] [(0,.o v),(1,.o (.fn f [] aF))] Tryz.func126 (by kernel_rfl) (by kernel_rfl) (by kernel_rfl) rfl (Eq.mp (by kernel_rfl) H)
theorem Su(call:aP->List I->J->av)(b:Nat)(N:Nat)(k:Nat)(f:Nat)(aF:List I)(h:J){Q:bu->ao->Prop}(H:(k<N->k<N/\∃v1:I,ay (h.room 11) b (0+k*1)=some v1/\(1<=k/\k<9223372036854775808)/\k-1<N/\∃v2:I,ay (h.room 11) b (0+(k-1)*1)=some v2/\∃a4:Bool,∃al:J,call (.fn f) (v1::v2::aF) (h.room 11)=.ret (.bool a4) al/\I.sound (.fn f [] aF)=true/\I.sound v1=true/\I.sound v2=true/\(a4=true->∃aI:Nat,∃bw:Nat,∃cH:Nat,∃c1:cf,eu Tryz.prog al 49 (.slice b 0 N (.aN 1)) (some (.int .i64 (.ofNat k))) none none=some (.slice aI bw cH c1)/\bm Tryz.prog Tryz.f126 call [1,1,0,1,0,0,1,0,0,1,0,1,0,1,0] (ao.mk [(0,.slice b 0 N (.aN 1)),(1,.fn f [] aF),(5,.int .i64 (.ofNat k)),(6,.slice aI bw cH c1),(7,.int .i64 (.ofNat 1))] [] .none al) (λcE cF=>∃cZ:Nat,∃eG:Nat,∃fg:Nat,∃c2:cf,∃iE:Nat,∃au:J,∃bq:Env,cE=.exit 2/\cF=ao.mk bq [] .none au/\cl [(0,.slice cZ eG fg c2),(5,.int .i64 (.ofNat iE))] bq/\∃sP:Nat,∃pq:Nat,∃pr:Nat,∃c3:cf,eu Tryz.prog au 49 (.slice cZ eG fg c2) (some (.int .i64 (.ofNat iE))) none none=some (.slice sP pq pr c3)/\∃a7:J,nz Tryz.prog au 49 (.slice sP pq pr c3)=some (.aK [],a7)/\∃cX:I,eu Tryz.prog a7 49 (.slice cZ eG fg c2) none (some (.int .i64 (.ofNat iE))) none=some cX/\Q .ret (ao.mk [(0,.slice cZ eG fg c2),(4,cX),(5,.int .i64 (.ofNat iE))] [] .none a7)))/\(a4=false->k+1<9223372036854775808/\Q .nrm (ao.mk [(0,.slice b 0 N (.aN 1)),(1,.fn f [] aF),(5,.int .i64 (.ofNat (k+1)))] [] .none al)))/\(¬k<N->Q (.exit 0) (ao.mk [(0,.slice b 0 N (.aN 1)),(1,.fn f [] aF),(5,.int .i64 (.ofNat k))] [] .none h))):
  bm Tryz.prog Tryz.f126 call [1,1,0,1,0,0] ⟨[(0,.slice b 0 N (.aN 1)),(1,.fn f [] aF),(5,.int .i64 (.ofNat k))],[],.none,h⟩ Q:=
 e9 [(22,.b1 .o),(27,.b1 .o),(31,.b1 .hz),(4002,.gw [0,1,5,6,7] [(.exit 2,[(0,.hz),(5,.n .i64)])]),(61,.b1 .hz),(64,.b1 .o)] [0,1,4,5] [(0,.v (.slice b 0 N (.aN 1))),(1,.o (.fn f [] aF)),(5,.v (.int .i64 (.ofNat k)))] rfl (Eq.mp (by kernel_rfl) H)
theorem Sv(call:aP->List I->J->av)(b:Nat)(N:Nat)(k:Nat)(f:Nat)(e6:Nat)(M:Nat)(j:Nat)(aF:List I)(h:J){Q:bu->ao->Prop}(H:(j<M->j<M/\∃v1:I,ay (h.room 12) b (e6+j*1)=some v1/\(1<=j/\j<9223372036854775808)/\j-1<M/\∃v2:I,ay (h.room 12) b (e6+(j-1)*1)=some v2/\∃a4:Bool,∃al:J,call (.fn f) (v1::v2::aF) (h.room 12)=.ret (.bool a4) al/\I.sound (.fn f [] aF)=true/\I.sound v1=true/\I.sound v2=true/\(a4=true->j+1<9223372036854775808/\Q .nrm (ao.mk [(0,.slice b 0 N (.aN 1)),(1,.fn f [] aF),(5,.int .i64 (.ofNat k)),(6,.slice b e6 M (.aN 1)),(7,.int .i64 (.ofNat (j+1)))] [] .none al))/\(a4=false->j<M/\∃aI:Nat,ay al b (e6+j*1)=some (.ptr aI 0)/\k<N/\∃au:J,aw.storeCells al b (0+k*1) [.ptr aI 0]=some au/\k+1<9223372036854775808/\j+1<9223372036854775808/\Q .nrm (ao.mk [(0,.slice b 0 N (.aN 1)),(1,.fn f [] aF),(5,.int .i64 (.ofNat (k+1))),(6,.slice b e6 M (.aN 1)),(7,.int .i64 (.ofNat (j+1)))] [] .none au)))/\(¬j<M->Q (.exit 2) (ao.mk [(0,.slice b 0 N (.aN 1)),(1,.fn f [] aF),(5,.int .i64 (.ofNat k)),(6,.slice b e6 M (.aN 1)),(7,.int .i64 (.ofNat j))] [] .none h))):
  bm Tryz.prog Tryz.f126 call [1,1,0,1,0,0,1,0,0,1,0,1,0,1,0,0] ⟨[(0,.slice b 0 N (.aN 1)),(1,.fn f [] aF),(5,.int .i64 (.ofNat k)),(6,.slice b e6 M (.aN 1)),(7,.int .i64 (.ofNat j))],[],.none,h⟩ Q:=
 e9 [(42,.b1 .o),(47,.b1 .o)] [0,1,5,6,7] [(0,.v (.slice b 0 N (.aN 1))),(1,.o (.fn f [] aF)),(5,.v (.int .i64 (.ofNat k))),(6,.v (.slice b e6 M (.aN 1))),(7,.v (.int .i64 (.ofNat j)))] rfl (Eq.mp (by kernel_rfl) H)
theorem Sw(m:Nat)(b:Nat)(off:Nat)(N:Nat)(aE:cf)(h:J){R:av->Prop}(H:∃v1:I,∃al:J,fW Tryz.prog (J.push h (.cells [] 47 .own 0 0)) 49 (some 49) (.slice h.n 0 0 (.exact 0)) (.slice b off N aE)=some (v1,al)/\R (.ret v1 al)):
  R (Y (m+1) (.fn 127) [.slice b off N aE] h):=
 dd (intr:=bW) [(7,.b1 .o)] [(0,.v (.slice b off N aE))] Tryz.func127 (by kernel_rfl) (by kernel_rfl) (by kernel_rfl) rfl (Eq.mp (by kernel_rfl) H)
theorem Sx(m:Nat)(h:J){R:av->Prop}(H:R (.ret .a0 h)):
  R (Y (m+1) (.fn 127) [.a0] h):=
 dd (intr:=bW) [] [(0,.v .a0)] Tryz.func127 (by kernel_rfl) (by kernel_rfl) (by kernel_rfl) rfl (Eq.mp (by kernel_rfl) H)
theorem Sy(m:Nat)(v:I)(f:Nat)(aF:List I)(h:J){R:av->Prop}(H:I.bC (.fn f [] aF)=true/\∃a4:Bool,∃al:J,(Y m) (.fn 124) [v,.fn 125 [] [.ptr h.n 0]] (J.push h (.cells [.fn f [] aF] 145 .own 0 0))=.ret (.bool a4) al/\(a4=true->∃v1:I,∃au:J,(Y m) (.fn 127) [v] al=.ret v1 au/\∃v2:I,∃a7:J,(Y m) (.fn 126) [v1,.fn 128 [] [.ptr h.n 0]] au=.ret v2 a7/\∃aI:Nat,cb Tryz.prog a7 49 v2=some (.int .i64 (.ofNat aI))/\∃bw:Nat,cb Tryz.prog a7 49 v=some (.int .i64 (.ofNat bw))/\R (.ret (.bool (cU (.ofNat aI) (.ofNat bw))) a7))/\(a4=false->R (.ret (.bool false) al))):
  R (Y (m+1) (.fn 111) [v,.fn f [] aF] h):=
 dd (intr:=bW) [] [(0,.o v),(1,.o (.fn f [] aF))] Tryz.func111 (by kernel_rfl) (by kernel_rfl) (by kernel_rfl) rfl (Eq.mp (by kernel_rfl) H)
theorem Sz(m:Nat)(v:I)(h:J){R:av->Prop}(H:∃a4:Bool,∃al:J,(Y m) (.fn 90) [v] h=.ret (.bool a4) al/\R (.ret (.bool !a4) al)):
  R (Y (m+1) (.fn 102) [v] h):=
 dd (intr:=bW) [] [(0,.o v)] Tryz.func102 (by kernel_rfl) (by kernel_rfl) (by kernel_rfl) rfl (Eq.mp (by kernel_rfl) H)
theorem SA(m:Nat)(s:List UInt8)(h:J){R:av->Prop}(H:∃a4:Bool,∃al:J,(Y m) (.fn 107) [.str s] h=.ret (.bool a4) al/\R (.ret (.bool !a4) al)):
  R (Y (m+1) (.fn 106) [.str s] h):=
 dd (intr:=bW) [] [(0,.v (.str s))] Tryz.func106 (by kernel_rfl) (by kernel_rfl) (by kernel_rfl) rfl (Eq.mp (by kernel_rfl) H)
theorem SB(m:Nat)(s:List UInt8)(h:J){R:av->Prop}(H:R (.ret (.str s) h)):
  R (Y (m+1) (.fn 109) [.str s] h):=
 dd (intr:=bW) [] [(0,.v (.str s))] Tryz.func109 (by kernel_rfl) (by kernel_rfl) (by kernel_rfl) rfl (Eq.mp (by kernel_rfl) H)
theorem SC(m:Nat)(r:Nat)(h:J){R:av->Prop}(H:∃aI:Nat,ay h r (0+0)=some (.int .i64 (.ofNat aI))/\(aI=9->R (.ret (.bool true) h))/\(¬aI=9->∃bw:Nat,ay h r (0+0)=some (.int .i64 (.ofNat bw))/\R (.ret (.bool (cU (.ofNat bw) (.ofNat 1))) h))):
  R (Y (m+1) (.fn 110) [.ptr r 0] h):=
 dd (intr:=bW) [] [(0,.v (.ptr r 0))] Tryz.func110 (by kernel_rfl) (by kernel_rfl) (by kernel_rfl) rfl (Eq.mp (by kernel_rfl) H)
theorem SD(m:Nat)(r:Nat)(h:J){R:av->Prop}(H:∃aI:Nat,∃al:J,(Y m) (.fn 70) [.ptr r 0] h=.ret (.int .i64 (.ofNat aI)) al/\(60<aI->R (.ret (.int .i64 (.ofNat 3)) al))/\(¬60<aI->∃a4:Bool,∃au:J,(Y m) (.fn 90) [.ptr r 0] al=.ret (.bool a4) au/\(a4=true->R (.ret (.int .i64 (.ofNat 0)) au))/\(a4=false->R (.ret (.int .i64 (.ofNat 2)) au)))):
  R (Y (m+1) (.fn 76) [.ptr r 0] h):=
 dd (intr:=bW) [] [(0,.v (.ptr r 0))] Tryz.func76 (by kernel_rfl) (by kernel_rfl) (by kernel_rfl) rfl (Eq.mp (by kernel_rfl) H)
theorem SE(m:Nat)(h:J){R:av->Prop}(H:R (.ret (.int .i64 (.ofNat 1)) h)):
  R (Y (m+1) (.fn 76) [.bd] h):=
 dd (intr:=bW) [] [(0,.v .bd)] Tryz.func76 (by kernel_rfl) (by kernel_rfl) (by kernel_rfl) rfl (Eq.mp (by kernel_rfl) H)
theorem qR{n:Nat}{q:Nat->Bool}(h:∀j,j<n->q j=false):(List.range n).any q=false:=by
 rw[List.any_eq_false];intro j aD;rw[h j (by simpa using aD)];simp
theorem uC{n i:Nat}{q:Nat->Bool}(ae:i<n)(h:q i=true):(List.range n).any q=true:=List.any_eq_true.2 ⟨i,by simpa using ae,h⟩
theorem kY{f:Nat}{aF:List I}(h:h9 aF=true):I.sound (.fn f [] aF)=true:=by simp[I.sound,h9,h]
theorem IW(z:I)(aT:z.bC=true)(L:List I)(k:Nat)(aq:k<L.length):eB k [z] L=some (L.set k z):=by
 have h:=wk (L.take k) [z] (L.drop k) (by simp[aT]) (by simp;omega)
 rw[List.length_take,Nat.min_eq_left (by omega),List.take_append_drop] at h
 rw[h,List.drop_drop]
 congr 1
 rw[List.set_eq_take_append_cons_drop,if_pos aq]
 rfl
theorem IX(xs:List I)(ab:xs.all I.bC=true)(L:List I)(k:Nat)(aq:k+xs.length<=L.length):∃qS,eB k xs L=some qS/\qS.length=L.length:=by
 have h:=wk (L.take k) xs (L.drop k) ab (by simp;omega)
 rw[List.length_take,Nat.min_eq_left (by omega),List.take_append_drop] at h
 exact⟨_,h,by simp;omega⟩
theorem SF:∀(l cs:List I) (o:Nat),(∀i (ae:i<l.length),nth (o+i) cs=some l[i])->takeN l.length (g0 o cs)=some l:=by
 have base:∀(l cs:List I),(∀i (ae:i<l.length),nth i cs=some l[i])->takeN l.length cs=some l:=by
  intro l
  induction l with
  |nil=>intro cs _;rfl
  |cons a l bg=>
   intro cs h
   cases cs with
   |nil=>have:=h 0 (by simp);simp[nth] at this
   |cons c cs=>
    have h0:=h 0 (by simp)
    simp only[nth,List.getElem_cons_zero,Option.some.injEq] at h0
    subst h0
    have:=bg cs (λi ae=>by have:=h (i+1) (by simpa using ae);simpa[nth] using this)
    simp only[List.length_cons,takeN,this]
 intro l cs o
 induction o generalizing cs with
 |zero=>intro h;exact base l cs (λi ae=>by have:=h i ae;rwa [Nat.zero_add] at this)
 |succ o bg=>
  intro h
  cases cs with
  |nil=>
   cases l with
   |nil=>rfl
   |cons a l=>have:=h 0 (by simp);simp[nth] at this
  |cons c cs=>
   refine bg cs (λi ae=>?_)
   have:=h i ae
   rw[show o+1+i=(o+i)+1 by omega] at this
   simpa[nth] using this
theorem dZ.src{B:Nat}{h:J}{b off:Nat}{aE:cf}{vs:List I}(an:∀i (ae:i<vs.length),ay h b (off+i*1)=some vs[i])(h0:0<vs.length)(ag:aE≠ .dead):ho h 1 (.slice b off vs.length aE)=some (vs.length,vs):=by
 have af:∃cs e k a9 up,h.get b=some (.cells cs e k a9 up):=by
  have:=an 0 h0
  unfold ay at this
  split at this
  · rename_i cs e k a9 up aj
    exact⟨cs,e,k,a9,up,aj⟩
  · cases this
 obtain⟨cs,e,k,a9,up,aj⟩:=af
 have gj:aw.loadCells h b off (vs.length*1)=some vs:=by
  refine n1 aj ?_
  rw[Nat.mul_one]
  refine SF vs cs off (λi ae=>?_)
  have:=an i ae
  simp only[ay,aj,Nat.mul_one] at this
  exact this
 cases aE with
 |dead=>exact absurd rfl ag
 |exact c=>simp only[ho,gj]
 |aN c=>simp only[ho,gj]
def gM(h:J)(b:Nat)(el:Nat)(L:List I):Prop:=h.get b=some (.cells L el .aN 0 0)
theorem gM.oi{h:J}{b el:Nat}{L:List I}(a2:gM h b el L){i o:Nat}(ae:i<L.length)(e:o=i):ay h b o=some L[i]:=by
 subst e;exact Cq a2 (List.getElem?_eq_getElem ae)
theorem SG(m:Nat){B:Nat}{h:J}{v:I}{vs:List I}(f:Nat)(aF:List I)(q:Nat->Bool)(aB:dZ B h v vs)(hlen:vs.length<=90000)(hf:∀i (ae:i<vs.length) x,Ext B h x->bD B x (.bool (q i)) (Y m (.fn f) (vs[i]::aF) x)):
  bD B h (.bool ((List.range vs.length).any q)) (Y (m+2) (.fn 105) [v,.fn f [] aF] h):=by
 refine R6 (m+1) v f aF h ?_
 have key:∃i g,Y (m+1) (.fn 117) [v,.fn f [] aF] h=.ret (.int .i64 i) g/\fh (Int.ofNat 0) i=(List.range vs.length).any q/\Ext B h g:=by
  refine R7 m v f aF h (R:=λx=>∃i g,x=.ret (.int .i64 i) g/\fh (Int.ofNat 0) i=(List.range vs.length).any q/\Ext B h g) ⟨vs.length,aB.len (t:=48) (e:=9) (by kernel_rfl),?_⟩
  refine bm.loop (by kernel_rfl) (λk st=>∃i x Γ,st=⟨Γ,[],.none,x⟩/\cl [(0,v),(1,.fn f [] aF),(7,.int .i64 (Int.ofNat vs.length)),(8,.int .i64 (Int.ofNat i))] Γ/\vs.length-i=k/\i<=vs.length/\Ext B h x/\∀j,j<i->q j=false) ?_ vs.length _ (by omega) ⟨0,h,_,rfl,⟨rfl,rfl,rfl,rfl,trivial⟩,by omega,by omega,Ext.refl _ _,λj aD=>by omega⟩
  rintro k st ⟨i,x,Γ,rfl,cG,aq,ae,ab,bh⟩
  rcases aB with⟨rfl,rfl⟩|⟨b,off,aE,rfl,af,an,a6,az⟩
  · exact bm.pre (R9 (Y m) _ i f aF _ x ⟨by simp,.inl ⟨x,_,rfl,rfl,trivial,_,x,rfl,rfl,ab⟩⟩) cG rfl rfl rfl
  · refine bm.pre (R8 (Y m) b off _ i f aF aE x ⟨λaa=>⟨aa,_,gv ab af (an i aa),?_⟩,λaa=>?_⟩) cG rfl rfl rfl
    · obtain⟨g,c1,bb⟩:=hf i aa x ab
      have aj:=ab.trans (Nat.le_refl _) bb
      refine⟨q i,g,c1,λag=>?_,λag=>?_⟩
      · exact .inr ⟨i,g,_,rfl,rfl,⟨rfl,trivial⟩,_,g,rfl,by rw[uC aa ag];exact o6 (by omega),aj⟩
      · refine⟨by omega,_,(by show _<k;omega),i+1,g,_,rfl,⟨rfl,rfl,rfl,rfl,trivial⟩,rfl,by omega,aj,λj aD=>?_⟩
        by_cases e:j=i
        · rw[e];exact ag
        · exact bh j (by omega)
    · exact .inl ⟨x,_,rfl,rfl,trivial,_,x,rfl,by rw[qR (λj aD=>bh j (by omega))];rfl,ab⟩
 obtain⟨i,g,c1,aC,bb⟩:=key
 exact⟨i,g,c1,bD.of (dM aC.symm) bb⟩
theorem SH(m:Nat){B:Nat}{h:J}{v:I}{vs:List I}(f:Nat)(aF:List I)(q:Nat->Nat->Bool)(aB:dZ B h v vs)(hlen:vs.length<=90000)(gu:h9 aF=true)(eK:∀i (ae:i<vs.length),I.sound vs[i]=true)(hf:∀i j (ae:i<vs.length) (aD:j<vs.length) x,Ext B h x->bD B x (.int .i64 (if q i j then Int.negSucc 0 else Int.ofNat 1)) (Y m (.fn f) (vs[i]::vs[j]::aF) x)):
  bD B h (.bool (!(List.range vs.length).any (λi=>decide (0<i)&&q i (i-1)))) (Y (m+1) (.fn 119) [v,.fn f [] aF] h):=by
 by_cases h0:vs.length=0
 · refine Sa m v f aF h ⟨0,by rw[<-h0];exact aB.len (t:=48) (e:=9) (by kernel_rfl),Int.negSucc 0,by kernel_rfl,?_⟩
   refine bm.loop (by kernel_rfl) (λk st=>∃Γ,st=⟨Γ,[],.none,h⟩/\cl [(0,v),(1,.fn f [] aF),(5,.int .i64 (Int.negSucc 0))] Γ) ?_ 1 _ (by omega) ⟨_,rfl,rfl,rfl,rfl,trivial⟩
   rintro k st ⟨Γ,rfl,cG⟩
   exact bm.pre (Sc (Y m) v f aF h ⟨rfl,h,_,rfl,rfl,trivial,bD.of (dM (by rw[h0];rfl)) (Ext.refl _ _)⟩) cG rfl rfl rfl
 · refine R_ m v f aF h ⟨vs.length,aB.len (t:=48) (e:=9) (by kernel_rfl),⟨by omega,by omega⟩,?_⟩
   refine bm.loop (by kernel_rfl) (λk st=>∃i x Γ,st=⟨Γ,[],.none,x⟩/\cl [(0,v),(1,.fn f [] aF),(5,.int .i64 (Int.ofNat i))] Γ/\i=k/\i<vs.length/\Ext B h x/\∀j,i<j->j<vs.length->q j (j-1)=false) ?_ (vs.length-1) _ (by omega) ⟨vs.length-1,h,_,rfl,⟨rfl,rfl,rfl,trivial⟩,by omega,by omega,Ext.refl _ _,λj aD lX=>by omega⟩
   rintro k st ⟨i,x,Γ,rfl,cG,aq,ae,ab,bh⟩
   rcases aB with⟨rfl,rfl⟩|⟨b,off,aE,rfl,af,an,a6,az⟩
   · simp at h0
   · refine bm.pre (Sb (Y m) b off _ i f aF aE x ⟨λaa=>?_,λaa=>?_⟩) cG rfl rfl rfl
     · have ai:=ab.hC (k:=12)
       obtain⟨g,c1,bb⟩:=hf i (i-1) ae (by omega) _ ai
       have aj:=ai.trans (Nat.le_refl _) bb
       refine⟨ae,_,gv ai af (an i ae),⟨by omega,by omega⟩,by omega,_,gv ai af (an (i-1) (by omega)),_,g,c1,kY gu,eK i ae,eK (i-1) (by omega),λag=>?_,λag=>?_⟩
       · have sQ:q i (i-1)=true:=by
           cases oU:q i (i-1) with
           |true=>rfl
           |false=>rw[oU] at ag;exact absurd ag (by decide)
         exact .inr ⟨g,_,rfl,rfl,⟨rfl,trivial⟩,bD.of (dM (by rw[uC ae (by simp[aa,sQ])];rfl)) aj⟩
       · have sQ:q i (i-1)=false:=by
           cases oU:q i (i-1) with
           |false=>rfl
           |true=>rw[oU] at ag;exact absurd ag (by decide)
         refine⟨⟨by omega,by omega⟩,_,(by show _<k;omega),i-1,g,_,rfl,⟨rfl,rfl,rfl,trivial⟩,rfl,by omega,aj,λj aD lX=>?_⟩
         by_cases e:j=i
         · rw[e];exact sQ
         · exact bh j (by omega) lX
     · refine .inl ⟨x,_,rfl,rfl,trivial,bD.of (dM ?_) ab⟩
       rw[qR (λj aD=>?_)];rfl
       by_cases e:0<j
       · rw[bh j (by omega) aD,Bool.and_false]
       · simp[e]
theorem IY(m:Nat){B:Nat}{h:J}{v:I}{vs:List I}(f:Nat)(aF:List I)(q:Nat->Bool)(aB:dZ B h v vs)(hlen:vs.length<=90000)(hf:∀i (ae:i<vs.length) x,Ext B h x->bD B x (.bool (q i)) (Y m (.fn f) (vs[i]::aF) x)):
  bD B h (.bool ((List.range vs.length).any q)) (Y (m+2) (.fn 103) [v,.fn f [] aF] h):=by
 refine Sk (m+1) v f aF h ?_
 have key:∃i g,Y (m+1) (.fn 115) [v,.fn f [] aF] h=.ret (.int .i64 i) g/\fh (Int.ofNat 0) i=(List.range vs.length).any q/\Ext B h g:=by
  refine Sl m v f aF h (R:=λx=>∃i g,x=.ret (.int .i64 i) g/\fh (Int.ofNat 0) i=(List.range vs.length).any q/\Ext B h g) ⟨vs.length,aB.len (t:=49) (e:=47) (by kernel_rfl),?_⟩
  refine bm.loop (by kernel_rfl) (λk st=>∃i x Γ,st=⟨Γ,[],.none,x⟩/\cl [(0,v),(1,.fn f [] aF),(7,.int .i64 (Int.ofNat vs.length)),(8,.int .i64 (Int.ofNat i))] Γ/\vs.length-i=k/\i<=vs.length/\Ext B h x/\∀j,j<i->q j=false) ?_ vs.length _ (by omega) ⟨0,h,_,rfl,⟨rfl,rfl,rfl,rfl,trivial⟩,by omega,by omega,Ext.refl _ _,λj aD=>by omega⟩
  rintro k st ⟨i,x,Γ,rfl,cG,aq,ae,ab,bh⟩
  rcases aB with⟨rfl,rfl⟩|⟨b,off,aE,rfl,af,an,a6,az⟩
  · exact bm.pre (Sn (Y m) _ i f aF _ x ⟨by simp,.inl ⟨x,_,rfl,rfl,trivial,_,x,rfl,rfl,ab⟩⟩) cG rfl rfl rfl
  · refine bm.pre (Sm (Y m) b off _ i f aF aE x ⟨λaa=>⟨aa,_,gv ab af (an i aa),?_⟩,λaa=>?_⟩) cG rfl rfl rfl
    · obtain⟨g,c1,bb⟩:=hf i aa x ab
      have aj:=ab.trans (Nat.le_refl _) bb
      refine⟨q i,g,c1,λag=>?_,λag=>?_⟩
      · exact .inr ⟨i,g,_,rfl,rfl,⟨rfl,trivial⟩,_,g,rfl,by rw[uC aa ag];exact o6 (by omega),aj⟩
      · refine⟨by omega,_,(by show _<k;omega),i+1,g,_,rfl,⟨rfl,rfl,rfl,rfl,trivial⟩,rfl,by omega,aj,λj aD=>?_⟩
        by_cases e:j=i
        · rw[e];exact ag
        · exact bh j (by omega)
    · exact .inl ⟨x,_,rfl,rfl,trivial,_,x,rfl,by rw[qR (λj aD=>bh j (by omega))];rfl,ab⟩
 obtain⟨i,g,c1,aC,bb⟩:=key
 exact⟨i,g,c1,bD.of (dM aC.symm) bb⟩
theorem SI(m:Nat){B:Nat}{h:J}{v:I}{vs:List I}(f:Nat)(aF:List I)(q:Nat->Nat->Bool)(aB:dZ B h v vs)(hlen:vs.length<=90000)(gu:h9 aF=true)(eK:∀i (ae:i<vs.length),I.sound vs[i]=true)(hf:∀i j (ae:i<vs.length) (aD:j<vs.length) x,Ext B h x->bD B x (.int .i64 (if q i j then Int.negSucc 0 else Int.ofNat 1)) (Y m (.fn f) (vs[i]::vs[j]::aF) x)):
  bD B h (.bool (!(List.range vs.length).any (λi=>decide (0<i)&&q i (i-1)))) (Y (m+1) (.fn 124) [v,.fn f [] aF] h):=by
 by_cases h0:vs.length=0
 · refine Sp m v f aF h ⟨0,by rw[<-h0];exact aB.len (t:=49) (e:=47) (by kernel_rfl),Int.negSucc 0,by kernel_rfl,?_⟩
   refine bm.loop (by kernel_rfl) (λk st=>∃Γ,st=⟨Γ,[],.none,h⟩/\cl [(0,v),(1,.fn f [] aF),(5,.int .i64 (Int.negSucc 0))] Γ) ?_ 1 _ (by omega) ⟨_,rfl,rfl,rfl,rfl,trivial⟩
   rintro k st ⟨Γ,rfl,cG⟩
   exact bm.pre (Sr (Y m) v f aF h ⟨rfl,h,_,rfl,rfl,trivial,bD.of (dM (by rw[h0];rfl)) (Ext.refl _ _)⟩) cG rfl rfl rfl
 · refine So m v f aF h ⟨vs.length,aB.len (t:=49) (e:=47) (by kernel_rfl),⟨by omega,by omega⟩,?_⟩
   refine bm.loop (by kernel_rfl) (λk st=>∃i x Γ,st=⟨Γ,[],.none,x⟩/\cl [(0,v),(1,.fn f [] aF),(5,.int .i64 (Int.ofNat i))] Γ/\i=k/\i<vs.length/\Ext B h x/\∀j,i<j->j<vs.length->q j (j-1)=false) ?_ (vs.length-1) _ (by omega) ⟨vs.length-1,h,_,rfl,⟨rfl,rfl,rfl,trivial⟩,by omega,by omega,Ext.refl _ _,λj aD lX=>by omega⟩
   rintro k st ⟨i,x,Γ,rfl,cG,aq,ae,ab,bh⟩
   rcases aB with⟨rfl,rfl⟩|⟨b,off,aE,rfl,af,an,a6,az⟩
   · simp at h0
   · refine bm.pre (Sq (Y m) b off _ i f aF aE x ⟨λaa=>?_,λaa=>?_⟩) cG rfl rfl rfl
     · have ai:=ab.hC (k:=12)
       obtain⟨g,c1,bb⟩:=hf i (i-1) ae (by omega) _ ai
       have aj:=ai.trans (Nat.le_refl _) bb
       refine⟨ae,_,gv ai af (an i ae),⟨by omega,by omega⟩,by omega,_,gv ai af (an (i-1) (by omega)),_,g,c1,kY gu,eK i ae,eK (i-1) (by omega),λag=>?_,λag=>?_⟩
       · have sQ:q i (i-1)=true:=by
           cases oU:q i (i-1) with
           |true=>rfl
           |false=>rw[oU] at ag;exact absurd ag (by decide)
         exact .inr ⟨g,_,rfl,rfl,⟨rfl,trivial⟩,bD.of (dM (by rw[uC ae (by simp[aa,sQ])];rfl)) aj⟩
       · have sQ:q i (i-1)=false:=by
           cases oU:q i (i-1) with
           |false=>rfl
           |true=>rw[oU] at ag;exact absurd ag (by decide)
         refine⟨⟨by omega,by omega⟩,_,(by show _<k;omega),i-1,g,_,rfl,⟨rfl,rfl,rfl,trivial⟩,rfl,by omega,aj,λj aD lX=>?_⟩
         by_cases e:j=i
         · rw[e];exact sQ
         · exact bh j (by omega) lX
     · refine .inl ⟨x,_,rfl,rfl,trivial,bD.of (dM ?_) ab⟩
       rw[qR (λj aD=>?_)];rfl
       by_cases e:0<j
       · rw[bh j (by omega) aD,Bool.and_false]
       · simp[e]
end Go.Proofs.b0
namespace Go.Proofs.b0
open Go aw Go.Proofs cu
set_option maxRecDepth 100000
set_option maxHeartbeats 1000000
theorem IZ{n:Nat}(h:¬n<2):2<=n:=by omega
theorem zE{P:Program}{h:J}{T E b n k:Nat}(hu:P.underlying T=some (.slice E))(hs:cV P E=some 1)(h0:0<k)(aq:k<n):eu P h T (.slice b 0 n (.aN 1)) (some (.int .i64 (Int.ofNat k))) none none=some (.slice b (0+k*1) (n-k) (.aN 1)):=by
 have a4:Nat.ble n n=true:=by rw[Nat.ble_eq];omega
 have a_:Nat.ble k n=true:=by rw[Nat.ble_eq];omega
 have cO:Nat.blt k n=true:=by rw[Nat.blt_eq];exact aq
 have dt:¬k=0:=by omega
 simp only[eu,hu,hs,bounds,iJ,e2,a4,a_,cO,if_true,if_neg dt]
theorem I0{P:Program}{h:J}{T E b n k:Nat}(hu:P.underlying T=some (.slice E))(hs:cV P E=some 1)(aq:k<=n):eu P h T (.slice b 0 n (.aN 1)) none (some (.int .i64 (Int.ofNat k))) none=some (.slice b 0 k (.aN 1)):=by
 have a4:Nat.ble n n=true:=by rw[Nat.ble_eq];omega
 have a_:Nat.ble k n=true:=by rw[Nat.ble_eq];omega
 have cO:Nat.ble 0 k=true:=by rw[Nat.ble_eq];omega
 simp only[eu,hu,hs,bounds,iJ,e2,a4,a_,cO,if_true,Nat.sub_zero]
theorem I1:∀a:aJ,eA a a=false
 |[]=>rfl
 |x::a=>by rw[C9,if_pos rfl];exact I1 a
theorem I2:∀a b:aJ,eA a b=true->eA b a=false
 |[],b,h=>by cases b<;>rfl
 |x::a,[],h=>by simp[eA] at h
 |x::a,y::b,h=>by
  rw[C9] at h⊢
  by_cases e:x.toNat=y.toNat
  · rw[if_pos e] at h;rw[if_pos e.symm];exact I2 a b h
  · rw[if_neg e] at h;rw[if_neg (λh=>e h.symm)]
    have:x.toNat<y.toNat:=by simpa using h
    simp;omega
theorem I3:∀a b:aJ,eA a b=false->eA b a=false->a=b
 |[],[],_,_=>rfl
 |[],y::b,h,_=>by simp[eA] at h
 |x::a,[],_,h=>by simp[eA] at h
 |x::a,y::b,aa,ad=>by
  rw[C9] at aa ad
  by_cases e:x.toNat=y.toNat
  · rw[if_pos e] at aa;rw[if_pos e.symm] at ad
    rw[I3 a b aa ad,show x=y from UInt8.toNat_inj.1 e]
  · rw[if_neg e] at aa;rw[if_neg (λh=>e h.symm)] at ad
    simp at aa ad;omega
theorem I4(a b:aJ):eA a b=(!eA b a&&!bR b a):=by
 by_cases e:b=a
 · subst e;rw[I1,tU];rfl
 · have af:bR b a=false:=by
     cases ab:bR b a with
     |false=>rfl
     |true=>exact absurd (by simpa[mN] using ab) e
   rw[af]
   cases aa:eA a b with
   |true=>rw[I2 a b aa];rfl
   |false=>
    cases ad:eA b a with
    |true=>rfl
    |false=>exact absurd (I3 a b aa ad).symm e
def oj(w:Nat->aJ)(n:Nat):Bool:=!(List.range n).any (λi=>decide (0<i)&&!eA (w (i-1)) (w i))
theorem I5(w:Nat->aJ)(n:Nat)(hs:(!(List.range n).any (λi=>decide (0<i)&&eA (w i) (w (i-1))))=true):oj w n=(!(List.range n).any (λi=>decide (0<i)&&bR (w i) (w (i-1)))):=by
 unfold oj
 congr 1
 rw[Bool.not_eq_true',List.any_eq_false] at hs
 rw[Bool.eq_iff_iff,List.any_eq_true,List.any_eq_true]
 refine exists_congr λi=>and_congr_right λae=>?_
 have:=hs i ae
 rw[I4 (w (i-1)) (w i)]
 by_cases e:0<i
 · have an:eA (w i) (w (i-1))=false:=by simpa[e] using this
   rw[an];simp[e]
 · simp[e]
theorem I6(w:Nat->aJ)(n:Nat)(hs:(!(List.range n).any (λi=>decide (0<i)&&eA (w i) (w (i-1))))=false):oj w n=false:=by
 unfold oj
 rw[Bool.not_eq_false',List.any_eq_true] at hs⊢
 obtain⟨i,ae,bh⟩:=hs
 refine⟨i,ae,?_⟩
 rw[I4 (w (i-1)) (w i)]
 simp only[Bool.and_eq_true] at bh⊢
 rw[bh.2];exact⟨bh.1,rfl⟩
def wS(L vs:List I):Prop:=∀i (ae:i<L.length),∃s,∃hs:s<vs.length,L[i]=vs[s]
theorem wS.set{L vs:List I}(h:wS L vs)(k:Nat){s:Nat}(hs:s<vs.length):wS (L.set k vs[s]) vs:=by
 intro i ae
 rw[List.getElem_set]
 split
 · exact⟨s,hs,rfl⟩
 · exact h i (by simpa using ae)
theorem I7{a:Bool}{n k:Nat}(h:a=decide (k=n)):cU (Int.ofNat k) (Int.ofNat n)=a:=by rw[zB,h]
theorem I8{E U:Nat}{h:J}{v:I}{vs:List I}{a:Nat}(hu:Tryz.prog.underlying U=some (.slice E))(fM:ny Tryz.prog (some U)=true){i:TypeInfo}{z:I}(ae:Tryz.prog.info? E=some i)(br:i.size=1)(l9:i.bytes<=1000)(aT:dN Tryz.prog E=some z)(hO:z.cells.length=1)(aB:ho h 1 v=some (vs.length,vs))(h0:0<vs.length)(an:vs.length<=90000)(ag:vs.all I.bC=true)(aX:h.get a=some (.cells [] E .own 0 0)):
  fW Tryz.prog h U (some U) (.slice a 0 0 (.exact 0)) v=some (.slice h.n 0 vs.length (.aN 1),h.push (.cells vs E .aN 0 0)):=by
 obtain⟨k,aq⟩:∃k,vs.length=k+1:=⟨vs.length-1,by omega⟩
 have hmul:(4*(0+(k+1))+2048)*(i.bytes+1)<=(4*90000+2048)*1001:=Nat.mul_le_mul (by omega) (by omega)
 have jI:jz h E i.bytes 1 (0+(k+1)) z ([]++vs) 0=some (.slice h.n 0 (0+(k+1)) (.aN 1),h.push (.cells ([]++vs) E .aN 0 0)):=
  wj (by unfold ks;rw[Nat.ble_eq];omega) (by rw[hO];rfl) (by rw[List.nil_append];exact ag)
 have o7:Nat.ble (0+(k+1)) 0=false:=by
  cases ab:Nat.ble (0+(k+1)) 0 with
  |false=>rfl
  |true=>have:=Nat.le_of_ble_eq_true ab;omega
 have gj:aw.loadCells h a 0 (0*1)=some []:=by simp only[aw.loadCells,aX];rfl
 rw[aq] at aB
 simp only[fW,hu,fM,ae,aT,br,aB,aq,o7,gj,jI]
 rw[List.nil_append,Nat.zero_add]
theorem SJ(m:Nat){B:Nat}{h:J}{v:I}{vs:List I}(bM:B<=h.n)(aB:dZ B h v vs)(hlen:vs.length<=90000)(ag:vs.all I.bC=true):(v=.a0/\vs=[]/\Y (m+1) (.fn 122) [v] h=.ret .a0 h)\/(0<vs.length/\∃b ak,Y (m+1) (.fn 122) [v] h=.ret (.slice b 0 vs.length (.aN 1)) ak/\B<=b/\b<ak.n/\gM ak b 9 vs/\Ext B h ak):=by
 rcases aB with⟨rfl,rfl⟩|⟨b,off,aE,rfl,af,an,a6,az⟩
 · exact .inl ⟨rfl,rfl,Si m h (R:=λx=>x=.ret .a0 h) rfl⟩
 · right
   refine⟨a6,?_⟩
   obtain⟨H,cR⟩:∃H,H=h.push (.cells [] 9 .own 0 0):=⟨_,rfl⟩
   have dG:Ext B h H:=by rw[cR];exact Ext.push bM _
   have ml:H.n=h.n+1:=by rw[cR];rfl
   have fM:=dZ.src (B:=B) (h:=H) (λi ae=>gv dG af (an i ae)) a6 az
   obtain⟨i,ae⟩:=Option.isSome_iff_exists.1 (show(Tryz.prog.info? 9).isSome=true by kernel_rfl)
   have br:i.size=1:=by
    have:(Tryz.prog.info? 9).map (·.size)=some 1:=by kernel_rfl
    rw[ae] at this;simpa using this
   have l9:i.bytes<=1000:=by
    have:(Tryz.prog.info? 9).map (λi=>Nat.ble i.bytes 1000)=some true:=by kernel_rfl
    rw[ae] at this;exact Nat.le_of_ble_eq_true (by simpa using this)
   obtain⟨z,aT⟩:=Option.isSome_iff_exists.1 (show(dN Tryz.prog 9).isSome=true by kernel_rfl)
   have hO:z.cells.length=1:=by
    have:(dN Tryz.prog 9).map (λz=>z.cells.length)=some 1:=by kernel_rfl
    rw[aT] at this;simpa using this
   have ap:=I8 (U:=48) (E:=9) (a:=h.n) (by kernel_rfl) (by kernel_rfl) ae br l9 aT hO fM a6 hlen ag (by rw[cR];exact eZ rfl)
   refine Sh m b off vs.length aE h (R:=λx=>∃b ak,x=.ret (.slice b 0 vs.length (.aN 1)) ak/\B<=b/\b<ak.n/\gM ak b 9 vs/\Ext B h ak) ?_
   rw[<-cR]
   exact⟨_,_,ap,_,_,rfl,by omega,by simp,eZ rfl,dG.trans (Nat.le_refl _) (Ext.push (Nat.le_trans bM dG.n) _)⟩
theorem SK(m:Nat){B b K f:Nat}{h:J}{vs:List I}(aF:List I)(q:Nat->Nat->Bool)(hlen:vs.length<=90000)(lG:B<=b)(dj:1<=K)(SL:K<vs.length)(gu:h9 aF=true)(eK:∀i (ae:i<vs.length),I.sound vs[i]=true)(hS:∀i (ae:i<vs.length),∃z:List UInt8,vs[i]=(.str z))(hf:∀i j (ae:i<vs.length) (aD:j<vs.length) x,Ext B h x->bD x.n x (.bool (q i j)) (Y m (.fn f) (vs[i]::vs[j]::aF) x))
  {g:J}(af:b<g.n)(a2:gM g b 9 vs)(ab:Ext B h g){Γ:Env}(cG:cl [(0,.slice b 0 vs.length (.aN 1)),(1,.fn f [] aF),(5,.int .i64 (Int.ofNat K)),(6,.slice b (0+K*1) (vs.length-K) (.aN 1)),(7,.int .i64 (Int.ofNat 1))] Γ):
  bm Tryz.prog Tryz.f121 (Y m) [1,1,0,1,0,0,1,0,0,1,0,1,0,1,0] ⟨Γ,[],.none,g⟩ (λcE cF=>∃(bF:Nat) (au:J) (bV:Env),cE=.exit 2/\cF=⟨bV,[],.none,au⟩/\cl [(0,.slice b 0 vs.length (.aN 1)),(5,.int .i64 (Int.ofNat bF))] bV/\K<=bF/\bF<vs.length/\b<au.n/\Ext B h au/\∃L,gM au b 9 L/\L.length=vs.length):=by
 refine bm.loop (by kernel_rfl) (λt st=>∃j k L x Γ,st=⟨Γ,[],.none,x⟩/\cl [(0,.slice b 0 vs.length (.aN 1)),(1,.fn f [] aF),(5,.int .i64 (Int.ofNat k)),(6,.slice b (0+K*1) (vs.length-K) (.aN 1)),(7,.int .i64 (Int.ofNat j))] Γ/\(vs.length-K)-j=t/\1<=j/\j<=vs.length-K/\K<=k/\k+1<=K+j/\b<x.n/\gM x b 9 L/\L.length=vs.length/\wS L vs/\Ext B h x) ?_ (vs.length-K-1) _ (by omega) ⟨1,K,vs,g,Γ,rfl,cG,by omega,by omega,by omega,by omega,by omega,af,a2,rfl,λi ae=>⟨i,ae,rfl⟩,ab⟩
 rintro t st ⟨j,k,L,x,Γ,rfl,cG,aQ,aD,AI,aq,BA,wT,pt,mm,lH,jx⟩
 refine bm.pre (Sg (Y m) b _ k f (0+K*1) _ j aF x ⟨λaa=>?_,λaa=>?_⟩) cG rfl rfl rfl
 · have ai:=jx.hC (k:=12)
   have kh:gM (x.room 12) b 9 L:=pt
   have i1:K+j<L.length:=by omega
   have i2:K+j-1<L.length:=by omega
   obtain⟨s,hs,es⟩:=lH (K+j) i1
   obtain⟨bo,c8,qa⟩:=lH (K+j-1) i2
   obtain⟨al,c1,bb⟩:=hf s bo hs c8 _ ai
   have fG:=ai.trans (Nat.le_refl _) (bb.le (show B<=(x.room 12).n by simp;omega))
   have nd:b<(x.room 12).n:=by simp;omega
   have lI:gM al b 9 L:=(bb.get b nd).trans kh
   have pv:b<al.n:=Nat.lt_of_lt_of_le nd bb.n
   obtain⟨z,aT⟩:=hS s hs
   refine⟨aa,_,(kh.oi i1 (by omega)).trans (by rw[es]),⟨by omega,by omega⟩,by omega,_,(kh.oi i2 (by omega)).trans (by rw[qa]),_,al,c1,kY gu,eK s hs,eK bo c8,λag=>?_,λag=>?_⟩
   · exact⟨by omega,_,(by show _<t;omega),j+1,k,L,al,_,rfl,⟨rfl,rfl,rfl,rfl,rfl,trivial⟩,rfl,by omega,by omega,by omega,by omega,pv,lI,mm,lH,fG⟩
   · have b5:aw.storeCells al b (0+k*1) [(.str z)]=some (al.set b (some (.cells (L.set k (.str z)) 9 .aN 0 0))):=
       ia lI (wq _ _) (by rw[show 0+k*1=k by omega];exact IW _ rfl L k (by omega))
     refine⟨aa,z,(lI.oi i1 (by omega)).trans (by rw[es,aT]),by omega,_,b5,by omega,by omega,_,(by show _<t;omega),j+1,k+1,L.set k (.str z),_,_,rfl,⟨rfl,rfl,rfl,rfl,rfl,trivial⟩,rfl,by omega,by omega,by omega,by omega,by simp;omega,h_ rfl,by simpa using mm,?_,Ext.gK lG fG⟩
     rw[<-aT]
     exact lH.set k hs
 · exact⟨k,x,_,rfl,rfl,⟨rfl,rfl,trivial⟩,aq,by omega,wT,jx,L,pt,mm⟩
theorem SM(m:Nat){B b f:Nat}{h:J}{vs:List I}(aF:List I)(q:Nat->Nat->Bool)(hlen:vs.length<=90000)(lG:B<=b)(gu:h9 aF=true)(eK:∀i (ae:i<vs.length),I.sound vs[i]=true)(hS:∀i (ae:i<vs.length),∃z:List UInt8,vs[i]=(.str z))(hf:∀i j (ae:i<vs.length) (aD:j<vs.length) x,Ext B h x->bD x.n x (.bool (q i j)) (Y m (.fn f) (vs[i]::vs[j]::aF) x))
  (af:b<h.n)(a2:gM h b 9 vs):
  ∃w g k,Y (m+1) (.fn 121) [.slice b 0 vs.length (.aN 1),.fn f [] aF] h=.ret w g/\cb Tryz.prog g 48 w=some (.int .i64 (Int.ofNat k))/\(!(List.range vs.length).any (λi=>decide (0<i)&&q i (i-1)))=decide (k=vs.length)/\Ext B h g:=by
 refine IU m (.slice b 0 vs.length (.aN 1)) f aF h (R:=λx=>∃w g k,x=.ret w g/\cb Tryz.prog g 48 w=some (.int .i64 (Int.ofNat k))/\(!(List.range vs.length).any (λi=>decide (0<i)&&q i (i-1)))=decide (k=vs.length)/\Ext B h g) ⟨vs.length,by rfl,λad=>?_,λad=>?_⟩
 · refine⟨_,h,vs.length,rfl,by rfl,?_,Ext.refl _ _⟩
   rw[qR (λj aD=>by simp[show¬0<j by omega])];simp
 · replace ad:=IZ ad
   refine bm.loop (by kernel_rfl) (λt st=>∃k x Γ,st=⟨Γ,[],.none,x⟩/\cl [(0,.slice b 0 vs.length (.aN 1)),(1,.fn f [] aF),(5,.int .i64 (Int.ofNat k))] Γ/\vs.length-k=t/\1<=k/\k<=vs.length/\b<x.n/\gM x b 9 vs/\Ext B h x/\∀j,0<j->j<k->q j (j-1)=false) ?_ (vs.length-1) _ (by omega) ⟨1,h,_,rfl,⟨rfl,rfl,rfl,trivial⟩,by omega,by omega,by omega,af,a2,Ext.refl _ _,λj aD lX=>by omega⟩
   rintro t st ⟨k,x,Γ,rfl,cG,aQ,aq,sy,wT,pt,jx,bh⟩
   refine bm.pre (Sf (Y m) b _ k f aF x ⟨λaa=>?_,λaa=>?_⟩) cG rfl rfl rfl
   · have ai:=jx.hC (k:=11)
     have kh:gM (x.room 11) b 9 vs:=pt
     obtain⟨al,c1,bb⟩:=hf k (k-1) aa (by omega) _ ai
     have fG:=ai.trans (Nat.le_refl _) (bb.le (show B<=(x.room 11).n by simp;omega))
     have nd:b<(x.room 11).n:=by simp;omega
     have lI:gM al b 9 vs:=(bb.get b nd).trans kh
     have pv:b<al.n:=Nat.lt_of_lt_of_le nd bb.n
     refine⟨aa,_,kh.oi aa (by omega),⟨by omega,by omega⟩,by omega,_,kh.oi (by omega) (by omega),_,al,c1,kY gu,eK k aa,eK (k-1) (by omega),λag=>?_,λag=>?_⟩
     · have s2:eu Tryz.prog al 48 (.slice b 0 vs.length (.aN 1)) (some (.int .i64 (Int.ofNat k))) none none=some (.slice b (0+k*1) (vs.length-k) (.aN 1)):=zE (E:=9) (by kernel_rfl) (by kernel_rfl) (by omega) aa
       refine⟨_,_,_,_,s2,?_⟩
       refine bm.mono (SK m aF q hlen lG aq aa gu eK hS hf pv lI fG ⟨rfl,rfl,rfl,rfl,rfl,trivial⟩) ?_
       rintro cE cF ⟨bF,au,bV,rfl,rfl,Dm,vI,Dn,dw,zF,L,mm,Dp⟩
       refine⟨_,_,_,_,bF,au,bV,rfl,rfl,Dm,_,_,_,_,zE (E:=9) (by kernel_rfl) (by kernel_rfl) (by omega) Dn,?_⟩
       obtain⟨z,aT⟩:=Option.isSome_iff_exists.1 (show(dN Tryz.prog 9).isSome=true by kernel_rfl)
       have hO:z.cells.length=1/\z.cells.all I.bC=true:=by
        have aa:(dN Tryz.prog 9).map (λz=>z.cells.length)=some 1:=by kernel_rfl
        have ad:(dN Tryz.prog 9).map (λz=>z.cells.all I.bC)=some true:=by kernel_rfl
        rw[aT] at aa ad;exact⟨by simpa using aa,by simpa using ad⟩
       have sR:∀n,(ej n z.cells).length=n/\(ej n z.cells).all I.bC=true:=by
        intro n
        induction n with
        |zero=>exact⟨rfl,rfl⟩
        |succ n bg=>simp only[ej,List.length_append,List.all_append,bg.1,bg.2,hO.1,hO.2];exact⟨by omega,rfl⟩
       obtain⟨qS,dy,dq⟩:=IX (ej (vs.length-bF) z.cells) (sR _).2 L (0+bF*1) (by rw[(sR _).1,Dp];omega)
       have b5:aw.storeCells au b (0+bF*1) (ej (vs.length-bF) z.cells)=some (au.set b (some (.cells qS 9 .aN 0 0))):=ia mm (wq _ _) dy
       have fj:nz Tryz.prog au 48 (.slice b (0+bF*1) (vs.length-bF) (.aN 1))=some (.aK [],au.set b (some (.cells qS 9 .aN 0 0))):=by
        have hu:Tryz.prog.underlying 48=some (.slice 9):=by kernel_rfl
        simp only[nz,hu,aT,b5]
        rw[if_neg (by omega)]
       refine⟨_,fj,_,I0 (E:=9) (by kernel_rfl) (by kernel_rfl) (by omega),.inr ⟨_,_,_,rfl,rfl,⟨rfl,trivial⟩,_,_,bF,rfl,by rfl,?_,Ext.gK lG zF⟩⟩
       rw[uC aa (by rw[ag];simp;omega)]
       simp;omega
     · exact⟨by omega,_,(by show _<t;omega),k+1,al,_,rfl,⟨rfl,rfl,rfl,trivial⟩,rfl,by omega,by omega,pv,lI,fG,λj aD lX=>by
        by_cases e:j=k
        · rw[e];exact ag
        · exact bh j aD (by omega)⟩
   · refine .inl ⟨_,x,_,rfl,rfl,⟨rfl,trivial⟩,_,_,vs.length,rfl,by rfl,?_,jx⟩
     rw[qR (λj aD=>?_)]
     · simp
     · by_cases e:0<j
       · rw[bh j e (by omega),Bool.and_false]
       · simp[e]
theorem SN(m:Nat){B:Nat}{h:J}{v:I}{vs:List I}(f:Nat)(aF:List I)(w:Nat->aJ)(bM:B<=h.n)(aB:dZ B h v vs)(hlen:vs.length<=90000)(gu:h9 aF=true)(eK:∀i (ae:i<vs.length),I.sound vs[i]=true)(hS:∀i (ae:i<vs.length),∃z:List UInt8,vs[i]=(.str z))(lH:∀i (ae:i<vs.length) x,Ext B h x->bD x.n x (.str (w i)) (Y m (.fn f) (vs[i]::aF) x)):
  bD B h (.bool (oj w vs.length)) (Y (m+3) (.fn 108) [v,.fn f [] aF] h):=by
 refine Sj (m+2) v f aF h ?_
 obtain⟨H,cR⟩:∃H,H=h.push (.cells [.fn f [] aF] 150 .own 0 0):=⟨_,rfl⟩
 rw[<-cR]
 have dG:Ext B h H:=by rw[cR];exact Ext.push bM _
 have ml:H.n=h.n+1:=by rw[cR];rfl
 have mn:B<=H.n:=Nat.le_trans bM dG.n
 have j1:H.get h.n=some (.cells [.fn f [] aF] 150 .own 0 0):=by rw[cR];exact eZ rfl
 have mo:∀i (ae:i<vs.length) x,Ext H.n H x->∃g,Y m (.fn f) (vs[i]::aF) x=.ret (.str (w i)) g/\Ext x.n x g:=λi ae x ab=>lH i ae x (dG.trans mn ab)
 have sS:dZ H.n H v vs:=(aB.bZ (ey.ext dG (Nat.le_refl _))).le (Nat.le_trans bM dG.n)
 have ei:∀x,Ext H.n H x->ay x h.n 0=some (.fn f [] aF):=λx ab=>ba ((ab.get h.n (by omega)).trans j1) rfl
 obtain⟨g,c1,bb⟩:=SH (m+1) (B:=H.n) (h:=H) (v:=v) (vs:=vs) 120 [.ptr h.n 0] (λi j=>eA (w i) (w j)) sS hlen rfl eK (λi j ae aD x ab=>by
  have ai:Ext H.n H (x.room 7):=ab.hC
  obtain⟨al,c1,bb⟩:=mo i ae _ ai
  have gx:Ext H.n H al:=ai.trans ai.n bb
  obtain⟨au,c2,bz⟩:=mo j aD _ gx
  refine Sd m vs[i] vs[j] h.n f aF x ⟨ei _ ai,_,al,c1,ei _ gx,_,au,c2,kY gu,eK i ae,kY gu,ei _ ai,eK j aD,λag=>?_,λag=>?_⟩
  · exact bD.of (by rw[ag];rfl) ((gx.trans gx.n bz).le (Nat.le_refl _)|> λe=>by have dt:Ext H.n x au:=⟨by have a:=bb.n;have b:=bz.n;simp at a;omega,λb af=>by rw[(gx.trans gx.n bz).get b af,ab.get b af]⟩;exact dt)
  · exact bD.of (by rw[ag];rfl) ((gx.trans gx.n bz).le (Nat.le_refl _)|> λe=>by have dt:Ext H.n x au:=⟨by have a:=bb.n;have b:=bz.n;simp at a;omega,λb af=>by rw[(gx.trans gx.n bz).get b af,ab.get b af]⟩;exact dt))
 have eh:Ext B h g:=dG.trans mn bb
 refine⟨rfl,_,g,c1,λhs=>?_,λhs=>?_⟩
 · have pW:vs.all I.bC=true:=by
     rw[List.all_eq_true]
     intro x ab
     obtain⟨i,ae,rfl⟩:=List.getElem_of_mem ab
     obtain⟨z,aT⟩:=hS i ae
     rw[aT];rfl
   have Dq:dZ H.n g v vs:=sS.bZ (ey.ext bb (Nat.le_refl _))
   have fin:∀v2 au b,Y (m+2) (.fn 122) [v] g=.ret v2 au->v2=.slice b 0 vs.length (.aN 1)->H.n<=b->b<au.n->gM au b 9 vs->Ext H.n g au->∃(v2:I) (au:J),Y (m+2) (.fn 122) [v] g=.ret v2 au/\∃(w':I) (a7:J),Y (m+2) (.fn 121) [v2,.fn 123 [] [.ptr h.n 0]] au=.ret w' a7/\∃(k:Nat),cb Tryz.prog a7 48 w'=some (.int .i64 (Int.ofNat k))/\∃(n:Nat),cb Tryz.prog a7 48 v=some (.int .i64 (Int.ofNat n))/\bD B h (.bool (oj w vs.length)) (.ret (.bool (cU (Int.ofNat k) (Int.ofNat n))) a7):=by
    intro v2 au b c2 ax af dw a2 bz
    subst ax
    have om:Ext H.n H au:=bb.trans (Nat.le_refl _) bz
    obtain⟨w',a7,k,c3,eI,bp,cP⟩:=SM (m+1) (B:=H.n) (h:=au) (vs:=vs) (f:=123) [.ptr h.n 0] (λi j=>bR (w i) (w j)) hlen af rfl eK hS (λi j ae aD x ab=>by
     have jx:Ext H.n H x:=om.trans (Nat.le_refl _) ab
     have ai:Ext H.n H (x.room 8):=jx.hC
     obtain⟨al,c1,fl⟩:=mo i ae _ ai
     have gx:Ext H.n H al:=ai.trans ai.n fl
     obtain⟨au,c2,eE⟩:=mo j aD _ gx
     refine Se m vs[i] vs[j] h.n f aF x ⟨ei _ ai,_,al,c1,ei _ gx,_,au,c2,kY gu,eK i ae,kY gu,ei _ ai,eK j aD,bD.of rfl ?_⟩
     refine⟨by have a:=fl.n;have b:=eE.n;simp at a;omega,λb af=>?_⟩
     have a:=fl.n
     simp at a
     rw[eE.get b (by omega),fl.get b (by simp;omega)];rfl) dw a2
    have pw:Ext H.n H a7:=om.trans (Nat.le_refl _) cP
    have Dr:dZ H.n a7 v vs:=sS.bZ (ey.ext pw (Nat.le_refl _))
    refine⟨_,au,c2,w',a7,c3,k,eI,vs.length,Dr.len (t:=48) (e:=9) (by kernel_rfl),bD.of (dM ?_) (dG.trans mn pw)⟩
    rw[I7 bp]
    exact I5 w vs.length hs
   rcases SJ (m+1) (B:=H.n) (h:=g) bb.n Dq hlen pW with⟨rfl,rfl,c2⟩|⟨a6,b,au,c2,af,dw,a2,bz⟩
   · refine⟨.a0,g,c2,.a0,g,?_,0,by rfl,0,by rfl,bD.of (dM rfl) eh⟩
     exact IU (m+1) .a0 _ _ g (R:=λx=>x=.ret .a0 g) ⟨0,by rfl,λ_=>rfl,λaG=>absurd (by omega) aG⟩
   · exact fin _ au b c2 rfl af dw a2 bz
 · refine bD.of (dM ?_) eh
   exact I6 w vs.length hs
theorem SO(m:Nat){B:Nat}{h:J}{v:I}{vs:List I}(bM:B<=h.n)(aB:dZ B h v vs)(hlen:vs.length<=90000)(ag:vs.all I.bC=true):(v=.a0/\vs=[]/\Y (m+1) (.fn 127) [v] h=.ret .a0 h)\/(0<vs.length/\∃b ak,Y (m+1) (.fn 127) [v] h=.ret (.slice b 0 vs.length (.aN 1)) ak/\B<=b/\b<ak.n/\gM ak b 47 vs/\Ext B h ak):=by
 rcases aB with⟨rfl,rfl⟩|⟨b,off,aE,rfl,af,an,a6,az⟩
 · exact .inl ⟨rfl,rfl,Sx m h (R:=λx=>x=.ret .a0 h) rfl⟩
 · right
   refine⟨a6,?_⟩
   obtain⟨H,cR⟩:∃H,H=h.push (.cells [] 47 .own 0 0):=⟨_,rfl⟩
   have dG:Ext B h H:=by rw[cR];exact Ext.push bM _
   have ml:H.n=h.n+1:=by rw[cR];rfl
   have fM:=dZ.src (B:=B) (h:=H) (λi ae=>gv dG af (an i ae)) a6 az
   obtain⟨i,ae⟩:=Option.isSome_iff_exists.1 (show(Tryz.prog.info? 47).isSome=true by kernel_rfl)
   have br:i.size=1:=by
    have:(Tryz.prog.info? 47).map (·.size)=some 1:=by kernel_rfl
    rw[ae] at this;simpa using this
   have l9:i.bytes<=1000:=by
    have:(Tryz.prog.info? 47).map (λi=>Nat.ble i.bytes 1000)=some true:=by kernel_rfl
    rw[ae] at this;exact Nat.le_of_ble_eq_true (by simpa using this)
   obtain⟨z,aT⟩:=Option.isSome_iff_exists.1 (show(dN Tryz.prog 47).isSome=true by kernel_rfl)
   have hO:z.cells.length=1:=by
    have:(dN Tryz.prog 47).map (λz=>z.cells.length)=some 1:=by kernel_rfl
    rw[aT] at this;simpa using this
   have ap:=I8 (U:=49) (E:=47) (a:=h.n) (by kernel_rfl) (by kernel_rfl) ae br l9 aT hO fM a6 hlen ag (by rw[cR];exact eZ rfl)
   refine Sw m b off vs.length aE h (R:=λx=>∃b ak,x=.ret (.slice b 0 vs.length (.aN 1)) ak/\B<=b/\b<ak.n/\gM ak b 47 vs/\Ext B h ak) ?_
   rw[<-cR]
   exact⟨_,_,ap,_,_,rfl,by omega,by simp,eZ rfl,dG.trans (Nat.le_refl _) (Ext.push (Nat.le_trans bM dG.n) _)⟩
theorem SP(m:Nat){B b K f:Nat}{h:J}{vs:List I}(aF:List I)(q:Nat->Nat->Bool)(hlen:vs.length<=90000)(lG:B<=b)(dj:1<=K)(SL:K<vs.length)(gu:h9 aF=true)(eK:∀i (ae:i<vs.length),I.sound vs[i]=true)(hS:∀i (ae:i<vs.length),∃z:Nat,vs[i]=(.ptr z 0))(hf:∀i j (ae:i<vs.length) (aD:j<vs.length) x,Ext B h x->bD x.n x (.bool (q i j)) (Y m (.fn f) (vs[i]::vs[j]::aF) x))
  {g:J}(af:b<g.n)(a2:gM g b 47 vs)(ab:Ext B h g){Γ:Env}(cG:cl [(0,.slice b 0 vs.length (.aN 1)),(1,.fn f [] aF),(5,.int .i64 (Int.ofNat K)),(6,.slice b (0+K*1) (vs.length-K) (.aN 1)),(7,.int .i64 (Int.ofNat 1))] Γ):
  bm Tryz.prog Tryz.f126 (Y m) [1,1,0,1,0,0,1,0,0,1,0,1,0,1,0] ⟨Γ,[],.none,g⟩ (λcE cF=>∃(bF:Nat) (au:J) (bV:Env),cE=.exit 2/\cF=⟨bV,[],.none,au⟩/\cl [(0,.slice b 0 vs.length (.aN 1)),(5,.int .i64 (Int.ofNat bF))] bV/\K<=bF/\bF<vs.length/\b<au.n/\Ext B h au/\∃L,gM au b 47 L/\L.length=vs.length):=by
 refine bm.loop (by kernel_rfl) (λt st=>∃j k L x Γ,st=⟨Γ,[],.none,x⟩/\cl [(0,.slice b 0 vs.length (.aN 1)),(1,.fn f [] aF),(5,.int .i64 (Int.ofNat k)),(6,.slice b (0+K*1) (vs.length-K) (.aN 1)),(7,.int .i64 (Int.ofNat j))] Γ/\(vs.length-K)-j=t/\1<=j/\j<=vs.length-K/\K<=k/\k+1<=K+j/\b<x.n/\gM x b 47 L/\L.length=vs.length/\wS L vs/\Ext B h x) ?_ (vs.length-K-1) _ (by omega) ⟨1,K,vs,g,Γ,rfl,cG,by omega,by omega,by omega,by omega,by omega,af,a2,rfl,λi ae=>⟨i,ae,rfl⟩,ab⟩
 rintro t st ⟨j,k,L,x,Γ,rfl,cG,aQ,aD,AI,aq,BA,wT,pt,mm,lH,jx⟩
 refine bm.pre (Sv (Y m) b _ k f (0+K*1) _ j aF x ⟨λaa=>?_,λaa=>?_⟩) cG rfl rfl rfl
 · have ai:=jx.hC (k:=12)
   have kh:gM (x.room 12) b 47 L:=pt
   have i1:K+j<L.length:=by omega
   have i2:K+j-1<L.length:=by omega
   obtain⟨s,hs,es⟩:=lH (K+j) i1
   obtain⟨bo,c8,qa⟩:=lH (K+j-1) i2
   obtain⟨al,c1,bb⟩:=hf s bo hs c8 _ ai
   have fG:=ai.trans (Nat.le_refl _) (bb.le (show B<=(x.room 12).n by simp;omega))
   have nd:b<(x.room 12).n:=by simp;omega
   have lI:gM al b 47 L:=(bb.get b nd).trans kh
   have pv:b<al.n:=Nat.lt_of_lt_of_le nd bb.n
   obtain⟨z,aT⟩:=hS s hs
   refine⟨aa,_,(kh.oi i1 (by omega)).trans (by rw[es]),⟨by omega,by omega⟩,by omega,_,(kh.oi i2 (by omega)).trans (by rw[qa]),_,al,c1,kY gu,eK s hs,eK bo c8,λag=>?_,λag=>?_⟩
   · exact⟨by omega,_,(by show _<t;omega),j+1,k,L,al,_,rfl,⟨rfl,rfl,rfl,rfl,rfl,trivial⟩,rfl,by omega,by omega,by omega,by omega,pv,lI,mm,lH,fG⟩
   · have b5:aw.storeCells al b (0+k*1) [(.ptr z 0)]=some (al.set b (some (.cells (L.set k (.ptr z 0)) 47 .aN 0 0))):=
       ia lI (wq _ _) (by rw[show 0+k*1=k by omega];exact IW _ rfl L k (by omega))
     refine⟨aa,z,(lI.oi i1 (by omega)).trans (by rw[es,aT]),by omega,_,b5,by omega,by omega,_,(by show _<t;omega),j+1,k+1,L.set k (.ptr z 0),_,_,rfl,⟨rfl,rfl,rfl,rfl,rfl,trivial⟩,rfl,by omega,by omega,by omega,by omega,by simp;omega,h_ rfl,by simpa using mm,?_,Ext.gK lG fG⟩
     rw[<-aT]
     exact lH.set k hs
 · exact⟨k,x,_,rfl,rfl,⟨rfl,rfl,trivial⟩,aq,by omega,wT,jx,L,pt,mm⟩
theorem SQ(m:Nat){B b f:Nat}{h:J}{vs:List I}(aF:List I)(q:Nat->Nat->Bool)(hlen:vs.length<=90000)(lG:B<=b)(gu:h9 aF=true)(eK:∀i (ae:i<vs.length),I.sound vs[i]=true)(hS:∀i (ae:i<vs.length),∃z:Nat,vs[i]=(.ptr z 0))(hf:∀i j (ae:i<vs.length) (aD:j<vs.length) x,Ext B h x->bD x.n x (.bool (q i j)) (Y m (.fn f) (vs[i]::vs[j]::aF) x))
  (af:b<h.n)(a2:gM h b 47 vs):
  ∃w g k,Y (m+1) (.fn 126) [.slice b 0 vs.length (.aN 1),.fn f [] aF] h=.ret w g/\cb Tryz.prog g 49 w=some (.int .i64 (Int.ofNat k))/\(!(List.range vs.length).any (λi=>decide (0<i)&&q i (i-1)))=decide (k=vs.length)/\Ext B h g:=by
 refine IV m (.slice b 0 vs.length (.aN 1)) f aF h (R:=λx=>∃w g k,x=.ret w g/\cb Tryz.prog g 49 w=some (.int .i64 (Int.ofNat k))/\(!(List.range vs.length).any (λi=>decide (0<i)&&q i (i-1)))=decide (k=vs.length)/\Ext B h g) ⟨vs.length,by rfl,λad=>?_,λad=>?_⟩
 · refine⟨_,h,vs.length,rfl,by rfl,?_,Ext.refl _ _⟩
   rw[qR (λj aD=>by simp[show¬0<j by omega])];simp
 · replace ad:=IZ ad
   refine bm.loop (by kernel_rfl) (λt st=>∃k x Γ,st=⟨Γ,[],.none,x⟩/\cl [(0,.slice b 0 vs.length (.aN 1)),(1,.fn f [] aF),(5,.int .i64 (Int.ofNat k))] Γ/\vs.length-k=t/\1<=k/\k<=vs.length/\b<x.n/\gM x b 47 vs/\Ext B h x/\∀j,0<j->j<k->q j (j-1)=false) ?_ (vs.length-1) _ (by omega) ⟨1,h,_,rfl,⟨rfl,rfl,rfl,trivial⟩,by omega,by omega,by omega,af,a2,Ext.refl _ _,λj aD lX=>by omega⟩
   rintro t st ⟨k,x,Γ,rfl,cG,aQ,aq,sy,wT,pt,jx,bh⟩
   refine bm.pre (Su (Y m) b _ k f aF x ⟨λaa=>?_,λaa=>?_⟩) cG rfl rfl rfl
   · have ai:=jx.hC (k:=11)
     have kh:gM (x.room 11) b 47 vs:=pt
     obtain⟨al,c1,bb⟩:=hf k (k-1) aa (by omega) _ ai
     have fG:=ai.trans (Nat.le_refl _) (bb.le (show B<=(x.room 11).n by simp;omega))
     have nd:b<(x.room 11).n:=by simp;omega
     have lI:gM al b 47 vs:=(bb.get b nd).trans kh
     have pv:b<al.n:=Nat.lt_of_lt_of_le nd bb.n
     refine⟨aa,_,kh.oi aa (by omega),⟨by omega,by omega⟩,by omega,_,kh.oi (by omega) (by omega),_,al,c1,kY gu,eK k aa,eK (k-1) (by omega),λag=>?_,λag=>?_⟩
     · have s2:eu Tryz.prog al 49 (.slice b 0 vs.length (.aN 1)) (some (.int .i64 (Int.ofNat k))) none none=some (.slice b (0+k*1) (vs.length-k) (.aN 1)):=zE (E:=47) (by kernel_rfl) (by kernel_rfl) (by omega) aa
       refine⟨_,_,_,_,s2,?_⟩
       refine bm.mono (SP m aF q hlen lG aq aa gu eK hS hf pv lI fG ⟨rfl,rfl,rfl,rfl,rfl,trivial⟩) ?_
       rintro cE cF ⟨bF,au,bV,rfl,rfl,Dm,vI,Dn,dw,zF,L,mm,Dp⟩
       refine⟨_,_,_,_,bF,au,bV,rfl,rfl,Dm,_,_,_,_,zE (E:=47) (by kernel_rfl) (by kernel_rfl) (by omega) Dn,?_⟩
       obtain⟨z,aT⟩:=Option.isSome_iff_exists.1 (show(dN Tryz.prog 47).isSome=true by kernel_rfl)
       have hO:z.cells.length=1/\z.cells.all I.bC=true:=by
        have aa:(dN Tryz.prog 47).map (λz=>z.cells.length)=some 1:=by kernel_rfl
        have ad:(dN Tryz.prog 47).map (λz=>z.cells.all I.bC)=some true:=by kernel_rfl
        rw[aT] at aa ad;exact⟨by simpa using aa,by simpa using ad⟩
       have sR:∀n,(ej n z.cells).length=n/\(ej n z.cells).all I.bC=true:=by
        intro n
        induction n with
        |zero=>exact⟨rfl,rfl⟩
        |succ n bg=>simp only[ej,List.length_append,List.all_append,bg.1,bg.2,hO.1,hO.2];exact⟨by omega,rfl⟩
       obtain⟨qS,dy,dq⟩:=IX (ej (vs.length-bF) z.cells) (sR _).2 L (0+bF*1) (by rw[(sR _).1,Dp];omega)
       have b5:aw.storeCells au b (0+bF*1) (ej (vs.length-bF) z.cells)=some (au.set b (some (.cells qS 47 .aN 0 0))):=ia mm (wq _ _) dy
       have fj:nz Tryz.prog au 49 (.slice b (0+bF*1) (vs.length-bF) (.aN 1))=some (.aK [],au.set b (some (.cells qS 47 .aN 0 0))):=by
        have hu:Tryz.prog.underlying 49=some (.slice 47):=by kernel_rfl
        simp only[nz,hu,aT,b5]
        rw[if_neg (by omega)]
       refine⟨_,fj,_,I0 (E:=47) (by kernel_rfl) (by kernel_rfl) (by omega),.inr ⟨_,_,_,rfl,rfl,⟨rfl,trivial⟩,_,_,bF,rfl,by rfl,?_,Ext.gK lG zF⟩⟩
       rw[uC aa (by rw[ag];simp;omega)]
       simp;omega
     · exact⟨by omega,_,(by show _<t;omega),k+1,al,_,rfl,⟨rfl,rfl,rfl,trivial⟩,rfl,by omega,by omega,pv,lI,fG,λj aD lX=>by
        by_cases e:j=k
        · rw[e];exact ag
        · exact bh j aD (by omega)⟩
   · refine .inl ⟨_,x,_,rfl,rfl,⟨rfl,trivial⟩,_,_,vs.length,rfl,by rfl,?_,jx⟩
     rw[qR (λj aD=>?_)]
     · simp
     · by_cases e:0<j
       · rw[bh j e (by omega),Bool.and_false]
       · simp[e]
theorem SR(m:Nat){B:Nat}{h:J}{v:I}{vs:List I}(f:Nat)(aF:List I)(w:Nat->aJ)(bM:B<=h.n)(aB:dZ B h v vs)(hlen:vs.length<=90000)(gu:h9 aF=true)(eK:∀i (ae:i<vs.length),I.sound vs[i]=true)(hS:∀i (ae:i<vs.length),∃z:Nat,vs[i]=(.ptr z 0))(lH:∀i (ae:i<vs.length) x,Ext B h x->bD x.n x (.str (w i)) (Y m (.fn f) (vs[i]::aF) x)):
  bD B h (.bool (oj w vs.length)) (Y (m+3) (.fn 111) [v,.fn f [] aF] h):=by
 refine Sy (m+2) v f aF h ?_
 obtain⟨H,cR⟩:∃H,H=h.push (.cells [.fn f [] aF] 145 .own 0 0):=⟨_,rfl⟩
 rw[<-cR]
 have dG:Ext B h H:=by rw[cR];exact Ext.push bM _
 have ml:H.n=h.n+1:=by rw[cR];rfl
 have mn:B<=H.n:=Nat.le_trans bM dG.n
 have j1:H.get h.n=some (.cells [.fn f [] aF] 145 .own 0 0):=by rw[cR];exact eZ rfl
 have mo:∀i (ae:i<vs.length) x,Ext H.n H x->∃g,Y m (.fn f) (vs[i]::aF) x=.ret (.str (w i)) g/\Ext x.n x g:=λi ae x ab=>lH i ae x (dG.trans mn ab)
 have sS:dZ H.n H v vs:=(aB.bZ (ey.ext dG (Nat.le_refl _))).le (Nat.le_trans bM dG.n)
 have ei:∀x,Ext H.n H x->ay x h.n 0=some (.fn f [] aF):=λx ab=>ba ((ab.get h.n (by omega)).trans j1) rfl
 obtain⟨g,c1,bb⟩:=SI (m+1) (B:=H.n) (h:=H) (v:=v) (vs:=vs) 125 [.ptr h.n 0] (λi j=>eA (w i) (w j)) sS hlen rfl eK (λi j ae aD x ab=>by
  have ai:Ext H.n H (x.room 7):=ab.hC
  obtain⟨al,c1,bb⟩:=mo i ae _ ai
  have gx:Ext H.n H al:=ai.trans ai.n bb
  obtain⟨au,c2,bz⟩:=mo j aD _ gx
  refine Ss m vs[i] vs[j] h.n f aF x ⟨ei _ ai,_,al,c1,ei _ gx,_,au,c2,kY gu,eK i ae,kY gu,ei _ ai,eK j aD,λag=>?_,λag=>?_⟩
  · exact bD.of (by rw[ag];rfl) ((gx.trans gx.n bz).le (Nat.le_refl _)|> λe=>by have dt:Ext H.n x au:=⟨by have a:=bb.n;have b:=bz.n;simp at a;omega,λb af=>by rw[(gx.trans gx.n bz).get b af,ab.get b af]⟩;exact dt)
  · exact bD.of (by rw[ag];rfl) ((gx.trans gx.n bz).le (Nat.le_refl _)|> λe=>by have dt:Ext H.n x au:=⟨by have a:=bb.n;have b:=bz.n;simp at a;omega,λb af=>by rw[(gx.trans gx.n bz).get b af,ab.get b af]⟩;exact dt))
 have eh:Ext B h g:=dG.trans mn bb
 refine⟨rfl,_,g,c1,λhs=>?_,λhs=>?_⟩
 · have pW:vs.all I.bC=true:=by
     rw[List.all_eq_true]
     intro x ab
     obtain⟨i,ae,rfl⟩:=List.getElem_of_mem ab
     obtain⟨z,aT⟩:=hS i ae
     rw[aT];rfl
   have Dq:dZ H.n g v vs:=sS.bZ (ey.ext bb (Nat.le_refl _))
   have fin:∀v2 au b,Y (m+2) (.fn 127) [v] g=.ret v2 au->v2=.slice b 0 vs.length (.aN 1)->H.n<=b->b<au.n->gM au b 47 vs->Ext H.n g au->∃(v2:I) (au:J),Y (m+2) (.fn 127) [v] g=.ret v2 au/\∃(w':I) (a7:J),Y (m+2) (.fn 126) [v2,.fn 128 [] [.ptr h.n 0]] au=.ret w' a7/\∃(k:Nat),cb Tryz.prog a7 49 w'=some (.int .i64 (Int.ofNat k))/\∃(n:Nat),cb Tryz.prog a7 49 v=some (.int .i64 (Int.ofNat n))/\bD B h (.bool (oj w vs.length)) (.ret (.bool (cU (Int.ofNat k) (Int.ofNat n))) a7):=by
    intro v2 au b c2 ax af dw a2 bz
    subst ax
    have om:Ext H.n H au:=bb.trans (Nat.le_refl _) bz
    obtain⟨w',a7,k,c3,eI,bp,cP⟩:=SQ (m+1) (B:=H.n) (h:=au) (vs:=vs) (f:=128) [.ptr h.n 0] (λi j=>bR (w i) (w j)) hlen af rfl eK hS (λi j ae aD x ab=>by
     have jx:Ext H.n H x:=om.trans (Nat.le_refl _) ab
     have ai:Ext H.n H (x.room 8):=jx.hC
     obtain⟨al,c1,fl⟩:=mo i ae _ ai
     have gx:Ext H.n H al:=ai.trans ai.n fl
     obtain⟨au,c2,eE⟩:=mo j aD _ gx
     refine St m vs[i] vs[j] h.n f aF x ⟨ei _ ai,_,al,c1,ei _ gx,_,au,c2,kY gu,eK i ae,kY gu,ei _ ai,eK j aD,bD.of rfl ?_⟩
     refine⟨by have a:=fl.n;have b:=eE.n;simp at a;omega,λb af=>?_⟩
     have a:=fl.n
     simp at a
     rw[eE.get b (by omega),fl.get b (by simp;omega)];rfl) dw a2
    have pw:Ext H.n H a7:=om.trans (Nat.le_refl _) cP
    have Dr:dZ H.n a7 v vs:=sS.bZ (ey.ext pw (Nat.le_refl _))
    refine⟨_,au,c2,w',a7,c3,k,eI,vs.length,Dr.len (t:=49) (e:=47) (by kernel_rfl),bD.of (dM ?_) (dG.trans mn pw)⟩
    rw[I7 bp]
    exact I5 w vs.length hs
   rcases SO (m+1) (B:=H.n) (h:=g) bb.n Dq hlen pW with⟨rfl,rfl,c2⟩|⟨a6,b,au,c2,af,dw,a2,bz⟩
   · refine⟨.a0,g,c2,.a0,g,?_,0,by rfl,0,by rfl,bD.of (dM rfl) eh⟩
     exact IV (m+1) .a0 _ _ g (R:=λx=>x=.ret .a0 g) ⟨0,by rfl,λ_=>rfl,λaG=>absurd (by omega) aG⟩
   · exact fin _ au b c2 rfl af dw a2 bz
 · refine bD.of (dM ?_) eh
   exact I6 w vs.length hs
end Go.Proofs.b0
