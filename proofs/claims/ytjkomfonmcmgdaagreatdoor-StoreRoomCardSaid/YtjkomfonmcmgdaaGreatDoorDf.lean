/-
  PROVED HERE: contracts of functions (Df). No condition beside each statement's own.
-/
import Derived.Test.YtjkomfonmcmgdaaGreatDoorDe
import Derived.Test.YtjkomfonmcmgdaaGreatDoorTx
set_option linter.unusedVariables false
set_option linter.unusedSimpArgs false
namespace Go.Proofs.cG
open Go aP Go.Proofs c8
set_option maxRecDepth 100000
set_option maxHeartbeats 1000000
theorem Xa(m:Nat)(v:I)(f:Nat)(aU:List I)(h:J){R:av->Prop}(H:∃ep:Int,∃ai:J,(Y m) (.fn 84) [v,.fn f [] aU] h=.ret (.int .i64 ep) ai/\R (.ret (.bool (fh (.ofNat 0) ep)) ai)):
  R (Y (m+1) (.fn 65) [v,.fn f [] aU] h):=
 dI (intr:=b0) [(7,.bA (.z .i64))] [(0,.o v),(1,.o (.fn f [] aU))] Tryz.func65 (by kernel_rfl) (by kernel_rfl) (by kernel_rfl) rfl (Eq.mp (by kernel_rfl) H)
theorem Xb(m:Nat)(v:I)(f:Nat)(aU:List I)(h:J){R:av->Prop}(H:∃aD:Nat,cc Tryz.prog h 63 v=some (.int .i64 (.ofNat aD))/\a3 Tryz.prog Tryz.f84 (Y m) [1,0,1,0] (ah.mk [(0,v),(1,.fn f [] aU),(7,.int .i64 (.ofNat aD)),(8,.int .i64 (.ofNat 0))] [] .none h) (λb9 cj=>((∃ai:J,∃bz:Env,b9=.exit 0/\cj=ah.mk bz [] .none ai/\b_ [] bz/\R (.ret (.int .i64 (.negSucc 0)) ai))\/(∃bj:Nat,∃ax:J,∃bR:Env,b9=.ret/\cj=ah.mk bR [] .none ax/\b_ [(4,.int .i64 (.ofNat bj))] bR/\R (.ret (.int .i64 (.ofNat bj)) ax))))):
  R (Y (m+1) (.fn 84) [v,.fn f [] aU] h):=
 dI (intr:=b0) [(4000,.gT [0,1,7,8] [(.exit 0,[]),(.ret,[(4,.n .i64)])])] [(0,.o v),(1,.o (.fn f [] aU))] Tryz.func84 (by kernel_rfl) (by kernel_rfl) (by kernel_rfl) rfl (Eq.mp (by kernel_rfl) H)
theorem Xc(call:aI->List I->J->av)(b:Nat)(off:Nat)(N:Nat)(i:Nat)(f:Nat)(aU:List I)(cp:b3)(h:J){Q:bn->ah->Prop}(H:(i<N->i<N/\∃v1:I,au h b (off+i*1)=some v1/\∃bo:Bool,∃ai:J,call (.fn f) (v1::aU) h=.ret (.bool bo) ai/\(bo=true->Q .ret (ah.mk [(0,.slice b off N cp),(1,.fn f [] aU),(4,.int .i64 (.ofNat i)),(7,.int .i64 (.ofNat N)),(8,.int .i64 (.ofNat i))] [] .none ai))/\(bo=false->i+1<9223372036854775808/\Q .nrm (ah.mk [(0,.slice b off N cp),(1,.fn f [] aU),(7,.int .i64 (.ofNat N)),(8,.int .i64 (.ofNat (i+1)))] [] .none ai)))/\(¬i<N->Q (.exit 0) (ah.mk [(0,.slice b off N cp),(1,.fn f [] aU),(7,.int .i64 (.ofNat N)),(8,.int .i64 (.ofNat i))] [] .none h))):
  a3 Tryz.prog Tryz.f84 call [1,0,1,0,0] ⟨[(0,.slice b off N cp),(1,.fn f [] aU),(7,.int .i64 (.ofNat N)),(8,.int .i64 (.ofNat i))],[],.none,h⟩ Q:=
 dB [(15,.bA .o)] [0,1,4,7,8] [(0,.v (.slice b off N cp)),(1,.o (.fn f [] aU)),(7,.v (.int .i64 (.ofNat N))),(8,.v (.int .i64 (.ofNat i)))] rfl (Eq.mp (by kernel_rfl) H)
theorem Xd(call:aI->List I->J->av)(N:Nat)(i:Nat)(f:Nat)(aU:List I)(v:I)(h:J){Q:bn->ah->Prop}(H:¬i<N/\Q (.exit 0) (ah.mk [] [] .none h)):
  a3 Tryz.prog Tryz.f84 call [1,0,1,0,0] ⟨[(0,v),(1,.fn f [] aU),(7,.int .i64 (.ofNat N)),(8,.int .i64 (.ofNat i))],[],.none,h⟩ Q:=
 dB [(1009,.f)] [] [(0,.o v),(1,.o (.fn f [] aU)),(7,.v (.int .i64 (.ofNat N))),(8,.v (.int .i64 (.ofNat i)))] rfl (Eq.mp (by kernel_rfl) H)
theorem Xe(m:Nat)(v:I)(f:Nat)(aU:List I)(h:J){R:av->Prop}(H:∃aD:Nat,cc Tryz.prog h 63 v=some (.int .i64 (.ofNat aD))/\(1<=aD/\aD<9223372036854775808)/\a3 Tryz.prog Tryz.f86 (Y m) [1,0,1,0] (ah.mk [(0,v),(1,.fn f [] aU),(5,.int .i64 (.ofNat (aD-1)))] [] .none h) (λb9 cj=>((∃ai:J,∃bz:Env,b9=.exit 0/\cj=ah.mk bz [] .none ai/\b_ [] bz/\R (.ret (.bool true) ai))\/(∃ax:J,∃bR:Env,b9=.ret/\cj=ah.mk bR [] .none ax/\b_ [(4,.bool false)] bR/\R (.ret (.bool false) ax))))):
  R (Y (m+1) (.fn 86) [v,.fn f [] aU] h):=
 dI (intr:=b0) [(4000,.gT [0,1,5] [(.exit 0,[]),(.ret,[(4,.is (.bool false))])])] [(0,.o v),(1,.o (.fn f [] aU))] Tryz.func86 (by kernel_rfl) (by kernel_rfl) (by kernel_rfl) rfl (Eq.mp (by kernel_rfl) H)
theorem Xf(m:Nat)(v:I)(f:Nat)(aU:List I)(h:J){R:av->Prop}(H:∃aD:Nat,cc Tryz.prog h 63 v=some (.int .i64 (.ofNat aD))/\∃ep:Int,arith .sub .i64 (.ofNat aD) (.ofNat 1)=some (.int .i64 ep)/\a3 Tryz.prog Tryz.f86 (Y m) [1,0,1,0] (ah.mk [(0,v),(1,.fn f [] aU),(5,.int .i64 ep)] [] .none h) (λb9 cj=>∃ai:J,∃bz:Env,b9=.exit 0/\cj=ah.mk bz [] .none ai/\b_ [] bz/\R (.ret (.bool true) ai))):
  R (Y (m+1) (.fn 86) [v,.fn f [] aU] h):=
 dI (intr:=b0) [(8,.bA (.z .i64)),(4000,.gT [0,1,5] [(.exit 0,[])])] [(0,.o v),(1,.o (.fn f [] aU))] Tryz.func86 (by kernel_rfl) (by kernel_rfl) (by kernel_rfl) rfl (Eq.mp (by kernel_rfl) H)
theorem Xg(call:aI->List I->J->av)(b:Nat)(off:Nat)(N:Nat)(i:Nat)(f:Nat)(aU:List I)(cp:b3)(h:J){Q:bn->ah->Prop}(H:(0<i->i<N/\∃v1:I,au (h.room 12) b (off+i*1)=some v1/\(1<=i/\i<9223372036854775808)/\i-1<N/\∃v2:I,au (h.room 12) b (off+(i-1)*1)=some v2/\∃ep:Int,∃ai:J,call (.fn f) (v1::v2::aU) (h.room 12)=.ret (.int .i64 ep) ai/\I.sound (.fn f [] aU)=true/\I.sound v1=true/\I.sound v2=true/\(bM ep (.ofNat 0)=true->Q .ret (ah.mk [(0,.slice b off N cp),(1,.fn f [] aU),(4,.bool false),(5,.int .i64 (.ofNat i))] [] .none ai))/\(bM ep (.ofNat 0)=false->(1<=i/\i<9223372036854775808)/\Q .nrm (ah.mk [(0,.slice b off N cp),(1,.fn f [] aU),(5,.int .i64 (.ofNat (i-1)))] [] .none ai)))/\(¬0<i->Q (.exit 0) (ah.mk [(0,.slice b off N cp),(1,.fn f [] aU),(5,.int .i64 (.ofNat i))] [] .none h))):
  a3 Tryz.prog Tryz.f86 call [1,0,1,0,0] ⟨[(0,.slice b off N cp),(1,.fn f [] aU),(5,.int .i64 (.ofNat i))],[],.none,h⟩ Q:=
 dB [(17,.bA .o),(22,.bA .o),(23,.bA (.z .i64))] [0,1,4,5] [(0,.v (.slice b off N cp)),(1,.o (.fn f [] aU)),(5,.v (.int .i64 (.ofNat i)))] rfl (Eq.mp (by kernel_rfl) H)
theorem Xh(call:aI->List I->J->av)(v:I)(f:Nat)(aU:List I)(h:J){Q:bn->ah->Prop}(H:bM (.ofNat 0) (.negSucc 0)=false/\Q (.exit 0) (ah.mk [] [] .none h)):
  a3 Tryz.prog Tryz.f86 call [1,0,1,0,0] ⟨[(0,v),(1,.fn f [] aU),(5,.int .i64 (.negSucc 0))],[],.none,h⟩ Q:=
 dB [(1010,.f)] [] [(0,.o v),(1,.o (.fn f [] aU)),(5,.v (.int .i64 (.negSucc 0)))] rfl (Eq.mp (by kernel_rfl) H)
theorem Xi(m:Nat)(x:I)(y:I)(a:Nat)(f:Nat)(aU:List I)(h:J){R:av->Prop}(H:au (h.room 7) a 0=some (.fn f [] aU)/\∃s1:List UInt8,∃ai:J,(Y m) (.fn f) (x::aU) (h.room 7)=.ret (.str s1) ai/\au ai a 0=some (.fn f [] aU)/\∃s2:List UInt8,∃ax:J,(Y m) (.fn f) (y::aU) ai=.ret (.str s2) ax/\I.sound (.fn f [] aU)=true/\I.sound x=true/\I.sound (.fn f [] aU)=true/\au (h.room 7) a 0=some (.fn f [] aU)/\I.sound y=true/\(dF s1 s2=true->R (.ret (.int .i64 (.negSucc 0)) ax))/\(dF s1 s2=false->R (.ret (.int .i64 (.ofNat 1)) ax))):
  R (Y (m+1) (.fn 87) [x,y,.ptr a 0] h):=
 dI (intr:=b0) [(6,.bA (.io (.fn f [] aU))),(9,.bA (.io (.fn f [] aU)))] [(0,.o x),(1,.o y),(2,.v (.ptr a 0))] Tryz.func87 (by kernel_rfl) (by kernel_rfl) (by kernel_rfl) rfl (Eq.mp (by kernel_rfl) H)
theorem Xj(m:Nat)(x:I)(y:I)(a:Nat)(f:Nat)(aU:List I)(h:J){R:av->Prop}(H:au (h.room 8) a 0=some (.fn f [] aU)/\∃s1:List UInt8,∃ai:J,(Y m) (.fn f) (x::aU) (h.room 8)=.ret (.str s1) ai/\au ai a 0=some (.fn f [] aU)/\∃s2:List UInt8,∃ax:J,(Y m) (.fn f) (y::aU) ai=.ret (.str s2) ax/\I.sound (.fn f [] aU)=true/\I.sound x=true/\I.sound (.fn f [] aU)=true/\au (h.room 8) a 0=some (.fn f [] aU)/\I.sound y=true/\R (.ret (.bool (dK s1 s2)) ax)):
  R (Y (m+1) (.fn 89) [x,y,.ptr a 0] h):=
 dI (intr:=b0) [(6,.bA (.io (.fn f [] aU))),(9,.bA (.io (.fn f [] aU)))] [(0,.o x),(1,.o y),(2,.v (.ptr a 0))] Tryz.func89 (by kernel_rfl) (by kernel_rfl) (by kernel_rfl) rfl (Eq.mp (by kernel_rfl) H)
theorem L9(m:Nat)(v:I)(f:Nat)(aU:List I)(h:J){R:av->Prop}(H:∃aD:Nat,cc Tryz.prog h 63 v=some (.int .i64 (.ofNat aD))/\(aD<2->R (.ret v h))/\(¬aD<2->a3 Tryz.prog Tryz.f88 (Y m) [1,1,0,1,0] (ah.mk [(0,v),(1,.fn f [] aU),(5,.int .i64 (.ofNat 1))] [] .none h) (λb9 cj=>((∃v1:I,∃ai:J,∃bz:Env,b9=.exit 0/\cj=ah.mk bz [] .none ai/\b_ [(0,v1)] bz/\R (.ret v1 ai))\/(∃v2:I,∃ax:J,∃bR:Env,b9=.ret/\cj=ah.mk bR [] .none ax/\b_ [(4,v2)] bR/\R (.ret v2 ax)))))):
  R (Y (m+1) (.fn 88) [v,.fn f [] aU] h):=
 dI (intr:=b0) [(4000,.gT [0,1,5] [(.exit 0,[(0,.o)]),(.ret,[(4,.o)])])] [(0,.o v),(1,.o (.fn f [] aU))] Tryz.func88 (by kernel_rfl) (by kernel_rfl) (by kernel_rfl) rfl (Eq.mp (by kernel_rfl) H)
theorem Xk(call:aI->List I->J->av)(b:Nat)(N:Nat)(k:Nat)(f:Nat)(aU:List I)(h:J){Q:bn->ah->Prop}(H:(k<N->k<N/\∃v1:I,au (h.room 11) b (0+k*1)=some v1/\(1<=k/\k<9223372036854775808)/\k-1<N/\∃v2:I,au (h.room 11) b (0+(k-1)*1)=some v2/\∃bo:Bool,∃ai:J,call (.fn f) (v1::v2::aU) (h.room 11)=.ret (.bool bo) ai/\I.sound (.fn f [] aU)=true/\I.sound v1=true/\I.sound v2=true/\(bo=true->∃aD:Nat,∃bj:Nat,∃bD:Nat,∃aH:b3,di Tryz.prog ai 63 (.slice b 0 N (.a1 1)) (some (.int .i64 (.ofNat k))) none none=some (.slice aD bj bD aH)/\a3 Tryz.prog Tryz.f88 call [1,1,0,1,0,0,1,0,0,1,0,1,0,1,0] (ah.mk [(0,.slice b 0 N (.a1 1)),(1,.fn f [] aU),(5,.int .i64 (.ofNat k)),(6,.slice aD bj bD aH),(7,.int .i64 (.ofNat 1))] [] .none ai) (λb9 cj=>∃bT:Nat,∃b5:Nat,∃cx:Nat,∃a9:b3,∃da:Nat,∃ax:J,∃bz:Env,b9=.exit 2/\cj=ah.mk bz [] .none ax/\b_ [(0,.slice bT b5 cx a9),(5,.int .i64 (.ofNat da))] bz/\∃et:Nat,∃eO:Nat,∃gf:Nat,∃du:b3,di Tryz.prog ax 63 (.slice bT b5 cx a9) (some (.int .i64 (.ofNat da))) none none=some (.slice et eO gf du)/\∃aB:J,o5 Tryz.prog ax 63 (.slice et eO gf du)=some (.aQ [],aB)/\∃dc:I,di Tryz.prog aB 63 (.slice bT b5 cx a9) none (some (.int .i64 (.ofNat da))) none=some dc/\Q .ret (ah.mk [(0,.slice bT b5 cx a9),(4,dc),(5,.int .i64 (.ofNat da))] [] .none aB)))/\(bo=false->k+1<9223372036854775808/\Q .nrm (ah.mk [(0,.slice b 0 N (.a1 1)),(1,.fn f [] aU),(5,.int .i64 (.ofNat (k+1)))] [] .none ai)))/\(¬k<N->Q (.exit 0) (ah.mk [(0,.slice b 0 N (.a1 1)),(1,.fn f [] aU),(5,.int .i64 (.ofNat k))] [] .none h))):
  a3 Tryz.prog Tryz.f88 call [1,1,0,1,0,0] ⟨[(0,.slice b 0 N (.a1 1)),(1,.fn f [] aU),(5,.int .i64 (.ofNat k))],[],.none,h⟩ Q:=
 dB [(22,.bA .o),(27,.bA .o),(31,.bA .fY),(4002,.gT [0,1,5,6,7] [(.exit 2,[(0,.fY),(5,.n .i64)])]),(61,.bA .fY),(64,.bA .o)] [0,1,4,5] [(0,.v (.slice b 0 N (.a1 1))),(1,.o (.fn f [] aU)),(5,.v (.int .i64 (.ofNat k)))] rfl (Eq.mp (by kernel_rfl) H)
theorem Xl(call:aI->List I->J->av)(b:Nat)(N:Nat)(k:Nat)(f:Nat)(dG:Nat)(M:Nat)(j:Nat)(aU:List I)(h:J){Q:bn->ah->Prop}(H:(j<M->j<M/\∃v1:I,au (h.room 12) b (dG+j*1)=some v1/\(1<=j/\j<9223372036854775808)/\j-1<M/\∃v2:I,au (h.room 12) b (dG+(j-1)*1)=some v2/\∃bo:Bool,∃ai:J,call (.fn f) (v1::v2::aU) (h.room 12)=.ret (.bool bo) ai/\I.sound (.fn f [] aU)=true/\I.sound v1=true/\I.sound v2=true/\(bo=true->j+1<9223372036854775808/\Q .nrm (ah.mk [(0,.slice b 0 N (.a1 1)),(1,.fn f [] aU),(5,.int .i64 (.ofNat k)),(6,.slice b dG M (.a1 1)),(7,.int .i64 (.ofNat (j+1)))] [] .none ai))/\(bo=false->j<M/\∃s1:List UInt8,au ai b (dG+j*1)=some (.str s1)/\k<N/\∃ax:J,aP.storeCells ai b (0+k*1) [.str s1]=some ax/\k+1<9223372036854775808/\j+1<9223372036854775808/\Q .nrm (ah.mk [(0,.slice b 0 N (.a1 1)),(1,.fn f [] aU),(5,.int .i64 (.ofNat (k+1))),(6,.slice b dG M (.a1 1)),(7,.int .i64 (.ofNat (j+1)))] [] .none ax)))/\(¬j<M->Q (.exit 2) (ah.mk [(0,.slice b 0 N (.a1 1)),(1,.fn f [] aU),(5,.int .i64 (.ofNat k)),(6,.slice b dG M (.a1 1)),(7,.int .i64 (.ofNat j))] [] .none h))):
  a3 Tryz.prog Tryz.f88 call [1,1,0,1,0,0,1,0,0,1,0,1,0,1,0,0] ⟨[(0,.slice b 0 N (.a1 1)),(1,.fn f [] aU),(5,.int .i64 (.ofNat k)),(6,.slice b dG M (.a1 1)),(7,.int .i64 (.ofNat j))],[],.none,h⟩ Q:=
 dB [(42,.bA .o),(47,.bA .o)] [0,1,5,6,7] [(0,.v (.slice b 0 N (.a1 1))),(1,.o (.fn f [] aU)),(5,.v (.int .i64 (.ofNat k))),(6,.v (.slice b dG M (.a1 1))),(7,.v (.int .i64 (.ofNat j)))] rfl (Eq.mp (by kernel_rfl) H)
theorem Xm(m:Nat)(b:Nat)(off:Nat)(N:Nat)(cp:b3)(h:J){R:av->Prop}(H:∃v1:I,∃ai:J,dt Tryz.prog (J.push h (.cells [] 9 .own 0 0)) 63 (some 63) (.slice h.n 0 0 (.exact 0)) (.slice b off N cp)=some (v1,ai)/\R (.ret v1 ai)):
  R (Y (m+1) (.fn 38) [.slice b off N cp] h):=
 dI (intr:=b0) [(7,.bA .o)] [(0,.v (.slice b off N cp))] Tryz.func38 (by kernel_rfl) (by kernel_rfl) (by kernel_rfl) rfl (Eq.mp (by kernel_rfl) H)
theorem Xn(m:Nat)(h:J){R:av->Prop}(H:R (.ret .a0 h)):
  R (Y (m+1) (.fn 38) [.a0] h):=
 dI (intr:=b0) [] [(0,.v .a0)] Tryz.func38 (by kernel_rfl) (by kernel_rfl) (by kernel_rfl) rfl (Eq.mp (by kernel_rfl) H)
theorem Xo(m:Nat)(v:I)(f:Nat)(aU:List I)(h:J){R:av->Prop}(H:I.cT (.fn f [] aU)=true/\∃bo:Bool,∃ai:J,(Y m) (.fn 86) [v,.fn 87 [] [.ptr h.n 0]] (J.push h (.cells [.fn f [] aU] 114 .own 0 0))=.ret (.bool bo) ai/\(bo=true->∃v1:I,∃ax:J,(Y m) (.fn 38) [v] ai=.ret v1 ax/\∃v2:I,∃aB:J,(Y m) (.fn 88) [v1,.fn 89 [] [.ptr h.n 0]] ax=.ret v2 aB/\∃aD:Nat,cc Tryz.prog aB 63 v2=some (.int .i64 (.ofNat aD))/\∃bj:Nat,cc Tryz.prog aB 63 v=some (.int .i64 (.ofNat bj))/\R (.ret (.bool (a_ (.ofNat aD) (.ofNat bj))) aB))/\(bo=false->R (.ret (.bool false) ai))):
  R (Y (m+1) (.fn 68) [v,.fn f [] aU] h):=
 dI (intr:=b0) [] [(0,.o v),(1,.o (.fn f [] aU))] Tryz.func68 (by kernel_rfl) (by kernel_rfl) (by kernel_rfl) rfl (Eq.mp (by kernel_rfl) H)
theorem Xp(m:Nat)(v:I)(f:Nat)(aU:List I)(h:J){R:av->Prop}(H:∃ep:Int,∃ai:J,(Y m) (.fn 82) [v,.fn f [] aU] h=.ret (.int .i64 ep) ai/\R (.ret (.bool (fh (.ofNat 0) ep)) ai)):
  R (Y (m+1) (.fn 63) [v,.fn f [] aU] h):=
 dI (intr:=b0) [(7,.bA (.z .i64))] [(0,.o v),(1,.o (.fn f [] aU))] Tryz.func63 (by kernel_rfl) (by kernel_rfl) (by kernel_rfl) rfl (Eq.mp (by kernel_rfl) H)
theorem Xq(m:Nat)(v:I)(f:Nat)(aU:List I)(h:J){R:av->Prop}(H:∃aD:Nat,cc Tryz.prog h 50 v=some (.int .i64 (.ofNat aD))/\a3 Tryz.prog Tryz.f82 (Y m) [1,0,1,0] (ah.mk [(0,v),(1,.fn f [] aU),(7,.int .i64 (.ofNat aD)),(8,.int .i64 (.ofNat 0))] [] .none h) (λb9 cj=>((∃ai:J,∃bz:Env,b9=.exit 0/\cj=ah.mk bz [] .none ai/\b_ [] bz/\R (.ret (.int .i64 (.negSucc 0)) ai))\/(∃bj:Nat,∃ax:J,∃bR:Env,b9=.ret/\cj=ah.mk bR [] .none ax/\b_ [(4,.int .i64 (.ofNat bj))] bR/\R (.ret (.int .i64 (.ofNat bj)) ax))))):
  R (Y (m+1) (.fn 82) [v,.fn f [] aU] h):=
 dI (intr:=b0) [(4000,.gT [0,1,7,8] [(.exit 0,[]),(.ret,[(4,.n .i64)])])] [(0,.o v),(1,.o (.fn f [] aU))] Tryz.func82 (by kernel_rfl) (by kernel_rfl) (by kernel_rfl) rfl (Eq.mp (by kernel_rfl) H)
theorem Xr(call:aI->List I->J->av)(b:Nat)(off:Nat)(N:Nat)(i:Nat)(f:Nat)(aU:List I)(cp:b3)(h:J){Q:bn->ah->Prop}(H:(i<N->i<N/\∃v1:I,au h b (off+i*1)=some v1/\∃bo:Bool,∃ai:J,call (.fn f) (v1::aU) h=.ret (.bool bo) ai/\(bo=true->Q .ret (ah.mk [(0,.slice b off N cp),(1,.fn f [] aU),(4,.int .i64 (.ofNat i)),(7,.int .i64 (.ofNat N)),(8,.int .i64 (.ofNat i))] [] .none ai))/\(bo=false->i+1<9223372036854775808/\Q .nrm (ah.mk [(0,.slice b off N cp),(1,.fn f [] aU),(7,.int .i64 (.ofNat N)),(8,.int .i64 (.ofNat (i+1)))] [] .none ai)))/\(¬i<N->Q (.exit 0) (ah.mk [(0,.slice b off N cp),(1,.fn f [] aU),(7,.int .i64 (.ofNat N)),(8,.int .i64 (.ofNat i))] [] .none h))):
  a3 Tryz.prog Tryz.f82 call [1,0,1,0,0] ⟨[(0,.slice b off N cp),(1,.fn f [] aU),(7,.int .i64 (.ofNat N)),(8,.int .i64 (.ofNat i))],[],.none,h⟩ Q:=
 dB [(15,.bA .o)] [0,1,4,7,8] [(0,.v (.slice b off N cp)),(1,.o (.fn f [] aU)),(7,.v (.int .i64 (.ofNat N))),(8,.v (.int .i64 (.ofNat i)))] rfl (Eq.mp (by kernel_rfl) H)
theorem Xs(call:aI->List I->J->av)(N:Nat)(i:Nat)(f:Nat)(aU:List I)(v:I)(h:J){Q:bn->ah->Prop}(H:¬i<N/\Q (.exit 0) (ah.mk [] [] .none h)):
  a3 Tryz.prog Tryz.f82 call [1,0,1,0,0] ⟨[(0,v),(1,.fn f [] aU),(7,.int .i64 (.ofNat N)),(8,.int .i64 (.ofNat i))],[],.none,h⟩ Q:=
 dB [(1009,.f)] [] [(0,.o v),(1,.o (.fn f [] aU)),(7,.v (.int .i64 (.ofNat N))),(8,.v (.int .i64 (.ofNat i)))] rfl (Eq.mp (by kernel_rfl) H)
theorem Xt(m:Nat)(v:I)(f:Nat)(aU:List I)(h:J){R:av->Prop}(H:∃aD:Nat,cc Tryz.prog h 50 v=some (.int .i64 (.ofNat aD))/\(1<=aD/\aD<9223372036854775808)/\a3 Tryz.prog Tryz.f90 (Y m) [1,0,1,0] (ah.mk [(0,v),(1,.fn f [] aU),(5,.int .i64 (.ofNat (aD-1)))] [] .none h) (λb9 cj=>((∃ai:J,∃bz:Env,b9=.exit 0/\cj=ah.mk bz [] .none ai/\b_ [] bz/\R (.ret (.bool true) ai))\/(∃ax:J,∃bR:Env,b9=.ret/\cj=ah.mk bR [] .none ax/\b_ [(4,.bool false)] bR/\R (.ret (.bool false) ax))))):
  R (Y (m+1) (.fn 90) [v,.fn f [] aU] h):=
 dI (intr:=b0) [(4000,.gT [0,1,5] [(.exit 0,[]),(.ret,[(4,.is (.bool false))])])] [(0,.o v),(1,.o (.fn f [] aU))] Tryz.func90 (by kernel_rfl) (by kernel_rfl) (by kernel_rfl) rfl (Eq.mp (by kernel_rfl) H)
theorem Xu(m:Nat)(v:I)(f:Nat)(aU:List I)(h:J){R:av->Prop}(H:∃aD:Nat,cc Tryz.prog h 50 v=some (.int .i64 (.ofNat aD))/\∃ep:Int,arith .sub .i64 (.ofNat aD) (.ofNat 1)=some (.int .i64 ep)/\a3 Tryz.prog Tryz.f90 (Y m) [1,0,1,0] (ah.mk [(0,v),(1,.fn f [] aU),(5,.int .i64 ep)] [] .none h) (λb9 cj=>∃ai:J,∃bz:Env,b9=.exit 0/\cj=ah.mk bz [] .none ai/\b_ [] bz/\R (.ret (.bool true) ai))):
  R (Y (m+1) (.fn 90) [v,.fn f [] aU] h):=
 dI (intr:=b0) [(8,.bA (.z .i64)),(4000,.gT [0,1,5] [(.exit 0,[])])] [(0,.o v),(1,.o (.fn f [] aU))] Tryz.func90 (by kernel_rfl) (by kernel_rfl) (by kernel_rfl) rfl (Eq.mp (by kernel_rfl) H)
theorem Xv(call:aI->List I->J->av)(b:Nat)(off:Nat)(N:Nat)(i:Nat)(f:Nat)(aU:List I)(cp:b3)(h:J){Q:bn->ah->Prop}(H:(0<i->i<N/\∃v1:I,au (h.room 12) b (off+i*1)=some v1/\(1<=i/\i<9223372036854775808)/\i-1<N/\∃v2:I,au (h.room 12) b (off+(i-1)*1)=some v2/\∃ep:Int,∃ai:J,call (.fn f) (v1::v2::aU) (h.room 12)=.ret (.int .i64 ep) ai/\I.sound (.fn f [] aU)=true/\I.sound v1=true/\I.sound v2=true/\(bM ep (.ofNat 0)=true->Q .ret (ah.mk [(0,.slice b off N cp),(1,.fn f [] aU),(4,.bool false),(5,.int .i64 (.ofNat i))] [] .none ai))/\(bM ep (.ofNat 0)=false->(1<=i/\i<9223372036854775808)/\Q .nrm (ah.mk [(0,.slice b off N cp),(1,.fn f [] aU),(5,.int .i64 (.ofNat (i-1)))] [] .none ai)))/\(¬0<i->Q (.exit 0) (ah.mk [(0,.slice b off N cp),(1,.fn f [] aU),(5,.int .i64 (.ofNat i))] [] .none h))):
  a3 Tryz.prog Tryz.f90 call [1,0,1,0,0] ⟨[(0,.slice b off N cp),(1,.fn f [] aU),(5,.int .i64 (.ofNat i))],[],.none,h⟩ Q:=
 dB [(17,.bA .o),(22,.bA .o),(23,.bA (.z .i64))] [0,1,4,5] [(0,.v (.slice b off N cp)),(1,.o (.fn f [] aU)),(5,.v (.int .i64 (.ofNat i)))] rfl (Eq.mp (by kernel_rfl) H)
theorem Xw(call:aI->List I->J->av)(v:I)(f:Nat)(aU:List I)(h:J){Q:bn->ah->Prop}(H:bM (.ofNat 0) (.negSucc 0)=false/\Q (.exit 0) (ah.mk [] [] .none h)):
  a3 Tryz.prog Tryz.f90 call [1,0,1,0,0] ⟨[(0,v),(1,.fn f [] aU),(5,.int .i64 (.negSucc 0))],[],.none,h⟩ Q:=
 dB [(1010,.f)] [] [(0,.o v),(1,.o (.fn f [] aU)),(5,.v (.int .i64 (.negSucc 0)))] rfl (Eq.mp (by kernel_rfl) H)
theorem Xx(m:Nat)(x:I)(y:I)(a:Nat)(f:Nat)(aU:List I)(h:J){R:av->Prop}(H:au (h.room 7) a 0=some (.fn f [] aU)/\∃s1:List UInt8,∃ai:J,(Y m) (.fn f) (x::aU) (h.room 7)=.ret (.str s1) ai/\au ai a 0=some (.fn f [] aU)/\∃s2:List UInt8,∃ax:J,(Y m) (.fn f) (y::aU) ai=.ret (.str s2) ax/\I.sound (.fn f [] aU)=true/\I.sound x=true/\I.sound (.fn f [] aU)=true/\au (h.room 7) a 0=some (.fn f [] aU)/\I.sound y=true/\(dF s1 s2=true->R (.ret (.int .i64 (.negSucc 0)) ax))/\(dF s1 s2=false->R (.ret (.int .i64 (.ofNat 1)) ax))):
  R (Y (m+1) (.fn 91) [x,y,.ptr a 0] h):=
 dI (intr:=b0) [(6,.bA (.io (.fn f [] aU))),(9,.bA (.io (.fn f [] aU)))] [(0,.o x),(1,.o y),(2,.v (.ptr a 0))] Tryz.func91 (by kernel_rfl) (by kernel_rfl) (by kernel_rfl) rfl (Eq.mp (by kernel_rfl) H)
theorem Xy(m:Nat)(x:I)(y:I)(a:Nat)(f:Nat)(aU:List I)(h:J){R:av->Prop}(H:au (h.room 8) a 0=some (.fn f [] aU)/\∃s1:List UInt8,∃ai:J,(Y m) (.fn f) (x::aU) (h.room 8)=.ret (.str s1) ai/\au ai a 0=some (.fn f [] aU)/\∃s2:List UInt8,∃ax:J,(Y m) (.fn f) (y::aU) ai=.ret (.str s2) ax/\I.sound (.fn f [] aU)=true/\I.sound x=true/\I.sound (.fn f [] aU)=true/\au (h.room 8) a 0=some (.fn f [] aU)/\I.sound y=true/\R (.ret (.bool (dK s1 s2)) ax)):
  R (Y (m+1) (.fn 94) [x,y,.ptr a 0] h):=
 dI (intr:=b0) [(6,.bA (.io (.fn f [] aU))),(9,.bA (.io (.fn f [] aU)))] [(0,.o x),(1,.o y),(2,.v (.ptr a 0))] Tryz.func94 (by kernel_rfl) (by kernel_rfl) (by kernel_rfl) rfl (Eq.mp (by kernel_rfl) H)
theorem L_(m:Nat)(v:I)(f:Nat)(aU:List I)(h:J){R:av->Prop}(H:∃aD:Nat,cc Tryz.prog h 50 v=some (.int .i64 (.ofNat aD))/\(aD<2->R (.ret v h))/\(¬aD<2->a3 Tryz.prog Tryz.f92 (Y m) [1,1,0,1,0] (ah.mk [(0,v),(1,.fn f [] aU),(5,.int .i64 (.ofNat 1))] [] .none h) (λb9 cj=>((∃v1:I,∃ai:J,∃bz:Env,b9=.exit 0/\cj=ah.mk bz [] .none ai/\b_ [(0,v1)] bz/\R (.ret v1 ai))\/(∃v2:I,∃ax:J,∃bR:Env,b9=.ret/\cj=ah.mk bR [] .none ax/\b_ [(4,v2)] bR/\R (.ret v2 ax)))))):
  R (Y (m+1) (.fn 92) [v,.fn f [] aU] h):=
 dI (intr:=b0) [(4000,.gT [0,1,5] [(.exit 0,[(0,.o)]),(.ret,[(4,.o)])])] [(0,.o v),(1,.o (.fn f [] aU))] Tryz.func92 (by kernel_rfl) (by kernel_rfl) (by kernel_rfl) rfl (Eq.mp (by kernel_rfl) H)
theorem Xz(call:aI->List I->J->av)(b:Nat)(N:Nat)(k:Nat)(f:Nat)(aU:List I)(h:J){Q:bn->ah->Prop}(H:(k<N->k<N/\∃v1:I,au (h.room 11) b (0+k*1)=some v1/\(1<=k/\k<9223372036854775808)/\k-1<N/\∃v2:I,au (h.room 11) b (0+(k-1)*1)=some v2/\∃bo:Bool,∃ai:J,call (.fn f) (v1::v2::aU) (h.room 11)=.ret (.bool bo) ai/\I.sound (.fn f [] aU)=true/\I.sound v1=true/\I.sound v2=true/\(bo=true->∃aD:Nat,∃bj:Nat,∃bD:Nat,∃aH:b3,di Tryz.prog ai 50 (.slice b 0 N (.a1 1)) (some (.int .i64 (.ofNat k))) none none=some (.slice aD bj bD aH)/\a3 Tryz.prog Tryz.f92 call [1,1,0,1,0,0,1,0,0,1,0,1,0,1,0] (ah.mk [(0,.slice b 0 N (.a1 1)),(1,.fn f [] aU),(5,.int .i64 (.ofNat k)),(6,.slice aD bj bD aH),(7,.int .i64 (.ofNat 1))] [] .none ai) (λb9 cj=>∃bT:Nat,∃b5:Nat,∃cx:Nat,∃a9:b3,∃da:Nat,∃ax:J,∃bz:Env,b9=.exit 2/\cj=ah.mk bz [] .none ax/\b_ [(0,.slice bT b5 cx a9),(5,.int .i64 (.ofNat da))] bz/\∃et:Nat,∃eO:Nat,∃gf:Nat,∃du:b3,di Tryz.prog ax 50 (.slice bT b5 cx a9) (some (.int .i64 (.ofNat da))) none none=some (.slice et eO gf du)/\∃aB:J,o5 Tryz.prog ax 50 (.slice et eO gf du)=some (.aQ [],aB)/\∃dc:I,di Tryz.prog aB 50 (.slice bT b5 cx a9) none (some (.int .i64 (.ofNat da))) none=some dc/\Q .ret (ah.mk [(0,.slice bT b5 cx a9),(4,dc),(5,.int .i64 (.ofNat da))] [] .none aB)))/\(bo=false->k+1<9223372036854775808/\Q .nrm (ah.mk [(0,.slice b 0 N (.a1 1)),(1,.fn f [] aU),(5,.int .i64 (.ofNat (k+1)))] [] .none ai)))/\(¬k<N->Q (.exit 0) (ah.mk [(0,.slice b 0 N (.a1 1)),(1,.fn f [] aU),(5,.int .i64 (.ofNat k))] [] .none h))):
  a3 Tryz.prog Tryz.f92 call [1,1,0,1,0,0] ⟨[(0,.slice b 0 N (.a1 1)),(1,.fn f [] aU),(5,.int .i64 (.ofNat k))],[],.none,h⟩ Q:=
 dB [(22,.bA .o),(27,.bA .o),(31,.bA .fY),(4002,.gT [0,1,5,6,7] [(.exit 2,[(0,.fY),(5,.n .i64)])]),(61,.bA .fY),(64,.bA .o)] [0,1,4,5] [(0,.v (.slice b 0 N (.a1 1))),(1,.o (.fn f [] aU)),(5,.v (.int .i64 (.ofNat k)))] rfl (Eq.mp (by kernel_rfl) H)
theorem XA(call:aI->List I->J->av)(b:Nat)(N:Nat)(k:Nat)(f:Nat)(dG:Nat)(M:Nat)(j:Nat)(aU:List I)(h:J){Q:bn->ah->Prop}(H:(j<M->j<M/\∃v1:I,au (h.room 12) b (dG+j*1)=some v1/\(1<=j/\j<9223372036854775808)/\j-1<M/\∃v2:I,au (h.room 12) b (dG+(j-1)*1)=some v2/\∃bo:Bool,∃ai:J,call (.fn f) (v1::v2::aU) (h.room 12)=.ret (.bool bo) ai/\I.sound (.fn f [] aU)=true/\I.sound v1=true/\I.sound v2=true/\(bo=true->j+1<9223372036854775808/\Q .nrm (ah.mk [(0,.slice b 0 N (.a1 1)),(1,.fn f [] aU),(5,.int .i64 (.ofNat k)),(6,.slice b dG M (.a1 1)),(7,.int .i64 (.ofNat (j+1)))] [] .none ai))/\(bo=false->j<M/\∃aD:Nat,au ai b (dG+j*1)=some (.ptr aD 0)/\k<N/\∃ax:J,aP.storeCells ai b (0+k*1) [.ptr aD 0]=some ax/\k+1<9223372036854775808/\j+1<9223372036854775808/\Q .nrm (ah.mk [(0,.slice b 0 N (.a1 1)),(1,.fn f [] aU),(5,.int .i64 (.ofNat (k+1))),(6,.slice b dG M (.a1 1)),(7,.int .i64 (.ofNat (j+1)))] [] .none ax)))/\(¬j<M->Q (.exit 2) (ah.mk [(0,.slice b 0 N (.a1 1)),(1,.fn f [] aU),(5,.int .i64 (.ofNat k)),(6,.slice b dG M (.a1 1)),(7,.int .i64 (.ofNat j))] [] .none h))):
  a3 Tryz.prog Tryz.f92 call [1,1,0,1,0,0,1,0,0,1,0,1,0,1,0,0] ⟨[(0,.slice b 0 N (.a1 1)),(1,.fn f [] aU),(5,.int .i64 (.ofNat k)),(6,.slice b dG M (.a1 1)),(7,.int .i64 (.ofNat j))],[],.none,h⟩ Q:=
 dB [(42,.bA .o),(47,.bA .o)] [0,1,5,6,7] [(0,.v (.slice b 0 N (.a1 1))),(1,.o (.fn f [] aU)),(5,.v (.int .i64 (.ofNat k))),(6,.v (.slice b dG M (.a1 1))),(7,.v (.int .i64 (.ofNat j)))] rfl (Eq.mp (by kernel_rfl) H)
theorem XB(m:Nat)(b:Nat)(off:Nat)(N:Nat)(cp:b3)(h:J){R:av->Prop}(H:∃v1:I,∃ai:J,dt Tryz.prog (J.push h (.cells [] 35 .own 0 0)) 50 (some 50) (.slice h.n 0 0 (.exact 0)) (.slice b off N cp)=some (v1,ai)/\R (.ret v1 ai)):
  R (Y (m+1) (.fn 93) [.slice b off N cp] h):=
 dI (intr:=b0) [(7,.bA .o)] [(0,.v (.slice b off N cp))] Tryz.func93 (by kernel_rfl) (by kernel_rfl) (by kernel_rfl) rfl (Eq.mp (by kernel_rfl) H)
theorem XC(m:Nat)(h:J){R:av->Prop}(H:R (.ret .a0 h)):
  R (Y (m+1) (.fn 93) [.a0] h):=
 dI (intr:=b0) [] [(0,.v .a0)] Tryz.func93 (by kernel_rfl) (by kernel_rfl) (by kernel_rfl) rfl (Eq.mp (by kernel_rfl) H)
theorem XD(m:Nat)(v:I)(f:Nat)(aU:List I)(h:J){R:av->Prop}(H:I.cT (.fn f [] aU)=true/\∃bo:Bool,∃ai:J,(Y m) (.fn 90) [v,.fn 91 [] [.ptr h.n 0]] (J.push h (.cells [.fn f [] aU] 116 .own 0 0))=.ret (.bool bo) ai/\(bo=true->∃v1:I,∃ax:J,(Y m) (.fn 93) [v] ai=.ret v1 ax/\∃v2:I,∃aB:J,(Y m) (.fn 92) [v1,.fn 94 [] [.ptr h.n 0]] ax=.ret v2 aB/\∃aD:Nat,cc Tryz.prog aB 50 v2=some (.int .i64 (.ofNat aD))/\∃bj:Nat,cc Tryz.prog aB 50 v=some (.int .i64 (.ofNat bj))/\R (.ret (.bool (a_ (.ofNat aD) (.ofNat bj))) aB))/\(bo=false->R (.ret (.bool false) ai))):
  R (Y (m+1) (.fn 71) [v,.fn f [] aU] h):=
 dI (intr:=b0) [] [(0,.o v),(1,.o (.fn f [] aU))] Tryz.func71 (by kernel_rfl) (by kernel_rfl) (by kernel_rfl) rfl (Eq.mp (by kernel_rfl) H)
theorem XE(m:Nat)(v:I)(h:J){R:av->Prop}(H:∃bo:Bool,∃ai:J,(Y m) (.fn 43) [v] h=.ret (.bool bo) ai/\R (.ret (.bool !bo) ai)):
  R (Y (m+1) (.fn 62) [v] h):=
 dI (intr:=b0) [] [(0,.o v)] Tryz.func62 (by kernel_rfl) (by kernel_rfl) (by kernel_rfl) rfl (Eq.mp (by kernel_rfl) H)
theorem XF(m:Nat)(s:List UInt8)(h:J){R:av->Prop}(H:∃bo:Bool,∃ai:J,(Y m) (.fn 67) [.str s] h=.ret (.bool bo) ai/\R (.ret (.bool !bo) ai)):
  R (Y (m+1) (.fn 66) [.str s] h):=
 dI (intr:=b0) [] [(0,.v (.str s))] Tryz.func66 (by kernel_rfl) (by kernel_rfl) (by kernel_rfl) rfl (Eq.mp (by kernel_rfl) H)
theorem XG(m:Nat)(s:List UInt8)(h:J){R:av->Prop}(H:R (.ret (.str s) h)):
  R (Y (m+1) (.fn 69) [.str s] h):=
 dI (intr:=b0) [] [(0,.v (.str s))] Tryz.func69 (by kernel_rfl) (by kernel_rfl) (by kernel_rfl) rfl (Eq.mp (by kernel_rfl) H)
theorem XH(m:Nat)(r:Nat)(h:J){R:av->Prop}(H:∃aD:Nat,au h r (0+0)=some (.int .i64 (.ofNat aD))/\(aD=9->R (.ret (.bool true) h))/\(¬aD=9->∃bj:Nat,au h r (0+0)=some (.int .i64 (.ofNat bj))/\R (.ret (.bool (a_ (.ofNat bj) (.ofNat 1))) h))):
  R (Y (m+1) (.fn 70) [.ptr r 0] h):=
 dI (intr:=b0) [] [(0,.v (.ptr r 0))] Tryz.func70 (by kernel_rfl) (by kernel_rfl) (by kernel_rfl) rfl (Eq.mp (by kernel_rfl) H)
theorem XI(m:Nat)(r:Nat)(h:J){R:av->Prop}(H:∃aD:Nat,∃ai:J,(Y m) (.fn 16) [.ptr r 0] h=.ret (.int .i64 (.ofNat aD)) ai/\(60<aD->R (.ret (.int .i64 (.ofNat 3)) ai))/\(¬60<aD->∃bo:Bool,∃ax:J,(Y m) (.fn 43) [.ptr r 0] ai=.ret (.bool bo) ax/\(bo=true->R (.ret (.int .i64 (.ofNat 0)) ax))/\(bo=false->R (.ret (.int .i64 (.ofNat 2)) ax)))):
  R (Y (m+1) (.fn 25) [.ptr r 0] h):=
 dI (intr:=b0) [] [(0,.v (.ptr r 0))] Tryz.func25 (by kernel_rfl) (by kernel_rfl) (by kernel_rfl) rfl (Eq.mp (by kernel_rfl) H)
theorem XJ(m:Nat)(h:J){R:av->Prop}(H:R (.ret (.int .i64 (.ofNat 1)) h)):
  R (Y (m+1) (.fn 25) [.bb] h):=
 dI (intr:=b0) [] [(0,.v .bb)] Tryz.func25 (by kernel_rfl) (by kernel_rfl) (by kernel_rfl) rfl (Eq.mp (by kernel_rfl) H)
theorem sq{n:Nat}{q:Nat->Bool}(h:∀j,j<n->q j=false):(List.range n).any q=false:=by
 rw[List.any_eq_false];intro j aJ;rw[h j (by simpa using aJ)];simp
theorem wo{n i:Nat}{q:Nat->Bool}(af:i<n)(h:q i=true):(List.range n).any q=true:=List.any_eq_true.2 ⟨i,by simpa using af,h⟩
theorem mm{f:Nat}{aU:List I}(h:jL aU=true):I.sound (.fn f [] aU)=true:=by simp[I.sound,jL,h]
theorem FP(z:I)(a2:z.cT=true)(L:List I)(k:Nat)(aq:k<L.length):fT k [z] L=some (L.set k z):=by
 have h:=yo (L.take k) [z] (L.drop k) (by simp[a2]) (by simp;omega)
 rw[List.length_take,Nat.min_eq_left (by omega),List.take_append_drop] at h
 rw[h,List.drop_drop]
 congr 1
 rw[List.set_eq_take_append_cons_drop,if_pos aq]
 rfl
theorem Ma(xs:List I)(aa:xs.all I.cT=true)(L:List I)(k:Nat)(aq:k+xs.length<=L.length):∃sr,fT k xs L=some sr/\sr.length=L.length:=by
 have h:=yo (L.take k) xs (L.drop k) aa (by simp;omega)
 rw[List.length_take,Nat.min_eq_left (by omega),List.take_append_drop] at h
 exact⟨_,h,by simp;omega⟩
theorem XK:∀(l cs:List I) (o:Nat),(∀i (af:i<l.length),nth (o+i) cs=some l[i])->takeN l.length (jD o cs)=some l:=by
 have base:∀(l cs:List I),(∀i (af:i<l.length),nth i cs=some l[i])->takeN l.length cs=some l:=by
  intro l
  induction l with
  |nil=>intro cs _;rfl
  |cons a l a7=>
   intro cs h
   cases cs with
   |nil=>have:=h 0 (by simp);simp[nth] at this
   |cons c cs=>
    have h0:=h 0 (by simp)
    simp only[nth,List.getElem_cons_zero,Option.some.injEq] at h0
    subst h0
    have:=a7 cs (λi af=>by have:=h (i+1) (by simpa using af);simpa[nth] using this)
    simp only[List.length_cons,takeN,this]
 intro l cs o
 induction o generalizing cs with
 |zero=>intro h;exact base l cs (λi af=>by have:=h i af;rwa [Nat.zero_add] at this)
 |succ o a7=>
  intro h
  cases cs with
  |nil=>
   cases l with
   |nil=>rfl
   |cons a l=>have:=h 0 (by simp);simp[nth] at this
  |cons c cs=>
   refine a7 cs (λi af=>?_)
   have:=h i af
   rw[show o+1+i=(o+i)+1 by omega] at this
   simpa[nth] using this
theorem db.src{B:Nat}{h:J}{b off:Nat}{cp:b3}{vs:List I}(aw:∀i (af:i<vs.length),au h b (off+i*1)=some vs[i])(h0:0<vs.length)(ag:cp≠ .dead):fV h 1 (.slice b off vs.length cp)=some (vs.length,vs):=by
 have ae:∃cs e k aO up,h.get b=some (.cells cs e k aO up):=by
  have:=aw 0 h0
  unfold au at this
  split at this
  · rename_i cs e k aO up al
    exact⟨cs,e,k,aO,up,al⟩
  · cases this
 obtain⟨cs,e,k,aO,up,al⟩:=ae
 have fp:aP.loadCells h b off (vs.length*1)=some vs:=by
  refine pF al ?_
  rw[Nat.mul_one]
  refine XK vs cs off (λi af=>?_)
  have:=aw i af
  simp only[au,al,Nat.mul_one] at this
  exact this
 cases cp with
 |dead=>exact absurd rfl ag
 |exact c=>simp only[fV,fp]
 |a1 c=>simp only[fV,fp]
def h1(h:J)(b:Nat)(el:Nat)(L:List I):Prop:=h.get b=some (.cells L el .a1 0 0)
theorem h1.nZ{h:J}{b el:Nat}{L:List I}(a4:h1 h b el L){i o:Nat}(af:i<L.length)(e:o=i):au h b o=some L[i]:=by
 subst e;exact l8 a4 (List.getElem?_eq_getElem af)
theorem XL(m:Nat){B:Nat}{h:J}{v:I}{vs:List I}(f:Nat)(aU:List I)(q:Nat->Bool)(aC:db B h v vs)(hlen:vs.length<=90000)(hf:∀i (af:i<vs.length) x,Ext B h x->cP B x (.bool (q i)) (Y m (.fn f) (vs[i]::aU) x)):
  cP B h (.bool ((List.range vs.length).any q)) (Y (m+2) (.fn 65) [v,.fn f [] aU] h):=by
 refine Xa (m+1) v f aU h ?_
 have key:∃i g,Y (m+1) (.fn 84) [v,.fn f [] aU] h=.ret (.int .i64 i) g/\fh (Int.ofNat 0) i=(List.range vs.length).any q/\Ext B h g:=by
  refine Xb m v f aU h (R:=λx=>∃i g,x=.ret (.int .i64 i) g/\fh (Int.ofNat 0) i=(List.range vs.length).any q/\Ext B h g) ⟨vs.length,aC.len (t:=63) (e:=9) (by kernel_rfl),?_⟩
  refine a3.loop (by kernel_rfl) (λk st=>∃i x Γ,st=⟨Γ,[],.none,x⟩/\b_ [(0,v),(1,.fn f [] aU),(7,.int .i64 (Int.ofNat vs.length)),(8,.int .i64 (Int.ofNat i))] Γ/\vs.length-i=k/\i<=vs.length/\Ext B h x/\∀j,j<i->q j=false) ?_ vs.length _ (by omega) ⟨0,h,_,rfl,⟨rfl,rfl,rfl,rfl,trivial⟩,by omega,by omega,Ext.refl _ _,λj aJ=>by omega⟩
  rintro k st ⟨i,x,Γ,rfl,cQ,aq,af,aa,aM⟩
  rcases aC with⟨rfl,rfl⟩|⟨b,off,cp,rfl,ae,aw,aK,ao⟩
  · exact a3.pre (Xd (Y m) _ i f aU _ x ⟨by simp,.inl ⟨x,_,rfl,rfl,trivial,_,x,rfl,rfl,aa⟩⟩) cQ rfl rfl rfl
  · refine a3.pre (Xc (Y m) b off _ i f aU cp x ⟨λab=>⟨ab,_,iZ aa ae (aw i ab),?_⟩,λab=>?_⟩) cQ rfl rfl rfl
    · obtain⟨g,aH,bC⟩:=hf i ab x aa
      have al:=aa.trans (Nat.le_refl _) bC
      refine⟨q i,g,aH,λag=>?_,λag=>?_⟩
      · exact .inr ⟨i,g,_,rfl,rfl,⟨rfl,trivial⟩,_,g,rfl,by rw[wo ab ag];exact mT (by omega),al⟩
      · refine⟨by omega,_,(by show _<k;omega),i+1,g,_,rfl,⟨rfl,rfl,rfl,rfl,trivial⟩,rfl,by omega,al,λj aJ=>?_⟩
        by_cases e:j=i
        · rw[e];exact ag
        · exact aM j (by omega)
    · exact .inl ⟨x,_,rfl,rfl,trivial,_,x,rfl,by rw[sq (λj aJ=>aM j (by omega))];rfl,aa⟩
 obtain⟨i,g,aH,aA,bC⟩:=key
 exact⟨i,g,aH,cP.of (ia aA.symm) bC⟩
theorem XM(m:Nat){B:Nat}{h:J}{v:I}{vs:List I}(f:Nat)(aU:List I)(q:Nat->Nat->Bool)(aC:db B h v vs)(hlen:vs.length<=90000)(hH:jL aU=true)(eH:∀i (af:i<vs.length),I.sound vs[i]=true)(hf:∀i j (af:i<vs.length) (aJ:j<vs.length) x,Ext B h x->cP B x (.int .i64 (if q i j then Int.negSucc 0 else Int.ofNat 1)) (Y m (.fn f) (vs[i]::vs[j]::aU) x)):
  cP B h (.bool (!(List.range vs.length).any (λi=>decide (0<i)&&q i (i-1)))) (Y (m+1) (.fn 86) [v,.fn f [] aU] h):=by
 by_cases h0:vs.length=0
 · refine Xf m v f aU h ⟨0,by rw[<-h0];exact aC.len (t:=63) (e:=9) (by kernel_rfl),Int.negSucc 0,by kernel_rfl,?_⟩
   refine a3.loop (by kernel_rfl) (λk st=>∃Γ,st=⟨Γ,[],.none,h⟩/\b_ [(0,v),(1,.fn f [] aU),(5,.int .i64 (Int.negSucc 0))] Γ) ?_ 1 _ (by omega) ⟨_,rfl,rfl,rfl,rfl,trivial⟩
   rintro k st ⟨Γ,rfl,cQ⟩
   exact a3.pre (Xh (Y m) v f aU h ⟨rfl,h,_,rfl,rfl,trivial,cP.of (ia (by rw[h0];rfl)) (Ext.refl _ _)⟩) cQ rfl rfl rfl
 · refine Xe m v f aU h ⟨vs.length,aC.len (t:=63) (e:=9) (by kernel_rfl),⟨by omega,by omega⟩,?_⟩
   refine a3.loop (by kernel_rfl) (λk st=>∃i x Γ,st=⟨Γ,[],.none,x⟩/\b_ [(0,v),(1,.fn f [] aU),(5,.int .i64 (Int.ofNat i))] Γ/\i=k/\i<vs.length/\Ext B h x/\∀j,i<j->j<vs.length->q j (j-1)=false) ?_ (vs.length-1) _ (by omega) ⟨vs.length-1,h,_,rfl,⟨rfl,rfl,rfl,trivial⟩,by omega,by omega,Ext.refl _ _,λj aJ po=>by omega⟩
   rintro k st ⟨i,x,Γ,rfl,cQ,aq,af,aa,aM⟩
   rcases aC with⟨rfl,rfl⟩|⟨b,off,cp,rfl,ae,aw,aK,ao⟩
   · simp at h0
   · refine a3.pre (Xg (Y m) b off _ i f aU cp x ⟨λab=>?_,λab=>?_⟩) cQ rfl rfl rfl
     · have aj:=aa.h_ (k:=12)
       obtain⟨g,aH,bC⟩:=hf i (i-1) af (by omega) _ aj
       have al:=aj.trans (Nat.le_refl _) bC
       refine⟨af,_,iZ aj ae (aw i af),⟨by omega,by omega⟩,by omega,_,iZ aj ae (aw (i-1) (by omega)),_,g,aH,mm hH,eH i af,eH (i-1) (by omega),λag=>?_,λag=>?_⟩
       · have oO:q i (i-1)=true:=by
           cases qD:q i (i-1) with
           |true=>rfl
           |false=>rw[qD] at ag;exact absurd ag (by decide)
         exact .inr ⟨g,_,rfl,rfl,⟨rfl,trivial⟩,cP.of (ia (by rw[wo af (by simp[ab,oO])];rfl)) al⟩
       · have oO:q i (i-1)=false:=by
           cases qD:q i (i-1) with
           |false=>rfl
           |true=>rw[qD] at ag;exact absurd ag (by decide)
         refine⟨⟨by omega,by omega⟩,_,(by show _<k;omega),i-1,g,_,rfl,⟨rfl,rfl,rfl,trivial⟩,rfl,by omega,al,λj aJ po=>?_⟩
         by_cases e:j=i
         · rw[e];exact oO
         · exact aM j (by omega) po
     · refine .inl ⟨x,_,rfl,rfl,trivial,cP.of (ia ?_) aa⟩
       rw[sq (λj aJ=>?_)];rfl
       by_cases e:0<j
       · rw[aM j (by omega) aJ,Bool.and_false]
       · simp[e]
theorem Mb(m:Nat){B:Nat}{h:J}{v:I}{vs:List I}(f:Nat)(aU:List I)(q:Nat->Bool)(aC:db B h v vs)(hlen:vs.length<=90000)(hf:∀i (af:i<vs.length) x,Ext B h x->cP B x (.bool (q i)) (Y m (.fn f) (vs[i]::aU) x)):
  cP B h (.bool ((List.range vs.length).any q)) (Y (m+2) (.fn 63) [v,.fn f [] aU] h):=by
 refine Xp (m+1) v f aU h ?_
 have key:∃i g,Y (m+1) (.fn 82) [v,.fn f [] aU] h=.ret (.int .i64 i) g/\fh (Int.ofNat 0) i=(List.range vs.length).any q/\Ext B h g:=by
  refine Xq m v f aU h (R:=λx=>∃i g,x=.ret (.int .i64 i) g/\fh (Int.ofNat 0) i=(List.range vs.length).any q/\Ext B h g) ⟨vs.length,aC.len (t:=50) (e:=35) (by kernel_rfl),?_⟩
  refine a3.loop (by kernel_rfl) (λk st=>∃i x Γ,st=⟨Γ,[],.none,x⟩/\b_ [(0,v),(1,.fn f [] aU),(7,.int .i64 (Int.ofNat vs.length)),(8,.int .i64 (Int.ofNat i))] Γ/\vs.length-i=k/\i<=vs.length/\Ext B h x/\∀j,j<i->q j=false) ?_ vs.length _ (by omega) ⟨0,h,_,rfl,⟨rfl,rfl,rfl,rfl,trivial⟩,by omega,by omega,Ext.refl _ _,λj aJ=>by omega⟩
  rintro k st ⟨i,x,Γ,rfl,cQ,aq,af,aa,aM⟩
  rcases aC with⟨rfl,rfl⟩|⟨b,off,cp,rfl,ae,aw,aK,ao⟩
  · exact a3.pre (Xs (Y m) _ i f aU _ x ⟨by simp,.inl ⟨x,_,rfl,rfl,trivial,_,x,rfl,rfl,aa⟩⟩) cQ rfl rfl rfl
  · refine a3.pre (Xr (Y m) b off _ i f aU cp x ⟨λab=>⟨ab,_,iZ aa ae (aw i ab),?_⟩,λab=>?_⟩) cQ rfl rfl rfl
    · obtain⟨g,aH,bC⟩:=hf i ab x aa
      have al:=aa.trans (Nat.le_refl _) bC
      refine⟨q i,g,aH,λag=>?_,λag=>?_⟩
      · exact .inr ⟨i,g,_,rfl,rfl,⟨rfl,trivial⟩,_,g,rfl,by rw[wo ab ag];exact mT (by omega),al⟩
      · refine⟨by omega,_,(by show _<k;omega),i+1,g,_,rfl,⟨rfl,rfl,rfl,rfl,trivial⟩,rfl,by omega,al,λj aJ=>?_⟩
        by_cases e:j=i
        · rw[e];exact ag
        · exact aM j (by omega)
    · exact .inl ⟨x,_,rfl,rfl,trivial,_,x,rfl,by rw[sq (λj aJ=>aM j (by omega))];rfl,aa⟩
 obtain⟨i,g,aH,aA,bC⟩:=key
 exact⟨i,g,aH,cP.of (ia aA.symm) bC⟩
theorem XN(m:Nat){B:Nat}{h:J}{v:I}{vs:List I}(f:Nat)(aU:List I)(q:Nat->Nat->Bool)(aC:db B h v vs)(hlen:vs.length<=90000)(hH:jL aU=true)(eH:∀i (af:i<vs.length),I.sound vs[i]=true)(hf:∀i j (af:i<vs.length) (aJ:j<vs.length) x,Ext B h x->cP B x (.int .i64 (if q i j then Int.negSucc 0 else Int.ofNat 1)) (Y m (.fn f) (vs[i]::vs[j]::aU) x)):
  cP B h (.bool (!(List.range vs.length).any (λi=>decide (0<i)&&q i (i-1)))) (Y (m+1) (.fn 90) [v,.fn f [] aU] h):=by
 by_cases h0:vs.length=0
 · refine Xu m v f aU h ⟨0,by rw[<-h0];exact aC.len (t:=50) (e:=35) (by kernel_rfl),Int.negSucc 0,by kernel_rfl,?_⟩
   refine a3.loop (by kernel_rfl) (λk st=>∃Γ,st=⟨Γ,[],.none,h⟩/\b_ [(0,v),(1,.fn f [] aU),(5,.int .i64 (Int.negSucc 0))] Γ) ?_ 1 _ (by omega) ⟨_,rfl,rfl,rfl,rfl,trivial⟩
   rintro k st ⟨Γ,rfl,cQ⟩
   exact a3.pre (Xw (Y m) v f aU h ⟨rfl,h,_,rfl,rfl,trivial,cP.of (ia (by rw[h0];rfl)) (Ext.refl _ _)⟩) cQ rfl rfl rfl
 · refine Xt m v f aU h ⟨vs.length,aC.len (t:=50) (e:=35) (by kernel_rfl),⟨by omega,by omega⟩,?_⟩
   refine a3.loop (by kernel_rfl) (λk st=>∃i x Γ,st=⟨Γ,[],.none,x⟩/\b_ [(0,v),(1,.fn f [] aU),(5,.int .i64 (Int.ofNat i))] Γ/\i=k/\i<vs.length/\Ext B h x/\∀j,i<j->j<vs.length->q j (j-1)=false) ?_ (vs.length-1) _ (by omega) ⟨vs.length-1,h,_,rfl,⟨rfl,rfl,rfl,trivial⟩,by omega,by omega,Ext.refl _ _,λj aJ po=>by omega⟩
   rintro k st ⟨i,x,Γ,rfl,cQ,aq,af,aa,aM⟩
   rcases aC with⟨rfl,rfl⟩|⟨b,off,cp,rfl,ae,aw,aK,ao⟩
   · simp at h0
   · refine a3.pre (Xv (Y m) b off _ i f aU cp x ⟨λab=>?_,λab=>?_⟩) cQ rfl rfl rfl
     · have aj:=aa.h_ (k:=12)
       obtain⟨g,aH,bC⟩:=hf i (i-1) af (by omega) _ aj
       have al:=aj.trans (Nat.le_refl _) bC
       refine⟨af,_,iZ aj ae (aw i af),⟨by omega,by omega⟩,by omega,_,iZ aj ae (aw (i-1) (by omega)),_,g,aH,mm hH,eH i af,eH (i-1) (by omega),λag=>?_,λag=>?_⟩
       · have oO:q i (i-1)=true:=by
           cases qD:q i (i-1) with
           |true=>rfl
           |false=>rw[qD] at ag;exact absurd ag (by decide)
         exact .inr ⟨g,_,rfl,rfl,⟨rfl,trivial⟩,cP.of (ia (by rw[wo af (by simp[ab,oO])];rfl)) al⟩
       · have oO:q i (i-1)=false:=by
           cases qD:q i (i-1) with
           |false=>rfl
           |true=>rw[qD] at ag;exact absurd ag (by decide)
         refine⟨⟨by omega,by omega⟩,_,(by show _<k;omega),i-1,g,_,rfl,⟨rfl,rfl,rfl,trivial⟩,rfl,by omega,al,λj aJ po=>?_⟩
         by_cases e:j=i
         · rw[e];exact oO
         · exact aM j (by omega) po
     · refine .inl ⟨x,_,rfl,rfl,trivial,cP.of (ia ?_) aa⟩
       rw[sq (λj aJ=>?_)];rfl
       by_cases e:0<j
       · rw[aM j (by omega) aJ,Bool.and_false]
       · simp[e]
end Go.Proofs.cG
namespace Go.Proofs.cG
open Go aP Go.Proofs c8
set_option maxRecDepth 100000
set_option maxHeartbeats 1000000
theorem Mc{n:Nat}(h:¬n<2):2<=n:=by omega
theorem y4{P:Program}{h:J}{T E b n k:Nat}(hu:P.underlying T=some (.slice E))(hs:dn P E=some 1)(h0:0<k)(aq:k<n):di P h T (.slice b 0 n (.a1 1)) (some (.int .i64 (Int.ofNat k))) none none=some (.slice b (0+k*1) (n-k) (.a1 1)):=by
 have bo:Nat.ble n n=true:=by rw[Nat.ble_eq];omega
 have bG:Nat.ble k n=true:=by rw[Nat.ble_eq];omega
 have ed:Nat.blt k n=true:=by rw[Nat.blt_eq];exact aq
 have c9:¬k=0:=by omega
 simp only[di,hu,hs,bounds,hg,eK,bo,bG,ed,if_true,if_neg c9]
theorem BU{P:Program}{h:J}{T E b n k:Nat}(hu:P.underlying T=some (.slice E))(hs:dn P E=some 1)(aq:k<=n):di P h T (.slice b 0 n (.a1 1)) none (some (.int .i64 (Int.ofNat k))) none=some (.slice b 0 k (.a1 1)):=by
 have bo:Nat.ble n n=true:=by rw[Nat.ble_eq];omega
 have bG:Nat.ble k n=true:=by rw[Nat.ble_eq];omega
 have ed:Nat.ble 0 k=true:=by rw[Nat.ble_eq];omega
 simp only[di,hu,hs,bounds,hg,eK,bo,bG,ed,if_true,Nat.sub_zero]
theorem Md:∀a:a5,dF a a=false
 |[]=>rfl
 |x::a=>by rw[yP,if_pos rfl];exact Md a
theorem Me:∀a b:a5,dF a b=true->dF b a=false
 |[],b,h=>by cases b<;>rfl
 |x::a,[],h=>by simp[dF] at h
 |x::a,y::b,h=>by
  rw[yP] at h⊢
  by_cases e:x.toNat=y.toNat
  · rw[if_pos e] at h;rw[if_pos e.symm];exact Me a b h
  · rw[if_neg e] at h;rw[if_neg (λh=>e h.symm)]
    have:x.toNat<y.toNat:=by simpa using h
    simp;omega
theorem FQ:∀a b:a5,dF a b=false->dF b a=false->a=b
 |[],[],_,_=>rfl
 |[],y::b,h,_=>by simp[dF] at h
 |x::a,[],_,h=>by simp[dF] at h
 |x::a,y::b,ab,ad=>by
  rw[yP] at ab ad
  by_cases e:x.toNat=y.toNat
  · rw[if_pos e] at ab;rw[if_pos e.symm] at ad
    rw[FQ a b ab ad,show x=y from UInt8.toNat_inj.1 e]
  · rw[if_neg e] at ab;rw[if_neg (λh=>e h.symm)] at ad
    simp at ab ad;omega
theorem Mf(a b:a5):dF a b=(!dF b a&&!dK b a):=by
 by_cases e:b=a
 · subst e;rw[Md,Kp];rfl
 · have ae:dK b a=false:=by
     cases aa:dK b a with
     |false=>rfl
     |true=>exact absurd (by simpa[oe] using aa) e
   rw[ae]
   cases ab:dF a b with
   |true=>rw[Me a b ab];rfl
   |false=>
    cases ad:dF b a with
    |true=>rfl
    |false=>exact absurd (FQ a b ab ad).symm e
def pY(w:Nat->a5)(n:Nat):Bool:=!(List.range n).any (λi=>decide (0<i)&&!dF (w (i-1)) (w i))
theorem Mg(w:Nat->a5)(n:Nat)(hs:(!(List.range n).any (λi=>decide (0<i)&&dF (w i) (w (i-1))))=true):pY w n=(!(List.range n).any (λi=>decide (0<i)&&dK (w i) (w (i-1)))):=by
 unfold pY
 congr 1
 rw[Bool.not_eq_true',List.any_eq_false] at hs
 rw[Bool.eq_iff_iff,List.any_eq_true,List.any_eq_true]
 refine exists_congr λi=>and_congr_right λaf=>?_
 have:=hs i af
 rw[Mf (w (i-1)) (w i)]
 by_cases e:0<i
 · have aw:dF (w i) (w (i-1))=false:=by simpa[e] using this
   rw[aw];simp[e]
 · simp[e]
theorem Mh(w:Nat->a5)(n:Nat)(hs:(!(List.range n).any (λi=>decide (0<i)&&dF (w i) (w (i-1))))=false):pY w n=false:=by
 unfold pY
 rw[Bool.not_eq_false',List.any_eq_true] at hs⊢
 obtain⟨i,af,aM⟩:=hs
 refine⟨i,af,?_⟩
 rw[Mf (w (i-1)) (w i)]
 simp only[Bool.and_eq_true] at aM⊢
 rw[aM.2];exact⟨aM.1,rfl⟩
def y5(L vs:List I):Prop:=∀i (af:i<L.length),∃s,∃hs:s<vs.length,L[i]=vs[s]
theorem y5.set{L vs:List I}(h:y5 L vs)(k:Nat){s:Nat}(hs:s<vs.length):y5 (L.set k vs[s]) vs:=by
 intro i af
 rw[List.getElem_set]
 split
 · exact⟨s,hs,rfl⟩
 · exact h i (by simpa using af)
theorem Mi{a:Bool}{n k:Nat}(h:a=decide (k=n)):a_ (Int.ofNat k) (Int.ofNat n)=a:=by rw[ur,h]
theorem Mj{E U:Nat}{h:J}{v:I}{vs:List I}{a:Nat}(hu:Tryz.prog.underlying U=some (.slice E))(fD:o4 Tryz.prog (some U)=true){i:TypeInfo}{z:I}(af:Tryz.prog.info? E=some i)(bx:i.size=1)(nF:i.bytes<=1000)(a2:ei Tryz.prog E=some z)(ik:z.cells.length=1)(aC:fV h 1 v=some (vs.length,vs))(h0:0<vs.length)(aw:vs.length<=90000)(ag:vs.all I.cT=true)(aT:h.get a=some (.cells [] E .own 0 0)):
  dt Tryz.prog h U (some U) (.slice a 0 0 (.exact 0)) v=some (.slice h.n 0 vs.length (.a1 1),h.push (.cells vs E .a1 0 0)):=by
 obtain⟨k,aq⟩:∃k,vs.length=k+1:=⟨vs.length-1,by omega⟩
 have hmul:(4*(0+(k+1))+2048)*(i.bytes+1)<=(4*90000+2048)*1001:=Nat.mul_le_mul (by omega) (by omega)
 have iY:ku h E i.bytes 1 (0+(k+1)) z ([]++vs) 0=some (.slice h.n 0 (0+(k+1)) (.a1 1),h.push (.cells ([]++vs) E .a1 0 0)):=
  vE (by unfold kW;rw[Nat.ble_eq];omega) (by rw[ik];rfl) (by rw[List.nil_append];exact ag)
 have oD:Nat.ble (0+(k+1)) 0=false:=by
  cases aa:Nat.ble (0+(k+1)) 0 with
  |false=>rfl
  |true=>have:=Nat.le_of_ble_eq_true aa;omega
 have fp:aP.loadCells h a 0 (0*1)=some []:=by simp only[aP.loadCells,aT];rfl
 rw[aq] at aC
 simp only[dt,hu,fD,af,a2,bx,aC,aq,oD,fp,iY]
 rw[List.nil_append,Nat.zero_add]
theorem Mk(m:Nat){B:Nat}{h:J}{v:I}{vs:List I}(cM:B<=h.n)(aC:db B h v vs)(hlen:vs.length<=90000)(ag:vs.all I.cT=true):(v=.a0/\vs=[]/\Y (m+1) (.fn 38) [v] h=.ret .a0 h)\/(0<vs.length/\∃b an,Y (m+1) (.fn 38) [v] h=.ret (.slice b 0 vs.length (.a1 1)) an/\B<=b/\b<an.n/\h1 an b 9 vs/\Ext B h an):=by
 rcases aC with⟨rfl,rfl⟩|⟨b,off,cp,rfl,ae,aw,aK,ao⟩
 · exact .inl ⟨rfl,rfl,Xn m h (R:=λx=>x=.ret .a0 h) rfl⟩
 · right
   refine⟨aK,?_⟩
   obtain⟨H,cl⟩:∃H,H=h.push (.cells [] 9 .own 0 0):=⟨_,rfl⟩
   have dE:Ext B h H:=by rw[cl];exact Ext.push cM _
   have lg:H.n=h.n+1:=by rw[cl];rfl
   have fD:=db.src (B:=B) (h:=H) (λi af=>iZ dE ae (aw i af)) aK ao
   obtain⟨i,af⟩:=Option.isSome_iff_exists.1 (show(Tryz.prog.info? 9).isSome=true by kernel_rfl)
   have bx:i.size=1:=by
    have:(Tryz.prog.info? 9).map (·.size)=some 1:=by kernel_rfl
    rw[af] at this;simpa using this
   have nF:i.bytes<=1000:=by
    have:(Tryz.prog.info? 9).map (λi=>Nat.ble i.bytes 1000)=some true:=by kernel_rfl
    rw[af] at this;exact Nat.le_of_ble_eq_true (by simpa using this)
   obtain⟨z,a2⟩:=Option.isSome_iff_exists.1 (show(ei Tryz.prog 9).isSome=true by kernel_rfl)
   have ik:z.cells.length=1:=by
    have:(ei Tryz.prog 9).map (λz=>z.cells.length)=some 1:=by kernel_rfl
    rw[a2] at this;simpa using this
   have ap:=Mj (U:=63) (E:=9) (a:=h.n) (by kernel_rfl) (by kernel_rfl) af bx nF a2 ik fD aK hlen ag (by rw[cl];exact fo rfl)
   refine Xm m b off vs.length cp h (R:=λx=>∃b an,x=.ret (.slice b 0 vs.length (.a1 1)) an/\B<=b/\b<an.n/\h1 an b 9 vs/\Ext B h an) ?_
   rw[<-cl]
   exact⟨_,_,ap,_,_,rfl,by omega,by simp,fo rfl,dE.trans (Nat.le_refl _) (Ext.push (Nat.le_trans cM dE.n) _)⟩
theorem XO(m:Nat){B b K f:Nat}{h:J}{vs:List I}(aU:List I)(q:Nat->Nat->Bool)(hlen:vs.length<=90000)(kP:B<=b)(dk:1<=K)(XP:K<vs.length)(hH:jL aU=true)(eH:∀i (af:i<vs.length),I.sound vs[i]=true)(kF:∀i (af:i<vs.length),∃z:List UInt8,vs[i]=(.str z))(hf:∀i j (af:i<vs.length) (aJ:j<vs.length) x,Ext B h x->cP x.n x (.bool (q i j)) (Y m (.fn f) (vs[i]::vs[j]::aU) x))
  {g:J}(ae:b<g.n)(a4:h1 g b 9 vs)(aa:Ext B h g){Γ:Env}(cQ:b_ [(0,.slice b 0 vs.length (.a1 1)),(1,.fn f [] aU),(5,.int .i64 (Int.ofNat K)),(6,.slice b (0+K*1) (vs.length-K) (.a1 1)),(7,.int .i64 (Int.ofNat 1))] Γ):
  a3 Tryz.prog Tryz.f88 (Y m) [1,1,0,1,0,0,1,0,0,1,0,1,0,1,0] ⟨Γ,[],.none,g⟩ (λb9 cj=>∃(bY:Nat) (ax:J) (cq:Env),b9=.exit 2/\cj=⟨cq,[],.none,ax⟩/\b_ [(0,.slice b 0 vs.length (.a1 1)),(5,.int .i64 (Int.ofNat bY))] cq/\K<=bY/\bY<vs.length/\b<ax.n/\Ext B h ax/\∃L,h1 ax b 9 L/\L.length=vs.length):=by
 refine a3.loop (by kernel_rfl) (λt st=>∃j k L x Γ,st=⟨Γ,[],.none,x⟩/\b_ [(0,.slice b 0 vs.length (.a1 1)),(1,.fn f [] aU),(5,.int .i64 (Int.ofNat k)),(6,.slice b (0+K*1) (vs.length-K) (.a1 1)),(7,.int .i64 (Int.ofNat j))] Γ/\(vs.length-K)-j=t/\1<=j/\j<=vs.length-K/\K<=k/\k+1<=K+j/\b<x.n/\h1 x b 9 L/\L.length=vs.length/\y5 L vs/\Ext B h x) ?_ (vs.length-K-1) _ (by omega) ⟨1,K,vs,g,Γ,rfl,cQ,by omega,by omega,by omega,by omega,by omega,ae,a4,rfl,λi af=>⟨i,af,rfl⟩,aa⟩
 rintro t st ⟨j,k,L,x,Γ,rfl,cQ,ba,aJ,C5,aq,DW,ss,q0,ha,m6,j4⟩
 refine a3.pre (Xl (Y m) b _ k f (0+K*1) _ j aU x ⟨λab=>?_,λab=>?_⟩) cQ rfl rfl rfl
 · have aj:=j4.h_ (k:=12)
   have lG:h1 (x.room 12) b 9 L:=q0
   have i1:K+j<L.length:=by omega
   have i2:K+j-1<L.length:=by omega
   obtain⟨s,hs,es⟩:=m6 (K+j) i1
   obtain⟨bc,dv,rH⟩:=m6 (K+j-1) i2
   obtain⟨ai,aH,bC⟩:=hf s bc hs dv _ aj
   have dZ:=aj.trans (Nat.le_refl _) (bC.le (show B<=(x.room 12).n by simp;omega))
   have oP:b<(x.room 12).n:=by simp;omega
   have m7:h1 ai b 9 L:=(bC.get b oP).trans lG
   have q1:b<ai.n:=Nat.lt_of_lt_of_le oP bC.n
   obtain⟨z,a2⟩:=kF s hs
   refine⟨ab,_,(lG.nZ i1 (by omega)).trans (by rw[es]),⟨by omega,by omega⟩,by omega,_,(lG.nZ i2 (by omega)).trans (by rw[rH]),_,ai,aH,mm hH,eH s hs,eH bc dv,λag=>?_,λag=>?_⟩
   · exact⟨by omega,_,(by show _<t;omega),j+1,k,L,ai,_,rfl,⟨rfl,rfl,rfl,rfl,rfl,trivial⟩,rfl,by omega,by omega,by omega,by omega,q1,m7,ha,m6,dZ⟩
   · have ct:aP.storeCells ai b (0+k*1) [(.str z)]=some (ai.set b (some (.cells (L.set k (.str z)) 9 .a1 0 0))):=
       gS m7 (Bl _ _) (by rw[show 0+k*1=k by omega];exact FP _ rfl L k (by omega))
     refine⟨ab,z,(m7.nZ i1 (by omega)).trans (by rw[es,a2]),by omega,_,ct,by omega,by omega,_,(by show _<t;omega),j+1,k+1,L.set k (.str z),_,_,rfl,⟨rfl,rfl,rfl,rfl,rfl,trivial⟩,rfl,by omega,by omega,by omega,by omega,by simp;omega,gR rfl,by simpa using ha,?_,Ext.iX kP dZ⟩
     rw[<-a2]
     exact m6.set k hs
 · exact⟨k,x,_,rfl,rfl,⟨rfl,rfl,trivial⟩,aq,by omega,ss,j4,L,q0,ha⟩
theorem XQ(m:Nat){B b f:Nat}{h:J}{vs:List I}(aU:List I)(q:Nat->Nat->Bool)(hlen:vs.length<=90000)(kP:B<=b)(hH:jL aU=true)(eH:∀i (af:i<vs.length),I.sound vs[i]=true)(kF:∀i (af:i<vs.length),∃z:List UInt8,vs[i]=(.str z))(hf:∀i j (af:i<vs.length) (aJ:j<vs.length) x,Ext B h x->cP x.n x (.bool (q i j)) (Y m (.fn f) (vs[i]::vs[j]::aU) x))
  (ae:b<h.n)(a4:h1 h b 9 vs):
  ∃w g k,Y (m+1) (.fn 88) [.slice b 0 vs.length (.a1 1),.fn f [] aU] h=.ret w g/\cc Tryz.prog g 63 w=some (.int .i64 (Int.ofNat k))/\(!(List.range vs.length).any (λi=>decide (0<i)&&q i (i-1)))=decide (k=vs.length)/\Ext B h g:=by
 refine L9 m (.slice b 0 vs.length (.a1 1)) f aU h (R:=λx=>∃w g k,x=.ret w g/\cc Tryz.prog g 63 w=some (.int .i64 (Int.ofNat k))/\(!(List.range vs.length).any (λi=>decide (0<i)&&q i (i-1)))=decide (k=vs.length)/\Ext B h g) ⟨vs.length,by rfl,λad=>?_,λad=>?_⟩
 · refine⟨_,h,vs.length,rfl,by rfl,?_,Ext.refl _ _⟩
   rw[sq (λj aJ=>by simp[show¬0<j by omega])];simp
 · replace ad:=Mc ad
   refine a3.loop (by kernel_rfl) (λt st=>∃k x Γ,st=⟨Γ,[],.none,x⟩/\b_ [(0,.slice b 0 vs.length (.a1 1)),(1,.fn f [] aU),(5,.int .i64 (Int.ofNat k))] Γ/\vs.length-k=t/\1<=k/\k<=vs.length/\b<x.n/\h1 x b 9 vs/\Ext B h x/\∀j,0<j->j<k->q j (j-1)=false) ?_ (vs.length-1) _ (by omega) ⟨1,h,_,rfl,⟨rfl,rfl,rfl,trivial⟩,by omega,by omega,by omega,ae,a4,Ext.refl _ _,λj aJ po=>by omega⟩
   rintro t st ⟨k,x,Γ,rfl,cQ,ba,aq,uc,ss,q0,j4,aM⟩
   refine a3.pre (Xk (Y m) b _ k f aU x ⟨λab=>?_,λab=>?_⟩) cQ rfl rfl rfl
   · have aj:=j4.h_ (k:=11)
     have lG:h1 (x.room 11) b 9 vs:=q0
     obtain⟨ai,aH,bC⟩:=hf k (k-1) ab (by omega) _ aj
     have dZ:=aj.trans (Nat.le_refl _) (bC.le (show B<=(x.room 11).n by simp;omega))
     have oP:b<(x.room 11).n:=by simp;omega
     have m7:h1 ai b 9 vs:=(bC.get b oP).trans lG
     have q1:b<ai.n:=Nat.lt_of_lt_of_le oP bC.n
     refine⟨ab,_,lG.nZ ab (by omega),⟨by omega,by omega⟩,by omega,_,lG.nZ (by omega) (by omega),_,ai,aH,mm hH,eH k ab,eH (k-1) (by omega),λag=>?_,λag=>?_⟩
     · have s2:di Tryz.prog ai 63 (.slice b 0 vs.length (.a1 1)) (some (.int .i64 (Int.ofNat k))) none none=some (.slice b (0+k*1) (vs.length-k) (.a1 1)):=y4 (E:=9) (by kernel_rfl) (by kernel_rfl) (by omega) ab
       refine⟨_,_,_,_,s2,?_⟩
       refine a3.mono (XO m aU q hlen kP aq ab hH eH kF hf q1 m7 dZ ⟨rfl,rfl,rfl,rfl,rfl,trivial⟩) ?_
       rintro b9 cj ⟨bY,ax,cq,rfl,rfl,oQ,xU,FR,fB,qV,L,ha,BV⟩
       refine⟨_,_,_,_,bY,ax,cq,rfl,rfl,oQ,_,_,_,_,y4 (E:=9) (by kernel_rfl) (by kernel_rfl) (by omega) FR,?_⟩
       obtain⟨z,a2⟩:=Option.isSome_iff_exists.1 (show(ei Tryz.prog 9).isSome=true by kernel_rfl)
       have ik:z.cells.length=1/\z.cells.all I.cT=true:=by
        have ab:(ei Tryz.prog 9).map (λz=>z.cells.length)=some 1:=by kernel_rfl
        have ad:(ei Tryz.prog 9).map (λz=>z.cells.all I.cT)=some true:=by kernel_rfl
        rw[a2] at ab ad;exact⟨by simpa using ab,by simpa using ad⟩
       have pZ:∀n,(fi n z.cells).length=n/\(fi n z.cells).all I.cT=true:=by
        intro n
        induction n with
        |zero=>exact⟨rfl,rfl⟩
        |succ n a7=>simp only[fi,List.length_append,List.all_append,a7.1,a7.2,ik.1,ik.2];exact⟨by omega,rfl⟩
       obtain⟨sr,eF,fs⟩:=Ma (fi (vs.length-bY) z.cells) (pZ _).2 L (0+bY*1) (by rw[(pZ _).1,BV];omega)
       have ct:aP.storeCells ax b (0+bY*1) (fi (vs.length-bY) z.cells)=some (ax.set b (some (.cells sr 9 .a1 0 0))):=gS ha (Bl _ _) eF
       have hQ:o5 Tryz.prog ax 63 (.slice b (0+bY*1) (vs.length-bY) (.a1 1))=some (.aQ [],ax.set b (some (.cells sr 9 .a1 0 0))):=by
        have hu:Tryz.prog.underlying 63=some (.slice 9):=by kernel_rfl
        simp only[o5,hu,a2,ct]
        rw[if_neg (by omega)]
       refine⟨_,hQ,_,BU (E:=9) (by kernel_rfl) (by kernel_rfl) (by omega),.inr ⟨_,_,_,rfl,rfl,⟨rfl,trivial⟩,_,_,bY,rfl,by rfl,?_,Ext.iX kP qV⟩⟩
       rw[wo ab (by rw[ag];simp;omega)]
       simp;omega
     · exact⟨by omega,_,(by show _<t;omega),k+1,ai,_,rfl,⟨rfl,rfl,rfl,trivial⟩,rfl,by omega,by omega,q1,m7,dZ,λj aJ po=>by
        by_cases e:j=k
        · rw[e];exact ag
        · exact aM j aJ (by omega)⟩
   · refine .inl ⟨_,x,_,rfl,rfl,⟨rfl,trivial⟩,_,_,vs.length,rfl,by rfl,?_,j4⟩
     rw[sq (λj aJ=>?_)]
     · simp
     · by_cases e:0<j
       · rw[aM j e (by omega),Bool.and_false]
       · simp[e]
theorem XR(m:Nat){B:Nat}{h:J}{v:I}{vs:List I}(f:Nat)(aU:List I)(w:Nat->a5)(cM:B<=h.n)(aC:db B h v vs)(hlen:vs.length<=90000)(hH:jL aU=true)(eH:∀i (af:i<vs.length),I.sound vs[i]=true)(kF:∀i (af:i<vs.length),∃z:List UInt8,vs[i]=(.str z))(m6:∀i (af:i<vs.length) x,Ext B h x->cP x.n x (.str (w i)) (Y m (.fn f) (vs[i]::aU) x)):
  cP B h (.bool (pY w vs.length)) (Y (m+3) (.fn 68) [v,.fn f [] aU] h):=by
 refine Xo (m+2) v f aU h ?_
 obtain⟨H,cl⟩:∃H,H=h.push (.cells [.fn f [] aU] 114 .own 0 0):=⟨_,rfl⟩
 rw[<-cl]
 have dE:Ext B h H:=by rw[cl];exact Ext.push cM _
 have lg:H.n=h.n+1:=by rw[cl];rfl
 have uv:B<=H.n:=Nat.le_trans cM dE.n
 have qx:H.get h.n=some (.cells [.fn f [] aU] 114 .own 0 0):=by rw[cl];exact fo rfl
 have j5:∀i (af:i<vs.length) x,Ext H.n H x->∃g,Y m (.fn f) (vs[i]::aU) x=.ret (.str (w i)) g/\Ext x.n x g:=λi af x aa=>m6 i af x (dE.trans uv aa)
 have q2:db H.n H v vs:=(aC.b8 (gU.ext dE (Nat.le_refl _))).le (Nat.le_trans cM dE.n)
 have fy:∀x,Ext H.n H x->au x h.n 0=some (.fn f [] aU):=λx aa=>aV ((aa.get h.n (by omega)).trans qx) rfl
 obtain⟨g,aH,bC⟩:=XM (m+1) (B:=H.n) (h:=H) (v:=v) (vs:=vs) 87 [.ptr h.n 0] (λi j=>dF (w i) (w j)) q2 hlen rfl eH (λi j af aJ x aa=>by
  have aj:Ext H.n H (x.room 7):=aa.h_
  obtain⟨ai,aH,bC⟩:=j5 i af _ aj
  have hc:Ext H.n H ai:=aj.trans aj.n bC
  obtain⟨ax,a9,c0⟩:=j5 j aJ _ hc
  refine Xi m vs[i] vs[j] h.n f aU x ⟨fy _ aj,_,ai,aH,fy _ hc,_,ax,a9,mm hH,eH i af,mm hH,fy _ aj,eH j aJ,λag=>?_,λag=>?_⟩
  · exact cP.of (by rw[ag];rfl) ((hc.trans hc.n c0).le (Nat.le_refl _)|> λe=>by have c9:Ext H.n x ax:=⟨by have a:=bC.n;have b:=c0.n;simp at a;omega,λb ae=>by rw[(hc.trans hc.n c0).get b ae,aa.get b ae]⟩;exact c9)
  · exact cP.of (by rw[ag];rfl) ((hc.trans hc.n c0).le (Nat.le_refl _)|> λe=>by have c9:Ext H.n x ax:=⟨by have a:=bC.n;have b:=c0.n;simp at a;omega,λb ae=>by rw[(hc.trans hc.n c0).get b ae,aa.get b ae]⟩;exact c9))
 have oN:Ext B h g:=dE.trans uv bC
 refine⟨rfl,_,g,aH,λhs=>?_,λhs=>?_⟩
 · have lR:vs.all I.cT=true:=by
     rw[List.all_eq_true]
     intro x aa
     obtain⟨i,af,rfl⟩:=List.getElem_of_mem aa
     obtain⟨z,a2⟩:=kF i af
     rw[a2];rfl
   have FT:db H.n g v vs:=q2.b8 (gU.ext bC (Nat.le_refl _))
   have fin:∀v2 ax b,Y (m+2) (.fn 38) [v] g=.ret v2 ax->v2=.slice b 0 vs.length (.a1 1)->H.n<=b->b<ax.n->h1 ax b 9 vs->Ext H.n g ax->∃(v2:I) (ax:J),Y (m+2) (.fn 38) [v] g=.ret v2 ax/\∃(w':I) (aB:J),Y (m+2) (.fn 88) [v2,.fn 89 [] [.ptr h.n 0]] ax=.ret w' aB/\∃(k:Nat),cc Tryz.prog aB 63 w'=some (.int .i64 (Int.ofNat k))/\∃(n:Nat),cc Tryz.prog aB 63 v=some (.int .i64 (Int.ofNat n))/\cP B h (.bool (pY w vs.length)) (.ret (.bool (a_ (Int.ofNat k) (Int.ofNat n))) aB):=by
    intro v2 ax b a9 ay ae fB a4 c0
    subst ay
    have y6:Ext H.n H ax:=bC.trans (Nat.le_refl _) c0
    obtain⟨w',aB,k,du,cU,bw,dU⟩:=XQ (m+1) (B:=H.n) (h:=ax) (vs:=vs) (f:=89) [.ptr h.n 0] (λi j=>dK (w i) (w j)) hlen ae rfl eH kF (λi j af aJ x aa=>by
     have j4:Ext H.n H x:=y6.trans (Nat.le_refl _) aa
     have aj:Ext H.n H (x.room 8):=j4.h_
     obtain⟨ai,aH,ju⟩:=j5 i af _ aj
     have hc:Ext H.n H ai:=aj.trans aj.n ju
     obtain⟨ax,a9,eN⟩:=j5 j aJ _ hc
     refine Xj m vs[i] vs[j] h.n f aU x ⟨fy _ aj,_,ai,aH,fy _ hc,_,ax,a9,mm hH,eH i af,mm hH,fy _ aj,eH j aJ,cP.of rfl ?_⟩
     refine⟨by have a:=ju.n;have b:=eN.n;simp at a;omega,λb ae=>?_⟩
     have a:=ju.n
     simp at a
     rw[eN.get b (by omega),ju.get b (by simp;omega)];rfl) fB a4
    have y7:Ext H.n H aB:=y6.trans (Nat.le_refl _) dU
    have FU:db H.n aB v vs:=q2.b8 (gU.ext y7 (Nat.le_refl _))
    refine⟨_,ax,a9,w',aB,du,k,cU,vs.length,FU.len (t:=63) (e:=9) (by kernel_rfl),cP.of (ia ?_) (dE.trans uv y7)⟩
    rw[Mi bw]
    exact Mg w vs.length hs
   rcases Mk (m+1) (B:=H.n) (h:=g) bC.n FT hlen lR with⟨rfl,rfl,a9⟩|⟨aK,b,ax,a9,ae,fB,a4,c0⟩
   · refine⟨.a0,g,a9,.a0,g,?_,0,by rfl,0,by rfl,cP.of (ia rfl) oN⟩
     exact L9 (m+1) .a0 _ _ g (R:=λx=>x=.ret .a0 g) ⟨0,by rfl,λ_=>rfl,λaN=>absurd (by omega) aN⟩
   · exact fin _ ax b a9 rfl ae fB a4 c0
 · refine cP.of (ia ?_) oN
   exact Mh w vs.length hs
theorem XS(m:Nat){B:Nat}{h:J}{v:I}{vs:List I}(cM:B<=h.n)(aC:db B h v vs)(hlen:vs.length<=90000)(ag:vs.all I.cT=true):(v=.a0/\vs=[]/\Y (m+1) (.fn 93) [v] h=.ret .a0 h)\/(0<vs.length/\∃b an,Y (m+1) (.fn 93) [v] h=.ret (.slice b 0 vs.length (.a1 1)) an/\B<=b/\b<an.n/\h1 an b 35 vs/\Ext B h an):=by
 rcases aC with⟨rfl,rfl⟩|⟨b,off,cp,rfl,ae,aw,aK,ao⟩
 · exact .inl ⟨rfl,rfl,XC m h (R:=λx=>x=.ret .a0 h) rfl⟩
 · right
   refine⟨aK,?_⟩
   obtain⟨H,cl⟩:∃H,H=h.push (.cells [] 35 .own 0 0):=⟨_,rfl⟩
   have dE:Ext B h H:=by rw[cl];exact Ext.push cM _
   have lg:H.n=h.n+1:=by rw[cl];rfl
   have fD:=db.src (B:=B) (h:=H) (λi af=>iZ dE ae (aw i af)) aK ao
   obtain⟨i,af⟩:=Option.isSome_iff_exists.1 (show(Tryz.prog.info? 35).isSome=true by kernel_rfl)
   have bx:i.size=1:=by
    have:(Tryz.prog.info? 35).map (·.size)=some 1:=by kernel_rfl
    rw[af] at this;simpa using this
   have nF:i.bytes<=1000:=by
    have:(Tryz.prog.info? 35).map (λi=>Nat.ble i.bytes 1000)=some true:=by kernel_rfl
    rw[af] at this;exact Nat.le_of_ble_eq_true (by simpa using this)
   obtain⟨z,a2⟩:=Option.isSome_iff_exists.1 (show(ei Tryz.prog 35).isSome=true by kernel_rfl)
   have ik:z.cells.length=1:=by
    have:(ei Tryz.prog 35).map (λz=>z.cells.length)=some 1:=by kernel_rfl
    rw[a2] at this;simpa using this
   have ap:=Mj (U:=50) (E:=35) (a:=h.n) (by kernel_rfl) (by kernel_rfl) af bx nF a2 ik fD aK hlen ag (by rw[cl];exact fo rfl)
   refine XB m b off vs.length cp h (R:=λx=>∃b an,x=.ret (.slice b 0 vs.length (.a1 1)) an/\B<=b/\b<an.n/\h1 an b 35 vs/\Ext B h an) ?_
   rw[<-cl]
   exact⟨_,_,ap,_,_,rfl,by omega,by simp,fo rfl,dE.trans (Nat.le_refl _) (Ext.push (Nat.le_trans cM dE.n) _)⟩
theorem XT(m:Nat){B b K f:Nat}{h:J}{vs:List I}(aU:List I)(q:Nat->Nat->Bool)(hlen:vs.length<=90000)(kP:B<=b)(dk:1<=K)(XP:K<vs.length)(hH:jL aU=true)(eH:∀i (af:i<vs.length),I.sound vs[i]=true)(kF:∀i (af:i<vs.length),∃z:Nat,vs[i]=(.ptr z 0))(hf:∀i j (af:i<vs.length) (aJ:j<vs.length) x,Ext B h x->cP x.n x (.bool (q i j)) (Y m (.fn f) (vs[i]::vs[j]::aU) x))
  {g:J}(ae:b<g.n)(a4:h1 g b 35 vs)(aa:Ext B h g){Γ:Env}(cQ:b_ [(0,.slice b 0 vs.length (.a1 1)),(1,.fn f [] aU),(5,.int .i64 (Int.ofNat K)),(6,.slice b (0+K*1) (vs.length-K) (.a1 1)),(7,.int .i64 (Int.ofNat 1))] Γ):
  a3 Tryz.prog Tryz.f92 (Y m) [1,1,0,1,0,0,1,0,0,1,0,1,0,1,0] ⟨Γ,[],.none,g⟩ (λb9 cj=>∃(bY:Nat) (ax:J) (cq:Env),b9=.exit 2/\cj=⟨cq,[],.none,ax⟩/\b_ [(0,.slice b 0 vs.length (.a1 1)),(5,.int .i64 (Int.ofNat bY))] cq/\K<=bY/\bY<vs.length/\b<ax.n/\Ext B h ax/\∃L,h1 ax b 35 L/\L.length=vs.length):=by
 refine a3.loop (by kernel_rfl) (λt st=>∃j k L x Γ,st=⟨Γ,[],.none,x⟩/\b_ [(0,.slice b 0 vs.length (.a1 1)),(1,.fn f [] aU),(5,.int .i64 (Int.ofNat k)),(6,.slice b (0+K*1) (vs.length-K) (.a1 1)),(7,.int .i64 (Int.ofNat j))] Γ/\(vs.length-K)-j=t/\1<=j/\j<=vs.length-K/\K<=k/\k+1<=K+j/\b<x.n/\h1 x b 35 L/\L.length=vs.length/\y5 L vs/\Ext B h x) ?_ (vs.length-K-1) _ (by omega) ⟨1,K,vs,g,Γ,rfl,cQ,by omega,by omega,by omega,by omega,by omega,ae,a4,rfl,λi af=>⟨i,af,rfl⟩,aa⟩
 rintro t st ⟨j,k,L,x,Γ,rfl,cQ,ba,aJ,C5,aq,DW,ss,q0,ha,m6,j4⟩
 refine a3.pre (XA (Y m) b _ k f (0+K*1) _ j aU x ⟨λab=>?_,λab=>?_⟩) cQ rfl rfl rfl
 · have aj:=j4.h_ (k:=12)
   have lG:h1 (x.room 12) b 35 L:=q0
   have i1:K+j<L.length:=by omega
   have i2:K+j-1<L.length:=by omega
   obtain⟨s,hs,es⟩:=m6 (K+j) i1
   obtain⟨bc,dv,rH⟩:=m6 (K+j-1) i2
   obtain⟨ai,aH,bC⟩:=hf s bc hs dv _ aj
   have dZ:=aj.trans (Nat.le_refl _) (bC.le (show B<=(x.room 12).n by simp;omega))
   have oP:b<(x.room 12).n:=by simp;omega
   have m7:h1 ai b 35 L:=(bC.get b oP).trans lG
   have q1:b<ai.n:=Nat.lt_of_lt_of_le oP bC.n
   obtain⟨z,a2⟩:=kF s hs
   refine⟨ab,_,(lG.nZ i1 (by omega)).trans (by rw[es]),⟨by omega,by omega⟩,by omega,_,(lG.nZ i2 (by omega)).trans (by rw[rH]),_,ai,aH,mm hH,eH s hs,eH bc dv,λag=>?_,λag=>?_⟩
   · exact⟨by omega,_,(by show _<t;omega),j+1,k,L,ai,_,rfl,⟨rfl,rfl,rfl,rfl,rfl,trivial⟩,rfl,by omega,by omega,by omega,by omega,q1,m7,ha,m6,dZ⟩
   · have ct:aP.storeCells ai b (0+k*1) [(.ptr z 0)]=some (ai.set b (some (.cells (L.set k (.ptr z 0)) 35 .a1 0 0))):=
       gS m7 (Bl _ _) (by rw[show 0+k*1=k by omega];exact FP _ rfl L k (by omega))
     refine⟨ab,z,(m7.nZ i1 (by omega)).trans (by rw[es,a2]),by omega,_,ct,by omega,by omega,_,(by show _<t;omega),j+1,k+1,L.set k (.ptr z 0),_,_,rfl,⟨rfl,rfl,rfl,rfl,rfl,trivial⟩,rfl,by omega,by omega,by omega,by omega,by simp;omega,gR rfl,by simpa using ha,?_,Ext.iX kP dZ⟩
     rw[<-a2]
     exact m6.set k hs
 · exact⟨k,x,_,rfl,rfl,⟨rfl,rfl,trivial⟩,aq,by omega,ss,j4,L,q0,ha⟩
theorem XU(m:Nat){B b f:Nat}{h:J}{vs:List I}(aU:List I)(q:Nat->Nat->Bool)(hlen:vs.length<=90000)(kP:B<=b)(hH:jL aU=true)(eH:∀i (af:i<vs.length),I.sound vs[i]=true)(kF:∀i (af:i<vs.length),∃z:Nat,vs[i]=(.ptr z 0))(hf:∀i j (af:i<vs.length) (aJ:j<vs.length) x,Ext B h x->cP x.n x (.bool (q i j)) (Y m (.fn f) (vs[i]::vs[j]::aU) x))
  (ae:b<h.n)(a4:h1 h b 35 vs):
  ∃w g k,Y (m+1) (.fn 92) [.slice b 0 vs.length (.a1 1),.fn f [] aU] h=.ret w g/\cc Tryz.prog g 50 w=some (.int .i64 (Int.ofNat k))/\(!(List.range vs.length).any (λi=>decide (0<i)&&q i (i-1)))=decide (k=vs.length)/\Ext B h g:=by
 refine L_ m (.slice b 0 vs.length (.a1 1)) f aU h (R:=λx=>∃w g k,x=.ret w g/\cc Tryz.prog g 50 w=some (.int .i64 (Int.ofNat k))/\(!(List.range vs.length).any (λi=>decide (0<i)&&q i (i-1)))=decide (k=vs.length)/\Ext B h g) ⟨vs.length,by rfl,λad=>?_,λad=>?_⟩
 · refine⟨_,h,vs.length,rfl,by rfl,?_,Ext.refl _ _⟩
   rw[sq (λj aJ=>by simp[show¬0<j by omega])];simp
 · replace ad:=Mc ad
   refine a3.loop (by kernel_rfl) (λt st=>∃k x Γ,st=⟨Γ,[],.none,x⟩/\b_ [(0,.slice b 0 vs.length (.a1 1)),(1,.fn f [] aU),(5,.int .i64 (Int.ofNat k))] Γ/\vs.length-k=t/\1<=k/\k<=vs.length/\b<x.n/\h1 x b 35 vs/\Ext B h x/\∀j,0<j->j<k->q j (j-1)=false) ?_ (vs.length-1) _ (by omega) ⟨1,h,_,rfl,⟨rfl,rfl,rfl,trivial⟩,by omega,by omega,by omega,ae,a4,Ext.refl _ _,λj aJ po=>by omega⟩
   rintro t st ⟨k,x,Γ,rfl,cQ,ba,aq,uc,ss,q0,j4,aM⟩
   refine a3.pre (Xz (Y m) b _ k f aU x ⟨λab=>?_,λab=>?_⟩) cQ rfl rfl rfl
   · have aj:=j4.h_ (k:=11)
     have lG:h1 (x.room 11) b 35 vs:=q0
     obtain⟨ai,aH,bC⟩:=hf k (k-1) ab (by omega) _ aj
     have dZ:=aj.trans (Nat.le_refl _) (bC.le (show B<=(x.room 11).n by simp;omega))
     have oP:b<(x.room 11).n:=by simp;omega
     have m7:h1 ai b 35 vs:=(bC.get b oP).trans lG
     have q1:b<ai.n:=Nat.lt_of_lt_of_le oP bC.n
     refine⟨ab,_,lG.nZ ab (by omega),⟨by omega,by omega⟩,by omega,_,lG.nZ (by omega) (by omega),_,ai,aH,mm hH,eH k ab,eH (k-1) (by omega),λag=>?_,λag=>?_⟩
     · have s2:di Tryz.prog ai 50 (.slice b 0 vs.length (.a1 1)) (some (.int .i64 (Int.ofNat k))) none none=some (.slice b (0+k*1) (vs.length-k) (.a1 1)):=y4 (E:=35) (by kernel_rfl) (by kernel_rfl) (by omega) ab
       refine⟨_,_,_,_,s2,?_⟩
       refine a3.mono (XT m aU q hlen kP aq ab hH eH kF hf q1 m7 dZ ⟨rfl,rfl,rfl,rfl,rfl,trivial⟩) ?_
       rintro b9 cj ⟨bY,ax,cq,rfl,rfl,oQ,xU,FR,fB,qV,L,ha,BV⟩
       refine⟨_,_,_,_,bY,ax,cq,rfl,rfl,oQ,_,_,_,_,y4 (E:=35) (by kernel_rfl) (by kernel_rfl) (by omega) FR,?_⟩
       obtain⟨z,a2⟩:=Option.isSome_iff_exists.1 (show(ei Tryz.prog 35).isSome=true by kernel_rfl)
       have ik:z.cells.length=1/\z.cells.all I.cT=true:=by
        have ab:(ei Tryz.prog 35).map (λz=>z.cells.length)=some 1:=by kernel_rfl
        have ad:(ei Tryz.prog 35).map (λz=>z.cells.all I.cT)=some true:=by kernel_rfl
        rw[a2] at ab ad;exact⟨by simpa using ab,by simpa using ad⟩
       have pZ:∀n,(fi n z.cells).length=n/\(fi n z.cells).all I.cT=true:=by
        intro n
        induction n with
        |zero=>exact⟨rfl,rfl⟩
        |succ n a7=>simp only[fi,List.length_append,List.all_append,a7.1,a7.2,ik.1,ik.2];exact⟨by omega,rfl⟩
       obtain⟨sr,eF,fs⟩:=Ma (fi (vs.length-bY) z.cells) (pZ _).2 L (0+bY*1) (by rw[(pZ _).1,BV];omega)
       have ct:aP.storeCells ax b (0+bY*1) (fi (vs.length-bY) z.cells)=some (ax.set b (some (.cells sr 35 .a1 0 0))):=gS ha (Bl _ _) eF
       have hQ:o5 Tryz.prog ax 50 (.slice b (0+bY*1) (vs.length-bY) (.a1 1))=some (.aQ [],ax.set b (some (.cells sr 35 .a1 0 0))):=by
        have hu:Tryz.prog.underlying 50=some (.slice 35):=by kernel_rfl
        simp only[o5,hu,a2,ct]
        rw[if_neg (by omega)]
       refine⟨_,hQ,_,BU (E:=35) (by kernel_rfl) (by kernel_rfl) (by omega),.inr ⟨_,_,_,rfl,rfl,⟨rfl,trivial⟩,_,_,bY,rfl,by rfl,?_,Ext.iX kP qV⟩⟩
       rw[wo ab (by rw[ag];simp;omega)]
       simp;omega
     · exact⟨by omega,_,(by show _<t;omega),k+1,ai,_,rfl,⟨rfl,rfl,rfl,trivial⟩,rfl,by omega,by omega,q1,m7,dZ,λj aJ po=>by
        by_cases e:j=k
        · rw[e];exact ag
        · exact aM j aJ (by omega)⟩
   · refine .inl ⟨_,x,_,rfl,rfl,⟨rfl,trivial⟩,_,_,vs.length,rfl,by rfl,?_,j4⟩
     rw[sq (λj aJ=>?_)]
     · simp
     · by_cases e:0<j
       · rw[aM j e (by omega),Bool.and_false]
       · simp[e]
theorem XV(m:Nat){B:Nat}{h:J}{v:I}{vs:List I}(f:Nat)(aU:List I)(w:Nat->a5)(cM:B<=h.n)(aC:db B h v vs)(hlen:vs.length<=90000)(hH:jL aU=true)(eH:∀i (af:i<vs.length),I.sound vs[i]=true)(kF:∀i (af:i<vs.length),∃z:Nat,vs[i]=(.ptr z 0))(m6:∀i (af:i<vs.length) x,Ext B h x->cP x.n x (.str (w i)) (Y m (.fn f) (vs[i]::aU) x)):
  cP B h (.bool (pY w vs.length)) (Y (m+3) (.fn 71) [v,.fn f [] aU] h):=by
 refine XD (m+2) v f aU h ?_
 obtain⟨H,cl⟩:∃H,H=h.push (.cells [.fn f [] aU] 116 .own 0 0):=⟨_,rfl⟩
 rw[<-cl]
 have dE:Ext B h H:=by rw[cl];exact Ext.push cM _
 have lg:H.n=h.n+1:=by rw[cl];rfl
 have uv:B<=H.n:=Nat.le_trans cM dE.n
 have qx:H.get h.n=some (.cells [.fn f [] aU] 116 .own 0 0):=by rw[cl];exact fo rfl
 have j5:∀i (af:i<vs.length) x,Ext H.n H x->∃g,Y m (.fn f) (vs[i]::aU) x=.ret (.str (w i)) g/\Ext x.n x g:=λi af x aa=>m6 i af x (dE.trans uv aa)
 have q2:db H.n H v vs:=(aC.b8 (gU.ext dE (Nat.le_refl _))).le (Nat.le_trans cM dE.n)
 have fy:∀x,Ext H.n H x->au x h.n 0=some (.fn f [] aU):=λx aa=>aV ((aa.get h.n (by omega)).trans qx) rfl
 obtain⟨g,aH,bC⟩:=XN (m+1) (B:=H.n) (h:=H) (v:=v) (vs:=vs) 91 [.ptr h.n 0] (λi j=>dF (w i) (w j)) q2 hlen rfl eH (λi j af aJ x aa=>by
  have aj:Ext H.n H (x.room 7):=aa.h_
  obtain⟨ai,aH,bC⟩:=j5 i af _ aj
  have hc:Ext H.n H ai:=aj.trans aj.n bC
  obtain⟨ax,a9,c0⟩:=j5 j aJ _ hc
  refine Xx m vs[i] vs[j] h.n f aU x ⟨fy _ aj,_,ai,aH,fy _ hc,_,ax,a9,mm hH,eH i af,mm hH,fy _ aj,eH j aJ,λag=>?_,λag=>?_⟩
  · exact cP.of (by rw[ag];rfl) ((hc.trans hc.n c0).le (Nat.le_refl _)|> λe=>by have c9:Ext H.n x ax:=⟨by have a:=bC.n;have b:=c0.n;simp at a;omega,λb ae=>by rw[(hc.trans hc.n c0).get b ae,aa.get b ae]⟩;exact c9)
  · exact cP.of (by rw[ag];rfl) ((hc.trans hc.n c0).le (Nat.le_refl _)|> λe=>by have c9:Ext H.n x ax:=⟨by have a:=bC.n;have b:=c0.n;simp at a;omega,λb ae=>by rw[(hc.trans hc.n c0).get b ae,aa.get b ae]⟩;exact c9))
 have oN:Ext B h g:=dE.trans uv bC
 refine⟨rfl,_,g,aH,λhs=>?_,λhs=>?_⟩
 · have lR:vs.all I.cT=true:=by
     rw[List.all_eq_true]
     intro x aa
     obtain⟨i,af,rfl⟩:=List.getElem_of_mem aa
     obtain⟨z,a2⟩:=kF i af
     rw[a2];rfl
   have FT:db H.n g v vs:=q2.b8 (gU.ext bC (Nat.le_refl _))
   have fin:∀v2 ax b,Y (m+2) (.fn 93) [v] g=.ret v2 ax->v2=.slice b 0 vs.length (.a1 1)->H.n<=b->b<ax.n->h1 ax b 35 vs->Ext H.n g ax->∃(v2:I) (ax:J),Y (m+2) (.fn 93) [v] g=.ret v2 ax/\∃(w':I) (aB:J),Y (m+2) (.fn 92) [v2,.fn 94 [] [.ptr h.n 0]] ax=.ret w' aB/\∃(k:Nat),cc Tryz.prog aB 50 w'=some (.int .i64 (Int.ofNat k))/\∃(n:Nat),cc Tryz.prog aB 50 v=some (.int .i64 (Int.ofNat n))/\cP B h (.bool (pY w vs.length)) (.ret (.bool (a_ (Int.ofNat k) (Int.ofNat n))) aB):=by
    intro v2 ax b a9 ay ae fB a4 c0
    subst ay
    have y6:Ext H.n H ax:=bC.trans (Nat.le_refl _) c0
    obtain⟨w',aB,k,du,cU,bw,dU⟩:=XU (m+1) (B:=H.n) (h:=ax) (vs:=vs) (f:=94) [.ptr h.n 0] (λi j=>dK (w i) (w j)) hlen ae rfl eH kF (λi j af aJ x aa=>by
     have j4:Ext H.n H x:=y6.trans (Nat.le_refl _) aa
     have aj:Ext H.n H (x.room 8):=j4.h_
     obtain⟨ai,aH,ju⟩:=j5 i af _ aj
     have hc:Ext H.n H ai:=aj.trans aj.n ju
     obtain⟨ax,a9,eN⟩:=j5 j aJ _ hc
     refine Xy m vs[i] vs[j] h.n f aU x ⟨fy _ aj,_,ai,aH,fy _ hc,_,ax,a9,mm hH,eH i af,mm hH,fy _ aj,eH j aJ,cP.of rfl ?_⟩
     refine⟨by have a:=ju.n;have b:=eN.n;simp at a;omega,λb ae=>?_⟩
     have a:=ju.n
     simp at a
     rw[eN.get b (by omega),ju.get b (by simp;omega)];rfl) fB a4
    have y7:Ext H.n H aB:=y6.trans (Nat.le_refl _) dU
    have FU:db H.n aB v vs:=q2.b8 (gU.ext y7 (Nat.le_refl _))
    refine⟨_,ax,a9,w',aB,du,k,cU,vs.length,FU.len (t:=50) (e:=35) (by kernel_rfl),cP.of (ia ?_) (dE.trans uv y7)⟩
    rw[Mi bw]
    exact Mg w vs.length hs
   rcases XS (m+1) (B:=H.n) (h:=g) bC.n FT hlen lR with⟨rfl,rfl,a9⟩|⟨aK,b,ax,a9,ae,fB,a4,c0⟩
   · refine⟨.a0,g,a9,.a0,g,?_,0,by rfl,0,by rfl,cP.of (ia rfl) oN⟩
     exact L_ (m+1) .a0 _ _ g (R:=λx=>x=.ret .a0 g) ⟨0,by rfl,λ_=>rfl,λaN=>absurd (by omega) aN⟩
   · exact fin _ ax b a9 rfl ae fB a4 c0
 · refine cP.of (ia ?_) oN
   exact Mh w vs.length hs
end Go.Proofs.cG
