/-
  PROVED HERE: contracts of functions (Df). No condition beside each statement's own.
-/
import Derived.Test.YtfooahfebojldaaGreatDoorDe
import Derived.Test.YtfooahfebojldaaGreatDoorTx
set_option linter.unusedVariables false
set_option linter.unusedSimpArgs false
namespace Go.Proofs.cf
open Go ay Go.Proofs cS
set_option maxRecDepth 100000
set_option maxHeartbeats 1000000
theorem Xo(m:Nat)(v:J)(f:Nat)(caps:List J)(h:aa){R:ax->Prop}(H:∃dI:Int,∃al:aa,(Y m) (.fn 117) [v,.fn f [] caps] h=.ret (.int .i64 dI) al/\R (.ret (.bool (fE (.ofNat 0) dI)) al)):
  R (Y (m+1) (.fn 105) [v,.fn f [] caps] h):=
 dH (intr:=b7) [(7,.bW (.z .i64))] [(0,.o v),(1,.o (.fn f [] caps))] Tryz.func105 (by kernel_rfl) (by kernel_rfl) (by kernel_rfl) rfl (Eq.mp (by kernel_rfl) H)
theorem Xp(m:Nat)(v:J)(f:Nat)(caps:List J)(h:aa){R:ax->Prop}(H:∃aQ:Nat,cO Tryz.prog h 48 v=some (.int .i64 (.ofNat aQ))/\bB Tryz.prog Tryz.f117 (Y m) [1,0,1,0] (ar.mk [(0,v),(1,.fn f [] caps),(7,.int .i64 (.ofNat aQ)),(8,.int .i64 (.ofNat 0))] [] .none h) (λc6 c0=>((∃al:aa,∃bD:Env,c6=.exit 0/\c0=ar.mk bD [] .none al/\cZ [] bD/\R (.ret (.int .i64 (.negSucc 0)) al))\/(∃bw:Nat,∃ak:aa,∃bT:Env,c6=.ret/\c0=ar.mk bT [] .none ak/\cZ [(4,.int .i64 (.ofNat bw))] bT/\R (.ret (.int .i64 (.ofNat bw)) ak))))):
  R (Y (m+1) (.fn 117) [v,.fn f [] caps] h):=
 dH (intr:=b7) [(4000,.fw [0,1,7,8] [(.exit 0,[]),(.ret,[(4,.n .i64)])])] [(0,.o v),(1,.o (.fn f [] caps))] Tryz.func117 (by kernel_rfl) (by kernel_rfl) (by kernel_rfl) rfl (Eq.mp (by kernel_rfl) H)
theorem Xq(call:aO->List J->aa->ax)(b:Nat)(off:Nat)(N:Nat)(i:Nat)(f:Nat)(caps:List J)(aG:cj)(h:aa){Q:bK->ar->Prop}(H:(i<N->i<N/\∃v1:J,aA h b (off+i*1)=some v1/\∃bh:Bool,∃al:aa,call (.fn f) (v1::caps) h=.ret (.bool bh) al/\(bh=true->Q .ret (ar.mk [(0,.slice b off N aG),(1,.fn f [] caps),(4,.int .i64 (.ofNat i)),(7,.int .i64 (.ofNat N)),(8,.int .i64 (.ofNat i))] [] .none al))/\(bh=false->i+1<9223372036854775808/\Q .nrm (ar.mk [(0,.slice b off N aG),(1,.fn f [] caps),(7,.int .i64 (.ofNat N)),(8,.int .i64 (.ofNat (i+1)))] [] .none al)))/\(¬i<N->Q (.exit 0) (ar.mk [(0,.slice b off N aG),(1,.fn f [] caps),(7,.int .i64 (.ofNat N)),(8,.int .i64 (.ofNat i))] [] .none h))):
  bB Tryz.prog Tryz.f117 call [1,0,1,0,0] ⟨[(0,.slice b off N aG),(1,.fn f [] caps),(7,.int .i64 (.ofNat N)),(8,.int .i64 (.ofNat i))],[],.none,h⟩ Q:=
 gN [(15,.bW .o)] [0,1,4,7,8] [(0,.v (.slice b off N aG)),(1,.o (.fn f [] caps)),(7,.v (.int .i64 (.ofNat N))),(8,.v (.int .i64 (.ofNat i)))] rfl (Eq.mp (by kernel_rfl) H)
theorem Xr(call:aO->List J->aa->ax)(N:Nat)(i:Nat)(f:Nat)(caps:List J)(v:J)(h:aa){Q:bK->ar->Prop}(H:¬i<N/\Q (.exit 0) (ar.mk [] [] .none h)):
  bB Tryz.prog Tryz.f117 call [1,0,1,0,0] ⟨[(0,v),(1,.fn f [] caps),(7,.int .i64 (.ofNat N)),(8,.int .i64 (.ofNat i))],[],.none,h⟩ Q:=
 gN [(1009,.f)] [] [(0,.o v),(1,.o (.fn f [] caps)),(7,.v (.int .i64 (.ofNat N))),(8,.v (.int .i64 (.ofNat i)))] rfl (Eq.mp (by kernel_rfl) H)
theorem Xs(m:Nat)(v:J)(f:Nat)(caps:List J)(h:aa){R:ax->Prop}(H:∃aQ:Nat,cO Tryz.prog h 48 v=some (.int .i64 (.ofNat aQ))/\(1<=aQ/\aQ<9223372036854775808)/\bB Tryz.prog Tryz.f119 (Y m) [1,0,1,0] (ar.mk [(0,v),(1,.fn f [] caps),(5,.int .i64 (.ofNat (aQ-1)))] [] .none h) (λc6 c0=>((∃al:aa,∃bD:Env,c6=.exit 0/\c0=ar.mk bD [] .none al/\cZ [] bD/\R (.ret (.bool true) al))\/(∃ak:aa,∃bT:Env,c6=.ret/\c0=ar.mk bT [] .none ak/\cZ [(4,.bool false)] bT/\R (.ret (.bool false) ak))))):
  R (Y (m+1) (.fn 119) [v,.fn f [] caps] h):=
 dH (intr:=b7) [(4000,.fw [0,1,5] [(.exit 0,[]),(.ret,[(4,.is (.bool false))])])] [(0,.o v),(1,.o (.fn f [] caps))] Tryz.func119 (by kernel_rfl) (by kernel_rfl) (by kernel_rfl) rfl (Eq.mp (by kernel_rfl) H)
theorem Xt(m:Nat)(v:J)(f:Nat)(caps:List J)(h:aa){R:ax->Prop}(H:∃aQ:Nat,cO Tryz.prog h 48 v=some (.int .i64 (.ofNat aQ))/\∃dI:Int,arith .sub .i64 (.ofNat aQ) (.ofNat 1)=some (.int .i64 dI)/\bB Tryz.prog Tryz.f119 (Y m) [1,0,1,0] (ar.mk [(0,v),(1,.fn f [] caps),(5,.int .i64 dI)] [] .none h) (λc6 c0=>∃al:aa,∃bD:Env,c6=.exit 0/\c0=ar.mk bD [] .none al/\cZ [] bD/\R (.ret (.bool true) al))):
  R (Y (m+1) (.fn 119) [v,.fn f [] caps] h):=
 dH (intr:=b7) [(8,.bW (.z .i64)),(4000,.fw [0,1,5] [(.exit 0,[])])] [(0,.o v),(1,.o (.fn f [] caps))] Tryz.func119 (by kernel_rfl) (by kernel_rfl) (by kernel_rfl) rfl (Eq.mp (by kernel_rfl) H)
theorem Xu(call:aO->List J->aa->ax)(b:Nat)(off:Nat)(N:Nat)(i:Nat)(f:Nat)(caps:List J)(aG:cj)(h:aa){Q:bK->ar->Prop}(H:(0<i->i<N/\∃v1:J,aA (h.room 12) b (off+i*1)=some v1/\(1<=i/\i<9223372036854775808)/\i-1<N/\∃v2:J,aA (h.room 12) b (off+(i-1)*1)=some v2/\∃dI:Int,∃al:aa,call (.fn f) (v1::v2::caps) (h.room 12)=.ret (.int .i64 dI) al/\J.sound (.fn f [] caps)=true/\J.sound v1=true/\J.sound v2=true/\(dZ dI (.ofNat 0)=true->Q .ret (ar.mk [(0,.slice b off N aG),(1,.fn f [] caps),(4,.bool false),(5,.int .i64 (.ofNat i))] [] .none al))/\(dZ dI (.ofNat 0)=false->(1<=i/\i<9223372036854775808)/\Q .nrm (ar.mk [(0,.slice b off N aG),(1,.fn f [] caps),(5,.int .i64 (.ofNat (i-1)))] [] .none al)))/\(¬0<i->Q (.exit 0) (ar.mk [(0,.slice b off N aG),(1,.fn f [] caps),(5,.int .i64 (.ofNat i))] [] .none h))):
  bB Tryz.prog Tryz.f119 call [1,0,1,0,0] ⟨[(0,.slice b off N aG),(1,.fn f [] caps),(5,.int .i64 (.ofNat i))],[],.none,h⟩ Q:=
 gN [(17,.bW .o),(22,.bW .o),(23,.bW (.z .i64))] [0,1,4,5] [(0,.v (.slice b off N aG)),(1,.o (.fn f [] caps)),(5,.v (.int .i64 (.ofNat i)))] rfl (Eq.mp (by kernel_rfl) H)
theorem Xv(call:aO->List J->aa->ax)(v:J)(f:Nat)(caps:List J)(h:aa){Q:bK->ar->Prop}(H:dZ (.ofNat 0) (.negSucc 0)=false/\Q (.exit 0) (ar.mk [] [] .none h)):
  bB Tryz.prog Tryz.f119 call [1,0,1,0,0] ⟨[(0,v),(1,.fn f [] caps),(5,.int .i64 (.negSucc 0))],[],.none,h⟩ Q:=
 gN [(1010,.f)] [] [(0,.o v),(1,.o (.fn f [] caps)),(5,.v (.int .i64 (.negSucc 0)))] rfl (Eq.mp (by kernel_rfl) H)
theorem Xw(m:Nat)(x:J)(y:J)(a:Nat)(f:Nat)(caps:List J)(h:aa){R:ax->Prop}(H:aA (h.room 7) a 0=some (.fn f [] caps)/\∃s1:List UInt8,∃al:aa,(Y m) (.fn f) (x::caps) (h.room 7)=.ret (.str s1) al/\aA al a 0=some (.fn f [] caps)/\∃s2:List UInt8,∃ak:aa,(Y m) (.fn f) (y::caps) al=.ret (.str s2) ak/\J.sound (.fn f [] caps)=true/\J.sound x=true/\J.sound (.fn f [] caps)=true/\aA (h.room 7) a 0=some (.fn f [] caps)/\J.sound y=true/\(fq s1 s2=true->R (.ret (.int .i64 (.negSucc 0)) ak))/\(fq s1 s2=false->R (.ret (.int .i64 (.ofNat 1)) ak))):
  R (Y (m+1) (.fn 120) [x,y,.ptr a 0] h):=
 dH (intr:=b7) [(6,.bW (.io (.fn f [] caps))),(9,.bW (.io (.fn f [] caps)))] [(0,.o x),(1,.o y),(2,.v (.ptr a 0))] Tryz.func120 (by kernel_rfl) (by kernel_rfl) (by kernel_rfl) rfl (Eq.mp (by kernel_rfl) H)
theorem Xx(m:Nat)(x:J)(y:J)(a:Nat)(f:Nat)(caps:List J)(h:aa){R:ax->Prop}(H:aA (h.room 8) a 0=some (.fn f [] caps)/\∃s1:List UInt8,∃al:aa,(Y m) (.fn f) (x::caps) (h.room 8)=.ret (.str s1) al/\aA al a 0=some (.fn f [] caps)/\∃s2:List UInt8,∃ak:aa,(Y m) (.fn f) (y::caps) al=.ret (.str s2) ak/\J.sound (.fn f [] caps)=true/\J.sound x=true/\J.sound (.fn f [] caps)=true/\aA (h.room 8) a 0=some (.fn f [] caps)/\J.sound y=true/\R (.ret (.bool (cw s1 s2)) ak)):
  R (Y (m+1) (.fn 123) [x,y,.ptr a 0] h):=
 dH (intr:=b7) [(6,.bW (.io (.fn f [] caps))),(9,.bW (.io (.fn f [] caps)))] [(0,.o x),(1,.o y),(2,.v (.ptr a 0))] Tryz.func123 (by kernel_rfl) (by kernel_rfl) (by kernel_rfl) rfl (Eq.mp (by kernel_rfl) H)
theorem MK(m:Nat)(v:J)(f:Nat)(caps:List J)(h:aa){R:ax->Prop}(H:∃aQ:Nat,cO Tryz.prog h 48 v=some (.int .i64 (.ofNat aQ))/\(aQ<2->R (.ret v h))/\(¬aQ<2->bB Tryz.prog Tryz.f121 (Y m) [1,1,0,1,0] (ar.mk [(0,v),(1,.fn f [] caps),(5,.int .i64 (.ofNat 1))] [] .none h) (λc6 c0=>((∃v1:J,∃al:aa,∃bD:Env,c6=.exit 0/\c0=ar.mk bD [] .none al/\cZ [(0,v1)] bD/\R (.ret v1 al))\/(∃v2:J,∃ak:aa,∃bT:Env,c6=.ret/\c0=ar.mk bT [] .none ak/\cZ [(4,v2)] bT/\R (.ret v2 ak)))))):
  R (Y (m+1) (.fn 121) [v,.fn f [] caps] h):=
 dH (intr:=b7) [(4000,.fw [0,1,5] [(.exit 0,[(0,.o)]),(.ret,[(4,.o)])])] [(0,.o v),(1,.o (.fn f [] caps))] Tryz.func121 (by kernel_rfl) (by kernel_rfl) (by kernel_rfl) rfl (Eq.mp (by kernel_rfl) H)
theorem Xy(call:aO->List J->aa->ax)(b:Nat)(N:Nat)(k:Nat)(f:Nat)(caps:List J)(h:aa){Q:bK->ar->Prop}(H:(k<N->k<N/\∃v1:J,aA (h.room 11) b (0+k*1)=some v1/\(1<=k/\k<9223372036854775808)/\k-1<N/\∃v2:J,aA (h.room 11) b (0+(k-1)*1)=some v2/\∃bh:Bool,∃al:aa,call (.fn f) (v1::v2::caps) (h.room 11)=.ret (.bool bh) al/\J.sound (.fn f [] caps)=true/\J.sound v1=true/\J.sound v2=true/\(bh=true->∃aQ:Nat,∃bw:Nat,∃cl:Nat,∃c1:cj,dR Tryz.prog al 48 (.slice b 0 N (.aM 1)) (some (.int .i64 (.ofNat k))) none none=some (.slice aQ bw cl c1)/\bB Tryz.prog Tryz.f121 call [1,1,0,1,0,0,1,0,0,1,0,1,0,1,0] (ar.mk [(0,.slice b 0 N (.aM 1)),(1,.fn f [] caps),(5,.int .i64 (.ofNat k)),(6,.slice aQ bw cl c1),(7,.int .i64 (.ofNat 1))] [] .none al) (λc6 c0=>∃cC:Nat,∃c5:Nat,∃dV:Nat,∃c2:cj,∃fo:Nat,∃ak:aa,∃bD:Env,c6=.exit 2/\c0=ar.mk bD [] .none ak/\cZ [(0,.slice cC c5 dV c2),(5,.int .i64 (.ofNat fo))] bD/\∃kr:Nat,∃j3:Nat,∃hM:Nat,∃c3:cj,dR Tryz.prog ak 48 (.slice cC c5 dV c2) (some (.int .i64 (.ofNat fo))) none none=some (.slice kr j3 hM c3)/\∃aS:aa,o7 Tryz.prog ak 48 (.slice kr j3 hM c3)=some (.aD [],aS)/\∃dr:J,dR Tryz.prog aS 48 (.slice cC c5 dV c2) none (some (.int .i64 (.ofNat fo))) none=some dr/\Q .ret (ar.mk [(0,.slice cC c5 dV c2),(4,dr),(5,.int .i64 (.ofNat fo))] [] .none aS)))/\(bh=false->k+1<9223372036854775808/\Q .nrm (ar.mk [(0,.slice b 0 N (.aM 1)),(1,.fn f [] caps),(5,.int .i64 (.ofNat (k+1)))] [] .none al)))/\(¬k<N->Q (.exit 0) (ar.mk [(0,.slice b 0 N (.aM 1)),(1,.fn f [] caps),(5,.int .i64 (.ofNat k))] [] .none h))):
  bB Tryz.prog Tryz.f121 call [1,1,0,1,0,0] ⟨[(0,.slice b 0 N (.aM 1)),(1,.fn f [] caps),(5,.int .i64 (.ofNat k))],[],.none,h⟩ Q:=
 gN [(22,.bW .o),(27,.bW .o),(31,.bW .ih),(4002,.fw [0,1,5,6,7] [(.exit 2,[(0,.ih),(5,.n .i64)])]),(61,.bW .ih),(64,.bW .o)] [0,1,4,5] [(0,.v (.slice b 0 N (.aM 1))),(1,.o (.fn f [] caps)),(5,.v (.int .i64 (.ofNat k)))] rfl (Eq.mp (by kernel_rfl) H)
theorem Xz(call:aO->List J->aa->ax)(b:Nat)(N:Nat)(k:Nat)(f:Nat)(dE:Nat)(M:Nat)(j:Nat)(caps:List J)(h:aa){Q:bK->ar->Prop}(H:(j<M->j<M/\∃v1:J,aA (h.room 12) b (dE+j*1)=some v1/\(1<=j/\j<9223372036854775808)/\j-1<M/\∃v2:J,aA (h.room 12) b (dE+(j-1)*1)=some v2/\∃bh:Bool,∃al:aa,call (.fn f) (v1::v2::caps) (h.room 12)=.ret (.bool bh) al/\J.sound (.fn f [] caps)=true/\J.sound v1=true/\J.sound v2=true/\(bh=true->j+1<9223372036854775808/\Q .nrm (ar.mk [(0,.slice b 0 N (.aM 1)),(1,.fn f [] caps),(5,.int .i64 (.ofNat k)),(6,.slice b dE M (.aM 1)),(7,.int .i64 (.ofNat (j+1)))] [] .none al))/\(bh=false->j<M/\∃s1:List UInt8,aA al b (dE+j*1)=some (.str s1)/\k<N/\∃ak:aa,ay.storeCells al b (0+k*1) [.str s1]=some ak/\k+1<9223372036854775808/\j+1<9223372036854775808/\Q .nrm (ar.mk [(0,.slice b 0 N (.aM 1)),(1,.fn f [] caps),(5,.int .i64 (.ofNat (k+1))),(6,.slice b dE M (.aM 1)),(7,.int .i64 (.ofNat (j+1)))] [] .none ak)))/\(¬j<M->Q (.exit 2) (ar.mk [(0,.slice b 0 N (.aM 1)),(1,.fn f [] caps),(5,.int .i64 (.ofNat k)),(6,.slice b dE M (.aM 1)),(7,.int .i64 (.ofNat j))] [] .none h))):
  bB Tryz.prog Tryz.f121 call [1,1,0,1,0,0,1,0,0,1,0,1,0,1,0,0] ⟨[(0,.slice b 0 N (.aM 1)),(1,.fn f [] caps),(5,.int .i64 (.ofNat k)),(6,.slice b dE M (.aM 1)),(7,.int .i64 (.ofNat j))],[],.none,h⟩ Q:=
 gN [(42,.bW .o),(47,.bW .o)] [0,1,5,6,7] [(0,.v (.slice b 0 N (.aM 1))),(1,.o (.fn f [] caps)),(5,.v (.int .i64 (.ofNat k))),(6,.v (.slice b dE M (.aM 1))),(7,.v (.int .i64 (.ofNat j)))] rfl (Eq.mp (by kernel_rfl) H)
theorem XA(m:Nat)(b:Nat)(off:Nat)(N:Nat)(aG:cj)(h:aa){R:ax->Prop}(H:∃v1:J,∃al:aa,gl Tryz.prog (aa.push h (.cells [] 9 .own 0 0)) 48 (some 48) (.slice h.n 0 0 (.exact 0)) (.slice b off N aG)=some (v1,al)/\R (.ret v1 al)):
  R (Y (m+1) (.fn 122) [.slice b off N aG] h):=
 dH (intr:=b7) [(7,.bW .o)] [(0,.v (.slice b off N aG))] Tryz.func122 (by kernel_rfl) (by kernel_rfl) (by kernel_rfl) rfl (Eq.mp (by kernel_rfl) H)
theorem XB(m:Nat)(h:aa){R:ax->Prop}(H:R (.ret .az h)):
  R (Y (m+1) (.fn 122) [.az] h):=
 dH (intr:=b7) [] [(0,.v .az)] Tryz.func122 (by kernel_rfl) (by kernel_rfl) (by kernel_rfl) rfl (Eq.mp (by kernel_rfl) H)
theorem XC(m:Nat)(v:J)(f:Nat)(caps:List J)(h:aa){R:ax->Prop}(H:J.bF (.fn f [] caps)=true/\∃bh:Bool,∃al:aa,(Y m) (.fn 119) [v,.fn 120 [] [.ptr h.n 0]] (aa.push h (.cells [.fn f [] caps] 150 .own 0 0))=.ret (.bool bh) al/\(bh=true->∃v1:J,∃ak:aa,(Y m) (.fn 122) [v] al=.ret v1 ak/\∃v2:J,∃aS:aa,(Y m) (.fn 121) [v1,.fn 123 [] [.ptr h.n 0]] ak=.ret v2 aS/\∃aQ:Nat,cO Tryz.prog aS 48 v2=some (.int .i64 (.ofNat aQ))/\∃bw:Nat,cO Tryz.prog aS 48 v=some (.int .i64 (.ofNat bw))/\R (.ret (.bool (de (.ofNat aQ) (.ofNat bw))) aS))/\(bh=false->R (.ret (.bool false) al))):
  R (Y (m+1) (.fn 108) [v,.fn f [] caps] h):=
 dH (intr:=b7) [] [(0,.o v),(1,.o (.fn f [] caps))] Tryz.func108 (by kernel_rfl) (by kernel_rfl) (by kernel_rfl) rfl (Eq.mp (by kernel_rfl) H)
theorem XD(m:Nat)(v:J)(f:Nat)(caps:List J)(h:aa){R:ax->Prop}(H:∃dI:Int,∃al:aa,(Y m) (.fn 115) [v,.fn f [] caps] h=.ret (.int .i64 dI) al/\R (.ret (.bool (fE (.ofNat 0) dI)) al)):
  R (Y (m+1) (.fn 103) [v,.fn f [] caps] h):=
 dH (intr:=b7) [(7,.bW (.z .i64))] [(0,.o v),(1,.o (.fn f [] caps))] Tryz.func103 (by kernel_rfl) (by kernel_rfl) (by kernel_rfl) rfl (Eq.mp (by kernel_rfl) H)
theorem XE(m:Nat)(v:J)(f:Nat)(caps:List J)(h:aa){R:ax->Prop}(H:∃aQ:Nat,cO Tryz.prog h 49 v=some (.int .i64 (.ofNat aQ))/\bB Tryz.prog Tryz.f115 (Y m) [1,0,1,0] (ar.mk [(0,v),(1,.fn f [] caps),(7,.int .i64 (.ofNat aQ)),(8,.int .i64 (.ofNat 0))] [] .none h) (λc6 c0=>((∃al:aa,∃bD:Env,c6=.exit 0/\c0=ar.mk bD [] .none al/\cZ [] bD/\R (.ret (.int .i64 (.negSucc 0)) al))\/(∃bw:Nat,∃ak:aa,∃bT:Env,c6=.ret/\c0=ar.mk bT [] .none ak/\cZ [(4,.int .i64 (.ofNat bw))] bT/\R (.ret (.int .i64 (.ofNat bw)) ak))))):
  R (Y (m+1) (.fn 115) [v,.fn f [] caps] h):=
 dH (intr:=b7) [(4000,.fw [0,1,7,8] [(.exit 0,[]),(.ret,[(4,.n .i64)])])] [(0,.o v),(1,.o (.fn f [] caps))] Tryz.func115 (by kernel_rfl) (by kernel_rfl) (by kernel_rfl) rfl (Eq.mp (by kernel_rfl) H)
theorem XF(call:aO->List J->aa->ax)(b:Nat)(off:Nat)(N:Nat)(i:Nat)(f:Nat)(caps:List J)(aG:cj)(h:aa){Q:bK->ar->Prop}(H:(i<N->i<N/\∃v1:J,aA h b (off+i*1)=some v1/\∃bh:Bool,∃al:aa,call (.fn f) (v1::caps) h=.ret (.bool bh) al/\(bh=true->Q .ret (ar.mk [(0,.slice b off N aG),(1,.fn f [] caps),(4,.int .i64 (.ofNat i)),(7,.int .i64 (.ofNat N)),(8,.int .i64 (.ofNat i))] [] .none al))/\(bh=false->i+1<9223372036854775808/\Q .nrm (ar.mk [(0,.slice b off N aG),(1,.fn f [] caps),(7,.int .i64 (.ofNat N)),(8,.int .i64 (.ofNat (i+1)))] [] .none al)))/\(¬i<N->Q (.exit 0) (ar.mk [(0,.slice b off N aG),(1,.fn f [] caps),(7,.int .i64 (.ofNat N)),(8,.int .i64 (.ofNat i))] [] .none h))):
  bB Tryz.prog Tryz.f115 call [1,0,1,0,0] ⟨[(0,.slice b off N aG),(1,.fn f [] caps),(7,.int .i64 (.ofNat N)),(8,.int .i64 (.ofNat i))],[],.none,h⟩ Q:=
 gN [(15,.bW .o)] [0,1,4,7,8] [(0,.v (.slice b off N aG)),(1,.o (.fn f [] caps)),(7,.v (.int .i64 (.ofNat N))),(8,.v (.int .i64 (.ofNat i)))] rfl (Eq.mp (by kernel_rfl) H)
theorem XG(call:aO->List J->aa->ax)(N:Nat)(i:Nat)(f:Nat)(caps:List J)(v:J)(h:aa){Q:bK->ar->Prop}(H:¬i<N/\Q (.exit 0) (ar.mk [] [] .none h)):
  bB Tryz.prog Tryz.f115 call [1,0,1,0,0] ⟨[(0,v),(1,.fn f [] caps),(7,.int .i64 (.ofNat N)),(8,.int .i64 (.ofNat i))],[],.none,h⟩ Q:=
 gN [(1009,.f)] [] [(0,.o v),(1,.o (.fn f [] caps)),(7,.v (.int .i64 (.ofNat N))),(8,.v (.int .i64 (.ofNat i)))] rfl (Eq.mp (by kernel_rfl) H)
theorem XH(m:Nat)(v:J)(f:Nat)(caps:List J)(h:aa){R:ax->Prop}(H:∃aQ:Nat,cO Tryz.prog h 49 v=some (.int .i64 (.ofNat aQ))/\(1<=aQ/\aQ<9223372036854775808)/\bB Tryz.prog Tryz.f124 (Y m) [1,0,1,0] (ar.mk [(0,v),(1,.fn f [] caps),(5,.int .i64 (.ofNat (aQ-1)))] [] .none h) (λc6 c0=>((∃al:aa,∃bD:Env,c6=.exit 0/\c0=ar.mk bD [] .none al/\cZ [] bD/\R (.ret (.bool true) al))\/(∃ak:aa,∃bT:Env,c6=.ret/\c0=ar.mk bT [] .none ak/\cZ [(4,.bool false)] bT/\R (.ret (.bool false) ak))))):
  R (Y (m+1) (.fn 124) [v,.fn f [] caps] h):=
 dH (intr:=b7) [(4000,.fw [0,1,5] [(.exit 0,[]),(.ret,[(4,.is (.bool false))])])] [(0,.o v),(1,.o (.fn f [] caps))] Tryz.func124 (by kernel_rfl) (by kernel_rfl) (by kernel_rfl) rfl (Eq.mp (by kernel_rfl) H)
theorem XI(m:Nat)(v:J)(f:Nat)(caps:List J)(h:aa){R:ax->Prop}(H:∃aQ:Nat,cO Tryz.prog h 49 v=some (.int .i64 (.ofNat aQ))/\∃dI:Int,arith .sub .i64 (.ofNat aQ) (.ofNat 1)=some (.int .i64 dI)/\bB Tryz.prog Tryz.f124 (Y m) [1,0,1,0] (ar.mk [(0,v),(1,.fn f [] caps),(5,.int .i64 dI)] [] .none h) (λc6 c0=>∃al:aa,∃bD:Env,c6=.exit 0/\c0=ar.mk bD [] .none al/\cZ [] bD/\R (.ret (.bool true) al))):
  R (Y (m+1) (.fn 124) [v,.fn f [] caps] h):=
 dH (intr:=b7) [(8,.bW (.z .i64)),(4000,.fw [0,1,5] [(.exit 0,[])])] [(0,.o v),(1,.o (.fn f [] caps))] Tryz.func124 (by kernel_rfl) (by kernel_rfl) (by kernel_rfl) rfl (Eq.mp (by kernel_rfl) H)
theorem XJ(call:aO->List J->aa->ax)(b:Nat)(off:Nat)(N:Nat)(i:Nat)(f:Nat)(caps:List J)(aG:cj)(h:aa){Q:bK->ar->Prop}(H:(0<i->i<N/\∃v1:J,aA (h.room 12) b (off+i*1)=some v1/\(1<=i/\i<9223372036854775808)/\i-1<N/\∃v2:J,aA (h.room 12) b (off+(i-1)*1)=some v2/\∃dI:Int,∃al:aa,call (.fn f) (v1::v2::caps) (h.room 12)=.ret (.int .i64 dI) al/\J.sound (.fn f [] caps)=true/\J.sound v1=true/\J.sound v2=true/\(dZ dI (.ofNat 0)=true->Q .ret (ar.mk [(0,.slice b off N aG),(1,.fn f [] caps),(4,.bool false),(5,.int .i64 (.ofNat i))] [] .none al))/\(dZ dI (.ofNat 0)=false->(1<=i/\i<9223372036854775808)/\Q .nrm (ar.mk [(0,.slice b off N aG),(1,.fn f [] caps),(5,.int .i64 (.ofNat (i-1)))] [] .none al)))/\(¬0<i->Q (.exit 0) (ar.mk [(0,.slice b off N aG),(1,.fn f [] caps),(5,.int .i64 (.ofNat i))] [] .none h))):
  bB Tryz.prog Tryz.f124 call [1,0,1,0,0] ⟨[(0,.slice b off N aG),(1,.fn f [] caps),(5,.int .i64 (.ofNat i))],[],.none,h⟩ Q:=
 gN [(17,.bW .o),(22,.bW .o),(23,.bW (.z .i64))] [0,1,4,5] [(0,.v (.slice b off N aG)),(1,.o (.fn f [] caps)),(5,.v (.int .i64 (.ofNat i)))] rfl (Eq.mp (by kernel_rfl) H)
theorem XK(call:aO->List J->aa->ax)(v:J)(f:Nat)(caps:List J)(h:aa){Q:bK->ar->Prop}(H:dZ (.ofNat 0) (.negSucc 0)=false/\Q (.exit 0) (ar.mk [] [] .none h)):
  bB Tryz.prog Tryz.f124 call [1,0,1,0,0] ⟨[(0,v),(1,.fn f [] caps),(5,.int .i64 (.negSucc 0))],[],.none,h⟩ Q:=
 gN [(1010,.f)] [] [(0,.o v),(1,.o (.fn f [] caps)),(5,.v (.int .i64 (.negSucc 0)))] rfl (Eq.mp (by kernel_rfl) H)
theorem XL(m:Nat)(x:J)(y:J)(a:Nat)(f:Nat)(caps:List J)(h:aa){R:ax->Prop}(H:aA (h.room 7) a 0=some (.fn f [] caps)/\∃s1:List UInt8,∃al:aa,(Y m) (.fn f) (x::caps) (h.room 7)=.ret (.str s1) al/\aA al a 0=some (.fn f [] caps)/\∃s2:List UInt8,∃ak:aa,(Y m) (.fn f) (y::caps) al=.ret (.str s2) ak/\J.sound (.fn f [] caps)=true/\J.sound x=true/\J.sound (.fn f [] caps)=true/\aA (h.room 7) a 0=some (.fn f [] caps)/\J.sound y=true/\(fq s1 s2=true->R (.ret (.int .i64 (.negSucc 0)) ak))/\(fq s1 s2=false->R (.ret (.int .i64 (.ofNat 1)) ak))):
  R (Y (m+1) (.fn 125) [x,y,.ptr a 0] h):=
 dH (intr:=b7) [(6,.bW (.io (.fn f [] caps))),(9,.bW (.io (.fn f [] caps)))] [(0,.o x),(1,.o y),(2,.v (.ptr a 0))] Tryz.func125 (by kernel_rfl) (by kernel_rfl) (by kernel_rfl) rfl (Eq.mp (by kernel_rfl) H)
theorem XM(m:Nat)(x:J)(y:J)(a:Nat)(f:Nat)(caps:List J)(h:aa){R:ax->Prop}(H:aA (h.room 8) a 0=some (.fn f [] caps)/\∃s1:List UInt8,∃al:aa,(Y m) (.fn f) (x::caps) (h.room 8)=.ret (.str s1) al/\aA al a 0=some (.fn f [] caps)/\∃s2:List UInt8,∃ak:aa,(Y m) (.fn f) (y::caps) al=.ret (.str s2) ak/\J.sound (.fn f [] caps)=true/\J.sound x=true/\J.sound (.fn f [] caps)=true/\aA (h.room 8) a 0=some (.fn f [] caps)/\J.sound y=true/\R (.ret (.bool (cw s1 s2)) ak)):
  R (Y (m+1) (.fn 128) [x,y,.ptr a 0] h):=
 dH (intr:=b7) [(6,.bW (.io (.fn f [] caps))),(9,.bW (.io (.fn f [] caps)))] [(0,.o x),(1,.o y),(2,.v (.ptr a 0))] Tryz.func128 (by kernel_rfl) (by kernel_rfl) (by kernel_rfl) rfl (Eq.mp (by kernel_rfl) H)
theorem ML(m:Nat)(v:J)(f:Nat)(caps:List J)(h:aa){R:ax->Prop}(H:∃aQ:Nat,cO Tryz.prog h 49 v=some (.int .i64 (.ofNat aQ))/\(aQ<2->R (.ret v h))/\(¬aQ<2->bB Tryz.prog Tryz.f126 (Y m) [1,1,0,1,0] (ar.mk [(0,v),(1,.fn f [] caps),(5,.int .i64 (.ofNat 1))] [] .none h) (λc6 c0=>((∃v1:J,∃al:aa,∃bD:Env,c6=.exit 0/\c0=ar.mk bD [] .none al/\cZ [(0,v1)] bD/\R (.ret v1 al))\/(∃v2:J,∃ak:aa,∃bT:Env,c6=.ret/\c0=ar.mk bT [] .none ak/\cZ [(4,v2)] bT/\R (.ret v2 ak)))))):
  R (Y (m+1) (.fn 126) [v,.fn f [] caps] h):=
 dH (intr:=b7) [(4000,.fw [0,1,5] [(.exit 0,[(0,.o)]),(.ret,[(4,.o)])])] [(0,.o v),(1,.o (.fn f [] caps))] Tryz.func126 (by kernel_rfl) (by kernel_rfl) (by kernel_rfl) rfl (Eq.mp (by kernel_rfl) H)
theorem XN(call:aO->List J->aa->ax)(b:Nat)(N:Nat)(k:Nat)(f:Nat)(caps:List J)(h:aa){Q:bK->ar->Prop}(H:(k<N->k<N/\∃v1:J,aA (h.room 11) b (0+k*1)=some v1/\(1<=k/\k<9223372036854775808)/\k-1<N/\∃v2:J,aA (h.room 11) b (0+(k-1)*1)=some v2/\∃bh:Bool,∃al:aa,call (.fn f) (v1::v2::caps) (h.room 11)=.ret (.bool bh) al/\J.sound (.fn f [] caps)=true/\J.sound v1=true/\J.sound v2=true/\(bh=true->∃aQ:Nat,∃bw:Nat,∃cl:Nat,∃c1:cj,dR Tryz.prog al 49 (.slice b 0 N (.aM 1)) (some (.int .i64 (.ofNat k))) none none=some (.slice aQ bw cl c1)/\bB Tryz.prog Tryz.f126 call [1,1,0,1,0,0,1,0,0,1,0,1,0,1,0] (ar.mk [(0,.slice b 0 N (.aM 1)),(1,.fn f [] caps),(5,.int .i64 (.ofNat k)),(6,.slice aQ bw cl c1),(7,.int .i64 (.ofNat 1))] [] .none al) (λc6 c0=>∃cC:Nat,∃c5:Nat,∃dV:Nat,∃c2:cj,∃fo:Nat,∃ak:aa,∃bD:Env,c6=.exit 2/\c0=ar.mk bD [] .none ak/\cZ [(0,.slice cC c5 dV c2),(5,.int .i64 (.ofNat fo))] bD/\∃kr:Nat,∃j3:Nat,∃hM:Nat,∃c3:cj,dR Tryz.prog ak 49 (.slice cC c5 dV c2) (some (.int .i64 (.ofNat fo))) none none=some (.slice kr j3 hM c3)/\∃aS:aa,o7 Tryz.prog ak 49 (.slice kr j3 hM c3)=some (.aD [],aS)/\∃dr:J,dR Tryz.prog aS 49 (.slice cC c5 dV c2) none (some (.int .i64 (.ofNat fo))) none=some dr/\Q .ret (ar.mk [(0,.slice cC c5 dV c2),(4,dr),(5,.int .i64 (.ofNat fo))] [] .none aS)))/\(bh=false->k+1<9223372036854775808/\Q .nrm (ar.mk [(0,.slice b 0 N (.aM 1)),(1,.fn f [] caps),(5,.int .i64 (.ofNat (k+1)))] [] .none al)))/\(¬k<N->Q (.exit 0) (ar.mk [(0,.slice b 0 N (.aM 1)),(1,.fn f [] caps),(5,.int .i64 (.ofNat k))] [] .none h))):
  bB Tryz.prog Tryz.f126 call [1,1,0,1,0,0] ⟨[(0,.slice b 0 N (.aM 1)),(1,.fn f [] caps),(5,.int .i64 (.ofNat k))],[],.none,h⟩ Q:=
 gN [(22,.bW .o),(27,.bW .o),(31,.bW .ih),(4002,.fw [0,1,5,6,7] [(.exit 2,[(0,.ih),(5,.n .i64)])]),(61,.bW .ih),(64,.bW .o)] [0,1,4,5] [(0,.v (.slice b 0 N (.aM 1))),(1,.o (.fn f [] caps)),(5,.v (.int .i64 (.ofNat k)))] rfl (Eq.mp (by kernel_rfl) H)
theorem XO(call:aO->List J->aa->ax)(b:Nat)(N:Nat)(k:Nat)(f:Nat)(dE:Nat)(M:Nat)(j:Nat)(caps:List J)(h:aa){Q:bK->ar->Prop}(H:(j<M->j<M/\∃v1:J,aA (h.room 12) b (dE+j*1)=some v1/\(1<=j/\j<9223372036854775808)/\j-1<M/\∃v2:J,aA (h.room 12) b (dE+(j-1)*1)=some v2/\∃bh:Bool,∃al:aa,call (.fn f) (v1::v2::caps) (h.room 12)=.ret (.bool bh) al/\J.sound (.fn f [] caps)=true/\J.sound v1=true/\J.sound v2=true/\(bh=true->j+1<9223372036854775808/\Q .nrm (ar.mk [(0,.slice b 0 N (.aM 1)),(1,.fn f [] caps),(5,.int .i64 (.ofNat k)),(6,.slice b dE M (.aM 1)),(7,.int .i64 (.ofNat (j+1)))] [] .none al))/\(bh=false->j<M/\∃aQ:Nat,aA al b (dE+j*1)=some (.ptr aQ 0)/\k<N/\∃ak:aa,ay.storeCells al b (0+k*1) [.ptr aQ 0]=some ak/\k+1<9223372036854775808/\j+1<9223372036854775808/\Q .nrm (ar.mk [(0,.slice b 0 N (.aM 1)),(1,.fn f [] caps),(5,.int .i64 (.ofNat (k+1))),(6,.slice b dE M (.aM 1)),(7,.int .i64 (.ofNat (j+1)))] [] .none ak)))/\(¬j<M->Q (.exit 2) (ar.mk [(0,.slice b 0 N (.aM 1)),(1,.fn f [] caps),(5,.int .i64 (.ofNat k)),(6,.slice b dE M (.aM 1)),(7,.int .i64 (.ofNat j))] [] .none h))):
  bB Tryz.prog Tryz.f126 call [1,1,0,1,0,0,1,0,0,1,0,1,0,1,0,0] ⟨[(0,.slice b 0 N (.aM 1)),(1,.fn f [] caps),(5,.int .i64 (.ofNat k)),(6,.slice b dE M (.aM 1)),(7,.int .i64 (.ofNat j))],[],.none,h⟩ Q:=
 gN [(42,.bW .o),(47,.bW .o)] [0,1,5,6,7] [(0,.v (.slice b 0 N (.aM 1))),(1,.o (.fn f [] caps)),(5,.v (.int .i64 (.ofNat k))),(6,.v (.slice b dE M (.aM 1))),(7,.v (.int .i64 (.ofNat j)))] rfl (Eq.mp (by kernel_rfl) H)
theorem XP(m:Nat)(b:Nat)(off:Nat)(N:Nat)(aG:cj)(h:aa){R:ax->Prop}(H:∃v1:J,∃al:aa,gl Tryz.prog (aa.push h (.cells [] 47 .own 0 0)) 49 (some 49) (.slice h.n 0 0 (.exact 0)) (.slice b off N aG)=some (v1,al)/\R (.ret v1 al)):
  R (Y (m+1) (.fn 127) [.slice b off N aG] h):=
 dH (intr:=b7) [(7,.bW .o)] [(0,.v (.slice b off N aG))] Tryz.func127 (by kernel_rfl) (by kernel_rfl) (by kernel_rfl) rfl (Eq.mp (by kernel_rfl) H)
theorem XQ(m:Nat)(h:aa){R:ax->Prop}(H:R (.ret .az h)):
  R (Y (m+1) (.fn 127) [.az] h):=
 dH (intr:=b7) [] [(0,.v .az)] Tryz.func127 (by kernel_rfl) (by kernel_rfl) (by kernel_rfl) rfl (Eq.mp (by kernel_rfl) H)
theorem XR(m:Nat)(v:J)(f:Nat)(caps:List J)(h:aa){R:ax->Prop}(H:J.bF (.fn f [] caps)=true/\∃bh:Bool,∃al:aa,(Y m) (.fn 124) [v,.fn 125 [] [.ptr h.n 0]] (aa.push h (.cells [.fn f [] caps] 145 .own 0 0))=.ret (.bool bh) al/\(bh=true->∃v1:J,∃ak:aa,(Y m) (.fn 127) [v] al=.ret v1 ak/\∃v2:J,∃aS:aa,(Y m) (.fn 126) [v1,.fn 128 [] [.ptr h.n 0]] ak=.ret v2 aS/\∃aQ:Nat,cO Tryz.prog aS 49 v2=some (.int .i64 (.ofNat aQ))/\∃bw:Nat,cO Tryz.prog aS 49 v=some (.int .i64 (.ofNat bw))/\R (.ret (.bool (de (.ofNat aQ) (.ofNat bw))) aS))/\(bh=false->R (.ret (.bool false) al))):
  R (Y (m+1) (.fn 111) [v,.fn f [] caps] h):=
 dH (intr:=b7) [] [(0,.o v),(1,.o (.fn f [] caps))] Tryz.func111 (by kernel_rfl) (by kernel_rfl) (by kernel_rfl) rfl (Eq.mp (by kernel_rfl) H)
theorem XS(m:Nat)(v:J)(h:aa){R:ax->Prop}(H:∃bh:Bool,∃al:aa,(Y m) (.fn 90) [v] h=.ret (.bool bh) al/\R (.ret (.bool !bh) al)):
  R (Y (m+1) (.fn 102) [v] h):=
 dH (intr:=b7) [] [(0,.o v)] Tryz.func102 (by kernel_rfl) (by kernel_rfl) (by kernel_rfl) rfl (Eq.mp (by kernel_rfl) H)
theorem XT(m:Nat)(s:List UInt8)(h:aa){R:ax->Prop}(H:∃bh:Bool,∃al:aa,(Y m) (.fn 107) [.str s] h=.ret (.bool bh) al/\R (.ret (.bool !bh) al)):
  R (Y (m+1) (.fn 106) [.str s] h):=
 dH (intr:=b7) [] [(0,.v (.str s))] Tryz.func106 (by kernel_rfl) (by kernel_rfl) (by kernel_rfl) rfl (Eq.mp (by kernel_rfl) H)
theorem XU(m:Nat)(s:List UInt8)(h:aa){R:ax->Prop}(H:R (.ret (.str s) h)):
  R (Y (m+1) (.fn 109) [.str s] h):=
 dH (intr:=b7) [] [(0,.v (.str s))] Tryz.func109 (by kernel_rfl) (by kernel_rfl) (by kernel_rfl) rfl (Eq.mp (by kernel_rfl) H)
theorem XV(m:Nat)(r:Nat)(h:aa){R:ax->Prop}(H:∃aQ:Nat,aA h r (0+0)=some (.int .i64 (.ofNat aQ))/\(aQ=9->R (.ret (.bool true) h))/\(¬aQ=9->∃bw:Nat,aA h r (0+0)=some (.int .i64 (.ofNat bw))/\R (.ret (.bool (de (.ofNat bw) (.ofNat 1))) h))):
  R (Y (m+1) (.fn 110) [.ptr r 0] h):=
 dH (intr:=b7) [] [(0,.v (.ptr r 0))] Tryz.func110 (by kernel_rfl) (by kernel_rfl) (by kernel_rfl) rfl (Eq.mp (by kernel_rfl) H)
theorem XW(m:Nat)(r:Nat)(h:aa){R:ax->Prop}(H:∃aQ:Nat,∃al:aa,(Y m) (.fn 70) [.ptr r 0] h=.ret (.int .i64 (.ofNat aQ)) al/\(60<aQ->R (.ret (.int .i64 (.ofNat 3)) al))/\(¬60<aQ->∃bh:Bool,∃ak:aa,(Y m) (.fn 90) [.ptr r 0] al=.ret (.bool bh) ak/\(bh=true->R (.ret (.int .i64 (.ofNat 0)) ak))/\(bh=false->R (.ret (.int .i64 (.ofNat 2)) ak)))):
  R (Y (m+1) (.fn 76) [.ptr r 0] h):=
 dH (intr:=b7) [] [(0,.v (.ptr r 0))] Tryz.func76 (by kernel_rfl) (by kernel_rfl) (by kernel_rfl) rfl (Eq.mp (by kernel_rfl) H)
theorem XX(m:Nat)(h:aa){R:ax->Prop}(H:R (.ret (.int .i64 (.ofNat 1)) h)):
  R (Y (m+1) (.fn 76) [.bc] h):=
 dH (intr:=b7) [] [(0,.v .bc)] Tryz.func76 (by kernel_rfl) (by kernel_rfl) (by kernel_rfl) rfl (Eq.mp (by kernel_rfl) H)
theorem sB{n:Nat}{q:Nat->Bool}(h:∀j,j<n->q j=false):(List.range n).any q=false:=by
 rw[List.any_eq_false];intro j aI;rw[h j (by simpa using aI)];simp
theorem wJ{n i:Nat}{q:Nat->Bool}(af:i<n)(h:q i=true):(List.range n).any q=true:=List.any_eq_true.2 ⟨i,by simpa using af,h⟩
theorem mg{f:Nat}{caps:List J}(h:jI caps=true):J.sound (.fn f [] caps)=true:=by simp[J.sound,jI,h]
theorem MM(z:J)(a0:z.bF=true)(L:List J)(k:Nat)(au:k<L.length):eP k [z] L=some (L.set k z):=by
 have h:=yG (L.take k) [z] (L.drop k) (by simp[a0]) (by simp;omega)
 rw[List.length_take,Nat.min_eq_left (by omega),List.take_append_drop] at h
 rw[h,List.drop_drop]
 congr 1
 rw[List.set_eq_take_append_cons_drop,if_pos au]
 rfl
theorem MN(xs:List J)(ad:xs.all J.bF=true)(L:List J)(k:Nat)(au:k+xs.length<=L.length):∃sC,eP k xs L=some sC/\sC.length=L.length:=by
 have h:=yG (L.take k) xs (L.drop k) ad (by simp;omega)
 rw[List.length_take,Nat.min_eq_left (by omega),List.take_append_drop] at h
 exact⟨_,h,by simp;omega⟩
theorem XY:∀(l cs:List J) (o:Nat),(∀i (af:i<l.length),nth (o+i) cs=some l[i])->takeN l.length (iO o cs)=some l:=by
 have base:∀(l cs:List J),(∀i (af:i<l.length),nth i cs=some l[i])->takeN l.length cs=some l:=by
  intro l
  induction l with
  |nil=>intro cs _;rfl
  |cons a l bp=>
   intro cs h
   cases cs with
   |nil=>have:=h 0 (by simp);simp[nth] at this
   |cons c cs=>
    have h0:=h 0 (by simp)
    simp only[nth,List.getElem_cons_zero,Option.some.injEq] at h0
    subst h0
    have:=bp cs (λi af=>by have:=h (i+1) (by simpa using af);simpa[nth] using this)
    simp only[List.length_cons,takeN,this]
 intro l cs o
 induction o generalizing cs with
 |zero=>intro h;exact base l cs (λi af=>by have:=h i af;rwa [Nat.zero_add] at this)
 |succ o bp=>
  intro h
  cases cs with
  |nil=>
   cases l with
   |nil=>rfl
   |cons a l=>have:=h 0 (by simp);simp[nth] at this
  |cons c cs=>
   refine bp cs (λi af=>?_)
   have:=h i af
   rw[show o+1+i=(o+i)+1 by omega] at this
   simpa[nth] using this
theorem eT.src{B:Nat}{h:aa}{b off:Nat}{aG:cj}{vs:List J}(aw:∀i (af:i<vs.length),aA h b (off+i*1)=some vs[i])(h0:0<vs.length)(ah:aG≠ .dead):hP h 1 (.slice b off vs.length aG)=some (vs.length,vs):=by
 have ag:∃cs e k aW up,h.get b=some (.cells cs e k aW up):=by
  have:=aw 0 h0
  unfold aA at this
  split at this
  · rename_i cs e k aW up ao
    exact⟨cs,e,k,aW,up,ao⟩
  · cases this
 obtain⟨cs,e,k,aW,up,ao⟩:=ag
 have g3:ay.loadCells h b off (vs.length*1)=some vs:=by
  refine hq ao ?_
  rw[Nat.mul_one]
  refine XY vs cs off (λi af=>?_)
  have:=aw i af
  simp only[aA,ao,Nat.mul_one] at this
  exact this
 cases aG with
 |dead=>exact absurd rfl ah
 |exact c=>simp only[hP,g3]
 |aM c=>simp only[hP,g3]
def hW(h:aa)(b:Nat)(el:Nat)(L:List J):Prop:=h.get b=some (.cells L el .aM 0 0)
theorem hW.pV{h:aa}{b el:Nat}{L:List J}(a8:hW h b el L){i o:Nat}(af:i<L.length)(e:o=i):aA h b o=some L[i]:=by
 subst e;exact BX a8 (List.getElem?_eq_getElem af)
theorem XZ(m:Nat){B:Nat}{h:aa}{v:J}{vs:List J}(f:Nat)(caps:List J)(q:Nat->Bool)(aH:eT B h v vs)(hlen:vs.length<=90000)(hf:∀i (af:i<vs.length) x,Ext B h x->ca B x (.bool (q i)) (Y m (.fn f) (vs[i]::caps) x)):
  ca B h (.bool ((List.range vs.length).any q)) (Y (m+2) (.fn 105) [v,.fn f [] caps] h):=by
 refine Xo (m+1) v f caps h ?_
 have key:∃i g,Y (m+1) (.fn 117) [v,.fn f [] caps] h=.ret (.int .i64 i) g/\fE (Int.ofNat 0) i=(List.range vs.length).any q/\Ext B h g:=by
  refine Xp m v f caps h (R:=λx=>∃i g,x=.ret (.int .i64 i) g/\fE (Int.ofNat 0) i=(List.range vs.length).any q/\Ext B h g) ⟨vs.length,aH.len (t:=48) (e:=9) (by kernel_rfl),?_⟩
  refine bB.loop (by kernel_rfl) (λk st=>∃i x Γ,st=⟨Γ,[],.none,x⟩/\cZ [(0,v),(1,.fn f [] caps),(7,.int .i64 (Int.ofNat vs.length)),(8,.int .i64 (Int.ofNat i))] Γ/\vs.length-i=k/\i<=vs.length/\Ext B h x/\∀j,j<i->q j=false) ?_ vs.length _ (by omega) ⟨0,h,_,rfl,⟨rfl,rfl,rfl,rfl,trivial⟩,by omega,by omega,Ext.refl _ _,λj aI=>by omega⟩
  rintro k st ⟨i,x,Γ,rfl,dk,au,af,ad,a1⟩
  rcases aH with⟨rfl,rfl⟩|⟨b,off,aG,rfl,ag,aw,aY,aq⟩
  · exact bB.pre (Xr (Y m) _ i f caps _ x ⟨by simp,.inl ⟨x,_,rfl,rfl,trivial,_,x,rfl,rfl,ad⟩⟩) dk rfl rfl rfl
  · refine bB.pre (Xq (Y m) b off _ i f caps aG x ⟨λab=>⟨ab,_,hJ ad ag (aw i ab),?_⟩,λab=>?_⟩) dk rfl rfl rfl
    · obtain⟨g,c1,bj⟩:=hf i ab x ad
      have ao:=ad.trans (Nat.le_refl _) bj
      refine⟨q i,g,c1,λah=>?_,λah=>?_⟩
      · exact .inr ⟨i,g,_,rfl,rfl,⟨rfl,trivial⟩,_,g,rfl,by rw[wJ ab ah];exact nC (by omega),ao⟩
      · refine⟨by omega,_,(by show _<k;omega),i+1,g,_,rfl,⟨rfl,rfl,rfl,rfl,trivial⟩,rfl,by omega,ao,λj aI=>?_⟩
        by_cases e:j=i
        · rw[e];exact ah
        · exact a1 j (by omega)
    · exact .inl ⟨x,_,rfl,rfl,trivial,_,x,rfl,by rw[sB (λj aI=>a1 j (by omega))];rfl,ad⟩
 obtain⟨i,g,c1,aE,bj⟩:=key
 exact⟨i,g,c1,ca.of (fb aE.symm) bj⟩
theorem X0(m:Nat){B:Nat}{h:aa}{v:J}{vs:List J}(f:Nat)(caps:List J)(q:Nat->Nat->Bool)(aH:eT B h v vs)(hlen:vs.length<=90000)(hH:jI caps=true)(fA:∀i (af:i<vs.length),J.sound vs[i]=true)(hf:∀i j (af:i<vs.length) (aI:j<vs.length) x,Ext B h x->ca B x (.int .i64 (if q i j then Int.negSucc 0 else Int.ofNat 1)) (Y m (.fn f) (vs[i]::vs[j]::caps) x)):
  ca B h (.bool (!(List.range vs.length).any (λi=>decide (0<i)&&q i (i-1)))) (Y (m+1) (.fn 119) [v,.fn f [] caps] h):=by
 by_cases h0:vs.length=0
 · refine Xt m v f caps h ⟨0,by rw[<-h0];exact aH.len (t:=48) (e:=9) (by kernel_rfl),Int.negSucc 0,by kernel_rfl,?_⟩
   refine bB.loop (by kernel_rfl) (λk st=>∃Γ,st=⟨Γ,[],.none,h⟩/\cZ [(0,v),(1,.fn f [] caps),(5,.int .i64 (Int.negSucc 0))] Γ) ?_ 1 _ (by omega) ⟨_,rfl,rfl,rfl,rfl,trivial⟩
   rintro k st ⟨Γ,rfl,dk⟩
   exact bB.pre (Xv (Y m) v f caps h ⟨rfl,h,_,rfl,rfl,trivial,ca.of (fb (by rw[h0];rfl)) (Ext.refl _ _)⟩) dk rfl rfl rfl
 · refine Xs m v f caps h ⟨vs.length,aH.len (t:=48) (e:=9) (by kernel_rfl),⟨by omega,by omega⟩,?_⟩
   refine bB.loop (by kernel_rfl) (λk st=>∃i x Γ,st=⟨Γ,[],.none,x⟩/\cZ [(0,v),(1,.fn f [] caps),(5,.int .i64 (Int.ofNat i))] Γ/\i=k/\i<vs.length/\Ext B h x/\∀j,i<j->j<vs.length->q j (j-1)=false) ?_ (vs.length-1) _ (by omega) ⟨vs.length-1,h,_,rfl,⟨rfl,rfl,rfl,trivial⟩,by omega,by omega,Ext.refl _ _,λj aI pd=>by omega⟩
   rintro k st ⟨i,x,Γ,rfl,dk,au,af,ad,a1⟩
   rcases aH with⟨rfl,rfl⟩|⟨b,off,aG,rfl,ag,aw,aY,aq⟩
   · simp at h0
   · refine bB.pre (Xu (Y m) b off _ i f caps aG x ⟨λab=>?_,λab=>?_⟩) dk rfl rfl rfl
     · have ai:=ad.hI (k:=12)
       obtain⟨g,c1,bj⟩:=hf i (i-1) af (by omega) _ ai
       have ao:=ai.trans (Nat.le_refl _) bj
       refine⟨af,_,hJ ai ag (aw i af),⟨by omega,by omega⟩,by omega,_,hJ ai ag (aw (i-1) (by omega)),_,g,c1,mg hH,fA i af,fA (i-1) (by omega),λah=>?_,λah=>?_⟩
       · have uG:q i (i-1)=true:=by
           cases qu:q i (i-1) with
           |true=>rfl
           |false=>rw[qu] at ah;exact absurd ah (by decide)
         exact .inr ⟨g,_,rfl,rfl,⟨rfl,trivial⟩,ca.of (fb (by rw[wJ af (by simp[ab,uG])];rfl)) ao⟩
       · have uG:q i (i-1)=false:=by
           cases qu:q i (i-1) with
           |false=>rfl
           |true=>rw[qu] at ah;exact absurd ah (by decide)
         refine⟨⟨by omega,by omega⟩,_,(by show _<k;omega),i-1,g,_,rfl,⟨rfl,rfl,rfl,trivial⟩,rfl,by omega,ao,λj aI pd=>?_⟩
         by_cases e:j=i
         · rw[e];exact uG
         · exact a1 j (by omega) pd
     · refine .inl ⟨x,_,rfl,rfl,trivial,ca.of (fb ?_) ad⟩
       rw[sB (λj aI=>?_)];rfl
       by_cases e:0<j
       · rw[a1 j (by omega) aI,Bool.and_false]
       · simp[e]
theorem MO(m:Nat){B:Nat}{h:aa}{v:J}{vs:List J}(f:Nat)(caps:List J)(q:Nat->Bool)(aH:eT B h v vs)(hlen:vs.length<=90000)(hf:∀i (af:i<vs.length) x,Ext B h x->ca B x (.bool (q i)) (Y m (.fn f) (vs[i]::caps) x)):
  ca B h (.bool ((List.range vs.length).any q)) (Y (m+2) (.fn 103) [v,.fn f [] caps] h):=by
 refine XD (m+1) v f caps h ?_
 have key:∃i g,Y (m+1) (.fn 115) [v,.fn f [] caps] h=.ret (.int .i64 i) g/\fE (Int.ofNat 0) i=(List.range vs.length).any q/\Ext B h g:=by
  refine XE m v f caps h (R:=λx=>∃i g,x=.ret (.int .i64 i) g/\fE (Int.ofNat 0) i=(List.range vs.length).any q/\Ext B h g) ⟨vs.length,aH.len (t:=49) (e:=47) (by kernel_rfl),?_⟩
  refine bB.loop (by kernel_rfl) (λk st=>∃i x Γ,st=⟨Γ,[],.none,x⟩/\cZ [(0,v),(1,.fn f [] caps),(7,.int .i64 (Int.ofNat vs.length)),(8,.int .i64 (Int.ofNat i))] Γ/\vs.length-i=k/\i<=vs.length/\Ext B h x/\∀j,j<i->q j=false) ?_ vs.length _ (by omega) ⟨0,h,_,rfl,⟨rfl,rfl,rfl,rfl,trivial⟩,by omega,by omega,Ext.refl _ _,λj aI=>by omega⟩
  rintro k st ⟨i,x,Γ,rfl,dk,au,af,ad,a1⟩
  rcases aH with⟨rfl,rfl⟩|⟨b,off,aG,rfl,ag,aw,aY,aq⟩
  · exact bB.pre (XG (Y m) _ i f caps _ x ⟨by simp,.inl ⟨x,_,rfl,rfl,trivial,_,x,rfl,rfl,ad⟩⟩) dk rfl rfl rfl
  · refine bB.pre (XF (Y m) b off _ i f caps aG x ⟨λab=>⟨ab,_,hJ ad ag (aw i ab),?_⟩,λab=>?_⟩) dk rfl rfl rfl
    · obtain⟨g,c1,bj⟩:=hf i ab x ad
      have ao:=ad.trans (Nat.le_refl _) bj
      refine⟨q i,g,c1,λah=>?_,λah=>?_⟩
      · exact .inr ⟨i,g,_,rfl,rfl,⟨rfl,trivial⟩,_,g,rfl,by rw[wJ ab ah];exact nC (by omega),ao⟩
      · refine⟨by omega,_,(by show _<k;omega),i+1,g,_,rfl,⟨rfl,rfl,rfl,rfl,trivial⟩,rfl,by omega,ao,λj aI=>?_⟩
        by_cases e:j=i
        · rw[e];exact ah
        · exact a1 j (by omega)
    · exact .inl ⟨x,_,rfl,rfl,trivial,_,x,rfl,by rw[sB (λj aI=>a1 j (by omega))];rfl,ad⟩
 obtain⟨i,g,c1,aE,bj⟩:=key
 exact⟨i,g,c1,ca.of (fb aE.symm) bj⟩
theorem X1(m:Nat){B:Nat}{h:aa}{v:J}{vs:List J}(f:Nat)(caps:List J)(q:Nat->Nat->Bool)(aH:eT B h v vs)(hlen:vs.length<=90000)(hH:jI caps=true)(fA:∀i (af:i<vs.length),J.sound vs[i]=true)(hf:∀i j (af:i<vs.length) (aI:j<vs.length) x,Ext B h x->ca B x (.int .i64 (if q i j then Int.negSucc 0 else Int.ofNat 1)) (Y m (.fn f) (vs[i]::vs[j]::caps) x)):
  ca B h (.bool (!(List.range vs.length).any (λi=>decide (0<i)&&q i (i-1)))) (Y (m+1) (.fn 124) [v,.fn f [] caps] h):=by
 by_cases h0:vs.length=0
 · refine XI m v f caps h ⟨0,by rw[<-h0];exact aH.len (t:=49) (e:=47) (by kernel_rfl),Int.negSucc 0,by kernel_rfl,?_⟩
   refine bB.loop (by kernel_rfl) (λk st=>∃Γ,st=⟨Γ,[],.none,h⟩/\cZ [(0,v),(1,.fn f [] caps),(5,.int .i64 (Int.negSucc 0))] Γ) ?_ 1 _ (by omega) ⟨_,rfl,rfl,rfl,rfl,trivial⟩
   rintro k st ⟨Γ,rfl,dk⟩
   exact bB.pre (XK (Y m) v f caps h ⟨rfl,h,_,rfl,rfl,trivial,ca.of (fb (by rw[h0];rfl)) (Ext.refl _ _)⟩) dk rfl rfl rfl
 · refine XH m v f caps h ⟨vs.length,aH.len (t:=49) (e:=47) (by kernel_rfl),⟨by omega,by omega⟩,?_⟩
   refine bB.loop (by kernel_rfl) (λk st=>∃i x Γ,st=⟨Γ,[],.none,x⟩/\cZ [(0,v),(1,.fn f [] caps),(5,.int .i64 (Int.ofNat i))] Γ/\i=k/\i<vs.length/\Ext B h x/\∀j,i<j->j<vs.length->q j (j-1)=false) ?_ (vs.length-1) _ (by omega) ⟨vs.length-1,h,_,rfl,⟨rfl,rfl,rfl,trivial⟩,by omega,by omega,Ext.refl _ _,λj aI pd=>by omega⟩
   rintro k st ⟨i,x,Γ,rfl,dk,au,af,ad,a1⟩
   rcases aH with⟨rfl,rfl⟩|⟨b,off,aG,rfl,ag,aw,aY,aq⟩
   · simp at h0
   · refine bB.pre (XJ (Y m) b off _ i f caps aG x ⟨λab=>?_,λab=>?_⟩) dk rfl rfl rfl
     · have ai:=ad.hI (k:=12)
       obtain⟨g,c1,bj⟩:=hf i (i-1) af (by omega) _ ai
       have ao:=ai.trans (Nat.le_refl _) bj
       refine⟨af,_,hJ ai ag (aw i af),⟨by omega,by omega⟩,by omega,_,hJ ai ag (aw (i-1) (by omega)),_,g,c1,mg hH,fA i af,fA (i-1) (by omega),λah=>?_,λah=>?_⟩
       · have uG:q i (i-1)=true:=by
           cases qu:q i (i-1) with
           |true=>rfl
           |false=>rw[qu] at ah;exact absurd ah (by decide)
         exact .inr ⟨g,_,rfl,rfl,⟨rfl,trivial⟩,ca.of (fb (by rw[wJ af (by simp[ab,uG])];rfl)) ao⟩
       · have uG:q i (i-1)=false:=by
           cases qu:q i (i-1) with
           |false=>rfl
           |true=>rw[qu] at ah;exact absurd ah (by decide)
         refine⟨⟨by omega,by omega⟩,_,(by show _<k;omega),i-1,g,_,rfl,⟨rfl,rfl,rfl,trivial⟩,rfl,by omega,ao,λj aI pd=>?_⟩
         by_cases e:j=i
         · rw[e];exact uG
         · exact a1 j (by omega) pd
     · refine .inl ⟨x,_,rfl,rfl,trivial,ca.of (fb ?_) ad⟩
       rw[sB (λj aI=>?_)];rfl
       by_cases e:0<j
       · rw[a1 j (by omega) aI,Bool.and_false]
       · simp[e]
end Go.Proofs.cf
namespace Go.Proofs.cf
open Go ay Go.Proofs cS
set_option maxRecDepth 100000
set_option maxHeartbeats 1000000
theorem MP{n:Nat}(h:¬n<2):2<=n:=by omega
theorem Cp{P:Program}{h:aa}{T E b n k:Nat}(hu:P.underlying T=some (.slice E))(hs:dm P E=some 1)(h0:0<k)(au:k<n):dR P h T (.slice b 0 n (.aM 1)) (some (.int .i64 (Int.ofNat k))) none none=some (.slice b (0+k*1) (n-k) (.aM 1)):=by
 have bh:Nat.ble n n=true:=by rw[Nat.ble_eq];omega
 have bf:Nat.ble k n=true:=by rw[Nat.ble_eq];omega
 have dM:Nat.blt k n=true:=by rw[Nat.blt_eq];exact au
 have dW:¬k=0:=by omega
 simp only[dR,hu,hs,bounds,jx,fF,bh,bf,dM,if_true,if_neg dW]
theorem MQ{P:Program}{h:aa}{T E b n k:Nat}(hu:P.underlying T=some (.slice E))(hs:dm P E=some 1)(au:k<=n):dR P h T (.slice b 0 n (.aM 1)) none (some (.int .i64 (Int.ofNat k))) none=some (.slice b 0 k (.aM 1)):=by
 have bh:Nat.ble n n=true:=by rw[Nat.ble_eq];omega
 have bf:Nat.ble k n=true:=by rw[Nat.ble_eq];omega
 have dM:Nat.ble 0 k=true:=by rw[Nat.ble_eq];omega
 simp only[dR,hu,hs,bounds,jx,fF,bh,bf,dM,if_true,Nat.sub_zero]
theorem MR:∀a:aL,fq a a=false
 |[]=>rfl
 |x::a=>by rw[Gl,if_pos rfl];exact MR a
theorem MS:∀a b:aL,fq a b=true->fq b a=false
 |[],b,h=>by cases b<;>rfl
 |x::a,[],h=>by simp[fq] at h
 |x::a,y::b,h=>by
  rw[Gl] at h⊢
  by_cases e:x.toNat=y.toNat
  · rw[if_pos e] at h;rw[if_pos e.symm];exact MS a b h
  · rw[if_neg e] at h;rw[if_neg (λh=>e h.symm)]
    have:x.toNat<y.toNat:=by simpa using h
    simp;omega
theorem MT:∀a b:aL,fq a b=false->fq b a=false->a=b
 |[],[],_,_=>rfl
 |[],y::b,h,_=>by simp[fq] at h
 |x::a,[],_,h=>by simp[fq] at h
 |x::a,y::b,ab,ae=>by
  rw[Gl] at ab ae
  by_cases e:x.toNat=y.toNat
  · rw[if_pos e] at ab;rw[if_pos e.symm] at ae
    rw[MT a b ab ae,show x=y from UInt8.toNat_inj.1 e]
  · rw[if_neg e] at ab;rw[if_neg (λh=>e h.symm)] at ae
    simp at ab ae;omega
theorem MU(a b:aL):fq a b=(!fq b a&&!cw b a):=by
 by_cases e:b=a
 · subst e;rw[MR,v7];rfl
 · have ag:cw b a=false:=by
     cases ad:cw b a with
     |false=>rfl
     |true=>exact absurd (by simpa[nk] using ad) e
   rw[ag]
   cases ab:fq a b with
   |true=>rw[MS a b ab];rfl
   |false=>
    cases ae:fq b a with
    |true=>rfl
    |false=>exact absurd (MT a b ab ae).symm e
def pW(w:Nat->aL)(n:Nat):Bool:=!(List.range n).any (λi=>decide (0<i)&&!fq (w (i-1)) (w i))
theorem MV(w:Nat->aL)(n:Nat)(hs:(!(List.range n).any (λi=>decide (0<i)&&fq (w i) (w (i-1))))=true):pW w n=(!(List.range n).any (λi=>decide (0<i)&&cw (w i) (w (i-1)))):=by
 unfold pW
 congr 1
 rw[Bool.not_eq_true',List.any_eq_false] at hs
 rw[Bool.eq_iff_iff,List.any_eq_true,List.any_eq_true]
 refine exists_congr λi=>and_congr_right λaf=>?_
 have:=hs i af
 rw[MU (w (i-1)) (w i)]
 by_cases e:0<i
 · have aw:fq (w i) (w (i-1))=false:=by simpa[e] using this
   rw[aw];simp[e]
 · simp[e]
theorem MW(w:Nat->aL)(n:Nat)(hs:(!(List.range n).any (λi=>decide (0<i)&&fq (w i) (w (i-1))))=false):pW w n=false:=by
 unfold pW
 rw[Bool.not_eq_false',List.any_eq_true] at hs⊢
 obtain⟨i,af,a1⟩:=hs
 refine⟨i,af,?_⟩
 rw[MU (w (i-1)) (w i)]
 simp only[Bool.and_eq_true] at a1⊢
 rw[a1.2];exact⟨a1.1,rfl⟩
def y7(L vs:List J):Prop:=∀i (af:i<L.length),∃s,∃hs:s<vs.length,L[i]=vs[s]
theorem y7.set{L vs:List J}(h:y7 L vs)(k:Nat){s:Nat}(hs:s<vs.length):y7 (L.set k vs[s]) vs:=by
 intro i af
 rw[List.getElem_set]
 split
 · exact⟨s,hs,rfl⟩
 · exact h i (by simpa using af)
theorem MX{a:Bool}{n k:Nat}(h:a=decide (k=n)):de (Int.ofNat k) (Int.ofNat n)=a:=by rw[Cm,h]
theorem MY{E U:Nat}{h:aa}{v:J}{vs:List J}{a:Nat}(hu:Tryz.prog.underlying U=some (.slice E))(gU:o6 Tryz.prog (some U)=true){i:TypeInfo}{z:J}(af:Tryz.prog.info? E=some i)(bE:i.size=1)(nz:i.bytes<=1000)(a0:eG Tryz.prog E=some z)(jk:z.cells.length=1)(aH:hP h 1 v=some (vs.length,vs))(h0:0<vs.length)(aw:vs.length<=90000)(ah:vs.all J.bF=true)(a5:h.get a=some (.cells [] E .own 0 0)):
  gl Tryz.prog h U (some U) (.slice a 0 0 (.exact 0)) v=some (.slice h.n 0 vs.length (.aM 1),h.push (.cells vs E .aM 0 0)):=by
 obtain⟨k,au⟩:∃k,vs.length=k+1:=⟨vs.length-1,by omega⟩
 have hmul:(4*(0+(k+1))+2048)*(i.bytes+1)<=(4*90000+2048)*1001:=Nat.mul_le_mul (by omega) (by omega)
 have k6:kY h E i.bytes 1 (0+(k+1)) z ([]++vs) 0=some (.slice h.n 0 (0+(k+1)) (.aM 1),h.push (.cells ([]++vs) E .aM 0 0)):=
  yD (by unfold lR;rw[Nat.ble_eq];omega) (by rw[jk];rfl) (by rw[List.nil_append];exact ah)
 have qH:Nat.ble (0+(k+1)) 0=false:=by
  cases ad:Nat.ble (0+(k+1)) 0 with
  |false=>rfl
  |true=>have:=Nat.le_of_ble_eq_true ad;omega
 have g3:ay.loadCells h a 0 (0*1)=some []:=by simp only[ay.loadCells,a5];rfl
 rw[au] at aH
 simp only[gl,hu,gU,af,a0,bE,aH,au,qH,g3,k6]
 rw[List.nil_append,Nat.zero_add]
theorem X2(m:Nat){B:Nat}{h:aa}{v:J}{vs:List J}(bN:B<=h.n)(aH:eT B h v vs)(hlen:vs.length<=90000)(ah:vs.all J.bF=true):(v=.az/\vs=[]/\Y (m+1) (.fn 122) [v] h=.ret .az h)\/(0<vs.length/\∃b an,Y (m+1) (.fn 122) [v] h=.ret (.slice b 0 vs.length (.aM 1)) an/\B<=b/\b<an.n/\hW an b 9 vs/\Ext B h an):=by
 rcases aH with⟨rfl,rfl⟩|⟨b,off,aG,rfl,ag,aw,aY,aq⟩
 · exact .inl ⟨rfl,rfl,XB m h (R:=λx=>x=.ret .az h) rfl⟩
 · right
   refine⟨aY,?_⟩
   obtain⟨H,dG⟩:∃H,H=h.push (.cells [] 9 .own 0 0):=⟨_,rfl⟩
   have fe:Ext B h H:=by rw[dG];exact Ext.push bN _
   have j4:H.n=h.n+1:=by rw[dG];rfl
   have gU:=eT.src (B:=B) (h:=H) (λi af=>hJ fe ag (aw i af)) aY aq
   obtain⟨i,af⟩:=Option.isSome_iff_exists.1 (show(Tryz.prog.info? 9).isSome=true by kernel_rfl)
   have bE:i.size=1:=by
    have:(Tryz.prog.info? 9).map (·.size)=some 1:=by kernel_rfl
    rw[af] at this;simpa using this
   have nz:i.bytes<=1000:=by
    have:(Tryz.prog.info? 9).map (λi=>Nat.ble i.bytes 1000)=some true:=by kernel_rfl
    rw[af] at this;exact Nat.le_of_ble_eq_true (by simpa using this)
   obtain⟨z,a0⟩:=Option.isSome_iff_exists.1 (show(eG Tryz.prog 9).isSome=true by kernel_rfl)
   have jk:z.cells.length=1:=by
    have:(eG Tryz.prog 9).map (λz=>z.cells.length)=some 1:=by kernel_rfl
    rw[a0] at this;simpa using this
   have ap:=MY (U:=48) (E:=9) (a:=h.n) (by kernel_rfl) (by kernel_rfl) af bE nz a0 jk gU aY hlen ah (by rw[dG];exact dA rfl)
   refine XA m b off vs.length aG h (R:=λx=>∃b an,x=.ret (.slice b 0 vs.length (.aM 1)) an/\B<=b/\b<an.n/\hW an b 9 vs/\Ext B h an) ?_
   rw[<-dG]
   exact⟨_,_,ap,_,_,rfl,by omega,by simp,dA rfl,fe.trans (Nat.le_refl _) (Ext.push (Nat.le_trans bN fe.n) _)⟩
theorem X3(m:Nat){B b K f:Nat}{h:aa}{vs:List J}(caps:List J)(q:Nat->Nat->Bool)(hlen:vs.length<=90000)(mT:B<=b)(dO:1<=K)(X4:K<vs.length)(hH:jI caps=true)(fA:∀i (af:i<vs.length),J.sound vs[i]=true)(h4:∀i (af:i<vs.length),∃z:List UInt8,vs[i]=(.str z))(hf:∀i j (af:i<vs.length) (aI:j<vs.length) x,Ext B h x->ca x.n x (.bool (q i j)) (Y m (.fn f) (vs[i]::vs[j]::caps) x))
  {g:aa}(ag:b<g.n)(a8:hW g b 9 vs)(ad:Ext B h g){Γ:Env}(dk:cZ [(0,.slice b 0 vs.length (.aM 1)),(1,.fn f [] caps),(5,.int .i64 (Int.ofNat K)),(6,.slice b (0+K*1) (vs.length-K) (.aM 1)),(7,.int .i64 (Int.ofNat 1))] Γ):
  bB Tryz.prog Tryz.f121 (Y m) [1,1,0,1,0,0,1,0,0,1,0,1,0,1,0] ⟨Γ,[],.none,g⟩ (λc6 c0=>∃(bA:Nat) (ak:aa) (cA:Env),c6=.exit 2/\c0=⟨cA,[],.none,ak⟩/\cZ [(0,.slice b 0 vs.length (.aM 1)),(5,.int .i64 (Int.ofNat bA))] cA/\K<=bA/\bA<vs.length/\b<ak.n/\Ext B h ak/\∃L,hW ak b 9 L/\L.length=vs.length):=by
 refine bB.loop (by kernel_rfl) (λt st=>∃j k L x Γ,st=⟨Γ,[],.none,x⟩/\cZ [(0,.slice b 0 vs.length (.aM 1)),(1,.fn f [] caps),(5,.int .i64 (Int.ofNat k)),(6,.slice b (0+K*1) (vs.length-K) (.aM 1)),(7,.int .i64 (Int.ofNat j))] Γ/\(vs.length-K)-j=t/\1<=j/\j<=vs.length-K/\K<=k/\k+1<=K+j/\b<x.n/\hW x b 9 L/\L.length=vs.length/\y7 L vs/\Ext B h x) ?_ (vs.length-K-1) _ (by omega) ⟨1,K,vs,g,Γ,rfl,dk,by omega,by omega,by omega,by omega,by omega,ag,a8,rfl,λi af=>⟨i,af,rfl⟩,ad⟩
 rintro t st ⟨j,k,L,x,Γ,rfl,dk,a2,aI,DV,au,EN,y8,qV,nK,mU,iZ⟩
 refine bB.pre (Xz (Y m) b _ k f (0+K*1) _ j caps x ⟨λab=>?_,λab=>?_⟩) dk rfl rfl rfl
 · have ai:=iZ.hI (k:=12)
   have lH:hW (x.room 12) b 9 L:=qV
   have i1:K+j<L.length:=by omega
   have i2:K+j-1<L.length:=by omega
   obtain⟨s,hs,es⟩:=mU (K+j) i1
   obtain⟨a4,dF,rO⟩:=mU (K+j-1) i2
   obtain⟨al,c1,bj⟩:=hf s a4 hs dF _ ai
   have dn:=ai.trans (Nat.le_refl _) (bj.le (show B<=(x.room 12).n by simp;omega))
   have oN:b<(x.room 12).n:=by simp;omega
   have mV:hW al b 9 L:=(bj.get b oN).trans lH
   have qW:b<al.n:=Nat.lt_of_lt_of_le oN bj.n
   obtain⟨z,a0⟩:=h4 s hs
   refine⟨ab,_,(lH.pV i1 (by omega)).trans (by rw[es]),⟨by omega,by omega⟩,by omega,_,(lH.pV i2 (by omega)).trans (by rw[rO]),_,al,c1,mg hH,fA s hs,fA a4 dF,λah=>?_,λah=>?_⟩
   · exact⟨by omega,_,(by show _<t;omega),j+1,k,L,al,_,rfl,⟨rfl,rfl,rfl,rfl,rfl,trivial⟩,rfl,by omega,by omega,by omega,by omega,qW,mV,nK,mU,dn⟩
   · have cr:ay.storeCells al b (0+k*1) [(.str z)]=some (al.set b (some (.cells (L.set k (.str z)) 9 .aM 0 0))):=
       dY mV (yJ _ _) (by rw[show 0+k*1=k by omega];exact MM _ rfl L k (by omega))
     refine⟨ab,z,(mV.pV i1 (by omega)).trans (by rw[es,a0]),by omega,_,cr,by omega,by omega,_,(by show _<t;omega),j+1,k+1,L.set k (.str z),_,_,rfl,⟨rfl,rfl,rfl,rfl,rfl,trivial⟩,rfl,by omega,by omega,by omega,by omega,by simp;omega,dN rfl,by simpa using nK,?_,Ext.e3 mT dn⟩
     rw[<-a0]
     exact mU.set k hs
 · exact⟨k,x,_,rfl,rfl,⟨rfl,rfl,trivial⟩,au,by omega,y8,iZ,L,qV,nK⟩
theorem X5(m:Nat){B b f:Nat}{h:aa}{vs:List J}(caps:List J)(q:Nat->Nat->Bool)(hlen:vs.length<=90000)(mT:B<=b)(hH:jI caps=true)(fA:∀i (af:i<vs.length),J.sound vs[i]=true)(h4:∀i (af:i<vs.length),∃z:List UInt8,vs[i]=(.str z))(hf:∀i j (af:i<vs.length) (aI:j<vs.length) x,Ext B h x->ca x.n x (.bool (q i j)) (Y m (.fn f) (vs[i]::vs[j]::caps) x))
  (ag:b<h.n)(a8:hW h b 9 vs):
  ∃w g k,Y (m+1) (.fn 121) [.slice b 0 vs.length (.aM 1),.fn f [] caps] h=.ret w g/\cO Tryz.prog g 48 w=some (.int .i64 (Int.ofNat k))/\(!(List.range vs.length).any (λi=>decide (0<i)&&q i (i-1)))=decide (k=vs.length)/\Ext B h g:=by
 refine MK m (.slice b 0 vs.length (.aM 1)) f caps h (R:=λx=>∃w g k,x=.ret w g/\cO Tryz.prog g 48 w=some (.int .i64 (Int.ofNat k))/\(!(List.range vs.length).any (λi=>decide (0<i)&&q i (i-1)))=decide (k=vs.length)/\Ext B h g) ⟨vs.length,by rfl,λae=>?_,λae=>?_⟩
 · refine⟨_,h,vs.length,rfl,by rfl,?_,Ext.refl _ _⟩
   rw[sB (λj aI=>by simp[show¬0<j by omega])];simp
 · replace ae:=MP ae
   refine bB.loop (by kernel_rfl) (λt st=>∃k x Γ,st=⟨Γ,[],.none,x⟩/\cZ [(0,.slice b 0 vs.length (.aM 1)),(1,.fn f [] caps),(5,.int .i64 (Int.ofNat k))] Γ/\vs.length-k=t/\1<=k/\k<=vs.length/\b<x.n/\hW x b 9 vs/\Ext B h x/\∀j,0<j->j<k->q j (j-1)=false) ?_ (vs.length-1) _ (by omega) ⟨1,h,_,rfl,⟨rfl,rfl,rfl,trivial⟩,by omega,by omega,by omega,ag,a8,Ext.refl _ _,λj aI pd=>by omega⟩
   rintro t st ⟨k,x,Γ,rfl,dk,a2,au,ur,y8,qV,iZ,a1⟩
   refine bB.pre (Xy (Y m) b _ k f caps x ⟨λab=>?_,λab=>?_⟩) dk rfl rfl rfl
   · have ai:=iZ.hI (k:=11)
     have lH:hW (x.room 11) b 9 vs:=qV
     obtain⟨al,c1,bj⟩:=hf k (k-1) ab (by omega) _ ai
     have dn:=ai.trans (Nat.le_refl _) (bj.le (show B<=(x.room 11).n by simp;omega))
     have oN:b<(x.room 11).n:=by simp;omega
     have mV:hW al b 9 vs:=(bj.get b oN).trans lH
     have qW:b<al.n:=Nat.lt_of_lt_of_le oN bj.n
     refine⟨ab,_,lH.pV ab (by omega),⟨by omega,by omega⟩,by omega,_,lH.pV (by omega) (by omega),_,al,c1,mg hH,fA k ab,fA (k-1) (by omega),λah=>?_,λah=>?_⟩
     · have s2:dR Tryz.prog al 48 (.slice b 0 vs.length (.aM 1)) (some (.int .i64 (Int.ofNat k))) none none=some (.slice b (0+k*1) (vs.length-k) (.aM 1)):=Cp (E:=9) (by kernel_rfl) (by kernel_rfl) (by omega) ab
       refine⟨_,_,_,_,s2,?_⟩
       refine bB.mono (X3 m caps q hlen mT au ab hH fA h4 hf qW mV dn ⟨rfl,rfl,rfl,rfl,rfl,trivial⟩) ?_
       rintro c6 c0 ⟨bA,ak,cA,rfl,rfl,GC,x5,GD,dS,qX,L,nK,GF⟩
       refine⟨_,_,_,_,bA,ak,cA,rfl,rfl,GC,_,_,_,_,Cp (E:=9) (by kernel_rfl) (by kernel_rfl) (by omega) GD,?_⟩
       obtain⟨z,a0⟩:=Option.isSome_iff_exists.1 (show(eG Tryz.prog 9).isSome=true by kernel_rfl)
       have jk:z.cells.length=1/\z.cells.all J.bF=true:=by
        have ab:(eG Tryz.prog 9).map (λz=>z.cells.length)=some 1:=by kernel_rfl
        have ae:(eG Tryz.prog 9).map (λz=>z.cells.all J.bF)=some true:=by kernel_rfl
        rw[a0] at ab ae;exact⟨by simpa using ab,by simpa using ae⟩
       have uH:∀n,(e8 n z.cells).length=n/\(e8 n z.cells).all J.bF=true:=by
        intro n
        induction n with
        |zero=>exact⟨rfl,rfl⟩
        |succ n bp=>simp only[e8,List.length_append,List.all_append,bp.1,bp.2,jk.1,jk.2];exact⟨by omega,rfl⟩
       obtain⟨sC,di,da⟩:=MN (e8 (vs.length-bA) z.cells) (uH _).2 L (0+bA*1) (by rw[(uH _).1,GF];omega)
       have cr:ay.storeCells ak b (0+bA*1) (e8 (vs.length-bA) z.cells)=some (ak.set b (some (.cells sC 9 .aM 0 0))):=dY nK (yJ _ _) di
       have hd:o7 Tryz.prog ak 48 (.slice b (0+bA*1) (vs.length-bA) (.aM 1))=some (.aD [],ak.set b (some (.cells sC 9 .aM 0 0))):=by
        have hu:Tryz.prog.underlying 48=some (.slice 9):=by kernel_rfl
        simp only[o7,hu,a0,cr]
        rw[if_neg (by omega)]
       refine⟨_,hd,_,MQ (E:=9) (by kernel_rfl) (by kernel_rfl) (by omega),.inr ⟨_,_,_,rfl,rfl,⟨rfl,trivial⟩,_,_,bA,rfl,by rfl,?_,Ext.e3 mT qX⟩⟩
       rw[wJ ab (by rw[ah];simp;omega)]
       simp;omega
     · exact⟨by omega,_,(by show _<t;omega),k+1,al,_,rfl,⟨rfl,rfl,rfl,trivial⟩,rfl,by omega,by omega,qW,mV,dn,λj aI pd=>by
        by_cases e:j=k
        · rw[e];exact ah
        · exact a1 j aI (by omega)⟩
   · refine .inl ⟨_,x,_,rfl,rfl,⟨rfl,trivial⟩,_,_,vs.length,rfl,by rfl,?_,iZ⟩
     rw[sB (λj aI=>?_)]
     · simp
     · by_cases e:0<j
       · rw[a1 j e (by omega),Bool.and_false]
       · simp[e]
theorem X6(m:Nat){B:Nat}{h:aa}{v:J}{vs:List J}(f:Nat)(caps:List J)(w:Nat->aL)(bN:B<=h.n)(aH:eT B h v vs)(hlen:vs.length<=90000)(hH:jI caps=true)(fA:∀i (af:i<vs.length),J.sound vs[i]=true)(h4:∀i (af:i<vs.length),∃z:List UInt8,vs[i]=(.str z))(mU:∀i (af:i<vs.length) x,Ext B h x->ca x.n x (.str (w i)) (Y m (.fn f) (vs[i]::caps) x)):
  ca B h (.bool (pW w vs.length)) (Y (m+3) (.fn 108) [v,.fn f [] caps] h):=by
 refine XC (m+2) v f caps h ?_
 obtain⟨H,dG⟩:∃H,H=h.push (.cells [.fn f [] caps] 150 .own 0 0):=⟨_,rfl⟩
 rw[<-dG]
 have fe:Ext B h H:=by rw[dG];exact Ext.push bN _
 have j4:H.n=h.n+1:=by rw[dG];rfl
 have nL:B<=H.n:=Nat.le_trans bN fe.n
 have ig:H.get h.n=some (.cells [.fn f [] caps] 150 .own 0 0):=by rw[dG];exact dA rfl
 have nM:∀i (af:i<vs.length) x,Ext H.n H x->∃g,Y m (.fn f) (vs[i]::caps) x=.ret (.str (w i)) g/\Ext x.n x g:=λi af x ad=>mU i af x (fe.trans nL ad)
 have uI:eT H.n H v vs:=(aH.bM (fm.ext fe (Nat.le_refl _))).le (Nat.le_trans bN fe.n)
 have e6:∀x,Ext H.n H x->aA x h.n 0=some (.fn f [] caps):=λx ad=>aB ((ad.get h.n (by omega)).trans ig) rfl
 obtain⟨g,c1,bj⟩:=X0 (m+1) (B:=H.n) (h:=H) (v:=v) (vs:=vs) 120 [.ptr h.n 0] (λi j=>fq (w i) (w j)) uI hlen rfl fA (λi j af aI x ad=>by
  have ai:Ext H.n H (x.room 7):=ad.hI
  obtain⟨al,c1,bj⟩:=nM i af _ ai
  have gX:Ext H.n H al:=ai.trans ai.n bj
  obtain⟨ak,c2,bo⟩:=nM j aI _ gX
  refine Xw m vs[i] vs[j] h.n f caps x ⟨e6 _ ai,_,al,c1,e6 _ gX,_,ak,c2,mg hH,fA i af,mg hH,e6 _ ai,fA j aI,λah=>?_,λah=>?_⟩
  · exact ca.of (by rw[ah];rfl) ((gX.trans gX.n bo).le (Nat.le_refl _)|> λe=>by have dW:Ext H.n x ak:=⟨by have a:=bj.n;have b:=bo.n;simp at a;omega,λb ag=>by rw[(gX.trans gX.n bo).get b ag,ad.get b ag]⟩;exact dW)
  · exact ca.of (by rw[ah];rfl) ((gX.trans gX.n bo).le (Nat.le_refl _)|> λe=>by have dW:Ext H.n x ak:=⟨by have a:=bj.n;have b:=bo.n;simp at a;omega,λb ag=>by rw[(gX.trans gX.n bo).get b ag,ad.get b ag]⟩;exact dW))
 have gr:Ext B h g:=fe.trans nL bj
 refine⟨rfl,_,g,c1,λhs=>?_,λhs=>?_⟩
 · have rA:vs.all J.bF=true:=by
     rw[List.all_eq_true]
     intro x ad
     obtain⟨i,af,rfl⟩:=List.getElem_of_mem ad
     obtain⟨z,a0⟩:=h4 i af
     rw[a0];rfl
   have GG:eT H.n g v vs:=uI.bM (fm.ext bj (Nat.le_refl _))
   have fin:∀v2 ak b,Y (m+2) (.fn 122) [v] g=.ret v2 ak->v2=.slice b 0 vs.length (.aM 1)->H.n<=b->b<ak.n->hW ak b 9 vs->Ext H.n g ak->∃(v2:J) (ak:aa),Y (m+2) (.fn 122) [v] g=.ret v2 ak/\∃(w':J) (aS:aa),Y (m+2) (.fn 121) [v2,.fn 123 [] [.ptr h.n 0]] ak=.ret w' aS/\∃(k:Nat),cO Tryz.prog aS 48 w'=some (.int .i64 (Int.ofNat k))/\∃(n:Nat),cO Tryz.prog aS 48 v=some (.int .i64 (Int.ofNat n))/\ca B h (.bool (pW w vs.length)) (.ret (.bool (de (Int.ofNat k) (Int.ofNat n))) aS):=by
    intro v2 ak b c2 aC ag dS a8 bo
    subst aC
    have pX:Ext H.n H ak:=bj.trans (Nat.le_refl _) bo
    obtain⟨w',aS,k,c3,fu,bu,dj⟩:=X5 (m+1) (B:=H.n) (h:=ak) (vs:=vs) (f:=123) [.ptr h.n 0] (λi j=>cw (w i) (w j)) hlen ag rfl fA h4 (λi j af aI x ad=>by
     have iZ:Ext H.n H x:=pX.trans (Nat.le_refl _) ad
     have ai:Ext H.n H (x.room 8):=iZ.hI
     obtain⟨al,c1,gi⟩:=nM i af _ ai
     have gX:Ext H.n H al:=ai.trans ai.n gi
     obtain⟨ak,c2,dq⟩:=nM j aI _ gX
     refine Xx m vs[i] vs[j] h.n f caps x ⟨e6 _ ai,_,al,c1,e6 _ gX,_,ak,c2,mg hH,fA i af,mg hH,e6 _ ai,fA j aI,ca.of rfl ?_⟩
     refine⟨by have a:=gi.n;have b:=dq.n;simp at a;omega,λb ag=>?_⟩
     have a:=gi.n
     simp at a
     rw[dq.get b (by omega),gi.get b (by simp;omega)];rfl) dS a8
    have qY:Ext H.n H aS:=pX.trans (Nat.le_refl _) dj
    have GH:eT H.n aS v vs:=uI.bM (fm.ext qY (Nat.le_refl _))
    refine⟨_,ak,c2,w',aS,c3,k,fu,vs.length,GH.len (t:=48) (e:=9) (by kernel_rfl),ca.of (fb ?_) (fe.trans nL qY)⟩
    rw[MX bu]
    exact MV w vs.length hs
   rcases X2 (m+1) (B:=H.n) (h:=g) bj.n GG hlen rA with⟨rfl,rfl,c2⟩|⟨aY,b,ak,c2,ag,dS,a8,bo⟩
   · refine⟨.az,g,c2,.az,g,?_,0,by rfl,0,by rfl,ca.of (fb rfl) gr⟩
     exact MK (m+1) .az _ _ g (R:=λx=>x=.ret .az g) ⟨0,by rfl,λ_=>rfl,λaJ=>absurd (by omega) aJ⟩
   · exact fin _ ak b c2 rfl ag dS a8 bo
 · refine ca.of (fb ?_) gr
   exact MW w vs.length hs
theorem X7(m:Nat){B:Nat}{h:aa}{v:J}{vs:List J}(bN:B<=h.n)(aH:eT B h v vs)(hlen:vs.length<=90000)(ah:vs.all J.bF=true):(v=.az/\vs=[]/\Y (m+1) (.fn 127) [v] h=.ret .az h)\/(0<vs.length/\∃b an,Y (m+1) (.fn 127) [v] h=.ret (.slice b 0 vs.length (.aM 1)) an/\B<=b/\b<an.n/\hW an b 47 vs/\Ext B h an):=by
 rcases aH with⟨rfl,rfl⟩|⟨b,off,aG,rfl,ag,aw,aY,aq⟩
 · exact .inl ⟨rfl,rfl,XQ m h (R:=λx=>x=.ret .az h) rfl⟩
 · right
   refine⟨aY,?_⟩
   obtain⟨H,dG⟩:∃H,H=h.push (.cells [] 47 .own 0 0):=⟨_,rfl⟩
   have fe:Ext B h H:=by rw[dG];exact Ext.push bN _
   have j4:H.n=h.n+1:=by rw[dG];rfl
   have gU:=eT.src (B:=B) (h:=H) (λi af=>hJ fe ag (aw i af)) aY aq
   obtain⟨i,af⟩:=Option.isSome_iff_exists.1 (show(Tryz.prog.info? 47).isSome=true by kernel_rfl)
   have bE:i.size=1:=by
    have:(Tryz.prog.info? 47).map (·.size)=some 1:=by kernel_rfl
    rw[af] at this;simpa using this
   have nz:i.bytes<=1000:=by
    have:(Tryz.prog.info? 47).map (λi=>Nat.ble i.bytes 1000)=some true:=by kernel_rfl
    rw[af] at this;exact Nat.le_of_ble_eq_true (by simpa using this)
   obtain⟨z,a0⟩:=Option.isSome_iff_exists.1 (show(eG Tryz.prog 47).isSome=true by kernel_rfl)
   have jk:z.cells.length=1:=by
    have:(eG Tryz.prog 47).map (λz=>z.cells.length)=some 1:=by kernel_rfl
    rw[a0] at this;simpa using this
   have ap:=MY (U:=49) (E:=47) (a:=h.n) (by kernel_rfl) (by kernel_rfl) af bE nz a0 jk gU aY hlen ah (by rw[dG];exact dA rfl)
   refine XP m b off vs.length aG h (R:=λx=>∃b an,x=.ret (.slice b 0 vs.length (.aM 1)) an/\B<=b/\b<an.n/\hW an b 47 vs/\Ext B h an) ?_
   rw[<-dG]
   exact⟨_,_,ap,_,_,rfl,by omega,by simp,dA rfl,fe.trans (Nat.le_refl _) (Ext.push (Nat.le_trans bN fe.n) _)⟩
theorem X8(m:Nat){B b K f:Nat}{h:aa}{vs:List J}(caps:List J)(q:Nat->Nat->Bool)(hlen:vs.length<=90000)(mT:B<=b)(dO:1<=K)(X4:K<vs.length)(hH:jI caps=true)(fA:∀i (af:i<vs.length),J.sound vs[i]=true)(h4:∀i (af:i<vs.length),∃z:Nat,vs[i]=(.ptr z 0))(hf:∀i j (af:i<vs.length) (aI:j<vs.length) x,Ext B h x->ca x.n x (.bool (q i j)) (Y m (.fn f) (vs[i]::vs[j]::caps) x))
  {g:aa}(ag:b<g.n)(a8:hW g b 47 vs)(ad:Ext B h g){Γ:Env}(dk:cZ [(0,.slice b 0 vs.length (.aM 1)),(1,.fn f [] caps),(5,.int .i64 (Int.ofNat K)),(6,.slice b (0+K*1) (vs.length-K) (.aM 1)),(7,.int .i64 (Int.ofNat 1))] Γ):
  bB Tryz.prog Tryz.f126 (Y m) [1,1,0,1,0,0,1,0,0,1,0,1,0,1,0] ⟨Γ,[],.none,g⟩ (λc6 c0=>∃(bA:Nat) (ak:aa) (cA:Env),c6=.exit 2/\c0=⟨cA,[],.none,ak⟩/\cZ [(0,.slice b 0 vs.length (.aM 1)),(5,.int .i64 (Int.ofNat bA))] cA/\K<=bA/\bA<vs.length/\b<ak.n/\Ext B h ak/\∃L,hW ak b 47 L/\L.length=vs.length):=by
 refine bB.loop (by kernel_rfl) (λt st=>∃j k L x Γ,st=⟨Γ,[],.none,x⟩/\cZ [(0,.slice b 0 vs.length (.aM 1)),(1,.fn f [] caps),(5,.int .i64 (Int.ofNat k)),(6,.slice b (0+K*1) (vs.length-K) (.aM 1)),(7,.int .i64 (Int.ofNat j))] Γ/\(vs.length-K)-j=t/\1<=j/\j<=vs.length-K/\K<=k/\k+1<=K+j/\b<x.n/\hW x b 47 L/\L.length=vs.length/\y7 L vs/\Ext B h x) ?_ (vs.length-K-1) _ (by omega) ⟨1,K,vs,g,Γ,rfl,dk,by omega,by omega,by omega,by omega,by omega,ag,a8,rfl,λi af=>⟨i,af,rfl⟩,ad⟩
 rintro t st ⟨j,k,L,x,Γ,rfl,dk,a2,aI,DV,au,EN,y8,qV,nK,mU,iZ⟩
 refine bB.pre (XO (Y m) b _ k f (0+K*1) _ j caps x ⟨λab=>?_,λab=>?_⟩) dk rfl rfl rfl
 · have ai:=iZ.hI (k:=12)
   have lH:hW (x.room 12) b 47 L:=qV
   have i1:K+j<L.length:=by omega
   have i2:K+j-1<L.length:=by omega
   obtain⟨s,hs,es⟩:=mU (K+j) i1
   obtain⟨a4,dF,rO⟩:=mU (K+j-1) i2
   obtain⟨al,c1,bj⟩:=hf s a4 hs dF _ ai
   have dn:=ai.trans (Nat.le_refl _) (bj.le (show B<=(x.room 12).n by simp;omega))
   have oN:b<(x.room 12).n:=by simp;omega
   have mV:hW al b 47 L:=(bj.get b oN).trans lH
   have qW:b<al.n:=Nat.lt_of_lt_of_le oN bj.n
   obtain⟨z,a0⟩:=h4 s hs
   refine⟨ab,_,(lH.pV i1 (by omega)).trans (by rw[es]),⟨by omega,by omega⟩,by omega,_,(lH.pV i2 (by omega)).trans (by rw[rO]),_,al,c1,mg hH,fA s hs,fA a4 dF,λah=>?_,λah=>?_⟩
   · exact⟨by omega,_,(by show _<t;omega),j+1,k,L,al,_,rfl,⟨rfl,rfl,rfl,rfl,rfl,trivial⟩,rfl,by omega,by omega,by omega,by omega,qW,mV,nK,mU,dn⟩
   · have cr:ay.storeCells al b (0+k*1) [(.ptr z 0)]=some (al.set b (some (.cells (L.set k (.ptr z 0)) 47 .aM 0 0))):=
       dY mV (yJ _ _) (by rw[show 0+k*1=k by omega];exact MM _ rfl L k (by omega))
     refine⟨ab,z,(mV.pV i1 (by omega)).trans (by rw[es,a0]),by omega,_,cr,by omega,by omega,_,(by show _<t;omega),j+1,k+1,L.set k (.ptr z 0),_,_,rfl,⟨rfl,rfl,rfl,rfl,rfl,trivial⟩,rfl,by omega,by omega,by omega,by omega,by simp;omega,dN rfl,by simpa using nK,?_,Ext.e3 mT dn⟩
     rw[<-a0]
     exact mU.set k hs
 · exact⟨k,x,_,rfl,rfl,⟨rfl,rfl,trivial⟩,au,by omega,y8,iZ,L,qV,nK⟩
theorem X9(m:Nat){B b f:Nat}{h:aa}{vs:List J}(caps:List J)(q:Nat->Nat->Bool)(hlen:vs.length<=90000)(mT:B<=b)(hH:jI caps=true)(fA:∀i (af:i<vs.length),J.sound vs[i]=true)(h4:∀i (af:i<vs.length),∃z:Nat,vs[i]=(.ptr z 0))(hf:∀i j (af:i<vs.length) (aI:j<vs.length) x,Ext B h x->ca x.n x (.bool (q i j)) (Y m (.fn f) (vs[i]::vs[j]::caps) x))
  (ag:b<h.n)(a8:hW h b 47 vs):
  ∃w g k,Y (m+1) (.fn 126) [.slice b 0 vs.length (.aM 1),.fn f [] caps] h=.ret w g/\cO Tryz.prog g 49 w=some (.int .i64 (Int.ofNat k))/\(!(List.range vs.length).any (λi=>decide (0<i)&&q i (i-1)))=decide (k=vs.length)/\Ext B h g:=by
 refine ML m (.slice b 0 vs.length (.aM 1)) f caps h (R:=λx=>∃w g k,x=.ret w g/\cO Tryz.prog g 49 w=some (.int .i64 (Int.ofNat k))/\(!(List.range vs.length).any (λi=>decide (0<i)&&q i (i-1)))=decide (k=vs.length)/\Ext B h g) ⟨vs.length,by rfl,λae=>?_,λae=>?_⟩
 · refine⟨_,h,vs.length,rfl,by rfl,?_,Ext.refl _ _⟩
   rw[sB (λj aI=>by simp[show¬0<j by omega])];simp
 · replace ae:=MP ae
   refine bB.loop (by kernel_rfl) (λt st=>∃k x Γ,st=⟨Γ,[],.none,x⟩/\cZ [(0,.slice b 0 vs.length (.aM 1)),(1,.fn f [] caps),(5,.int .i64 (Int.ofNat k))] Γ/\vs.length-k=t/\1<=k/\k<=vs.length/\b<x.n/\hW x b 47 vs/\Ext B h x/\∀j,0<j->j<k->q j (j-1)=false) ?_ (vs.length-1) _ (by omega) ⟨1,h,_,rfl,⟨rfl,rfl,rfl,trivial⟩,by omega,by omega,by omega,ag,a8,Ext.refl _ _,λj aI pd=>by omega⟩
   rintro t st ⟨k,x,Γ,rfl,dk,a2,au,ur,y8,qV,iZ,a1⟩
   refine bB.pre (XN (Y m) b _ k f caps x ⟨λab=>?_,λab=>?_⟩) dk rfl rfl rfl
   · have ai:=iZ.hI (k:=11)
     have lH:hW (x.room 11) b 47 vs:=qV
     obtain⟨al,c1,bj⟩:=hf k (k-1) ab (by omega) _ ai
     have dn:=ai.trans (Nat.le_refl _) (bj.le (show B<=(x.room 11).n by simp;omega))
     have oN:b<(x.room 11).n:=by simp;omega
     have mV:hW al b 47 vs:=(bj.get b oN).trans lH
     have qW:b<al.n:=Nat.lt_of_lt_of_le oN bj.n
     refine⟨ab,_,lH.pV ab (by omega),⟨by omega,by omega⟩,by omega,_,lH.pV (by omega) (by omega),_,al,c1,mg hH,fA k ab,fA (k-1) (by omega),λah=>?_,λah=>?_⟩
     · have s2:dR Tryz.prog al 49 (.slice b 0 vs.length (.aM 1)) (some (.int .i64 (Int.ofNat k))) none none=some (.slice b (0+k*1) (vs.length-k) (.aM 1)):=Cp (E:=47) (by kernel_rfl) (by kernel_rfl) (by omega) ab
       refine⟨_,_,_,_,s2,?_⟩
       refine bB.mono (X8 m caps q hlen mT au ab hH fA h4 hf qW mV dn ⟨rfl,rfl,rfl,rfl,rfl,trivial⟩) ?_
       rintro c6 c0 ⟨bA,ak,cA,rfl,rfl,GC,x5,GD,dS,qX,L,nK,GF⟩
       refine⟨_,_,_,_,bA,ak,cA,rfl,rfl,GC,_,_,_,_,Cp (E:=47) (by kernel_rfl) (by kernel_rfl) (by omega) GD,?_⟩
       obtain⟨z,a0⟩:=Option.isSome_iff_exists.1 (show(eG Tryz.prog 47).isSome=true by kernel_rfl)
       have jk:z.cells.length=1/\z.cells.all J.bF=true:=by
        have ab:(eG Tryz.prog 47).map (λz=>z.cells.length)=some 1:=by kernel_rfl
        have ae:(eG Tryz.prog 47).map (λz=>z.cells.all J.bF)=some true:=by kernel_rfl
        rw[a0] at ab ae;exact⟨by simpa using ab,by simpa using ae⟩
       have uH:∀n,(e8 n z.cells).length=n/\(e8 n z.cells).all J.bF=true:=by
        intro n
        induction n with
        |zero=>exact⟨rfl,rfl⟩
        |succ n bp=>simp only[e8,List.length_append,List.all_append,bp.1,bp.2,jk.1,jk.2];exact⟨by omega,rfl⟩
       obtain⟨sC,di,da⟩:=MN (e8 (vs.length-bA) z.cells) (uH _).2 L (0+bA*1) (by rw[(uH _).1,GF];omega)
       have cr:ay.storeCells ak b (0+bA*1) (e8 (vs.length-bA) z.cells)=some (ak.set b (some (.cells sC 47 .aM 0 0))):=dY nK (yJ _ _) di
       have hd:o7 Tryz.prog ak 49 (.slice b (0+bA*1) (vs.length-bA) (.aM 1))=some (.aD [],ak.set b (some (.cells sC 47 .aM 0 0))):=by
        have hu:Tryz.prog.underlying 49=some (.slice 47):=by kernel_rfl
        simp only[o7,hu,a0,cr]
        rw[if_neg (by omega)]
       refine⟨_,hd,_,MQ (E:=47) (by kernel_rfl) (by kernel_rfl) (by omega),.inr ⟨_,_,_,rfl,rfl,⟨rfl,trivial⟩,_,_,bA,rfl,by rfl,?_,Ext.e3 mT qX⟩⟩
       rw[wJ ab (by rw[ah];simp;omega)]
       simp;omega
     · exact⟨by omega,_,(by show _<t;omega),k+1,al,_,rfl,⟨rfl,rfl,rfl,trivial⟩,rfl,by omega,by omega,qW,mV,dn,λj aI pd=>by
        by_cases e:j=k
        · rw[e];exact ah
        · exact a1 j aI (by omega)⟩
   · refine .inl ⟨_,x,_,rfl,rfl,⟨rfl,trivial⟩,_,_,vs.length,rfl,by rfl,?_,iZ⟩
     rw[sB (λj aI=>?_)]
     · simp
     · by_cases e:0<j
       · rw[a1 j e (by omega),Bool.and_false]
       · simp[e]
theorem X_(m:Nat){B:Nat}{h:aa}{v:J}{vs:List J}(f:Nat)(caps:List J)(w:Nat->aL)(bN:B<=h.n)(aH:eT B h v vs)(hlen:vs.length<=90000)(hH:jI caps=true)(fA:∀i (af:i<vs.length),J.sound vs[i]=true)(h4:∀i (af:i<vs.length),∃z:Nat,vs[i]=(.ptr z 0))(mU:∀i (af:i<vs.length) x,Ext B h x->ca x.n x (.str (w i)) (Y m (.fn f) (vs[i]::caps) x)):
  ca B h (.bool (pW w vs.length)) (Y (m+3) (.fn 111) [v,.fn f [] caps] h):=by
 refine XR (m+2) v f caps h ?_
 obtain⟨H,dG⟩:∃H,H=h.push (.cells [.fn f [] caps] 145 .own 0 0):=⟨_,rfl⟩
 rw[<-dG]
 have fe:Ext B h H:=by rw[dG];exact Ext.push bN _
 have j4:H.n=h.n+1:=by rw[dG];rfl
 have nL:B<=H.n:=Nat.le_trans bN fe.n
 have ig:H.get h.n=some (.cells [.fn f [] caps] 145 .own 0 0):=by rw[dG];exact dA rfl
 have nM:∀i (af:i<vs.length) x,Ext H.n H x->∃g,Y m (.fn f) (vs[i]::caps) x=.ret (.str (w i)) g/\Ext x.n x g:=λi af x ad=>mU i af x (fe.trans nL ad)
 have uI:eT H.n H v vs:=(aH.bM (fm.ext fe (Nat.le_refl _))).le (Nat.le_trans bN fe.n)
 have e6:∀x,Ext H.n H x->aA x h.n 0=some (.fn f [] caps):=λx ad=>aB ((ad.get h.n (by omega)).trans ig) rfl
 obtain⟨g,c1,bj⟩:=X1 (m+1) (B:=H.n) (h:=H) (v:=v) (vs:=vs) 125 [.ptr h.n 0] (λi j=>fq (w i) (w j)) uI hlen rfl fA (λi j af aI x ad=>by
  have ai:Ext H.n H (x.room 7):=ad.hI
  obtain⟨al,c1,bj⟩:=nM i af _ ai
  have gX:Ext H.n H al:=ai.trans ai.n bj
  obtain⟨ak,c2,bo⟩:=nM j aI _ gX
  refine XL m vs[i] vs[j] h.n f caps x ⟨e6 _ ai,_,al,c1,e6 _ gX,_,ak,c2,mg hH,fA i af,mg hH,e6 _ ai,fA j aI,λah=>?_,λah=>?_⟩
  · exact ca.of (by rw[ah];rfl) ((gX.trans gX.n bo).le (Nat.le_refl _)|> λe=>by have dW:Ext H.n x ak:=⟨by have a:=bj.n;have b:=bo.n;simp at a;omega,λb ag=>by rw[(gX.trans gX.n bo).get b ag,ad.get b ag]⟩;exact dW)
  · exact ca.of (by rw[ah];rfl) ((gX.trans gX.n bo).le (Nat.le_refl _)|> λe=>by have dW:Ext H.n x ak:=⟨by have a:=bj.n;have b:=bo.n;simp at a;omega,λb ag=>by rw[(gX.trans gX.n bo).get b ag,ad.get b ag]⟩;exact dW))
 have gr:Ext B h g:=fe.trans nL bj
 refine⟨rfl,_,g,c1,λhs=>?_,λhs=>?_⟩
 · have rA:vs.all J.bF=true:=by
     rw[List.all_eq_true]
     intro x ad
     obtain⟨i,af,rfl⟩:=List.getElem_of_mem ad
     obtain⟨z,a0⟩:=h4 i af
     rw[a0];rfl
   have GG:eT H.n g v vs:=uI.bM (fm.ext bj (Nat.le_refl _))
   have fin:∀v2 ak b,Y (m+2) (.fn 127) [v] g=.ret v2 ak->v2=.slice b 0 vs.length (.aM 1)->H.n<=b->b<ak.n->hW ak b 47 vs->Ext H.n g ak->∃(v2:J) (ak:aa),Y (m+2) (.fn 127) [v] g=.ret v2 ak/\∃(w':J) (aS:aa),Y (m+2) (.fn 126) [v2,.fn 128 [] [.ptr h.n 0]] ak=.ret w' aS/\∃(k:Nat),cO Tryz.prog aS 49 w'=some (.int .i64 (Int.ofNat k))/\∃(n:Nat),cO Tryz.prog aS 49 v=some (.int .i64 (Int.ofNat n))/\ca B h (.bool (pW w vs.length)) (.ret (.bool (de (Int.ofNat k) (Int.ofNat n))) aS):=by
    intro v2 ak b c2 aC ag dS a8 bo
    subst aC
    have pX:Ext H.n H ak:=bj.trans (Nat.le_refl _) bo
    obtain⟨w',aS,k,c3,fu,bu,dj⟩:=X9 (m+1) (B:=H.n) (h:=ak) (vs:=vs) (f:=128) [.ptr h.n 0] (λi j=>cw (w i) (w j)) hlen ag rfl fA h4 (λi j af aI x ad=>by
     have iZ:Ext H.n H x:=pX.trans (Nat.le_refl _) ad
     have ai:Ext H.n H (x.room 8):=iZ.hI
     obtain⟨al,c1,gi⟩:=nM i af _ ai
     have gX:Ext H.n H al:=ai.trans ai.n gi
     obtain⟨ak,c2,dq⟩:=nM j aI _ gX
     refine XM m vs[i] vs[j] h.n f caps x ⟨e6 _ ai,_,al,c1,e6 _ gX,_,ak,c2,mg hH,fA i af,mg hH,e6 _ ai,fA j aI,ca.of rfl ?_⟩
     refine⟨by have a:=gi.n;have b:=dq.n;simp at a;omega,λb ag=>?_⟩
     have a:=gi.n
     simp at a
     rw[dq.get b (by omega),gi.get b (by simp;omega)];rfl) dS a8
    have qY:Ext H.n H aS:=pX.trans (Nat.le_refl _) dj
    have GH:eT H.n aS v vs:=uI.bM (fm.ext qY (Nat.le_refl _))
    refine⟨_,ak,c2,w',aS,c3,k,fu,vs.length,GH.len (t:=49) (e:=47) (by kernel_rfl),ca.of (fb ?_) (fe.trans nL qY)⟩
    rw[MX bu]
    exact MV w vs.length hs
   rcases X7 (m+1) (B:=H.n) (h:=g) bj.n GG hlen rA with⟨rfl,rfl,c2⟩|⟨aY,b,ak,c2,ag,dS,a8,bo⟩
   · refine⟨.az,g,c2,.az,g,?_,0,by rfl,0,by rfl,ca.of (fb rfl) gr⟩
     exact ML (m+1) .az _ _ g (R:=λx=>x=.ret .az g) ⟨0,by rfl,λ_=>rfl,λaJ=>absurd (by omega) aJ⟩
   · exact fin _ ak b c2 rfl ag dS a8 bo
 · refine ca.of (fb ?_) gr
   exact MW w vs.length hs
end Go.Proofs.cf
