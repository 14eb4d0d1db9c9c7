/-
  PROVED HERE: contracts of functions (Df). No condition beside each statement's own.
-/
import Derived.Test.YtfooahfebojldaaGreatDoorDe
import Derived.Test.YtfooahfebojldaaGreatDoorTx
set_option linter.unusedVariables false
set_option linter.unusedSimpArgs false
namespace Go.Proofs.cR
open Go aD Go.Proofs dE
set_option maxRecDepth 100000
set_option maxHeartbeats 1000000
theorem Vv(m:Nat)(v:I)(f:Nat)(aM:List I)(h:J){R:an->Prop}(H:∃dP:Int,∃ao:J,(Y m) (.fn 117) [v,.fn f [] aM] h=.ret (.int .i64 dP) ao/\R (.ret (.bool (dn (.ofNat 0) dP)) ao)):
  R (Y (m+1) (.fn 105) [v,.fn f [] aM] h):=
 dF (intr:=bT) [(7,.b2 (.z .i64))] [(0,.o v),(1,.o (.fn f [] aM))] Tryz.func105 (by kernel_rfl) (by kernel_rfl) (by kernel_rfl) rfl (Eq.mp (by kernel_rfl) H)
theorem Vw(m:Nat)(v:I)(f:Nat)(aM:List I)(h:J){R:an->Prop}(H:∃aQ:Nat,bU Tryz.prog h 48 v=some (.int .i64 (.ofNat aQ))/\bw Tryz.prog Tryz.f117 (Y m) [1,0,1,0] (ag.mk [(0,v),(1,.fn f [] aM),(7,.int .i64 (.ofNat aQ)),(8,.int .i64 (.ofNat 0))] [] .none h) (λcG cH=>((∃ao:J,∃bp:Env,cG=.exit 0/\cH=ag.mk bp [] .none ao/\cC [] bp/\R (.ret (.int .i64 (.negSucc 0)) ao))\/(∃bI:Nat,∃ar:J,∃bB:Env,cG=.ret/\cH=ag.mk bB [] .none ar/\cC [(4,.int .i64 (.ofNat bI))] bB/\R (.ret (.int .i64 (.ofNat bI)) ar))))):
  R (Y (m+1) (.fn 117) [v,.fn f [] aM] h):=
 dF (intr:=bT) [(4000,.ik [0,1,7,8] [(.exit 0,[]),(.ret,[(4,.n .i64)])])] [(0,.o v),(1,.o (.fn f [] aM))] Tryz.func117 (by kernel_rfl) (by kernel_rfl) (by kernel_rfl) rfl (Eq.mp (by kernel_rfl) H)
theorem Vx(call:ay->List I->J->an)(b:Nat)(off:Nat)(N:Nat)(i:Nat)(f:Nat)(aM:List I)(aB:b5)(h:J){Q:bF->ag->Prop}(H:(i<N->i<N/\∃v1:I,aq h b (off+i*1)=some v1/\∃a8:Bool,∃ao:J,call (.fn f) (v1::aM) h=.ret (.bool a8) ao/\(a8=true->Q .ret (ag.mk [(0,.slice b off N aB),(1,.fn f [] aM),(4,.int .i64 (.ofNat i)),(7,.int .i64 (.ofNat N)),(8,.int .i64 (.ofNat i))] [] .none ao))/\(a8=false->i+1<9223372036854775808/\Q .nrm (ag.mk [(0,.slice b off N aB),(1,.fn f [] aM),(7,.int .i64 (.ofNat N)),(8,.int .i64 (.ofNat (i+1)))] [] .none ao)))/\(¬i<N->Q (.exit 0) (ag.mk [(0,.slice b off N aB),(1,.fn f [] aM),(7,.int .i64 (.ofNat N)),(8,.int .i64 (.ofNat i))] [] .none h))):
  bw Tryz.prog Tryz.f117 call [1,0,1,0,0] ⟨[(0,.slice b off N aB),(1,.fn f [] aM),(7,.int .i64 (.ofNat N)),(8,.int .i64 (.ofNat i))],[],.none,h⟩ Q:=
 e6 [(15,.b2 .o)] [0,1,4,7,8] [(0,.v (.slice b off N aB)),(1,.o (.fn f [] aM)),(7,.v (.int .i64 (.ofNat N))),(8,.v (.int .i64 (.ofNat i)))] rfl (Eq.mp (by kernel_rfl) H)
theorem Vy(call:ay->List I->J->an)(N:Nat)(i:Nat)(f:Nat)(aM:List I)(v:I)(h:J){Q:bF->ag->Prop}(H:¬i<N/\Q (.exit 0) (ag.mk [] [] .none h)):
  bw Tryz.prog Tryz.f117 call [1,0,1,0,0] ⟨[(0,v),(1,.fn f [] aM),(7,.int .i64 (.ofNat N)),(8,.int .i64 (.ofNat i))],[],.none,h⟩ Q:=
 e6 [(1009,.f)] [] [(0,.o v),(1,.o (.fn f [] aM)),(7,.v (.int .i64 (.ofNat N))),(8,.v (.int .i64 (.ofNat i)))] rfl (Eq.mp (by kernel_rfl) H)
theorem Vz(m:Nat)(v:I)(f:Nat)(aM:List I)(h:J){R:an->Prop}(H:∃aQ:Nat,bU Tryz.prog h 48 v=some (.int .i64 (.ofNat aQ))/\(1<=aQ/\aQ<9223372036854775808)/\bw Tryz.prog Tryz.f119 (Y m) [1,0,1,0] (ag.mk [(0,v),(1,.fn f [] aM),(5,.int .i64 (.ofNat (aQ-1)))] [] .none h) (λcG cH=>((∃ao:J,∃bp:Env,cG=.exit 0/\cH=ag.mk bp [] .none ao/\cC [] bp/\R (.ret (.bool true) ao))\/(∃ar:J,∃bB:Env,cG=.ret/\cH=ag.mk bB [] .none ar/\cC [(4,.bool false)] bB/\R (.ret (.bool false) ar))))):
  R (Y (m+1) (.fn 119) [v,.fn f [] aM] h):=
 dF (intr:=bT) [(4000,.ik [0,1,5] [(.exit 0,[]),(.ret,[(4,.is (.bool false))])])] [(0,.o v),(1,.o (.fn f [] aM))] Tryz.func119 (by kernel_rfl) (by kernel_rfl) (by kernel_rfl) rfl (Eq.mp (by kernel_rfl) H)
theorem VA(m:Nat)(v:I)(f:Nat)(aM:List I)(h:J){R:an->Prop}(H:∃aQ:Nat,bU Tryz.prog h 48 v=some (.int .i64 (.ofNat aQ))/\∃dP:Int,arith .sub .i64 (.ofNat aQ) (.ofNat 1)=some (.int .i64 dP)/\bw Tryz.prog Tryz.f119 (Y m) [1,0,1,0] (ag.mk [(0,v),(1,.fn f [] aM),(5,.int .i64 dP)] [] .none h) (λcG cH=>∃ao:J,∃bp:Env,cG=.exit 0/\cH=ag.mk bp [] .none ao/\cC [] bp/\R (.ret (.bool true) ao))):
  R (Y (m+1) (.fn 119) [v,.fn f [] aM] h):=
 dF (intr:=bT) [(8,.b2 (.z .i64)),(4000,.ik [0,1,5] [(.exit 0,[])])] [(0,.o v),(1,.o (.fn f [] aM))] Tryz.func119 (by kernel_rfl) (by kernel_rfl) (by kernel_rfl) rfl (Eq.mp (by kernel_rfl) H)
theorem VB(call:ay->List I->J->an)(b:Nat)(off:Nat)(N:Nat)(i:Nat)(f:Nat)(aM:List I)(aB:b5)(h:J){Q:bF->ag->Prop}(H:(0<i->i<N/\∃v1:I,aq (h.room 12) b (off+i*1)=some v1/\(1<=i/\i<9223372036854775808)/\i-1<N/\∃v2:I,aq (h.room 12) b (off+(i-1)*1)=some v2/\∃dP:Int,∃ao:J,call (.fn f) (v1::v2::aM) (h.room 12)=.ret (.int .i64 dP) ao/\I.sound (.fn f [] aM)=true/\I.sound v1=true/\I.sound v2=true/\(bC dP (.ofNat 0)=true->Q .ret (ag.mk [(0,.slice b off N aB),(1,.fn f [] aM),(4,.bool false),(5,.int .i64 (.ofNat i))] [] .none ao))/\(bC dP (.ofNat 0)=false->(1<=i/\i<9223372036854775808)/\Q .nrm (ag.mk [(0,.slice b off N aB),(1,.fn f [] aM),(5,.int .i64 (.ofNat (i-1)))] [] .none ao)))/\(¬0<i->Q (.exit 0) (ag.mk [(0,.slice b off N aB),(1,.fn f [] aM),(5,.int .i64 (.ofNat i))] [] .none h))):
  bw Tryz.prog Tryz.f119 call [1,0,1,0,0] ⟨[(0,.slice b off N aB),(1,.fn f [] aM),(5,.int .i64 (.ofNat i))],[],.none,h⟩ Q:=
 e6 [(17,.b2 .o),(22,.b2 .o),(23,.b2 (.z .i64))] [0,1,4,5] [(0,.v (.slice b off N aB)),(1,.o (.fn f [] aM)),(5,.v (.int .i64 (.ofNat i)))] rfl (Eq.mp (by kernel_rfl) H)
theorem VC(call:ay->List I->J->an)(v:I)(f:Nat)(aM:List I)(h:J){Q:bF->ag->Prop}(H:bC (.ofNat 0) (.negSucc 0)=false/\Q (.exit 0) (ag.mk [] [] .none h)):
  bw Tryz.prog Tryz.f119 call [1,0,1,0,0] ⟨[(0,v),(1,.fn f [] aM),(5,.int .i64 (.negSucc 0))],[],.none,h⟩ Q:=
 e6 [(1010,.f)] [] [(0,.o v),(1,.o (.fn f [] aM)),(5,.v (.int .i64 (.negSucc 0)))] rfl (Eq.mp (by kernel_rfl) H)
theorem VD(m:Nat)(x:I)(y:I)(a:Nat)(f:Nat)(aM:List I)(h:J){R:an->Prop}(H:aq (h.room 7) a 0=some (.fn f [] aM)/\∃s1:List UInt8,∃ao:J,(Y m) (.fn f) (x::aM) (h.room 7)=.ret (.str s1) ao/\aq ao a 0=some (.fn f [] aM)/\∃s2:List UInt8,∃ar:J,(Y m) (.fn f) (y::aM) ao=.ret (.str s2) ar/\I.sound (.fn f [] aM)=true/\I.sound x=true/\I.sound (.fn f [] aM)=true/\aq (h.room 7) a 0=some (.fn f [] aM)/\I.sound y=true/\(dN s1 s2=true->R (.ret (.int .i64 (.negSucc 0)) ar))/\(dN s1 s2=false->R (.ret (.int .i64 (.ofNat 1)) ar))):
  R (Y (m+1) (.fn 120) [x,y,.ptr a 0] h):=
 dF (intr:=bT) [(6,.b2 (.io (.fn f [] aM))),(9,.b2 (.io (.fn f [] aM)))] [(0,.o x),(1,.o y),(2,.v (.ptr a 0))] Tryz.func120 (by kernel_rfl) (by kernel_rfl) (by kernel_rfl) rfl (Eq.mp (by kernel_rfl) H)
theorem VE(m:Nat)(x:I)(y:I)(a:Nat)(f:Nat)(aM:List I)(h:J){R:an->Prop}(H:aq (h.room 8) a 0=some (.fn f [] aM)/\∃s1:List UInt8,∃ao:J,(Y m) (.fn f) (x::aM) (h.room 8)=.ret (.str s1) ao/\aq ao a 0=some (.fn f [] aM)/\∃s2:List UInt8,∃ar:J,(Y m) (.fn f) (y::aM) ao=.ret (.str s2) ar/\I.sound (.fn f [] aM)=true/\I.sound x=true/\I.sound (.fn f [] aM)=true/\aq (h.room 8) a 0=some (.fn f [] aM)/\I.sound y=true/\R (.ret (.bool (cg s1 s2)) ar)):
  R (Y (m+1) (.fn 123) [x,y,.ptr a 0] h):=
 dF (intr:=bT) [(6,.b2 (.io (.fn f [] aM))),(9,.b2 (.io (.fn f [] aM)))] [(0,.o x),(1,.o y),(2,.v (.ptr a 0))] Tryz.func123 (by kernel_rfl) (by kernel_rfl) (by kernel_rfl) rfl (Eq.mp (by kernel_rfl) H)
theorem KF(m:Nat)(v:I)(f:Nat)(aM:List I)(h:J){R:an->Prop}(H:∃aQ:Nat,bU Tryz.prog h 48 v=some (.int .i64 (.ofNat aQ))/\(aQ<2->R (.ret v h))/\(¬aQ<2->bw Tryz.prog Tryz.f121 (Y m) [1,1,0,1,0] (ag.mk [(0,v),(1,.fn f [] aM),(5,.int .i64 (.ofNat 1))] [] .none h) (λcG cH=>((∃v1:I,∃ao:J,∃bp:Env,cG=.exit 0/\cH=ag.mk bp [] .none ao/\cC [(0,v1)] bp/\R (.ret v1 ao))\/(∃v2:I,∃ar:J,∃bB:Env,cG=.ret/\cH=ag.mk bB [] .none ar/\cC [(4,v2)] bB/\R (.ret v2 ar)))))):
  R (Y (m+1) (.fn 121) [v,.fn f [] aM] h):=
 dF (intr:=bT) [(4000,.ik [0,1,5] [(.exit 0,[(0,.o)]),(.ret,[(4,.o)])])] [(0,.o v),(1,.o (.fn f [] aM))] Tryz.func121 (by kernel_rfl) (by kernel_rfl) (by kernel_rfl) rfl (Eq.mp (by kernel_rfl) H)
theorem VF(call:ay->List I->J->an)(b:Nat)(N:Nat)(k:Nat)(f:Nat)(aM:List I)(h:J){Q:bF->ag->Prop}(H:(k<N->k<N/\∃v1:I,aq (h.room 11) b (0+k*1)=some v1/\(1<=k/\k<9223372036854775808)/\k-1<N/\∃v2:I,aq (h.room 11) b (0+(k-1)*1)=some v2/\∃a8:Bool,∃ao:J,call (.fn f) (v1::v2::aM) (h.room 11)=.ret (.bool a8) ao/\I.sound (.fn f [] aM)=true/\I.sound v1=true/\I.sound v2=true/\(a8=true->∃aQ:Nat,∃bI:Nat,∃cr:Nat,∃c1:b5,fM Tryz.prog ao 48 (.slice b 0 N (.aY 1)) (some (.int .i64 (.ofNat k))) none none=some (.slice aQ bI cr c1)/\bw Tryz.prog Tryz.f121 call [1,1,0,1,0,0,1,0,0,1,0,1,0,1,0] (ag.mk [(0,.slice b 0 N (.aY 1)),(1,.fn f [] aM),(5,.int .i64 (.ofNat k)),(6,.slice aQ bI cr c1),(7,.int .i64 (.ofNat 1))] [] .none ao) (λcG cH=>∃cF:Nat,∃dc:Nat,∃dk:Nat,∃c2:b5,∃eM:Nat,∃ar:J,∃bp:Env,cG=.exit 2/\cH=ag.mk bp [] .none ar/\cC [(0,.slice cF dc dk c2),(5,.int .i64 (.ofNat eM))] bp/\∃g9:Nat,∃gW:Nat,∃gM:Nat,∃c3:b5,fM Tryz.prog ar 48 (.slice cF dc dk c2) (some (.int .i64 (.ofNat eM))) none none=some (.slice g9 gW gM c3)/\∃aZ:J,om Tryz.prog ar 48 (.slice g9 gW gM c3)=some (.aW [],aZ)/\∃cX:I,fM Tryz.prog aZ 48 (.slice cF dc dk c2) none (some (.int .i64 (.ofNat eM))) none=some cX/\Q .ret (ag.mk [(0,.slice cF dc dk c2),(4,cX),(5,.int .i64 (.ofNat eM))] [] .none aZ)))/\(a8=false->k+1<9223372036854775808/\Q .nrm (ag.mk [(0,.slice b 0 N (.aY 1)),(1,.fn f [] aM),(5,.int .i64 (.ofNat (k+1)))] [] .none ao)))/\(¬k<N->Q (.exit 0) (ag.mk [(0,.slice b 0 N (.aY 1)),(1,.fn f [] aM),(5,.int .i64 (.ofNat k))] [] .none h))):
  bw Tryz.prog Tryz.f121 call [1,1,0,1,0,0] ⟨[(0,.slice b 0 N (.aY 1)),(1,.fn f [] aM),(5,.int .i64 (.ofNat k))],[],.none,h⟩ Q:=
 e6 [(22,.b2 .o),(27,.b2 .o),(31,.b2 .gh),(4002,.ik [0,1,5,6,7] [(.exit 2,[(0,.gh),(5,.n .i64)])]),(61,.b2 .gh),(64,.b2 .o)] [0,1,4,5] [(0,.v (.slice b 0 N (.aY 1))),(1,.o (.fn f [] aM)),(5,.v (.int .i64 (.ofNat k)))] rfl (Eq.mp (by kernel_rfl) H)
theorem VG(call:ay->List I->J->an)(b:Nat)(N:Nat)(k:Nat)(f:Nat)(eo:Nat)(M:Nat)(j:Nat)(aM:List I)(h:J){Q:bF->ag->Prop}(H:(j<M->j<M/\∃v1:I,aq (h.room 12) b (eo+j*1)=some v1/\(1<=j/\j<9223372036854775808)/\j-1<M/\∃v2:I,aq (h.room 12) b (eo+(j-1)*1)=some v2/\∃a8:Bool,∃ao:J,call (.fn f) (v1::v2::aM) (h.room 12)=.ret (.bool a8) ao/\I.sound (.fn f [] aM)=true/\I.sound v1=true/\I.sound v2=true/\(a8=true->j+1<9223372036854775808/\Q .nrm (ag.mk [(0,.slice b 0 N (.aY 1)),(1,.fn f [] aM),(5,.int .i64 (.ofNat k)),(6,.slice b eo M (.aY 1)),(7,.int .i64 (.ofNat (j+1)))] [] .none ao))/\(a8=false->j<M/\∃s1:List UInt8,aq ao b (eo+j*1)=some (.str s1)/\k<N/\∃ar:J,aD.storeCells ao b (0+k*1) [.str s1]=some ar/\k+1<9223372036854775808/\j+1<9223372036854775808/\Q .nrm (ag.mk [(0,.slice b 0 N (.aY 1)),(1,.fn f [] aM),(5,.int .i64 (.ofNat (k+1))),(6,.slice b eo M (.aY 1)),(7,.int .i64 (.ofNat (j+1)))] [] .none ar)))/\(¬j<M->Q (.exit 2) (ag.mk [(0,.slice b 0 N (.aY 1)),(1,.fn f [] aM),(5,.int .i64 (.ofNat k)),(6,.slice b eo M (.aY 1)),(7,.int .i64 (.ofNat j))] [] .none h))):
  bw Tryz.prog Tryz.f121 call [1,1,0,1,0,0,1,0,0,1,0,1,0,1,0,0] ⟨[(0,.slice b 0 N (.aY 1)),(1,.fn f [] aM),(5,.int .i64 (.ofNat k)),(6,.slice b eo M (.aY 1)),(7,.int .i64 (.ofNat j))],[],.none,h⟩ Q:=
 e6 [(42,.b2 .o),(47,.b2 .o)] [0,1,5,6,7] [(0,.v (.slice b 0 N (.aY 1))),(1,.o (.fn f [] aM)),(5,.v (.int .i64 (.ofNat k))),(6,.v (.slice b eo M (.aY 1))),(7,.v (.int .i64 (.ofNat j)))] rfl (Eq.mp (by kernel_rfl) H)
theorem VH(m:Nat)(b:Nat)(off:Nat)(N:Nat)(aB:b5)(h:J){R:an->Prop}(H:∃v1:I,∃ao:J,gZ Tryz.prog (J.push h (.cells [] 9 .own 0 0)) 48 (some 48) (.slice h.n 0 0 (.exact 0)) (.slice b off N aB)=some (v1,ao)/\R (.ret v1 ao)):
  R (Y (m+1) (.fn 122) [.slice b off N aB] h):=
 dF (intr:=bT) [(7,.b2 .o)] [(0,.v (.slice b off N aB))] Tryz.func122 (by kernel_rfl) (by kernel_rfl) (by kernel_rfl) rfl (Eq.mp (by kernel_rfl) H)
theorem VI(m:Nat)(h:J){R:an->Prop}(H:R (.ret .a_ h)):
  R (Y (m+1) (.fn 122) [.a_] h):=
 dF (intr:=bT) [] [(0,.v .a_)] Tryz.func122 (by kernel_rfl) (by kernel_rfl) (by kernel_rfl) rfl (Eq.mp (by kernel_rfl) H)
theorem VJ(m:Nat)(v:I)(f:Nat)(aM:List I)(h:J){R:an->Prop}(H:I.bY (.fn f [] aM)=true/\∃a8:Bool,∃ao:J,(Y m) (.fn 119) [v,.fn 120 [] [.ptr h.n 0]] (J.push h (.cells [.fn f [] aM] 150 .own 0 0))=.ret (.bool a8) ao/\(a8=true->∃v1:I,∃ar:J,(Y m) (.fn 122) [v] ao=.ret v1 ar/\∃v2:I,∃aZ:J,(Y m) (.fn 121) [v1,.fn 123 [] [.ptr h.n 0]] ar=.ret v2 aZ/\∃aQ:Nat,bU Tryz.prog aZ 48 v2=some (.int .i64 (.ofNat aQ))/\∃bI:Nat,bU Tryz.prog aZ 48 v=some (.int .i64 (.ofNat bI))/\R (.ret (.bool (a7 (.ofNat aQ) (.ofNat bI))) aZ))/\(a8=false->R (.ret (.bool false) ao))):
  R (Y (m+1) (.fn 108) [v,.fn f [] aM] h):=
 dF (intr:=bT) [] [(0,.o v),(1,.o (.fn f [] aM))] Tryz.func108 (by kernel_rfl) (by kernel_rfl) (by kernel_rfl) rfl (Eq.mp (by kernel_rfl) H)
theorem VK(m:Nat)(v:I)(f:Nat)(aM:List I)(h:J){R:an->Prop}(H:∃dP:Int,∃ao:J,(Y m) (.fn 115) [v,.fn f [] aM] h=.ret (.int .i64 dP) ao/\R (.ret (.bool (dn (.ofNat 0) dP)) ao)):
  R (Y (m+1) (.fn 103) [v,.fn f [] aM] h):=
 dF (intr:=bT) [(7,.b2 (.z .i64))] [(0,.o v),(1,.o (.fn f [] aM))] Tryz.func103 (by kernel_rfl) (by kernel_rfl) (by kernel_rfl) rfl (Eq.mp (by kernel_rfl) H)
theorem VL(m:Nat)(v:I)(f:Nat)(aM:List I)(h:J){R:an->Prop}(H:∃aQ:Nat,bU Tryz.prog h 49 v=some (.int .i64 (.ofNat aQ))/\bw Tryz.prog Tryz.f115 (Y m) [1,0,1,0] (ag.mk [(0,v),(1,.fn f [] aM),(7,.int .i64 (.ofNat aQ)),(8,.int .i64 (.ofNat 0))] [] .none h) (λcG cH=>((∃ao:J,∃bp:Env,cG=.exit 0/\cH=ag.mk bp [] .none ao/\cC [] bp/\R (.ret (.int .i64 (.negSucc 0)) ao))\/(∃bI:Nat,∃ar:J,∃bB:Env,cG=.ret/\cH=ag.mk bB [] .none ar/\cC [(4,.int .i64 (.ofNat bI))] bB/\R (.ret (.int .i64 (.ofNat bI)) ar))))):
  R (Y (m+1) (.fn 115) [v,.fn f [] aM] h):=
 dF (intr:=bT) [(4000,.ik [0,1,7,8] [(.exit 0,[]),(.ret,[(4,.n .i64)])])] [(0,.o v),(1,.o (.fn f [] aM))] Tryz.func115 (by kernel_rfl) (by kernel_rfl) (by kernel_rfl) rfl (Eq.mp (by kernel_rfl) H)
theorem VM(call:ay->List I->J->an)(b:Nat)(off:Nat)(N:Nat)(i:Nat)(f:Nat)(aM:List I)(aB:b5)(h:J){Q:bF->ag->Prop}(H:(i<N->i<N/\∃v1:I,aq h b (off+i*1)=some v1/\∃a8:Bool,∃ao:J,call (.fn f) (v1::aM) h=.ret (.bool a8) ao/\(a8=true->Q .ret (ag.mk [(0,.slice b off N aB),(1,.fn f [] aM),(4,.int .i64 (.ofNat i)),(7,.int .i64 (.ofNat N)),(8,.int .i64 (.ofNat i))] [] .none ao))/\(a8=false->i+1<9223372036854775808/\Q .nrm (ag.mk [(0,.slice b off N aB),(1,.fn f [] aM),(7,.int .i64 (.ofNat N)),(8,.int .i64 (.ofNat (i+1)))] [] .none ao)))/\(¬i<N->Q (.exit 0) (ag.mk [(0,.slice b off N aB),(1,.fn f [] aM),(7,.int .i64 (.ofNat N)),(8,.int .i64 (.ofNat i))] [] .none h))):
  bw Tryz.prog Tryz.f115 call [1,0,1,0,0] ⟨[(0,.slice b off N aB),(1,.fn f [] aM),(7,.int .i64 (.ofNat N)),(8,.int .i64 (.ofNat i))],[],.none,h⟩ Q:=
 e6 [(15,.b2 .o)] [0,1,4,7,8] [(0,.v (.slice b off N aB)),(1,.o (.fn f [] aM)),(7,.v (.int .i64 (.ofNat N))),(8,.v (.int .i64 (.ofNat i)))] rfl (Eq.mp (by kernel_rfl) H)
theorem VN(call:ay->List I->J->an)(N:Nat)(i:Nat)(f:Nat)(aM:List I)(v:I)(h:J){Q:bF->ag->Prop}(H:¬i<N/\Q (.exit 0) (ag.mk [] [] .none h)):
  bw Tryz.prog Tryz.f115 call [1,0,1,0,0] ⟨[(0,v),(1,.fn f [] aM),(7,.int .i64 (.ofNat N)),(8,.int .i64 (.ofNat i))],[],.none,h⟩ Q:=
 e6 [(1009,.f)] [] [(0,.o v),(1,.o (.fn f [] aM)),(7,.v (.int .i64 (.ofNat N))),(8,.v (.int .i64 (.ofNat i)))] rfl (Eq.mp (by kernel_rfl) H)
theorem VO(m:Nat)(v:I)(f:Nat)(aM:List I)(h:J){R:an->Prop}(H:∃aQ:Nat,bU Tryz.prog h 49 v=some (.int .i64 (.ofNat aQ))/\(1<=aQ/\aQ<9223372036854775808)/\bw Tryz.prog Tryz.f124 (Y m) [1,0,1,0] (ag.mk [(0,v),(1,.fn f [] aM),(5,.int .i64 (.ofNat (aQ-1)))] [] .none h) (λcG cH=>((∃ao:J,∃bp:Env,cG=.exit 0/\cH=ag.mk bp [] .none ao/\cC [] bp/\R (.ret (.bool true) ao))\/(∃ar:J,∃bB:Env,cG=.ret/\cH=ag.mk bB [] .none ar/\cC [(4,.bool false)] bB/\R (.ret (.bool false) ar))))):
  R (Y (m+1) (.fn 124) [v,.fn f [] aM] h):=
 dF (intr:=bT) [(4000,.ik [0,1,5] [(.exit 0,[]),(.ret,[(4,.is (.bool false))])])] [(0,.o v),(1,.o (.fn f [] aM))] Tryz.func124 (by kernel_rfl) (by kernel_rfl) (by kernel_rfl) rfl (Eq.mp (by kernel_rfl) H)
theorem VP(m:Nat)(v:I)(f:Nat)(aM:List I)(h:J){R:an->Prop}(H:∃aQ:Nat,bU Tryz.prog h 49 v=some (.int .i64 (.ofNat aQ))/\∃dP:Int,arith .sub .i64 (.ofNat aQ) (.ofNat 1)=some (.int .i64 dP)/\bw Tryz.prog Tryz.f124 (Y m) [1,0,1,0] (ag.mk [(0,v),(1,.fn f [] aM),(5,.int .i64 dP)] [] .none h) (λcG cH=>∃ao:J,∃bp:Env,cG=.exit 0/\cH=ag.mk bp [] .none ao/\cC [] bp/\R (.ret (.bool true) ao))):
  R (Y (m+1) (.fn 124) [v,.fn f [] aM] h):=
 dF (intr:=bT) [(8,.b2 (.z .i64)),(4000,.ik [0,1,5] [(.exit 0,[])])] [(0,.o v),(1,.o (.fn f [] aM))] Tryz.func124 (by kernel_rfl) (by kernel_rfl) (by kernel_rfl) rfl (Eq.mp (by kernel_rfl) H)
theorem VQ(call:ay->List I->J->an)(b:Nat)(off:Nat)(N:Nat)(i:Nat)(f:Nat)(aM:List I)(aB:b5)(h:J){Q:bF->ag->Prop}(H:(0<i->i<N/\∃v1:I,aq (h.room 12) b (off+i*1)=some v1/\(1<=i/\i<9223372036854775808)/\i-1<N/\∃v2:I,aq (h.room 12) b (off+(i-1)*1)=some v2/\∃dP:Int,∃ao:J,call (.fn f) (v1::v2::aM) (h.room 12)=.ret (.int .i64 dP) ao/\I.sound (.fn f [] aM)=true/\I.sound v1=true/\I.sound v2=true/\(bC dP (.ofNat 0)=true->Q .ret (ag.mk [(0,.slice b off N aB),(1,.fn f [] aM),(4,.bool false),(5,.int .i64 (.ofNat i))] [] .none ao))/\(bC dP (.ofNat 0)=false->(1<=i/\i<9223372036854775808)/\Q .nrm (ag.mk [(0,.slice b off N aB),(1,.fn f [] aM),(5,.int .i64 (.ofNat (i-1)))] [] .none ao)))/\(¬0<i->Q (.exit 0) (ag.mk [(0,.slice b off N aB),(1,.fn f [] aM),(5,.int .i64 (.ofNat i))] [] .none h))):
  bw Tryz.prog Tryz.f124 call [1,0,1,0,0] ⟨[(0,.slice b off N aB),(1,.fn f [] aM),(5,.int .i64 (.ofNat i))],[],.none,h⟩ Q:=
 e6 [(17,.b2 .o),(22,.b2 .o),(23,.b2 (.z .i64))] [0,1,4,5] [(0,.v (.slice b off N aB)),(1,.o (.fn f [] aM)),(5,.v (.int .i64 (.ofNat i)))] rfl (Eq.mp (by kernel_rfl) H)
theorem VR(call:ay->List I->J->an)(v:I)(f:Nat)(aM:List I)(h:J){Q:bF->ag->Prop}(H:bC (.ofNat 0) (.negSucc 0)=false/\Q (.exit 0) (ag.mk [] [] .none h)):
  bw Tryz.prog Tryz.f124 call [1,0,1,0,0] ⟨[(0,v),(1,.fn f [] aM),(5,.int .i64 (.negSucc 0))],[],.none,h⟩ Q:=
 e6 [(1010,.f)] [] [(0,.o v),(1,.o (.fn f [] aM)),(5,.v (.int .i64 (.negSucc 0)))] rfl (Eq.mp (by kernel_rfl) H)
theorem VS(m:Nat)(x:I)(y:I)(a:Nat)(f:Nat)(aM:List I)(h:J){R:an->Prop}(H:aq (h.room 7) a 0=some (.fn f [] aM)/\∃s1:List UInt8,∃ao:J,(Y m) (.fn f) (x::aM) (h.room 7)=.ret (.str s1) ao/\aq ao a 0=some (.fn f [] aM)/\∃s2:List UInt8,∃ar:J,(Y m) (.fn f) (y::aM) ao=.ret (.str s2) ar/\I.sound (.fn f [] aM)=true/\I.sound x=true/\I.sound (.fn f [] aM)=true/\aq (h.room 7) a 0=some (.fn f [] aM)/\I.sound y=true/\(dN s1 s2=true->R (.ret (.int .i64 (.negSucc 0)) ar))/\(dN s1 s2=false->R (.ret (.int .i64 (.ofNat 1)) ar))):
  R (Y (m+1) (.fn 125) [x,y,.ptr a 0] h):=
 dF (intr:=bT) [(6,.b2 (.io (.fn f [] aM))),(9,.b2 (.io (.fn f [] aM)))] [(0,.o x),(1,.o y),(2,.v (.ptr a 0))] Tryz.func125 (by kernel_rfl) (by kernel_rfl) (by kernel_rfl) rfl (Eq.mp (by kernel_rfl) H)
theorem VT(m:Nat)(x:I)(y:I)(a:Nat)(f:Nat)(aM:List I)(h:J){R:an->Prop}(H:aq (h.room 8) a 0=some (.fn f [] aM)/\∃s1:List UInt8,∃ao:J,(Y m) (.fn f) (x::aM) (h.room 8)=.ret (.str s1) ao/\aq ao a 0=some (.fn f [] aM)/\∃s2:List UInt8,∃ar:J,(Y m) (.fn f) (y::aM) ao=.ret (.str s2) ar/\I.sound (.fn f [] aM)=true/\I.sound x=true/\I.sound (.fn f [] aM)=true/\aq (h.room 8) a 0=some (.fn f [] aM)/\I.sound y=true/\R (.ret (.bool (cg s1 s2)) ar)):
  R (Y (m+1) (.fn 128) [x,y,.ptr a 0] h):=
 dF (intr:=bT) [(6,.b2 (.io (.fn f [] aM))),(9,.b2 (.io (.fn f [] aM)))] [(0,.o x),(1,.o y),(2,.v (.ptr a 0))] Tryz.func128 (by kernel_rfl) (by kernel_rfl) (by kernel_rfl) rfl (Eq.mp (by kernel_rfl) H)
theorem KG(m:Nat)(v:I)(f:Nat)(aM:List I)(h:J){R:an->Prop}(H:∃aQ:Nat,bU Tryz.prog h 49 v=some (.int .i64 (.ofNat aQ))/\(aQ<2->R (.ret v h))/\(¬aQ<2->bw Tryz.prog Tryz.f126 (Y m) [1,1,0,1,0] (ag.mk [(0,v),(1,.fn f [] aM),(5,.int .i64 (.ofNat 1))] [] .none h) (λcG cH=>((∃v1:I,∃ao:J,∃bp:Env,cG=.exit 0/\cH=ag.mk bp [] .none ao/\cC [(0,v1)] bp/\R (.ret v1 ao))\/(∃v2:I,∃ar:J,∃bB:Env,cG=.ret/\cH=ag.mk bB [] .none ar/\cC [(4,v2)] bB/\R (.ret v2 ar)))))):
  R (Y (m+1) (.fn 126) [v,.fn f [] aM] h):=
 dF (intr:=bT) [(4000,.ik [0,1,5] [(.exit 0,[(0,.o)]),(.ret,[(4,.o)])])] [(0,.o v),(1,.o (.fn f [] aM))] Tryz.func126 (by kernel_rfl) (by kernel_rfl) (by kernel_rfl) rfl (Eq.mp (by kernel_rfl) H)
theorem VU(call:ay->List I->J->an)(b:Nat)(N:Nat)(k:Nat)(f:Nat)(aM:List I)(h:J){Q:bF->ag->Prop}(H:(k<N->k<N/\∃v1:I,aq (h.room 11) b (0+k*1)=some v1/\(1<=k/\k<9223372036854775808)/\k-1<N/\∃v2:I,aq (h.room 11) b (0+(k-1)*1)=some v2/\∃a8:Bool,∃ao:J,call (.fn f) (v1::v2::aM) (h.room 11)=.ret (.bool a8) ao/\I.sound (.fn f [] aM)=true/\I.sound v1=true/\I.sound v2=true/\(a8=true->∃aQ:Nat,∃bI:Nat,∃cr:Nat,∃c1:b5,fM Tryz.prog ao 49 (.slice b 0 N (.aY 1)) (some (.int .i64 (.ofNat k))) none none=some (.slice aQ bI cr c1)/\bw Tryz.prog Tryz.f126 call [1,1,0,1,0,0,1,0,0,1,0,1,0,1,0] (ag.mk [(0,.slice b 0 N (.aY 1)),(1,.fn f [] aM),(5,.int .i64 (.ofNat k)),(6,.slice aQ bI cr c1),(7,.int .i64 (.ofNat 1))] [] .none ao) (λcG cH=>∃cF:Nat,∃dc:Nat,∃dk:Nat,∃c2:b5,∃eM:Nat,∃ar:J,∃bp:Env,cG=.exit 2/\cH=ag.mk bp [] .none ar/\cC [(0,.slice cF dc dk c2),(5,.int .i64 (.ofNat eM))] bp/\∃g9:Nat,∃gW:Nat,∃gM:Nat,∃c3:b5,fM Tryz.prog ar 49 (.slice cF dc dk c2) (some (.int .i64 (.ofNat eM))) none none=some (.slice g9 gW gM c3)/\∃aZ:J,om Tryz.prog ar 49 (.slice g9 gW gM c3)=some (.aW [],aZ)/\∃cX:I,fM Tryz.prog aZ 49 (.slice cF dc dk c2) none (some (.int .i64 (.ofNat eM))) none=some cX/\Q .ret (ag.mk [(0,.slice cF dc dk c2),(4,cX),(5,.int .i64 (.ofNat eM))] [] .none aZ)))/\(a8=false->k+1<9223372036854775808/\Q .nrm (ag.mk [(0,.slice b 0 N (.aY 1)),(1,.fn f [] aM),(5,.int .i64 (.ofNat (k+1)))] [] .none ao)))/\(¬k<N->Q (.exit 0) (ag.mk [(0,.slice b 0 N (.aY 1)),(1,.fn f [] aM),(5,.int .i64 (.ofNat k))] [] .none h))):
  bw Tryz.prog Tryz.f126 call [1,1,0,1,0,0] ⟨[(0,.slice b 0 N (.aY 1)),(1,.fn f [] aM),(5,.int .i64 (.ofNat k))],[],.none,h⟩ Q:=
 e6 [(22,.b2 .o),(27,.b2 .o),(31,.b2 .gh),(4002,.ik [0,1,5,6,7] [(.exit 2,[(0,.gh),(5,.n .i64)])]),(61,.b2 .gh),(64,.b2 .o)] [0,1,4,5] [(0,.v (.slice b 0 N (.aY 1))),(1,.o (.fn f [] aM)),(5,.v (.int .i64 (.ofNat k)))] rfl (Eq.mp (by kernel_rfl) H)
theorem VV(call:ay->List I->J->an)(b:Nat)(N:Nat)(k:Nat)(f:Nat)(eo:Nat)(M:Nat)(j:Nat)(aM:List I)(h:J){Q:bF->ag->Prop}(H:(j<M->j<M/\∃v1:I,aq (h.room 12) b (eo+j*1)=some v1/\(1<=j/\j<9223372036854775808)/\j-1<M/\∃v2:I,aq (h.room 12) b (eo+(j-1)*1)=some v2/\∃a8:Bool,∃ao:J,call (.fn f) (v1::v2::aM) (h.room 12)=.ret (.bool a8) ao/\I.sound (.fn f [] aM)=true/\I.sound v1=true/\I.sound v2=true/\(a8=true->j+1<9223372036854775808/\Q .nrm (ag.mk [(0,.slice b 0 N (.aY 1)),(1,.fn f [] aM),(5,.int .i64 (.ofNat k)),(6,.slice b eo M (.aY 1)),(7,.int .i64 (.ofNat (j+1)))] [] .none ao))/\(a8=false->j<M/\∃aQ:Nat,aq ao b (eo+j*1)=some (.ptr aQ 0)/\k<N/\∃ar:J,aD.storeCells ao b (0+k*1) [.ptr aQ 0]=some ar/\k+1<9223372036854775808/\j+1<9223372036854775808/\Q .nrm (ag.mk [(0,.slice b 0 N (.aY 1)),(1,.fn f [] aM),(5,.int .i64 (.ofNat (k+1))),(6,.slice b eo M (.aY 1)),(7,.int .i64 (.ofNat (j+1)))] [] .none ar)))/\(¬j<M->Q (.exit 2) (ag.mk [(0,.slice b 0 N (.aY 1)),(1,.fn f [] aM),(5,.int .i64 (.ofNat k)),(6,.slice b eo M (.aY 1)),(7,.int .i64 (.ofNat j))] [] .none h))):
  bw Tryz.prog Tryz.f126 call [1,1,0,1,0,0,1,0,0,1,0,1,0,1,0,0] ⟨[(0,.slice b 0 N (.aY 1)),(1,.fn f [] aM),(5,.int .i64 (.ofNat k)),(6,.slice b eo M (.aY 1)),(7,.int .i64 (.ofNat j))],[],.none,h⟩ Q:=
 e6 [(42,.b2 .o),(47,.b2 .o)] [0,1,5,6,7] [(0,.v (.slice b 0 N (.aY 1))),(1,.o (.fn f [] aM)),(5,.v (.int .i64 (.ofNat k))),(6,.v (.slice b eo M (.aY 1))),(7,.v (.int .i64 (.ofNat j)))] rfl (Eq.mp (by kernel_rfl) H)
theorem VW(m:Nat)(b:Nat)(off:Nat)(N:Nat)(aB:b5)(h:J){R:an->Prop}(H:∃v1:I,∃ao:J,gZ Tryz.prog (J.push h (.cells [] 47 .own 0 0)) 49 (some 49) (.slice h.n 0 0 (.exact 0)) (.slice b off N aB)=some (v1,ao)/\R (.ret v1 ao)):
  R (Y (m+1) (.fn 127) [.slice b off N aB] h):=
 dF (intr:=bT) [(7,.b2 .o)] [(0,.v (.slice b off N aB))] Tryz.func127 (by kernel_rfl) (by kernel_rfl) (by kernel_rfl) rfl (Eq.mp (by kernel_rfl) H)
theorem VX(m:Nat)(h:J){R:an->Prop}(H:R (.ret .a_ h)):
  R (Y (m+1) (.fn 127) [.a_] h):=
 dF (intr:=bT) [] [(0,.v .a_)] Tryz.func127 (by kernel_rfl) (by kernel_rfl) (by kernel_rfl) rfl (Eq.mp (by kernel_rfl) H)
theorem VY(m:Nat)(v:I)(f:Nat)(aM:List I)(h:J){R:an->Prop}(H:I.bY (.fn f [] aM)=true/\∃a8:Bool,∃ao:J,(Y m) (.fn 124) [v,.fn 125 [] [.ptr h.n 0]] (J.push h (.cells [.fn f [] aM] 145 .own 0 0))=.ret (.bool a8) ao/\(a8=true->∃v1:I,∃ar:J,(Y m) (.fn 127) [v] ao=.ret v1 ar/\∃v2:I,∃aZ:J,(Y m) (.fn 126) [v1,.fn 128 [] [.ptr h.n 0]] ar=.ret v2 aZ/\∃aQ:Nat,bU Tryz.prog aZ 49 v2=some (.int .i64 (.ofNat aQ))/\∃bI:Nat,bU Tryz.prog aZ 49 v=some (.int .i64 (.ofNat bI))/\R (.ret (.bool (a7 (.ofNat aQ) (.ofNat bI))) aZ))/\(a8=false->R (.ret (.bool false) ao))):
  R (Y (m+1) (.fn 111) [v,.fn f [] aM] h):=
 dF (intr:=bT) [] [(0,.o v),(1,.o (.fn f [] aM))] Tryz.func111 (by kernel_rfl) (by kernel_rfl) (by kernel_rfl) rfl (Eq.mp (by kernel_rfl) H)
theorem VZ(m:Nat)(v:I)(h:J){R:an->Prop}(H:∃a8:Bool,∃ao:J,(Y m) (.fn 90) [v] h=.ret (.bool a8) ao/\R (.ret (.bool !a8) ao)):
  R (Y (m+1) (.fn 102) [v] h):=
 dF (intr:=bT) [] [(0,.o v)] Tryz.func102 (by kernel_rfl) (by kernel_rfl) (by kernel_rfl) rfl (Eq.mp (by kernel_rfl) H)
theorem V0(m:Nat)(s:List UInt8)(h:J){R:an->Prop}(H:∃a8:Bool,∃ao:J,(Y m) (.fn 107) [.str s] h=.ret (.bool a8) ao/\R (.ret (.bool !a8) ao)):
  R (Y (m+1) (.fn 106) [.str s] h):=
 dF (intr:=bT) [] [(0,.v (.str s))] Tryz.func106 (by kernel_rfl) (by kernel_rfl) (by kernel_rfl) rfl (Eq.mp (by kernel_rfl) H)
theorem V1(m:Nat)(s:List UInt8)(h:J){R:an->Prop}(H:R (.ret (.str s) h)):
  R (Y (m+1) (.fn 109) [.str s] h):=
 dF (intr:=bT) [] [(0,.v (.str s))] Tryz.func109 (by kernel_rfl) (by kernel_rfl) (by kernel_rfl) rfl (Eq.mp (by kernel_rfl) H)
theorem V2(m:Nat)(r:Nat)(h:J){R:an->Prop}(H:∃aQ:Nat,aq h r (0+0)=some (.int .i64 (.ofNat aQ))/\(aQ=9->R (.ret (.bool true) h))/\(¬aQ=9->∃bI:Nat,aq h r (0+0)=some (.int .i64 (.ofNat bI))/\R (.ret (.bool (a7 (.ofNat bI) (.ofNat 1))) h))):
  R (Y (m+1) (.fn 110) [.ptr r 0] h):=
 dF (intr:=bT) [] [(0,.v (.ptr r 0))] Tryz.func110 (by kernel_rfl) (by kernel_rfl) (by kernel_rfl) rfl (Eq.mp (by kernel_rfl) H)
theorem V3(m:Nat)(r:Nat)(h:J){R:an->Prop}(H:∃aQ:Nat,∃ao:J,(Y m) (.fn 70) [.ptr r 0] h=.ret (.int .i64 (.ofNat aQ)) ao/\(60<aQ->R (.ret (.int .i64 (.ofNat 3)) ao))/\(¬60<aQ->∃a8:Bool,∃ar:J,(Y m) (.fn 90) [.ptr r 0] ao=.ret (.bool a8) ar/\(a8=true->R (.ret (.int .i64 (.ofNat 0)) ar))/\(a8=false->R (.ret (.int .i64 (.ofNat 2)) ar)))):
  R (Y (m+1) (.fn 76) [.ptr r 0] h):=
 dF (intr:=bT) [] [(0,.v (.ptr r 0))] Tryz.func76 (by kernel_rfl) (by kernel_rfl) (by kernel_rfl) rfl (Eq.mp (by kernel_rfl) H)
theorem V4(m:Nat)(h:J){R:an->Prop}(H:R (.ret (.int .i64 (.ofNat 1)) h)):
  R (Y (m+1) (.fn 76) [.aR] h):=
 dF (intr:=bT) [] [(0,.v .aR)] Tryz.func76 (by kernel_rfl) (by kernel_rfl) (by kernel_rfl) rfl (Eq.mp (by kernel_rfl) H)
theorem ry{n:Nat}{q:Nat->Bool}(h:∀j,j<n->q j=false):(List.range n).any q=false:=by
 rw[List.any_eq_false];intro j aL;rw[h j (by simpa using aL)];simp
theorem u7{n i:Nat}{q:Nat->Bool}(ae:i<n)(h:q i=true):(List.range n).any q=true:=List.any_eq_true.2 ⟨i,by simpa using ae,h⟩
theorem lX{f:Nat}{aM:List I}(h:iU aM=true):I.sound (.fn f [] aM)=true:=by simp[I.sound,iU,h]
theorem KH(z:I)(a4:z.bY=true)(L:List I)(k:Nat)(aw:k<L.length):ff k [z] L=some (L.set k z):=by
 have h:=w6 (L.take k) [z] (L.drop k) (by simp[a4]) (by simp;omega)
 rw[List.length_take,Nat.min_eq_left (by omega),List.take_append_drop] at h
 rw[h,List.drop_drop]
 congr 1
 rw[List.set_eq_take_append_cons_drop,if_pos aw]
 rfl
theorem KI(xs:List I)(ab:xs.all I.bY=true)(L:List I)(k:Nat)(aw:k+xs.length<=L.length):∃rz,ff k xs L=some rz/\rz.length=L.length:=by
 have h:=w6 (L.take k) xs (L.drop k) ab (by simp;omega)
 rw[List.length_take,Nat.min_eq_left (by omega),List.take_append_drop] at h
 exact⟨_,h,by simp;omega⟩
theorem V5:∀(l cs:List I) (o:Nat),(∀i (ae:i<l.length),nth (o+i) cs=some l[i])->takeN l.length (hW o cs)=some l:=by
 have base:∀(l cs:List I),(∀i (ae:i<l.length),nth i cs=some l[i])->takeN l.length cs=some l:=by
  intro l
  induction l with
  |nil=>intro cs _;rfl
  |cons a l ba=>
   intro cs h
   cases cs with
   |nil=>have:=h 0 (by simp);simp[nth] at this
   |cons c cs=>
    have h0:=h 0 (by simp)
    simp only[nth,List.getElem_cons_zero,Option.some.injEq] at h0
    subst h0
    have:=ba cs (λi ae=>by have:=h (i+1) (by simpa using ae);simpa[nth] using this)
    simp only[List.length_cons,takeN,this]
 intro l cs o
 induction o generalizing cs with
 |zero=>intro h;exact base l cs (λi ae=>by have:=h i ae;rwa [Nat.zero_add] at this)
 |succ o ba=>
  intro h
  cases cs with
  |nil=>
   cases l with
   |nil=>rfl
   |cons a l=>have:=h 0 (by simp);simp[nth] at this
  |cons c cs=>
   refine ba cs (λi ae=>?_)
   have:=h i ae
   rw[show o+1+i=(o+i)+1 by omega] at this
   simpa[nth] using this
theorem cL.src{B:Nat}{h:J}{b off:Nat}{aB:b5}{vs:List I}(au:∀i (ae:i<vs.length),aq h b (off+i*1)=some vs[i])(h0:0<vs.length)(ah:aB≠ .dead):iK h 1 (.slice b off vs.length aB)=some (vs.length,vs):=by
 have af:∃cs e k bf up,h.get b=some (.cells cs e k bf up):=by
  have:=au 0 h0
  unfold aq at this
  split at this
  · rename_i cs e k bf up aj
    exact⟨cs,e,k,bf,up,aj⟩
  · cases this
 obtain⟨cs,e,k,bf,up,aj⟩:=af
 have gD:aD.loadCells h b off (vs.length*1)=some vs:=by
  refine kD aj ?_
  rw[Nat.mul_one]
  refine V5 vs cs off (λi ae=>?_)
  have:=au i ae
  simp only[aq,aj,Nat.mul_one] at this
  exact this
 cases aB with
 |dead=>exact absurd rfl ah
 |exact c=>simp only[iK,gD]
 |aY c=>simp only[iK,gD]
def hv(h:J)(b:Nat)(el:Nat)(L:List I):Prop:=h.get b=some (.cells L el .aY 0 0)
theorem hv.o9{h:J}{b el:Nat}{L:List I}(bd:hv h b el L){i o:Nat}(ae:i<L.length)(e:o=i):aq h b o=some L[i]:=by
 subst e;exact Dw bd (List.getElem?_eq_getElem ae)
theorem V6(m:Nat){B:Nat}{h:J}{v:I}{vs:List I}(f:Nat)(aM:List I)(q:Nat->Bool)(aE:cL B h v vs)(hlen:vs.length<=90000)(hf:∀i (ae:i<vs.length) x,Ext B h x->bK B x (.bool (q i)) (Y m (.fn f) (vs[i]::aM) x)):
  bK B h (.bool ((List.range vs.length).any q)) (Y (m+2) (.fn 105) [v,.fn f [] aM] h):=by
 refine Vv (m+1) v f aM h ?_
 have key:∃i g,Y (m+1) (.fn 117) [v,.fn f [] aM] h=.ret (.int .i64 i) g/\dn (Int.ofNat 0) i=(List.range vs.length).any q/\Ext B h g:=by
  refine Vw m v f aM h (R:=λx=>∃i g,x=.ret (.int .i64 i) g/\dn (Int.ofNat 0) i=(List.range vs.length).any q/\Ext B h g) ⟨vs.length,aE.len (t:=48) (e:=9) (by kernel_rfl),?_⟩
  refine bw.loop (by kernel_rfl) (λk st=>∃i x Γ,st=⟨Γ,[],.none,x⟩/\cC [(0,v),(1,.fn f [] aM),(7,.int .i64 (Int.ofNat vs.length)),(8,.int .i64 (Int.ofNat i))] Γ/\vs.length-i=k/\i<=vs.length/\Ext B h x/\∀j,j<i->q j=false) ?_ vs.length _ (by omega) ⟨0,h,_,rfl,⟨rfl,rfl,rfl,rfl,trivial⟩,by omega,by omega,Ext.refl _ _,λj aL=>by omega⟩
  rintro k st ⟨i,x,Γ,rfl,dd,aw,ae,ab,bq⟩
  rcases aE with⟨rfl,rfl⟩|⟨b,off,aB,rfl,af,au,bl,aG⟩
  · exact bw.pre (Vy (Y m) _ i f aM _ x ⟨by simp,.inl ⟨x,_,rfl,rfl,trivial,_,x,rfl,rfl,ab⟩⟩) dd rfl rfl rfl
  · refine bw.pre (Vx (Y m) b off _ i f aM aB x ⟨λaa=>⟨aa,_,gE ab af (au i aa),?_⟩,λaa=>?_⟩) dd rfl rfl rfl
    · obtain⟨g,c1,bh⟩:=hf i aa x ab
      have aj:=ab.trans (Nat.le_refl _) bh
      refine⟨q i,g,c1,λah=>?_,λah=>?_⟩
      · exact .inr ⟨i,g,_,rfl,rfl,⟨rfl,trivial⟩,_,g,rfl,by rw[u7 aa ah];exact iV (by omega),aj⟩
      · refine⟨by omega,_,(by show _<k;omega),i+1,g,_,rfl,⟨rfl,rfl,rfl,rfl,trivial⟩,rfl,by omega,aj,λj aL=>?_⟩
        by_cases e:j=i
        · rw[e];exact ah
        · exact bq j (by omega)
    · exact .inl ⟨x,_,rfl,rfl,trivial,_,x,rfl,by rw[ry (λj aL=>bq j (by omega))];rfl,ab⟩
 obtain⟨i,g,c1,aA,bh⟩:=key
 exact⟨i,g,c1,bK.of (dK aA.symm) bh⟩
theorem V7(m:Nat){B:Nat}{h:J}{v:I}{vs:List I}(f:Nat)(aM:List I)(q:Nat->Nat->Bool)(aE:cL B h v vs)(hlen:vs.length<=90000)(hh:iU aM=true)(eY:∀i (ae:i<vs.length),I.sound vs[i]=true)(hf:∀i j (ae:i<vs.length) (aL:j<vs.length) x,Ext B h x->bK B x (.int .i64 (if q i j then Int.negSucc 0 else Int.ofNat 1)) (Y m (.fn f) (vs[i]::vs[j]::aM) x)):
  bK B h (.bool (!(List.range vs.length).any (λi=>decide (0<i)&&q i (i-1)))) (Y (m+1) (.fn 119) [v,.fn f [] aM] h):=by
 by_cases h0:vs.length=0
 · refine VA m v f aM h ⟨0,by rw[<-h0];exact aE.len (t:=48) (e:=9) (by kernel_rfl),Int.negSucc 0,by kernel_rfl,?_⟩
   refine bw.loop (by kernel_rfl) (λk st=>∃Γ,st=⟨Γ,[],.none,h⟩/\cC [(0,v),(1,.fn f [] aM),(5,.int .i64 (Int.negSucc 0))] Γ) ?_ 1 _ (by omega) ⟨_,rfl,rfl,rfl,rfl,trivial⟩
   rintro k st ⟨Γ,rfl,dd⟩
   exact bw.pre (VC (Y m) v f aM h ⟨rfl,h,_,rfl,rfl,trivial,bK.of (dK (by rw[h0];rfl)) (Ext.refl _ _)⟩) dd rfl rfl rfl
 · refine Vz m v f aM h ⟨vs.length,aE.len (t:=48) (e:=9) (by kernel_rfl),⟨by omega,by omega⟩,?_⟩
   refine bw.loop (by kernel_rfl) (λk st=>∃i x Γ,st=⟨Γ,[],.none,x⟩/\cC [(0,v),(1,.fn f [] aM),(5,.int .i64 (Int.ofNat i))] Γ/\i=k/\i<vs.length/\Ext B h x/\∀j,i<j->j<vs.length->q j (j-1)=false) ?_ (vs.length-1) _ (by omega) ⟨vs.length-1,h,_,rfl,⟨rfl,rfl,rfl,trivial⟩,by omega,by omega,Ext.refl _ _,λj aL oz=>by omega⟩
   rintro k st ⟨i,x,Γ,rfl,dd,aw,ae,ab,bq⟩
   rcases aE with⟨rfl,rfl⟩|⟨b,off,aB,rfl,af,au,bl,aG⟩
   · simp at h0
   · refine bw.pre (VB (Y m) b off _ i f aM aB x ⟨λaa=>?_,λaa=>?_⟩) dd rfl rfl rfl
     · have ai:=ab.ht (k:=12)
       obtain⟨g,c1,bh⟩:=hf i (i-1) ae (by omega) _ ai
       have aj:=ai.trans (Nat.le_refl _) bh
       refine⟨ae,_,gE ai af (au i ae),⟨by omega,by omega⟩,by omega,_,gE ai af (au (i-1) (by omega)),_,g,c1,lX hh,eY i ae,eY (i-1) (by omega),λah=>?_,λah=>?_⟩
       · have tn:q i (i-1)=true:=by
           cases pE:q i (i-1) with
           |true=>rfl
           |false=>rw[pE] at ah;exact absurd ah (by decide)
         exact .inr ⟨g,_,rfl,rfl,⟨rfl,trivial⟩,bK.of (dK (by rw[u7 ae (by simp[aa,tn])];rfl)) aj⟩
       · have tn:q i (i-1)=false:=by
           cases pE:q i (i-1) with
           |false=>rfl
           |true=>rw[pE] at ah;exact absurd ah (by decide)
         refine⟨⟨by omega,by omega⟩,_,(by show _<k;omega),i-1,g,_,rfl,⟨rfl,rfl,rfl,trivial⟩,rfl,by omega,aj,λj aL oz=>?_⟩
         by_cases e:j=i
         · rw[e];exact tn
         · exact bq j (by omega) oz
     · refine .inl ⟨x,_,rfl,rfl,trivial,bK.of (dK ?_) ab⟩
       rw[ry (λj aL=>?_)];rfl
       by_cases e:0<j
       · rw[bq j (by omega) aL,Bool.and_false]
       · simp[e]
theorem KJ(m:Nat){B:Nat}{h:J}{v:I}{vs:List I}(f:Nat)(aM:List I)(q:Nat->Bool)(aE:cL B h v vs)(hlen:vs.length<=90000)(hf:∀i (ae:i<vs.length) x,Ext B h x->bK B x (.bool (q i)) (Y m (.fn f) (vs[i]::aM) x)):
  bK B h (.bool ((List.range vs.length).any q)) (Y (m+2) (.fn 103) [v,.fn f [] aM] h):=by
 refine VK (m+1) v f aM h ?_
 have key:∃i g,Y (m+1) (.fn 115) [v,.fn f [] aM] h=.ret (.int .i64 i) g/\dn (Int.ofNat 0) i=(List.range vs.length).any q/\Ext B h g:=by
  refine VL m v f aM h (R:=λx=>∃i g,x=.ret (.int .i64 i) g/\dn (Int.ofNat 0) i=(List.range vs.length).any q/\Ext B h g) ⟨vs.length,aE.len (t:=49) (e:=47) (by kernel_rfl),?_⟩
  refine bw.loop (by kernel_rfl) (λk st=>∃i x Γ,st=⟨Γ,[],.none,x⟩/\cC [(0,v),(1,.fn f [] aM),(7,.int .i64 (Int.ofNat vs.length)),(8,.int .i64 (Int.ofNat i))] Γ/\vs.length-i=k/\i<=vs.length/\Ext B h x/\∀j,j<i->q j=false) ?_ vs.length _ (by omega) ⟨0,h,_,rfl,⟨rfl,rfl,rfl,rfl,trivial⟩,by omega,by omega,Ext.refl _ _,λj aL=>by omega⟩
  rintro k st ⟨i,x,Γ,rfl,dd,aw,ae,ab,bq⟩
  rcases aE with⟨rfl,rfl⟩|⟨b,off,aB,rfl,af,au,bl,aG⟩
  · exact bw.pre (VN (Y m) _ i f aM _ x ⟨by simp,.inl ⟨x,_,rfl,rfl,trivial,_,x,rfl,rfl,ab⟩⟩) dd rfl rfl rfl
  · refine bw.pre (VM (Y m) b off _ i f aM aB x ⟨λaa=>⟨aa,_,gE ab af (au i aa),?_⟩,λaa=>?_⟩) dd rfl rfl rfl
    · obtain⟨g,c1,bh⟩:=hf i aa x ab
      have aj:=ab.trans (Nat.le_refl _) bh
      refine⟨q i,g,c1,λah=>?_,λah=>?_⟩
      · exact .inr ⟨i,g,_,rfl,rfl,⟨rfl,trivial⟩,_,g,rfl,by rw[u7 aa ah];exact iV (by omega),aj⟩
      · refine⟨by omega,_,(by show _<k;omega),i+1,g,_,rfl,⟨rfl,rfl,rfl,rfl,trivial⟩,rfl,by omega,aj,λj aL=>?_⟩
        by_cases e:j=i
        · rw[e];exact ah
        · exact bq j (by omega)
    · exact .inl ⟨x,_,rfl,rfl,trivial,_,x,rfl,by rw[ry (λj aL=>bq j (by omega))];rfl,ab⟩
 obtain⟨i,g,c1,aA,bh⟩:=key
 exact⟨i,g,c1,bK.of (dK aA.symm) bh⟩
theorem V8(m:Nat){B:Nat}{h:J}{v:I}{vs:List I}(f:Nat)(aM:List I)(q:Nat->Nat->Bool)(aE:cL B h v vs)(hlen:vs.length<=90000)(hh:iU aM=true)(eY:∀i (ae:i<vs.length),I.sound vs[i]=true)(hf:∀i j (ae:i<vs.length) (aL:j<vs.length) x,Ext B h x->bK B x (.int .i64 (if q i j then Int.negSucc 0 else Int.ofNat 1)) (Y m (.fn f) (vs[i]::vs[j]::aM) x)):
  bK B h (.bool (!(List.range vs.length).any (λi=>decide (0<i)&&q i (i-1)))) (Y (m+1) (.fn 124) [v,.fn f [] aM] h):=by
 by_cases h0:vs.length=0
 · refine VP m v f aM h ⟨0,by rw[<-h0];exact aE.len (t:=49) (e:=47) (by kernel_rfl),Int.negSucc 0,by kernel_rfl,?_⟩
   refine bw.loop (by kernel_rfl) (λk st=>∃Γ,st=⟨Γ,[],.none,h⟩/\cC [(0,v),(1,.fn f [] aM),(5,.int .i64 (Int.negSucc 0))] Γ) ?_ 1 _ (by omega) ⟨_,rfl,rfl,rfl,rfl,trivial⟩
   rintro k st ⟨Γ,rfl,dd⟩
   exact bw.pre (VR (Y m) v f aM h ⟨rfl,h,_,rfl,rfl,trivial,bK.of (dK (by rw[h0];rfl)) (Ext.refl _ _)⟩) dd rfl rfl rfl
 · refine VO m v f aM h ⟨vs.length,aE.len (t:=49) (e:=47) (by kernel_rfl),⟨by omega,by omega⟩,?_⟩
   refine bw.loop (by kernel_rfl) (λk st=>∃i x Γ,st=⟨Γ,[],.none,x⟩/\cC [(0,v),(1,.fn f [] aM),(5,.int .i64 (Int.ofNat i))] Γ/\i=k/\i<vs.length/\Ext B h x/\∀j,i<j->j<vs.length->q j (j-1)=false) ?_ (vs.length-1) _ (by omega) ⟨vs.length-1,h,_,rfl,⟨rfl,rfl,rfl,trivial⟩,by omega,by omega,Ext.refl _ _,λj aL oz=>by omega⟩
   rintro k st ⟨i,x,Γ,rfl,dd,aw,ae,ab,bq⟩
   rcases aE with⟨rfl,rfl⟩|⟨b,off,aB,rfl,af,au,bl,aG⟩
   · simp at h0
   · refine bw.pre (VQ (Y m) b off _ i f aM aB x ⟨λaa=>?_,λaa=>?_⟩) dd rfl rfl rfl
     · have ai:=ab.ht (k:=12)
       obtain⟨g,c1,bh⟩:=hf i (i-1) ae (by omega) _ ai
       have aj:=ai.trans (Nat.le_refl _) bh
       refine⟨ae,_,gE ai af (au i ae),⟨by omega,by omega⟩,by omega,_,gE ai af (au (i-1) (by omega)),_,g,c1,lX hh,eY i ae,eY (i-1) (by omega),λah=>?_,λah=>?_⟩
       · have tn:q i (i-1)=true:=by
           cases pE:q i (i-1) with
           |true=>rfl
           |false=>rw[pE] at ah;exact absurd ah (by decide)
         exact .inr ⟨g,_,rfl,rfl,⟨rfl,trivial⟩,bK.of (dK (by rw[u7 ae (by simp[aa,tn])];rfl)) aj⟩
       · have tn:q i (i-1)=false:=by
           cases pE:q i (i-1) with
           |false=>rfl
           |true=>rw[pE] at ah;exact absurd ah (by decide)
         refine⟨⟨by omega,by omega⟩,_,(by show _<k;omega),i-1,g,_,rfl,⟨rfl,rfl,rfl,trivial⟩,rfl,by omega,aj,λj aL oz=>?_⟩
         by_cases e:j=i
         · rw[e];exact tn
         · exact bq j (by omega) oz
     · refine .inl ⟨x,_,rfl,rfl,trivial,bK.of (dK ?_) ab⟩
       rw[ry (λj aL=>?_)];rfl
       by_cases e:0<j
       · rw[bq j (by omega) aL,Bool.and_false]
       · simp[e]
end Go.Proofs.cR
namespace Go.Proofs.cR
open Go aD Go.Proofs dE
set_option maxRecDepth 100000
set_option maxHeartbeats 1000000
theorem KK{n:Nat}(h:¬n<2):2<=n:=by omega
theorem AK{P:Program}{h:J}{T E b n k:Nat}(hu:P.underlying T=some (.slice E))(hs:dt P E=some 1)(h0:0<k)(aw:k<n):fM P h T (.slice b 0 n (.aY 1)) (some (.int .i64 (Int.ofNat k))) none none=some (.slice b (0+k*1) (n-k) (.aY 1)):=by
 have a8:Nat.ble n n=true:=by rw[Nat.ble_eq];omega
 have aI:Nat.ble k n=true:=by rw[Nat.ble_eq];omega
 have cK:Nat.blt k n=true:=by rw[Nat.blt_eq];exact aw
 have ep:¬k=0:=by omega
 simp only[fM,hu,hs,bounds,jH,fB,a8,aI,cK,if_true,if_neg ep]
theorem KL{P:Program}{h:J}{T E b n k:Nat}(hu:P.underlying T=some (.slice E))(hs:dt P E=some 1)(aw:k<=n):fM P h T (.slice b 0 n (.aY 1)) none (some (.int .i64 (Int.ofNat k))) none=some (.slice b 0 k (.aY 1)):=by
 have a8:Nat.ble n n=true:=by rw[Nat.ble_eq];omega
 have aI:Nat.ble k n=true:=by rw[Nat.ble_eq];omega
 have cK:Nat.ble 0 k=true:=by rw[Nat.ble_eq];omega
 simp only[fM,hu,hs,bounds,jH,fB,a8,aI,cK,if_true,Nat.sub_zero]
theorem KM:∀a:aU,dN a a=false
 |[]=>rfl
 |x::a=>by rw[Am,if_pos rfl];exact KM a
theorem KN:∀a b:aU,dN a b=true->dN b a=false
 |[],b,h=>by cases b<;>rfl
 |x::a,[],h=>by simp[dN] at h
 |x::a,y::b,h=>by
  rw[Am] at h⊢
  by_cases e:x.toNat=y.toNat
  · rw[if_pos e] at h;rw[if_pos e.symm];exact KN a b h
  · rw[if_neg e] at h;rw[if_neg (λh=>e h.symm)]
    have:x.toNat<y.toNat:=by simpa using h
    simp;omega
theorem KO:∀a b:aU,dN a b=false->dN b a=false->a=b
 |[],[],_,_=>rfl
 |[],y::b,h,_=>by simp[dN] at h
 |x::a,[],_,h=>by simp[dN] at h
 |x::a,y::b,aa,ad=>by
  rw[Am] at aa ad
  by_cases e:x.toNat=y.toNat
  · rw[if_pos e] at aa;rw[if_pos e.symm] at ad
    rw[KO a b aa ad,show x=y from UInt8.toNat_inj.1 e]
  · rw[if_neg e] at aa;rw[if_neg (λh=>e h.symm)] at ad
    simp at aa ad;omega
theorem KP(a b:aU):dN a b=(!dN b a&&!cg b a):=by
 by_cases e:b=a
 · subst e;rw[KM,QQ];rfl
 · have af:cg b a=false:=by
     cases ab:cg b a with
     |false=>rfl
     |true=>exact absurd (by simpa[oC] using ab) e
   rw[af]
   cases aa:dN a b with
   |true=>rw[KN a b aa];rfl
   |false=>
    cases ad:dN b a with
    |true=>rfl
    |false=>exact absurd (KO a b aa ad).symm e
def o_(w:Nat->aU)(n:Nat):Bool:=!(List.range n).any (λi=>decide (0<i)&&!dN (w (i-1)) (w i))
theorem KQ(w:Nat->aU)(n:Nat)(hs:(!(List.range n).any (λi=>decide (0<i)&&dN (w i) (w (i-1))))=true):o_ w n=(!(List.range n).any (λi=>decide (0<i)&&cg (w i) (w (i-1)))):=by
 unfold o_
 congr 1
 rw[Bool.not_eq_true',List.any_eq_false] at hs
 rw[Bool.eq_iff_iff,List.any_eq_true,List.any_eq_true]
 refine exists_congr λi=>and_congr_right λae=>?_
 have:=hs i ae
 rw[KP (w (i-1)) (w i)]
 by_cases e:0<i
 · have au:dN (w i) (w (i-1))=false:=by simpa[e] using this
   rw[au];simp[e]
 · simp[e]
theorem KR(w:Nat->aU)(n:Nat)(hs:(!(List.range n).any (λi=>decide (0<i)&&dN (w i) (w (i-1))))=false):o_ w n=false:=by
 unfold o_
 rw[Bool.not_eq_false',List.any_eq_true] at hs⊢
 obtain⟨i,ae,bq⟩:=hs
 refine⟨i,ae,?_⟩
 rw[KP (w (i-1)) (w i)]
 simp only[Bool.and_eq_true] at bq⊢
 rw[bq.2];exact⟨bq.1,rfl⟩
def xN(L vs:List I):Prop:=∀i (ae:i<L.length),∃s,∃hs:s<vs.length,L[i]=vs[s]
theorem xN.set{L vs:List I}(h:xN L vs)(k:Nat){s:Nat}(hs:s<vs.length):xN (L.set k vs[s]) vs:=by
 intro i ae
 rw[List.getElem_set]
 split
 · exact⟨s,hs,rfl⟩
 · exact h i (by simpa using ae)
theorem KS{a:Bool}{n k:Nat}(h:a=decide (k=n)):a7 (Int.ofNat k) (Int.ofNat n)=a:=by rw[p9,h]
theorem KT{E U:Nat}{h:J}{v:I}{vs:List I}{a:Nat}(hu:Tryz.prog.underlying U=some (.slice E))(gQ:oj Tryz.prog (some U)=true){i:TypeInfo}{z:I}(ae:Tryz.prog.info? E=some i)(bL:i.size=1)(m8:i.bytes<=1000)(a4:ew Tryz.prog E=some z)(iA:z.cells.length=1)(aE:iK h 1 v=some (vs.length,vs))(h0:0<vs.length)(au:vs.length<=90000)(ah:vs.all I.bY=true)(a2:h.get a=some (.cells [] E .own 0 0)):
  gZ Tryz.prog h U (some U) (.slice a 0 0 (.exact 0)) v=some (.slice h.n 0 vs.length (.aY 1),h.push (.cells vs E .aY 0 0)):=by
 obtain⟨k,aw⟩:∃k,vs.length=k+1:=⟨vs.length-1,by omega⟩
 have hmul:(4*(0+(k+1))+2048)*(i.bytes+1)<=(4*90000+2048)*1001:=Nat.mul_le_mul (by omega) (by omega)
 have h7:ks h E i.bytes 1 (0+(k+1)) z ([]++vs) 0=some (.slice h.n 0 (0+(k+1)) (.aY 1),h.push (.cells ([]++vs) E .aY 0 0)):=
  w4 (by unfold ln;rw[Nat.ble_eq];omega) (by rw[iA];rfl) (by rw[List.nil_append];exact ah)
 have pQ:Nat.ble (0+(k+1)) 0=false:=by
  cases ab:Nat.ble (0+(k+1)) 0 with
  |false=>rfl
  |true=>have:=Nat.le_of_ble_eq_true ab;omega
 have gD:aD.loadCells h a 0 (0*1)=some []:=by simp only[aD.loadCells,a2];rfl
 rw[aw] at aE
 simp only[gZ,hu,gQ,ae,a4,bL,aE,aw,pQ,gD,h7]
 rw[List.nil_append,Nat.zero_add]
theorem V9(m:Nat){B:Nat}{h:J}{v:I}{vs:List I}(bO:B<=h.n)(aE:cL B h v vs)(hlen:vs.length<=90000)(ah:vs.all I.bY=true):(v=.a_/\vs=[]/\Y (m+1) (.fn 122) [v] h=.ret .a_ h)\/(0<vs.length/\∃b al,Y (m+1) (.fn 122) [v] h=.ret (.slice b 0 vs.length (.aY 1)) al/\B<=b/\b<al.n/\hv al b 9 vs/\Ext B h al):=by
 rcases aE with⟨rfl,rfl⟩|⟨b,off,aB,rfl,af,au,bl,aG⟩
 · exact .inl ⟨rfl,rfl,VI m h (R:=λx=>x=.ret .a_ h) rfl⟩
 · right
   refine⟨bl,?_⟩
   obtain⟨H,c_⟩:∃H,H=h.push (.cells [] 9 .own 0 0):=⟨_,rfl⟩
   have dW:Ext B h H:=by rw[c_];exact Ext.push bO _
   have jC:H.n=h.n+1:=by rw[c_];rfl
   have gQ:=cL.src (B:=B) (h:=H) (λi ae=>gE dW af (au i ae)) bl aG
   obtain⟨i,ae⟩:=Option.isSome_iff_exists.1 (show(Tryz.prog.info? 9).isSome=true by kernel_rfl)
   have bL:i.size=1:=by
    have:(Tryz.prog.info? 9).map (·.size)=some 1:=by kernel_rfl
    rw[ae] at this;simpa using this
   have m8:i.bytes<=1000:=by
    have:(Tryz.prog.info? 9).map (λi=>Nat.ble i.bytes 1000)=some true:=by kernel_rfl
    rw[ae] at this;exact Nat.le_of_ble_eq_true (by simpa using this)
   obtain⟨z,a4⟩:=Option.isSome_iff_exists.1 (show(ew Tryz.prog 9).isSome=true by kernel_rfl)
   have iA:z.cells.length=1:=by
    have:(ew Tryz.prog 9).map (λz=>z.cells.length)=some 1:=by kernel_rfl
    rw[a4] at this;simpa using this
   have ap:=KT (U:=48) (E:=9) (a:=h.n) (by kernel_rfl) (by kernel_rfl) ae bL m8 a4 iA gQ bl hlen ah (by rw[c_];exact fp rfl)
   refine VH m b off vs.length aB h (R:=λx=>∃b al,x=.ret (.slice b 0 vs.length (.aY 1)) al/\B<=b/\b<al.n/\hv al b 9 vs/\Ext B h al) ?_
   rw[<-c_]
   exact⟨_,_,ap,_,_,rfl,by omega,by simp,fp rfl,dW.trans (Nat.le_refl _) (Ext.push (Nat.le_trans bO dW.n) _)⟩
theorem V_(m:Nat){B b K f:Nat}{h:J}{vs:List I}(aM:List I)(q:Nat->Nat->Bool)(hlen:vs.length<=90000)(mF:B<=b)(dq:1<=K)(Wa:K<vs.length)(hh:iU aM=true)(eY:∀i (ae:i<vs.length),I.sound vs[i]=true)(iD:∀i (ae:i<vs.length),∃z:List UInt8,vs[i]=(.str z))(hf:∀i j (ae:i<vs.length) (aL:j<vs.length) x,Ext B h x->bK x.n x (.bool (q i j)) (Y m (.fn f) (vs[i]::vs[j]::aM) x))
  {g:J}(af:b<g.n)(bd:hv g b 9 vs)(ab:Ext B h g){Γ:Env}(dd:cC [(0,.slice b 0 vs.length (.aY 1)),(1,.fn f [] aM),(5,.int .i64 (Int.ofNat K)),(6,.slice b (0+K*1) (vs.length-K) (.aY 1)),(7,.int .i64 (Int.ofNat 1))] Γ):
  bw Tryz.prog Tryz.f121 (Y m) [1,1,0,1,0,0,1,0,0,1,0,1,0,1,0] ⟨Γ,[],.none,g⟩ (λcG cH=>∃(b0:Nat) (ar:J) (b8:Env),cG=.exit 2/\cH=⟨b8,[],.none,ar⟩/\cC [(0,.slice b 0 vs.length (.aY 1)),(5,.int .i64 (Int.ofNat b0))] b8/\K<=b0/\b0<vs.length/\b<ar.n/\Ext B h ar/\∃L,hv ar b 9 L/\L.length=vs.length):=by
 refine bw.loop (by kernel_rfl) (λt st=>∃j k L x Γ,st=⟨Γ,[],.none,x⟩/\cC [(0,.slice b 0 vs.length (.aY 1)),(1,.fn f [] aM),(5,.int .i64 (Int.ofNat k)),(6,.slice b (0+K*1) (vs.length-K) (.aY 1)),(7,.int .i64 (Int.ofNat j))] Γ/\(vs.length-K)-j=t/\1<=j/\j<=vs.length-K/\K<=k/\k+1<=K+j/\b<x.n/\hv x b 9 L/\L.length=vs.length/\xN L vs/\Ext B h x) ?_ (vs.length-K-1) _ (by omega) ⟨1,K,vs,g,Γ,rfl,dd,by omega,by omega,by omega,by omega,by omega,af,bd,rfl,λi ae=>⟨i,ae,rfl⟩,ab⟩
 rintro t st ⟨j,k,L,x,Γ,rfl,dd,a6,aL,BP,aw,CI,xO,qd,nk,mG,hG⟩
 refine bw.pre (VG (Y m) b _ k f (0+K*1) _ j aM x ⟨λaa=>?_,λaa=>?_⟩) dd rfl rfl rfl
 · have ai:=hG.ht (k:=12)
   have la:hv (x.room 12) b 9 L:=qd
   have i1:K+j<L.length:=by omega
   have i2:K+j-1<L.length:=by omega
   obtain⟨s,hs,es⟩:=mG (K+j) i1
   obtain⟨bM,dx,qI⟩:=mG (K+j-1) i2
   obtain⟨ao,c1,bh⟩:=hf s bM hs dx _ ai
   have e9:=ai.trans (Nat.le_refl _) (bh.le (show B<=(x.room 12).n by simp;omega))
   have n7:b<(x.room 12).n:=by simp;omega
   have mH:hv ao b 9 L:=(bh.get b n7).trans la
   have qe:b<ao.n:=Nat.lt_of_lt_of_le n7 bh.n
   obtain⟨z,a4⟩:=iD s hs
   refine⟨aa,_,(la.o9 i1 (by omega)).trans (by rw[es]),⟨by omega,by omega⟩,by omega,_,(la.o9 i2 (by omega)).trans (by rw[qI]),_,ao,c1,lX hh,eY s hs,eY bM dx,λah=>?_,λah=>?_⟩
   · exact⟨by omega,_,(by show _<t;omega),j+1,k,L,ao,_,rfl,⟨rfl,rfl,rfl,rfl,rfl,trivial⟩,rfl,by omega,by omega,by omega,by omega,qe,mH,nk,mG,e9⟩
   · have ct:aD.storeCells ao b (0+k*1) [(.str z)]=some (ao.set b (some (.cells (L.set k (.str z)) 9 .aY 0 0))):=
       iG mH (w9 _ _) (by rw[show 0+k*1=k by omega];exact KH _ rfl L k (by omega))
     refine⟨aa,z,(mH.o9 i1 (by omega)).trans (by rw[es,a4]),by omega,_,ct,by omega,by omega,_,(by show _<t;omega),j+1,k+1,L.set k (.str z),_,_,rfl,⟨rfl,rfl,rfl,rfl,rfl,trivial⟩,rfl,by omega,by omega,by omega,by omega,by simp;omega,iF rfl,by simpa using nk,?_,Ext.hA mF e9⟩
     rw[<-a4]
     exact mG.set k hs
 · exact⟨k,x,_,rfl,rfl,⟨rfl,rfl,trivial⟩,aw,by omega,xO,hG,L,qd,nk⟩
theorem Wb(m:Nat){B b f:Nat}{h:J}{vs:List I}(aM:List I)(q:Nat->Nat->Bool)(hlen:vs.length<=90000)(mF:B<=b)(hh:iU aM=true)(eY:∀i (ae:i<vs.length),I.sound vs[i]=true)(iD:∀i (ae:i<vs.length),∃z:List UInt8,vs[i]=(.str z))(hf:∀i j (ae:i<vs.length) (aL:j<vs.length) x,Ext B h x->bK x.n x (.bool (q i j)) (Y m (.fn f) (vs[i]::vs[j]::aM) x))
  (af:b<h.n)(bd:hv h b 9 vs):
  ∃w g k,Y (m+1) (.fn 121) [.slice b 0 vs.length (.aY 1),.fn f [] aM] h=.ret w g/\bU Tryz.prog g 48 w=some (.int .i64 (Int.ofNat k))/\(!(List.range vs.length).any (λi=>decide (0<i)&&q i (i-1)))=decide (k=vs.length)/\Ext B h g:=by
 refine KF m (.slice b 0 vs.length (.aY 1)) f aM h (R:=λx=>∃w g k,x=.ret w g/\bU Tryz.prog g 48 w=some (.int .i64 (Int.ofNat k))/\(!(List.range vs.length).any (λi=>decide (0<i)&&q i (i-1)))=decide (k=vs.length)/\Ext B h g) ⟨vs.length,by rfl,λad=>?_,λad=>?_⟩
 · refine⟨_,h,vs.length,rfl,by rfl,?_,Ext.refl _ _⟩
   rw[ry (λj aL=>by simp[show¬0<j by omega])];simp
 · replace ad:=KK ad
   refine bw.loop (by kernel_rfl) (λt st=>∃k x Γ,st=⟨Γ,[],.none,x⟩/\cC [(0,.slice b 0 vs.length (.aY 1)),(1,.fn f [] aM),(5,.int .i64 (Int.ofNat k))] Γ/\vs.length-k=t/\1<=k/\k<=vs.length/\b<x.n/\hv x b 9 vs/\Ext B h x/\∀j,0<j->j<k->q j (j-1)=false) ?_ (vs.length-1) _ (by omega) ⟨1,h,_,rfl,⟨rfl,rfl,rfl,trivial⟩,by omega,by omega,by omega,af,bd,Ext.refl _ _,λj aL oz=>by omega⟩
   rintro t st ⟨k,x,Γ,rfl,dd,a6,aw,s8,xO,qd,hG,bq⟩
   refine bw.pre (VF (Y m) b _ k f aM x ⟨λaa=>?_,λaa=>?_⟩) dd rfl rfl rfl
   · have ai:=hG.ht (k:=11)
     have la:hv (x.room 11) b 9 vs:=qd
     obtain⟨ao,c1,bh⟩:=hf k (k-1) aa (by omega) _ ai
     have e9:=ai.trans (Nat.le_refl _) (bh.le (show B<=(x.room 11).n by simp;omega))
     have n7:b<(x.room 11).n:=by simp;omega
     have mH:hv ao b 9 vs:=(bh.get b n7).trans la
     have qe:b<ao.n:=Nat.lt_of_lt_of_le n7 bh.n
     refine⟨aa,_,la.o9 aa (by omega),⟨by omega,by omega⟩,by omega,_,la.o9 (by omega) (by omega),_,ao,c1,lX hh,eY k aa,eY (k-1) (by omega),λah=>?_,λah=>?_⟩
     · have s2:fM Tryz.prog ao 48 (.slice b 0 vs.length (.aY 1)) (some (.int .i64 (Int.ofNat k))) none none=some (.slice b (0+k*1) (vs.length-k) (.aY 1)):=AK (E:=9) (by kernel_rfl) (by kernel_rfl) (by omega) aa
       refine⟨_,_,_,_,s2,?_⟩
       refine bw.mono (V_ m aM q hlen mF aw aa hh eY iD hf qe mH e9 ⟨rfl,rfl,rfl,rfl,rfl,trivial⟩) ?_
       rintro cG cH ⟨b0,ar,b8,rfl,rfl,qf,wy,EO,di,xP,L,nk,EP⟩
       refine⟨_,_,_,_,b0,ar,b8,rfl,rfl,qf,_,_,_,_,AK (E:=9) (by kernel_rfl) (by kernel_rfl) (by omega) EO,?_⟩
       obtain⟨z,a4⟩:=Option.isSome_iff_exists.1 (show(ew Tryz.prog 9).isSome=true by kernel_rfl)
       have iA:z.cells.length=1/\z.cells.all I.bY=true:=by
        have aa:(ew Tryz.prog 9).map (λz=>z.cells.length)=some 1:=by kernel_rfl
        have ad:(ew Tryz.prog 9).map (λz=>z.cells.all I.bY)=some true:=by kernel_rfl
        rw[a4] at aa ad;exact⟨by simpa using aa,by simpa using ad⟩
       have tp:∀n,(eT n z.cells).length=n/\(eT n z.cells).all I.bY=true:=by
        intro n
        induction n with
        |zero=>exact⟨rfl,rfl⟩
        |succ n ba=>simp only[eT,List.length_append,List.all_append,ba.1,ba.2,iA.1,iA.2];exact⟨by omega,rfl⟩
       obtain⟨rz,du,dp⟩:=KI (eT (vs.length-b0) z.cells) (tp _).2 L (0+b0*1) (by rw[(tp _).1,EP];omega)
       have ct:aD.storeCells ar b (0+b0*1) (eT (vs.length-b0) z.cells)=some (ar.set b (some (.cells rz 9 .aY 0 0))):=iG nk (w9 _ _) du
       have gR:om Tryz.prog ar 48 (.slice b (0+b0*1) (vs.length-b0) (.aY 1))=some (.aW [],ar.set b (some (.cells rz 9 .aY 0 0))):=by
        have hu:Tryz.prog.underlying 48=some (.slice 9):=by kernel_rfl
        simp only[om,hu,a4,ct]
        rw[if_neg (by omega)]
       refine⟨_,gR,_,KL (E:=9) (by kernel_rfl) (by kernel_rfl) (by omega),.inr ⟨_,_,_,rfl,rfl,⟨rfl,trivial⟩,_,_,b0,rfl,by rfl,?_,Ext.hA mF xP⟩⟩
       rw[u7 aa (by rw[ah];simp;omega)]
       simp;omega
     · exact⟨by omega,_,(by show _<t;omega),k+1,ao,_,rfl,⟨rfl,rfl,rfl,trivial⟩,rfl,by omega,by omega,qe,mH,e9,λj aL oz=>by
        by_cases e:j=k
        · rw[e];exact ah
        · exact bq j aL (by omega)⟩
   · refine .inl ⟨_,x,_,rfl,rfl,⟨rfl,trivial⟩,_,_,vs.length,rfl,by rfl,?_,hG⟩
     rw[ry (λj aL=>?_)]
     · simp
     · by_cases e:0<j
       · rw[bq j e (by omega),Bool.and_false]
       · simp[e]
theorem Wc(m:Nat){B:Nat}{h:J}{v:I}{vs:List I}(f:Nat)(aM:List I)(w:Nat->aU)(bO:B<=h.n)(aE:cL B h v vs)(hlen:vs.length<=90000)(hh:iU aM=true)(eY:∀i (ae:i<vs.length),I.sound vs[i]=true)(iD:∀i (ae:i<vs.length),∃z:List UInt8,vs[i]=(.str z))(mG:∀i (ae:i<vs.length) x,Ext B h x->bK x.n x (.str (w i)) (Y m (.fn f) (vs[i]::aM) x)):
  bK B h (.bool (o_ w vs.length)) (Y (m+3) (.fn 108) [v,.fn f [] aM] h):=by
 refine VJ (m+2) v f aM h ?_
 obtain⟨H,c_⟩:∃H,H=h.push (.cells [.fn f [] aM] 150 .own 0 0):=⟨_,rfl⟩
 rw[<-c_]
 have dW:Ext B h H:=by rw[c_];exact Ext.push bO _
 have jC:H.n=h.n+1:=by rw[c_];rfl
 have iv:B<=H.n:=Nat.le_trans bO dW.n
 have kW:H.get h.n=some (.cells [.fn f [] aM] 150 .own 0 0):=by rw[c_];exact fp rfl
 have nm:∀i (ae:i<vs.length) x,Ext H.n H x->∃g,Y m (.fn f) (vs[i]::aM) x=.ret (.str (w i)) g/\Ext x.n x g:=λi ae x ab=>mG i ae x (dW.trans iv ab)
 have tq:cL H.n H v vs:=(aE.bH (dT.ext dW (Nat.le_refl _))).le (Nat.le_trans bO dW.n)
 have eF:∀x,Ext H.n H x->aq x h.n 0=some (.fn f [] aM):=λx ab=>aH ((ab.get h.n (by omega)).trans kW) rfl
 obtain⟨g,c1,bh⟩:=V7 (m+1) (B:=H.n) (h:=H) (v:=v) (vs:=vs) 120 [.ptr h.n 0] (λi j=>dN (w i) (w j)) tq hlen rfl eY (λi j ae aL x ab=>by
  have ai:Ext H.n H (x.room 7):=ab.ht
  obtain⟨ao,c1,bh⟩:=nm i ae _ ai
  have hj:Ext H.n H ao:=ai.trans ai.n bh
  obtain⟨ar,c2,bz⟩:=nm j aL _ hj
  refine VD m vs[i] vs[j] h.n f aM x ⟨eF _ ai,_,ao,c1,eF _ hj,_,ar,c2,lX hh,eY i ae,lX hh,eF _ ai,eY j aL,λah=>?_,λah=>?_⟩
  · exact bK.of (by rw[ah];rfl) ((hj.trans hj.n bz).le (Nat.le_refl _)|> λe=>by have ep:Ext H.n x ar:=⟨by have a:=bh.n;have b:=bz.n;simp at a;omega,λb af=>by rw[(hj.trans hj.n bz).get b af,ab.get b af]⟩;exact ep)
  · exact bK.of (by rw[ah];rfl) ((hj.trans hj.n bz).le (Nat.le_refl _)|> λe=>by have ep:Ext H.n x ar:=⟨by have a:=bh.n;have b:=bz.n;simp at a;omega,λb af=>by rw[(hj.trans hj.n bz).get b af,ab.get b af]⟩;exact ep))
 have fy:Ext B h g:=dW.trans iv bh
 refine⟨rfl,_,g,c1,λhs=>?_,λhs=>?_⟩
 · have qz:vs.all I.bY=true:=by
     rw[List.all_eq_true]
     intro x ab
     obtain⟨i,ae,rfl⟩:=List.getElem_of_mem ab
     obtain⟨z,a4⟩:=iD i ae
     rw[a4];rfl
   have ER:cL H.n g v vs:=tq.bH (dT.ext bh (Nat.le_refl _))
   have fin:∀v2 ar b,Y (m+2) (.fn 122) [v] g=.ret v2 ar->v2=.slice b 0 vs.length (.aY 1)->H.n<=b->b<ar.n->hv ar b 9 vs->Ext H.n g ar->∃(v2:I) (ar:J),Y (m+2) (.fn 122) [v] g=.ret v2 ar/\∃(w':I) (aZ:J),Y (m+2) (.fn 121) [v2,.fn 123 [] [.ptr h.n 0]] ar=.ret w' aZ/\∃(k:Nat),bU Tryz.prog aZ 48 w'=some (.int .i64 (Int.ofNat k))/\∃(n:Nat),bU Tryz.prog aZ 48 v=some (.int .i64 (Int.ofNat n))/\bK B h (.bool (o_ w vs.length)) (.ret (.bool (a7 (Int.ofNat k) (Int.ofNat n))) aZ):=by
    intro v2 ar b c2 aC af di bd bz
    subst aC
    have pa:Ext H.n H ar:=bh.trans (Nat.le_refl _) bz
    obtain⟨w',aZ,k,c3,cU,bN,db⟩:=Wb (m+1) (B:=H.n) (h:=ar) (vs:=vs) (f:=123) [.ptr h.n 0] (λi j=>cg (w i) (w j)) hlen af rfl eY iD (λi j ae aL x ab=>by
     have hG:Ext H.n H x:=pa.trans (Nat.le_refl _) ab
     have ai:Ext H.n H (x.room 8):=hG.ht
     obtain⟨ao,c1,gj⟩:=nm i ae _ ai
     have hj:Ext H.n H ao:=ai.trans ai.n gj
     obtain⟨ar,c2,e5⟩:=nm j aL _ hj
     refine VE m vs[i] vs[j] h.n f aM x ⟨eF _ ai,_,ao,c1,eF _ hj,_,ar,c2,lX hh,eY i ae,lX hh,eF _ ai,eY j aL,bK.of rfl ?_⟩
     refine⟨by have a:=gj.n;have b:=e5.n;simp at a;omega,λb af=>?_⟩
     have a:=gj.n
     simp at a
     rw[e5.get b (by omega),gj.get b (by simp;omega)];rfl) di bd
    have qg:Ext H.n H aZ:=pa.trans (Nat.le_refl _) db
    have ES:cL H.n aZ v vs:=tq.bH (dT.ext qg (Nat.le_refl _))
    refine⟨_,ar,c2,w',aZ,c3,k,cU,vs.length,ES.len (t:=48) (e:=9) (by kernel_rfl),bK.of (dK ?_) (dW.trans iv qg)⟩
    rw[KS bN]
    exact KQ w vs.length hs
   rcases V9 (m+1) (B:=H.n) (h:=g) bh.n ER hlen qz with⟨rfl,rfl,c2⟩|⟨bl,b,ar,c2,af,di,bd,bz⟩
   · refine⟨.a_,g,c2,.a_,g,?_,0,by rfl,0,by rfl,bK.of (dK rfl) fy⟩
     exact KF (m+1) .a_ _ _ g (R:=λx=>x=.ret .a_ g) ⟨0,by rfl,λ_=>rfl,λaK=>absurd (by omega) aK⟩
   · exact fin _ ar b c2 rfl af di bd bz
 · refine bK.of (dK ?_) fy
   exact KR w vs.length hs
theorem Wd(m:Nat){B:Nat}{h:J}{v:I}{vs:List I}(bO:B<=h.n)(aE:cL B h v vs)(hlen:vs.length<=90000)(ah:vs.all I.bY=true):(v=.a_/\vs=[]/\Y (m+1) (.fn 127) [v] h=.ret .a_ h)\/(0<vs.length/\∃b al,Y (m+1) (.fn 127) [v] h=.ret (.slice b 0 vs.length (.aY 1)) al/\B<=b/\b<al.n/\hv al b 47 vs/\Ext B h al):=by
 rcases aE with⟨rfl,rfl⟩|⟨b,off,aB,rfl,af,au,bl,aG⟩
 · exact .inl ⟨rfl,rfl,VX m h (R:=λx=>x=.ret .a_ h) rfl⟩
 · right
   refine⟨bl,?_⟩
   obtain⟨H,c_⟩:∃H,H=h.push (.cells [] 47 .own 0 0):=⟨_,rfl⟩
   have dW:Ext B h H:=by rw[c_];exact Ext.push bO _
   have jC:H.n=h.n+1:=by rw[c_];rfl
   have gQ:=cL.src (B:=B) (h:=H) (λi ae=>gE dW af (au i ae)) bl aG
   obtain⟨i,ae⟩:=Option.isSome_iff_exists.1 (show(Tryz.prog.info? 47).isSome=true by kernel_rfl)
   have bL:i.size=1:=by
    have:(Tryz.prog.info? 47).map (·.size)=some 1:=by kernel_rfl
    rw[ae] at this;simpa using this
   have m8:i.bytes<=1000:=by
    have:(Tryz.prog.info? 47).map (λi=>Nat.ble i.bytes 1000)=some true:=by kernel_rfl
    rw[ae] at this;exact Nat.le_of_ble_eq_true (by simpa using this)
   obtain⟨z,a4⟩:=Option.isSome_iff_exists.1 (show(ew Tryz.prog 47).isSome=true by kernel_rfl)
   have iA:z.cells.length=1:=by
    have:(ew Tryz.prog 47).map (λz=>z.cells.length)=some 1:=by kernel_rfl
    rw[a4] at this;simpa using this
   have ap:=KT (U:=49) (E:=47) (a:=h.n) (by kernel_rfl) (by kernel_rfl) ae bL m8 a4 iA gQ bl hlen ah (by rw[c_];exact fp rfl)
   refine VW m b off vs.length aB h (R:=λx=>∃b al,x=.ret (.slice b 0 vs.length (.aY 1)) al/\B<=b/\b<al.n/\hv al b 47 vs/\Ext B h al) ?_
   rw[<-c_]
   exact⟨_,_,ap,_,_,rfl,by omega,by simp,fp rfl,dW.trans (Nat.le_refl _) (Ext.push (Nat.le_trans bO dW.n) _)⟩
theorem We(m:Nat){B b K f:Nat}{h:J}{vs:List I}(aM:List I)(q:Nat->Nat->Bool)(hlen:vs.length<=90000)(mF:B<=b)(dq:1<=K)(Wa:K<vs.length)(hh:iU aM=true)(eY:∀i (ae:i<vs.length),I.sound vs[i]=true)(iD:∀i (ae:i<vs.length),∃z:Nat,vs[i]=(.ptr z 0))(hf:∀i j (ae:i<vs.length) (aL:j<vs.length) x,Ext B h x->bK x.n x (.bool (q i j)) (Y m (.fn f) (vs[i]::vs[j]::aM) x))
  {g:J}(af:b<g.n)(bd:hv g b 47 vs)(ab:Ext B h g){Γ:Env}(dd:cC [(0,.slice b 0 vs.length (.aY 1)),(1,.fn f [] aM),(5,.int .i64 (Int.ofNat K)),(6,.slice b (0+K*1) (vs.length-K) (.aY 1)),(7,.int .i64 (Int.ofNat 1))] Γ):
  bw Tryz.prog Tryz.f126 (Y m) [1,1,0,1,0,0,1,0,0,1,0,1,0,1,0] ⟨Γ,[],.none,g⟩ (λcG cH=>∃(b0:Nat) (ar:J) (b8:Env),cG=.exit 2/\cH=⟨b8,[],.none,ar⟩/\cC [(0,.slice b 0 vs.length (.aY 1)),(5,.int .i64 (Int.ofNat b0))] b8/\K<=b0/\b0<vs.length/\b<ar.n/\Ext B h ar/\∃L,hv ar b 47 L/\L.length=vs.length):=by
 refine bw.loop (by kernel_rfl) (λt st=>∃j k L x Γ,st=⟨Γ,[],.none,x⟩/\cC [(0,.slice b 0 vs.length (.aY 1)),(1,.fn f [] aM),(5,.int .i64 (Int.ofNat k)),(6,.slice b (0+K*1) (vs.length-K) (.aY 1)),(7,.int .i64 (Int.ofNat j))] Γ/\(vs.length-K)-j=t/\1<=j/\j<=vs.length-K/\K<=k/\k+1<=K+j/\b<x.n/\hv x b 47 L/\L.length=vs.length/\xN L vs/\Ext B h x) ?_ (vs.length-K-1) _ (by omega) ⟨1,K,vs,g,Γ,rfl,dd,by omega,by omega,by omega,by omega,by omega,af,bd,rfl,λi ae=>⟨i,ae,rfl⟩,ab⟩
 rintro t st ⟨j,k,L,x,Γ,rfl,dd,a6,aL,BP,aw,CI,xO,qd,nk,mG,hG⟩
 refine bw.pre (VV (Y m) b _ k f (0+K*1) _ j aM x ⟨λaa=>?_,λaa=>?_⟩) dd rfl rfl rfl
 · have ai:=hG.ht (k:=12)
   have la:hv (x.room 12) b 47 L:=qd
   have i1:K+j<L.length:=by omega
   have i2:K+j-1<L.length:=by omega
   obtain⟨s,hs,es⟩:=mG (K+j) i1
   obtain⟨bM,dx,qI⟩:=mG (K+j-1) i2
   obtain⟨ao,c1,bh⟩:=hf s bM hs dx _ ai
   have e9:=ai.trans (Nat.le_refl _) (bh.le (show B<=(x.room 12).n by simp;omega))
   have n7:b<(x.room 12).n:=by simp;omega
   have mH:hv ao b 47 L:=(bh.get b n7).trans la
   have qe:b<ao.n:=Nat.lt_of_lt_of_le n7 bh.n
   obtain⟨z,a4⟩:=iD s hs
   refine⟨aa,_,(la.o9 i1 (by omega)).trans (by rw[es]),⟨by omega,by omega⟩,by omega,_,(la.o9 i2 (by omega)).trans (by rw[qI]),_,ao,c1,lX hh,eY s hs,eY bM dx,λah=>?_,λah=>?_⟩
   · exact⟨by omega,_,(by show _<t;omega),j+1,k,L,ao,_,rfl,⟨rfl,rfl,rfl,rfl,rfl,trivial⟩,rfl,by omega,by omega,by omega,by omega,qe,mH,nk,mG,e9⟩
   · have ct:aD.storeCells ao b (0+k*1) [(.ptr z 0)]=some (ao.set b (some (.cells (L.set k (.ptr z 0)) 47 .aY 0 0))):=
       iG mH (w9 _ _) (by rw[show 0+k*1=k by omega];exact KH _ rfl L k (by omega))
     refine⟨aa,z,(mH.o9 i1 (by omega)).trans (by rw[es,a4]),by omega,_,ct,by omega,by omega,_,(by show _<t;omega),j+1,k+1,L.set k (.ptr z 0),_,_,rfl,⟨rfl,rfl,rfl,rfl,rfl,trivial⟩,rfl,by omega,by omega,by omega,by omega,by simp;omega,iF rfl,by simpa using nk,?_,Ext.hA mF e9⟩
     rw[<-a4]
     exact mG.set k hs
 · exact⟨k,x,_,rfl,rfl,⟨rfl,rfl,trivial⟩,aw,by omega,xO,hG,L,qd,nk⟩
theorem Wf(m:Nat){B b f:Nat}{h:J}{vs:List I}(aM:List I)(q:Nat->Nat->Bool)(hlen:vs.length<=90000)(mF:B<=b)(hh:iU aM=true)(eY:∀i (ae:i<vs.length),I.sound vs[i]=true)(iD:∀i (ae:i<vs.length),∃z:Nat,vs[i]=(.ptr z 0))(hf:∀i j (ae:i<vs.length) (aL:j<vs.length) x,Ext B h x->bK x.n x (.bool (q i j)) (Y m (.fn f) (vs[i]::vs[j]::aM) x))
  (af:b<h.n)(bd:hv h b 47 vs):
  ∃w g k,Y (m+1) (.fn 126) [.slice b 0 vs.length (.aY 1),.fn f [] aM] h=.ret w g/\bU Tryz.prog g 49 w=some (.int .i64 (Int.ofNat k))/\(!(List.range vs.length).any (λi=>decide (0<i)&&q i (i-1)))=decide (k=vs.length)/\Ext B h g:=by
 refine KG m (.slice b 0 vs.length (.aY 1)) f aM h (R:=λx=>∃w g k,x=.ret w g/\bU Tryz.prog g 49 w=some (.int .i64 (Int.ofNat k))/\(!(List.range vs.length).any (λi=>decide (0<i)&&q i (i-1)))=decide (k=vs.length)/\Ext B h g) ⟨vs.length,by rfl,λad=>?_,λad=>?_⟩
 · refine⟨_,h,vs.length,rfl,by rfl,?_,Ext.refl _ _⟩
   rw[ry (λj aL=>by simp[show¬0<j by omega])];simp
 · replace ad:=KK ad
   refine bw.loop (by kernel_rfl) (λt st=>∃k x Γ,st=⟨Γ,[],.none,x⟩/\cC [(0,.slice b 0 vs.length (.aY 1)),(1,.fn f [] aM),(5,.int .i64 (Int.ofNat k))] Γ/\vs.length-k=t/\1<=k/\k<=vs.length/\b<x.n/\hv x b 47 vs/\Ext B h x/\∀j,0<j->j<k->q j (j-1)=false) ?_ (vs.length-1) _ (by omega) ⟨1,h,_,rfl,⟨rfl,rfl,rfl,trivial⟩,by omega,by omega,by omega,af,bd,Ext.refl _ _,λj aL oz=>by omega⟩
   rintro t st ⟨k,x,Γ,rfl,dd,a6,aw,s8,xO,qd,hG,bq⟩
   refine bw.pre (VU (Y m) b _ k f aM x ⟨λaa=>?_,λaa=>?_⟩) dd rfl rfl rfl
   · have ai:=hG.ht (k:=11)
     have la:hv (x.room 11) b 47 vs:=qd
     obtain⟨ao,c1,bh⟩:=hf k (k-1) aa (by omega) _ ai
     have e9:=ai.trans (Nat.le_refl _) (bh.le (show B<=(x.room 11).n by simp;omega))
     have n7:b<(x.room 11).n:=by simp;omega
     have mH:hv ao b 47 vs:=(bh.get b n7).trans la
     have qe:b<ao.n:=Nat.lt_of_lt_of_le n7 bh.n
     refine⟨aa,_,la.o9 aa (by omega),⟨by omega,by omega⟩,by omega,_,la.o9 (by omega) (by omega),_,ao,c1,lX hh,eY k aa,eY (k-1) (by omega),λah=>?_,λah=>?_⟩
     · have s2:fM Tryz.prog ao 49 (.slice b 0 vs.length (.aY 1)) (some (.int .i64 (Int.ofNat k))) none none=some (.slice b (0+k*1) (vs.length-k) (.aY 1)):=AK (E:=47) (by kernel_rfl) (by kernel_rfl) (by omega) aa
       refine⟨_,_,_,_,s2,?_⟩
       refine bw.mono (We m aM q hlen mF aw aa hh eY iD hf qe mH e9 ⟨rfl,rfl,rfl,rfl,rfl,trivial⟩) ?_
       rintro cG cH ⟨b0,ar,b8,rfl,rfl,qf,wy,EO,di,xP,L,nk,EP⟩
       refine⟨_,_,_,_,b0,ar,b8,rfl,rfl,qf,_,_,_,_,AK (E:=47) (by kernel_rfl) (by kernel_rfl) (by omega) EO,?_⟩
       obtain⟨z,a4⟩:=Option.isSome_iff_exists.1 (show(ew Tryz.prog 47).isSome=true by kernel_rfl)
       have iA:z.cells.length=1/\z.cells.all I.bY=true:=by
        have aa:(ew Tryz.prog 47).map (λz=>z.cells.length)=some 1:=by kernel_rfl
        have ad:(ew Tryz.prog 47).map (λz=>z.cells.all I.bY)=some true:=by kernel_rfl
        rw[a4] at aa ad;exact⟨by simpa using aa,by simpa using ad⟩
       have tp:∀n,(eT n z.cells).length=n/\(eT n z.cells).all I.bY=true:=by
        intro n
        induction n with
        |zero=>exact⟨rfl,rfl⟩
        |succ n ba=>simp only[eT,List.length_append,List.all_append,ba.1,ba.2,iA.1,iA.2];exact⟨by omega,rfl⟩
       obtain⟨rz,du,dp⟩:=KI (eT (vs.length-b0) z.cells) (tp _).2 L (0+b0*1) (by rw[(tp _).1,EP];omega)
       have ct:aD.storeCells ar b (0+b0*1) (eT (vs.length-b0) z.cells)=some (ar.set b (some (.cells rz 47 .aY 0 0))):=iG nk (w9 _ _) du
       have gR:om Tryz.prog ar 49 (.slice b (0+b0*1) (vs.length-b0) (.aY 1))=some (.aW [],ar.set b (some (.cells rz 47 .aY 0 0))):=by
        have hu:Tryz.prog.underlying 49=some (.slice 47):=by kernel_rfl
        simp only[om,hu,a4,ct]
        rw[if_neg (by omega)]
       refine⟨_,gR,_,KL (E:=47) (by kernel_rfl) (by kernel_rfl) (by omega),.inr ⟨_,_,_,rfl,rfl,⟨rfl,trivial⟩,_,_,b0,rfl,by rfl,?_,Ext.hA mF xP⟩⟩
       rw[u7 aa (by rw[ah];simp;omega)]
       simp;omega
     · exact⟨by omega,_,(by show _<t;omega),k+1,ao,_,rfl,⟨rfl,rfl,rfl,trivial⟩,rfl,by omega,by omega,qe,mH,e9,λj aL oz=>by
        by_cases e:j=k
        · rw[e];exact ah
        · exact bq j aL (by omega)⟩
   · refine .inl ⟨_,x,_,rfl,rfl,⟨rfl,trivial⟩,_,_,vs.length,rfl,by rfl,?_,hG⟩
     rw[ry (λj aL=>?_)]
     · simp
     · by_cases e:0<j
       · rw[bq j e (by omega),Bool.and_false]
       · simp[e]
theorem Wg(m:Nat){B:Nat}{h:J}{v:I}{vs:List I}(f:Nat)(aM:List I)(w:Nat->aU)(bO:B<=h.n)(aE:cL B h v vs)(hlen:vs.length<=90000)(hh:iU aM=true)(eY:∀i (ae:i<vs.length),I.sound vs[i]=true)(iD:∀i (ae:i<vs.length),∃z:Nat,vs[i]=(.ptr z 0))(mG:∀i (ae:i<vs.length) x,Ext B h x->bK x.n x (.str (w i)) (Y m (.fn f) (vs[i]::aM) x)):
  bK B h (.bool (o_ w vs.length)) (Y (m+3) (.fn 111) [v,.fn f [] aM] h):=by
 refine VY (m+2) v f aM h ?_
 obtain⟨H,c_⟩:∃H,H=h.push (.cells [.fn f [] aM] 145 .own 0 0):=⟨_,rfl⟩
 rw[<-c_]
 have dW:Ext B h H:=by rw[c_];exact Ext.push bO _
 have jC:H.n=h.n+1:=by rw[c_];rfl
 have iv:B<=H.n:=Nat.le_trans bO dW.n
 have kW:H.get h.n=some (.cells [.fn f [] aM] 145 .own 0 0):=by rw[c_];exact fp rfl
 have nm:∀i (ae:i<vs.length) x,Ext H.n H x->∃g,Y m (.fn f) (vs[i]::aM) x=.ret (.str (w i)) g/\Ext x.n x g:=λi ae x ab=>mG i ae x (dW.trans iv ab)
 have tq:cL H.n H v vs:=(aE.bH (dT.ext dW (Nat.le_refl _))).le (Nat.le_trans bO dW.n)
 have eF:∀x,Ext H.n H x->aq x h.n 0=some (.fn f [] aM):=λx ab=>aH ((ab.get h.n (by omega)).trans kW) rfl
 obtain⟨g,c1,bh⟩:=V8 (m+1) (B:=H.n) (h:=H) (v:=v) (vs:=vs) 125 [.ptr h.n 0] (λi j=>dN (w i) (w j)) tq hlen rfl eY (λi j ae aL x ab=>by
  have ai:Ext H.n H (x.room 7):=ab.ht
  obtain⟨ao,c1,bh⟩:=nm i ae _ ai
  have hj:Ext H.n H ao:=ai.trans ai.n bh
  obtain⟨ar,c2,bz⟩:=nm j aL _ hj
  refine VS m vs[i] vs[j] h.n f aM x ⟨eF _ ai,_,ao,c1,eF _ hj,_,ar,c2,lX hh,eY i ae,lX hh,eF _ ai,eY j aL,λah=>?_,λah=>?_⟩
  · exact bK.of (by rw[ah];rfl) ((hj.trans hj.n bz).le (Nat.le_refl _)|> λe=>by have ep:Ext H.n x ar:=⟨by have a:=bh.n;have b:=bz.n;simp at a;omega,λb af=>by rw[(hj.trans hj.n bz).get b af,ab.get b af]⟩;exact ep)
  · exact bK.of (by rw[ah];rfl) ((hj.trans hj.n bz).le (Nat.le_refl _)|> λe=>by have ep:Ext H.n x ar:=⟨by have a:=bh.n;have b:=bz.n;simp at a;omega,λb af=>by rw[(hj.trans hj.n bz).get b af,ab.get b af]⟩;exact ep))
 have fy:Ext B h g:=dW.trans iv bh
 refine⟨rfl,_,g,c1,λhs=>?_,λhs=>?_⟩
 · have qz:vs.all I.bY=true:=by
     rw[List.all_eq_true]
     intro x ab
     obtain⟨i,ae,rfl⟩:=List.getElem_of_mem ab
     obtain⟨z,a4⟩:=iD i ae
     rw[a4];rfl
   have ER:cL H.n g v vs:=tq.bH (dT.ext bh (Nat.le_refl _))
   have fin:∀v2 ar b,Y (m+2) (.fn 127) [v] g=.ret v2 ar->v2=.slice b 0 vs.length (.aY 1)->H.n<=b->b<ar.n->hv ar b 47 vs->Ext H.n g ar->∃(v2:I) (ar:J),Y (m+2) (.fn 127) [v] g=.ret v2 ar/\∃(w':I) (aZ:J),Y (m+2) (.fn 126) [v2,.fn 128 [] [.ptr h.n 0]] ar=.ret w' aZ/\∃(k:Nat),bU Tryz.prog aZ 49 w'=some (.int .i64 (Int.ofNat k))/\∃(n:Nat),bU Tryz.prog aZ 49 v=some (.int .i64 (Int.ofNat n))/\bK B h (.bool (o_ w vs.length)) (.ret (.bool (a7 (Int.ofNat k) (Int.ofNat n))) aZ):=by
    intro v2 ar b c2 aC af di bd bz
    subst aC
    have pa:Ext H.n H ar:=bh.trans (Nat.le_refl _) bz
    obtain⟨w',aZ,k,c3,cU,bN,db⟩:=Wf (m+1) (B:=H.n) (h:=ar) (vs:=vs) (f:=128) [.ptr h.n 0] (λi j=>cg (w i) (w j)) hlen af rfl eY iD (λi j ae aL x ab=>by
     have hG:Ext H.n H x:=pa.trans (Nat.le_refl _) ab
     have ai:Ext H.n H (x.room 8):=hG.ht
     obtain⟨ao,c1,gj⟩:=nm i ae _ ai
     have hj:Ext H.n H ao:=ai.trans ai.n gj
     obtain⟨ar,c2,e5⟩:=nm j aL _ hj
     refine VT m vs[i] vs[j] h.n f aM x ⟨eF _ ai,_,ao,c1,eF _ hj,_,ar,c2,lX hh,eY i ae,lX hh,eF _ ai,eY j aL,bK.of rfl ?_⟩
     refine⟨by have a:=gj.n;have b:=e5.n;simp at a;omega,λb af=>?_⟩
     have a:=gj.n
     simp at a
     rw[e5.get b (by omega),gj.get b (by simp;omega)];rfl) di bd
    have qg:Ext H.n H aZ:=pa.trans (Nat.le_refl _) db
    have ES:cL H.n aZ v vs:=tq.bH (dT.ext qg (Nat.le_refl _))
    refine⟨_,ar,c2,w',aZ,c3,k,cU,vs.length,ES.len (t:=49) (e:=47) (by kernel_rfl),bK.of (dK ?_) (dW.trans iv qg)⟩
    rw[KS bN]
    exact KQ w vs.length hs
   rcases Wd (m+1) (B:=H.n) (h:=g) bh.n ER hlen qz with⟨rfl,rfl,c2⟩|⟨bl,b,ar,c2,af,di,bd,bz⟩
   · refine⟨.a_,g,c2,.a_,g,?_,0,by rfl,0,by rfl,bK.of (dK rfl) fy⟩
     exact KG (m+1) .a_ _ _ g (R:=λx=>x=.ret .a_ g) ⟨0,by rfl,λ_=>rfl,λaK=>absurd (by omega) aK⟩
   · exact fin _ ar b c2 rfl af di bd bz
 · refine bK.of (dK ?_) fy
   exact KR w vs.length hs
end Go.Proofs.cR
