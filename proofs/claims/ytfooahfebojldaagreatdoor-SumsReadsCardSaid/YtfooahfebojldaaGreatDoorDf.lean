/-
  PROVED HERE: contracts of functions (Df). No condition beside each statement's own.
-/
import Derived.Test.YtfooahfebojldaaGreatDoorDe
import Derived.Test.YtfooahfebojldaaGreatDoorTx
set_option linter.unusedVariables false
set_option linter.unusedSimpArgs false
namespace Go.Proofs.cT
open Go aC Go.Proofs dD
set_option maxRecDepth 100000
set_option maxHeartbeats 1000000
theorem Wt(m:Nat)(v:J)(f:Nat)(caps:List J)(h:aa){R:ao->Prop}(H:∃ff:Int,∃aq:aa,(Y m) (.fn 117) [v,.fn f [] caps] h=.ret (.int .i64 ff) aq/\R (.ret (.bool (dq (.ofNat 0) ff)) aq)):
  R (Y (m+1) (.fn 105) [v,.fn f [] caps] h):=
 eM (intr:=cj) [(7,.cI (.z .i64))] [(0,.o v),(1,.o (.fn f [] caps))] Tryz.func105 (by kernel_rfl) (by kernel_rfl) (by kernel_rfl) rfl (Eq.mp (by kernel_rfl) H)
theorem Wu(m:Nat)(v:J)(f:Nat)(caps:List J)(h:aa){R:ao->Prop}(H:∃a1:Nat,cq Tryz.prog h 48 v=some (.int .i64 (.ofNat a1))/\bz Tryz.prog Tryz.f117 (Y m) [1,0,1,0] (af.mk [(0,v),(1,.fn f [] caps),(7,.int .i64 (.ofNat a1)),(8,.int .i64 (.ofNat 0))] [] .none h) (λdv dw=>((∃aq:aa,∃bK:Env,dv=.exit 0/\dw=af.mk bK [] .none aq/\cN [] bK/\R (.ret (.int .i64 (.negSucc 0)) aq))\/(∃bL:Nat,∃ak:aa,∃bQ:Env,dv=.ret/\dw=af.mk bQ [] .none ak/\cN [(4,.int .i64 (.ofNat bL))] bQ/\R (.ret (.int .i64 (.ofNat bL)) ak))))):
  R (Y (m+1) (.fn 117) [v,.fn f [] caps] h):=
 eM (intr:=cj) [(4000,.gr [0,1,7,8] [(.exit 0,[]),(.ret,[(4,.n .i64)])])] [(0,.o v),(1,.o (.fn f [] caps))] Tryz.func117 (by kernel_rfl) (by kernel_rfl) (by kernel_rfl) rfl (Eq.mp (by kernel_rfl) H)
theorem Wv(call:aE->List J->aa->ao)(b:Nat)(off:Nat)(N:Nat)(i:Nat)(f:Nat)(caps:List J)(aH:cE)(h:aa){Q:bA->af->Prop}(H:(i<N->i<N/\∃v1:J,av h b (off+i*1)=some v1/\∃a8:Bool,∃aq:aa,call (.fn f) (v1::caps) h=.ret (.bool a8) aq/\(a8=true->Q .ret (af.mk [(0,.slice b off N aH),(1,.fn f [] caps),(4,.int .i64 (.ofNat i)),(7,.int .i64 (.ofNat N)),(8,.int .i64 (.ofNat i))] [] .none aq))/\(a8=false->i+1<9223372036854775808/\Q .nrm (af.mk [(0,.slice b off N aH),(1,.fn f [] caps),(7,.int .i64 (.ofNat N)),(8,.int .i64 (.ofNat (i+1)))] [] .none aq)))/\(¬i<N->Q (.exit 0) (af.mk [(0,.slice b off N aH),(1,.fn f [] caps),(7,.int .i64 (.ofNat N)),(8,.int .i64 (.ofNat i))] [] .none h))):
  bz Tryz.prog Tryz.f117 call [1,0,1,0,0] ⟨[(0,.slice b off N aH),(1,.fn f [] caps),(7,.int .i64 (.ofNat N)),(8,.int .i64 (.ofNat i))],[],.none,h⟩ Q:=
 hz [(15,.cI .o)] [0,1,4,7,8] [(0,.v (.slice b off N aH)),(1,.o (.fn f [] caps)),(7,.v (.int .i64 (.ofNat N))),(8,.v (.int .i64 (.ofNat i)))] rfl (Eq.mp (by kernel_rfl) H)
theorem Ww(call:aE->List J->aa->ao)(N:Nat)(i:Nat)(f:Nat)(caps:List J)(v:J)(h:aa){Q:bA->af->Prop}(H:¬i<N/\Q (.exit 0) (af.mk [] [] .none h)):
  bz Tryz.prog Tryz.f117 call [1,0,1,0,0] ⟨[(0,v),(1,.fn f [] caps),(7,.int .i64 (.ofNat N)),(8,.int .i64 (.ofNat i))],[],.none,h⟩ Q:=
 hz [(1009,.f)] [] [(0,.o v),(1,.o (.fn f [] caps)),(7,.v (.int .i64 (.ofNat N))),(8,.v (.int .i64 (.ofNat i)))] rfl (Eq.mp (by kernel_rfl) H)
theorem Wx(m:Nat)(v:J)(f:Nat)(caps:List J)(h:aa){R:ao->Prop}(H:∃a1:Nat,cq Tryz.prog h 48 v=some (.int .i64 (.ofNat a1))/\(1<=a1/\a1<9223372036854775808)/\bz Tryz.prog Tryz.f119 (Y m) [1,0,1,0] (af.mk [(0,v),(1,.fn f [] caps),(5,.int .i64 (.ofNat (a1-1)))] [] .none h) (λdv dw=>((∃aq:aa,∃bK:Env,dv=.exit 0/\dw=af.mk bK [] .none aq/\cN [] bK/\R (.ret (.bool true) aq))\/(∃ak:aa,∃bQ:Env,dv=.ret/\dw=af.mk bQ [] .none ak/\cN [(4,.bool false)] bQ/\R (.ret (.bool false) ak))))):
  R (Y (m+1) (.fn 119) [v,.fn f [] caps] h):=
 eM (intr:=cj) [(4000,.gr [0,1,5] [(.exit 0,[]),(.ret,[(4,.is (.bool false))])])] [(0,.o v),(1,.o (.fn f [] caps))] Tryz.func119 (by kernel_rfl) (by kernel_rfl) (by kernel_rfl) rfl (Eq.mp (by kernel_rfl) H)
theorem Wy(m:Nat)(v:J)(f:Nat)(caps:List J)(h:aa){R:ao->Prop}(H:∃a1:Nat,cq Tryz.prog h 48 v=some (.int .i64 (.ofNat a1))/\∃ff:Int,arith .sub .i64 (.ofNat a1) (.ofNat 1)=some (.int .i64 ff)/\bz Tryz.prog Tryz.f119 (Y m) [1,0,1,0] (af.mk [(0,v),(1,.fn f [] caps),(5,.int .i64 ff)] [] .none h) (λdv dw=>∃aq:aa,∃bK:Env,dv=.exit 0/\dw=af.mk bK [] .none aq/\cN [] bK/\R (.ret (.bool true) aq))):
  R (Y (m+1) (.fn 119) [v,.fn f [] caps] h):=
 eM (intr:=cj) [(8,.cI (.z .i64)),(4000,.gr [0,1,5] [(.exit 0,[])])] [(0,.o v),(1,.o (.fn f [] caps))] Tryz.func119 (by kernel_rfl) (by kernel_rfl) (by kernel_rfl) rfl (Eq.mp (by kernel_rfl) H)
theorem Wz(call:aE->List J->aa->ao)(b:Nat)(off:Nat)(N:Nat)(i:Nat)(f:Nat)(caps:List J)(aH:cE)(h:aa){Q:bA->af->Prop}(H:(0<i->i<N/\∃v1:J,av (h.room 12) b (off+i*1)=some v1/\(1<=i/\i<9223372036854775808)/\i-1<N/\∃v2:J,av (h.room 12) b (off+(i-1)*1)=some v2/\∃ff:Int,∃aq:aa,call (.fn f) (v1::v2::caps) (h.room 12)=.ret (.int .i64 ff) aq/\J.sound (.fn f [] caps)=true/\J.sound v1=true/\J.sound v2=true/\(br ff (.ofNat 0)=true->Q .ret (af.mk [(0,.slice b off N aH),(1,.fn f [] caps),(4,.bool false),(5,.int .i64 (.ofNat i))] [] .none aq))/\(br ff (.ofNat 0)=false->(1<=i/\i<9223372036854775808)/\Q .nrm (af.mk [(0,.slice b off N aH),(1,.fn f [] caps),(5,.int .i64 (.ofNat (i-1)))] [] .none aq)))/\(¬0<i->Q (.exit 0) (af.mk [(0,.slice b off N aH),(1,.fn f [] caps),(5,.int .i64 (.ofNat i))] [] .none h))):
  bz Tryz.prog Tryz.f119 call [1,0,1,0,0] ⟨[(0,.slice b off N aH),(1,.fn f [] caps),(5,.int .i64 (.ofNat i))],[],.none,h⟩ Q:=
 hz [(17,.cI .o),(22,.cI .o),(23,.cI (.z .i64))] [0,1,4,5] [(0,.v (.slice b off N aH)),(1,.o (.fn f [] caps)),(5,.v (.int .i64 (.ofNat i)))] rfl (Eq.mp (by kernel_rfl) H)
theorem WA(call:aE->List J->aa->ao)(v:J)(f:Nat)(caps:List J)(h:aa){Q:bA->af->Prop}(H:br (.ofNat 0) (.negSucc 0)=false/\Q (.exit 0) (af.mk [] [] .none h)):
  bz Tryz.prog Tryz.f119 call [1,0,1,0,0] ⟨[(0,v),(1,.fn f [] caps),(5,.int .i64 (.negSucc 0))],[],.none,h⟩ Q:=
 hz [(1010,.f)] [] [(0,.o v),(1,.o (.fn f [] caps)),(5,.v (.int .i64 (.negSucc 0)))] rfl (Eq.mp (by kernel_rfl) H)
theorem WB(m:Nat)(x:J)(y:J)(a:Nat)(f:Nat)(caps:List J)(h:aa){R:ao->Prop}(H:av (h.room 7) a 0=some (.fn f [] caps)/\∃s1:List UInt8,∃aq:aa,(Y m) (.fn f) (x::caps) (h.room 7)=.ret (.str s1) aq/\av aq a 0=some (.fn f [] caps)/\∃s2:List UInt8,∃ak:aa,(Y m) (.fn f) (y::caps) aq=.ret (.str s2) ak/\J.sound (.fn f [] caps)=true/\J.sound x=true/\J.sound (.fn f [] caps)=true/\av (h.room 7) a 0=some (.fn f [] caps)/\J.sound y=true/\(en s1 s2=true->R (.ret (.int .i64 (.negSucc 0)) ak))/\(en s1 s2=false->R (.ret (.int .i64 (.ofNat 1)) ak))):
  R (Y (m+1) (.fn 120) [x,y,.ptr a 0] h):=
 eM (intr:=cj) [(6,.cI (.io (.fn f [] caps))),(9,.cI (.io (.fn f [] caps)))] [(0,.o x),(1,.o y),(2,.v (.ptr a 0))] Tryz.func120 (by kernel_rfl) (by kernel_rfl) (by kernel_rfl) rfl (Eq.mp (by kernel_rfl) H)
theorem WC(m:Nat)(x:J)(y:J)(a:Nat)(f:Nat)(caps:List J)(h:aa){R:ao->Prop}(H:av (h.room 8) a 0=some (.fn f [] caps)/\∃s1:List UInt8,∃aq:aa,(Y m) (.fn f) (x::caps) (h.room 8)=.ret (.str s1) aq/\av aq a 0=some (.fn f [] caps)/\∃s2:List UInt8,∃ak:aa,(Y m) (.fn f) (y::caps) aq=.ret (.str s2) ak/\J.sound (.fn f [] caps)=true/\J.sound x=true/\J.sound (.fn f [] caps)=true/\av (h.room 8) a 0=some (.fn f [] caps)/\J.sound y=true/\R (.ret (.bool (cF s1 s2)) ak)):
  R (Y (m+1) (.fn 123) [x,y,.ptr a 0] h):=
 eM (intr:=cj) [(6,.cI (.io (.fn f [] caps))),(9,.cI (.io (.fn f [] caps)))] [(0,.o x),(1,.o y),(2,.v (.ptr a 0))] Tryz.func123 (by kernel_rfl) (by kernel_rfl) (by kernel_rfl) rfl (Eq.mp (by kernel_rfl) H)
theorem LM(m:Nat)(v:J)(f:Nat)(caps:List J)(h:aa){R:ao->Prop}(H:∃a1:Nat,cq Tryz.prog h 48 v=some (.int .i64 (.ofNat a1))/\(a1<2->R (.ret v h))/\(¬a1<2->bz Tryz.prog Tryz.f121 (Y m) [1,1,0,1,0] (af.mk [(0,v),(1,.fn f [] caps),(5,.int .i64 (.ofNat 1))] [] .none h) (λdv dw=>((∃v1:J,∃aq:aa,∃bK:Env,dv=.exit 0/\dw=af.mk bK [] .none aq/\cN [(0,v1)] bK/\R (.ret v1 aq))\/(∃v2:J,∃ak:aa,∃bQ:Env,dv=.ret/\dw=af.mk bQ [] .none ak/\cN [(4,v2)] bQ/\R (.ret v2 ak)))))):
  R (Y (m+1) (.fn 121) [v,.fn f [] caps] h):=
 eM (intr:=cj) [(4000,.gr [0,1,5] [(.exit 0,[(0,.o)]),(.ret,[(4,.o)])])] [(0,.o v),(1,.o (.fn f [] caps))] Tryz.func121 (by kernel_rfl) (by kernel_rfl) (by kernel_rfl) rfl (Eq.mp (by kernel_rfl) H)
theorem WD(call:aE->List J->aa->ao)(b:Nat)(N:Nat)(k:Nat)(f:Nat)(caps:List J)(h:aa){Q:bA->af->Prop}(H:(k<N->k<N/\∃v1:J,av (h.room 11) b (0+k*1)=some v1/\(1<=k/\k<9223372036854775808)/\k-1<N/\∃v2:J,av (h.room 11) b (0+(k-1)*1)=some v2/\∃a8:Bool,∃aq:aa,call (.fn f) (v1::v2::caps) (h.room 11)=.ret (.bool a8) aq/\J.sound (.fn f [] caps)=true/\J.sound v1=true/\J.sound v2=true/\(a8=true->∃a1:Nat,∃bL:Nat,∃cm:Nat,∃c1:cE,d_ Tryz.prog aq 48 (.slice b 0 N (.a5 1)) (some (.int .i64 (.ofNat k))) none none=some (.slice a1 bL cm c1)/\bz Tryz.prog Tryz.f121 call [1,1,0,1,0,0,1,0,0,1,0,1,0,1,0] (af.mk [(0,.slice b 0 N (.a5 1)),(1,.fn f [] caps),(5,.int .i64 (.ofNat k)),(6,.slice a1 bL cm c1),(7,.int .i64 (.ofNat 1))] [] .none aq) (λdv dw=>∃cn:Nat,∃cz:Nat,∃cV:Nat,∃c2:cE,∃ej:Nat,∃ak:aa,∃bK:Env,dv=.exit 2/\dw=af.mk bK [] .none ak/\cN [(0,.slice cn cz cV c2),(5,.int .i64 (.ofNat ej))] bK/\∃fC:Nat,∃fZ:Nat,∃eI:Nat,∃c3:cE,d_ Tryz.prog ak 48 (.slice cn cz cV c2) (some (.int .i64 (.ofNat ej))) none none=some (.slice fC fZ eI c3)/\∃aQ:aa,pB Tryz.prog ak 48 (.slice fC fZ eI c3)=some (.aL [],aQ)/\∃dS:J,d_ Tryz.prog aQ 48 (.slice cn cz cV c2) none (some (.int .i64 (.ofNat ej))) none=some dS/\Q .ret (af.mk [(0,.slice cn cz cV c2),(4,dS),(5,.int .i64 (.ofNat ej))] [] .none aQ)))/\(a8=false->k+1<9223372036854775808/\Q .nrm (af.mk [(0,.slice b 0 N (.a5 1)),(1,.fn f [] caps),(5,.int .i64 (.ofNat (k+1)))] [] .none aq)))/\(¬k<N->Q (.exit 0) (af.mk [(0,.slice b 0 N (.a5 1)),(1,.fn f [] caps),(5,.int .i64 (.ofNat k))] [] .none h))):
  bz Tryz.prog Tryz.f121 call [1,1,0,1,0,0] ⟨[(0,.slice b 0 N (.a5 1)),(1,.fn f [] caps),(5,.int .i64 (.ofNat k))],[],.none,h⟩ Q:=
 hz [(22,.cI .o),(27,.cI .o),(31,.cI .iv),(4002,.gr [0,1,5,6,7] [(.exit 2,[(0,.iv),(5,.n .i64)])]),(61,.cI .iv),(64,.cI .o)] [0,1,4,5] [(0,.v (.slice b 0 N (.a5 1))),(1,.o (.fn f [] caps)),(5,.v (.int .i64 (.ofNat k)))] rfl (Eq.mp (by kernel_rfl) H)
theorem WE(call:aE->List J->aa->ao)(b:Nat)(N:Nat)(k:Nat)(f:Nat)(dR:Nat)(M:Nat)(j:Nat)(caps:List J)(h:aa){Q:bA->af->Prop}(H:(j<M->j<M/\∃v1:J,av (h.room 12) b (dR+j*1)=some v1/\(1<=j/\j<9223372036854775808)/\j-1<M/\∃v2:J,av (h.room 12) b (dR+(j-1)*1)=some v2/\∃a8:Bool,∃aq:aa,call (.fn f) (v1::v2::caps) (h.room 12)=.ret (.bool a8) aq/\J.sound (.fn f [] caps)=true/\J.sound v1=true/\J.sound v2=true/\(a8=true->j+1<9223372036854775808/\Q .nrm (af.mk [(0,.slice b 0 N (.a5 1)),(1,.fn f [] caps),(5,.int .i64 (.ofNat k)),(6,.slice b dR M (.a5 1)),(7,.int .i64 (.ofNat (j+1)))] [] .none aq))/\(a8=false->j<M/\∃s1:List UInt8,av aq b (dR+j*1)=some (.str s1)/\k<N/\∃ak:aa,aC.storeCells aq b (0+k*1) [.str s1]=some ak/\k+1<9223372036854775808/\j+1<9223372036854775808/\Q .nrm (af.mk [(0,.slice b 0 N (.a5 1)),(1,.fn f [] caps),(5,.int .i64 (.ofNat (k+1))),(6,.slice b dR M (.a5 1)),(7,.int .i64 (.ofNat (j+1)))] [] .none ak)))/\(¬j<M->Q (.exit 2) (af.mk [(0,.slice b 0 N (.a5 1)),(1,.fn f [] caps),(5,.int .i64 (.ofNat k)),(6,.slice b dR M (.a5 1)),(7,.int .i64 (.ofNat j))] [] .none h))):
  bz Tryz.prog Tryz.f121 call [1,1,0,1,0,0,1,0,0,1,0,1,0,1,0,0] ⟨[(0,.slice b 0 N (.a5 1)),(1,.fn f [] caps),(5,.int .i64 (.ofNat k)),(6,.slice b dR M (.a5 1)),(7,.int .i64 (.ofNat j))],[],.none,h⟩ Q:=
 hz [(42,.cI .o),(47,.cI .o)] [0,1,5,6,7] [(0,.v (.slice b 0 N (.a5 1))),(1,.o (.fn f [] caps)),(5,.v (.int .i64 (.ofNat k))),(6,.v (.slice b dR M (.a5 1))),(7,.v (.int .i64 (.ofNat j)))] rfl (Eq.mp (by kernel_rfl) H)
theorem WG(m:Nat)(b:Nat)(off:Nat)(N:Nat)(aH:cE)(h:aa){R:ao->Prop}(H:∃v1:J,∃aq:aa,gf Tryz.prog (aa.push h (.cells [] 9 .own 0 0)) 48 (some 48) (.slice h.n 0 0 (.exact 0)) (.slice b off N aH)=some (v1,aq)/\R (.ret v1 aq)):
  R (Y (m+1) (.fn 122) [.slice b off N aH] h):=
 eM (intr:=cj) [(7,.cI .o)] [(0,.v (.slice b off N aH))] Tryz.func122 (by kernel_rfl) (by kernel_rfl) (by kernel_rfl) rfl (Eq.mp (by kernel_rfl) H)
theorem WH(m:Nat)(h:aa){R:ao->Prop}(H:R (.ret .aA h)):
  R (Y (m+1) (.fn 122) [.aA] h):=
 eM (intr:=cj) [] [(0,.v .aA)] Tryz.func122 (by kernel_rfl) (by kernel_rfl) (by kernel_rfl) rfl (Eq.mp (by kernel_rfl) H)
theorem WI(m:Nat)(v:J)(f:Nat)(caps:List J)(h:aa){R:ao->Prop}(H:J.cu (.fn f [] caps)=true/\∃a8:Bool,∃aq:aa,(Y m) (.fn 119) [v,.fn 120 [] [.ptr h.n 0]] (aa.push h (.cells [.fn f [] caps] 150 .own 0 0))=.ret (.bool a8) aq/\(a8=true->∃v1:J,∃ak:aa,(Y m) (.fn 122) [v] aq=.ret v1 ak/\∃v2:J,∃aQ:aa,(Y m) (.fn 121) [v1,.fn 123 [] [.ptr h.n 0]] ak=.ret v2 aQ/\∃a1:Nat,cq Tryz.prog aQ 48 v2=some (.int .i64 (.ofNat a1))/\∃bL:Nat,cq Tryz.prog aQ 48 v=some (.int .i64 (.ofNat bL))/\R (.ret (.bool (ba (.ofNat a1) (.ofNat bL))) aQ))/\(a8=false->R (.ret (.bool false) aq))):
  R (Y (m+1) (.fn 108) [v,.fn f [] caps] h):=
 eM (intr:=cj) [] [(0,.o v),(1,.o (.fn f [] caps))] Tryz.func108 (by kernel_rfl) (by kernel_rfl) (by kernel_rfl) rfl (Eq.mp (by kernel_rfl) H)
theorem WJ(m:Nat)(v:J)(f:Nat)(caps:List J)(h:aa){R:ao->Prop}(H:∃ff:Int,∃aq:aa,(Y m) (.fn 115) [v,.fn f [] caps] h=.ret (.int .i64 ff) aq/\R (.ret (.bool (dq (.ofNat 0) ff)) aq)):
  R (Y (m+1) (.fn 103) [v,.fn f [] caps] h):=
 eM (intr:=cj) [(7,.cI (.z .i64))] [(0,.o v),(1,.o (.fn f [] caps))] Tryz.func103 (by kernel_rfl) (by kernel_rfl) (by kernel_rfl) rfl (Eq.mp (by kernel_rfl) H)
theorem WK(m:Nat)(v:J)(f:Nat)(caps:List J)(h:aa){R:ao->Prop}(H:∃a1:Nat,cq Tryz.prog h 49 v=some (.int .i64 (.ofNat a1))/\bz Tryz.prog Tryz.f115 (Y m) [1,0,1,0] (af.mk [(0,v),(1,.fn f [] caps),(7,.int .i64 (.ofNat a1)),(8,.int .i64 (.ofNat 0))] [] .none h) (λdv dw=>((∃aq:aa,∃bK:Env,dv=.exit 0/\dw=af.mk bK [] .none aq/\cN [] bK/\R (.ret (.int .i64 (.negSucc 0)) aq))\/(∃bL:Nat,∃ak:aa,∃bQ:Env,dv=.ret/\dw=af.mk bQ [] .none ak/\cN [(4,.int .i64 (.ofNat bL))] bQ/\R (.ret (.int .i64 (.ofNat bL)) ak))))):
  R (Y (m+1) (.fn 115) [v,.fn f [] caps] h):=
 eM (intr:=cj) [(4000,.gr [0,1,7,8] [(.exit 0,[]),(.ret,[(4,.n .i64)])])] [(0,.o v),(1,.o (.fn f [] caps))] Tryz.func115 (by kernel_rfl) (by kernel_rfl) (by kernel_rfl) rfl (Eq.mp (by kernel_rfl) H)
theorem WL(call:aE->List J->aa->ao)(b:Nat)(off:Nat)(N:Nat)(i:Nat)(f:Nat)(caps:List J)(aH:cE)(h:aa){Q:bA->af->Prop}(H:(i<N->i<N/\∃v1:J,av h b (off+i*1)=some v1/\∃a8:Bool,∃aq:aa,call (.fn f) (v1::caps) h=.ret (.bool a8) aq/\(a8=true->Q .ret (af.mk [(0,.slice b off N aH),(1,.fn f [] caps),(4,.int .i64 (.ofNat i)),(7,.int .i64 (.ofNat N)),(8,.int .i64 (.ofNat i))] [] .none aq))/\(a8=false->i+1<9223372036854775808/\Q .nrm (af.mk [(0,.slice b off N aH),(1,.fn f [] caps),(7,.int .i64 (.ofNat N)),(8,.int .i64 (.ofNat (i+1)))] [] .none aq)))/\(¬i<N->Q (.exit 0) (af.mk [(0,.slice b off N aH),(1,.fn f [] caps),(7,.int .i64 (.ofNat N)),(8,.int .i64 (.ofNat i))] [] .none h))):
  bz Tryz.prog Tryz.f115 call [1,0,1,0,0] ⟨[(0,.slice b off N aH),(1,.fn f [] caps),(7,.int .i64 (.ofNat N)),(8,.int .i64 (.ofNat i))],[],.none,h⟩ Q:=
 hz [(15,.cI .o)] [0,1,4,7,8] [(0,.v (.slice b off N aH)),(1,.o (.fn f [] caps)),(7,.v (.int .i64 (.ofNat N))),(8,.v (.int .i64 (.ofNat i)))] rfl (Eq.mp (by kernel_rfl) H)
theorem WM(call:aE->List J->aa->ao)(N:Nat)(i:Nat)(f:Nat)(caps:List J)(v:J)(h:aa){Q:bA->af->Prop}(H:¬i<N/\Q (.exit 0) (af.mk [] [] .none h)):
  bz Tryz.prog Tryz.f115 call [1,0,1,0,0] ⟨[(0,v),(1,.fn f [] caps),(7,.int .i64 (.ofNat N)),(8,.int .i64 (.ofNat i))],[],.none,h⟩ Q:=
 hz [(1009,.f)] [] [(0,.o v),(1,.o (.fn f [] caps)),(7,.v (.int .i64 (.ofNat N))),(8,.v (.int .i64 (.ofNat i)))] rfl (Eq.mp (by kernel_rfl) H)
theorem WN(m:Nat)(v:J)(f:Nat)(caps:List J)(h:aa){R:ao->Prop}(H:∃a1:Nat,cq Tryz.prog h 49 v=some (.int .i64 (.ofNat a1))/\(1<=a1/\a1<9223372036854775808)/\bz Tryz.prog Tryz.f124 (Y m) [1,0,1,0] (af.mk [(0,v),(1,.fn f [] caps),(5,.int .i64 (.ofNat (a1-1)))] [] .none h) (λdv dw=>((∃aq:aa,∃bK:Env,dv=.exit 0/\dw=af.mk bK [] .none aq/\cN [] bK/\R (.ret (.bool true) aq))\/(∃ak:aa,∃bQ:Env,dv=.ret/\dw=af.mk bQ [] .none ak/\cN [(4,.bool false)] bQ/\R (.ret (.bool false) ak))))):
  R (Y (m+1) (.fn 124) [v,.fn f [] caps] h):=
 eM (intr:=cj) [(4000,.gr [0,1,5] [(.exit 0,[]),(.ret,[(4,.is (.bool false))])])] [(0,.o v),(1,.o (.fn f [] caps))] Tryz.func124 (by kernel_rfl) (by kernel_rfl) (by kernel_rfl) rfl (Eq.mp (by kernel_rfl) H)
theorem WO(m:Nat)(v:J)(f:Nat)(caps:List J)(h:aa){R:ao->Prop}(H:∃a1:Nat,cq Tryz.prog h 49 v=some (.int .i64 (.ofNat a1))/\∃ff:Int,arith .sub .i64 (.ofNat a1) (.ofNat 1)=some (.int .i64 ff)/\bz Tryz.prog Tryz.f124 (Y m) [1,0,1,0] (af.mk [(0,v),(1,.fn f [] caps),(5,.int .i64 ff)] [] .none h) (λdv dw=>∃aq:aa,∃bK:Env,dv=.exit 0/\dw=af.mk bK [] .none aq/\cN [] bK/\R (.ret (.bool true) aq))):
  R (Y (m+1) (.fn 124) [v,.fn f [] caps] h):=
 eM (intr:=cj) [(8,.cI (.z .i64)),(4000,.gr [0,1,5] [(.exit 0,[])])] [(0,.o v),(1,.o (.fn f [] caps))] Tryz.func124 (by kernel_rfl) (by kernel_rfl) (by kernel_rfl) rfl (Eq.mp (by kernel_rfl) H)
theorem WQ(call:aE->List J->aa->ao)(b:Nat)(off:Nat)(N:Nat)(i:Nat)(f:Nat)(caps:List J)(aH:cE)(h:aa){Q:bA->af->Prop}(H:(0<i->i<N/\∃v1:J,av (h.room 12) b (off+i*1)=some v1/\(1<=i/\i<9223372036854775808)/\i-1<N/\∃v2:J,av (h.room 12) b (off+(i-1)*1)=some v2/\∃ff:Int,∃aq:aa,call (.fn f) (v1::v2::caps) (h.room 12)=.ret (.int .i64 ff) aq/\J.sound (.fn f [] caps)=true/\J.sound v1=true/\J.sound v2=true/\(br ff (.ofNat 0)=true->Q .ret (af.mk [(0,.slice b off N aH),(1,.fn f [] caps),(4,.bool false),(5,.int .i64 (.ofNat i))] [] .none aq))/\(br ff (.ofNat 0)=false->(1<=i/\i<9223372036854775808)/\Q .nrm (af.mk [(0,.slice b off N aH),(1,.fn f [] caps),(5,.int .i64 (.ofNat (i-1)))] [] .none aq)))/\(¬0<i->Q (.exit 0) (af.mk [(0,.slice b off N aH),(1,.fn f [] caps),(5,.int .i64 (.ofNat i))] [] .none h))):
  bz Tryz.prog Tryz.f124 call [1,0,1,0,0] ⟨[(0,.slice b off N aH),(1,.fn f [] caps),(5,.int .i64 (.ofNat i))],[],.none,h⟩ Q:=
 hz [(17,.cI .o),(22,.cI .o),(23,.cI (.z .i64))] [0,1,4,5] [(0,.v (.slice b off N aH)),(1,.o (.fn f [] caps)),(5,.v (.int .i64 (.ofNat i)))] rfl (Eq.mp (by kernel_rfl) H)
theorem WR(call:aE->List J->aa->ao)(v:J)(f:Nat)(caps:List J)(h:aa){Q:bA->af->Prop}(H:br (.ofNat 0) (.negSucc 0)=false/\Q (.exit 0) (af.mk [] [] .none h)):
  bz Tryz.prog Tryz.f124 call [1,0,1,0,0] ⟨[(0,v),(1,.fn f [] caps),(5,.int .i64 (.negSucc 0))],[],.none,h⟩ Q:=
 hz [(1010,.f)] [] [(0,.o v),(1,.o (.fn f [] caps)),(5,.v (.int .i64 (.negSucc 0)))] rfl (Eq.mp (by kernel_rfl) H)
theorem WS(m:Nat)(x:J)(y:J)(a:Nat)(f:Nat)(caps:List J)(h:aa){R:ao->Prop}(H:av (h.room 7) a 0=some (.fn f [] caps)/\∃s1:List UInt8,∃aq:aa,(Y m) (.fn f) (x::caps) (h.room 7)=.ret (.str s1) aq/\av aq a 0=some (.fn f [] caps)/\∃s2:List UInt8,∃ak:aa,(Y m) (.fn f) (y::caps) aq=.ret (.str s2) ak/\J.sound (.fn f [] caps)=true/\J.sound x=true/\J.sound (.fn f [] caps)=true/\av (h.room 7) a 0=some (.fn f [] caps)/\J.sound y=true/\(en s1 s2=true->R (.ret (.int .i64 (.negSucc 0)) ak))/\(en s1 s2=false->R (.ret (.int .i64 (.ofNat 1)) ak))):
  R (Y (m+1) (.fn 125) [x,y,.ptr a 0] h):=
 eM (intr:=cj) [(6,.cI (.io (.fn f [] caps))),(9,.cI (.io (.fn f [] caps)))] [(0,.o x),(1,.o y),(2,.v (.ptr a 0))] Tryz.func125 (by kernel_rfl) (by kernel_rfl) (by kernel_rfl) rfl (Eq.mp (by kernel_rfl) H)
theorem WT(m:Nat)(x:J)(y:J)(a:Nat)(f:Nat)(caps:List J)(h:aa){R:ao->Prop}(H:av (h.room 8) a 0=some (.fn f [] caps)/\∃s1:List UInt8,∃aq:aa,(Y m) (.fn f) (x::caps) (h.room 8)=.ret (.str s1) aq/\av aq a 0=some (.fn f [] caps)/\∃s2:List UInt8,∃ak:aa,(Y m) (.fn f) (y::caps) aq=.ret (.str s2) ak/\J.sound (.fn f [] caps)=true/\J.sound x=true/\J.sound (.fn f [] caps)=true/\av (h.room 8) a 0=some (.fn f [] caps)/\J.sound y=true/\R (.ret (.bool (cF s1 s2)) ak)):
  R (Y (m+1) (.fn 128) [x,y,.ptr a 0] h):=
 eM (intr:=cj) [(6,.cI (.io (.fn f [] caps))),(9,.cI (.io (.fn f [] caps)))] [(0,.o x),(1,.o y),(2,.v (.ptr a 0))] Tryz.func128 (by kernel_rfl) (by kernel_rfl) (by kernel_rfl) rfl (Eq.mp (by kernel_rfl) H)
theorem LN(m:Nat)(v:J)(f:Nat)(caps:List J)(h:aa){R:ao->Prop}(H:∃a1:Nat,cq Tryz.prog h 49 v=some (.int .i64 (.ofNat a1))/\(a1<2->R (.ret v h))/\(¬a1<2->bz Tryz.prog Tryz.f126 (Y m) [1,1,0,1,0] (af.mk [(0,v),(1,.fn f [] caps),(5,.int .i64 (.ofNat 1))] [] .none h) (λdv dw=>((∃v1:J,∃aq:aa,∃bK:Env,dv=.exit 0/\dw=af.mk bK [] .none aq/\cN [(0,v1)] bK/\R (.ret v1 aq))\/(∃v2:J,∃ak:aa,∃bQ:Env,dv=.ret/\dw=af.mk bQ [] .none ak/\cN [(4,v2)] bQ/\R (.ret v2 ak)))))):
  R (Y (m+1) (.fn 126) [v,.fn f [] caps] h):=
 eM (intr:=cj) [(4000,.gr [0,1,5] [(.exit 0,[(0,.o)]),(.ret,[(4,.o)])])] [(0,.o v),(1,.o (.fn f [] caps))] Tryz.func126 (by kernel_rfl) (by kernel_rfl) (by kernel_rfl) rfl (Eq.mp (by kernel_rfl) H)
theorem WU(call:aE->List J->aa->ao)(b:Nat)(N:Nat)(k:Nat)(f:Nat)(caps:List J)(h:aa){Q:bA->af->Prop}(H:(k<N->k<N/\∃v1:J,av (h.room 11) b (0+k*1)=some v1/\(1<=k/\k<9223372036854775808)/\k-1<N/\∃v2:J,av (h.room 11) b (0+(k-1)*1)=some v2/\∃a8:Bool,∃aq:aa,call (.fn f) (v1::v2::caps) (h.room 11)=.ret (.bool a8) aq/\J.sound (.fn f [] caps)=true/\J.sound v1=true/\J.sound v2=true/\(a8=true->∃a1:Nat,∃bL:Nat,∃cm:Nat,∃c1:cE,d_ Tryz.prog aq 49 (.slice b 0 N (.a5 1)) (some (.int .i64 (.ofNat k))) none none=some (.slice a1 bL cm c1)/\bz Tryz.prog Tryz.f126 call [1,1,0,1,0,0,1,0,0,1,0,1,0,1,0] (af.mk [(0,.slice b 0 N (.a5 1)),(1,.fn f [] caps),(5,.int .i64 (.ofNat k)),(6,.slice a1 bL cm c1),(7,.int .i64 (.ofNat 1))] [] .none aq) (λdv dw=>∃cn:Nat,∃cz:Nat,∃cV:Nat,∃c2:cE,∃ej:Nat,∃ak:aa,∃bK:Env,dv=.exit 2/\dw=af.mk bK [] .none ak/\cN [(0,.slice cn cz cV c2),(5,.int .i64 (.ofNat ej))] bK/\∃fC:Nat,∃fZ:Nat,∃eI:Nat,∃c3:cE,d_ Tryz.prog ak 49 (.slice cn cz cV c2) (some (.int .i64 (.ofNat ej))) none none=some (.slice fC fZ eI c3)/\∃aQ:aa,pB Tryz.prog ak 49 (.slice fC fZ eI c3)=some (.aL [],aQ)/\∃dS:J,d_ Tryz.prog aQ 49 (.slice cn cz cV c2) none (some (.int .i64 (.ofNat ej))) none=some dS/\Q .ret (af.mk [(0,.slice cn cz cV c2),(4,dS),(5,.int .i64 (.ofNat ej))] [] .none aQ)))/\(a8=false->k+1<9223372036854775808/\Q .nrm (af.mk [(0,.slice b 0 N (.a5 1)),(1,.fn f [] caps),(5,.int .i64 (.ofNat (k+1)))] [] .none aq)))/\(¬k<N->Q (.exit 0) (af.mk [(0,.slice b 0 N (.a5 1)),(1,.fn f [] caps),(5,.int .i64 (.ofNat k))] [] .none h))):
  bz Tryz.prog Tryz.f126 call [1,1,0,1,0,0] ⟨[(0,.slice b 0 N (.a5 1)),(1,.fn f [] caps),(5,.int .i64 (.ofNat k))],[],.none,h⟩ Q:=
 hz [(22,.cI .o),(27,.cI .o),(31,.cI .iv),(4002,.gr [0,1,5,6,7] [(.exit 2,[(0,.iv),(5,.n .i64)])]),(61,.cI .iv),(64,.cI .o)] [0,1,4,5] [(0,.v (.slice b 0 N (.a5 1))),(1,.o (.fn f [] caps)),(5,.v (.int .i64 (.ofNat k)))] rfl (Eq.mp (by kernel_rfl) H)
theorem WV(call:aE->List J->aa->ao)(b:Nat)(N:Nat)(k:Nat)(f:Nat)(dR:Nat)(M:Nat)(j:Nat)(caps:List J)(h:aa){Q:bA->af->Prop}(H:(j<M->j<M/\∃v1:J,av (h.room 12) b (dR+j*1)=some v1/\(1<=j/\j<9223372036854775808)/\j-1<M/\∃v2:J,av (h.room 12) b (dR+(j-1)*1)=some v2/\∃a8:Bool,∃aq:aa,call (.fn f) (v1::v2::caps) (h.room 12)=.ret (.bool a8) aq/\J.sound (.fn f [] caps)=true/\J.sound v1=true/\J.sound v2=true/\(a8=true->j+1<9223372036854775808/\Q .nrm (af.mk [(0,.slice b 0 N (.a5 1)),(1,.fn f [] caps),(5,.int .i64 (.ofNat k)),(6,.slice b dR M (.a5 1)),(7,.int .i64 (.ofNat (j+1)))] [] .none aq))/\(a8=false->j<M/\∃a1:Nat,av aq b (dR+j*1)=some (.ptr a1 0)/\k<N/\∃ak:aa,aC.storeCells aq b (0+k*1) [.ptr a1 0]=some ak/\k+1<9223372036854775808/\j+1<9223372036854775808/\Q .nrm (af.mk [(0,.slice b 0 N (.a5 1)),(1,.fn f [] caps),(5,.int .i64 (.ofNat (k+1))),(6,.slice b dR M (.a5 1)),(7,.int .i64 (.ofNat (j+1)))] [] .none ak)))/\(¬j<M->Q (.exit 2) (af.mk [(0,.slice b 0 N (.a5 1)),(1,.fn f [] caps),(5,.int .i64 (.ofNat k)),(6,.slice b dR M (.a5 1)),(7,.int .i64 (.ofNat j))] [] .none h))):
  bz Tryz.prog Tryz.f126 call [1,1,0,1,0,0,1,0,0,1,0,1,0,1,0,0] ⟨[(0,.slice b 0 N (.a5 1)),(1,.fn f [] caps),(5,.int .i64 (.ofNat k)),(6,.slice b dR M (.a5 1)),(7,.int .i64 (.ofNat j))],[],.none,h⟩ Q:=
 hz [(42,.cI .o),(47,.cI .o)] [0,1,5,6,7] [(0,.v (.slice b 0 N (.a5 1))),(1,.o (.fn f [] caps)),(5,.v (.int .i64 (.ofNat k))),(6,.v (.slice b dR M (.a5 1))),(7,.v (.int .i64 (.ofNat j)))] rfl (Eq.mp (by kernel_rfl) H)
theorem WW(m:Nat)(b:Nat)(off:Nat)(N:Nat)(aH:cE)(h:aa){R:ao->Prop}(H:∃v1:J,∃aq:aa,gf Tryz.prog (aa.push h (.cells [] 47 .own 0 0)) 49 (some 49) (.slice h.n 0 0 (.exact 0)) (.slice b off N aH)=some (v1,aq)/\R (.ret v1 aq)):
  R (Y (m+1) (.fn 127) [.slice b off N aH] h):=
 eM (intr:=cj) [(7,.cI .o)] [(0,.v (.slice b off N aH))] Tryz.func127 (by kernel_rfl) (by kernel_rfl) (by kernel_rfl) rfl (Eq.mp (by kernel_rfl) H)
theorem WX(m:Nat)(h:aa){R:ao->Prop}(H:R (.ret .aA h)):
  R (Y (m+1) (.fn 127) [.aA] h):=
 eM (intr:=cj) [] [(0,.v .aA)] Tryz.func127 (by kernel_rfl) (by kernel_rfl) (by kernel_rfl) rfl (Eq.mp (by kernel_rfl) H)
theorem WY(m:Nat)(v:J)(f:Nat)(caps:List J)(h:aa){R:ao->Prop}(H:J.cu (.fn f [] caps)=true/\∃a8:Bool,∃aq:aa,(Y m) (.fn 124) [v,.fn 125 [] [.ptr h.n 0]] (aa.push h (.cells [.fn f [] caps] 145 .own 0 0))=.ret (.bool a8) aq/\(a8=true->∃v1:J,∃ak:aa,(Y m) (.fn 127) [v] aq=.ret v1 ak/\∃v2:J,∃aQ:aa,(Y m) (.fn 126) [v1,.fn 128 [] [.ptr h.n 0]] ak=.ret v2 aQ/\∃a1:Nat,cq Tryz.prog aQ 49 v2=some (.int .i64 (.ofNat a1))/\∃bL:Nat,cq Tryz.prog aQ 49 v=some (.int .i64 (.ofNat bL))/\R (.ret (.bool (ba (.ofNat a1) (.ofNat bL))) aQ))/\(a8=false->R (.ret (.bool false) aq))):
  R (Y (m+1) (.fn 111) [v,.fn f [] caps] h):=
 eM (intr:=cj) [] [(0,.o v),(1,.o (.fn f [] caps))] Tryz.func111 (by kernel_rfl) (by kernel_rfl) (by kernel_rfl) rfl (Eq.mp (by kernel_rfl) H)
theorem WZ(m:Nat)(v:J)(h:aa){R:ao->Prop}(H:∃a8:Bool,∃aq:aa,(Y m) (.fn 90) [v] h=.ret (.bool a8) aq/\R (.ret (.bool !a8) aq)):
  R (Y (m+1) (.fn 102) [v] h):=
 eM (intr:=cj) [] [(0,.o v)] Tryz.func102 (by kernel_rfl) (by kernel_rfl) (by kernel_rfl) rfl (Eq.mp (by kernel_rfl) H)
theorem W0(m:Nat)(s:List UInt8)(h:aa){R:ao->Prop}(H:∃a8:Bool,∃aq:aa,(Y m) (.fn 107) [.str s] h=.ret (.bool a8) aq/\R (.ret (.bool !a8) aq)):
  R (Y (m+1) (.fn 106) [.str s] h):=
 eM (intr:=cj) [] [(0,.v (.str s))] Tryz.func106 (by kernel_rfl) (by kernel_rfl) (by kernel_rfl) rfl (Eq.mp (by kernel_rfl) H)
theorem W1(m:Nat)(s:List UInt8)(h:aa){R:ao->Prop}(H:R (.ret (.str s) h)):
  R (Y (m+1) (.fn 109) [.str s] h):=
 eM (intr:=cj) [] [(0,.v (.str s))] Tryz.func109 (by kernel_rfl) (by kernel_rfl) (by kernel_rfl) rfl (Eq.mp (by kernel_rfl) H)
theorem W2(m:Nat)(r:Nat)(h:aa){R:ao->Prop}(H:∃a1:Nat,av h r (0+0)=some (.int .i64 (.ofNat a1))/\(a1=9->R (.ret (.bool true) h))/\(¬a1=9->∃bL:Nat,av h r (0+0)=some (.int .i64 (.ofNat bL))/\R (.ret (.bool (ba (.ofNat bL) (.ofNat 1))) h))):
  R (Y (m+1) (.fn 110) [.ptr r 0] h):=
 eM (intr:=cj) [] [(0,.v (.ptr r 0))] Tryz.func110 (by kernel_rfl) (by kernel_rfl) (by kernel_rfl) rfl (Eq.mp (by kernel_rfl) H)
theorem W3(m:Nat)(r:Nat)(h:aa){R:ao->Prop}(H:∃a1:Nat,∃aq:aa,(Y m) (.fn 70) [.ptr r 0] h=.ret (.int .i64 (.ofNat a1)) aq/\(60<a1->R (.ret (.int .i64 (.ofNat 3)) aq))/\(¬60<a1->∃a8:Bool,∃ak:aa,(Y m) (.fn 90) [.ptr r 0] aq=.ret (.bool a8) ak/\(a8=true->R (.ret (.int .i64 (.ofNat 0)) ak))/\(a8=false->R (.ret (.int .i64 (.ofNat 2)) ak)))):
  R (Y (m+1) (.fn 76) [.ptr r 0] h):=
 eM (intr:=cj) [] [(0,.v (.ptr r 0))] Tryz.func76 (by kernel_rfl) (by kernel_rfl) (by kernel_rfl) rfl (Eq.mp (by kernel_rfl) H)
theorem W4(m:Nat)(h:aa){R:ao->Prop}(H:R (.ret (.int .i64 (.ofNat 1)) h)):
  R (Y (m+1) (.fn 76) [.bb] h):=
 eM (intr:=cj) [] [(0,.v .bb)] Tryz.func76 (by kernel_rfl) (by kernel_rfl) (by kernel_rfl) rfl (Eq.mp (by kernel_rfl) H)
theorem sI{n:Nat}{q:Nat->Bool}(h:∀j,j<n->q j=false):(List.range n).any q=false:=by
 rw[List.any_eq_false];intro j aV;rw[h j (by simpa using aV)];simp
theorem wO{n i:Nat}{q:Nat->Bool}(hi:i<n)(h:q i=true):(List.range n).any q=true:=List.any_eq_true.2 ⟨i,by simpa using hi,h⟩
theorem m1{f:Nat}{caps:List J}(h:kD caps=true):J.sound (.fn f [] caps)=true:=by simp[J.sound,kD,h]
theorem LO(z:J)(bj:z.cu=true)(L:List J)(k:Nat)(ax:k<L.length):eP k [z] L=some (L.set k z):=by
 have h:=Bw (L.take k) [z] (L.drop k) (by simp[bj]) (by simp;omega)
 rw[List.length_take,Nat.min_eq_left (by omega),List.take_append_drop] at h
 rw[h,List.drop_drop]
 congr 1
 rw[List.set_eq_take_append_cons_drop,if_pos ax]
 rfl
theorem LP(xs:List J)(ad:xs.all J.cu=true)(L:List J)(k:Nat)(ax:k+xs.length<=L.length):∃sJ,eP k xs L=some sJ/\sJ.length=L.length:=by
 have h:=Bw (L.take k) xs (L.drop k) ad (by simp;omega)
 rw[List.length_take,Nat.min_eq_left (by omega),List.take_append_drop] at h
 exact⟨_,h,by simp;omega⟩
theorem W5:∀(l cs:List J) (o:Nat),(∀i (hi:i<l.length),nth (o+i) cs=some l[i])->takeN l.length (jB o cs)=some l:=by
 have base:∀(l cs:List J),(∀i (hi:i<l.length),nth i cs=some l[i])->takeN l.length cs=some l:=by
  intro l
  induction l with
  |nil=>intro cs _;rfl
  |cons a l bt=>
   intro cs h
   cases cs with
   |nil=>have:=h 0 (by simp);simp[nth] at this
   |cons c cs=>
    have az:=h 0 (by simp)
    simp only[nth,List.getElem_cons_zero,Option.some.injEq] at az
    subst az
    have:=bt cs (λi hi=>by have:=h (i+1) (by simpa using hi);simpa[nth] using this)
    simp only[List.length_cons,takeN,this]
 intro l cs o
 induction o generalizing cs with
 |zero=>intro h;exact base l cs (λi hi=>by have:=h i hi;rwa [Nat.zero_add] at this)
 |succ o bt=>
  intro h
  cases cs with
  |nil=>
   cases l with
   |nil=>rfl
   |cons a l=>have:=h 0 (by simp);simp[nth] at this
  |cons c cs=>
   refine bt cs (λi hi=>?_)
   have:=h i hi
   rw[show o+1+i=(o+i)+1 by omega] at this
   simpa[nth] using this
theorem da.src{B:Nat}{h:aa}{b off:Nat}{aH:cE}{vs:List J}(aD:∀i (hi:i<vs.length),av h b (off+i*1)=some vs[i])(az:0<vs.length)(ai:aH≠ .dead):ha h 1 (.slice b off vs.length aH)=some (vs.length,vs):=by
 have ag:∃cs e k lo up,h.get b=some (.cells cs e k lo up):=by
  have:=aD 0 az
  unfold av at this
  split at this
  · rename_i cs e k lo up au
    exact⟨cs,e,k,lo,up,au⟩
  · cases this
 obtain⟨cs,e,k,lo,up,au⟩:=ag
 have iG:aC.loadCells h b off (vs.length*1)=some vs:=by
  refine ie au ?_
  rw[Nat.mul_one]
  refine W5 vs cs off (λi hi=>?_)
  have:=aD i hi
  simp only[av,au,Nat.mul_one] at this
  exact this
 cases aH with
 |dead=>exact absurd rfl ai
 |exact c=>simp only[ha,iG]
 |a5 c=>simp only[ha,iG]
def iz(h:aa)(b:Nat)(el:Nat)(L:List J):Prop:=h.get b=some (.cells L el .a5 0 0)
theorem iz.ql{h:aa}{b el:Nat}{L:List J}(a7:iz h b el L){i o:Nat}(hi:i<L.length)(e:o=i):av h b o=some L[i]:=by
 subst e;exact EU a7 (List.getElem?_eq_getElem hi)
theorem W6(m:Nat){B:Nat}{h:aa}{v:J}{vs:List J}(f:Nat)(caps:List J)(q:Nat->Bool)(aJ:da B h v vs)(hlen:vs.length<=90000)(hf:∀i (hi:i<vs.length) x,Ext B h x->cc B x (.bool (q i)) (Y m (.fn f) (vs[i]::caps) x)):
  cc B h (.bool ((List.range vs.length).any q)) (Y (m+2) (.fn 105) [v,.fn f [] caps] h):=by
 refine Wt (m+1) v f caps h ?_
 have key:∃i g,Y (m+1) (.fn 117) [v,.fn f [] caps] h=.ret (.int .i64 i) g/\dq (Int.ofNat 0) i=(List.range vs.length).any q/\Ext B h g:=by
  refine Wu m v f caps h (R:=λx=>∃i g,x=.ret (.int .i64 i) g/\dq (Int.ofNat 0) i=(List.range vs.length).any q/\Ext B h g) ⟨vs.length,aJ.len (t:=48) (e:=9) (by kernel_rfl),?_⟩
  refine bz.loop (by kernel_rfl) (λk st=>∃i x Γ,st=⟨Γ,[],.none,x⟩/\cN [(0,v),(1,.fn f [] caps),(7,.int .i64 (Int.ofNat vs.length)),(8,.int .i64 (Int.ofNat i))] Γ/\vs.length-i=k/\i<=vs.length/\Ext B h x/\∀j,j<i->q j=false) ?_ vs.length _ (by omega) ⟨0,h,_,rfl,⟨rfl,rfl,rfl,rfl,trivial⟩,by omega,by omega,Ext.refl _ _,λj aV=>by omega⟩
  rintro k st ⟨i,x,Γ,rfl,cS,ax,hi,ad,aS⟩
  rcases aJ with⟨rfl,rfl⟩|⟨b,off,aH,rfl,ag,aD,aU,aj⟩
  · exact bz.pre (Ww (Y m) _ i f caps _ x ⟨by simp,.inl ⟨x,_,rfl,rfl,trivial,_,x,rfl,rfl,ad⟩⟩) cS rfl rfl rfl
  · refine bz.pre (Wv (Y m) b off _ i f caps aH x ⟨λab=>⟨ab,_,o7 ad ag (aD i ab),?_⟩,λab=>?_⟩) cS rfl rfl rfl
    · obtain⟨g,c1,bw⟩:=hf i ab x ad
      have au:=ad.trans (Nat.le_refl _) bw
      refine⟨q i,g,c1,λai=>?_,λai=>?_⟩
      · exact .inr ⟨i,g,_,rfl,rfl,⟨rfl,trivial⟩,_,g,rfl,by rw[wO ab ai];exact iE (by omega),au⟩
      · refine⟨by omega,_,(by show _<k;omega),i+1,g,_,rfl,⟨rfl,rfl,rfl,rfl,trivial⟩,rfl,by omega,au,λj aV=>?_⟩
        by_cases e:j=i
        · rw[e];exact ai
        · exact aS j (by omega)
    · exact .inl ⟨x,_,rfl,rfl,trivial,_,x,rfl,by rw[sI (λj aV=>aS j (by omega))];rfl,ad⟩
 obtain⟨i,g,c1,aF,bw⟩:=key
 exact⟨i,g,c1,cc.of (eZ aF.symm) bw⟩
theorem W7(m:Nat){B:Nat}{h:aa}{v:J}{vs:List J}(f:Nat)(caps:List J)(q:Nat->Nat->Bool)(aJ:da B h v vs)(hlen:vs.length<=90000)(ic:kD caps=true)(fF:∀i (hi:i<vs.length),J.sound vs[i]=true)(hf:∀i j (hi:i<vs.length) (aV:j<vs.length) x,Ext B h x->cc B x (.int .i64 (if q i j then Int.negSucc 0 else Int.ofNat 1)) (Y m (.fn f) (vs[i]::vs[j]::caps) x)):
  cc B h (.bool (!(List.range vs.length).any (λi=>decide (0<i)&&q i (i-1)))) (Y (m+1) (.fn 119) [v,.fn f [] caps] h):=by
 by_cases az:vs.length=0
 · refine Wy m v f caps h ⟨0,by rw[<-az];exact aJ.len (t:=48) (e:=9) (by kernel_rfl),Int.negSucc 0,by kernel_rfl,?_⟩
   refine bz.loop (by kernel_rfl) (λk st=>∃Γ,st=⟨Γ,[],.none,h⟩/\cN [(0,v),(1,.fn f [] caps),(5,.int .i64 (Int.negSucc 0))] Γ) ?_ 1 _ (by omega) ⟨_,rfl,rfl,rfl,rfl,trivial⟩
   rintro k st ⟨Γ,rfl,cS⟩
   exact bz.pre (WA (Y m) v f caps h ⟨rfl,h,_,rfl,rfl,trivial,cc.of (eZ (by rw[az];rfl)) (Ext.refl _ _)⟩) cS rfl rfl rfl
 · refine Wx m v f caps h ⟨vs.length,aJ.len (t:=48) (e:=9) (by kernel_rfl),⟨by omega,by omega⟩,?_⟩
   refine bz.loop (by kernel_rfl) (λk st=>∃i x Γ,st=⟨Γ,[],.none,x⟩/\cN [(0,v),(1,.fn f [] caps),(5,.int .i64 (Int.ofNat i))] Γ/\i=k/\i<vs.length/\Ext B h x/\∀j,i<j->j<vs.length->q j (j-1)=false) ?_ (vs.length-1) _ (by omega) ⟨vs.length-1,h,_,rfl,⟨rfl,rfl,rfl,trivial⟩,by omega,by omega,Ext.refl _ _,λj aV pL=>by omega⟩
   rintro k st ⟨i,x,Γ,rfl,cS,ax,hi,ad,aS⟩
   rcases aJ with⟨rfl,rfl⟩|⟨b,off,aH,rfl,ag,aD,aU,aj⟩
   · simp at az
   · refine bz.pre (Wz (Y m) b off _ i f caps aH x ⟨λab=>?_,λab=>?_⟩) cS rfl rfl rfl
     · have al:=ad.hW (k:=12)
       obtain⟨g,c1,bw⟩:=hf i (i-1) hi (by omega) _ al
       have au:=al.trans (Nat.le_refl _) bw
       refine⟨hi,_,o7 al ag (aD i hi),⟨by omega,by omega⟩,by omega,_,o7 al ag (aD (i-1) (by omega)),_,g,c1,m1 ic,fF i hi,fF (i-1) (by omega),λai=>?_,λai=>?_⟩
       · have uL:q i (i-1)=true:=by
           cases qV:q i (i-1) with
           |true=>rfl
           |false=>rw[qV] at ai;exact absurd ai (by decide)
         exact .inr ⟨g,_,rfl,rfl,⟨rfl,trivial⟩,cc.of (eZ (by rw[wO hi (by simp[ab,uL])];rfl)) au⟩
       · have uL:q i (i-1)=false:=by
           cases qV:q i (i-1) with
           |false=>rfl
           |true=>rw[qV] at ai;exact absurd ai (by decide)
         refine⟨⟨by omega,by omega⟩,_,(by show _<k;omega),i-1,g,_,rfl,⟨rfl,rfl,rfl,trivial⟩,rfl,by omega,au,λj aV pL=>?_⟩
         by_cases e:j=i
         · rw[e];exact uL
         · exact aS j (by omega) pL
     · refine .inl ⟨x,_,rfl,rfl,trivial,cc.of (eZ ?_) ad⟩
       rw[sI (λj aV=>?_)];rfl
       by_cases e:0<j
       · rw[aS j (by omega) aV,Bool.and_false]
       · simp[e]
theorem LQ(m:Nat){B:Nat}{h:aa}{v:J}{vs:List J}(f:Nat)(caps:List J)(q:Nat->Bool)(aJ:da B h v vs)(hlen:vs.length<=90000)(hf:∀i (hi:i<vs.length) x,Ext B h x->cc B x (.bool (q i)) (Y m (.fn f) (vs[i]::caps) x)):
  cc B h (.bool ((List.range vs.length).any q)) (Y (m+2) (.fn 103) [v,.fn f [] caps] h):=by
 refine WJ (m+1) v f caps h ?_
 have key:∃i g,Y (m+1) (.fn 115) [v,.fn f [] caps] h=.ret (.int .i64 i) g/\dq (Int.ofNat 0) i=(List.range vs.length).any q/\Ext B h g:=by
  refine WK m v f caps h (R:=λx=>∃i g,x=.ret (.int .i64 i) g/\dq (Int.ofNat 0) i=(List.range vs.length).any q/\Ext B h g) ⟨vs.length,aJ.len (t:=49) (e:=47) (by kernel_rfl),?_⟩
  refine bz.loop (by kernel_rfl) (λk st=>∃i x Γ,st=⟨Γ,[],.none,x⟩/\cN [(0,v),(1,.fn f [] caps),(7,.int .i64 (Int.ofNat vs.length)),(8,.int .i64 (Int.ofNat i))] Γ/\vs.length-i=k/\i<=vs.length/\Ext B h x/\∀j,j<i->q j=false) ?_ vs.length _ (by omega) ⟨0,h,_,rfl,⟨rfl,rfl,rfl,rfl,trivial⟩,by omega,by omega,Ext.refl _ _,λj aV=>by omega⟩
  rintro k st ⟨i,x,Γ,rfl,cS,ax,hi,ad,aS⟩
  rcases aJ with⟨rfl,rfl⟩|⟨b,off,aH,rfl,ag,aD,aU,aj⟩
  · exact bz.pre (WM (Y m) _ i f caps _ x ⟨by simp,.inl ⟨x,_,rfl,rfl,trivial,_,x,rfl,rfl,ad⟩⟩) cS rfl rfl rfl
  · refine bz.pre (WL (Y m) b off _ i f caps aH x ⟨λab=>⟨ab,_,o7 ad ag (aD i ab),?_⟩,λab=>?_⟩) cS rfl rfl rfl
    · obtain⟨g,c1,bw⟩:=hf i ab x ad
      have au:=ad.trans (Nat.le_refl _) bw
      refine⟨q i,g,c1,λai=>?_,λai=>?_⟩
      · exact .inr ⟨i,g,_,rfl,rfl,⟨rfl,trivial⟩,_,g,rfl,by rw[wO ab ai];exact iE (by omega),au⟩
      · refine⟨by omega,_,(by show _<k;omega),i+1,g,_,rfl,⟨rfl,rfl,rfl,rfl,trivial⟩,rfl,by omega,au,λj aV=>?_⟩
        by_cases e:j=i
        · rw[e];exact ai
        · exact aS j (by omega)
    · exact .inl ⟨x,_,rfl,rfl,trivial,_,x,rfl,by rw[sI (λj aV=>aS j (by omega))];rfl,ad⟩
 obtain⟨i,g,c1,aF,bw⟩:=key
 exact⟨i,g,c1,cc.of (eZ aF.symm) bw⟩
theorem W8(m:Nat){B:Nat}{h:aa}{v:J}{vs:List J}(f:Nat)(caps:List J)(q:Nat->Nat->Bool)(aJ:da B h v vs)(hlen:vs.length<=90000)(ic:kD caps=true)(fF:∀i (hi:i<vs.length),J.sound vs[i]=true)(hf:∀i j (hi:i<vs.length) (aV:j<vs.length) x,Ext B h x->cc B x (.int .i64 (if q i j then Int.negSucc 0 else Int.ofNat 1)) (Y m (.fn f) (vs[i]::vs[j]::caps) x)):
  cc B h (.bool (!(List.range vs.length).any (λi=>decide (0<i)&&q i (i-1)))) (Y (m+1) (.fn 124) [v,.fn f [] caps] h):=by
 by_cases az:vs.length=0
 · refine WO m v f caps h ⟨0,by rw[<-az];exact aJ.len (t:=49) (e:=47) (by kernel_rfl),Int.negSucc 0,by kernel_rfl,?_⟩
   refine bz.loop (by kernel_rfl) (λk st=>∃Γ,st=⟨Γ,[],.none,h⟩/\cN [(0,v),(1,.fn f [] caps),(5,.int .i64 (Int.negSucc 0))] Γ) ?_ 1 _ (by omega) ⟨_,rfl,rfl,rfl,rfl,trivial⟩
   rintro k st ⟨Γ,rfl,cS⟩
   exact bz.pre (WR (Y m) v f caps h ⟨rfl,h,_,rfl,rfl,trivial,cc.of (eZ (by rw[az];rfl)) (Ext.refl _ _)⟩) cS rfl rfl rfl
 · refine WN m v f caps h ⟨vs.length,aJ.len (t:=49) (e:=47) (by kernel_rfl),⟨by omega,by omega⟩,?_⟩
   refine bz.loop (by kernel_rfl) (λk st=>∃i x Γ,st=⟨Γ,[],.none,x⟩/\cN [(0,v),(1,.fn f [] caps),(5,.int .i64 (Int.ofNat i))] Γ/\i=k/\i<vs.length/\Ext B h x/\∀j,i<j->j<vs.length->q j (j-1)=false) ?_ (vs.length-1) _ (by omega) ⟨vs.length-1,h,_,rfl,⟨rfl,rfl,rfl,trivial⟩,by omega,by omega,Ext.refl _ _,λj aV pL=>by omega⟩
   rintro k st ⟨i,x,Γ,rfl,cS,ax,hi,ad,aS⟩
   rcases aJ with⟨rfl,rfl⟩|⟨b,off,aH,rfl,ag,aD,aU,aj⟩
   · simp at az
   · refine bz.pre (WQ (Y m) b off _ i f caps aH x ⟨λab=>?_,λab=>?_⟩) cS rfl rfl rfl
     · have al:=ad.hW (k:=12)
       obtain⟨g,c1,bw⟩:=hf i (i-1) hi (by omega) _ al
       have au:=al.trans (Nat.le_refl _) bw
       refine⟨hi,_,o7 al ag (aD i hi),⟨by omega,by omega⟩,by omega,_,o7 al ag (aD (i-1) (by omega)),_,g,c1,m1 ic,fF i hi,fF (i-1) (by omega),λai=>?_,λai=>?_⟩
       · have uL:q i (i-1)=true:=by
           cases qV:q i (i-1) with
           |true=>rfl
           |false=>rw[qV] at ai;exact absurd ai (by decide)
         exact .inr ⟨g,_,rfl,rfl,⟨rfl,trivial⟩,cc.of (eZ (by rw[wO hi (by simp[ab,uL])];rfl)) au⟩
       · have uL:q i (i-1)=false:=by
           cases qV:q i (i-1) with
           |false=>rfl
           |true=>rw[qV] at ai;exact absurd ai (by decide)
         refine⟨⟨by omega,by omega⟩,_,(by show _<k;omega),i-1,g,_,rfl,⟨rfl,rfl,rfl,trivial⟩,rfl,by omega,au,λj aV pL=>?_⟩
         by_cases e:j=i
         · rw[e];exact uL
         · exact aS j (by omega) pL
     · refine .inl ⟨x,_,rfl,rfl,trivial,cc.of (eZ ?_) ad⟩
       rw[sI (λj aV=>?_)];rfl
       by_cases e:0<j
       · rw[aS j (by omega) aV,Bool.and_false]
       · simp[e]
end Go.Proofs.cT
namespace Go.Proofs.cT
open Go aC Go.Proofs dD
set_option maxRecDepth 100000
set_option maxHeartbeats 1000000
theorem LR{n:Nat}(h:¬n<2):2<=n:=by omega
theorem B8{P:Program}{h:aa}{T E b n k:Nat}(hu:P.underlying T=some (.slice E))(hs:dQ P E=some 1)(az:0<k)(ax:k<n):d_ P h T (.slice b 0 n (.a5 1)) (some (.int .i64 (Int.ofNat k))) none none=some (.slice b (0+k*1) (n-k) (.a5 1)):=by
 have a8:Nat.ble n n=true:=by rw[Nat.ble_eq];omega
 have aW:Nat.ble k n=true:=by rw[Nat.ble_eq];omega
 have ds:Nat.blt k n=true:=by rw[Nat.blt_eq];exact ax
 have dc:¬k=0:=by omega
 simp only[d_,hu,hs,bounds,jM,gb,a8,aW,ds,if_true,if_neg dc]
theorem LS{P:Program}{h:aa}{T E b n k:Nat}(hu:P.underlying T=some (.slice E))(hs:dQ P E=some 1)(ax:k<=n):d_ P h T (.slice b 0 n (.a5 1)) none (some (.int .i64 (Int.ofNat k))) none=some (.slice b 0 k (.a5 1)):=by
 have a8:Nat.ble n n=true:=by rw[Nat.ble_eq];omega
 have aW:Nat.ble k n=true:=by rw[Nat.ble_eq];omega
 have ds:Nat.ble 0 k=true:=by rw[Nat.ble_eq];omega
 simp only[d_,hu,hs,bounds,jM,gb,a8,aW,ds,if_true,Nat.sub_zero]
theorem LU:∀a:bc,en a a=false
 |[]=>rfl
 |x::a=>by rw[BN,if_pos rfl];exact LU a
theorem LV:∀a b:bc,en a b=true->en b a=false
 |[],b,h=>by cases b<;>rfl
 |x::a,[],h=>by simp[en] at h
 |x::a,y::b,h=>by
  rw[BN] at h⊢
  by_cases e:x.toNat=y.toNat
  · rw[if_pos e] at h;rw[if_pos e.symm];exact LV a b h
  · rw[if_neg e] at h;rw[if_neg (λh=>e h.symm)]
    have:x.toNat<y.toNat:=by simpa using h
    simp;omega
theorem LW:∀a b:bc,en a b=false->en b a=false->a=b
 |[],[],_,_=>rfl
 |[],y::b,h,_=>by simp[en] at h
 |x::a,[],_,h=>by simp[en] at h
 |x::a,y::b,ab,ae=>by
  rw[BN] at ab ae
  by_cases e:x.toNat=y.toNat
  · rw[if_pos e] at ab;rw[if_pos e.symm] at ae
    rw[LW a b ab ae,show x=y from UInt8.toNat_inj.1 e]
  · rw[if_neg e] at ab;rw[if_neg (λh=>e h.symm)] at ae
    simp at ab ae;omega
theorem LX(a b:bc):en a b=(!en b a&&!cF b a):=by
 by_cases e:b=a
 · subst e;rw[LU,uf];rfl
 · have ag:cF b a=false:=by
     cases ad:cF b a with
     |false=>rfl
     |true=>exact absurd (by simpa[oR] using ad) e
   rw[ag]
   cases ab:en a b with
   |true=>rw[LV a b ab];rfl
   |false=>
    cases ae:en b a with
    |true=>rfl
    |false=>exact absurd (LW a b ab ae).symm e
def qm(w:Nat->bc)(n:Nat):Bool:=!(List.range n).any (λi=>decide (0<i)&&!en (w (i-1)) (w i))
theorem LY(w:Nat->bc)(n:Nat)(hs:(!(List.range n).any (λi=>decide (0<i)&&en (w i) (w (i-1))))=true):qm w n=(!(List.range n).any (λi=>decide (0<i)&&cF (w i) (w (i-1)))):=by
 unfold qm
 congr 1
 rw[Bool.not_eq_true',List.any_eq_false] at hs
 rw[Bool.eq_iff_iff,List.any_eq_true,List.any_eq_true]
 refine exists_congr λi=>and_congr_right λhi=>?_
 have:=hs i hi
 rw[LX (w (i-1)) (w i)]
 by_cases e:0<i
 · have aD:en (w i) (w (i-1))=false:=by simpa[e] using this
   rw[aD];simp[e]
 · simp[e]
theorem LZ(w:Nat->bc)(n:Nat)(hs:(!(List.range n).any (λi=>decide (0<i)&&en (w i) (w (i-1))))=false):qm w n=false:=by
 unfold qm
 rw[Bool.not_eq_false',List.any_eq_true] at hs⊢
 obtain⟨i,hi,aS⟩:=hs
 refine⟨i,hi,?_⟩
 rw[LX (w (i-1)) (w i)]
 simp only[Bool.and_eq_true] at aS⊢
 rw[aS.2];exact⟨aS.1,rfl⟩
def y9(L vs:List J):Prop:=∀i (hi:i<L.length),∃s,∃hs:s<vs.length,L[i]=vs[s]
theorem y9.set{L vs:List J}(h:y9 L vs)(k:Nat){s:Nat}(hs:s<vs.length):y9 (L.set k vs[s]) vs:=by
 intro i hi
 rw[List.getElem_set]
 split
 · exact⟨s,hs,rfl⟩
 · exact h i (by simpa using hi)
theorem L0{a:Bool}{n k:Nat}(h:a=decide (k=n)):ba (Int.ofNat k) (Int.ofNat n)=a:=by rw[rb,h]
theorem L1{E U:Nat}{h:aa}{v:J}{vs:List J}{a:Nat}(hu:Tryz.prog.underlying U=some (.slice E))(hE:pA Tryz.prog (some U)=true){i:TypeInfo}{z:J}(hi:Tryz.prog.info? E=some i)(bX:i.size=1)(n5:i.bytes<=1000)(bj:fq Tryz.prog E=some z)(jQ:z.cells.length=1)(aJ:ha h 1 v=some (vs.length,vs))(az:0<vs.length)(aD:vs.length<=90000)(ai:vs.all J.cu=true)(bl:h.get a=some (.cells [] E .own 0 0)):
  gf Tryz.prog h U (some U) (.slice a 0 0 (.exact 0)) v=some (.slice h.n 0 vs.length (.a5 1),h.push (.cells vs E .a5 0 0)):=by
 obtain⟨k,ax⟩:∃k,vs.length=k+1:=⟨vs.length-1,by omega⟩
 have hmul:(4*(0+(k+1))+2048)*(i.bytes+1)<=(4*90000+2048)*1001:=Nat.mul_le_mul (by omega) (by omega)
 have kj:lK h E i.bytes 1 (0+(k+1)) z ([]++vs) 0=some (.slice h.n 0 (0+(k+1)) (.a5 1),h.push (.cells ([]++vs) E .a5 0 0)):=
  yr (by unfold my;rw[Nat.ble_eq];omega) (by rw[jQ];rfl) (by rw[List.nil_append];exact ai)
 have q4:Nat.ble (0+(k+1)) 0=false:=by
  cases ad:Nat.ble (0+(k+1)) 0 with
  |false=>rfl
  |true=>have:=Nat.le_of_ble_eq_true ad;omega
 have iG:aC.loadCells h a 0 (0*1)=some []:=by simp only[aC.loadCells,bl];rfl
 rw[ax] at aJ
 simp only[gf,hu,hE,hi,bj,bX,aJ,ax,q4,iG,kj]
 rw[List.nil_append,Nat.zero_add]
theorem W9(m:Nat){B:Nat}{h:aa}{v:J}{vs:List J}(b4:B<=h.n)(aJ:da B h v vs)(hlen:vs.length<=90000)(ai:vs.all J.cu=true):(v=.aA/\vs=[]/\Y (m+1) (.fn 122) [v] h=.ret .aA h)\/(0<vs.length/\∃b an,Y (m+1) (.fn 122) [v] h=.ret (.slice b 0 vs.length (.a5 1)) an/\B<=b/\b<an.n/\iz an b 9 vs/\Ext B h an):=by
 rcases aJ with⟨rfl,rfl⟩|⟨b,off,aH,rfl,ag,aD,aU,aj⟩
 · exact .inl ⟨rfl,rfl,WH m h (R:=λx=>x=.ret .aA h) rfl⟩
 · right
   refine⟨aU,?_⟩
   obtain⟨H,fB⟩:∃H,H=h.push (.cells [] 9 .own 0 0):=⟨_,rfl⟩
   have g7:Ext B h H:=by rw[fB];exact Ext.push b4 _
   have k8:H.n=h.n+1:=by rw[fB];rfl
   have hE:=da.src (B:=B) (h:=H) (λi hi=>o7 g7 ag (aD i hi)) aU aj
   obtain⟨i,hi⟩:=Option.isSome_iff_exists.1 (show(Tryz.prog.info? 9).isSome=true by kernel_rfl)
   have bX:i.size=1:=by
    have:(Tryz.prog.info? 9).map (·.size)=some 1:=by kernel_rfl
    rw[hi] at this;simpa using this
   have n5:i.bytes<=1000:=by
    have:(Tryz.prog.info? 9).map (λi=>Nat.ble i.bytes 1000)=some true:=by kernel_rfl
    rw[hi] at this;exact Nat.le_of_ble_eq_true (by simpa using this)
   obtain⟨z,bj⟩:=Option.isSome_iff_exists.1 (show(fq Tryz.prog 9).isSome=true by kernel_rfl)
   have jQ:z.cells.length=1:=by
    have:(fq Tryz.prog 9).map (λz=>z.cells.length)=some 1:=by kernel_rfl
    rw[bj] at this;simpa using this
   have ap:=L1 (U:=48) (E:=9) (a:=h.n) (by kernel_rfl) (by kernel_rfl) hi bX n5 bj jQ hE aU hlen ai (by rw[fB];exact eB rfl)
   refine WG m b off vs.length aH h (R:=λx=>∃b an,x=.ret (.slice b 0 vs.length (.a5 1)) an/\B<=b/\b<an.n/\iz an b 9 vs/\Ext B h an) ?_
   rw[<-fB]
   exact⟨_,_,ap,_,_,rfl,by omega,by simp,eB rfl,g7.trans (Nat.le_refl _) (Ext.push (Nat.le_trans b4 g7.n) _)⟩
theorem W_(m:Nat){B b K f:Nat}{h:aa}{vs:List J}(caps:List J)(q:Nat->Nat->Bool)(hlen:vs.length<=90000)(nG:B<=b)(eg:1<=K)(Xa:K<vs.length)(ic:kD caps=true)(fF:∀i (hi:i<vs.length),J.sound vs[i]=true)(ju:∀i (hi:i<vs.length),∃z:List UInt8,vs[i]=(.str z))(hf:∀i j (hi:i<vs.length) (aV:j<vs.length) x,Ext B h x->cc x.n x (.bool (q i j)) (Y m (.fn f) (vs[i]::vs[j]::caps) x))
  {g:aa}(ag:b<g.n)(a7:iz g b 9 vs)(ad:Ext B h g){Γ:Env}(cS:cN [(0,.slice b 0 vs.length (.a5 1)),(1,.fn f [] caps),(5,.int .i64 (Int.ofNat K)),(6,.slice b (0+K*1) (vs.length-K) (.a5 1)),(7,.int .i64 (Int.ofNat 1))] Γ):
  bz Tryz.prog Tryz.f121 (Y m) [1,1,0,1,0,0,1,0,0,1,0,1,0,1,0] ⟨Γ,[],.none,g⟩ (λdv dw=>∃(bI:Nat) (ak:aa) (cx:Env),dv=.exit 2/\dw=⟨cx,[],.none,ak⟩/\cN [(0,.slice b 0 vs.length (.a5 1)),(5,.int .i64 (Int.ofNat bI))] cx/\K<=bI/\bI<vs.length/\b<ak.n/\Ext B h ak/\∃L,iz ak b 9 L/\L.length=vs.length):=by
 refine bz.loop (by kernel_rfl) (λt st=>∃j k L x Γ,st=⟨Γ,[],.none,x⟩/\cN [(0,.slice b 0 vs.length (.a5 1)),(1,.fn f [] caps),(5,.int .i64 (Int.ofNat k)),(6,.slice b (0+K*1) (vs.length-K) (.a5 1)),(7,.int .i64 (Int.ofNat j))] Γ/\(vs.length-K)-j=t/\1<=j/\j<=vs.length-K/\K<=k/\k+1<=K+j/\b<x.n/\iz x b 9 L/\L.length=vs.length/\y9 L vs/\Ext B h x) ?_ (vs.length-K-1) _ (by omega) ⟨1,K,vs,g,Γ,rfl,cS,by omega,by omega,by omega,by omega,by omega,ag,a7,rfl,λi hi=>⟨i,hi,rfl⟩,ad⟩
 rintro t st ⟨j,k,L,x,Γ,rfl,cS,bh,aV,Dh,ax,D9,y_,rf,oh,nH,kM⟩
 refine bz.pre (WE (Y m) b _ k f (0+K*1) _ j caps x ⟨λab=>?_,λab=>?_⟩) cS rfl rfl rfl
 · have al:=kM.hW (k:=12)
   have mo:iz (x.room 12) b 9 L:=rf
   have i1:K+j<L.length:=by omega
   have i2:K+j-1<L.length:=by omega
   obtain⟨s,hs,es⟩:=nH (K+j) i1
   obtain⟨a2,er,r8⟩:=nH (K+j-1) i2
   obtain⟨aq,c1,bw⟩:=hf s a2 hs er _ al
   have cl:=al.trans (Nat.le_refl _) (bw.le (show B<=(x.room 12).n by simp;omega))
   have ph:b<(x.room 12).n:=by simp;omega
   have nI:iz aq b 9 L:=(bw.get b ph).trans mo
   have rh:b<aq.n:=Nat.lt_of_lt_of_le ph bw.n
   obtain⟨z,bj⟩:=ju s hs
   refine⟨ab,_,(mo.ql i1 (by omega)).trans (by rw[es]),⟨by omega,by omega⟩,by omega,_,(mo.ql i2 (by omega)).trans (by rw[r8]),_,aq,c1,m1 ic,fF s hs,fF a2 er,λai=>?_,λai=>?_⟩
   · exact⟨by omega,_,(by show _<t;omega),j+1,k,L,aq,_,rfl,⟨rfl,rfl,rfl,rfl,rfl,trivial⟩,rfl,by omega,by omega,by omega,by omega,rh,nI,oh,nH,cl⟩
   · have cL:aC.storeCells aq b (0+k*1) [(.str z)]=some (aq.set b (some (.cells (L.set k (.str z)) 9 .a5 0 0))):=
       dP nI (yy _ _) (by rw[show 0+k*1=k by omega];exact LO _ rfl L k (by omega))
     refine⟨ab,z,(nI.ql i1 (by omega)).trans (by rw[es,bj]),by omega,_,cL,by omega,by omega,_,(by show _<t;omega),j+1,k+1,L.set k (.str z),_,_,rfl,⟨rfl,rfl,rfl,rfl,rfl,trivial⟩,rfl,by omega,by omega,by omega,by omega,by simp;omega,dF rfl,by simpa using oh,?_,Ext.fP nG cl⟩
     rw[<-bj]
     exact nH.set k hs
 · exact⟨k,x,_,rfl,rfl,⟨rfl,rfl,trivial⟩,ax,by omega,y_,kM,L,rf,oh⟩
theorem Xb(m:Nat){B b f:Nat}{h:aa}{vs:List J}(caps:List J)(q:Nat->Nat->Bool)(hlen:vs.length<=90000)(nG:B<=b)(ic:kD caps=true)(fF:∀i (hi:i<vs.length),J.sound vs[i]=true)(ju:∀i (hi:i<vs.length),∃z:List UInt8,vs[i]=(.str z))(hf:∀i j (hi:i<vs.length) (aV:j<vs.length) x,Ext B h x->cc x.n x (.bool (q i j)) (Y m (.fn f) (vs[i]::vs[j]::caps) x))
  (ag:b<h.n)(a7:iz h b 9 vs):
  ∃w g k,Y (m+1) (.fn 121) [.slice b 0 vs.length (.a5 1),.fn f [] caps] h=.ret w g/\cq Tryz.prog g 48 w=some (.int .i64 (Int.ofNat k))/\(!(List.range vs.length).any (λi=>decide (0<i)&&q i (i-1)))=decide (k=vs.length)/\Ext B h g:=by
 refine LM m (.slice b 0 vs.length (.a5 1)) f caps h (R:=λx=>∃w g k,x=.ret w g/\cq Tryz.prog g 48 w=some (.int .i64 (Int.ofNat k))/\(!(List.range vs.length).any (λi=>decide (0<i)&&q i (i-1)))=decide (k=vs.length)/\Ext B h g) ⟨vs.length,by rfl,λae=>?_,λae=>?_⟩
 · refine⟨_,h,vs.length,rfl,by rfl,?_,Ext.refl _ _⟩
   rw[sI (λj aV=>by simp[show¬0<j by omega])];simp
 · replace ae:=LR ae
   refine bz.loop (by kernel_rfl) (λt st=>∃k x Γ,st=⟨Γ,[],.none,x⟩/\cN [(0,.slice b 0 vs.length (.a5 1)),(1,.fn f [] caps),(5,.int .i64 (Int.ofNat k))] Γ/\vs.length-k=t/\1<=k/\k<=vs.length/\b<x.n/\iz x b 9 vs/\Ext B h x/\∀j,0<j->j<k->q j (j-1)=false) ?_ (vs.length-1) _ (by omega) ⟨1,h,_,rfl,⟨rfl,rfl,rfl,trivial⟩,by omega,by omega,by omega,ag,a7,Ext.refl _ _,λj aV pL=>by omega⟩
   rintro t st ⟨k,x,Γ,rfl,cS,bh,ax,uy,y_,rf,kM,aS⟩
   refine bz.pre (WD (Y m) b _ k f caps x ⟨λab=>?_,λab=>?_⟩) cS rfl rfl rfl
   · have al:=kM.hW (k:=11)
     have mo:iz (x.room 11) b 9 vs:=rf
     obtain⟨aq,c1,bw⟩:=hf k (k-1) ab (by omega) _ al
     have cl:=al.trans (Nat.le_refl _) (bw.le (show B<=(x.room 11).n by simp;omega))
     have ph:b<(x.room 11).n:=by simp;omega
     have nI:iz aq b 9 vs:=(bw.get b ph).trans mo
     have rh:b<aq.n:=Nat.lt_of_lt_of_le ph bw.n
     refine⟨ab,_,mo.ql ab (by omega),⟨by omega,by omega⟩,by omega,_,mo.ql (by omega) (by omega),_,aq,c1,m1 ic,fF k ab,fF (k-1) (by omega),λai=>?_,λai=>?_⟩
     · have s2:d_ Tryz.prog aq 48 (.slice b 0 vs.length (.a5 1)) (some (.int .i64 (Int.ofNat k))) none none=some (.slice b (0+k*1) (vs.length-k) (.a5 1)):=B8 (E:=9) (by kernel_rfl) (by kernel_rfl) (by omega) ab
       refine⟨_,_,_,_,s2,?_⟩
       refine bz.mono (W_ m caps q hlen nG ax ab ic fF ju hf rh nI cl ⟨rfl,rfl,rfl,rfl,rfl,trivial⟩) ?_
       rintro dv dw ⟨bI,ak,cx,rfl,rfl,FU,x0,FV,fe,uM,L,oh,FW⟩
       refine⟨_,_,_,_,bI,ak,cx,rfl,rfl,FU,_,_,_,_,B8 (E:=9) (by kernel_rfl) (by kernel_rfl) (by omega) FV,?_⟩
       obtain⟨z,bj⟩:=Option.isSome_iff_exists.1 (show(fq Tryz.prog 9).isSome=true by kernel_rfl)
       have jQ:z.cells.length=1/\z.cells.all J.cu=true:=by
        have ab:(fq Tryz.prog 9).map (λz=>z.cells.length)=some 1:=by kernel_rfl
        have ae:(fq Tryz.prog 9).map (λz=>z.cells.all J.cu)=some true:=by kernel_rfl
        rw[bj] at ab ae;exact⟨by simpa using ab,by simpa using ae⟩
       have uN:∀n,(gv n z.cells).length=n/\(gv n z.cells).all J.cu=true:=by
        intro n
        induction n with
        |zero=>exact⟨rfl,rfl⟩
        |succ n bt=>simp only[gv,List.length_append,List.all_append,bt.1,bt.2,jQ.1,jQ.2];exact⟨by omega,rfl⟩
       obtain⟨sJ,cO,eo⟩:=LP (gv (vs.length-bI) z.cells) (uN _).2 L (0+bI*1) (by rw[(uN _).1,FW];omega)
       have cL:aC.storeCells ak b (0+bI*1) (gv (vs.length-bI) z.cells)=some (ak.set b (some (.cells sJ 9 .a5 0 0))):=dP oh (yy _ _) cO
       have ir:pB Tryz.prog ak 48 (.slice b (0+bI*1) (vs.length-bI) (.a5 1))=some (.aL [],ak.set b (some (.cells sJ 9 .a5 0 0))):=by
        have hu:Tryz.prog.underlying 48=some (.slice 9):=by kernel_rfl
        simp only[pB,hu,bj,cL]
        rw[if_neg (by omega)]
       refine⟨_,ir,_,LS (E:=9) (by kernel_rfl) (by kernel_rfl) (by omega),.inr ⟨_,_,_,rfl,rfl,⟨rfl,trivial⟩,_,_,bI,rfl,by rfl,?_,Ext.fP nG uM⟩⟩
       rw[wO ab (by rw[ai];simp;omega)]
       simp;omega
     · exact⟨by omega,_,(by show _<t;omega),k+1,aq,_,rfl,⟨rfl,rfl,rfl,trivial⟩,rfl,by omega,by omega,rh,nI,cl,λj aV pL=>by
        by_cases e:j=k
        · rw[e];exact ai
        · exact aS j aV (by omega)⟩
   · refine .inl ⟨_,x,_,rfl,rfl,⟨rfl,trivial⟩,_,_,vs.length,rfl,by rfl,?_,kM⟩
     rw[sI (λj aV=>?_)]
     · simp
     · by_cases e:0<j
       · rw[aS j e (by omega),Bool.and_false]
       · simp[e]
theorem Xc(m:Nat){B:Nat}{h:aa}{v:J}{vs:List J}(f:Nat)(caps:List J)(w:Nat->bc)(b4:B<=h.n)(aJ:da B h v vs)(hlen:vs.length<=90000)(ic:kD caps=true)(fF:∀i (hi:i<vs.length),J.sound vs[i]=true)(ju:∀i (hi:i<vs.length),∃z:List UInt8,vs[i]=(.str z))(nH:∀i (hi:i<vs.length) x,Ext B h x->cc x.n x (.str (w i)) (Y m (.fn f) (vs[i]::caps) x)):
  cc B h (.bool (qm w vs.length)) (Y (m+3) (.fn 108) [v,.fn f [] caps] h):=by
 refine WI (m+2) v f caps h ?_
 obtain⟨H,fB⟩:∃H,H=h.push (.cells [.fn f [] caps] 150 .own 0 0):=⟨_,rfl⟩
 rw[<-fB]
 have g7:Ext B h H:=by rw[fB];exact Ext.push b4 _
 have k8:H.n=h.n+1:=by rw[fB];rfl
 have lF:B<=H.n:=Nat.le_trans b4 g7.n
 have jF:H.get h.n=some (.cells [.fn f [] caps] 150 .own 0 0):=by rw[fB];exact eB rfl
 have oi:∀i (hi:i<vs.length) x,Ext H.n H x->∃g,Y m (.fn f) (vs[i]::caps) x=.ret (.str (w i)) g/\Ext x.n x g:=λi hi x ad=>nH i hi x (g7.trans lF ad)
 have uO:da H.n H v vs:=(aJ.b0 (gE.ext g7 (Nat.le_refl _))).le (Nat.le_trans b4 g7.n)
 have f_:∀x,Ext H.n H x->av x h.n 0=some (.fn f [] caps):=λx ad=>ar ((ad.get h.n (by omega)).trans jF) rfl
 obtain⟨g,c1,bw⟩:=W7 (m+1) (B:=H.n) (h:=H) (v:=v) (vs:=vs) 120 [.ptr h.n 0] (λi j=>en (w i) (w j)) uO hlen rfl fF (λi j hi aV x ad=>by
  have al:Ext H.n H (x.room 7):=ad.hW
  obtain⟨aq,c1,bw⟩:=oi i hi _ al
  have hA:Ext H.n H aq:=al.trans al.n bw
  obtain⟨ak,c2,bM⟩:=oi j aV _ hA
  refine WB m vs[i] vs[j] h.n f caps x ⟨f_ _ al,_,aq,c1,f_ _ hA,_,ak,c2,m1 ic,fF i hi,m1 ic,f_ _ al,fF j aV,λai=>?_,λai=>?_⟩
  · exact cc.of (by rw[ai];rfl) ((hA.trans hA.n bM).le (Nat.le_refl _)|> λe=>by have dc:Ext H.n x ak:=⟨by have a:=bw.n;have b:=bM.n;simp at a;omega,λb ag=>by rw[(hA.trans hA.n bM).get b ag,ad.get b ag]⟩;exact dc)
  · exact cc.of (by rw[ai];rfl) ((hA.trans hA.n bM).le (Nat.le_refl _)|> λe=>by have dc:Ext H.n x ak:=⟨by have a:=bw.n;have b:=bM.n;simp at a;omega,λb ag=>by rw[(hA.trans hA.n bM).get b ag,ad.get b ag]⟩;exact dc))
 have og:Ext B h g:=g7.trans lF bw
 refine⟨rfl,_,g,c1,λhs=>?_,λhs=>?_⟩
 · have rU:vs.all J.cu=true:=by
     rw[List.all_eq_true]
     intro x ad
     obtain⟨i,hi,rfl⟩:=List.getElem_of_mem ad
     obtain⟨z,bj⟩:=ju i hi
     rw[bj];rfl
   have FX:da H.n g v vs:=uO.b0 (gE.ext bw (Nat.le_refl _))
   have fin:∀v2 ak b,Y (m+2) (.fn 122) [v] g=.ret v2 ak->v2=.slice b 0 vs.length (.a5 1)->H.n<=b->b<ak.n->iz ak b 9 vs->Ext H.n g ak->∃(v2:J) (ak:aa),Y (m+2) (.fn 122) [v] g=.ret v2 ak/\∃(w':J) (aQ:aa),Y (m+2) (.fn 121) [v2,.fn 123 [] [.ptr h.n 0]] ak=.ret w' aQ/\∃(k:Nat),cq Tryz.prog aQ 48 w'=some (.int .i64 (Int.ofNat k))/\∃(n:Nat),cq Tryz.prog aQ 48 v=some (.int .i64 (Int.ofNat n))/\cc B h (.bool (qm w vs.length)) (.ret (.bool (ba (Int.ofNat k) (Int.ofNat n))) aQ):=by
    intro v2 ak b c2 aG ag fe a7 bM
    subst aG
    have za:Ext H.n H ak:=bw.trans (Nat.le_refl _) bM
    obtain⟨w',aQ,k,c3,dW,bJ,dT⟩:=Xb (m+1) (B:=H.n) (h:=ak) (vs:=vs) (f:=123) [.ptr h.n 0] (λi j=>cF (w i) (w j)) hlen ag rfl fF ju (λi j hi aV x ad=>by
     have kM:Ext H.n H x:=za.trans (Nat.le_refl _) ad
     have al:Ext H.n H (x.room 8):=kM.hW
     obtain⟨aq,c1,iy⟩:=oi i hi _ al
     have hA:Ext H.n H aq:=al.trans al.n iy
     obtain⟨ak,c2,eK⟩:=oi j aV _ hA
     refine WC m vs[i] vs[j] h.n f caps x ⟨f_ _ al,_,aq,c1,f_ _ hA,_,ak,c2,m1 ic,fF i hi,m1 ic,f_ _ al,fF j aV,cc.of rfl ?_⟩
     refine⟨by have a:=iy.n;have b:=eK.n;simp at a;omega,λb ag=>?_⟩
     have a:=iy.n
     simp at a
     rw[eK.get b (by omega),iy.get b (by simp;omega)];rfl) fe a7
    have zb:Ext H.n H aQ:=za.trans (Nat.le_refl _) dT
    have FY:da H.n aQ v vs:=uO.b0 (gE.ext zb (Nat.le_refl _))
    refine⟨_,ak,c2,w',aQ,c3,k,dW,vs.length,FY.len (t:=48) (e:=9) (by kernel_rfl),cc.of (eZ ?_) (g7.trans lF zb)⟩
    rw[L0 bJ]
    exact LY w vs.length hs
   rcases W9 (m+1) (B:=H.n) (h:=g) bw.n FX hlen rU with⟨rfl,rfl,c2⟩|⟨aU,b,ak,c2,ag,fe,a7,bM⟩
   · refine⟨.aA,g,c2,.aA,g,?_,0,by rfl,0,by rfl,cc.of (eZ rfl) og⟩
     exact LM (m+1) .aA _ _ g (R:=λx=>x=.ret .aA g) ⟨0,by rfl,λ_=>rfl,λaM=>absurd (by omega) aM⟩
   · exact fin _ ak b c2 rfl ag fe a7 bM
 · refine cc.of (eZ ?_) og
   exact LZ w vs.length hs
theorem Xd(m:Nat){B:Nat}{h:aa}{v:J}{vs:List J}(b4:B<=h.n)(aJ:da B h v vs)(hlen:vs.length<=90000)(ai:vs.all J.cu=true):(v=.aA/\vs=[]/\Y (m+1) (.fn 127) [v] h=.ret .aA h)\/(0<vs.length/\∃b an,Y (m+1) (.fn 127) [v] h=.ret (.slice b 0 vs.length (.a5 1)) an/\B<=b/\b<an.n/\iz an b 47 vs/\Ext B h an):=by
 rcases aJ with⟨rfl,rfl⟩|⟨b,off,aH,rfl,ag,aD,aU,aj⟩
 · exact .inl ⟨rfl,rfl,WX m h (R:=λx=>x=.ret .aA h) rfl⟩
 · right
   refine⟨aU,?_⟩
   obtain⟨H,fB⟩:∃H,H=h.push (.cells [] 47 .own 0 0):=⟨_,rfl⟩
   have g7:Ext B h H:=by rw[fB];exact Ext.push b4 _
   have k8:H.n=h.n+1:=by rw[fB];rfl
   have hE:=da.src (B:=B) (h:=H) (λi hi=>o7 g7 ag (aD i hi)) aU aj
   obtain⟨i,hi⟩:=Option.isSome_iff_exists.1 (show(Tryz.prog.info? 47).isSome=true by kernel_rfl)
   have bX:i.size=1:=by
    have:(Tryz.prog.info? 47).map (·.size)=some 1:=by kernel_rfl
    rw[hi] at this;simpa using this
   have n5:i.bytes<=1000:=by
    have:(Tryz.prog.info? 47).map (λi=>Nat.ble i.bytes 1000)=some true:=by kernel_rfl
    rw[hi] at this;exact Nat.le_of_ble_eq_true (by simpa using this)
   obtain⟨z,bj⟩:=Option.isSome_iff_exists.1 (show(fq Tryz.prog 47).isSome=true by kernel_rfl)
   have jQ:z.cells.length=1:=by
    have:(fq Tryz.prog 47).map (λz=>z.cells.length)=some 1:=by kernel_rfl
    rw[bj] at this;simpa using this
   have ap:=L1 (U:=49) (E:=47) (a:=h.n) (by kernel_rfl) (by kernel_rfl) hi bX n5 bj jQ hE aU hlen ai (by rw[fB];exact eB rfl)
   refine WW m b off vs.length aH h (R:=λx=>∃b an,x=.ret (.slice b 0 vs.length (.a5 1)) an/\B<=b/\b<an.n/\iz an b 47 vs/\Ext B h an) ?_
   rw[<-fB]
   exact⟨_,_,ap,_,_,rfl,by omega,by simp,eB rfl,g7.trans (Nat.le_refl _) (Ext.push (Nat.le_trans b4 g7.n) _)⟩
theorem Xe(m:Nat){B b K f:Nat}{h:aa}{vs:List J}(caps:List J)(q:Nat->Nat->Bool)(hlen:vs.length<=90000)(nG:B<=b)(eg:1<=K)(Xa:K<vs.length)(ic:kD caps=true)(fF:∀i (hi:i<vs.length),J.sound vs[i]=true)(ju:∀i (hi:i<vs.length),∃z:Nat,vs[i]=(.ptr z 0))(hf:∀i j (hi:i<vs.length) (aV:j<vs.length) x,Ext B h x->cc x.n x (.bool (q i j)) (Y m (.fn f) (vs[i]::vs[j]::caps) x))
  {g:aa}(ag:b<g.n)(a7:iz g b 47 vs)(ad:Ext B h g){Γ:Env}(cS:cN [(0,.slice b 0 vs.length (.a5 1)),(1,.fn f [] caps),(5,.int .i64 (Int.ofNat K)),(6,.slice b (0+K*1) (vs.length-K) (.a5 1)),(7,.int .i64 (Int.ofNat 1))] Γ):
  bz Tryz.prog Tryz.f126 (Y m) [1,1,0,1,0,0,1,0,0,1,0,1,0,1,0] ⟨Γ,[],.none,g⟩ (λdv dw=>∃(bI:Nat) (ak:aa) (cx:Env),dv=.exit 2/\dw=⟨cx,[],.none,ak⟩/\cN [(0,.slice b 0 vs.length (.a5 1)),(5,.int .i64 (Int.ofNat bI))] cx/\K<=bI/\bI<vs.length/\b<ak.n/\Ext B h ak/\∃L,iz ak b 47 L/\L.length=vs.length):=by
 refine bz.loop (by kernel_rfl) (λt st=>∃j k L x Γ,st=⟨Γ,[],.none,x⟩/\cN [(0,.slice b 0 vs.length (.a5 1)),(1,.fn f [] caps),(5,.int .i64 (Int.ofNat k)),(6,.slice b (0+K*1) (vs.length-K) (.a5 1)),(7,.int .i64 (Int.ofNat j))] Γ/\(vs.length-K)-j=t/\1<=j/\j<=vs.length-K/\K<=k/\k+1<=K+j/\b<x.n/\iz x b 47 L/\L.length=vs.length/\y9 L vs/\Ext B h x) ?_ (vs.length-K-1) _ (by omega) ⟨1,K,vs,g,Γ,rfl,cS,by omega,by omega,by omega,by omega,by omega,ag,a7,rfl,λi hi=>⟨i,hi,rfl⟩,ad⟩
 rintro t st ⟨j,k,L,x,Γ,rfl,cS,bh,aV,Dh,ax,D9,y_,rf,oh,nH,kM⟩
 refine bz.pre (WV (Y m) b _ k f (0+K*1) _ j caps x ⟨λab=>?_,λab=>?_⟩) cS rfl rfl rfl
 · have al:=kM.hW (k:=12)
   have mo:iz (x.room 12) b 47 L:=rf
   have i1:K+j<L.length:=by omega
   have i2:K+j-1<L.length:=by omega
   obtain⟨s,hs,es⟩:=nH (K+j) i1
   obtain⟨a2,er,r8⟩:=nH (K+j-1) i2
   obtain⟨aq,c1,bw⟩:=hf s a2 hs er _ al
   have cl:=al.trans (Nat.le_refl _) (bw.le (show B<=(x.room 12).n by simp;omega))
   have ph:b<(x.room 12).n:=by simp;omega
   have nI:iz aq b 47 L:=(bw.get b ph).trans mo
   have rh:b<aq.n:=Nat.lt_of_lt_of_le ph bw.n
   obtain⟨z,bj⟩:=ju s hs
   refine⟨ab,_,(mo.ql i1 (by omega)).trans (by rw[es]),⟨by omega,by omega⟩,by omega,_,(mo.ql i2 (by omega)).trans (by rw[r8]),_,aq,c1,m1 ic,fF s hs,fF a2 er,λai=>?_,λai=>?_⟩
   · exact⟨by omega,_,(by show _<t;omega),j+1,k,L,aq,_,rfl,⟨rfl,rfl,rfl,rfl,rfl,trivial⟩,rfl,by omega,by omega,by omega,by omega,rh,nI,oh,nH,cl⟩
   · have cL:aC.storeCells aq b (0+k*1) [(.ptr z 0)]=some (aq.set b (some (.cells (L.set k (.ptr z 0)) 47 .a5 0 0))):=
       dP nI (yy _ _) (by rw[show 0+k*1=k by omega];exact LO _ rfl L k (by omega))
     refine⟨ab,z,(nI.ql i1 (by omega)).trans (by rw[es,bj]),by omega,_,cL,by omega,by omega,_,(by show _<t;omega),j+1,k+1,L.set k (.ptr z 0),_,_,rfl,⟨rfl,rfl,rfl,rfl,rfl,trivial⟩,rfl,by omega,by omega,by omega,by omega,by simp;omega,dF rfl,by simpa using oh,?_,Ext.fP nG cl⟩
     rw[<-bj]
     exact nH.set k hs
 · exact⟨k,x,_,rfl,rfl,⟨rfl,rfl,trivial⟩,ax,by omega,y_,kM,L,rf,oh⟩
theorem Xf(m:Nat){B b f:Nat}{h:aa}{vs:List J}(caps:List J)(q:Nat->Nat->Bool)(hlen:vs.length<=90000)(nG:B<=b)(ic:kD caps=true)(fF:∀i (hi:i<vs.length),J.sound vs[i]=true)(ju:∀i (hi:i<vs.length),∃z:Nat,vs[i]=(.ptr z 0))(hf:∀i j (hi:i<vs.length) (aV:j<vs.length) x,Ext B h x->cc x.n x (.bool (q i j)) (Y m (.fn f) (vs[i]::vs[j]::caps) x))
  (ag:b<h.n)(a7:iz h b 47 vs):
  ∃w g k,Y (m+1) (.fn 126) [.slice b 0 vs.length (.a5 1),.fn f [] caps] h=.ret w g/\cq Tryz.prog g 49 w=some (.int .i64 (Int.ofNat k))/\(!(List.range vs.length).any (λi=>decide (0<i)&&q i (i-1)))=decide (k=vs.length)/\Ext B h g:=by
 refine LN m (.slice b 0 vs.length (.a5 1)) f caps h (R:=λx=>∃w g k,x=.ret w g/\cq Tryz.prog g 49 w=some (.int .i64 (Int.ofNat k))/\(!(List.range vs.length).any (λi=>decide (0<i)&&q i (i-1)))=decide (k=vs.length)/\Ext B h g) ⟨vs.length,by rfl,λae=>?_,λae=>?_⟩
 · refine⟨_,h,vs.length,rfl,by rfl,?_,Ext.refl _ _⟩
   rw[sI (λj aV=>by simp[show¬0<j by omega])];simp
 · replace ae:=LR ae
   refine bz.loop (by kernel_rfl) (λt st=>∃k x Γ,st=⟨Γ,[],.none,x⟩/\cN [(0,.slice b 0 vs.length (.a5 1)),(1,.fn f [] caps),(5,.int .i64 (Int.ofNat k))] Γ/\vs.length-k=t/\1<=k/\k<=vs.length/\b<x.n/\iz x b 47 vs/\Ext B h x/\∀j,0<j->j<k->q j (j-1)=false) ?_ (vs.length-1) _ (by omega) ⟨1,h,_,rfl,⟨rfl,rfl,rfl,trivial⟩,by omega,by omega,by omega,ag,a7,Ext.refl _ _,λj aV pL=>by omega⟩
   rintro t st ⟨k,x,Γ,rfl,cS,bh,ax,uy,y_,rf,kM,aS⟩
   refine bz.pre (WU (Y m) b _ k f caps x ⟨λab=>?_,λab=>?_⟩) cS rfl rfl rfl
   · have al:=kM.hW (k:=11)
     have mo:iz (x.room 11) b 47 vs:=rf
     obtain⟨aq,c1,bw⟩:=hf k (k-1) ab (by omega) _ al
     have cl:=al.trans (Nat.le_refl _) (bw.le (show B<=(x.room 11).n by simp;omega))
     have ph:b<(x.room 11).n:=by simp;omega
     have nI:iz aq b 47 vs:=(bw.get b ph).trans mo
     have rh:b<aq.n:=Nat.lt_of_lt_of_le ph bw.n
     refine⟨ab,_,mo.ql ab (by omega),⟨by omega,by omega⟩,by omega,_,mo.ql (by omega) (by omega),_,aq,c1,m1 ic,fF k ab,fF (k-1) (by omega),λai=>?_,λai=>?_⟩
     · have s2:d_ Tryz.prog aq 49 (.slice b 0 vs.length (.a5 1)) (some (.int .i64 (Int.ofNat k))) none none=some (.slice b (0+k*1) (vs.length-k) (.a5 1)):=B8 (E:=47) (by kernel_rfl) (by kernel_rfl) (by omega) ab
       refine⟨_,_,_,_,s2,?_⟩
       refine bz.mono (Xe m caps q hlen nG ax ab ic fF ju hf rh nI cl ⟨rfl,rfl,rfl,rfl,rfl,trivial⟩) ?_
       rintro dv dw ⟨bI,ak,cx,rfl,rfl,FU,x0,FV,fe,uM,L,oh,FW⟩
       refine⟨_,_,_,_,bI,ak,cx,rfl,rfl,FU,_,_,_,_,B8 (E:=47) (by kernel_rfl) (by kernel_rfl) (by omega) FV,?_⟩
       obtain⟨z,bj⟩:=Option.isSome_iff_exists.1 (show(fq Tryz.prog 47).isSome=true by kernel_rfl)
       have jQ:z.cells.length=1/\z.cells.all J.cu=true:=by
        have ab:(fq Tryz.prog 47).map (λz=>z.cells.length)=some 1:=by kernel_rfl
        have ae:(fq Tryz.prog 47).map (λz=>z.cells.all J.cu)=some true:=by kernel_rfl
        rw[bj] at ab ae;exact⟨by simpa using ab,by simpa using ae⟩
       have uN:∀n,(gv n z.cells).length=n/\(gv n z.cells).all J.cu=true:=by
        intro n
        induction n with
        |zero=>exact⟨rfl,rfl⟩
        |succ n bt=>simp only[gv,List.length_append,List.all_append,bt.1,bt.2,jQ.1,jQ.2];exact⟨by omega,rfl⟩
       obtain⟨sJ,cO,eo⟩:=LP (gv (vs.length-bI) z.cells) (uN _).2 L (0+bI*1) (by rw[(uN _).1,FW];omega)
       have cL:aC.storeCells ak b (0+bI*1) (gv (vs.length-bI) z.cells)=some (ak.set b (some (.cells sJ 47 .a5 0 0))):=dP oh (yy _ _) cO
       have ir:pB Tryz.prog ak 49 (.slice b (0+bI*1) (vs.length-bI) (.a5 1))=some (.aL [],ak.set b (some (.cells sJ 47 .a5 0 0))):=by
        have hu:Tryz.prog.underlying 49=some (.slice 47):=by kernel_rfl
        simp only[pB,hu,bj,cL]
        rw[if_neg (by omega)]
       refine⟨_,ir,_,LS (E:=47) (by kernel_rfl) (by kernel_rfl) (by omega),.inr ⟨_,_,_,rfl,rfl,⟨rfl,trivial⟩,_,_,bI,rfl,by rfl,?_,Ext.fP nG uM⟩⟩
       rw[wO ab (by rw[ai];simp;omega)]
       simp;omega
     · exact⟨by omega,_,(by show _<t;omega),k+1,aq,_,rfl,⟨rfl,rfl,rfl,trivial⟩,rfl,by omega,by omega,rh,nI,cl,λj aV pL=>by
        by_cases e:j=k
        · rw[e];exact ai
        · exact aS j aV (by omega)⟩
   · refine .inl ⟨_,x,_,rfl,rfl,⟨rfl,trivial⟩,_,_,vs.length,rfl,by rfl,?_,kM⟩
     rw[sI (λj aV=>?_)]
     · simp
     · by_cases e:0<j
       · rw[aS j e (by omega),Bool.and_false]
       · simp[e]
theorem Xg(m:Nat){B:Nat}{h:aa}{v:J}{vs:List J}(f:Nat)(caps:List J)(w:Nat->bc)(b4:B<=h.n)(aJ:da B h v vs)(hlen:vs.length<=90000)(ic:kD caps=true)(fF:∀i (hi:i<vs.length),J.sound vs[i]=true)(ju:∀i (hi:i<vs.length),∃z:Nat,vs[i]=(.ptr z 0))(nH:∀i (hi:i<vs.length) x,Ext B h x->cc x.n x (.str (w i)) (Y m (.fn f) (vs[i]::caps) x)):
  cc B h (.bool (qm w vs.length)) (Y (m+3) (.fn 111) [v,.fn f [] caps] h):=by
 refine WY (m+2) v f caps h ?_
 obtain⟨H,fB⟩:∃H,H=h.push (.cells [.fn f [] caps] 145 .own 0 0):=⟨_,rfl⟩
 rw[<-fB]
 have g7:Ext B h H:=by rw[fB];exact Ext.push b4 _
 have k8:H.n=h.n+1:=by rw[fB];rfl
 have lF:B<=H.n:=Nat.le_trans b4 g7.n
 have jF:H.get h.n=some (.cells [.fn f [] caps] 145 .own 0 0):=by rw[fB];exact eB rfl
 have oi:∀i (hi:i<vs.length) x,Ext H.n H x->∃g,Y m (.fn f) (vs[i]::caps) x=.ret (.str (w i)) g/\Ext x.n x g:=λi hi x ad=>nH i hi x (g7.trans lF ad)
 have uO:da H.n H v vs:=(aJ.b0 (gE.ext g7 (Nat.le_refl _))).le (Nat.le_trans b4 g7.n)
 have f_:∀x,Ext H.n H x->av x h.n 0=some (.fn f [] caps):=λx ad=>ar ((ad.get h.n (by omega)).trans jF) rfl
 obtain⟨g,c1,bw⟩:=W8 (m+1) (B:=H.n) (h:=H) (v:=v) (vs:=vs) 125 [.ptr h.n 0] (λi j=>en (w i) (w j)) uO hlen rfl fF (λi j hi aV x ad=>by
  have al:Ext H.n H (x.room 7):=ad.hW
  obtain⟨aq,c1,bw⟩:=oi i hi _ al
  have hA:Ext H.n H aq:=al.trans al.n bw
  obtain⟨ak,c2,bM⟩:=oi j aV _ hA
  refine WS m vs[i] vs[j] h.n f caps x ⟨f_ _ al,_,aq,c1,f_ _ hA,_,ak,c2,m1 ic,fF i hi,m1 ic,f_ _ al,fF j aV,λai=>?_,λai=>?_⟩
  · exact cc.of (by rw[ai];rfl) ((hA.trans hA.n bM).le (Nat.le_refl _)|> λe=>by have dc:Ext H.n x ak:=⟨by have a:=bw.n;have b:=bM.n;simp at a;omega,λb ag=>by rw[(hA.trans hA.n bM).get b ag,ad.get b ag]⟩;exact dc)
  · exact cc.of (by rw[ai];rfl) ((hA.trans hA.n bM).le (Nat.le_refl _)|> λe=>by have dc:Ext H.n x ak:=⟨by have a:=bw.n;have b:=bM.n;simp at a;omega,λb ag=>by rw[(hA.trans hA.n bM).get b ag,ad.get b ag]⟩;exact dc))
 have og:Ext B h g:=g7.trans lF bw
 refine⟨rfl,_,g,c1,λhs=>?_,λhs=>?_⟩
 · have rU:vs.all J.cu=true:=by
     rw[List.all_eq_true]
     intro x ad
     obtain⟨i,hi,rfl⟩:=List.getElem_of_mem ad
     obtain⟨z,bj⟩:=ju i hi
     rw[bj];rfl
   have FX:da H.n g v vs:=uO.b0 (gE.ext bw (Nat.le_refl _))
   have fin:∀v2 ak b,Y (m+2) (.fn 127) [v] g=.ret v2 ak->v2=.slice b 0 vs.length (.a5 1)->H.n<=b->b<ak.n->iz ak b 47 vs->Ext H.n g ak->∃(v2:J) (ak:aa),Y (m+2) (.fn 127) [v] g=.ret v2 ak/\∃(w':J) (aQ:aa),Y (m+2) (.fn 126) [v2,.fn 128 [] [.ptr h.n 0]] ak=.ret w' aQ/\∃(k:Nat),cq Tryz.prog aQ 49 w'=some (.int .i64 (Int.ofNat k))/\∃(n:Nat),cq Tryz.prog aQ 49 v=some (.int .i64 (Int.ofNat n))/\cc B h (.bool (qm w vs.length)) (.ret (.bool (ba (Int.ofNat k) (Int.ofNat n))) aQ):=by
    intro v2 ak b c2 aG ag fe a7 bM
    subst aG
    have za:Ext H.n H ak:=bw.trans (Nat.le_refl _) bM
    obtain⟨w',aQ,k,c3,dW,bJ,dT⟩:=Xf (m+1) (B:=H.n) (h:=ak) (vs:=vs) (f:=128) [.ptr h.n 0] (λi j=>cF (w i) (w j)) hlen ag rfl fF ju (λi j hi aV x ad=>by
     have kM:Ext H.n H x:=za.trans (Nat.le_refl _) ad
     have al:Ext H.n H (x.room 8):=kM.hW
     obtain⟨aq,c1,iy⟩:=oi i hi _ al
     have hA:Ext H.n H aq:=al.trans al.n iy
     obtain⟨ak,c2,eK⟩:=oi j aV _ hA
     refine WT m vs[i] vs[j] h.n f caps x ⟨f_ _ al,_,aq,c1,f_ _ hA,_,ak,c2,m1 ic,fF i hi,m1 ic,f_ _ al,fF j aV,cc.of rfl ?_⟩
     refine⟨by have a:=iy.n;have b:=eK.n;simp at a;omega,λb ag=>?_⟩
     have a:=iy.n
     simp at a
     rw[eK.get b (by omega),iy.get b (by simp;omega)];rfl) fe a7
    have zb:Ext H.n H aQ:=za.trans (Nat.le_refl _) dT
    have FY:da H.n aQ v vs:=uO.b0 (gE.ext zb (Nat.le_refl _))
    refine⟨_,ak,c2,w',aQ,c3,k,dW,vs.length,FY.len (t:=49) (e:=47) (by kernel_rfl),cc.of (eZ ?_) (g7.trans lF zb)⟩
    rw[L0 bJ]
    exact LY w vs.length hs
   rcases Xd (m+1) (B:=H.n) (h:=g) bw.n FX hlen rU with⟨rfl,rfl,c2⟩|⟨aU,b,ak,c2,ag,fe,a7,bM⟩
   · refine⟨.aA,g,c2,.aA,g,?_,0,by rfl,0,by rfl,cc.of (eZ rfl) og⟩
     exact LN (m+1) .aA _ _ g (R:=λx=>x=.ret .aA g) ⟨0,by rfl,λ_=>rfl,λaM=>absurd (by omega) aM⟩
   · exact fin _ ak b c2 rfl ag fe a7 bM
 · refine cc.of (eZ ?_) og
   exact LZ w vs.length hs
end Go.Proofs.cT
