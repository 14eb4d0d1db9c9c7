/-
  PROVED HERE: contracts of functions (Di). No condition beside each statement's own.
-/
import Derived.Test.YtfooahfebojldaaGreatDoorDg
import Derived.Test.YtfooahfebojldaaGreatDoorDh
import Derived.Test.YtfooahfebojldaaGreatDoorTx
set_option linter.unusedVariables false
set_option linter.unusedSimpArgs false
namespace Go.Proofs.cn
open Go aw Go.Proofs cu Go.Proofs.b0
open Go.Proofs.cT (cS)
open Go.Proofs.dV (b_)
set_option maxRecDepth 100000
set_option maxHeartbeats 1000000
theorem Uo(m:Nat)(b:Nat)(n:Nat)(h:J){R:av->Prop}(H:∃s1:List UInt8,ay h b (0+0)=some (.str s1)/\∃aI:Nat,fp Tryz.prog 3 65 (.int .i64 (.ofNat n)) h=gg.val (.int .u64 (.ofNat aI)) h/\∃s2:List UInt8,∃al:J,(Y m) (.fn 52) [.str s1,.int .u64 (.ofNat aI)] h=.ret (.str s2) al/\∃au:J,aw.storeCells al b (0+0) [.str s2]=some au/\R (.ret (.aK []) au)):
  R (Y (m+1) (.fn 41) [.ptr b 0,.int .i64 (.ofNat n)] h):=
 dd (intr:=bW) [] [(0,.v (.ptr b 0)),(1,.v (.int .i64 (.ofNat n)))] Tryz.func41 (by kernel_rfl) (by kernel_rfl) (by kernel_rfl) rfl (Eq.mp (by kernel_rfl) H)
theorem Up(m:Nat)(b:Nat)(t:List UInt8)(h:J){R:av->Prop}(H:∃s1:List UInt8,ay h b (0+0)=some (.str s1)/\∃s2:List UInt8,∃al:J,(Y m) (.fn 64) [.str s1,.str t] h=.ret (.str s2) al/\∃au:J,aw.storeCells al b (0+0) [.str s2]=some au/\R (.ret (.aK []) au)):
  R (Y (m+1) (.fn 38) [.ptr b 0,.str t] h):=
 dd (intr:=bW) [] [(0,.v (.ptr b 0)),(1,.v (.str t))] Tryz.func38 (by kernel_rfl) (by kernel_rfl) (by kernel_rfl) rfl (Eq.mp (by kernel_rfl) H)
theorem Uq(m:Nat)(b:Nat)(r:Nat)(h:J){R:av->Prop}(H:∃aI:Nat,ay (h.room 8) r (0+0)=some (.int .i64 (.ofNat aI))/\∃al:J,(Y m) (.fn 41) [.ptr b (0+0),.int .i64 (.ofNat aI)] (h.room 8)=.ret (.aK []) al/\∃bw:Nat,ay al r (0+0)=some (.int .i64 (.ofNat bw))/\(bw=6->∃s1:List UInt8,ay (al.room 8) r (0+1)=some (.str s1)/\∃au:J,(Y m) (.fn 38) [.ptr b (0+0),.str s1] (al.room 8)=.ret (.aK []) au/\R (.ret (.aK []) au))/\(¬bw=6->(bw=7->∃v1:I,ay (al.room 9) r (0+2)=some v1/\∃cH:Nat,cb Tryz.prog (al.room 9) 48 v1=some (.int .i64 (.ofNat cH))/\∃a7:J,(Y m) (.fn 41) [.ptr b (0+0),.int .i64 (.ofNat cH)] (al.room 9)=.ret (.aK []) a7/\I.sound v1=true/\∃v2:I,ay a7 r (0+2)=some v2/\∃cZ:Nat,cb Tryz.prog a7 48 v2=some (.int .i64 (.ofNat cZ))/\bm Tryz.prog Tryz.f81 (Y m) [1,1,0,1,1,1,0,1,1,0] (ao.mk [(0,.ptr b 0),(1,.ptr r 0),(42,v2),(43,.int .i64 (.ofNat cZ)),(44,.int .i64 (.ofNat 0))] [] .none a7) (λcE cF=>∃b8:J,∃bq:Env,cE=.exit 1/\cF=ao.mk bq [] .none b8/\cl [] bq/\R (.ret (.aK []) b8)))/\(¬bw=7->(bw=8->∃cX:I,ay al r (0+3)=some cX/\∃db:J,(Y m) (.fn 93) [.ptr b 0,cX,.fn 81 [.ptr b 0] []] al=.ret (.aK []) db/\∃v4:I,ay db r (0+4)=some v4/\∃e7:J,(Y m) (.fn 81) [.ptr b 0,v4] db=.ret (.aK []) e7/\R (.ret (.aK []) e7))/\(¬bw=8->(bw=9->∃ie:I,ay al r (0+3)=some ie/\∃hj:J,(Y m) (.fn 93) [.ptr b 0,ie,.fn 81 [.ptr b 0] []] al=.ret (.aK []) hj/\R (.ret (.aK []) hj))/\(¬bw=9->R (.ret (.aK []) al)))))):
  R (Y (m+1) (.fn 81) [.ptr b 0,.ptr r 0] h):=
 dd (intr:=bW) [(78,.b1 .o),(4001,.gw [0,1,42,43,44] [(.exit 1,[])])] [(0,.v (.ptr b 0)),(1,.v (.ptr r 0))] Tryz.func81 (by kernel_rfl) (by kernel_rfl) (by kernel_rfl) rfl (Eq.mp (by kernel_rfl) H)
theorem Ur(call:aP->List I->J->av)(b:Nat)(r:Nat)(a4:Nat)(c0:Nat)(dS:Nat)(i:Nat)(c1:cf)(h:J){Q:bu->ao->Prop}(H:(i<dS->i<dS/\∃s1:List UInt8,ay h a4 (c0+i*1)=some (.str s1)/\∃al:J,call (.fn 38) [.ptr b (0+0),.str s1] h=.ret (.aK []) al/\∃aI:Nat,∃bw:Nat,∃cH:Nat,∃c2:cf,ay al r (0+3)=some (.slice aI bw cH c2)/\i<cH/\∃cZ:Nat,ay al aI (bw+i*1)=some (.ptr cZ 0)/\∃au:J,call (.fn 81) [.ptr b 0,.ptr cZ 0] al=.ret (.aK []) au/\i+1<9223372036854775808/\Q .nrm (ao.mk [(0,.ptr b 0),(1,.ptr r 0),(42,.slice a4 c0 dS c1),(43,.int .i64 (.ofNat dS)),(44,.int .i64 (.ofNat (i+1)))] [] .none au))/\(¬i<dS->Q (.exit 1) (ao.mk [(0,.ptr b 0),(1,.ptr r 0),(42,.slice a4 c0 dS c1),(43,.int .i64 (.ofNat dS)),(44,.int .i64 (.ofNat i))] [] .none h))):
  bm Tryz.prog Tryz.f81 call [1,1,0,1,1,1,0,1,1,0,0] ⟨[(0,.ptr b 0),(1,.ptr r 0),(42,.slice a4 c0 dS c1),(43,.int .i64 (.ofNat dS)),(44,.int .i64 (.ofNat i))],[],.none,h⟩ Q:=
 e9 [(58,.b1 .hz)] [0,1,42,43,44] [(0,.v (.ptr b 0)),(1,.v (.ptr r 0)),(42,.v (.slice a4 c0 dS c1)),(43,.v (.int .i64 (.ofNat dS))),(44,.v (.int .i64 (.ofNat i)))] rfl (Eq.mp (by kernel_rfl) H)
theorem Us(call:aP->List I->J->av)(b:Nat)(r:Nat)(N:Nat)(i:Nat)(v:I)(h:J){Q:bu->ao->Prop}(H:¬i<N/\Q (.exit 1) (ao.mk [] [] .none h)):
  bm Tryz.prog Tryz.f81 call [1,1,0,1,1,1,0,1,1,0,0] ⟨[(0,.ptr b 0),(1,.ptr r 0),(42,v),(43,.int .i64 (.ofNat N)),(44,.int .i64 (.ofNat i))],[],.none,h⟩ Q:=
 e9 [(1045,.f)] [] [(0,.v (.ptr b 0)),(1,.v (.ptr r 0)),(42,.o v),(43,.v (.int .i64 (.ofNat N))),(44,.v (.int .i64 (.ofNat i)))] rfl (Eq.mp (by kernel_rfl) H)
theorem Ut(m:Nat)(b:Nat)(v:I)(h:J){R:av->Prop}(H:∃aI:Nat,cb Tryz.prog h 49 v=some (.int .i64 (.ofNat aI))/\∃al:J,(Y m) (.fn 41) [.ptr b (0+0),.int .i64 (.ofNat aI)] h=.ret (.aK []) al/\∃bw:Nat,cb Tryz.prog al 49 v=some (.int .i64 (.ofNat bw))/\bm Tryz.prog Tryz.f93 (Y m) [1,1,0] (ao.mk [(2,.fn 81 [.ptr b 0] []),(14,v),(15,.int .i64 (.ofNat bw)),(16,.int .i64 (.ofNat 0))] [] .none al) (λcE cF=>∃au:J,∃bq:Env,cE=.exit 0/\cF=ao.mk bq [] .none au/\cl [] bq/\R (.ret (.aK []) au))):
  R (Y (m+1) (.fn 93) [.ptr b 0,v,.fn 81 [.ptr b 0] []] h):=
 dd (intr:=bW) [(4000,.gw [2,14,15,16] [(.exit 0,[])])] [(0,.v (.ptr b 0)),(1,.o v),(2,.v (.fn 81 [.ptr b 0] []))] Tryz.func93 (by kernel_rfl) (by kernel_rfl) (by kernel_rfl) rfl (Eq.mp (by kernel_rfl) H)
theorem Uu(call:aP->List I->J->av)(b:Nat)(a4:Nat)(c0:Nat)(dS:Nat)(i:Nat)(c1:cf)(h:J){Q:bu->ao->Prop}(H:(i<dS->i<dS/\∃aI:Nat,ay h a4 (c0+i*1)=some (.ptr aI 0)/\∃al:J,call (.fn 81) [.ptr b 0,.ptr aI 0] h=.ret (.aK []) al/\i+1<9223372036854775808/\Q .nrm (ao.mk [(2,.fn 81 [.ptr b 0] []),(14,.slice a4 c0 dS c1),(15,.int .i64 (.ofNat dS)),(16,.int .i64 (.ofNat (i+1)))] [] .none al))/\(¬i<dS->Q (.exit 0) (ao.mk [(2,.fn 81 [.ptr b 0] []),(14,.slice a4 c0 dS c1),(15,.int .i64 (.ofNat dS)),(16,.int .i64 (.ofNat i))] [] .none h))):
  bm Tryz.prog Tryz.f93 call [1,1,0,0] ⟨[(2,.fn 81 [.ptr b 0] []),(14,.slice a4 c0 dS c1),(15,.int .i64 (.ofNat dS)),(16,.int .i64 (.ofNat i))],[],.none,h⟩ Q:=
 e9 [] [2,14,15,16] [(2,.v (.fn 81 [.ptr b 0] [])),(14,.v (.slice a4 c0 dS c1)),(15,.v (.int .i64 (.ofNat dS))),(16,.v (.int .i64 (.ofNat i)))] rfl (Eq.mp (by kernel_rfl) H)
theorem Uv(call:aP->List I->J->av)(b:Nat)(N:Nat)(i:Nat)(v:I)(h:J){Q:bu->ao->Prop}(H:¬i<N/\Q (.exit 0) (ao.mk [] [] .none h)):
  bm Tryz.prog Tryz.f93 call [1,1,0,0] ⟨[(2,.fn 81 [.ptr b 0] []),(14,v),(15,.int .i64 (.ofNat N)),(16,.int .i64 (.ofNat i))],[],.none,h⟩ Q:=
 e9 [(1017,.f)] [] [(2,.v (.fn 81 [.ptr b 0] [])),(14,.o v),(15,.v (.int .i64 (.ofNat N))),(16,.v (.int .i64 (.ofNat i)))] rfl (Eq.mp (by kernel_rfl) H)
theorem Uw(m:Nat)(b:Nat)(v:I)(h:J){R:av->Prop}(H:∃aI:Nat,cb Tryz.prog h 22 v=some (.int .i64 (.ofNat aI))/\∃al:J,(Y m) (.fn 41) [.ptr b (0+0),.int .i64 (.ofNat aI)] h=.ret (.aK []) al/\∃bw:Nat,cb Tryz.prog al 22 v=some (.int .i64 (.ofNat bw))/\bm Tryz.prog Tryz.f65 (Y m) [1,1,0] (ao.mk [(2,.fn 66 [.ptr b 0] []),(14,v),(15,.int .i64 (.ofNat bw)),(16,.int .i64 (.ofNat 0))] [] .none al) (λcE cF=>∃au:J,∃bq:Env,cE=.exit 0/\cF=ao.mk bq [] .none au/\cl [] bq/\R (.ret (.aK []) au))):
  R (Y (m+1) (.fn 65) [.ptr b 0,v,.fn 66 [.ptr b 0] []] h):=
 dd (intr:=bW) [(4000,.gw [2,14,15,16] [(.exit 0,[])])] [(0,.v (.ptr b 0)),(1,.o v),(2,.v (.fn 66 [.ptr b 0] []))] Tryz.func65 (by kernel_rfl) (by kernel_rfl) (by kernel_rfl) rfl (Eq.mp (by kernel_rfl) H)
theorem Ux(call:aP->List I->J->av)(b:Nat)(a4:Nat)(c0:Nat)(dS:Nat)(i:Nat)(c1:cf)(h:J){Q:bu->ao->Prop}(H:i<dS/\i<dS/\∃s1:List UInt8,∃v1:I,aw.loadCells h a4 (c0+i*2) 2=some [.str s1,v1]/\I.bC v1=true/\∃al:J,aw.storeCells (J.push h (.cells [.str [],.bd] 53 .own 0 0)) h.n 0 [.str s1,v1]=some al/\∃s2:List UInt8,∃v2:I,aw.loadCells al h.n 0 2=some [.str s2,v2]/\∃au:J,call (.fn 66) [.ptr b 0,.agg [.str s2,v2]] al=.ret (.aK []) au/\i+1<9223372036854775808/\Q .nrm (ao.mk [(2,.fn 66 [.ptr b 0] []),(14,.slice a4 c0 dS c1),(15,.int .i64 (.ofNat dS)),(16,.int .i64 (.ofNat (i+1)))] [] .none au)):
  bm Tryz.prog Tryz.f65 call [1,1,0,0] ⟨[(2,.fn 66 [.ptr b 0] []),(14,.slice a4 c0 dS c1),(15,.int .i64 (.ofNat dS)),(16,.int .i64 (.ofNat i))],[],.none,h⟩ Q:=
 e9 [(1017,.t),(19,.b1 (.ee [.st,.o])),(21,.b1 (.ee [.st,.o]))] [2,14,15,16] [(2,.v (.fn 66 [.ptr b 0] [])),(14,.v (.slice a4 c0 dS c1)),(15,.v (.int .i64 (.ofNat dS))),(16,.v (.int .i64 (.ofNat i)))] rfl (Eq.mp (by kernel_rfl) H)
theorem Uy(call:aP->List I->J->av)(b:Nat)(N:Nat)(i:Nat)(v:I)(h:J){Q:bu->ao->Prop}(H:¬i<N/\Q (.exit 0) (ao.mk [] [] .none h)):
  bm Tryz.prog Tryz.f65 call [1,1,0,0] ⟨[(2,.fn 66 [.ptr b 0] []),(14,v),(15,.int .i64 (.ofNat N)),(16,.int .i64 (.ofNat i))],[],.none,h⟩ Q:=
 e9 [(1017,.f)] [] [(2,.v (.fn 66 [.ptr b 0] [])),(14,.o v),(15,.v (.int .i64 (.ofNat N))),(16,.v (.int .i64 (.ofNat i)))] rfl (Eq.mp (by kernel_rfl) H)
theorem Uz(m:Nat)(b:Nat)(n:List UInt8)(w:I)(h:J){R:av->Prop}(H:I.bC w=true/\∃s1:List UInt8,ay (J.room (J.push h (.cells [.str n,w] 53 .own 0 0)) 6) h.n (0+0)=some (.str s1)/\∃al:J,(Y m) (.fn 38) [.ptr b (0+0),.str s1] (J.room (J.push h (.cells [.str n,w] 53 .own 0 0)) 6)=.ret (.aK []) al/\∃v1:I,ay al h.n (0+1)=some v1/\∃au:J,(Y m) (.fn 81) [.ptr b 0,v1] al=.ret (.aK []) au/\R (.ret (.aK []) au)):
  R (Y (m+1) (.fn 66) [.ptr b 0,.agg [.str n,w]] h):=
 dd (intr:=bW) [(12,.b1 .o)] [(0,.v (.ptr b 0)),(1,.ee [.v (.str n),.o w])] Tryz.func66 (by kernel_rfl) (by kernel_rfl) (by kernel_rfl) rfl (Eq.mp (by kernel_rfl) H)
theorem UA(m:Nat)(b:Nat)(p:List UInt8)(dz:Bool)(vv:I)(bE:I)(h:J){R:av->Prop}(H:I.bC vv=true/\I.bC bE=true/\∃s1:List UInt8,ay (J.room (J.push h (.cells [.str p,.bool dz,vv,bE] 24 .own 0 0)) 6) h.n (0+0)=some (.str s1)/\∃al:J,(Y m) (.fn 38) [.ptr b (0+0),.str s1] (J.room (J.push h (.cells [.str p,.bool dz,vv,bE] 24 .own 0 0)) 6)=.ret (.aK []) al/\∃a4:Bool,ay al h.n (0+1)=some (.bool a4)/\(a4=true->∃au:J,(Y m) (.fn 41) [.ptr b (0+0),.int .i64 (.ofNat 1)] al=.ret (.aK []) au/\R (.ret (.aK []) au))/\(a4=false->∃a7:J,(Y m) (.fn 41) [.ptr b (0+0),.int .i64 (.ofNat 0)] al=.ret (.aK []) a7/\∃v1:I,ay a7 h.n (0+2)=some v1/\∃b8:J,(Y m) (.fn 65) [.ptr b 0,v1,.fn 66 [.ptr b 0] []] a7=.ret (.aK []) b8/\∃v2:I,ay b8 h.n (0+3)=some v2/\∃db:J,(Y m) (.fn 65) [.ptr b 0,v2,.fn 66 [.ptr b 0] []] b8=.ret (.aK []) db/\R (.ret (.aK []) db))):
  R (Y (m+1) (.fn 42) [.ptr b 0,.agg [.str p,.bool dz,vv,bE]] h):=
 dd (intr:=bW) [] [(0,.v (.ptr b 0)),(1,.ee [.v (.str p),.v (.bool dz),.o vv,.o bE])] Tryz.func42 (by kernel_rfl) (by kernel_rfl) (by kernel_rfl) rfl (Eq.mp (by kernel_rfl) H)
theorem UB(m:Nat)(v:I)(h:J){R:av->Prop}(H:∃aI:Nat,cb Tryz.prog h 22 v=some (.int .i64 (.ofNat aI))/\bm Tryz.prog Tryz.f56 (Y m) [1,1,0,1,0] (ao.mk [(3,.str []),(6,v),(7,.int .i64 (.ofNat aI)),(8,.int .i64 (.ofNat 0))] [] .none h) (λcE cF=>((∃al:J,∃bq:Env,cE=.exit 0/\cF=ao.mk bq [] .none al/\cl [] bq/\R (.ret (.bool true) al))\/(∃au:J,∃bT:Env,cE=.ret/\cF=ao.mk bT [] .none au/\cl [(2,.bool false)] bT/\R (.ret (.bool false) au))))):
  R (Y (m+1) (.fn 56) [v] h):=
 dd (intr:=bW) [(4000,.gw [3,6,7,8] [(.exit 0,[]),(.ret,[(2,.is (.bool false))])])] [(0,.o v)] Tryz.func56 (by kernel_rfl) (by kernel_rfl) (by kernel_rfl) rfl (Eq.mp (by kernel_rfl) H)
theorem UC(call:aP->List I->J->av)(a4:Nat)(c0:Nat)(dS:Nat)(i:Nat)(c1:cf)(l:List UInt8)(h:J){Q:bu->ao->Prop}(H:i<dS/\i<dS/\∃s1:List UInt8,∃v1:I,aw.loadCells h a4 (c0+i*2) 2=some [.str s1,v1]/\I.bC v1=true/\∃al:J,aw.storeCells (J.push h (.cells [.str [],.bd] 53 .own 0 0)) h.n 0 [.str s1,v1]=some al/\∃s2:List UInt8,ay al h.n (0+0)=some (.str s2)/\((!eA l s2)=true->Q .ret (ao.mk [(2,.bool false),(3,.str l),(6,.slice a4 c0 dS c1),(7,.int .i64 (.ofNat dS)),(8,.int .i64 (.ofNat i))] [] .none al))/\((!eA l s2)=false->∃bI:List UInt8,ay al h.n (0+0)=some (.str bI)/\(24<List.length bI->Q .ret (ao.mk [(2,.bool false),(3,.str l),(6,.slice a4 c0 dS c1),(7,.int .i64 (.ofNat dS)),(8,.int .i64 (.ofNat i))] [] .none al))/\(¬24<List.length bI->∃v2:I,ay al h.n (0+1)=some v2/\∃aI:Nat,∃au:J,call (.fn 76) [v2] al=.ret (.int .i64 (.ofNat aI)) au/\(aI=0->∃cq:List UInt8,ay au h.n (0+0)=some (.str cq)/\i+1<9223372036854775808/\Q .nrm (ao.mk [(3,.str cq),(6,.slice a4 c0 dS c1),(7,.int .i64 (.ofNat dS)),(8,.int .i64 (.ofNat (i+1)))] [] .none au))/\(¬aI=0->Q .ret (ao.mk [(2,.bool false),(3,.str l),(6,.slice a4 c0 dS c1),(7,.int .i64 (.ofNat dS)),(8,.int .i64 (.ofNat i))] [] .none au))))):
  bm Tryz.prog Tryz.f56 call [1,1,0,1,0,0] ⟨[(3,.str l),(6,.slice a4 c0 dS c1),(7,.int .i64 (.ofNat dS)),(8,.int .i64 (.ofNat i))],[],.none,h⟩ Q:=
 e9 [(1009,.t),(11,.b1 (.ee [.st,.o])),(24,.b1 .o)] [2,3,6,7,8] [(3,.v (.str l)),(6,.v (.slice a4 c0 dS c1)),(7,.v (.int .i64 (.ofNat dS))),(8,.v (.int .i64 (.ofNat i)))] rfl (Eq.mp (by kernel_rfl) H)
theorem UD(call:aP->List I->J->av)(N:Nat)(i:Nat)(l:List UInt8)(v:I)(h:J){Q:bu->ao->Prop}(H:¬i<N/\Q (.exit 0) (ao.mk [] [] .none h)):
  bm Tryz.prog Tryz.f56 call [1,1,0,1,0,0] ⟨[(3,.str l),(6,v),(7,.int .i64 (.ofNat N)),(8,.int .i64 (.ofNat i))],[],.none,h⟩ Q:=
 e9 [(1009,.f)] [] [(3,.v (.str l)),(6,.o v),(7,.v (.int .i64 (.ofNat N))),(8,.v (.int .i64 (.ofNat i)))] rfl (Eq.mp (by kernel_rfl) H)
theorem UE(m:Nat)(p:List UInt8)(dz:Bool)(vv:I)(bE:I)(h:J){R:av->Prop}(H:I.bC vv=true/\I.bC bE=true/\∃v1:I,ay (J.push h (.cells [.str p,.bool dz,vv,bE] 24 .own 0 0)) h.n (0+2)=some v1/\∃a4:Bool,∃al:J,(Y m) (.fn 56) [v1] (J.push h (.cells [.str p,.bool dz,vv,bE] 24 .own 0 0))=.ret (.bool a4) al/\(a4=true->∃v2:I,ay al h.n (0+3)=some v2/\∃a_:Bool,∃au:J,(Y m) (.fn 56) [v2] al=.ret (.bool a_) au/\(a_=true->∃cO:Bool,ay au h.n (0+1)=some (.bool cO)/\(cO=true->∃cX:I,ay au h.n (0+2)=some cX/\∃aI:Nat,cb Tryz.prog au 22 cX=some (.int .i64 (.ofNat aI))/\∃v4:I,ay au h.n (0+3)=some v4/\∃bw:Nat,cb Tryz.prog au 22 v4=some (.int .i64 (.ofNat bw))/\aI+bw<9223372036854775808/\R (.ret (.bool (cU (.ofNat (aI+bw)) (.ofNat 0))) au))/\(cO=false->R (.ret (.bool true) au)))/\(a_=false->R (.ret (.bool false) au)))/\(a4=false->R (.ret (.bool false) al))):
  R (Y (m+1) (.fn 29) [.agg [.str p,.bool dz,vv,bE]] h):=
 dd (intr:=bW) [] [(0,.ee [.v (.str p),.v (.bool dz),.o vv,.o bE])] Tryz.func29 (by kernel_rfl) (by kernel_rfl) (by kernel_rfl) rfl (Eq.mp (by kernel_rfl) H)
def iG(aW ws:List aJ):List aJ:=List.zipWith (λn w=>cS n++w) aW ws
def k0(k:Nat)(bP:aJ)(aW ws:List aJ)(r:aJ):aJ:=
 if k=6 then cS bP else if k=7 then b_ aW.length++(iG aW ws).flatten else if k=8 then b_ ws.length++ws.flatten++r else if k=9 then b_ ws.length++ws.flatten else[]
mutual
def hX:aZ->aJ
 |.mk k bP aW xs rt=>b_ k++k0 k bP aW (dT xs) (ja rt)
def dT:List aZ->List aJ
 |[]=>[]
 |t::ts=>hX t::dT ts
def ja:Option aZ->aJ
 |none=>[]
 |some t=>hX t
end
theorem xc:∀l:List aZ,(dT l).length=l.length
 |[]=>by rw[dT];rfl
 |x::l=>by rw[dT];simp[xc l]
theorem zU:∀(l:List aZ) (i:Nat) (h:i<l.length) (ak:i<(dT l).length),(dT l)[i]=hX l[i]
 |[],i,h,_=>by simp at h
 |x::l,0,_,_=>by simp only[dT];rfl
 |x::l,i+1,h,ak=>by
  have:=zU l i (by simpa using h) (by rw[xc];simpa using h)
  simpa only[dT,List.getElem_cons_succ] using this
theorem JK(k:Nat)(bP:aJ)(aW:List aJ)(xs:List aZ)(rt:Option aZ):hX (.mk k bP aW xs rt)=b_ k++k0 k bP aW (dT xs) (ja rt):=by rw[hX]
theorem zV(l:List aJ){i:Nat}(h:i<l.length):(l.take (i+1)).flatten=(l.take i).flatten++l[i]:=by
 rw[List.take_succ_eq_append_getElem h,List.flatten_append];simp
theorem zW(l:List aJ)(i:Nat):(l.take i).flatten.length<=l.flatten.length:=by
 conv=>rhs;rw[<-List.take_append_drop i l]
 rw[List.flatten_append,List.length_append];omega
mutual
def ou:aZ->Bool
 |.mk k bP aW xs rt=>decide (k<=9)&&(decide (k≠7)||decide (xs.length=aW.length))&&(decide (k≠8)||rt.isSome)&&s0 xs&&xd rt
def s0:List aZ->Bool
 |[]=>true
 |t::ts=>ou t&&s0 ts
def xd:Option aZ->Bool
 |none=>true
 |some t=>ou t
end
mutual
theorem DS:∀t:aZ,okW t=true->ou t=true
 |.mk k bP aW xs rt,h=>by
  rw[okW] at h
  rw[ou]
  simp only[Bool.and_eq_true,decide_eq_true_eq] at h⊢
  obtain⟨⟨⟨⟨⟨_,aa⟩,ad⟩,ar⟩,aM⟩,bS⟩:=h
  exact⟨⟨⟨⟨aa,ad⟩,ar⟩,JL xs aM⟩,UF rt bS⟩
theorem JL:∀l:List aZ,sJ l=true->s0 l=true
 |[],_=>by rw[s0]
 |t::l,h=>by
  rw[sJ,Bool.and_eq_true] at h
  rw[s0,DS t h.1,JL l h.2];rfl
theorem UF:∀o:Option aZ,uu o=true->xd o=true
 |none,_=>by rw[xd]
 |some t,h=>by
  rw[uu] at h
  rw[xd];exact DS t h
end
theorem DT{t:aZ}:∀{l:List aZ},s0 l=true->t∈l->ou t=true
 |[],_,h=>by cases h
 |x::l,an,h=>by
  rw[s0,Bool.and_eq_true] at an
  rcases List.mem_cons.1 h with rfl|h
  · exact an.1
  · exact DT an.2 h
def gA(b:Nat)(h:J)(s:aJ):Prop:=b<h.n/\h.get b=some (.cells [.str s] 83 .own 0 0)
theorem gA.ext{b:Nat}{h g:J}{s:aJ}(an:gA b h s)(e:Ext h.n h g):gA b g s:=⟨Nat.lt_of_lt_of_le an.1 e.n,(e.get b an.1).trans an.2⟩
def mv(b:Nat)(h:J)(s:aJ)(x:av):Prop:=∃g,x=.ret (.aK []) g/\gA b g s/\ep b h.n h g
theorem UG(n:Nat)(aG:n<9223372036854775808)(h:J):fp Tryz.prog 3 65 (.int .i64 (Int.ofNat n)) h=.val (.int .u64 (Int.ofNat n)) h:=cT.JB n aG h
theorem pC(m b n:Nat)(s:aJ)(h:J)(an:gA b h s)(aG:n<=1000000000)(hs:s.length<=1000000000):mv b h (s++b_ n) (Y (m+5) (.fn 41) [.ptr b 0,.int .i64 (Int.ofNat n)] h):=by
 obtain⟨g,c,x⟩:=cT.JH m n s h (by omega) hs
 have p9:=(x.get b an.1).trans an.2
 refine Uo (m+4) b n h ⟨s,ba an.2 rfl,_,UG n (by omega) h,_,g,c,_,ia p9 rfl rfl,_,rfl,⟨Nat.lt_of_lt_of_le an.1 x.n,h_ rfl⟩,(x.mb b).trans (Nat.le_refl _) (ep.set _)⟩
theorem s3(m b:Nat)(s t:aJ)(h:J)(an:gA b h s)(hs:s.length<=100000000)(aQ:t.length<=100000000):mv b h (s++cS t) (Y (m+6) (.fn 38) [.ptr b 0,.str t] h):=by
 obtain⟨g,c,x⟩:=cT.Un m s t h hs aQ
 have p9:=(x.get b an.1).trans an.2
 refine Up (m+5) b t h ⟨s,ba an.2 rfl,_,g,c,_,ia p9 rfl rfl,_,rfl,⟨Nat.lt_of_lt_of_le an.1 x.n,h_ rfl⟩,(x.mb b).trans (Nat.le_refl _) (ep.set _)⟩
theorem _root_.aw.ep.tail{b:Nat}{h g k:J}(e:ep b h.n h g)(cx:ep b g.n g k):ep b h.n h k:=e.trans e.n cx
theorem _root_.aw.ep.xe{b:Nat}{h g:J}(n:Nat)(e:ep b h.n h g):ep b h.n h (g.room n):=e.trans e.n ((Ext.room _ g n).mb b)
theorem gA.room{b:Nat}{h:J}{s:aJ}(n:Nat)(an:gA b h s):gA b (h.room n) s:=⟨by simp;exact Nat.lt_of_lt_of_le an.1 (by omega),an.2⟩
theorem below{b B:Nat}{h g:J}(af:B<=b)(To:B<=h.n)(e:ep b h.n h g):Ext B h g:=⟨e.n,λd az=>e.get d (by omega) (by omega)⟩
theorem JM(m:Nat){b B:Nat}{h0:J}{v:I}{vs:List I}(ws:List aJ)(af:B<=b)(aB:dZ B h0 v vs)(hlen:vs.length<=90000)(jD:ws.length=vs.length)(hS:∀i (ae:i<vs.length),∃z,vs[i]=.ptr z 0)
  (oX:∀i (ae:i<vs.length) x s,gA b x s->Ext B h0 x->s.length+(wn ws i).length<=1000000->mv b x (s++wn ws i) (Y (m+5) (.fn 81) [.ptr b 0,vs[i]] x))
  {x:J}{s:aJ}(ab:gA b x s)(dt:Ext B h0 x)(an:s.length+(b_ ws.length++ws.flatten).length<=1000000):
  mv b x (s++(b_ ws.length++ws.flatten)) (Y (m+6) (.fn 93) [.ptr b 0,v,.fn 81 [.ptr b 0] []] x):=by
 have c6:∀g,Ext B h0 g->cb Tryz.prog g 49 v=some (.int .i64 (Int.ofNat vs.length)):=λg x=>(aB.bZ (ey.ext x (Nat.le_refl _))).len (t:=49) (e:=47) (by kernel_rfl)
 simp only[List.length_append] at an
 obtain⟨al,c1,bq,bb⟩:=pC m b vs.length s x ab (by omega) (by omega)
 have aC:=dt.trans (Nat.le_refl _) (below af (Nat.le_trans af (Nat.le_of_lt ab.1)) bb)
 refine Ut (m+5) b v x ⟨_,c6 x dt,al,c1,_,c6 al aC,?_⟩
 refine bm.loop (by kernel_rfl) (λk st=>∃i y Γ,st=⟨Γ,[],.none,y⟩/\cl [(2,.fn 81 [.ptr b 0] []),(14,v),(15,.int .i64 (Int.ofNat vs.length)),(16,.int .i64 (Int.ofNat i))] Γ/\vs.length-i=k/\i<=vs.length/\gA b y (s++(b_ ws.length++(ws.take i).flatten))/\ep b x.n x y) ?_ vs.length _ (by omega) ⟨0,al,_,rfl,⟨rfl,rfl,rfl,rfl,trivial⟩,by omega,by omega,by simpa[jD] using bq,bb⟩
 rintro k st ⟨i,y,Γ,rfl,cG,aq,ae,aU,hb⟩
 have fy:=dt.trans (Nat.le_refl _) (below af (Nat.le_trans af (Nat.le_of_lt ab.1)) hb)
 rcases aB with⟨rfl,rfl⟩|⟨dh,off,aE,rfl,xf,gj,a6,az⟩
 · have hw:ws=[]:=List.eq_nil_of_length_eq_zero jD
   subst hw
   exact bm.pre (Uv (Y (m+5)) b _ i .a0 y ⟨by simp,y,_,rfl,rfl,trivial,y,rfl,by simpa using aU,hb⟩) cG rfl rfl rfl
 · refine bm.pre (Uu (Y (m+5)) b dh off _ i aE y ⟨λaa=>?_,λaa=>?_⟩) cG rfl rfl rfl
   · have ad:i<ws.length:=by omega
     obtain⟨z,aT⟩:=hS i aa
     have t1:=zW ws (i+1)
     have t2:=zV ws ad
     rw[t2] at t1
     simp only[List.length_append] at t1
     have JN:wn ws i=ws[i]:=by simp[wn,ad]
     have UH:=oX i aa y _ aU fy (by rw[JN,List.length_append,List.length_append];omega)
     obtain⟨au,c2,bT,bz⟩:=UH
     rw[aT] at c2
     refine⟨aa,z,(gv fy xf (gj i aa)).trans (by rw[aT]),au,c2,by omega,_,(by show vs.length-(i+1)<k;omega),i+1,au,_,rfl,⟨rfl,rfl,rfl,rfl,trivial⟩,rfl,by omega,?_,hb.tail bz⟩
     rw[t2]
     simpa[wn,ad,List.append_assoc] using bT
   · refine⟨y,_,rfl,rfl,trivial,y,rfl,?_,hb⟩
     rw[List.take_of_length_le (by omega)] at aU
     exact aU
end Go.Proofs.cn
namespace Go.Proofs.cn
open Go aw Go.Proofs cu Go.Proofs.b0
open Go.Proofs.cT (cS)
open Go.Proofs.dV (b_)
set_option maxRecDepth 100000
set_option maxHeartbeats 1000000
theorem DU(t:aJ):t.length<=(cS t).length:=by simp[cT.cS]
theorem UI(aW ws:List aJ)(h:aW.length=ws.length):(iG aW ws).length=aW.length:=by unfold iG;rw[List.length_zipWith];omega
theorem UJ{aW ws:List aJ}{i:Nat}(ae:i<(iG aW ws).length)(aa:i<aW.length)(ad:i<ws.length):(iG aW ws)[i]=cS aW[i]++ws[i]:=List.getElem_zipWith (f:=λn w=>cS n++w) (h:=ae)
theorem gA.below{b B:Nat}{h0 x y:J}{s:aJ}(af:B<=b)(ab:gA b x s)(dt:Ext B h0 x)(hb:ep b x.n x y):Ext B h0 y:=dt.trans (Nat.le_refl _) (cn.below af (Nat.le_trans af (Nat.le_of_lt ab.1)) hb)
theorem ef.DV{B:Nat}{h:J}:∀{t:aZ} {v:I},ef B h t v->∃R,v=.ptr R 0
 |.mk cY dr h2 m5 pa,v,aQ=>by obtain⟨R,_,_,_,_,_,_,_,rfl,_⟩:=aQ;exact⟨R,rfl⟩
theorem JO:∀(K:Nat) (t:aZ),sz t<=K->ou t=true->sz t<=90000->jv t<=90000->∀(m b B:Nat) (h0:J) (v:I),B<=b->2*sz t+8<=m->ef B h0 t v->∀(x:J) (s:aJ),gA b x s->Ext B h0 x->s.length+(hX t).length<=1000000->mv b x (s++hX t) (Y m (.fn 81) [.ptr b 0,v] x)
 |0,t,dj,_,_,_,_,_,_,_,_,_,_,_,_,_,_,_,_=>by
  have:=qN t
  omega
 |K+1,.mk k bP aW xs rt,dj,du,gQ,nN,m,b,B,h0,v,af,hm,aB,x,s,ab,dt,an=>by
  obtain⟨R,dF,cB,dg,vs,b3,a9,up,rfl,ad,ar,aM,bS,cK,ew⟩:=aB
  rw[ou] at du
  simp only[Bool.and_eq_true,Bool.or_eq_true,decide_eq_true_eq] at du
  obtain⟨⟨⟨⟨sL,ni⟩,pz⟩,w2⟩,DF⟩:=du
  rw[sI] at dj gQ hm
  rw[jv] at nN
  rw[JK] at an⊢
  obtain⟨m,rfl⟩:∃j,m=j+7:=⟨m-7,by omega⟩
  have gH:=eg.len cK
  have nI:=uq xs
  have jD:=xc xs
  have wV:(aW.map I.str).length=aW.length:=List.length_map _
  have bg:∀(u:aZ),sz u<=K->ou u=true->sz u<=90000->jv u<=90000->∀(m b B:Nat) (h0:J) (v:I),B<=b->2*sz u+8<=m->ef B h0 u v->∀(x:J) (s:aJ),gA b x s->Ext B h0 x->s.length+(hX u).length<=1000000->mv b x (s++hX u) (Y m (.fn 81) [.ptr b 0,v] x):=JO K
  have hW:∀y,Ext B h0 y->y.get R=some (.cells [.int .i64 (Int.ofNat k),.str bP,dF,cB,dg] 51 b3 a9 up):=λy e=>(e.get R ad).trans ar
  have wW:∀g,Ext B h0 g->cb Tryz.prog g 48 dF=some (.int .i64 (Int.ofNat aW.length)):=λg x=>by
   rw[<-wV];exact(aM.bZ (ey.ext x (Nat.le_refl _))).len (t:=48) (e:=9) (by kernel_rfl)
  have item:∀i (ae:i<vs.length) y s,gA b y s->Ext B h0 y->s.length+(wn (dT xs) i).length<=1000000->mv b y (s++wn (dT xs) i) (Y (m+5) (.fn 81) [.ptr b 0,vs[i]] y):=λi ae y s aU fy an=>by
   have i2:i<xs.length:=by omega
   have aT:=m7 (List.getElem_mem i2)
   have aG:=wL (List.getElem_mem i2)
   rw[show wn (dT xs) i=hX xs[i] by simp[wn,jD,i2,zU xs i i2]] at an⊢
   exact bg xs[i] (by omega) (DT w2 (List.getElem_mem i2)) (by omega) (by omega) (m+5) b B h0 vs[i] af (by omega) (eg.get cK i ae i2) y s aU fy an
  simp only[List.length_append] at an
  have UK:Ext B h0 (x.room 8):=dt.trans (Nat.le_refl _) (Ext.room B x 8)
  obtain⟨al,c1,bq,bb⟩:=pC (m+1) b k s (x.room 8) (ab.room 8) (by omega) (by omega)
  have qV:ep b x.n x (x.room 8):=(ep.refl b x.n x).xe 8
  have gO:ep b x.n x al:=qV.trans (Nat.le_trans ab.1 (Nat.le_refl _)|> λ_=>by simp) bb
  have aC:=ab.below af dt gO
  refine Uq (m+6) b R x ⟨k,ba (hW _ UK) rfl,al,c1,k,ba (hW _ aC) rfl,λhv=>?_,λhv=>⟨λhM=>?_,λhM=>⟨λjk=>?_,λjk=>⟨λjW=>?_,λjW=>?_⟩⟩⟩⟩
  · subst hv
    have ai:k0 6 bP aW (dT xs) (ja rt)=cS bP:=rfl
    rw[ai] at an⊢
    have:=DU bP
    have zX:=aC.trans (Nat.le_refl _) (Ext.room B al 8)
    obtain⟨au,c2,bT,bz⟩:=s3 m b (s++b_ 6) bP (al.room 8) (bq.room 8) (by rw[List.length_append];omega) (by omega)
    exact⟨bP,ba (hW _ zX) rfl,au,c2,au,rfl,by rw[<-List.append_assoc];exact bT,(gO.xe 8).trans (gO.xe 8).n bz⟩
  · subst hM
    have v5:xs.length=aW.length:=by rcases ni with ni|ni;exact absurd rfl ni;exact ni
    have ai:k0 7 bP aW (dT xs) (ja rt)=b_ aW.length++(iG aW (dT xs)).flatten:=rfl
    rw[ai] at an⊢
    simp only[List.length_append] at an
    have zX:=aC.trans (Nat.le_refl _) (Ext.room B al 9)
    have mM:=UI aW (dT xs) (by omega)
    obtain⟨au,c2,bT,bz⟩:=pC (m+1) b aW.length (s++b_ 7) (al.room 9) (bq.room 9) (by omega) (by rw[List.length_append];omega)
    have k1:ep b x.n x au:=(gO.xe 9).trans (gO.xe 9).n bz
    have ax:=ab.below af dt k1
    refine⟨dF,ba (hW _ zX) rfl,_,wW _ zX,au,c2,aM.snd,dF,ba (hW _ ax) rfl,_,wW _ ax,?_⟩
    refine bm.loop (by kernel_rfl) (λt st=>∃i y Γ,st=⟨Γ,[],.none,y⟩/\cl [(0,.ptr b 0),(1,.ptr R 0),(42,dF),(43,.int .i64 (Int.ofNat aW.length)),(44,.int .i64 (Int.ofNat i))] Γ/\aW.length-i=t/\i<=aW.length/\gA b y (s++b_ 7++b_ aW.length++((iG aW (dT xs)).take i).flatten)/\ep b x.n x y) ?_ aW.length _ (by omega) ⟨0,au,_,rfl,⟨rfl,rfl,rfl,rfl,rfl,trivial⟩,by omega,by omega,by simpa using bT,k1⟩
    rintro t st ⟨i,y,Γ,rfl,cG,aQ,ae,aU,hb⟩
    have fy:=ab.below af dt hb
    have JP:i=aW.length->gA b y (s++(b_ 7++(b_ aW.length++(iG aW (dT xs)).flatten))):=λe=>by
     rw[List.take_of_length_le (by omega)] at aU
     simpa only[List.append_assoc] using aU
    rcases aM.strs with⟨rfl,rfl⟩|⟨a4,c0,UL,rfl,jq,UM⟩
    · exact bm.pre (Us (Y (m+6)) b R _ i .a0 y ⟨by simp,y,_,rfl,rfl,trivial,y,rfl,JP (by simp at ae;simp[ae]),hb⟩) cG rfl rfl rfl
    · refine bm.pre (Ur (Y (m+6)) b R a4 c0 _ i UL y ⟨λaa=>?_,λaa=>?_⟩) cG rfl rfl rfl
      · have i2:i<(dT xs).length:=by omega
        have i3:i<(iG aW (dT xs)).length:=by omega
        have i4:i<vs.length:=by omega
        have t1:=zW (iG aW (dT xs)) (i+1)
        have t2:=zV (iG aW (dT xs)) i3
        have t3:=UJ i3 aa i2
        have JN:wn (dT xs) i=(dT xs)[i]:=by simp[wn,i2]
        rw[t2,t3] at t1
        simp only[List.length_append] at t1
        have t4:=DU aW[i]
        rcases bS with⟨_,Bo⟩|⟨a_,e6,cy,rfl,dw,UN,_⟩
        · rw[Bo] at i4;simp at i4
        obtain⟨a7,c3,eI,cP⟩:=s3 m b (s++b_ 7++b_ aW.length++((iG aW (dT xs)).take i).flatten) aW[i] y aU (by simp only[List.length_append];omega) (by omega)
        have sU:=hb.trans hb.n cP
        have bp:=ab.below af dt sU
        obtain⟨z,aT⟩:=ef.DV (eg.get cK i i4 (by omega))
        obtain⟨b8,c4,iY,iB⟩:=bg xs[i] (by have:=m7 (List.getElem_mem (l:=xs) (n:=i) (by omega));omega) (DT w2 (List.getElem_mem (by omega))) (by have:=m7 (List.getElem_mem (l:=xs) (n:=i) (by omega));omega) (by have:=wL (List.getElem_mem (l:=xs) (n:=i) (by omega));omega) (m+6) b B h0 vs[i] af (by have:=m7 (List.getElem_mem (l:=xs) (n:=i) (by omega));omega) (eg.get cK i i4 (by omega)) a7 _ eI bp (by rw[<-zU xs i (by omega) i2];simp only[List.length_append];omega)
        rw[aT] at c4
        refine⟨aa,aW[i],gv fy jq (UM i aa),a7,c3,a_,e6,_,cy,ba (hW _ bp) rfl,i4,z,(gv bp dw (UN i i4)).trans (by rw[aT]),b8,c4,by omega,_,(by show aW.length-(i+1)<t;omega),i+1,b8,_,rfl,⟨rfl,rfl,rfl,rfl,rfl,trivial⟩,rfl,by omega,?_,sU.trans sU.n iB⟩
        rw[t2,t3,zU xs i (by omega) i2]
        simpa only[List.append_assoc] using iY
      · exact⟨y,_,rfl,rfl,trivial,y,rfl,JP (by omega),hb⟩
  · subst jk
    have ai:k0 8 bP aW (dT xs) (ja rt)=b_ (dT xs).length++(dT xs).flatten++ja rt:=rfl
    rw[ai] at an⊢
    simp only[List.length_append] at an
    obtain⟨au,c2,bT,bz⟩:=JM m (b:=b) (B:=B) (h0:=h0) (v:=cB) (vs:=vs) (dT xs) af bS (by omega) (by omega) (λi ae=>ef.DV (eg.get cK i ae (by omega))) item (x:=al) (s:=s++b_ 8) bq aC (by simp only[List.length_append];omega)
    have k1:=gO.trans gO.n bz
    have ax:=ab.below af dt k1
    cases rt with
    |none=>rcases pz with pz|pz<;>simp at pz
    |some u=>
     rw[kU] at dj gQ hm
     rw[ur] at nN
     have DI:ja (some u)=hX u:=by rw[ja]
     rw[DI] at an⊢
     rw[xd] at DF
     obtain⟨a7,c3,eI,cP⟩:=bg u (by omega) DF (by omega) (by omega) (m+6) b B h0 dg af (by omega) ew au _ bT ax (by simp only[List.length_append];omega)
     exact⟨cB,ba (hW _ aC) rfl,au,c2,dg,ba (hW _ ax) rfl,a7,c3,a7,rfl,by simpa only[List.append_assoc] using eI,k1.trans k1.n cP⟩
  · subst jW
    have ai:k0 9 bP aW (dT xs) (ja rt)=b_ (dT xs).length++(dT xs).flatten:=rfl
    rw[ai] at an⊢
    simp only[List.length_append] at an
    obtain⟨au,c2,bT,bz⟩:=JM m (b:=b) (B:=B) (h0:=h0) (v:=cB) (vs:=vs) (dT xs) af bS (by omega) (by omega) (λi ae=>ef.DV (eg.get cK i ae (by omega))) item (x:=al) (s:=s++b_ 9) bq aC (by simp only[List.length_append];omega)
    exact⟨cB,ba (hW _ aC) rfl,au,c2,au,rfl,by simpa only[List.append_assoc] using bT,gO.trans gO.n bz⟩
  · have ai:k0 k bP aW (dT xs) (ja rt)=[]:=by unfold k0;rw[if_neg hv,if_neg hM,if_neg jk,if_neg jW]
    rw[ai]
    exact⟨al,rfl,by simpa using bq,gO⟩
end Go.Proofs.cn
namespace Go.Proofs.cn
open Go aw Go.Proofs cu Go.Proofs.b0
open Go.Proofs.cT (cS)
open Go.Proofs.dV (b_)
set_option maxRecDepth 100000
set_option maxHeartbeats 1000000
abbrev ez:=aJ×Option aZ
def iH(B:Nat)(h:J)(v:I)(l:List ez):Prop:=(v=.a0/\l=[])\/∃b off aE,v=.slice b off l.length aE/\b<B/\(∀i (ae:i<l.length),∃w,aw.loadCells h b (off+i*2) 2=some [.str l[i].1,w]/\dB B h l[i].2 w)/\0<l.length/\aE≠ .dead
theorem iH.bZ{B:Nat}{h g:J}{v:I}{l:List ez}(e:Ext B h g)(ai:iH B h v l):iH B g v l:=by
 rcases ai with ai|⟨b,off,aE,aa,ad,aM,bS⟩
 · exact .inl ai
 · refine .inr ⟨b,off,aE,aa,ad,λi ae=>?_,bS⟩
   obtain⟨w,dp,cC⟩:=aM i ae
   refine⟨w,?_,dB.bZ (ey.ext e (Nat.le_refl _)) _ _ cC⟩
   rw[<-dp]
   unfold aw.loadCells
   rw[e.get b ad]
theorem iH.le{B C:Nat}{h:J}{v:I}{l:List ez}(e:B<=C)(ai:iH B h v l):iH C h v l:=by
 rcases ai with ai|⟨b,off,aE,aa,ad,aM,bS⟩
 · exact .inl ai
 · exact .inr ⟨b,off,aE,aa,by omega,λi ae=>by obtain⟨w,dp,cC⟩:=aM i ae;exact⟨w,dp,dB.le e _ _ cC⟩,bS⟩
theorem zY{B:Nat}{h y:J}{l:List ez}{b off:Nat}(af:b<B)(an:∀i (ae:i<l.length),∃w,aw.loadCells h b (off+i*2) 2=some [.str l[i].1,w]/\dB B h l[i].2 w)(fy:Ext B h y){i:Nat}(ae:i<l.length):∃w,aw.loadCells y b (off+i*2) 2=some [.str l[i].1,w]/\dB B y l[i].2 w:=by
 obtain⟨w,dp,cC⟩:=an i ae
 refine⟨w,?_,dB.bZ (ey.ext fy (Nat.le_refl _)) _ _ cC⟩
 rw[<-dp]
 unfold aw.loadCells
 rw[fy.get b af]
theorem iH.cell{B:Nat}{h:J}{v:I}{l:List ez}(ai:iH B h v l):v.bC=true:=by rcases ai with⟨rfl,_⟩|⟨b,off,aE,rfl,_⟩<;>rfl
theorem iH.snd{B:Nat}{h:J}{v:I}{l:List ez}(ai:iH B h v l):I.sound v=true:=by rcases ai with⟨rfl,_⟩|⟨b,off,aE,rfl,_⟩<;>rfl
theorem iH.len{B:Nat}{h:J}{v:I}{l:List ez}(ai:iH B h v l)(g:J):cb Tryz.prog g 22 v=some (.int .i64 (Int.ofNat l.length)):=by
 have hu:Tryz.prog.underlying 22=some (.slice 53):=by kernel_rfl
 rcases ai with⟨rfl,rfl⟩|⟨b,off,aE,rfl,_⟩
 · simp only[cb,hu];rfl
 · simp only[cb,hu]
theorem nn{B:Nat}{h:J}{ot:Option aZ}{v:I}(aB:dB B h ot v):v.bC=true:=by rcases aB.ux with rfl|⟨R,rfl⟩<;>rfl
theorem zZ{n a:aJ}{w c d:I}(hw:w.bC=true):eB 0 [.str n,w] [c,d]=some [.str n,w]:=tR [.str n,w] [c,d] (by simp[I.bC] at*;exact hw) (Nat.le_refl _)
def fit(o:Option aZ):Prop:=dA o<=100/\∀t,o=some t->jv t<=90000
def k2(last:aJ):List ez->Bool
 |[]=>true
 |e::l=>eA last e.1&&(decide (e.1.length<=24)&&(decide (lF e.2=0)&&k2 e.1 l))
def q0(l:List ez):Nat->aJ
 |0=>[]
 |i+1=>((l[i]?).map Prod.fst).getD []
theorem JQ{l:List ez}{i:Nat}(h:i<l.length):q0 l (i+1)=l[i].1:=by simp[q0,h]
theorem JR(m:Nat){B:Nat}{h:J}{v:I}{l:List ez}(bM:B<=h.n)(hm:450<=m)(ai:iH B h v l)(hlen:l.length<=90000)(hf:∀e∈l,fit e.2):bD B h (.bool (k2 [] l)) (Y (m+1) (.fn 56) [v] h):=by
 refine UB m v h ⟨_,ai.len h,?_⟩
 refine bm.loop (by kernel_rfl) (λk st=>∃i y Γ,st=⟨Γ,[],.none,y⟩/\cl [(3,.str (q0 l i)),(6,v),(7,.int .i64 (Int.ofNat l.length)),(8,.int .i64 (Int.ofNat i))] Γ/\l.length-i=k/\i<=l.length/\Ext B h y/\k2 [] l=k2 (q0 l i) (l.drop i)) ?_ l.length _ (by omega) ⟨0,h,_,rfl,⟨rfl,rfl,rfl,rfl,trivial⟩,by omega,by omega,Ext.refl _ _,rfl⟩
 rintro k st ⟨i,y,Γ,rfl,cG,aq,ae,fy,bh⟩
 by_cases aa:i<l.length
 · rcases ai with⟨_,rfl⟩|⟨b,off,aE,rfl,af,an,a6,az⟩
   · simp at aa
   obtain⟨w,ag,aQ⟩:=zY af an fy aa
   obtain⟨g,aj⟩:∃g,g=(y.push (.cells [.str [],.bd] 53 .own 0 0)).set y.n (some (.cells [.str l[i].1,w] 53 .own 0 0)):=⟨_,rfl⟩
   have b5:aw.storeCells (y.push (.cells [.str [],.bd] 53 .own 0 0)) y.n 0 [.str l[i].1,w]=some g:=by
    rw[aj];exact ia (eZ rfl) rfl (zZ (a:=[]) (nn aQ))
   have ov:g.get y.n=some (.cells [.str l[i].1,w] 53 .own 0 0):=by rw[aj];exact h_ rfl
   have eh:Ext y.n y g:=by rw[aj];exact(Ext.push (Nat.le_refl _) _).gK (Nat.le_refl _)
   have mw:=Nat.le_trans bM fy.n
   have my:Ext B h g:=fy.trans (Nat.le_refl _) (eh.le mw)
   have fH:y.n<g.n:=by rw[aj];simp
   rw[List.drop_eq_getElem_cons aa,k2] at bh
   refine bm.pre (UC (Y m) b off _ i aE (q0 l i) y ⟨aa,aa,_,w,ag,nn aQ,g,b5,_,ba ov rfl,λaf=>?_,λaf=>⟨_,ba ov rfl,λrj=>?_,λrj=>⟨_,ba ov rfl,?_⟩⟩⟩) cG rfl rfl rfl
   · have:eA (q0 l i) l[i].1=false:=by simpa using af
     exact .inr ⟨g,_,rfl,rfl,⟨rfl,trivial⟩,bD.of (dM (by rw[bh,this];rfl)) my⟩
   · exact .inr ⟨g,_,rfl,rfl,⟨rfl,trivial⟩,bD.of (dM (by rw[bh];simp[show¬l[i].1.length<=24 by omega])) my⟩
   · have cj:eA (q0 l i) l[i].1=true:=by simpa using af
     have vz:=hf l[i] (List.getElem_mem aa)
     obtain⟨au,c2,bz⟩:=TA (m-1) (ot:=l[i].2) (B:=g.n) (h:=g) (v:=w) (by have:=vz.1;omega) vz.2 (by have:=vz.1;omega) (Nat.le_refl _) (dB.le (Nat.le_trans mw eh.n) _ _ (dB.bZ (ey.ext (eh.le mw) (Nat.le_refl _)) _ _ aQ))
     rw[show m-1+1=m by omega] at c2
     have xg:Ext B h au:=my.trans (Nat.le_refl _) (bz.le (Nat.le_trans mw eh.n))
     refine⟨_,au,c2,λh0=>⟨_,ba ((bz.get y.n fH).trans ov) rfl,by omega,?_⟩,λh0=>?_⟩
     · refine⟨_,(by show l.length-(i+1)<k;omega),i+1,au,_,rfl,⟨by rw[JQ aa];rfl,rfl,rfl,rfl,trivial⟩,rfl,by omega,xg,?_⟩
       rw[bh,cj,h0,JQ aa];simp[show l[i].1.length<=24 by omega]
     · exact .inr ⟨au,_,rfl,rfl,⟨rfl,trivial⟩,bD.of (dM (by rw[bh];simp[h0])) xg⟩
 · refine bm.pre (UD (Y m) l.length i (q0 l i) v y ⟨aa,.inl ⟨y,_,rfl,rfl,trivial,bD.of (dM ?_) fy⟩⟩) cG rfl rfl rfl
   rw[bh,List.drop_of_length_le (by omega)];rfl
end Go.Proofs.cn
namespace Go.Proofs.cn
open Go aw Go.Proofs cu Go.Proofs.b0
open Go.Proofs.cT (cS)
open Go.Proofs.dV (b_)
set_option maxRecDepth 100000
set_option maxHeartbeats 1000000
def dE(e:ez):aJ:=cS e.1++ja e.2
def k3(l:List ez):aJ:=b_ l.length++(l.map dE).flatten
def q1(e:ez):Prop:=∃t,e.2=some t/\ou t=true/\sz t<=100/\jv t<=90000
theorem UO(m:Nat){b B:Nat}{h0 y:J}{s n:aJ}{ot:Option aZ}{w:I}(hm:220<=m)(af:B<=b)(aU:gA b y s)(fy:Ext B h0 y)(aQ:dB B h0 ot w)(an:q1 (n,ot))(hs:s.length+(dE (n,ot)).length<=1000000):mv b y (s++dE (n,ot)) (Y (m+1) (.fn 66) [.ptr b 0,.agg [.str n,w]] y):=by
 obtain⟨t,rfl,aa,ad,ar⟩:∃t,ot=some t/\ou t=true/\sz t<=100/\jv t<=90000:=an
 have he:dE (n,some t)=cS n++hX t:=by show cS n++ja (some t)=_;rw[ja]
 rw[he] at hs⊢
 simp only[List.length_append] at hs
 obtain⟨H,cR⟩:∃H,H=y.push (.cells [.str n,w] 53 .own 0 0):=⟨_,rfl⟩
 have dG:Ext y.n y H:=by rw[cR];exact Ext.push (Nat.le_refl _) _
 have jN:H.get y.n=some (.cells [.str n,w] 53 .own 0 0):=by rw[cR];exact eZ rfl
 have ml:y.n<H.n:=by rw[cR];simp
 have xh:=(aU.ext dG).room 6
 have t4:=DU n
 obtain⟨al,c1,bq,bb⟩:=s3 (m-6) b s n (H.room 6) xh (by omega) (by omega)
 rw[show m-6+6=m by omega] at c1
 have gO:ep b y.n y al:=(dG.mb b).trans dG.n (((Ext.room _ H 6).mb b).trans (Nat.le_refl _) (bb.le (by simp)))
 have aC:=aU.below af fy gO
 have z0:al.get y.n=some (.cells [.str n,w] 53 .own 0 0):=(bb.get y.n (by simp;omega) (by have:=aU.1;omega)).trans jN
 obtain⟨au,c2,bT,bz⟩:=JO (sz t) t (Nat.le_refl _) aa (by omega) (by omega) m b B h0 w af (by omega) aQ al _ bq aC (by simp only[List.length_append];omega)
 refine Uz m b n w y ⟨nn aQ,?_⟩
 rw[<-cR]
 exact⟨_,ba (tT jN) rfl,al,c1,_,ba z0 rfl,au,c2,au,rfl,by simpa only[List.append_assoc] using bT,gO.trans gO.n bz⟩
theorem JS(m:Nat){b B:Nat}{h0 x:J}{v:I}{l:List ez}{s:aJ}(hm:230<=m)(af:B<=b)(ai:iH B h0 v l)(hlen:l.length<=90000)(q2:∀e∈l,q1 e)(ab:gA b x s)(dt:Ext B h0 x)(an:s.length+(k3 l).length<=1000000):
  mv b x (s++k3 l) (Y (m+1) (.fn 65) [.ptr b 0,v,.fn 66 [.ptr b 0] []] x):=by
 have UP:k3 l=b_ l.length++(l.map dE).flatten:=rfl
 rw[UP] at an⊢
 simp only[List.length_append] at an
 obtain⟨al,c1,bq,bb⟩:=pC (m-5) b l.length s x ab (by omega) (by omega)
 rw[show m-5+5=m by omega] at c1
 refine Uw m b v x ⟨_,ai.len x,al,c1,_,ai.len al,?_⟩
 refine bm.loop (by kernel_rfl) (λk st=>∃i y Γ,st=⟨Γ,[],.none,y⟩/\cl [(2,.fn 66 [.ptr b 0] []),(14,v),(15,.int .i64 (Int.ofNat l.length)),(16,.int .i64 (Int.ofNat i))] Γ/\l.length-i=k/\i<=l.length/\gA b y (s++(b_ l.length++((l.map dE).take i).flatten))/\ep b x.n x y) ?_ l.length _ (by omega) ⟨0,al,_,rfl,⟨rfl,rfl,rfl,rfl,trivial⟩,by omega,by omega,by simpa using bq,bb⟩
 rintro k st ⟨i,y,Γ,rfl,cG,aq,ae,aU,hb⟩
 have fy:=ab.below af dt hb
 by_cases aa:i<l.length
 · rcases ai with⟨_,rfl⟩|⟨dh,off,aE,rfl,xf,gj,a6,az⟩
   · simp at aa
   obtain⟨w,ag,aQ⟩:=zY xf gj fy aa
   have ad:i<(l.map dE).length:=by simpa using aa
   have t1:=zW (l.map dE) (i+1)
   have t2:=zV (l.map dE) ad
   rw[t2,List.getElem_map] at t1
   simp only[List.length_append] at t1
   obtain⟨g,aj⟩:∃g,g=(y.push (.cells [.str [],.bd] 53 .own 0 0)).set y.n (some (.cells [.str l[i].1,w] 53 .own 0 0)):=⟨_,rfl⟩
   have b5:aw.storeCells (y.push (.cells [.str [],.bd] 53 .own 0 0)) y.n 0 [.str l[i].1,w]=some g:=by
    rw[aj];exact ia (eZ rfl) rfl (zZ (a:=[]) (nn aQ))
   have ov:g.get y.n=some (.cells [.str l[i].1,w] 53 .own 0 0):=by rw[aj];exact h_ rfl
   have eh:Ext y.n y g:=by rw[aj];exact(Ext.push (Nat.le_refl _) _).gK (Nat.le_refl _)
   have mw:B<=y.n:=Nat.le_trans af (Nat.le_of_lt aU.1)
   have my:=fy.trans (Nat.le_refl _) (eh.le mw)
   obtain⟨au,c2,bT,bz⟩:=UO (m-1) (b:=b) (B:=B) (h0:=y) (y:=g) (n:=l[i].1) (ot:=l[i].2) (w:=w) (by omega) af (aU.ext eh) (eh.le mw) aQ (q2 l[i] (List.getElem_mem aa)) (by simp only[List.length_append];show _+(dE l[i]).length<=_;omega)
   rw[show m-1+1=m by omega] at c2
   refine bm.pre (Ux (Y m) b dh off _ i aE y ⟨aa,aa,_,w,ag,nn aQ,g,b5,_,w,n1 ov rfl,au,c2,by omega,?_⟩) cG rfl rfl rfl
   refine⟨_,(by show l.length-(i+1)<k;omega),i+1,au,_,rfl,⟨rfl,rfl,rfl,rfl,trivial⟩,rfl,by omega,?_,hb.trans hb.n ((eh.mb b).trans eh.n bz)⟩
   rw[t2,List.getElem_map]
   simpa only[List.append_assoc] using bT
 · refine bm.pre (Uy (Y m) b l.length i v y ⟨aa,y,_,rfl,rfl,trivial,y,rfl,?_,hb⟩) cG rfl rfl rfl
   rw[List.take_of_length_le (by simp;omega)] at aU
   exact aU
end Go.Proofs.cn
namespace Go.Proofs.cn
open Go aw Go.Proofs cu Go.Proofs.b0
open Go.Proofs.cT (cS)
open Go.Proofs.dV (b_)
set_option maxRecDepth 100000
set_option maxHeartbeats 1000000
structure hY where
 path:aJ
 fo:Bool
 lL:List ez
 lM:List ez
def jb(x:hY):aJ:=cS x.path++(if x.fo then b_ 1 else b_ 0++(k3 x.lL++k3 x.lM))
def ko(x:hY):Bool:=k2 [] x.lL&&(k2 [] x.lM&&(!x.fo||decide (x.lL.length+x.lM.length=0)))
structure lN(B:Nat)(h:J)(vv bE:I)(x:hY):Prop where
 v:iH B h vv x.lL
 t:iH B h bE x.lM
theorem lN.bZ{B:Nat}{h g:J}{vv bE:I}{x:hY}(e:Ext B h g)(s:lN B h vv bE x):lN B g vv bE x:=⟨s.v.bZ e,s.t.bZ e⟩
theorem lN.le{B C:Nat}{h:J}{vv bE:I}{x:hY}(e:B<=C)(s:lN B h vv bE x):lN C h vv bE x:=⟨s.v.le e,s.t.le e⟩
structure np(x:hY):Prop where
 p:x.path.length<=90000
 c6:x.lL.length<=90000
 lt:x.lM.length<=90000
 kG:∀e∈x.lL,fit e.2
 z1:∀e∈x.lM,fit e.2
abbrev mz(p:aJ)(b:Bool)(vv bE:I):ca:=.cells [.str p,.bool b,vv,bE] 24 .own 0 0
theorem UQ(m:Nat){B:Nat}{h:J}{vv bE:I}{x:hY}(hm:460<=m)(bM:B<=h.n)(hs:lN B h vv bE x)(hf:np x):bD B h (.bool (ko x)) (Y (m+1) (.fn 29) [.agg [.str x.path,.bool x.fo,vv,bE]] h):=by
 obtain⟨H,cR⟩:∃H,H=h.push (mz x.path x.fo vv bE):=⟨_,rfl⟩
 have dG:Ext B h H:=by rw[cR];exact Ext.push bM _
 have jN:H.get h.n=some (mz x.path x.fo vv bE):=by rw[cR];exact eZ rfl
 have ml:h.n<H.n:=by rw[cR];simp
 have mn:=Nat.le_trans bM dG.n
 have XR:Ext h.n h H:=by rw[cR];exact Ext.push (Nat.le_refl _) _
 obtain⟨al,c1,bb⟩:=JR (m-1) (B:=H.n) (h:=H) (Nat.le_refl _) (by omega) ((hs.bZ dG).le mn).v hf.c6 hf.kG
 rw[show m-1+1=m by omega] at c1
 obtain⟨au,c2,bz⟩:=JR (m-1) (B:=H.n) (h:=al) bb.n (by omega) ((((hs.bZ dG).le mn).bZ bb)).t hf.lt hf.z1
 rw[show m-1+1=m by omega] at c2
 have xi:=(bb.get h.n ml).trans jN
 have uI:=(bz.get h.n ml).trans xi
 have aC:Ext B h al:=dG.trans (Nat.le_refl _) (bb.le mn)
 have ax:Ext B h au:=aC.trans (Nat.le_refl _) (bz.le mn)
 refine UE m x.path x.fo vv bE h ⟨hs.v.cell,hs.t.cell,?_⟩
 rw[<-cR]
 refine⟨_,ba jN rfl,_,al,c1,λaa=>⟨_,ba xi rfl,_,au,c2,λad=>⟨_,ba uI rfl,λar=>?_,λar=>?_⟩,λad=>?_⟩,λaa=>?_⟩
 rotate_left
 · have:x.fo=false:=by simpa using ar
   exact bD.of (dM (by unfold ko;rw[aa,ad,this];rfl)) ax
 · exact bD.of (dM (by unfold ko;rw[aa,ad];rfl)) ax
 · exact bD.of (dM (by unfold ko;rw[aa];rfl)) aC
 · have af:x.fo=true:=by simpa using ar
   have bq:=hf.c6
   have bT:=hf.lt
   exact⟨_,ba uI rfl,_,hs.v.len au,_,ba uI rfl,_,hs.t.len au,by omega,bD.of (dM (by unfold ko;rw[aa,ad,af,zB];simp)) ax⟩
theorem UR{e:ez}(hf:fit e.2)(ag:lF e.2=0):q1 e:=by
 obtain⟨n,ot⟩:=e
 cases ot with
 |none=>simp[lF] at ag
 |some t=>
  obtain⟨aa,ad⟩:=hf
  simp only[kU] at aa
  have wO:¬60<sz t:=λh=>by simp[lF,h] at ag
  have hm:fQ t=true:=by
   cases hm:fQ t with
   |true=>rfl
   |false=>simp[lF,wO,hm] at ag
  exact⟨t,rfl,DS t (zv t hm),aa,ad t rfl⟩
theorem DW:∀(p:aJ) (l:List ez),(∀e∈l,fit e.2)->k2 p l=true->∀e∈l,q1 e
 |_,[],_,_,e,he=>by cases he
 |p,a::l,hf,h,e,he=>by
  rw[k2] at h
  simp only[Bool.and_eq_true,decide_eq_true_eq] at h
  rcases List.mem_cons.1 he with rfl|he
  · exact UR (hf _ (by simp)) h.2.2.1
  · exact DW a.1 l (λe he=>hf e (by simp[he])) h.2.2.2 e he
theorem US{x:hY}(hf:np x)(h:ko x=true):(∀e∈x.lL,q1 e)/\∀e∈x.lM,q1 e:=by
 unfold ko at h
 simp only[Bool.and_eq_true] at h
 exact⟨DW _ _ hf.kG h.1,DW _ _ hf.z1 h.2.1⟩
theorem UT(m:Nat){b B:Nat}{h0 y:J}{s:aJ}{vv bE:I}{x:hY}(hm:240<=m)(af:B<=b)(aU:gA b y s)(fy:Ext B h0 y)(hs:lN B h0 vv bE x)(hf:np x)(q2:(∀e∈x.lL,q1 e)/\∀e∈x.lM,q1 e)(an:s.length+(jb x).length<=1000000):
  mv b y (s++jb x) (Y (m+1) (.fn 42) [.ptr b 0,.agg [.str x.path,.bool x.fo,vv,bE]] y):=by
 have nG:=hf.p
 obtain⟨H,cR⟩:∃H,H=y.push (mz x.path x.fo vv bE):=⟨_,rfl⟩
 have dG:Ext y.n y H:=by rw[cR];exact Ext.push (Nat.le_refl _) _
 have jN:H.get y.n=some (mz x.path x.fo vv bE):=by rw[cR];exact eZ rfl
 have ml:y.n<H.n:=by rw[cR];simp
 have xh:=(aU.ext dG).room 6
 have df:¬y.n=b:=by have:=aU.1;omega
 obtain⟨al,c1,bq,bb⟩:=s3 (m-6) b s x.path (H.room 6) xh (by omega) (by omega)
 rw[show m-6+6=m by omega] at c1
 have gO:ep b y.n y al:=(dG.mb b).trans dG.n (((Ext.room _ H 6).mb b).trans (Nat.le_refl _) (bb.le (by simp)))
 have xi:al.get y.n=some (mz x.path x.fo vv bE):=(bb.get y.n (by simp;omega) df).trans jN
 have aI:y.n<al.n:=by have:=bb.n;simp at this;omega
 have aC:=aU.below af fy gO
 refine UA m b x.path x.fo vv bE y ⟨hs.v.cell,hs.t.cell,?_⟩
 rw[<-cR]
 refine⟨_,ba (tT jN) rfl,al,c1,_,ba xi rfl,λaa=>?_,λaa=>?_⟩
 · have bM:jb x=cS x.path++b_ 1:=by unfold jb;rw[aa];rfl
   rw[bM] at an⊢
   simp only[List.length_append] at an
   obtain⟨au,c2,bT,bz⟩:=pC (m-5) b 1 (s++cS x.path) al bq (by omega) (by simp only[List.length_append];omega)
   rw[show m-5+5=m by omega] at c2
   exact⟨au,c2,au,rfl,by simpa only[List.append_assoc] using bT,gO.trans gO.n bz⟩
 · have bM:jb x=cS x.path++(b_ 0++(k3 x.lL++k3 x.lM)):=by unfold jb;rw[aa];rfl
   rw[bM] at an⊢
   simp only[List.length_append] at an
   obtain⟨au,c2,bT,bz⟩:=pC (m-5) b 0 (s++cS x.path) al bq (by omega) (by simp only[List.length_append];omega)
   rw[show m-5+5=m by omega] at c2
   have uI:=(bz.get y.n aI df).trans xi
   have bw:y.n<au.n:=Nat.lt_of_lt_of_le aI bz.n
   have k1:=gO.trans gO.n bz
   obtain⟨a7,c3,eI,cP⟩:=JS (m-1) (b:=b) (B:=B) (h0:=h0) (x:=au) (l:=x.lL) (by omega) af hs.v hf.c6 q2.1 bT (aU.below af fy k1) (by simp only[List.length_append];omega)
   rw[show m-1+1=m by omega] at c3
   have UU:=(cP.get y.n bw df).trans uI
   have pw:=k1.trans k1.n cP
   obtain⟨b8,c4,iY,iB⟩:=JS (m-1) (b:=b) (B:=B) (h0:=h0) (x:=a7) (l:=x.lM) (by omega) af hs.t hf.lt q2.2 eI (aU.below af fy pw) (by simp only[List.length_append];omega)
   rw[show m-1+1=m by omega] at c4
   exact⟨au,c2,_,ba uI rfl,a7,c3,_,ba UU rfl,b8,c4,b8,rfl,by simpa only[List.append_assoc] using iY,pw.trans pw.n iB⟩
end Go.Proofs.cn
