/-
  PROVED HERE: contracts of functions (Di). No condition beside each statement's own.
-/
import Derived.Test.YtfooahfebojldaaGreatDoorDg
import Derived.Test.YtfooahfebojldaaGreatDoorDh
import Derived.Test.YtfooahfebojldaaGreatDoorTx
set_option linter.unusedVariables false
set_option linter.unusedSimpArgs false
namespace Go.Proofs.eN
open Go aD Go.Proofs dE Go.Proofs.cR
open Go.Proofs.ej (ev)
open Go.Proofs.hy (df)
set_option maxRecDepth 100000
set_option maxHeartbeats 1000000
theorem XF(m:Nat)(b:Nat)(n:Nat)(h:J){R:an->Prop}(H:∃s1:List UInt8,aq h b (0+0)=some (.str s1)/\∃aQ:Nat,eR Tryz.prog 3 65 (.int .i64 (.ofNat n)) h=fs.val (.int .u64 (.ofNat aQ)) h/\∃s2:List UInt8,∃ao:J,(Y m) (.fn 52) [.str s1,.int .u64 (.ofNat aQ)] h=.ret (.str s2) ao/\∃ar:J,aD.storeCells ao b (0+0) [.str s2]=some ar/\R (.ret (.aW []) ar)):
  R (Y (m+1) (.fn 41) [.ptr b 0,.int .i64 (.ofNat n)] h):=
 dF (intr:=bT) [] [(0,.v (.ptr b 0)),(1,.v (.int .i64 (.ofNat n)))] Tryz.func41 (by kernel_rfl) (by kernel_rfl) (by kernel_rfl) rfl (Eq.mp (by kernel_rfl) H)
theorem XG(m:Nat)(b:Nat)(t:List UInt8)(h:J){R:an->Prop}(H:∃s1:List UInt8,aq h b (0+0)=some (.str s1)/\∃s2:List UInt8,∃ao:J,(Y m) (.fn 64) [.str s1,.str t] h=.ret (.str s2) ao/\∃ar:J,aD.storeCells ao b (0+0) [.str s2]=some ar/\R (.ret (.aW []) ar)):
  R (Y (m+1) (.fn 38) [.ptr b 0,.str t] h):=
 dF (intr:=bT) [] [(0,.v (.ptr b 0)),(1,.v (.str t))] Tryz.func38 (by kernel_rfl) (by kernel_rfl) (by kernel_rfl) rfl (Eq.mp (by kernel_rfl) H)
theorem XH(m:Nat)(b:Nat)(r:Nat)(h:J){R:an->Prop}(H:∃aQ:Nat,aq (h.room 8) r (0+0)=some (.int .i64 (.ofNat aQ))/\∃ao:J,(Y m) (.fn 41) [.ptr b (0+0),.int .i64 (.ofNat aQ)] (h.room 8)=.ret (.aW []) ao/\∃bI:Nat,aq ao r (0+0)=some (.int .i64 (.ofNat bI))/\(bI=6->∃s1:List UInt8,aq (ao.room 8) r (0+1)=some (.str s1)/\∃ar:J,(Y m) (.fn 38) [.ptr b (0+0),.str s1] (ao.room 8)=.ret (.aW []) ar/\R (.ret (.aW []) ar))/\(¬bI=6->(bI=7->∃v1:I,aq (ao.room 9) r (0+2)=some v1/\∃cr:Nat,bU Tryz.prog (ao.room 9) 48 v1=some (.int .i64 (.ofNat cr))/\∃aZ:J,(Y m) (.fn 41) [.ptr b (0+0),.int .i64 (.ofNat cr)] (ao.room 9)=.ret (.aW []) aZ/\I.sound v1=true/\∃v2:I,aq aZ r (0+2)=some v2/\∃cF:Nat,bU Tryz.prog aZ 48 v2=some (.int .i64 (.ofNat cF))/\bw Tryz.prog Tryz.f81 (Y m) [1,1,0,1,1,1,0,1,1,0] (ag.mk [(0,.ptr b 0),(1,.ptr r 0),(42,v2),(43,.int .i64 (.ofNat cF)),(44,.int .i64 (.ofNat 0))] [] .none aZ) (λcG cH=>∃ch:J,∃bp:Env,cG=.exit 1/\cH=ag.mk bp [] .none ch/\cC [] bp/\R (.ret (.aW []) ch)))/\(¬bI=7->(bI=8->∃cX:I,aq ao r (0+3)=some cX/\∃dQ:J,(Y m) (.fn 93) [.ptr b 0,cX,.fn 81 [.ptr b 0] []] ao=.ret (.aW []) dQ/\∃v4:I,aq dQ r (0+4)=some v4/\∃eS:J,(Y m) (.fn 81) [.ptr b 0,v4] dQ=.ret (.aW []) eS/\R (.ret (.aW []) eS))/\(¬bI=8->(bI=9->∃gx:I,aq ao r (0+3)=some gx/\∃gA:J,(Y m) (.fn 93) [.ptr b 0,gx,.fn 81 [.ptr b 0] []] ao=.ret (.aW []) gA/\R (.ret (.aW []) gA))/\(¬bI=9->R (.ret (.aW []) ao)))))):
  R (Y (m+1) (.fn 81) [.ptr b 0,.ptr r 0] h):=
 dF (intr:=bT) [(78,.b2 .o),(4001,.ik [0,1,42,43,44] [(.exit 1,[])])] [(0,.v (.ptr b 0)),(1,.v (.ptr r 0))] Tryz.func81 (by kernel_rfl) (by kernel_rfl) (by kernel_rfl) rfl (Eq.mp (by kernel_rfl) H)
theorem XI(call:ay->List I->J->an)(b:Nat)(r:Nat)(a8:Nat)(cq:Nat)(dm:Nat)(i:Nat)(c1:b5)(h:J){Q:bF->ag->Prop}(H:(i<dm->i<dm/\∃s1:List UInt8,aq h a8 (cq+i*1)=some (.str s1)/\∃ao:J,call (.fn 38) [.ptr b (0+0),.str s1] h=.ret (.aW []) ao/\∃aQ:Nat,∃bI:Nat,∃cr:Nat,∃c2:b5,aq ao r (0+3)=some (.slice aQ bI cr c2)/\i<cr/\∃cF:Nat,aq ao aQ (bI+i*1)=some (.ptr cF 0)/\∃ar:J,call (.fn 81) [.ptr b 0,.ptr cF 0] ao=.ret (.aW []) ar/\i+1<9223372036854775808/\Q .nrm (ag.mk [(0,.ptr b 0),(1,.ptr r 0),(42,.slice a8 cq dm c1),(43,.int .i64 (.ofNat dm)),(44,.int .i64 (.ofNat (i+1)))] [] .none ar))/\(¬i<dm->Q (.exit 1) (ag.mk [(0,.ptr b 0),(1,.ptr r 0),(42,.slice a8 cq dm c1),(43,.int .i64 (.ofNat dm)),(44,.int .i64 (.ofNat i))] [] .none h))):
  bw Tryz.prog Tryz.f81 call [1,1,0,1,1,1,0,1,1,0,0] ⟨[(0,.ptr b 0),(1,.ptr r 0),(42,.slice a8 cq dm c1),(43,.int .i64 (.ofNat dm)),(44,.int .i64 (.ofNat i))],[],.none,h⟩ Q:=
 e6 [(58,.b2 .gh)] [0,1,42,43,44] [(0,.v (.ptr b 0)),(1,.v (.ptr r 0)),(42,.v (.slice a8 cq dm c1)),(43,.v (.int .i64 (.ofNat dm))),(44,.v (.int .i64 (.ofNat i)))] rfl (Eq.mp (by kernel_rfl) H)
theorem XJ(call:ay->List I->J->an)(b:Nat)(r:Nat)(N:Nat)(i:Nat)(v:I)(h:J){Q:bF->ag->Prop}(H:¬i<N/\Q (.exit 1) (ag.mk [] [] .none h)):
  bw Tryz.prog Tryz.f81 call [1,1,0,1,1,1,0,1,1,0,0] ⟨[(0,.ptr b 0),(1,.ptr r 0),(42,v),(43,.int .i64 (.ofNat N)),(44,.int .i64 (.ofNat i))],[],.none,h⟩ Q:=
 e6 [(1045,.f)] [] [(0,.v (.ptr b 0)),(1,.v (.ptr r 0)),(42,.o v),(43,.v (.int .i64 (.ofNat N))),(44,.v (.int .i64 (.ofNat i)))] rfl (Eq.mp (by kernel_rfl) H)
theorem XK(m:Nat)(b:Nat)(v:I)(h:J){R:an->Prop}(H:∃aQ:Nat,bU Tryz.prog h 49 v=some (.int .i64 (.ofNat aQ))/\∃ao:J,(Y m) (.fn 41) [.ptr b (0+0),.int .i64 (.ofNat aQ)] h=.ret (.aW []) ao/\∃bI:Nat,bU Tryz.prog ao 49 v=some (.int .i64 (.ofNat bI))/\bw Tryz.prog Tryz.f93 (Y m) [1,1,0] (ag.mk [(2,.fn 81 [.ptr b 0] []),(14,v),(15,.int .i64 (.ofNat bI)),(16,.int .i64 (.ofNat 0))] [] .none ao) (λcG cH=>∃ar:J,∃bp:Env,cG=.exit 0/\cH=ag.mk bp [] .none ar/\cC [] bp/\R (.ret (.aW []) ar))):
  R (Y (m+1) (.fn 93) [.ptr b 0,v,.fn 81 [.ptr b 0] []] h):=
 dF (intr:=bT) [(4000,.ik [2,14,15,16] [(.exit 0,[])])] [(0,.v (.ptr b 0)),(1,.o v),(2,.v (.fn 81 [.ptr b 0] []))] Tryz.func93 (by kernel_rfl) (by kernel_rfl) (by kernel_rfl) rfl (Eq.mp (by kernel_rfl) H)
theorem XL(call:ay->List I->J->an)(b:Nat)(a8:Nat)(cq:Nat)(dm:Nat)(i:Nat)(c1:b5)(h:J){Q:bF->ag->Prop}(H:(i<dm->i<dm/\∃aQ:Nat,aq h a8 (cq+i*1)=some (.ptr aQ 0)/\∃ao:J,call (.fn 81) [.ptr b 0,.ptr aQ 0] h=.ret (.aW []) ao/\i+1<9223372036854775808/\Q .nrm (ag.mk [(2,.fn 81 [.ptr b 0] []),(14,.slice a8 cq dm c1),(15,.int .i64 (.ofNat dm)),(16,.int .i64 (.ofNat (i+1)))] [] .none ao))/\(¬i<dm->Q (.exit 0) (ag.mk [(2,.fn 81 [.ptr b 0] []),(14,.slice a8 cq dm c1),(15,.int .i64 (.ofNat dm)),(16,.int .i64 (.ofNat i))] [] .none h))):
  bw Tryz.prog Tryz.f93 call [1,1,0,0] ⟨[(2,.fn 81 [.ptr b 0] []),(14,.slice a8 cq dm c1),(15,.int .i64 (.ofNat dm)),(16,.int .i64 (.ofNat i))],[],.none,h⟩ Q:=
 e6 [] [2,14,15,16] [(2,.v (.fn 81 [.ptr b 0] [])),(14,.v (.slice a8 cq dm c1)),(15,.v (.int .i64 (.ofNat dm))),(16,.v (.int .i64 (.ofNat i)))] rfl (Eq.mp (by kernel_rfl) H)
theorem XM(call:ay->List I->J->an)(b:Nat)(N:Nat)(i:Nat)(v:I)(h:J){Q:bF->ag->Prop}(H:¬i<N/\Q (.exit 0) (ag.mk [] [] .none h)):
  bw Tryz.prog Tryz.f93 call [1,1,0,0] ⟨[(2,.fn 81 [.ptr b 0] []),(14,v),(15,.int .i64 (.ofNat N)),(16,.int .i64 (.ofNat i))],[],.none,h⟩ Q:=
 e6 [(1017,.f)] [] [(2,.v (.fn 81 [.ptr b 0] [])),(14,.o v),(15,.v (.int .i64 (.ofNat N))),(16,.v (.int .i64 (.ofNat i)))] rfl (Eq.mp (by kernel_rfl) H)
theorem XN(m:Nat)(b:Nat)(v:I)(h:J){R:an->Prop}(H:∃aQ:Nat,bU Tryz.prog h 22 v=some (.int .i64 (.ofNat aQ))/\∃ao:J,(Y m) (.fn 41) [.ptr b (0+0),.int .i64 (.ofNat aQ)] h=.ret (.aW []) ao/\∃bI:Nat,bU Tryz.prog ao 22 v=some (.int .i64 (.ofNat bI))/\bw Tryz.prog Tryz.f65 (Y m) [1,1,0] (ag.mk [(2,.fn 66 [.ptr b 0] []),(14,v),(15,.int .i64 (.ofNat bI)),(16,.int .i64 (.ofNat 0))] [] .none ao) (λcG cH=>∃ar:J,∃bp:Env,cG=.exit 0/\cH=ag.mk bp [] .none ar/\cC [] bp/\R (.ret (.aW []) ar))):
  R (Y (m+1) (.fn 65) [.ptr b 0,v,.fn 66 [.ptr b 0] []] h):=
 dF (intr:=bT) [(4000,.ik [2,14,15,16] [(.exit 0,[])])] [(0,.v (.ptr b 0)),(1,.o v),(2,.v (.fn 66 [.ptr b 0] []))] Tryz.func65 (by kernel_rfl) (by kernel_rfl) (by kernel_rfl) rfl (Eq.mp (by kernel_rfl) H)
theorem XO(call:ay->List I->J->an)(b:Nat)(a8:Nat)(cq:Nat)(dm:Nat)(i:Nat)(c1:b5)(h:J){Q:bF->ag->Prop}(H:i<dm/\i<dm/\∃s1:List UInt8,∃v1:I,aD.loadCells h a8 (cq+i*2) 2=some [.str s1,v1]/\I.bY v1=true/\∃ao:J,aD.storeCells (J.push h (.cells [.str [],.aR] 53 .own 0 0)) h.n 0 [.str s1,v1]=some ao/\∃s2:List UInt8,∃v2:I,aD.loadCells ao h.n 0 2=some [.str s2,v2]/\∃ar:J,call (.fn 66) [.ptr b 0,.agg [.str s2,v2]] ao=.ret (.aW []) ar/\i+1<9223372036854775808/\Q .nrm (ag.mk [(2,.fn 66 [.ptr b 0] []),(14,.slice a8 cq dm c1),(15,.int .i64 (.ofNat dm)),(16,.int .i64 (.ofNat (i+1)))] [] .none ar)):
  bw Tryz.prog Tryz.f65 call [1,1,0,0] ⟨[(2,.fn 66 [.ptr b 0] []),(14,.slice a8 cq dm c1),(15,.int .i64 (.ofNat dm)),(16,.int .i64 (.ofNat i))],[],.none,h⟩ Q:=
 e6 [(1017,.t),(19,.b2 (.eD [.st,.o])),(21,.b2 (.eD [.st,.o]))] [2,14,15,16] [(2,.v (.fn 66 [.ptr b 0] [])),(14,.v (.slice a8 cq dm c1)),(15,.v (.int .i64 (.ofNat dm))),(16,.v (.int .i64 (.ofNat i)))] rfl (Eq.mp (by kernel_rfl) H)
theorem XP(call:ay->List I->J->an)(b:Nat)(N:Nat)(i:Nat)(v:I)(h:J){Q:bF->ag->Prop}(H:¬i<N/\Q (.exit 0) (ag.mk [] [] .none h)):
  bw Tryz.prog Tryz.f65 call [1,1,0,0] ⟨[(2,.fn 66 [.ptr b 0] []),(14,v),(15,.int .i64 (.ofNat N)),(16,.int .i64 (.ofNat i))],[],.none,h⟩ Q:=
 e6 [(1017,.f)] [] [(2,.v (.fn 66 [.ptr b 0] [])),(14,.o v),(15,.v (.int .i64 (.ofNat N))),(16,.v (.int .i64 (.ofNat i)))] rfl (Eq.mp (by kernel_rfl) H)
theorem XQ(m:Nat)(b:Nat)(n:List UInt8)(w:I)(h:J){R:an->Prop}(H:I.bY w=true/\∃s1:List UInt8,aq (J.room (J.push h (.cells [.str n,w] 53 .own 0 0)) 6) h.n (0+0)=some (.str s1)/\∃ao:J,(Y m) (.fn 38) [.ptr b (0+0),.str s1] (J.room (J.push h (.cells [.str n,w] 53 .own 0 0)) 6)=.ret (.aW []) ao/\∃v1:I,aq ao h.n (0+1)=some v1/\∃ar:J,(Y m) (.fn 81) [.ptr b 0,v1] ao=.ret (.aW []) ar/\R (.ret (.aW []) ar)):
  R (Y (m+1) (.fn 66) [.ptr b 0,.agg [.str n,w]] h):=
 dF (intr:=bT) [(12,.b2 .o)] [(0,.v (.ptr b 0)),(1,.eD [.v (.str n),.o w])] Tryz.func66 (by kernel_rfl) (by kernel_rfl) (by kernel_rfl) rfl (Eq.mp (by kernel_rfl) H)
theorem XR(m:Nat)(b:Nat)(p:List UInt8)(cA:Bool)(vv:I)(bu:I)(h:J){R:an->Prop}(H:I.bY vv=true/\I.bY bu=true/\∃s1:List UInt8,aq (J.room (J.push h (.cells [.str p,.bool cA,vv,bu] 24 .own 0 0)) 6) h.n (0+0)=some (.str s1)/\∃ao:J,(Y m) (.fn 38) [.ptr b (0+0),.str s1] (J.room (J.push h (.cells [.str p,.bool cA,vv,bu] 24 .own 0 0)) 6)=.ret (.aW []) ao/\∃a8:Bool,aq ao h.n (0+1)=some (.bool a8)/\(a8=true->∃ar:J,(Y m) (.fn 41) [.ptr b (0+0),.int .i64 (.ofNat 1)] ao=.ret (.aW []) ar/\R (.ret (.aW []) ar))/\(a8=false->∃aZ:J,(Y m) (.fn 41) [.ptr b (0+0),.int .i64 (.ofNat 0)] ao=.ret (.aW []) aZ/\∃v1:I,aq aZ h.n (0+2)=some v1/\∃ch:J,(Y m) (.fn 65) [.ptr b 0,v1,.fn 66 [.ptr b 0] []] aZ=.ret (.aW []) ch/\∃v2:I,aq ch h.n (0+3)=some v2/\∃dQ:J,(Y m) (.fn 65) [.ptr b 0,v2,.fn 66 [.ptr b 0] []] ch=.ret (.aW []) dQ/\R (.ret (.aW []) dQ))):
  R (Y (m+1) (.fn 42) [.ptr b 0,.agg [.str p,.bool cA,vv,bu]] h):=
 dF (intr:=bT) [] [(0,.v (.ptr b 0)),(1,.eD [.v (.str p),.v (.bool cA),.o vv,.o bu])] Tryz.func42 (by kernel_rfl) (by kernel_rfl) (by kernel_rfl) rfl (Eq.mp (by kernel_rfl) H)
theorem XS(m:Nat)(v:I)(h:J){R:an->Prop}(H:∃aQ:Nat,bU Tryz.prog h 22 v=some (.int .i64 (.ofNat aQ))/\bw Tryz.prog Tryz.f56 (Y m) [1,1,0,1,0] (ag.mk [(3,.str []),(6,v),(7,.int .i64 (.ofNat aQ)),(8,.int .i64 (.ofNat 0))] [] .none h) (λcG cH=>((∃ao:J,∃bp:Env,cG=.exit 0/\cH=ag.mk bp [] .none ao/\cC [] bp/\R (.ret (.bool true) ao))\/(∃ar:J,∃bB:Env,cG=.ret/\cH=ag.mk bB [] .none ar/\cC [(2,.bool false)] bB/\R (.ret (.bool false) ar))))):
  R (Y (m+1) (.fn 56) [v] h):=
 dF (intr:=bT) [(4000,.ik [3,6,7,8] [(.exit 0,[]),(.ret,[(2,.is (.bool false))])])] [(0,.o v)] Tryz.func56 (by kernel_rfl) (by kernel_rfl) (by kernel_rfl) rfl (Eq.mp (by kernel_rfl) H)
theorem XT(call:ay->List I->J->an)(a8:Nat)(cq:Nat)(dm:Nat)(i:Nat)(c1:b5)(l:List UInt8)(h:J){Q:bF->ag->Prop}(H:i<dm/\i<dm/\∃s1:List UInt8,∃v1:I,aD.loadCells h a8 (cq+i*2) 2=some [.str s1,v1]/\I.bY v1=true/\∃ao:J,aD.storeCells (J.push h (.cells [.str [],.aR] 53 .own 0 0)) h.n 0 [.str s1,v1]=some ao/\∃s2:List UInt8,aq ao h.n (0+0)=some (.str s2)/\((!dN l s2)=true->Q .ret (ag.mk [(2,.bool false),(3,.str l),(6,.slice a8 cq dm c1),(7,.int .i64 (.ofNat dm)),(8,.int .i64 (.ofNat i))] [] .none ao))/\((!dN l s2)=false->∃bE:List UInt8,aq ao h.n (0+0)=some (.str bE)/\(24<List.length bE->Q .ret (ag.mk [(2,.bool false),(3,.str l),(6,.slice a8 cq dm c1),(7,.int .i64 (.ofNat dm)),(8,.int .i64 (.ofNat i))] [] .none ao))/\(¬24<List.length bE->∃v2:I,aq ao h.n (0+1)=some v2/\∃aQ:Nat,∃ar:J,call (.fn 76) [v2] ao=.ret (.int .i64 (.ofNat aQ)) ar/\(aQ=0->∃bX:List UInt8,aq ar h.n (0+0)=some (.str bX)/\i+1<9223372036854775808/\Q .nrm (ag.mk [(3,.str bX),(6,.slice a8 cq dm c1),(7,.int .i64 (.ofNat dm)),(8,.int .i64 (.ofNat (i+1)))] [] .none ar))/\(¬aQ=0->Q .ret (ag.mk [(2,.bool false),(3,.str l),(6,.slice a8 cq dm c1),(7,.int .i64 (.ofNat dm)),(8,.int .i64 (.ofNat i))] [] .none ar))))):
  bw Tryz.prog Tryz.f56 call [1,1,0,1,0,0] ⟨[(3,.str l),(6,.slice a8 cq dm c1),(7,.int .i64 (.ofNat dm)),(8,.int .i64 (.ofNat i))],[],.none,h⟩ Q:=
 e6 [(1009,.t),(11,.b2 (.eD [.st,.o])),(24,.b2 .o)] [2,3,6,7,8] [(3,.v (.str l)),(6,.v (.slice a8 cq dm c1)),(7,.v (.int .i64 (.ofNat dm))),(8,.v (.int .i64 (.ofNat i)))] rfl (Eq.mp (by kernel_rfl) H)
theorem XU(call:ay->List I->J->an)(N:Nat)(i:Nat)(l:List UInt8)(v:I)(h:J){Q:bF->ag->Prop}(H:¬i<N/\Q (.exit 0) (ag.mk [] [] .none h)):
  bw Tryz.prog Tryz.f56 call [1,1,0,1,0,0] ⟨[(3,.str l),(6,v),(7,.int .i64 (.ofNat N)),(8,.int .i64 (.ofNat i))],[],.none,h⟩ Q:=
 e6 [(1009,.f)] [] [(3,.v (.str l)),(6,.o v),(7,.v (.int .i64 (.ofNat N))),(8,.v (.int .i64 (.ofNat i)))] rfl (Eq.mp (by kernel_rfl) H)
theorem XV(m:Nat)(p:List UInt8)(cA:Bool)(vv:I)(bu:I)(h:J){R:an->Prop}(H:I.bY vv=true/\I.bY bu=true/\∃v1:I,aq (J.push h (.cells [.str p,.bool cA,vv,bu] 24 .own 0 0)) h.n (0+2)=some v1/\∃a8:Bool,∃ao:J,(Y m) (.fn 56) [v1] (J.push h (.cells [.str p,.bool cA,vv,bu] 24 .own 0 0))=.ret (.bool a8) ao/\(a8=true->∃v2:I,aq ao h.n (0+3)=some v2/\∃aI:Bool,∃ar:J,(Y m) (.fn 56) [v2] ao=.ret (.bool aI) ar/\(aI=true->∃cK:Bool,aq ar h.n (0+1)=some (.bool cK)/\(cK=true->∃cX:I,aq ar h.n (0+2)=some cX/\∃aQ:Nat,bU Tryz.prog ar 22 cX=some (.int .i64 (.ofNat aQ))/\∃v4:I,aq ar h.n (0+3)=some v4/\∃bI:Nat,bU Tryz.prog ar 22 v4=some (.int .i64 (.ofNat bI))/\aQ+bI<9223372036854775808/\R (.ret (.bool (a7 (.ofNat (aQ+bI)) (.ofNat 0))) ar))/\(cK=false->R (.ret (.bool true) ar)))/\(aI=false->R (.ret (.bool false) ar)))/\(a8=false->R (.ret (.bool false) ao))):
  R (Y (m+1) (.fn 29) [.agg [.str p,.bool cA,vv,bu]] h):=
 dF (intr:=bT) [] [(0,.eD [.v (.str p),.v (.bool cA),.o vv,.o bu])] Tryz.func29 (by kernel_rfl) (by kernel_rfl) (by kernel_rfl) rfl (Eq.mp (by kernel_rfl) H)
theorem XW(m:Nat)(p:List UInt8)(cA:Bool)(vv:I)(bu:I)(h:J){R:an->Prop}(H:I.bY vv=true/\I.bY bu=true/\∃s1:List UInt8,∃a8:Bool,∃v1:I,∃v2:I,aD.loadCells (J.push (J.push h (.cells [.str p,.bool cA,vv,bu] 24 .own 0 0)) (.cells [.str []] 83 .own 0 0)) h.n 0 4=some [.str s1,.bool a8,v1,v2]/\∃aI:Bool,∃ao:J,(Y m) (.fn 29) [.agg [.str s1,.bool a8,v1,v2]] (J.push (J.push h (.cells [.str p,.bool cA,vv,bu] 24 .own 0 0)) (.cells [.str []] 83 .own 0 0))=.ret (.bool aI) ao/\(aI=true->∃s2:List UInt8,∃cK:Bool,∃cX:I,∃v4:I,aD.loadCells ao h.n 0 4=some [.str s2,.bool cK,cX,v4]/\∃ar:J,(Y m) (.fn 42) [.ptr (J.n (J.push h (.cells [.str p,.bool cA,vv,bu] 24 .own 0 0))) 0,.agg [.str s2,.bool cK,cX,v4]] ao=.ret (.aW []) ar/\∃bE:List UInt8,aq ar (J.n (J.push h (.cells [.str p,.bool cA,vv,bu] 24 .own 0 0))) (0+0+0)=some (.str bE)/\R (.ret (.str bE) ar))/\(aI=false->∃bX:List UInt8,aq ao (J.n (J.push h (.cells [.str p,.bool cA,vv,bu] 24 .own 0 0))) (0+0+0)=some (.str bX)/\R (.ret (.str bX) ao))):
  R (Y (m+1) (.fn 17) [.agg [.str p,.bool cA,vv,bu]] h):=
 dF (intr:=bT) [(6,.b2 (.eD [.st,.b,.o,.o])),(9,.b2 (.eD [.st,.b,.o,.o]))] [(0,.eD [.v (.str p),.v (.bool cA),.o vv,.o bu])] Tryz.func17 (by kernel_rfl) (by kernel_rfl) (by kernel_rfl) rfl (Eq.mp (by kernel_rfl) H)
theorem XX(m:Nat)(r:Nat)(s:List UInt8)(h:J){R:an->Prop}(H:∃aQ:Nat,aq h r (0+0)=some (.int .i64 (.ofNat aQ))/\∃bI:Nat,eR Tryz.prog 3 65 (.int .i64 (.ofNat aQ)) h=fs.val (.int .u64 (.ofNat bI)) h/\∃s1:List UInt8,∃ao:J,(Y m) (.fn 44) [.str s,.int .u64 (.ofNat bI)] h=.ret (.str s1) ao/\∃cr:Nat,aq ao r (0+0)=some (.int .i64 (.ofNat cr))/\(cr=6->∃s2:List UInt8,aq ao r (0+1)=some (.str s2)/\∃bE:List UInt8,∃ar:J,(Y m) (.fn 43) [.str s1,.str s2] ao=.ret (.str bE) ar/\R (.ret (.str bE) ar))/\(¬cr=6->(cr=7->∃v1:I,aq ao r (0+3)=some v1/\∃cF:Nat,bU Tryz.prog ao 49 v1=some (.int .i64 (.ofNat cF))/\∃dc:Nat,eR Tryz.prog 3 65 (.int .i64 (.ofNat cF)) ao=fs.val (.int .u64 (.ofNat dc)) ao/\∃bX:List UInt8,∃aZ:J,(Y m) (.fn 44) [.str s1,.int .u64 (.ofNat dc)] ao=.ret (.str bX) aZ/\bw Tryz.prog Tryz.f82 (Y m) [1,1,0,1,0,1,1,1,0,1,1,0] (ag.mk [(0,.str bX),(1,.ptr r 0),(5,.int .i64 (.ofNat 0))] [] .none aZ) (λcG cH=>∃cZ:List UInt8,∃dk:Nat,∃ch:J,∃bp:Env,cG=.exit 1/\cH=ag.mk bp [] .none ch/\cC [(0,.str cZ),(1,.ptr dk 0)] bp/\∃eM:Nat,aq ch dk (0+0)=some (.int .i64 (.ofNat eM))/\(eM=8->∃v2:I,aq ch dk (0+4)=some v2/\∃ea:List UInt8,∃dQ:J,(Y m) (.fn 82) [.str cZ,v2] ch=.ret (.str ea) dQ/\R (.ret (.str ea) dQ))/\(¬eM=8->R (.ret (.str cZ) ch))))/\(¬cr=7->(cr=8->∃cX:I,aq ao r (0+3)=some cX/\∃g9:Nat,bU Tryz.prog ao 49 cX=some (.int .i64 (.ofNat g9))/\∃gW:Nat,eR Tryz.prog 3 65 (.int .i64 (.ofNat g9)) ao=fs.val (.int .u64 (.ofNat gW)) ao/\∃e4:List UInt8,∃eS:J,(Y m) (.fn 44) [.str s1,.int .u64 (.ofNat gW)] ao=.ret (.str e4) eS/\bw Tryz.prog Tryz.f82 (Y m) [1,1,0,1,0,1,1,1,0,1,1,0] (ag.mk [(0,.str e4),(1,.ptr r 0),(5,.int .i64 (.ofNat 0))] [] .none eS) (λcG cH=>∃vj:List UInt8,∃gM:Nat,∃gA:J,∃bB:Env,cG=.exit 1/\cH=ag.mk bB [] .none gA/\cC [(0,.str vj),(1,.ptr gM 0)] bB/\∃iu:Nat,aq gA gM (0+0)=some (.int .i64 (.ofNat iu))/\(iu=8->∃v4:I,aq gA gM (0+4)=some v4/\∃x1:List UInt8,∃hM:J,(Y m) (.fn 82) [.str vj,v4] gA=.ret (.str x1) hM/\R (.ret (.str x1) hM))/\(¬iu=8->R (.ret (.str vj) gA))))/\(¬cr=8->(cr=9->∃gx:I,aq ao r (0+3)=some gx/\∃km:Nat,bU Tryz.prog ao 49 gx=some (.int .i64 (.ofNat km))/\∃jZ:Nat,eR Tryz.prog 3 65 (.int .i64 (.ofNat km)) ao=fs.val (.int .u64 (.ofNat jZ)) ao/\∃x2:List UInt8,∃j0:J,(Y m) (.fn 44) [.str s1,.int .u64 (.ofNat jZ)] ao=.ret (.str x2) j0/\bw Tryz.prog Tryz.f82 (Y m) [1,1,0,1,0,1,1,1,0,1,1,0] (ag.mk [(0,.str x2),(1,.ptr r 0),(5,.int .i64 (.ofNat 0))] [] .none j0) (λcG cH=>∃tA:List UInt8,∃lW:Nat,∃hH:J,∃cU:Env,cG=.exit 1/\cH=ag.mk cU [] .none hH/\cC [(0,.str tA),(1,.ptr lW 0)] cU/\∃kJ:Nat,aq hH lW (0+0)=some (.int .i64 (.ofNat kJ))/\(kJ=8->∃v6:I,aq hH lW (0+4)=some v6/\∃x3:List UInt8,∃jb:J,(Y m) (.fn 82) [.str tA,v6] hH=.ret (.str x3) jb/\R (.ret (.str x3) jb))/\(¬kJ=8->R (.ret (.str tA) hH))))/\(¬cr=9->∃Fe:Nat,aq ao r (0+0)=some (.int .i64 (.ofNat Fe))/\(Fe=8->∃nn:I,aq ao r (0+4)=some nn/\∃x4:List UInt8,∃nq:J,(Y m) (.fn 82) [.str s1,nn] ao=.ret (.str x4) nq/\R (.ret (.str x4) nq))/\(¬Fe=8->R (.ret (.str s1) ao))))))):
  R (Y (m+1) (.fn 82) [.str s,.ptr r 0] h):=
 dF (intr:=bT) [(78,.b2 .o),(4001,.ik [0,1,5] [(.exit 1,[(0,.st),(1,.p)])])] [(0,.v (.str s)),(1,.v (.ptr r 0))] Tryz.func82 (by kernel_rfl) (by kernel_rfl) (by kernel_rfl) rfl (Eq.mp (by kernel_rfl) H)
theorem XY(call:ay->List I->J->an)(r:Nat)(i:Nat)(s:List UInt8)(h:J){Q:bF->ag->Prop}(H:∃aQ:Nat,∃bI:Nat,∃cr:Nat,∃c1:b5,aq h r (0+3)=some (.slice aQ bI cr c1)/\i<cr/\∃cF:Nat,aq h r (0+0)=some (.int .i64 (.ofNat cF))/\(cF=7->∃dc:Nat,∃dk:Nat,∃eM:Nat,∃c2:b5,aq h r (0+2)=some (.slice dc dk eM c2)/\i<eM/\∃s1:List UInt8,aq h dc (dk+i*1)=some (.str s1)/\∃s2:List UInt8,∃ao:J,call (.fn 43) [.str s,.str s1] h=.ret (.str s2) ao/\∃g9:Nat,∃gW:Nat,∃gM:Nat,∃c3:b5,aq ao r (0+3)=some (.slice g9 gW gM c3)/\i<gM/\∃iu:Nat,aq ao g9 (gW+i*1)=some (.ptr iu 0)/\∃bE:List UInt8,∃ar:J,call (.fn 82) [.str s2,.ptr iu 0] ao=.ret (.str bE) ar/\i+1<9223372036854775808/\Q .nrm (ag.mk [(0,.str bE),(1,.ptr r 0),(5,.int .i64 (.ofNat (i+1)))] [] .none ar))/\(¬cF=7->∃km:Nat,∃jZ:Nat,∃lW:Nat,∃c4:b5,aq h r (0+3)=some (.slice km jZ lW c4)/\i<lW/\∃kJ:Nat,aq h km (jZ+i*1)=some (.ptr kJ 0)/\∃bX:List UInt8,∃aZ:J,call (.fn 82) [.str s,.ptr kJ 0] h=.ret (.str bX) aZ/\i+1<9223372036854775808/\Q .nrm (ag.mk [(0,.str bX),(1,.ptr r 0),(5,.int .i64 (.ofNat (i+1)))] [] .none aZ))):
  bw Tryz.prog Tryz.f82 call [1,1,0,1,0,1,1,1,0,1,1,0,0] ⟨[(0,.str s),(1,.ptr r 0),(5,.int .i64 (.ofNat i))],[],.none,h⟩ Q:=
 e6 [(1043,.t),(41,.b2 .gh),(55,.b2 .gh),(64,.b2 .gh)] [0,1,5] [(0,.v (.str s)),(1,.v (.ptr r 0)),(5,.v (.int .i64 (.ofNat i)))] rfl (Eq.mp (by kernel_rfl) H)
theorem XZ(call:ay->List I->J->an)(r:Nat)(i:Nat)(s:List UInt8)(h:J){Q:bF->ag->Prop}(H:∃v1:I,aq h r (0+3)=some v1/\∃aQ:Nat,bU Tryz.prog h 49 v1=some (.int .i64 (.ofNat aQ))/\¬i<aQ/\Q (.exit 1) (ag.mk [(0,.str s),(1,.ptr r 0)] [] .none h)):
  bw Tryz.prog Tryz.f82 call [1,1,0,1,0,1,1,1,0,1,1,0,0] ⟨[(0,.str s),(1,.ptr r 0),(5,.int .i64 (.ofNat i))],[],.none,h⟩ Q:=
 e6 [(1043,.f)] [0,1] [(0,.v (.str s)),(1,.v (.ptr r 0)),(5,.v (.int .i64 (.ofNat i)))] rfl (Eq.mp (by kernel_rfl) H)
theorem X0(m:Nat)(s:List UInt8)(v:I)(h:J){R:an->Prop}(H:∃aQ:Nat,bU Tryz.prog h 22 v=some (.int .i64 (.ofNat aQ))/\∃bI:Nat,eR Tryz.prog 3 65 (.int .i64 (.ofNat aQ)) h=fs.val (.int .u64 (.ofNat bI)) h/\∃s1:List UInt8,∃ao:J,(Y m) (.fn 44) [.str s,.int .u64 (.ofNat bI)] h=.ret (.str s1) ao/\bw Tryz.prog Tryz.f68 (Y m) [1,1,0,1,0] (ag.mk [(0,.str s1),(1,v),(5,.int .i64 (.ofNat 0))] [] .none ao) (λcG cH=>∃s2:List UInt8,∃ar:J,∃bp:Env,cG=.exit 0/\cH=ag.mk bp [] .none ar/\cC [(0,.str s2)] bp/\R (.ret (.str s2) ar))):
  R (Y (m+1) (.fn 68) [.str s,v] h):=
 dF (intr:=bT) [(4000,.ik [0,1,5] [(.exit 0,[(0,.st)])])] [(0,.v (.str s)),(1,.o v)] Tryz.func68 (by kernel_rfl) (by kernel_rfl) (by kernel_rfl) rfl (Eq.mp (by kernel_rfl) H)
theorem X1(call:ay->List I->J->an)(a8:Nat)(cq:Nat)(dm:Nat)(i:Nat)(c1:b5)(s:List UInt8)(h:J){Q:bF->ag->Prop}(H:i<dm/\i<dm/\∃s1:List UInt8,aq (h.room 14) a8 (cq+i*2+0)=some (.str s1)/\∃s2:List UInt8,∃ao:J,call (.fn 43) [.str s,.str s1] (h.room 14)=.ret (.str s2) ao/\i<dm/\∃v1:I,aq ao a8 (cq+i*2+1)=some v1/\∃bE:List UInt8,∃ar:J,call (.fn 82) [.str s2,v1] ao=.ret (.str bE) ar/\I.sound v1=true/\aq (h.room 14) a8 (cq+i*2+1)=some v1/\i+1<9223372036854775808/\Q .nrm (ag.mk [(0,.str bE),(1,.slice a8 cq dm c1),(5,.int .i64 (.ofNat (i+1)))] [] .none ar)):
  bw Tryz.prog Tryz.f68 call [1,1,0,1,0,0] ⟨[(0,.str s),(1,.slice a8 cq dm c1),(5,.int .i64 (.ofNat i))],[],.none,h⟩ Q:=
 e6 [(1014,.t),(28,.b2 .o)] [0,1,5] [(0,.v (.str s)),(1,.v (.slice a8 cq dm c1)),(5,.v (.int .i64 (.ofNat i)))] rfl (Eq.mp (by kernel_rfl) H)
theorem X2(call:ay->List I->J->an)(i:Nat)(v:I)(s:List UInt8)(h:J){Q:bF->ag->Prop}(H:∃aQ:Nat,bU Tryz.prog h 22 v=some (.int .i64 (.ofNat aQ))/\¬i<aQ/\Q (.exit 0) (ag.mk [(0,.str s)] [] .none h)):
  bw Tryz.prog Tryz.f68 call [1,1,0,1,0,0] ⟨[(0,.str s),(1,v),(5,.int .i64 (.ofNat i))],[],.none,h⟩ Q:=
 e6 [(1014,.f)] [0] [(0,.v (.str s)),(1,.o v),(5,.v (.int .i64 (.ofNat i)))] rfl (Eq.mp (by kernel_rfl) H)
theorem X3(m:Nat)(s:List UInt8)(p:List UInt8)(cA:Bool)(vv:I)(bu:I)(h:J){R:an->Prop}(H:I.bY vv=true/\I.bY bu=true/\∃s1:List UInt8,aq (J.push h (.cells [.str p,.bool cA,vv,bu] 24 .own 0 0)) h.n (0+0)=some (.str s1)/\∃s2:List UInt8,∃ao:J,(Y m) (.fn 43) [.str s,.str s1] (J.push h (.cells [.str p,.bool cA,vv,bu] 24 .own 0 0))=.ret (.str s2) ao/\∃a8:Bool,aq ao h.n (0+1)=some (.bool a8)/\(a8=true->∃bE:List UInt8,∃ar:J,(Y m) (.fn 44) [.str s2,.int .u64 (.ofNat 1)] ao=.ret (.str bE) ar/\R (.ret (.str bE) ar))/\(a8=false->∃bX:List UInt8,∃aZ:J,(Y m) (.fn 44) [.str s2,.int .u64 (.ofNat 0)] (ao.room 9)=.ret (.str bX) aZ/\∃v1:I,aq aZ h.n (0+2)=some v1/\∃cZ:List UInt8,∃ch:J,(Y m) (.fn 68) [.str bX,v1] aZ=.ret (.str cZ) ch/\∃v2:I,aq ch h.n (0+3)=some v2/\∃ea:List UInt8,∃dQ:J,(Y m) (.fn 68) [.str cZ,v2] ch=.ret (.str ea) dQ/\I.sound v1=true/\aq (ao.room 9) h.n (0+2)=some v1/\I.sound v2=true/\aq aZ h.n (0+3)=some v2/\aq (ao.room 9) h.n (0+3)=some v2/\R (.ret (.str ea) dQ))):
  R (Y (m+1) (.fn 45) [.str s,.agg [.str p,.bool cA,vv,bu]] h):=
 dF (intr:=bT) [] [(0,.v (.str s)),(1,.eD [.v (.str p),.v (.bool cA),.o vv,.o bu])] Tryz.func45 (by kernel_rfl) (by kernel_rfl) (by kernel_rfl) rfl (Eq.mp (by kernel_rfl) H)
theorem X4(m:Nat)(s:List UInt8)(h:J){R:an->Prop}(H:(1<=List.length s->R (.ret (.bool (dn (.ofNat (List.length s)) (.ofNat 24))) h))/\(¬1<=List.length s->R (.ret (.bool false) h))):
  R (Y (m+1) (.fn 77) [.str s] h):=
 dF (intr:=bT) [] [(0,.v (.str s))] Tryz.func77 (by kernel_rfl) (by kernel_rfl) (by kernel_rfl) rfl (Eq.mp (by kernel_rfl) H)
theorem X5(m:Nat)(v:I)(h:J){R:an->Prop}(H:bw Tryz.prog Tryz.f61 (Y m) [1,0,1,0] (ag.mk [(0,v),(3,.int .i64 (.ofNat 0))] [] .none h) (λcG cH=>((∃ao:J,∃bp:Env,cG=.exit 0/\cH=ag.mk bp [] .none ao/\cC [] bp/\R (.ret (.bool true) ao))\/(∃ar:J,∃bB:Env,cG=.ret/\cH=ag.mk bB [] .none ar/\cC [(2,.bool false)] bB/\R (.ret (.bool false) ar))))):
  R (Y (m+1) (.fn 61) [v] h):=
 dF (intr:=bT) [(4000,.ik [0,3] [(.exit 0,[]),(.ret,[(2,.is (.bool false))])])] [(0,.o v)] Tryz.func61 (by kernel_rfl) (by kernel_rfl) (by kernel_rfl) rfl (Eq.mp (by kernel_rfl) H)
theorem X6(call:ay->List I->J->an)(a8:Nat)(cq:Nat)(dm:Nat)(i:Nat)(c1:b5)(h:J){Q:bF->ag->Prop}(H:i<dm/\i<dm/\∃s1:List UInt8,aq (h.room 34) a8 (cq+i*2+0)=some (.str s1)/\∃aI:Bool,∃ao:J,call (.fn 77) [.str s1] (h.room 34)=.ret (.bool aI) ao/\(aI=true->(0<i->i<dm/\∃s2:List UInt8,aq ao a8 (cq+i*2+0)=some (.str s2)/\(1<=i/\i<9223372036854775808)/\i-1<dm/\∃bE:List UInt8,aq ao a8 (cq+(i-1)*2+0)=some (.str bE)/\((!dN bE s2)=true->Q .ret (ag.mk [(0,.slice a8 cq dm c1),(2,.bool false),(3,.int .i64 (.ofNat i))] [] .none ao))/\((!dN bE s2)=false->i<dm/\∃v1:I,aq ao a8 (cq+i*2+1)=some v1/\∃aQ:Nat,∃ar:J,call (.fn 78) [v1] ao=.ret (.int .i64 (.ofNat aQ)) ar/\I.sound v1=true/\(aQ=0->i+1<9223372036854775808/\Q .nrm (ag.mk [(0,.slice a8 cq dm c1),(3,.int .i64 (.ofNat (i+1)))] [] .none ar))/\(¬aQ=0->Q .ret (ag.mk [(0,.slice a8 cq dm c1),(2,.bool false),(3,.int .i64 (.ofNat i))] [] .none ar))))/\(¬0<i->i<dm/\∃v2:I,aq ao a8 (cq+i*2+1)=some v2/\∃bI:Nat,∃aZ:J,call (.fn 78) [v2] ao=.ret (.int .i64 (.ofNat bI)) aZ/\I.sound v2=true/\(bI=0->i+1<9223372036854775808/\Q .nrm (ag.mk [(0,.slice a8 cq dm c1),(3,.int .i64 (.ofNat (i+1)))] [] .none aZ))/\(¬bI=0->Q .ret (ag.mk [(0,.slice a8 cq dm c1),(2,.bool false),(3,.int .i64 (.ofNat i))] [] .none aZ))))/\(aI=false->Q .ret (ag.mk [(0,.slice a8 cq dm c1),(2,.bool false),(3,.int .i64 (.ofNat i))] [] .none ao))):
  bw Tryz.prog Tryz.f61 call [1,0,1,0,0] ⟨[(0,.slice a8 cq dm c1),(3,.int .i64 (.ofNat i))],[],.none,h⟩ Q:=
 e6 [(1007,.t),(40,.b2 .o)] [0,2,3] [(0,.v (.slice a8 cq dm c1)),(3,.v (.int .i64 (.ofNat i)))] rfl (Eq.mp (by kernel_rfl) H)
theorem X7(call:ay->List I->J->an)(i:Nat)(v:I)(h:J){Q:bF->ag->Prop}(H:∃aQ:Nat,bU Tryz.prog h 22 v=some (.int .i64 (.ofNat aQ))/\¬i<aQ/\Q (.exit 0) (ag.mk [] [] .none h)):
  bw Tryz.prog Tryz.f61 call [1,0,1,0,0] ⟨[(0,v),(3,.int .i64 (.ofNat i))],[],.none,h⟩ Q:=
 e6 [(1007,.f)] [] [(0,.o v),(3,.v (.int .i64 (.ofNat i)))] rfl (Eq.mp (by kernel_rfl) H)
theorem X8(m:Nat)(p:List UInt8)(cA:Bool)(vv:I)(bu:I)(h:J){R:an->Prop}(H:I.bY vv=true/\I.bY bu=true/\∃v1:I,aq (J.push h (.cells [.str p,.bool cA,vv,bu] 24 .own 0 0)) h.n (0+2)=some v1/\∃a8:Bool,∃ao:J,(Y m) (.fn 61) [v1] (J.push h (.cells [.str p,.bool cA,vv,bu] 24 .own 0 0))=.ret (.bool a8) ao/\(a8=true->∃v2:I,aq ao h.n (0+3)=some v2/\∃aI:Bool,∃ar:J,(Y m) (.fn 61) [v2] ao=.ret (.bool aI) ar/\(aI=true->∃cK:Bool,aq ar h.n (0+1)=some (.bool cK)/\(cK=true->∃cX:I,aq ar h.n (0+2)=some cX/\∃aQ:Nat,bU Tryz.prog ar 22 cX=some (.int .i64 (.ofNat aQ))/\(aQ=0->∃v4:I,aq ar h.n (0+3)=some v4/\∃bI:Nat,bU Tryz.prog ar 22 v4=some (.int .i64 (.ofNat bI))/\R (.ret (.bool (a7 (.ofNat bI) (.ofNat 0))) ar))/\(¬aQ=0->R (.ret (.bool false) ar)))/\(cK=false->R (.ret (.bool true) ar)))/\(aI=false->R (.ret (.bool false) ar)))/\(a8=false->R (.ret (.bool false) ao))):
  R (Y (m+1) (.fn 34) [.agg [.str p,.bool cA,vv,bu]] h):=
 dF (intr:=bT) [] [(0,.eD [.v (.str p),.v (.bool cA),.o vv,.o bu])] Tryz.func34 (by kernel_rfl) (by kernel_rfl) (by kernel_rfl) rfl (Eq.mp (by kernel_rfl) H)
theorem X9(m:Nat)(p:List UInt8)(cA:Bool)(vv:I)(bu:I)(h:J){R:an->Prop}(H:I.bY vv=true/\I.bY bu=true/\∃s1:List UInt8,∃a8:Bool,∃v1:I,∃v2:I,aD.loadCells (J.push h (.cells [.str p,.bool cA,vv,bu] 24 .own 0 0)) h.n 0 4=some [.str s1,.bool a8,v1,v2]/\∃aI:Bool,∃ao:J,(Y m) (.fn 34) [.agg [.str s1,.bool a8,v1,v2]] (J.push h (.cells [.str p,.bool cA,vv,bu] 24 .own 0 0))=.ret (.bool aI) ao/\(aI=true->∃s2:List UInt8,∃cK:Bool,∃cX:I,∃v4:I,aD.loadCells ao h.n 0 4=some [.str s2,.bool cK,cX,v4]/\∃bE:List UInt8,∃ar:J,(Y m) (.fn 45) [.str [],.agg [.str s2,.bool cK,cX,v4]] ao=.ret (.str bE) ar/\R (.ret (.str bE) ar))/\(aI=false->R (.ret (.str []) ao))):
  R (Y (m+1) (.fn 18) [.agg [.str p,.bool cA,vv,bu]] h):=
 dF (intr:=bT) [(3,.b2 (.eD [.st,.b,.o,.o])),(6,.b2 (.eD [.st,.b,.o,.o]))] [(0,.eD [.v (.str p),.v (.bool cA),.o vv,.o bu])] Tryz.func18 (by kernel_rfl) (by kernel_rfl) (by kernel_rfl) rfl (Eq.mp (by kernel_rfl) H)
def lY(aJ ws:List aU):List aU:=List.zipWith (λn w=>ev n++w) aJ ws
def kM(k:Nat)(bD:aU)(aJ ws:List aU)(r:aU):aU:=
 if k=6 then ev bD else if k=7 then df aJ.length++(lY aJ ws).flatten else if k=8 then df ws.length++ws.flatten++r else if k=9 then df ws.length++ws.flatten else[]
mutual
def j3:a5->aU
 |.mk k bD aJ xs rt=>df k++kM k bD aJ (dM xs) (hl rt)
def dM:List a5->List aU
 |[]=>[]
 |t::ts=>j3 t::dM ts
def hl:Option a5->aU
 |none=>[]
 |some t=>j3 t
end
theorem AY:∀l:List a5,(dM l).length=l.length
 |[]=>by rw[dM];rfl
 |x::l=>by rw[dM];simp[AY l]
theorem x5:∀(l:List a5) (i:Nat) (h:i<l.length) (al:i<(dM l).length),(dM l)[i]=j3 l[i]
 |[],i,h,_=>by simp at h
 |x::l,0,_,_=>by simp only[dM];rfl
 |x::l,i+1,h,al=>by
  have:=x5 l i (by simpa using h) (by rw[AY];simpa using h)
  simpa only[dM,List.getElem_cons_succ] using this
theorem Lp(k:Nat)(bD:aU)(aJ:List aU)(xs:List a5)(rt:Option a5):j3 (.mk k bD aJ xs rt)=df k++kM k bD aJ (dM xs) (hl rt):=by rw[j3]
theorem x6(l:List aU){i:Nat}(h:i<l.length):(l.take (i+1)).flatten=(l.take i).flatten++l[i]:=by
 rw[List.take_succ_eq_append_getElem h,List.flatten_append];simp
theorem x7(l:List aU)(i:Nat):(l.take i).flatten.length<=l.flatten.length:=by
 conv=>rhs;rw[<-List.take_append_drop i l]
 rw[List.flatten_append,List.length_append];omega
mutual
def mJ:a5->Bool
 |.mk k bD aJ xs rt=>decide (k<=9)&&(decide (k≠7)||decide (xs.length=aJ.length))&&(decide (k≠8)||rt.isSome)&&tB xs&&vk rt
def tB:List a5->Bool
 |[]=>true
 |t::ts=>mJ t&&tB ts
def vk:Option a5->Bool
 |none=>true
 |some t=>mJ t
end
mutual
theorem Ff:∀t:a5,okW t=true->mJ t=true
 |.mk k bD aJ xs rt,h=>by
  rw[okW] at h
  rw[mJ]
  simp only[Bool.and_eq_true,decide_eq_true_eq] at h⊢
  obtain⟨⟨⟨⟨⟨_,aa⟩,ad⟩,ax⟩,aO⟩,bZ⟩:=h
  exact⟨⟨⟨⟨aa,ad⟩,ax⟩,Lq xs aO⟩,X_ rt bZ⟩
theorem Lq:∀l:List a5,p1 l=true->tB l=true
 |[],_=>by rw[tB]
 |t::l,h=>by
  rw[p1,Bool.and_eq_true] at h
  rw[tB,Ff t h.1,Lq l h.2];rfl
theorem X_:∀o:Option a5,tg o=true->vk o=true
 |none,_=>by rw[vk]
 |some t,h=>by
  rw[tg] at h
  rw[vk];exact Ff t h
end
theorem AZ{t:a5}:∀{l:List a5},tB l=true->t∈l->mJ t=true
 |[],_,h=>by cases h
 |x::l,au,h=>by
  rw[tB,Bool.and_eq_true] at au
  rcases List.mem_cons.1 h with rfl|h
  · exact au.1
  · exact AZ au.2 h
def h9(b:Nat)(h:J)(s:aU):Prop:=b<h.n/\h.get b=some (.cells [.str s] 83 .own 0 0)
theorem h9.ext{b:Nat}{h g:J}{s:aU}(au:h9 b h s)(e:Ext h.n h g):h9 b g s:=⟨Nat.lt_of_lt_of_le au.1 e.n,(e.get b au.1).trans au.2⟩
def pg(b:Nat)(h:J)(s:aU)(x:an):Prop:=∃g,x=.ret (.aW []) g/\h9 b g s/\fa b h.n h g
theorem Fg(n:Nat)(aK:n<9223372036854775808)(h:J):eR Tryz.prog 3 65 (.int .i64 (Int.ofNat n)) h=.val (.int .u64 (Int.ofNat n)) h:=ej.AT n aK h
theorem vl(m b n:Nat)(s:aU)(h:J)(au:h9 b h s)(aK:n<=1000000000)(hs:s.length<=1000000000):pg b h (s++df n) (Y (m+5) (.fn 41) [.ptr b 0,.int .i64 (Int.ofNat n)] h):=by
 obtain⟨g,c,x⟩:=ej.Ll m n s h (by omega) hs
 have md:=(x.get b au.1).trans au.2
 refine XF (m+4) b n h ⟨s,aH au.2 rfl,_,Fg n (by omega) h,_,g,c,_,iG md rfl rfl,_,rfl,⟨Nat.lt_of_lt_of_le au.1 x.n,iF rfl⟩,(x.pR b).trans (Nat.le_refl _) (fa.set _)⟩
theorem A0(m b:Nat)(s t:aU)(h:J)(au:h9 b h s)(hs:s.length<=100000000)(a6:t.length<=100000000):pg b h (s++ev t) (Y (m+6) (.fn 38) [.ptr b 0,.str t] h):=by
 obtain⟨g,c,x⟩:=ej.XE m s t h hs a6
 have md:=(x.get b au.1).trans au.2
 refine XG (m+5) b t h ⟨s,aH au.2 rfl,_,g,c,_,iG md rfl rfl,_,rfl,⟨Nat.lt_of_lt_of_le au.1 x.n,iF rfl⟩,(x.pR b).trans (Nat.le_refl _) (fa.set _)⟩
theorem _root_.aD.fa.tail{b:Nat}{h g k:J}(e:fa b h.n h g)(cY:fa b g.n g k):fa b h.n h k:=e.trans e.n cY
theorem _root_.aD.fa.x8{b:Nat}{h g:J}(n:Nat)(e:fa b h.n h g):fa b h.n h (g.room n):=e.trans e.n ((Ext.room _ g n).pR b)
theorem h9.room{b:Nat}{h:J}{s:aU}(n:Nat)(au:h9 b h s):h9 b (h.room n) s:=⟨by simp;exact Nat.lt_of_lt_of_le au.1 (by omega),au.2⟩
theorem below{b B:Nat}{h g:J}(af:B<=b)(WJ:B<=h.n)(e:fa b h.n h g):Ext B h g:=⟨e.n,λd aG=>e.get d (by omega) (by omega)⟩
theorem Lr(m:Nat){b B:Nat}{h0:J}{v:I}{vs:List I}(ws:List aU)(af:B<=b)(aE:cL B h0 v vs)(hlen:vs.length<=90000)(ie:ws.length=vs.length)(iD:∀i (ae:i<vs.length),∃z,vs[i]=.ptr z 0)
  (pH:∀i (ae:i<vs.length) x s,h9 b x s->Ext B h0 x->s.length+(wn ws i).length<=1000000->pg b x (s++wn ws i) (Y (m+5) (.fn 81) [.ptr b 0,vs[i]] x))
  {x:J}{s:aU}(ab:h9 b x s)(ep:Ext B h0 x)(au:s.length+(df ws.length++ws.flatten).length<=1000000):
  pg b x (s++(df ws.length++ws.flatten)) (Y (m+6) (.fn 93) [.ptr b 0,v,.fn 81 [.ptr b 0] []] x):=by
 have dv:∀g,Ext B h0 g->bU Tryz.prog g 49 v=some (.int .i64 (Int.ofNat vs.length)):=λg x=>(aE.bH (dT.ext x (Nat.le_refl _))).len (t:=49) (e:=47) (by kernel_rfl)
 simp only[List.length_append] at au
 obtain⟨ao,c1,bp,bh⟩:=vl m b vs.length s x ab (by omega) (by omega)
 have aA:=ep.trans (Nat.le_refl _) (below af (Nat.le_trans af (Nat.le_of_lt ab.1)) bh)
 refine XK (m+5) b v x ⟨_,dv x ep,ao,c1,_,dv ao aA,?_⟩
 refine bw.loop (by kernel_rfl) (λk st=>∃i y Γ,st=⟨Γ,[],.none,y⟩/\cC [(2,.fn 81 [.ptr b 0] []),(14,v),(15,.int .i64 (Int.ofNat vs.length)),(16,.int .i64 (Int.ofNat i))] Γ/\vs.length-i=k/\i<=vs.length/\h9 b y (s++(df ws.length++(ws.take i).flatten))/\fa b x.n x y) ?_ vs.length _ (by omega) ⟨0,ao,_,rfl,⟨rfl,rfl,rfl,rfl,trivial⟩,by omega,by omega,by simpa[ie] using bp,bh⟩
 rintro k st ⟨i,y,Γ,rfl,dd,aw,ae,bg,ko⟩
 have ec:=ep.trans (Nat.le_refl _) (below af (Nat.le_trans af (Nat.le_of_lt ab.1)) ko)
 rcases aE with⟨rfl,rfl⟩|⟨da,off,aB,rfl,mK,gD,bl,aG⟩
 · have hw:ws=[]:=List.eq_nil_of_length_eq_zero ie
   subst hw
   exact bw.pre (XM (Y (m+5)) b _ i .a_ y ⟨by simp,y,_,rfl,rfl,trivial,y,rfl,by simpa using bg,ko⟩) dd rfl rfl rfl
 · refine bw.pre (XL (Y (m+5)) b da off _ i aB y ⟨λaa=>?_,λaa=>?_⟩) dd rfl rfl rfl
   · have ad:i<ws.length:=by omega
     obtain⟨z,a4⟩:=iD i aa
     have t1:=x7 ws (i+1)
     have t2:=x6 ws ad
     rw[t2] at t1
     simp only[List.length_append] at t1
     have xM:wn ws i=ws[i]:=by simp[wn,ad]
     have Ya:=pH i aa y _ bg ec (by rw[xM,List.length_append,List.length_append];omega)
     obtain⟨ar,c2,bB,bz⟩:=Ya
     rw[a4] at c2
     refine⟨aa,z,(gE ec mK (gD i aa)).trans (by rw[a4]),ar,c2,by omega,_,(by show vs.length-(i+1)<k;omega),i+1,ar,_,rfl,⟨rfl,rfl,rfl,rfl,trivial⟩,rfl,by omega,?_,ko.tail bz⟩
     rw[t2]
     simpa[wn,ad,List.append_assoc] using bB
   · refine⟨y,_,rfl,rfl,trivial,y,rfl,?_,ko⟩
     rw[List.take_of_length_le (by omega)] at bg
     exact bg
end Go.Proofs.eN
namespace Go.Proofs.eN
open Go aD Go.Proofs dE Go.Proofs.cR
open Go.Proofs.ej (ev)
open Go.Proofs.hy (df)
set_option maxRecDepth 100000
set_option maxHeartbeats 1000000
theorem vm(t:aU):t.length<=(ev t).length:=by simp[ej.ev]
theorem Ls(aJ ws:List aU)(h:aJ.length=ws.length):(lY aJ ws).length=aJ.length:=by unfold lY;rw[List.length_zipWith];omega
theorem Lt{aJ ws:List aU}{i:Nat}(ae:i<(lY aJ ws).length)(aa:i<aJ.length)(ad:i<ws.length):(lY aJ ws)[i]=ev aJ[i]++ws[i]:=List.getElem_zipWith (f:=λn w=>ev n++w) (h:=ae)
theorem h9.below{b B:Nat}{h0 x y:J}{s:aU}(af:B<=b)(ab:h9 b x s)(ep:Ext B h0 x)(ko:fa b x.n x y):Ext B h0 y:=ep.trans (Nat.le_refl _) (eN.below af (Nat.le_trans af (Nat.le_of_lt ab.1)) ko)
theorem cN.x9{B:Nat}{h:J}:∀{t:a5} {v:I},cN B h t v->∃R,v=.ptr R 0
 |.mk dD ef g2 kG my,v,a6=>by obtain⟨R,_,_,_,_,_,_,_,rfl,_⟩:=a6;exact⟨R,rfl⟩
theorem Lu:∀(K:Nat) (t:a5),sz t<=K->mJ t=true->sz t<=90000->g6 t<=90000->∀(m b B:Nat) (h0:J) (v:I),B<=b->2*sz t+8<=m->cN B h0 t v->∀(x:J) (s:aU),h9 b x s->Ext B h0 x->s.length+(j3 t).length<=1000000->pg b x (s++j3 t) (Y m (.fn 81) [.ptr b 0,v] x)
 |0,t,dq,_,_,_,_,_,_,_,_,_,_,_,_,_,_,_,_=>by
  have:=nV t
  omega
 |K+1,.mk k bD aJ xs rt,dq,dw,fO,jQ,m,b,B,h0,v,af,hm,aE,x,s,ab,ep,au=>by
  obtain⟨R,cD,bR,cl,vs,bS,bf,up,rfl,ad,ax,aO,bZ,dj,ek⟩:=aE
  rw[mJ] at dw
  simp only[Bool.and_eq_true,Bool.or_eq_true,decide_eq_true_eq] at dw
  obtain⟨⟨⟨⟨jz,g8⟩,jB⟩,qa⟩,qb⟩:=dw
  rw[o4] at dq fO hm
  rw[g6] at jQ
  rw[Lp] at au⊢
  obtain⟨m,rfl⟩:∃j,m=j+7:=⟨m-7,by omega⟩
  have e3:=c6.len dj
  have kT:=nW xs
  have ie:=AY xs
  have tk:(aJ.map I.str).length=aJ.length:=List.length_map _
  have ba:∀(u:a5),sz u<=K->mJ u=true->sz u<=90000->g6 u<=90000->∀(m b B:Nat) (h0:J) (v:I),B<=b->2*sz u+8<=m->cN B h0 u v->∀(x:J) (s:aU),h9 b x s->Ext B h0 x->s.length+(j3 u).length<=1000000->pg b x (s++j3 u) (Y m (.fn 81) [.ptr b 0,v] x):=Lu K
  have fq:∀y,Ext B h0 y->y.get R=some (.cells [.int .i64 (Int.ofNat k),.str bD,cD,bR,cl] 51 bS bf up):=λy e=>(e.get R ad).trans ax
  have xQ:∀g,Ext B h0 g->bU Tryz.prog g 48 cD=some (.int .i64 (Int.ofNat aJ.length)):=λg x=>by
   rw[<-tk];exact(aO.bH (dT.ext x (Nat.le_refl _))).len (t:=48) (e:=9) (by kernel_rfl)
  have item:∀i (ae:i<vs.length) y s,h9 b y s->Ext B h0 y->s.length+(wn (dM xs) i).length<=1000000->pg b y (s++wn (dM xs) i) (Y (m+5) (.fn 81) [.ptr b 0,vs[i]] y):=λi ae y s bg ec au=>by
   have i2:i<xs.length:=by omega
   have a4:=ki (List.getElem_mem i2)
   have aK:=rp (List.getElem_mem i2)
   rw[show wn (dM xs) i=j3 xs[i] by simp[wn,ie,i2,x5 xs i i2]] at au⊢
   exact ba xs[i] (by omega) (AZ qa (List.getElem_mem i2)) (by omega) (by omega) (m+5) b B h0 vs[i] af (by omega) (c6.get dj i ae i2) y s bg ec au
  simp only[List.length_append] at au
  have j4:Ext B h0 (x.room 8):=ep.trans (Nat.le_refl _) (Ext.room B x 8)
  obtain⟨ao,c1,bp,bh⟩:=vl (m+1) b k s (x.room 8) (ab.room 8) (by omega) (by omega)
  have rB:fa b x.n x (x.room 8):=(fa.refl b x.n x).x8 8
  have jd:fa b x.n x ao:=rB.trans (Nat.le_trans ab.1 (Nat.le_refl _)|> λ_=>by simp) bh
  have aA:=ab.below af ep jd
  refine XH (m+6) b R x ⟨k,aH (fq _ j4) rfl,ao,c1,k,aH (fq _ aA) rfl,λfg=>?_,λfg=>⟨λeI=>?_,λeI=>⟨λfP=>?_,λfP=>⟨λfE=>?_,λfE=>?_⟩⟩⟩⟩
  · subst fg
    have ai:kM 6 bD aJ (dM xs) (hl rt)=ev bD:=rfl
    rw[ai] at au⊢
    have:=vm bD
    have tC:=aA.trans (Nat.le_refl _) (Ext.room B ao 8)
    obtain⟨ar,c2,bB,bz⟩:=A0 m b (s++df 6) bD (ao.room 8) (bp.room 8) (by rw[List.length_append];omega) (by omega)
    exact⟨bD,aH (fq _ tC) rfl,ar,c2,ar,rfl,by rw[<-List.append_assoc];exact bB,(jd.x8 8).trans (jd.x8 8).n bz⟩
  · subst eI
    have su:xs.length=aJ.length:=by rcases g8 with g8|g8;exact absurd rfl g8;exact g8
    have ai:kM 7 bD aJ (dM xs) (hl rt)=df aJ.length++(lY aJ (dM xs)).flatten:=rfl
    rw[ai] at au⊢
    simp only[List.length_append] at au
    have tC:=aA.trans (Nat.le_refl _) (Ext.room B ao 9)
    have mY:=Ls aJ (dM xs) (by omega)
    obtain⟨ar,c2,bB,bz⟩:=vl (m+1) b aJ.length (s++df 7) (ao.room 9) (bp.room 9) (by omega) (by rw[List.length_append];omega)
    have ph:fa b x.n x ar:=(jd.x8 9).trans (jd.x8 9).n bz
    have aC:=ab.below af ep ph
    refine⟨cD,aH (fq _ tC) rfl,_,xQ _ tC,ar,c2,aO.snd,cD,aH (fq _ aC) rfl,_,xQ _ aC,?_⟩
    refine bw.loop (by kernel_rfl) (λt st=>∃i y Γ,st=⟨Γ,[],.none,y⟩/\cC [(0,.ptr b 0),(1,.ptr R 0),(42,cD),(43,.int .i64 (Int.ofNat aJ.length)),(44,.int .i64 (Int.ofNat i))] Γ/\aJ.length-i=t/\i<=aJ.length/\h9 b y (s++df 7++df aJ.length++((lY aJ (dM xs)).take i).flatten)/\fa b x.n x y) ?_ aJ.length _ (by omega) ⟨0,ar,_,rfl,⟨rfl,rfl,rfl,rfl,rfl,trivial⟩,by omega,by omega,by simpa using bB,ph⟩
    rintro t st ⟨i,y,Γ,rfl,dd,a6,ae,bg,ko⟩
    have ec:=ab.below af ep ko
    have Lv:i=aJ.length->h9 b y (s++(df 7++(df aJ.length++(lY aJ (dM xs)).flatten))):=λe=>by
     rw[List.take_of_length_le (by omega)] at bg
     simpa only[List.append_assoc] using bg
    rcases aO.strs with⟨rfl,rfl⟩|⟨a8,cq,Fh,rfl,eJ,Fi⟩
    · exact bw.pre (XJ (Y (m+6)) b R _ i .a_ y ⟨by simp,y,_,rfl,rfl,trivial,y,rfl,Lv (by simp at ae;simp[ae]),ko⟩) dd rfl rfl rfl
    · refine bw.pre (XI (Y (m+6)) b R a8 cq _ i Fh y ⟨λaa=>?_,λaa=>?_⟩) dd rfl rfl rfl
      · have i2:i<(dM xs).length:=by omega
        have i3:i<(lY aJ (dM xs)).length:=by omega
        have i4:i<vs.length:=by omega
        have t1:=x7 (lY aJ (dM xs)) (i+1)
        have t2:=x6 (lY aJ (dM xs)) i3
        have t3:=Lt i3 aa i2
        have xM:wn (dM xs) i=(dM xs)[i]:=by simp[wn,i2]
        rw[t2,t3] at t1
        simp only[List.length_append] at t1
        have t4:=vm aJ[i]
        rcases bZ with⟨_,wC⟩|⟨aI,eo,bQ,rfl,di,A1,_⟩
        · rw[wC] at i4;simp at i4
        obtain⟨aZ,c3,cU,db⟩:=A0 m b (s++df 7++df aJ.length++((lY aJ (dM xs)).take i).flatten) aJ[i] y bg (by simp only[List.length_append];omega) (by omega)
        have tr:=ko.trans ko.n db
        have bN:=ab.below af ep tr
        obtain⟨z,a4⟩:=cN.x9 (c6.get dj i i4 (by omega))
        obtain⟨ch,c4,hD,k7⟩:=ba xs[i] (by have:=ki (List.getElem_mem (l:=xs) (n:=i) (by omega));omega) (AZ qa (List.getElem_mem (by omega))) (by have:=ki (List.getElem_mem (l:=xs) (n:=i) (by omega));omega) (by have:=rp (List.getElem_mem (l:=xs) (n:=i) (by omega));omega) (m+6) b B h0 vs[i] af (by have:=ki (List.getElem_mem (l:=xs) (n:=i) (by omega));omega) (c6.get dj i i4 (by omega)) aZ _ cU bN (by rw[<-x5 xs i (by omega) i2];simp only[List.length_append];omega)
        rw[a4] at c4
        refine⟨aa,aJ[i],gE ec eJ (Fi i aa),aZ,c3,aI,eo,_,bQ,aH (fq _ bN) rfl,i4,z,(gE bN di (A1 i i4)).trans (by rw[a4]),ch,c4,by omega,_,(by show aJ.length-(i+1)<t;omega),i+1,ch,_,rfl,⟨rfl,rfl,rfl,rfl,rfl,trivial⟩,rfl,by omega,?_,tr.trans tr.n k7⟩
        rw[t2,t3,x5 xs i (by omega) i2]
        simpa only[List.append_assoc] using hD
      · exact⟨y,_,rfl,rfl,trivial,y,rfl,Lv (by omega),ko⟩
  · subst fP
    have ai:kM 8 bD aJ (dM xs) (hl rt)=df (dM xs).length++(dM xs).flatten++hl rt:=rfl
    rw[ai] at au⊢
    simp only[List.length_append] at au
    obtain⟨ar,c2,bB,bz⟩:=Lr m (b:=b) (B:=B) (h0:=h0) (v:=bR) (vs:=vs) (dM xs) af bZ (by omega) (by omega) (λi ae=>cN.x9 (c6.get dj i ae (by omega))) item (x:=ao) (s:=s++df 8) bp aA (by simp only[List.length_append];omega)
    have ph:=jd.trans jd.n bz
    have aC:=ab.below af ep ph
    cases rt with
    |none=>rcases jB with jB|jB<;>simp at jB
    |some u=>
     rw[im] at dq fO hm
     rw[p0] at jQ
     have qc:hl (some u)=j3 u:=by rw[hl]
     rw[qc] at au⊢
     rw[vk] at qb
     obtain⟨aZ,c3,cU,db⟩:=ba u (by omega) qb (by omega) (by omega) (m+6) b B h0 cl af (by omega) ek ar _ bB aC (by simp only[List.length_append];omega)
     exact⟨bR,aH (fq _ aA) rfl,ar,c2,cl,aH (fq _ aC) rfl,aZ,c3,aZ,rfl,by simpa only[List.append_assoc] using cU,ph.trans ph.n db⟩
  · subst fE
    have ai:kM 9 bD aJ (dM xs) (hl rt)=df (dM xs).length++(dM xs).flatten:=rfl
    rw[ai] at au⊢
    simp only[List.length_append] at au
    obtain⟨ar,c2,bB,bz⟩:=Lr m (b:=b) (B:=B) (h0:=h0) (v:=bR) (vs:=vs) (dM xs) af bZ (by omega) (by omega) (λi ae=>cN.x9 (c6.get dj i ae (by omega))) item (x:=ao) (s:=s++df 9) bp aA (by simp only[List.length_append];omega)
    exact⟨bR,aH (fq _ aA) rfl,ar,c2,ar,rfl,by simpa only[List.append_assoc] using bB,jd.trans jd.n bz⟩
  · have ai:kM k bD aJ (dM xs) (hl rt)=[]:=by unfold kM;rw[if_neg fg,if_neg eI,if_neg fP,if_neg fE]
    rw[ai]
    exact⟨ao,rfl,by simpa using bp,jd⟩
theorem Lw:∀(K:Nat) (t:a5),sz t<=K->mJ t=true->sz t<=90000->g6 t<=90000->∀(m B:Nat) (h:J) (v:I) (s:aU),B<=h.n->sz t+5<=m->cN B h t v->s.length+(j3 t).length<=1000000->bK B h (.str (s++j3 t)) (Y m (.fn 82) [.str s,v] h)
 |0,t,dq,_,_,_,_,_,_,_,_,_,_,_,_=>by
  have:=nV t
  omega
 |K+1,.mk k bD aJ xs rt,dq,dw,fO,jQ,m,B,h,v,s,bO,hm,aE,au=>by
  obtain⟨R,cD,bR,cl,vs,bS,bf,up,rfl,ad,ax,aO,bZ,dj,ek⟩:=aE
  rw[mJ] at dw
  simp only[Bool.and_eq_true,Bool.or_eq_true,decide_eq_true_eq] at dw
  obtain⟨⟨⟨⟨jz,g8⟩,jB⟩,qa⟩,qb⟩:=dw
  rw[o4] at dq fO hm
  rw[g6] at jQ
  rw[Lp] at au⊢
  obtain⟨m,rfl⟩:∃j,m=j+4:=⟨m-4,by omega⟩
  have e3:=c6.len dj
  have kT:=nW xs
  have ie:=AY xs
  have ba:∀(u:a5),sz u<=K->mJ u=true->sz u<=90000->g6 u<=90000->∀(m B:Nat) (h:J) (v:I) (s:aU),B<=h.n->sz u+5<=m->cN B h u v->s.length+(j3 u).length<=1000000->bK B h (.str (s++j3 u)) (Y m (.fn 82) [.str s,v] h):=Lw K
  have fq:∀y,Ext B h y->y.get R=some (.cells [.int .i64 (Int.ofNat k),.str bD,cD,bR,cl] 51 bS bf up):=λy e=>(e.get R ad).trans ax
  have dv:∀g,Ext B h g->bU Tryz.prog g 49 bR=some (.int .i64 (Int.ofNat vs.length)):=λg x=>(bZ.bH (dT.ext x (Nat.le_refl _))).len (t:=49) (e:=47) (by kernel_rfl)
  simp only[List.length_append] at au
  obtain⟨ao,c1,bh⟩:=ej.rI (m+1) k s h (by omega) (by omega)
  have aA:Ext B h ao:=bh.le bO
  have loop:(k=7\/k=8\/k=9)->∀(x_:J) (w:aU) (fl:Env) (items:List aU),Ext B h x_->items.length=vs.length->(∀i (ae:i<items.length) (ad:i<(dM xs).length),items[i]=(if k=7 then ev (wn aJ i) else[])++(dM xs)[i])->w.length+items.flatten.length<=1000000->cC [(0,.str w),(1,.ptr R 0),(5,.int .i64 (Int.ofNat 0))] fl->
    bw Tryz.prog Tryz.f82 (Y (m+3)) [1,1,0,1,0,1,1,1,0,1,1,0] ⟨fl,[],.none,x_⟩ (λcG cH=>∃(g:J) (b8:Env),cG=.exit 1/\cH=⟨b8,[],.none,g⟩/\cC [(0,.str (w++items.flatten)),(1,.ptr R 0)] b8/\Ext B h g):=λaax x_ w fl items ep n5 E0 aay Yb=>by
   refine bw.loop (by kernel_rfl) (λt st=>∃i y Γ,st=⟨Γ,[],.none,y⟩/\cC [(0,.str (w++(items.take i).flatten)),(1,.ptr R 0),(5,.int .i64 (Int.ofNat i))] Γ/\vs.length-i=t/\i<=vs.length/\Ext B h y) ?_ vs.length _ (by omega) ⟨0,x_,fl,rfl,by simpa using Yb,by omega,by omega,ep⟩
   rintro t st ⟨i,y,Γ,rfl,dd,a6,ae,ec⟩
   by_cases aa:i<vs.length
   · have i2:i<(dM xs).length:=by omega
     have i3:i<items.length:=by omega
     have i4:i<xs.length:=by omega
     have t1:=x7 items (i+1)
     have t2:=x6 items i3
     have t3:=E0 i i3 i2
     rw[t2,t3] at t1
     simp only[List.length_append] at t1
     have a4:=ki (List.getElem_mem i4)
     have aK:=rp (List.getElem_mem i4)
     rcases bZ with⟨_,wC⟩|⟨aI,eo,bQ,rfl,di,A1,_⟩
     · rw[wC] at aa;simp at aa
     obtain⟨z,l9⟩:=cN.x9 (c6.get dj i aa i4)
     have one:∀gj dI,Ext B h gj->dI.length+(dM xs)[i].length<=1000000->∃g,Y (m+3) (.fn 82) [.str dI,.ptr z 0] gj=.ret (.str (dI++(dM xs)[i])) g/\Ext B h g:=λgj dI aA fI=>by
      rw[x5 xs i i4 i2] at fI⊢
      obtain⟨g,c,x⟩:=ba xs[i] (by omega) (AZ qa (List.getElem_mem i4)) (by omega) (by omega) (m+3) B gj vs[i] dI (Nat.le_trans bO aA.n) (by omega) (cN.bH (dT.ext aA (Nat.le_refl _)) _ _ (c6.get dj i aa i4)) fI
      rw[l9] at c
      exact⟨g,c,aA.trans (Nat.le_refl _) x⟩
     have rD:∀g,Ext B h g->dX (λs=>∃j,j<t/\(λt st=>∃i y Γ,st=⟨Γ,[],.none,y⟩/\cC [(0,.str (w++(items.take i).flatten)),(1,.ptr R 0),(5,.int .i64 (Int.ofNat i))] Γ/\vs.length-i=t/\i<=vs.length/\Ext B h y) j s) (λcG cH=>∃(g:J) (b8:Env),cG=.exit 1/\cH=⟨b8,[],.none,g⟩/\cC [(0,.str (w++items.flatten)),(1,.ptr R 0)] b8/\Ext B h g) .nrm ⟨[(0,.str (w++(items.take (i+1)).flatten)),(1,.ptr R 0),(5,.int .i64 (Int.ofNat (i+1)))],[],.none,g⟩:=λg fx=>
      ⟨_,(by show vs.length-(i+1)<t;omega),i+1,g,_,rfl,⟨rfl,rfl,rfl,trivial⟩,rfl,by omega,fx⟩
     refine bw.pre (XY (Y (m+3)) R i _ y ⟨aI,eo,_,bQ,aH (fq _ ec) rfl,aa,k,aH (fq _ ec) rfl,λeI=>?_,λeI=>?_⟩) dd rfl rfl rfl
     · subst eI
       have su:xs.length=aJ.length:=by rcases g8 with g8|g8;exact absurd rfl g8;exact g8
       have i5:i<aJ.length:=by omega
       rcases aO.strs with⟨_,Yc⟩|⟨a8,cq,Fh,rfl,eJ,Fi⟩
       · rw[Yc] at i5;simp at i5
       have Lx:wn aJ i=aJ[i]:=by simp[wn,i5]
       rw[if_pos rfl,Lx] at t3
       rw[if_pos rfl,Lx] at t1
       have t4:=vm aJ[i]
       obtain⟨ar,c2,bz⟩:=ej.AU m (w++(items.take i).flatten) aJ[i] y (by simp only[List.length_append];omega) (by omega)
       have aC:Ext B h ar:=ec.trans (Nat.le_refl _) (bz.le (Nat.le_trans bO ec.n))
       obtain⟨aZ,c3,bN⟩:=one ar (w++(items.take i).flatten++ev aJ[i]) aC (by simp only[List.length_append];omega)
       refine⟨a8,cq,_,Fh,aH (fq _ ec) rfl,i5,aJ[i],gE ec eJ (Fi i i5),_,ar,c2,aI,eo,_,bQ,aH (fq _ aC) rfl,aa,z,(gE aC di (A1 i aa)).trans (by rw[l9]),_,aZ,c3,by omega,?_⟩
       have:=rD aZ bN
       rw[t2,t3] at this
       simpa only[List.append_assoc] using this
     · rw[if_neg eI,List.nil_append] at t3
       rw[if_neg eI] at t1
       simp only[List.length_nil] at t1
       obtain⟨aZ,c3,bN⟩:=one y (w++(items.take i).flatten) ec (by simp only[List.length_append];omega)
       refine⟨aI,eo,_,bQ,aH (fq _ ec) rfl,aa,z,(gE ec di (A1 i aa)).trans (by rw[l9]),_,aZ,c3,by omega,?_⟩
       have:=rD aZ bN
       rw[t2,t3] at this
       simpa only[List.append_assoc] using this
   · refine bw.pre (XZ (Y (m+3)) R i _ y ⟨bR,aH (fq _ ec) rfl,_,dv _ ec,aa,?_⟩) dd rfl rfl rfl
     rw[List.take_of_length_le (by omega)]
     exact⟨y,_,rfl,rfl,⟨rfl,rfl,trivial⟩,ec⟩
  have mc:∀n (g:J),n<=90000->eR Tryz.prog 3 65 (.int .i64 (Int.ofNat n)) g=.val (.int .u64 (Int.ofNat n)) g:=λn g aK=>Fg n (by omega) g
  have fin:∀{w:aU} {y:J},w=s++(df k++kM k bD aJ (dM xs) (hl rt))->Ext B h y->bK B h (.str (s++(df k++kM k bD aJ (dM xs) (hl rt)))) (.ret (.str w) y):=λhw e=>bK.of (by rw[hw]) e
  refine XX (m+3) R s h ⟨k,aH ax rfl,k,mc k h (by omega),_,ao,c1,k,aH (fq _ aA) rfl,λfg=>?_,λfg=>⟨λeI=>?_,λeI=>⟨λfP=>?_,λfP=>⟨λfE=>?_,λfE=>?_⟩⟩⟩⟩
  · subst fg
    have ai:kM 6 bD aJ (dM xs) (hl rt)=ev bD:=rfl
    rw[ai] at au
    have:=vm bD
    obtain⟨ar,c2,bz⟩:=ej.AU m (s++df 6) bD ao (by rw[List.length_append];omega) (by omega)
    exact⟨bD,aH (fq _ aA) rfl,_,ar,c2,fin (by rw[ai,List.append_assoc]) (aA.trans (Nat.le_refl _) (bz.le (Nat.le_trans bO aA.n)))⟩
  · subst eI
    have su:xs.length=aJ.length:=by rcases g8 with g8|g8;exact absurd rfl g8;exact g8
    have ai:kM 7 bD aJ (dM xs) (hl rt)=df aJ.length++(lY aJ (dM xs)).flatten:=rfl
    rw[ai] at au
    simp only[List.length_append] at au
    have qk:vs.length=aJ.length:=by omega
    obtain⟨ar,c2,bz⟩:=ej.rI (m+1) vs.length (s++df 7) ao (by omega) (by rw[List.length_append];omega)
    have aC:Ext B h ar:=aA.trans (Nat.le_refl _) (bz.le (Nat.le_trans bO aA.n))
    have mY:=Ls aJ (dM xs) (by omega)
    refine⟨bR,aH (fq _ aA) rfl,_,dv _ aA,_,mc vs.length ao (by omega),_,ar,c2,bw.mono (loop (.inl rfl) ar _ _ (lY aJ (dM xs)) aC (by omega) (λi ae ad=>by
     have i5:i<aJ.length:=by omega
     rw[Lt ae i5 ad,if_pos rfl];simp[wn,i5]) (by simp only[List.length_append];rw[qk];omega) ⟨rfl,rfl,rfl,trivial⟩) ?_⟩
    rintro cG cH ⟨g,b8,rfl,rfl,qf,fx⟩
    exact⟨_,_,g,b8,rfl,rfl,qf,_,aH (fq _ fx) rfl,λe=>by omega,λ_=>fin (by rw[ai,qk];simp only[List.append_assoc]) fx⟩
  · subst fP
    have ai:kM 8 bD aJ (dM xs) (hl rt)=df (dM xs).length++(dM xs).flatten++hl rt:=rfl
    rw[ai] at au
    simp only[List.length_append] at au
    have qk:vs.length=(dM xs).length:=by omega
    obtain⟨ar,c2,bz⟩:=ej.rI (m+1) vs.length (s++df 8) ao (by omega) (by rw[List.length_append];omega)
    have aC:Ext B h ar:=aA.trans (Nat.le_refl _) (bz.le (Nat.le_trans bO aA.n))
    refine⟨bR,aH (fq _ aA) rfl,_,dv _ aA,_,mc vs.length ao (by omega),_,ar,c2,bw.mono (loop (.inr (.inl rfl)) ar _ _ (dM xs) aC (by omega) (λi ae ad=>by rw[if_neg (by omega)];rfl) (by simp only[List.length_append];rw[qk];omega) ⟨rfl,rfl,rfl,trivial⟩) ?_⟩
    rintro cG cH ⟨g,b8,rfl,rfl,qf,fx⟩
    cases rt with
    |none=>rcases jB with jB|jB<;>simp at jB
    |some u=>
     rw[im] at dq fO hm
     rw[p0] at jQ
     have qc:hl (some u)=j3 u:=by rw[hl]
     rw[qc] at au
     rw[vk] at qb
     obtain⟨aZ,c3,db⟩:=ba u (by omega) qb (by omega) (by omega) (m+3) B g cl (s++df 8++df vs.length++(dM xs).flatten) (Nat.le_trans bO fx.n) (by omega) (cN.bH (dT.ext fx (Nat.le_refl _)) _ _ ek) (by simp only[List.length_append];rw[qk];omega)
     exact⟨_,_,g,b8,rfl,rfl,qf,_,aH (fq _ fx) rfl,λ_=>⟨cl,aH (fq _ fx) rfl,_,aZ,c3,fin (by rw[ai,qc,qk];simp only[List.append_assoc]) (fx.trans (Nat.le_refl _) db)⟩,λe=>absurd rfl e⟩
  · subst fE
    have ai:kM 9 bD aJ (dM xs) (hl rt)=df (dM xs).length++(dM xs).flatten:=rfl
    rw[ai] at au
    simp only[List.length_append] at au
    have qk:vs.length=(dM xs).length:=by omega
    obtain⟨ar,c2,bz⟩:=ej.rI (m+1) vs.length (s++df 9) ao (by omega) (by rw[List.length_append];omega)
    have aC:Ext B h ar:=aA.trans (Nat.le_refl _) (bz.le (Nat.le_trans bO aA.n))
    refine⟨bR,aH (fq _ aA) rfl,_,dv _ aA,_,mc vs.length ao (by omega),_,ar,c2,bw.mono (loop (.inr (.inr rfl)) ar _ _ (dM xs) aC (by omega) (λi ae ad=>by rw[if_neg (by omega)];rfl) (by simp only[List.length_append];rw[qk];omega) ⟨rfl,rfl,rfl,trivial⟩) ?_⟩
    rintro cG cH ⟨g,b8,rfl,rfl,qf,fx⟩
    exact⟨_,_,g,b8,rfl,rfl,qf,_,aH (fq _ fx) rfl,λe=>by omega,λ_=>fin (by rw[ai,qk];simp only[List.append_assoc]) fx⟩
  · have ai:kM k bD aJ (dM xs) (hl rt)=[]:=by unfold kM;rw[if_neg fg,if_neg eI,if_neg fP,if_neg fE]
    exact⟨k,aH (fq _ aA) rfl,λe=>absurd e fP,λ_=>fin (by rw[ai,List.append_nil]) aA⟩
end Go.Proofs.eN
namespace Go.Proofs.eN
open Go aD Go.Proofs dE Go.Proofs.cR
open Go.Proofs.ej (ev)
open Go.Proofs.hy (df)
set_option maxRecDepth 100000
set_option maxHeartbeats 1000000
abbrev f_:=aU×Option a5
def h_(B:Nat)(h:J)(v:I)(l:List f_):Prop:=(v=.a_/\l=[])\/∃b off aB,v=.slice b off l.length aB/\b<B/\(∀i (ae:i<l.length),∃w,aD.loadCells h b (off+i*2) 2=some [.str l[i].1,w]/\cE B h l[i].2 w)/\0<l.length/\aB≠ .dead
theorem h_.bH{B:Nat}{h g:J}{v:I}{l:List f_}(e:Ext B h g)(ai:h_ B h v l):h_ B g v l:=by
 rcases ai with ai|⟨b,off,aB,aa,ad,aO,bZ⟩
 · exact .inl ai
 · refine .inr ⟨b,off,aB,aa,ad,λi ae=>?_,bZ⟩
   obtain⟨w,dI,c9⟩:=aO i ae
   refine⟨w,?_,cE.bH (dT.ext e (Nat.le_refl _)) _ _ c9⟩
   rw[<-dI]
   unfold aD.loadCells
   rw[e.get b ad]
theorem h_.le{B C:Nat}{h:J}{v:I}{l:List f_}(e:B<=C)(ai:h_ B h v l):h_ C h v l:=by
 rcases ai with ai|⟨b,off,aB,aa,ad,aO,bZ⟩
 · exact .inl ai
 · exact .inr ⟨b,off,aB,aa,by omega,λi ae=>by obtain⟨w,dI,c9⟩:=aO i ae;exact⟨w,dI,cE.le e _ _ c9⟩,bZ⟩
theorem ql{B:Nat}{h y:J}{l:List f_}{b off:Nat}(af:b<B)(au:∀i (ae:i<l.length),∃w,aD.loadCells h b (off+i*2) 2=some [.str l[i].1,w]/\cE B h l[i].2 w)(ec:Ext B h y){i:Nat}(ae:i<l.length):∃w,aD.loadCells y b (off+i*2) 2=some [.str l[i].1,w]/\cE B y l[i].2 w:=by
 obtain⟨w,dI,c9⟩:=au i ae
 refine⟨w,?_,cE.bH (dT.ext ec (Nat.le_refl _)) _ _ c9⟩
 rw[<-dI]
 unfold aD.loadCells
 rw[ec.get b af]
theorem h_.cell{B:Nat}{h:J}{v:I}{l:List f_}(ai:h_ B h v l):v.bY=true:=by rcases ai with⟨rfl,_⟩|⟨b,off,aB,rfl,_⟩<;>rfl
theorem h_.snd{B:Nat}{h:J}{v:I}{l:List f_}(ai:h_ B h v l):I.sound v=true:=by rcases ai with⟨rfl,_⟩|⟨b,off,aB,rfl,_⟩<;>rfl
theorem h_.len{B:Nat}{h:J}{v:I}{l:List f_}(ai:h_ B h v l)(g:J):bU Tryz.prog g 22 v=some (.int .i64 (Int.ofNat l.length)):=by
 have hu:Tryz.prog.underlying 22=some (.slice 53):=by kernel_rfl
 rcases ai with⟨rfl,rfl⟩|⟨b,off,aB,rfl,_⟩
 · simp only[bU,hu];rfl
 · simp only[bU,hu]
theorem od{B:Nat}{h:J}{ot:Option a5}{v:I}(aE:cE B h ot v):v.bY=true:=by rcases aE.nZ with rfl|⟨R,rfl⟩<;>rfl
theorem ya{h:J}{b o:Nat}{x y:I}(au:aD.loadCells h b o 2=some [x,y]):aq h b (o+0)=some x/\aq h b (o+1)=some y:=by
 unfold aD.loadCells at au
 split at au
 · rename_i cs e k bf up aj
   have key:∀(o:Nat) (cs:List I),takeN 2 (hW o cs)=some [x,y]->nth o cs=some x/\nth (o+1) cs=some y:=by
    intro o
    induction o with
    |zero=>
     intro cs ah
     match cs,ah with
     |[],ah=>cases ah
     |[a],ah=>cases ah
     |a::b::r,ah=>
      cases ah
      exact⟨rfl,rfl⟩
    |succ o ba=>
     intro cs ah
     match cs,ah with
     |[],ah=>cases ah
     |a::r,ah=>exact ba r ah
   obtain⟨b4,b0⟩:=key o cs au
   exact⟨aH aj b4,aH aj b0⟩
 · cases au
theorem A2{n a:aU}{w c d:I}(hw:w.bY=true):ff 0 [.str n,w] [c,d]=some [.str n,w]:=w5 [.str n,w] [c,d] (by simp[I.bY] at*;exact hw) (Nat.le_refl _)
def fit(o:Option a5):Prop:=c8 o<=100/\∀t,o=some t->g6 t<=90000
def jF(last:aU):List f_->Bool
 |[]=>true
 |e::l=>dN last e.1&&(decide (e.1.length<=24)&&(decide (kK e.2=0)&&jF e.1 l))
def mL(l:List f_):Nat->aU
 |0=>[]
 |i+1=>((l[i]?).map Prod.fst).getD []
theorem yb{l:List f_}{i:Nat}(h:i<l.length):mL l (i+1)=l[i].1:=by simp[mL,h]
theorem Ly(m:Nat){B:Nat}{h:J}{v:I}{l:List f_}(bO:B<=h.n)(hm:450<=m)(ai:h_ B h v l)(hlen:l.length<=90000)(hf:∀e∈l,fit e.2):bK B h (.bool (jF [] l)) (Y (m+1) (.fn 56) [v] h):=by
 refine XS m v h ⟨_,ai.len h,?_⟩
 refine bw.loop (by kernel_rfl) (λk st=>∃i y Γ,st=⟨Γ,[],.none,y⟩/\cC [(3,.str (mL l i)),(6,v),(7,.int .i64 (Int.ofNat l.length)),(8,.int .i64 (Int.ofNat i))] Γ/\l.length-i=k/\i<=l.length/\Ext B h y/\jF [] l=jF (mL l i) (l.drop i)) ?_ l.length _ (by omega) ⟨0,h,_,rfl,⟨rfl,rfl,rfl,rfl,trivial⟩,by omega,by omega,Ext.refl _ _,rfl⟩
 rintro k st ⟨i,y,Γ,rfl,dd,aw,ae,ec,bq⟩
 by_cases aa:i<l.length
 · rcases ai with⟨_,rfl⟩|⟨b,off,aB,rfl,af,au,bl,aG⟩
   · simp at aa
   obtain⟨w,ah,a6⟩:=ql af au ec aa
   obtain⟨g,aj⟩:∃g,g=(y.push (.cells [.str [],.aR] 53 .own 0 0)).set y.n (some (.cells [.str l[i].1,w] 53 .own 0 0)):=⟨_,rfl⟩
   have ct:aD.storeCells (y.push (.cells [.str [],.aR] 53 .own 0 0)) y.n 0 [.str l[i].1,w]=some g:=by
    rw[aj];exact iG (fp rfl) rfl (A2 (a:=[]) (od a6))
   have rK:g.get y.n=some (.cells [.str l[i].1,w] 53 .own 0 0):=by rw[aj];exact iF rfl
   have fy:Ext y.n y g:=by rw[aj];exact(Ext.push (Nat.le_refl _) _).hA (Nat.le_refl _)
   have mE:=Nat.le_trans bO ec.n
   have fx:Ext B h g:=ec.trans (Nat.le_refl _) (fy.le mE)
   have gH:y.n<g.n:=by rw[aj];simp
   rw[List.drop_eq_getElem_cons aa,jF] at bq
   refine bw.pre (XT (Y m) b off _ i aB (mL l i) y ⟨aa,aa,_,w,ah,od a6,g,ct,_,aH rK rfl,λaf=>?_,λaf=>⟨_,aH rK rfl,λnE=>?_,λnE=>⟨_,aH rK rfl,?_⟩⟩⟩) dd rfl rfl rfl
   · have:dN (mL l i) l[i].1=false:=by simpa using af
     exact .inr ⟨g,_,rfl,rfl,⟨rfl,trivial⟩,bK.of (dK (by rw[bq,this];rfl)) fx⟩
   · exact .inr ⟨g,_,rfl,rfl,⟨rfl,trivial⟩,bK.of (dK (by rw[bq];simp[show¬l[i].1.length<=24 by omega])) fx⟩
   · have cy:dN (mL l i) l[i].1=true:=by simpa using af
     have pB:=hf l[i] (List.getElem_mem aa)
     obtain⟨ar,c2,bz⟩:=WU (m-1) (ot:=l[i].2) (B:=g.n) (h:=g) (v:=w) (by have:=pB.1;omega) pB.2 (by have:=pB.1;omega) (Nat.le_refl _) (cE.le (Nat.le_trans mE fy.n) _ _ (cE.bH (dT.ext (fy.le mE) (Nat.le_refl _)) _ _ a6))
     rw[show m-1+1=m by omega] at c2
     have rL:Ext B h ar:=fx.trans (Nat.le_refl _) (bz.le (Nat.le_trans mE fy.n))
     refine⟨_,ar,c2,λh0=>⟨_,aH ((bz.get y.n gH).trans rK) rfl,by omega,?_⟩,λh0=>?_⟩
     · refine⟨_,(by show l.length-(i+1)<k;omega),i+1,ar,_,rfl,⟨by rw[yb aa];rfl,rfl,rfl,rfl,trivial⟩,rfl,by omega,rL,?_⟩
       rw[bq,cy,h0,yb aa];simp[show l[i].1.length<=24 by omega]
     · exact .inr ⟨ar,_,rfl,rfl,⟨rfl,trivial⟩,bK.of (dK (by rw[bq];simp[h0])) rL⟩
 · refine bw.pre (XU (Y m) l.length i (mL l i) v y ⟨aa,.inl ⟨y,_,rfl,rfl,trivial,bK.of (dK ?_) ec⟩⟩) dd rfl rfl rfl
   rw[bq,List.drop_of_length_le (by omega)];rfl
end Go.Proofs.eN
namespace Go.Proofs.eN
open Go aD Go.Proofs dE Go.Proofs.cR
open Go.Proofs.ej (ev)
open Go.Proofs.hy (df)
set_option maxRecDepth 100000
set_option maxHeartbeats 1000000
theorem Yd(m:Nat)(s:aU)(h:J):Y (m+1) (.fn 77) [.str s] h=.ret (.bool (decide (1<=s.length)&&decide (s.length<=24))) h:=
 X4 m s h (R:=λx=>x=_) ⟨λaa=>by rw[Kh];simp[aa],λaa=>by simp[aa]⟩
theorem Ye(s:aU):dN [] s=decide (1<=s.length):=by cases s<;>simp[dN]
theorem Lz(m:Nat){B:Nat}{h:J}{v:I}{l:List f_}(bO:B<=h.n)(hm:450<=m)(ai:h_ B h v l)(hlen:l.length<=90000)(hf:∀e∈l,fit e.2):bK B h (.bool (jF [] l)) (Y (m+1) (.fn 61) [v] h):=by
 refine X5 m v h ?_
 refine bw.loop (by kernel_rfl) (λk st=>∃i y Γ,st=⟨Γ,[],.none,y⟩/\cC [(0,v),(3,.int .i64 (Int.ofNat i))] Γ/\l.length-i=k/\i<=l.length/\Ext B h y/\jF [] l=jF (mL l i) (l.drop i)) ?_ l.length _ (by omega) ⟨0,h,_,rfl,⟨rfl,rfl,trivial⟩,by omega,by omega,Ext.refl _ _,rfl⟩
 rintro k st ⟨i,y,Γ,rfl,dd,aw,ae,ec,bq⟩
 by_cases aa:i<l.length
 · rcases ai with⟨_,rfl⟩|⟨b,off,aB,rfl,af,au,bl,aG⟩
   · simp at aa
   have j4:Ext B h (y.room 34):=ec.trans (Nat.le_refl _) (Ext.room B y 34)
   obtain⟨w,ah,a6⟩:=ql af au j4 aa
   obtain⟨ma,Yf⟩:=ya ah
   rw[List.drop_eq_getElem_cons aa,jF] at bq
   have pB:=hf l[i] (List.getElem_mem aa)
   have Yg:∃ar,Y m (.fn 78) [w] (y.room 34)=.ret (.int .i64 (Int.ofNat (kK l[i].2))) ar/\Ext B (y.room 34) ar:=by
    obtain⟨ar,c2,bz⟩:=UW (m-1) (ot:=l[i].2) (B:=B) (h:=y.room 34) (v:=w) (by have:=pB.1;omega) pB.2 (by have:=pB.1;omega) (Nat.le_trans bO j4.n) a6
    rw[show m-1+1=m by omega] at c2
    exact⟨ar,c2,bz⟩
   obtain⟨ar,c2,bz⟩:=Yg
   have rL:Ext B h ar:=j4.trans (Nat.le_refl _) bz
   have oE:=Yd (m-1) l[i].1 (y.room 34)
   rw[show m-1+1=m by omega] at oE
   have last:dN (mL l i) l[i].1=true->l[i].1.length<=24->∃(w':I),aq (y.room 34) b (off+i*2+1)=some w'/\∃(ca:Nat) (dB:J),Y m (.fn 78) [w'] (y.room 34)=.ret (.int .i64 (Int.ofNat ca)) dB/\I.sound w'=true/\(ca=0->i+1<9223372036854775808/\dX (λs=>∃j,j<k/\(λk st=>∃i y Γ,st=⟨Γ,[],.none,y⟩/\cC [(0,.slice b off l.length aB),(3,.int .i64 (Int.ofNat i))] Γ/\l.length-i=k/\i<=l.length/\Ext B h y/\jF [] l=jF (mL l i) (l.drop i)) j s) (λcG cH=>(∃(g:J) (b8:Env),cG=.exit 0/\cH=⟨b8,[],.none,g⟩/\cC [] b8/\bK B h (.bool (jF [] l)) (.ret (.bool true) g))\/(∃(g:J) (b8:Env),cG=.ret/\cH=⟨b8,[],.none,g⟩/\cC [(2,.bool false)] b8/\bK B h (.bool (jF [] l)) (.ret (.bool false) g))) .nrm ⟨[(0,.slice b off l.length aB),(3,.int .i64 (Int.ofNat (i+1)))],[],.none,dB⟩)/\(¬ca=0->(∃(g:J) (b8:Env),bF.ret=.exit 0/\(⟨[(0,.slice b off l.length aB),(2,.bool false),(3,.int .i64 (Int.ofNat i))],[],.none,dB⟩:ag)=⟨b8,[],.none,g⟩/\cC [] b8/\bK B h (.bool (jF [] l)) (.ret (.bool true) g))\/(∃(g:J) (b8:Env),bF.ret=.ret/\(⟨[(0,.slice b off l.length aB),(2,.bool false),(3,.int .i64 (Int.ofNat i))],[],.none,dB⟩:ag)=⟨b8,[],.none,g⟩/\cC [(2,.bool false)] b8/\bK B h (.bool (jF [] l)) (.ret (.bool false) g))):=λcy nE=>by
    refine⟨w,Yf,_,ar,c2,a6.snd,λh0=>⟨by omega,?_⟩,λh0=>?_⟩
    · refine⟨_,(by show l.length-(i+1)<k;omega),i+1,ar,_,rfl,⟨rfl,rfl,trivial⟩,rfl,by omega,rL,?_⟩
      rw[bq,cy,h0,yb aa];simp[nE]
    · exact .inr ⟨ar,_,rfl,rfl,⟨rfl,trivial⟩,bK.of (dK (by rw[bq];simp[h0])) rL⟩
   refine bw.pre (X6 (Y m) b off _ i aB y ⟨aa,aa,_,ma,_,_,oE,λmK=>⟨λh0=>?_,λh0=>?_⟩,λmK=>?_⟩) dd rfl rfl rfl
   rotate_left 2
   · refine .inr ⟨y.room 34,_,rfl,rfl,⟨rfl,trivial⟩,bK.of (dK ?_) j4⟩
     rw[bq]
     have:¬(1<=l[i].1.length/\l[i].1.length<=24):=by
      intro ab
      simp[ab.1,ab.2] at mK
     by_cases nE:l[i].1.length<=24
     · have e:l[i].1=[]:=List.eq_nil_of_length_eq_zero (by omega)
       have:dN (mL l i) l[i].1=false:=by
        rw[e];cases mL l i<;>rfl
       rw[this];rfl
     · simp[nE]
   · have hp:1<=l[i].1.length/\l[i].1.length<=24:=by
       simp only[Bool.not_eq_false',Bool.and_eq_true,decide_eq_true_eq] at mK
       exact mK
     obtain⟨j,rfl⟩:∃j,i=j+1:=⟨i-1,by omega⟩
     have ad:j<l.length:=by omega
     obtain⟨c9,oS,_⟩:=ql af au j4 ad
     obtain⟨BS,_⟩:=ya oS
     refine⟨aa,_,ma,⟨by omega,by omega⟩,by omega,l[j].1,BS,λdi=>?_,λdi=>?_⟩
     · have:dN l[j].1 l[j+1].1=false:=by simpa using di
       refine .inr ⟨y.room 34,_,rfl,rfl,⟨rfl,trivial⟩,bK.of (dK ?_) j4⟩
       rw[bq,yb ad,this];rfl
     · have:dN l[j].1 l[j+1].1=true:=by simpa using di
       exact⟨aa,last (by rw[yb ad];exact this) hp.2⟩
   · have hp:1<=l[i].1.length/\l[i].1.length<=24:=by
       simp only[Bool.not_eq_false',Bool.and_eq_true,decide_eq_true_eq] at mK
       exact mK
     obtain rfl:i=0:=by omega
     exact⟨aa,last (by show dN [] _=true;rw[Ye];simpa using hp.1) hp.2⟩
 · refine bw.pre (X7 (Y m) i v y ⟨_,ai.len y,aa,.inl ⟨y,_,rfl,rfl,trivial,bK.of (dK ?_) ec⟩⟩) dd rfl rfl rfl
   rw[bq,List.drop_of_length_le (by omega)];rfl
def eb(e:f_):aU:=ev e.1++hl e.2
def kp(l:List f_):aU:=df l.length++(l.map eb).flatten
def oe(e:f_):Prop:=∃t,e.2=some t/\mJ t=true/\sz t<=100/\g6 t<=90000
theorem Yh(m:Nat){b B:Nat}{h0 y:J}{s n:aU}{ot:Option a5}{w:I}(hm:220<=m)(af:B<=b)(bg:h9 b y s)(ec:Ext B h0 y)(a6:cE B h0 ot w)(au:oe (n,ot))(hs:s.length+(eb (n,ot)).length<=1000000):pg b y (s++eb (n,ot)) (Y (m+1) (.fn 66) [.ptr b 0,.agg [.str n,w]] y):=by
 obtain⟨t,rfl,aa,ad,ax⟩:∃t,ot=some t/\mJ t=true/\sz t<=100/\g6 t<=90000:=au
 have he:eb (n,some t)=ev n++j3 t:=by show ev n++hl (some t)=_;rw[hl]
 rw[he] at hs⊢
 simp only[List.length_append] at hs
 obtain⟨H,c_⟩:∃H,H=y.push (.cells [.str n,w] 53 .own 0 0):=⟨_,rfl⟩
 have dW:Ext y.n y H:=by rw[c_];exact Ext.push (Nat.le_refl _) _
 have iw:H.get y.n=some (.cells [.str n,w] 53 .own 0 0):=by rw[c_];exact fp rfl
 have jC:y.n<H.n:=by rw[c_];simp
 have Fj:=(bg.ext dW).room 6
 have t4:=vm n
 obtain⟨ao,c1,bp,bh⟩:=A0 (m-6) b s n (H.room 6) Fj (by omega) (by omega)
 rw[show m-6+6=m by omega] at c1
 have jd:fa b y.n y ao:=(dW.pR b).trans dW.n (((Ext.room _ H 6).pR b).trans (Nat.le_refl _) (bh.le (by simp)))
 have aA:=bg.below af ec jd
 have Yi:ao.get y.n=some (.cells [.str n,w] 53 .own 0 0):=(bh.get y.n (by simp;omega) (by have:=bg.1;omega)).trans iw
 obtain⟨ar,c2,bB,bz⟩:=Lu (sz t) t (Nat.le_refl _) aa (by omega) (by omega) m b B h0 w af (by omega) a6 ao _ bp aA (by simp only[List.length_append];omega)
 refine XQ m b n w y ⟨od a6,?_⟩
 rw[<-c_]
 exact⟨_,aH (pS iw) rfl,ao,c1,_,aH Yi rfl,ar,c2,ar,rfl,by simpa only[List.append_assoc] using bB,jd.trans jd.n bz⟩
theorem LA(m:Nat){b B:Nat}{h0 x:J}{v:I}{l:List f_}{s:aU}(hm:230<=m)(af:B<=b)(ai:h_ B h0 v l)(hlen:l.length<=90000)(qm:∀e∈l,oe e)(ab:h9 b x s)(ep:Ext B h0 x)(au:s.length+(kp l).length<=1000000):
  pg b x (s++kp l) (Y (m+1) (.fn 65) [.ptr b 0,v,.fn 66 [.ptr b 0] []] x):=by
 have Fk:kp l=df l.length++(l.map eb).flatten:=rfl
 rw[Fk] at au⊢
 simp only[List.length_append] at au
 obtain⟨ao,c1,bp,bh⟩:=vl (m-5) b l.length s x ab (by omega) (by omega)
 rw[show m-5+5=m by omega] at c1
 refine XN m b v x ⟨_,ai.len x,ao,c1,_,ai.len ao,?_⟩
 refine bw.loop (by kernel_rfl) (λk st=>∃i y Γ,st=⟨Γ,[],.none,y⟩/\cC [(2,.fn 66 [.ptr b 0] []),(14,v),(15,.int .i64 (Int.ofNat l.length)),(16,.int .i64 (Int.ofNat i))] Γ/\l.length-i=k/\i<=l.length/\h9 b y (s++(df l.length++((l.map eb).take i).flatten))/\fa b x.n x y) ?_ l.length _ (by omega) ⟨0,ao,_,rfl,⟨rfl,rfl,rfl,rfl,trivial⟩,by omega,by omega,by simpa using bp,bh⟩
 rintro k st ⟨i,y,Γ,rfl,dd,aw,ae,bg,ko⟩
 have ec:=ab.below af ep ko
 by_cases aa:i<l.length
 · rcases ai with⟨_,rfl⟩|⟨da,off,aB,rfl,mK,gD,bl,aG⟩
   · simp at aa
   obtain⟨w,ah,a6⟩:=ql mK gD ec aa
   have ad:i<(l.map eb).length:=by simpa using aa
   have t1:=x7 (l.map eb) (i+1)
   have t2:=x6 (l.map eb) ad
   rw[t2,List.getElem_map] at t1
   simp only[List.length_append] at t1
   obtain⟨g,aj⟩:∃g,g=(y.push (.cells [.str [],.aR] 53 .own 0 0)).set y.n (some (.cells [.str l[i].1,w] 53 .own 0 0)):=⟨_,rfl⟩
   have ct:aD.storeCells (y.push (.cells [.str [],.aR] 53 .own 0 0)) y.n 0 [.str l[i].1,w]=some g:=by
    rw[aj];exact iG (fp rfl) rfl (A2 (a:=[]) (od a6))
   have rK:g.get y.n=some (.cells [.str l[i].1,w] 53 .own 0 0):=by rw[aj];exact iF rfl
   have fy:Ext y.n y g:=by rw[aj];exact(Ext.push (Nat.le_refl _) _).hA (Nat.le_refl _)
   have mE:B<=y.n:=Nat.le_trans af (Nat.le_of_lt bg.1)
   have fx:=ec.trans (Nat.le_refl _) (fy.le mE)
   obtain⟨ar,c2,bB,bz⟩:=Yh (m-1) (b:=b) (B:=B) (h0:=y) (y:=g) (n:=l[i].1) (ot:=l[i].2) (w:=w) (by omega) af (bg.ext fy) (fy.le mE) a6 (qm l[i] (List.getElem_mem aa)) (by simp only[List.length_append];show _+(eb l[i]).length<=_;omega)
   rw[show m-1+1=m by omega] at c2
   refine bw.pre (XO (Y m) b da off _ i aB y ⟨aa,aa,_,w,ah,od a6,g,ct,_,w,kD rK rfl,ar,c2,by omega,?_⟩) dd rfl rfl rfl
   refine⟨_,(by show l.length-(i+1)<k;omega),i+1,ar,_,rfl,⟨rfl,rfl,rfl,rfl,trivial⟩,rfl,by omega,?_,ko.trans ko.n ((fy.pR b).trans fy.n bz)⟩
   rw[t2,List.getElem_map]
   simpa only[List.append_assoc] using bB
 · refine bw.pre (XP (Y m) b l.length i v y ⟨aa,y,_,rfl,rfl,trivial,y,rfl,?_,ko⟩) dd rfl rfl rfl
   rw[List.take_of_length_le (by simp;omega)] at bg
   exact bg
end Go.Proofs.eN
namespace Go.Proofs.eN
open Go aD Go.Proofs dE Go.Proofs.cR
open Go.Proofs.ej (ev)
open Go.Proofs.hy (df)
set_option maxRecDepth 100000
set_option maxHeartbeats 1000000
structure j5 where
 path:aU
 dz:Bool
 kN:List f_
 lf:List f_
def kq(x:j5):aU:=ev x.path++(if x.dz then df 1 else df 0++(kp x.kN++kp x.lf))
def lZ(x:j5):Bool:=jF [] x.kN&&(jF [] x.lf&&(!x.dz||decide (x.kN.length+x.lf.length=0)))
def vn(x:j5):aU:=if lZ x then kq x else[]
structure je(B:Nat)(h:J)(vv bu:I)(x:j5):Prop where
 v:h_ B h vv x.kN
 t:h_ B h bu x.lf
theorem je.bH{B:Nat}{h g:J}{vv bu:I}{x:j5}(e:Ext B h g)(s:je B h vv bu x):je B g vv bu x:=⟨s.v.bH e,s.t.bH e⟩
theorem je.le{B C:Nat}{h:J}{vv bu:I}{x:j5}(e:B<=C)(s:je B h vv bu x):je C h vv bu x:=⟨s.v.le e,s.t.le e⟩
structure ns(x:j5):Prop where
 p:x.path.length<=90000
 dv:x.kN.length<=90000
 lt:x.lf.length<=90000
 j9:∀e∈x.kN,fit e.2
 tD:∀e∈x.lf,fit e.2
abbrev gX(p:aU)(b:Bool)(vv bu:I):cx:=.cells [.str p,.bool b,vv,bu] 24 .own 0 0
theorem Yj(m:Nat){B:Nat}{h:J}{vv bu:I}{x:j5}(hm:460<=m)(bO:B<=h.n)(hs:je B h vv bu x)(hf:ns x):bK B h (.bool (lZ x)) (Y (m+1) (.fn 29) [.agg [.str x.path,.bool x.dz,vv,bu]] h):=by
 obtain⟨H,c_⟩:∃H,H=h.push (gX x.path x.dz vv bu):=⟨_,rfl⟩
 have dW:Ext B h H:=by rw[c_];exact Ext.push bO _
 have iw:H.get h.n=some (gX x.path x.dz vv bu):=by rw[c_];exact fp rfl
 have jC:h.n<H.n:=by rw[c_];simp
 have iv:=Nat.le_trans bO dW.n
 have aaz:Ext h.n h H:=by rw[c_];exact Ext.push (Nat.le_refl _) _
 obtain⟨ao,c1,bh⟩:=Ly (m-1) (B:=H.n) (h:=H) (Nat.le_refl _) (by omega) ((hs.bH dW).le iv).v hf.dv hf.j9
 rw[show m-1+1=m by omega] at c1
 obtain⟨ar,c2,bz⟩:=Ly (m-1) (B:=H.n) (h:=ao) bh.n (by omega) ((((hs.bH dW).le iv).bH bh)).t hf.lt hf.tD
 rw[show m-1+1=m by omega] at c2
 have mM:=(bh.get h.n jC).trans iw
 have l0:=(bz.get h.n jC).trans mM
 have aA:Ext B h ao:=dW.trans (Nat.le_refl _) (bh.le iv)
 have aC:Ext B h ar:=aA.trans (Nat.le_refl _) (bz.le iv)
 refine XV m x.path x.dz vv bu h ⟨hs.v.cell,hs.t.cell,?_⟩
 rw[<-c_]
 refine⟨_,aH iw rfl,_,ao,c1,λaa=>⟨_,aH mM rfl,_,ar,c2,λad=>⟨_,aH l0 rfl,λax=>?_,λax=>?_⟩,λad=>?_⟩,λaa=>?_⟩
 rotate_left
 · have:x.dz=false:=by simpa using ax
   exact bK.of (dK (by unfold lZ;rw[aa,ad,this];rfl)) aC
 · exact bK.of (dK (by unfold lZ;rw[aa,ad];rfl)) aC
 · exact bK.of (dK (by unfold lZ;rw[aa];rfl)) aA
 · have af:x.dz=true:=by simpa using ax
   have bp:=hf.dv
   have bB:=hf.lt
   exact⟨_,aH l0 rfl,_,hs.v.len ar,_,aH l0 rfl,_,hs.t.len ar,by omega,bK.of (dK (by unfold lZ;rw[aa,ad,af,p9];simp)) aC⟩
theorem Yk(m:Nat){B:Nat}{h:J}{vv bu:I}{x:j5}(hm:460<=m)(bO:B<=h.n)(hs:je B h vv bu x)(hf:ns x):bK B h (.bool (lZ x)) (Y (m+1) (.fn 34) [.agg [.str x.path,.bool x.dz,vv,bu]] h):=by
 obtain⟨H,c_⟩:∃H,H=h.push (gX x.path x.dz vv bu):=⟨_,rfl⟩
 have dW:Ext B h H:=by rw[c_];exact Ext.push bO _
 have iw:H.get h.n=some (gX x.path x.dz vv bu):=by rw[c_];exact fp rfl
 have jC:h.n<H.n:=by rw[c_];simp
 have iv:=Nat.le_trans bO dW.n
 obtain⟨ao,c1,bh⟩:=Lz (m-1) (B:=H.n) (h:=H) (Nat.le_refl _) (by omega) ((hs.bH dW).le iv).v hf.dv hf.j9
 rw[show m-1+1=m by omega] at c1
 obtain⟨ar,c2,bz⟩:=Lz (m-1) (B:=H.n) (h:=ao) bh.n (by omega) ((((hs.bH dW).le iv).bH bh)).t hf.lt hf.tD
 rw[show m-1+1=m by omega] at c2
 have mM:=(bh.get h.n jC).trans iw
 have l0:=(bz.get h.n jC).trans mM
 have aA:Ext B h ao:=dW.trans (Nat.le_refl _) (bh.le iv)
 have aC:Ext B h ar:=aA.trans (Nat.le_refl _) (bz.le iv)
 refine X8 m x.path x.dz vv bu h ⟨hs.v.cell,hs.t.cell,?_⟩
 rw[<-c_]
 refine⟨_,aH iw rfl,_,ao,c1,λaa=>⟨_,aH mM rfl,_,ar,c2,λad=>⟨_,aH l0 rfl,λax=>?_,λax=>?_⟩,λad=>?_⟩,λaa=>?_⟩
 rotate_left
 · have:x.dz=false:=by simpa using ax
   exact bK.of (dK (by unfold lZ;rw[aa,ad,this];rfl)) aC
 · exact bK.of (dK (by unfold lZ;rw[aa,ad];rfl)) aC
 · exact bK.of (dK (by unfold lZ;rw[aa];rfl)) aA
 · have af:x.dz=true:=by simpa using ax
   refine⟨_,aH l0 rfl,_,hs.v.len ar,λaO=>⟨_,aH l0 rfl,_,hs.t.len ar,bK.of (dK ?_) aC⟩,λaO=>bK.of (dK ?_) aC⟩
   · unfold lZ;rw[aa,ad,af,p9];simp[aO]
   · unfold lZ;rw[aa,ad,af];simp[aO]
theorem Yl{e:f_}(hf:fit e.2)(ah:kK e.2=0):oe e:=by
 obtain⟨n,ot⟩:=e
 cases ot with
 |none=>simp[kK] at ah
 |some t=>
  obtain⟨aa,ad⟩:=hf
  simp only[im] at aa
  have n0:¬60<sz t:=λh=>by simp[kK,h] at ah
  have hm:fe t=true:=by
   cases hm:fe t with
   |true=>rfl
   |false=>simp[kK,n0,hm] at ah
  exact⟨t,rfl,Ff t (xt t hm),aa,ad t rfl⟩
theorem Fl:∀(p:aU) (l:List f_),(∀e∈l,fit e.2)->jF p l=true->∀e∈l,oe e
 |_,[],_,_,e,he=>by cases he
 |p,a::l,hf,h,e,he=>by
  rw[jF] at h
  simp only[Bool.and_eq_true,decide_eq_true_eq] at h
  rcases List.mem_cons.1 he with rfl|he
  · exact Yl (hf _ (by simp)) h.2.2.1
  · exact Fl a.1 l (λe he=>hf e (by simp[he])) h.2.2.2 e he
theorem LB{x:j5}(hf:ns x)(h:lZ x=true):(∀e∈x.kN,oe e)/\∀e∈x.lf,oe e:=by
 unfold lZ at h
 simp only[Bool.and_eq_true] at h
 exact⟨Fl _ _ hf.j9 h.1,Fl _ _ hf.tD h.2.1⟩
theorem Ym(m:Nat){b B:Nat}{h0 y:J}{s:aU}{vv bu:I}{x:j5}(hm:240<=m)(af:B<=b)(bg:h9 b y s)(ec:Ext B h0 y)(hs:je B h0 vv bu x)(hf:ns x)(qm:(∀e∈x.kN,oe e)/\∀e∈x.lf,oe e)(au:s.length+(kq x).length<=1000000):
  pg b y (s++kq x) (Y (m+1) (.fn 42) [.ptr b 0,.agg [.str x.path,.bool x.dz,vv,bu]] y):=by
 have jO:=hf.p
 obtain⟨H,c_⟩:∃H,H=y.push (gX x.path x.dz vv bu):=⟨_,rfl⟩
 have dW:Ext y.n y H:=by rw[c_];exact Ext.push (Nat.le_refl _) _
 have iw:H.get y.n=some (gX x.path x.dz vv bu):=by rw[c_];exact fp rfl
 have jC:y.n<H.n:=by rw[c_];simp
 have Fj:=(bg.ext dW).room 6
 have dC:¬y.n=b:=by have:=bg.1;omega
 obtain⟨ao,c1,bp,bh⟩:=A0 (m-6) b s x.path (H.room 6) Fj (by omega) (by omega)
 rw[show m-6+6=m by omega] at c1
 have jd:fa b y.n y ao:=(dW.pR b).trans dW.n (((Ext.room _ H 6).pR b).trans (Nat.le_refl _) (bh.le (by simp)))
 have mM:ao.get y.n=some (gX x.path x.dz vv bu):=(bh.get y.n (by simp;omega) dC).trans iw
 have aQ:y.n<ao.n:=by have:=bh.n;simp at this;omega
 have aA:=bg.below af ec jd
 refine XR m b x.path x.dz vv bu y ⟨hs.v.cell,hs.t.cell,?_⟩
 rw[<-c_]
 refine⟨_,aH (pS iw) rfl,ao,c1,_,aH mM rfl,λaa=>?_,λaa=>?_⟩
 · have bO:kq x=ev x.path++df 1:=by unfold kq;rw[aa];rfl
   rw[bO] at au⊢
   simp only[List.length_append] at au
   obtain⟨ar,c2,bB,bz⟩:=vl (m-5) b 1 (s++ev x.path) ao bp (by omega) (by simp only[List.length_append];omega)
   rw[show m-5+5=m by omega] at c2
   exact⟨ar,c2,ar,rfl,by simpa only[List.append_assoc] using bB,jd.trans jd.n bz⟩
 · have bO:kq x=ev x.path++(df 0++(kp x.kN++kp x.lf)):=by unfold kq;rw[aa];rfl
   rw[bO] at au⊢
   simp only[List.length_append] at au
   obtain⟨ar,c2,bB,bz⟩:=vl (m-5) b 0 (s++ev x.path) ao bp (by omega) (by simp only[List.length_append];omega)
   rw[show m-5+5=m by omega] at c2
   have l0:=(bz.get y.n aQ dC).trans mM
   have bI:y.n<ar.n:=Nat.lt_of_lt_of_le aQ bz.n
   have ph:=jd.trans jd.n bz
   obtain⟨aZ,c3,cU,db⟩:=LA (m-1) (b:=b) (B:=B) (h0:=h0) (x:=ar) (l:=x.kN) (by omega) af hs.v hf.dv qm.1 bB (bg.below af ec ph) (by simp only[List.length_append];omega)
   rw[show m-1+1=m by omega] at c3
   have Fm:=(db.get y.n bI dC).trans l0
   have qg:=ph.trans ph.n db
   obtain⟨ch,c4,hD,k7⟩:=LA (m-1) (b:=b) (B:=B) (h0:=h0) (x:=aZ) (l:=x.lf) (by omega) af hs.t hf.lt qm.2 cU (bg.below af ec qg) (by simp only[List.length_append];omega)
   rw[show m-1+1=m by omega] at c4
   exact⟨ar,c2,_,aH l0 rfl,aZ,c3,_,aH Fm rfl,ch,c4,ch,rfl,by simpa only[List.append_assoc] using hD,qg.trans qg.n k7⟩
theorem LC(m:Nat){B:Nat}{h:J}{vv bu:I}{x:j5}(hm:470<=m)(bO:B<=h.n)(hs:je B h vv bu x)(hf:ns x)(au:(kq x).length<=1000000):bK B h (.str (vn x)) (Y (m+1) (.fn 17) [.agg [.str x.path,.bool x.dz,vv,bu]] h):=by
 obtain⟨du,eL⟩:∃p,p=h.push (gX x.path x.dz vv bu):=⟨_,rfl⟩
 obtain⟨dp,et⟩:∃p,p=du.push (.cells [.str []] 83 .own 0 0):=⟨_,rfl⟩
 have aQ:du.n=h.n+1:=by rw[eL];rfl
 have bI:dp.n=h.n+2:=by rw[et];show du.n+1=_;omega
 have bh:Ext h.n h du:=by rw[eL];exact Ext.push (Nat.le_refl _) _
 have bz:Ext h.n h dp:=by rw[et];exact bh.mo bh.n
 have aV:dp.get h.n=some (gX x.path x.dz vv bu):=by rw[et,J.eA,if_neg (by omega),eL];exact fp rfl
 have aN:dp.get (h.n+1)=some (.cells [.str []] 83 .own 0 0):=by rw[et];exact fp aQ.symm
 have e5:Ext B h dp:=bz.le bO
 have lg:=Nat.le_trans bO bz.n
 obtain⟨g,c,fy⟩:=Yj (m-1) (B:=dp.n) (h:=dp) (by omega) (Nat.le_refl _) ((hs.bH e5).le lg) hf
 rw[show m-1+1=m by omega] at c
 have fx:Ext B h g:=e5.trans (Nat.le_refl _) (fy.le lg)
 have md:=(fy.get _ (by omega)).trans aN
 have kW:=(fy.get h.n (by omega)).trans aV
 refine XW m x.path x.dz vv bu h ⟨hs.v.cell,hs.t.cell,?_⟩
 rw[<-eL,<-et,aQ]
 refine⟨_,_,_,_,kD aV rfl,_,g,c,λaa=>?_,λaa=>?_⟩
 · obtain⟨ar,c2,bB,Yn⟩:=Ym (m-1) (b:=h.n+1) (B:=B) (h0:=h) (y:=g) (s:=[]) (by omega) (by omega) ⟨by have:=fy.n;omega,md⟩ fx hs hf (LB hf aa) (by simpa using au)
   rw[show m-1+1=m by omega] at c2
   refine⟨_,_,_,_,kD kW rfl,ar,c2,kq x,aH (by simpa using bB.2) rfl,bK.of (by unfold vn;rw[aa];rfl) (fx.trans (Nat.le_refl _) (eN.below (by omega) (Nat.le_trans bO fx.n) Yn))⟩
 · exact⟨[],aH md rfl,bK.of (by unfold vn;rw[aa];rfl) fx⟩
theorem LD(m:Nat){B:Nat}{h:J}{v:I}{l:List f_}{s:aU}(hm:220<=m)(bO:B<=h.n)(ai:h_ B h v l)(hlen:l.length<=90000)(qm:∀e∈l,oe e)(au:s.length+(kp l).length<=1000000):
  bK B h (.str (s++kp l)) (Y (m+1) (.fn 68) [.str s,v] h):=by
 have Fk:kp l=df l.length++(l.map eb).flatten:=rfl
 rw[Fk] at au⊢
 simp only[List.length_append] at au
 obtain⟨ao,c1,bh⟩:=ej.rI (m-2) l.length s h (by omega) (by omega)
 rw[show m-2+2=m by omega] at c1
 refine X0 m s v h ⟨_,ai.len h,_,Fg l.length (by omega) h,_,ao,c1,?_⟩
 refine bw.loop (by kernel_rfl) (λk st=>∃i y Γ,st=⟨Γ,[],.none,y⟩/\cC [(0,.str (s++(df l.length++((l.map eb).take i).flatten))),(1,v),(5,.int .i64 (Int.ofNat i))] Γ/\l.length-i=k/\i<=l.length/\Ext B h y) ?_ l.length _ (by omega) ⟨0,ao,_,rfl,⟨by simp[fh],rfl,rfl,trivial⟩,by omega,by omega,bh.le bO⟩
 rintro k st ⟨i,y,Γ,rfl,dd,aw,ae,ec⟩
 by_cases aa:i<l.length
 · rcases ai with⟨_,rfl⟩|⟨da,off,aB,rfl,mK,gD,bl,aG⟩
   · simp at aa
   have j4:Ext B h (y.room 14):=ec.trans (Nat.le_refl _) (Ext.room B y 14)
   obtain⟨w,ah,a6⟩:=ql mK gD j4 aa
   obtain⟨aV,aN⟩:=ya ah
   have ad:i<(l.map eb).length:=by simpa using aa
   have t1:=x7 (l.map eb) (i+1)
   have t2:=x6 (l.map eb) ad
   rw[t2,List.getElem_map] at t1
   simp only[List.length_append] at t1
   obtain⟨t,aC,cq,eo,LF⟩:=qm l[i] (List.getElem_mem aa)
   have hex:eb l[i]=ev l[i].1++j3 t:=by show ev _++hl l[i].2=_;rw[aC,hl]
   rw[hex] at t1
   simp only[List.length_append] at t1
   have t4:=vm l[i].1
   rw[aC] at a6
   obtain⟨z,rfl⟩:=cN.x9 (t:=t) a6
   obtain⟨ar,c2,bz⟩:=ej.AU (m-3) (s++(df l.length++((l.map eb).take i).flatten)) l[i].1 (y.room 14) (by simp only[List.length_append];omega) (by omega)
   rw[show m-3+3=m by omega] at c2
   have LG:Ext B h ar:=j4.trans (Nat.le_refl _) (bz.le (Nat.le_trans bO j4.n))
   have LH:Ext B (y.room 14) ar:=bz.le (Nat.le_trans bO j4.n)
   obtain⟨aZ,c3,db⟩:=Lw (sz t) t (Nat.le_refl _) cq (by omega) (by omega) m B ar (.ptr z 0) (s++(df l.length++((l.map eb).take i).flatten)++ev l[i].1) (Nat.le_trans bO LG.n) (by omega) (cN.bH (dT.ext LH (Nat.le_refl _)) _ _ a6) (by simp only[List.length_append];omega)
   refine bw.pre (X1 (Y m) da off _ i aB _ y ⟨aa,aa,_,aV,_,ar,c2,aa,_,(gE LH mK aN),_,aZ,c3,hC,aN,by omega,?_⟩) dd rfl rfl rfl
   refine⟨_,(by show l.length-(i+1)<k;omega),i+1,aZ,_,rfl,⟨?_,rfl,rfl,trivial⟩,rfl,by omega,LG.trans (Nat.le_refl _) db⟩
   rw[t2,List.getElem_map,hex]
   simp[fh]
 · refine bw.pre (X2 (Y m) i v _ y ⟨_,ai.len y,aa,?_⟩) dd rfl rfl rfl
   rw[List.take_of_length_le (by simp;omega)]
   exact⟨_,y,_,rfl,rfl,⟨rfl,trivial⟩,bK.of rfl ec⟩
theorem Yo(m:Nat){B:Nat}{h:J}{vv bu:I}{x:j5}{s:aU}(hm:240<=m)(bO:B<=h.n)(hs:je B h vv bu x)(hf:ns x)(qm:(∀e∈x.kN,oe e)/\∀e∈x.lf,oe e)(au:s.length+(kq x).length<=1000000):
  bK B h (.str (s++kq x)) (Y (m+1) (.fn 45) [.str s,.agg [.str x.path,.bool x.dz,vv,bu]] h):=by
 have jO:=hf.p
 obtain⟨H,c_⟩:∃H,H=h.push (gX x.path x.dz vv bu):=⟨_,rfl⟩
 have dW:Ext B h H:=by rw[c_];exact Ext.push bO _
 have iw:H.get h.n=some (gX x.path x.dz vv bu):=by rw[c_];exact fp rfl
 have jC:h.n<H.n:=by rw[c_];simp
 have iv:=Nat.le_trans bO dW.n
 obtain⟨ao,c1,bh⟩:=ej.AU (m-3) s x.path H (by omega) (by omega)
 rw[show m-3+3=m by omega] at c1
 have mM:=(bh.get h.n jC).trans iw
 have aA:Ext B h ao:=dW.trans (Nat.le_refl _) (bh.le iv)
 refine X3 m s x.path x.dz vv bu h ⟨hs.v.cell,hs.t.cell,?_⟩
 rw[<-c_]
 refine⟨_,aH iw rfl,_,ao,c1,_,aH mM rfl,λaa=>?_,λaa=>?_⟩
 · have Fo:kq x=ev x.path++df 1:=by unfold kq;rw[aa];rfl
   rw[Fo] at au⊢
   simp only[List.length_append] at au
   obtain⟨ar,c2,bz⟩:=ej.rI (m-2) 1 (s++ev x.path) ao (by omega) (by simp only[List.length_append];omega)
   rw[show m-2+2=m by omega] at c2
   exact⟨_,ar,c2,bK.of (by simp) (aA.trans (Nat.le_refl _) (bz.le (Nat.le_trans bO aA.n)))⟩
 · have Fo:kq x=ev x.path++(df 0++(kp x.kN++kp x.lf)):=by unfold kq;rw[aa];rfl
   rw[Fo] at au⊢
   simp only[List.length_append] at au
   have aQ:h.n<ao.n:=Nat.lt_of_lt_of_le jC bh.n
   have tC:Ext B h (ao.room 9):=aA.trans (Nat.le_refl _) (Ext.room B ao 9)
   obtain⟨ar,c2,bz⟩:=ej.rI (m-2) 0 (s++ev x.path) (ao.room 9) (by omega) (by simp only[List.length_append];omega)
   rw[show m-2+2=m by omega] at c2
   have aC:Ext B h ar:=tC.trans (Nat.le_refl _) (bz.le (Nat.le_trans bO tC.n))
   have l0:ar.get h.n=some (gX x.path x.dz vv bu):=(bz.get h.n (by simp;omega)).trans (pS mM)
   have bI:h.n<ar.n:=by have:=bz.n;simp at this;omega
   have s2:=(hs.bH aC).le (Nat.le_trans bO aC.n)
   obtain⟨aZ,c3,db⟩:=LD (m-1) (B:=ar.n) (h:=ar) (l:=x.kN) (s:=s++ev x.path++df 0) (by omega) (Nat.le_refl _) s2.v hf.dv qm.1 (by simp only[List.length_append];omega)
   rw[show m-1+1=m by omega] at c3
   have Fm:=(db.get h.n bI).trans l0
   obtain⟨ch,c4,k7⟩:=LD (m-1) (B:=ar.n) (h:=aZ) (l:=x.lf) (s:=s++ev x.path++df 0++kp x.kN) (by omega) db.n (s2.bH db).t hf.lt qm.2 (by simp only[List.length_append];omega)
   rw[show m-1+1=m by omega] at c4
   have lg:=Nat.le_trans bO aC.n
   exact⟨_,ar,c2,_,aH l0 rfl,_,aZ,c3,_,aH Fm rfl,_,ch,c4,hs.v.snd,aH (pS mM) rfl,hs.t.snd,aH l0 rfl,aH (pS mM) rfl,bK.of (by simp) ((aC.trans (Nat.le_refl _) (db.le lg)).trans (Nat.le_refl _) (k7.le lg))⟩
theorem LI(m:Nat){B:Nat}{h:J}{vv bu:I}{x:j5}(hm:470<=m)(bO:B<=h.n)(hs:je B h vv bu x)(hf:ns x)(au:(kq x).length<=1000000):bK B h (.str (vn x)) (Y (m+1) (.fn 18) [.agg [.str x.path,.bool x.dz,vv,bu]] h):=by
 obtain⟨H,c_⟩:∃H,H=h.push (gX x.path x.dz vv bu):=⟨_,rfl⟩
 have dW:Ext B h H:=by rw[c_];exact Ext.push bO _
 have iw:H.get h.n=some (gX x.path x.dz vv bu):=by rw[c_];exact fp rfl
 have jC:h.n<H.n:=by rw[c_];simp
 have iv:=Nat.le_trans bO dW.n
 obtain⟨g,c,fy⟩:=Yk (m-1) (B:=H.n) (h:=H) (by omega) (Nat.le_refl _) ((hs.bH dW).le iv) hf
 rw[show m-1+1=m by omega] at c
 have md:=(fy.get h.n jC).trans iw
 have fx:Ext B h g:=dW.trans (Nat.le_refl _) (fy.le iv)
 refine X9 m x.path x.dz vv bu h ⟨hs.v.cell,hs.t.cell,?_⟩
 rw[<-c_]
 refine⟨_,_,_,_,kD iw rfl,_,g,c,λaa=>?_,λaa=>?_⟩
 · obtain⟨ar,c2,bz⟩:=Yo (m-1) (B:=B) (h:=g) (s:=[]) (by omega) (Nat.le_trans bO fx.n) (hs.bH fx) hf (LB hf aa) (by simpa using au)
   rw[show m-1+1=m by omega] at c2
   exact⟨_,_,_,_,kD md rfl,_,ar,c2,bK.of (by unfold vn;rw[aa];rfl) (fx.trans (Nat.le_refl _) bz)⟩
 · exact bK.of (by unfold vn;rw[aa];rfl) fx
end Go.Proofs.eN
