/-
  PROVED HERE: contracts of functions (Di). No condition beside each statement's own.
-/
import Derived.Test.YtfooahfebojldaaGreatDoorDg
import Derived.Test.YtfooahfebojldaaGreatDoorDh
import Derived.Test.YtfooahfebojldaaGreatDoorTx
set_option linter.unusedVariables false
set_option linter.unusedSimpArgs false
namespace Go.Proofs.cN
open Go ay Go.Proofs cS Go.Proofs.cf
open Go.Proofs.cW (dC)
open Go.Proofs.ed (cM)
set_option maxRecDepth 100000
set_option maxHeartbeats 1000000
theorem aan(m:Nat)(b:Nat)(n:Nat)(h:aa){R:ax->Prop}(H:∃s1:List UInt8,aA h b (0+0)=some (.str s1)/\∃aQ:Nat,ea Tryz.prog 3 65 (.int .i64 (.ofNat n)) h=fj.val (.int .u64 (.ofNat aQ)) h/\∃s2:List UInt8,∃al:aa,(Y m) (.fn 52) [.str s1,.int .u64 (.ofNat aQ)] h=.ret (.str s2) al/\∃ak:aa,ay.storeCells al b (0+0) [.str s2]=some ak/\R (.ret (.aD []) ak)):
  R (Y (m+1) (.fn 41) [.ptr b 0,.int .i64 (.ofNat n)] h):=
 dH (intr:=b7) [] [(0,.v (.ptr b 0)),(1,.v (.int .i64 (.ofNat n)))] Tryz.func41 (by kernel_rfl) (by kernel_rfl) (by kernel_rfl) rfl (Eq.mp (by kernel_rfl) H)
theorem aao(m:Nat)(b:Nat)(t:List UInt8)(h:aa){R:ax->Prop}(H:∃s1:List UInt8,aA h b (0+0)=some (.str s1)/\∃s2:List UInt8,∃al:aa,(Y m) (.fn 64) [.str s1,.str t] h=.ret (.str s2) al/\∃ak:aa,ay.storeCells al b (0+0) [.str s2]=some ak/\R (.ret (.aD []) ak)):
  R (Y (m+1) (.fn 38) [.ptr b 0,.str t] h):=
 dH (intr:=b7) [] [(0,.v (.ptr b 0)),(1,.v (.str t))] Tryz.func38 (by kernel_rfl) (by kernel_rfl) (by kernel_rfl) rfl (Eq.mp (by kernel_rfl) H)
theorem aap(m:Nat)(b:Nat)(r:Nat)(h:aa){R:ax->Prop}(H:∃aQ:Nat,aA (h.room 8) r (0+0)=some (.int .i64 (.ofNat aQ))/\∃al:aa,(Y m) (.fn 41) [.ptr b (0+0),.int .i64 (.ofNat aQ)] (h.room 8)=.ret (.aD []) al/\∃bw:Nat,aA al r (0+0)=some (.int .i64 (.ofNat bw))/\(bw=6->∃s1:List UInt8,aA (al.room 8) r (0+1)=some (.str s1)/\∃ak:aa,(Y m) (.fn 38) [.ptr b (0+0),.str s1] (al.room 8)=.ret (.aD []) ak/\R (.ret (.aD []) ak))/\(¬bw=6->(bw=7->∃v1:J,aA (al.room 9) r (0+2)=some v1/\∃cl:Nat,cO Tryz.prog (al.room 9) 48 v1=some (.int .i64 (.ofNat cl))/\∃aS:aa,(Y m) (.fn 41) [.ptr b (0+0),.int .i64 (.ofNat cl)] (al.room 9)=.ret (.aD []) aS/\J.sound v1=true/\∃v2:J,aA aS r (0+2)=some v2/\∃cC:Nat,cO Tryz.prog aS 48 v2=some (.int .i64 (.ofNat cC))/\bB Tryz.prog Tryz.f81 (Y m) [1,1,0,1,1,1,0,1,1,0] (ar.mk [(0,.ptr b 0),(1,.ptr r 0),(42,v2),(43,.int .i64 (.ofNat cC)),(44,.int .i64 (.ofNat 0))] [] .none aS) (λc6 c0=>∃bb:aa,∃bD:Env,c6=.exit 1/\c0=ar.mk bD [] .none bb/\cZ [] bD/\R (.ret (.aD []) bb)))/\(¬bw=7->(bw=8->∃dr:J,aA al r (0+3)=some dr/\∃ch:aa,(Y m) (.fn 93) [.ptr b 0,dr,.fn 81 [.ptr b 0] []] al=.ret (.aD []) ch/\∃v4:J,aA ch r (0+4)=some v4/\∃cc:aa,(Y m) (.fn 81) [.ptr b 0,v4] ch=.ret (.aD []) cc/\R (.ret (.aD []) cc))/\(¬bw=8->(bw=9->∃gO:J,aA al r (0+3)=some gO/\∃bY:aa,(Y m) (.fn 93) [.ptr b 0,gO,.fn 81 [.ptr b 0] []] al=.ret (.aD []) bY/\R (.ret (.aD []) bY))/\(¬bw=9->R (.ret (.aD []) al)))))):
  R (Y (m+1) (.fn 81) [.ptr b 0,.ptr r 0] h):=
 dH (intr:=b7) [(78,.bW .o),(4001,.fw [0,1,42,43,44] [(.exit 1,[])])] [(0,.v (.ptr b 0)),(1,.v (.ptr r 0))] Tryz.func81 (by kernel_rfl) (by kernel_rfl) (by kernel_rfl) rfl (Eq.mp (by kernel_rfl) H)
theorem aaq(call:aO->List J->aa->ax)(b:Nat)(r:Nat)(bh:Nat)(cT:Nat)(eN:Nat)(i:Nat)(c1:cj)(h:aa){Q:bK->ar->Prop}(H:(i<eN->i<eN/\∃s1:List UInt8,aA h bh (cT+i*1)=some (.str s1)/\∃al:aa,call (.fn 38) [.ptr b (0+0),.str s1] h=.ret (.aD []) al/\∃aQ:Nat,∃bw:Nat,∃cl:Nat,∃c2:cj,aA al r (0+3)=some (.slice aQ bw cl c2)/\i<cl/\∃cC:Nat,aA al aQ (bw+i*1)=some (.ptr cC 0)/\∃ak:aa,call (.fn 81) [.ptr b 0,.ptr cC 0] al=.ret (.aD []) ak/\i+1<9223372036854775808/\Q .nrm (ar.mk [(0,.ptr b 0),(1,.ptr r 0),(42,.slice bh cT eN c1),(43,.int .i64 (.ofNat eN)),(44,.int .i64 (.ofNat (i+1)))] [] .none ak))/\(¬i<eN->Q (.exit 1) (ar.mk [(0,.ptr b 0),(1,.ptr r 0),(42,.slice bh cT eN c1),(43,.int .i64 (.ofNat eN)),(44,.int .i64 (.ofNat i))] [] .none h))):
  bB Tryz.prog Tryz.f81 call [1,1,0,1,1,1,0,1,1,0,0] ⟨[(0,.ptr b 0),(1,.ptr r 0),(42,.slice bh cT eN c1),(43,.int .i64 (.ofNat eN)),(44,.int .i64 (.ofNat i))],[],.none,h⟩ Q:=
 gN [(58,.bW .ih)] [0,1,42,43,44] [(0,.v (.ptr b 0)),(1,.v (.ptr r 0)),(42,.v (.slice bh cT eN c1)),(43,.v (.int .i64 (.ofNat eN))),(44,.v (.int .i64 (.ofNat i)))] rfl (Eq.mp (by kernel_rfl) H)
theorem aar(call:aO->List J->aa->ax)(b:Nat)(r:Nat)(N:Nat)(i:Nat)(v:J)(h:aa){Q:bK->ar->Prop}(H:¬i<N/\Q (.exit 1) (ar.mk [] [] .none h)):
  bB Tryz.prog Tryz.f81 call [1,1,0,1,1,1,0,1,1,0,0] ⟨[(0,.ptr b 0),(1,.ptr r 0),(42,v),(43,.int .i64 (.ofNat N)),(44,.int .i64 (.ofNat i))],[],.none,h⟩ Q:=
 gN [(1045,.f)] [] [(0,.v (.ptr b 0)),(1,.v (.ptr r 0)),(42,.o v),(43,.v (.int .i64 (.ofNat N))),(44,.v (.int .i64 (.ofNat i)))] rfl (Eq.mp (by kernel_rfl) H)
theorem aas(m:Nat)(b:Nat)(v:J)(h:aa){R:ax->Prop}(H:∃aQ:Nat,cO Tryz.prog h 49 v=some (.int .i64 (.ofNat aQ))/\∃al:aa,(Y m) (.fn 41) [.ptr b (0+0),.int .i64 (.ofNat aQ)] h=.ret (.aD []) al/\∃bw:Nat,cO Tryz.prog al 49 v=some (.int .i64 (.ofNat bw))/\bB Tryz.prog Tryz.f93 (Y m) [1,1,0] (ar.mk [(2,.fn 81 [.ptr b 0] []),(14,v),(15,.int .i64 (.ofNat bw)),(16,.int .i64 (.ofNat 0))] [] .none al) (λc6 c0=>∃ak:aa,∃bD:Env,c6=.exit 0/\c0=ar.mk bD [] .none ak/\cZ [] bD/\R (.ret (.aD []) ak))):
  R (Y (m+1) (.fn 93) [.ptr b 0,v,.fn 81 [.ptr b 0] []] h):=
 dH (intr:=b7) [(4000,.fw [2,14,15,16] [(.exit 0,[])])] [(0,.v (.ptr b 0)),(1,.o v),(2,.v (.fn 81 [.ptr b 0] []))] Tryz.func93 (by kernel_rfl) (by kernel_rfl) (by kernel_rfl) rfl (Eq.mp (by kernel_rfl) H)
theorem aat(call:aO->List J->aa->ax)(b:Nat)(bh:Nat)(cT:Nat)(eN:Nat)(i:Nat)(c1:cj)(h:aa){Q:bK->ar->Prop}(H:(i<eN->i<eN/\∃aQ:Nat,aA h bh (cT+i*1)=some (.ptr aQ 0)/\∃al:aa,call (.fn 81) [.ptr b 0,.ptr aQ 0] h=.ret (.aD []) al/\i+1<9223372036854775808/\Q .nrm (ar.mk [(2,.fn 81 [.ptr b 0] []),(14,.slice bh cT eN c1),(15,.int .i64 (.ofNat eN)),(16,.int .i64 (.ofNat (i+1)))] [] .none al))/\(¬i<eN->Q (.exit 0) (ar.mk [(2,.fn 81 [.ptr b 0] []),(14,.slice bh cT eN c1),(15,.int .i64 (.ofNat eN)),(16,.int .i64 (.ofNat i))] [] .none h))):
  bB Tryz.prog Tryz.f93 call [1,1,0,0] ⟨[(2,.fn 81 [.ptr b 0] []),(14,.slice bh cT eN c1),(15,.int .i64 (.ofNat eN)),(16,.int .i64 (.ofNat i))],[],.none,h⟩ Q:=
 gN [] [2,14,15,16] [(2,.v (.fn 81 [.ptr b 0] [])),(14,.v (.slice bh cT eN c1)),(15,.v (.int .i64 (.ofNat eN))),(16,.v (.int .i64 (.ofNat i)))] rfl (Eq.mp (by kernel_rfl) H)
theorem aau(call:aO->List J->aa->ax)(b:Nat)(N:Nat)(i:Nat)(v:J)(h:aa){Q:bK->ar->Prop}(H:¬i<N/\Q (.exit 0) (ar.mk [] [] .none h)):
  bB Tryz.prog Tryz.f93 call [1,1,0,0] ⟨[(2,.fn 81 [.ptr b 0] []),(14,v),(15,.int .i64 (.ofNat N)),(16,.int .i64 (.ofNat i))],[],.none,h⟩ Q:=
 gN [(1017,.f)] [] [(2,.v (.fn 81 [.ptr b 0] [])),(14,.o v),(15,.v (.int .i64 (.ofNat N))),(16,.v (.int .i64 (.ofNat i)))] rfl (Eq.mp (by kernel_rfl) H)
theorem aav(m:Nat)(b:Nat)(v:J)(h:aa){R:ax->Prop}(H:∃aQ:Nat,cO Tryz.prog h 22 v=some (.int .i64 (.ofNat aQ))/\∃al:aa,(Y m) (.fn 41) [.ptr b (0+0),.int .i64 (.ofNat aQ)] h=.ret (.aD []) al/\∃bw:Nat,cO Tryz.prog al 22 v=some (.int .i64 (.ofNat bw))/\bB Tryz.prog Tryz.f65 (Y m) [1,1,0] (ar.mk [(2,.fn 66 [.ptr b 0] []),(14,v),(15,.int .i64 (.ofNat bw)),(16,.int .i64 (.ofNat 0))] [] .none al) (λc6 c0=>∃ak:aa,∃bD:Env,c6=.exit 0/\c0=ar.mk bD [] .none ak/\cZ [] bD/\R (.ret (.aD []) ak))):
  R (Y (m+1) (.fn 65) [.ptr b 0,v,.fn 66 [.ptr b 0] []] h):=
 dH (intr:=b7) [(4000,.fw [2,14,15,16] [(.exit 0,[])])] [(0,.v (.ptr b 0)),(1,.o v),(2,.v (.fn 66 [.ptr b 0] []))] Tryz.func65 (by kernel_rfl) (by kernel_rfl) (by kernel_rfl) rfl (Eq.mp (by kernel_rfl) H)
theorem aaw(call:aO->List J->aa->ax)(b:Nat)(bh:Nat)(cT:Nat)(eN:Nat)(i:Nat)(c1:cj)(h:aa){Q:bK->ar->Prop}(H:i<eN/\i<eN/\∃s1:List UInt8,∃v1:J,ay.loadCells h bh (cT+i*2) 2=some [.str s1,v1]/\J.bF v1=true/\∃al:aa,ay.storeCells (aa.push h (.cells [.str [],.bc] 53 .own 0 0)) h.n 0 [.str s1,v1]=some al/\∃s2:List UInt8,∃v2:J,ay.loadCells al h.n 0 2=some [.str s2,v2]/\∃ak:aa,call (.fn 66) [.ptr b 0,.agg [.str s2,v2]] al=.ret (.aD []) ak/\i+1<9223372036854775808/\Q .nrm (ar.mk [(2,.fn 66 [.ptr b 0] []),(14,.slice bh cT eN c1),(15,.int .i64 (.ofNat eN)),(16,.int .i64 (.ofNat (i+1)))] [] .none ak)):
  bB Tryz.prog Tryz.f65 call [1,1,0,0] ⟨[(2,.fn 66 [.ptr b 0] []),(14,.slice bh cT eN c1),(15,.int .i64 (.ofNat eN)),(16,.int .i64 (.ofNat i))],[],.none,h⟩ Q:=
 gN [(1017,.t),(19,.bW (.ej [.st,.o])),(21,.bW (.ej [.st,.o]))] [2,14,15,16] [(2,.v (.fn 66 [.ptr b 0] [])),(14,.v (.slice bh cT eN c1)),(15,.v (.int .i64 (.ofNat eN))),(16,.v (.int .i64 (.ofNat i)))] rfl (Eq.mp (by kernel_rfl) H)
theorem aax(call:aO->List J->aa->ax)(b:Nat)(N:Nat)(i:Nat)(v:J)(h:aa){Q:bK->ar->Prop}(H:¬i<N/\Q (.exit 0) (ar.mk [] [] .none h)):
  bB Tryz.prog Tryz.f65 call [1,1,0,0] ⟨[(2,.fn 66 [.ptr b 0] []),(14,v),(15,.int .i64 (.ofNat N)),(16,.int .i64 (.ofNat i))],[],.none,h⟩ Q:=
 gN [(1017,.f)] [] [(2,.v (.fn 66 [.ptr b 0] [])),(14,.o v),(15,.v (.int .i64 (.ofNat N))),(16,.v (.int .i64 (.ofNat i)))] rfl (Eq.mp (by kernel_rfl) H)
theorem aay(m:Nat)(b:Nat)(n:List UInt8)(w:J)(h:aa){R:ax->Prop}(H:J.bF w=true/\∃s1:List UInt8,aA (aa.room (aa.push h (.cells [.str n,w] 53 .own 0 0)) 6) h.n (0+0)=some (.str s1)/\∃al:aa,(Y m) (.fn 38) [.ptr b (0+0),.str s1] (aa.room (aa.push h (.cells [.str n,w] 53 .own 0 0)) 6)=.ret (.aD []) al/\∃v1:J,aA al h.n (0+1)=some v1/\∃ak:aa,(Y m) (.fn 81) [.ptr b 0,v1] al=.ret (.aD []) ak/\R (.ret (.aD []) ak)):
  R (Y (m+1) (.fn 66) [.ptr b 0,.agg [.str n,w]] h):=
 dH (intr:=b7) [(12,.bW .o)] [(0,.v (.ptr b 0)),(1,.ej [.v (.str n),.o w])] Tryz.func66 (by kernel_rfl) (by kernel_rfl) (by kernel_rfl) rfl (Eq.mp (by kernel_rfl) H)
theorem aaz(m:Nat)(b:Nat)(p:List UInt8)(dB:Bool)(vv:J)(vt:J)(h:aa){R:ax->Prop}(H:J.bF vv=true/\J.bF vt=true/\∃s1:List UInt8,aA (aa.room (aa.push h (.cells [.str p,.bool dB,vv,vt] 24 .own 0 0)) 6) h.n (0+0)=some (.str s1)/\∃al:aa,(Y m) (.fn 38) [.ptr b (0+0),.str s1] (aa.room (aa.push h (.cells [.str p,.bool dB,vv,vt] 24 .own 0 0)) 6)=.ret (.aD []) al/\∃bh:Bool,aA al h.n (0+1)=some (.bool bh)/\(bh=true->∃ak:aa,(Y m) (.fn 41) [.ptr b (0+0),.int .i64 (.ofNat 1)] al=.ret (.aD []) ak/\R (.ret (.aD []) ak))/\(bh=false->∃aS:aa,(Y m) (.fn 41) [.ptr b (0+0),.int .i64 (.ofNat 0)] al=.ret (.aD []) aS/\∃v1:J,aA aS h.n (0+2)=some v1/\∃bb:aa,(Y m) (.fn 65) [.ptr b 0,v1,.fn 66 [.ptr b 0] []] aS=.ret (.aD []) bb/\∃v2:J,aA bb h.n (0+3)=some v2/\∃ch:aa,(Y m) (.fn 65) [.ptr b 0,v2,.fn 66 [.ptr b 0] []] bb=.ret (.aD []) ch/\R (.ret (.aD []) ch))):
  R (Y (m+1) (.fn 42) [.ptr b 0,.agg [.str p,.bool dB,vv,vt]] h):=
 dH (intr:=b7) [] [(0,.v (.ptr b 0)),(1,.ej [.v (.str p),.v (.bool dB),.o vv,.o vt])] Tryz.func42 (by kernel_rfl) (by kernel_rfl) (by kernel_rfl) rfl (Eq.mp (by kernel_rfl) H)
theorem aaA(m:Nat)(v:J)(h:aa){R:ax->Prop}(H:∃aQ:Nat,cO Tryz.prog h 22 v=some (.int .i64 (.ofNat aQ))/\bB Tryz.prog Tryz.f56 (Y m) [1,1,0,1,0] (ar.mk [(3,.str []),(6,v),(7,.int .i64 (.ofNat aQ)),(8,.int .i64 (.ofNat 0))] [] .none h) (λc6 c0=>((∃al:aa,∃bD:Env,c6=.exit 0/\c0=ar.mk bD [] .none al/\cZ [] bD/\R (.ret (.bool true) al))\/(∃ak:aa,∃bT:Env,c6=.ret/\c0=ar.mk bT [] .none ak/\cZ [(2,.bool false)] bT/\R (.ret (.bool false) ak))))):
  R (Y (m+1) (.fn 56) [v] h):=
 dH (intr:=b7) [(4000,.fw [3,6,7,8] [(.exit 0,[]),(.ret,[(2,.is (.bool false))])])] [(0,.o v)] Tryz.func56 (by kernel_rfl) (by kernel_rfl) (by kernel_rfl) rfl (Eq.mp (by kernel_rfl) H)
theorem aaB(call:aO->List J->aa->ax)(bh:Nat)(cT:Nat)(eN:Nat)(i:Nat)(c1:cj)(l:List UInt8)(h:aa){Q:bK->ar->Prop}(H:i<eN/\i<eN/\∃s1:List UInt8,∃v1:J,ay.loadCells h bh (cT+i*2) 2=some [.str s1,v1]/\J.bF v1=true/\∃al:aa,ay.storeCells (aa.push h (.cells [.str [],.bc] 53 .own 0 0)) h.n 0 [.str s1,v1]=some al/\∃s2:List UInt8,aA al h.n (0+0)=some (.str s2)/\((!fq l s2)=true->Q .ret (ar.mk [(2,.bool false),(3,.str l),(6,.slice bh cT eN c1),(7,.int .i64 (.ofNat eN)),(8,.int .i64 (.ofNat i))] [] .none al))/\((!fq l s2)=false->∃bV:List UInt8,aA al h.n (0+0)=some (.str bV)/\(24<List.length bV->Q .ret (ar.mk [(2,.bool false),(3,.str l),(6,.slice bh cT eN c1),(7,.int .i64 (.ofNat eN)),(8,.int .i64 (.ofNat i))] [] .none al))/\(¬24<List.length bV->∃v2:J,aA al h.n (0+1)=some v2/\∃aQ:Nat,∃ak:aa,call (.fn 76) [v2] al=.ret (.int .i64 (.ofNat aQ)) ak/\(aQ=0->∃cK:List UInt8,aA ak h.n (0+0)=some (.str cK)/\i+1<9223372036854775808/\Q .nrm (ar.mk [(3,.str cK),(6,.slice bh cT eN c1),(7,.int .i64 (.ofNat eN)),(8,.int .i64 (.ofNat (i+1)))] [] .none ak))/\(¬aQ=0->Q .ret (ar.mk [(2,.bool false),(3,.str l),(6,.slice bh cT eN c1),(7,.int .i64 (.ofNat eN)),(8,.int .i64 (.ofNat i))] [] .none ak))))):
  bB Tryz.prog Tryz.f56 call [1,1,0,1,0,0] ⟨[(3,.str l),(6,.slice bh cT eN c1),(7,.int .i64 (.ofNat eN)),(8,.int .i64 (.ofNat i))],[],.none,h⟩ Q:=
 gN [(1009,.t),(11,.bW (.ej [.st,.o])),(24,.bW .o)] [2,3,6,7,8] [(3,.v (.str l)),(6,.v (.slice bh cT eN c1)),(7,.v (.int .i64 (.ofNat eN))),(8,.v (.int .i64 (.ofNat i)))] rfl (Eq.mp (by kernel_rfl) H)
theorem aaC(call:aO->List J->aa->ax)(N:Nat)(i:Nat)(l:List UInt8)(v:J)(h:aa){Q:bK->ar->Prop}(H:¬i<N/\Q (.exit 0) (ar.mk [] [] .none h)):
  bB Tryz.prog Tryz.f56 call [1,1,0,1,0,0] ⟨[(3,.str l),(6,v),(7,.int .i64 (.ofNat N)),(8,.int .i64 (.ofNat i))],[],.none,h⟩ Q:=
 gN [(1009,.f)] [] [(3,.v (.str l)),(6,.o v),(7,.v (.int .i64 (.ofNat N))),(8,.v (.int .i64 (.ofNat i)))] rfl (Eq.mp (by kernel_rfl) H)
theorem aaD(m:Nat)(p:List UInt8)(dB:Bool)(vv:J)(vt:J)(h:aa){R:ax->Prop}(H:J.bF vv=true/\J.bF vt=true/\∃v1:J,aA (aa.push h (.cells [.str p,.bool dB,vv,vt] 24 .own 0 0)) h.n (0+2)=some v1/\∃bh:Bool,∃al:aa,(Y m) (.fn 56) [v1] (aa.push h (.cells [.str p,.bool dB,vv,vt] 24 .own 0 0))=.ret (.bool bh) al/\(bh=true->∃v2:J,aA al h.n (0+3)=some v2/\∃bf:Bool,∃ak:aa,(Y m) (.fn 56) [v2] al=.ret (.bool bf) ak/\(bf=true->∃dM:Bool,aA ak h.n (0+1)=some (.bool dM)/\(dM=true->∃dr:J,aA ak h.n (0+2)=some dr/\∃aQ:Nat,cO Tryz.prog ak 22 dr=some (.int .i64 (.ofNat aQ))/\∃v4:J,aA ak h.n (0+3)=some v4/\∃bw:Nat,cO Tryz.prog ak 22 v4=some (.int .i64 (.ofNat bw))/\aQ+bw<9223372036854775808/\R (.ret (.bool (de (.ofNat (aQ+bw)) (.ofNat 0))) ak))/\(dM=false->R (.ret (.bool true) ak)))/\(bf=false->R (.ret (.bool false) ak)))/\(bh=false->R (.ret (.bool false) al))):
  R (Y (m+1) (.fn 29) [.agg [.str p,.bool dB,vv,vt]] h):=
 dH (intr:=b7) [] [(0,.ej [.v (.str p),.v (.bool dB),.o vv,.o vt])] Tryz.func29 (by kernel_rfl) (by kernel_rfl) (by kernel_rfl) rfl (Eq.mp (by kernel_rfl) H)
theorem aaE(m:Nat)(p:List UInt8)(dB:Bool)(vv:J)(vt:J)(h:aa){R:ax->Prop}(H:J.bF vv=true/\J.bF vt=true/\∃s1:List UInt8,∃bh:Bool,∃v1:J,∃v2:J,ay.loadCells (aa.push (aa.push h (.cells [.str p,.bool dB,vv,vt] 24 .own 0 0)) (.cells [.str []] 83 .own 0 0)) h.n 0 4=some [.str s1,.bool bh,v1,v2]/\∃bf:Bool,∃al:aa,(Y m) (.fn 29) [.agg [.str s1,.bool bh,v1,v2]] (aa.push (aa.push h (.cells [.str p,.bool dB,vv,vt] 24 .own 0 0)) (.cells [.str []] 83 .own 0 0))=.ret (.bool bf) al/\(bf=true->∃s2:List UInt8,∃dM:Bool,∃dr:J,∃v4:J,ay.loadCells al h.n 0 4=some [.str s2,.bool dM,dr,v4]/\∃ak:aa,(Y m) (.fn 42) [.ptr (aa.n (aa.push h (.cells [.str p,.bool dB,vv,vt] 24 .own 0 0))) 0,.agg [.str s2,.bool dM,dr,v4]] al=.ret (.aD []) ak/\∃bV:List UInt8,aA ak (aa.n (aa.push h (.cells [.str p,.bool dB,vv,vt] 24 .own 0 0))) (0+0+0)=some (.str bV)/\R (.ret (.str bV) ak))/\(bf=false->∃cK:List UInt8,aA al (aa.n (aa.push h (.cells [.str p,.bool dB,vv,vt] 24 .own 0 0))) (0+0+0)=some (.str cK)/\R (.ret (.str cK) al))):
  R (Y (m+1) (.fn 17) [.agg [.str p,.bool dB,vv,vt]] h):=
 dH (intr:=b7) [(6,.bW (.ej [.st,.b,.o,.o])),(9,.bW (.ej [.st,.b,.o,.o]))] [(0,.ej [.v (.str p),.v (.bool dB),.o vv,.o vt])] Tryz.func17 (by kernel_rfl) (by kernel_rfl) (by kernel_rfl) rfl (Eq.mp (by kernel_rfl) H)
def jt(ns ws:List aL):List aL:=List.zipWith (λn w=>dC n++w) ns ws
def j7(k:Nat)(bZ:aL)(ns ws:List aL)(r:aL):aL:=
 if k=6 then dC bZ else if k=7 then cM ns.length++(jt ns ws).flatten else if k=8 then cM ws.length++ws.flatten++r else if k=9 then cM ws.length++ws.flatten else[]
mutual
def jd:a3->aL
 |.mk k bZ ns xs rt=>cM k++j7 k bZ ns (ek xs) (jN rt)
def ek:List a3->List aL
 |[]=>[]
 |t::ts=>jd t::ek ts
def jN:Option a3->aL
 |none=>[]
 |some t=>jd t
end
theorem uV:∀l:List a3,(ek l).length=l.length
 |[]=>by rw[ek];rfl
 |x::l=>by rw[ek];simp[uV l]
theorem CS:∀(l:List a3) (i:Nat) (h:i<l.length) (an:i<(ek l).length),(ek l)[i]=jd l[i]
 |[],i,h,_=>by simp at h
 |x::l,0,_,_=>by simp only[ek];rfl
 |x::l,i+1,h,an=>by
  have:=CS l i (by simpa using h) (by rw[uV];simpa using h)
  simpa only[ek,List.getElem_cons_succ] using this
theorem uW(k:Nat)(bZ:aL)(ns:List aL)(xs:List a3)(rt:Option a3):jd (.mk k bZ ns xs rt)=cM k++j7 k bZ ns (ek xs) (jN rt):=by rw[jd]
theorem Hg(l:List aL){i:Nat}(h:i<l.length):(l.take (i+1)).flatten=(l.take i).flatten++l[i]:=by
 rw[List.take_succ_eq_append_getElem h,List.flatten_append];simp
theorem Hh(l:List aL)(i:Nat):(l.take i).flatten.length<=l.flatten.length:=by
 conv=>rhs;rw[<-List.take_append_drop i l]
 rw[List.flatten_append,List.length_append];omega
mutual
def p4:a3->Bool
 |.mk k bZ ns xs rt=>decide (k<=9)&&(decide (k≠7)||decide (xs.length=ns.length))&&(decide (k≠8)||rt.isSome)&&uX xs&&zu rt
def uX:List a3->Bool
 |[]=>true
 |t::ts=>p4 t&&uX ts
def zu:Option a3->Bool
 |none=>true
 |some t=>p4 t
end
mutual
theorem Hi:∀t:a3,okW t=true->p4 t=true
 |.mk k bZ ns xs rt,h=>by
  rw[okW] at h
  rw[p4]
  simp only[Bool.and_eq_true,decide_eq_true_eq] at h⊢
  obtain⟨⟨⟨⟨⟨_,ab⟩,ae⟩,av⟩,aK⟩,bU⟩:=h
  exact⟨⟨⟨⟨ab,ae⟩,av⟩,N8 xs aK⟩,aaF rt bU⟩
theorem N8:∀l:List a3,uC l=true->uX l=true
 |[],_=>by rw[uX]
 |t::l,h=>by
  rw[uC,Bool.and_eq_true] at h
  rw[uX,Hi t h.1,N8 l h.2];rfl
theorem aaF:∀o:Option a3,wB o=true->zu o=true
 |none,_=>by rw[zu]
 |some t,h=>by
  rw[wB] at h
  rw[zu];exact Hi t h
end
theorem Hj{t:a3}:∀{l:List a3},uX l=true->t∈l->p4 t=true
 |[],_,h=>by cases h
 |x::l,aw,h=>by
  rw[uX,Bool.and_eq_true] at aw
  rcases List.mem_cons.1 h with rfl|h
  · exact aw.1
  · exact Hj aw.2 h
def iK(b:Nat)(h:aa)(s:aL):Prop:=b<h.n/\h.get b=some (.cells [.str s] 83 .own 0 0)
theorem iK.ext{b:Nat}{h g:aa}{s:aL}(aw:iK b h s)(e:Ext h.n h g):iK b g s:=⟨Nat.lt_of_lt_of_le aw.1 e.n,(e.get b aw.1).trans aw.2⟩
def p5(b:Nat)(h:aa)(s:aL)(x:ax):Prop:=∃g,x=.ret (.aD []) g/\iK b g s/\cz b h.n h g
theorem aaG(n:Nat)(aJ:n<9223372036854775808)(h:aa):ea Tryz.prog 3 65 (.int .i64 (Int.ofNat n)) h=.val (.int .u64 (Int.ofNat n)) h:=cW.wQ n aJ h
theorem wU(m b n:Nat)(s:aL)(h:aa)(aw:iK b h s)(aJ:n<=1000000000)(hs:s.length<=1000000000):p5 b h (s++cM n) (Y (m+5) (.fn 41) [.ptr b 0,.int .i64 (Int.ofNat n)] h):=by
 obtain⟨g,c,x⟩:=cW.G5 m n s h (by omega) hs
 have gB:=(x.get b aw.1).trans aw.2
 refine aan (m+4) b n h ⟨s,aB aw.2 rfl,_,aaG n (by omega) h,_,g,c,_,dY gB rfl rfl,_,rfl,⟨Nat.lt_of_lt_of_le aw.1 x.n,dN rfl⟩,(x.jo b).trans (Nat.le_refl _) (cz.set _)⟩
theorem CT(m b:Nat)(s t:aL)(h:aa)(aw:iK b h s)(hs:s.length<=100000000)(a2:t.length<=100000000):p5 b h (s++dC t) (Y (m+6) (.fn 38) [.ptr b 0,.str t] h):=by
 obtain⟨g,c,x⟩:=cW.Zp m s t h hs a2
 have gB:=(x.get b aw.1).trans aw.2
 refine aao (m+5) b t h ⟨s,aB aw.2 rfl,_,g,c,_,dY gB rfl rfl,_,rfl,⟨Nat.lt_of_lt_of_le aw.1 x.n,dN rfl⟩,(x.jo b).trans (Nat.le_refl _) (cz.set _)⟩
theorem _root_.ay.cz.tail{b:Nat}{h g k:aa}(e:cz b h.n h g)(cI:cz b g.n g k):cz b h.n h k:=e.trans e.n cI
theorem _root_.ay.cz.zv{b:Nat}{h g:aa}(n:Nat)(e:cz b h.n h g):cz b h.n h (g.room n):=e.trans e.n ((Ext.room _ g n).jo b)
theorem iK.room{b:Nat}{h:aa}{s:aL}(n:Nat)(aw:iK b h s):iK b (h.room n) s:=⟨by simp;exact Nat.lt_of_lt_of_le aw.1 (by omega),aw.2⟩
theorem below{b B:Nat}{h g:aa}(ag:B<=b)(YB:B<=h.n)(e:cz b h.n h g):Ext B h g:=⟨e.n,λd aq=>e.get d (by omega) (by omega)⟩
theorem N9(m:Nat){b B:Nat}{h0:aa}{v:J}{vs:List J}(ws:List aL)(ag:B<=b)(aH:eT B h0 v vs)(hlen:vs.length<=90000)(k1:ws.length=vs.length)(h4:∀i (af:i<vs.length),∃z,vs[i]=.ptr z 0)
  (qx:∀i (af:i<vs.length) x s,iK b x s->Ext B h0 x->s.length+(wn ws i).length<=1000000->p5 b x (s++wn ws i) (Y (m+5) (.fn 81) [.ptr b 0,vs[i]] x))
  {x:aa}{s:aL}(ad:iK b x s)(dW:Ext B h0 x)(aw:s.length+(cM ws.length++ws.flatten).length<=1000000):
  p5 b x (s++(cM ws.length++ws.flatten)) (Y (m+6) (.fn 93) [.ptr b 0,v,.fn 81 [.ptr b 0] []] x):=by
 have dz:∀g,Ext B h0 g->cO Tryz.prog g 49 v=some (.int .i64 (Int.ofNat vs.length)):=λg x=>(aH.bM (fm.ext x (Nat.le_refl _))).len (t:=49) (e:=47) (by kernel_rfl)
 simp only[List.length_append] at aw
 obtain⟨al,c1,bD,bj⟩:=wU m b vs.length s x ad (by omega) (by omega)
 have aE:=dW.trans (Nat.le_refl _) (below ag (Nat.le_trans ag (Nat.le_of_lt ad.1)) bj)
 refine aas (m+5) b v x ⟨_,dz x dW,al,c1,_,dz al aE,?_⟩
 refine bB.loop (by kernel_rfl) (λk st=>∃i y Γ,st=⟨Γ,[],.none,y⟩/\cZ [(2,.fn 81 [.ptr b 0] []),(14,v),(15,.int .i64 (Int.ofNat vs.length)),(16,.int .i64 (Int.ofNat i))] Γ/\vs.length-i=k/\i<=vs.length/\iK b y (s++(cM ws.length++(ws.take i).flatten))/\cz b x.n x y) ?_ vs.length _ (by omega) ⟨0,al,_,rfl,⟨rfl,rfl,rfl,rfl,trivial⟩,by omega,by omega,by simpa[k1] using bD,bj⟩
 rintro k st ⟨i,y,Γ,rfl,dk,au,af,a6,kT⟩
 have g9:=dW.trans (Nat.le_refl _) (below ag (Nat.le_trans ag (Nat.le_of_lt ad.1)) kT)
 rcases aH with⟨rfl,rfl⟩|⟨dT,off,aG,rfl,Hk,g3,aY,aq⟩
 · have hw:ws=[]:=List.eq_nil_of_length_eq_zero k1
   subst hw
   exact bB.pre (aau (Y (m+5)) b _ i .az y ⟨by simp,y,_,rfl,rfl,trivial,y,rfl,by simpa using a6,kT⟩) dk rfl rfl rfl
 · refine bB.pre (aat (Y (m+5)) b dT off _ i aG y ⟨λab=>?_,λab=>?_⟩) dk rfl rfl rfl
   · have ae:i<ws.length:=by omega
     obtain⟨z,a0⟩:=h4 i ab
     have t1:=Hh ws (i+1)
     have t2:=Hg ws ae
     rw[t2] at t1
     simp only[List.length_append] at t1
     have N_:wn ws i=ws[i]:=by simp[wn,ae]
     have aaH:=qx i ab y _ a6 g9 (by rw[N_,List.length_append,List.length_append];omega)
     obtain⟨ak,c2,bT,bo⟩:=aaH
     rw[a0] at c2
     refine⟨ab,z,(hJ g9 Hk (g3 i ab)).trans (by rw[a0]),ak,c2,by omega,_,(by show vs.length-(i+1)<k;omega),i+1,ak,_,rfl,⟨rfl,rfl,rfl,rfl,trivial⟩,rfl,by omega,?_,kT.tail bo⟩
     rw[t2]
     simpa[wn,ae,List.append_assoc] using bT
   · refine⟨y,_,rfl,rfl,trivial,y,rfl,?_,kT⟩
     rw[List.take_of_length_le (by omega)] at a6
     exact a6
end Go.Proofs.cN
namespace Go.Proofs.cN
open Go ay Go.Proofs cS Go.Proofs.cf
open Go.Proofs.cW (dC)
open Go.Proofs.ed (cM)
set_option maxRecDepth 100000
set_option maxHeartbeats 1000000
theorem Hl(t:aL):t.length<=(dC t).length:=by simp[cW.dC]
theorem aaI(ns ws:List aL)(h:ns.length=ws.length):(jt ns ws).length=ns.length:=by unfold jt;rw[List.length_zipWith];omega
theorem aaJ{ns ws:List aL}{i:Nat}(af:i<(jt ns ws).length)(ab:i<ns.length)(ae:i<ws.length):(jt ns ws)[i]=dC ns[i]++ws[i]:=List.getElem_zipWith (f:=λn w=>dC n++w) (h:=af)
theorem iK.below{b B:Nat}{h0 x y:aa}{s:aL}(ag:B<=b)(ad:iK b x s)(dW:Ext B h0 x)(kT:cz b x.n x y):Ext B h0 y:=dW.trans (Nat.le_refl _) (cN.below ag (Nat.le_trans ag (Nat.le_of_lt ad.1)) kT)
theorem e4.Hm{B:Nat}{h:aa}:∀{t:a3} {v:J},e4 B h t v->∃R,v=.ptr R 0
 |.mk ds eu jj pL wo,v,a2=>by obtain⟨R,_,_,_,_,_,_,_,rfl,_⟩:=a2;exact⟨R,rfl⟩
theorem Oa:∀(K:Nat) (t:a3),sz t<=K->p4 t=true->sz t<=90000->hV t<=90000->∀(m b B:Nat) (h0:aa) (v:J),B<=b->2*sz t+8<=m->e4 B h0 t v->∀(x:aa) (s:aL),iK b x s->Ext B h0 x->s.length+(jd t).length<=1000000->p5 b x (s++jd t) (Y m (.fn 81) [.ptr b 0,v] x)
 |0,t,dO,_,_,_,_,_,_,_,_,_,_,_,_,_,_,_,_=>by
  have:=ss t
  omega
 |K+1,.mk k bZ ns xs rt,dO,cR,fH,pk,m,b,B,h0,v,ag,hm,aH,x,s,ad,dW,aw=>by
  obtain⟨R,b5,bJ,dy,vs,cd,aW,up,rfl,ae,av,aK,bU,cB,eo⟩:=aH
  rw[p4] at cR
  simp only[Bool.and_eq_true,Bool.or_eq_true,decide_eq_true_eq] at cR
  obtain⟨⟨⟨⟨kp,oQ⟩,nP⟩,zf⟩,GS⟩:=cR
  rw[uB] at dO fH hm
  rw[hV] at pk
  rw[uW] at aw⊢
  obtain⟨m,rfl⟩:∃j,m=j+7:=⟨m-7,by omega⟩
  have h2:=e5.len cB
  have od:=su xs
  have k1:=uV xs
  have y_:(ns.map J.str).length=ns.length:=List.length_map _
  have bp:∀(u:a3),sz u<=K->p4 u=true->sz u<=90000->hV u<=90000->∀(m b B:Nat) (h0:aa) (v:J),B<=b->2*sz u+8<=m->e4 B h0 u v->∀(x:aa) (s:aL),iK b x s->Ext B h0 x->s.length+(jd u).length<=1000000->p5 b x (s++jd u) (Y m (.fn 81) [.ptr b 0,v] x):=Oa K
  have jr:∀y,Ext B h0 y->y.get R=some (.cells [.int .i64 (Int.ofNat k),.str bZ,b5,bJ,dy] 51 cd aW up):=λy e=>(e.get R ae).trans av
  have za:∀g,Ext B h0 g->cO Tryz.prog g 48 b5=some (.int .i64 (Int.ofNat ns.length)):=λg x=>by
   rw[<-y_];exact(aK.bM (fm.ext x (Nat.le_refl _))).len (t:=48) (e:=9) (by kernel_rfl)
  have item:∀i (af:i<vs.length) y s,iK b y s->Ext B h0 y->s.length+(wn (ek xs) i).length<=1000000->p5 b y (s++wn (ek xs) i) (Y (m+5) (.fn 81) [.ptr b 0,vs[i]] y):=λi af y s a6 g9 aw=>by
   have i2:i<xs.length:=by omega
   have a0:=oF (List.getElem_mem i2)
   have aJ:=y2 (List.getElem_mem i2)
   rw[show wn (ek xs) i=jd xs[i] by simp[wn,k1,i2,CS xs i i2]] at aw⊢
   exact bp xs[i] (by omega) (Hj zf (List.getElem_mem i2)) (by omega) (by omega) (m+5) b B h0 vs[i] ag (by omega) (e5.get cB i af i2) y s a6 g9 aw
  simp only[List.length_append] at aw
  have h_:Ext B h0 (x.room 8):=dW.trans (Nat.le_refl _) (Ext.room B x 8)
  obtain⟨al,c1,bD,bj⟩:=wU (m+1) b k s (x.room 8) (ad.room 8) (by omega) (by omega)
  have sE:cz b x.n x (x.room 8):=(cz.refl b x.n x).zv 8
  have jO:cz b x.n x al:=sE.trans (Nat.le_trans ad.1 (Nat.le_refl _)|> λ_=>by simp) bj
  have aE:=ad.below ag dW jO
  refine aap (m+6) b R x ⟨k,aB (jr _ h_) rfl,al,c1,k,aB (jr _ aE) rfl,λeK=>?_,λeK=>⟨λeE=>?_,λeE=>⟨λfQ=>?_,λfQ=>⟨λgT=>?_,λgT=>?_⟩⟩⟩⟩
  · subst eK
    have ai:j7 6 bZ ns (ek xs) (jN rt)=dC bZ:=rfl
    rw[ai] at aw⊢
    have:=Hl bZ
    have CU:=aE.trans (Nat.le_refl _) (Ext.room B al 8)
    obtain⟨ak,c2,bT,bo⟩:=CT m b (s++cM 6) bZ (al.room 8) (bD.room 8) (by rw[List.length_append];omega) (by omega)
    exact⟨bZ,aB (jr _ CU) rfl,ak,c2,ak,rfl,by rw[<-List.append_assoc];exact bT,(jO.zv 8).trans (jO.zv 8).n bo⟩
  · subst eE
    have ym:xs.length=ns.length:=by rcases oQ with oQ|oQ;exact absurd rfl oQ;exact oQ
    have ai:j7 7 bZ ns (ek xs) (jN rt)=cM ns.length++(jt ns (ek xs)).flatten:=rfl
    rw[ai] at aw⊢
    simp only[List.length_append] at aw
    have CU:=aE.trans (Nat.le_refl _) (Ext.room B al 9)
    have n_:=aaI ns (ek xs) (by omega)
    obtain⟨ak,c2,bT,bo⟩:=wU (m+1) b ns.length (s++cM 7) (al.room 9) (bD.room 9) (by omega) (by rw[List.length_append];omega)
    have p6:cz b x.n x ak:=(jO.zv 9).trans (jO.zv 9).n bo
    have aC:=ad.below ag dW p6
    refine⟨b5,aB (jr _ CU) rfl,_,za _ CU,ak,c2,aK.snd,b5,aB (jr _ aC) rfl,_,za _ aC,?_⟩
    refine bB.loop (by kernel_rfl) (λt st=>∃i y Γ,st=⟨Γ,[],.none,y⟩/\cZ [(0,.ptr b 0),(1,.ptr R 0),(42,b5),(43,.int .i64 (Int.ofNat ns.length)),(44,.int .i64 (Int.ofNat i))] Γ/\ns.length-i=t/\i<=ns.length/\iK b y (s++cM 7++cM ns.length++((jt ns (ek xs)).take i).flatten)/\cz b x.n x y) ?_ ns.length _ (by omega) ⟨0,ak,_,rfl,⟨rfl,rfl,rfl,rfl,rfl,trivial⟩,by omega,by omega,by simpa using bT,p6⟩
    rintro t st ⟨i,y,Γ,rfl,dk,a2,af,a6,kT⟩
    have g9:=ad.below ag dW kT
    have Ob:i=ns.length->iK b y (s++(cM 7++(cM ns.length++(jt ns (ek xs)).flatten))):=λe=>by
     rw[List.take_of_length_le (by omega)] at a6
     simpa only[List.append_assoc] using a6
    rcases aK.strs with⟨rfl,rfl⟩|⟨bh,cT,aaK,rfl,gh,aaL⟩
    · exact bB.pre (aar (Y (m+6)) b R _ i .az y ⟨by simp,y,_,rfl,rfl,trivial,y,rfl,Ob (by simp at af;simp[af]),kT⟩) dk rfl rfl rfl
    · refine bB.pre (aaq (Y (m+6)) b R bh cT _ i aaK y ⟨λab=>?_,λab=>?_⟩) dk rfl rfl rfl
      · have i2:i<(ek xs).length:=by omega
        have i3:i<(jt ns (ek xs)).length:=by omega
        have i4:i<vs.length:=by omega
        have t1:=Hh (jt ns (ek xs)) (i+1)
        have t2:=Hg (jt ns (ek xs)) i3
        have t3:=aaJ i3 ab i2
        have N_:wn (ek xs) i=(ek xs)[i]:=by simp[wn,i2]
        rw[t2,t3] at t1
        simp only[List.length_append] at t1
        have t4:=Hl ns[i]
        rcases bU with⟨_,ED⟩|⟨bf,dE,cV,rfl,dS,He,_⟩
        · rw[ED] at i4;simp at i4
        obtain⟨aS,c3,fu,dj⟩:=CT m b (s++cM 7++cM ns.length++((jt ns (ek xs)).take i).flatten) ns[i] y a6 (by simp only[List.length_append];omega) (by omega)
        have uK:=kT.trans kT.n dj
        have bu:=ad.below ag dW uK
        obtain⟨z,a0⟩:=e4.Hm (e5.get cB i i4 (by omega))
        obtain⟨bb,c4,j2,lB⟩:=bp xs[i] (by have:=oF (List.getElem_mem (l:=xs) (n:=i) (by omega));omega) (Hj zf (List.getElem_mem (by omega))) (by have:=oF (List.getElem_mem (l:=xs) (n:=i) (by omega));omega) (by have:=y2 (List.getElem_mem (l:=xs) (n:=i) (by omega));omega) (m+6) b B h0 vs[i] ag (by have:=oF (List.getElem_mem (l:=xs) (n:=i) (by omega));omega) (e5.get cB i i4 (by omega)) aS _ fu bu (by rw[<-CS xs i (by omega) i2];simp only[List.length_append];omega)
        rw[a0] at c4
        refine⟨ab,ns[i],hJ g9 gh (aaL i ab),aS,c3,bf,dE,_,cV,aB (jr _ bu) rfl,i4,z,(hJ bu dS (He i i4)).trans (by rw[a0]),bb,c4,by omega,_,(by show ns.length-(i+1)<t;omega),i+1,bb,_,rfl,⟨rfl,rfl,rfl,rfl,rfl,trivial⟩,rfl,by omega,?_,uK.trans uK.n lB⟩
        rw[t2,t3,CS xs i (by omega) i2]
        simpa only[List.append_assoc] using j2
      · exact⟨y,_,rfl,rfl,trivial,y,rfl,Ob (by omega),kT⟩
  · subst fQ
    have ai:j7 8 bZ ns (ek xs) (jN rt)=cM (ek xs).length++(ek xs).flatten++jN rt:=rfl
    rw[ai] at aw⊢
    simp only[List.length_append] at aw
    obtain⟨ak,c2,bT,bo⟩:=N9 m (b:=b) (B:=B) (h0:=h0) (v:=bJ) (vs:=vs) (ek xs) ag bU (by omega) (by omega) (λi af=>e4.Hm (e5.get cB i af (by omega))) item (x:=al) (s:=s++cM 8) bD aE (by simp only[List.length_append];omega)
    have p6:=jO.trans jO.n bo
    have aC:=ad.below ag dW p6
    cases rt with
    |none=>rcases nP with nP|nP<;>simp at nP
    |some u=>
     rw[lD] at dO fH hm
     rw[oG] at pk
     have GW:jN (some u)=jd u:=by rw[jN]
     rw[GW] at aw⊢
     rw[zu] at GS
     obtain⟨aS,c3,fu,dj⟩:=bp u (by omega) GS (by omega) (by omega) (m+6) b B h0 dy ag (by omega) eo ak _ bT aC (by simp only[List.length_append];omega)
     exact⟨bJ,aB (jr _ aE) rfl,ak,c2,dy,aB (jr _ aC) rfl,aS,c3,aS,rfl,by simpa only[List.append_assoc] using fu,p6.trans p6.n dj⟩
  · subst gT
    have ai:j7 9 bZ ns (ek xs) (jN rt)=cM (ek xs).length++(ek xs).flatten:=rfl
    rw[ai] at aw⊢
    simp only[List.length_append] at aw
    obtain⟨ak,c2,bT,bo⟩:=N9 m (b:=b) (B:=B) (h0:=h0) (v:=bJ) (vs:=vs) (ek xs) ag bU (by omega) (by omega) (λi af=>e4.Hm (e5.get cB i af (by omega))) item (x:=al) (s:=s++cM 9) bD aE (by simp only[List.length_append];omega)
    exact⟨bJ,aB (jr _ aE) rfl,ak,c2,ak,rfl,by simpa only[List.append_assoc] using bT,jO.trans jO.n bo⟩
  · have ai:j7 k bZ ns (ek xs) (jN rt)=[]:=by unfold j7;rw[if_neg eK,if_neg eE,if_neg fQ,if_neg gT]
    rw[ai]
    exact⟨al,rfl,by simpa using bD,jO⟩
end Go.Proofs.cN
namespace Go.Proofs.cN
open Go ay Go.Proofs cS Go.Proofs.cf
open Go.Proofs.cW (dC)
open Go.Proofs.ed (cM)
set_option maxRecDepth 100000
set_option maxHeartbeats 1000000
abbrev dQ:=aL×Option a3
def kU(B:Nat)(h:aa)(v:J)(l:List dQ):Prop:=(v=.az/\l=[])\/∃b off aG,v=.slice b off l.length aG/\b<B/\(∀i (af:i<l.length),∃w,ay.loadCells h b (off+i*2) 2=some [.str l[i].1,w]/\ep B h l[i].2 w)/\0<l.length/\aG≠ .dead
theorem kU.bM{B:Nat}{h g:aa}{v:J}{l:List dQ}(e:Ext B h g)(ai:kU B h v l):kU B g v l:=by
 rcases ai with ai|⟨b,off,aG,ab,ae,aK,bU⟩
 · exact .inl ai
 · refine .inr ⟨b,off,aG,ab,ae,λi af=>?_,bU⟩
   obtain⟨w,cq,cp⟩:=aK i af
   refine⟨w,?_,ep.bM (fm.ext e (Nat.le_refl _)) _ _ cp⟩
   rw[<-cq]
   unfold ay.loadCells
   rw[e.get b ae]
theorem kU.le{B C:Nat}{h:aa}{v:J}{l:List dQ}(e:B<=C)(ai:kU B h v l):kU C h v l:=by
 rcases ai with ai|⟨b,off,aG,ab,ae,aK,bU⟩
 · exact .inl ai
 · exact .inr ⟨b,off,aG,ab,by omega,λi af=>by obtain⟨w,cq,cp⟩:=aK i af;exact⟨w,cq,ep.le e _ _ cp⟩,bU⟩
theorem CV{B:Nat}{h y:aa}{l:List dQ}{b off:Nat}(ag:b<B)(aw:∀i (af:i<l.length),∃w,ay.loadCells h b (off+i*2) 2=some [.str l[i].1,w]/\ep B h l[i].2 w)(g9:Ext B h y){i:Nat}(af:i<l.length):∃w,ay.loadCells y b (off+i*2) 2=some [.str l[i].1,w]/\ep B y l[i].2 w:=by
 obtain⟨w,cq,cp⟩:=aw i af
 refine⟨w,?_,ep.bM (fm.ext g9 (Nat.le_refl _)) _ _ cp⟩
 rw[<-cq]
 unfold ay.loadCells
 rw[g9.get b ag]
theorem kU.cell{B:Nat}{h:aa}{v:J}{l:List dQ}(ai:kU B h v l):v.bF=true:=by rcases ai with⟨rfl,_⟩|⟨b,off,aG,rfl,_⟩<;>rfl
theorem kU.len{B:Nat}{h:aa}{v:J}{l:List dQ}(ai:kU B h v l)(g:aa):cO Tryz.prog g 22 v=some (.int .i64 (Int.ofNat l.length)):=by
 have hu:Tryz.prog.underlying 22=some (.slice 53):=by kernel_rfl
 rcases ai with⟨rfl,rfl⟩|⟨b,off,aG,rfl,_⟩
 · simp only[cO,hu];rfl
 · simp only[cO,hu]
theorem oW{B:Nat}{h:aa}{ot:Option a3}{v:J}(aH:ep B h ot v):v.bF=true:=by rcases aH.wE with rfl|⟨R,rfl⟩<;>rfl
theorem CW{n a:aL}{w c d:J}(hw:w.bF=true):eP 0 [.str n,w] [c,d]=some [.str n,w]:=vY [.str n,w] [c,d] (by simp[J.bF] at*;exact hw) (Nat.le_refl _)
def fit(o:Option a3):Prop:=dw o<=100/\∀t,o=some t->hV t<=90000
def mh(last:aL):List dQ->Bool
 |[]=>true
 |e::l=>fq last e.1&&(decide (e.1.length<=24)&&(decide (mS e.2=0)&&mh e.1 l))
def sI(l:List dQ):Nat->aL
 |0=>[]
 |i+1=>((l[i]?).map Prod.fst).getD []
theorem Oc{l:List dQ}{i:Nat}(h:i<l.length):sI l (i+1)=l[i].1:=by simp[sI,h]
theorem Od(m:Nat){B:Nat}{h:aa}{v:J}{l:List dQ}(bN:B<=h.n)(hm:450<=m)(ai:kU B h v l)(hlen:l.length<=90000)(hf:∀e∈l,fit e.2):ca B h (.bool (mh [] l)) (Y (m+1) (.fn 56) [v] h):=by
 refine aaA m v h ⟨_,ai.len h,?_⟩
 refine bB.loop (by kernel_rfl) (λk st=>∃i y Γ,st=⟨Γ,[],.none,y⟩/\cZ [(3,.str (sI l i)),(6,v),(7,.int .i64 (Int.ofNat l.length)),(8,.int .i64 (Int.ofNat i))] Γ/\l.length-i=k/\i<=l.length/\Ext B h y/\mh [] l=mh (sI l i) (l.drop i)) ?_ l.length _ (by omega) ⟨0,h,_,rfl,⟨rfl,rfl,rfl,rfl,trivial⟩,by omega,by omega,Ext.refl _ _,rfl⟩
 rintro k st ⟨i,y,Γ,rfl,dk,au,af,g9,a1⟩
 by_cases ab:i<l.length
 · rcases ai with⟨_,rfl⟩|⟨b,off,aG,rfl,ag,aw,aY,aq⟩
   · simp at ab
   obtain⟨w,ah,a2⟩:=CV ag aw g9 ab
   obtain⟨g,ao⟩:∃g,g=(y.push (.cells [.str [],.bc] 53 .own 0 0)).set y.n (some (.cells [.str l[i].1,w] 53 .own 0 0)):=⟨_,rfl⟩
   have cr:ay.storeCells (y.push (.cells [.str [],.bc] 53 .own 0 0)) y.n 0 [.str l[i].1,w]=some g:=by
    rw[ao];exact dY (dA rfl) rfl (CW (a:=[]) (oW a2))
   have sJ:g.get y.n=some (.cells [.str l[i].1,w] 53 .own 0 0):=by rw[ao];exact dN rfl
   have gr:Ext y.n y g:=by rw[ao];exact(Ext.push (Nat.le_refl _) _).e3 (Nat.le_refl _)
   have p7:=Nat.le_trans bN g9.n
   have lN:Ext B h g:=g9.trans (Nat.le_refl _) (gr.le p7)
   have eW:y.n<g.n:=by rw[ao];simp
   rw[List.drop_eq_getElem_cons ab,mh] at a1
   refine bB.pre (aaB (Y m) b off _ i aG (sI l i) y ⟨ab,ab,_,w,ah,oW a2,g,cr,_,aB sJ rfl,λag=>?_,λag=>⟨_,aB sJ rfl,λs8=>?_,λs8=>⟨_,aB sJ rfl,?_⟩⟩⟩) dk rfl rfl rfl
   · have:fq (sI l i) l[i].1=false:=by simpa using ag
     exact .inr ⟨g,_,rfl,rfl,⟨rfl,trivial⟩,ca.of (fb (by rw[a1,this];rfl)) lN⟩
   · exact .inr ⟨g,_,rfl,rfl,⟨rfl,trivial⟩,ca.of (fb (by rw[a1];simp[show¬l[i].1.length<=24 by omega])) lN⟩
   · have cx:fq (sI l i) l[i].1=true:=by simpa using ag
     have xV:=hf l[i] (List.getElem_mem ab)
     obtain⟨ak,c2,bo⟩:=YM (m-1) (ot:=l[i].2) (B:=g.n) (h:=g) (v:=w) (by have:=xV.1;omega) xV.2 (by have:=xV.1;omega) (Nat.le_refl _) (ep.le (Nat.le_trans p7 gr.n) _ _ (ep.bM (fm.ext (gr.le p7) (Nat.le_refl _)) _ _ a2))
     rw[show m-1+1=m by omega] at c2
     have zw:Ext B h ak:=lN.trans (Nat.le_refl _) (bo.le (Nat.le_trans p7 gr.n))
     refine⟨_,ak,c2,λh0=>⟨_,aB ((bo.get y.n eW).trans sJ) rfl,by omega,?_⟩,λh0=>?_⟩
     · refine⟨_,(by show l.length-(i+1)<k;omega),i+1,ak,_,rfl,⟨by rw[Oc ab];rfl,rfl,rfl,rfl,trivial⟩,rfl,by omega,zw,?_⟩
       rw[a1,cx,h0,Oc ab];simp[show l[i].1.length<=24 by omega]
     · exact .inr ⟨ak,_,rfl,rfl,⟨rfl,trivial⟩,ca.of (fb (by rw[a1];simp[h0])) zw⟩
 · refine bB.pre (aaC (Y m) l.length i (sI l i) v y ⟨ab,.inl ⟨y,_,rfl,rfl,trivial,ca.of (fb ?_) g9⟩⟩) dk rfl rfl rfl
   rw[a1,List.drop_of_length_le (by omega)];rfl
end Go.Proofs.cN
namespace Go.Proofs.cN
open Go ay Go.Proofs cS Go.Proofs.cf
open Go.Proofs.cW (dC)
open Go.Proofs.ed (cM)
set_option maxRecDepth 100000
set_option maxHeartbeats 1000000
def ei(e:dQ):aL:=dC e.1++jN e.2
def k_(l:List dQ):aL:=cM l.length++(l.map ei).flatten
def sK(e:dQ):Prop:=∃t,e.2=some t/\p4 t=true/\sz t<=100/\hV t<=90000
theorem aaM(m:Nat){b B:Nat}{h0 y:aa}{s n:aL}{ot:Option a3}{w:J}(hm:220<=m)(ag:B<=b)(a6:iK b y s)(g9:Ext B h0 y)(a2:ep B h0 ot w)(aw:sK (n,ot))(hs:s.length+(ei (n,ot)).length<=1000000):p5 b y (s++ei (n,ot)) (Y (m+1) (.fn 66) [.ptr b 0,.agg [.str n,w]] y):=by
 obtain⟨t,rfl,ab,ae,av⟩:∃t,ot=some t/\p4 t=true/\sz t<=100/\hV t<=90000:=aw
 have he:ei (n,some t)=dC n++jd t:=by show dC n++jN (some t)=_;rw[jN]
 rw[he] at hs⊢
 simp only[List.length_append] at hs
 obtain⟨H,dG⟩:∃H,H=y.push (.cells [.str n,w] 53 .own 0 0):=⟨_,rfl⟩
 have fe:Ext y.n y H:=by rw[dG];exact Ext.push (Nat.le_refl _) _
 have mX:H.get y.n=some (.cells [.str n,w] 53 .own 0 0):=by rw[dG];exact dA rfl
 have j4:y.n<H.n:=by rw[dG];simp
 have Hn:=(a6.ext fe).room 6
 have t4:=Hl n
 obtain⟨al,c1,bD,bj⟩:=CT (m-6) b s n (H.room 6) Hn (by omega) (by omega)
 rw[show m-6+6=m by omega] at c1
 have jO:cz b y.n y al:=(fe.jo b).trans fe.n (((Ext.room _ H 6).jo b).trans (Nat.le_refl _) (bj.le (by simp)))
 have aE:=a6.below ag g9 jO
 have aaN:al.get y.n=some (.cells [.str n,w] 53 .own 0 0):=(bj.get y.n (by simp;omega) (by have:=a6.1;omega)).trans mX
 obtain⟨ak,c2,bT,bo⟩:=Oa (sz t) t (Nat.le_refl _) ab (by omega) (by omega) m b B h0 w ag (by omega) a2 al _ bD aE (by simp only[List.length_append];omega)
 refine aay m b n w y ⟨oW a2,?_⟩
 rw[<-dG]
 exact⟨_,aB (dX mX) rfl,al,c1,_,aB aaN rfl,ak,c2,ak,rfl,by simpa only[List.append_assoc] using bT,jO.trans jO.n bo⟩
theorem Oe(m:Nat){b B:Nat}{h0 x:aa}{v:J}{l:List dQ}{s:aL}(hm:230<=m)(ag:B<=b)(ai:kU B h0 v l)(hlen:l.length<=90000)(CX:∀e∈l,sK e)(ad:iK b x s)(dW:Ext B h0 x)(aw:s.length+(k_ l).length<=1000000):
  p5 b x (s++k_ l) (Y (m+1) (.fn 65) [.ptr b 0,v,.fn 66 [.ptr b 0] []] x):=by
 have aaO:k_ l=cM l.length++(l.map ei).flatten:=rfl
 rw[aaO] at aw⊢
 simp only[List.length_append] at aw
 obtain⟨al,c1,bD,bj⟩:=wU (m-5) b l.length s x ad (by omega) (by omega)
 rw[show m-5+5=m by omega] at c1
 refine aav m b v x ⟨_,ai.len x,al,c1,_,ai.len al,?_⟩
 refine bB.loop (by kernel_rfl) (λk st=>∃i y Γ,st=⟨Γ,[],.none,y⟩/\cZ [(2,.fn 66 [.ptr b 0] []),(14,v),(15,.int .i64 (Int.ofNat l.length)),(16,.int .i64 (Int.ofNat i))] Γ/\l.length-i=k/\i<=l.length/\iK b y (s++(cM l.length++((l.map ei).take i).flatten))/\cz b x.n x y) ?_ l.length _ (by omega) ⟨0,al,_,rfl,⟨rfl,rfl,rfl,rfl,trivial⟩,by omega,by omega,by simpa using bD,bj⟩
 rintro k st ⟨i,y,Γ,rfl,dk,au,af,a6,kT⟩
 have g9:=ad.below ag dW kT
 by_cases ab:i<l.length
 · rcases ai with⟨_,rfl⟩|⟨dT,off,aG,rfl,Hk,g3,aY,aq⟩
   · simp at ab
   obtain⟨w,ah,a2⟩:=CV Hk g3 g9 ab
   have ae:i<(l.map ei).length:=by simpa using ab
   have t1:=Hh (l.map ei) (i+1)
   have t2:=Hg (l.map ei) ae
   rw[t2,List.getElem_map] at t1
   simp only[List.length_append] at t1
   obtain⟨g,ao⟩:∃g,g=(y.push (.cells [.str [],.bc] 53 .own 0 0)).set y.n (some (.cells [.str l[i].1,w] 53 .own 0 0)):=⟨_,rfl⟩
   have cr:ay.storeCells (y.push (.cells [.str [],.bc] 53 .own 0 0)) y.n 0 [.str l[i].1,w]=some g:=by
    rw[ao];exact dY (dA rfl) rfl (CW (a:=[]) (oW a2))
   have sJ:g.get y.n=some (.cells [.str l[i].1,w] 53 .own 0 0):=by rw[ao];exact dN rfl
   have gr:Ext y.n y g:=by rw[ao];exact(Ext.push (Nat.le_refl _) _).e3 (Nat.le_refl _)
   have p7:B<=y.n:=Nat.le_trans ag (Nat.le_of_lt a6.1)
   have lN:=g9.trans (Nat.le_refl _) (gr.le p7)
   obtain⟨ak,c2,bT,bo⟩:=aaM (m-1) (b:=b) (B:=B) (h0:=y) (y:=g) (n:=l[i].1) (ot:=l[i].2) (w:=w) (by omega) ag (a6.ext gr) (gr.le p7) a2 (CX l[i] (List.getElem_mem ab)) (by simp only[List.length_append];show _+(ei l[i]).length<=_;omega)
   rw[show m-1+1=m by omega] at c2
   refine bB.pre (aaw (Y m) b dT off _ i aG y ⟨ab,ab,_,w,ah,oW a2,g,cr,_,w,hq sJ rfl,ak,c2,by omega,?_⟩) dk rfl rfl rfl
   refine⟨_,(by show l.length-(i+1)<k;omega),i+1,ak,_,rfl,⟨rfl,rfl,rfl,rfl,trivial⟩,rfl,by omega,?_,kT.trans kT.n ((gr.jo b).trans gr.n bo)⟩
   rw[t2,List.getElem_map]
   simpa only[List.append_assoc] using bT
 · refine bB.pre (aax (Y m) b l.length i v y ⟨ab,y,_,rfl,rfl,trivial,y,rfl,?_,kT⟩) dk rfl rfl rfl
   rw[List.take_of_length_le (by simp;omega)] at a6
   exact a6
end Go.Proofs.cN
namespace Go.Proofs.cN
open Go ay Go.Proofs cS Go.Proofs.cf
open Go.Proofs.cW (dC)
open Go.Proofs.ed (cM)
set_option maxRecDepth 100000
set_option maxHeartbeats 1000000
structure fN where
 path:aL
 eY:Bool
 ky:List dQ
 mi:List dQ
def e7(x:fN):aL:=dC x.path++(if x.eY then cM 1 else cM 0++(k_ x.ky++k_ x.mi))
def ht(x:fN):Bool:=mh [] x.ky&&(mh [] x.mi&&(!x.eY||decide (x.ky.length+x.mi.length=0)))
def sL(x:fN):aL:=if ht x then e7 x else[]
structure kV(B:Nat)(h:aa)(vv vt:J)(x:fN):Prop where
 v:kU B h vv x.ky
 t:kU B h vt x.mi
theorem kV.bM{B:Nat}{h g:aa}{vv vt:J}{x:fN}(e:Ext B h g)(s:kV B h vv vt x):kV B g vv vt x:=⟨s.v.bM e,s.t.bM e⟩
theorem kV.le{B C:Nat}{h:aa}{vv vt:J}{x:fN}(e:B<=C)(s:kV B h vv vt x):kV C h vv vt x:=⟨s.v.le e,s.t.le e⟩
structure la(x:fN):Prop where
 p:x.path.length<=90000
 dz:x.ky.length<=90000
 lt:x.mi.length<=90000
 l1:∀e∈x.ky,fit e.2
 CY:∀e∈x.mi,fit e.2
abbrev eV(p:aL)(b:Bool)(vv vt:J):b3:=.cells [.str p,.bool b,vv,vt] 24 .own 0 0
theorem Ho(m:Nat){B:Nat}{h:aa}{vv vt:J}{x:fN}(hm:460<=m)(bN:B<=h.n)(hs:kV B h vv vt x)(hf:la x):ca B h (.bool (ht x)) (Y (m+1) (.fn 29) [.agg [.str x.path,.bool x.eY,vv,vt]] h):=by
 obtain⟨H,dG⟩:∃H,H=h.push (eV x.path x.eY vv vt):=⟨_,rfl⟩
 have fe:Ext B h H:=by rw[dG];exact Ext.push bN _
 have mX:H.get h.n=some (eV x.path x.eY vv vt):=by rw[dG];exact dA rfl
 have j4:h.n<H.n:=by rw[dG];simp
 have nL:=Nat.le_trans bN fe.n
 have ady:Ext h.n h H:=by rw[dG];exact Ext.push (Nat.le_refl _) _
 obtain⟨al,c1,bj⟩:=Od (m-1) (B:=H.n) (h:=H) (Nat.le_refl _) (by omega) ((hs.bM fe).le nL).v hf.dz hf.l1
 rw[show m-1+1=m by omega] at c1
 obtain⟨ak,c2,bo⟩:=Od (m-1) (B:=H.n) (h:=al) bj.n (by omega) ((((hs.bM fe).le nL).bM bj)).t hf.lt hf.CY
 rw[show m-1+1=m by omega] at c2
 have zx:=(bj.get h.n j4).trans mX
 have wV:=(bo.get h.n j4).trans zx
 have aE:Ext B h al:=fe.trans (Nat.le_refl _) (bj.le nL)
 have aC:Ext B h ak:=aE.trans (Nat.le_refl _) (bo.le nL)
 refine aaD m x.path x.eY vv vt h ⟨hs.v.cell,hs.t.cell,?_⟩
 rw[<-dG]
 refine⟨_,aB mX rfl,_,al,c1,λab=>⟨_,aB zx rfl,_,ak,c2,λae=>⟨_,aB wV rfl,λav=>?_,λav=>?_⟩,λae=>?_⟩,λab=>?_⟩
 rotate_left
 · have:x.eY=false:=by simpa using av
   exact ca.of (fb (by unfold ht;rw[ab,ae,this];rfl)) aC
 · exact ca.of (fb (by unfold ht;rw[ab,ae];rfl)) aC
 · exact ca.of (fb (by unfold ht;rw[ab];rfl)) aE
 · have ag:x.eY=true:=by simpa using av
   have bD:=hf.dz
   have bT:=hf.lt
   exact⟨_,aB wV rfl,_,hs.v.len ak,_,aB wV rfl,_,hs.t.len ak,by omega,ca.of (fb (by unfold ht;rw[ab,ae,ag,Cm];simp)) aC⟩
theorem aaP{e:dQ}(hf:fit e.2)(ah:mS e.2=0):sK e:=by
 obtain⟨n,ot⟩:=e
 cases ot with
 |none=>simp[mS] at ah
 |some t=>
  obtain⟨ab,ae⟩:=hf
  simp only[lD] at ab
  have lE:¬60<sz t:=λh=>by simp[mS,h] at ah
  have hm:g7 t=true:=by
   cases hm:g7 t with
   |true=>rfl
   |false=>simp[mS,lE,hm] at ah
  exact⟨t,rfl,Hi t (Cg t hm),ab,ae t rfl⟩
theorem Hp:∀(p:aL) (l:List dQ),(∀e∈l,fit e.2)->mh p l=true->∀e∈l,sK e
 |_,[],_,_,e,he=>by cases he
 |p,a::l,hf,h,e,he=>by
  rw[mh] at h
  simp only[Bool.and_eq_true,decide_eq_true_eq] at h
  rcases List.mem_cons.1 he with rfl|he
  · exact aaP (hf _ (by simp)) h.2.2.1
  · exact Hp a.1 l (λe he=>hf e (by simp[he])) h.2.2.2 e he
theorem aaQ{x:fN}(hf:la x)(h:ht x=true):(∀e∈x.ky,sK e)/\∀e∈x.mi,sK e:=by
 unfold ht at h
 simp only[Bool.and_eq_true] at h
 exact⟨Hp _ _ hf.l1 h.1,Hp _ _ hf.CY h.2.1⟩
theorem aaR(m:Nat){b B:Nat}{h0 y:aa}{s:aL}{vv vt:J}{x:fN}(hm:240<=m)(ag:B<=b)(a6:iK b y s)(g9:Ext B h0 y)(hs:kV B h0 vv vt x)(hf:la x)(CX:(∀e∈x.ky,sK e)/\∀e∈x.mi,sK e)(aw:s.length+(e7 x).length<=1000000):
  p5 b y (s++e7 x) (Y (m+1) (.fn 42) [.ptr b 0,.agg [.str x.path,.bool x.eY,vv,vt]] y):=by
 have n9:=hf.p
 obtain⟨H,dG⟩:∃H,H=y.push (eV x.path x.eY vv vt):=⟨_,rfl⟩
 have fe:Ext y.n y H:=by rw[dG];exact Ext.push (Nat.le_refl _) _
 have mX:H.get y.n=some (eV x.path x.eY vv vt):=by rw[dG];exact dA rfl
 have j4:y.n<H.n:=by rw[dG];simp
 have Hn:=(a6.ext fe).room 6
 have dK:¬y.n=b:=by have:=a6.1;omega
 obtain⟨al,c1,bD,bj⟩:=CT (m-6) b s x.path (H.room 6) Hn (by omega) (by omega)
 rw[show m-6+6=m by omega] at c1
 have jO:cz b y.n y al:=(fe.jo b).trans fe.n (((Ext.room _ H 6).jo b).trans (Nat.le_refl _) (bj.le (by simp)))
 have zx:al.get y.n=some (eV x.path x.eY vv vt):=(bj.get y.n (by simp;omega) dK).trans mX
 have aQ:y.n<al.n:=by have:=bj.n;simp at this;omega
 have aE:=a6.below ag g9 jO
 refine aaz m b x.path x.eY vv vt y ⟨hs.v.cell,hs.t.cell,?_⟩
 rw[<-dG]
 refine⟨_,aB (dX mX) rfl,al,c1,_,aB zx rfl,λab=>?_,λab=>?_⟩
 · have bN:e7 x=dC x.path++cM 1:=by unfold e7;rw[ab];rfl
   rw[bN] at aw⊢
   simp only[List.length_append] at aw
   obtain⟨ak,c2,bT,bo⟩:=wU (m-5) b 1 (s++dC x.path) al bD (by omega) (by simp only[List.length_append];omega)
   rw[show m-5+5=m by omega] at c2
   exact⟨ak,c2,ak,rfl,by simpa only[List.append_assoc] using bT,jO.trans jO.n bo⟩
 · have bN:e7 x=dC x.path++(cM 0++(k_ x.ky++k_ x.mi)):=by unfold e7;rw[ab];rfl
   rw[bN] at aw⊢
   simp only[List.length_append] at aw
   obtain⟨ak,c2,bT,bo⟩:=wU (m-5) b 0 (s++dC x.path) al bD (by omega) (by simp only[List.length_append];omega)
   rw[show m-5+5=m by omega] at c2
   have wV:=(bo.get y.n aQ dK).trans zx
   have bw:y.n<ak.n:=Nat.lt_of_lt_of_le aQ bo.n
   have p6:=jO.trans jO.n bo
   obtain⟨aS,c3,fu,dj⟩:=Oe (m-1) (b:=b) (B:=B) (h0:=h0) (x:=ak) (l:=x.ky) (by omega) ag hs.v hf.dz CX.1 bT (a6.below ag g9 p6) (by simp only[List.length_append];omega)
   rw[show m-1+1=m by omega] at c3
   have aaS:=(dj.get y.n bw dK).trans wV
   have qY:=p6.trans p6.n dj
   obtain⟨bb,c4,j2,lB⟩:=Oe (m-1) (b:=b) (B:=B) (h0:=h0) (x:=aS) (l:=x.mi) (by omega) ag hs.t hf.lt CX.2 fu (a6.below ag g9 qY) (by simp only[List.length_append];omega)
   rw[show m-1+1=m by omega] at c4
   exact⟨ak,c2,_,aB wV rfl,aS,c3,_,aB aaS rfl,bb,c4,bb,rfl,by simpa only[List.append_assoc] using j2,qY.trans qY.n lB⟩
theorem Hq(m:Nat){B:Nat}{h:aa}{vv vt:J}{x:fN}(hm:470<=m)(bN:B<=h.n)(hs:kV B h vv vt x)(hf:la x)(aw:(e7 x).length<=1000000):ca B h (.str (sL x)) (Y (m+1) (.fn 17) [.agg [.str x.path,.bool x.eY,vv,vt]] h):=by
 obtain⟨di,gW⟩:∃p,p=h.push (eV x.path x.eY vv vt):=⟨_,rfl⟩
 obtain⟨da,fM⟩:∃p,p=di.push (.cells [.str []] 83 .own 0 0):=⟨_,rfl⟩
 have aQ:di.n=h.n+1:=by rw[gW];rfl
 have bw:da.n=h.n+2:=by rw[fM];show di.n+1=_;omega
 have bj:Ext h.n h di:=by rw[gW];exact Ext.push (Nat.le_refl _) _
 have bo:Ext h.n h da:=by rw[fM];exact bj.jJ bj.n
 have aR:da.get h.n=some (eV x.path x.eY vv vt):=by rw[fM,aa.eD,if_neg (by omega),gW];exact dA rfl
 have aT:da.get (h.n+1)=some (.cells [.str []] 83 .own 0 0):=by rw[fM];exact dA aQ.symm
 have dq:Ext B h da:=bo.le bN
 have uY:=Nat.le_trans bN bo.n
 obtain⟨g,c,gr⟩:=Ho (m-1) (B:=da.n) (h:=da) (by omega) (Nat.le_refl _) ((hs.bM dq).le uY) hf
 rw[show m-1+1=m by omega] at c
 have lN:Ext B h g:=dq.trans (Nat.le_refl _) (gr.le uY)
 have gB:=(gr.get _ (by omega)).trans aT
 have ig:=(gr.get h.n (by omega)).trans aR
 refine aaE m x.path x.eY vv vt h ⟨hs.v.cell,hs.t.cell,?_⟩
 rw[<-gW,<-fM,aQ]
 refine⟨_,_,_,_,hq aR rfl,_,g,c,λab=>?_,λab=>?_⟩
 · obtain⟨ak,c2,bT,CQ⟩:=aaR (m-1) (b:=h.n+1) (B:=B) (h0:=h) (y:=g) (s:=[]) (by omega) (by omega) ⟨by have:=gr.n;omega,gB⟩ lN hs hf (aaQ hf ab) (by simpa using aw)
   rw[show m-1+1=m by omega] at c2
   refine⟨_,_,_,_,hq ig rfl,ak,c2,e7 x,aB (by simpa using bT.2) rfl,ca.of (by unfold sL;rw[ab];rfl) (lN.trans (Nat.le_refl _) (cN.below (by omega) (Nat.le_trans bN lN.n) CQ))⟩
 · exact⟨[],aB gB rfl,ca.of (by unfold sL;rw[ab];rfl) lN⟩
end Go.Proofs.cN
