/-
  PROVED HERE: contracts of functions (Di). No condition beside each statement's own.
-/
import Derived.Test.YtfooahfebojldaaGreatDoorDg
import Derived.Test.YtfooahfebojldaaGreatDoorDh
import Derived.Test.YtfooahfebojldaaGreatDoorTx
set_option linter.unusedVariables false
set_option linter.unusedSimpArgs false
namespace Go.Proofs.dQ
open Go aB Go.Proofs df Go.Proofs.cD
open Go.Proofs.dg (cV)
open Go.Proofs.gI (ct)
set_option maxRecDepth 100000
set_option maxHeartbeats 1000000
theorem VB(m:Nat)(b:Nat)(n:Nat)(h:J){R:ao->Prop}(H:∃s1:List UInt8,au h b (0+0)=some (.str s1)/\∃aN:Nat,et Tryz.prog 3 65 (.int .i64 (.ofNat n)) h=e5.val (.int .u64 (.ofNat aN)) h/\∃s2:List UInt8,∃al:J,(Y m) (.fn 52) [.str s1,.int .u64 (.ofNat aN)] h=.ret (.str s2) al/\∃ar:J,aB.storeCells al b (0+0) [.str s2]=some ar/\R (.ret (.aP []) ar)):
  R (Y (m+1) (.fn 41) [.ptr b 0,.int .i64 (.ofNat n)] h):=
 dp (intr:=bW) [] [(0,.v (.ptr b 0)),(1,.v (.int .i64 (.ofNat n)))] Tryz.func41 (by kernel_rfl) (by kernel_rfl) (by kernel_rfl) rfl (Eq.mp (by kernel_rfl) H)
theorem VC(m:Nat)(b:Nat)(t:List UInt8)(h:J){R:ao->Prop}(H:∃s1:List UInt8,au h b (0+0)=some (.str s1)/\∃s2:List UInt8,∃al:J,(Y m) (.fn 64) [.str s1,.str t] h=.ret (.str s2) al/\∃ar:J,aB.storeCells al b (0+0) [.str s2]=some ar/\R (.ret (.aP []) ar)):
  R (Y (m+1) (.fn 38) [.ptr b 0,.str t] h):=
 dp (intr:=bW) [] [(0,.v (.ptr b 0)),(1,.v (.str t))] Tryz.func38 (by kernel_rfl) (by kernel_rfl) (by kernel_rfl) rfl (Eq.mp (by kernel_rfl) H)
theorem VD(m:Nat)(b:Nat)(r:Nat)(h:J){R:ao->Prop}(H:∃aN:Nat,au (h.room 8) r (0+0)=some (.int .i64 (.ofNat aN))/\∃al:J,(Y m) (.fn 41) [.ptr b (0+0),.int .i64 (.ofNat aN)] (h.room 8)=.ret (.aP []) al/\∃bz:Nat,au al r (0+0)=some (.int .i64 (.ofNat bz))/\(bz=6->∃s1:List UInt8,au (al.room 8) r (0+1)=some (.str s1)/\∃ar:J,(Y m) (.fn 38) [.ptr b (0+0),.str s1] (al.room 8)=.ret (.aP []) ar/\R (.ret (.aP []) ar))/\(¬bz=6->(bz=7->∃v1:I,au (al.room 9) r (0+2)=some v1/\∃cm:Nat,bO Tryz.prog (al.room 9) 48 v1=some (.int .i64 (.ofNat cm))/\∃aZ:J,(Y m) (.fn 41) [.ptr b (0+0),.int .i64 (.ofNat cm)] (al.room 9)=.ret (.aP []) aZ/\I.sound v1=true/\∃v2:I,au aZ r (0+2)=some v2/\∃cy:Nat,bO Tryz.prog aZ 48 v2=some (.int .i64 (.ofNat cy))/\bj Tryz.prog Tryz.f81 (Y m) [1,1,0,1,1,1,0,1,1,0] (ah.mk [(0,.ptr b 0),(1,.ptr r 0),(42,v2),(43,.int .i64 (.ofNat cy)),(44,.int .i64 (.ofNat 0))] [] .none aZ) (λcq cr=>∃cb:J,∃bl:Env,cq=.exit 1/\cr=ah.mk bl [] .none cb/\cg [] bl/\R (.ret (.aP []) cb)))/\(¬bz=7->(bz=8->∃dc:I,au al r (0+3)=some dc/\∃da:J,(Y m) (.fn 93) [.ptr b 0,dc,.fn 81 [.ptr b 0] []] al=.ret (.aP []) da/\∃v4:I,au da r (0+4)=some v4/\∃e2:J,(Y m) (.fn 81) [.ptr b 0,v4] da=.ret (.aP []) e2/\R (.ret (.aP []) e2))/\(¬bz=8->(bz=9->∃hH:I,au al r (0+3)=some hH/\∃hp:J,(Y m) (.fn 93) [.ptr b 0,hH,.fn 81 [.ptr b 0] []] al=.ret (.aP []) hp/\R (.ret (.aP []) hp))/\(¬bz=9->R (.ret (.aP []) al)))))):
  R (Y (m+1) (.fn 81) [.ptr b 0,.ptr r 0] h):=
 dp (intr:=bW) [(78,.b7 .o),(4001,.hD [0,1,42,43,44] [(.exit 1,[])])] [(0,.v (.ptr b 0)),(1,.v (.ptr r 0))] Tryz.func81 (by kernel_rfl) (by kernel_rfl) (by kernel_rfl) rfl (Eq.mp (by kernel_rfl) H)
theorem VE(call:aF->List I->J->ao)(b:Nat)(r:Nat)(a5:Nat)(cH:Nat)(c8:Nat)(i:Nat)(c1:ch)(h:J){Q:bw->ah->Prop}(H:(i<c8->i<c8/\∃s1:List UInt8,au h a5 (cH+i*1)=some (.str s1)/\∃al:J,call (.fn 38) [.ptr b (0+0),.str s1] h=.ret (.aP []) al/\∃aN:Nat,∃bz:Nat,∃cm:Nat,∃c2:ch,au al r (0+3)=some (.slice aN bz cm c2)/\i<cm/\∃cy:Nat,au al aN (bz+i*1)=some (.ptr cy 0)/\∃ar:J,call (.fn 81) [.ptr b 0,.ptr cy 0] al=.ret (.aP []) ar/\i+1<9223372036854775808/\Q .nrm (ah.mk [(0,.ptr b 0),(1,.ptr r 0),(42,.slice a5 cH c8 c1),(43,.int .i64 (.ofNat c8)),(44,.int .i64 (.ofNat (i+1)))] [] .none ar))/\(¬i<c8->Q (.exit 1) (ah.mk [(0,.ptr b 0),(1,.ptr r 0),(42,.slice a5 cH c8 c1),(43,.int .i64 (.ofNat c8)),(44,.int .i64 (.ofNat i))] [] .none h))):
  bj Tryz.prog Tryz.f81 call [1,1,0,1,1,1,0,1,1,0,0] ⟨[(0,.ptr b 0),(1,.ptr r 0),(42,.slice a5 cH c8 c1),(43,.int .i64 (.ofNat c8)),(44,.int .i64 (.ofNat i))],[],.none,h⟩ Q:=
 eu [(58,.b7 .fL)] [0,1,42,43,44] [(0,.v (.ptr b 0)),(1,.v (.ptr r 0)),(42,.v (.slice a5 cH c8 c1)),(43,.v (.int .i64 (.ofNat c8))),(44,.v (.int .i64 (.ofNat i)))] rfl (Eq.mp (by kernel_rfl) H)
theorem VF(call:aF->List I->J->ao)(b:Nat)(r:Nat)(N:Nat)(i:Nat)(v:I)(h:J){Q:bw->ah->Prop}(H:¬i<N/\Q (.exit 1) (ah.mk [] [] .none h)):
  bj Tryz.prog Tryz.f81 call [1,1,0,1,1,1,0,1,1,0,0] ⟨[(0,.ptr b 0),(1,.ptr r 0),(42,v),(43,.int .i64 (.ofNat N)),(44,.int .i64 (.ofNat i))],[],.none,h⟩ Q:=
 eu [(1045,.f)] [] [(0,.v (.ptr b 0)),(1,.v (.ptr r 0)),(42,.o v),(43,.v (.int .i64 (.ofNat N))),(44,.v (.int .i64 (.ofNat i)))] rfl (Eq.mp (by kernel_rfl) H)
theorem VG(m:Nat)(b:Nat)(v:I)(h:J){R:ao->Prop}(H:∃aN:Nat,bO Tryz.prog h 49 v=some (.int .i64 (.ofNat aN))/\∃al:J,(Y m) (.fn 41) [.ptr b (0+0),.int .i64 (.ofNat aN)] h=.ret (.aP []) al/\∃bz:Nat,bO Tryz.prog al 49 v=some (.int .i64 (.ofNat bz))/\bj Tryz.prog Tryz.f93 (Y m) [1,1,0] (ah.mk [(2,.fn 81 [.ptr b 0] []),(14,v),(15,.int .i64 (.ofNat bz)),(16,.int .i64 (.ofNat 0))] [] .none al) (λcq cr=>∃ar:J,∃bl:Env,cq=.exit 0/\cr=ah.mk bl [] .none ar/\cg [] bl/\R (.ret (.aP []) ar))):
  R (Y (m+1) (.fn 93) [.ptr b 0,v,.fn 81 [.ptr b 0] []] h):=
 dp (intr:=bW) [(4000,.hD [2,14,15,16] [(.exit 0,[])])] [(0,.v (.ptr b 0)),(1,.o v),(2,.v (.fn 81 [.ptr b 0] []))] Tryz.func93 (by kernel_rfl) (by kernel_rfl) (by kernel_rfl) rfl (Eq.mp (by kernel_rfl) H)
theorem VH(call:aF->List I->J->ao)(b:Nat)(a5:Nat)(cH:Nat)(c8:Nat)(i:Nat)(c1:ch)(h:J){Q:bw->ah->Prop}(H:(i<c8->i<c8/\∃aN:Nat,au h a5 (cH+i*1)=some (.ptr aN 0)/\∃al:J,call (.fn 81) [.ptr b 0,.ptr aN 0] h=.ret (.aP []) al/\i+1<9223372036854775808/\Q .nrm (ah.mk [(2,.fn 81 [.ptr b 0] []),(14,.slice a5 cH c8 c1),(15,.int .i64 (.ofNat c8)),(16,.int .i64 (.ofNat (i+1)))] [] .none al))/\(¬i<c8->Q (.exit 0) (ah.mk [(2,.fn 81 [.ptr b 0] []),(14,.slice a5 cH c8 c1),(15,.int .i64 (.ofNat c8)),(16,.int .i64 (.ofNat i))] [] .none h))):
  bj Tryz.prog Tryz.f93 call [1,1,0,0] ⟨[(2,.fn 81 [.ptr b 0] []),(14,.slice a5 cH c8 c1),(15,.int .i64 (.ofNat c8)),(16,.int .i64 (.ofNat i))],[],.none,h⟩ Q:=
 eu [] [2,14,15,16] [(2,.v (.fn 81 [.ptr b 0] [])),(14,.v (.slice a5 cH c8 c1)),(15,.v (.int .i64 (.ofNat c8))),(16,.v (.int .i64 (.ofNat i)))] rfl (Eq.mp (by kernel_rfl) H)
theorem VI(call:aF->List I->J->ao)(b:Nat)(N:Nat)(i:Nat)(v:I)(h:J){Q:bw->ah->Prop}(H:¬i<N/\Q (.exit 0) (ah.mk [] [] .none h)):
  bj Tryz.prog Tryz.f93 call [1,1,0,0] ⟨[(2,.fn 81 [.ptr b 0] []),(14,v),(15,.int .i64 (.ofNat N)),(16,.int .i64 (.ofNat i))],[],.none,h⟩ Q:=
 eu [(1017,.f)] [] [(2,.v (.fn 81 [.ptr b 0] [])),(14,.o v),(15,.v (.int .i64 (.ofNat N))),(16,.v (.int .i64 (.ofNat i)))] rfl (Eq.mp (by kernel_rfl) H)
theorem VJ(m:Nat)(b:Nat)(v:I)(h:J){R:ao->Prop}(H:∃aN:Nat,bO Tryz.prog h 22 v=some (.int .i64 (.ofNat aN))/\∃al:J,(Y m) (.fn 41) [.ptr b (0+0),.int .i64 (.ofNat aN)] h=.ret (.aP []) al/\∃bz:Nat,bO Tryz.prog al 22 v=some (.int .i64 (.ofNat bz))/\bj Tryz.prog Tryz.f65 (Y m) [1,1,0] (ah.mk [(2,.fn 66 [.ptr b 0] []),(14,v),(15,.int .i64 (.ofNat bz)),(16,.int .i64 (.ofNat 0))] [] .none al) (λcq cr=>∃ar:J,∃bl:Env,cq=.exit 0/\cr=ah.mk bl [] .none ar/\cg [] bl/\R (.ret (.aP []) ar))):
  R (Y (m+1) (.fn 65) [.ptr b 0,v,.fn 66 [.ptr b 0] []] h):=
 dp (intr:=bW) [(4000,.hD [2,14,15,16] [(.exit 0,[])])] [(0,.v (.ptr b 0)),(1,.o v),(2,.v (.fn 66 [.ptr b 0] []))] Tryz.func65 (by kernel_rfl) (by kernel_rfl) (by kernel_rfl) rfl (Eq.mp (by kernel_rfl) H)
theorem VK(call:aF->List I->J->ao)(b:Nat)(a5:Nat)(cH:Nat)(c8:Nat)(i:Nat)(c1:ch)(h:J){Q:bw->ah->Prop}(H:i<c8/\i<c8/\∃s1:List UInt8,∃v1:I,aB.loadCells h a5 (cH+i*2) 2=some [.str s1,v1]/\I.b0 v1=true/\∃al:J,aB.storeCells (J.push h (.cells [.str [],.bm] 53 .own 0 0)) h.n 0 [.str s1,v1]=some al/\∃s2:List UInt8,∃v2:I,aB.loadCells al h.n 0 2=some [.str s2,v2]/\∃ar:J,call (.fn 66) [.ptr b 0,.agg [.str s2,v2]] al=.ret (.aP []) ar/\i+1<9223372036854775808/\Q .nrm (ah.mk [(2,.fn 66 [.ptr b 0] []),(14,.slice a5 cH c8 c1),(15,.int .i64 (.ofNat c8)),(16,.int .i64 (.ofNat (i+1)))] [] .none ar)):
  bj Tryz.prog Tryz.f65 call [1,1,0,0] ⟨[(2,.fn 66 [.ptr b 0] []),(14,.slice a5 cH c8 c1),(15,.int .i64 (.ofNat c8)),(16,.int .i64 (.ofNat i))],[],.none,h⟩ Q:=
 eu [(1017,.t),(19,.b7 (.fM [.st,.o])),(21,.b7 (.fM [.st,.o]))] [2,14,15,16] [(2,.v (.fn 66 [.ptr b 0] [])),(14,.v (.slice a5 cH c8 c1)),(15,.v (.int .i64 (.ofNat c8))),(16,.v (.int .i64 (.ofNat i)))] rfl (Eq.mp (by kernel_rfl) H)
theorem VL(call:aF->List I->J->ao)(b:Nat)(N:Nat)(i:Nat)(v:I)(h:J){Q:bw->ah->Prop}(H:¬i<N/\Q (.exit 0) (ah.mk [] [] .none h)):
  bj Tryz.prog Tryz.f65 call [1,1,0,0] ⟨[(2,.fn 66 [.ptr b 0] []),(14,v),(15,.int .i64 (.ofNat N)),(16,.int .i64 (.ofNat i))],[],.none,h⟩ Q:=
 eu [(1017,.f)] [] [(2,.v (.fn 66 [.ptr b 0] [])),(14,.o v),(15,.v (.int .i64 (.ofNat N))),(16,.v (.int .i64 (.ofNat i)))] rfl (Eq.mp (by kernel_rfl) H)
theorem VM(m:Nat)(b:Nat)(n:List UInt8)(w:I)(h:J){R:ao->Prop}(H:I.b0 w=true/\∃s1:List UInt8,au (J.room (J.push h (.cells [.str n,w] 53 .own 0 0)) 6) h.n (0+0)=some (.str s1)/\∃al:J,(Y m) (.fn 38) [.ptr b (0+0),.str s1] (J.room (J.push h (.cells [.str n,w] 53 .own 0 0)) 6)=.ret (.aP []) al/\∃v1:I,au al h.n (0+1)=some v1/\∃ar:J,(Y m) (.fn 81) [.ptr b 0,v1] al=.ret (.aP []) ar/\R (.ret (.aP []) ar)):
  R (Y (m+1) (.fn 66) [.ptr b 0,.agg [.str n,w]] h):=
 dp (intr:=bW) [(12,.b7 .o)] [(0,.v (.ptr b 0)),(1,.fM [.v (.str n),.o w])] Tryz.func66 (by kernel_rfl) (by kernel_rfl) (by kernel_rfl) rfl (Eq.mp (by kernel_rfl) H)
theorem VN(m:Nat)(b:Nat)(p:List UInt8)(eh:Bool)(vv:I)(bR:I)(h:J){R:ao->Prop}(H:I.b0 vv=true/\I.b0 bR=true/\∃s1:List UInt8,au (J.room (J.push h (.cells [.str p,.bool eh,vv,bR] 24 .own 0 0)) 6) h.n (0+0)=some (.str s1)/\∃al:J,(Y m) (.fn 38) [.ptr b (0+0),.str s1] (J.room (J.push h (.cells [.str p,.bool eh,vv,bR] 24 .own 0 0)) 6)=.ret (.aP []) al/\∃a5:Bool,au al h.n (0+1)=some (.bool a5)/\(a5=true->∃ar:J,(Y m) (.fn 41) [.ptr b (0+0),.int .i64 (.ofNat 1)] al=.ret (.aP []) ar/\R (.ret (.aP []) ar))/\(a5=false->∃aZ:J,(Y m) (.fn 41) [.ptr b (0+0),.int .i64 (.ofNat 0)] al=.ret (.aP []) aZ/\∃v1:I,au aZ h.n (0+2)=some v1/\∃cb:J,(Y m) (.fn 65) [.ptr b 0,v1,.fn 66 [.ptr b 0] []] aZ=.ret (.aP []) cb/\∃v2:I,au cb h.n (0+3)=some v2/\∃da:J,(Y m) (.fn 65) [.ptr b 0,v2,.fn 66 [.ptr b 0] []] cb=.ret (.aP []) da/\R (.ret (.aP []) da))):
  R (Y (m+1) (.fn 42) [.ptr b 0,.agg [.str p,.bool eh,vv,bR]] h):=
 dp (intr:=bW) [] [(0,.v (.ptr b 0)),(1,.fM [.v (.str p),.v (.bool eh),.o vv,.o bR])] Tryz.func42 (by kernel_rfl) (by kernel_rfl) (by kernel_rfl) rfl (Eq.mp (by kernel_rfl) H)
theorem VO(m:Nat)(v:I)(h:J){R:ao->Prop}(H:∃aN:Nat,bO Tryz.prog h 22 v=some (.int .i64 (.ofNat aN))/\bj Tryz.prog Tryz.f56 (Y m) [1,1,0,1,0] (ah.mk [(3,.str []),(6,v),(7,.int .i64 (.ofNat aN)),(8,.int .i64 (.ofNat 0))] [] .none h) (λcq cr=>((∃al:J,∃bl:Env,cq=.exit 0/\cr=ah.mk bl [] .none al/\cg [] bl/\R (.ret (.bool true) al))\/(∃ar:J,∃bB:Env,cq=.ret/\cr=ah.mk bB [] .none ar/\cg [(2,.bool false)] bB/\R (.ret (.bool false) ar))))):
  R (Y (m+1) (.fn 56) [v] h):=
 dp (intr:=bW) [(4000,.hD [3,6,7,8] [(.exit 0,[]),(.ret,[(2,.is (.bool false))])])] [(0,.o v)] Tryz.func56 (by kernel_rfl) (by kernel_rfl) (by kernel_rfl) rfl (Eq.mp (by kernel_rfl) H)
theorem VP(call:aF->List I->J->ao)(a5:Nat)(cH:Nat)(c8:Nat)(i:Nat)(c1:ch)(l:List UInt8)(h:J){Q:bw->ah->Prop}(H:i<c8/\i<c8/\∃s1:List UInt8,∃v1:I,aB.loadCells h a5 (cH+i*2) 2=some [.str s1,v1]/\I.b0 v1=true/\∃al:J,aB.storeCells (J.push h (.cells [.str [],.bm] 53 .own 0 0)) h.n 0 [.str s1,v1]=some al/\∃s2:List UInt8,au al h.n (0+0)=some (.str s2)/\((!dB l s2)=true->Q .ret (ah.mk [(2,.bool false),(3,.str l),(6,.slice a5 cH c8 c1),(7,.int .i64 (.ofNat c8)),(8,.int .i64 (.ofNat i))] [] .none al))/\((!dB l s2)=false->∃bq:List UInt8,au al h.n (0+0)=some (.str bq)/\(24<List.length bq->Q .ret (ah.mk [(2,.bool false),(3,.str l),(6,.slice a5 cH c8 c1),(7,.int .i64 (.ofNat c8)),(8,.int .i64 (.ofNat i))] [] .none al))/\(¬24<List.length bq->∃v2:I,au al h.n (0+1)=some v2/\∃aN:Nat,∃ar:J,call (.fn 76) [v2] al=.ret (.int .i64 (.ofNat aN)) ar/\(aN=0->∃bL:List UInt8,au ar h.n (0+0)=some (.str bL)/\i+1<9223372036854775808/\Q .nrm (ah.mk [(3,.str bL),(6,.slice a5 cH c8 c1),(7,.int .i64 (.ofNat c8)),(8,.int .i64 (.ofNat (i+1)))] [] .none ar))/\(¬aN=0->Q .ret (ah.mk [(2,.bool false),(3,.str l),(6,.slice a5 cH c8 c1),(7,.int .i64 (.ofNat c8)),(8,.int .i64 (.ofNat i))] [] .none ar))))):
  bj Tryz.prog Tryz.f56 call [1,1,0,1,0,0] ⟨[(3,.str l),(6,.slice a5 cH c8 c1),(7,.int .i64 (.ofNat c8)),(8,.int .i64 (.ofNat i))],[],.none,h⟩ Q:=
 eu [(1009,.t),(11,.b7 (.fM [.st,.o])),(24,.b7 .o)] [2,3,6,7,8] [(3,.v (.str l)),(6,.v (.slice a5 cH c8 c1)),(7,.v (.int .i64 (.ofNat c8))),(8,.v (.int .i64 (.ofNat i)))] rfl (Eq.mp (by kernel_rfl) H)
theorem VQ(call:aF->List I->J->ao)(N:Nat)(i:Nat)(l:List UInt8)(v:I)(h:J){Q:bw->ah->Prop}(H:¬i<N/\Q (.exit 0) (ah.mk [] [] .none h)):
  bj Tryz.prog Tryz.f56 call [1,1,0,1,0,0] ⟨[(3,.str l),(6,v),(7,.int .i64 (.ofNat N)),(8,.int .i64 (.ofNat i))],[],.none,h⟩ Q:=
 eu [(1009,.f)] [] [(3,.v (.str l)),(6,.o v),(7,.v (.int .i64 (.ofNat N))),(8,.v (.int .i64 (.ofNat i)))] rfl (Eq.mp (by kernel_rfl) H)
theorem VR(m:Nat)(p:List UInt8)(eh:Bool)(vv:I)(bR:I)(h:J){R:ao->Prop}(H:I.b0 vv=true/\I.b0 bR=true/\∃v1:I,au (J.push h (.cells [.str p,.bool eh,vv,bR] 24 .own 0 0)) h.n (0+2)=some v1/\∃a5:Bool,∃al:J,(Y m) (.fn 56) [v1] (J.push h (.cells [.str p,.bool eh,vv,bR] 24 .own 0 0))=.ret (.bool a5) al/\(a5=true->∃v2:I,au al h.n (0+3)=some v2/\∃bt:Bool,∃ar:J,(Y m) (.fn 56) [v2] al=.ret (.bool bt) ar/\(bt=true->∃dP:Bool,au ar h.n (0+1)=some (.bool dP)/\(dP=true->∃dc:I,au ar h.n (0+2)=some dc/\∃aN:Nat,bO Tryz.prog ar 22 dc=some (.int .i64 (.ofNat aN))/\∃v4:I,au ar h.n (0+3)=some v4/\∃bz:Nat,bO Tryz.prog ar 22 v4=some (.int .i64 (.ofNat bz))/\aN+bz<9223372036854775808/\R (.ret (.bool (a0 (.ofNat (aN+bz)) (.ofNat 0))) ar))/\(dP=false->R (.ret (.bool true) ar)))/\(bt=false->R (.ret (.bool false) ar)))/\(a5=false->R (.ret (.bool false) al))):
  R (Y (m+1) (.fn 29) [.agg [.str p,.bool eh,vv,bR]] h):=
 dp (intr:=bW) [] [(0,.fM [.v (.str p),.v (.bool eh),.o vv,.o bR])] Tryz.func29 (by kernel_rfl) (by kernel_rfl) (by kernel_rfl) rfl (Eq.mp (by kernel_rfl) H)
theorem VS(m:Nat)(r:Nat)(s:List UInt8)(h:J){R:ao->Prop}(H:∃aN:Nat,au h r (0+0)=some (.int .i64 (.ofNat aN))/\∃bz:Nat,et Tryz.prog 3 65 (.int .i64 (.ofNat aN)) h=e5.val (.int .u64 (.ofNat bz)) h/\∃s1:List UInt8,∃al:J,(Y m) (.fn 44) [.str s,.int .u64 (.ofNat bz)] h=.ret (.str s1) al/\∃cm:Nat,au al r (0+0)=some (.int .i64 (.ofNat cm))/\(cm=6->∃s2:List UInt8,au al r (0+1)=some (.str s2)/\∃bq:List UInt8,∃ar:J,(Y m) (.fn 43) [.str s1,.str s2] al=.ret (.str bq) ar/\R (.ret (.str bq) ar))/\(¬cm=6->(cm=7->∃v1:I,au al r (0+3)=some v1/\∃cy:Nat,bO Tryz.prog al 49 v1=some (.int .i64 (.ofNat cy))/\∃c6:Nat,et Tryz.prog 3 65 (.int .i64 (.ofNat cy)) al=e5.val (.int .u64 (.ofNat c6)) al/\∃bL:List UInt8,∃aZ:J,(Y m) (.fn 44) [.str s1,.int .u64 (.ofNat c6)] al=.ret (.str bL) aZ/\bj Tryz.prog Tryz.f82 (Y m) [1,1,0,1,0,1,1,1,0,1,1,0] (ah.mk [(0,.str bL),(1,.ptr r 0),(5,.int .i64 (.ofNat 0))] [] .none aZ) (λcq cr=>∃cB:List UInt8,∃dr:Nat,∃cb:J,∃bl:Env,cq=.exit 1/\cr=ah.mk bl [] .none cb/\cg [(0,.str cB),(1,.ptr dr 0)] bl/\∃ev:Nat,au cb dr (0+0)=some (.int .i64 (.ofNat ev))/\(ev=8->∃v2:I,au cb dr (0+4)=some v2/\∃dN:List UInt8,∃da:J,(Y m) (.fn 82) [.str cB,v2] cb=.ret (.str dN) da/\R (.ret (.str dN) da))/\(¬ev=8->R (.ret (.str cB) cb))))/\(¬cm=7->(cm=8->∃dc:I,au al r (0+3)=some dc/\∃gS:Nat,bO Tryz.prog al 49 dc=some (.int .i64 (.ofNat gS))/\∃gH:Nat,et Tryz.prog 3 65 (.int .i64 (.ofNat gS)) al=e5.val (.int .u64 (.ofNat gH)) al/\∃eP:List UInt8,∃e2:J,(Y m) (.fn 44) [.str s1,.int .u64 (.ofNat gH)] al=.ret (.str eP) e2/\bj Tryz.prog Tryz.f82 (Y m) [1,1,0,1,0,1,1,1,0,1,1,0] (ah.mk [(0,.str eP),(1,.ptr r 0),(5,.int .i64 (.ofNat 0))] [] .none e2) (λcq cr=>∃u0:List UInt8,∃gr:Nat,∃hp:J,∃bB:Env,cq=.exit 1/\cr=ah.mk bB [] .none hp/\cg [(0,.str u0),(1,.ptr gr 0)] bB/\∃h8:Nat,au hp gr (0+0)=some (.int .i64 (.ofNat h8))/\(h8=8->∃v4:I,au hp gr (0+4)=some v4/\∃xv:List UInt8,∃kH:J,(Y m) (.fn 82) [.str u0,v4] hp=.ret (.str xv) kH/\R (.ret (.str xv) kH))/\(¬h8=8->R (.ret (.str u0) hp))))/\(¬cm=8->(cm=9->∃hH:I,au al r (0+3)=some hH/\∃j4:Nat,bO Tryz.prog al 49 hH=some (.int .i64 (.ofNat j4))/\∃jI:Nat,et Tryz.prog 3 65 (.int .i64 (.ofNat j4)) al=e5.val (.int .u64 (.ofNat jI)) al/\∃Ke:List UInt8,∃nO:J,(Y m) (.fn 44) [.str s1,.int .u64 (.ofNat jI)] al=.ret (.str Ke) nO/\bj Tryz.prog Tryz.f82 (Y m) [1,1,0,1,0,1,1,1,0,1,1,0] (ah.mk [(0,.str Ke),(1,.ptr r 0),(5,.int .i64 (.ofNat 0))] [] .none nO) (λcq cr=>∃Ee:List UInt8,∃lB:Nat,∃lF:J,∃de:Env,cq=.exit 1/\cr=ah.mk de [] .none lF/\cg [(0,.str Ee),(1,.ptr lB 0)] de/\∃kq:Nat,au lF lB (0+0)=some (.int .i64 (.ofNat kq))/\(kq=8->∃v6:I,au lF lB (0+4)=some v6/\∃Kf:List UInt8,∃rf:J,(Y m) (.fn 82) [.str Ee,v6] lF=.ret (.str Kf) rf/\R (.ret (.str Kf) rf))/\(¬kq=8->R (.ret (.str Ee) lF))))/\(¬cm=9->∃Ef:Nat,au al r (0+0)=some (.int .i64 (.ofNat Ef))/\(Ef=8->∃q_:I,au al r (0+4)=some q_/\∃Kg:List UInt8,∃xk:J,(Y m) (.fn 82) [.str s1,q_] al=.ret (.str Kg) xk/\R (.ret (.str Kg) xk))/\(¬Ef=8->R (.ret (.str s1) al))))))):
  R (Y (m+1) (.fn 82) [.str s,.ptr r 0] h):=
 dp (intr:=bW) [(78,.b7 .o),(4001,.hD [0,1,5] [(.exit 1,[(0,.st),(1,.p)])])] [(0,.v (.str s)),(1,.v (.ptr r 0))] Tryz.func82 (by kernel_rfl) (by kernel_rfl) (by kernel_rfl) rfl (Eq.mp (by kernel_rfl) H)
theorem VT(call:aF->List I->J->ao)(r:Nat)(i:Nat)(s:List UInt8)(h:J){Q:bw->ah->Prop}(H:∃aN:Nat,∃bz:Nat,∃cm:Nat,∃c1:ch,au h r (0+3)=some (.slice aN bz cm c1)/\i<cm/\∃cy:Nat,au h r (0+0)=some (.int .i64 (.ofNat cy))/\(cy=7->∃c6:Nat,∃dr:Nat,∃ev:Nat,∃c2:ch,au h r (0+2)=some (.slice c6 dr ev c2)/\i<ev/\∃s1:List UInt8,au h c6 (dr+i*1)=some (.str s1)/\∃s2:List UInt8,∃al:J,call (.fn 43) [.str s,.str s1] h=.ret (.str s2) al/\∃gS:Nat,∃gH:Nat,∃gr:Nat,∃c3:ch,au al r (0+3)=some (.slice gS gH gr c3)/\i<gr/\∃h8:Nat,au al gS (gH+i*1)=some (.ptr h8 0)/\∃bq:List UInt8,∃ar:J,call (.fn 82) [.str s2,.ptr h8 0] al=.ret (.str bq) ar/\i+1<9223372036854775808/\Q .nrm (ah.mk [(0,.str bq),(1,.ptr r 0),(5,.int .i64 (.ofNat (i+1)))] [] .none ar))/\(¬cy=7->∃j4:Nat,∃jI:Nat,∃lB:Nat,∃c4:ch,au h r (0+3)=some (.slice j4 jI lB c4)/\i<lB/\∃kq:Nat,au h j4 (jI+i*1)=some (.ptr kq 0)/\∃bL:List UInt8,∃aZ:J,call (.fn 82) [.str s,.ptr kq 0] h=.ret (.str bL) aZ/\i+1<9223372036854775808/\Q .nrm (ah.mk [(0,.str bL),(1,.ptr r 0),(5,.int .i64 (.ofNat (i+1)))] [] .none aZ))):
  bj Tryz.prog Tryz.f82 call [1,1,0,1,0,1,1,1,0,1,1,0,0] ⟨[(0,.str s),(1,.ptr r 0),(5,.int .i64 (.ofNat i))],[],.none,h⟩ Q:=
 eu [(1043,.t),(41,.b7 .fL),(55,.b7 .fL),(64,.b7 .fL)] [0,1,5] [(0,.v (.str s)),(1,.v (.ptr r 0)),(5,.v (.int .i64 (.ofNat i)))] rfl (Eq.mp (by kernel_rfl) H)
theorem VU(call:aF->List I->J->ao)(r:Nat)(i:Nat)(s:List UInt8)(h:J){Q:bw->ah->Prop}(H:∃v1:I,au h r (0+3)=some v1/\∃aN:Nat,bO Tryz.prog h 49 v1=some (.int .i64 (.ofNat aN))/\¬i<aN/\Q (.exit 1) (ah.mk [(0,.str s),(1,.ptr r 0)] [] .none h)):
  bj Tryz.prog Tryz.f82 call [1,1,0,1,0,1,1,1,0,1,1,0,0] ⟨[(0,.str s),(1,.ptr r 0),(5,.int .i64 (.ofNat i))],[],.none,h⟩ Q:=
 eu [(1043,.f)] [0,1] [(0,.v (.str s)),(1,.v (.ptr r 0)),(5,.v (.int .i64 (.ofNat i)))] rfl (Eq.mp (by kernel_rfl) H)
theorem VV(m:Nat)(s:List UInt8)(v:I)(h:J){R:ao->Prop}(H:∃aN:Nat,bO Tryz.prog h 22 v=some (.int .i64 (.ofNat aN))/\∃bz:Nat,et Tryz.prog 3 65 (.int .i64 (.ofNat aN)) h=e5.val (.int .u64 (.ofNat bz)) h/\∃s1:List UInt8,∃al:J,(Y m) (.fn 44) [.str s,.int .u64 (.ofNat bz)] h=.ret (.str s1) al/\bj Tryz.prog Tryz.f68 (Y m) [1,1,0,1,0] (ah.mk [(0,.str s1),(1,v),(5,.int .i64 (.ofNat 0))] [] .none al) (λcq cr=>∃s2:List UInt8,∃ar:J,∃bl:Env,cq=.exit 0/\cr=ah.mk bl [] .none ar/\cg [(0,.str s2)] bl/\R (.ret (.str s2) ar))):
  R (Y (m+1) (.fn 68) [.str s,v] h):=
 dp (intr:=bW) [(4000,.hD [0,1,5] [(.exit 0,[(0,.st)])])] [(0,.v (.str s)),(1,.o v)] Tryz.func68 (by kernel_rfl) (by kernel_rfl) (by kernel_rfl) rfl (Eq.mp (by kernel_rfl) H)
theorem VW(call:aF->List I->J->ao)(a5:Nat)(cH:Nat)(c8:Nat)(i:Nat)(c1:ch)(s:List UInt8)(h:J){Q:bw->ah->Prop}(H:i<c8/\i<c8/\∃s1:List UInt8,au (h.room 14) a5 (cH+i*2+0)=some (.str s1)/\∃s2:List UInt8,∃al:J,call (.fn 43) [.str s,.str s1] (h.room 14)=.ret (.str s2) al/\i<c8/\∃v1:I,au al a5 (cH+i*2+1)=some v1/\∃bq:List UInt8,∃ar:J,call (.fn 82) [.str s2,v1] al=.ret (.str bq) ar/\I.sound v1=true/\au (h.room 14) a5 (cH+i*2+1)=some v1/\i+1<9223372036854775808/\Q .nrm (ah.mk [(0,.str bq),(1,.slice a5 cH c8 c1),(5,.int .i64 (.ofNat (i+1)))] [] .none ar)):
  bj Tryz.prog Tryz.f68 call [1,1,0,1,0,0] ⟨[(0,.str s),(1,.slice a5 cH c8 c1),(5,.int .i64 (.ofNat i))],[],.none,h⟩ Q:=
 eu [(1014,.t),(28,.b7 .o)] [0,1,5] [(0,.v (.str s)),(1,.v (.slice a5 cH c8 c1)),(5,.v (.int .i64 (.ofNat i)))] rfl (Eq.mp (by kernel_rfl) H)
theorem VX(call:aF->List I->J->ao)(i:Nat)(v:I)(s:List UInt8)(h:J){Q:bw->ah->Prop}(H:∃aN:Nat,bO Tryz.prog h 22 v=some (.int .i64 (.ofNat aN))/\¬i<aN/\Q (.exit 0) (ah.mk [(0,.str s)] [] .none h)):
  bj Tryz.prog Tryz.f68 call [1,1,0,1,0,0] ⟨[(0,.str s),(1,v),(5,.int .i64 (.ofNat i))],[],.none,h⟩ Q:=
 eu [(1014,.f)] [0] [(0,.v (.str s)),(1,.o v),(5,.v (.int .i64 (.ofNat i)))] rfl (Eq.mp (by kernel_rfl) H)
theorem VY(m:Nat)(s:List UInt8)(p:List UInt8)(eh:Bool)(vv:I)(bR:I)(h:J){R:ao->Prop}(H:I.b0 vv=true/\I.b0 bR=true/\∃s1:List UInt8,au (J.push h (.cells [.str p,.bool eh,vv,bR] 24 .own 0 0)) h.n (0+0)=some (.str s1)/\∃s2:List UInt8,∃al:J,(Y m) (.fn 43) [.str s,.str s1] (J.push h (.cells [.str p,.bool eh,vv,bR] 24 .own 0 0))=.ret (.str s2) al/\∃a5:Bool,au al h.n (0+1)=some (.bool a5)/\(a5=true->∃bq:List UInt8,∃ar:J,(Y m) (.fn 44) [.str s2,.int .u64 (.ofNat 1)] al=.ret (.str bq) ar/\R (.ret (.str bq) ar))/\(a5=false->∃bL:List UInt8,∃aZ:J,(Y m) (.fn 44) [.str s2,.int .u64 (.ofNat 0)] (al.room 9)=.ret (.str bL) aZ/\∃v1:I,au aZ h.n (0+2)=some v1/\∃cB:List UInt8,∃cb:J,(Y m) (.fn 68) [.str bL,v1] aZ=.ret (.str cB) cb/\∃v2:I,au cb h.n (0+3)=some v2/\∃dN:List UInt8,∃da:J,(Y m) (.fn 68) [.str cB,v2] cb=.ret (.str dN) da/\I.sound v1=true/\au (al.room 9) h.n (0+2)=some v1/\I.sound v2=true/\au aZ h.n (0+3)=some v2/\au (al.room 9) h.n (0+3)=some v2/\R (.ret (.str dN) da))):
  R (Y (m+1) (.fn 45) [.str s,.agg [.str p,.bool eh,vv,bR]] h):=
 dp (intr:=bW) [] [(0,.v (.str s)),(1,.fM [.v (.str p),.v (.bool eh),.o vv,.o bR])] Tryz.func45 (by kernel_rfl) (by kernel_rfl) (by kernel_rfl) rfl (Eq.mp (by kernel_rfl) H)
theorem VZ(m:Nat)(s:List UInt8)(h:J){R:ao->Prop}(H:(1<=List.length s->R (.ret (.bool (dv (.ofNat (List.length s)) (.ofNat 24))) h))/\(¬1<=List.length s->R (.ret (.bool false) h))):
  R (Y (m+1) (.fn 77) [.str s] h):=
 dp (intr:=bW) [] [(0,.v (.str s))] Tryz.func77 (by kernel_rfl) (by kernel_rfl) (by kernel_rfl) rfl (Eq.mp (by kernel_rfl) H)
theorem V0(m:Nat)(v:I)(h:J){R:ao->Prop}(H:bj Tryz.prog Tryz.f61 (Y m) [1,0,1,0] (ah.mk [(0,v),(3,.int .i64 (.ofNat 0))] [] .none h) (λcq cr=>((∃al:J,∃bl:Env,cq=.exit 0/\cr=ah.mk bl [] .none al/\cg [] bl/\R (.ret (.bool true) al))\/(∃ar:J,∃bB:Env,cq=.ret/\cr=ah.mk bB [] .none ar/\cg [(2,.bool false)] bB/\R (.ret (.bool false) ar))))):
  R (Y (m+1) (.fn 61) [v] h):=
 dp (intr:=bW) [(4000,.hD [0,3] [(.exit 0,[]),(.ret,[(2,.is (.bool false))])])] [(0,.o v)] Tryz.func61 (by kernel_rfl) (by kernel_rfl) (by kernel_rfl) rfl (Eq.mp (by kernel_rfl) H)
theorem V1(call:aF->List I->J->ao)(a5:Nat)(cH:Nat)(c8:Nat)(i:Nat)(c1:ch)(h:J){Q:bw->ah->Prop}(H:i<c8/\i<c8/\∃s1:List UInt8,au (h.room 34) a5 (cH+i*2+0)=some (.str s1)/\∃bt:Bool,∃al:J,call (.fn 77) [.str s1] (h.room 34)=.ret (.bool bt) al/\(bt=true->(0<i->i<c8/\∃s2:List UInt8,au al a5 (cH+i*2+0)=some (.str s2)/\(1<=i/\i<9223372036854775808)/\i-1<c8/\∃bq:List UInt8,au al a5 (cH+(i-1)*2+0)=some (.str bq)/\((!dB bq s2)=true->Q .ret (ah.mk [(0,.slice a5 cH c8 c1),(2,.bool false),(3,.int .i64 (.ofNat i))] [] .none al))/\((!dB bq s2)=false->i<c8/\∃v1:I,au al a5 (cH+i*2+1)=some v1/\∃aN:Nat,∃ar:J,call (.fn 78) [v1] al=.ret (.int .i64 (.ofNat aN)) ar/\I.sound v1=true/\(aN=0->i+1<9223372036854775808/\Q .nrm (ah.mk [(0,.slice a5 cH c8 c1),(3,.int .i64 (.ofNat (i+1)))] [] .none ar))/\(¬aN=0->Q .ret (ah.mk [(0,.slice a5 cH c8 c1),(2,.bool false),(3,.int .i64 (.ofNat i))] [] .none ar))))/\(¬0<i->i<c8/\∃v2:I,au al a5 (cH+i*2+1)=some v2/\∃bz:Nat,∃aZ:J,call (.fn 78) [v2] al=.ret (.int .i64 (.ofNat bz)) aZ/\I.sound v2=true/\(bz=0->i+1<9223372036854775808/\Q .nrm (ah.mk [(0,.slice a5 cH c8 c1),(3,.int .i64 (.ofNat (i+1)))] [] .none aZ))/\(¬bz=0->Q .ret (ah.mk [(0,.slice a5 cH c8 c1),(2,.bool false),(3,.int .i64 (.ofNat i))] [] .none aZ))))/\(bt=false->Q .ret (ah.mk [(0,.slice a5 cH c8 c1),(2,.bool false),(3,.int .i64 (.ofNat i))] [] .none al))):
  bj Tryz.prog Tryz.f61 call [1,0,1,0,0] ⟨[(0,.slice a5 cH c8 c1),(3,.int .i64 (.ofNat i))],[],.none,h⟩ Q:=
 eu [(1007,.t),(40,.b7 .o)] [0,2,3] [(0,.v (.slice a5 cH c8 c1)),(3,.v (.int .i64 (.ofNat i)))] rfl (Eq.mp (by kernel_rfl) H)
theorem V2(call:aF->List I->J->ao)(i:Nat)(v:I)(h:J){Q:bw->ah->Prop}(H:∃aN:Nat,bO Tryz.prog h 22 v=some (.int .i64 (.ofNat aN))/\¬i<aN/\Q (.exit 0) (ah.mk [] [] .none h)):
  bj Tryz.prog Tryz.f61 call [1,0,1,0,0] ⟨[(0,v),(3,.int .i64 (.ofNat i))],[],.none,h⟩ Q:=
 eu [(1007,.f)] [] [(0,.o v),(3,.v (.int .i64 (.ofNat i)))] rfl (Eq.mp (by kernel_rfl) H)
theorem V3(m:Nat)(p:List UInt8)(eh:Bool)(vv:I)(bR:I)(h:J){R:ao->Prop}(H:I.b0 vv=true/\I.b0 bR=true/\∃v1:I,au (J.push h (.cells [.str p,.bool eh,vv,bR] 24 .own 0 0)) h.n (0+2)=some v1/\∃a5:Bool,∃al:J,(Y m) (.fn 61) [v1] (J.push h (.cells [.str p,.bool eh,vv,bR] 24 .own 0 0))=.ret (.bool a5) al/\(a5=true->∃v2:I,au al h.n (0+3)=some v2/\∃bt:Bool,∃ar:J,(Y m) (.fn 61) [v2] al=.ret (.bool bt) ar/\(bt=true->∃dP:Bool,au ar h.n (0+1)=some (.bool dP)/\(dP=true->∃dc:I,au ar h.n (0+2)=some dc/\∃aN:Nat,bO Tryz.prog ar 22 dc=some (.int .i64 (.ofNat aN))/\(aN=0->∃v4:I,au ar h.n (0+3)=some v4/\∃bz:Nat,bO Tryz.prog ar 22 v4=some (.int .i64 (.ofNat bz))/\R (.ret (.bool (a0 (.ofNat bz) (.ofNat 0))) ar))/\(¬aN=0->R (.ret (.bool false) ar)))/\(dP=false->R (.ret (.bool true) ar)))/\(bt=false->R (.ret (.bool false) ar)))/\(a5=false->R (.ret (.bool false) al))):
  R (Y (m+1) (.fn 34) [.agg [.str p,.bool eh,vv,bR]] h):=
 dp (intr:=bW) [] [(0,.fM [.v (.str p),.v (.bool eh),.o vv,.o bR])] Tryz.func34 (by kernel_rfl) (by kernel_rfl) (by kernel_rfl) rfl (Eq.mp (by kernel_rfl) H)
def lG(aJ ws:List aO):List aO:=List.zipWith (λn w=>cV n++w) aJ ws
def kt(k:Nat)(bK:aO)(aJ ws:List aO)(r:aO):aO:=
 if k=6 then cV bK else if k=7 then ct aJ.length++(lG aJ ws).flatten else if k=8 then ct ws.length++ws.flatten++r else if k=9 then ct ws.length++ws.flatten else[]
mutual
def jL:a6->aO
 |.mk k bK aJ xs rt=>ct k++kt k bK aJ (dA xs) (g4 rt)
def dA:List a6->List aO
 |[]=>[]
 |t::bJ=>jL t::dA bJ
def g4:Option a6->aO
 |none=>[]
 |some t=>jL t
end
theorem Ah:∀l:List a6,(dA l).length=l.length
 |[]=>by rw[dA];rfl
 |x::l=>by rw[dA];simp[Ah l]
theorem xw:∀(l:List a6) (i:Nat) (h:i<l.length) (an:i<(dA l).length),(dA l)[i]=jL l[i]
 |[],i,h,_=>by simp at h
 |x::l,0,_,_=>by simp only[dA];rfl
 |x::l,i+1,h,an=>by
  have:=xw l i (by simpa using h) (by rw[Ah];simpa using h)
  simpa only[dA,List.getElem_cons_succ] using this
theorem Kh(k:Nat)(bK:aO)(aJ:List aO)(xs:List a6)(rt:Option a6):jL (.mk k bK aJ xs rt)=ct k++kt k bK aJ (dA xs) (g4 rt):=by rw[jL]
theorem te(l:List aO){i:Nat}(h:i<l.length):(l.take (i+1)).flatten=(l.take i).flatten++l[i]:=by
 rw[List.take_succ_eq_append_getElem h,List.flatten_append];simp
theorem tf(l:List aO)(i:Nat):(l.take i).flatten.length<=l.flatten.length:=by
 conv=>rhs;rw[<-List.take_append_drop i l]
 rw[List.flatten_append,List.length_append];omega
mutual
def mh:a6->Bool
 |.mk k bK aJ xs rt=>decide (k<=9)&&(decide (k≠7)||decide (xs.length=aJ.length))&&(decide (k≠8)||rt.isSome)&&tg xs&&u1 rt
def tg:List a6->Bool
 |[]=>true
 |t::bJ=>mh t&&tg bJ
def u1:Option a6->Bool
 |none=>true
 |some t=>mh t
end
mutual
theorem Eg:∀t:a6,okW t=true->mh t=true
 |.mk k bK aJ xs rt,h=>by
  rw[okW] at h
  rw[mh]
  simp only[Bool.and_eq_true,decide_eq_true_eq] at h⊢
  obtain⟨⟨⟨⟨⟨_,aa⟩,ad⟩,aw⟩,aQ⟩,bS⟩:=h
  exact⟨⟨⟨⟨aa,ad⟩,aw⟩,Ki xs aQ⟩,V4 rt bS⟩
theorem Ki:∀l:List a6,pA l=true->tg l=true
 |[],_=>by rw[tg]
 |t::l,h=>by
  rw[pA,Bool.and_eq_true] at h
  rw[tg,Eg t h.1,Ki l h.2];rfl
theorem V4:∀o:Option a6,sY o=true->u1 o=true
 |none,_=>by rw[u1]
 |some t,h=>by
  rw[sY] at h
  rw[u1];exact Eg t h
end
theorem Ai{t:a6}:∀{l:List a6},tg l=true->t∈l->mh t=true
 |[],_,h=>by cases h
 |x::l,aq,h=>by
  rw[tg,Bool.and_eq_true] at aq
  rcases List.mem_cons.1 h with rfl|h
  · exact aq.1
  · exact Ai aq.2 h
def g5(b:Nat)(h:J)(s:aO):Prop:=b<h.n/\h.get b=some (.cells [.str s] 83 .own 0 0)
theorem g5.ext{b:Nat}{h g:J}{s:aO}(aq:g5 b h s)(e:Ext h.n h g):g5 b g s:=⟨Nat.lt_of_lt_of_le aq.1 e.n,(e.get b aq.1).trans aq.2⟩
def m8(b:Nat)(h:J)(s:aO)(x:ao):Prop:=∃g,x=.ret (.aP []) g/\g5 b g s/\eJ b h.n h g
theorem Aj(n:Nat)(aI:n<9223372036854775808)(h:J):et Tryz.prog 3 65 (.int .i64 (Int.ofNat n)) h=.val (.int .u64 (Int.ofNat n)) h:=dg.Ac n aI h
theorem pQ(m b n:Nat)(s:aO)(h:J)(aq:g5 b h s)(aI:n<=1000000000)(hs:s.length<=1000000000):m8 b h (s++ct n) (Y (m+5) (.fn 41) [.ptr b 0,.int .i64 (Int.ofNat n)] h):=by
 obtain⟨g,c,x⟩:=dg.Kb m n s h (by omega) hs
 have qk:=(x.get b aq.1).trans aq.2
 refine VB (m+4) b n h ⟨s,aL aq.2 rfl,_,Aj n (by omega) h,_,g,c,_,iE qk rfl rfl,_,rfl,⟨Nat.lt_of_lt_of_le aq.1 x.n,iW rfl⟩,(x.mX b).trans (Nat.le_refl _) (eJ.set _)⟩
theorem th(m b:Nat)(s t:aO)(h:J)(aq:g5 b h s)(hs:s.length<=100000000)(aU:t.length<=100000000):m8 b h (s++cV t) (Y (m+6) (.fn 38) [.ptr b 0,.str t] h):=by
 obtain⟨g,c,x⟩:=dg.VA m s t h hs aU
 have qk:=(x.get b aq.1).trans aq.2
 refine VC (m+5) b t h ⟨s,aL aq.2 rfl,_,g,c,_,iE qk rfl rfl,_,rfl,⟨Nat.lt_of_lt_of_le aq.1 x.n,iW rfl⟩,(x.mX b).trans (Nat.le_refl _) (eJ.set _)⟩
theorem _root_.aB.eJ.tail{b:Nat}{h g k:J}(e:eJ b h.n h g)(cR:eJ b g.n g k):eJ b h.n h k:=e.trans e.n cR
theorem _root_.aB.eJ.xx{b:Nat}{h g:J}(n:Nat)(e:eJ b h.n h g):eJ b h.n h (g.room n):=e.trans e.n ((Ext.room _ g n).mX b)
theorem g5.room{b:Nat}{h:J}{s:aO}(n:Nat)(aq:g5 b h s):g5 b (h.room n) s:=⟨by simp;exact Nat.lt_of_lt_of_le aq.1 (by omega),aq.2⟩
theorem below{b B:Nat}{h g:J}(af:B<=b)(UG:B<=h.n)(e:eJ b h.n h g):Ext B h g:=⟨e.n,λd aA=>e.get d (by omega) (by omega)⟩
theorem Kj(m:Nat){b B:Nat}{h0:J}{v:I}{vs:List I}(ws:List aO)(af:B<=b)(aC:c7 B h0 v vs)(hlen:vs.length<=90000)(hZ:ws.length=vs.length)(ij:∀i (ae:i<vs.length),∃z,vs[i]=.ptr z 0)
  (pb:∀i (ae:i<vs.length) x s,g5 b x s->Ext B h0 x->s.length+(wn ws i).length<=1000000->m8 b x (s++wn ws i) (Y (m+5) (.fn 81) [.ptr b 0,vs[i]] x))
  {x:J}{s:aO}(ab:g5 b x s)(dt:Ext B h0 x)(aq:s.length+(ct ws.length++ws.flatten).length<=1000000):
  m8 b x (s++(ct ws.length++ws.flatten)) (Y (m+6) (.fn 93) [.ptr b 0,v,.fn 81 [.ptr b 0] []] x):=by
 have c_:∀g,Ext B h0 g->bO Tryz.prog g 49 v=some (.int .i64 (Int.ofNat vs.length)):=λg x=>(aC.b6 (e3.ext x (Nat.le_refl _))).len (t:=49) (e:=47) (by kernel_rfl)
 simp only[List.length_append] at aq
 obtain⟨al,c1,bl,a8⟩:=pQ m b vs.length s x ab (by omega) (by omega)
 have ax:=dt.trans (Nat.le_refl _) (below af (Nat.le_trans af (Nat.le_of_lt ab.1)) a8)
 refine VG (m+5) b v x ⟨_,c_ x dt,al,c1,_,c_ al ax,?_⟩
 refine bj.loop (by kernel_rfl) (λk st=>∃i y Γ,st=⟨Γ,[],.none,y⟩/\cg [(2,.fn 81 [.ptr b 0] []),(14,v),(15,.int .i64 (Int.ofNat vs.length)),(16,.int .i64 (Int.ofNat i))] Γ/\vs.length-i=k/\i<=vs.length/\g5 b y (s++(ct ws.length++(ws.take i).flatten))/\eJ b x.n x y) ?_ vs.length _ (by omega) ⟨0,al,_,rfl,⟨rfl,rfl,rfl,rfl,trivial⟩,by omega,by omega,by simpa[hZ] using bl,a8⟩
 rintro k st ⟨i,y,Γ,rfl,cJ,av,ae,a2,hK⟩
 have dH:=dt.trans (Nat.le_refl _) (below af (Nat.le_trans af (Nat.le_of_lt ab.1)) hK)
 rcases aC with⟨rfl,rfl⟩|⟨dT,off,aH,rfl,j6,fA,a_,aA⟩
 · have hw:ws=[]:=List.eq_nil_of_length_eq_zero hZ
   subst hw
   exact bj.pre (VI (Y (m+5)) b _ i .bf y ⟨by simp,y,_,rfl,rfl,trivial,y,rfl,by simpa using a2,hK⟩) cJ rfl rfl rfl
 · refine bj.pre (VH (Y (m+5)) b dT off _ i aH y ⟨λaa=>?_,λaa=>?_⟩) cJ rfl rfl rfl
   · have ad:i<ws.length:=by omega
     obtain⟨z,a4⟩:=ij i aa
     have t1:=tf ws (i+1)
     have t2:=te ws ad
     rw[t2] at t1
     simp only[List.length_append] at t1
     have xe:wn ws i=ws[i]:=by simp[wn,ad]
     have V5:=pb i aa y _ a2 dH (by rw[xe,List.length_append,List.length_append];omega)
     obtain⟨ar,c2,bB,bu⟩:=V5
     rw[a4] at c2
     refine⟨aa,z,(gg dH j6 (fA i aa)).trans (by rw[a4]),ar,c2,by omega,_,(by show vs.length-(i+1)<k;omega),i+1,ar,_,rfl,⟨rfl,rfl,rfl,rfl,trivial⟩,rfl,by omega,?_,hK.tail bu⟩
     rw[t2]
     simpa[wn,ad,List.append_assoc] using bB
   · refine⟨y,_,rfl,rfl,trivial,y,rfl,?_,hK⟩
     rw[List.take_of_length_le (by omega)] at a2
     exact a2
end Go.Proofs.dQ
namespace Go.Proofs.dQ
open Go aB Go.Proofs df Go.Proofs.cD
open Go.Proofs.dg (cV)
open Go.Proofs.gI (ct)
set_option maxRecDepth 100000
set_option maxHeartbeats 1000000
theorem u2(t:aO):t.length<=(cV t).length:=by simp[dg.cV]
theorem Kk(aJ ws:List aO)(h:aJ.length=ws.length):(lG aJ ws).length=aJ.length:=by unfold lG;rw[List.length_zipWith];omega
theorem Kl{aJ ws:List aO}{i:Nat}(ae:i<(lG aJ ws).length)(aa:i<aJ.length)(ad:i<ws.length):(lG aJ ws)[i]=cV aJ[i]++ws[i]:=List.getElem_zipWith (f:=λn w=>cV n++w) (h:=ae)
theorem g5.below{b B:Nat}{h0 x y:J}{s:aO}(af:B<=b)(ab:g5 b x s)(dt:Ext B h0 x)(hK:eJ b x.n x y):Ext B h0 y:=dt.trans (Nat.le_refl _) (dQ.below af (Nat.le_trans af (Nat.le_of_lt ab.1)) hK)
theorem cW.xy{B:Nat}{h:J}:∀{t:a6} {v:I},cW B h t v->∃R,v=.ptr R 0
 |.mk c9 dJ gA iZ km,v,aU=>by obtain⟨R,_,_,_,_,_,_,_,rfl,_⟩:=aU;exact⟨R,rfl⟩
theorem Km:∀(K:Nat) (t:a6),sz t<=K->mh t=true->sz t<=90000->iH t<=90000->∀(m b B:Nat) (h0:J) (v:I),B<=b->2*sz t+8<=m->cW B h0 t v->∀(x:J) (s:aO),g5 b x s->Ext B h0 x->s.length+(jL t).length<=1000000->m8 b x (s++jL t) (Y m (.fn 81) [.ptr b 0,v] x)
 |0,t,du,_,_,_,_,_,_,_,_,_,_,_,_,_,_,_,_=>by
  have:=py t
  omega
 |K+1,.mk k bK aJ xs rt,du,di,fX,lg,m,b,B,h0,v,af,hm,aC,x,s,ab,dt,aq=>by
  obtain⟨R,c5,bZ,cG,vs,bV,bk,up,rfl,ad,aw,aQ,bS,dm,eG⟩:=aC
  rw[mh] at di
  simp only[Bool.and_eq_true,Bool.or_eq_true,decide_eq_true_eq] at di
  obtain⟨⟨⟨⟨jb,gR⟩,jd⟩,pF⟩,pG⟩:=di
  rw[q3] at du fX hm
  rw[iH] at lg
  rw[Kh] at aq⊢
  obtain⟨m,rfl⟩:∃j,m=j+7:=⟨m-7,by omega⟩
  have gM:=dq.len dm
  have jS:=pz xs
  have hZ:=Ah xs
  have s3:(aJ.map I.str).length=aJ.length:=List.length_map _
  have bd:∀(u:a6),sz u<=K->mh u=true->sz u<=90000->iH u<=90000->∀(m b B:Nat) (h0:J) (v:I),B<=b->2*sz u+8<=m->cW B h0 u v->∀(x:J) (s:aO),g5 b x s->Ext B h0 x->s.length+(jL u).length<=1000000->m8 b x (s++jL u) (Y m (.fn 81) [.ptr b 0,v] x):=Km K
  have fc:∀y,Ext B h0 y->y.get R=some (.cells [.int .i64 (Int.ofNat k),.str bK,c5,bZ,cG] 51 bV bk up):=λy e=>(e.get R ad).trans aw
  have xi:∀g,Ext B h0 g->bO Tryz.prog g 48 c5=some (.int .i64 (Int.ofNat aJ.length)):=λg x=>by
   rw[<-s3];exact(aQ.b6 (e3.ext x (Nat.le_refl _))).len (t:=48) (e:=9) (by kernel_rfl)
  have item:∀i (ae:i<vs.length) y s,g5 b y s->Ext B h0 y->s.length+(wn (dA xs) i).length<=1000000->m8 b y (s++wn (dA xs) i) (Y (m+5) (.fn 81) [.ptr b 0,vs[i]] y):=λi ae y s a2 dH aq=>by
   have i2:i<xs.length:=by omega
   have a4:=kR (List.getElem_mem i2)
   have aI:=uC (List.getElem_mem i2)
   rw[show wn (dA xs) i=jL xs[i] by simp[wn,hZ,i2,xw xs i i2]] at aq⊢
   exact bd xs[i] (by omega) (Ai pF (List.getElem_mem i2)) (by omega) (by omega) (m+5) b B h0 vs[i] af (by omega) (dq.get dm i ae i2) y s a2 dH aq
  simp only[List.length_append] at aq
  have mi:Ext B h0 (x.room 8):=dt.trans (Nat.le_refl _) (Ext.room B x 8)
  obtain⟨al,c1,bl,a8⟩:=pQ (m+1) b k s (x.room 8) (ab.room 8) (by omega) (by omega)
  have re:eJ b x.n x (x.room 8):=(eJ.refl b x.n x).xx 8
  have hn:eJ b x.n x al:=re.trans (Nat.le_trans ab.1 (Nat.le_refl _)|> λ_=>by simp) a8
  have ax:=ab.below af dt hn
  refine VD (m+6) b R x ⟨k,aL (fc _ mi) rfl,al,c1,k,aL (fc _ ax) rfl,λfC=>?_,λfC=>⟨λe6=>?_,λe6=>⟨λgj=>?_,λgj=>⟨λgW=>?_,λgW=>?_⟩⟩⟩⟩
  · subst fC
    have ai:kt 6 bK aJ (dA xs) (g4 rt)=cV bK:=rfl
    rw[ai] at aq⊢
    have:=u2 bK
    have ti:=ax.trans (Nat.le_refl _) (Ext.room B al 8)
    obtain⟨ar,c2,bB,bu⟩:=th m b (s++ct 6) bK (al.room 8) (bl.room 8) (by rw[List.length_append];omega) (by omega)
    exact⟨bK,aL (fc _ ti) rfl,ar,c2,ar,rfl,by rw[<-List.append_assoc];exact bB,(hn.xx 8).trans (hn.xx 8).n bu⟩
  · subst e6
    have sc:xs.length=aJ.length:=by rcases gR with gR|gR;exact absurd rfl gR;exact gR
    have ai:kt 7 bK aJ (dA xs) (g4 rt)=ct aJ.length++(lG aJ (dA xs)).flatten:=rfl
    rw[ai] at aq⊢
    simp only[List.length_append] at aq
    have ti:=ax.trans (Nat.le_refl _) (Ext.room B al 9)
    have mG:=Kk aJ (dA xs) (by omega)
    obtain⟨ar,c2,bB,bu⟩:=pQ (m+1) b aJ.length (s++ct 7) (al.room 9) (bl.room 9) (by omega) (by rw[List.length_append];omega)
    have lH:eJ b x.n x ar:=(hn.xx 9).trans (hn.xx 9).n bu
    have ay:=ab.below af dt lH
    refine⟨c5,aL (fc _ ti) rfl,_,xi _ ti,ar,c2,aQ.snd,c5,aL (fc _ ay) rfl,_,xi _ ay,?_⟩
    refine bj.loop (by kernel_rfl) (λt st=>∃i y Γ,st=⟨Γ,[],.none,y⟩/\cg [(0,.ptr b 0),(1,.ptr R 0),(42,c5),(43,.int .i64 (Int.ofNat aJ.length)),(44,.int .i64 (Int.ofNat i))] Γ/\aJ.length-i=t/\i<=aJ.length/\g5 b y (s++ct 7++ct aJ.length++((lG aJ (dA xs)).take i).flatten)/\eJ b x.n x y) ?_ aJ.length _ (by omega) ⟨0,ar,_,rfl,⟨rfl,rfl,rfl,rfl,rfl,trivial⟩,by omega,by omega,by simpa using bB,lH⟩
    rintro t st ⟨i,y,Γ,rfl,cJ,aU,ae,a2,hK⟩
    have dH:=ab.below af dt hK
    have Kn:i=aJ.length->g5 b y (s++(ct 7++(ct aJ.length++(lG aJ (dA xs)).flatten))):=λe=>by
     rw[List.take_of_length_le (by omega)] at a2
     simpa only[List.append_assoc] using a2
    rcases aQ.strs with⟨rfl,rfl⟩|⟨a5,cH,Eh,rfl,hr,Ei⟩
    · exact bj.pre (VF (Y (m+6)) b R _ i .bf y ⟨by simp,y,_,rfl,rfl,trivial,y,rfl,Kn (by simp at ae;simp[ae]),hK⟩) cJ rfl rfl rfl
    · refine bj.pre (VE (Y (m+6)) b R a5 cH _ i Eh y ⟨λaa=>?_,λaa=>?_⟩) cJ rfl rfl rfl
      · have i2:i<(dA xs).length:=by omega
        have i3:i<(lG aJ (dA xs)).length:=by omega
        have i4:i<vs.length:=by omega
        have t1:=tf (lG aJ (dA xs)) (i+1)
        have t2:=te (lG aJ (dA xs)) i3
        have t3:=Kl i3 aa i2
        have xe:wn (dA xs) i=(dA xs)[i]:=by simp[wn,i2]
        rw[t2,t3] at t1
        simp only[List.length_append] at t1
        have t4:=u2 aJ[i]
        rcases bS with⟨_,v5⟩|⟨bt,fJ,d_,rfl,ek,Ak,_⟩
        · rw[v5] at i4;simp at i4
        obtain⟨aZ,c3,de,cU⟩:=th m b (s++ct 7++ct aJ.length++((lG aJ (dA xs)).take i).flatten) aJ[i] y a2 (by simp only[List.length_append];omega) (by omega)
        have s9:=hK.trans hK.n cU
        have bF:=ab.below af dt s9
        obtain⟨z,a4⟩:=cW.xy (dq.get dm i i4 (by omega))
        obtain⟨cb,c4,jH,h5⟩:=bd xs[i] (by have:=kR (List.getElem_mem (l:=xs) (n:=i) (by omega));omega) (Ai pF (List.getElem_mem (by omega))) (by have:=kR (List.getElem_mem (l:=xs) (n:=i) (by omega));omega) (by have:=uC (List.getElem_mem (l:=xs) (n:=i) (by omega));omega) (m+6) b B h0 vs[i] af (by have:=kR (List.getElem_mem (l:=xs) (n:=i) (by omega));omega) (dq.get dm i i4 (by omega)) aZ _ de bF (by rw[<-xw xs i (by omega) i2];simp only[List.length_append];omega)
        rw[a4] at c4
        refine⟨aa,aJ[i],gg dH hr (Ei i aa),aZ,c3,bt,fJ,_,d_,aL (fc _ bF) rfl,i4,z,(gg bF ek (Ak i i4)).trans (by rw[a4]),cb,c4,by omega,_,(by show aJ.length-(i+1)<t;omega),i+1,cb,_,rfl,⟨rfl,rfl,rfl,rfl,rfl,trivial⟩,rfl,by omega,?_,s9.trans s9.n h5⟩
        rw[t2,t3,xw xs i (by omega) i2]
        simpa only[List.append_assoc] using jH
      · exact⟨y,_,rfl,rfl,trivial,y,rfl,Kn (by omega),hK⟩
  · subst gj
    have ai:kt 8 bK aJ (dA xs) (g4 rt)=ct (dA xs).length++(dA xs).flatten++g4 rt:=rfl
    rw[ai] at aq⊢
    simp only[List.length_append] at aq
    obtain⟨ar,c2,bB,bu⟩:=Kj m (b:=b) (B:=B) (h0:=h0) (v:=bZ) (vs:=vs) (dA xs) af bS (by omega) (by omega) (λi ae=>cW.xy (dq.get dm i ae (by omega))) item (x:=al) (s:=s++ct 8) bl ax (by simp only[List.length_append];omega)
    have lH:=hn.trans hn.n bu
    have ay:=ab.below af dt lH
    cases rt with
    |none=>rcases jd with jd|jd<;>simp at jd
    |some u=>
     rw[m1] at du fX hm
     rw[sW] at lg
     have pI:g4 (some u)=jL u:=by rw[g4]
     rw[pI] at aq⊢
     rw[u1] at pG
     obtain⟨aZ,c3,de,cU⟩:=bd u (by omega) pG (by omega) (by omega) (m+6) b B h0 cG af (by omega) eG ar _ bB ay (by simp only[List.length_append];omega)
     exact⟨bZ,aL (fc _ ax) rfl,ar,c2,cG,aL (fc _ ay) rfl,aZ,c3,aZ,rfl,by simpa only[List.append_assoc] using de,lH.trans lH.n cU⟩
  · subst gW
    have ai:kt 9 bK aJ (dA xs) (g4 rt)=ct (dA xs).length++(dA xs).flatten:=rfl
    rw[ai] at aq⊢
    simp only[List.length_append] at aq
    obtain⟨ar,c2,bB,bu⟩:=Kj m (b:=b) (B:=B) (h0:=h0) (v:=bZ) (vs:=vs) (dA xs) af bS (by omega) (by omega) (λi ae=>cW.xy (dq.get dm i ae (by omega))) item (x:=al) (s:=s++ct 9) bl ax (by simp only[List.length_append];omega)
    exact⟨bZ,aL (fc _ ax) rfl,ar,c2,ar,rfl,by simpa only[List.append_assoc] using bB,hn.trans hn.n bu⟩
  · have ai:kt k bK aJ (dA xs) (g4 rt)=[]:=by unfold kt;rw[if_neg fC,if_neg e6,if_neg gj,if_neg gW]
    rw[ai]
    exact⟨al,rfl,by simpa using bl,hn⟩
theorem Ko:∀(K:Nat) (t:a6),sz t<=K->mh t=true->sz t<=90000->iH t<=90000->∀(m B:Nat) (h:J) (v:I) (s:aO),B<=h.n->sz t+5<=m->cW B h t v->s.length+(jL t).length<=1000000->bM B h (.str (s++jL t)) (Y m (.fn 82) [.str s,v] h)
 |0,t,du,_,_,_,_,_,_,_,_,_,_,_,_=>by
  have:=py t
  omega
 |K+1,.mk k bK aJ xs rt,du,di,fX,lg,m,B,h,v,s,bI,hm,aC,aq=>by
  obtain⟨R,c5,bZ,cG,vs,bV,bk,up,rfl,ad,aw,aQ,bS,dm,eG⟩:=aC
  rw[mh] at di
  simp only[Bool.and_eq_true,Bool.or_eq_true,decide_eq_true_eq] at di
  obtain⟨⟨⟨⟨jb,gR⟩,jd⟩,pF⟩,pG⟩:=di
  rw[q3] at du fX hm
  rw[iH] at lg
  rw[Kh] at aq⊢
  obtain⟨m,rfl⟩:∃j,m=j+4:=⟨m-4,by omega⟩
  have gM:=dq.len dm
  have jS:=pz xs
  have hZ:=Ah xs
  have bd:∀(u:a6),sz u<=K->mh u=true->sz u<=90000->iH u<=90000->∀(m B:Nat) (h:J) (v:I) (s:aO),B<=h.n->sz u+5<=m->cW B h u v->s.length+(jL u).length<=1000000->bM B h (.str (s++jL u)) (Y m (.fn 82) [.str s,v] h):=Ko K
  have fc:∀y,Ext B h y->y.get R=some (.cells [.int .i64 (Int.ofNat k),.str bK,c5,bZ,cG] 51 bV bk up):=λy e=>(e.get R ad).trans aw
  have c_:∀g,Ext B h g->bO Tryz.prog g 49 bZ=some (.int .i64 (Int.ofNat vs.length)):=λg x=>(bS.b6 (e3.ext x (Nat.le_refl _))).len (t:=49) (e:=47) (by kernel_rfl)
  simp only[List.length_append] at aq
  obtain⟨al,c1,a8⟩:=dg.nT (m+1) k s h (by omega) (by omega)
  have ax:Ext B h al:=a8.le bI
  have loop:(k=7\/k=8\/k=9)->∀(rp:J) (w:aO) (e_:Env) (items:List aO),Ext B h rp->items.length=vs.length->(∀i (ae:i<items.length) (ad:i<(dA xs).length),items[i]=(if k=7 then cV (wn aJ i) else[])++(dA xs)[i])->w.length+items.flatten.length<=1000000->cg [(0,.str w),(1,.ptr R 0),(5,.int .i64 (Int.ofNat 0))] e_->
    bj Tryz.prog Tryz.f82 (Y (m+3)) [1,1,0,1,0,1,1,1,0,1,1,0] ⟨e_,[],.none,rp⟩ (λcq cr=>∃(g:J) (bU:Env),cq=.exit 1/\cr=⟨bU,[],.none,g⟩/\cg [(0,.str (w++items.flatten)),(1,.ptr R 0)] bU/\Ext B h g):=λYD rp w e_ items dt nL DZ YE V6=>by
   refine bj.loop (by kernel_rfl) (λt st=>∃i y Γ,st=⟨Γ,[],.none,y⟩/\cg [(0,.str (w++(items.take i).flatten)),(1,.ptr R 0),(5,.int .i64 (Int.ofNat i))] Γ/\vs.length-i=t/\i<=vs.length/\Ext B h y) ?_ vs.length _ (by omega) ⟨0,rp,e_,rfl,by simpa using V6,by omega,by omega,dt⟩
   rintro t st ⟨i,y,Γ,rfl,cJ,aU,ae,dH⟩
   by_cases aa:i<vs.length
   · have i2:i<(dA xs).length:=by omega
     have i3:i<items.length:=by omega
     have i4:i<xs.length:=by omega
     have t1:=tf items (i+1)
     have t2:=te items i3
     have t3:=DZ i i3 i2
     rw[t2,t3] at t1
     simp only[List.length_append] at t1
     have a4:=kR (List.getElem_mem i4)
     have aI:=uC (List.getElem_mem i4)
     rcases bS with⟨_,v5⟩|⟨bt,fJ,d_,rfl,ek,Ak,_⟩
     · rw[v5] at aa;simp at aa
     obtain⟨z,lO⟩:=cW.xy (dq.get dm i aa i4)
     have one:∀fy dw,Ext B h fy->dw.length+(dA xs)[i].length<=1000000->∃g,Y (m+3) (.fn 82) [.str dw,.ptr z 0] fy=.ret (.str (dw++(dA xs)[i])) g/\Ext B h g:=λfy dw ax hT=>by
      rw[xw xs i i4 i2] at hT⊢
      obtain⟨g,c,x⟩:=bd xs[i] (by omega) (Ai pF (List.getElem_mem i4)) (by omega) (by omega) (m+3) B fy vs[i] dw (Nat.le_trans bI ax.n) (by omega) (cW.b6 (e3.ext ax (Nat.le_refl _)) _ _ (dq.get dm i aa i4)) hT
      rw[lO] at c
      exact⟨g,c,ax.trans (Nat.le_refl _) x⟩
     have oN:∀g,Ext B h g->dI (λs=>∃j,j<t/\(λt st=>∃i y Γ,st=⟨Γ,[],.none,y⟩/\cg [(0,.str (w++(items.take i).flatten)),(1,.ptr R 0),(5,.int .i64 (Int.ofNat i))] Γ/\vs.length-i=t/\i<=vs.length/\Ext B h y) j s) (λcq cr=>∃(g:J) (bU:Env),cq=.exit 1/\cr=⟨bU,[],.none,g⟩/\cg [(0,.str (w++items.flatten)),(1,.ptr R 0)] bU/\Ext B h g) .nrm ⟨[(0,.str (w++(items.take (i+1)).flatten)),(1,.ptr R 0),(5,.int .i64 (Int.ofNat (i+1)))],[],.none,g⟩:=λg hj=>
      ⟨_,(by show vs.length-(i+1)<t;omega),i+1,g,_,rfl,⟨rfl,rfl,rfl,trivial⟩,rfl,by omega,hj⟩
     refine bj.pre (VT (Y (m+3)) R i _ y ⟨bt,fJ,_,d_,aL (fc _ dH) rfl,aa,k,aL (fc _ dH) rfl,λe6=>?_,λe6=>?_⟩) cJ rfl rfl rfl
     · subst e6
       have sc:xs.length=aJ.length:=by rcases gR with gR|gR;exact absurd rfl gR;exact gR
       have i5:i<aJ.length:=by omega
       rcases aQ.strs with⟨_,V7⟩|⟨a5,cH,Eh,rfl,hr,Ei⟩
       · rw[V7] at i5;simp at i5
       have Kp:wn aJ i=aJ[i]:=by simp[wn,i5]
       rw[if_pos rfl,Kp] at t3
       rw[if_pos rfl,Kp] at t1
       have t4:=u2 aJ[i]
       obtain⟨ar,c2,bu⟩:=dg.td m (w++(items.take i).flatten) aJ[i] y (by simp only[List.length_append];omega) (by omega)
       have ay:Ext B h ar:=dH.trans (Nat.le_refl _) (bu.le (Nat.le_trans bI dH.n))
       obtain⟨aZ,c3,bF⟩:=one ar (w++(items.take i).flatten++cV aJ[i]) ay (by simp only[List.length_append];omega)
       refine⟨a5,cH,_,Eh,aL (fc _ dH) rfl,i5,aJ[i],gg dH hr (Ei i i5),_,ar,c2,bt,fJ,_,d_,aL (fc _ ay) rfl,aa,z,(gg ay ek (Ak i aa)).trans (by rw[lO]),_,aZ,c3,by omega,?_⟩
       have:=oN aZ bF
       rw[t2,t3] at this
       simpa only[List.append_assoc] using this
     · rw[if_neg e6,List.nil_append] at t3
       rw[if_neg e6] at t1
       simp only[List.length_nil] at t1
       obtain⟨aZ,c3,bF⟩:=one y (w++(items.take i).flatten) dH (by simp only[List.length_append];omega)
       refine⟨bt,fJ,_,d_,aL (fc _ dH) rfl,aa,z,(gg dH ek (Ak i aa)).trans (by rw[lO]),_,aZ,c3,by omega,?_⟩
       have:=oN aZ bF
       rw[t2,t3] at this
       simpa only[List.append_assoc] using this
   · refine bj.pre (VU (Y (m+3)) R i _ y ⟨bZ,aL (fc _ dH) rfl,_,c_ _ dH,aa,?_⟩) cJ rfl rfl rfl
     rw[List.take_of_length_le (by omega)]
     exact⟨y,_,rfl,rfl,⟨rfl,rfl,trivial⟩,dH⟩
  have lR:∀n (g:J),n<=90000->et Tryz.prog 3 65 (.int .i64 (Int.ofNat n)) g=.val (.int .u64 (Int.ofNat n)) g:=λn g aI=>Aj n (by omega) g
  have fin:∀{w:aO} {y:J},w=s++(ct k++kt k bK aJ (dA xs) (g4 rt))->Ext B h y->bM B h (.str (s++(ct k++kt k bK aJ (dA xs) (g4 rt)))) (.ret (.str w) y):=λhw e=>bM.of (by rw[hw]) e
  refine VS (m+3) R s h ⟨k,aL aw rfl,k,lR k h (by omega),_,al,c1,k,aL (fc _ ax) rfl,λfC=>?_,λfC=>⟨λe6=>?_,λe6=>⟨λgj=>?_,λgj=>⟨λgW=>?_,λgW=>?_⟩⟩⟩⟩
  · subst fC
    have ai:kt 6 bK aJ (dA xs) (g4 rt)=cV bK:=rfl
    rw[ai] at aq
    have:=u2 bK
    obtain⟨ar,c2,bu⟩:=dg.td m (s++ct 6) bK al (by rw[List.length_append];omega) (by omega)
    exact⟨bK,aL (fc _ ax) rfl,_,ar,c2,fin (by rw[ai,List.append_assoc]) (ax.trans (Nat.le_refl _) (bu.le (Nat.le_trans bI ax.n)))⟩
  · subst e6
    have sc:xs.length=aJ.length:=by rcases gR with gR|gR;exact absurd rfl gR;exact gR
    have ai:kt 7 bK aJ (dA xs) (g4 rt)=ct aJ.length++(lG aJ (dA xs)).flatten:=rfl
    rw[ai] at aq
    simp only[List.length_append] at aq
    have pR:vs.length=aJ.length:=by omega
    obtain⟨ar,c2,bu⟩:=dg.nT (m+1) vs.length (s++ct 7) al (by omega) (by rw[List.length_append];omega)
    have ay:Ext B h ar:=ax.trans (Nat.le_refl _) (bu.le (Nat.le_trans bI ax.n))
    have mG:=Kk aJ (dA xs) (by omega)
    refine⟨bZ,aL (fc _ ax) rfl,_,c_ _ ax,_,lR vs.length al (by omega),_,ar,c2,bj.mono (loop (.inl rfl) ar _ _ (lG aJ (dA xs)) ay (by omega) (λi ae ad=>by
     have i5:i<aJ.length:=by omega
     rw[Kl ae i5 ad,if_pos rfl];simp[wn,i5]) (by simp only[List.length_append];rw[pR];omega) ⟨rfl,rfl,rfl,trivial⟩) ?_⟩
    rintro cq cr ⟨g,bU,rfl,rfl,pL,hj⟩
    exact⟨_,_,g,bU,rfl,rfl,pL,_,aL (fc _ hj) rfl,λe=>by omega,λ_=>fin (by rw[ai,pR];simp only[List.append_assoc]) hj⟩
  · subst gj
    have ai:kt 8 bK aJ (dA xs) (g4 rt)=ct (dA xs).length++(dA xs).flatten++g4 rt:=rfl
    rw[ai] at aq
    simp only[List.length_append] at aq
    have pR:vs.length=(dA xs).length:=by omega
    obtain⟨ar,c2,bu⟩:=dg.nT (m+1) vs.length (s++ct 8) al (by omega) (by rw[List.length_append];omega)
    have ay:Ext B h ar:=ax.trans (Nat.le_refl _) (bu.le (Nat.le_trans bI ax.n))
    refine⟨bZ,aL (fc _ ax) rfl,_,c_ _ ax,_,lR vs.length al (by omega),_,ar,c2,bj.mono (loop (.inr (.inl rfl)) ar _ _ (dA xs) ay (by omega) (λi ae ad=>by rw[if_neg (by omega)];rfl) (by simp only[List.length_append];rw[pR];omega) ⟨rfl,rfl,rfl,trivial⟩) ?_⟩
    rintro cq cr ⟨g,bU,rfl,rfl,pL,hj⟩
    cases rt with
    |none=>rcases jd with jd|jd<;>simp at jd
    |some u=>
     rw[m1] at du fX hm
     rw[sW] at lg
     have pI:g4 (some u)=jL u:=by rw[g4]
     rw[pI] at aq
     rw[u1] at pG
     obtain⟨aZ,c3,cU⟩:=bd u (by omega) pG (by omega) (by omega) (m+3) B g cG (s++ct 8++ct vs.length++(dA xs).flatten) (Nat.le_trans bI hj.n) (by omega) (cW.b6 (e3.ext hj (Nat.le_refl _)) _ _ eG) (by simp only[List.length_append];rw[pR];omega)
     exact⟨_,_,g,bU,rfl,rfl,pL,_,aL (fc _ hj) rfl,λ_=>⟨cG,aL (fc _ hj) rfl,_,aZ,c3,fin (by rw[ai,pI,pR];simp only[List.append_assoc]) (hj.trans (Nat.le_refl _) cU)⟩,λe=>absurd rfl e⟩
  · subst gW
    have ai:kt 9 bK aJ (dA xs) (g4 rt)=ct (dA xs).length++(dA xs).flatten:=rfl
    rw[ai] at aq
    simp only[List.length_append] at aq
    have pR:vs.length=(dA xs).length:=by omega
    obtain⟨ar,c2,bu⟩:=dg.nT (m+1) vs.length (s++ct 9) al (by omega) (by rw[List.length_append];omega)
    have ay:Ext B h ar:=ax.trans (Nat.le_refl _) (bu.le (Nat.le_trans bI ax.n))
    refine⟨bZ,aL (fc _ ax) rfl,_,c_ _ ax,_,lR vs.length al (by omega),_,ar,c2,bj.mono (loop (.inr (.inr rfl)) ar _ _ (dA xs) ay (by omega) (λi ae ad=>by rw[if_neg (by omega)];rfl) (by simp only[List.length_append];rw[pR];omega) ⟨rfl,rfl,rfl,trivial⟩) ?_⟩
    rintro cq cr ⟨g,bU,rfl,rfl,pL,hj⟩
    exact⟨_,_,g,bU,rfl,rfl,pL,_,aL (fc _ hj) rfl,λe=>by omega,λ_=>fin (by rw[ai,pR];simp only[List.append_assoc]) hj⟩
  · have ai:kt k bK aJ (dA xs) (g4 rt)=[]:=by unfold kt;rw[if_neg fC,if_neg e6,if_neg gj,if_neg gW]
    exact⟨k,aL (fc _ ax) rfl,λe=>absurd e gj,λ_=>fin (by rw[ai,List.append_nil]) ax⟩
end Go.Proofs.dQ
namespace Go.Proofs.dQ
open Go aB Go.Proofs df Go.Proofs.cD
open Go.Proofs.dg (cV)
open Go.Proofs.gI (ct)
set_option maxRecDepth 100000
set_option maxHeartbeats 1000000
abbrev gJ:=aO×Option a6
def jj(B:Nat)(h:J)(v:I)(l:List gJ):Prop:=(v=.bf/\l=[])\/∃b off aH,v=.slice b off l.length aH/\b<B/\(∀i (ae:i<l.length),∃w,aB.loadCells h b (off+i*2) 2=some [.str l[i].1,w]/\dE B h l[i].2 w)/\0<l.length/\aH≠ .dead
theorem jj.b6{B:Nat}{h g:J}{v:I}{l:List gJ}(e:Ext B h g)(ai:jj B h v l):jj B g v l:=by
 rcases ai with ai|⟨b,off,aH,aa,ad,aQ,bS⟩
 · exact .inl ai
 · refine .inr ⟨b,off,aH,aa,ad,λi ae=>?_,bS⟩
   obtain⟨w,dw,cT⟩:=aQ i ae
   refine⟨w,?_,dE.b6 (e3.ext e (Nat.le_refl _)) _ _ cT⟩
   rw[<-dw]
   unfold aB.loadCells
   rw[e.get b ad]
theorem jj.le{B C:Nat}{h:J}{v:I}{l:List gJ}(e:B<=C)(ai:jj B h v l):jj C h v l:=by
 rcases ai with ai|⟨b,off,aH,aa,ad,aQ,bS⟩
 · exact .inl ai
 · exact .inr ⟨b,off,aH,aa,by omega,λi ae=>by obtain⟨w,dw,cT⟩:=aQ i ae;exact⟨w,dw,dE.le e _ _ cT⟩,bS⟩
theorem xz{B:Nat}{h y:J}{l:List gJ}{b off:Nat}(af:b<B)(aq:∀i (ae:i<l.length),∃w,aB.loadCells h b (off+i*2) 2=some [.str l[i].1,w]/\dE B h l[i].2 w)(dH:Ext B h y){i:Nat}(ae:i<l.length):∃w,aB.loadCells y b (off+i*2) 2=some [.str l[i].1,w]/\dE B y l[i].2 w:=by
 obtain⟨w,dw,cT⟩:=aq i ae
 refine⟨w,?_,dE.b6 (e3.ext dH (Nat.le_refl _)) _ _ cT⟩
 rw[<-dw]
 unfold aB.loadCells
 rw[dH.get b af]
theorem jj.cell{B:Nat}{h:J}{v:I}{l:List gJ}(ai:jj B h v l):v.b0=true:=by rcases ai with⟨rfl,_⟩|⟨b,off,aH,rfl,_⟩<;>rfl
theorem jj.snd{B:Nat}{h:J}{v:I}{l:List gJ}(ai:jj B h v l):I.sound v=true:=by rcases ai with⟨rfl,_⟩|⟨b,off,aH,rfl,_⟩<;>rfl
theorem jj.len{B:Nat}{h:J}{v:I}{l:List gJ}(ai:jj B h v l)(g:J):bO Tryz.prog g 22 v=some (.int .i64 (Int.ofNat l.length)):=by
 have hu:Tryz.prog.underlying 22=some (.slice 53):=by kernel_rfl
 rcases ai with⟨rfl,rfl⟩|⟨b,off,aH,rfl,_⟩
 · simp only[bO,hu];rfl
 · simp only[bO,hu]
theorem xA{B:Nat}{h:J}{ot:Option a6}{v:I}(aC:dE B h ot v):v.b0=true:=by rcases aC.sZ with rfl|⟨R,rfl⟩<;>rfl
theorem Ej{h:J}{b o:Nat}{x y:I}(aq:aB.loadCells h b o 2=some [x,y]):au h b (o+0)=some x/\au h b (o+1)=some y:=by
 unfold aB.loadCells at aq
 split at aq
 · rename_i cs e k bk up ak
   have key:∀(o:Nat) (cs:List I),takeN 2 (ho o cs)=some [x,y]->nth o cs=some x/\nth (o+1) cs=some y:=by
    intro o
    induction o with
    |zero=>
     intro cs ag
     match cs,ag with
     |[],ag=>cases ag
     |[a],ag=>cases ag
     |a::b::r,ag=>
      cases ag
      exact⟨rfl,rfl⟩
    |succ o bd=>
     intro cs ag
     match cs,ag with
     |[],ag=>cases ag
     |a::r,ag=>exact bd r ag
   obtain⟨bQ,cl⟩:=key o cs aq
   exact⟨aL ak bQ,aL ak cl⟩
 · cases aq
theorem Kq{n a:aO}{w c d:I}(hw:w.b0=true):eR 0 [.str n,w] [c,d]=some [.str n,w]:=ud [.str n,w] [c,d] (by simp[I.b0] at*;exact hw) (Nat.le_refl _)
def fit(o:Option a6):Prop:=ei o<=100/\∀t,o=some t->iH t<=90000
def jk(last:aO):List gJ->Bool
 |[]=>true
 |e::l=>dB last e.1&&(decide (e.1.length<=24)&&(decide (kr e.2=0)&&jk e.1 l))
def mj(l:List gJ):Nat->aO
 |0=>[]
 |i+1=>((l[i]?).map Prod.fst).getD []
theorem xB{l:List gJ}{i:Nat}(h:i<l.length):mj l (i+1)=l[i].1:=by simp[mj,h]
theorem Kr(m:Nat){B:Nat}{h:J}{v:I}{l:List gJ}(bI:B<=h.n)(hm:450<=m)(ai:jj B h v l)(hlen:l.length<=90000)(hf:∀e∈l,fit e.2):bM B h (.bool (jk [] l)) (Y (m+1) (.fn 56) [v] h):=by
 refine VO m v h ⟨_,ai.len h,?_⟩
 refine bj.loop (by kernel_rfl) (λk st=>∃i y Γ,st=⟨Γ,[],.none,y⟩/\cg [(3,.str (mj l i)),(6,v),(7,.int .i64 (Int.ofNat l.length)),(8,.int .i64 (Int.ofNat i))] Γ/\l.length-i=k/\i<=l.length/\Ext B h y/\jk [] l=jk (mj l i) (l.drop i)) ?_ l.length _ (by omega) ⟨0,h,_,rfl,⟨rfl,rfl,rfl,rfl,trivial⟩,by omega,by omega,Ext.refl _ _,rfl⟩
 rintro k st ⟨i,y,Γ,rfl,cJ,av,ae,dH,bp⟩
 by_cases aa:i<l.length
 · rcases ai with⟨_,rfl⟩|⟨b,off,aH,rfl,af,aq,a_,aA⟩
   · simp at aa
   obtain⟨w,ag,aU⟩:=xz af aq dH aa
   obtain⟨g,ak⟩:∃g,g=(y.push (.cells [.str [],.bm] 53 .own 0 0)).set y.n (some (.cells [.str l[i].1,w] 53 .own 0 0)):=⟨_,rfl⟩
   have cf:aB.storeCells (y.push (.cells [.str [],.bm] 53 .own 0 0)) y.n 0 [.str l[i].1,w]=some g:=by
    rw[ak];exact iE (gf rfl) rfl (Kq (a:=[]) (xA aU))
   have nV:g.get y.n=some (.cells [.str l[i].1,w] 53 .own 0 0):=by rw[ak];exact iW rfl
   have fl:Ext y.n y g:=by rw[ak];exact(Ext.push (Nat.le_refl _) _).hg (Nat.le_refl _)
   have lD:=Nat.le_trans bI dH.n
   have hj:Ext B h g:=dH.trans (Nat.le_refl _) (fl.le lD)
   have fV:y.n<g.n:=by rw[ak];simp
   rw[List.drop_eq_getElem_cons aa,jk] at bp
   refine bj.pre (VP (Y m) b off _ i aH (mj l i) y ⟨aa,aa,_,w,ag,xA aU,g,cf,_,aL nV rfl,λaf=>?_,λaf=>⟨_,aL nV rfl,λnp=>?_,λnp=>⟨_,aL nV rfl,?_⟩⟩⟩) cJ rfl rfl rfl
   · have:dB (mj l i) l[i].1=false:=by simpa using af
     exact .inr ⟨g,_,rfl,rfl,⟨rfl,trivial⟩,bM.of (eo (by rw[bp,this];rfl)) hj⟩
   · exact .inr ⟨g,_,rfl,rfl,⟨rfl,trivial⟩,bM.of (eo (by rw[bp];simp[show¬l[i].1.length<=24 by omega])) hj⟩
   · have cu:dB (mj l i) l[i].1=true:=by simpa using af
     have o6:=hf l[i] (List.getElem_mem aa)
     obtain⟨ar,c2,bu⟩:=UQ (m-1) (ot:=l[i].2) (B:=g.n) (h:=g) (v:=w) (by have:=o6.1;omega) o6.2 (by have:=o6.1;omega) (Nat.le_refl _) (dE.le (Nat.le_trans lD fl.n) _ _ (dE.b6 (e3.ext (fl.le lD) (Nat.le_refl _)) _ _ aU))
     rw[show m-1+1=m by omega] at c2
     have xC:Ext B h ar:=hj.trans (Nat.le_refl _) (bu.le (Nat.le_trans lD fl.n))
     refine⟨_,ar,c2,λh0=>⟨_,aL ((bu.get y.n fV).trans nV) rfl,by omega,?_⟩,λh0=>?_⟩
     · refine⟨_,(by show l.length-(i+1)<k;omega),i+1,ar,_,rfl,⟨by rw[xB aa];rfl,rfl,rfl,rfl,trivial⟩,rfl,by omega,xC,?_⟩
       rw[bp,cu,h0,xB aa];simp[show l[i].1.length<=24 by omega]
     · exact .inr ⟨ar,_,rfl,rfl,⟨rfl,trivial⟩,bM.of (eo (by rw[bp];simp[h0])) xC⟩
 · refine bj.pre (VQ (Y m) l.length i (mj l i) v y ⟨aa,.inl ⟨y,_,rfl,rfl,trivial,bM.of (eo ?_) dH⟩⟩) cJ rfl rfl rfl
   rw[bp,List.drop_of_length_le (by omega)];rfl
end Go.Proofs.dQ
namespace Go.Proofs.dQ
open Go aB Go.Proofs df Go.Proofs.cD
open Go.Proofs.dg (cV)
open Go.Proofs.gI (ct)
set_option maxRecDepth 100000
set_option maxHeartbeats 1000000
theorem V8(m:Nat)(s:aO)(h:J):Y (m+1) (.fn 77) [.str s] h=.ret (.bool (decide (1<=s.length)&&decide (s.length<=24))) h:=
 VZ m s h (R:=λx=>x=_) ⟨λaa=>by rw[I6];simp[aa],λaa=>by simp[aa]⟩
theorem V9(s:aO):dB [] s=decide (1<=s.length):=by cases s<;>simp[dB]
theorem Ks(m:Nat){B:Nat}{h:J}{v:I}{l:List gJ}(bI:B<=h.n)(hm:450<=m)(ai:jj B h v l)(hlen:l.length<=90000)(hf:∀e∈l,fit e.2):bM B h (.bool (jk [] l)) (Y (m+1) (.fn 61) [v] h):=by
 refine V0 m v h ?_
 refine bj.loop (by kernel_rfl) (λk st=>∃i y Γ,st=⟨Γ,[],.none,y⟩/\cg [(0,v),(3,.int .i64 (Int.ofNat i))] Γ/\l.length-i=k/\i<=l.length/\Ext B h y/\jk [] l=jk (mj l i) (l.drop i)) ?_ l.length _ (by omega) ⟨0,h,_,rfl,⟨rfl,rfl,trivial⟩,by omega,by omega,Ext.refl _ _,rfl⟩
 rintro k st ⟨i,y,Γ,rfl,cJ,av,ae,dH,bp⟩
 by_cases aa:i<l.length
 · rcases ai with⟨_,rfl⟩|⟨b,off,aH,rfl,af,aq,a_,aA⟩
   · simp at aa
   have mi:Ext B h (y.room 34):=dH.trans (Nat.le_refl _) (Ext.room B y 34)
   obtain⟨w,ag,aU⟩:=xz af aq mi aa
   obtain⟨rL,V_⟩:=Ej ag
   rw[List.drop_eq_getElem_cons aa,jk] at bp
   have o6:=hf l[i] (List.getElem_mem aa)
   have Wa:∃ar,Y m (.fn 78) [w] (y.room 34)=.ret (.int .i64 (Int.ofNat (kr l[i].2))) ar/\Ext B (y.room 34) ar:=by
    obtain⟨ar,c2,bu⟩:=SU (m-1) (ot:=l[i].2) (B:=B) (h:=y.room 34) (v:=w) (by have:=o6.1;omega) o6.2 (by have:=o6.1;omega) (Nat.le_trans bI mi.n) aU
    rw[show m-1+1=m by omega] at c2
    exact⟨ar,c2,bu⟩
   obtain⟨ar,c2,bu⟩:=Wa
   have xC:Ext B h ar:=mi.trans (Nat.le_refl _) bu
   have qf:=V8 (m-1) l[i].1 (y.room 34)
   rw[show m-1+1=m by omega] at qf
   have last:dB (mj l i) l[i].1=true->l[i].1.length<=24->∃(w':I),au (y.room 34) b (off+i*2+1)=some w'/\∃(b3:Nat) (dj:J),Y m (.fn 78) [w'] (y.room 34)=.ret (.int .i64 (Int.ofNat b3)) dj/\I.sound w'=true/\(b3=0->i+1<9223372036854775808/\dI (λs=>∃j,j<k/\(λk st=>∃i y Γ,st=⟨Γ,[],.none,y⟩/\cg [(0,.slice b off l.length aH),(3,.int .i64 (Int.ofNat i))] Γ/\l.length-i=k/\i<=l.length/\Ext B h y/\jk [] l=jk (mj l i) (l.drop i)) j s) (λcq cr=>(∃(g:J) (bU:Env),cq=.exit 0/\cr=⟨bU,[],.none,g⟩/\cg [] bU/\bM B h (.bool (jk [] l)) (.ret (.bool true) g))\/(∃(g:J) (bU:Env),cq=.ret/\cr=⟨bU,[],.none,g⟩/\cg [(2,.bool false)] bU/\bM B h (.bool (jk [] l)) (.ret (.bool false) g))) .nrm ⟨[(0,.slice b off l.length aH),(3,.int .i64 (Int.ofNat (i+1)))],[],.none,dj⟩)/\(¬b3=0->(∃(g:J) (bU:Env),bw.ret=.exit 0/\(⟨[(0,.slice b off l.length aH),(2,.bool false),(3,.int .i64 (Int.ofNat i))],[],.none,dj⟩:ah)=⟨bU,[],.none,g⟩/\cg [] bU/\bM B h (.bool (jk [] l)) (.ret (.bool true) g))\/(∃(g:J) (bU:Env),bw.ret=.ret/\(⟨[(0,.slice b off l.length aH),(2,.bool false),(3,.int .i64 (Int.ofNat i))],[],.none,dj⟩:ah)=⟨bU,[],.none,g⟩/\cg [(2,.bool false)] bU/\bM B h (.bool (jk [] l)) (.ret (.bool false) g))):=λcu np=>by
    refine⟨w,V_,_,ar,c2,aU.snd,λh0=>⟨by omega,?_⟩,λh0=>?_⟩
    · refine⟨_,(by show l.length-(i+1)<k;omega),i+1,ar,_,rfl,⟨rfl,rfl,trivial⟩,rfl,by omega,xC,?_⟩
      rw[bp,cu,h0,xB aa];simp[np]
    · exact .inr ⟨ar,_,rfl,rfl,⟨rfl,trivial⟩,bM.of (eo (by rw[bp];simp[h0])) xC⟩
   refine bj.pre (V1 (Y m) b off _ i aH y ⟨aa,aa,_,rL,_,_,qf,λj6=>⟨λh0=>?_,λh0=>?_⟩,λj6=>?_⟩) cJ rfl rfl rfl
   rotate_left 2
   · refine .inr ⟨y.room 34,_,rfl,rfl,⟨rfl,trivial⟩,bM.of (eo ?_) mi⟩
     rw[bp]
     have:¬(1<=l[i].1.length/\l[i].1.length<=24):=by
      intro ab
      simp[ab.1,ab.2] at j6
     by_cases np:l[i].1.length<=24
     · have e:l[i].1=[]:=List.eq_nil_of_length_eq_zero (by omega)
       have:dB (mj l i) l[i].1=false:=by
        rw[e];cases mj l i<;>rfl
       rw[this];rfl
     · simp[np]
   · have gz:1<=l[i].1.length/\l[i].1.length<=24:=by
       simp only[Bool.not_eq_false',Bool.and_eq_true,decide_eq_true_eq] at j6
       exact j6
     obtain⟨j,rfl⟩:∃j,i=j+1:=⟨i-1,by omega⟩
     have ad:j<l.length:=by omega
     obtain⟨cT,ou,_⟩:=xz af aq mi ad
     obtain⟨A0,_⟩:=Ej ou
     refine⟨aa,_,rL,⟨by omega,by omega⟩,by omega,l[j].1,A0,λek=>?_,λek=>?_⟩
     · have:dB l[j].1 l[j+1].1=false:=by simpa using ek
       refine .inr ⟨y.room 34,_,rfl,rfl,⟨rfl,trivial⟩,bM.of (eo ?_) mi⟩
       rw[bp,xB ad,this];rfl
     · have:dB l[j].1 l[j+1].1=true:=by simpa using ek
       exact⟨aa,last (by rw[xB ad];exact this) gz.2⟩
   · have gz:1<=l[i].1.length/\l[i].1.length<=24:=by
       simp only[Bool.not_eq_false',Bool.and_eq_true,decide_eq_true_eq] at j6
       exact j6
     obtain rfl:i=0:=by omega
     exact⟨aa,last (by show dB [] _=true;rw[V9];simpa using gz.1) gz.2⟩
 · refine bj.pre (V2 (Y m) i v y ⟨_,ai.len y,aa,.inl ⟨y,_,rfl,rfl,trivial,bM.of (eo ?_) dH⟩⟩) cJ rfl rfl rfl
   rw[bp,List.drop_of_length_le (by omega)];rfl
def dO(e:gJ):aO:=cV e.1++g4 e.2
def j7(l:List gJ):aO:=ct l.length++(l.map dO).flatten
def nW(e:gJ):Prop:=∃t,e.2=some t/\mh t=true/\sz t<=100/\iH t<=90000
theorem Wb(m:Nat){b B:Nat}{h0 y:J}{s n:aO}{ot:Option a6}{w:I}(hm:220<=m)(af:B<=b)(a2:g5 b y s)(dH:Ext B h0 y)(aU:dE B h0 ot w)(aq:nW (n,ot))(hs:s.length+(dO (n,ot)).length<=1000000):m8 b y (s++dO (n,ot)) (Y (m+1) (.fn 66) [.ptr b 0,.agg [.str n,w]] y):=by
 obtain⟨t,rfl,aa,ad,aw⟩:∃t,ot=some t/\mh t=true/\sz t<=100/\iH t<=90000:=aq
 have he:dO (n,some t)=cV n++jL t:=by show cV n++g4 (some t)=_;rw[g4]
 rw[he] at hs⊢
 simp only[List.length_append] at hs
 obtain⟨H,cS⟩:∃H,H=y.push (.cells [.str n,w] 53 .own 0 0):=⟨_,rfl⟩
 have dz:Ext y.n y H:=by rw[cS];exact Ext.push (Nat.le_refl _) _
 have h9:H.get y.n=some (.cells [.str n,w] 53 .own 0 0):=by rw[cS];exact gf rfl
 have jf:y.n<H.n:=by rw[cS];simp
 have xD:=(a2.ext dz).room 6
 have t4:=u2 n
 obtain⟨al,c1,bl,a8⟩:=th (m-6) b s n (H.room 6) xD (by omega) (by omega)
 rw[show m-6+6=m by omega] at c1
 have hn:eJ b y.n y al:=(dz.mX b).trans dz.n (((Ext.room _ H 6).mX b).trans (Nat.le_refl _) (a8.le (by simp)))
 have ax:=a2.below af dH hn
 have Al:al.get y.n=some (.cells [.str n,w] 53 .own 0 0):=(a8.get y.n (by simp;omega) (by have:=a2.1;omega)).trans h9
 obtain⟨ar,c2,bB,bu⟩:=Km (sz t) t (Nat.le_refl _) aa (by omega) (by omega) m b B h0 w af (by omega) aU al _ bl ax (by simp only[List.length_append];omega)
 refine VM m b n w y ⟨xA aU,?_⟩
 rw[<-cS]
 exact⟨_,aL (nB h9) rfl,al,c1,_,aL Al rfl,ar,c2,ar,rfl,by simpa only[List.append_assoc] using bB,hn.trans hn.n bu⟩
theorem Kt(m:Nat){b B:Nat}{h0 x:J}{v:I}{l:List gJ}{s:aO}(hm:230<=m)(af:B<=b)(ai:jj B h0 v l)(hlen:l.length<=90000)(ml:∀e∈l,nW e)(ab:g5 b x s)(dt:Ext B h0 x)(aq:s.length+(j7 l).length<=1000000):
  m8 b x (s++j7 l) (Y (m+1) (.fn 65) [.ptr b 0,v,.fn 66 [.ptr b 0] []] x):=by
 have Ek:j7 l=ct l.length++(l.map dO).flatten:=rfl
 rw[Ek] at aq⊢
 simp only[List.length_append] at aq
 obtain⟨al,c1,bl,a8⟩:=pQ (m-5) b l.length s x ab (by omega) (by omega)
 rw[show m-5+5=m by omega] at c1
 refine VJ m b v x ⟨_,ai.len x,al,c1,_,ai.len al,?_⟩
 refine bj.loop (by kernel_rfl) (λk st=>∃i y Γ,st=⟨Γ,[],.none,y⟩/\cg [(2,.fn 66 [.ptr b 0] []),(14,v),(15,.int .i64 (Int.ofNat l.length)),(16,.int .i64 (Int.ofNat i))] Γ/\l.length-i=k/\i<=l.length/\g5 b y (s++(ct l.length++((l.map dO).take i).flatten))/\eJ b x.n x y) ?_ l.length _ (by omega) ⟨0,al,_,rfl,⟨rfl,rfl,rfl,rfl,trivial⟩,by omega,by omega,by simpa using bl,a8⟩
 rintro k st ⟨i,y,Γ,rfl,cJ,av,ae,a2,hK⟩
 have dH:=ab.below af dt hK
 by_cases aa:i<l.length
 · rcases ai with⟨_,rfl⟩|⟨dT,off,aH,rfl,j6,fA,a_,aA⟩
   · simp at aa
   obtain⟨w,ag,aU⟩:=xz j6 fA dH aa
   have ad:i<(l.map dO).length:=by simpa using aa
   have t1:=tf (l.map dO) (i+1)
   have t2:=te (l.map dO) ad
   rw[t2,List.getElem_map] at t1
   simp only[List.length_append] at t1
   obtain⟨g,ak⟩:∃g,g=(y.push (.cells [.str [],.bm] 53 .own 0 0)).set y.n (some (.cells [.str l[i].1,w] 53 .own 0 0)):=⟨_,rfl⟩
   have cf:aB.storeCells (y.push (.cells [.str [],.bm] 53 .own 0 0)) y.n 0 [.str l[i].1,w]=some g:=by
    rw[ak];exact iE (gf rfl) rfl (Kq (a:=[]) (xA aU))
   have nV:g.get y.n=some (.cells [.str l[i].1,w] 53 .own 0 0):=by rw[ak];exact iW rfl
   have fl:Ext y.n y g:=by rw[ak];exact(Ext.push (Nat.le_refl _) _).hg (Nat.le_refl _)
   have lD:B<=y.n:=Nat.le_trans af (Nat.le_of_lt a2.1)
   have hj:=dH.trans (Nat.le_refl _) (fl.le lD)
   obtain⟨ar,c2,bB,bu⟩:=Wb (m-1) (b:=b) (B:=B) (h0:=y) (y:=g) (n:=l[i].1) (ot:=l[i].2) (w:=w) (by omega) af (a2.ext fl) (fl.le lD) aU (ml l[i] (List.getElem_mem aa)) (by simp only[List.length_append];show _+(dO l[i]).length<=_;omega)
   rw[show m-1+1=m by omega] at c2
   refine bj.pre (VK (Y m) b dT off _ i aH y ⟨aa,aa,_,w,ag,xA aU,g,cf,_,w,nC nV rfl,ar,c2,by omega,?_⟩) cJ rfl rfl rfl
   refine⟨_,(by show l.length-(i+1)<k;omega),i+1,ar,_,rfl,⟨rfl,rfl,rfl,rfl,trivial⟩,rfl,by omega,?_,hK.trans hK.n ((fl.mX b).trans fl.n bu)⟩
   rw[t2,List.getElem_map]
   simpa only[List.append_assoc] using bB
 · refine bj.pre (VL (Y m) b l.length i v y ⟨aa,y,_,rfl,rfl,trivial,y,rfl,?_,hK⟩) cJ rfl rfl rfl
   rw[List.take_of_length_le (by simp;omega)] at a2
   exact a2
end Go.Proofs.dQ
namespace Go.Proofs.dQ
open Go aB Go.Proofs df Go.Proofs.cD
open Go.Proofs.dg (cV)
open Go.Proofs.gI (ct)
set_option maxRecDepth 100000
set_option maxHeartbeats 1000000
structure mm where
 path:aO
 gv:Bool
 lI:List gJ
 mn:List gJ
def jM(x:mm):aO:=cV x.path++(if x.gv then ct 1 else ct 0++(j7 x.lI++j7 x.mn))
def kY(x:mm):Bool:=jk [] x.lI&&(jk [] x.mn&&(!x.gv||decide (x.lI.length+x.mn.length=0)))
structure mo(B:Nat)(h:J)(vv bR:I)(x:mm):Prop where
 v:jj B h vv x.lI
 t:jj B h bR x.mn
theorem mo.b6{B:Nat}{h g:J}{vv bR:I}{x:mm}(e:Ext B h g)(s:mo B h vv bR x):mo B g vv bR x:=⟨s.v.b6 e,s.t.b6 e⟩
theorem mo.le{B C:Nat}{h:J}{vv bR:I}{x:mm}(e:B<=C)(s:mo B h vv bR x):mo C h vv bR x:=⟨s.v.le e,s.t.le e⟩
structure pS(x:mm):Prop where
 p:x.path.length<=90000
 c_:x.lI.length<=90000
 lt:x.mn.length<=90000
 lU:∀e∈x.lI,fit e.2
 El:∀e∈x.mn,fit e.2
abbrev mq(p:aO)(b:Bool)(vv bR:I):cp:=.cells [.str p,.bool b,vv,bR] 24 .own 0 0
theorem Wc(m:Nat){B:Nat}{h:J}{vv bR:I}{x:mm}(hm:460<=m)(bI:B<=h.n)(hs:mo B h vv bR x)(hf:pS x):bM B h (.bool (kY x)) (Y (m+1) (.fn 29) [.agg [.str x.path,.bool x.gv,vv,bR]] h):=by
 obtain⟨H,cS⟩:∃H,H=h.push (mq x.path x.gv vv bR):=⟨_,rfl⟩
 have dz:Ext B h H:=by rw[cS];exact Ext.push bI _
 have h9:H.get h.n=some (mq x.path x.gv vv bR):=by rw[cS];exact gf rfl
 have jf:h.n<H.n:=by rw[cS];simp
 have jg:=Nat.le_trans bI dz.n
 have YF:Ext h.n h H:=by rw[cS];exact Ext.push (Nat.le_refl _) _
 obtain⟨al,c1,a8⟩:=Kr (m-1) (B:=H.n) (h:=H) (Nat.le_refl _) (by omega) ((hs.b6 dz).le jg).v hf.c_ hf.lU
 rw[show m-1+1=m by omega] at c1
 obtain⟨ar,c2,bu⟩:=Kr (m-1) (B:=H.n) (h:=al) a8.n (by omega) ((((hs.b6 dz).le jg).b6 a8)).t hf.lt hf.El
 rw[show m-1+1=m by omega] at c2
 have mr:=(a8.get h.n jf).trans h9
 have lJ:=(bu.get h.n jf).trans mr
 have ax:Ext B h al:=dz.trans (Nat.le_refl _) (a8.le jg)
 have ay:Ext B h ar:=ax.trans (Nat.le_refl _) (bu.le jg)
 refine VR m x.path x.gv vv bR h ⟨hs.v.cell,hs.t.cell,?_⟩
 rw[<-cS]
 refine⟨_,aL h9 rfl,_,al,c1,λaa=>⟨_,aL mr rfl,_,ar,c2,λad=>⟨_,aL lJ rfl,λaw=>?_,λaw=>?_⟩,λad=>?_⟩,λaa=>?_⟩
 rotate_left
 · have:x.gv=false:=by simpa using aw
   exact bM.of (eo (by unfold kY;rw[aa,ad,this];rfl)) ay
 · exact bM.of (eo (by unfold kY;rw[aa,ad];rfl)) ay
 · exact bM.of (eo (by unfold kY;rw[aa];rfl)) ax
 · have af:x.gv=true:=by simpa using aw
   have bl:=hf.c_
   have bB:=hf.lt
   exact⟨_,aL lJ rfl,_,hs.v.len ar,_,aL lJ rfl,_,hs.t.len ar,by omega,bM.of (eo (by unfold kY;rw[aa,ad,af,pD];simp)) ay⟩
theorem Wd(m:Nat){B:Nat}{h:J}{vv bR:I}{x:mm}(hm:460<=m)(bI:B<=h.n)(hs:mo B h vv bR x)(hf:pS x):bM B h (.bool (kY x)) (Y (m+1) (.fn 34) [.agg [.str x.path,.bool x.gv,vv,bR]] h):=by
 obtain⟨H,cS⟩:∃H,H=h.push (mq x.path x.gv vv bR):=⟨_,rfl⟩
 have dz:Ext B h H:=by rw[cS];exact Ext.push bI _
 have h9:H.get h.n=some (mq x.path x.gv vv bR):=by rw[cS];exact gf rfl
 have jf:h.n<H.n:=by rw[cS];simp
 have jg:=Nat.le_trans bI dz.n
 obtain⟨al,c1,a8⟩:=Ks (m-1) (B:=H.n) (h:=H) (Nat.le_refl _) (by omega) ((hs.b6 dz).le jg).v hf.c_ hf.lU
 rw[show m-1+1=m by omega] at c1
 obtain⟨ar,c2,bu⟩:=Ks (m-1) (B:=H.n) (h:=al) a8.n (by omega) ((((hs.b6 dz).le jg).b6 a8)).t hf.lt hf.El
 rw[show m-1+1=m by omega] at c2
 have mr:=(a8.get h.n jf).trans h9
 have lJ:=(bu.get h.n jf).trans mr
 have ax:Ext B h al:=dz.trans (Nat.le_refl _) (a8.le jg)
 have ay:Ext B h ar:=ax.trans (Nat.le_refl _) (bu.le jg)
 refine V3 m x.path x.gv vv bR h ⟨hs.v.cell,hs.t.cell,?_⟩
 rw[<-cS]
 refine⟨_,aL h9 rfl,_,al,c1,λaa=>⟨_,aL mr rfl,_,ar,c2,λad=>⟨_,aL lJ rfl,λaw=>?_,λaw=>?_⟩,λad=>?_⟩,λaa=>?_⟩
 rotate_left
 · have:x.gv=false:=by simpa using aw
   exact bM.of (eo (by unfold kY;rw[aa,ad,this];rfl)) ay
 · exact bM.of (eo (by unfold kY;rw[aa,ad];rfl)) ay
 · exact bM.of (eo (by unfold kY;rw[aa];rfl)) ax
 · have af:x.gv=true:=by simpa using aw
   refine⟨_,aL lJ rfl,_,hs.v.len ar,λaQ=>⟨_,aL lJ rfl,_,hs.t.len ar,bM.of (eo ?_) ay⟩,λaQ=>bM.of (eo ?_) ay⟩
   · unfold kY;rw[aa,ad,af,pD];simp[aQ]
   · unfold kY;rw[aa,ad,af];simp[aQ]
theorem We{e:gJ}(hf:fit e.2)(ag:kr e.2=0):nW e:=by
 obtain⟨n,ot⟩:=e
 cases ot with
 |none=>simp[kr] at ag
 |some t=>
  obtain⟨aa,ad⟩:=hf
  simp only[m1] at aa
  have nJ:¬60<sz t:=λh=>by simp[kr,h] at ag
  have hm:e0 t=true:=by
   cases hm:e0 t with
   |true=>rfl
   |false=>simp[kr,nJ,hm] at ag
  exact⟨t,rfl,Eg t (w2 t hm),aa,ad t rfl⟩
theorem Em:∀(p:aO) (l:List gJ),(∀e∈l,fit e.2)->jk p l=true->∀e∈l,nW e
 |_,[],_,_,e,he=>by cases he
 |p,a::l,hf,h,e,he=>by
  rw[jk] at h
  simp only[Bool.and_eq_true,decide_eq_true_eq] at h
  rcases List.mem_cons.1 he with rfl|he
  · exact We (hf _ (by simp)) h.2.2.1
  · exact Em a.1 l (λe he=>hf e (by simp[he])) h.2.2.2 e he
theorem Ku{x:mm}(hf:pS x)(h:kY x=true):(∀e∈x.lI,nW e)/\∀e∈x.mn,nW e:=by
 unfold kY at h
 simp only[Bool.and_eq_true] at h
 exact⟨Em _ _ hf.lU h.1,Em _ _ hf.El h.2.1⟩
theorem Wf(m:Nat){b B:Nat}{h0 y:J}{s:aO}{vv bR:I}{x:mm}(hm:240<=m)(af:B<=b)(a2:g5 b y s)(dH:Ext B h0 y)(hs:mo B h0 vv bR x)(hf:pS x)(ml:(∀e∈x.lI,nW e)/\∀e∈x.mn,nW e)(aq:s.length+(jM x).length<=1000000):
  m8 b y (s++jM x) (Y (m+1) (.fn 42) [.ptr b 0,.agg [.str x.path,.bool x.gv,vv,bR]] y):=by
 have iQ:=hf.p
 obtain⟨H,cS⟩:∃H,H=y.push (mq x.path x.gv vv bR):=⟨_,rfl⟩
 have dz:Ext y.n y H:=by rw[cS];exact Ext.push (Nat.le_refl _) _
 have h9:H.get y.n=some (mq x.path x.gv vv bR):=by rw[cS];exact gf rfl
 have jf:y.n<H.n:=by rw[cS];simp
 have xD:=(a2.ext dz).room 6
 have dk:¬y.n=b:=by have:=a2.1;omega
 obtain⟨al,c1,bl,a8⟩:=th (m-6) b s x.path (H.room 6) xD (by omega) (by omega)
 rw[show m-6+6=m by omega] at c1
 have hn:eJ b y.n y al:=(dz.mX b).trans dz.n (((Ext.room _ H 6).mX b).trans (Nat.le_refl _) (a8.le (by simp)))
 have mr:al.get y.n=some (mq x.path x.gv vv bR):=(a8.get y.n (by simp;omega) dk).trans h9
 have aN:y.n<al.n:=by have:=a8.n;simp at this;omega
 have ax:=a2.below af dH hn
 refine VN m b x.path x.gv vv bR y ⟨hs.v.cell,hs.t.cell,?_⟩
 rw[<-cS]
 refine⟨_,aL (nB h9) rfl,al,c1,_,aL mr rfl,λaa=>?_,λaa=>?_⟩
 · have bI:jM x=cV x.path++ct 1:=by unfold jM;rw[aa];rfl
   rw[bI] at aq⊢
   simp only[List.length_append] at aq
   obtain⟨ar,c2,bB,bu⟩:=pQ (m-5) b 1 (s++cV x.path) al bl (by omega) (by simp only[List.length_append];omega)
   rw[show m-5+5=m by omega] at c2
   exact⟨ar,c2,ar,rfl,by simpa only[List.append_assoc] using bB,hn.trans hn.n bu⟩
 · have bI:jM x=cV x.path++(ct 0++(j7 x.lI++j7 x.mn)):=by unfold jM;rw[aa];rfl
   rw[bI] at aq⊢
   simp only[List.length_append] at aq
   obtain⟨ar,c2,bB,bu⟩:=pQ (m-5) b 0 (s++cV x.path) al bl (by omega) (by simp only[List.length_append];omega)
   rw[show m-5+5=m by omega] at c2
   have lJ:=(bu.get y.n aN dk).trans mr
   have bz:y.n<ar.n:=Nat.lt_of_lt_of_le aN bu.n
   have lH:=hn.trans hn.n bu
   obtain⟨aZ,c3,de,cU⟩:=Kt (m-1) (b:=b) (B:=B) (h0:=h0) (x:=ar) (l:=x.lI) (by omega) af hs.v hf.c_ ml.1 bB (a2.below af dH lH) (by simp only[List.length_append];omega)
   rw[show m-1+1=m by omega] at c3
   have En:=(cU.get y.n bz dk).trans lJ
   have pM:=lH.trans lH.n cU
   obtain⟨cb,c4,jH,h5⟩:=Kt (m-1) (b:=b) (B:=B) (h0:=h0) (x:=aZ) (l:=x.mn) (by omega) af hs.t hf.lt ml.2 de (a2.below af dH pM) (by simp only[List.length_append];omega)
   rw[show m-1+1=m by omega] at c4
   exact⟨ar,c2,_,aL lJ rfl,aZ,c3,_,aL En rfl,cb,c4,cb,rfl,by simpa only[List.append_assoc] using jH,pM.trans pM.n h5⟩
theorem Kv(m:Nat){B:Nat}{h:J}{v:I}{l:List gJ}{s:aO}(hm:220<=m)(bI:B<=h.n)(ai:jj B h v l)(hlen:l.length<=90000)(ml:∀e∈l,nW e)(aq:s.length+(j7 l).length<=1000000):
  bM B h (.str (s++j7 l)) (Y (m+1) (.fn 68) [.str s,v] h):=by
 have Ek:j7 l=ct l.length++(l.map dO).flatten:=rfl
 rw[Ek] at aq⊢
 simp only[List.length_append] at aq
 obtain⟨al,c1,a8⟩:=dg.nT (m-2) l.length s h (by omega) (by omega)
 rw[show m-2+2=m by omega] at c1
 refine VV m s v h ⟨_,ai.len h,_,Aj l.length (by omega) h,_,al,c1,?_⟩
 refine bj.loop (by kernel_rfl) (λk st=>∃i y Γ,st=⟨Γ,[],.none,y⟩/\cg [(0,.str (s++(ct l.length++((l.map dO).take i).flatten))),(1,v),(5,.int .i64 (Int.ofNat i))] Γ/\l.length-i=k/\i<=l.length/\Ext B h y) ?_ l.length _ (by omega) ⟨0,al,_,rfl,⟨by simp[eQ],rfl,rfl,trivial⟩,by omega,by omega,a8.le bI⟩
 rintro k st ⟨i,y,Γ,rfl,cJ,av,ae,dH⟩
 by_cases aa:i<l.length
 · rcases ai with⟨_,rfl⟩|⟨dT,off,aH,rfl,j6,fA,a_,aA⟩
   · simp at aa
   have mi:Ext B h (y.room 14):=dH.trans (Nat.le_refl _) (Ext.room B y 14)
   obtain⟨w,ag,aU⟩:=xz j6 fA mi aa
   obtain⟨aV,aY⟩:=Ej ag
   have ad:i<(l.map dO).length:=by simpa using aa
   have t1:=tf (l.map dO) (i+1)
   have t2:=te (l.map dO) ad
   rw[t2,List.getElem_map] at t1
   simp only[List.length_append] at t1
   obtain⟨t,ay,cH,fJ,Kw⟩:=ml l[i] (List.getElem_mem aa)
   have hex:dO l[i]=cV l[i].1++jL t:=by show cV _++g4 l[i].2=_;rw[ay,g4]
   rw[hex] at t1
   simp only[List.length_append] at t1
   have t4:=u2 l[i].1
   rw[ay] at aU
   obtain⟨z,rfl⟩:=cW.xy (t:=t) aU
   obtain⟨ar,c2,bu⟩:=dg.td (m-3) (s++(ct l.length++((l.map dO).take i).flatten)) l[i].1 (y.room 14) (by simp only[List.length_append];omega) (by omega)
   rw[show m-3+3=m by omega] at c2
   have Am:Ext B h ar:=mi.trans (Nat.le_refl _) (bu.le (Nat.le_trans bI mi.n))
   have Kx:Ext B (y.room 14) ar:=bu.le (Nat.le_trans bI mi.n)
   obtain⟨aZ,c3,cU⟩:=Ko (sz t) t (Nat.le_refl _) cH (by omega) (by omega) m B ar (.ptr z 0) (s++(ct l.length++((l.map dO).take i).flatten)++cV l[i].1) (Nat.le_trans bI Am.n) (by omega) (cW.b6 (e3.ext Kx (Nat.le_refl _)) _ _ aU) (by simp only[List.length_append];omega)
   refine bj.pre (VW (Y m) dT off _ i aH _ y ⟨aa,aa,_,aV,_,ar,c2,aa,_,(gg Kx j6 aY),_,aZ,c3,QD,aY,by omega,?_⟩) cJ rfl rfl rfl
   refine⟨_,(by show l.length-(i+1)<k;omega),i+1,aZ,_,rfl,⟨?_,rfl,rfl,trivial⟩,rfl,by omega,Am.trans (Nat.le_refl _) cU⟩
   rw[t2,List.getElem_map,hex]
   simp[eQ]
 · refine bj.pre (VX (Y m) i v _ y ⟨_,ai.len y,aa,?_⟩) cJ rfl rfl rfl
   rw[List.take_of_length_le (by simp;omega)]
   exact⟨_,y,_,rfl,rfl,⟨rfl,trivial⟩,bM.of rfl dH⟩
theorem Wg(m:Nat){B:Nat}{h:J}{vv bR:I}{x:mm}{s:aO}(hm:240<=m)(bI:B<=h.n)(hs:mo B h vv bR x)(hf:pS x)(ml:(∀e∈x.lI,nW e)/\∀e∈x.mn,nW e)(aq:s.length+(jM x).length<=1000000):
  bM B h (.str (s++jM x)) (Y (m+1) (.fn 45) [.str s,.agg [.str x.path,.bool x.gv,vv,bR]] h):=by
 have iQ:=hf.p
 obtain⟨H,cS⟩:∃H,H=h.push (mq x.path x.gv vv bR):=⟨_,rfl⟩
 have dz:Ext B h H:=by rw[cS];exact Ext.push bI _
 have h9:H.get h.n=some (mq x.path x.gv vv bR):=by rw[cS];exact gf rfl
 have jf:h.n<H.n:=by rw[cS];simp
 have jg:=Nat.le_trans bI dz.n
 obtain⟨al,c1,a8⟩:=dg.td (m-3) s x.path H (by omega) (by omega)
 rw[show m-3+3=m by omega] at c1
 have mr:=(a8.get h.n jf).trans h9
 have ax:Ext B h al:=dz.trans (Nat.le_refl _) (a8.le jg)
 refine VY m s x.path x.gv vv bR h ⟨hs.v.cell,hs.t.cell,?_⟩
 rw[<-cS]
 refine⟨_,aL h9 rfl,_,al,c1,_,aL mr rfl,λaa=>?_,λaa=>?_⟩
 · have Eo:jM x=cV x.path++ct 1:=by unfold jM;rw[aa];rfl
   rw[Eo] at aq⊢
   simp only[List.length_append] at aq
   obtain⟨ar,c2,bu⟩:=dg.nT (m-2) 1 (s++cV x.path) al (by omega) (by simp only[List.length_append];omega)
   rw[show m-2+2=m by omega] at c2
   exact⟨_,ar,c2,bM.of (by simp) (ax.trans (Nat.le_refl _) (bu.le (Nat.le_trans bI ax.n)))⟩
 · have Eo:jM x=cV x.path++(ct 0++(j7 x.lI++j7 x.mn)):=by unfold jM;rw[aa];rfl
   rw[Eo] at aq⊢
   simp only[List.length_append] at aq
   have aN:h.n<al.n:=Nat.lt_of_lt_of_le jf a8.n
   have ti:Ext B h (al.room 9):=ax.trans (Nat.le_refl _) (Ext.room B al 9)
   obtain⟨ar,c2,bu⟩:=dg.nT (m-2) 0 (s++cV x.path) (al.room 9) (by omega) (by simp only[List.length_append];omega)
   rw[show m-2+2=m by omega] at c2
   have ay:Ext B h ar:=ti.trans (Nat.le_refl _) (bu.le (Nat.le_trans bI ti.n))
   have lJ:ar.get h.n=some (mq x.path x.gv vv bR):=(bu.get h.n (by simp;omega)).trans (nB mr)
   have bz:h.n<ar.n:=by have:=bu.n;simp at this;omega
   have s2:=(hs.b6 ay).le (Nat.le_trans bI ay.n)
   obtain⟨aZ,c3,cU⟩:=Kv (m-1) (B:=ar.n) (h:=ar) (l:=x.lI) (s:=s++cV x.path++ct 0) (by omega) (Nat.le_refl _) s2.v hf.c_ ml.1 (by simp only[List.length_append];omega)
   rw[show m-1+1=m by omega] at c3
   have En:=(cU.get h.n bz).trans lJ
   obtain⟨cb,c4,h5⟩:=Kv (m-1) (B:=ar.n) (h:=aZ) (l:=x.mn) (s:=s++cV x.path++ct 0++j7 x.lI) (by omega) cU.n (s2.b6 cU).t hf.lt ml.2 (by simp only[List.length_append];omega)
   rw[show m-1+1=m by omega] at c4
   have Ky:=Nat.le_trans bI ay.n
   exact⟨_,ar,c2,_,aL lJ rfl,_,aZ,c3,_,aL En rfl,_,cb,c4,hs.v.snd,aL (nB mr) rfl,hs.t.snd,aL lJ rfl,aL (nB mr) rfl,bM.of (by simp) ((ay.trans (Nat.le_refl _) (cU.le Ky)).trans (Nat.le_refl _) (h5.le Ky))⟩
end Go.Proofs.dQ
