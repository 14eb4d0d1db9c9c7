/-
  PROVED HERE: contracts of functions (Dz). No condition beside each statement's own.
-/
import Derived.Test.YtlelojncabdnoaaDoorDf
import Derived.Test.YtlelojncabdnoaaDoorAed
import Derived.Deep.Strs
import Derived.DataReads
set_option linter.unusedVariables false
set_option linter.unusedSimpArgs false
set_option maxRecDepth 100000
set_option maxHeartbeats 1000000
namespace Go.Proofs.h3
open Go aU Go.Proofs
variable {Q:bh->aQ->Prop} {R:bL->Prop} (call:cJ)
theorem SC(m:Nat)(a b c:Int)(d e:Nat)(v:I)(h:J)(H:∃b5:Int,∃z2:Int,∃z3:Int,∃aY bQ,aU.loadCells (J.push h (av [.int .i64 a,.int .i64 b,.int .i64 c,a6 d,a6 e] 24)) h.n 0 5=some [.int .i64 b5,.int .i64 z2,.int .i64 z3,a6 aY,a6 bQ]/\∃cX g1,Y m (.fn 6) [.agg [.int .i64 b5,.int .i64 z2,.int .i64 z3,a6 aY,a6 bQ]] (J.push h (av [.int .i64 a,.int .i64 b,.int .i64 c,a6 d,a6 e] 24))=.ret (aA cX) g1/\cc an Tryd.f3 (Y m) [1,1,1,1,0,1,0] (bb [(1,v),(2,aA h.n),(5,aA cX),(6,.map g1.n),(7,ak 0)] (J.push g1 (.map [] 0))) (λfj fk=>∃g2 dx,fj=.exit 0/\fk=bb dx g2/\eu [] dx/\∃cC g3,Y m (.fn 16) [] g2=.ret (.bool cC) g3/\R (.ret (.bool cC) g3))):
  R (Y (m+1) (.fn 3) [.agg [.int .i64 a,.int .i64 b,.int .i64 c,a6 d,a6 e],v] h):=
 BV [(31,.bJ (.dz [.z .i64,.z .i64,.z .i64,.n .u64,.n .u64])),(4000,.gR [1,2,5,6,7] [(.exit 0,[])])] [(0,.dz [.v (.int .i64 a),.v (.int .i64 b),.v (.int .i64 c),.v (a6 d),.v (a6 e)]),(1,.o v)] Tryd.func3 H
theorem SD(q p s i:Nat)(v:I)(h:J)(H:∃aY,gX an h 25 v=some (ak aY)/\(i<aY->(i<60->Q .nrm (bb [(1,v),(2,aA q),(5,aA p),(6,.map s),(7,ak i)] h))/\(¬i<60->Q (.exit 0) (bb [(1,v),(2,aA q),(5,aA p),(6,.map s),(7,ak i)] h)))/\(¬i<aY->Q (.exit 0) (bb [(1,v),(2,aA q),(5,aA p),(6,.map s),(7,ak i)] h))):
  cc an Tryd.f3 call [1,1,1,1,0,1,0,0,0] (bb [(1,v),(2,aA q),(5,aA p),(6,.map s),(7,ak i)] h) Q:=
 fy [] [1,2,5,6,7] [1] H
theorem SE(lp off N q p s i:Nat)(cp:cy)(h:J)(H:i<N/\∃b5:Int,∃s1 s2 bw,∃z2:Int,aU.loadCells h lp (off+i*5) 5=some [.int .i64 b5,.str s1,.str s2,.str bw,.int .i64 z2]/\I.cL (.int .i64 b5)=true/\I.cL (.int .i64 z2)=true/\∃g1,aU.storeCells (J.push h (av [ak 0,.str [],.str [],.str [],ak 0] 30)) h.n 0 [.int .i64 b5,.str s1,.str s2,.str bw,.int .i64 z2]=some g1/\Q .nrm (bb [(1,.slice lp off N cp),(2,aA q),(5,aA p),(6,.map s),(7,ak i),(8,aA h.n)] g1)):
  cc an Tryd.f3 call [1,1,1,1,0,1,0,0,1,0,0,0] (bb [(1,.slice lp off N cp),(2,aA q),(5,aA p),(6,.map s),(7,ak i)] h) Q:=
 fy [(49,.bJ (.dz [.z .i64,.st,.st,.st,.z .i64]))] [1,2,5,6,7,8] [] H
theorem SF(q p s i x:Nat)(v:I)(h:J)(H:∃s1,aO (h.room 8) x 1=some (.str s1)/\∃s2 g1,call (.fn 7) [.str s1] (h.room 8)=.ret (.str s2) g1/\∃bw,aO g1 x 2=some (.str bw)/\∃bG g2,call (.fn 7) [.str bw] g1=.ret (.str bG) g2/\aO (h.room 8) x 2=some (.str bw)/\Q .nrm (bb [(1,v),(2,aA q),(5,aA p),(6,.map s),(7,ak i),(8,aA x),(9,.str s2),(10,.str bG)] g2)):
  cc an Tryd.f3 call [1,1,1,1,0,1,0,0,1,0,0,1,0] (bb [(1,v),(2,aA q),(5,aA p),(6,.map s),(7,ak i),(8,aA x)] h) Q:=
 fy [] [1,2,5,6,7,8,9,10] [1] H
theorem SG(q p s i x:Nat)(bl a2:List UInt8)(v:I)(h:J)(H:∃v1 g1,call (.fn 8) [aA p] h=.ret v1 g1/\Q .nrm (bb [(1,v),(2,aA q),(5,aA p),(6,.map s),(7,ak i),(8,aA x),(9,.str bl),(10,.str a2),(11,v1)] g1)):
  cc an Tryd.f3 call [1,1,1,1,0,1,0,0,1,0,0,1,1,0] (bb [(1,v),(2,aA q),(5,aA p),(6,.map s),(7,ak i),(8,aA x),(9,.str bl),(10,.str a2)] h) Q:=
 fy [(57,.bJ .o)] [1,2,5,6,7,8,9,10,11] [1] H
theorem SH(q p s i x:Nat)(bl a2:List UInt8)(v w:I)(h:J)(H:Q .nrm (bb [(1,v),(2,aA q),(5,aA p),(6,.map s),(7,ak i),(8,aA x),(9,.str bl),(10,.str a2),(11,w),(12,ak 0),(13,.slice h.n 0 0 (.exact 0))] (J.push h (av [] 9)))):
  cc an Tryd.f3 call [1,1,1,1,0,1,0,0,1,0,0,1,1,1,0] (bb [(1,v),(2,aA q),(5,aA p),(6,.map s),(7,ak i),(8,aA x),(9,.str bl),(10,.str a2),(11,w)] h) Q:=
 fy [] [1,2,5,6,7,8,9,10,11,12,13] [1,11] H
theorem SI(q p s i x c:Nat)(bl a2:List UInt8)(v w:I)(h:J)(H:∃b5:Int,aO h x 0=some (.int .i64 b5)/\Q .nrm (bb [(1,v),(2,aA q),(5,aA p),(6,.map s),(7,ak i),(8,aA x),(9,.str bl),(10,.str a2),(11,w),(12,ak 0),(13,.slice c 0 0 (.exact 0)),(60,.int .i64 b5)] h)):
  cc an Tryd.f3 call [1,1,1,1,0,1,0,0,1,0,0,1,1,1,1,0,0] (bb [(1,v),(2,aA q),(5,aA p),(6,.map s),(7,ak i),(8,aA x),(9,.str bl),(10,.str a2),(11,w),(12,ak 0),(13,.slice c 0 0 (.exact 0))] h) Q:=
 fy [(60,.bJ (.z .i64))] [1,2,5,6,7,8,9,10,11,12,13,60] [1,11] H
theorem SJ(q p s i x c:Nat)(bl a2:List UInt8)(v w:I)(z:Int)(h:J)(H:(dQ z (.ofNat 0)=true->Q .nrm (bb [(1,v),(2,aA q),(5,aA p),(6,.map s),(7,ak i),(8,aA x),(9,.str bl),(10,.str a2),(11,w),(12,ak 0),(13,.slice c 0 0 (.exact 0)),(60,.int .i64 z),(61,.bool true)] h))/\(dQ z (.ofNat 0)=false->(dQ z (.ofNat 1)=true->Q .nrm (bb [(1,v),(2,aA q),(5,aA p),(6,.map s),(7,ak i),(8,aA x),(9,.str bl),(10,.str a2),(11,w),(12,ak 0),(13,.slice c 0 0 (.exact 0)),(60,.int .i64 z),(61,.bool true)] h))/\(dQ z (.ofNat 1)=false->Q .nrm (bb [(1,v),(2,aA q),(5,aA p),(6,.map s),(7,ak i),(8,aA x),(9,.str bl),(10,.str a2),(11,w),(12,ak 0),(13,.slice c 0 0 (.exact 0)),(60,.int .i64 z),(61,.bool (dQ z (.ofNat 2)))] h)))):
  cc an Tryd.f3 call [1,1,1,1,0,1,0,0,1,0,0,1,1,1,1,0,1,0,0] (bb [(1,v),(2,aA q),(5,aA p),(6,.map s),(7,ak i),(8,aA x),(9,.str bl),(10,.str a2),(11,w),(12,ak 0),(13,.slice c 0 0 (.exact 0)),(60,.int .i64 z)] h) Q:=
 fy [] [1,2,5,6,7,8,9,10,11,12,13,60,61] [1,11,60] H
theorem SK(q p s i x c:Nat)(bl a2:List UInt8)(v w:I)(h:J)(H:true=true/\∃b5:Int,∃s1 s2 bw,∃z2:Int,aU.loadCells h x 0 5=some [.int .i64 b5,.str s1,.str s2,.str bw,.int .i64 z2]/\∃bG g1,call (.fn 10) [.agg [.int .i64 b5,.str s1,.str s2,.str bw,.int .i64 z2]] h=.ret (.str bG) g1/\∃aY bQ g2,call (.fn 9) [aA p,.str bl,.str bG] g1=.ret (.aF [a6 aY,ak bQ]) g2/\(bQ=0->∃bP cn cX dL g3,call (.fn 11) [aA p,.str bl] g2=.ret (.aF [.agg [.str bP,.str cn,a6 cX],ak dL]) g3/\∃g4,aU.storeCells (J.push g3 (av [.str [],.str [],a6 0] 40)) g3.n 0 [.str bP,.str cn,a6 cX]=some g4/\dL=0/\∃cP,aO (g4.room 23) g3.n 1=some (.str cP)/\∃z3:Int,∃rY wo wq,∃z4:Int,aU.loadCells (g4.room 23) x 0 5=some [.int .i64 z3,.str rY,.str wo,.str wq,.int .i64 z4]/\∃wu g5,call (.fn 10) [.agg [.int .i64 z3,.str rY,.str wo,.str wq,.int .i64 z4]] (g4.room 23)=.ret (.str wu) g5/\(!cW cP wu)=false/\∃fL,aO g5 g3.n 2=some (a6 fL)/\fL=aY/\∃wv,aO g5 g3.n 0=some (.str wv)/\∃n6,gq an g5 28 (.map s) (.str wv) false=some (a6 n6)/\aO g5 g3.n 1=some (.str cP)/\I.sound (.int .i64 z3)=true/\I.sound (.int .i64 z4)=true/\¬aY<=n6/\∃IQ,aO g5 g3.n 0=some (.str IQ)/\∃g6,(jj an g5 28 (.map s) (.str IQ) (a6 aY)=some g6/\I.aF []=.aF [])/\∃IS,aO g6 g3.n 0=some (.str IS)/\∃n7 n8 pY,∃c1:cy,∃g7,eA an (J.push g6 (av [.str IS] 9)) 35 (some 35) (.slice c 0 0 (.exact 0)) (.slice g6.n 0 1 (.exact 1))=some (.slice n7 n8 pY c1,g7)/\Q .nrm (bb [(1,v),(2,aA q),(5,aA p),(6,.map s),(7,ak i),(11,w),(12,ak bQ),(13,.slice n7 n8 pY c1)] g7))/\(¬bQ=0->Q .nrm (bb [(1,v),(2,aA q),(5,aA p),(6,.map s),(7,ak i),(11,w),(12,ak bQ),(13,.slice c 0 0 (.exact 0))] g2))):
  cc an Tryd.f3 call [1,1,1,1,0,1,0,0,1,0,0,1,1,1,1,0,1,0,1] (bb [(1,v),(2,aA q),(5,aA p),(6,.map s),(7,ak i),(8,aA x),(9,.str bl),(10,.str a2),(11,w),(12,ak 0),(13,.slice c 0 0 (.exact 0)),(61,.bool true)] h) Q:=
 fy [(1061,.t),(70,.bJ (.ev [.n .u64,.n .i64])),(65,.bJ (.ev [.n .u64,.n .i64])),(68,.bJ (.dz [.z .i64,.st,.st,.st,.z .i64])),(87,.bJ (.dz [.z .i64,.st,.st,.st,.z .i64])),(79,.bJ (.ev [.dz [.st,.st,.n .u64],.n .i64])),(76,.bJ (.ev [.dz [.st,.st,.n .u64],.n .i64])),(1085,.f),(1092,.f),(1098,.f),(1104,.f),(88,.bJ .st),(93,.bJ (.n .u64)),(102,.bJ (.n .u64)),(113,.bJ .jO)] [1,2,5,6,7,11,12,13] [1,11] H
theorem SL(q p s i x c:Nat)(bl a2:List UInt8)(v w:I)(z:Int)(h:J)(H:false=false/\dQ z (.ofNat 3)=true/\∃s1 s2 aY bQ g1,call (.fn 11) [aA p,.str bl] h=.ret (.aF [.agg [.str s1,.str s2,a6 aY],ak bQ]) g1/\∃g2,aU.storeCells (J.push g1 (av [.str [],.str [],a6 0] 40)) g1.n 0 [.str s1,.str s2,a6 aY]=some g2/\∃cX g3,call (.fn 12) [aA p,.str bl] g2=.ret (ak cX) g3/\∃bw bG dL fL g4,call (.fn 11) [aA p,.str bl] g3=.ret (.aF [.agg [.str bw,.str bG,a6 dL],ak fL]) g4/\∃g5,aU.storeCells (J.push g4 (av [.str [],.str [],a6 0] 40)) g4.n 0 [.str bw,.str bG,a6 dL]=some g5/\cX=0/\fL=5/\∃bP,aO g5 g1.n 0=some (.str bP)/\∃n6 n7 n8,∃c1:cy,∃g6,eA an (J.push g5 (av [.str bP] 9)) 35 (some 35) (.slice c 0 0 (.exact 0)) (.slice g5.n 0 1 (.exact 1))=some (.slice n6 n7 n8 c1,g6)/\Q .nrm (bb [(1,v),(2,aA q),(5,aA p),(6,.map s),(7,ak i),(11,w),(12,ak cX),(13,.slice n6 n7 n8 c1)] g6)):
  cc an Tryd.f3 call [1,1,1,1,0,1,0,0,1,0,0,1,1,1,1,0,1,0,1] (bb [(1,v),(2,aA q),(5,aA p),(6,.map s),(7,ak i),(8,aA x),(9,.str bl),(10,.str a2),(11,w),(12,ak 0),(13,.slice c 0 0 (.exact 0)),(60,.int .i64 z),(61,.bool false)] h) Q:=
 fy [(1061,.f),(1114,.t),(119,.bJ (.ev [.dz [.st,.st,.n .u64],.n .i64])),(116,.bJ (.ev [.dz [.st,.st,.n .u64],.n .i64])),(128,.bJ (.ev [.dz [.st,.st,.n .u64],.n .i64])),(125,.bJ (.ev [.dz [.st,.st,.n .u64],.n .i64])),(1134,.t),(1136,.f),(141,.bJ .jO)] [1,2,5,6,7,11,12,13] [1,11,60] H
theorem SM(q p s i x c:Nat)(bl a2:List UInt8)(v w:I)(z:Int)(h:J)(H:false=false/\dQ z (.ofNat 3)=true/\∃s1 s2 aY bQ g1,call (.fn 11) [aA p,.str bl] h=.ret (.aF [.agg [.str s1,.str s2,a6 aY],ak bQ]) g1/\∃g2,aU.storeCells (J.push g1 (av [.str [],.str [],a6 0] 40)) g1.n 0 [.str s1,.str s2,a6 aY]=some g2/\∃cX g3,call (.fn 12) [aA p,.str bl] g2=.ret (ak cX) g3/\∃bw bG dL fL g4,call (.fn 11) [aA p,.str bl] g3=.ret (.aF [.agg [.str bw,.str bG,a6 dL],ak fL]) g4/\∃g5,aU.storeCells (J.push g4 (av [.str [],.str [],a6 0] 40)) g4.n 0 [.str bw,.str bG,a6 dL]=some g5/\¬cX=0/\∃bP,aO g5 g1.n 0=some (.str bP)/\∃n6 n7 n8,∃c1:cy,∃g6,eA an (J.push g5 (av [.str bP] 9)) 35 (some 35) (.slice c 0 0 (.exact 0)) (.slice g5.n 0 1 (.exact 1))=some (.slice n6 n7 n8 c1,g6)/\Q .nrm (bb [(1,v),(2,aA q),(5,aA p),(6,.map s),(7,ak i),(11,w),(12,ak cX),(13,.slice n6 n7 n8 c1)] g6)):
  cc an Tryd.f3 call [1,1,1,1,0,1,0,0,1,0,0,1,1,1,1,0,1,0,1] (bb [(1,v),(2,aA q),(5,aA p),(6,.map s),(7,ak i),(8,aA x),(9,.str bl),(10,.str a2),(11,w),(12,ak 0),(13,.slice c 0 0 (.exact 0)),(60,.int .i64 z),(61,.bool false)] h) Q:=
 fy [(1061,.f),(1114,.t),(119,.bJ (.ev [.dz [.st,.st,.n .u64],.n .i64])),(116,.bJ (.ev [.dz [.st,.st,.n .u64],.n .i64])),(128,.bJ (.ev [.dz [.st,.st,.n .u64],.n .i64])),(125,.bJ (.ev [.dz [.st,.st,.n .u64],.n .i64])),(1134,.f),(1136,.f),(141,.bJ .jO)] [1,2,5,6,7,11,12,13] [1,11,60] H
theorem SN(q p s i x c:Nat)(bl a2:List UInt8)(v w:I)(z:Int)(h:J)(H:false=false/\dQ z (.ofNat 3)=false/\dQ z (.ofNat 4)=true/\∃s1 s2 aY bQ g1,call (.fn 11) [aA p,.str bl] h=.ret (.aF [.agg [.str s1,.str s2,a6 aY],ak bQ]) g1/\∃g2,aU.storeCells (J.push g1 (av [.str [],.str [],a6 0] 40)) g1.n 0 [.str s1,.str s2,a6 aY]=some g2/\∃cX dL g3,call (.fn 13) [aA p,.str bl,.str a2] g2=.ret (.aF [a6 cX,ak dL]) g3/\(dL=0->∃bw bG fL n6 g4,call (.fn 11) [aA p,.str a2] g3=.ret (.aF [.agg [.str bw,.str bG,a6 fL],ak n6]) g4/\∃g5,aU.storeCells (J.push g4 (av [.str [],.str [],a6 0] 40)) g4.n 0 [.str bw,.str bG,a6 fL]=some g5/\∃bP cn n7 n8 g6,call (.fn 11) [aA p,.str bl] g5=.ret (.aF [.agg [.str bP,.str cn,a6 n7],ak n8]) g6/\∃g7,aU.storeCells (J.push g6 (av [.str [],.str [],a6 0] 40)) g6.n 0 [.str bP,.str cn,a6 n7]=some g7/\n6=0/\n8=5/\∃cP,aO g7 g4.n 1=some (.str cP)/\∃rY,aO g7 g1.n 1=some (.str rY)/\(!cW cP rY)=false/\∃pY,aO g7 g4.n 2=some (a6 pY)/\pY=cX/\∃wo,aO g7 g4.n 0=some (.str wo)/\∃n10,gq an g7 28 (.map s) (.str wo) false=some (a6 n10)/\¬cX<=n10/\∃wq,aO g7 g4.n 0=some (.str wq)/\∃g8,(jj an g7 28 (.map s) (.str wq) (a6 cX)=some g8/\I.aF []=.aF [])/\∃wu,aO g8 g1.n 0=some (.str wu)/\∃wv,aO g8 g4.n 0=some (.str wv)/\∃n11 n12 n13,∃c1:cy,∃g9,eA an (J.push g8 (av [.str wu,.str wv] 9)) 35 (some 35) (.slice c 0 0 (.exact 0)) (.slice g8.n 0 2 (.exact 2))=some (.slice n11 n12 n13 c1,g9)/\Q .nrm (bb [(1,v),(2,aA q),(5,aA p),(6,.map s),(7,ak i),(11,w),(12,ak dL),(13,.slice n11 n12 n13 c1)] g9))/\(¬dL=0->Q .nrm (bb [(1,v),(2,aA q),(5,aA p),(6,.map s),(7,ak i),(11,w),(12,ak dL),(13,.slice c 0 0 (.exact 0))] g3))):
  cc an Tryd.f3 call [1,1,1,1,0,1,0,0,1,0,0,1,1,1,1,0,1,0,1] (bb [(1,v),(2,aA q),(5,aA p),(6,.map s),(7,ak i),(8,aA x),(9,.str bl),(10,.str a2),(11,w),(12,ak 0),(13,.slice c 0 0 (.exact 0)),(60,.int .i64 z),(61,.bool false)] h) Q:=
 fy [(1061,.f),(1114,.f),(1142,.t),(147,.bJ (.ev [.dz [.st,.st,.n .u64],.n .i64])),(144,.bJ (.ev [.dz [.st,.st,.n .u64],.n .i64])),(163,.bJ (.ev [.dz [.st,.st,.n .u64],.n .i64])),(160,.bJ (.ev [.dz [.st,.st,.n .u64],.n .i64])),(169,.bJ (.ev [.dz [.st,.st,.n .u64],.n .i64])),(166,.bJ (.ev [.dz [.st,.st,.n .u64],.n .i64])),(154,.bJ (.ev [.n .u64,.n .i64])),(150,.bJ (.ev [.n .u64,.n .i64])),(1175,.f),(1179,.f),(1186,.f),(1192,.f),(1198,.f),(187,.bJ (.n .u64)),(196,.bJ (.n .u64)),(209,.bJ .jO)] [1,2,5,6,7,11,12,13] [1,11,60] H
theorem SO(q p s i x c:Nat)(bl a2:List UInt8)(v w:I)(z:Int)(h:J)(H:false=false/\dQ z (.ofNat 3)=false/\dQ z (.ofNat 4)=false/\Q .nrm (bb [(1,v),(2,aA q),(5,aA p),(6,.map s),(7,ak i),(11,w),(12,ak 0),(13,.slice c 0 0 (.exact 0))] h)):
  cc an Tryd.f3 call [1,1,1,1,0,1,0,0,1,0,0,1,1,1,1,0,1,0,1] (bb [(1,v),(2,aA q),(5,aA p),(6,.map s),(7,ak i),(8,aA x),(9,.str bl),(10,.str a2),(11,w),(12,ak 0),(13,.slice c 0 0 (.exact 0)),(60,.int .i64 z),(61,.bool false)] h) Q:=
 fy [(1061,.f),(1114,.f),(1142,.f)] [1,2,5,6,7,11,12,13] [1,11,60] H
theorem SP(q p s i e:Nat)(v w u:I)(h:J)(H:∃v1 g1,call (.fn 8) [aA p] h=.ret v1 g1/\Q .nrm (bb [(1,v),(2,aA q),(5,aA p),(6,.map s),(7,ak i),(11,w),(12,ak e),(13,u),(30,v1)] g1)):
  cc an Tryd.f3 call [1,1,1,1,0,1,0,0,1,0,0,1,1,1,1,1,0] (bb [(1,v),(2,aA q),(5,aA p),(6,.map s),(7,ak i),(11,w),(12,ak e),(13,u)] h) Q:=
 fy [(211,.bJ .o)] [1,2,5,6,7,11,12,13,30] [1,11,13] H
theorem SQ(q p s i e:Nat)(v w u y:I)(h:J)(H:(e=0->Q .nrm (bb [(1,v),(2,aA q),(5,aA p),(6,.map s),(7,ak i),(11,w),(13,u),(30,y)] h))/\(¬e=0->Q .nrm (bb [(1,v),(2,aA q),(5,aA p),(6,.map s),(7,ak i),(11,w),(13,.bK),(30,y)] h))):
  cc an Tryd.f3 call [1,1,1,1,0,1,0,0,1,0,0,1,1,1,1,1,1,0] (bb [(1,v),(2,aA q),(5,aA p),(6,.map s),(7,ak i),(11,w),(12,ak e),(13,u),(30,y)] h) Q:=
 fy [] [1,2,5,6,7,11,13,30] [1,11,13,30] H
theorem SR(q p s i:Nat)(v w u y:I)(h:J)(H:∃g1,call (.fn 14) [w,y,u] (h.room 33)=.ret (.bool true) g1/\∃g2,call (.fn 14) [y,w,u] g1=.ret (.bool true) g2/\∃aY,gX an g2 32 y=some (ak aY)/\∃b5:Int,aO g2 q 0=some (.int .i64 b5)/\∃z2:Int,fA jK (.int .i64 b5) [ak 0]=some (.int .i64 z2)/\eW z2 (.ofNat aY)=false/\∃z3:Int,∃g3,call (.fn 15) [aA p] g2=.ret (.int .i64 z3) g3/\∃z4:Int,aO g3 q 1=some (.int .i64 z4)/\∃z5:Int,fA jK (.int .i64 z4) [ak 0]=some (.int .i64 z5)/\eW z5 z3=false/\∃bQ,gX an g3 32 y=some (ak bQ)/\kx w/\kx y/\kx u/\kx y/\kx w/\kx u/\kx y/\I.sound (.int .i64 b5)=true/\I.sound (.int .i64 z2)=true/\I.sound (.int .i64 z4)=true/\aO g2 q 1=some (.int .i64 z4)/\I.sound (.int .i64 z5)=true/\fA jK (.int .i64 z4) [ak 0]=some (.int .i64 z5)/\kx y/\¬64<bQ/\Q .nrm (bb [(1,v),(2,aA q),(5,aA p),(6,.map s),(7,ak i)] g3)):
  cc an Tryd.f3 call [1,1,1,1,0,1,0,0,1,0,0,1,1,1,1,1,1,1] (bb [(1,v),(2,aA q),(5,aA p),(6,.map s),(7,ak i),(11,w),(13,u),(30,y)] h) Q:=
 fy [(217,.bJ (.is (.bool true))),(223,.bJ (.is (.bool true))),(236,.bJ (.z .i64)),(230,.bJ (.z .i64)),(231,.bJ (.z .i64)),(238,.bJ (.z .i64)),(239,.bJ (.z .i64)),(1220,.f),(1227,.f),(1235,.f),(1243,.f),(1246,.f)] [1,2,5,6,7] [1,11,13,30] H
theorem SS(q p s i:Nat)(v:I)(h:J)(H:i+1<9223372036854775808/\Q .nrm (bb [(1,v),(2,aA q),(5,aA p),(6,.map s),(7,ak (i+1))] h)):
  cc an Tryd.f3 call [1,1,1,1,0,1,0,0,1,1] (bb [(1,v),(2,aA q),(5,aA p),(6,.map s),(7,ak i)] h) Q:=
 fy [] [1,2,5,6,7] [1] H
def IT(en bT eN B d:Nat):Prop:=(d<en\/d=bT\/eN<=d)/\d<B
def CR(en bT d:Nat):Prop:=d<en\/d=bT
structure ox(en bT eN p:Nat)(Q:fb)(i:Nat)(y:J)(s:dd)(cx:List (a1×Nat)):Prop where
 kH:∀B,dP (IT en bT eN B) y p Q s
 fit:hN i s
 IU:i<60
 nF:ll cx s
 nG:lo y bT cx
 lt:en<=bT/\bT<eN/\eN<=y.n
theorem ox.ej{en bT eN p:Nat}{Q:fb}{i:Nat}{y:J}{s:dd}{cx:List (a1×Nat)}(C:ox en bT eN p Q i y s cx):s.ej<=1000000:=by
 have h1:=C.fit.lT
 have aa:=C.IU
 simp only[Int.ofNat_eq_natCast] at h1
 omega
theorem ox.bC{en bT eN p:Nat}{Q:fb}{i:Nat}{y:J}{s:dd}{cx:List (a1×Nat)}(C:ox en bT eN p Q i y s cx):∀c,de s.ts c<=1000000:=λc=>by
 have h1:=C.fit.bC c
 have aa:=C.IU
 omega
structure p1(en bT eN p:Nat)(Q:fb)(i:Nat)(y g:J)(s aD:dd)(cx:List (a1×Nat))(e:Nat)(u:I)(cm:List a1):Prop where
 kH:dP (CR en bT) g p Q aD
 fit:hN (i+1) aD
 nF:ll cx aD
 nG:lo g bT cx
 n:y.n<=g.n
 jE:∀d,d<y.n->(d<en\/eN<=d)->g.get d=y.get d
 SU:e=0->mT g u cm/\cm.length<=2/\ha s.aP aD.aP cm/\ha aD.aP s.aP cm
 bad:¬e=0->aD=s
theorem tw(g:J)(f:b7):∃cb,aU.storeCells (g.push (av [.str [],.str [],a6 0] 40)) g.n 0 (c_ f)=some cb/\cb.n=g.n+1/\cb.get g.n=some (av (c_ f) 40)/\Ext g.n g cb:=
 ⟨_,iM (cT rfl) rfl rfl,rfl,fw rfl,Ext.nn (Nat.le_refl _) (Ext.push (Nat.le_refl _) _)⟩
theorem tx{en bT eN B p:Nat}{Q:fb}{y g:J}{s:dd}(w:dP (IT en bT eN B) y p Q s)(ay:en<=B)(h1:bT<B)(aB:y.n<=g.n)(hk:∀d,d<y.n->d≠bT->g.get d=y.get d):dP (CR en bT) g p Q s:=
 w.move aB (λd al lU=>hk d al λe=>lU ⟨.inr (.inl e),by omega⟩) λd al ad=>by
  rcases ad with ad|ad
  · exact⟨.inl ad,by omega⟩
  · exact⟨.inr (.inl ad),by omega⟩
theorem IV{h:J}{c:Nat}{a:a1}(ab:h.get c=some (av [] 9))(aB:c<h.n):∃g,eA an (h.push (av [.str a] 9)) 35 (some 35) (.slice c 0 0 (.exact 0)) (.slice h.n 0 1 (.exact 1))=some (.slice (h.n+1) 0 1 (.aE 1),g)/\mT g (.slice (h.n+1) 0 1 (.aE 1)) [a]/\Ext h.n h g:=by
 refine⟨_,IP (xs:=[a]) ab aB (by simp) (by simp),.inr ⟨h.n+1,0,.aE 1,rfl,by simp,λi ag=>?_⟩,(Ext.push (Nat.le_refl _) _).trans (Nat.le_succ _) (Ext.push (by simp) _)⟩
 have ag:i<1:=ag
 obtain rfl:i=0:=by omega
 exact ld1 (cT (by simp)) rfl
theorem SV{h:J}{c:Nat}{a b:a1}(ab:h.get c=some (av [] 9))(aB:c<h.n):∃g,eA an (h.push (av [.str a,.str b] 9)) 35 (some 35) (.slice c 0 0 (.exact 0)) (.slice h.n 0 2 (.exact 2))=some (.slice (h.n+1) 0 2 (.aE 1),g)/\mT g (.slice (h.n+1) 0 2 (.aE 1)) [a,b]/\Ext h.n h g:=by
 refine⟨_,IP (xs:=[a,b]) ab aB (by simp) (by simp),.inr ⟨h.n+1,0,.aE 1,rfl,by simp,λi ag=>?_⟩,(Ext.push (Nat.le_refl _) _).trans (Nat.le_succ _) (Ext.push (by simp) _)⟩
 have ag:i<2:=ag
 rcases(by omega:i=0\/i=1) with rfl|rfl
 · exact ld1 (cT (by simp)) rfl
 · exact ld1 (cT (by simp)) rfl
theorem SX(m:Nat)(hm:40<=m){en bT eN p x c q i:Nat}{Q:fb}{y:J}{s:dd}{cx:List (a1×Nat)}{z nH:Int}{ef nE t bl a2:a1}{v w:I}(C:ox en bT eN p Q i y s cx)
  (U:y.get x=some (av [.int .i64 z,.str ef,.str nE,.str t,.int .i64 nH] 30))(ab:y.get c=some (av [] 9))(mZ:eN<=x/\x<y.n)(kl:eN<=c/\c<y.n)(h1:bl.length<=200){R:bh->aQ->Prop}
  (gQ:∀e u cm g aD dX,p1 en bT eN p Q i y g s aD dX e u cm->R .nrm (bb [(1,v),(2,.ptr q 0),(5,.ptr p 0),(6,.map bT),(7,ak i),(11,w),(12,ak e),(13,u)] g)):
  cc an Tryd.f3 (Y m) [1,1,1,1,0,1,0,0,1,0,0,1,1,1,1,0,1,0,1] (bb [(1,v),(2,.ptr q 0),(5,.ptr p 0),(6,.map bT),(7,ak i),(8,.ptr x 0),(9,.str bl),(10,.str a2),(11,w),(12,ak 0),(13,.slice c 0 0 (.exact 0)),(61,.bool true)] y) R:=by
 obtain⟨m,rfl⟩:∃k,m=k+2:=⟨m-2,by omega⟩
 obtain⟨fY,dx,l2⟩:=C.lt
 obtain⟨g1,c1,dq⟩:=II m z nH ef nE t y
 have aY:=dq.n
 have SY:=Sp t nH
 have cK:=(C.kH g1.n).ext dq
 obtain⟨g2,c2,cf,bZ⟩:=Qn (m+1) ow (a:=bl) (t:=p0 t nH) (by omega) cK C.fit.ok C.ej (by omega) (by omega) C.bC λd h=>h.2
 obtain⟨dj,hB,ki⟩:=SA (cl:=gW) C.fit C.nF bl SY
 have bQ:=bZ.n
 have tz:∀d,d<y.n->(d<en\/d=bT\/eN<=d)->g2.get d=y.get d:=λd al h=>(bZ.get d (by omega) ⟨h,by omega⟩).trans (dq.get d al)
 generalize gD gW bl (p0 t nH) s=W at c2 cf dj hB ki
 obtain⟨n,e,aD⟩:=W
 simp only at c2 cf dj hB ki
 refine SK (Y (m+2)) q p bT i x c bl a2 v w y ⟨rfl,z,ef,nE,t,nH,mJ U rfl,p0 t nH,g1,c1,n,e,g2,c2,λdg=>?_,λdg=>?_⟩
 · subst dg
   obtain⟨f,aX,bx,db,dc,gC,rR,CS⟩:=ki rfl
   obtain⟨g3,c3,hD,gk⟩:=tq (m+1) ow (a:=bl) (by omega) cf (by omega) λd h=>by have:=h.2;omega
   rw[aX] at c3
   have cX:=gk.n
   obtain⟨g4,t4,dL,l1,hp⟩:=tw g3 f
   have Uv:(g4.room 23).n=g4.n+23:=rfl
   have Uw:Ext g4.n g4 (g4.room 23):=Ext.room _ _ _
   have IW:(g4.room 23).get g3.n=some (av (c_ f) 40):=l1
   have ho:∀d,d<g2.n->(g4.room 23).get d=g2.get d:=λd al=>(hp.get d (by omega)).trans (gk.get d al)
   have AQ:=(ho x (by omega)).trans ((tz x mZ.2 (.inr (.inr mZ.1))).trans U)
   obtain⟨g5,Cw,fV⟩:=II m z nH ef nE t (g4.room 23)
   have fL:=fV.n
   have ku:=(fV.get g3.n (by omega)).trans IW
   have jr:∀d,d<g2.n->g5.get d=g2.get d:=λd al=>(fV.get d (by omega)).trans (ho d al)
   have bP:lo g5 bT cx:=C.nG.fm ((jr bT (by omega)).trans (tz bT (by omega) (.inr (.inl rfl))))
   obtain⟨g6,SZ,cn,n6,CT⟩:=bP.eJ f.p n
   have BH:=(CT g3.n (by omega)).trans ku
   have wx:=(CT c (by omega)).trans ((jr c (by omega)).trans ((tz c kl.2 (.inr (.inr kl.1))).trans ab))
   obtain⟨g7,pE,S0,fM⟩:=IV (a:=f.p) wx (by omega)
   have n7:=fM.n
   have n1:∀d,d<g2.n->d≠bT->g7.get d=g2.get d:=λd al cj=>(fM.get d (by omega)).trans ((CT d cj).trans (jr d al))
   refine⟨f.p,f.x,f.n,0,g3,c3,g4,t4,rfl,f.x,ld1 IW rfl,z,ef,nE,t,nH,mJ AQ rfl,p0 t nH,g5,Cw,?_,f.n,ld1 ku rfl,db,f.p,ld1 ku rfl,_,bP.look f.p,ld1 ku rfl,rfl,rfl,dc,f.p,ld1 ku rfl,g6,⟨SZ,rfl⟩,f.p,ld1 BH rfl,_,_,_,_,g7,pE,gQ 0 _ [f.p] g7 aD (gu cx f.p n) ⟨tx cf (by omega) (by omega) (by omega) n1,dj,gC,cn.fm (fM.get bT (by omega)),by omega,λd al h=>(n1 d (by omega) (by omega)).trans (tz d al (by omega)),λ_=>⟨S0,by simp,rR,CS⟩,λh=>absurd rfl h⟩⟩
   rw[bx,hA];simp
 · obtain rfl:=hB dg
   exact gQ e _ [] g2 aD cx ⟨tx cf (by omega) (by omega) (Nat.le_refl _) λ_ _ _=>rfl,dj,C.nF,C.nG.fm (tz bT (by omega) (.inr (.inl rfl))),by omega,λd al h=>tz d al (by omega),λh=>absurd h dg,λ_=>rfl⟩
theorem S1(m:Nat)(hm:40<=m){en bT eN p x c q i:Nat}{Q:fb}{y:J}{s:dd}{cx:List (a1×Nat)}{z:Int}{bl a2:a1}{v w:I}(C:ox en bT eN p Q i y s cx)
  (aL:dQ z (.ofNat 3)=true)(ab:y.get c=some (av [] 9))(kl:eN<=c/\c<y.n)(h1:bl.length<=200){R:bh->aQ->Prop}
  (gQ:∀e u cm g aD dX,p1 en bT eN p Q i y g s aD dX e u cm->R .nrm (bb [(1,v),(2,.ptr q 0),(5,.ptr p 0),(6,.map bT),(7,ak i),(11,w),(12,ak e),(13,u)] g)):
  cc an Tryd.f3 (Y m) [1,1,1,1,0,1,0,0,1,0,0,1,1,1,1,0,1,0,1] (bb [(1,v),(2,.ptr q 0),(5,.ptr p 0),(6,.map bT),(7,ak i),(8,.ptr x 0),(9,.str bl),(10,.str a2),(11,w),(12,ak 0),(13,.slice c 0 0 (.exact 0)),(60,.int .i64 z),(61,.bool false)] y) R:=by
 obtain⟨m,rfl⟩:∃k,m=k+2:=⟨m-2,by omega⟩
 obtain⟨fY,dx,l2⟩:=C.lt
 obtain⟨g1,c1,cK,dq⟩:=tq (m+1) ow (a:=bl) (by omega) (C.kH y.n) (by omega) λd h=>h.2
 have aY:=dq.n
 obtain⟨dj,hB,ki,kI⟩:=zN (cl:=gW) C.fit C.nF bl
 generalize fN gW bl s=CU at c1 kI
 obtain⟨f1,aw⟩:=CU
 simp only at c1 kI
 obtain⟨g2,t2,bQ,cE,cd⟩:=tw g1 f1
 have rZ:Ext y.n y g2:=dq.trans aY cd
 obtain⟨g3,c3,hD,eO⟩:=Qs (m+1) ow (a:=bl) (by omega) ((C.kH g2.n).ext rZ) C.fit.ok C.ej (by omega) λd h=>h.2
 have cX:=eO.n
 have oy:∀d,d<y.n->(d<en\/d=bT\/eN<=d)->g3.get d=y.get d:=λd al h=>(eO.get d (by omega) ⟨h,by omega⟩).trans (rZ.get d al)
 obtain⟨g4,fu,mC,hp⟩:=tq (m+1) ow (a:=bl) (by omega) hD (by omega) λd h=>by have:=h.2;omega
 have dL:=hp.n
 generalize iR gW bl s=D at c3 hD fu mC dj hB ki kI
 obtain⟨e,aD⟩:=D
 simp only at c3 hD fu mC dj hB ki kI
 generalize fN gW bl aD=CV at fu kI
 obtain⟨f2,ar⟩:=CV
 simp only at fu kI
 obtain⟨g5,t5,fL,ku,fV⟩:=tw g4 f2
 have jr:∀d,d<g3.n->g5.get d=g3.get d:=λd al=>(fV.get d (by omega)).trans (hp.get d al)
 have er:g5.get g1.n=some (av (c_ f1) 40):=(jr _ (by omega)).trans ((eO.get _ (by omega) ⟨.inr (.inr (by omega)),by omega⟩).trans cE)
 have wx:=(jr c (by omega)).trans ((oy c kl.2 (.inr (.inr kl.1))).trans ab)
 obtain⟨g6,hI,S2,ot⟩:=IV (a:=f1.p) wx (by omega)
 have n6:=ot.n
 have fT:∀d,d<g3.n->g6.get d=g3.get d:=λd al=>(ot.get d (by omega)).trans (jr d al)
 have A:p1 en bT eN p Q i y g6 s aD cx e (.slice (g5.n+1) 0 1 (.aE 1)) [f1.p]:=⟨tx hD (by omega) (by omega) (by omega) λd al _=>fT d al,dj,hB,C.nG.fm ((fT bT (by omega)).trans (oy bT (by omega) (.inr (.inl rfl)))),by omega,λd al h=>(fT d (by omega)).trans (oy d al (by omega)),λh=>⟨S2,by simp,(kI h).2⟩,ki⟩
 by_cases he:e=0
 · exact SL (Y (m+2)) q p bT i x c bl a2 v w z y ⟨rfl,aL,f1.p,f1.x,f1.n,aw,g1,c1,g2,t2,e,g3,c3,f2.p,f2.x,f2.n,ar,g4,fu,g5,t5,he,(kI he).1,f1.p,ld1 er rfl,_,_,_,_,g6,hI,gQ e _ _ g6 aD cx A⟩
 · exact SM (Y (m+2)) q p bT i x c bl a2 v w z y ⟨rfl,aL,f1.p,f1.x,f1.n,aw,g1,c1,g2,t2,e,g3,c3,f2.p,f2.x,f2.n,ar,g4,fu,g5,t5,he,f1.p,ld1 er rfl,_,_,_,_,g6,hI,gQ e _ _ g6 aD cx A⟩
theorem S3(m:Nat)(hm:40<=m){en bT eN p x c q i:Nat}{Q:fb}{y:J}{s:dd}{cx:List (a1×Nat)}{z:Int}{bl a2:a1}{v w:I}(C:ox en bT eN p Q i y s cx)
  (CW:dQ z (.ofNat 3)=false)(aL:dQ z (.ofNat 4)=true)(ab:y.get c=some (av [] 9))(kl:eN<=c/\c<y.n)(h1:bl.length<=200)(aa:a2.length<=200){R:bh->aQ->Prop}
  (gQ:∀e u cm g aD dX,p1 en bT eN p Q i y g s aD dX e u cm->R .nrm (bb [(1,v),(2,.ptr q 0),(5,.ptr p 0),(6,.map bT),(7,ak i),(11,w),(12,ak e),(13,u)] g)):
  cc an Tryd.f3 (Y m) [1,1,1,1,0,1,0,0,1,0,0,1,1,1,1,0,1,0,1] (bb [(1,v),(2,.ptr q 0),(5,.ptr p 0),(6,.map bT),(7,ak i),(8,.ptr x 0),(9,.str bl),(10,.str a2),(11,w),(12,ak 0),(13,.slice c 0 0 (.exact 0)),(60,.int .i64 z),(61,.bool false)] y) R:=by
 obtain⟨m,rfl⟩:∃k,m=k+2:=⟨m-2,by omega⟩
 obtain⟨fY,dx,l2⟩:=C.lt
 obtain⟨g1,c1,cK,dq⟩:=tq (m+1) ow (a:=bl) (by omega) (C.kH y.n) (by omega) λd h=>h.2
 have aY:=dq.n
 obtain⟨dj,ki,kI⟩:=SB (cl:=gW) C.fit C.nF bl a2
 generalize fN gW bl s=CU at c1 kI
 obtain⟨f1,aw⟩:=CU
 simp only at c1 kI
 obtain⟨g2,t2,bQ,cE,cd⟩:=tw g1 f1
 have rZ:Ext y.n y g2:=dq.trans aY cd
 obtain⟨g3,c3,hD,eO⟩:=Qy (m+1) ow (a:=bl) (b:=a2) (by omega) ((C.kH g2.n).ext rZ) C.fit.ok C.ej (by omega) (by omega) C.bC λd h=>h.2
 have cX:=eO.n
 have oy:∀d,d<y.n->(d<en\/d=bT\/eN<=d)->g3.get d=y.get d:=λd al h=>(eO.get d (by omega) ⟨h,by omega⟩).trans (rZ.get d al)
 generalize gm gW bl a2 s=D at c3 hD dj ki kI
 obtain⟨n,e,aD⟩:=D
 simp only at c3 hD dj ki kI
 refine SN (Y (m+2)) q p bT i x c bl a2 v w z y ⟨rfl,CW,aL,f1.p,f1.x,f1.n,aw,g1,c1,g2,t2,n,e,g3,c3,λdg=>?_,λdg=>?_⟩
 · subst dg
   obtain⟨f,aX,ff,bx,db,dc,gC,rR,CS⟩:=kI rfl
   obtain⟨g4,fu,mC,hp⟩:=tq (m+1) ow (a:=a2) (by omega) hD (by omega) λd h=>by have:=h.2;omega
   rw[aX] at fu
   have dL:=hp.n
   obtain⟨g5,t5,fL,ku,fV⟩:=tw g4 f
   have IX:Ext g3.n g3 g5:=hp.trans dL fV
   obtain⟨g6,gV,j5,ot⟩:=tq (m+1) ow (a:=bl) (by omega) (hD.ext IX) (by omega) λd h=>by have:=h.2;omega
   have n6:=ot.n
   generalize fN gW bl aD=CV at gV ff
   obtain⟨f2,ar⟩:=CV
   simp only at gV ff
   obtain⟨g7,t7,n7,Ux,fM⟩:=tw g6 f2
   have IY:∀d,d<g5.n->g7.get d=g5.get d:=λd al=>(fM.get d (by omega)).trans (ot.get d al)
   have n1:∀d,d<g3.n->g7.get d=g3.get d:=λd al=>(IY d (by omega)).trans (IX.get d al)
   have IZ:g7.get g1.n=some (av (c_ f1) 40):=(n1 _ (by omega)).trans ((eO.get _ (by omega) ⟨.inr (.inr (by omega)),by omega⟩).trans cE)
   have wy:g7.get g4.n=some (av (c_ f) 40):=(IY _ (by omega)).trans ku
   have cP:lo g7 bT cx:=C.nG.fm ((n1 bT (by omega)).trans (oy bT (by omega) (.inr (.inl rfl))))
   obtain⟨g8,u8,rY,n8,y8⟩:=cP.eJ f.p n
   have S4:=(y8 g1.n (by omega)).trans IZ
   have S5:=(y8 g4.n (by omega)).trans wy
   have wx:=(y8 c (by omega)).trans ((n1 c (by omega)).trans ((oy c kl.2 (.inr (.inr kl.1))).trans ab))
   obtain⟨g9,a9,S6,CX⟩:=SV (a:=f1.p) (b:=f.p) wx (by omega)
   have pY:=CX.n
   have I0:∀d,d<g3.n->d≠bT->g9.get d=g3.get d:=λd al cj=>(CX.get d (by omega)).trans ((y8 d cj).trans (n1 d al))
   refine⟨f.p,f.x,f.n,0,g4,fu,g5,t5,f2.p,f2.x,f2.n,ar,g6,gV,g7,t7,rfl,ff,f.x,ld1 wy rfl,f1.x,ld1 IZ rfl,?_,f.n,ld1 wy rfl,db,f.p,ld1 wy rfl,_,cP.look f.p,dc,f.p,ld1 wy rfl,g8,⟨u8,rfl⟩,f1.p,ld1 S4 rfl,f.p,ld1 S5 rfl,_,_,_,_,g9,a9,gQ 0 _ [f1.p,f.p] g9 aD (gu cx f.p n) ⟨tx hD (by omega) (by omega) (by omega) I0,dj,gC,rY.fm (CX.get bT (by omega)),by omega,λd al h=>(I0 d (by omega) (by omega)).trans (oy d al (by omega)),λ_=>⟨S6,by simp,rR,CS⟩,λh=>absurd rfl h⟩⟩
   rw[bx,hA];simp
 · obtain rfl:=ki dg
   exact gQ e _ [] g3 aD cx ⟨tx hD (by omega) (by omega) (Nat.le_refl _) λ_ _ _=>rfl,dj,C.nF,C.nG.fm (oy bT (by omega) (.inr (.inl rfl))),by omega,λd al h=>oy d al (by omega),λh=>absurd h dg,λ_=>rfl⟩
theorem S7(m:Nat){en bT eN p x c q i:Nat}{Q:fb}{y:J}{s:dd}{cx:List (a1×Nat)}{z:Int}{bl a2:a1}{v w:I}(C:ox en bT eN p Q i y s cx)
  (CW:dQ z (.ofNat 3)=false)(aL:dQ z (.ofNat 4)=false)(kl:eN<=c/\c<y.n){R:bh->aQ->Prop}
  (gQ:∀e u cm g aD dX,p1 en bT eN p Q i y g s aD dX e u cm->R .nrm (bb [(1,v),(2,.ptr q 0),(5,.ptr p 0),(6,.map bT),(7,ak i),(11,w),(12,ak e),(13,u)] g)):
  cc an Tryd.f3 (Y m) [1,1,1,1,0,1,0,0,1,0,0,1,1,1,1,0,1,0,1] (bb [(1,v),(2,.ptr q 0),(5,.ptr p 0),(6,.map bT),(7,ak i),(8,.ptr x 0),(9,.str bl),(10,.str a2),(11,w),(12,ak 0),(13,.slice c 0 0 (.exact 0)),(60,.int .i64 z),(61,.bool false)] y) R:=by
 obtain⟨fY,dx,l2⟩:=C.lt
 exact SO (Y m) q p bT i x c bl a2 v w z y ⟨rfl,CW,aL,gQ 0 _ [] y s cx ⟨tx (C.kH y.n) (by omega) (by omega) (Nat.le_refl _) λ_ _ _=>rfl,C.fit.up,C.nF,C.nG,Nat.le_refl _,λ_ _ _=>rfl,λ_=>⟨.inr ⟨c,0,.exact 0,rfl,kl.2,λi ag=>by simp at ag⟩,by simp,ha.refl _ _,ha.refl _ _⟩,λh=>absurd rfl h⟩⟩
theorem I1(m:Nat)(h:J):Y (m+1) (.fn 16) [] h=.ret (.bool true) h:=by
 have:fK 16 [] h=some (.bool true,h):=rfl
 show cu an fK (m+1) _ _ _=_
 simp only[cu,this]
theorem dP.q{F:Nat->Prop}{h:J}{p:Nat}{q:fb}{s:dd}(w:dP F h p q s):s.pR=q.a/\s.rL=q.b:=by
 obtain⟨m1,m2,c1,c2,dK,A,T,w,h1,aa,_⟩:=w
 exact⟨h1,aa⟩
abbrev CY(Q:fb):b2:=av [.int .i64 Q.a,.int .i64 Q.b,.int .i64 Q.c,a6 Q.d,a6 Q.e] 24
theorem S8(m:Nat){en bT eN p q i e:Nat}{Q:fb}{y g:J}{s aD:dd}{cx:List (a1×Nat)}{u v w:I}{cm:List a1}(A:p1 en bT eN p Q i y g s aD cx e u cm)(bj:g.get q=some (CY Q))(I2:q<g.n)
  {L:List eE}(hw:ln g w (jg L))(hr:L.map (·.f)=s.aP)(hl:(L.map (·.f.p)).Nodup)(Qc:L.length<=64){R:bh->aQ->Prop}
  (ei:∀cb,Ext g.n g cb->R .nrm (bb [(1,v),(2,.ptr q 0),(5,.ptr p 0),(6,.map bT),(7,ak i)] cb)):
  cc an Tryd.f3 (Y (m+2)) [1,1,1,1,0,1,0,0,1,0,0,1,1,1,1,1] (bb [(1,v),(2,.ptr q 0),(5,.ptr p 0),(6,.map bT),(7,ak i),(11,w),(12,ak e),(13,u)] g) R:=by
 obtain⟨g1,ir,M,c1,aX,CZ,xi,dq,_⟩:=IL m A.kH A.fit.ok
 have aY:=dq.n
 obtain⟨f1,f2⟩:=A.kH.q
 have pS:=A.fit.ok.pS
 have fJ:=A.fit.ok.fJ
 have S9:M.length=aD.aP.length:=by rw[<-CZ,List.length_map]
 have S_:(jg M).length=aD.aP.length:=by rw[Cj,S9]
 have Uy:(jg L).length=L.length:=Cj L
 have I3:∀po wz,mT g1 po wz->wz.length<=2->ha s.aP aD.aP wz->ha aD.aP s.aP wz->cc an Tryd.f3 (Y (m+2)) [1,1,1,1,0,1,0,0,1,0,0,1,1,1,1,1,1,1] (bb [(1,v),(2,.ptr q 0),(5,.ptr p 0),(6,.map bT),(7,ak i),(11,w),(13,po),(30,ir)] g1) R:=λpo wz bz bZ eO ho=>by
  have ek:Ext g1.n g1 (g1.room 33):=Ext.room _ _ _
  have Cq:(g1.room 33).n=g1.n+33:=rfl
  have I4:=(hw.ext dq).ext ek
  have I5:=aX.ext ek
  have I6:=bz.ext ek
  obtain⟨g2,c2,cd⟩:=IN (m+1) I4 I5 I6 (by omega) (by omega) (by omega) (Ht hl xi (by rw[hr,CZ];exact eO))
  have bQ:=cd.n
  obtain⟨g3,c3,gk⟩:=IN (m+1) (I5.ext cd) (I4.ext cd) (I6.ext cd) (by omega) (by omega) (by omega) (Ht xi hl (by rw[hr,CZ];exact ho))
  have cX:=gk.n
  have Ta:Ext g1.n g1 g3:=(ek.trans (by omega) cd).trans (by omega) gk
  have tA:Ext g.n g g3:=dq.trans aY Ta
  have rZ:Ext g.n g g2:=dq.trans aY (ek.trans (by omega) cd)
  have a_:=(rZ.get q I2).trans bj
  have bO:=(tA.get q I2).trans bj
  have Tb:=PV (m+1) ((A.kH.ext tA))
  have b5:eW (max Q.a 0) (Int.ofNat (jg M).length)=false:=by
   rw[rQ,decide_eq_false_iff_not,S_,<-f1]
   simp only[Int.ofNat_eq_natCast] at pS⊢
   omega
  have z2:eW (max Q.b 0) aD.ej=false:=by
   rw[rQ,decide_eq_false_iff_not,<-f2]
   omega
  have I7:=hw.sound
  have y9:=aX.sound
  have I8:=bz.sound
  have mx:∀z:Int,fA jK (.int .i64 z) [ak 0]=some (.int .i64 (max z 0)):=λz=>IH z 0
  exact SR (Y (m+2)) q p bT i v w po ir g1 ⟨g2,c2,g3,c3,_,aX.len g3,Q.a,ld1 bO rfl,_,mx Q.a,b5,aD.ej,g3,Tb,Q.b,ld1 bO rfl,_,mx Q.b,z2,_,aX.len g3,I7,y9,I8,y9,I7,I8,y9,rfl,rfl,rfl,ld1 bO rfl,rfl,mx Q.b,y9,by omega,ei g3 tA⟩
 refine mM [1,1,1,1,0,1,0,0,1,0,0,1,1,1,1,1] (SP _ q p bT i e v w u g ⟨ir,g1,c1,?_⟩)
 refine mM [1,1,1,1,0,1,0,0,1,0,0,1,1,1,1,1,1] (SQ _ q p bT i e v w u ir g1 ⟨λdg=>?_,λdg=>?_⟩)
 · obtain⟨bz,bZ,eO,ho⟩:=A.SU dg
   exact I3 u cm (bz.ext dq) bZ eO ho
 · have:=A.bad dg
   exact I3 .bK [] (.inl ⟨rfl,rfl⟩) (by simp) (by rw[this];exact ha.refl _ _) (by rw[this];exact ha.refl _ _)
structure Act where
 w:Int
 p:a1
 t:a1
 x:a1
 m:Int
abbrev lq(a:Act):List I:=[.int .i64 a.w,.str a.p,.str a.t,.str a.x,.int .i64 a.m]
def wA(B:Nat)(h:J)(v:I)(ls:List Act):Prop:=(v=.bK/\ls=[])\/∃b off cp,v=.slice b off ls.length cp/\b<B/\∀i (ag:i<ls.length),aU.loadCells h b (off+i*5) 5=some (lq ls[i])
theorem wA.len{B:Nat}{h:J}{v:I}{ls:List Act}(o:wA B h v ls)(g:J):gX an g 25 v=some (ak ls.length):=by
 rcases o with⟨rfl,rfl⟩|⟨b,off,cp,rfl,_⟩<;>rfl
theorem Tc{h g:J}{b o n:Nat}{cs:List I}(e:g.get b=h.get b)(aq:aU.loadCells h b o n=some cs):aU.loadCells g b o n=some cs:=by
 unfold aU.loadCells at aq⊢
 rw[e];exact aq
structure wB(en bT p:Nat)(Q:fb)(i:Nat)(h1 y:J)(s:dd)(cx:List (a1×Nat)):Prop where
 kH:dP (CR en bT) y p Q s
 fit:hN i s
 nF:ll cx s
 nG:lo y bT cx
 lt:en<=bT/\bT<y.n
 jE:∀d,d<en->y.get d=h1.get d
theorem Td(m:Nat)(hm:60<=m){h:J}{v:I}{ls:List Act}(Q:fb)(aI:wA h.n h v ls):∃g,Y (m+3) (.fn 3) [.agg [.int .i64 Q.a,.int .i64 Q.b,.int .i64 Q.c,a6 Q.d,a6 Q.e],v] h=.ret (.bool true) g:=by
 obtain⟨h1,ga⟩:∃x,x=h.push (CY Q):=⟨_,rfl⟩
 have Uz:h1.n=h.n+1:=by rw[ga];rfl
 have I9:h1.get h.n=some (CY Q):=by rw[ga];exact cT rfl
 have Te:Ext h.n h h1:=by rw[ga];exact Ext.push (Nat.le_refl _) _
 obtain⟨g1,p,c1,cK,dq⟩:=PU (m+1) (F:=λd=>d<h1.n) (h:=h1) Q λd al=>al
 have aY:=dq.n
 obtain⟨g2,ar⟩:∃x,x=g1.push (.map [] 0):=⟨_,rfl⟩
 have bQ:g2.n=g1.n+1:=by rw[ar];rfl
 have cd:Ext g1.n g1 g2:=by rw[ar];exact Ext.push (Nat.le_refl _) _
 have Tf:wB h1.n g1.n p Q 0 h1 g2 ⟨Q.a,Q.b,[],[],0⟩ []:=⟨cK.move cd.n (λd al _=>cd.get d al) (λd al ad=>by
  rcases ad with ad|ad
  · exact ad
  · omega),⟨⟨.nil,rfl,⟨by simp only[List.length_nil,Int.ofNat_eq_natCast];omega,by simp⟩,by show(0:Int)<=max Q.b 0;omega⟩,by simp,λc=>Nat.le_refl _⟩,λc=>Nat.le_refl _,⟨0,[],by rw[ar];exact cT rfl,List.nodup_nil,⟨λx U=>(by cases U),List.nodup_nil⟩,rfl⟩,⟨aY,by omega⟩,λd al=>(cd.get d (by omega)).trans (dq.get d al)⟩
 refine SC (m+2) Q.a Q.b Q.c Q.d Q.e v h (R:=λx=>∃g,x=.ret (.bool true) g) ?_
 rw[show(h.push (av [.int .i64 Q.a,.int .i64 Q.b,.int .i64 Q.c,a6 Q.d,a6 Q.e] 24))=h1 from ga.symm]
 refine⟨Q.a,Q.b,Q.c,Q.d,Q.e,mJ I9 rfl,p,g1,c1,?_⟩
 rw[<-ar]
 refine q9 (λk st=>∃i y s cx Γ,st=lg Γ y/\eu [(1,v),(2,.ptr h.n 0),(5,.ptr p 0),(6,.map g1.n),(7,ak i)] Γ/\60-i=k/\i<=60/\wB h1.n g1.n p Q i h1 y s cx) ?_ 60 _ (by omega) ⟨0,g2,_,[],_,rfl,⟨rfl,rfl,rfl,rfl,rfl,trivial⟩,by omega,by omega,Tf⟩
 rintro k st ⟨i,y,s,cx,Γ,rfl,gA,hk,ag,cr⟩
 obtain⟨fY,dx⟩:=cr.lt
 refine iN (mM [1,1,1,1,0,1,0,0] (SD _ h.n p g1.n i v y ⟨ls.length,aI.len y,λi1=>⟨λi2=>?_,λ_=>⟨y,_,rfl,rfl,trivial,true,y,I1 _ y,y,rfl⟩⟩,λ_=>⟨y,_,rfl,rfl,trivial,true,y,I1 _ y,y,rfl⟩⟩)) gA
 refine mM [1,1,1,1,0,1,0,0,1] (cc.block (p:=[1,1,1,1,0,1,0,0,1,0]) (id:=1) (by kernel_rfl) ?_)
 rcases aI with⟨rfl,rfl⟩|⟨lp,off,cp,rfl,kQ,jX⟩
 · simp at i1
 obtain⟨a,aH⟩:∃a,a=ls[i]:=⟨_,rfl⟩
 have ld:aU.loadCells y lp (off+i*5) 5=some (lq a):=by
  rw[aH]
  exact Tc ((cr.jE lp (by omega)).trans (Te.get lp kQ)) (jX i i1)
 obtain⟨eS,y_⟩:∃x,x=(y.push (av [ak 0,.str [],.str [],.str [],ak 0] 30)).set y.n (some (av (lq a) 30)):=⟨_,rfl⟩
 have UA:eS.n=y.n+1:=by rw[y_];rfl
 have CG:eS.get y.n=some (av (lq a) 30):=by rw[y_];exact fw rfl
 have Tg:Ext y.n y eS:=by rw[y_];exact Ext.nn (Nat.le_refl _) (Ext.push (Nat.le_refl _) _)
 refine mM [1,1,1,1,0,1,0,0,1,0,0] (SE _ lp off _ h.n p g1.n i cp y ⟨i1,a.w,a.p,a.t,a.x,a.m,ld,rfl,rfl,eS,by rw[y_];exact iM (cT rfl) rfl rfl,?_⟩)
 have Th:Ext eS.n eS (eS.room 8):=Ext.room _ _ _
 have UB:(eS.room 8).n=eS.n+8:=rfl
 have rX:(eS.room 8).get y.n=some (av (lq a) 30):=CG
 refine mM [1,1,1,1,0,1,0,0,1,0,0,1] (SF _ h.n p g1.n i y.n _ eS ⟨a.p,ld1 rX rfl,a.p.take 200,eS.room 8,CM (m+1) _ _,a.t,ld1 rX rfl,a.t.take 200,eS.room 8,CM (m+1) _ _,ld1 rX rfl,?_⟩)
 have tA:Ext y.n y (eS.room 8):=Tg.trans (by omega) Th
 obtain⟨kF,w,L,fu,dc,hr,hl,hp,Ti⟩:=IL m (cr.kH.ext tA) cr.fit.ok
 have dL:=hp.n
 refine mM [1,1,1,1,0,1,0,0,1,0,0,1,1] (SG _ h.n p g1.n i y.n _ _ _ (eS.room 8) ⟨w,kF,fu,?_⟩)
 obtain⟨kG,za⟩:∃x,x=kF.push (av [] 9):=⟨_,rfl⟩
 have UC:kG.n=kF.n+1:=by rw[za];rfl
 have C0:kG.get kF.n=some (av [] 9):=by rw[za];exact cT rfl
 have fV:Ext kF.n kF kG:=by rw[za];exact Ext.push (Nat.le_refl _) _
 have C1:Ext y.n y kG:=(tA.trans (by omega) hp).trans (by omega) fV
 have I_:kG.get y.n=some (av (lq a) 30):=(fV.get _ (by omega)).trans ((hp.get _ (by omega)).trans rX)
 refine mM [1,1,1,1,0,1,0,0,1,0,0,1,1,1] (SH _ h.n p g1.n i y.n _ _ _ w kF ?_)
 rw[show(kF.push (av [] 9))=kG from za.symm]
 have t1:(a.p.take 200).length<=200:=by rw[List.length_take];omega
 have t2:(a.t.take 200).length<=200:=by rw[List.length_take];omega
 have C:ox h1.n g1.n y.n p Q i kG s cx:=⟨λB=>cr.kH.move (by omega) (λd al _=>C1.get d al) (λd al aj=>by
  rcases aj.1 with ad|ad|ad
  · exact .inl ad
  · exact .inr ad
  · omega),cr.fit,i2,cr.nF,cr.nG.fm (C1.get _ dx),by omega⟩
 have Tj:L.length<=64:=by
  have:=cr.fit.ok.pS.2
  rw[<-hr,List.length_map] at this
  exact this
 have kl:y.n<=kF.n/\kF.n<kG.n:=by omega
 have tB:∀{R:bh->aQ->Prop},(∀g aD dX,wB h1.n g1.n p Q (i+1) h1 g aD dX->R .nrm (bb [(1,.slice lp off ls.length cp),(2,.ptr h.n 0),(5,.ptr p 0),(6,.map g1.n),(7,ak i)] g))->∀e u cm g aD dX,p1 h1.n g1.n y.n p Q i kG g s aD dX e u cm->
   cc an Tryd.f3 (Y (m+2)) [1,1,1,1,0,1,0,0,1,0,0,1,1,1,1,1] (bb [(1,.slice lp off ls.length cp),(2,.ptr h.n 0),(5,.ptr p 0),(6,.map g1.n),(7,ak i),(11,w),(12,ak e),(13,u)] g) R:=λ{R} ei e u cm g aD dX A=>by
  have HM:=A.n
  have hw:ln g w (jg L):=by
   rcases dc with o|⟨b,rfl,dD,l5⟩
   · exact .inl o
   · have:=Ti _ _ _ _ rfl
     exact .inr ⟨b,rfl,by omega,(A.jE b (by omega) (.inr (by omega))).trans ((fV.get b dD).trans l5)⟩
  have Ja:∀d,d<h1.n->g.get d=h1.get d:=λd al=>(A.jE d (by omega) (.inl al)).trans ((C1.get d (by omega)).trans (cr.jE d al))
  refine S8 m A ((Ja h.n (by omega)).trans I9) (by omega) hw hr hl Tj λcb mR=>ei cb aD dX ⟨A.kH.ext mR,A.fit,A.nF,A.nG.fm (mR.get _ (by omega)),⟨fY,by have:=mR.n;omega⟩,λd al=>(mR.get d (by omega)).trans (Ja d al)⟩
 refine mM [1,1,1,1,0,1,0,0,1,0,0,1,1,1,1] (mM [1,1,1,1,0,1,0,0,1,0,0,1,1,1,1,0] (SI _ h.n p g1.n i y.n kF.n _ _ _ w kG ⟨a.w,ld1 I_ rfl,?_⟩))
 refine cc.block (p:=[1,1,1,1,0,1,0,0,1,0,0,1,1,1,1,0,1]) (id:=2) (by kernel_rfl) (mM [1,1,1,1,0,1,0,0,1,0,0,1,1,1,1,0,1,0] ?_)
 have inc:∀(g:J) (aD:dd) (dX:List (a1×Nat)),wB h1.n g1.n p Q (i+1) h1 g aD dX->_:=λg aD dX lr=>SS (Y (m+2)) h.n p g1.n i (.slice lp off ls.length cp) g (Q:=nx (λs=>∃j,j<k/\∃i y yY cx Γ,s=lg Γ y/\eu [(1,.slice lp off ls.length cp),(2,.ptr h.n 0),(5,.ptr p 0),(6,.map g1.n),(7,ak i)] Γ/\60-i=j/\i<=60/\wB h1.n g1.n p Q i h1 y yY cx) (λfj fk=>∃g2 dx,fj=.exit 0/\fk=bb dx g2/\eu [] dx/\∃cC g3,Y (m+2) (.fn 16) [] g2=.ret (.bool cC) g3/\∃g,bL.ret (.bool cC) g3=.ret (.bool true) g)) ⟨by omega,60-(i+1),by omega,i+1,g,aD,dX,_,rfl,⟨rfl,rfl,rfl,rfl,rfl,trivial⟩,rfl,by omega,lr⟩
 have W:=λ{R:bh->aQ->Prop} (gQ:∀e u cm g aD dX,p1 h1.n g1.n y.n p Q i kG g s aD dX e u cm->R .nrm (bb [(1,.slice lp off ls.length cp),(2,.ptr h.n 0),(5,.ptr p 0),(6,.map g1.n),(7,ak i),(11,w),(12,ak e),(13,u)] g))=>SX (m+2) (by omega) (q:=h.n) (a2:=a.t.take 200) C I_ C0 ⟨Nat.le_refl _,by omega⟩ kl t1 gQ
 refine SJ _ h.n p g1.n i y.n kF.n _ _ _ w a.w kG ⟨λbW=>?_,λbW=>⟨λcC=>?_,λcC=>?_⟩⟩
 · exact iN (W λe u cm g aD dX A=>tB (λg aD dX lr=>inc g aD dX lr) e u cm g aD dX A) ⟨rfl,rfl,rfl,rfl,rfl,rfl,rfl,rfl,rfl,rfl,rfl,rfl,trivial⟩
 · exact iN (W λe u cm g aD dX A=>tB (λg aD dX lr=>inc g aD dX lr) e u cm g aD dX A) ⟨rfl,rfl,rfl,rfl,rfl,rfl,rfl,rfl,rfl,rfl,rfl,rfl,trivial⟩
 · cases cE:dQ a.w (.ofNat 2) with
   |true=>exact iN (W λe u cm g aD dX A=>tB (λg aD dX lr=>inc g aD dX lr) e u cm g aD dX A) ⟨rfl,rfl,rfl,rfl,rfl,rfl,rfl,rfl,rfl,rfl,rfl,rfl,trivial⟩
   |false=>
    cases gr:dQ a.w (.ofNat 3) with
    |true=>exact S1 (m+2) (by omega) C gr C0 kl t1 λe u cm g aD dX A=>tB (λg aD dX lr=>inc g aD dX lr) e u cm g aD dX A
    |false=>
     cases l1:dQ a.w (.ofNat 4) with
     |true=>exact S3 (m+2) (by omega) C gr l1 C0 kl t1 t2 λe u cm g aD dX A=>tB (λg aD dX lr=>inc g aD dX lr) e u cm g aD dX A
     |false=>exact S7 (m+2) C gr l1 kl λe u cm g aD dX A=>tB (λg aD dX lr=>inc g aD dX lr) e u cm g aD dX A
open Go aU Go.Proofs Go.ChangeShapes
theorem Jb{W:World}{a:Addr}{m j:Nat}{v:Value}(h:W.cell? ((a.add m).add j)=some v):∃c el fz,W.heap[a.block]? =some (.cells c el fz)/\c[a.off+m+j]? =some v/\(m=0->j=0->a.spot=none):=by
 have ad:((a.add m).add j).block=a.block:=by
  unfold Addr.add
  split<;>split<;>rfl
 have aN:((a.add m).add j).off=a.off+m+j:=by
  unfold Addr.add
  split<;>split<;>simp_all
 unfold World.cell? at h
 rw[ad,aN] at h
 split at h
 · rename_i c el fz U
   split at h
   · cases h
   · rename_i ae
     refine⟨c,el,fz,U,h,λh1 aa=>?_⟩
     subst h1;subst aa
     simpa[Addr.add] using ae
 · cases h
theorem Tk:∃f0 f1 f2 f3 f4:Field,an.underlying 30=some (.struct #[f0,f1,f2,f3,f4])/\(f0.type=3/\f0.offset=0)/\(f1.type=9/\f1.offset=1)/\(f2.type=9/\f2.offset=2)/\(f3.type=9/\f3.offset=3)/\(f4.type=3/\f4.offset=4):=by
 obtain⟨aP,mw⟩:∃aP,an.underlying 30=some (.struct aP):=by
  have:(match an.underlying 30 with|some (.struct _)=>true|_=>false)=true:=by kernel_rfl
  revert this
  cases an.underlying 30 with
  |none=>intro h;cases h
  |some d=>cases d<;>intro h<;>first|exact⟨_,rfl⟩|cases h
 have k:(match an.underlying 30 with|some (.struct aP)=>aP.toList.map λf=>(f.type,f.offset)|_=>[])=[(3,0),(9,1),(9,2),(9,3),(3,4)]:=by kernel_rfl
 rw[mw] at k
 simp only at k
 obtain⟨l⟩:=aP
 match l,k with
 |[f0,f1,f2,f3,f4],k=>
  simp only[List.map_cons,List.map_nil,List.cons.injEq,Prod.mk.injEq] at k
  exact⟨f0,f1,f2,f3,f4,mw,k.1,k.2.1,k.2.2.1,k.2.2.2.1,k.2.2.2.2.1⟩
theorem C2:an.underlying 25=some (.slice 30):=by kernel_rfl
abbrev encV(a:Act):List Value:=[.int .i64 a.w,.string ⟨a.p.toArray⟩,.string ⟨a.t.toArray⟩,.string ⟨a.x.toArray⟩,.int .i64 a.m]
theorem Tl(μ:aW)(a:Act)(j:Nat){v:I}{u:Value}(h1:(lq a)[j]? =some v)(aa:(encV a)[j]? =some u):aS μ v u:=by
 match j,h1,aa with
 |0,h1,aa=>cases h1;cases aa;rfl
 |1,h1,aa=>cases h1;cases aa;exact⟨_,rfl,rfl⟩
 |2,h1,aa=>cases h1;cases aa;exact⟨_,rfl,rfl⟩
 |3,h1,aa=>cases h1;cases aa;exact⟨_,rfl,rfl⟩
 |4,h1,aa=>cases h1;cases aa;rfl
 |n+5,h1,aa=>cases h1
theorem Tm{H:Type}{enc:TypeId×Value->H}{W:World}{sp:Nat->Bool}{held:Bool}{fuel:Nat}{v:Value}{x:DataW H×List MemPlace}(h:DataW.trod enc an W 0 sp held fuel 25 [v]=some x):
  v=.slice none 0 0\/∃a len cap,v=.slice (some a) len cap/\∃ds:List Act,ds.length=len/\∀i (ag:i<ds.length) (j:Nat) (v:Value),(encV ds[i])[j]? =some v->W.cell? ((a.add (i*5)).add j)=some v:=by
 have Jc:an.cellsOf 30=5:=by kernel_rfl
 have fr:an.cellsOf 9=1:=by kernel_rfl
 have uy:an.cellsOf 3=1:=by kernel_rfl
 have C3:an.underlying 9=some .string:=by kernel_rfl
 have tC:an.underlying 3=some (.int .i64):=by kernel_rfl
 rcases DataW.trod_slice C2 h with⟨ay,_⟩|⟨a,len,cap,elems,rest,n,_,ay,_,ad,aq,hm,hlen,uk,_,_⟩
 · cases ay;exact .inl rfl
 · cases ay
   refine .inr ⟨a,len,cap,rfl,?_⟩
   have each:∀i,i<len->∃d:Act,W.cells? 0 (a.add (i*5)) 5=some (encV d):=by
    intro i ag
    have he:=uk i ag
    rw[List.getElem?_eq_getElem (by omega),Jc,Option.bind_eq_some_iff] at he
    obtain⟨cs,Tn,bc⟩:=he
    obtain⟨f0,f1,f2,f3,f4,ae,⟨t0,tR⟩,⟨t1,dp⟩,⟨t2,dD⟩,⟨t3,l5⟩,⟨t4,pK⟩⟩:=Tk
    obtain⟨xs,k,_,_,c9,m_,hf⟩:=DataW.trod_struct ae bc
    rw[Jc] at c9
    have UD:xs.length=5:=m_
    obtain⟨v0,v1,v2,v3,v4,rfl⟩:∃v0 v1 v2 v3 v4,cs=[v0,v1,v2,v3,v4]:=by
     match cs,c9 with
     |[v0,v1,v2,v3,v4],_=>exact⟨v0,v1,v2,v3,v4,rfl⟩
    have mv:=hf 0 f0 rfl
    have bz:=hf 1 f1 rfl
    have bZ:=hf 2 f2 rfl
    have eO:=hf 3 f3 rfl
    have ho:=hf 4 f4 rfl
    rw[List.getElem?_eq_getElem (by omega),t0,tR,uy] at mv
    rw[List.getElem?_eq_getElem (by omega),t1,dp,fr] at bz
    rw[List.getElem?_eq_getElem (by omega),t2,dD,fr] at bZ
    rw[List.getElem?_eq_getElem (by omega),t3,l5,fr] at eO
    rw[List.getElem?_eq_getElem (by omega),t4,pK,uy] at ho
    obtain⟨z0,dg,_,_⟩:=DataW.trod_int tC mv
    obtain⟨s1,aw,_,_⟩:=DataW.trod_string C3 bz
    obtain⟨s2,ar,_,_⟩:=DataW.trod_string C3 bZ
    obtain⟨bw,bn,_,_⟩:=DataW.trod_string C3 eO
    obtain⟨z4,cR,_,_⟩:=DataW.trod_int tC ho
    have To:v0=.int .i64 z0:=by simpa using dg
    have o1:v1=.string s1:=by simpa using aw
    have B3:v2=.string s2:=by simpa using ar
    have Tp:v3=.string bw:=by simpa using bn
    have Tq:v4=.int .i64 z4:=by simpa using cR
    refine⟨⟨z0,s1.data.toList,s2.data.toList,bw.data.toList,z4⟩,?_⟩
    rw[Tn,To,o1,B3,Tp,Tq]
   let f:Nat->Act:=λi=>if ag:i<len then(each i ag).choose else⟨0,[],[],[],0⟩
   refine⟨(List.range len).map f,by simp,λi ag j v aI=>?_⟩
   have dG:i<len:=by simpa using ag
   have hf:((List.range len).map f)[i]=(each i dG).choose:=by simp[f,dG]
   rw[hf] at aI
   have fr:=(each i dG).choose_spec
   have aG:j<5:=by
    have:=(List.getElem?_eq_some_iff.1 aI).1
    simpa[encV] using this
   have:=World.cells?_some fr
   exact(this.2.2 j aG).trans aI
theorem Tr{W:World}(iL:an.globals.size<=W.heap.size){a:Addr}{cap:Nat}{ds:List Act}(ay:0<ds.length)(ab:∀i (ag:i<ds.length) (j:Nat) (v:Value),(encV ds[i])[j]? =some v->W.cell? ((a.add (i*5)).add j)=some v):
  ∃(μ:aW) (g:J) (u:I),a8 μ g W/\fi an μ/\qR g/\wA g.n g u ds/\aS μ u (.slice (some a) ds.length cap):=by
 obtain⟨c,el,fz,ad,qs,ae⟩:=Jb (ab 0 ay 0 _ rfl)
 have Jd:=ae (by omega) rfl
 have hle:a.off<=c.size:=by
  have:=(Array.getElem?_eq_some_iff.1 qs).1;omega
 have fr:r_ (kq an.globals.size ⟨a.block,a.off,c.size-a.off⟩) (cw lq ds) c a.off:=by
  intro t v aI
  have rW:(ds.flatMap lq)[t]? =some v:=aI
  rw[sS (w:=5) (λ_=>rfl)] at rW
  split at rW
  · rename_i bd
    have ag:t/5<ds.length:=Nat.div_lt_of_lt_mul (by rw[Nat.mul_comm];exact bd)
    rw[List.getElem?_eq_getElem ag] at rW
    have B9:(lq ds[t/5])[t %5]? =some v:=rW
    have aG:t %5<(encV ds[t/5]).length:=by
     show t %5<5
     omega
    obtain⟨c',w7,UE,hR,U,_⟩:=Jb (ab (t/5) ag (t %5) _ (List.getElem?_eq_getElem aG))
    rw[ad] at hR
    cases hR
    have e:a.off+t/5*5+t %5=a.off+t:=by omega
    rw[e] at U
    exact⟨_,U,Tl _ _ _ B9 (List.getElem?_eq_getElem aG)⟩
  · cases rW
 obtain⟨aX,bx,db⟩:=Mw (P:=an) (i:=⟨a.block,a.off,c.size-a.off⟩) iL ad _ fr (by simp;omega)
 refine⟨_,pn an.globals.size (cw lq ds) el,.slice an.globals.size 0 ds.length (.exact cap),aX,bx,db,.inr ⟨_,0,.exact cap,rfl,Nat.lt_succ_self _,λi ag=>?_⟩,⟨⟨a.block,a.off,c.size-a.off⟩,by simp[kq],?_⟩⟩
 · have aj:(pn an.globals.size (cw lq ds) el).get an.globals.size=some (.cells (cw lq ds++[]) el .ro 0 0):=by rw[u9,if_pos rfl,List.append_nil]
   exact FY (w:=5) (λ_=>rfl) aj ag (by omega)
 · obtain⟨aT,off,spot⟩:=a
   simp only at Jd
   subst Jd
   rfl
theorem Ts{P:Program}{W:World}{base:Nat}{t e:TypeId}(bd:P.underlying t=some (.slice e)){a:Addr}{len cap:Nat}(h:Value.okWide P W .any base t (.slice (some a) len cap)):a.block<W.heap.size:=by
 simp only[Value.okWide,bd,Cell.okWide,Cell.ok] at h
 obtain⟨_,_,_,_,row,cells,ae,_⟩:=h
 unfold World.shape? at ae
 cases ad:W.heap[a.block]? with
 |none=>simp[ad] at ae
 |some o=>exact(Array.getElem?_eq_some_iff.1 ad).1
theorem Tt{P:Program}{W:World}(iL:P.globals.size<=W.heap.size){aT:Nat}(ad:aT<W.heap.size):
  a8 (kq P.globals.size ⟨aT,0,0⟩) (lC (P.globals.size+1)) W/\fi P (kq P.globals.size ⟨aT,0,0⟩)/\qR (lC (P.globals.size+1))/\∃i,kq P.globals.size ⟨aT,0,0⟩ 0=some i:=by
 have aB:∀b,(lC (P.globals.size+1)).get b=none:=λb=>rfl
 refine⟨⟨λb o i h=>(by rw[aB] at h;cases h),λb c i j h=>absurd (aB b) h,λb i h=>?_,λb _=>aB b⟩,λg aj=>⟨⟨g,0,0⟩,by simp[kq,aj],rfl,rfl⟩,λb o h=>(by rw[aB] at h;cases h),?_⟩
 · have UF:(lC (P.globals.size+1)).n=P.globals.size+1:=rfl
   unfold kq at h
   split at h
   · rename_i hR;cases h;exact⟨by omega,Nat.lt_of_lt_of_le hR iL⟩
   · split at h
     · rename_i hR;cases h;exact⟨by omega,ad⟩
     · cases h
 · unfold kq
   split
   · exact⟨_,rfl⟩
   · rw[if_pos (by omega)];exact⟨_,rfl⟩
theorem Tu{H:Type}{enc:TypeId×Value->H}{W:World}{base:Nat}{sp:Nat->Bool}{held:Bool}{fuel:Nat}{v:Value}{x:DataW H×List MemPlace}(iL:an.globals.size<=W.heap.size)(aI:Value.okWide an W .any base 25 v)(h:DataW.trod enc an W 0 sp held fuel 25 [v]=some x):
  ∃(l:List Act) (μ:aW) (g:J) (u:I),a8 μ g W/\fi an μ/\qR g/\wA g.n g u l/\aS μ u v:=by
 rcases Tm h with rfl|⟨a,len,cap,rfl,ds,rfl,ab⟩
 · obtain⟨aa,ao,aM⟩:=AM (P:=an) iL
   exact⟨[],_,_,.bK,aa,ao,aM,.inl ⟨rfl,rfl⟩,rfl⟩
 · by_cases ay:ds.length=0
   · obtain⟨aX,bx,db,i,dc⟩:=Tt (P:=an) iL (Ts C2 aI)
     obtain rfl:=List.eq_nil_of_length_eq_zero ay
     exact⟨[],_,_,.slice 0 0 0 .dead,aX,bx,db,.inr ⟨0,0,.dead,rfl,Nat.succ_pos _,λi ag=>by simp at ag⟩,⟨i,dc,rfl,a,cap,rfl⟩⟩
   · obtain⟨μ,g,u,r⟩:=Tr iL (cap:=cap) (by omega) ab
     exact⟨ds,μ,g,u,r⟩
theorem Tv{W:World}{base:Nat}{v:Value}(aI:Value.okWide an W .any base 24 v):∃Q:fb,∀μ,aS μ (.agg [.int .i64 Q.a,.int .i64 Q.b,.int .i64 Q.c,.int .u64 (Int.ofNat Q.d),.int .u64 (Int.ofNat Q.e)]) v:=by
 obtain⟨cs,rfl,aq,ab⟩:=My (ts:=[3,3,3,22,22]) (by kernel_rfl) (by kernel_rfl) (by kernel_rfl) aI
 obtain⟨c0,c1,c2,c3,fu,rfl⟩:∃c0 c1 c2 c3 fu,cs=[c0,c1,c2,c3,fu]:=by
  match cs,aq with
  |[c0,c1,c2,c3,fu],_=>exact⟨c0,c1,c2,c3,fu,rfl⟩
 have tC:an.underlying 3=some (.int .i64):=by kernel_rfl
 have Je:an.underlying 22=some (.int .u64):=by kernel_rfl
 obtain⟨z0,rfl,_⟩:=u_ tC (ab 0 c0 _ rfl rfl)
 obtain⟨b5,rfl,_⟩:=u_ tC (ab 1 c1 _ rfl rfl)
 obtain⟨z2,rfl,_⟩:=u_ tC (ab 2 c2 _ rfl rfl)
 obtain⟨z3,rfl,eO⟩:=u_ Je (ab 3 c3 _ rfl rfl)
 obtain⟨z4,rfl,ho⟩:=u_ Je (ab 4 fu _ rfl rfl)
 have yK:∀z:Int,IntKind.u64.has z->Int.ofNat z.toNat=z:=λz aL=>by
  have h1:IntKind.u64.min<=z/\z<=IntKind.u64.max:=by simpa[IntKind.has] using aL
  have m1:IntKind.u64.min=0:=by decide
  rw[m1] at h1
  exact Int.toNat_of_nonneg h1.1
 refine⟨⟨z0,b5,z2,z3.toNat,z4.toNat⟩,λμ=>?_⟩
 simp only
 rw[yK z3 eO,yK z4 ho]
 exact⟨_,rfl,_,_,rfl,rfl,_,_,rfl,rfl,_,_,rfl,rfl,_,_,rfl,rfl,_,_,rfl,rfl,rfl⟩
end Go.Proofs.h3
