/-
  PROVED HERE: contracts of functions (Df). No condition beside each statement's own.
-/
import Derived.Test.YtjkomfonmcmgdaaGreatDoorDe
import Derived.Test.YtjkomfonmcmgdaaGreatDoorTx
set_option linter.unusedVariables false
set_option linter.unusedSimpArgs false
set_option maxRecDepth 100000
set_option maxHeartbeats 1000000
namespace Go.Proofs.kh
open Go bg Go.Proofs ir
variable {Q:bW->bL->Prop} {R:bE->Prop} (call:aW)
theorem ab0(m:Nat)(v:ad)(f:Nat)(a_:List ad)(h:ab)(H:∃dS:Int,∃ak,Y m (.fn 84) [v,.fn f [] a_] h=.ret (.int .i64 dS) ak/\R (.ret (.bool (j5 (.ofNat 0) dS)) ak)):
  R (Y (m+1) (.fn 65) [v,.fn f [] a_] h):=
 dB [(7,.a1 (.z .i64))] [0,1] Tryz.func65 H
theorem ab1(m:Nat)(v:ad)(f:Nat)(a_:List ad)(h:ab)(H:∃aB,bV an h 63 v=some (J aB)/\bp an Tryz.f84 (Y m) [1,0,1,0] (aj [(0,v),(1,.fn f [] a_),(7,J aB),(8,J 0)] h) (λb2 cc=>((∃ak bt,b2=.exit 0/\cc=aj bt ak/\bY [] bt/\R (.ret (.int .i64 (.negSucc 0)) ak))\/(∃aY av bw,b2=.ret/\cc=aj bw av/\bY [(4,J aY)] bw/\R (.ret (J aY) av))))):
  R (Y (m+1) (.fn 84) [v,.fn f [] a_] h):=
 dB [(4000,.fj [0,1,7,8] [(.exit 0,[]),(.ret,[(4,.n .i64)])])] [0,1] Tryz.func84 H
theorem ab2(b off N i f:Nat)(a_:List ad)(cp:ct)(h:ab)(H:(i<N->i<N/\∃v1,aq h b (off+i*1)=some v1/\∃bn ak,call (.fn f) (v1::a_) h=.ret (.bool bn) ak/\(bn=true->Q .ret (aj [(0,.slice b off N cp),(1,.fn f [] a_),(4,J i),(7,J N),(8,J i)] ak))/\(bn=false->i+1<9223372036854775808/\Q .nrm (aj [(0,.slice b off N cp),(1,.fn f [] a_),(7,J N),(8,J (i+1))] ak)))/\(¬i<N->Q (.exit 0) (aj [(0,.slice b off N cp),(1,.fn f [] a_),(7,J N),(8,J i)] h))):
  bp an Tryz.f84 call [1,0,1,0,0] (aj [(0,.slice b off N cp),(1,.fn f [] a_),(7,J N),(8,J i)] h) Q:=
 c3 [(15,.a1 .o)] [0,1,4,7,8] [1] H
theorem ab3(N i f:Nat)(a_:List ad)(v:ad)(h:ab)(H:¬i<N/\Q (.exit 0) (aj [] h)):
  bp an Tryz.f84 call [1,0,1,0,0] (aj [(0,v),(1,.fn f [] a_),(7,J N),(8,J i)] h) Q:=
 c3 [(1009,.f)] [] [0,1] H
theorem ab4(m:Nat)(v:ad)(f:Nat)(a_:List ad)(h:ab)(H:∃aB,bV an h 63 v=some (J aB)/\(1<=aB/\aB<9223372036854775808)/\bp an Tryz.f86 (Y m) [1,0,1,0] (aj [(0,v),(1,.fn f [] a_),(5,J (aB-1))] h) (λb2 cc=>((∃ak bt,b2=.exit 0/\cc=aj bt ak/\bY [] bt/\R (.ret (.bool true) ak))\/(∃av bw,b2=.ret/\cc=aj bw av/\bY [(4,.bool false)] bw/\R (.ret (.bool false) av))))):
  R (Y (m+1) (.fn 86) [v,.fn f [] a_] h):=
 dB [(4000,.fj [0,1,5] [(.exit 0,[]),(.ret,[(4,.is (.bool false))])])] [0,1] Tryz.func86 H
theorem ab5(m:Nat)(v:ad)(f:Nat)(a_:List ad)(h:ab)(H:∃aB,bV an h 63 v=some (J aB)/\∃dS:Int,arith .sub .i64 (.ofNat aB) (.ofNat 1)=some (.int .i64 dS)/\bp an Tryz.f86 (Y m) [1,0,1,0] (aj [(0,v),(1,.fn f [] a_),(5,.int .i64 dS)] h) (λb2 cc=>∃ak bt,b2=.exit 0/\cc=aj bt ak/\bY [] bt/\R (.ret (.bool true) ak))):
  R (Y (m+1) (.fn 86) [v,.fn f [] a_] h):=
 dB [(8,.a1 (.z .i64)),(4000,.fj [0,1,5] [(.exit 0,[])])] [0,1] Tryz.func86 H
theorem ab6(b off N i f:Nat)(a_:List ad)(cp:ct)(h:ab)(H:(0<i->i<N/\∃v1,aq (h.room 12) b (off+i*1)=some v1/\(1<=i/\i<9223372036854775808)/\i-1<N/\∃v2,aq (h.room 12) b (off+(i-1)*1)=some v2/\∃dS:Int,∃ak,call (.fn f) (v1::v2::a_) (h.room 12)=.ret (.int .i64 dS) ak/\ad.sound (.fn f [] a_)=true/\cr v1/\cr v2/\(gY dS (.ofNat 0)=true->Q .ret (aj [(0,.slice b off N cp),(1,.fn f [] a_),(4,.bool false),(5,J i)] ak))/\(gY dS (.ofNat 0)=false->(1<=i/\i<9223372036854775808)/\Q .nrm (aj [(0,.slice b off N cp),(1,.fn f [] a_),(5,J (i-1))] ak)))/\(¬0<i->Q (.exit 0) (aj [(0,.slice b off N cp),(1,.fn f [] a_),(5,J i)] h))):
  bp an Tryz.f86 call [1,0,1,0,0] (aj [(0,.slice b off N cp),(1,.fn f [] a_),(5,J i)] h) Q:=
 c3 [(17,.a1 .o),(22,.a1 .o),(23,.a1 (.z .i64))] [0,1,4,5] [1] H
theorem ab7(v:ad)(f:Nat)(a_:List ad)(h:ab)(H:gY (.ofNat 0) (.negSucc 0)=false/\Q (.exit 0) (aj [] h)):
  bp an Tryz.f86 call [1,0,1,0,0] (aj [(0,v),(1,.fn f [] a_),(5,.int .i64 (.negSucc 0))] h) Q:=
 c3 [(1010,.f)] [] [0,1] H
theorem ab8(m:Nat)(x y:ad)(a f:Nat)(a_:List ad)(h:ab)(H:aq (h.room 7) a 0=some (.fn f [] a_)/\∃s1 ak,Y m (.fn f) (x::a_) (h.room 7)=.ret (.str s1) ak/\aq ak a 0=some (.fn f [] a_)/\∃s2 av,Y m (.fn f) (y::a_) ak=.ret (.str s2) av/\ad.sound (.fn f [] a_)=true/\cr x/\ad.sound (.fn f [] a_)=true/\aq (h.room 7) a 0=some (.fn f [] a_)/\cr y/\(eA s1 s2=true->R (.ret (.int .i64 (.negSucc 0)) av))/\(eA s1 s2=false->R (.ret (J 1) av))):
  R (Y (m+1) (.fn 87) [x,y,af a] h):=
 dB [(6,.a1 (.io (.fn f [] a_))),(9,.a1 (.io (.fn f [] a_)))] [0,1] Tryz.func87 H
theorem ab9(m:Nat)(x y:ad)(a f:Nat)(a_:List ad)(h:ab)(H:aq (h.room 8) a 0=some (.fn f [] a_)/\∃s1 ak,Y m (.fn f) (x::a_) (h.room 8)=.ret (.str s1) ak/\aq ak a 0=some (.fn f [] a_)/\∃s2 av,Y m (.fn f) (y::a_) ak=.ret (.str s2) av/\ad.sound (.fn f [] a_)=true/\cr x/\ad.sound (.fn f [] a_)=true/\aq (h.room 8) a 0=some (.fn f [] a_)/\cr y/\R (.ret (.bool (c1 s1 s2)) av)):
  R (Y (m+1) (.fn 89) [x,y,af a] h):=
 dB [(6,.a1 (.io (.fn f [] a_))),(9,.a1 (.io (.fn f [] a_)))] [0,1] Tryz.func89 H
theorem Qt(m:Nat)(v:ad)(f:Nat)(a_:List ad)(h:ab)(H:∃aB,bV an h 63 v=some (J aB)/\(aB<2->R (.ret v h))/\(¬aB<2->bp an Tryz.f88 (Y m) [1,1,0,1,0] (aj [(0,v),(1,.fn f [] a_),(5,J 1)] h) (λb2 cc=>((∃v1 ak bt,b2=.exit 0/\cc=aj bt ak/\bY [(0,v1)] bt/\R (.ret v1 ak))\/(∃v2 av bw,b2=.ret/\cc=aj bw av/\bY [(4,v2)] bw/\R (.ret v2 av)))))):
  R (Y (m+1) (.fn 88) [v,.fn f [] a_] h):=
 dB [(4000,.fj [0,1,5] [(.exit 0,[(0,.o)]),(.ret,[(4,.o)])])] [0,1] Tryz.func88 H
theorem ab_(b N k f:Nat)(a_:List ad)(h:ab)(H:(k<N->k<N/\∃v1,aq (h.room 11) b (0+k*1)=some v1/\(1<=k/\k<9223372036854775808)/\k-1<N/\∃v2,aq (h.room 11) b (0+(k-1)*1)=some v2/\∃bn ak,call (.fn f) (v1::v2::a_) (h.room 11)=.ret (.bool bn) ak/\ad.sound (.fn f [] a_)=true/\cr v1/\cr v2/\(bn=true->∃aB aY bd,∃aM:ct,dC an ak 63 (.slice b 0 N (.aL 1)) (some (J k)) none none=some (.slice aB aY bd aM)/\bp an Tryz.f88 call [1,1,0,1,0,0,1,0,0,1,0,1,0,1,0] (aj [(0,.slice b 0 N (.aL 1)),(1,.fn f [] a_),(5,J k),(6,.slice aB aY bd aM),(7,J 1)] ak) (λb2 cc=>∃bj bC bP,∃bf:ct,∃cd av bt,b2=.exit 2/\cc=aj bt av/\bY [(0,.slice bj bC bP bf),(5,J cd)] bt/\∃cR dD dX,∃ee:ct,dC an av 63 (.slice bj bC bP bf) (some (J cd)) none none=some (.slice cR dD dX ee)/\∃aD,rh an av 63 (.slice cR dD dX ee)=some (.aR [],aD)/\∃b8,dC an aD 63 (.slice bj bC bP bf) none (some (J cd)) none=some b8/\Q .ret (aj [(0,.slice bj bC bP bf),(4,b8),(5,J cd)] aD)))/\(bn=false->k+1<9223372036854775808/\Q .nrm (aj [(0,.slice b 0 N (.aL 1)),(1,.fn f [] a_),(5,J (k+1))] ak)))/\(¬k<N->Q (.exit 0) (aj [(0,.slice b 0 N (.aL 1)),(1,.fn f [] a_),(5,J k)] h))):
  bp an Tryz.f88 call [1,1,0,1,0,0] (aj [(0,.slice b 0 N (.aL 1)),(1,.fn f [] a_),(5,J k)] h) Q:=
 c3 [(22,.a1 .o),(27,.a1 .o),(31,.a1 .gN),(4002,.fj [0,1,5,6,7] [(.exit 2,[(0,.gN),(5,.n .i64)])]),(61,.a1 .gN),(64,.a1 .o)] [0,1,4,5] [1] H
theorem aca(b N k f ed M j:Nat)(a_:List ad)(h:ab)(H:(j<M->j<M/\∃v1,aq (h.room 12) b (ed+j*1)=some v1/\(1<=j/\j<9223372036854775808)/\j-1<M/\∃v2,aq (h.room 12) b (ed+(j-1)*1)=some v2/\∃bn ak,call (.fn f) (v1::v2::a_) (h.room 12)=.ret (.bool bn) ak/\ad.sound (.fn f [] a_)=true/\cr v1/\cr v2/\(bn=true->j+1<9223372036854775808/\Q .nrm (aj [(0,.slice b 0 N (.aL 1)),(1,.fn f [] a_),(5,J k),(6,.slice b ed M (.aL 1)),(7,J (j+1))] ak))/\(bn=false->j<M/\∃s1,aq ak b (ed+j*1)=some (.str s1)/\k<N/\∃av,bg.storeCells ak b (0+k*1) [.str s1]=some av/\k+1<9223372036854775808/\j+1<9223372036854775808/\Q .nrm (aj [(0,.slice b 0 N (.aL 1)),(1,.fn f [] a_),(5,J (k+1)),(6,.slice b ed M (.aL 1)),(7,J (j+1))] av)))/\(¬j<M->Q (.exit 2) (aj [(0,.slice b 0 N (.aL 1)),(1,.fn f [] a_),(5,J k),(6,.slice b ed M (.aL 1)),(7,J j)] h))):
  bp an Tryz.f88 call [1,1,0,1,0,0,1,0,0,1,0,1,0,1,0,0] (aj [(0,.slice b 0 N (.aL 1)),(1,.fn f [] a_),(5,J k),(6,.slice b ed M (.aL 1)),(7,J j)] h) Q:=
 c3 [(42,.a1 .o),(47,.a1 .o)] [0,1,5,6,7] [1] H
theorem acb(m b off N:Nat)(cp:ct)(h:ab)(H:∃v1 ak,dJ an (ab.push h (aQ [] 9)) 63 (some 63) (.slice h.n 0 0 (.exact 0)) (.slice b off N cp)=some (v1,ak)/\R (.ret v1 ak)):
  R (Y (m+1) (.fn 38) [.slice b off N cp] h):=
 dB [(7,.a1 .o)] [] Tryz.func38 H
theorem acd(m:Nat)(h:ab)(H:R (.ret .aP h)):
  R (Y (m+1) (.fn 38) [.aP] h):=
 dB [] [] Tryz.func38 H
theorem ace(m:Nat)(v:ad)(f:Nat)(a_:List ad)(h:ab)(H:ad.de (.fn f [] a_)=true/\∃bn ak,Y m (.fn 86) [v,.fn 87 [] [af h.n]] (ab.push h (aQ [.fn f [] a_] 114))=.ret (.bool bn) ak/\(bn=true->∃v1 av,Y m (.fn 38) [v] ak=.ret v1 av/\∃v2 aD,Y m (.fn 88) [v1,.fn 89 [] [af h.n]] av=.ret v2 aD/\∃aB,bV an aD 63 v2=some (J aB)/\∃aY,bV an aD 63 v=some (J aY)/\R (.ret (.bool (bQ aB aY)) aD))/\(bn=false->R (.ret (.bool false) ak))):
  R (Y (m+1) (.fn 68) [v,.fn f [] a_] h):=
 dB [] [0,1] Tryz.func68 H
theorem acf(m:Nat)(v:ad)(f:Nat)(a_:List ad)(h:ab)(H:∃dS:Int,∃ak,Y m (.fn 82) [v,.fn f [] a_] h=.ret (.int .i64 dS) ak/\R (.ret (.bool (j5 (.ofNat 0) dS)) ak)):
  R (Y (m+1) (.fn 63) [v,.fn f [] a_] h):=
 dB [(7,.a1 (.z .i64))] [0,1] Tryz.func63 H
theorem acg(m:Nat)(v:ad)(f:Nat)(a_:List ad)(h:ab)(H:∃aB,bV an h 50 v=some (J aB)/\bp an Tryz.f82 (Y m) [1,0,1,0] (aj [(0,v),(1,.fn f [] a_),(7,J aB),(8,J 0)] h) (λb2 cc=>((∃ak bt,b2=.exit 0/\cc=aj bt ak/\bY [] bt/\R (.ret (.int .i64 (.negSucc 0)) ak))\/(∃aY av bw,b2=.ret/\cc=aj bw av/\bY [(4,J aY)] bw/\R (.ret (J aY) av))))):
  R (Y (m+1) (.fn 82) [v,.fn f [] a_] h):=
 dB [(4000,.fj [0,1,7,8] [(.exit 0,[]),(.ret,[(4,.n .i64)])])] [0,1] Tryz.func82 H
theorem ach(b off N i f:Nat)(a_:List ad)(cp:ct)(h:ab)(H:(i<N->i<N/\∃v1,aq h b (off+i*1)=some v1/\∃bn ak,call (.fn f) (v1::a_) h=.ret (.bool bn) ak/\(bn=true->Q .ret (aj [(0,.slice b off N cp),(1,.fn f [] a_),(4,J i),(7,J N),(8,J i)] ak))/\(bn=false->i+1<9223372036854775808/\Q .nrm (aj [(0,.slice b off N cp),(1,.fn f [] a_),(7,J N),(8,J (i+1))] ak)))/\(¬i<N->Q (.exit 0) (aj [(0,.slice b off N cp),(1,.fn f [] a_),(7,J N),(8,J i)] h))):
  bp an Tryz.f82 call [1,0,1,0,0] (aj [(0,.slice b off N cp),(1,.fn f [] a_),(7,J N),(8,J i)] h) Q:=
 c3 [(15,.a1 .o)] [0,1,4,7,8] [1] H
theorem aci(N i f:Nat)(a_:List ad)(v:ad)(h:ab)(H:¬i<N/\Q (.exit 0) (aj [] h)):
  bp an Tryz.f82 call [1,0,1,0,0] (aj [(0,v),(1,.fn f [] a_),(7,J N),(8,J i)] h) Q:=
 c3 [(1009,.f)] [] [0,1] H
theorem acj(m:Nat)(v:ad)(f:Nat)(a_:List ad)(h:ab)(H:∃aB,bV an h 50 v=some (J aB)/\(1<=aB/\aB<9223372036854775808)/\bp an Tryz.f90 (Y m) [1,0,1,0] (aj [(0,v),(1,.fn f [] a_),(5,J (aB-1))] h) (λb2 cc=>((∃ak bt,b2=.exit 0/\cc=aj bt ak/\bY [] bt/\R (.ret (.bool true) ak))\/(∃av bw,b2=.ret/\cc=aj bw av/\bY [(4,.bool false)] bw/\R (.ret (.bool false) av))))):
  R (Y (m+1) (.fn 90) [v,.fn f [] a_] h):=
 dB [(4000,.fj [0,1,5] [(.exit 0,[]),(.ret,[(4,.is (.bool false))])])] [0,1] Tryz.func90 H
theorem ack(m:Nat)(v:ad)(f:Nat)(a_:List ad)(h:ab)(H:∃aB,bV an h 50 v=some (J aB)/\∃dS:Int,arith .sub .i64 (.ofNat aB) (.ofNat 1)=some (.int .i64 dS)/\bp an Tryz.f90 (Y m) [1,0,1,0] (aj [(0,v),(1,.fn f [] a_),(5,.int .i64 dS)] h) (λb2 cc=>∃ak bt,b2=.exit 0/\cc=aj bt ak/\bY [] bt/\R (.ret (.bool true) ak))):
  R (Y (m+1) (.fn 90) [v,.fn f [] a_] h):=
 dB [(8,.a1 (.z .i64)),(4000,.fj [0,1,5] [(.exit 0,[])])] [0,1] Tryz.func90 H
theorem acm(b off N i f:Nat)(a_:List ad)(cp:ct)(h:ab)(H:(0<i->i<N/\∃v1,aq (h.room 12) b (off+i*1)=some v1/\(1<=i/\i<9223372036854775808)/\i-1<N/\∃v2,aq (h.room 12) b (off+(i-1)*1)=some v2/\∃dS:Int,∃ak,call (.fn f) (v1::v2::a_) (h.room 12)=.ret (.int .i64 dS) ak/\ad.sound (.fn f [] a_)=true/\cr v1/\cr v2/\(gY dS (.ofNat 0)=true->Q .ret (aj [(0,.slice b off N cp),(1,.fn f [] a_),(4,.bool false),(5,J i)] ak))/\(gY dS (.ofNat 0)=false->(1<=i/\i<9223372036854775808)/\Q .nrm (aj [(0,.slice b off N cp),(1,.fn f [] a_),(5,J (i-1))] ak)))/\(¬0<i->Q (.exit 0) (aj [(0,.slice b off N cp),(1,.fn f [] a_),(5,J i)] h))):
  bp an Tryz.f90 call [1,0,1,0,0] (aj [(0,.slice b off N cp),(1,.fn f [] a_),(5,J i)] h) Q:=
 c3 [(17,.a1 .o),(22,.a1 .o),(23,.a1 (.z .i64))] [0,1,4,5] [1] H
theorem acn(v:ad)(f:Nat)(a_:List ad)(h:ab)(H:gY (.ofNat 0) (.negSucc 0)=false/\Q (.exit 0) (aj [] h)):
  bp an Tryz.f90 call [1,0,1,0,0] (aj [(0,v),(1,.fn f [] a_),(5,.int .i64 (.negSucc 0))] h) Q:=
 c3 [(1010,.f)] [] [0,1] H
theorem aco(m:Nat)(x y:ad)(a f:Nat)(a_:List ad)(h:ab)(H:aq (h.room 7) a 0=some (.fn f [] a_)/\∃s1 ak,Y m (.fn f) (x::a_) (h.room 7)=.ret (.str s1) ak/\aq ak a 0=some (.fn f [] a_)/\∃s2 av,Y m (.fn f) (y::a_) ak=.ret (.str s2) av/\ad.sound (.fn f [] a_)=true/\cr x/\ad.sound (.fn f [] a_)=true/\aq (h.room 7) a 0=some (.fn f [] a_)/\cr y/\(eA s1 s2=true->R (.ret (.int .i64 (.negSucc 0)) av))/\(eA s1 s2=false->R (.ret (J 1) av))):
  R (Y (m+1) (.fn 91) [x,y,af a] h):=
 dB [(6,.a1 (.io (.fn f [] a_))),(9,.a1 (.io (.fn f [] a_)))] [0,1] Tryz.func91 H
theorem acp(m:Nat)(x y:ad)(a f:Nat)(a_:List ad)(h:ab)(H:aq (h.room 8) a 0=some (.fn f [] a_)/\∃s1 ak,Y m (.fn f) (x::a_) (h.room 8)=.ret (.str s1) ak/\aq ak a 0=some (.fn f [] a_)/\∃s2 av,Y m (.fn f) (y::a_) ak=.ret (.str s2) av/\ad.sound (.fn f [] a_)=true/\cr x/\ad.sound (.fn f [] a_)=true/\aq (h.room 8) a 0=some (.fn f [] a_)/\cr y/\R (.ret (.bool (c1 s1 s2)) av)):
  R (Y (m+1) (.fn 94) [x,y,af a] h):=
 dB [(6,.a1 (.io (.fn f [] a_))),(9,.a1 (.io (.fn f [] a_)))] [0,1] Tryz.func94 H
theorem Qu(m:Nat)(v:ad)(f:Nat)(a_:List ad)(h:ab)(H:∃aB,bV an h 50 v=some (J aB)/\(aB<2->R (.ret v h))/\(¬aB<2->bp an Tryz.f92 (Y m) [1,1,0,1,0] (aj [(0,v),(1,.fn f [] a_),(5,J 1)] h) (λb2 cc=>((∃v1 ak bt,b2=.exit 0/\cc=aj bt ak/\bY [(0,v1)] bt/\R (.ret v1 ak))\/(∃v2 av bw,b2=.ret/\cc=aj bw av/\bY [(4,v2)] bw/\R (.ret v2 av)))))):
  R (Y (m+1) (.fn 92) [v,.fn f [] a_] h):=
 dB [(4000,.fj [0,1,5] [(.exit 0,[(0,.o)]),(.ret,[(4,.o)])])] [0,1] Tryz.func92 H
theorem acq(b N k f:Nat)(a_:List ad)(h:ab)(H:(k<N->k<N/\∃v1,aq (h.room 11) b (0+k*1)=some v1/\(1<=k/\k<9223372036854775808)/\k-1<N/\∃v2,aq (h.room 11) b (0+(k-1)*1)=some v2/\∃bn ak,call (.fn f) (v1::v2::a_) (h.room 11)=.ret (.bool bn) ak/\ad.sound (.fn f [] a_)=true/\cr v1/\cr v2/\(bn=true->∃aB aY bd,∃aM:ct,dC an ak 50 (.slice b 0 N (.aL 1)) (some (J k)) none none=some (.slice aB aY bd aM)/\bp an Tryz.f92 call [1,1,0,1,0,0,1,0,0,1,0,1,0,1,0] (aj [(0,.slice b 0 N (.aL 1)),(1,.fn f [] a_),(5,J k),(6,.slice aB aY bd aM),(7,J 1)] ak) (λb2 cc=>∃bj bC bP,∃bf:ct,∃cd av bt,b2=.exit 2/\cc=aj bt av/\bY [(0,.slice bj bC bP bf),(5,J cd)] bt/\∃cR dD dX,∃ee:ct,dC an av 50 (.slice bj bC bP bf) (some (J cd)) none none=some (.slice cR dD dX ee)/\∃aD,rh an av 50 (.slice cR dD dX ee)=some (.aR [],aD)/\∃b8,dC an aD 50 (.slice bj bC bP bf) none (some (J cd)) none=some b8/\Q .ret (aj [(0,.slice bj bC bP bf),(4,b8),(5,J cd)] aD)))/\(bn=false->k+1<9223372036854775808/\Q .nrm (aj [(0,.slice b 0 N (.aL 1)),(1,.fn f [] a_),(5,J (k+1))] ak)))/\(¬k<N->Q (.exit 0) (aj [(0,.slice b 0 N (.aL 1)),(1,.fn f [] a_),(5,J k)] h))):
  bp an Tryz.f92 call [1,1,0,1,0,0] (aj [(0,.slice b 0 N (.aL 1)),(1,.fn f [] a_),(5,J k)] h) Q:=
 c3 [(22,.a1 .o),(27,.a1 .o),(31,.a1 .gN),(4002,.fj [0,1,5,6,7] [(.exit 2,[(0,.gN),(5,.n .i64)])]),(61,.a1 .gN),(64,.a1 .o)] [0,1,4,5] [1] H
theorem acr(b N k f ed M j:Nat)(a_:List ad)(h:ab)(H:(j<M->j<M/\∃v1,aq (h.room 12) b (ed+j*1)=some v1/\(1<=j/\j<9223372036854775808)/\j-1<M/\∃v2,aq (h.room 12) b (ed+(j-1)*1)=some v2/\∃bn ak,call (.fn f) (v1::v2::a_) (h.room 12)=.ret (.bool bn) ak/\ad.sound (.fn f [] a_)=true/\cr v1/\cr v2/\(bn=true->j+1<9223372036854775808/\Q .nrm (aj [(0,.slice b 0 N (.aL 1)),(1,.fn f [] a_),(5,J k),(6,.slice b ed M (.aL 1)),(7,J (j+1))] ak))/\(bn=false->j<M/\∃aB,aq ak b (ed+j*1)=some (af aB)/\k<N/\∃av,bg.storeCells ak b (0+k*1) [af aB]=some av/\k+1<9223372036854775808/\j+1<9223372036854775808/\Q .nrm (aj [(0,.slice b 0 N (.aL 1)),(1,.fn f [] a_),(5,J (k+1)),(6,.slice b ed M (.aL 1)),(7,J (j+1))] av)))/\(¬j<M->Q (.exit 2) (aj [(0,.slice b 0 N (.aL 1)),(1,.fn f [] a_),(5,J k),(6,.slice b ed M (.aL 1)),(7,J j)] h))):
  bp an Tryz.f92 call [1,1,0,1,0,0,1,0,0,1,0,1,0,1,0,0] (aj [(0,.slice b 0 N (.aL 1)),(1,.fn f [] a_),(5,J k),(6,.slice b ed M (.aL 1)),(7,J j)] h) Q:=
 c3 [(42,.a1 .o),(47,.a1 .o)] [0,1,5,6,7] [1] H
theorem acs(m b off N:Nat)(cp:ct)(h:ab)(H:∃v1 ak,dJ an (ab.push h (aQ [] 35)) 50 (some 50) (.slice h.n 0 0 (.exact 0)) (.slice b off N cp)=some (v1,ak)/\R (.ret v1 ak)):
  R (Y (m+1) (.fn 93) [.slice b off N cp] h):=
 dB [(7,.a1 .o)] [] Tryz.func93 H
theorem acu(m:Nat)(h:ab)(H:R (.ret .aP h)):
  R (Y (m+1) (.fn 93) [.aP] h):=
 dB [] [] Tryz.func93 H
theorem acv(m:Nat)(v:ad)(f:Nat)(a_:List ad)(h:ab)(H:ad.de (.fn f [] a_)=true/\∃bn ak,Y m (.fn 90) [v,.fn 91 [] [af h.n]] (ab.push h (aQ [.fn f [] a_] 116))=.ret (.bool bn) ak/\(bn=true->∃v1 av,Y m (.fn 93) [v] ak=.ret v1 av/\∃v2 aD,Y m (.fn 92) [v1,.fn 94 [] [af h.n]] av=.ret v2 aD/\∃aB,bV an aD 50 v2=some (J aB)/\∃aY,bV an aD 50 v=some (J aY)/\R (.ret (.bool (bQ aB aY)) aD))/\(bn=false->R (.ret (.bool false) ak))):
  R (Y (m+1) (.fn 71) [v,.fn f [] a_] h):=
 dB [] [0,1] Tryz.func71 H
theorem acw(m:Nat)(v:ad)(h:ab)(H:∃bn ak,Y m (.fn 43) [v] h=.ret (.bool bn) ak/\R (.ret (.bool !bn) ak)):
  R (Y (m+1) (.fn 62) [v] h):=
 dB [] [0] Tryz.func62 H
theorem acx(m:Nat)(s:List UInt8)(h:ab)(H:∃bn ak,Y m (.fn 67) [.str s] h=.ret (.bool bn) ak/\R (.ret (.bool !bn) ak)):
  R (Y (m+1) (.fn 66) [.str s] h):=
 dB [] [] Tryz.func66 H
theorem acy(m:Nat)(s:List UInt8)(h:ab)(H:R (.ret (.str s) h)):
  R (Y (m+1) (.fn 69) [.str s] h):=
 dB [] [] Tryz.func69 H
theorem acz(m r:Nat)(h:ab)(H:∃aB,aq h r 0=some (J aB)/\(aB=9->R (.ret (.bool true) h))/\(¬aB=9->∃aY,aq h r 0=some (J aY)/\R (.ret (.bool (bQ aY 1)) h))):
  R (Y (m+1) (.fn 70) [af r] h):=
 dB [] [] Tryz.func70 H
theorem acA(m r:Nat)(h:ab)(H:∃aB ak,Y m (.fn 16) [af r] h=.ret (J aB) ak/\(60<aB->R (.ret (J 3) ak))/\(¬60<aB->∃bn av,Y m (.fn 43) [af r] ak=.ret (.bool bn) av/\(bn=true->R (.ret (J 0) av))/\(bn=false->R (.ret (J 2) av)))):
  R (Y (m+1) (.fn 25) [af r] h):=
 dB [] [] Tryz.func25 H
theorem acB(m:Nat)(h:ab)(H:R (.ret (J 1) h)):
  R (Y (m+1) (.fn 25) [.aX] h):=
 dB [] [] Tryz.func25 H
theorem u4{n:Nat}{q:Nat->Bool}(h:∀j,j<n->q j=false):(List.range n).any q=false:=by
 rw[List.any_eq_false];intro j aO;rw[h j (by simpa using aO)];simp
theorem y_{n i:Nat}{q:Nat->Bool}(hi:i<n)(h:q i=true):(List.range n).any q=true:=List.any_eq_true.2 ⟨i,by simpa using hi,h⟩
theorem ow{f:Nat}{a_:List ad}(h:k_ a_=true):ad.sound (.fn f [] a_)=true:=by simp[ad.sound,k_,h]
theorem pe(z:ad)(a7:z.de=true)(L:List ad)(k:Nat)(ay:k<L.length):gD k [z] L=some (L.set k z):=by
 have h:=yv (L.take k) [z] (L.drop k) (by simp[a7]) (by simp;omega)
 rw[List.length_take,Nat.min_eq_left (by omega),List.take_append_drop] at h
 rw[h,List.drop_drop]
 congr 1
 rw[List.set_eq_take_append_cons_drop,if_pos ay]
 rfl
theorem Qv(xs:List ad)(aa:xs.all ad.de=true)(L:List ad)(k:Nat)(ay:k+xs.length<=L.length):∃eF,gD k xs L=some eF/\eF.length=L.length:=by
 have h:=yv (L.take k) xs (L.drop k) aa (by simp;omega)
 rw[List.length_take,Nat.min_eq_left (by omega),List.take_append_drop] at h
 exact⟨_,h,by simp;omega⟩
theorem acC:∀(l cs:List ad) (o:Nat),(∀i (hi:i<l.length),nth (o+i) cs=some l[i])->takeN l.length (j4 o cs)=some l:=by
 have base:∀(l cs:List ad),(∀i (hi:i<l.length),nth i cs=some l[i])->takeN l.length cs=some l:=by
  intro l
  induction l with
  |nil=>intro cs _;rfl
  |cons a l bl=>
   intro cs h
   cases cs with
   |nil=>have:=h 0 (by simp);simp[nth] at this
   |cons c cs=>
    have h0:=h 0 (by simp)
    simp only[nth,List.getElem_cons_zero,Option.some.injEq] at h0
    subst h0
    have:=bl cs (λi hi=>by have:=h (i+1) (by simpa using hi);simpa[nth] using this)
    simp only[List.length_cons,takeN,this]
 intro l cs o
 induction o generalizing cs with
 |zero=>intro h;exact base l cs (λi hi=>by have:=h i hi;rwa [Nat.zero_add] at this)
 |succ o bl=>
  intro h
  cases cs with
  |nil=>
   cases l with
   |nil=>rfl
   |cons a l=>have:=h 0 (by simp);simp[nth] at this
  |cons c cs=>
   refine bl cs (λi hi=>?_)
   have:=h i hi
   rw[show o+1+i=(o+i)+1 by omega] at this
   simpa[nth] using this
theorem c5.src{B:Nat}{h:ab}{b off:Nat}{cp:ct}{vs:List ad}(aA:∀i (hi:i<vs.length),aq h b (off+i*1)=some vs[i])(h0:0<vs.length)(ah:cp≠ .dead):fu h 1 (.slice b off vs.length cp)=some (vs.length,vs):=by
 have ag:∃cs e k lo up,h.get b=some (.cells cs e k lo up):=by
  have:=aA 0 h0
  unfold aq at this
  split at this
  · rename_i cs e k lo up ar
    exact⟨cs,e,k,lo,up,ar⟩
  · cases this
 obtain⟨cs,e,k,lo,up,ar⟩:=ag
 have gf:bg.loadCells h b off (vs.length*1)=some vs:=by
  refine lU ar ?_
  rw[Nat.mul_one]
  refine acC vs cs off (λi hi=>?_)
  have:=aA i hi
  simp only[aq,ar,Nat.mul_one] at this
  exact this
 cases cp with
 |dead=>exact absurd rfl ah
 |exact c=>simp only[fu,gf]
 |aL c=>simp only[fu,gf]
def jq(h:ab)(b:Nat)(el:Nat)(L:List ad):Prop:=h.get b=some (.cells L el .aL 0 0)
theorem jq.pf{h:ab}{b el:Nat}{L:List ad}(bc:jq h b el L){i o:Nat}(hi:i<L.length)(e:o=i):aq h b o=some L[i]:=by
 subst e;exact lb bc (List.getElem?_eq_getElem hi)
theorem acD(m:Nat){B:Nat}{h:ab}{v:ad}{vs:List ad}(f:Nat)(a_:List ad)(q:Nat->Bool)(aI:c5 B h v vs)(hlen:vs.length<=90000)(hf:∀i (hi:i<vs.length) x,Ext B h x->dq B x (.bool (q i)) (Y m (.fn f) (vs[i]::a_) x)):
  dq B h (.bool ((List.range vs.length).any q)) (Y (m+2) (.fn 65) [v,.fn f [] a_] h):=by
 refine ab0 (m+1) v f a_ h ?_
 have key:∃i g,Y (m+1) (.fn 84) [v,.fn f [] a_] h=.ret (.int .i64 i) g/\j5 (Int.ofNat 0) i=(List.range vs.length).any q/\Ext B h g:=by
  refine ab1 m v f a_ h (R:=λx=>∃i g,x=.ret (.int .i64 i) g/\j5 (Int.ofNat 0) i=(List.range vs.length).any q/\Ext B h g) ⟨vs.length,aI.len (t:=63) (e:=9) (by kernel_rfl),?_⟩
  refine e8 (λk st=>∃i x Γ,st=aks Γ x/\bY [(0,v),(1,.fn f [] a_),(7,J vs.length),(8,J i)] Γ/\vs.length-i=k/\i<=vs.length/\Ext B h x/\∀j,j<i->q j=false) ?_ vs.length _ (by omega) ⟨0,h,_,rfl,⟨rfl,rfl,rfl,rfl,trivial⟩,by omega,by omega,Ext.refl _ _,λj aO=>by omega⟩
  rintro k st ⟨i,x,Γ,rfl,cn,ay,hi,aa,aK⟩
  rcases aI with⟨rfl,rfl⟩|⟨b,off,cp,rfl,ag,aA,a0,ai⟩
  · exact ei (ab3 (Y m) _ i f a_ _ x ⟨by simp,.inl ⟨x,_,rfl,rfl,trivial,_,x,rfl,rfl,aa⟩⟩) cn
  · refine ei (ab2 (Y m) b off _ i f a_ cp x ⟨λI=>⟨I,_,iD aa ag (aA i I),?_⟩,λI=>?_⟩) cn
    · obtain⟨g,aM,bF⟩:=hf i I x aa
      have ar:=aa.trans (Nat.le_refl _) bF
      refine⟨q i,g,aM,λah=>?_,λah=>?_⟩
      · exact .inr ⟨i,g,_,rfl,rfl,⟨rfl,trivial⟩,_,g,rfl,by rw[y_ I ah];exact n8 (by omega),ar⟩
      · refine⟨by omega,_,(by show _<k;omega),i+1,g,_,rfl,⟨rfl,rfl,rfl,rfl,trivial⟩,rfl,by omega,ar,λj aO=>?_⟩
        by_cases e:j=i
        · rw[e];exact ah
        · exact aK j (by omega)
    · exact .inl ⟨x,_,rfl,rfl,trivial,_,x,rfl,by rw[u4 (λj aO=>aK j (by omega))];rfl,aa⟩
 obtain⟨i,g,aM,aG,bF⟩:=key
 exact⟨i,g,aM,dq.of (jz aG.symm) bF⟩
theorem acE(m:Nat){B:Nat}{h:ab}{v:ad}{vs:List ad}(f:Nat)(a_:List ad)(q:Nat->Nat->Bool)(aI:c5 B h v vs)(hlen:vs.length<=90000)(iS:k_ a_=true)(fv:∀i (hi:i<vs.length),ad.sound vs[i]=true)(hf:∀i j (hi:i<vs.length) (aO:j<vs.length) x,Ext B h x->dq B x (.int .i64 (if q i j then Int.negSucc 0 else Int.ofNat 1)) (Y m (.fn f) (vs[i]::vs[j]::a_) x)):
  dq B h (.bool (!(List.range vs.length).any (λi=>decide (0<i)&&q i (i-1)))) (Y (m+1) (.fn 86) [v,.fn f [] a_] h):=by
 by_cases h0:vs.length=0
 · refine ab5 m v f a_ h ⟨0,by rw[<-h0];exact aI.len (t:=63) (e:=9) (by kernel_rfl),Int.negSucc 0,by kernel_rfl,?_⟩
   refine e8 (λk st=>∃Γ,st=aks Γ h/\bY [(0,v),(1,.fn f [] a_),(5,.int .i64 (Int.negSucc 0))] Γ) ?_ 1 _ (by omega) ⟨_,rfl,rfl,rfl,rfl,trivial⟩
   rintro k st ⟨Γ,rfl,cn⟩
   exact ei (ab7 (Y m) v f a_ h ⟨rfl,h,_,rfl,rfl,trivial,dq.of (jz (by rw[h0];rfl)) (Ext.refl _ _)⟩) cn
 · refine ab4 m v f a_ h ⟨vs.length,aI.len (t:=63) (e:=9) (by kernel_rfl),⟨by omega,by omega⟩,?_⟩
   refine e8 (λk st=>∃i x Γ,st=aks Γ x/\bY [(0,v),(1,.fn f [] a_),(5,J i)] Γ/\i=k/\i<vs.length/\Ext B h x/\∀j,i<j->j<vs.length->q j (j-1)=false) ?_ (vs.length-1) _ (by omega) ⟨vs.length-1,h,_,rfl,⟨rfl,rfl,rfl,trivial⟩,by omega,by omega,Ext.refl _ _,λj aO rC=>by omega⟩
   rintro k st ⟨i,x,Γ,rfl,cn,ay,hi,aa,aK⟩
   rcases aI with⟨rfl,rfl⟩|⟨b,off,cp,rfl,ag,aA,a0,ai⟩
   · simp at h0
   · refine ei (ab6 (Y m) b off _ i f a_ cp x ⟨λI=>?_,λI=>?_⟩) cn
     · have ao:=aa.iT (k:=12)
       obtain⟨g,aM,bF⟩:=hf i (i-1) hi (by omega) _ ao
       have ar:=ao.trans (Nat.le_refl _) bF
       refine⟨hi,_,iD ao ag (aA i hi),⟨by omega,by omega⟩,by omega,_,iD ao ag (aA (i-1) (by omega)),_,g,aM,ow iS,fv i hi,fv (i-1) (by omega),λah=>?_,λah=>?_⟩
       · have my:q i (i-1)=true:=by
           cases qC:q i (i-1) with
           |true=>rfl
           |false=>rw[qC] at ah;exact absurd ah (by decide)
         exact .inr ⟨g,_,rfl,rfl,⟨rfl,trivial⟩,dq.of (jz (by rw[y_ hi (by simp[I,my])];rfl)) ar⟩
       · have my:q i (i-1)=false:=by
           cases qC:q i (i-1) with
           |false=>rfl
           |true=>rw[qC] at ah;exact absurd ah (by decide)
         refine⟨⟨by omega,by omega⟩,_,(by show _<k;omega),i-1,g,_,rfl,⟨rfl,rfl,rfl,trivial⟩,rfl,by omega,ar,λj aO rC=>?_⟩
         by_cases e:j=i
         · rw[e];exact my
         · exact aK j (by omega) rC
     · refine .inl ⟨x,_,rfl,rfl,trivial,dq.of (jz ?_) aa⟩
       rw[u4 (λj aO=>?_)];rfl
       by_cases e:0<j
       · rw[aK j (by omega) aO,Bool.and_false]
       · simp[e]
theorem Qw(m:Nat){B:Nat}{h:ab}{v:ad}{vs:List ad}(f:Nat)(a_:List ad)(q:Nat->Bool)(aI:c5 B h v vs)(hlen:vs.length<=90000)(hf:∀i (hi:i<vs.length) x,Ext B h x->dq B x (.bool (q i)) (Y m (.fn f) (vs[i]::a_) x)):
  dq B h (.bool ((List.range vs.length).any q)) (Y (m+2) (.fn 63) [v,.fn f [] a_] h):=by
 refine acf (m+1) v f a_ h ?_
 have key:∃i g,Y (m+1) (.fn 82) [v,.fn f [] a_] h=.ret (.int .i64 i) g/\j5 (Int.ofNat 0) i=(List.range vs.length).any q/\Ext B h g:=by
  refine acg m v f a_ h (R:=λx=>∃i g,x=.ret (.int .i64 i) g/\j5 (Int.ofNat 0) i=(List.range vs.length).any q/\Ext B h g) ⟨vs.length,aI.len (t:=50) (e:=35) (by kernel_rfl),?_⟩
  refine e8 (λk st=>∃i x Γ,st=aks Γ x/\bY [(0,v),(1,.fn f [] a_),(7,J vs.length),(8,J i)] Γ/\vs.length-i=k/\i<=vs.length/\Ext B h x/\∀j,j<i->q j=false) ?_ vs.length _ (by omega) ⟨0,h,_,rfl,⟨rfl,rfl,rfl,rfl,trivial⟩,by omega,by omega,Ext.refl _ _,λj aO=>by omega⟩
  rintro k st ⟨i,x,Γ,rfl,cn,ay,hi,aa,aK⟩
  rcases aI with⟨rfl,rfl⟩|⟨b,off,cp,rfl,ag,aA,a0,ai⟩
  · exact ei (aci (Y m) _ i f a_ _ x ⟨by simp,.inl ⟨x,_,rfl,rfl,trivial,_,x,rfl,rfl,aa⟩⟩) cn
  · refine ei (ach (Y m) b off _ i f a_ cp x ⟨λI=>⟨I,_,iD aa ag (aA i I),?_⟩,λI=>?_⟩) cn
    · obtain⟨g,aM,bF⟩:=hf i I x aa
      have ar:=aa.trans (Nat.le_refl _) bF
      refine⟨q i,g,aM,λah=>?_,λah=>?_⟩
      · exact .inr ⟨i,g,_,rfl,rfl,⟨rfl,trivial⟩,_,g,rfl,by rw[y_ I ah];exact n8 (by omega),ar⟩
      · refine⟨by omega,_,(by show _<k;omega),i+1,g,_,rfl,⟨rfl,rfl,rfl,rfl,trivial⟩,rfl,by omega,ar,λj aO=>?_⟩
        by_cases e:j=i
        · rw[e];exact ah
        · exact aK j (by omega)
    · exact .inl ⟨x,_,rfl,rfl,trivial,_,x,rfl,by rw[u4 (λj aO=>aK j (by omega))];rfl,aa⟩
 obtain⟨i,g,aM,aG,bF⟩:=key
 exact⟨i,g,aM,dq.of (jz aG.symm) bF⟩
theorem acF(m:Nat){B:Nat}{h:ab}{v:ad}{vs:List ad}(f:Nat)(a_:List ad)(q:Nat->Nat->Bool)(aI:c5 B h v vs)(hlen:vs.length<=90000)(iS:k_ a_=true)(fv:∀i (hi:i<vs.length),ad.sound vs[i]=true)(hf:∀i j (hi:i<vs.length) (aO:j<vs.length) x,Ext B h x->dq B x (.int .i64 (if q i j then Int.negSucc 0 else Int.ofNat 1)) (Y m (.fn f) (vs[i]::vs[j]::a_) x)):
  dq B h (.bool (!(List.range vs.length).any (λi=>decide (0<i)&&q i (i-1)))) (Y (m+1) (.fn 90) [v,.fn f [] a_] h):=by
 by_cases h0:vs.length=0
 · refine ack m v f a_ h ⟨0,by rw[<-h0];exact aI.len (t:=50) (e:=35) (by kernel_rfl),Int.negSucc 0,by kernel_rfl,?_⟩
   refine e8 (λk st=>∃Γ,st=aks Γ h/\bY [(0,v),(1,.fn f [] a_),(5,.int .i64 (Int.negSucc 0))] Γ) ?_ 1 _ (by omega) ⟨_,rfl,rfl,rfl,rfl,trivial⟩
   rintro k st ⟨Γ,rfl,cn⟩
   exact ei (acn (Y m) v f a_ h ⟨rfl,h,_,rfl,rfl,trivial,dq.of (jz (by rw[h0];rfl)) (Ext.refl _ _)⟩) cn
 · refine acj m v f a_ h ⟨vs.length,aI.len (t:=50) (e:=35) (by kernel_rfl),⟨by omega,by omega⟩,?_⟩
   refine e8 (λk st=>∃i x Γ,st=aks Γ x/\bY [(0,v),(1,.fn f [] a_),(5,J i)] Γ/\i=k/\i<vs.length/\Ext B h x/\∀j,i<j->j<vs.length->q j (j-1)=false) ?_ (vs.length-1) _ (by omega) ⟨vs.length-1,h,_,rfl,⟨rfl,rfl,rfl,trivial⟩,by omega,by omega,Ext.refl _ _,λj aO rC=>by omega⟩
   rintro k st ⟨i,x,Γ,rfl,cn,ay,hi,aa,aK⟩
   rcases aI with⟨rfl,rfl⟩|⟨b,off,cp,rfl,ag,aA,a0,ai⟩
   · simp at h0
   · refine ei (acm (Y m) b off _ i f a_ cp x ⟨λI=>?_,λI=>?_⟩) cn
     · have ao:=aa.iT (k:=12)
       obtain⟨g,aM,bF⟩:=hf i (i-1) hi (by omega) _ ao
       have ar:=ao.trans (Nat.le_refl _) bF
       refine⟨hi,_,iD ao ag (aA i hi),⟨by omega,by omega⟩,by omega,_,iD ao ag (aA (i-1) (by omega)),_,g,aM,ow iS,fv i hi,fv (i-1) (by omega),λah=>?_,λah=>?_⟩
       · have my:q i (i-1)=true:=by
           cases qC:q i (i-1) with
           |true=>rfl
           |false=>rw[qC] at ah;exact absurd ah (by decide)
         exact .inr ⟨g,_,rfl,rfl,⟨rfl,trivial⟩,dq.of (jz (by rw[y_ hi (by simp[I,my])];rfl)) ar⟩
       · have my:q i (i-1)=false:=by
           cases qC:q i (i-1) with
           |false=>rfl
           |true=>rw[qC] at ah;exact absurd ah (by decide)
         refine⟨⟨by omega,by omega⟩,_,(by show _<k;omega),i-1,g,_,rfl,⟨rfl,rfl,rfl,trivial⟩,rfl,by omega,ar,λj aO rC=>?_⟩
         by_cases e:j=i
         · rw[e];exact my
         · exact aK j (by omega) rC
     · refine .inl ⟨x,_,rfl,rfl,trivial,dq.of (jz ?_) aa⟩
       rw[u4 (λj aO=>?_)];rfl
       by_cases e:0<j
       · rw[aK j (by omega) aO,Bool.and_false]
       · simp[e]
theorem Qx{n:Nat}(h:¬n<2):2<=n:=by omega
theorem u5{P:Program}{h:ab}{T E b n k:Nat}(hu:P.underlying T=some (.slice E))(al:ef P E=some 1)(h0:0<k)(ay:k<n):dC P h T (.slice b 0 n (.aL 1)) (some (J k)) none none=some (.slice b (0+k*1) (n-k) (.aL 1)):=by
 have bn:Nat.ble n n=true:=by rw[Nat.ble_eq];omega
 have bo:Nat.ble k n=true:=by rw[Nat.ble_eq];omega
 have c9:Nat.blt k n=true:=by rw[Nat.blt_eq];exact ay
 have c6:¬k=0:=by omega
 simp only[dC,hu,al,bounds,hU,fe,bn,bo,c9,if_true,if_neg c6]
theorem E9{P:Program}{h:ab}{T E b n k:Nat}(hu:P.underlying T=some (.slice E))(al:ef P E=some 1)(ay:k<=n):dC P h T (.slice b 0 n (.aL 1)) none (some (J k)) none=some (.slice b 0 k (.aL 1)):=by
 have bn:Nat.ble n n=true:=by rw[Nat.ble_eq];omega
 have bo:Nat.ble k n=true:=by rw[Nat.ble_eq];omega
 have c9:Nat.ble 0 k=true:=by rw[Nat.ble_eq];omega
 simp only[dC,hu,al,bounds,hU,fe,bn,bo,c9,if_true,Nat.sub_zero]
theorem Qy:∀a:bb,eA a a=false
 |[]=>rfl
 |x::a=>by rw[BB,if_pos rfl];exact Qy a
theorem Qz:∀a b:bb,eA a b=true->eA b a=false
 |[],b,h=>by cases b<;>rfl
 |x::a,[],h=>by simp[eA] at h
 |x::a,y::b,h=>by
  rw[BB] at h⊢
  by_cases e:x.toNat=y.toNat
  · rw[if_pos e] at h;rw[if_pos e.symm];exact Qz a b h
  · rw[if_neg e] at h;rw[if_neg (λh=>e h.symm)]
    have:x.toNat<y.toNat:=by simpa using h
    simp;omega
theorem Jo:∀a b:bb,eA a b=false->eA b a=false->a=b
 |[],[],_,_=>rfl
 |[],y::b,h,_=>by simp[eA] at h
 |x::a,[],_,h=>by simp[eA] at h
 |x::a,y::b,I,ae=>by
  rw[BB] at I ae
  by_cases e:x.toNat=y.toNat
  · rw[if_pos e] at I;rw[if_pos e.symm] at ae
    rw[Jo a b I ae,show x=y from UInt8.toNat_inj.1 e]
  · rw[if_neg e] at I;rw[if_neg (λh=>e h.symm)] at ae
    simp at I ae;omega
theorem QA(a b:bb):eA a b=(!eA b a&&!c1 b a):=by
 by_cases e:b=a
 · subst e;rw[Qy,yx];rfl
 · have ag:c1 b a=false:=by
     cases aa:c1 b a with
     |false=>rfl
     |true=>exact absurd (by simpa[nP] using aa) e
   rw[ag]
   cases I:eA a b with
   |true=>rw[Qz a b I];rfl
   |false=>
    cases ae:eA b a with
    |true=>rfl
    |false=>exact absurd (Jo a b I ae).symm e
def r5(w:Nat->bb)(n:Nat):Bool:=!(List.range n).any (λi=>decide (0<i)&&!eA (w (i-1)) (w i))
theorem QB(w:Nat->bb)(n:Nat)(al:(!(List.range n).any (λi=>decide (0<i)&&eA (w i) (w (i-1))))=true):r5 w n=(!(List.range n).any (λi=>decide (0<i)&&c1 (w i) (w (i-1)))):=by
 unfold r5
 congr 1
 rw[Bool.not_eq_true',List.any_eq_false] at al
 rw[Bool.eq_iff_iff,List.any_eq_true,List.any_eq_true]
 refine exists_congr λi=>and_congr_right λhi=>?_
 have:=al i hi
 rw[QA (w (i-1)) (w i)]
 by_cases e:0<i
 · have aA:eA (w i) (w (i-1))=false:=by simpa[e] using this
   rw[aA];simp[e]
 · simp[e]
theorem QC(w:Nat->bb)(n:Nat)(al:(!(List.range n).any (λi=>decide (0<i)&&eA (w i) (w (i-1))))=false):r5 w n=false:=by
 unfold r5
 rw[Bool.not_eq_false',List.any_eq_true] at al⊢
 obtain⟨i,hi,aK⟩:=al
 refine⟨i,hi,?_⟩
 rw[QA (w (i-1)) (w i)]
 simp only[Bool.and_eq_true] at aK⊢
 rw[aK.2];exact⟨aK.1,rfl⟩
def BS(L vs:List ad):Prop:=∀i (hi:i<L.length),∃s,∃al:s<vs.length,L[i]=vs[s]
theorem BS.set{L vs:List ad}(h:BS L vs)(k:Nat){s:Nat}(al:s<vs.length):BS (L.set k vs[s]) vs:=by
 intro i hi
 rw[List.getElem_set]
 split
 · exact⟨s,al,rfl⟩
 · exact h i (by simpa using hi)
theorem QD{a:Bool}{n k:Nat}(h:a=decide (k=n)):fc (Int.ofNat k) (Int.ofNat n)=a:=by rw[w_,h]
theorem Jp{E U:Nat}{h:ab}{v:ad}{vs:List ad}{a:Nat}(hu:an.underlying U=some (.slice E))(fG:rf an (some U)=true){i:TypeInfo}{z:ad}(hi:an.info? E=some i)(bJ:i.size=1)(n0:i.bytes<=1000)(a7:eT an E=some z)(jc:z.cells.length=1)(aI:fu h 1 v=some (vs.length,vs))(h0:0<vs.length)(aA:vs.length<=90000)(ah:vs.all ad.de=true)(aV:h.get a=some (aQ [] E)):
  dJ an h U (some U) (.slice a 0 0 (.exact 0)) v=some (.slice h.n 0 vs.length (.aL 1),h.push (.cells vs E .aL 0 0)):=by
 obtain⟨k,ay⟩:∃k,vs.length=k+1:=⟨vs.length-1,by omega⟩
 have hmul:(4*(0+(k+1))+2048)*(i.bytes+1)<=(4*90000+2048)*1001:=Nat.mul_le_mul (by omega) (by omega)
 have ky:l_ h E i.bytes 1 (0+(k+1)) z ([]++vs) 0=some (.slice h.n 0 (0+(k+1)) (.aL 1),h.push (.cells ([]++vs) E .aL 0 0)):=
  yu (by unfold mG;rw[Nat.ble_eq];omega) (by rw[jc];rfl) (by rw[List.nil_append];exact ah)
 have qJ:Nat.ble (0+(k+1)) 0=false:=by
  cases aa:Nat.ble (0+(k+1)) 0 with
  |false=>rfl
  |true=>have:=Nat.le_of_ble_eq_true aa;omega
 have gf:bg.loadCells h a 0 (0*1)=some []:=by simp only[bg.loadCells,aV];rfl
 rw[ay] at aI
 simp only[dJ,hu,fG,hi,a7,bJ,aI,ay,qJ,gf,ky]
 rw[List.nil_append,Nat.zero_add]
theorem E_(m:Nat){B:Nat}{h:ab}{v:ad}{vs:List ad}(dd:B<=h.n)(aI:c5 B h v vs)(hlen:vs.length<=90000)(ah:vs.all ad.de=true):(v=.aP/\vs=[]/\Y (m+1) (.fn 38) [v] h=.ret .aP h)\/(0<vs.length/\∃b aw,Y (m+1) (.fn 38) [v] h=.ret (.slice b 0 vs.length (.aL 1)) aw/\B<=b/\b<aw.n/\jq aw b 9 vs/\Ext B h aw):=by
 rcases aI with⟨rfl,rfl⟩|⟨b,off,cp,rfl,ag,aA,a0,ai⟩
 · exact .inl ⟨rfl,rfl,acd m h (R:=λx=>x=.ret .aP h) rfl⟩
 · right
   refine⟨a0,?_⟩
   obtain⟨H,cy⟩:∃H,H=h.push (aQ [] 9):=⟨_,rfl⟩
   have dY:Ext B h H:=by rw[cy];exact Ext.push dd _
   have lj:H.n=h.n+1:=by rw[cy];rfl
   have fG:=c5.src (B:=B) (h:=H) (λi hi=>iD dY ag (aA i hi)) a0 ai
   obtain⟨i,hi⟩:=Option.isSome_iff_exists.1 (show(an.info? 9).isSome=true by kernel_rfl)
   have bJ:i.size=1:=by
    have:(an.info? 9).map (·.size)=some 1:=by kernel_rfl
    rw[hi] at this;simpa using this
   have n0:i.bytes<=1000:=by
    have:(an.info? 9).map (λi=>Nat.ble i.bytes 1000)=some true:=by kernel_rfl
    rw[hi] at this;exact Nat.le_of_ble_eq_true (by simpa using this)
   obtain⟨z,a7⟩:=Option.isSome_iff_exists.1 (show(eT an 9).isSome=true by kernel_rfl)
   have jc:z.cells.length=1:=by
    have:(eT an 9).map (λz=>z.cells.length)=some 1:=by kernel_rfl
    rw[a7] at this;simpa using this
   have ap:=Jp (U:=63) (E:=9) (a:=h.n) (by kernel_rfl) (by kernel_rfl) hi bJ n0 a7 jc fG a0 hlen ah (by rw[cy];exact e7 rfl)
   refine acb m b off vs.length cp h (R:=λx=>∃b aw,x=.ret (.slice b 0 vs.length (.aL 1)) aw/\B<=b/\b<aw.n/\jq aw b 9 vs/\Ext B h aw) ?_
   rw[<-cy]
   exact⟨_,_,ap,_,_,rfl,by omega,by simp,e7 rfl,dY.trans (Nat.le_refl _) (Ext.push (Nat.le_trans dd dY.n) _)⟩
theorem acG(m:Nat){B b K f:Nat}{h:ab}{vs:List ad}(a_:List ad)(q:Nat->Nat->Bool)(hlen:vs.length<=90000)(mz:B<=b)(dg:1<=K)(acH:K<vs.length)(iS:k_ a_=true)(fv:∀i (hi:i<vs.length),ad.sound vs[i]=true)(mj:∀i (hi:i<vs.length),∃z:List UInt8,vs[i]=(.str z))(hf:∀i j (hi:i<vs.length) (aO:j<vs.length) x,Ext B h x->dq x.n x (.bool (q i j)) (Y m (.fn f) (vs[i]::vs[j]::a_) x))
  {g:ab}(ag:b<g.n)(bc:jq g b 9 vs)(aa:Ext B h g){Γ:Env}(cn:bY [(0,.slice b 0 vs.length (.aL 1)),(1,.fn f [] a_),(5,J K),(6,.slice b (0+K*1) (vs.length-K) (.aL 1)),(7,J 1)] Γ):
  bp an Tryz.f88 (Y m) [1,1,0,1,0,0,1,0,0,1,0,1,0,1,0] (aks Γ g) (λb2 cc=>∃(b0:Nat) (av:ab) (cD:Env),b2=.exit 2/\cc=aks cD av/\bY [(0,.slice b 0 vs.length (.aL 1)),(5,J b0)] cD/\K<=b0/\b0<vs.length/\b<av.n/\Ext B h av/\∃L,jq av b 9 L/\L.length=vs.length):=by
 refine e8 (λt st=>∃j k L x Γ,st=aks Γ x/\bY [(0,.slice b 0 vs.length (.aL 1)),(1,.fn f [] a_),(5,J k),(6,.slice b (0+K*1) (vs.length-K) (.aL 1)),(7,J j)] Γ/\(vs.length-K)-j=t/\1<=j/\j<=vs.length-K/\K<=k/\k+1<=K+j/\b<x.n/\jq x b 9 L/\L.length=vs.length/\BS L vs/\Ext B h x) ?_ (vs.length-K-1) _ (by omega) ⟨1,K,vs,g,Γ,rfl,cn,by omega,by omega,by omega,by omega,by omega,ag,bc,rfl,λi hi=>⟨i,hi,rfl⟩,aa⟩
 rintro t st ⟨j,k,L,x,Γ,rfl,cn,bm,aO,Gy,ay,Hm,u6,ti,hY,pg,lG⟩
 refine ei (aca (Y m) b _ k f (0+K*1) _ j a_ x ⟨λI=>?_,λI=>?_⟩) cn
 · have ao:=lG.iT (k:=12)
   have nB:jq (x.room 12) b 9 L:=ti
   have i1:K+j<L.length:=by omega
   have i2:K+j-1<L.length:=by omega
   obtain⟨s,al,es⟩:=pg (K+j) i1
   obtain⟨s',en,uh⟩:=pg (K+j-1) i2
   obtain⟨ak,aM,bF⟩:=hf s s' al en _ ao
   have eP:=ao.trans (Nat.le_refl _) (bF.le (show B<=(x.room 12).n by simp;omega))
   have qU:b<(x.room 12).n:=by simp;omega
   have ph:jq ak b 9 L:=(bF.get b qU).trans nB
   have tj:b<ak.n:=Nat.lt_of_lt_of_le qU bF.n
   obtain⟨z,a7⟩:=mj s al
   refine⟨I,_,(nB.pf i1 (by omega)).trans (by rw[es]),⟨by omega,by omega⟩,by omega,_,(nB.pf i2 (by omega)).trans (by rw[uh]),_,ak,aM,ow iS,fv s al,fv s' en,λah=>?_,λah=>?_⟩
   · exact⟨by omega,_,(by show _<t;omega),j+1,k,L,ak,_,rfl,⟨rfl,rfl,rfl,rfl,rfl,trivial⟩,rfl,by omega,by omega,by omega,by omega,tj,ph,hY,pg,eP⟩
   · have cL:bg.storeCells ak b (0+k*1) [(.str z)]=some (ak.set b (some (.cells (L.set k (.str z)) 9 .aL 0 0))):=
       eV ph (Ew _ _) (by rw[show 0+k*1=k by omega];exact pe _ rfl L k (by omega))
     refine⟨I,z,(ph.pf i1 (by omega)).trans (by rw[es,a7]),by omega,_,cL,by omega,by omega,_,(by show _<t;omega),j+1,k+1,L.set k (.str z),_,_,rfl,⟨rfl,rfl,rfl,rfl,rfl,trivial⟩,rfl,by omega,by omega,by omega,by omega,by simp;omega,eK rfl,by simpa using hY,?_,Ext.hQ mz eP⟩
     rw[<-a7]
     exact pg.set k al
 · exact⟨k,x,_,rfl,rfl,⟨rfl,rfl,trivial⟩,ay,by omega,u6,lG,L,ti,hY⟩
theorem acI(m:Nat){B b f:Nat}{h:ab}{vs:List ad}(a_:List ad)(q:Nat->Nat->Bool)(hlen:vs.length<=90000)(mz:B<=b)(iS:k_ a_=true)(fv:∀i (hi:i<vs.length),ad.sound vs[i]=true)(mj:∀i (hi:i<vs.length),∃z:List UInt8,vs[i]=(.str z))(hf:∀i j (hi:i<vs.length) (aO:j<vs.length) x,Ext B h x->dq x.n x (.bool (q i j)) (Y m (.fn f) (vs[i]::vs[j]::a_) x))
  (ag:b<h.n)(bc:jq h b 9 vs):
  ∃w g k,Y (m+1) (.fn 88) [.slice b 0 vs.length (.aL 1),.fn f [] a_] h=.ret w g/\bV an g 63 w=some (J k)/\(!(List.range vs.length).any (λi=>decide (0<i)&&q i (i-1)))=decide (k=vs.length)/\Ext B h g:=by
 refine Qt m (.slice b 0 vs.length (.aL 1)) f a_ h (R:=λx=>∃w g k,x=.ret w g/\bV an g 63 w=some (J k)/\(!(List.range vs.length).any (λi=>decide (0<i)&&q i (i-1)))=decide (k=vs.length)/\Ext B h g) ⟨vs.length,by rfl,λae=>?_,λae=>?_⟩
 · refine⟨_,h,vs.length,rfl,by rfl,?_,Ext.refl _ _⟩
   rw[u4 (λj aO=>by simp[show¬0<j by omega])];simp
 · replace ae:=Qx ae
   refine e8 (λt st=>∃k x Γ,st=aks Γ x/\bY [(0,.slice b 0 vs.length (.aL 1)),(1,.fn f [] a_),(5,J k)] Γ/\vs.length-k=t/\1<=k/\k<=vs.length/\b<x.n/\jq x b 9 vs/\Ext B h x/\∀j,0<j->j<k->q j (j-1)=false) ?_ (vs.length-1) _ (by omega) ⟨1,h,_,rfl,⟨rfl,rfl,rfl,trivial⟩,by omega,by omega,by omega,ag,bc,Ext.refl _ _,λj aO rC=>by omega⟩
   rintro t st ⟨k,x,Γ,rfl,cn,bm,ay,wT,u6,ti,lG,aK⟩
   refine ei (ab_ (Y m) b _ k f a_ x ⟨λI=>?_,λI=>?_⟩) cn
   · have ao:=lG.iT (k:=11)
     have nB:jq (x.room 11) b 9 vs:=ti
     obtain⟨ak,aM,bF⟩:=hf k (k-1) I (by omega) _ ao
     have eP:=ao.trans (Nat.le_refl _) (bF.le (show B<=(x.room 11).n by simp;omega))
     have qU:b<(x.room 11).n:=by simp;omega
     have ph:jq ak b 9 vs:=(bF.get b qU).trans nB
     have tj:b<ak.n:=Nat.lt_of_lt_of_le qU bF.n
     refine⟨I,_,nB.pf I (by omega),⟨by omega,by omega⟩,by omega,_,nB.pf (by omega) (by omega),_,ak,aM,ow iS,fv k I,fv (k-1) (by omega),λah=>?_,λah=>?_⟩
     · have s2:dC an ak 63 (.slice b 0 vs.length (.aL 1)) (some (J k)) none none=some (.slice b (0+k*1) (vs.length-k) (.aL 1)):=u5 (E:=9) (by kernel_rfl) (by kernel_rfl) (by omega) I
       refine⟨_,_,_,_,s2,?_⟩
       refine bp.mono (acG m a_ q hlen mz ay I iS fv mj hf tj ph eP ⟨rfl,rfl,rfl,rfl,rfl,trivial⟩) ?_
       rintro b2 cc ⟨b0,av,cD,rfl,rfl,jY,AI,Jq,fh,lD,L,hY,Fa⟩
       refine⟨_,_,_,_,b0,av,cD,rfl,rfl,jY,_,_,_,_,u5 (E:=9) (by kernel_rfl) (by kernel_rfl) (by omega) Jq,?_⟩
       obtain⟨z,a7⟩:=Option.isSome_iff_exists.1 (show(eT an 9).isSome=true by kernel_rfl)
       have jc:z.cells.length=1/\z.cells.all ad.de=true:=by
        have I:(eT an 9).map (λz=>z.cells.length)=some 1:=by kernel_rfl
        have ae:(eT an 9).map (λz=>z.cells.all ad.de)=some true:=by kernel_rfl
        rw[a7] at I ae;exact⟨by simpa using I,by simpa using ae⟩
       have xb:∀n,(gm n z.cells).length=n/\(gm n z.cells).all ad.de=true:=by
        intro n
        induction n with
        |zero=>exact⟨rfl,rfl⟩
        |succ n bl=>simp only[gm,List.length_append,List.all_append,bl.1,bl.2,jc.1,jc.2];exact⟨by omega,rfl⟩
       obtain⟨eF,cT,dv⟩:=Qv (gm (vs.length-b0) z.cells) (xb _).2 L (0+b0*1) (by rw[(xb _).1,Fa];omega)
       have cL:bg.storeCells av b (0+b0*1) (gm (vs.length-b0) z.cells)=some (av.set b (some (.cells eF 9 .aL 0 0))):=eV hY (Ew _ _) cT
       have jb:rh an av 63 (.slice b (0+b0*1) (vs.length-b0) (.aL 1))=some (.aR [],av.set b (some (.cells eF 9 .aL 0 0))):=by
        have hu:an.underlying 63=some (.slice 9):=by kernel_rfl
        simp only[rh,hu,a7,cL]
        rw[if_neg (by omega)]
       refine⟨_,jb,_,E9 (E:=9) (by kernel_rfl) (by kernel_rfl) (by omega),.inr ⟨_,_,_,rfl,rfl,⟨rfl,trivial⟩,_,_,b0,rfl,by rfl,?_,Ext.hQ mz lD⟩⟩
       rw[y_ I (by rw[ah];simp;omega)]
       simp;omega
     · exact⟨by omega,_,(by show _<t;omega),k+1,ak,_,rfl,⟨rfl,rfl,rfl,trivial⟩,rfl,by omega,by omega,tj,ph,eP,λj aO rC=>by
        by_cases e:j=k
        · rw[e];exact ah
        · exact aK j aO (by omega)⟩
   · refine .inl ⟨_,x,_,rfl,rfl,⟨rfl,trivial⟩,_,_,vs.length,rfl,by rfl,?_,lG⟩
     rw[u4 (λj aO=>?_)]
     · simp
     · by_cases e:0<j
       · rw[aK j e (by omega),Bool.and_false]
       · simp[e]
theorem acJ(m:Nat){B:Nat}{h:ab}{v:ad}{vs:List ad}(f:Nat)(a_:List ad)(w:Nat->bb)(dd:B<=h.n)(aI:c5 B h v vs)(hlen:vs.length<=90000)(iS:k_ a_=true)(fv:∀i (hi:i<vs.length),ad.sound vs[i]=true)(mj:∀i (hi:i<vs.length),∃z:List UInt8,vs[i]=(.str z))(pg:∀i (hi:i<vs.length) x,Ext B h x->dq x.n x (.str (w i)) (Y m (.fn f) (vs[i]::a_) x)):
  dq B h (.bool (r5 w vs.length)) (Y (m+3) (.fn 68) [v,.fn f [] a_] h):=by
 refine ace (m+2) v f a_ h ?_
 obtain⟨H,cy⟩:∃H,H=h.push (aQ [.fn f [] a_] 114):=⟨_,rfl⟩
 rw[<-cy]
 have dY:Ext B h H:=by rw[cy];exact Ext.push dd _
 have lj:H.n=h.n+1:=by rw[cy];rfl
 have xc:B<=H.n:=Nat.le_trans dd dY.n
 have sG:H.get h.n=some (aQ [.fn f [] a_] 114):=by rw[cy];exact e7 rfl
 have lI:∀i (hi:i<vs.length) x,Ext H.n H x->∃g,Y m (.fn f) (vs[i]::a_) x=.ret (.str (w i)) g/\Ext x.n x g:=λi hi x aa=>pg i hi x (dY.trans xc aa)
 have tk:c5 H.n H v vs:=(aI.bB (hk.ext dY (Nat.le_refl _))).le (Nat.le_trans dd dY.n)
 have g7:∀x,Ext H.n H x->aq x h.n 0=some (.fn f [] a_):=λx aa=>aF ((aa.get h.n (by omega)).trans sG) rfl
 obtain⟨g,aM,bF⟩:=acE (m+1) (B:=H.n) (h:=H) (v:=v) (vs:=vs) 87 [.ptr h.n 0] (λi j=>eA (w i) (w j)) tk hlen rfl fv (λi j hi aO x aa=>by
  have ao:Ext H.n H (x.room 7):=aa.iT
  obtain⟨ak,aM,bF⟩:=lI i hi _ ao
  have iu:Ext H.n H ak:=ao.trans ao.n bF
  obtain⟨av,bf,cJ⟩:=lI j aO _ iu
  refine ab8 m vs[i] vs[j] h.n f a_ x ⟨g7 _ ao,_,ak,aM,g7 _ iu,_,av,bf,ow iS,fv i hi,ow iS,g7 _ ao,fv j aO,λah=>?_,λah=>?_⟩
  · exact dq.of (by rw[ah];rfl) ((iu.trans iu.n cJ).le (Nat.le_refl _)|> λe=>by have c6:Ext H.n x av:=⟨by have a:=bF.n;have b:=cJ.n;simp at a;omega,λb ag=>by rw[(iu.trans iu.n cJ).get b ag,aa.get b ag]⟩;exact c6)
  · exact dq.of (by rw[ah];rfl) ((iu.trans iu.n cJ).le (Nat.le_refl _)|> λe=>by have c6:Ext H.n x av:=⟨by have a:=bF.n;have b:=cJ.n;simp at a;omega,λb ag=>by rw[(iu.trans iu.n cJ).get b ag,aa.get b ag]⟩;exact c6))
 have jX:Ext B h g:=dY.trans xc bF
 refine⟨rfl,_,g,aM,λal=>?_,λal=>?_⟩
 · have jJ:vs.all ad.de=true:=by
     rw[List.all_eq_true]
     intro x aa
     obtain⟨i,hi,rfl⟩:=List.getElem_of_mem aa
     obtain⟨z,a7⟩:=mj i hi
     rw[a7];rfl
   have Jr:c5 H.n g v vs:=tk.bB (hk.ext bF (Nat.le_refl _))
   have fin:∀v2 av b,Y (m+2) (.fn 38) [v] g=.ret v2 av->v2=.slice b 0 vs.length (.aL 1)->H.n<=b->b<av.n->jq av b 9 vs->Ext H.n g av->∃(v2:ad) (av:ab),Y (m+2) (.fn 38) [v] g=.ret v2 av/\∃(w':ad) (aD:ab),Y (m+2) (.fn 88) [v2,.fn 89 [] [.ptr h.n 0]] av=.ret w' aD/\∃(k:Nat),bV an aD 63 w'=some (J k)/\∃(n:Nat),bV an aD 63 v=some (J n)/\dq B h (.bool (r5 w vs.length)) (.ret (.bool (fc (Int.ofNat k) (Int.ofNat n))) aD):=by
    intro v2 av b bf aE ag fh bc cJ
    subst aE
    have u7:Ext H.n H av:=bF.trans (Nat.le_refl _) cJ
    obtain⟨w',aD,k,ee,dL,bH,dh⟩:=acI (m+1) (B:=H.n) (h:=av) (vs:=vs) (f:=89) [.ptr h.n 0] (λi j=>c1 (w i) (w j)) hlen ag rfl fv mj (λi j hi aO x aa=>by
     have lG:Ext H.n H x:=u7.trans (Nat.le_refl _) aa
     have ao:Ext H.n H (x.room 8):=lG.iT
     obtain⟨ak,aM,jP⟩:=lI i hi _ ao
     have iu:Ext H.n H ak:=ao.trans ao.n jP
     obtain⟨av,bf,jQ⟩:=lI j aO _ iu
     refine ab9 m vs[i] vs[j] h.n f a_ x ⟨g7 _ ao,_,ak,aM,g7 _ iu,_,av,bf,ow iS,fv i hi,ow iS,g7 _ ao,fv j aO,dq.of rfl ?_⟩
     refine⟨by have a:=jP.n;have b:=jQ.n;simp at a;omega,λb ag=>?_⟩
     have a:=jP.n
     simp at a
     rw[jQ.get b (by omega),jP.get b (by simp;omega)];rfl) fh bc
    have BT:Ext H.n H aD:=u7.trans (Nat.le_refl _) dh
    have Js:c5 H.n aD v vs:=tk.bB (hk.ext BT (Nat.le_refl _))
    refine⟨_,av,bf,w',aD,ee,k,dL,vs.length,Js.len (t:=63) (e:=9) (by kernel_rfl),dq.of (jz ?_) (dY.trans xc BT)⟩
    rw[QD bH]
    exact QB w vs.length al
   rcases E_ (m+1) (B:=H.n) (h:=g) bF.n Jr hlen jJ with⟨rfl,rfl,bf⟩|⟨a0,b,av,bf,ag,fh,bc,cJ⟩
   · refine⟨.aP,g,bf,.aP,g,?_,0,by rfl,0,by rfl,dq.of (jz rfl) jX⟩
     exact Qt (m+1) .aP _ _ g (R:=λx=>x=.ret .aP g) ⟨0,by rfl,λ_=>rfl,λaH=>absurd (by omega) aH⟩
   · exact fin _ av b bf rfl ag fh bc cJ
 · refine dq.of (jz ?_) jX
   exact QC w vs.length al
theorem acK(m:Nat){B:Nat}{h:ab}{v:ad}{vs:List ad}(dd:B<=h.n)(aI:c5 B h v vs)(hlen:vs.length<=90000)(ah:vs.all ad.de=true):(v=.aP/\vs=[]/\Y (m+1) (.fn 93) [v] h=.ret .aP h)\/(0<vs.length/\∃b aw,Y (m+1) (.fn 93) [v] h=.ret (.slice b 0 vs.length (.aL 1)) aw/\B<=b/\b<aw.n/\jq aw b 35 vs/\Ext B h aw):=by
 rcases aI with⟨rfl,rfl⟩|⟨b,off,cp,rfl,ag,aA,a0,ai⟩
 · exact .inl ⟨rfl,rfl,acu m h (R:=λx=>x=.ret .aP h) rfl⟩
 · right
   refine⟨a0,?_⟩
   obtain⟨H,cy⟩:∃H,H=h.push (aQ [] 35):=⟨_,rfl⟩
   have dY:Ext B h H:=by rw[cy];exact Ext.push dd _
   have lj:H.n=h.n+1:=by rw[cy];rfl
   have fG:=c5.src (B:=B) (h:=H) (λi hi=>iD dY ag (aA i hi)) a0 ai
   obtain⟨i,hi⟩:=Option.isSome_iff_exists.1 (show(an.info? 35).isSome=true by kernel_rfl)
   have bJ:i.size=1:=by
    have:(an.info? 35).map (·.size)=some 1:=by kernel_rfl
    rw[hi] at this;simpa using this
   have n0:i.bytes<=1000:=by
    have:(an.info? 35).map (λi=>Nat.ble i.bytes 1000)=some true:=by kernel_rfl
    rw[hi] at this;exact Nat.le_of_ble_eq_true (by simpa using this)
   obtain⟨z,a7⟩:=Option.isSome_iff_exists.1 (show(eT an 35).isSome=true by kernel_rfl)
   have jc:z.cells.length=1:=by
    have:(eT an 35).map (λz=>z.cells.length)=some 1:=by kernel_rfl
    rw[a7] at this;simpa using this
   have ap:=Jp (U:=50) (E:=35) (a:=h.n) (by kernel_rfl) (by kernel_rfl) hi bJ n0 a7 jc fG a0 hlen ah (by rw[cy];exact e7 rfl)
   refine acs m b off vs.length cp h (R:=λx=>∃b aw,x=.ret (.slice b 0 vs.length (.aL 1)) aw/\B<=b/\b<aw.n/\jq aw b 35 vs/\Ext B h aw) ?_
   rw[<-cy]
   exact⟨_,_,ap,_,_,rfl,by omega,by simp,e7 rfl,dY.trans (Nat.le_refl _) (Ext.push (Nat.le_trans dd dY.n) _)⟩
theorem acL(m:Nat){B b K f:Nat}{h:ab}{vs:List ad}(a_:List ad)(q:Nat->Nat->Bool)(hlen:vs.length<=90000)(mz:B<=b)(dg:1<=K)(acH:K<vs.length)(iS:k_ a_=true)(fv:∀i (hi:i<vs.length),ad.sound vs[i]=true)(mj:∀i (hi:i<vs.length),∃z:Nat,vs[i]=(.ptr z 0))(hf:∀i j (hi:i<vs.length) (aO:j<vs.length) x,Ext B h x->dq x.n x (.bool (q i j)) (Y m (.fn f) (vs[i]::vs[j]::a_) x))
  {g:ab}(ag:b<g.n)(bc:jq g b 35 vs)(aa:Ext B h g){Γ:Env}(cn:bY [(0,.slice b 0 vs.length (.aL 1)),(1,.fn f [] a_),(5,J K),(6,.slice b (0+K*1) (vs.length-K) (.aL 1)),(7,J 1)] Γ):
  bp an Tryz.f92 (Y m) [1,1,0,1,0,0,1,0,0,1,0,1,0,1,0] (aks Γ g) (λb2 cc=>∃(b0:Nat) (av:ab) (cD:Env),b2=.exit 2/\cc=aks cD av/\bY [(0,.slice b 0 vs.length (.aL 1)),(5,J b0)] cD/\K<=b0/\b0<vs.length/\b<av.n/\Ext B h av/\∃L,jq av b 35 L/\L.length=vs.length):=by
 refine e8 (λt st=>∃j k L x Γ,st=aks Γ x/\bY [(0,.slice b 0 vs.length (.aL 1)),(1,.fn f [] a_),(5,J k),(6,.slice b (0+K*1) (vs.length-K) (.aL 1)),(7,J j)] Γ/\(vs.length-K)-j=t/\1<=j/\j<=vs.length-K/\K<=k/\k+1<=K+j/\b<x.n/\jq x b 35 L/\L.length=vs.length/\BS L vs/\Ext B h x) ?_ (vs.length-K-1) _ (by omega) ⟨1,K,vs,g,Γ,rfl,cn,by omega,by omega,by omega,by omega,by omega,ag,bc,rfl,λi hi=>⟨i,hi,rfl⟩,aa⟩
 rintro t st ⟨j,k,L,x,Γ,rfl,cn,bm,aO,Gy,ay,Hm,u6,ti,hY,pg,lG⟩
 refine ei (acr (Y m) b _ k f (0+K*1) _ j a_ x ⟨λI=>?_,λI=>?_⟩) cn
 · have ao:=lG.iT (k:=12)
   have nB:jq (x.room 12) b 35 L:=ti
   have i1:K+j<L.length:=by omega
   have i2:K+j-1<L.length:=by omega
   obtain⟨s,al,es⟩:=pg (K+j) i1
   obtain⟨s',en,uh⟩:=pg (K+j-1) i2
   obtain⟨ak,aM,bF⟩:=hf s s' al en _ ao
   have eP:=ao.trans (Nat.le_refl _) (bF.le (show B<=(x.room 12).n by simp;omega))
   have qU:b<(x.room 12).n:=by simp;omega
   have ph:jq ak b 35 L:=(bF.get b qU).trans nB
   have tj:b<ak.n:=Nat.lt_of_lt_of_le qU bF.n
   obtain⟨z,a7⟩:=mj s al
   refine⟨I,_,(nB.pf i1 (by omega)).trans (by rw[es]),⟨by omega,by omega⟩,by omega,_,(nB.pf i2 (by omega)).trans (by rw[uh]),_,ak,aM,ow iS,fv s al,fv s' en,λah=>?_,λah=>?_⟩
   · exact⟨by omega,_,(by show _<t;omega),j+1,k,L,ak,_,rfl,⟨rfl,rfl,rfl,rfl,rfl,trivial⟩,rfl,by omega,by omega,by omega,by omega,tj,ph,hY,pg,eP⟩
   · have cL:bg.storeCells ak b (0+k*1) [(.ptr z 0)]=some (ak.set b (some (.cells (L.set k (.ptr z 0)) 35 .aL 0 0))):=
       eV ph (Ew _ _) (by rw[show 0+k*1=k by omega];exact pe _ rfl L k (by omega))
     refine⟨I,z,(ph.pf i1 (by omega)).trans (by rw[es,a7]),by omega,_,cL,by omega,by omega,_,(by show _<t;omega),j+1,k+1,L.set k (.ptr z 0),_,_,rfl,⟨rfl,rfl,rfl,rfl,rfl,trivial⟩,rfl,by omega,by omega,by omega,by omega,by simp;omega,eK rfl,by simpa using hY,?_,Ext.hQ mz eP⟩
     rw[<-a7]
     exact pg.set k al
 · exact⟨k,x,_,rfl,rfl,⟨rfl,rfl,trivial⟩,ay,by omega,u6,lG,L,ti,hY⟩
theorem acM(m:Nat){B b f:Nat}{h:ab}{vs:List ad}(a_:List ad)(q:Nat->Nat->Bool)(hlen:vs.length<=90000)(mz:B<=b)(iS:k_ a_=true)(fv:∀i (hi:i<vs.length),ad.sound vs[i]=true)(mj:∀i (hi:i<vs.length),∃z:Nat,vs[i]=(.ptr z 0))(hf:∀i j (hi:i<vs.length) (aO:j<vs.length) x,Ext B h x->dq x.n x (.bool (q i j)) (Y m (.fn f) (vs[i]::vs[j]::a_) x))
  (ag:b<h.n)(bc:jq h b 35 vs):
  ∃w g k,Y (m+1) (.fn 92) [.slice b 0 vs.length (.aL 1),.fn f [] a_] h=.ret w g/\bV an g 50 w=some (J k)/\(!(List.range vs.length).any (λi=>decide (0<i)&&q i (i-1)))=decide (k=vs.length)/\Ext B h g:=by
 refine Qu m (.slice b 0 vs.length (.aL 1)) f a_ h (R:=λx=>∃w g k,x=.ret w g/\bV an g 50 w=some (J k)/\(!(List.range vs.length).any (λi=>decide (0<i)&&q i (i-1)))=decide (k=vs.length)/\Ext B h g) ⟨vs.length,by rfl,λae=>?_,λae=>?_⟩
 · refine⟨_,h,vs.length,rfl,by rfl,?_,Ext.refl _ _⟩
   rw[u4 (λj aO=>by simp[show¬0<j by omega])];simp
 · replace ae:=Qx ae
   refine e8 (λt st=>∃k x Γ,st=aks Γ x/\bY [(0,.slice b 0 vs.length (.aL 1)),(1,.fn f [] a_),(5,J k)] Γ/\vs.length-k=t/\1<=k/\k<=vs.length/\b<x.n/\jq x b 35 vs/\Ext B h x/\∀j,0<j->j<k->q j (j-1)=false) ?_ (vs.length-1) _ (by omega) ⟨1,h,_,rfl,⟨rfl,rfl,rfl,trivial⟩,by omega,by omega,by omega,ag,bc,Ext.refl _ _,λj aO rC=>by omega⟩
   rintro t st ⟨k,x,Γ,rfl,cn,bm,ay,wT,u6,ti,lG,aK⟩
   refine ei (acq (Y m) b _ k f a_ x ⟨λI=>?_,λI=>?_⟩) cn
   · have ao:=lG.iT (k:=11)
     have nB:jq (x.room 11) b 35 vs:=ti
     obtain⟨ak,aM,bF⟩:=hf k (k-1) I (by omega) _ ao
     have eP:=ao.trans (Nat.le_refl _) (bF.le (show B<=(x.room 11).n by simp;omega))
     have qU:b<(x.room 11).n:=by simp;omega
     have ph:jq ak b 35 vs:=(bF.get b qU).trans nB
     have tj:b<ak.n:=Nat.lt_of_lt_of_le qU bF.n
     refine⟨I,_,nB.pf I (by omega),⟨by omega,by omega⟩,by omega,_,nB.pf (by omega) (by omega),_,ak,aM,ow iS,fv k I,fv (k-1) (by omega),λah=>?_,λah=>?_⟩
     · have s2:dC an ak 50 (.slice b 0 vs.length (.aL 1)) (some (J k)) none none=some (.slice b (0+k*1) (vs.length-k) (.aL 1)):=u5 (E:=35) (by kernel_rfl) (by kernel_rfl) (by omega) I
       refine⟨_,_,_,_,s2,?_⟩
       refine bp.mono (acL m a_ q hlen mz ay I iS fv mj hf tj ph eP ⟨rfl,rfl,rfl,rfl,rfl,trivial⟩) ?_
       rintro b2 cc ⟨b0,av,cD,rfl,rfl,jY,AI,Jq,fh,lD,L,hY,Fa⟩
       refine⟨_,_,_,_,b0,av,cD,rfl,rfl,jY,_,_,_,_,u5 (E:=35) (by kernel_rfl) (by kernel_rfl) (by omega) Jq,?_⟩
       obtain⟨z,a7⟩:=Option.isSome_iff_exists.1 (show(eT an 35).isSome=true by kernel_rfl)
       have jc:z.cells.length=1/\z.cells.all ad.de=true:=by
        have I:(eT an 35).map (λz=>z.cells.length)=some 1:=by kernel_rfl
        have ae:(eT an 35).map (λz=>z.cells.all ad.de)=some true:=by kernel_rfl
        rw[a7] at I ae;exact⟨by simpa using I,by simpa using ae⟩
       have xb:∀n,(gm n z.cells).length=n/\(gm n z.cells).all ad.de=true:=by
        intro n
        induction n with
        |zero=>exact⟨rfl,rfl⟩
        |succ n bl=>simp only[gm,List.length_append,List.all_append,bl.1,bl.2,jc.1,jc.2];exact⟨by omega,rfl⟩
       obtain⟨eF,cT,dv⟩:=Qv (gm (vs.length-b0) z.cells) (xb _).2 L (0+b0*1) (by rw[(xb _).1,Fa];omega)
       have cL:bg.storeCells av b (0+b0*1) (gm (vs.length-b0) z.cells)=some (av.set b (some (.cells eF 35 .aL 0 0))):=eV hY (Ew _ _) cT
       have jb:rh an av 50 (.slice b (0+b0*1) (vs.length-b0) (.aL 1))=some (.aR [],av.set b (some (.cells eF 35 .aL 0 0))):=by
        have hu:an.underlying 50=some (.slice 35):=by kernel_rfl
        simp only[rh,hu,a7,cL]
        rw[if_neg (by omega)]
       refine⟨_,jb,_,E9 (E:=35) (by kernel_rfl) (by kernel_rfl) (by omega),.inr ⟨_,_,_,rfl,rfl,⟨rfl,trivial⟩,_,_,b0,rfl,by rfl,?_,Ext.hQ mz lD⟩⟩
       rw[y_ I (by rw[ah];simp;omega)]
       simp;omega
     · exact⟨by omega,_,(by show _<t;omega),k+1,ak,_,rfl,⟨rfl,rfl,rfl,trivial⟩,rfl,by omega,by omega,tj,ph,eP,λj aO rC=>by
        by_cases e:j=k
        · rw[e];exact ah
        · exact aK j aO (by omega)⟩
   · refine .inl ⟨_,x,_,rfl,rfl,⟨rfl,trivial⟩,_,_,vs.length,rfl,by rfl,?_,lG⟩
     rw[u4 (λj aO=>?_)]
     · simp
     · by_cases e:0<j
       · rw[aK j e (by omega),Bool.and_false]
       · simp[e]
theorem acN(m:Nat){B:Nat}{h:ab}{v:ad}{vs:List ad}(f:Nat)(a_:List ad)(w:Nat->bb)(dd:B<=h.n)(aI:c5 B h v vs)(hlen:vs.length<=90000)(iS:k_ a_=true)(fv:∀i (hi:i<vs.length),ad.sound vs[i]=true)(mj:∀i (hi:i<vs.length),∃z:Nat,vs[i]=(.ptr z 0))(pg:∀i (hi:i<vs.length) x,Ext B h x->dq x.n x (.str (w i)) (Y m (.fn f) (vs[i]::a_) x)):
  dq B h (.bool (r5 w vs.length)) (Y (m+3) (.fn 71) [v,.fn f [] a_] h):=by
 refine acv (m+2) v f a_ h ?_
 obtain⟨H,cy⟩:∃H,H=h.push (aQ [.fn f [] a_] 116):=⟨_,rfl⟩
 rw[<-cy]
 have dY:Ext B h H:=by rw[cy];exact Ext.push dd _
 have lj:H.n=h.n+1:=by rw[cy];rfl
 have xc:B<=H.n:=Nat.le_trans dd dY.n
 have sG:H.get h.n=some (aQ [.fn f [] a_] 116):=by rw[cy];exact e7 rfl
 have lI:∀i (hi:i<vs.length) x,Ext H.n H x->∃g,Y m (.fn f) (vs[i]::a_) x=.ret (.str (w i)) g/\Ext x.n x g:=λi hi x aa=>pg i hi x (dY.trans xc aa)
 have tk:c5 H.n H v vs:=(aI.bB (hk.ext dY (Nat.le_refl _))).le (Nat.le_trans dd dY.n)
 have g7:∀x,Ext H.n H x->aq x h.n 0=some (.fn f [] a_):=λx aa=>aF ((aa.get h.n (by omega)).trans sG) rfl
 obtain⟨g,aM,bF⟩:=acF (m+1) (B:=H.n) (h:=H) (v:=v) (vs:=vs) 91 [.ptr h.n 0] (λi j=>eA (w i) (w j)) tk hlen rfl fv (λi j hi aO x aa=>by
  have ao:Ext H.n H (x.room 7):=aa.iT
  obtain⟨ak,aM,bF⟩:=lI i hi _ ao
  have iu:Ext H.n H ak:=ao.trans ao.n bF
  obtain⟨av,bf,cJ⟩:=lI j aO _ iu
  refine aco m vs[i] vs[j] h.n f a_ x ⟨g7 _ ao,_,ak,aM,g7 _ iu,_,av,bf,ow iS,fv i hi,ow iS,g7 _ ao,fv j aO,λah=>?_,λah=>?_⟩
  · exact dq.of (by rw[ah];rfl) ((iu.trans iu.n cJ).le (Nat.le_refl _)|> λe=>by have c6:Ext H.n x av:=⟨by have a:=bF.n;have b:=cJ.n;simp at a;omega,λb ag=>by rw[(iu.trans iu.n cJ).get b ag,aa.get b ag]⟩;exact c6)
  · exact dq.of (by rw[ah];rfl) ((iu.trans iu.n cJ).le (Nat.le_refl _)|> λe=>by have c6:Ext H.n x av:=⟨by have a:=bF.n;have b:=cJ.n;simp at a;omega,λb ag=>by rw[(iu.trans iu.n cJ).get b ag,aa.get b ag]⟩;exact c6))
 have jX:Ext B h g:=dY.trans xc bF
 refine⟨rfl,_,g,aM,λal=>?_,λal=>?_⟩
 · have jJ:vs.all ad.de=true:=by
     rw[List.all_eq_true]
     intro x aa
     obtain⟨i,hi,rfl⟩:=List.getElem_of_mem aa
     obtain⟨z,a7⟩:=mj i hi
     rw[a7];rfl
   have Jr:c5 H.n g v vs:=tk.bB (hk.ext bF (Nat.le_refl _))
   have fin:∀v2 av b,Y (m+2) (.fn 93) [v] g=.ret v2 av->v2=.slice b 0 vs.length (.aL 1)->H.n<=b->b<av.n->jq av b 35 vs->Ext H.n g av->∃(v2:ad) (av:ab),Y (m+2) (.fn 93) [v] g=.ret v2 av/\∃(w':ad) (aD:ab),Y (m+2) (.fn 92) [v2,.fn 94 [] [.ptr h.n 0]] av=.ret w' aD/\∃(k:Nat),bV an aD 50 w'=some (J k)/\∃(n:Nat),bV an aD 50 v=some (J n)/\dq B h (.bool (r5 w vs.length)) (.ret (.bool (fc (Int.ofNat k) (Int.ofNat n))) aD):=by
    intro v2 av b bf aE ag fh bc cJ
    subst aE
    have u7:Ext H.n H av:=bF.trans (Nat.le_refl _) cJ
    obtain⟨w',aD,k,ee,dL,bH,dh⟩:=acM (m+1) (B:=H.n) (h:=av) (vs:=vs) (f:=94) [.ptr h.n 0] (λi j=>c1 (w i) (w j)) hlen ag rfl fv mj (λi j hi aO x aa=>by
     have lG:Ext H.n H x:=u7.trans (Nat.le_refl _) aa
     have ao:Ext H.n H (x.room 8):=lG.iT
     obtain⟨ak,aM,jP⟩:=lI i hi _ ao
     have iu:Ext H.n H ak:=ao.trans ao.n jP
     obtain⟨av,bf,jQ⟩:=lI j aO _ iu
     refine acp m vs[i] vs[j] h.n f a_ x ⟨g7 _ ao,_,ak,aM,g7 _ iu,_,av,bf,ow iS,fv i hi,ow iS,g7 _ ao,fv j aO,dq.of rfl ?_⟩
     refine⟨by have a:=jP.n;have b:=jQ.n;simp at a;omega,λb ag=>?_⟩
     have a:=jP.n
     simp at a
     rw[jQ.get b (by omega),jP.get b (by simp;omega)];rfl) fh bc
    have BT:Ext H.n H aD:=u7.trans (Nat.le_refl _) dh
    have Js:c5 H.n aD v vs:=tk.bB (hk.ext BT (Nat.le_refl _))
    refine⟨_,av,bf,w',aD,ee,k,dL,vs.length,Js.len (t:=50) (e:=35) (by kernel_rfl),dq.of (jz ?_) (dY.trans xc BT)⟩
    rw[QD bH]
    exact QB w vs.length al
   rcases acK (m+1) (B:=H.n) (h:=g) bF.n Jr hlen jJ with⟨rfl,rfl,bf⟩|⟨a0,b,av,bf,ag,fh,bc,cJ⟩
   · refine⟨.aP,g,bf,.aP,g,?_,0,by rfl,0,by rfl,dq.of (jz rfl) jX⟩
     exact Qu (m+1) .aP _ _ g (R:=λx=>x=.ret .aP g) ⟨0,by rfl,λ_=>rfl,λaH=>absurd (by omega) aH⟩
   · exact fin _ av b bf rfl ag fh bc cJ
 · refine dq.of (jz ?_) jX
   exact QC w vs.length al
end Go.Proofs.kh
