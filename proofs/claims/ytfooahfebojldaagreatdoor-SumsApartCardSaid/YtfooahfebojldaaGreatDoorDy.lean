/-
  PROVED HERE: contracts of functions (Dy). No condition beside each statement's own.
-/
import Derived.Test.YtfooahfebojldaaGreatDoorDx
import Derived.OpenShut
set_option linter.unusedVariables false
set_option linter.unusedSimpArgs false
namespace Go.Proofs.cn
open Go aw Go.Proofs cu Go.Proofs.b0
open Go.Proofs.cT (cS)
open Go.Proofs.dV (b_)
set_option maxRecDepth 100000
set_option maxHeartbeats 1000000
theorem VJ(m:Nat)(v:I)(h:J){R:av->Prop}(H:∃c7:Int,∃al:J,(Y m) (.fn 63) [v,.fn 37 [] []] h=.ret (.int .i64 c7) al/\R (.ret (.bool (fh (.ofNat 0) c7)) al)):
  R (Y (m+1) (.fn 36) [v,.fn 37 [] []] h):=
 dd (intr:=bW) [(7,.b1 (.z .i64))] [(0,.o v),(1,.v (.fn 37 [] []))] Tryz.func36 (by kernel_rfl) (by kernel_rfl) (by kernel_rfl) rfl (Eq.mp (by kernel_rfl) H)
theorem VK(m:Nat)(v:I)(h:J){R:av->Prop}(H:∃aI:Nat,cb Tryz.prog h 33 v=some (.int .i64 (.ofNat aI))/\bm Tryz.prog Tryz.f63 (Y m) [1,0,1,0] (ao.mk [(0,v),(1,.fn 37 [] []),(7,.int .i64 (.ofNat aI)),(8,.int .i64 (.ofNat 0))] [] .none h) (λcE cF=>((∃al:J,∃bq:Env,cE=.exit 0/\cF=ao.mk bq [] .none al/\cl [] bq/\R (.ret (.int .i64 (.negSucc 0)) al))\/(∃bw:Nat,∃au:J,∃bT:Env,cE=.ret/\cF=ao.mk bT [] .none au/\cl [(4,.int .i64 (.ofNat bw))] bT/\R (.ret (.int .i64 (.ofNat bw)) au))))):
  R (Y (m+1) (.fn 63) [v,.fn 37 [] []] h):=
 dd (intr:=bW) [(4000,.gw [0,1,7,8] [(.exit 0,[]),(.ret,[(4,.n .i64)])])] [(0,.o v),(1,.v (.fn 37 [] []))] Tryz.func63 (by kernel_rfl) (by kernel_rfl) (by kernel_rfl) rfl (Eq.mp (by kernel_rfl) H)
theorem VL(call:aP->List I->J->av)(b:Nat)(off:Nat)(N:Nat)(i:Nat)(aE:cf)(h:J){Q:bu->ao->Prop}(H:(i<N->i<N/\∃s1:List UInt8,∃a4:Bool,∃s2:List UInt8,∃a_:Bool,∃v1:I,∃v2:I,aw.loadCells h b (off+i*6) 6=some [.str s1,.bool a4,.str s2,.bool a_,v1,v2]/\∃cO:Bool,∃al:J,call (.fn 37) [.agg [.str s1,.bool a4,.str s2,.bool a_,v1,v2]] h=.ret (.bool cO) al/\(cO=true->Q .ret (ao.mk [(0,.slice b off N aE),(1,.fn 37 [] []),(4,.int .i64 (.ofNat i)),(7,.int .i64 (.ofNat N)),(8,.int .i64 (.ofNat i))] [] .none al))/\(cO=false->i+1<9223372036854775808/\Q .nrm (ao.mk [(0,.slice b off N aE),(1,.fn 37 [] []),(7,.int .i64 (.ofNat N)),(8,.int .i64 (.ofNat (i+1)))] [] .none al)))/\(¬i<N->Q (.exit 0) (ao.mk [(0,.slice b off N aE),(1,.fn 37 [] []),(7,.int .i64 (.ofNat N)),(8,.int .i64 (.ofNat i))] [] .none h))):
  bm Tryz.prog Tryz.f63 call [1,0,1,0,0] ⟨[(0,.slice b off N aE),(1,.fn 37 [] []),(7,.int .i64 (.ofNat N)),(8,.int .i64 (.ofNat i))],[],.none,h⟩ Q:=
 e9 [(15,.b1 (.ee [.st,.b,.st,.b,.o,.o]))] [0,1,4,7,8] [(0,.v (.slice b off N aE)),(1,.v (.fn 37 [] [])),(7,.v (.int .i64 (.ofNat N))),(8,.v (.int .i64 (.ofNat i)))] rfl (Eq.mp (by kernel_rfl) H)
theorem VM(call:aP->List I->J->av)(N:Nat)(i:Nat)(v:I)(h:J){Q:bu->ao->Prop}(H:¬i<N/\Q (.exit 0) (ao.mk [] [] .none h)):
  bm Tryz.prog Tryz.f63 call [1,0,1,0,0] ⟨[(0,v),(1,.fn 37 [] []),(7,.int .i64 (.ofNat N)),(8,.int .i64 (.ofNat i))],[],.none,h⟩ Q:=
 e9 [(1009,.f)] [] [(0,.o v),(1,.v (.fn 37 [] [])),(7,.v (.int .i64 (.ofNat N))),(8,.v (.int .i64 (.ofNat i)))] rfl (Eq.mp (by kernel_rfl) H)
theorem VN(m:Nat)(p:List UInt8)(q:List UInt8)(t:Bool)(b:Bool)(v:I)(w:I)(h:J){R:av->Prop}(H:I.bC v=true/\I.bC w=true/\∃a4:Bool,ay (J.push h (.cells [.str p,.bool t,.str q,.bool b,v,w] 55 .own 0 0)) h.n (0+1)=some (.bool a4)/\(a4=true->∃s1:List UInt8,∃a_:Bool,∃v1:I,∃v2:I,aw.loadCells (J.push h (.cells [.str p,.bool t,.str q,.bool b,v,w] 55 .own 0 0)) h.n (0+2) 4=some [.str s1,.bool a_,v1,v2]/\∃cO:Bool,∃al:J,(Y m) (.fn 29) [.agg [.str s1,.bool a_,v1,v2]] (J.push h (.cells [.str p,.bool t,.str q,.bool b,v,w] 55 .own 0 0))=.ret (.bool cO) al/\R (.ret (.bool !cO) al))/\(a4=false->R (.ret (.bool false) (J.push h (.cells [.str p,.bool t,.str q,.bool b,v,w] 55 .own 0 0))))):
  R (Y (m+1) (.fn 37) [.agg [.str p,.bool t,.str q,.bool b,v,w]] h):=
 dd (intr:=bW) [] [(0,.ee [.v (.str p),.v (.bool t),.v (.str q),.v (.bool b),.o v,.o w])] Tryz.func37 (by kernel_rfl) (by kernel_rfl) (by kernel_rfl) rfl (Eq.mp (by kernel_rfl) H)
theorem VO(m:Nat)(p:List UInt8)(q:List UInt8)(t:Bool)(b:Bool)(v:I)(w:I)(c:Nat)(h:J){R:av->Prop}(H:I.bC v=true/\I.bC w=true/\∃aI:Nat,ay (J.room (J.push h (.cells [.str p,.bool t,.str q,.bool b,v,w] 55 .own 0 0)) 6) c 0=some (.ptr aI 0)/\∃s1:List UInt8,ay (J.room (J.push h (.cells [.str p,.bool t,.str q,.bool b,v,w] 55 .own 0 0)) 6) h.n (0+0)=some (.str s1)/\∃al:J,(Y m) (.fn 38) [.ptr aI (0+0),.str s1] (J.room (J.push h (.cells [.str p,.bool t,.str q,.bool b,v,w] 55 .own 0 0)) 6)=.ret (.aK []) al/\∃a4:Bool,ay al h.n (0+1)=some (.bool a4)/\(a4=true->∃bw:Nat,ay al c 0=some (.ptr bw 0)/\∃au:J,(Y m) (.fn 41) [.ptr bw (0+0),.int .i64 (.ofNat 1)] al=.ret (.aK []) au/\∃cH:Nat,ay au c 0=some (.ptr cH 0)/\∃s2:List UInt8,∃a_:Bool,∃v1:I,∃v2:I,aw.loadCells au h.n (0+2) 4=some [.str s2,.bool a_,v1,v2]/\∃a7:J,(Y m) (.fn 42) [.ptr cH 0,.agg [.str s2,.bool a_,v1,v2]] au=.ret (.aK []) a7/\R (.ret (.aK []) a7))/\(a4=false->∃cZ:Nat,ay al c 0=some (.ptr cZ 0)/\∃b8:J,(Y m) (.fn 41) [.ptr cZ (0+0),.int .i64 (.ofNat 0)] al=.ret (.aK []) b8/\R (.ret (.aK []) b8))):
  R (Y (m+1) (.fn 40) [.agg [.str p,.bool t,.str q,.bool b,v,w],.ptr c 0] h):=
 dd (intr:=bW) [] [(0,.ee [.v (.str p),.v (.bool t),.v (.str q),.v (.bool b),.o v,.o w]),(1,.v (.ptr c 0))] Tryz.func40 (by kernel_rfl) (by kernel_rfl) (by kernel_rfl) rfl (Eq.mp (by kernel_rfl) H)
theorem VP(m:Nat)(b:Nat)(v:I)(c:Nat)(h:J){R:av->Prop}(H:∃aI:Nat,cb Tryz.prog h 33 v=some (.int .i64 (.ofNat aI))/\∃al:J,(Y m) (.fn 41) [.ptr b (0+0),.int .i64 (.ofNat aI)] h=.ret (.aK []) al/\∃bw:Nat,cb Tryz.prog al 33 v=some (.int .i64 (.ofNat bw))/\bm Tryz.prog Tryz.f39 (Y m) [1,1,0] (ao.mk [(2,.fn 40 [] [.ptr c 0]),(14,v),(15,.int .i64 (.ofNat bw)),(16,.int .i64 (.ofNat 0))] [] .none al) (λcE cF=>∃au:J,∃bq:Env,cE=.exit 0/\cF=ao.mk bq [] .none au/\cl [] bq/\R (.ret (.aK []) au))):
  R (Y (m+1) (.fn 39) [.ptr b 0,v,.fn 40 [] [.ptr c 0]] h):=
 dd (intr:=bW) [(4000,.gw [2,14,15,16] [(.exit 0,[])])] [(0,.v (.ptr b 0)),(1,.o v),(2,.v (.fn 40 [] [.ptr c 0]))] Tryz.func39 (by kernel_rfl) (by kernel_rfl) (by kernel_rfl) rfl (Eq.mp (by kernel_rfl) H)
theorem VQ(call:aP->List I->J->av)(b:Nat)(off:Nat)(N:Nat)(i:Nat)(aE:cf)(c:Nat)(h:J){Q:bu->ao->Prop}(H:(i<N->i<N/\∃s1:List UInt8,∃a4:Bool,∃s2:List UInt8,∃a_:Bool,∃v1:I,∃v2:I,aw.loadCells h b (off+i*6) 6=some [.str s1,.bool a4,.str s2,.bool a_,v1,v2]/\I.bC v1=true/\I.bC v2=true/\∃al:J,aw.storeCells (J.push h (.cells [.str [],.bool false,.str [],.bool false,.a0,.a0] 55 .own 0 0)) h.n 0 [.str s1,.bool a4,.str s2,.bool a_,v1,v2]=some al/\∃bI:List UInt8,∃cO:Bool,∃cq:List UInt8,∃hD:Bool,∃cX:I,∃v4:I,aw.loadCells al h.n 0 6=some [.str bI,.bool cO,.str cq,.bool hD,cX,v4]/\∃au:J,call (.fn 40) [.agg [.str bI,.bool cO,.str cq,.bool hD,cX,v4],.ptr c 0] al=.ret (.aK []) au/\i+1<9223372036854775808/\Q .nrm (ao.mk [(2,.fn 40 [] [.ptr c 0]),(14,.slice b off N aE),(15,.int .i64 (.ofNat N)),(16,.int .i64 (.ofNat (i+1)))] [] .none au))/\(¬i<N->Q (.exit 0) (ao.mk [(2,.fn 40 [] [.ptr c 0]),(14,.slice b off N aE),(15,.int .i64 (.ofNat N)),(16,.int .i64 (.ofNat i))] [] .none h))):
  bm Tryz.prog Tryz.f39 call [1,1,0,0] ⟨[(2,.fn 40 [] [.ptr c 0]),(14,.slice b off N aE),(15,.int .i64 (.ofNat N)),(16,.int .i64 (.ofNat i))],[],.none,h⟩ Q:=
 e9 [(19,.b1 (.ee [.st,.b,.st,.b,.o,.o])),(21,.b1 (.ee [.st,.b,.st,.b,.o,.o]))] [2,14,15,16] [(2,.v (.fn 40 [] [.ptr c 0])),(14,.v (.slice b off N aE)),(15,.v (.int .i64 (.ofNat N))),(16,.v (.int .i64 (.ofNat i)))] rfl (Eq.mp (by kernel_rfl) H)
theorem VR(call:aP->List I->J->av)(N:Nat)(i:Nat)(v:I)(c:Nat)(h:J){Q:bu->ao->Prop}(H:¬i<N/\Q (.exit 0) (ao.mk [] [] .none h)):
  bm Tryz.prog Tryz.f39 call [1,1,0,0] ⟨[(2,.fn 40 [] [.ptr c 0]),(14,v),(15,.int .i64 (.ofNat N)),(16,.int .i64 (.ofNat i))],[],.none,h⟩ Q:=
 e9 [(1017,.f)] [] [(2,.v (.fn 40 [] [.ptr c 0])),(14,.o v),(15,.v (.int .i64 (.ofNat N))),(16,.v (.int .i64 (.ofNat i)))] rfl (Eq.mp (by kernel_rfl) H)
theorem VS(m:Nat)(p:List UInt8)(q:List UInt8)(v:I)(h:J){R:av->Prop}(H:∃a4:Bool,∃al:J,(Y m) (.fn 36) [v,.fn 37 [] []] h=.ret (.bool a4) al/\(a4=true->R (.ret (.str []) al))/\(a4=false->∃au:J,aw.storeCells (J.push (J.push al (.cells [.str []] 83 .own 0 0)) (.cells [.bd] 79 .own 0 0)) (J.n (J.push al (.cells [.str []] 83 .own 0 0))) 0 [.ptr al.n 0]=some au/\∃aI:Nat,ay au (J.n (J.push al (.cells [.str []] 83 .own 0 0))) 0=some (.ptr aI 0)/\∃a7:J,(Y m) (.fn 38) [.ptr aI (0+0),.str p] au=.ret (.aK []) a7/\∃bw:Nat,ay a7 (J.n (J.push al (.cells [.str []] 83 .own 0 0))) 0=some (.ptr bw 0)/\∃b8:J,(Y m) (.fn 38) [.ptr bw (0+0),.str q] a7=.ret (.aK []) b8/\∃cH:Nat,ay b8 (J.n (J.push al (.cells [.str []] 83 .own 0 0))) 0=some (.ptr cH 0)/\∃db:J,(Y m) (.fn 39) [.ptr cH 0,v,.fn 40 [] [.ptr (J.n (J.push al (.cells [.str []] 83 .own 0 0))) 0]] b8=.ret (.aK []) db/\∃cZ:Nat,ay db (J.n (J.push al (.cells [.str []] 83 .own 0 0))) 0=some (.ptr cZ 0)/\∃s1:List UInt8,ay db cZ (0+0+0)=some (.str s1)/\R (.ret (.str s1) db))):
  R (Y (m+1) (.fn 13) [.str p,.str q,v] h):=
 dd (intr:=bW) [] [(0,.v (.str p)),(1,.v (.str q)),(2,.o v)] Tryz.func13 (by kernel_rfl) (by kernel_rfl) (by kernel_rfl) rfl (Eq.mp (by kernel_rfl) H)
theorem VT(m:Nat)(v:I)(h:J){R:av->Prop}(H:bm Tryz.prog Tryz.f14 (Y m) [1,1,0,1,0] (ao.mk [(0,v),(3,.a0),(4,.int .i64 (.ofNat 0))] [] .none h) (λcE cF=>∃v1:I,∃al:J,∃bq:Env,cE=.exit 0/\cF=ao.mk bq [] .none al/\cl [(3,v1)] bq/\R (.ret v1 al))):
  R (Y (m+1) (.fn 14) [v] h):=
 dd (intr:=bW) [(4000,.gw [0,3,4] [(.exit 0,[(3,.o)])])] [(0,.o v)] Tryz.func14 (by kernel_rfl) (by kernel_rfl) (by kernel_rfl) rfl (Eq.mp (by kernel_rfl) H)
theorem VU(call:aP->List I->J->av)(b:Nat)(off:Nat)(N:Nat)(i:Nat)(aE:cf)(w:I)(h:J){Q:bu->ao->Prop}(H:(i<N->(i<10->i<N/\∃s1:List UInt8,ay (h.room 29) b (off+i*6+0)=some (.str s1)/\i<N/\∃s2:List UInt8,ay (h.room 29) b (off+i*6+0)=some (.str s2)/\∃aI:Nat,gP hp (.int .i64 (.ofNat (List.length s2))) [.int .i64 (.ofNat 50)]=some (.int .i64 (.ofNat aI))/\∃bI:List UInt8,eu Tryz.prog (h.room 29) 9 (.str s1) none (some (.int .i64 (.ofNat aI))) none=some (.str bI)/\i<N/\∃a4:Bool,ay (h.room 29) b (off+i*6+1)=some (.bool a4)/\i<N/\∃cq:List UInt8,∃a_:Bool,∃v1:I,∃v2:I,aw.loadCells (h.room 29) b (off+i*6+2) 4=some [.str cq,.bool a_,v1,v2]/\∃cN:List UInt8,∃cO:Bool,∃cX:I,∃v4:I,∃al:J,call (.fn 16) [.agg [.str cq,.bool a_,v1,v2]] (h.room 29)=.ret (.agg [.str cN,.bool cO,cX,v4]) al/\I.bC cX=true/\I.bC v4=true/\I.bC cX=true/\I.bC v4=true/\∃bw:Nat,∃cH:Nat,∃au:J,fW Tryz.prog (J.set al (h.n+26) (some (.cells [.str bI,.bool a4,.str cN,.bool cO,cX,v4] 55 .own 0 0))) 33 (some 33) w (.slice (h.n+26) 0 1 (.exact 1))=some (.slice bw 0 cH (.aN 6),au)/\I.sound w=true/\ay (J.set al (h.n+26) (some (.cells [.str bI,.bool a4,.str cN,.bool cO,cX,v4] 55 .own 0 0))) b (off+i*6+0)=some (.str s1)/\ay (J.set al (h.n+26) (some (.cells [.str bI,.bool a4,.str cN,.bool cO,cX,v4] 55 .own 0 0))) b (off+i*6+0)=some (.str s2)/\gP hp (.int .i64 (.ofNat (List.length s2))) [.int .i64 (.ofNat 50)]=some (.int .i64 (.ofNat aI))/\eu Tryz.prog (J.set al (h.n+26) (some (.cells [.str bI,.bool a4,.str cN,.bool cO,cX,v4] 55 .own 0 0))) 9 (.str s1) none (some (.int .i64 (.ofNat aI))) none=some (.str bI)/\ay (J.set al (h.n+26) (some (.cells [.str bI,.bool a4,.str cN,.bool cO,cX,v4] 55 .own 0 0))) b (off+i*6+1)=some (.bool a4)/\I.sound v1=true/\I.sound v2=true/\I.sound cX=true/\I.sound v4=true/\i+1<9223372036854775808/\Q .nrm (ao.mk [(0,.slice b off N aE),(3,.slice bw 0 cH (.aN 6)),(4,.int .i64 (.ofNat (i+1)))] [] .none au))/\(¬i<10->Q (.exit 0) (ao.mk [(0,.slice b off N aE),(3,w),(4,.int .i64 (.ofNat i))] [] .none h)))/\(¬i<N->Q (.exit 0) (ao.mk [(0,.slice b off N aE),(3,w),(4,.int .i64 (.ofNat i))] [] .none h))):
  bm Tryz.prog Tryz.f14 call [1,1,0,1,0,0] ⟨[(0,.slice b off N aE),(3,w),(4,.int .i64 (.ofNat i))],[],.none,h⟩ Q:=
 e9 [(42,.b1 (.wv (.aN 6)))] [0,3,4] [(0,.v (.slice b off N aE)),(3,.o w),(4,.v (.int .i64 (.ofNat i)))] rfl (Eq.mp (by kernel_rfl) H)
theorem Kj(call:aP->List I->J->av)(i:Nat)(v:I)(w:I)(h:J){Q:bu->ao->Prop}(H:∃aI:Nat,cb Tryz.prog h 31 v=some (.int .i64 (.ofNat aI))/\(i<aI->¬i<10/\Q (.exit 0) (ao.mk [(3,w)] [] .none h))/\(¬i<aI->Q (.exit 0) (ao.mk [(3,w)] [] .none h))):
  bm Tryz.prog Tryz.f14 call [1,1,0,1,0,0] ⟨[(0,v),(3,w),(4,.int .i64 (.ofNat i))],[],.none,h⟩ Q:=
 e9 [(1012,.f)] [3] [(0,.o v),(3,.o w),(4,.v (.int .i64 (.ofNat i)))] rfl (Eq.mp (by kernel_rfl) H)
structure e0 where
 path:aJ
 fU:Bool
 fc:hY
def gC(x:e0):aJ:=cS x.path++(if x.fU then b_ 1++jb x.fc else b_ 0)
def gD(x:e0):Bool:=!x.fU||ko x.fc
def nu(p q:aJ)(l:List e0):aJ:=cS p++(cS q++(b_ l.length++(l.map gC).flatten))
def hq(p q:aJ)(l:List e0):aJ:=if l.all gD then nu p q l else[]
def Ae(x:e0)(v w:I):List I:=[.str x.path,.bool x.fU,.str x.fc.path,.bool x.fc.fo,v,w]
abbrev s9(x:e0)(v w:I):ca:=.cells [.str x.path,.bool x.fU,.str x.fc.path,.bool x.fc.fo,v,w] 55 .own 0 0
def ik(B:Nat)(h:J)(v:I)(l:List e0):Prop:=(v=.a0/\l=[])\/∃b off aE,v=.slice b off l.length aE/\b<B/\∀i (ae:i<l.length),∃vv bE,aw.loadCells h b (off+i*6) 6=some (Ae l[i] vv bE)/\lN B h vv bE l[i].fc
structure pE(l:List e0):Prop where
 n:l.length<=1000
 p:∀x∈l,x.path.length<=90000
 f:∀x∈l,np x.fc
theorem q7{B b o n:Nat}{h g:J}{cs:List I}(e:Ext B h g)(af:b<B)(an:aw.loadCells h b o n=some cs):aw.loadCells g b o n=some cs:=by
 unfold aw.loadCells at an⊢
 rw[e.get b af];exact an
theorem ik.ext{B:Nat}{h g:J}{v:I}{l:List e0}(x:Ext B h g)(o:ik B h v l):ik B g v l:=by
 rcases o with o|⟨b,off,aE,aa,ad,ar⟩
 · exact .inl o
 · refine .inr ⟨b,off,aE,aa,ad,λi ae=>?_⟩
   obtain⟨vv,bE,bG,bF⟩:=ar i ae
   exact⟨vv,bE,q7 x ad bG,bF.bZ x⟩
theorem ik.le{B C:Nat}{h:J}{v:I}{l:List e0}(e:B<=C)(o:ik B h v l):ik C h v l:=by
 rcases o with o|⟨b,off,aE,aa,ad,ar⟩
 · exact .inl o
 · refine .inr ⟨b,off,aE,aa,by omega,λi ae=>?_⟩
   obtain⟨vv,bE,bG,bF⟩:=ar i ae
   exact⟨vv,bE,bG,bF.le e⟩
theorem ik.len{B:Nat}{h:J}{v:I}{l:List e0}(o:ik B h v l)(g:J):cb Tryz.prog g 33 v=some (.int .i64 (Int.ofNat l.length)):=by
 rcases o with⟨rfl,rfl⟩|⟨b,off,aE,rfl,_⟩<;>rfl
theorem VV{p q p' q':aJ}{t b uj j0:Bool}{v w v' w':I}(aB:v.bC=true)(hw:w.bC=true):eB 0 [.str p,.bool t,.str q,.bool b,v,w] [.str p',.bool uj,.str q',.bool j0,v',w']=some [.str p,.bool t,.str q,.bool b,v,w]:=tR [.str p,.bool t,.str q,.bool b,v,w] _ (by simp[I.bC] at*;exact⟨aB,hw⟩) (Nat.le_refl _)
theorem VW(m:Nat){B:Nat}{h:J}{vv bE:I}{x:e0}(hm:460<=m)(bM:B<=h.n)(hs:lN B h vv bE x.fc)(hf:np x.fc):bD B h (.bool (!gD x)) (Y (m+2) (.fn 37) [.agg (Ae x vv bE)] h):=by
 obtain⟨H,cR⟩:∃H,H=h.push (s9 x vv bE):=⟨_,rfl⟩
 have dG:Ext B h H:=by rw[cR];exact Ext.push bM _
 have jN:H.get h.n=some (s9 x vv bE):=by rw[cR];exact eZ rfl
 refine VN (m+1) x.path x.fc.path x.fU x.fc.fo vv bE h ⟨hs.v.cell,hs.t.cell,?_⟩
 rw[<-cR]
 refine⟨x.fU,ba jN rfl,λaQ=>?_,λaQ=>?_⟩
 · obtain⟨g,c,eh⟩:=UQ m hm (Nat.le_trans bM dG.n) (hs.bZ dG) hf
   exact⟨_,_,_,_,n1 jN rfl,_,g,c,bD.of (dM (by simp[gD,aQ])) (dG.trans (Nat.le_refl _) eh)⟩
 · exact bD.of (dM (by simp[gD,aQ])) dG
theorem VX{l:List e0}(h:∀j (aD:j<l.length),gD l[j]=true):l.all gD=true:=List.all_eq_true.2 λx ab=>by
 obtain⟨j,aD,rfl⟩:=List.getElem_of_mem ab
 exact h j aD
theorem VY{l:List e0}{i:Nat}(ae:i<l.length)(h:gD l[i]=false):l.all gD=false:=by
 cases e:l.all gD with
 |false=>rfl
 |true=>rw[List.all_eq_true.1 e l[i] (List.getElem_mem ae)] at h;cases h
theorem VZ(m:Nat){B:Nat}{h:J}{v:I}{l:List e0}(hm:460<=m)(bM:B<=h.n)(aB:ik B h v l)(hf:pE l):bD B h (.bool (!l.all gD)) (Y (m+4) (.fn 36) [v,.fn 37 [] []] h):=by
 refine VJ (m+3) v h ?_
 have aG:=hf.n
 have key:∃i g,Y (m+3) (.fn 63) [v,.fn 37 [] []] h=.ret (.int .i64 i) g/\fh (Int.ofNat 0) i=(!l.all gD)/\Ext B h g:=by
  refine VK (m+2) v h (R:=λx=>∃i g,x=.ret (.int .i64 i) g/\fh (Int.ofNat 0) i=(!l.all gD)/\Ext B h g) ⟨l.length,aB.len h,?_⟩
  refine bm.loop (by kernel_rfl) (λk st=>∃i x Γ,st=⟨Γ,[],.none,x⟩/\cl [(0,v),(1,.fn 37 [] []),(7,.int .i64 (Int.ofNat l.length)),(8,.int .i64 (Int.ofNat i))] Γ/\l.length-i=k/\i<=l.length/\Ext B h x/\∀j (aD:j<l.length),j<i->gD l[j]=true) ?_ l.length _ (by omega) ⟨0,h,_,rfl,⟨rfl,rfl,rfl,rfl,trivial⟩,by omega,by omega,Ext.refl _ _,λj aD lX=>by omega⟩
  rintro k st ⟨i,x,Γ,rfl,cG,aq,ae,ab,bh⟩
  rcases aB with⟨rfl,rfl⟩|⟨b,off,aE,rfl,af,an⟩
  · exact bm.pre (VM (Y (m+2)) _ i _ x ⟨by simp,.inl ⟨x,_,rfl,rfl,trivial,_,x,rfl,rfl,ab⟩⟩) cG rfl rfl rfl
  · refine bm.pre (VL (Y (m+2)) b off _ i aE x ⟨λaa=>?_,λaa=>?_⟩) cG rfl rfl rfl
    · obtain⟨vv,bE,bG,bF⟩:=an i aa
      obtain⟨g,c1,bb⟩:=VW m hm (Nat.le_trans bM ab.n) (bF.bZ ab) (hf.f _ (List.getElem_mem aa))
      have aj:=ab.trans (Nat.le_refl _) bb
      refine⟨aa,_,_,_,_,vv,bE,q7 ab af bG,_,g,c1,λag=>?_,λag=>?_⟩
      · refine .inr ⟨i,g,_,rfl,rfl,⟨rfl,trivial⟩,_,g,rfl,?_,aj⟩
        rw[VY aa (by simpa using ag)];exact o6 (by omega)
      · refine⟨by omega,_,(by show _<k;omega),i+1,g,_,rfl,⟨rfl,rfl,rfl,rfl,trivial⟩,rfl,by omega,aj,λj aD lX=>?_⟩
        by_cases e:j=i
        · subst e;simpa using ag
        · exact bh j aD (by omega)
    · refine .inl ⟨x,_,rfl,rfl,trivial,_,x,rfl,?_,ab⟩
      rw[VX λj aD=>bh j aD (by omega)];rfl
 obtain⟨i,g,c1,aC,bb⟩:=key
 exact⟨i,g,c1,bD.of (dM aC.symm) bb⟩
theorem V0(m:Nat){b c B:Nat}{h0 y:J}{s:aJ}{vv bE:I}{x:e0}(hm:250<=m)(af:B<=b)(aU:gA b y s)(fy:Ext B h0 y)(ag:c<y.n)(jC:c≠b)(gc:y.get c=some (.cells [.ptr b 0] 79 .own 0 0))(hs:lN B h0 vv bE x.fc)(hf:np x.fc)(a6:x.path.length<=90000)(q2:gD x=true)(an:s.length+(gC x).length<=1000000):
  mv b y (s++gC x) (Y (m+2) (.fn 40) [.agg (Ae x vv bE),.ptr c 0] y):=by
 obtain⟨P,Af⟩:∃P,P=y.push (s9 x vv bE):=⟨_,rfl⟩
 have Ag:Ext y.n y P:=by rw[Af];exact Ext.push (Nat.le_refl _) _
 have qs:P.get y.n=some (s9 x vv bE):=by rw[Af];exact eZ rfl
 have XV:P.n=y.n+1:=by rw[Af];rfl
 have EO:=aU.1
 have xh:=(aU.ext Ag).room 6
 obtain⟨al,c1,bq,bb⟩:=s3 (m-5) b s x.path (P.room 6) xh (by omega) (by omega)
 rw[show m-5+6=m+1 by omega] at c1
 have gO:ep b y.n y al:=(Ag.mb b).trans Ag.n (((Ext.room _ P 6).mb b).trans (Nat.le_refl _) (bb.le (by simp)))
 have z0:al.get y.n=some (s9 x vv bE):=(bb.get y.n (by simp;omega) (by omega)).trans qs
 have Ej:al.get c=some (.cells [.ptr b 0] 79 .own 0 0):=(gO.get c ag jC).trans gc
 have aI:y.n<al.n:=by have:=bb.n;simp at this;omega
 refine VO (m+1) x.path x.fc.path x.fU x.fc.fo vv bE c y ⟨hs.v.cell,hs.t.cell,?_⟩
 rw[<-Af]
 refine⟨b,ba (tT ((Ag.get c ag).trans gc)) rfl,x.path,ba (tT qs) rfl,al,c1,x.fU,ba z0 rfl,λaQ=>?_,λaQ=>?_⟩
 · have bM:gC x=cS x.path++(b_ 1++jb x.fc):=by unfold gC;rw[aQ];rfl
   rw[bM] at an⊢
   simp only[List.length_append] at an
   obtain⟨au,c2,bT,bz⟩:=pC (m-4) b 1 (s++cS x.path) al bq (by omega) (by simp only[List.length_append];omega)
   rw[show m-4+5=m+1 by omega] at c2
   have V1:=(bz.get y.n aI (by omega)).trans z0
   have V2:=(bz.get c (by omega) jC).trans Ej
   have k1:=gO.trans gO.n bz
   have AU:ko x.fc=true:=by simpa[gD,aQ] using q2
   obtain⟨a7,c3,eI,cP⟩:=UT m (b:=b) (B:=B) (h0:=h0) (y:=au) (by omega) af bT (aU.below af fy k1) hs hf (US hf AU) (by simp only[List.length_append];omega)
   exact⟨b,ba Ej rfl,au,c2,b,ba V2 rfl,_,_,_,_,n1 V1 rfl,a7,c3,a7,rfl,by simpa only[List.append_assoc] using eI,k1.trans k1.n cP⟩
 · have bM:gC x=cS x.path++b_ 0:=by unfold gC;rw[aQ];rfl
   rw[bM] at an⊢
   simp only[List.length_append] at an
   obtain⟨au,c2,bT,bz⟩:=pC (m-4) b 0 (s++cS x.path) al bq (by omega) (by simp only[List.length_append];omega)
   rw[show m-4+5=m+1 by omega] at c2
   exact⟨b,ba Ej rfl,au,c2,au,rfl,by simpa only[List.append_assoc] using bT,gO.trans gO.n bz⟩
theorem V3(m:Nat){b c B:Nat}{h0 x:J}{v:I}{l:List e0}{s:aJ}(hm:250<=m)(af:B<=b)(ai:ik B h0 v l)(hf:pE l)(q2:∀e∈l,gD e=true)(ab:gA b x s)(dt:Ext B h0 x)(ag:c<x.n)(jC:c≠b)(gc:x.get c=some (.cells [.ptr b 0] 79 .own 0 0))(an:s.length+(b_ l.length++(l.map gC).flatten).length<=1000000):
  mv b x (s++(b_ l.length++(l.map gC).flatten)) (Y (m+3) (.fn 39) [.ptr b 0,v,.fn 40 [] [.ptr c 0]] x):=by
 simp only[List.length_append] at an
 have aG:=hf.n
 obtain⟨al,c1,bq,bb⟩:=pC (m-3) b l.length s x ab (by omega) (by omega)
 rw[show m-3+5=m+2 by omega] at c1
 refine VP (m+2) b v c x ⟨_,ai.len x,al,c1,_,ai.len al,?_⟩
 refine bm.loop (by kernel_rfl) (λk st=>∃i y Γ,st=⟨Γ,[],.none,y⟩/\cl [(2,.fn 40 [] [.ptr c 0]),(14,v),(15,.int .i64 (Int.ofNat l.length)),(16,.int .i64 (Int.ofNat i))] Γ/\l.length-i=k/\i<=l.length/\gA b y (s++(b_ l.length++((l.map gC).take i).flatten))/\ep b x.n x y) ?_ l.length _ (by omega) ⟨0,al,_,rfl,⟨rfl,rfl,rfl,rfl,trivial⟩,by omega,by omega,by simpa using bq,bb⟩
 rintro k st ⟨i,y,Γ,rfl,cG,aq,ae,aU,hb⟩
 have fy:=ab.below af dt hb
 have Aa:=hb.n
 by_cases aa:i<l.length
 · rcases ai with⟨_,rfl⟩|⟨dh,off,aE,rfl,xf,gj⟩
   · simp at aa
   obtain⟨vv,bE,fj,aQ⟩:=gj i aa
   have ad:i<(l.map gC).length:=by simpa using aa
   have t1:=zW (l.map gC) (i+1)
   have t2:=zV (l.map gC) ad
   rw[t2,List.getElem_map] at t1
   simp only[List.length_append] at t1
   obtain⟨g,aj⟩:∃g,g=(y.push (.cells [.str [],.bool false,.str [],.bool false,.a0,.a0] 55 .own 0 0)).set y.n (some (s9 l[i] vv bE)):=⟨_,rfl⟩
   have b5:aw.storeCells (y.push (.cells [.str [],.bool false,.str [],.bool false,.a0,.a0] 55 .own 0 0)) y.n 0 [.str l[i].path,.bool l[i].fU,.str l[i].fc.path,.bool l[i].fc.fo,vv,bE]=some g:=by
    rw[aj];exact ia (eZ rfl) rfl (VV aQ.v.cell aQ.t.cell)
   have ov:g.get y.n=some (s9 l[i] vv bE):=by rw[aj];exact h_ rfl
   have eh:Ext y.n y g:=by rw[aj];exact(Ext.push (Nat.le_refl _) _).gK (Nat.le_refl _)
   have sE:=eh.n
   have mw:B<=y.n:=Nat.le_trans af (Nat.le_of_lt aU.1)
   have my:=fy.trans (Nat.le_refl _) (eh.le mw)
   have V4:g.get c=some (.cells [.ptr b 0] 79 .own 0 0):=(eh.get c (by omega)).trans ((hb.get c ag jC).trans gc)
   obtain⟨au,c2,bT,bz⟩:=V0 m (b:=b) (c:=c) (B:=B) (h0:=h0) (y:=g) (x:=l[i]) (by omega) af (aU.ext eh) my (by omega) jC V4 aQ (hf.f _ (List.getElem_mem aa)) (hf.p _ (List.getElem_mem aa)) (q2 _ (List.getElem_mem aa)) (by simp only[List.length_append];omega)
   refine bm.pre (VQ (Y (m+2)) dh off _ i aE c y ⟨λ_=>⟨aa,_,_,_,_,vv,bE,q7 fy xf fj,aQ.v.cell,aQ.t.cell,g,b5,_,_,_,_,vv,bE,n1 ov rfl,au,c2,by omega,?_⟩,λah=>absurd aa ah⟩) cG rfl rfl rfl
   refine⟨_,(by show l.length-(i+1)<k;omega),i+1,au,_,rfl,⟨rfl,rfl,rfl,rfl,trivial⟩,rfl,by omega,?_,hb.trans hb.n ((eh.mb b).trans eh.n bz)⟩
   rw[t2,List.getElem_map]
   simpa only[List.append_assoc] using bT
 · refine bm.pre (VR (Y (m+2)) l.length i v c y ⟨aa,y,_,rfl,rfl,trivial,y,rfl,?_,hb⟩) cG rfl rfl rfl
   rw[List.take_of_length_le (by simp;omega)] at aU
   exact aU
theorem Kk(m:Nat){B:Nat}{h:J}{v:I}{l:List e0}{p q:aJ}(hm:470<=m)(bM:B<=h.n)(aB:ik B h v l)(hf:pE l)(a6:p.length<=90000)(bh:q.length<=90000)(an:(nu p q l).length<=1000000):bD B h (.str (hq p q l)) (Y (m+5) (.fn 13) [.str p,.str q,v] h):=by
 obtain⟨al,c1,bb⟩:=VZ m (by omega) bM aB hf
 refine VS (m+4) p q v h ⟨_,al,c1,λaf=>?_,λaf=>?_⟩
 · exact bD.of (by unfold hq;rw[show l.all gD=false by simpa using af];rfl) bb
 have eO:l.all gD=true:=by simpa using af
 have aq:hq p q l=nu p q l:=by unfold hq;rw[eO];rfl
 rw[aq]
 unfold nu at an⊢
 simp only[List.length_append] at an
 have lE:=Nat.le_trans bM bb.n
 obtain⟨ox,pF⟩:∃P,P=al.push (.cells [.str []] 83 .own 0 0):=⟨_,rfl⟩
 have aI:ox.n=al.n+1:=by rw[pF];rfl
 obtain⟨pG,nv⟩:∃P,P=ox.push (.cells [.bd] 79 .own 0 0):=⟨_,rfl⟩
 obtain⟨au,kZ⟩:∃g,g=pG.set (al.n+1) (some (.cells [.ptr al.n 0] 79 .own 0 0)):=⟨_,rfl⟩
 have s2:aw.storeCells pG (al.n+1) 0 [.ptr al.n 0]=some au:=by rw[kZ];exact ia (by rw[nv];exact eZ aI.symm) rfl rfl
 have bw:au.n=al.n+2:=by rw[kZ,nv];simp;omega
 have bz:Ext al.n al au:=by rw[kZ];refine Ext.gK (by omega) ?_;rw[nv];refine Ext.lp (by omega) ?_;rw[pF];exact Ext.push (Nat.le_refl _) _
 have oP:gA al.n au []:=⟨by omega,by rw[kZ];refine o8 (by omega) ?_;rw[nv];refine sd (by omega) ?_;rw[pF];exact eZ rfl⟩
 have gc:au.get (al.n+1)=some (.cells [.ptr al.n 0] 79 .own 0 0):=by rw[kZ];exact h_ rfl
 have ax:Ext B h au:=bb.trans (Nat.le_refl _) (bz.le lE)
 obtain⟨a7,c3,eI,cP⟩:=s3 (m-2) al.n [] p au oP (by simp) (by omega)
 rw[show m-2+6=m+4 by omega] at c3
 have zT:=(cP.get (al.n+1) (by omega) (by omega)).trans gc
 obtain⟨b8,c4,iY,iB⟩:=s3 (m-2) al.n _ q a7 eI (by simp;omega) (by omega)
 rw[show m-2+6=m+4 by omega] at c4
 have ar:=cP.n
 have aM:=iB.n
 have Ek:=(iB.get (al.n+1) (by omega) (by omega)).trans zT
 have V5:=cP.trans cP.n iB
 have ds:Ext B h b8:=ax.trans (Nat.le_refl _) (cn.below lE (by omega) V5)
 obtain⟨db,lJ,jw,zj⟩:=V3 (m+1) (b:=al.n) (c:=al.n+1) (B:=B) (h0:=h) (x:=b8) (by omega) lE aB hf (List.all_eq_true.1 eO) iY ds (by omega) (by omega) Ek (by simp only[List.length_append,List.length_nil];omega)
 have V6:=(zj.get (al.n+1) (by omega) (by omega)).trans Ek
 subst nv
 subst pF
 exact⟨au,s2,al.n,ba gc rfl,a7,c3,al.n,ba zT rfl,b8,c4,al.n,ba Ek rfl,db,lJ,al.n,ba V6 rfl,_,ba jw.2 rfl,bD.of (by simp only[List.nil_append,List.append_assoc]) (ds.trans (Nat.le_refl _) (cn.below lE (by omega) zj))⟩
end Go.Proofs.cn
namespace Go.Proofs.cn
open Go aw Go.Proofs cu Go.Proofs.b0
open Go.Proofs.cT (cS)
open Go.Proofs.dV (b_)
set_option maxRecDepth 100000
set_option maxHeartbeats 1000000
structure hn where
 path:aJ
 fU:Bool
 p:aJ
 b:Bool
 c6:List (aJ×Nat)
 lt:List (aJ×Nat)
noncomputable def El(x:hn):e0:=⟨cut 50 x.path,x.fU,xn x.p x.b x.c6 x.lt⟩
noncomputable def kr(l:List hn):List e0:=(l.take 10).map El
theorem uS(l:List hn):(kr l).length=min l.length 10:=by simp[kr,Nat.min_comm]
def jc(B:Nat)(h:J)(v:I)(l:List hn):Prop:=(v=.a0/\l=[])\/∃b off aE,v=.slice b off l.length aE/\b<B/\∀i (ae:i<l.length),∃w d,aw.loadCells h b (off+i*6) 6=some [.str l[i].path,.bool l[i].fU,.str l[i].p,.bool l[i].b,w,d]/\mB B h w d l[i].c6 l[i].lt
theorem jc.ext{B:Nat}{h g:J}{v:I}{l:List hn}(x:Ext B h g)(o:jc B h v l):jc B g v l:=by
 rcases o with o|⟨b,off,aE,aa,ad,ar⟩
 · exact .inl o
 · refine .inr ⟨b,off,aE,aa,ad,λi ae=>?_⟩
   obtain⟨w,d,bG,bF⟩:=ar i ae
   exact⟨w,d,q7 x ad bG,bF.ext x⟩
theorem jc.len{B:Nat}{h:J}{v:I}{l:List hn}(o:jc B h v l)(g:J):cb Tryz.prog g 31 v=some (.int .i64 (Int.ofNat l.length)):=by
 rcases o with⟨rfl,rfl⟩|⟨b,off,aE,rfl,_⟩<;>rfl
theorem Kl{a b c d e f:I}:∀(o:Nat) (cs:List I),takeN 6 (g0 o cs)=some [a,b,c,d,e,f]->nth o cs=some a/\nth (o+1) cs=some b/\takeN 4 (g0 (o+2) cs)=some [c,d,e,f]
 |0,a::b::c::d::e::f::l,h=>by cases h;exact⟨rfl,rfl,rfl⟩
 |0,[],h=>by cases h
 |0,[_],h=>by cases h
 |0,[_,_],h=>by cases h
 |0,[_,_,_],h=>by cases h
 |0,[_,_,_,_],h=>by cases h
 |0,[_,_,_,_,_],h=>by cases h
 |o+1,[],h=>by cases h
 |o+1,x::l,h=>Kl o l h
theorem Ah{h:J}{b o:Nat}{cY dr h2 m5 pa ug:I}(an:aw.loadCells h b o 6=some [cY,dr,h2,m5,pa,ug]):ay h b (o+0)=some cY/\ay h b (o+1)=some dr/\aw.loadCells h b (o+2) 4=some [h2,m5,pa,ug]:=by
 unfold aw.loadCells at an⊢
 unfold ay
 split at an
 · exact Kl o _ an
 · cases an
def mC:Option (Nat×Nat×Nat×cf)->I
 |none=>.a0
 |some (b,o,n,c)=>.slice b o n c
theorem Km{F:Nat->Prop}{h:J}{v:I}{l:List ez}(ai:gl F h v l):∃u,v=mC u:=by
 rcases ai with⟨rfl,_⟩|⟨b,off,aE,rfl,_⟩
 · exact⟨none,rfl⟩
 · exact⟨some (b,off,l.length,aE),rfl⟩
abbrev Ai:=aJ×Bool×aJ×Bool×Option (Nat×Nat×Nat×cf)×Option (Nat×Nat×Nat×cf)
def s_(d:Ai):List I:=[.str d.1,.bool d.2.1,.str d.2.2.1,.bool d.2.2.2.1,mC d.2.2.2.2.1,mC d.2.2.2.2.2]
theorem xu(u:Option (Nat×Nat×Nat×cf)):(mC u).bC=true:=by
 cases u<;>rfl
theorem Kn:se Tryz.prog s_ 6 55 33 where
 hu:=by kernel_rfl
 fM:=by kernel_rfl
 info:=by
  obtain⟨i,ae⟩:=Option.isSome_iff_exists.1 (show(Tryz.prog.info? 55).isSome=true by kernel_rfl)
  refine⟨i,ae,?_,?_⟩
  · have:(Tryz.prog.info? 55).map (·.size)=some 6:=by kernel_rfl
    rw[ae] at this;simpa using this
  · have:(Tryz.prog.info? 55).map (λi=>Nat.ble i.bytes 1000)=some true:=by kernel_rfl
    rw[ae] at this
    exact Nat.le_of_ble_eq_true (by simpa using this)
 zero:=⟨.agg [.str [],.bool false,.str [],.bool false,.a0,.a0],by kernel_rfl,rfl⟩
 size:=by kernel_rfl
 len:=λ_=>rfl
 cell:=λd=>by simp only[s_,List.all_cons,List.all_nil,xu,Bool.and_true];rfl
 pos:=by decide
structure xv(A:Nat)(l:List hn)(i:Nat)(y:J)(w:I)(F:Nat->Prop)(aS:List Ai):Prop where
 o:jH s_ 6 55 A y w aS
 n:aS.length=i
 d:∀j (aD:j<aS.length),∃an:j<l.length,s_ aS[j]=Ae (El l[j]) (mC aS[j].2.2.2.2.1) (mC aS[j].2.2.2.2.2)/\gl F y (mC aS[j].2.2.2.2.1) (gY l[j].c6)/\gl F y (mC aS[j].2.2.2.2.2) (gY l[j].lt)
 f:∀d,F d->A<=d/\d<y.n/\∀n aE,w≠ .slice d 0 n aE
theorem xv.row{A:Nat}{l:List hn}{i:Nat}{y:J}{w:I}{F:Nat->Prop}{aS:List Ai}(p:xv A l i y w F aS)(ae:i=min l.length 10):ik y.n y w (kr l):=by
 have aG:=p.n
 rcases p.o with⟨rfl,rfl⟩|⟨b,rfl,ad,ar,aM,bS⟩
 · refine .inl ⟨rfl,?_⟩
   have:(kr l).length=0:=by rw[uS];simp at aG;omega
   exact List.length_eq_zero_iff.1 this
 · refine .inr ⟨b,0,.aN 6,by rw[uS,<-ae,aG],bS,λj aD=>?_⟩
   rw[uS] at aD
   obtain⟨an,aC,ax,bp⟩:=p.d j (by omega)
   obtain⟨_,_,eH⟩:=jH.load Kn (.inr ⟨b,rfl,ad,ar,aM,bS⟩:jH s_ 6 55 A y (.slice b 0 aS.length (.aN 6)) aS)
   have e:(kr l)[j]'(by rw[uS];omega)=El l[j]:=by simp[kr]
   rw[e]
   refine⟨_,_,(eH j (by omega)).trans (by rw[aC]),⟨gl.at (λd az=>(p.f d az).2.1) ax,gl.at (λd az=>(p.f d az).2.1) bp⟩⟩
theorem Ko(m:Nat){B:Nat}{h:J}{v:I}{l:List hn}(bM:B<=h.n)(aB:jc B h v l):∃v' g,Y (m+5) (.fn 14) [v] h=.ret v' g/\Ext h.n h g/\ik g.n g v' (kr l):=by
 refine VT (m+4) v h (R:=λx=>∃v' g,x=.ret v' g/\Ext h.n h g/\ik g.n g v' (kr l)) ?_
 refine bm.loop (by kernel_rfl) (λk s=>∃i w F aS y Γ,s=⟨Γ,[],.none,y⟩/\cl [(0,v),(3,w),(4,.int .i64 (Int.ofNat i))] Γ/\min l.length 10-i=k/\i<=min l.length 10/\Ext h.n h y/\xv h.n l i y w F aS) ?_ (min l.length 10) _ (by omega) ⟨0,.a0,λ_=>False,[],h,_,rfl,⟨rfl,rfl,rfl,trivial⟩,by omega,by omega,Ext.refl _ _,.inl ⟨rfl,rfl⟩,rfl,λj aD=>by simp at aD,λd az=>az.elim⟩
 rintro k s ⟨i,w,F,aS,y,Γ,rfl,cG,aq,ae,ab,a2⟩
 have Aa:=ab.n
 have fin:i=min l.length 10->∀bV,cl [(3,w)] bV->∃(v1:I) (al:J) (bq:Env),bu.exit 0=.exit 0/\(⟨bV,[],.none,y⟩:ao)=⟨bq,[],.none,al⟩/\cl [(3,v1)] bq/\∃v' g,av.ret v1 al=.ret v' g/\Ext h.n h g/\ik g.n g v' (kr l):=λe bV aj=>⟨w,y,bV,rfl,rfl,aj,w,y,rfl,ab,a2.row e⟩
 by_cases cJ:i<l.length
 · by_cases Kp:i<10
   · rcases aB with⟨_,rfl⟩|⟨b,off,aE,rfl,af,kn⟩
     · simp at cJ
     obtain⟨V7,wt,ag,hm⟩:=kn i cJ
     obtain⟨H,cR⟩:∃H,H=y.room 29:=⟨_,rfl⟩
     have ml:H.n=y.n+29:=by rw[cR];simp
     have dG:Ext h.n h H:=by rw[cR];exact ab.hC
     have V8:∀d,H.get d=y.get d:=λd=>by rw[cR];rfl
     have V9:=q7 (dG.le bM) af ag
     obtain⟨mF,bq,bT⟩:=Ah V9
     have uR:mB B H V7 wt l[i].c6 l[i].lt:=hm.ext (dG.le bM)
     obtain⟨s7,s8,al,c1,bb,r1,r2⟩:=Vy m (p:=l[i].p) (b:=l[i].b) (show B<=H.n by omega) uR
     have Kd:=bb.n
     obtain⟨nK,rfl⟩:=Km r1
     obtain⟨nM,rfl⟩:=Km r2
     obtain⟨D,Kq⟩:∃D:Ai,D=(cut 50 l[i].path,l[i].fU,cut 50 l[i].p,l[i].b,nK,nM):=⟨_,rfl⟩
     obtain⟨ij,nr⟩:∃ij,ij=al.set (y.n+26) (some (.cells [.str (cut 50 l[i].path),.bool l[i].fU,.str (cut 50 l[i].p),.bool l[i].b,mC nK,mC nM] 55 .own 0 0)):=⟨_,rfl⟩
     have D_:ij.n=al.n:=by rw[nr];simp
     have Kr:∀d,d<y.n->ij.get d=y.get d:=λd az=>by rw[nr];exact o8 (by omega) ((bb.get d (by omega)).trans (V8 d))
     have Ks:Ext y.n y ij:=⟨by omega,Kr⟩
     have Kt:Ext h.n h ij:=ab.trans (Nat.le_refl _) (Ks.le Aa)
     have V_:∀d,H.n<=d->ij.get d=al.get d:=λd az=>by rw[nr];exact o8 (by omega) rfl
     have hs:ho ij 6 (.slice (y.n+26) 0 1 (.exact 1))=some (1,s_ D):=by
      have:aw.loadCells ij (y.n+26) 0 (1*6)=some [.str (cut 50 l[i].path),.bool l[i].fU,.str (cut 50 l[i].p),.bool l[i].b,mC nK,mC nM]:=by rw[nr];exact n1 (h_ rfl) rfl
      simp only[ho,this,Kq,s_]
     have ta:=a2.n
     have hw:∀d n aE,y.n<=d->w≠ .slice d 0 n aE:=λd n aE az e=>by
      rcases a2.o with⟨rfl,_⟩|⟨q,rfl,_,_,_,bh⟩
      · cases e
      · injection e with aC;omega
     obtain⟨g,fJ,j1,fH,Ea,Eb⟩:=JX Kn (B:=h.n) (d:=D) (jH.mono a2.o Ks (Nat.le_refl _)) (by omega) hs (by omega)
     rw[List.length_append,List.length_singleton,ta] at fJ
     have eh:Ext h.n h g:=Kt.trans (Nat.le_refl _) Ea
     have Ku:∀d,F d->g.get d=y.get d:=λd az=>by
      obtain⟨bG,bF,eH⟩:=a2.f d az
      exact(Eb d (by omega) eH).trans (Kr d bF)
     have Kv:∀d,hl H.n al.n d->g.get d=al.get d:=λd az=>(Eb d (by omega) λn aE=>hw d n aE (by omega)).trans (V_ d az.1)
     have a6:xv h.n l (i+1) g (.slice ij.n 0 (i+1) (.aN 6)) (λd=>F d\/hl H.n al.n d) (aS++[D]):=by
      refine⟨.inr ⟨ij.n,by rw[List.length_append,List.length_singleton,ta],by simp,j1,by omega,by omega⟩,by simp[ta],λj aD=>?_,λd az=>?_⟩
      · rw[List.length_append,List.length_singleton] at aD
        by_cases jj:j<aS.length
        · obtain⟨an,aC,ax,bp⟩:=a2.d j jj
          rw[List.getElem_append_left jj]
          exact⟨an,aC,gl.bZ (λd az=>⟨.inl az,Ku d az⟩) ax,gl.bZ (λd az=>⟨.inl az,Ku d az⟩) bp⟩
        · obtain rfl:j=i:=by omega
          rw[List.getElem_append_right (by omega)]
          simp only[ta,Nat.sub_self,List.getElem_singleton]
          subst Kq
          exact⟨cJ,rfl,gl.bZ (λd az=>⟨.inr az,Kv d az⟩) r1,gl.bZ (λd az=>⟨.inr az,Kv d az⟩) r2⟩
      · rcases az with az|az
        · obtain⟨bG,bF,eH⟩:=a2.f d az
          exact⟨bG,by omega,λn aE e=>by injection e with aC;omega⟩
        · exact⟨by omega,by omega,λn aE e=>by injection e with aC;omega⟩
     have sV:∃j,j<k/\∃jm w F aS eE Γ,(⟨[(0,.slice b off l.length aE),(3,.slice ij.n 0 (i+1) (.aN 6)),(4,.int .i64 (Int.ofNat (i+1)))],[],.none,g⟩:ao)=⟨Γ,[],.none,eE⟩/\cl [(0,.slice b off l.length aE),(3,w),(4,.int .i64 (Int.ofNat jm))] Γ/\min l.length 10-jm=j/\jm<=min l.length 10/\Ext h.n h eE/\xv h.n l jm eE w F aS:=⟨_,(by show min l.length 10-(i+1)<k;omega),i+1,_,_,_,g,_,rfl,⟨rfl,rfl,rfl,trivial⟩,rfl,by omega,eh,a6⟩
     have Wa:=q7 (Kt.le bM) af ag
     obtain⟨Eg,fl,eE⟩:=Ah Wa
     subst cR
     subst nr
     exact bm.pre (VU (Y (m+4)) b off _ i aE w y ⟨λ_=>⟨λ_=>⟨cJ,_,mF,cJ,_,mF,_,mc _ _,_,nq _ _,cJ,_,bq,cJ,_,_,_,_,bT,_,_,_,_,al,c1,xu _,xu _,xu _,xu _,_,_,g,fJ,a2.o.sound,Eg,Eg,mc _ _,nq _ _,fl,hm.v.snd,hm.t.snd,r1.snd,r2.snd,by omega,sV⟩,λah=>absurd Kp ah⟩,λah=>absurd cJ ah⟩) cG rfl rfl rfl
   · refine bm.pre (Kj (Y (m+4)) i v w y ⟨l.length,aB.len y,λ_=>⟨Kp,fin (by omega) _ ⟨rfl,trivial⟩⟩,λah=>absurd cJ ah⟩) cG rfl rfl rfl
 · refine bm.pre (Kj (Y (m+4)) i v w y ⟨l.length,aB.len y,λah=>absurd ah cJ,λ_=>fin (by omega) _ ⟨rfl,trivial⟩⟩) cG rfl rfl rfl
theorem tb(l:List hn):pE (kr l):=⟨by rw[uS];omega,λx ab=>by
 obtain⟨y,_,rfl⟩:=List.mem_map.1 ab
 show(cut 50 y.path).length<=_
 simp only[cut,List.length_take];omega,λx ab=>by
 obtain⟨y,_,rfl⟩:=List.mem_map.1 ab
 exact(Vz _ _ _ _).1⟩
theorem Kw(p q:aJ)(l:List hn):(nu (cut 50 p) (cut 300 q) (kr l)).length<=1000000:=by
 have aa:=cT.xb (cut 50 p)
 have ad:=cT.xb (cut 300 q)
 have ar:(cut 50 p).length<=50:=by simp only[cut,List.length_take];omega
 have aM:(cut 300 q).length<=300:=by simp only[cut,List.length_take];omega
 have bS:=cT.pB (kr l).length
 have cK:=Ef (k:=42000) ((kr l).map gC) λx ab=>by
  obtain⟨e,he,rfl⟩:=List.mem_map.1 ab
  obtain⟨y,_,rfl⟩:=List.mem_map.1 he
  have bG:=cT.xb (cut 50 y.path)
  have bF:(cut 50 y.path).length<=50:=by simp only[cut,List.length_take];omega
  have eH:=Kf y.p y.b y.c6 y.lt
  have nW:=cT.pB 0
  have vQ:=cT.pB 1
  show(cS (cut 50 y.path)++(if y.fU then b_ 1++jb (xn y.p y.b y.c6 y.lt) else b_ 0)).length<=_
  rw[List.length_append]
  split
  · rw[List.length_append];omega
  · omega
 rw[List.length_map,uS] at cK
 have ew:min l.length 10*42000<=10*42000:=Nat.mul_le_mul_right _ (by omega)
 unfold nu
 rw[List.length_append,List.length_append,List.length_append]
 omega
end Go.Proofs.cn
namespace Go.Proofs.cn
open Go aw Go.Proofs cu Go.Proofs.b0
open Go.Proofs.cT (cS)
open Go.Proofs.dV (b_)
set_option maxRecDepth 100000
set_option maxHeartbeats 1000000
def Aj(μ:a8)(W:World)(i:dL)(cs:List I)(el:Nat):Prop:=∃c fz,W.heap[i.a5]? =some (.cells c el fz)/\xS μ cs c i.base/\i.base+i.size=c.size
theorem Wb{P:Program}{W:World}(ix:P.globals.size<=W.heap.size)(l:List (dL×List I×Nat))(an:∀x∈l,Aj (o2 P.globals.size (l.map (·.1))) W x.1 x.2.1 x.2.2):
  bc (o2 P.globals.size (l.map (·.1))) (r3 P.globals.size (l.map (·.2))) W/\gp P (o2 P.globals.size (l.map (·.1)))/\rV (r3 P.globals.size (l.map (·.2))):=by
 have ro:∀b o,(r3 P.globals.size (l.map (·.2))).get b=some o->∃x,l[b-P.globals.size]? =some x/\¬b<P.globals.size/\o=.cells x.2.1 x.2.2 .ro 0 0:=by
  intro b o h
  rw[BW] at h
  split at h
  · cases h
  · rename_i af
    rw[List.getElem?_map] at h
    cases ab:l[b-P.globals.size]? with
    |none=>rw[ab] at h;cases h
    |some x=>rw[ab] at h;cases h;exact⟨x,rfl,af,rfl⟩
 refine⟨⟨λb o j h aD=>?_,λb c' j k aa ad=>?_,λb j h=>?_,λb h=>?_⟩,λg aj=>⟨⟨g,0,0⟩,by simp[o2,aj],rfl,rfl⟩,λb o h=>?_⟩
 · obtain⟨x,ab,af,rfl⟩:=ro b o h
   have rh:=aD
   unfold o2 at rh
   rw[if_neg af,List.getElem?_map,ab] at rh
   cases rh
   obtain⟨c,fz,aR,a3,ck⟩:=an x (List.mem_of_getElem? ab)
   exact⟨c,fz.1,fz.2,aR,a3,ck,trivial⟩
 · obtain⟨o,ad,ar⟩:=ad
   obtain⟨x,_,_,rfl⟩:=ro _ o ad
   cases ar
 · rw[BV,List.length_map]
   unfold o2 at h
   split at h
   · rename_i af;cases h;exact⟨by omega,Nat.lt_of_lt_of_le af ix⟩
   · rw[List.getElem?_map] at h
     cases ab:l[b-P.globals.size]? with
     |none=>rw[ab] at h;cases h
     |some x=>
      rw[ab] at h;cases h
      obtain⟨c,fz,aR,_⟩:=an x (List.mem_of_getElem? ab)
      have:=(List.getElem?_eq_some_iff.1 ab).1
      exact⟨by omega,(Array.getElem?_eq_some_iff.1 aR).1⟩
 · rw[BV,List.length_map] at h
   rw[BW,if_neg (by omega),List.getElem?_map,List.getElem?_eq_none (by omega)];rfl
 · obtain⟨x,_,_,rfl⟩:=ro b o h;rfl
theorem Wc{W:World}{i:dL}{cs:List I}{el:Nat}(h:tJ W i cs el)(μ:a8):Aj μ W i cs el:=by
 obtain⟨c,fz,aa,ad,ar⟩:=h
 exact⟨c,fz,aa,ad μ,ar⟩
theorem Kx{μ:a8}:∀(ws:List I) (vs:List Value),bN μ ws vs->∀(j:Nat) (v:I),ws[j]? =some v->∃u,vs[j]? =some u/\a1 μ v u
 |[],vs,h,j,v,aD=>by simp at aD
 |a::ws,vs,h,j,v,aD=>by
  obtain⟨u,us,rfl,aa,ad⟩:=h
  cases j with
  |zero=>cases aD;exact⟨u,rfl,aa⟩
  |succ j=>exact Kx ws us ad j v aD
theorem Ky{H:Type}{enc:TypeId×Value->H}{W:World}{sp:Nat->Bool}{held:Bool}{fuel:Nat}{c:Value}{x:DataW H×List MemPlace}(h:DataW.trod enc Tryz.prog W 0 sp held fuel 36 [c]=some x):
  ∃aS rows,(∀d∈aS,d.2<256)/\(∀x∈rows,tJ W x.1 x.2.1 x.2.2)/\∀B il,∃v,∀(μ:a8) (h:J) i0,μ il=some i0->il<h.n->ns rows μ h B->jQ h.n h v aS/\a1 μ v c:=by
 obtain⟨nt,len,cap,rfl⟩:∃nt len cap,c=.slice nt len cap:=by
  rcases DataW.trod_slice Kh h with⟨h0,_⟩|⟨a,VF,Bv,_,_,_,_,h0,_⟩<;>cases h0<;>exact⟨_,_,_,rfl⟩
 by_cases h0:len=0
 · subst h0
   rcases Ki h with⟨rfl,_,rfl⟩|⟨a,rfl,_⟩
   · exact⟨[],[],by simp,by simp,λB il=>⟨.a0,λμ h i0 _ _ _=>⟨.inl ⟨rfl,rfl⟩,rfl⟩⟩⟩
   · exact⟨[],[],by simp,by simp,λB il=>⟨.slice il 0 0 .dead,λμ h i0 aa ar _=>⟨.inr ⟨il,0,.dead,rfl,ar,λi ae=>by simp at ae⟩,⟨_,aa,rfl,a,cap,rfl⟩⟩⟩⟩
 · obtain⟨aS,rows,aa,ad,ar⟩:=VH h h0
   exact⟨aS,rows,aa,ad,λB il=>let⟨v,k⟩:=ar B;⟨v,λμ h i0 _ _ ai=>k μ h ai⟩⟩
theorem Wd:∃f0 f1 f2 f3:Field,Tryz.prog.underlying 38=some (.struct #[f0,f1,f2,f3])/\[f0,f1,f2,f3].map (λf=>(f.type,f.offset))=[(9,0),(4,1),(36,2),(36,3)]:=by
 obtain⟨b2,j3⟩:∃b2,Tryz.prog.underlying 38=some (.struct b2):=by
  have:(match Tryz.prog.underlying 38 with|some (.struct _)=>true|_=>false)=true:=by kernel_rfl
  revert this
  cases Tryz.prog.underlying 38 with
  |none=>intro h;cases h
  |some d=>cases d<;>intro h<;>first|exact⟨_,rfl⟩|cases h
 have k:(match Tryz.prog.underlying 38 with|some (.struct b2)=>b2.toList.map λf=>(f.type,f.offset)|_=>[])=[(9,0),(4,1),(36,2),(36,3)]:=by kernel_rfl
 rw[j3] at k
 simp only at k
 obtain⟨l⟩:=b2
 match l,k with
 |[f0,f1,f2,f3],k=>exact⟨f0,f1,f2,f3,j3,k⟩
theorem We:∃f0 f1 f2:Field,Tryz.prog.underlying 90=some (.struct #[f0,f1,f2])/\[f0,f1,f2].map (λf=>(f.type,f.offset))=[(9,0),(4,1),(38,2)]:=by
 obtain⟨b2,j3⟩:∃b2,Tryz.prog.underlying 90=some (.struct b2):=by
  have:(match Tryz.prog.underlying 90 with|some (.struct _)=>true|_=>false)=true:=by kernel_rfl
  revert this
  cases Tryz.prog.underlying 90 with
  |none=>intro h;cases h
  |some d=>cases d<;>intro h<;>first|exact⟨_,rfl⟩|cases h
 have k:(match Tryz.prog.underlying 90 with|some (.struct b2)=>b2.toList.map λf=>(f.type,f.offset)|_=>[])=[(9,0),(4,1),(38,2)]:=by kernel_rfl
 rw[j3] at k
 simp only at k
 obtain⟨l⟩:=b2
 match l,k with
 |[f0,f1,f2],k=>exact⟨f0,f1,f2,j3,k⟩
def pH(x:hn×I×I):List I:=[.str x.1.path,.bool x.1.fU,.str x.1.p,.bool x.1.b,x.2.1,x.2.2]
theorem Wf{H:Type}{enc:TypeId×Value->H}{W:World}{sp:Nat->Bool}{held:Bool}{fuel:Nat}{cs:List Value}{x:DataW H×List MemPlace}(h:DataW.trod enc Tryz.prog W 0 sp held fuel 90 cs=some x):
  ∃(y:hn) (rows:List (dL×List I×Nat)),(∀x∈rows,tJ W x.1 x.2.1 x.2.2)/\∀B il,∃w d,∀(μ:a8) (h:J) i0,μ il=some i0->il<h.n->ns rows μ h B->mB h.n h w d y.c6 y.lt/\bN μ (pH (y,w,d)) cs:=by
 obtain⟨f0,f1,f2,hs,k⟩:=We
 simp only[List.map_cons,List.map_nil,List.cons.injEq,Prod.mk.injEq] at k
 obtain⟨⟨t0,mJ⟩,⟨t1,c0⟩,⟨t2,e6⟩,_⟩:=k
 obtain⟨xs,n,_,_,fj,gH,hf⟩:=DataW.trod_struct hs h
 have Ak:Tryz.prog.cellsOf 90=6:=by kernel_rfl
 rw[Ak] at fj
 obtain⟨jd,c1,c2,c3,c4,lJ,rfl⟩:∃jd c1 c2 c3 c4 lJ,cs=[jd,c1,c2,c3,c4,lJ]:=by
  match cs,fj with
  |[jd,c1,c2,c3,c4,lJ],_=>exact⟨jd,c1,c2,c3,c4,lJ,rfl⟩
 have XW:xs.length=3:=gH
 have xw:=hf 0 f0 rfl
 have aR:=hf 1 f1 rfl
 have a3:=hf 2 f2 rfl
 rw[List.getElem?_eq_getElem (by omega),t0,mJ,(by kernel_rfl:Tryz.prog.cellsOf 9=1)] at xw
 rw[List.getElem?_eq_getElem (by omega),t1,c0,(by kernel_rfl:Tryz.prog.cellsOf 4=1)] at aR
 rw[List.getElem?_eq_getElem (by omega),t2,e6,(by kernel_rfl:Tryz.prog.cellsOf 38=4)] at a3
 obtain⟨s,dt,_,_⟩:=DataW.trod_string uP xw
 obtain⟨gB,aC,_⟩:=DataW.trod_bool (by kernel_rfl) aR
 obtain⟨Wg,al,au,a7,c8,k⟩:=Wd
 simp only[List.map_cons,List.map_nil,List.cons.injEq,Prod.mk.injEq] at k
 obtain⟨⟨t0,mJ⟩,⟨t1,c0⟩,⟨t2,e6⟩,⟨t3,Wh⟩,_⟩:=k
 obtain⟨ys,m,_,_,_,j2,aj⟩:=DataW.trod_struct c8 a3
 have XX:ys.length=4:=j2
 have Kz:=aj 0 Wg rfl
 have dy:=aj 1 al rfl
 have dq:=aj 2 au rfl
 have iu:=aj 3 a7 rfl
 rw[List.getElem?_eq_getElem (by omega),t0,mJ,(by kernel_rfl:Tryz.prog.cellsOf 9=1)] at Kz
 rw[List.getElem?_eq_getElem (by omega),t1,c0,(by kernel_rfl:Tryz.prog.cellsOf 4=1)] at dy
 rw[List.getElem?_eq_getElem (by omega),t2,e6,(by kernel_rfl:Tryz.prog.cellsOf 36=1)] at dq
 rw[List.getElem?_eq_getElem (by omega),t3,Wh,(by kernel_rfl:Tryz.prog.cellsOf 36=1)] at iu
 obtain⟨s2,ax,_,_⟩:=DataW.trod_string uP Kz
 obtain⟨KA,bp,_⟩:=DataW.trod_bool (by kernel_rfl) dy
 obtain⟨c6,r1,nt,cY,dr⟩:=Ky (c:=c4) dq
 obtain⟨lt,r2,cp,a4,a_⟩:=Ky (c:=lJ) iu
 have Eh:jd=.string s:=by simpa using dt
 have rB:c1=.bool gB:=by simpa using aC
 have tc:c2=.string s2:=by simpa using ax
 have Wi:c3=.bool KA:=by simpa using bp
 subst Eh rB tc Wi
 refine⟨⟨s.data.toList,gB,s2.data.toList,KA,c6,lt⟩,r1++r2,λx ab=>?_,λB il=>?_⟩
 · rcases List.mem_append.1 ab with ab|ab
   · exact cY x ab
   · exact a4 x ab
 · obtain⟨w,kw⟩:=dr B il
   obtain⟨d,Wj⟩:=a_ (B+r1.length) il
   refine⟨w,d,λμ h i0 eD lb ai=>?_⟩
   obtain⟨c7,fu⟩:=Ad ai
   obtain⟨bb,bz⟩:=kw μ h i0 eD lb c7
   obtain⟨cP,iB⟩:=Wj μ h i0 eD lb fu
   exact⟨⟨bb,cP,nt,cp⟩,_,_,rfl,⟨s,rfl,rfl⟩,_,_,rfl,rfl,_,_,rfl,⟨s2,rfl,rfl⟩,_,_,rfl,rfl,_,_,rfl,bz,_,_,rfl,iB,rfl⟩
theorem KB{H:Type}{enc:TypeId×Value->H}{W:World}{sp:Nat->Bool}{held:Bool}{a:Addr}:∀n,(∀i,i<n->∃cs fuel x,W.cells? 0 (a.add (i*6)) 6=some cs/\DataW.trod enc Tryz.prog W 0 sp held fuel 90 cs=some x)->
  ∃(l:List hn) (rows:List (dL×List I×Nat)),l.length=n/\(∀x∈rows,tJ W x.1 x.2.1 x.2.2)/\∀B il,∃aS:List (hn×I×I),aS.map (·.1)=l/\∀(μ:a8) (h:J) i0,μ il=some i0->il<h.n->ns rows μ h B->∀i (ae:i<aS.length),mB h.n h aS[i].2.1 aS[i].2.2 aS[i].1.c6 aS[i].1.lt/\∀j v,(pH aS[i])[j]? =some v->∃u,W.cell? ((a.add (i*6)).add j)=some u/\a1 μ v u
 |0,_=>⟨[],[],rfl,by simp,λB il=>⟨[],rfl,λμ h i0 _ _ _ i ae=>by simp at ae⟩⟩
 |n+1,mQ=>by
  obtain⟨l,rows,an,ai,af⟩:=KB n λi ae=>mQ i (by omega)
  obtain⟨cs,fuel,x,gG,ab⟩:=mQ n (by omega)
  obtain⟨y,r,p8,aU⟩:=Wf ab
  refine⟨l++[y],rows++r,by simp[an],λx ab=>?_,λB il=>?_⟩
  · rcases List.mem_append.1 ab with ab|ab
    · exact ai x ab
    · exact p8 x ab
  · obtain⟨aS,xx,aq⟩:=af B il
    obtain⟨w,d,yJ⟩:=aU (B+rows.length) il
    have ta:aS.length=n:=by rw[<-an,<-xx,List.length_map]
    refine⟨aS++[(y,w,d)],by simp[xx],λμ h i0 eD lb Wk i ae=>?_⟩
    obtain⟨c7,fu⟩:=Ad Wk
    rw[List.length_append,List.length_singleton] at ae
    by_cases cJ:i<aS.length
    · rw[List.getElem_append_left cJ]
      exact aq μ h i0 eD lb c7 i cJ
    · obtain rfl:i=n:=by omega
      rw[List.getElem_append_right (by omega)]
      simp only[ta,Nat.sub_self,List.getElem_singleton]
      obtain⟨bb,bz⟩:=yJ μ h i0 eD lb fu
      refine⟨bb,λj v aD=>?_⟩
      obtain⟨u,hu,aB⟩:=Kx _ _ bz j v aD
      have:=World.cells?_some gG
      have vu:=(List.getElem?_eq_some_iff.1 aD).1
      exact⟨u,(this.2.2 j vu).trans hu,aB⟩
theorem KC:Tryz.prog.underlying 31=some (.slice 90):=by kernel_rfl
theorem KD{H:Type}{enc:TypeId×Value->H}{W:World}{base:Nat}{sp:Nat->Bool}{held:Bool}{fuel:Nat}{v:Value}{x:DataW H×List MemPlace}(aB:Cell.okWide Tryz.prog W .any base 31 v)(h:DataW.trod enc Tryz.prog W 0 sp held fuel 31 [v]=some x):
  ∃(l:List hn) (n:Nat) (rows:Nat->List (dL×List I×Nat)),(∀B,(rows B).length=n)/\∀B,∃u,∀(μ:a8) (g:J),ns (rows B) μ g B->(∀x∈rows B,Aj μ W x.1 x.2.1 x.2.2)/\jc g.n g u l/\a1 μ u v:=by
 have Ak:Tryz.prog.cellsOf 90=6:=by kernel_rfl
 rcases DataW.trod_slice KC h with⟨h0,_⟩|⟨a,len,cap,elems,rest,n,_,h0,_,Ic,an,hm,hlen,mQ,_,_⟩
 · cases h0
   exact⟨[],0,λ_=>[],λ_=>rfl,λB=>⟨.a0,λμ g _=>⟨by simp,.inl ⟨rfl,rfl⟩,rfl⟩⟩⟩
 cases h0
 by_cases h0:len=0
 · subst h0
   obtain⟨c,el,fz,af⟩:=VB KC aB
   refine⟨[],1,λ_=>[(⟨a.block,0,c.size⟩,[],el)],λ_=>rfl,λB=>⟨.slice B 0 0 .dead,λμ g ai=>?_⟩⟩
   obtain⟨aa,ad,ar⟩:=ai 0 _ rfl
   refine⟨λx ab=>?_,.inr ⟨B,0,.dead,rfl,ar,λi ae=>by simp at ae⟩,⟨_,aa,rfl,a,cap,rfl⟩⟩
   obtain rfl:x=(⟨a.block,0,c.size⟩,[],el):=by simpa using ab
   exact⟨c,fz,af,λj v aD=>by simp at aD,Nat.zero_add _⟩
 obtain⟨l,rows,Em,ai,aq⟩:=KB (a:=a) len λi ae=>by
  have he:=mQ i ae
  rw[List.getElem?_eq_getElem (by omega),Ak,Option.bind_eq_some_iff] at he
  obtain⟨cs,gG,aU⟩:=he
  exact⟨cs,n,_,gG,aU⟩
 obtain⟨c,el,fz,af,xt,FG⟩:∃c el fz,W.heap[a.block]? =some (.cells c el fz)/\a.spot=none/\a.off<=c.size:=by
  have he:=mQ 0 (by omega)
  rw[List.getElem?_eq_getElem (by omega),Ak,Option.bind_eq_some_iff] at he
  obtain⟨cs,gG,aU⟩:=he
  have k:=World.cells?_some gG
  obtain⟨dt,bG⟩:∃dt,W.cell? ((a.add (0*6)).add 0)=some dt:=by
   have:=k.2.2 0 (by omega)
   obtain⟨dt,Wl⟩:∃dt,cs[0]? =some dt:=⟨_,List.getElem?_eq_getElem (by have:=k.1;omega)⟩
   exact⟨dt,this.trans Wl⟩
  obtain⟨c,el,fz,af,j4,hs⟩:=Ac bG
  exact⟨c,el,fz,af,hs (by omega) rfl,by have:=(Array.getElem?_eq_some_iff.1 j4).1;omega⟩
 have key:∀B,∃aS:List (hn×I×I),∀(μ:a8) (g:J),ns ((⟨a.block,a.off,c.size-a.off⟩,eJ pH aS,el)::rows) μ g B->(∀x∈(⟨a.block,a.off,c.size-a.off⟩,eJ pH aS,el)::rows,Aj μ W x.1 x.2.1 x.2.2)/\jc g.n g (.slice B 0 len (.exact cap)) l/\a1 μ (.slice B 0 len (.exact cap)) (.slice (some a) len cap):=λB=>by
  obtain⟨aS,xx,aq⟩:=aq (B+1) B
  refine⟨aS,λμ g KE=>?_⟩
  have ta:aS.length=len:=by rw[<-Em,<-xx,List.length_map]
  obtain⟨aa,ad,ar⟩:=KE 0 _ rfl
  simp only[Nat.add_zero] at aa ad ar
  have Wm:ns rows μ g (B+1):=(Ad (r1:=[(⟨a.block,a.off,c.size-a.off⟩,eJ pH aS,el)]) (r2:=rows) (by rw[List.singleton_append];exact KE)).2
  have aq:=aq μ g _ aa ar Wm
  refine⟨λx ab=>?_,.inr ⟨_,0,.exact cap,by rw[Em],ar,λi ae=>?_⟩,⟨_,aa,?_⟩⟩
  · rcases List.mem_cons.1 ab with rfl|ab
    · refine⟨c,fz,af,λt v aB=>?_,by simp;omega⟩
      have kj:(aS.flatMap pH)[t]? =some v:=aB
      rw[y9 (w:=6) λd=>rfl] at kj
      split at kj
      · rename_i aQ
        have ae:t/6<aS.length:=Nat.div_lt_of_lt_mul (by rw[Nat.mul_comm];exact aQ)
        rw[List.getElem?_eq_getElem ae] at kj
        have Ei:(pH aS[t/6])[t %6]? =some v:=kj
        obtain⟨u,hu,Wn⟩:=(aq (t/6) ae).2 (t %6) v Ei
        obtain⟨c',p5,VI,hK,ab,_⟩:=Ac hu
        rw[af] at hK
        cases hK
        have e:a.off+t/6*6+t %6=a.off+t:=by omega
        rw[e] at ab
        exact⟨_,ab,Wn⟩
      · cases kj
    · exact Wc (ai x ab) _
  · have dY:i<aS.length:=by omega
    have p5:l[i]=aS[i].1:=by simp[<-xx]
    rw[p5]
    exact⟨_,_,Cp (enc:=pH) (w:=6) (rest:=[]) (λ_=>rfl) (by rw[List.append_nil];exact ad) dY (by omega),(aq i dY).1⟩
  · obtain⟨a5,off,spot⟩:=a
    simp only at xt
    subst xt
    rfl
 exact⟨l,rows.length+1,λB=>(⟨a.block,a.off,c.size-a.off⟩,eJ pH (key B).choose,el)::rows,λ_=>rfl,λB=>⟨.slice B 0 len (.exact cap),(key B).choose_spec⟩⟩
theorem Wo{H:Type}{enc:TypeId×Value->H}{W:World}{base:Nat}{sp:Nat->Bool}{held:Bool}{fuel:Nat}{v v':Value}{x c5:DataW H×List MemPlace}(ix:Tryz.prog.globals.size<=W.heap.size)(aB:Cell.okWide Tryz.prog W .any base 31 v)(h:DataW.trod enc Tryz.prog W 0 sp held fuel 31 [v]=some x)(kj:Cell.okWide Tryz.prog W .any base 31 v')(ak:DataW.trod enc Tryz.prog W 0 sp held fuel 31 [v']=some c5):
  ∃(l h4:List hn) (μ:a8) (g:J) (u mX:I),bc μ g W/\gp Tryz.prog μ/\rV g/\(jc g.n g u l/\a1 μ u v)/\(jc g.n g mX h4/\a1 μ mX v'):=by
 obtain⟨l,n,rows,aG,ai⟩:=KD aB h
 obtain⟨h4,gR,Wp,tx,vK⟩:=KD kj ak
 obtain⟨u,hu⟩:=ai Tryz.prog.globals.size
 obtain⟨mX,k_⟩:=vK (Tryz.prog.globals.size+n)
 obtain⟨aC,ax⟩:=Ad (VA (rows:=rows Tryz.prog.globals.size++Wp (Tryz.prog.globals.size+n)))
 rw[aG] at ax
 obtain⟨bG,bF,eH⟩:=hu _ _ aC
 obtain⟨Wq,Wr,Ws⟩:=k_ _ _ ax
 obtain⟨s1,s2,bI⟩:=Wb (P:=Tryz.prog) ix _ (λx ab=>by
  rcases List.mem_append.1 ab with ab|ab
  · exact bG x ab
  · exact Wq x ab)
 exact⟨l,h4,_,_,u,mX,s1,s2,bI,⟨bF,eH⟩,⟨Wr,Ws⟩⟩
theorem Wt:Tryz.prog.underlying 44=some (.array 2 31):=by kernel_rfl
theorem open_pair{W:World}{base:Nat}{v:Value}(aB:Value.okWide Tryz.prog W .any base 43 v):∃s bo:ByteArray,v=.agg #[.string s,.string bo]:=by
 obtain⟨cs,rfl,an,ag⟩:=GX (ts:=[9,9]) (by kernel_rfl) (by kernel_rfl) (by kernel_rfl) aB
 obtain⟨jd,c1,rfl⟩:∃jd c1,cs=[jd,c1]:=by
  match cs,an with
  |[jd,c1],_=>exact⟨jd,c1,rfl⟩
 obtain⟨s,rfl⟩:=GY uP (ag 0 jd _ rfl rfl)
 obtain⟨bo,rfl⟩:=GY uP (ag 1 c1 _ rfl rfl)
 exact⟨s,bo,rfl⟩
theorem Wu{H:Type}{enc:TypeId×Value->H}{W:World}{base:Nat}{sp:Nat->Bool}{held:Bool}{fuel:Nat}{v:Value}{x:DataW H×List MemPlace}(ix:Tryz.prog.globals.size<=W.heap.size)(aB:Value.okWide Tryz.prog W .any base 44 v)(h:DataW.trod enc Tryz.prog W 0 sp held fuel 44 v.cells.toList=some x):
  ∃(l h4:List hn) (μ:a8) (g:J) (u mX:I),bc μ g W/\gp Tryz.prog μ/\rV g/\jc g.n g u l/\jc g.n g mX h4/\a1 μ (.agg [u,mX]) v:=by
 obtain⟨cs,rfl,an,ag⟩:=GX (ts:=[31,31]) (by kernel_rfl) (by kernel_rfl) (by kernel_rfl) aB
 obtain⟨jd,c1,rfl⟩:∃jd c1,cs=[jd,c1]:=by
  match cs,an with
  |[jd,c1],_=>exact⟨jd,c1,rfl⟩
 have ak:DataW.trod enc Tryz.prog W 0 sp held fuel 44 [jd,c1]=some x:=h
 obtain⟨xs,m,_,_,_,gH,hf⟩:=DataW.trod_array Wt ak
 have xw:=hf 0 (by omega)
 have aR:=hf 1 (by omega)
 rw[List.getElem?_eq_getElem (by omega),(by kernel_rfl:Tryz.prog.cellsOf 31=1)] at xw aR
 obtain⟨l,h4,μ,g,u,mX,s1,s2,bI,⟨cY,dr⟩,⟨a4,a_⟩⟩:=Wo ix (ag 0 jd _ rfl rfl) xw (ag 1 c1 _ rfl rfl) aR
 exact⟨l,h4,μ,g,u,mX,s1,s2,bI,cY,a4,⟨_,rfl,_,_,rfl,dr,_,_,rfl,a_,rfl⟩⟩
end Go.Proofs.cn
