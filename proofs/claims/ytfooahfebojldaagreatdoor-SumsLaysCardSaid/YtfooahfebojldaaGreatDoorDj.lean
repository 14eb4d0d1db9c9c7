/-
  PROVED HERE: contracts of functions (Dj). No condition beside each statement's own.
-/
import Derived.Test.YtfooahfebojldaaGreatDoorDi
import Derived.Test.YtfooahfebojldaaGreatDoorDh
import Derived.Test.YtfooahfebojldaaGreatDoorTx
import Derived.Test.YtfooahfebojldaaGreatDoorSxb
set_option linter.unusedVariables false
set_option linter.unusedSimpArgs false
namespace Go.Proofs.eN
open Go aD Go.Proofs dE Go.Proofs.cR
set_option maxRecDepth 100000
set_option maxHeartbeats 1000000
theorem Yp(m:Nat)(n:List UInt8)(rM:List UInt8)(w:I)(ww:I)(h:J){R:an->Prop}(H:I.bY w=true/\I.bY ww=true/\∃s1:List UInt8,aq (J.push (J.push h (.cells [.str n,w] 53 .own 0 0)) (.cells [.str rM,ww] 53 .own 0 0)) h.n (0+0)=some (.str s1)/\∃s2:List UInt8,aq (J.push (J.push h (.cells [.str n,w] 53 .own 0 0)) (.cells [.str rM,ww] 53 .own 0 0)) (J.n (J.push h (.cells [.str n,w] 53 .own 0 0))) (0+0)=some (.str s2)/\(cg s1 s2=true->∃v1:I,aq (J.push (J.push h (.cells [.str n,w] 53 .own 0 0)) (.cells [.str rM,ww] 53 .own 0 0)) h.n (0+1)=some v1/\∃v2:I,aq (J.push (J.push h (.cells [.str n,w] 53 .own 0 0)) (.cells [.str rM,ww] 53 .own 0 0)) (J.n (J.push h (.cells [.str n,w] 53 .own 0 0))) (0+1)=some v2/\∃a8:Bool,∃ao:J,(Y m) (.fn 48) [v1,v2] (J.push (J.push h (.cells [.str n,w] 53 .own 0 0)) (.cells [.str rM,ww] 53 .own 0 0))=.ret (.bool a8) ao/\R (.ret (.bool a8) ao))/\(cg s1 s2=false->R (.ret (.bool false) (J.push (J.push h (.cells [.str n,w] 53 .own 0 0)) (.cells [.str rM,ww] 53 .own 0 0))))):
  R (Y (m+1) (.fn 47) [.agg [.str n,w],.agg [.str rM,ww]] h):=
 dF (intr:=bT) [(12,.b2 .o),(14,.b2 .o)] [(0,.eD [.v (.str n),.o w]),(1,.eD [.v (.str rM),.o ww])] Tryz.func47 (by kernel_rfl) (by kernel_rfl) (by kernel_rfl) rfl (Eq.mp (by kernel_rfl) H)
theorem Yq(m:Nat)(v:I)(w:I)(h:J){R:an->Prop}(H:∃aQ:Nat,bU Tryz.prog h 22 v=some (.int .i64 (.ofNat aQ))/\∃bI:Nat,bU Tryz.prog h 22 w=some (.int .i64 (.ofNat bI))/\(aQ=bI->∃cr:Nat,bU Tryz.prog h 22 v=some (.int .i64 (.ofNat cr))/\bw Tryz.prog Tryz.f49 (Y m) [1,1,0,1,0] (ag.mk [(1,w),(2,.fn 47 [] []),(15,v),(16,.int .i64 (.ofNat cr)),(17,.int .i64 (.ofNat 0))] [] .none h) (λcG cH=>((∃ao:J,∃bp:Env,cG=.exit 0/\cH=ag.mk bp [] .none ao/\cC [] bp/\R (.ret (.bool true) ao))\/(∃ar:J,∃bB:Env,cG=.ret/\cH=ag.mk bB [] .none ar/\cC [(6,.bool false)] bB/\R (.ret (.bool false) ar)))))/\(¬aQ=bI->R (.ret (.bool false) h))):
  R (Y (m+1) (.fn 49) [v,w,.fn 47 [] []] h):=
 dF (intr:=bT) [(4000,.ik [1,2,15,16,17] [(.exit 0,[]),(.ret,[(6,.is (.bool false))])])] [(0,.o v),(1,.o w),(2,.v (.fn 47 [] []))] Tryz.func49 (by kernel_rfl) (by kernel_rfl) (by kernel_rfl) rfl (Eq.mp (by kernel_rfl) H)
theorem Yr(call:ay->List I->J->an)(a8:Nat)(cq:Nat)(N:Nat)(aI:Nat)(eo:Nat)(M:Nat)(i:Nat)(c1:b5)(c2:b5)(h:J){Q:bF->ag->Prop}(H:i<N/\i<N/\∃s1:List UInt8,∃v1:I,aD.loadCells h a8 (cq+i*2) 2=some [.str s1,v1]/\I.bY v1=true/\∃ao:J,aD.storeCells (J.push h (.cells [.str [],.aR] 53 .own 0 0)) h.n 0 [.str s1,v1]=some ao/\i<M/\∃s2:List UInt8,∃v2:I,aD.loadCells ao aI (eo+i*2) 2=some [.str s2,v2]/\I.bY v2=true/\∃ar:J,aD.storeCells (J.push ao (.cells [.str [],.aR] 53 .own 0 0)) ao.n 0 [.str s2,v2]=some ar/\∃bE:List UInt8,∃cX:I,aD.loadCells ar h.n 0 2=some [.str bE,cX]/\∃bX:List UInt8,∃v4:I,aD.loadCells ar ao.n 0 2=some [.str bX,v4]/\∃cK:Bool,∃aZ:J,call (.fn 47) [.agg [.str bE,cX],.agg [.str bX,v4]] ar=.ret (.bool cK) aZ/\(cK=true->i+1<9223372036854775808/\Q .nrm (ag.mk [(1,.slice aI eo M c2),(2,.fn 47 [] []),(15,.slice a8 cq N c1),(16,.int .i64 (.ofNat N)),(17,.int .i64 (.ofNat (i+1)))] [] .none aZ))/\(cK=false->Q .ret (ag.mk [(1,.slice aI eo M c2),(2,.fn 47 [] []),(6,.bool false),(15,.slice a8 cq N c1),(16,.int .i64 (.ofNat N)),(17,.int .i64 (.ofNat i))] [] .none aZ))):
  bw Tryz.prog Tryz.f49 call [1,1,0,1,0,0] ⟨[(1,.slice aI eo M c2),(2,.fn 47 [] []),(15,.slice a8 cq N c1),(16,.int .i64 (.ofNat N)),(17,.int .i64 (.ofNat i))],[],.none,h⟩ Q:=
 e6 [(1018,.t),(21,.b2 (.eD [.st,.o])),(25,.b2 (.eD [.st,.o])),(27,.b2 (.eD [.st,.o])),(28,.b2 (.eD [.st,.o])),(29,.b2 .b)] [1,2,6,15,16,17] [(1,.v (.slice aI eo M c2)),(2,.v (.fn 47 [] [])),(15,.v (.slice a8 cq N c1)),(16,.v (.int .i64 (.ofNat N))),(17,.v (.int .i64 (.ofNat i)))] rfl (Eq.mp (by kernel_rfl) H)
theorem Ys(call:ay->List I->J->an)(N:Nat)(i:Nat)(v:I)(w:I)(h:J){Q:bF->ag->Prop}(H:¬i<N/\Q (.exit 0) (ag.mk [] [] .none h)):
  bw Tryz.prog Tryz.f49 call [1,1,0,1,0,0] ⟨[(1,w),(2,.fn 47 [] []),(15,v),(16,.int .i64 (.ofNat N)),(17,.int .i64 (.ofNat i))],[],.none,h⟩ Q:=
 e6 [(1018,.f)] [] [(1,.o w),(2,.v (.fn 47 [] [])),(15,.o v),(16,.v (.int .i64 (.ofNat N))),(17,.v (.int .i64 (.ofNat i)))] rfl (Eq.mp (by kernel_rfl) H)
theorem Yt(m:Nat)(v:I)(w:I)(h:J){R:an->Prop}(H:∃aQ:Nat,bU Tryz.prog h 22 v=some (.int .i64 (.ofNat aQ))/\∃bI:Nat,bU Tryz.prog h 22 w=some (.int .i64 (.ofNat bI))/\(aQ=bI->bw Tryz.prog Tryz.f35 (Y m) [1,1,0,1,0] (ag.mk [(0,v),(1,w),(5,.int .i64 (.ofNat 0))] [] .none h) (λcG cH=>((∃ao:J,∃bp:Env,cG=.exit 0/\cH=ag.mk bp [] .none ao/\cC [] bp/\R (.ret (.bool true) ao))\/(∃ar:J,∃bB:Env,cG=.ret/\cH=ag.mk bB [] .none ar/\cC [(4,.bool false)] bB/\R (.ret (.bool false) ar)))))/\(¬aQ=bI->R (.ret (.bool false) h))):
  R (Y (m+1) (.fn 35) [v,w] h):=
 dF (intr:=bT) [(4000,.ik [0,1,5] [(.exit 0,[]),(.ret,[(4,.is (.bool false))])])] [(0,.o v),(1,.o w)] Tryz.func35 (by kernel_rfl) (by kernel_rfl) (by kernel_rfl) rfl (Eq.mp (by kernel_rfl) H)
theorem Yu(call:ay->List I->J->an)(a8:Nat)(cq:Nat)(N:Nat)(aI:Nat)(eo:Nat)(M:Nat)(i:Nat)(c1:b5)(c2:b5)(h:J){Q:bF->ag->Prop}(H:i<N/\i<N/\∃s1:List UInt8,aq (h.room 25) a8 (cq+i*2+0)=some (.str s1)/\i<M/\∃s2:List UInt8,aq (h.room 25) aI (eo+i*2+0)=some (.str s2)/\((!cg s1 s2)=true->Q .ret (ag.mk [(0,.slice a8 cq N c1),(1,.slice aI eo M c2),(4,.bool false),(5,.int .i64 (.ofNat i))] [] .none (h.room 25)))/\((!cg s1 s2)=false->i<N/\∃v1:I,aq (h.room 25) a8 (cq+i*2+1)=some v1/\i<M/\∃v2:I,aq (h.room 25) aI (eo+i*2+1)=some v2/\∃cK:Bool,∃ao:J,call (.fn 62) [v1,v2] (h.room 25)=.ret (.bool cK) ao/\I.sound v1=true/\I.sound v2=true/\(cK=true->i+1<9223372036854775808/\Q .nrm (ag.mk [(0,.slice a8 cq N c1),(1,.slice aI eo M c2),(5,.int .i64 (.ofNat (i+1)))] [] .none ao))/\(cK=false->Q .ret (ag.mk [(0,.slice a8 cq N c1),(1,.slice aI eo M c2),(4,.bool false),(5,.int .i64 (.ofNat i))] [] .none ao)))):
  bw Tryz.prog Tryz.f35 call [1,1,0,1,0,0] ⟨[(0,.slice a8 cq N c1),(1,.slice aI eo M c2),(5,.int .i64 (.ofNat i))],[],.none,h⟩ Q:=
 e6 [(1014,.t),(33,.b2 .o),(38,.b2 .o)] [0,1,4,5] [(0,.v (.slice a8 cq N c1)),(1,.v (.slice aI eo M c2)),(5,.v (.int .i64 (.ofNat i)))] rfl (Eq.mp (by kernel_rfl) H)
theorem Yv(call:ay->List I->J->an)(i:Nat)(v:I)(w:I)(h:J){Q:bF->ag->Prop}(H:∃aQ:Nat,bU Tryz.prog h 22 v=some (.int .i64 (.ofNat aQ))/\¬i<aQ/\Q (.exit 0) (ag.mk [] [] .none h)):
  bw Tryz.prog Tryz.f35 call [1,1,0,1,0,0] ⟨[(0,v),(1,w),(5,.int .i64 (.ofNat i))],[],.none,h⟩ Q:=
 e6 [(1014,.f)] [] [(0,.o v),(1,.o w),(5,.v (.int .i64 (.ofNat i)))] rfl (Eq.mp (by kernel_rfl) H)
theorem Yw(m:Nat)(p:List UInt8)(pp:List UInt8)(cA:Bool)(da:Bool)(vv:I)(bu:I)(hc:I)(ut:I)(h:J){R:an->Prop}(H:I.bY vv=true/\I.bY bu=true/\I.bY hc=true/\I.bY ut=true/\∃s1:List UInt8,aq (J.push (J.push h (.cells [.str p,.bool cA,vv,bu] 24 .own 0 0)) (.cells [.str pp,.bool da,hc,ut] 24 .own 0 0)) h.n (0+0)=some (.str s1)/\∃s2:List UInt8,aq (J.push (J.push h (.cells [.str p,.bool cA,vv,bu] 24 .own 0 0)) (.cells [.str pp,.bool da,hc,ut] 24 .own 0 0)) (J.n (J.push h (.cells [.str p,.bool cA,vv,bu] 24 .own 0 0))) (0+0)=some (.str s2)/\(cg s1 s2=true->∃a8:Bool,aq (J.push (J.push h (.cells [.str p,.bool cA,vv,bu] 24 .own 0 0)) (.cells [.str pp,.bool da,hc,ut] 24 .own 0 0)) h.n (0+1)=some (.bool a8)/\∃aI:Bool,aq (J.push (J.push h (.cells [.str p,.bool cA,vv,bu] 24 .own 0 0)) (.cells [.str pp,.bool da,hc,ut] 24 .own 0 0)) (J.n (J.push h (.cells [.str p,.bool cA,vv,bu] 24 .own 0 0))) (0+1)=some (.bool aI)/\(ei a8 aI=true->∃v1:I,aq (J.push (J.push h (.cells [.str p,.bool cA,vv,bu] 24 .own 0 0)) (.cells [.str pp,.bool da,hc,ut] 24 .own 0 0)) h.n (0+2)=some v1/\∃v2:I,aq (J.push (J.push h (.cells [.str p,.bool cA,vv,bu] 24 .own 0 0)) (.cells [.str pp,.bool da,hc,ut] 24 .own 0 0)) (J.n (J.push h (.cells [.str p,.bool cA,vv,bu] 24 .own 0 0))) (0+2)=some v2/\∃cK:Bool,∃ao:J,(Y m) (.fn 49) [v1,v2,.fn 47 [] []] (J.push (J.push h (.cells [.str p,.bool cA,vv,bu] 24 .own 0 0)) (.cells [.str pp,.bool da,hc,ut] 24 .own 0 0))=.ret (.bool cK) ao/\(cK=true->∃cX:I,aq ao h.n (0+3)=some cX/\∃v4:I,aq ao (J.n (J.push h (.cells [.str p,.bool cA,vv,bu] 24 .own 0 0))) (0+3)=some v4/\∃jv:Bool,∃ar:J,(Y m) (.fn 49) [cX,v4,.fn 47 [] []] ao=.ret (.bool jv) ar/\R (.ret (.bool jv) ar))/\(cK=false->R (.ret (.bool false) ao)))/\(ei a8 aI=false->R (.ret (.bool false) (J.push (J.push h (.cells [.str p,.bool cA,vv,bu] 24 .own 0 0)) (.cells [.str pp,.bool da,hc,ut] 24 .own 0 0)))))/\(cg s1 s2=false->R (.ret (.bool false) (J.push (J.push h (.cells [.str p,.bool cA,vv,bu] 24 .own 0 0)) (.cells [.str pp,.bool da,hc,ut] 24 .own 0 0))))):
  R (Y (m+1) (.fn 19) [.agg [.str p,.bool cA,vv,bu],.agg [.str pp,.bool da,hc,ut]] h):=
 dF (intr:=bT) [] [(0,.eD [.v (.str p),.v (.bool cA),.o vv,.o bu]),(1,.eD [.v (.str pp),.v (.bool da),.o hc,.o ut])] Tryz.func19 (by kernel_rfl) (by kernel_rfl) (by kernel_rfl) rfl (Eq.mp (by kernel_rfl) H)
theorem Yx(m:Nat)(p:List UInt8)(pp:List UInt8)(cA:Bool)(da:Bool)(vv:I)(bu:I)(hc:I)(ut:I)(h:J){R:an->Prop}(H:I.bY vv=true/\I.bY bu=true/\I.bY hc=true/\I.bY ut=true/\∃s1:List UInt8,aq (J.push (J.push h (.cells [.str p,.bool cA,vv,bu] 24 .own 0 0)) (.cells [.str pp,.bool da,hc,ut] 24 .own 0 0)) h.n (0+0)=some (.str s1)/\∃s2:List UInt8,aq (J.push (J.push h (.cells [.str p,.bool cA,vv,bu] 24 .own 0 0)) (.cells [.str pp,.bool da,hc,ut] 24 .own 0 0)) (J.n (J.push h (.cells [.str p,.bool cA,vv,bu] 24 .own 0 0))) (0+0)=some (.str s2)/\(cg s1 s2=true->∃a8:Bool,aq (J.push (J.push h (.cells [.str p,.bool cA,vv,bu] 24 .own 0 0)) (.cells [.str pp,.bool da,hc,ut] 24 .own 0 0)) h.n (0+1)=some (.bool a8)/\∃aI:Bool,aq (J.push (J.push h (.cells [.str p,.bool cA,vv,bu] 24 .own 0 0)) (.cells [.str pp,.bool da,hc,ut] 24 .own 0 0)) (J.n (J.push h (.cells [.str p,.bool cA,vv,bu] 24 .own 0 0))) (0+1)=some (.bool aI)/\(ei a8 aI=true->∃v1:I,aq (J.push (J.push h (.cells [.str p,.bool cA,vv,bu] 24 .own 0 0)) (.cells [.str pp,.bool da,hc,ut] 24 .own 0 0)) h.n (0+2)=some v1/\∃v2:I,aq (J.push (J.push h (.cells [.str p,.bool cA,vv,bu] 24 .own 0 0)) (.cells [.str pp,.bool da,hc,ut] 24 .own 0 0)) (J.n (J.push h (.cells [.str p,.bool cA,vv,bu] 24 .own 0 0))) (0+2)=some v2/\∃cK:Bool,∃ao:J,(Y m) (.fn 35) [v1,v2] (J.push (J.push h (.cells [.str p,.bool cA,vv,bu] 24 .own 0 0)) (.cells [.str pp,.bool da,hc,ut] 24 .own 0 0))=.ret (.bool cK) ao/\(cK=true->∃cX:I,aq ao h.n (0+3)=some cX/\∃v4:I,aq ao (J.n (J.push h (.cells [.str p,.bool cA,vv,bu] 24 .own 0 0))) (0+3)=some v4/\∃jv:Bool,∃ar:J,(Y m) (.fn 35) [cX,v4] ao=.ret (.bool jv) ar/\R (.ret (.bool jv) ar))/\(cK=false->R (.ret (.bool false) ao)))/\(ei a8 aI=false->R (.ret (.bool false) (J.push (J.push h (.cells [.str p,.bool cA,vv,bu] 24 .own 0 0)) (.cells [.str pp,.bool da,hc,ut] 24 .own 0 0)))))/\(cg s1 s2=false->R (.ret (.bool false) (J.push (J.push h (.cells [.str p,.bool cA,vv,bu] 24 .own 0 0)) (.cells [.str pp,.bool da,hc,ut] 24 .own 0 0))))):
  R (Y (m+1) (.fn 11) [.agg [.str p,.bool cA,vv,bu],.agg [.str pp,.bool da,hc,ut]] h):=
 dF (intr:=bT) [] [(0,.eD [.v (.str p),.v (.bool cA),.o vv,.o bu]),(1,.eD [.v (.str pp),.v (.bool da),.o hc,.o ut])] Tryz.func11 (by kernel_rfl) (by kernel_rfl) (by kernel_rfl) rfl (Eq.mp (by kernel_rfl) H)
def mN:List f_->List f_->Bool
 |[],[]=>true
 |a::l,b::k=>cg a.1 b.1&&(jY a.2 b.2&&mN l k)
 |_,_=>false
def pj(a b:j5):Bool:=cg a.path b.path&&((a.dz==b.dz)&&(mN a.kN b.kN&&mN a.lf b.lf))
theorem Fp:∀(l k:List f_),l.length≠k.length->mN l k=false
 |[],[],h=>absurd rfl h
 |[],_::_,_=>rfl
 |_::_,[],_=>rfl
 |a::l,b::k,h=>by rw[mN,Fp l k (by simpa using h)];simp
theorem Yy(m:Nat){B:Nat}{h:J}{a b:f_}{w w':I}(hm:310<=m)(bO:B<=h.n)(a2:cE B h a.2 w)(af:cE B h b.2 w')(eF:fit a.2)(yc:fit b.2):bK B h (.bool (cg a.1 b.1&&jY a.2 b.2)) (Y (m+1) (.fn 47) [.agg [.str a.1,w],.agg [.str b.1,w']] h):=by
 obtain⟨du,eL⟩:∃p,p=h.push (.cells [.str a.1,w] 53 .own 0 0):=⟨_,rfl⟩
 obtain⟨dp,et⟩:∃p,p=du.push (.cells [.str b.1,w'] 53 .own 0 0):=⟨_,rfl⟩
 have aQ:du.n=h.n+1:=by rw[eL];rfl
 have bz:Ext h.n h dp:=by rw[et];exact(by rw[eL];exact Ext.push (Nat.le_refl _) _:Ext h.n h du).mo (by omega)
 have aV:dp.get h.n=some (.cells [.str a.1,w] 53 .own 0 0):=by rw[et,J.eA,if_neg (by omega),eL];exact fp rfl
 have aN:dp.get (h.n+1)=some (.cells [.str b.1,w'] 53 .own 0 0):=by rw[et];exact fp aQ.symm
 have e5:Ext B h dp:=bz.le bO
 have b0:=dT.ext e5 (Nat.le_refl _)
 have aa:=eF.1
 have ad:=yc.1
 obtain⟨g,c,fy⟩:=Tl (m-1) (oa:=a.2) (ob:=b.2) (B:=B) (h:=dp) (v:=w) (w:=w') (by omega) (by omega) eF.2 (Nat.le_trans bO e5.n) (by omega) (cE.bH b0 _ _ a2) (cE.bH b0 _ _ af)
 rw[show m-1+1=m by omega] at c
 refine Yp m a.1 b.1 w w' h ⟨od a2,od af,?_⟩
 rw[<-eL,<-et,aQ]
 exact⟨_,aH aV rfl,_,aH aN rfl,λe=>⟨_,aH aV rfl,_,aH aN rfl,_,g,c,bK.of (dK (by rw[e];rfl)) (e5.trans (Nat.le_refl _) fy)⟩,λe=>bK.of (dK (by rw[e];rfl)) e5⟩
theorem LJ(m:Nat){B:Nat}{h:J}{v w:I}{l k:List f_}(hm:320<=m)(bO:B<=h.n)(aE:h_ B h v l)(hw:h_ B h w k)(hlen:l.length<=90000)(eF:∀e∈l,fit e.2)(yc:∀e∈k,fit e.2):
  bK B h (.bool (mN l k)) (Y (m+1) (.fn 49) [v,w,.fn 47 [] []] h):=by
 refine Yq m v w h ⟨_,aE.len h,_,hw.len h,λe=>⟨_,aE.len h,?_⟩,λe=>bK.of (dK (Fp l k e)) (Ext.refl _ _)⟩
 refine bw.loop (by kernel_rfl) (λt st=>∃i y Γ,st=⟨Γ,[],.none,y⟩/\cC [(1,w),(2,.fn 47 [] []),(15,v),(16,.int .i64 (Int.ofNat l.length)),(17,.int .i64 (Int.ofNat i))] Γ/\l.length-i=t/\i<=l.length/\Ext B h y/\mN l k=mN (l.drop i) (k.drop i)) ?_ l.length _ (by omega) ⟨0,h,_,rfl,⟨rfl,rfl,rfl,rfl,rfl,trivial⟩,by omega,by omega,Ext.refl _ _,rfl⟩
 rintro t st ⟨i,y,Γ,rfl,dd,a6,ae,ec,bq⟩
 by_cases aa:i<l.length
 · have fm:i<k.length:=by omega
   rcases aE with⟨_,rfl⟩|⟨a8,cq,c1,rfl,eJ,fI,eL,Yz⟩
   · simp at aa
   rcases hw with⟨_,rfl⟩|⟨aI,eo,c2,rfl,di,h4,et,Cp⟩
   · simp at fm
   have mE:=Nat.le_trans bO ec.n
   obtain⟨x,ab,vo⟩:=ql eJ fI ec aa
   obtain⟨g,aj⟩:∃g,g=(y.push (.cells [.str [],.aR] 53 .own 0 0)).set y.n (some (.cells [.str l[i].1,x] 53 .own 0 0)):=⟨_,rfl⟩
   have ct:aD.storeCells (y.push (.cells [.str [],.aR] 53 .own 0 0)) y.n 0 [.str l[i].1,x]=some g:=by
    rw[aj];exact iG (fp rfl) rfl (A2 (a:=[]) (od vo))
   have rK:g.get y.n=some (.cells [.str l[i].1,x] 53 .own 0 0):=by rw[aj];exact iF rfl
   have aaA:g.n=y.n+1:=by rw[aj];rfl
   have fy:Ext y.n y g:=by rw[aj];exact(Ext.push (Nat.le_refl _) _).hA (Nat.le_refl _)
   have fx:Ext B h g:=ec.trans (Nat.le_refl _) (fy.le mE)
   obtain⟨cW,rq,vp⟩:=ql di h4 fx fm
   obtain⟨ar,o8⟩:∃ar,ar=(g.push (.cells [.str [],.aR] 53 .own 0 0)).set g.n (some (.cells [.str k[i].1,cW] 53 .own 0 0)):=⟨_,rfl⟩
   have YA:aD.storeCells (g.push (.cells [.str [],.aR] 53 .own 0 0)) g.n 0 [.str k[i].1,cW]=some ar:=by
    rw[o8];exact iG (fp rfl) rfl (A2 (a:=[]) (od vp))
   have x0:ar.get g.n=some (.cells [.str k[i].1,cW] 53 .own 0 0):=by rw[o8];exact iF rfl
   have pa:Ext g.n g ar:=by rw[o8];exact(Ext.push (Nat.le_refl _) _).hA (Nat.le_refl _)
   have YB:=(pa.get y.n (by omega)).trans rK
   have rL:Ext B h ar:=fx.trans (Nat.le_refl _) (pa.le (Nat.le_trans bO fx.n))
   have YC:Ext B y ar:=(fy.le mE).trans (Nat.le_refl _) (pa.le (Nat.le_trans bO fx.n))
   obtain⟨aZ,c3,db⟩:=Yy (m-1) (B:=B) (h:=ar) (a:=l[i]) (b:=k[i]) (w:=x) (w':=cW) (by omega) (Nat.le_trans bO rL.n) (cE.bH (dT.ext YC (Nat.le_refl _)) _ _ vo) (cE.bH (dT.ext (pa.le (Nat.le_trans bO fx.n)) (Nat.le_refl _)) _ _ vp) (eF _ (List.getElem_mem aa)) (yc _ (List.getElem_mem fm))
   rw[show m-1+1=m by omega] at c3
   have bN:=rL.trans (Nat.le_refl _) db
   rw[List.drop_eq_getElem_cons aa,List.drop_eq_getElem_cons fm,mN,<-Bool.and_assoc] at bq
   refine bw.pre (Yr (Y m) a8 cq _ aI eo _ i c1 c2 y ⟨aa,aa,_,x,ab,od vo,g,ct,fm,_,cW,rq,od vp,ar,YA,_,_,kD YB rfl,_,_,kD x0 rfl,_,aZ,c3,λah=>⟨by omega,?_⟩,λah=>?_⟩) dd rfl rfl rfl
   rotate_left
   · have:(cg l[i].1 k[i].1&&jY l[i].2 k[i].2)=false:=ah
     exact .inr ⟨aZ,_,rfl,rfl,⟨rfl,trivial⟩,bK.of (dK (by rw[bq,this];rfl)) bN⟩
   · have:(cg l[i].1 k[i].1&&jY l[i].2 k[i].2)=true:=ah
     exact⟨_,(by show l.length-(i+1)<t;omega),i+1,aZ,_,rfl,⟨rfl,rfl,rfl,rfl,rfl,trivial⟩,rfl,by omega,bN,by rw[bq,this];rfl⟩
 · refine bw.pre (Ys (Y m) l.length i v w y ⟨aa,.inl ⟨y,_,rfl,rfl,trivial,bK.of (dK ?_) ec⟩⟩) dd rfl rfl rfl
   rw[bq,List.drop_of_length_le (by omega),List.drop_of_length_le (by omega)];rfl
theorem LK(m:Nat){B:Nat}{h:J}{v w:I}{l k:List f_}(hm:320<=m)(bO:B<=h.n)(aE:h_ B h v l)(hw:h_ B h w k)(hlen:l.length<=90000)(eF:∀e∈l,fit e.2)(yc:∀e∈k,fit e.2):
  bK B h (.bool (mN l k)) (Y (m+1) (.fn 35) [v,w] h):=by
 refine Yt m v w h ⟨_,aE.len h,_,hw.len h,λe=>?_,λe=>bK.of (dK (Fp l k e)) (Ext.refl _ _)⟩
 refine bw.loop (by kernel_rfl) (λt st=>∃i y Γ,st=⟨Γ,[],.none,y⟩/\cC [(0,v),(1,w),(5,.int .i64 (Int.ofNat i))] Γ/\l.length-i=t/\i<=l.length/\Ext B h y/\mN l k=mN (l.drop i) (k.drop i)) ?_ l.length _ (by omega) ⟨0,h,_,rfl,⟨rfl,rfl,rfl,trivial⟩,by omega,by omega,Ext.refl _ _,rfl⟩
 rintro t st ⟨i,y,Γ,rfl,dd,a6,ae,ec,bq⟩
 by_cases aa:i<l.length
 · have fm:i<k.length:=by omega
   rcases aE with⟨_,rfl⟩|⟨a8,cq,c1,rfl,eJ,fI,eL,Yz⟩
   · simp at aa
   rcases hw with⟨_,rfl⟩|⟨aI,eo,c2,rfl,di,h4,et,Cp⟩
   · simp at fm
   have j4:Ext B h (y.room 25):=ec.trans (Nat.le_refl _) (Ext.room B y 25)
   obtain⟨x,ab,vo⟩:=ql eJ fI j4 aa
   obtain⟨cW,rq,vp⟩:=ql di h4 j4 fm
   obtain⟨d1,d2⟩:=ya ab
   obtain⟨d3,d4⟩:=ya rq
   have f1:=eF _ (List.getElem_mem aa)
   have f2:=yc _ (List.getElem_mem fm)
   have f3:=f1.1
   have f4:=f2.1
   obtain⟨aZ,c3,db⟩:=Tm (m-1) (oa:=l[i].2) (ob:=k[i].2) (B:=B) (h:=y.room 25) (v:=x) (w:=cW) (by omega) (by omega) f1.2 (by omega) vo vp
   rw[show m-1+1=m by omega] at c3
   have bN:=j4.trans (Nat.le_refl _) db
   rw[List.drop_eq_getElem_cons aa,List.drop_eq_getElem_cons fm,mN] at bq
   refine bw.pre (Yu (Y m) a8 cq _ aI eo _ i c1 c2 y ⟨aa,aa,_,d1,fm,_,d3,λaf=>?_,λaf=>⟨aa,x,d2,fm,cW,d4,_,aZ,c3,vo.snd,vp.snd,λah=>⟨by omega,?_⟩,λah=>?_⟩⟩) dd rfl rfl rfl
   · have:cg l[i].1 k[i].1=false:=by simpa using af
     exact .inr ⟨_,_,rfl,rfl,⟨rfl,trivial⟩,bK.of (dK (by rw[bq,this];rfl)) j4⟩
   · have ax:cg l[i].1 k[i].1=true:=by simpa using af
     have aO:jY l[i].2 k[i].2=true:=by simpa using ah
     exact⟨_,(by show l.length-(i+1)<t;omega),i+1,aZ,_,rfl,⟨rfl,rfl,rfl,trivial⟩,rfl,by omega,bN,by rw[bq,ax,aO];rfl⟩
   · have:jY l[i].2 k[i].2=false:=by simpa using ah
     exact .inr ⟨aZ,_,rfl,rfl,⟨rfl,trivial⟩,bK.of (dK (by rw[bq,this];simp)) bN⟩
 · refine bw.pre (Yv (Y m) i v w y ⟨_,aE.len y,aa,.inl ⟨y,_,rfl,rfl,trivial,bK.of (dK ?_) ec⟩⟩) dd rfl rfl rfl
   rw[bq,List.drop_of_length_le (by omega),List.drop_of_length_le (by omega)];rfl
theorem LL(m:Nat){B:Nat}{h:J}{vv bu og oh:I}{x cW:j5}(hm:330<=m)(bO:B<=h.n)(hs:je B h vv bu x)(dx:je B h og oh cW)(hf:ns x)(yd:ns cW):bK B h (.bool (pj x cW)) (Y (m+1) (.fn 19) [.agg [.str x.path,.bool x.dz,vv,bu],.agg [.str cW.path,.bool cW.dz,og,oh]] h):=by
 obtain⟨du,eL⟩:∃p,p=h.push (gX x.path x.dz vv bu):=⟨_,rfl⟩
 obtain⟨dp,et⟩:∃p,p=du.push (gX cW.path cW.dz og oh):=⟨_,rfl⟩
 have aQ:du.n=h.n+1:=by rw[eL];rfl
 have bI:dp.n=h.n+2:=by rw[et];show du.n+1=_;omega
 have bz:Ext h.n h dp:=by rw[et];exact(by rw[eL];exact Ext.push (Nat.le_refl _) _:Ext h.n h du).mo (by omega)
 have aV:dp.get h.n=some (gX x.path x.dz vv bu):=by rw[et,J.eA,if_neg (by omega),eL];exact fp rfl
 have aN:dp.get (h.n+1)=some (gX cW.path cW.dz og oh):=by rw[et];exact fp aQ.symm
 have e5:Ext B h dp:=bz.le bO
 have lg:=Nat.le_trans bO bz.n
 have s2:=(hs.bH e5).le lg
 have ye:=(dx.bH e5).le lg
 obtain⟨ao,c1,aA⟩:=LJ (m-1) (B:=dp.n) (h:=dp) (by omega) (Nat.le_refl _) s2.v ye.v hf.dv hf.j9 yd.j9
 rw[show m-1+1=m by omega] at c1
 obtain⟨ar,c2,aC⟩:=LJ (m-1) (B:=dp.n) (h:=ao) (by omega) aA.n (s2.bH aA).t (ye.bH aA).t hf.lt hf.tD yd.tD
 rw[show m-1+1=m by omega] at c2
 have bb:=(aA.get h.n (by omega)).trans aV
 have a3:=(aA.get (h.n+1) (by omega)).trans aN
 have dP:Ext B h ao:=e5.trans (Nat.le_refl _) (aA.le lg)
 have fR:Ext B h ar:=dP.trans (Nat.le_refl _) (aC.le lg)
 refine Yw m x.path cW.path x.dz cW.dz vv bu og oh h ⟨hs.v.cell,hs.t.cell,dx.v.cell,dx.t.cell,?_⟩
 rw[<-eL,<-et,aQ]
 exact⟨_,aH aV rfl,_,aH aN rfl,λaa=>⟨_,aH aV rfl,_,aH aN rfl,λad=>⟨_,aH aV rfl,_,aH aN rfl,_,ao,c1,λax=>⟨_,aH bb rfl,_,aH a3 rfl,_,ar,c2,bK.of (dK (by unfold pj;rw[aa,show(x.dz==cW.dz)=true from ad,ax];rfl)) fR⟩,λax=>bK.of (dK (by unfold pj;rw[aa,show(x.dz==cW.dz)=true from ad,ax];rfl)) dP⟩,λad=>bK.of (dK (by unfold pj;rw[aa,show(x.dz==cW.dz)=false from ad];rfl)) e5⟩,λaa=>bK.of (dK (by unfold pj;rw[aa];rfl)) e5⟩
theorem LM(m:Nat){B:Nat}{h:J}{vv bu og oh:I}{x cW:j5}(hm:330<=m)(bO:B<=h.n)(hs:je B h vv bu x)(dx:je B h og oh cW)(hf:ns x)(yd:ns cW):bK B h (.bool (pj x cW)) (Y (m+1) (.fn 11) [.agg [.str x.path,.bool x.dz,vv,bu],.agg [.str cW.path,.bool cW.dz,og,oh]] h):=by
 obtain⟨du,eL⟩:∃p,p=h.push (gX x.path x.dz vv bu):=⟨_,rfl⟩
 obtain⟨dp,et⟩:∃p,p=du.push (gX cW.path cW.dz og oh):=⟨_,rfl⟩
 have aQ:du.n=h.n+1:=by rw[eL];rfl
 have bI:dp.n=h.n+2:=by rw[et];show du.n+1=_;omega
 have bz:Ext h.n h dp:=by rw[et];exact(by rw[eL];exact Ext.push (Nat.le_refl _) _:Ext h.n h du).mo (by omega)
 have aV:dp.get h.n=some (gX x.path x.dz vv bu):=by rw[et,J.eA,if_neg (by omega),eL];exact fp rfl
 have aN:dp.get (h.n+1)=some (gX cW.path cW.dz og oh):=by rw[et];exact fp aQ.symm
 have e5:Ext B h dp:=bz.le bO
 have lg:=Nat.le_trans bO bz.n
 have s2:=(hs.bH e5).le lg
 have ye:=(dx.bH e5).le lg
 obtain⟨ao,c1,aA⟩:=LK (m-1) (B:=dp.n) (h:=dp) (by omega) (Nat.le_refl _) s2.v ye.v hf.dv hf.j9 yd.j9
 rw[show m-1+1=m by omega] at c1
 obtain⟨ar,c2,aC⟩:=LK (m-1) (B:=dp.n) (h:=ao) (by omega) aA.n (s2.bH aA).t (ye.bH aA).t hf.lt hf.tD yd.tD
 rw[show m-1+1=m by omega] at c2
 have bb:=(aA.get h.n (by omega)).trans aV
 have a3:=(aA.get (h.n+1) (by omega)).trans aN
 have dP:Ext B h ao:=e5.trans (Nat.le_refl _) (aA.le lg)
 have fR:Ext B h ar:=dP.trans (Nat.le_refl _) (aC.le lg)
 refine Yx m x.path cW.path x.dz cW.dz vv bu og oh h ⟨hs.v.cell,hs.t.cell,dx.v.cell,dx.t.cell,?_⟩
 rw[<-eL,<-et,aQ]
 exact⟨_,aH aV rfl,_,aH aN rfl,λaa=>⟨_,aH aV rfl,_,aH aN rfl,λad=>⟨_,aH aV rfl,_,aH aN rfl,_,ao,c1,λax=>⟨_,aH bb rfl,_,aH a3 rfl,_,ar,c2,bK.of (dK (by unfold pj;rw[aa,show(x.dz==cW.dz)=true from ad,ax];rfl)) fR⟩,λax=>bK.of (dK (by unfold pj;rw[aa,show(x.dz==cW.dz)=true from ad,ax];rfl)) dP⟩,λad=>bK.of (dK (by unfold pj;rw[aa,show(x.dz==cW.dz)=false from ad];rfl)) e5⟩,λaa=>bK.of (dK (by unfold pj;rw[aa];rfl)) e5⟩
end Go.Proofs.eN
namespace Go.Proofs.eN
open Go aD Go.Proofs dE Go.Proofs.cR
open Go.Proofs.ej (ev rJ qj)
open Go.Proofs.hy (df kn pe rG qi)
set_option maxRecDepth 100000
set_option maxHeartbeats 1000000
abbrev Q:=kn×Nat
abbrev Acc:=Q×(List aU×List a5)
end Go.Proofs.eN
namespace Go.Proofs.eN
open Go aD Go.Proofs dE Go.Proofs.cR
open Go.Proofs.ej (ev rJ qj)
open Go.Proofs.hy (df kn pe rG qi)
set_option maxRecDepth 100000
set_option maxHeartbeats 1000000
def rN(F:Nat->Prop)(h:J)(v:I)(vs:List I):Prop:=(v=.a_/\vs=[])\/∃b off aB,v=.slice b off vs.length aB/\F b/\(∀i (ae:i<vs.length),aq h b (off+i*1)=some vs[i])/\0<vs.length/\aB≠ .dead
mutual
def lh(F:Nat->Prop)(h:J):a5->I->Prop
 |.mk k bD aJ xs rt,v=>∃r cD bR cl vs bS bf up,v=.ptr r 0/\F r/\h.get r=some (.cells [.int .i64 (Int.ofNat k),.str bD,cD,bR,cl] 51 bS bf up)/\rN F h cD (aJ.map .str)/\rN F h bR vs/\nt F h xs vs/\ix F h rt cl
def nt(F:Nat->Prop)(h:J):List a5->List I->Prop
 |[],vs=>vs=[]
 |t::ts,vs=>∃v ws,vs=v::ws/\lh F h t v/\nt F h ts ws
def ix(F:Nat->Prop)(h:J):Option a5->I->Prop
 |none,v=>v=.aR
 |some t,v=>lh F h t v
end
theorem rN.bH{F G:Nat->Prop}{h g:J}{v:I}{vs:List I}(e:∀b,F b->G b/\g.get b=h.get b)(hs:rN F h v vs):rN G g v vs:=by
 rcases hs with hs|⟨b,off,aB,aa,ad,ax,aO⟩
 · exact .inl hs
 · refine .inr ⟨b,off,aB,aa,(e b ad).1,λi ae=>?_,aO⟩
   rw[<-ax i ae]
   unfold aq
   rw[(e b ad).2]
mutual
theorem lh.bH{F G:Nat->Prop}{h g:J}(e:∀b,F b->G b/\g.get b=h.get b):∀(t:a5) (v:I),lh F h t v->lh G g t v
 |.mk k bD aJ xs rt,v,ab=>by
  obtain⟨r,cD,bR,cl,vs,bS,bf,up,aa,ad,ax,aO,bZ,dj,ek⟩:=ab
  exact⟨r,cD,bR,cl,vs,bS,bf,up,aa,(e r ad).1,(e r ad).2.trans ax,aO.bH e,bZ.bH e,nt.bH e xs vs dj,ix.bH e rt cl ek⟩
theorem nt.bH{F G:Nat->Prop}{h g:J}(e:∀b,F b->G b/\g.get b=h.get b):∀(ts:List a5) (vs:List I),nt F h ts vs->nt G g ts vs
 |[],vs,ab=>ab
 |t::ts,vs,ab=>by
  obtain⟨v,ws,aa,ad,ax⟩:=ab
  exact⟨v,ws,aa,lh.bH e t v ad,nt.bH e ts ws ax⟩
theorem ix.bH{F G:Nat->Prop}{h g:J}(e:∀b,F b->G b/\g.get b=h.get b):∀(t:Option a5) (v:I),ix F h t v->ix G g t v
 |none,v,ab=>ab
 |some t,v,ab=>lh.bH e t v ab
end
mutual
theorem lh.at{F:Nat->Prop}{B:Nat}{h:J}(e:∀b,F b->b<B):∀(t:a5) (v:I),lh F h t v->cN B h t v
 |.mk k bD aJ xs rt,v,ab=>by
  obtain⟨r,cD,bR,cl,vs,bS,bf,up,aa,ad,ax,aO,bZ,dj,ek⟩:=ab
  have gh:∀{v:I} {vs:List I},rN F h v vs->cL B h v vs:=by
   intro v vs hs
   rcases hs with hs|⟨b,off,aB,aa,ad,ax,aO⟩
   · exact .inl hs
   · exact .inr ⟨b,off,aB,aa,e b ad,ax,aO⟩
  exact⟨r,cD,bR,cl,vs,bS,bf,up,aa,e r ad,ax,gh aO,gh bZ,nt.at e xs vs dj,ix.at e rt cl ek⟩
theorem nt.at{F:Nat->Prop}{B:Nat}{h:J}(e:∀b,F b->b<B):∀(ts:List a5) (vs:List I),nt F h ts vs->c6 B h ts vs
 |[],vs,ab=>ab
 |t::ts,vs,ab=>by
  obtain⟨v,ws,aa,ad,ax⟩:=ab
  exact⟨v,ws,aa,lh.at e t v ad,nt.at e ts ws ax⟩
theorem ix.at{F:Nat->Prop}{B:Nat}{h:J}(e:∀b,F b->b<B):∀(t:Option a5) (v:I),ix F h t v->cE B h t v
 |none,v,ab=>ab
 |some t,v,ab=>lh.at e t v ab
end
end Go.Proofs.eN
namespace Go.Proofs.eN
open Go aD Go.Proofs dE Go.Proofs.cR
open Go.Proofs.ej (ev rJ qj)
open Go.Proofs.hy (df kn pe rG qi)
set_option maxRecDepth 100000
set_option maxHeartbeats 1000000
theorem YD{D:Type}{P:Program}{enc:D->List I}{w:Nat}{el sT:TypeId}(T:uA P enc w el sT){B:Nat}{h:J}{v src:I}{bm:List D}{d:D}(bd:nd enc w el B h v bm)(bO:B<=h.n)(hs:iK h w src=some (1,enc d))(au:bm.length+1<=1000000):
  ∃al,gZ P h sT (some sT) v src=some (.slice h.n 0 (bm++[d]).length (.aY w),al)/\al.get h.n=some (.cells (fS enc (bm++[d])) el .aY 0 0)/\al.n=h.n+1/\Ext B h al/\∀c,c<h.n->(∀n aB,v≠ .slice c 0 n aB)->al.get c=h.get c:=by
 have dx:iK h w src=some ([d].length,fS enc [d]):=by rw[hs];simp[fS]
 rcases bd with⟨rfl,rfl⟩|⟨p,rfl,ad,ax,aO,bZ⟩
 · rw[List.nil_append]
   exact⟨_,QT T dx (by simp) (by simp),fp rfl,by simp,Ext.mo bO (Ext.refl _ _),λc ah _=>z3 ah rfl⟩
 · refine⟨_,by rw[List.length_append];exact QU T ax dx (by simp) (by simpa using au),fp (by simp),by simp,?_,λc ah hw=>?_⟩
   · exact Ext.mo (by simp;omega) (Ext.hA aO (Ext.refl _ _))
   · exact z3 (by simpa using ah) (mn (λe=>hw _ _ (by rw[e])) rfl)
end Go.Proofs.eN
namespace Go.Proofs.eN
open Go aD Go.Proofs dE Go.Proofs.cR
open Go.Proofs.ej (ev rJ qj)
open Go.Proofs.hy (df kn pe rG qi)
set_option maxRecDepth 100000
set_option maxHeartbeats 1000000
end Go.Proofs.eN
namespace Go.Proofs.eN
open Go aD Go.Proofs dE Go.Proofs.cR
open Go.Proofs.ej (ev rJ qj)
open Go.Proofs.hy (df kn pe rG qi)
set_option maxRecDepth 100000
set_option maxHeartbeats 1000000
end Go.Proofs.eN
namespace Go.Proofs.eN
open Go aD Go.Proofs dE Go.Proofs.cR
open Go.Proofs.ej (ev rJ qj)
open Go.Proofs.hy (df kn pe rG qi)
set_option maxRecDepth 100000
set_option maxHeartbeats 1000000
end Go.Proofs.eN
