/-
  PROVED HERE: contracts of functions (Dj). No condition beside each statement's own.
-/
import Derived.Test.YtfooahfebojldaaGreatDoorDi
import Derived.Test.YtfooahfebojldaaGreatDoorDh
import Derived.Test.YtfooahfebojldaaGreatDoorTx
import Derived.Test.YtfooahfebojldaaGreatDoorSxb
set_option linter.unusedVariables false
set_option linter.unusedSimpArgs false
namespace Go.Proofs.cn
open Go aw Go.Proofs cu Go.Proofs.b0
set_option maxRecDepth 100000
set_option maxHeartbeats 1000000
theorem UW(m:Nat)(n:List UInt8)(q3:List UInt8)(w:I)(ww:I)(h:J){R:av->Prop}(H:I.bC w=true/\I.bC ww=true/\∃s1:List UInt8,ay (J.push (J.push h (.cells [.str n,w] 53 .own 0 0)) (.cells [.str q3,ww] 53 .own 0 0)) h.n (0+0)=some (.str s1)/\∃s2:List UInt8,ay (J.push (J.push h (.cells [.str n,w] 53 .own 0 0)) (.cells [.str q3,ww] 53 .own 0 0)) (J.n (J.push h (.cells [.str n,w] 53 .own 0 0))) (0+0)=some (.str s2)/\(bR s1 s2=true->∃v1:I,ay (J.push (J.push h (.cells [.str n,w] 53 .own 0 0)) (.cells [.str q3,ww] 53 .own 0 0)) h.n (0+1)=some v1/\∃v2:I,ay (J.push (J.push h (.cells [.str n,w] 53 .own 0 0)) (.cells [.str q3,ww] 53 .own 0 0)) (J.n (J.push h (.cells [.str n,w] 53 .own 0 0))) (0+1)=some v2/\∃a4:Bool,∃al:J,(Y m) (.fn 48) [v1,v2] (J.push (J.push h (.cells [.str n,w] 53 .own 0 0)) (.cells [.str q3,ww] 53 .own 0 0))=.ret (.bool a4) al/\R (.ret (.bool a4) al))/\(bR s1 s2=false->R (.ret (.bool false) (J.push (J.push h (.cells [.str n,w] 53 .own 0 0)) (.cells [.str q3,ww] 53 .own 0 0))))):
  R (Y (m+1) (.fn 47) [.agg [.str n,w],.agg [.str q3,ww]] h):=
 dd (intr:=bW) [(12,.b1 .o),(14,.b1 .o)] [(0,.ee [.v (.str n),.o w]),(1,.ee [.v (.str q3),.o ww])] Tryz.func47 (by kernel_rfl) (by kernel_rfl) (by kernel_rfl) rfl (Eq.mp (by kernel_rfl) H)
theorem UX(m:Nat)(v:I)(w:I)(h:J){R:av->Prop}(H:∃aI:Nat,cb Tryz.prog h 22 v=some (.int .i64 (.ofNat aI))/\∃bw:Nat,cb Tryz.prog h 22 w=some (.int .i64 (.ofNat bw))/\(aI=bw->∃cH:Nat,cb Tryz.prog h 22 v=some (.int .i64 (.ofNat cH))/\bm Tryz.prog Tryz.f49 (Y m) [1,1,0,1,0] (ao.mk [(1,w),(2,.fn 47 [] []),(15,v),(16,.int .i64 (.ofNat cH)),(17,.int .i64 (.ofNat 0))] [] .none h) (λcE cF=>((∃al:J,∃bq:Env,cE=.exit 0/\cF=ao.mk bq [] .none al/\cl [] bq/\R (.ret (.bool true) al))\/(∃au:J,∃bT:Env,cE=.ret/\cF=ao.mk bT [] .none au/\cl [(6,.bool false)] bT/\R (.ret (.bool false) au)))))/\(¬aI=bw->R (.ret (.bool false) h))):
  R (Y (m+1) (.fn 49) [v,w,.fn 47 [] []] h):=
 dd (intr:=bW) [(4000,.gw [1,2,15,16,17] [(.exit 0,[]),(.ret,[(6,.is (.bool false))])])] [(0,.o v),(1,.o w),(2,.v (.fn 47 [] []))] Tryz.func49 (by kernel_rfl) (by kernel_rfl) (by kernel_rfl) rfl (Eq.mp (by kernel_rfl) H)
theorem UY(call:aP->List I->J->av)(a4:Nat)(c0:Nat)(N:Nat)(a_:Nat)(e6:Nat)(M:Nat)(i:Nat)(c1:cf)(c2:cf)(h:J){Q:bu->ao->Prop}(H:i<N/\i<N/\∃s1:List UInt8,∃v1:I,aw.loadCells h a4 (c0+i*2) 2=some [.str s1,v1]/\I.bC v1=true/\∃al:J,aw.storeCells (J.push h (.cells [.str [],.bd] 53 .own 0 0)) h.n 0 [.str s1,v1]=some al/\i<M/\∃s2:List UInt8,∃v2:I,aw.loadCells al a_ (e6+i*2) 2=some [.str s2,v2]/\I.bC v2=true/\∃au:J,aw.storeCells (J.push al (.cells [.str [],.bd] 53 .own 0 0)) al.n 0 [.str s2,v2]=some au/\∃bI:List UInt8,∃cX:I,aw.loadCells au h.n 0 2=some [.str bI,cX]/\∃cq:List UInt8,∃v4:I,aw.loadCells au al.n 0 2=some [.str cq,v4]/\∃cO:Bool,∃a7:J,call (.fn 47) [.agg [.str bI,cX],.agg [.str cq,v4]] au=.ret (.bool cO) a7/\(cO=true->i+1<9223372036854775808/\Q .nrm (ao.mk [(1,.slice a_ e6 M c2),(2,.fn 47 [] []),(15,.slice a4 c0 N c1),(16,.int .i64 (.ofNat N)),(17,.int .i64 (.ofNat (i+1)))] [] .none a7))/\(cO=false->Q .ret (ao.mk [(1,.slice a_ e6 M c2),(2,.fn 47 [] []),(6,.bool false),(15,.slice a4 c0 N c1),(16,.int .i64 (.ofNat N)),(17,.int .i64 (.ofNat i))] [] .none a7))):
  bm Tryz.prog Tryz.f49 call [1,1,0,1,0,0] ⟨[(1,.slice a_ e6 M c2),(2,.fn 47 [] []),(15,.slice a4 c0 N c1),(16,.int .i64 (.ofNat N)),(17,.int .i64 (.ofNat i))],[],.none,h⟩ Q:=
 e9 [(1018,.t),(21,.b1 (.ee [.st,.o])),(25,.b1 (.ee [.st,.o])),(27,.b1 (.ee [.st,.o])),(28,.b1 (.ee [.st,.o])),(29,.b1 .b)] [1,2,6,15,16,17] [(1,.v (.slice a_ e6 M c2)),(2,.v (.fn 47 [] [])),(15,.v (.slice a4 c0 N c1)),(16,.v (.int .i64 (.ofNat N))),(17,.v (.int .i64 (.ofNat i)))] rfl (Eq.mp (by kernel_rfl) H)
theorem UZ(call:aP->List I->J->av)(N:Nat)(i:Nat)(v:I)(w:I)(h:J){Q:bu->ao->Prop}(H:¬i<N/\Q (.exit 0) (ao.mk [] [] .none h)):
  bm Tryz.prog Tryz.f49 call [1,1,0,1,0,0] ⟨[(1,w),(2,.fn 47 [] []),(15,v),(16,.int .i64 (.ofNat N)),(17,.int .i64 (.ofNat i))],[],.none,h⟩ Q:=
 e9 [(1018,.f)] [] [(1,.o w),(2,.v (.fn 47 [] [])),(15,.o v),(16,.v (.int .i64 (.ofNat N))),(17,.v (.int .i64 (.ofNat i)))] rfl (Eq.mp (by kernel_rfl) H)
theorem U0(m:Nat)(p:List UInt8)(pp:List UInt8)(dz:Bool)(dh:Bool)(vv:I)(bE:I)(kC:I)(ut:I)(h:J){R:av->Prop}(H:I.bC vv=true/\I.bC bE=true/\I.bC kC=true/\I.bC ut=true/\∃s1:List UInt8,ay (J.push (J.push h (.cells [.str p,.bool dz,vv,bE] 24 .own 0 0)) (.cells [.str pp,.bool dh,kC,ut] 24 .own 0 0)) h.n (0+0)=some (.str s1)/\∃s2:List UInt8,ay (J.push (J.push h (.cells [.str p,.bool dz,vv,bE] 24 .own 0 0)) (.cells [.str pp,.bool dh,kC,ut] 24 .own 0 0)) (J.n (J.push h (.cells [.str p,.bool dz,vv,bE] 24 .own 0 0))) (0+0)=some (.str s2)/\(bR s1 s2=true->∃a4:Bool,ay (J.push (J.push h (.cells [.str p,.bool dz,vv,bE] 24 .own 0 0)) (.cells [.str pp,.bool dh,kC,ut] 24 .own 0 0)) h.n (0+1)=some (.bool a4)/\∃a_:Bool,ay (J.push (J.push h (.cells [.str p,.bool dz,vv,bE] 24 .own 0 0)) (.cells [.str pp,.bool dh,kC,ut] 24 .own 0 0)) (J.n (J.push h (.cells [.str p,.bool dz,vv,bE] 24 .own 0 0))) (0+1)=some (.bool a_)/\(fe a4 a_=true->∃v1:I,ay (J.push (J.push h (.cells [.str p,.bool dz,vv,bE] 24 .own 0 0)) (.cells [.str pp,.bool dh,kC,ut] 24 .own 0 0)) h.n (0+2)=some v1/\∃v2:I,ay (J.push (J.push h (.cells [.str p,.bool dz,vv,bE] 24 .own 0 0)) (.cells [.str pp,.bool dh,kC,ut] 24 .own 0 0)) (J.n (J.push h (.cells [.str p,.bool dz,vv,bE] 24 .own 0 0))) (0+2)=some v2/\∃cO:Bool,∃al:J,(Y m) (.fn 49) [v1,v2,.fn 47 [] []] (J.push (J.push h (.cells [.str p,.bool dz,vv,bE] 24 .own 0 0)) (.cells [.str pp,.bool dh,kC,ut] 24 .own 0 0))=.ret (.bool cO) al/\(cO=true->∃cX:I,ay al h.n (0+3)=some cX/\∃v4:I,ay al (J.n (J.push h (.cells [.str p,.bool dz,vv,bE] 24 .own 0 0))) (0+3)=some v4/\∃hD:Bool,∃au:J,(Y m) (.fn 49) [cX,v4,.fn 47 [] []] al=.ret (.bool hD) au/\R (.ret (.bool hD) au))/\(cO=false->R (.ret (.bool false) al)))/\(fe a4 a_=false->R (.ret (.bool false) (J.push (J.push h (.cells [.str p,.bool dz,vv,bE] 24 .own 0 0)) (.cells [.str pp,.bool dh,kC,ut] 24 .own 0 0)))))/\(bR s1 s2=false->R (.ret (.bool false) (J.push (J.push h (.cells [.str p,.bool dz,vv,bE] 24 .own 0 0)) (.cells [.str pp,.bool dh,kC,ut] 24 .own 0 0))))):
  R (Y (m+1) (.fn 19) [.agg [.str p,.bool dz,vv,bE],.agg [.str pp,.bool dh,kC,ut]] h):=
 dd (intr:=bW) [] [(0,.ee [.v (.str p),.v (.bool dz),.o vv,.o bE]),(1,.ee [.v (.str pp),.v (.bool dh),.o kC,.o ut])] Tryz.func19 (by kernel_rfl) (by kernel_rfl) (by kernel_rfl) rfl (Eq.mp (by kernel_rfl) H)
def lO:List ez->List ez->Bool
 |[],[]=>true
 |a::l,b::k=>bR a.1 b.1&&(nc a.2 b.2&&lO l k)
 |_,_=>false
def ow(a b:hY):Bool:=bR a.path b.path&&((a.fo==b.fo)&&(lO a.lL b.lL&&lO a.lM b.lM))
theorem JT:∀(l k:List ez),l.length≠k.length->lO l k=false
 |[],[],h=>absurd rfl h
 |[],_::_,_=>rfl
 |_::_,[],_=>rfl
 |a::l,b::k,h=>by rw[lO,JT l k (by simpa using h)];simp
theorem U1(m:Nat){B:Nat}{h:J}{a b:ez}{w w':I}(hm:310<=m)(bM:B<=h.n)(aX:dB B h a.2 w)(af:dB B h b.2 w')(ei:fit a.2)(DX:fit b.2):bD B h (.bool (bR a.1 b.1&&nc a.2 b.2)) (Y (m+1) (.fn 47) [.agg [.str a.1,w],.agg [.str b.1,w']] h):=by
 obtain⟨dy,hV⟩:∃p,p=h.push (.cells [.str a.1,w] 53 .own 0 0):=⟨_,rfl⟩
 obtain⟨dq,gW⟩:∃p,p=dy.push (.cells [.str b.1,w'] 53 .own 0 0):=⟨_,rfl⟩
 have aI:dy.n=h.n+1:=by rw[hV];rfl
 have bz:Ext h.n h dq:=by rw[gW];exact(by rw[hV];exact Ext.push (Nat.le_refl _) _:Ext h.n h dy).lp (by omega)
 have aR:dq.get h.n=some (.cells [.str a.1,w] 53 .own 0 0):=by rw[gW,J.ec,if_neg (by omega),hV];exact eZ rfl
 have a3:dq.get (h.n+1)=some (.cells [.str b.1,w'] 53 .own 0 0):=by rw[gW];exact eZ aI.symm
 have eE:Ext B h dq:=bz.le bM
 have bF:=ey.ext eE (Nat.le_refl _)
 have aa:=ei.1
 have ad:=DX.1
 obtain⟨g,c,eh⟩:=Ru (m-1) (oa:=a.2) (ob:=b.2) (B:=B) (h:=dq) (v:=w) (w:=w') (by omega) (by omega) ei.2 (Nat.le_trans bM eE.n) (by omega) (dB.bZ bF _ _ aX) (dB.bZ bF _ _ af)
 rw[show m-1+1=m by omega] at c
 refine UW m a.1 b.1 w w' h ⟨nn aX,nn af,?_⟩
 rw[<-hV,<-gW,aI]
 exact⟨_,ba aR rfl,_,ba a3 rfl,λe=>⟨_,ba aR rfl,_,ba a3 rfl,_,g,c,bD.of (dM (by rw[e];rfl)) (eE.trans (Nat.le_refl _) eh)⟩,λe=>bD.of (dM (by rw[e];rfl)) eE⟩
theorem JU(m:Nat){B:Nat}{h:J}{v w:I}{l k:List ez}(hm:320<=m)(bM:B<=h.n)(aB:iH B h v l)(hw:iH B h w k)(hlen:l.length<=90000)(ei:∀e∈l,fit e.2)(DX:∀e∈k,fit e.2):
  bD B h (.bool (lO l k)) (Y (m+1) (.fn 49) [v,w,.fn 47 [] []] h):=by
 refine UX m v w h ⟨_,aB.len h,_,hw.len h,λe=>⟨_,aB.len h,?_⟩,λe=>bD.of (dM (JT l k e)) (Ext.refl _ _)⟩
 refine bm.loop (by kernel_rfl) (λt st=>∃i y Γ,st=⟨Γ,[],.none,y⟩/\cl [(1,w),(2,.fn 47 [] []),(15,v),(16,.int .i64 (Int.ofNat l.length)),(17,.int .i64 (Int.ofNat i))] Γ/\l.length-i=t/\i<=l.length/\Ext B h y/\lO l k=lO (l.drop i) (k.drop i)) ?_ l.length _ (by omega) ⟨0,h,_,rfl,⟨rfl,rfl,rfl,rfl,rfl,trivial⟩,by omega,by omega,Ext.refl _ _,rfl⟩
 rintro t st ⟨i,y,Γ,rfl,cG,aQ,ae,fy,bh⟩
 by_cases aa:i<l.length
 · have gS:i<k.length:=by omega
   rcases aB with⟨_,rfl⟩|⟨a4,c0,c1,rfl,jq,oh,hV,XS⟩
   · simp at aa
   rcases hw with⟨_,rfl⟩|⟨a_,e6,c2,rfl,dw,lf,gW,F4⟩
   · simp at gS
   have mw:=Nat.le_trans bM fy.n
   obtain⟨x,ab,DY⟩:=zY jq oh fy aa
   obtain⟨g,aj⟩:∃g,g=(y.push (.cells [.str [],.bd] 53 .own 0 0)).set y.n (some (.cells [.str l[i].1,x] 53 .own 0 0)):=⟨_,rfl⟩
   have b5:aw.storeCells (y.push (.cells [.str [],.bd] 53 .own 0 0)) y.n 0 [.str l[i].1,x]=some g:=by
    rw[aj];exact ia (eZ rfl) rfl (zZ (a:=[]) (nn DY))
   have ov:g.get y.n=some (.cells [.str l[i].1,x] 53 .own 0 0):=by rw[aj];exact h_ rfl
   have XT:g.n=y.n+1:=by rw[aj];rfl
   have eh:Ext y.n y g:=by rw[aj];exact(Ext.push (Nat.le_refl _) _).gK (Nat.le_refl _)
   have my:Ext B h g:=fy.trans (Nat.le_refl _) (eh.le mw)
   obtain⟨c5,uw,DZ⟩:=zY dw lf my gS
   obtain⟨au,kZ⟩:∃au,au=(g.push (.cells [.str [],.bd] 53 .own 0 0)).set g.n (some (.cells [.str k[i].1,c5] 53 .own 0 0)):=⟨_,rfl⟩
   have U2:aw.storeCells (g.push (.cells [.str [],.bd] 53 .own 0 0)) g.n 0 [.str k[i].1,c5]=some au:=by
    rw[kZ];exact ia (eZ rfl) rfl (zZ (a:=[]) (nn DZ))
   have xa:au.get g.n=some (.cells [.str k[i].1,c5] 53 .own 0 0):=by rw[kZ];exact h_ rfl
   have om:Ext g.n g au:=by rw[kZ];exact(Ext.push (Nat.le_refl _) _).gK (Nat.le_refl _)
   have U3:=(om.get y.n (by omega)).trans ov
   have xg:Ext B h au:=my.trans (Nat.le_refl _) (om.le (Nat.le_trans bM my.n))
   have U4:Ext B y au:=(eh.le mw).trans (Nat.le_refl _) (om.le (Nat.le_trans bM my.n))
   obtain⟨a7,c3,cP⟩:=U1 (m-1) (B:=B) (h:=au) (a:=l[i]) (b:=k[i]) (w:=x) (w':=c5) (by omega) (Nat.le_trans bM xg.n) (dB.bZ (ey.ext U4 (Nat.le_refl _)) _ _ DY) (dB.bZ (ey.ext (om.le (Nat.le_trans bM my.n)) (Nat.le_refl _)) _ _ DZ) (ei _ (List.getElem_mem aa)) (DX _ (List.getElem_mem gS))
   rw[show m-1+1=m by omega] at c3
   have bp:=xg.trans (Nat.le_refl _) cP
   rw[List.drop_eq_getElem_cons aa,List.drop_eq_getElem_cons gS,lO,<-Bool.and_assoc] at bh
   refine bm.pre (UY (Y m) a4 c0 _ a_ e6 _ i c1 c2 y ⟨aa,aa,_,x,ab,nn DY,g,b5,gS,_,c5,uw,nn DZ,au,U2,_,_,n1 U3 rfl,_,_,n1 xa rfl,_,a7,c3,λag=>⟨by omega,?_⟩,λag=>?_⟩) cG rfl rfl rfl
   rotate_left
   · have:(bR l[i].1 k[i].1&&nc l[i].2 k[i].2)=false:=ag
     exact .inr ⟨a7,_,rfl,rfl,⟨rfl,trivial⟩,bD.of (dM (by rw[bh,this];rfl)) bp⟩
   · have:(bR l[i].1 k[i].1&&nc l[i].2 k[i].2)=true:=ag
     exact⟨_,(by show l.length-(i+1)<t;omega),i+1,a7,_,rfl,⟨rfl,rfl,rfl,rfl,rfl,trivial⟩,rfl,by omega,bp,by rw[bh,this];rfl⟩
 · refine bm.pre (UZ (Y m) l.length i v w y ⟨aa,.inl ⟨y,_,rfl,rfl,trivial,bD.of (dM ?_) fy⟩⟩) cG rfl rfl rfl
   rw[bh,List.drop_of_length_le (by omega),List.drop_of_length_le (by omega)];rfl
theorem U5(m:Nat){B:Nat}{h:J}{vv bE xj xk:I}{x c5:hY}(hm:330<=m)(bM:B<=h.n)(hs:lN B h vv bE x)(c8:lN B h xj xk c5)(hf:np x)(JV:np c5):bD B h (.bool (ow x c5)) (Y (m+1) (.fn 19) [.agg [.str x.path,.bool x.fo,vv,bE],.agg [.str c5.path,.bool c5.fo,xj,xk]] h):=by
 obtain⟨dy,hV⟩:∃p,p=h.push (mz x.path x.fo vv bE):=⟨_,rfl⟩
 obtain⟨dq,gW⟩:∃p,p=dy.push (mz c5.path c5.fo xj xk):=⟨_,rfl⟩
 have aI:dy.n=h.n+1:=by rw[hV];rfl
 have bw:dq.n=h.n+2:=by rw[gW];show dy.n+1=_;omega
 have bz:Ext h.n h dq:=by rw[gW];exact(by rw[hV];exact Ext.push (Nat.le_refl _) _:Ext h.n h dy).lp (by omega)
 have aR:dq.get h.n=some (mz x.path x.fo vv bE):=by rw[gW,J.ec,if_neg (by omega),hV];exact eZ rfl
 have a3:dq.get (h.n+1)=some (mz c5.path c5.fo xj xk):=by rw[gW];exact eZ aI.symm
 have eE:Ext B h dq:=bz.le bM
 have z2:=Nat.le_trans bM bz.n
 have s2:=(hs.bZ eE).le z2
 have JW:=(c8.bZ eE).le z2
 obtain⟨al,c1,aC⟩:=JU (m-1) (B:=dq.n) (h:=dq) (by omega) (Nat.le_refl _) s2.v JW.v hf.c6 hf.kG JV.kG
 rw[show m-1+1=m by omega] at c1
 obtain⟨au,c2,ax⟩:=JU (m-1) (B:=dq.n) (h:=al) (by omega) aC.n (s2.bZ aC).t (JW.bZ aC).t hf.lt hf.z1 JV.z1
 rw[show m-1+1=m by omega] at c2
 have r1:=(aC.get h.n (by omega)).trans aR
 have r2:=(aC.get (h.n+1) (by omega)).trans a3
 have c7:Ext B h al:=eE.trans (Nat.le_refl _) (aC.le z2)
 have fu:Ext B h au:=c7.trans (Nat.le_refl _) (ax.le z2)
 refine U0 m x.path c5.path x.fo c5.fo vv bE xj xk h ⟨hs.v.cell,hs.t.cell,c8.v.cell,c8.t.cell,?_⟩
 rw[<-hV,<-gW,aI]
 exact⟨_,ba aR rfl,_,ba a3 rfl,λaa=>⟨_,ba aR rfl,_,ba a3 rfl,λad=>⟨_,ba aR rfl,_,ba a3 rfl,_,al,c1,λar=>⟨_,ba r1 rfl,_,ba r2 rfl,_,au,c2,bD.of (dM (by unfold ow;rw[aa,show(x.fo==c5.fo)=true from ad,ar];rfl)) fu⟩,λar=>bD.of (dM (by unfold ow;rw[aa,show(x.fo==c5.fo)=true from ad,ar];rfl)) c7⟩,λad=>bD.of (dM (by unfold ow;rw[aa,show(x.fo==c5.fo)=false from ad];rfl)) eE⟩,λaa=>bD.of (dM (by unfold ow;rw[aa];rfl)) eE⟩
end Go.Proofs.cn
namespace Go.Proofs.cn
open Go aw Go.Proofs cu Go.Proofs.b0
open Go.Proofs.cT (cS nm mu)
open Go.Proofs.dV (b_ ea dC eM fS)
set_option maxRecDepth 100000
set_option maxHeartbeats 1000000
abbrev Q:=ea×Nat
abbrev Acc:=Q×(List aJ×List aZ)
def k4{sZ:Type}(ok:sZ->Bool)(f:sZ->Option sZ):Nat->sZ->Option sZ
 |0,s=>some s
 |k+1,s=>if ok s then(f s).bind (k4 ok f k) else none
def uJ(f:Q->Option (aZ×Q))(x:Acc):Option Acc:=(f x.1).map λr=>(r.2,(x.2.1,x.2.2++[r.1]))
def D0(f:Q->Option (aZ×Q))(x:Acc):Option Acc:=uJ f (((eM x.1.1).2,x.1.2),(x.2.1++[(eM x.1.1).1],x.2.2))
def s4(x:Acc):Bool:=x.1.1.isSome
def uK(q:Q):Acc:=(((dC q.1).2,q.2),([],[]))
def uL(f:Q->Option (aZ×Q))(k:Nat)(q:Q):Option (aZ×Q):=
 if k=6 then some (.mk 6 (eM q.1).1 [] [] none,((eM q.1).2,q.2))
 else if k=7 then(k4 s4 (D0 f) (dC q.1).1 (uK q)).map λs=>(.mk 7 [] s.2.1 s.2.2 none,s.1)
 else if k=8 then(k4 s4 (uJ f) (dC q.1).1 (uK q)).bind λs=>(f s.1).map λr=>(.mk 8 [] [] s.2.2 (some r.1),r.2)
 else if k=9 then(k4 s4 (uJ f) (dC q.1).1 (uK q)).map λs=>(.mk 9 [] [] s.2.2 none,s.1)
 else some (.mk k [] [] [] none,q)
def pD(a9:Nat):Nat->Q->Option (aZ×Q)
 |0,_=>none
 |j+1,q=>if(dC q.1).2.isSome=true/\a9<=(dC q.1).1/\(dC q.1).1<=9/\q.2+1<=60 then uL (pD a9 j) (dC q.1).1 ((dC q.1).2,q.2+1) else none
end Go.Proofs.cn
namespace Go.Proofs.cn
open Go aw Go.Proofs cu Go.Proofs.b0
open Go.Proofs.cT (cS nm mu)
open Go.Proofs.dV (b_ ea dC eM fS)
set_option maxRecDepth 100000
set_option maxHeartbeats 1000000
def q4(F:Nat->Prop)(h:J)(v:I)(vs:List I):Prop:=(v=.a0/\vs=[])\/∃b off aE,v=.slice b off vs.length aE/\F b/\(∀i (ae:i<vs.length),ay h b (off+i*1)=some vs[i])/\0<vs.length/\aE≠ .dead
mutual
def kp(F:Nat->Prop)(h:J):aZ->I->Prop
 |.mk k bP aW xs rt,v=>∃r dF cB dg vs b3 a9 up,v=.ptr r 0/\F r/\h.get r=some (.cells [.int .i64 (Int.ofNat k),.str bP,dF,cB,dg] 51 b3 a9 up)/\q4 F h dF (aW.map .str)/\q4 F h cB vs/\mA F h xs vs/\hH F h rt dg
def mA(F:Nat->Prop)(h:J):List aZ->List I->Prop
 |[],vs=>vs=[]
 |t::ts,vs=>∃v ws,vs=v::ws/\kp F h t v/\mA F h ts ws
def hH(F:Nat->Prop)(h:J):Option aZ->I->Prop
 |none,v=>v=.bd
 |some t,v=>kp F h t v
end
theorem q4.bZ{F G:Nat->Prop}{h g:J}{v:I}{vs:List I}(e:∀b,F b->G b/\g.get b=h.get b)(hs:q4 F h v vs):q4 G g v vs:=by
 rcases hs with hs|⟨b,off,aE,aa,ad,ar,aM⟩
 · exact .inl hs
 · refine .inr ⟨b,off,aE,aa,(e b ad).1,λi ae=>?_,aM⟩
   rw[<-ar i ae]
   unfold ay
   rw[(e b ad).2]
mutual
theorem kp.bZ{F G:Nat->Prop}{h g:J}(e:∀b,F b->G b/\g.get b=h.get b):∀(t:aZ) (v:I),kp F h t v->kp G g t v
 |.mk k bP aW xs rt,v,ab=>by
  obtain⟨r,dF,cB,dg,vs,b3,a9,up,aa,ad,ar,aM,bS,cK,ew⟩:=ab
  exact⟨r,dF,cB,dg,vs,b3,a9,up,aa,(e r ad).1,(e r ad).2.trans ar,aM.bZ e,bS.bZ e,mA.bZ e xs vs cK,hH.bZ e rt dg ew⟩
theorem mA.bZ{F G:Nat->Prop}{h g:J}(e:∀b,F b->G b/\g.get b=h.get b):∀(ts:List aZ) (vs:List I),mA F h ts vs->mA G g ts vs
 |[],vs,ab=>ab
 |t::ts,vs,ab=>by
  obtain⟨v,ws,aa,ad,ar⟩:=ab
  exact⟨v,ws,aa,kp.bZ e t v ad,mA.bZ e ts ws ar⟩
theorem hH.bZ{F G:Nat->Prop}{h g:J}(e:∀b,F b->G b/\g.get b=h.get b):∀(t:Option aZ) (v:I),hH F h t v->hH G g t v
 |none,v,ab=>ab
 |some t,v,ab=>kp.bZ e t v ab
end
mutual
theorem kp.at{F:Nat->Prop}{B:Nat}{h:J}(e:∀b,F b->b<B):∀(t:aZ) (v:I),kp F h t v->ef B h t v
 |.mk k bP aW xs rt,v,ab=>by
  obtain⟨r,dF,cB,dg,vs,b3,a9,up,aa,ad,ar,aM,bS,cK,ew⟩:=ab
  have hz:∀{v:I} {vs:List I},q4 F h v vs->dZ B h v vs:=by
   intro v vs hs
   rcases hs with hs|⟨b,off,aE,aa,ad,ar,aM⟩
   · exact .inl hs
   · exact .inr ⟨b,off,aE,aa,e b ad,ar,aM⟩
  exact⟨r,dF,cB,dg,vs,b3,a9,up,aa,e r ad,ar,hz aM,hz bS,mA.at e xs vs cK,hH.at e rt dg ew⟩
theorem mA.at{F:Nat->Prop}{B:Nat}{h:J}(e:∀b,F b->b<B):∀(ts:List aZ) (vs:List I),mA F h ts vs->eg B h ts vs
 |[],vs,ab=>ab
 |t::ts,vs,ab=>by
  obtain⟨v,ws,aa,ad,ar⟩:=ab
  exact⟨v,ws,aa,kp.at e t v ad,mA.at e ts ws ar⟩
theorem hH.at{F:Nat->Prop}{B:Nat}{h:J}(e:∀b,F b->b<B):∀(t:Option aZ) (v:I),hH F h t v->dB B h t v
 |none,v,ab=>ab
 |some t,v,ab=>kp.at e t v ab
end
end Go.Proofs.cn
namespace Go.Proofs.cn
open Go aw Go.Proofs cu Go.Proofs.b0
open Go.Proofs.cT (cS nm mu)
open Go.Proofs.dV (b_ ea dC eM fS)
set_option maxRecDepth 100000
set_option maxHeartbeats 1000000
theorem JX{D:Type}{P:Program}{enc:D->List I}{w:Nat}{el sT:TypeId}(T:se P enc w el sT){B:Nat}{h:J}{v src:I}{aS:List D}{d:D}(a2:jH enc w el B h v aS)(bM:B<=h.n)(hs:ho h w src=some (1,enc d))(an:aS.length+1<=1000000):
  ∃ak,fW P h sT (some sT) v src=some (.slice h.n 0 (aS++[d]).length (.aN w),ak)/\ak.get h.n=some (.cells (eJ enc (aS++[d])) el .aN 0 0)/\ak.n=h.n+1/\Ext B h ak/\∀c,c<h.n->(∀n aE,v≠ .slice c 0 n aE)->ak.get c=h.get c:=by
 have c8:ho h w src=some ([d].length,eJ enc [d]):=by rw[hs];simp[eJ]
 rcases a2 with⟨rfl,rfl⟩|⟨p,rfl,ad,ar,aM,bS⟩
 · rw[List.nil_append]
   exact⟨_,Pu T c8 (by simp) (by simp),eZ rfl,by simp,Ext.lp bM (Ext.refl _ _),λc ag _=>sd ag rfl⟩
 · refine⟨_,by rw[List.length_append];exact Pv T ar c8 (by simp) (by simpa using an),eZ (by simp),by simp,?_,λc ag hw=>?_⟩
   · exact Ext.lp (by simp;omega) (Ext.gK aM (Ext.refl _ _))
   · exact sd (by simpa using ag) (o8 (λe=>hw _ _ (by rw[e])) rfl)
end Go.Proofs.cn
namespace Go.Proofs.cn
open Go aw Go.Proofs cu Go.Proofs.b0
open Go.Proofs.cT (cS nm mu)
open Go.Proofs.dV (b_ ea dC eM fS)
set_option maxRecDepth 100000
set_option maxHeartbeats 1000000
end Go.Proofs.cn
namespace Go.Proofs.cn
open Go aw Go.Proofs cu Go.Proofs.b0
open Go.Proofs.cT (cS nm mu)
open Go.Proofs.dV (b_ ea dC eM fS)
set_option maxRecDepth 100000
set_option maxHeartbeats 1000000
end Go.Proofs.cn
namespace Go.Proofs.cn
open Go aw Go.Proofs cu Go.Proofs.b0
open Go.Proofs.cT (cS nm mu)
open Go.Proofs.dV (b_ ea dC eM fS)
set_option maxRecDepth 100000
set_option maxHeartbeats 1000000
end Go.Proofs.cn
