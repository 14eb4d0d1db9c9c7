/- contracts of functions; no condition -/
import Derived.Test.YtokgebablggccaaGreatDoorDk
set_option linter.unusedVariables false
set_option linter.unusedSimpArgs false
set_option maxRecDepth 100000
set_option maxHeartbeats 1000000
namespace Go.Proofs.lv
open Go aJ Go.Proofs lp iI fO
variable {all:List bP}{b c d:Nat}{z:I}
variable {Q:cl->bD->Prop} {R:a8->Prop}
def Nd(all:List bP)(U:Nat->bw bX)(d lo:Nat):Prop:=∀(n:Nat),lo<=n->∀{p c a:Nat} {h:I},cL p c all a d h->Fin p c all d h (fP h.n) (U a) (Z n (.fn 121) [.ptr p 0] h)
def Nf(all:List bP)(U:Nat->bw bX)(d lo:Nat):Prop:=∀(n:Nat),lo<=n->∀{p c a:Nat} {h:I},cL p c all a d h->Fin p c all d h (fP h.n) (U a) (Z n (.fn 89) [.ptr p 0,.fn 121 [.ptr p 0] []] h)
theorem aiD{U:Nat->bw bX}{lo:Nat}(ah:Src all)(aH:d<40)(fY:Nd all U (d+1) lo)(iO:2<=lo):Nf all U d (lo+1):=λn aT p c a h w=>by
 obtain⟨m,rfl⟩:∃m,n=m+3:=⟨n-3,by omega⟩
 refine Uv m 0 (V:=fP h.n) (vf.U8 w.cM) ah w 121 [.ptr p 0] [] aH (U a) λJ b_ bb=>?_
 have u:=fY (m+2) (by omega) b_
 have bn:=bb.n
 cases aI:U a with
 |error f=>rw[aI] at u;exact u
 |ok eW=>
  obtain⟨t,b⟩:=eW
  rw[aI] at u
  obtain⟨v,g,aO,aZ,bC,cX⟩:=u
  exact⟨v,g,aO,dF.cx (F:=λk=>J.n<=k/\k<g.n) (h:=g) (g:=g) ⟨Nat.le_refl _,λ_ _ _=>rfl⟩ (λk ai cO=>⟨by omega,ai.2⟩) t _ aZ,bC,cX⟩
theorem aiE(ah:Src all):Nf all (λa=>.error (11,(bR all a).at')) 40 3:=λn aT p c a h w=>by
 obtain⟨m,rfl⟩:∃m,n=m+3:=⟨n-3,by omega⟩
 exact Uw m ah w 121 [.ptr p 0] [] rfl
theorem Vh(m:Nat){E U:Nat->bw bX}{T:Nat->bw cG}{lo lt pO:Nat}(ah:Src all)(bO:sZ all E d lo)(de:pL all T d lt)(fY:Nf all U d pO)(nn:ev E)(oP:ev T)(hm:lo<=m+6)(lL:lt<=m+6)(Et:pO<=m+10){p a:Nat}{h:I}(w:cL p c all a d h):Fin p c all d h (fP h.n) (pD all E T U a) (Z (m+11) (.fn 121) [.ptr p 0] h):=by
 have a3:=w.cM
 have ak:=w.gq
 obtain⟨bY,g6⟩:∃t,t=bR all a:=⟨_,rfl⟩
 obtain⟨r,aj⟩:∃r,r=pD all E T U a:=⟨_,rfl⟩
 rw[<-aj]
 unfold pD at aj
 obtain⟨al,a9,bb⟩:=oR (m+9) w
 rw[<-g6] at a9
 have bn:=bb.n
 obtain⟨aw,aE⟩:∃g,g=(al.push mh).set al.n (some (aD (fm bY) 76)):=⟨_,rfl⟩
 have b6:aw.n=al.n+1:=by rw[aE];rfl
 have fC:aJ.storeCells (al.push mh) al.n 0 (fm bY)=some aw:=by rw[aE];exact cy (dx rfl) rfl rfl
 have b2:aw.get al.n=some (aD (fm bY) 76):=by rw[aE];exact dz rfl
 have cw:Ext h.n h aw:=by rw[aE];exact(Ext.k4 (by omega) bb).ix (by omega)
 have b9:=w.ext cw (Nat.le_refl _)
 obtain⟨a1,gF,eH,fN⟩:=vn (m+6) ah b9 [Mf,[45]] (by simp)
 have dc:=fN.n
 have oc:bU p h.n h a1:=(cw.eb p).trans cw.n fN
 have dd:=(fN.get al.n (by omega) (by omega)).trans b2
 refine ah7 (m+10) p h (R:=Fin p c all d h (fP h.n) r) ⟨_,_,_,_,al,a9,aw,fC,_,a1,gF,λag=>?_,λag=>?_⟩
 · rw[if_pos ag] at eH aj
   have lT:Ext a1.n a1 (a1.room 11):=Ext.room _ _ _
   have UB:(a1.room 11).n=a1.n+11:=rfl
   have jD:=eH.ext lT (Nat.le_refl _)
   have gm:=(lT.get al.n (by omega)).trans dd
   have H0:bU p h.n h (a1.room 11):=oc.trans (by omega) (lT.eb p)
   have u:=fY (m+10) Et jD
   refine⟨_,aN gm rfl,_,aN gm rfl,?_⟩
   cases he:U (a+1) with
   |error f=>
    rw[he] at u aj
    obtain⟨e,g,a6,aO,aZ⟩:=cB.back (show cB p c all d (a1.room 11) f _ from u) H0
    rw[aj]
    exact .inr ⟨_,g,aO,e,g,a6,rfl,aZ⟩
   |ok fG=>
    obtain⟨x,b⟩:=fG
    rw[he] at u
    simp only[he] at aj
    obtain⟨v,bc,hB,hD,kx,fX⟩:=u
    obtain⟨q,rfl⟩:=dF.ptr hD
    have cP:=fX.n
    have jR:=(fX.get al.n (by omega) (by omega)).trans gm
    obtain⟨cj,h8⟩:∃g,g=bc.set (a1.n+9) (some (dI 14 bY.at' 0 bY.t (.ptr q 0) .au .au .au .ao .ao .ao)):=⟨_,rfl⟩
    have fu:cj.n=bc.n:=by rw[h8];rfl
    have nB:∀k,k≠a1.n+9->cj.get k=bc.get k:=λk ai=>by rw[h8];exact cr ai rfl
    have nP:=(nB al.n (by omega)).trans jR
    refine .inl ⟨q,bc,hB,by rw[<-h8];exact aN nP rfl,by rw[<-h8];exact aN nP rfl,?_⟩
    rw[<-h8,aj,<-g6]
    refine⟨_,cj,rfl,⟨a1.n+9,.ptr q 0,.au,.au,.au,.ao,.ao,.ao,[],[],rfl,⟨by omega,by omega⟩,by omega,by rw[h8];exact dz rfl,dF.cx (F:=λk=>(a1.room 11).n<=k/\k<bc.n) (h:=bc) (g:=cj) ⟨by omega,λk ai cO=>nB k (by omega)⟩ (λk ai cO=>⟨by omega,by omega⟩) x _ hD,rfl,rfl,rfl,.inl ⟨rfl,rfl⟩,.inl ⟨rfl,rfl⟩,rfl,.inl ⟨rfl,rfl⟩,rfl⟩,⟨(nB p (by omega)).trans kx.par,(nB c (by omega)).trans kx.row,by rw[fu];exact kx.cM,by rw[fu];exact kx.gq,kx.lt⟩,?_⟩
    have Eu:=H0.trans (by omega) fX
    exact⟨by have:=Eu.n;omega,λk ai da=>(nB k (by omega)).trans (Eu.get k ai da)⟩
 · rw[if_neg (by simp[ag])] at eH aj
   have u:=aiA m ah bO de nn oP hm lL eH
   rw[<-aj] at u
   cases r with
   |error f=>
    obtain⟨e,g,a6,aO,aZ⟩:=cB.back (show cB p c all d a1 f _ from u) oc
    exact .inr ⟨_,g,aO,e,g,a6,rfl,aZ⟩
   |ok fG=>
    obtain⟨x,b⟩:=fG
    obtain⟨v,bc,hB,hD,kx,fX⟩:=u
    obtain⟨q,rfl⟩:=dF.ptr hD
    exact .inl ⟨q,bc,hB,_,bc,rfl,dF.cx (F:=λk=>a1.n<=k/\k<bc.n) (h:=bc) (g:=bc) ⟨Nat.le_refl _,λ_ _ _=>rfl⟩ (λk ai cO=>⟨by omega,ai.2⟩) x _ hD,kx,oc.trans (by omega) fX⟩
theorem zG:an.underlying 181=some (.map 3 48):=by kernel_rfl
abbrev Ev(i b:Nat)(l:List bJ):ga:=⟨ad i,.slice b 0 l.length (.exact l.length),i⟩
def rY(b:Nat)(z:I):Prop:=z.get b=some (.map [Ev 0 (b+1) (n0 0),Ev 1 (b+2) (n0 1),Ev 2 (b+3) (n0 2),Ev 3 (b+4) (n0 3),Ev 4 (b+5) (n0 4)] 5)/\(∀k,k<5->z.get (b+1+k)=some (aD ((n0 k).map .str) 9))/\b+6<=z.n
theorem rY.ext{p:Nat}{y:I}(s:rY b y)(x:bU p y.n y z)(a3:p<b):rY b z:=by
 obtain⟨s1,s2,c4⟩:=s
 have:=x.n
 exact⟨(x.get b (by omega) (by omega)).trans s1,λk ai=>(x.get (b+1+k) (by omega) (by omega)).trans (s2 k ai),by omega⟩
theorem rY.len(s:rY b z):o2 an z 181 (.map b)=some (ad 5):=by
 simp only[o2,zG,s.1]
 rfl
theorem rY.look(s:rY b z):∀k,k<5->mY an z 181 (.map b) (ad k) false=some (.slice (b+1+k) 0 (n0 k).length (.exact (n0 k).length))
 |0,_=>zx zG (by kernel_rfl) s.1 (i:=0) (by kernel_rfl)
 |1,_=>zx zG (by kernel_rfl) s.1 (i:=1) (by kernel_rfl)
 |2,_=>zx zG (by kernel_rfl) s.1 (i:=2) (by kernel_rfl)
 |3,_=>zx zG (by kernel_rfl) s.1 (i:=3) (by kernel_rfl)
 |4,_=>zx zG (by kernel_rfl) s.1 (i:=4) (by kernel_rfl)
theorem Ew{H:I}{es:List ga}{k v:aa}{ob:b5}(ai:nC an 3 k=true)(aB:H.get b=some (.map es c))(ag:b<H.n)(aM:jN an (H.push ob) 3 k es 0=some none):∃g,iA an (H.push ob) 181 (.map b) k v=some g/\g.get b=some (.map (es++[⟨k,v,c⟩]) (c+1))/\g.n=H.n+1/\g.get H.n=some ob/\∀d,d<H.n->d≠b->g.get d=H.get d:=by
 obtain⟨g,cR,bd,bn,e2⟩:=vo (v:=v) zG ai (gN ag aB:(H.push ob).get b=_) aM
 exact⟨g,cR,bd,by rw[bn];rfl,(e2 H.n (by omega)).trans (dx rfl),λd aH aiF=>(e2 d aiF).trans (gN aH rfl)⟩
theorem aiG(m:Nat){p:Nat}{a:Nat}{y:I}(ah:Src all)(w:cL p c all a d y)(s:rY b y)(k:Nat)(ai:k<5):
  ∃g,Z (m+4) (.fn 38) [.ptr p 0,.slice (b+1+k) 0 (n0 k).length (.exact (n0 k).length)] y=.ret (.bool (dV all (n0 k) a)) g/\cL p c all (if dV all (n0 k) a then a+1 else a) d g/\bU p y.n y g:=by
 have c4:=s.2.2
 refine Bl m ah w (b:=b+1+k) (cp:=.exact (n0 k).length) (l:=n0 k) ?_ (by omega) (λi hi=>?_)
 · match k,ai with
   |0,_=>decide
   |1,_=>decide
   |2,_=>decide
   |3,_=>decide
   |4,_=>decide
 · refine aN (s.2.1 k ai) ?_
   rw[j0,List.getElem?_map,show 0+i*1=i by omega,List.getElem?_eq_getElem hi];rfl
def Ng(all:List bP)(L:Nat->bw bX)(d k lo:Nat):Prop:=∀(n:Nat),lo<=n->∀{p c a:Nat} {h:I},cL p c all a d h->Fin p c all d h (fP h.n) (L a) (Z n (.fn 91) [.ptr p 0,ad k] h)
theorem aiH(h:I):∃al,iA an ((h.push (.map [] 0)).push (aD [.str [111,114]] 9)) 181 (.map h.n) (ad 0) (.slice (h.n+1) 0 1 (.exact 1))=some al/\∃aw,iA an (al.push (aD [.str [97,110,100]] 9)) 181 (.map h.n) (ad 1) (.slice al.n 0 1 (.exact 1))=some aw/\∃a1,iA an (aw.push (aD [.str [61,61],.str [60]] 9)) 181 (.map h.n) (ad 2) (.slice aw.n 0 2 (.exact 2))=some a1/\∃a5,iA an (a1.push (aD [.str [43],.str [45],.str [46,46]] 9)) 181 (.map h.n) (ad 3) (.slice a1.n 0 3 (.exact 3))=some a5/\∃bc,iA an (a5.push (aD [.str [42]] 9)) 181 (.map h.n) (ad 4) (.slice a5.n 0 1 (.exact 1))=some bc/\rY h.n bc/\Ext h.n h bc:=by
 have dH:Ext h.n h (h.push (.map [] 0)):=Ext.push (Nat.le_refl _) _
 have k8:(h.push (.map [] 0)).n=h.n+1:=rfl
 obtain⟨al,cR,bd,bn,bt,e2⟩:=Ew (v:=.slice (h.n+1) 0 1 (.exact 1)) (ob:=aD [.str [111,114]] 9) (k:=ad 0) (by kernel_rfl) (dx rfl:(h.push (.map [] 0)).get h.n=some (.map [] 0)) (by omega) (by kernel_rfl)
 obtain⟨aw,gg,b2,b6,b3,eh⟩:=Ew (v:=.slice al.n 0 1 (.exact 1)) (ob:=aD [.str [97,110,100]] 9) (k:=ad 1) (by kernel_rfl) bd (by omega) (by kernel_rfl)
 obtain⟨a1,ry,dd,dc,hj,g4⟩:=Ew (v:=.slice aw.n 0 2 (.exact 2)) (ob:=aD [.str [61,61],.str [60]] 9) (k:=ad 2) (by kernel_rfl) b2 (by omega) (by kernel_rfl)
 obtain⟨a5,w6,gm,ct,gE,gW⟩:=Ew (v:=.slice a1.n 0 3 (.exact 3)) (ob:=aD [.str [43],.str [45],.str [46,46]] 9) (k:=ad 3) (by kernel_rfl) dd (by omega) (by kernel_rfl)
 obtain⟨bc,xn,jR,cP,Vi,mj⟩:=Ew (v:=.slice a5.n 0 1 (.exact 1)) (ob:=aD [.str [42]] 9) (k:=ad 4) (by kernel_rfl) gm (by omega) (by kernel_rfl)
 have aV:al.n=h.n+2:=by omega
 have aU:aw.n=h.n+3:=by omega
 have bu:a1.n=h.n+4:=by omega
 have e7:a5.n=h.n+5:=by omega
 have gL:bc.n=h.n+6:=by omega
 rw[k8] at bt
 rw[aV] at b3
 rw[aU] at hj
 rw[bu] at gE
 rw[e7] at Vi
 refine⟨al,cR,aw,gg,a1,ry,a5,w6,bc,xn,⟨?_,λk ai=>?_,by omega⟩,⟨by omega,λd aH=>?_⟩⟩
 · rw[jR,aV,aU,bu,e7];rfl
 · match k,ai with
   |0,_=>exact(mj _ (by omega) (by omega)).trans ((gW _ (by omega) (by omega)).trans ((g4 _ (by omega) (by omega)).trans ((eh _ (by omega) (by omega)).trans bt)))
   |1,_=>exact(mj _ (by omega) (by omega)).trans ((gW _ (by omega) (by omega)).trans ((g4 _ (by omega) (by omega)).trans b3))
   |2,_=>exact(mj _ (by omega) (by omega)).trans ((gW _ (by omega) (by omega)).trans hj)
   |3,_=>exact(mj _ (by omega) (by omega)).trans gE
   |4,_=>exact Vi
 · exact(mj d (by omega) (by omega)).trans ((gW d (by omega) (by omega)).trans ((g4 d (by omega) (by omega)).trans ((eh d (by omega) (by omega)).trans ((e2 d (by omega) (by omega)).trans (dH.get d aH)))))
def Vj(X:a8->Prop)(e:cl)(st:bD):Prop:=(∃v av g,e=.ret/\st=az av g/\iw an (e1 Tryz.f91) Tryz.f91 av g=some v/\X (.ret v g))\/∃v,e=.aK v/\st.d=[]/\X (.aK v st.h)
theorem Vk{X:a8->Prop}{n p k:Nat}{h:I}(H:∀bc,rY h.n bc->Ext h.n h bc->cg an Tryz.f91 (Z n) [1,1] (az [(0,.ptr p 0),(1,ad k),(5,.map h.n)] bc) (Vj X)):X (Z (n+1) (.fn 91) [.ptr p 0,ad k] h):=by
 obtain⟨al,cR,aw,gg,a1,ry,a5,w6,bc,xn,dq,fX⟩:=aiH h
 refine tz (P:=an) (intr:=fc) (n:=n) (R:=X) Tryz.func91 (by kernel_rfl) (by kernel_rfl) (by kernel_rfl) (Q:=Vj X) ?_ (λe st bB=>?_)
 rotate_left
 · rcases bB with⟨v,av,g,rfl,rfl,aW,jd⟩|⟨v,rfl,aH,jd⟩
   · exact .inl ⟨.inl rfl,rfl,v,aW,jd⟩
   · exact .inr ⟨v,rfl,aH,jd⟩
 refine e8 [] (aia _ p k h ?_)
 refine e8 [1] (aib _ p k h ⟨al,⟨cR,rfl⟩,aw,⟨gg,rfl⟩,a1,⟨ry,rfl⟩,a5,⟨w6,rfl⟩,bc,⟨xn,rfl⟩,?_⟩)
 exact H bc dq fX
theorem Vl{all:List bP}{U:Nat->bw bX}{d lo:Nat}(ah:Src all)(fY:Nd all U d lo)(Vm:ev U)(aQ:4<=lo):∀i k,k+i=5->Ng all (k9 all U i) d k (lo+1+i)
 |0,k,JF=>λn aT p c a h w=>by
  obtain rfl:k=5:=by omega
  obtain⟨n,rfl⟩:∃q,n=q+1:=⟨n-1,by omega⟩
  obtain⟨r,aj⟩:∃r,r=k9 all U 0 a:=⟨_,rfl⟩
  rw[<-aj]
  have aj:r=U a:=aj
  obtain⟨X,bk⟩:∃X,X=Fin p c all d h (fP h.n) r:=⟨_,rfl⟩
  rw[<-bk]
  refine Vk λbc dq fX=>?_
  have kx:=w.ext fX (Nat.le_refl _)
  have cP:=fX.n
  have u:=fY n (by omega) kx
  refine e8 [1,1] (U4 _ p 5 h.n bc ⟨5,dq.len,λ_=>?_,λai=>absurd rfl ai⟩)
  rw[<-aj] at u
  cases r with
  |error f=>
   obtain⟨e,g,a6,aO,aZ⟩:=cB.back (show cB p c all d bc f _ from u) (fX.eb p)
   exact .inr ⟨_,g,aO,.inr ⟨_,rfl,rfl,by rw[bk];exact⟨e,g,a6,rfl,aZ⟩⟩⟩
  |ok fG=>
   obtain⟨x,b⟩:=fG
   obtain⟨v,cj,kA,v6,ih,jJ⟩:=u
   obtain⟨q,rfl⟩:=dF.ptr v6
   exact .inl ⟨q,cj,kA,.inl ⟨.ptr q 0,_,cj,rfl,rfl,by kernel_rfl,by rw[bk];exact⟨_,cj,rfl,dF.cx (F:=λk=>bc.n<=k/\k<cj.n) (h:=cj) (g:=cj) ⟨Nat.le_refl _,λ_ _ _=>rfl⟩ (λk ai cO=>⟨by omega,ai.2⟩) x _ v6,ih,(fX.eb p).trans fX.n jJ⟩⟩⟩
 |i+1,k,JF=>λn aT p c a h w=>by
  obtain⟨n,rfl⟩:∃q,n=q+5:=⟨n-5,by omega⟩
  have bM:=Vl ah fY Vm aQ i (k+1) (by omega)
  have ns:ev (k9 all U i):=HA Vm i
  have a3:=w.cM
  have ak:=w.gq
  have hlen:=ah.len
  obtain⟨r,aj⟩:∃r,r=k9 all U (i+1) a:=⟨_,rfl⟩
  rw[<-aj]
  rw[k9,show 4-i=k by omega] at aj
  obtain⟨X,bk⟩:∃X,X=Fin p c all d h (fP h.n) r:=⟨_,rfl⟩
  rw[<-bk]
  refine Vk (n:=n+4) λbc dq fX=>?_
  have kx:=w.ext fX (Nat.le_refl _)
  have cP:=fX.n
  have vq:∀{f:rJ} {x:a8} {z:I},r=.error f->bU p h.n h z->cB p c all d z f x->∃v g,x=.aK v g/\X (.aK v g):=λ{f x z} e Ej ag=>by
   obtain⟨jb,g,a6,aO,aZ⟩:=ag.back Ej
   rw[bk,e]
   exact⟨_,g,aO,jb,g,a6,rfl,aZ⟩
  refine e8 [1,1] (U4 _ p k h.n bc ⟨5,dq.len,λai=>absurd ai (by omega),λ_=>?_⟩)
  have lc:=bM (n+4) (by omega) kx
  refine e8 [1,1,1] (aic _ p k h.n bc ⟨by omega,?_⟩)
  cases bB:k9 all U i a with
  |error f=>
   rw[bB] at lc aj
   obtain⟨v,g,aO,aZ⟩:=vq aj (fX.eb p) (show cB p c all d bc f _ from lc)
   exact .inr ⟨v,g,aO,.inr ⟨v,rfl,rfl,aZ⟩⟩
  |ok fG=>
   obtain⟨dH,bE⟩:=fG
   rw[bB] at lc
   simp only[bB] at aj
   obtain⟨u,cj,kA,v6,ih,jJ⟩:=lc
   obtain⟨aV,rfl⟩:=dF.ptr v6
   have fu:=jJ.n
   have eO:=dq.ext jJ a3
   have aiI:=(fX.eb p).trans fX.n jJ
   refine .inl ⟨aV,cj,kA,cg.block (p:=[1,1,1,1]) (id:=0) (by kernel_rfl) ?_⟩
   refine tA (λf st=>∃e a6 z q av,st=tI av z/\kN [(0,.ptr p 0),(1,ad k),(5,.map h.n),(6,.ptr q 0)] av/\cL p c all a6 d z/\rY h.n z/\dF (λj=>h.n<=j/\j<z.n) z e (.ptr q 0)/\bU p h.n h z/\all.length<=f+a6/\r=qI all (k9 all U i) k f a6 e) ?_ (all.length-bE) _ (by omega) ⟨dH,bE,cj,aV,_,rfl,⟨rfl,rfl,rfl,rfl,trivial⟩,ih,eO,dF.cx (F:=λk=>bc.n<=k/\k<cj.n) (h:=cj) (g:=cj) ⟨Nat.le_refl _,λ_ _ _=>rfl⟩ (λk ai cO=>⟨by omega,ai.2⟩) dH _ v6,aiI,by have:=ih.lt;omega,aj⟩
   rintro f st ⟨e,a6,z,q,av,rfl,jS,mc,sz,A8,hQ,aiJ,f_⟩
   obtain⟨f,rfl⟩:∃j,f=j+1:=⟨f-1,by have:=mc.lt;omega⟩
   have xq:=hQ.n
   obtain⟨bY,g6⟩:∃t,t=bR all a6:=⟨_,rfl⟩
   obtain⟨cN,d1,ej⟩:=oR (n+3) mc
   rw[<-g6] at d1
   have HR:=ej.n
   obtain⟨ea,aE⟩:∃g,g=(cN.push mh).set cN.n (some (aD (fm bY) 76)):=⟨_,rfl⟩
   have HU:ea.n=cN.n+1:=by rw[aE];rfl
   have fC:aJ.storeCells (cN.push mh) cN.n 0 (fm bY)=some ea:=by rw[aE];exact cy (dx rfl) rfl rfl
   have b2:ea.get cN.n=some (aD (fm bY) 76):=by rw[aE];exact dz rfl
   have gl:Ext z.n z ea:=by rw[aE];exact(Ext.k4 (by omega) ej).ix (by omega)
   have oa:=mc.ext gl (Nat.le_refl _)
   have Ex:=sz.ext (gl.eb p) a3
   obtain⟨dE,d3,oW,lq⟩:=aiG n ah oa Ex k (by omega)
   have M8:=lq.n
   have Vn:=Ex.ext lq a3
   have dd:=(lq.get cN.n (by omega) (by omega)).trans b2
   have xr:bU p h.n h dE:=(hQ.trans xq (gl.eb p)).trans (by omega) lq
   have up:∀{z g:I},h.n<=z.n->bU p z.n z g->dF (λk=>h.n<=k/\k<z.n) z e (.ptr q 0)->dF (λk=>h.n<=k/\k<g.n) g e (.ptr q 0):=λ{z g} bm x o=>dF.cx ⟨x.n,λk ai cO=>x.get k cO (by omega)⟩ (λk ai cO=>⟨ai.1,by have:=x.n;omega⟩) e _ o
   have Bu:=up (by omega) lq (up xq (gl.eb p) A8)
   unfold qI at f_
   refine kQ (aid _ p k h.n q z ⟨_,_,_,_,cN,d1,ea,fC,_,Ex.look k (by omega),_,dE,d3,λag=>?_,λag=>?_⟩) jS
   · rw[if_pos ag] at oW f_
     have lT:Ext dE.n dE (dE.room 12):=Ext.room _ _ _
     have UB:(dE.room 12).n=dE.n+12:=rfl
     have Nc:=oW.ext lT (Nat.le_refl _)
     have gm:=(lT.get cN.n (by omega)).trans dd
     have Vo:bU p h.n h (dE.room 12):=xr.trans (by omega) (lT.eb p)
     have amp:=Vn.ext (lT.eb p) a3
     have amq:=up (by omega) (lT.eb p) Bu
     have H2:=bM (n+4) (by omega) Nc
     refine⟨_,aN gm rfl,_,aN gm rfl,by omega,?_⟩
     cases he:k9 all U i (a6+1) with
     |error u5=>
      rw[he] at H2 f_
      obtain⟨v,g,aO,aZ⟩:=vq f_ Vo (show cB p c all d (dE.room 12) u5 _ from H2)
      exact .inr ⟨v,g,aO,.inr ⟨v,rfl,rfl,aZ⟩⟩
     |ok fG=>
      obtain⟨x,b⟩:=fG
      rw[he] at H2
      simp only[he] at f_
      obtain⟨v,s0,hB,hD,Ey,Bv⟩:=H2
      obtain⟨gL,rfl⟩:=dF.ptr hD
      have amr:=Bv.n
      have p1:=ns _ _ _ he
      have jR:=(Bv.get cN.n (by omega) (by omega)).trans gm
      obtain⟨pP,h8⟩:∃g,g=s0.set (dE.n+10) (some (dI 13 bY.at' 0 bY.t (.ptr q 0) (.ptr gL 0) .au .au .ao .ao .ao)):=⟨_,rfl⟩
      have Vp:pP.n=s0.n:=by rw[h8];rfl
      have nB:∀k,k≠dE.n+10->pP.get k=s0.get k:=λk ai=>by rw[h8];exact cr ai rfl
      have nP:=(nB cN.n (by omega)).trans jR
      have ams:bU p (dE.n+10) (dE.room 12) pP:=⟨by omega,λk ai da=>(nB k (by omega)).trans (Bv.get k (by omega) da)⟩
      have mO:dF (λk=>h.n<=k/\k<pP.n) pP e (.ptr q 0):=dF.cx (F:=λk=>h.n<=k/\k<dE.n) (h:=dE) (g:=pP) ⟨by omega,λk ai cO=>(nB k (by omega)).trans ((Bv.get k (by omega) (by omega)).trans (lT.get k cO))⟩ (λk ai cO=>⟨ai.1,by omega⟩) e _ Bu
      have jx:dF (λk=>h.n<=k/\k<pP.n) pP x (.ptr gL 0):=dF.cx (F:=λk=>(dE.room 12).n<=k/\k<s0.n) (h:=s0) (g:=pP) ⟨by omega,λk ai cO=>nB k (by omega)⟩ (λk ai cO=>⟨by omega,by omega⟩) x _ hD
      have aiK:cL p c all b d pP:=⟨(nB p (by omega)).trans Ey.par,(nB c (by omega)).trans Ey.row,by rw[Vp];exact Ey.cM,by rw[Vp];exact Ey.gq,Ey.lt⟩
      have aiL:rY h.n pP:=by
       obtain⟨t1,t2,t3⟩:=Vn
       have fg:∀k,k<dE.n->k≠p->pP.get k=dE.get k:=λk ai da=>(nB k (by omega)).trans ((Bv.get k (by omega) da).trans (lT.get k ai))
       exact⟨(fg _ (by omega) (by omega)).trans t1,λj aL=>(fg _ (by omega) (by omega)).trans (t2 j aL),by omega⟩
      have aiM:bU p h.n h pP:=by
       have Eu:=Vo.trans (by omega) Bv
       exact⟨by have:=Eu.n;omega,λk ai da=>(nB k (by omega)).trans (Eu.get k ai da)⟩
      refine .inl ⟨gL,s0,hB,by rw[<-h8];exact aN nP rfl,by rw[<-h8];exact aN nP rfl,f,Nat.lt_succ_self _,.mk 13 bY.at' 0 bY.t (some e) (some x) none none [] [] [],b,pP,dE.n+10,_,by rw[h8],⟨rfl,rfl,rfl,rfl,trivial⟩,aiK,aiL,⟨dE.n+10,.ptr q 0,.ptr gL 0,.au,.au,.ao,.ao,.ao,[],[],rfl,⟨by omega,by omega⟩,by omega,by rw[h8];exact dz rfl,mO,jx,rfl,rfl,.inl ⟨rfl,rfl⟩,.inl ⟨rfl,rfl⟩,rfl,.inl ⟨rfl,rfl⟩,rfl⟩,aiM,by omega,by rw[f_,g6]⟩
   · rw[if_neg (by simp[ag])] at oW f_
     refine .inl ⟨.ptr q 0,_,dE,rfl,rfl,by kernel_rfl,?_⟩
     rw[bk,f_]
     exact⟨_,dE,rfl,Bu,oW,xr⟩
end Go.Proofs.lv
