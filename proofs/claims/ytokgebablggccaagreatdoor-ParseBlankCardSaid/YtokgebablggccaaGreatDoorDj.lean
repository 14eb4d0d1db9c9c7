/- contracts of functions; no condition -/
import Derived.Test.YtokgebablggccaaGreatDoorDi
set_option linter.unusedVariables false
set_option linter.unusedSimpArgs false
set_option maxRecDepth 100000
set_option maxHeartbeats 1000000
namespace Go.Proofs.lv
open Go aJ Go.Proofs lp iI fO
variable {B a c cE d lo:Nat}{T:Nat->bw cG}{all:List bP}{h:I}{v:aa}
variable {Q:cl->bD->Prop} {R:a8->Prop} (call:e0)
@[reducible] def xO (a b:Nat)(s:List UInt8):=aD [ad 0,ad a,ad b,.str s,.au,.au,.au,.au,.ao,.ao,.ao] 61
theorem ahP{el sT:TypeId}(T:qf an vh 1 el sT){q:Nat}{w:aa}(bB:h.get q=some (aD [v] el))(DM:q<h.n)(aW:v.dJ=true)(hw:w.dJ=true):
  fi an (h.push (aD [w] el)) sT (some sT) (.slice q 0 1 (.exact 1)) (.slice h.n 0 1 (.exact 1))=some (.slice (h.n+1) 0 2 (.aX 1),(h.push (aD [w] el)).push (.cells [v,w] el .aX 0 0)):=by
 obtain⟨i,hi,bQ,x_⟩:=T.info
 obtain⟨z,bm,pc⟩:=T.zero
 have m8:jr (h.push (aD [w] el)) 1 (.slice h.n 0 1 (.exact 1))=some (1,[w]):=QB T h el (⟨w,hw⟩:vg)
 have nE:aJ.loadCells (h.push (aD [w] el)) q 0 (1*1)=some [v]:=rk (gN DM bB) rfl
 have hx:mX (1+1) i.bytes=true:=by
  unfold mX
  have J:(4*(1+1)+2048)*(i.bytes+1)<=3000*1001:=Nat.mul_le_mul (by omega) (by omega)
  simp;omega
 have ts:=ys (h:=h.push (aD [w] el)) (e:=el) (bytes:=i.bytes) (size:=1) (z:=z) (cs:=[v,w]) (fz:=0) hx (by rw[pc];rfl) (by simp[aW,hw])
 have ag:Nat.ble (1+1) 1=false:=rfl
 simp only[fi,T.hu,T.hF,hi,bm,bQ,m8,nE,ag]
 exact ts
def Ei(h:I)(q:Nat)(cp:dn)(vs:List aa):Prop:=∃pJ,h.get q=some (.cells (eK dT vs) 47 pJ 0 0)/\q<h.n/\((cp=.exact 1/\pJ=.own/\vs.length=1)\/(cp=.aX 1/\pJ=.aX/\2<=vs.length))
theorem ahQ{q:Nat}{cp:dn}{vs:List aa}(o:Ei h q cp vs)(aW:∀x∈vs,x.dJ=true){w:aa}(hw:w.dJ=true)(aA:vs.length<=200000):
  ∃g,fi an (h.push (aD [w] 47)) 49 (some 49) (.slice q 0 vs.length cp) (.slice h.n 0 1 (.exact 1))=some (.slice (h.n+1) 0 (vs++[w]).length (.aX 1),g)/\g.n=h.n+2/\Ei g (h.n+1) (.aX 1) (vs++[w])/\∀c,c<h.n->c≠q->g.get c=h.get c:=by
 obtain⟨pJ,J,ae,aq⟩:=o
 rcases aq with⟨rfl,rfl,bj⟩|⟨rfl,rfl,bj⟩
 · obtain⟨v,rfl⟩:∃v,vs=[v]:=by
     match vs,bj with
     |[v],_=>exact⟨v,rfl⟩
   have:=ahP MK (w:=w) J ae (aW v (by simp)) hw
   exact⟨_,this,rfl,⟨.aX,dx rfl,by simp,.inr ⟨rfl,rfl,by simp⟩⟩,λc ak UX=>gN (by simp;omega) (gN ak rfl)⟩
 · obtain⟨g,aO,aZ,bC,cX⟩:=MI MK (F:=λ_=>True) (v:=.slice q 0 vs.length (.aX 1)) (vs:=vs) (.inr ⟨q,rfl,by omega,J,trivial,ae⟩) aW hw aA
   exact⟨g,aO,aZ,⟨.aX,bC,by omega,.inr ⟨rfl,rfl,by simp;omega⟩⟩,λc ak UX=>cX c ak λn cp e=>UX (by injection e with e;exact e.symm)⟩
def M7(at':Nat):bw (List cG)->bw cG
 |.error e=>.error e
 |.ok ([x],c)=>.ok (x,c)
 |.ok (l,c)=>.ok (.mk 9 at' [] [] [] l none,c)
def sY(all:List bP)(T:Nat->bw cG)(a:Nat):bw cG:=match jV all T a with
 |.error e=>.error e
 |.ok (t,b)=>M7 (bR all a).at' (rL all T (all.length-b) b [t])
theorem ahR(all:List bP)(j:Nat):jk all (j+1)=sY all (jk all j):=by
 funext a
 unfold jk sY
 cases jV all (jk all j) a with
 |error e=>rfl
 |ok eW=>
  obtain⟨t,b⟩:=eW
  simp only
  cases rL all (jk all j) (all.length-b) b [t] with
  |error e=>rfl
  |ok lc=>
   obtain⟨l,c⟩:=lc
   match l with
   |[]=>rfl
   |[x]=>rfl
   |x::y::l=>rfl
theorem ahS(m:Nat)(ah:Src all)(de:pL all T d lo)(ns:ev T)(hm:lo<=m+5){p b:Nat}{y:I}(w:cL p c all a d y)(ag:y.get b=some (aD [.ptr p 0] 72))(iC:b<y.n):Fin p c all d y (qT y.n) (sY all T a) (Z (m+9) (.fn 85) [.ptr b 0] y):=by
 have hlen:=ah.len
 have a3:=w.cM
 have ak:=w.gq
 have e9:b≠p:=λe=>by
  have J:=w.par
  rw[<-e,ag] at J
  injection J with J;injection J with _ J;cases J
 obtain⟨bY,g6⟩:∃t,t=bR all a:=⟨_,rfl⟩
 obtain⟨r,aj⟩:∃r,r=sY all T a:=⟨_,rfl⟩
 rw[<-aj]
 obtain⟨X,bk⟩:∃X,X=Fin p c all d y (qT y.n) r:=⟨_,rfl⟩
 refine tz (P:=an) (intr:=fc) (n:=m+8) (R:=Fin p c all d y (qT y.n) r) Tryz.func85 (by kernel_rfl) (by kernel_rfl) (by kernel_rfl) (Q:=λe st=>(∃v g,e=.ret/\st=az [(1,v)] g/\X (.ret v g))\/∃v,e=.aK v/\st.d=[]/\X (.aK v st.h)) ?_ (λe st bB=>?_)
 rotate_left
 · rw[bk] at bB
   rcases bB with⟨v,g,rfl,rfl,jd⟩|⟨v,rfl,aH,jd⟩
   · exact .inl ⟨.inl rfl,rfl,v,(by kernel_rfl:iw an (e1 Tryz.f85) Tryz.f85 [(1,v)] g=some v),jd⟩
   · exact .inr ⟨v,rfl,aH,jd⟩
 refine e8 [] (ahy _ b y ?_)
 obtain⟨al,a9,bb⟩:=oR (m+7) w
 rw[<-g6] at a9
 have b_:=w.ext bb (Nat.le_refl _)
 have bn:=bb.n
 have bd:=(bb.get b iC).trans ag
 refine e8 [1] (ahz _ b y ⟨p,aN ag rfl,_,_,_,_,al,a9,?_⟩)
 have on:=UP m ah de ns hm b_
 refine e8 [1,1] (ahA _ b bY.at' al ⟨p,aN bd rfl,?_⟩)
 have UY:=bb.eb p
 have vq:∀{f:rJ} {x:a8} {z:I},r=.error f->bU p y.n y z->cB p c all d z f x->∃v g,x=.aK v g/\X (.aK v g):=λ{f x z} e Ej ag=>by
  obtain⟨jb,g,a6,aO,aZ⟩:=ag.back Ej
  rw[bk,e]
  exact⟨_,g,aO,jb,g,a6,rfl,aZ⟩
 cases bg:jV all T a with
 |error f=>
  rw[bg] at on
  obtain⟨v,g,aO,aZ⟩:=vq (by rw[aj];unfold sY;rw[bg]) UY (show cB p c all d al f _ from on)
  exact .inr ⟨v,g,aO,.inr ⟨v,rfl,rfl,aZ⟩⟩
 |ok eW=>
  obtain⟨t,iP⟩:=eW
  rw[bg] at on
  obtain⟨u,aw,cI,v2,b9,cw⟩:=on
  obtain⟨aU,rfl⟩:=ef.ptr v2
  have b6:=cw.n
  have amj:=Hy ns _ _ _ bg
  refine .inl ⟨aU,aw,cI,?_⟩
  obtain⟨a1,br⟩:∃g,g=aw.push (aD [.ptr aU 0] 47):=⟨_,rfl⟩
  have dc:a1.n=aw.n+1:=by rw[br];rfl
  have fN:Ext aw.n aw a1:=by rw[br];exact Ext.push (Nat.le_refl _) _
  rw[show(aw.push (aD [.ptr aU 0] 47))=a1 from br.symm]
  have ahT:bU p y.n y a1:=(UY.trans bn cw).trans (by omega) (fN.eb p)
  have eH:=b9.ext fN (Nat.le_refl _)
  have dd:a1.get b=some (aD [.ptr p 0] 72):=(fN.get b (by omega)).trans ((cw.get b (by omega) e9).trans bd)
  have zZ:r=M7 bY.at' (rL all T (all.length-iP) iP [t]):=by rw[aj];unfold sY;rw[bg,g6]
  refine e8 [1,1,1] (cg.block (p:=[1,1,1,0]) (id:=0) (by kernel_rfl) ?_)
  have dP:fx ef (λk=>y.n<=k/\k<a1.n/\k≠aw.n) a1 [t] [.ptr aU 0]:=⟨_,[],rfl,ef.cx (F:=λk=>al.n<=k/\k<aw.n) (h:=aw) (g:=a1) ⟨by omega,λk ai cO=>fN.get k cO⟩ (λk ai cO=>⟨by omega,by omega,by omega⟩) t _ v2,rfl⟩
  refine tA (λk st=>∃l a6 z q cp vs av,st=tI av z/\kN [(0,.ptr b 0),(2,ad bY.at'),(3,.slice q 0 vs.length cp)] av/\cL p c all a6 d z/\Ei z q cp vs/\y.n<=q/\fx ef (λk=>y.n<=k/\k<z.n/\k≠q) z l vs/\(∀x∈vs,x.dJ=true)/\bU p y.n y z/\z.get b=some (aD [.ptr p 0] 72)/\l.length+k<=all.length+1/\all.length<=k+a6/\r=M7 bY.at' (rL all T k a6 l)) ?_ (all.length-iP) _ (by omega) ⟨[t],iP,a1,aw.n,.exact 1,[.ptr aU 0],_,rfl,⟨rfl,rfl,rfl,trivial⟩,eH,⟨.own,by rw[br];exact dx rfl,by omega,.inl ⟨rfl,rfl,rfl⟩⟩,by omega,dP,λx ab=>(by rw[List.mem_singleton.1 ab];rfl),ahT,dd,by simp;have:=eH.lt;omega,by have:=eH.lt;omega,zZ⟩
  rintro k st ⟨l,a6,z,q,cp,vs,av,rfl,jS,mc,ahU,bB,el,tp,hQ,Ek,hA,ahV,f_⟩
  obtain⟨k,rfl⟩:∃j,k=j+1:=⟨k-1,by have:=mc.lt;omega⟩
  have xq:=hQ.n
  have HN:=el.len
  have bne:b≠q:=by omega
  obtain⟨cN,d1,vr,zE⟩:=vn (m+4) ah mc [[124]] (by simp)
  have HR:=zE.n
  have UZ:=(zE.get b (by omega) e9).trans Ek
  have HS:bU p y.n y cN:=hQ.trans xq zE
  have HT:Ei cN q cp vs:=by
   obtain⟨pJ,J,ae,aq⟩:=ahU
   exact⟨pJ,(zE.get q ae (by omega)).trans J,by omega,aq⟩
  have qP:fx ef (λk=>y.n<=k/\k<cN.n/\k≠q) cN l vs:=el.to ly ⟨HR,λj aL m1=>zE.get j m1 (by omega)⟩ λj aL m1=>⟨aL.1,by omega,aL.2.2⟩
  unfold rL at f_
  refine kQ (ahB _ b bY.at' _ z ⟨p,aN Ek rfl,dV all [[124]] a6,cN,d1,λjH=>?_,λjH=>?_⟩) jS
  · rw[if_pos jH] at vr f_
    have eh:=UP m ah de ns hm vr
    refine⟨p,aN UZ rfl,?_⟩
    cases tT:jV all T (a6+1) with
    |error f=>
     rw[tT] at eh f_
     obtain⟨v,g,aO,aZ⟩:=vq (by rw[f_];rfl) HS (show cB p c all d cN f _ from eh)
     exact .inr ⟨v,g,aO,.inr ⟨v,rfl,rfl,aZ⟩⟩
    |ok U0=>
     obtain⟨t2,b2⟩:=U0
     rw[tT] at eh f_
     obtain⟨g9,ea,d2,U1,oa,vt⟩:=eh
     obtain⟨bu,rfl⟩:=ef.ptr U1
     have HU:=vt.n
     have amk:=Hy ns _ _ _ tT
     have ahW:Ei ea q cp vs:=by
      obtain⟨pJ,J,ae,aq⟩:=HT
      exact⟨pJ,(vt.get q ae (by omega)).trans J,by omega,aq⟩
     have ahX:=HT
     obtain⟨_,_,aml,_⟩:=ahX
     have D3:fx ef (λk=>y.n<=k/\k<ea.n/\k≠q) ea l vs:=qP.to ly ⟨HU,λj aL m1=>vt.get j m1 (by omega)⟩ λj aL m1=>⟨aL.1,by omega,aL.2.2⟩
     have vv:ef (λk=>y.n<=k/\k<ea.n/\k≠q) ea t2 (.ptr bu 0):=ef.cx (F:=λk=>cN.n<=k/\k<ea.n) (h:=ea) (g:=ea) ⟨Nat.le_refl _,λ_ _ _=>rfl⟩ (λj aL m1=>⟨by omega,aL.2,by omega⟩) t2 _ U1
     have ahY:=fx.snoc vv D3
     obtain⟨dE,ap,M8,ahZ,El⟩:=ahQ ahW tp (w:=.ptr bu 0) rfl (by omega)
     have oW:cL p c all b2 d dE:=⟨(El p oa.cM (by omega)).trans oa.par,(El c oa.gq (by omega)).trans oa.row,by have:=oa.cM;omega,by have:=oa.gq;omega,oa.lt⟩
     have xr:bU p y.n y dE:=(HS.trans (by omega) vt).trans (Nat.le_refl _) ⟨by omega,λj aL tW=>El j (by omega) (by omega)⟩
     have ah0:fx ef (λk=>y.n<=k/\k<dE.n/\k≠ea.n+1) dE (l++[t2]) (vs++[.ptr bu 0]):=ahY.to ly ⟨by omega,λj aL m1=>El j m1 aL.2.2⟩ λj aL m1=>⟨aL.1,by omega,by omega⟩
     refine .inl ⟨bu,ea,d2,_,dE,ap,k,Nat.lt_succ_self _,l++[t2],b2,dE,ea.n+1,.aX 1,vs++[.ptr bu 0],_,rfl,⟨rfl,rfl,rfl,trivial⟩,oW,ahZ,by omega,ah0,λx ab=>?_,xr,(El b (by omega) bne).trans ((vt.get b (by omega) e9).trans UZ),by simp;omega,by omega,f_⟩
     rcases List.mem_append.1 ab with ab|ab
     · exact tp x ab
     · rw[List.mem_singleton.1 ab];rfl
  · rw[if_neg (by simp[jH])] at vr f_
    refine xj (kQ (ahC _ bY.at' q vs.length cp cN ⟨λJ=>?_,λJ=>?_⟩) ⟨rfl,rfl,trivial⟩)
    · obtain⟨x,rfl⟩:∃x,l=[x]:=by
        match l,HN.symm.trans J with
        |[x],_=>exact⟨x,rfl⟩
      obtain⟨v,ws,aG,ab,aE⟩:=qP
      have aE:ws=[]:=aE
      subst aG aE
      obtain⟨ah1,rfl⟩:=ef.ptr ab
      obtain⟨pJ,fF,g9,lQ⟩:=HT
      refine⟨by simp,ah1,aN fF rfl,.inl ⟨_,cN,rfl,rfl,?_⟩⟩
      rw[bk,f_]
      exact⟨_,cN,rfl,ef.cx ⟨Nat.le_refl _,λ_ _ _=>rfl⟩ (λj aL m1=>⟨aL.1,aL.2.1⟩) x _ ab,vr,HS⟩
    · obtain⟨pJ,fF,g9,lQ⟩:=HT
      rcases lQ with⟨_,_,aq⟩|⟨rfl,rfl,aq⟩
      · exact absurd aq J
      obtain⟨hR,dw⟩:∃g,g=cN.push (hf 9 bY.at' [] [] .ao (.slice q 0 vs.length (.aX 1)) .au):=⟨_,rfl⟩
      have ct:hR.n=cN.n+1:=by rw[dw];rfl
      have gO:Ext cN.n cN hR:=by rw[dw];exact Ext.push (Nat.le_refl _) _
      refine .inl ⟨_,hR,rfl,by rw[dw],?_⟩
      have D8:fx ef (λk=>y.n<=k/\k<hR.n) hR l vs:=qP.to ly ⟨by omega,λj aL m1=>gO.get j m1⟩ λj aL m1=>⟨aL.1,by omega⟩
      have ck:r=.ok (.mk 9 bY.at' [] [] [] l none,a6):=by
       rw[f_]
       match l,HN with
       |[],e=>rw[e] at aq;simp at aq
       |[x],e=>rw[e] at aq;simp at aq
       |x::cw::l,_=>rfl
      rw[bk,ck]
      exact⟨_,hR,rfl,⟨cN.n,.ao,.slice q 0 vs.length (.aX 1),.au,vs,rfl,⟨by omega,by omega⟩,by omega,by rw[dw];exact dx rfl,.inl ⟨rfl,rfl⟩,.inr ⟨q,rfl,by omega,(gO.get q g9).trans fF,⟨bB,by omega⟩,by omega⟩,np.els D8,rfl⟩,vr.ext gO (Nat.le_refl _),HS.trans (by omega) (gO.eb p)⟩
theorem ah2(m:Nat)(ah:Src all)(aH:d<40)(de:pL all T (d+1) lo)(ns:ev T)(hm:lo<=m+5){p:Nat}(w:cL p c all a d h):Fin p c all d h (qT h.n) (sY all T a) (Z (m+11) (.fn 42) [.ptr p 0] h):=by
 have a3:=w.cM
 obtain⟨h0,c_⟩:∃g,g=h.push (aD [.ptr p 0] 72):=⟨_,rfl⟩
 have k8:h0.n=h.n+1:=by rw[c_];rfl
 have dH:Ext h.n h h0:=by rw[c_];exact Ext.push (Nat.le_refl _) _
 have bE:h0.get h.n=some (aD [.ptr p 0] 72):=by rw[c_];exact dx rfl
 have w0:=w.ext dH (Nat.le_refl _)
 have vu:=ag_ (m+7) 0 (V:=qT h.n) (vf.ahF a3) ah w0 85 [] [.ptr h.n 0] aH (sY all T a) (λJ b_ bb=>by
  have t1:=ahS m ah de ns hm b_ (b:=h.n) ((bb.get h.n (by omega) (by omega)).trans bE) (by have:=bb.n;omega)
  have bn:=bb.n
  cases aI:sY all T a with
  |error f=>rw[aI] at t1;exact t1
  |ok eW=>
   obtain⟨t,b⟩:=eW
   rw[aI] at t1
   obtain⟨u,g,aO,aZ,bC,cX⟩:=t1
   exact⟨u,g,aO,ef.cx (F:=λk=>J.n<=k/\k<g.n) (h:=g) (g:=g) ⟨Nat.le_refl _,λ_ _ _=>rfl⟩ (λk ai cO=>⟨by omega,ai.2⟩) t _ aZ,bC,cX⟩)
 refine UK (m+10) p h (R:=Fin p c all d h (qT h.n) (sY all T a)) ?_
 rw[show(h.push (aD [.ptr p 0] 72))=h0 from c_.symm]
 refine⟨p,aN bE rfl,?_⟩
 cases aI:sY all T a with
 |error f=>
  rw[aI] at vu
  obtain⟨e,g,a6,aO,aZ⟩:=cB.back (show cB p c all d h0 f _ from vu) (dH.eb p)
  exact .inr ⟨_,g,aO,e,g,a6,rfl,aZ⟩
 |ok eW=>
  obtain⟨t,b⟩:=eW
  rw[aI] at vu
  obtain⟨u,g,aO,aZ,bC,cX⟩:=vu
  obtain⟨q,rfl⟩:=ef.ptr aZ
  exact .inl ⟨q,g,aO,_,g,rfl,aZ,bC,(dH.eb p).trans dH.n cX⟩
theorem ah3(m:Nat)(ah:Src all){p:Nat}(w:cL p c all a 40 h):Fin p c all 40 h (qT h.n) (jk all 0 a) (Z (m+4) (.fn 42) [.ptr p 0] h):=by
 obtain⟨h0,c_⟩:∃g,g=h.push (aD [.ptr p 0] 72):=⟨_,rfl⟩
 have dH:Ext h.n h h0:=by rw[c_];exact Ext.push (Nat.le_refl _) _
 have bE:h0.get h.n=some (aD [.ptr p 0] 72):=by rw[c_];exact dx rfl
 have w0:=w.ext dH (Nat.le_refl _)
 refine UK (m+3) p h (R:=Fin p c all 40 h (qT h.n) (jk all 0 a)) ?_
 rw[show(h.push (aD [.ptr p 0] 72))=h0 from c_.symm]
 obtain⟨e,g,a6,aO,aZ⟩:=cB.back (aha m ah w0 85 [] [.ptr h.n 0] rfl) (dH.eb p)
 exact⟨p,aN bE rfl,.inr ⟨_,g,aO,e,g,a6,rfl,aZ⟩⟩
theorem Bs{all:List bP}(ah:Src all):∀j d,d+j=40->pL all (jk all j) d (6*j+11)
 |0,d,aH=>λn aT p c a h w=>by
  obtain rfl:d=40:=by omega
  obtain⟨m,rfl⟩:∃m,n=m+4:=⟨n-4,by omega⟩
  exact ah3 m ah w
 |j+1,d,aH=>λn aT p c a h w=>by
  obtain⟨m,rfl⟩:∃m,n=m+11:=⟨n-11,by omega⟩
  rw[ahR]
  exact ah2 m ah (by omega) (Bs ah j (d+1) (by omega)) (nk j) (by omega) w
theorem ah4(m p:Nat)(h:I)(H:((∃al,Y m (.fn 40) [af p,.str [40]] h=.ret (.aF []) al/\((∃bn aw,Y m (.fn 46) [af p] al=.ret (af bn) aw/\((∃a1,Y m (.fn 40) [af p,.str [41]] aw=.ret (.aF []) a1/\R (.ret (af bn) a1))\/(∃v1 a5,Y m (.fn 40) [af p,.str [41]] aw=.aK v1 a5/\R (.aK v1 a5))))\/(∃v2 bc,Y m (.fn 46) [af p] al=.aK v2 bc/\R (.aK v2 bc))))\/(∃dP cj,Y m (.fn 40) [af p,.str [40]] h=.aK dP cj/\R (.aK dP cj)))):
  R (Y (m+1) (.fn 147) [af p] h):=
 mH [(5,.e none .o),(7,.e none .o),(9,.e none .o)] [] Tryz.func147 H
theorem U2(m a b:Nat)(h:I)(H:∃bn,aC (h.room 12) a 0=some (af bn)/\∃b6,aC (h.room 12) a 0=some (af b6)/\∃v1,aC (h.room 12) b6 8=some v1/\∃dc,aC (h.room 12) b 0=some (af dc)/\((∃s1 al,Y m (.fn 41) [af dc] (h.room 12)=.ret (.str s1) al/\∃v2 aw,fi an (I.set al (h.n+7) (some (aD [.str s1] 9))) 48 (some 48) v1 (.slice (h.n+7) 0 1 (.exact 1))=some (v2,aw)/\k5 v2/\∃a1,aJ.storeCells aw bn 8 [v2]=some a1/\aC aw a 0=some (af bn)/\aC (I.set al (h.n+7) (some (aD [.str s1] 9))) a 0=some (af bn)/\aC (I.set al (h.n+7) (some (aD [.str s1] 9))) a 0=some (af b6)/\kR v1/\aC (I.set al (h.n+7) (some (aD [.str s1] 9))) b6 8=some v1/\∃ct,aC a1 b 0=some (af ct)/\((∃a5,Y m (.fn 40) [af ct,.str [61]] a1=.ret (.aF []) a5/\∃cP,aC a5 b 0=some (af cP)/\((∃fu bc,Y m (.fn 46) [af cP] a5=.ret (af fu) bc/\R (.ret (af fu) bc))\/(∃dP cj,Y m (.fn 46) [af cP] a5=.aK dP cj/\R (.aK dP cj))))\/(∃v4 cK,Y m (.fn 40) [af ct,.str [61]] a1=.aK v4 cK/\R (.aK v4 cK))))\/(∃hD ee,Y m (.fn 41) [af dc] (h.room 12)=.aK hD ee/\kR v1/\R (.aK hD ee)))):
  R (Y (m+1) (.fn 146) [af a,af b] h):=
 mH [(7,.ep .o),(9,.e none .o),(11,.ep .o),(15,.e none .o),(17,.e none .o)] [] Tryz.func146 H
theorem ah5(m p:Nat)(h:I)(H:∃bn s1 b6 dc al,Y m (.fn 20) [af p] h=.ret (.agg [ad bn,.str s1,ad b6,ad dc]) al/\∃aw,aJ.storeCells (I.push al (aD [ad 0,.str [],ad 0,ad 0] 76)) al.n 0 [ad bn,.str s1,ad b6,ad dc]=some aw/\∃ct,aC aw al.n 3=some (ad ct)/\∃cP,aC aw al.n 2=some (ad cP)/\∃s2,aC aw al.n 1=some (.str s2)/\∃fu,aC (I.push aw (xO ct cP s2)) al.n 0=some (ad fu)/\(fu=3->∃a1,aJ.storeCells (I.push aw (xO ct cP s2)) aw.n 0 [ad 1]=some a1/\∃gR,aC a1 p 1=some (ad gR)/\gR+1<9223372036854775808/\∃a5,aJ.storeCells a1 p 1 [ad (gR+1)]=some a5/\R (.ret (af aw.n) a5))/\(¬fu=3->∃fZ,aC (I.push aw (xO ct cP s2)) al.n 0=some (ad fZ)/\(fZ=4->∃bc,aJ.storeCells (I.push aw (xO ct cP s2)) aw.n 0 [ad 2]=some bc/\∃jX,aC bc p 1=some (ad jX)/\jX+1<9223372036854775808/\∃cj,aJ.storeCells bc p 1 [ad (jX+1)]=some cj/\R (.ret (af aw.n) cj))/\(¬fZ=4->∃la,aC (I.push aw (xO ct cP s2)) al.n 0=some (ad la)/\(la=1->∃cK,aJ.storeCells (I.push aw (xO ct cP s2)) aw.n 0 [ad 6]=some cK/\∃n7,aC cK p 1=some (ad n7)/\n7+1<9223372036854775808/\∃ee,aJ.storeCells cK p 1 [ad (n7+1)]=some ee/\R (.ret (af aw.n) ee))/\(¬la=1->∃bd ez,Y m (.fn 83) [af p,.slice (I.n (I.push aw (xO ct cP s2))) 0 3 (.exact 3)] (I.push (I.push aw (xO ct cP s2)) (aD [.str [116,114,117,101],.str [102,97,108,115,101],.str [110,105,108]] 9))=.ret (.bool bd) ez/\(bd=true->∃hZ,(iA an (I.push ez (.map [] 0)) 200 (.map ez.n) (.str [116,114,117,101]) (ad 3)=some hZ/\aa.aF []=.aF [])/\∃fe,(iA an hZ 200 (.map ez.n) (.str [102,97,108,115,101]) (ad 4)=some fe/\aa.aF []=.aF [])/\∃hO,(iA an fe 200 (.map ez.n) (.str [110,105,108]) (ad 5)=some hO/\aa.aF []=.aF [])/\∃c4,aC hO al.n 1=some (.str c4)/\∃lb,mY an hO 200 (.map ez.n) (.str c4) false=some (ad lb)/\∃gX,aJ.storeCells hO aw.n 0 [ad lb]=some gX/\∃hg,aJ.storeCells gX aw.n 3 [.str []]=some hg/\∃lU,aC hg p 1=some (ad lU)/\lU+1<9223372036854775808/\∃gS,aJ.storeCells hg p 1 [ad (lU+1)]=some gS/\R (.ret (af aw.n) gS))/\(bd=false->R (.ret .au ez)))))):
  R (Y (m+1) (.fn 145) [af p] h):=
 mH [(46,.ep (.n .i64))] [] Tryz.func145 H
theorem U3(m p:Nat)(h:I)(H:∃bn,aC (I.push h (aD [af p] 72)) h.n 0=some (af bn)/\((∃b6 al,Y m (.fn 89) [af bn,.fn 90 [] [af h.n]] (I.push h (aD [af p] 72))=.ret (af b6) al/\R (.ret (af b6) al))\/(∃v1 aw,Y m (.fn 89) [af bn,.fn 90 [] [af h.n]] (I.push h (aD [af p] 72))=.aK v1 aw/\R (.aK v1 aw)))):
  R (Y (m+1) (.fn 46) [af p] h):=
 mH [(5,.e none .o)] [] Tryz.func46 H
theorem ah6(p:Nat)(h:I)(H:∃bn,aC (I.push (I.push h (aD [af p] 72)) (aD [.ao] 48)) h.n 0=some (af bn)/\((∃al,call (.fn 40) [af bn,.str [40]] (I.push (I.push h (aD [af p] 72)) (aD [.ao] 48))=.ret (.aF []) al/\∃b6,aC al h.n 0=some (af b6)/\((∃v1 aw,call (.fn 87) [af b6,.str [41],.fn 88 [] [.ptr (I.n (I.push h (aD [af p] 72))) 0,af h.n]] al=.ret v1 aw/\∃v2,aC aw (I.n (I.push h (aD [af p] 72))) 0=some v2/\k5 v2/\∃a1,aJ.storeCells aw (I.n (I.push h (aD [af p] 72))) 0 [v2]=some a1/\Q .ret (az [(2,.ptr (I.n (I.push h (aD [af p] 72))) 0),(3,v1)] a1))\/(∃dP a5,call (.fn 87) [af b6,.str [41],.fn 88 [] [.ptr (I.n (I.push h (aD [af p] 72))) 0,af h.n]] al=.aK dP a5/\Q (.aK dP) (az [(2,.ptr (I.n (I.push h (aD [af p] 72))) 0)] a5))))\/(∃v4 bc,call (.fn 40) [af bn,.str [40]] (I.push (I.push h (aD [af p] 72)) (aD [.ao] 48))=.aK v4 bc/\Q (.aK v4) (az [(2,.ptr (I.n (I.push h (aD [af p] 72))) 0),(3,.ao)] bc)))):
  cg an Tryz.f43 call [] (az [(0,af p)] h) Q:=
 dR [(5,.e none .o),(8,.e (some .o) .o),(9,.ep .o)] [2,3] [] H
theorem ah7(m p:Nat)(h:I)(H:∃bn s1 b6 dc al,Y m (.fn 20) [af p] h=.ret (.agg [ad bn,.str s1,ad b6,ad dc]) al/\∃aw,aJ.storeCells (I.push al (aD [ad 0,.str [],ad 0,ad 0] 76)) al.n 0 [ad bn,.str s1,ad b6,ad dc]=some aw/\∃bd a1,Y m (.fn 38) [af p,.slice aw.n 0 2 (.exact 2)] (I.push aw (aD [.str [110,111,116],.str [45]] 9))=.ret (.bool bd) a1/\(bd=true->∃ct,aC (a1.room 11) al.n 3=some (ad ct)/\∃s2,aC (a1.room 11) al.n 1=some (.str s2)/\((∃cP a5,Y m (.fn 89) [af p,.fn 121 [af p] []] (a1.room 11)=.ret (af cP) a5/\aC (I.set a5 (a1.n+9) (some (aD [ad 14,ad ct,ad 0,.str s2,af cP,.au,.au,.au,.ao,.ao,.ao] 61))) al.n 3=some (ad ct)/\aC (I.set a5 (a1.n+9) (some (aD [ad 14,ad ct,ad 0,.str s2,af cP,.au,.au,.au,.ao,.ao,.ao] 61))) al.n 1=some (.str s2)/\R (.ret (af (a1.n+9)) (I.set a5 (a1.n+9) (some (aD [ad 14,ad ct,ad 0,.str s2,af cP,.au,.au,.au,.ao,.ao,.ao] 61)))))\/(∃v1 bc,Y m (.fn 89) [af p,.fn 121 [af p] []] (a1.room 11)=.aK v1 bc/\R (.aK v1 bc))))/\(bd=false->((∃fu cj,Y m (.fn 136) [af p] a1=.ret (af fu) cj/\R (.ret (af fu) cj))\/(∃v2 cK,Y m (.fn 136) [af p] a1=.aK v2 cK/\R (.aK v2 cK))))):
  R (Y (m+1) (.fn 121) [af p] h):=
 mH [(11,.e none .o),(19,.e none .o)] [] Tryz.func121 H
theorem ah8(p:Nat)(h:I)(H:Q .nrm (az [(0,af p)] h)):
  cg an Tryz.f136 call [0] (az [(0,af p)] h) Q:=
 dR [] [0] [] H
theorem ah9(p:Nat)(h:I)(H:((∃bn al,call (.fn 142) [af p] h=.ret (af bn) al/\Q .nrm (az [(0,af p),(3,af bn)] al))\/(∃v1 aw,call (.fn 142) [af p] h=.aK v1 aw/\Q (.aK v1) (az [(0,af p)] aw)))):
  cg an Tryz.f136 call [1,0] (az [(0,af p)] h) Q:=
 dR [(6,.e none .o)] [0,3] [] H
theorem ah_(p l:Nat)(h:I)(H:∃bn s1 b6 dc al,call (.fn 20) [af p] h=.ret (.agg [ad bn,.str s1,ad b6,ad dc]) al/\∃bd aw,call (.fn 38) [af p,.slice al.n 0 1 (.exact 1)] (I.push al (aD [.str [46]] 9))=.ret (.bool bd) aw/\(bd=true->((∃s2 a1,call (.fn 41) [af p] aw=.ret (.str s2) a1/\Q .nrm (az [(0,af p),(3,af a1.n)] (I.push a1 (aD [ad 7,ad dc,ad 0,.str s2,af l,.au,.au,.au,.ao,.ao,.ao] 61))))\/(∃v1 a5,call (.fn 41) [af p] aw=.aK v1 a5/\Q (.aK v1) (az [(0,af p)] a5))))/\(bd=false->∃b2 bc,call (.fn 38) [af p,.slice aw.n 0 1 (.exact 1)] (I.push aw (aD [.str [40]] 9))=.ret (.bool b2) bc/\(b2=true->((∃v2 cj,call (.fn 143) [af p,.str [41],.fn 46 [af p] []] bc=.ret v2 cj/\k5 v2/\k5 v2/\Q .nrm (az [(0,af p),(3,af cj.n)] (I.push cj (aD [ad 9,ad dc,ad 0,.str [],af l,.au,.au,.au,.ao,.ao,v2] 61))))\/(∃dP cK,call (.fn 143) [af p,.str [41],.fn 46 [af p] []] bc=.aK dP cK/\Q (.aK dP) (az [(0,af p)] cK))))/\(b2=false->Q .ret (az [(0,af p),(2,af l),(3,af l)] bc)))):
  cg an Tryz.f136 call [1,1,0,0] (az [(0,af p),(3,af l)] h) Q:=
 dR [(18,.e none .o),(30,.e (some .o) .o)] [0,2,3] [] H
theorem aia(p k:Nat)(h:I)(H:Q .nrm (az [(0,af p),(1,ad k)] h)):
  cg an Tryz.f91 call [0] (az [(0,af p),(1,ad k)] h) Q:=
 dR [] [0,1] [] H
theorem aib(p k:Nat)(h:I)(H:∃al,(iA an (I.push (I.push h (.map [] 0)) (aD [.str [111,114]] 9)) 181 (.map h.n) (ad 0) (.slice (I.n (I.push h (.map [] 0))) 0 1 (.exact 1))=some al/\aa.aF []=.aF [])/\∃aw,(iA an (I.push al (aD [.str [97,110,100]] 9)) 181 (.map h.n) (ad 1) (.slice al.n 0 1 (.exact 1))=some aw/\aa.aF []=.aF [])/\∃a1,(iA an (I.push aw (aD [.str [61,61],.str [60]] 9)) 181 (.map h.n) (ad 2) (.slice aw.n 0 2 (.exact 2))=some a1/\aa.aF []=.aF [])/\∃a5,(iA an (I.push a1 (aD [.str [43],.str [45],.str [46,46]] 9)) 181 (.map h.n) (ad 3) (.slice a1.n 0 3 (.exact 3))=some a5/\aa.aF []=.aF [])/\∃bc,(iA an (I.push a5 (aD [.str [42]] 9)) 181 (.map h.n) (ad 4) (.slice a5.n 0 1 (.exact 1))=some bc/\aa.aF []=.aF [])/\Q .nrm (az [(0,af p),(1,ad k),(5,.map h.n)] bc)):
  cg an Tryz.f91 call [1,0] (az [(0,af p),(1,ad k)] h) Q:=
 dR [] [0,1,5] [] H
theorem U4(p k b:Nat)(h:I)(H:∃bn,o2 an h 181 (.map b)=some (ad bn)/\(k=bn->((∃b6 al,call (.fn 121) [af p] h=.ret (af b6) al/\Q .ret (az [(0,af p),(1,ad k),(4,af b6),(5,.map b)] al))\/(∃v1 aw,call (.fn 121) [af p] h=.aK v1 aw/\Q (.aK v1) (az [(0,af p),(1,ad k),(5,.map b)] aw))))/\(¬k=bn->Q .nrm (az [(0,af p),(1,ad k),(5,.map b)] h))):
  cg an Tryz.f91 call [1,1,0] (az [(0,af p),(1,ad k),(5,.map b)] h) Q:=
 dR [(17,.ep (.n .i64)),(20,.e none .o)] [0,1,4,5] [] H
theorem aic(p k b:Nat)(h:I)(H:k+1<9223372036854775808/\((∃bn al,call (.fn 91) [af p,ad (k+1)] h=.ret (af bn) al/\Q .nrm (az [(0,af p),(1,ad k),(5,.map b),(6,af bn)] al))\/(∃v1 aw,call (.fn 91) [af p,ad (k+1)] h=.aK v1 aw/\Q (.aK v1) (az [(0,af p),(1,ad k),(5,.map b)] aw)))):
  cg an Tryz.f91 call [1,1,1,0] (az [(0,af p),(1,ad k),(5,.map b)] h) Q:=
 dR [(24,.e none .o)] [0,1,5,6] [] H
theorem aid(p k b l:Nat)(h:I)(H:∃bn s1 b6 dc al,call (.fn 20) [af p] h=.ret (.agg [ad bn,.str s1,ad b6,ad dc]) al/\∃aw,aJ.storeCells (I.push al (aD [ad 0,.str [],ad 0,ad 0] 76)) al.n 0 [ad bn,.str s1,ad b6,ad dc]=some aw/\∃v1,mY an aw 181 (.map b) (ad k) false=some v1/\∃bd a1,call (.fn 38) [af p,v1] aw=.ret (.bool bd) a1/\(bd=true->∃ct,aC (a1.room 12) al.n 3=some (ad ct)/\∃s2,aC (a1.room 12) al.n 1=some (.str s2)/\k+1<9223372036854775808/\((∃cP a5,call (.fn 91) [af p,ad (k+1)] (a1.room 12)=.ret (af cP) a5/\aC (I.set a5 (a1.n+10) (some (aD [ad 13,ad ct,ad 0,.str s2,af l,af cP,.au,.au,.ao,.ao,.ao] 61))) al.n 3=some (ad ct)/\aC (I.set a5 (a1.n+10) (some (aD [ad 13,ad ct,ad 0,.str s2,af l,af cP,.au,.au,.ao,.ao,.ao] 61))) al.n 1=some (.str s2)/\Q .nrm (az [(0,af p),(1,ad k),(5,.map b),(6,af (a1.n+10))] (I.set a5 (a1.n+10) (some (aD [ad 13,ad ct,ad 0,.str s2,af l,af cP,.au,.au,.ao,.ao,.ao] 61)))))\/(∃v2 bc,call (.fn 91) [af p,ad (k+1)] (a1.room 12)=.aK v2 bc/\Q (.aK v2) (az [(0,af p),(1,ad k),(5,.map b)] bc))))/\(bd=false->Q .ret (az [(0,af p),(1,ad k),(4,af l),(5,.map b),(6,af l)] a1))):
  cg an Tryz.f91 call [1,1,1,1,0,0] (az [(0,af p),(1,ad k),(5,.map b),(6,af l)] h) Q:=
 dR [(30,.ep .o),(42,.e none .o)] [0,1,4,5,6] [] H
abbrev U5(B:Nat):Option cG->aa->I->Prop:=λt v g=>ik (λk=>B<=k/\k<g.n) g t v
theorem oX:nr ik:=λF G h g x w ab e m=>ik.cx e m x w ab
theorem ik.cell{F:c6}{t:Option cG}(o:ik F h t v):v.dJ=true/\v.sound=true:=by
 cases t with
 |none=>have e:v=.au:=o;subst e;exact⟨rfl,rfl⟩
 |some t=>obtain⟨r,rfl⟩:=ef.ptr (show ef F h t v from o);exact⟨rfl,rfl⟩
theorem M9(m:Nat)(ah:Src all)(de:pL all T d lo)(hm:lo<=m+4){p:Nat}(w:cL p c all a d h):Fin p c all d h (U5 h.n) (pz all T a) (Z (m+5) (.fn 45) [.ptr p 0] h):=by
 obtain⟨al,a9,b_,bb⟩:=vn m ah w [[58]] (by simp)
 have bn:=bb.n
 obtain⟨r,aj⟩:∃r,r=pz all T a:=⟨_,rfl⟩
 rw[<-aj]
 unfold pz at aj
 refine ahv (m+4) p h (R:=Fin p c all d h (U5 h.n) r) ⟨_,al,a9,λag=>?_,λag=>?_⟩
 · rw[if_pos ag] at b_ aj
   have ty:=de (m+4) hm b_
   cases aI:T (a+1) with
   |error f=>
    rw[aI] at ty aj
    obtain⟨e,g,a6,aO,aZ⟩:=cB.back (show cB p c all d al f _ from ty) bb
    rw[aj]
    exact .inr ⟨_,g,aO,e,g,a6,rfl,aZ⟩
   |ok eW=>
    obtain⟨t,b⟩:=eW
    rw[aI] at ty aj
    obtain⟨u,g,aO,aZ,bC,cX⟩:=ty
    obtain⟨q,rfl⟩:=ef.ptr aZ
    rw[aj]
    refine .inl ⟨q,g,aO,_,g,rfl,?_,bC,bb.trans bn cX⟩
    exact ef.cx (F:=λk=>al.n<=k/\k<g.n) (h:=g) (g:=g) ⟨Nat.le_refl _,λ_ _ _=>rfl⟩ (λk ai cO=>⟨by omega,ai.2⟩) t _ aZ
 · rw[if_neg (by simp[ag])] at b_ aj
   rw[aj]
   exact⟨_,al,rfl,rfl,b_,bb⟩
def Em(p jy cE B:Nat)(l:List (bJ×Option cG))(y:I)(O:c6):Prop:=
 ∃bV,y.get jy=some (aD [bV] 48)/\y.get cE=some (aD [.ptr p 0] 72)/\(jy<y.n/\cE<y.n)/\fD kV 1 9 (λk=>B<=k) y bV (l.map (·.1))/\∀k,O k<->(k=jy\/k=cE\/∃n cp,bV=.slice k 0 n cp)
theorem Em.ok{p jy:Nat}(a3:p<B)(J:B<=jy)(aq:B<=cE):vj p B (Em p jy cE B) where
 cx:=λl y g O aL aT ai=>by
  obtain⟨bV,fS,iE,⟨h1,jo⟩,fo,eX⟩:=aL
  refine⟨bV,(ai jy h1 ((eX _).2 (.inl rfl))).trans fS,(ai cE jo ((eX _).2 (.inr (.inl rfl)))).trans iE,⟨by omega,by omega⟩,?_,eX⟩
  rcases fo with fo|⟨q,e,aO,aZ,bC,cX⟩
  · exact .inl fo
  · exact .inr ⟨q,e,aO,(ai q cX ((eX _).2 (.inr (.inr ⟨_,_,e⟩)))).trans aZ,bC,by omega⟩
 up:=λl y O aL k cJ=>by
  obtain⟨bV,fS,iE,⟨h1,jo⟩,fo,eX⟩:=aL
  rcases(eX k).1 cJ with rfl|rfl|⟨n,cp,e⟩
  · exact⟨J,h1⟩
  · exact⟨aq,jo⟩
  · rcases fo with⟨aE,_⟩|⟨q,aE,_,_,bC,cX⟩
    · rw[aE] at e;cases e
    · rw[aE] at e;cases e;exact⟨bC,cX⟩
 ne:=a3
theorem aie(m:Nat)(ah:Src all)(de:pL all T d lo)(hm:lo<=m+4){p jy:Nat}(a3:p<B)(ak:c<B)(J:B<=jy)(aq:B<=cE)(dk:jy≠cE):
  zp p c all d B (Em p jy cE B) (λF g x w=>ik F g x.2 w) (pA all T) (λy=>Z (m+6) (.fn 88) [.ptr jy 0,.ptr cE 0] y):=by
 intro l a y O aA eU w aL
 obtain⟨bV,fS,iE,⟨h1,jo⟩,fo,eX⟩:=aL
 obtain⟨ej,aG⟩:∃g,g=y.room 6:=⟨_,rfl⟩
 have bn:ej.n=y.n+6:=by rw[aG];rfl
 have bb:Ext y.n y ej:=by rw[aG];exact Ext.room _ _ _
 have b_:=w.ext bb (Nat.le_refl _)
 have c8:=(bb.get jy h1).trans fS
 have gf:=(bb.get cE jo).trans iE
 have xo:bV.sound=true:=fo.cell.2
 have amm:bV.dJ=true:=fo.cell.1
 have dB:=sL (m+1) ah b_
 show vi _ _ _ _ _ _ _ _ _ _ _ (Z (m+6) _ _ y)
 cases aT:ij all a with
 |error f=>
  rw[aT] at dB
  obtain⟨e,g,a6,aO,aZ⟩:=cB.rQ (B:=B) (h:=y) (show cB p c all d ej f _ from dB) (by omega) ((bb.le eU).eb p)
  have ck:pA all T a=.error f:=by unfold pA;rw[aT]
  rw[ck]
  exact UM (m+5) jy cE y (R:=iV p c all d B y f) (by rw[<-aG];exact⟨bV,aN c8 rfl,p,aN gf rfl,.inr ⟨_,g,aO,xo,⟨e,g,a6,rfl,aZ⟩⟩⟩)
 |ok ch=>
  obtain⟨s,b⟩:=ch
  rw[aT] at dB
  obtain⟨v,al,a9,rfl,b9,cw⟩:=dB
  have b6:=cw.n
  obtain⟨aw,aE⟩:∃g,g=al.set (y.n+3) (some (aD [.str s] 9)):=⟨_,rfl⟩
  have gg:aw.n=al.n:=by rw[aE];rfl
  have eh:∀k,k<y.n->k≠p->aw.get k=y.get k:=λk ai da=>by
   rw[aE];exact(cr (by omega) rfl).trans ((cw.get k (by omega) da).trans (bb.get k ai))
  have u0:=w.cM
  have xQ:=w.gq
  have Ec:fD kV 1 9 (λk=>B<=k) aw bV (l.map (·.1)):=fo.cx ⟨by omega,λk ai cO=>eh k cO (by omega)⟩
  obtain⟨a1,ap,dc,dd,g4⟩:=M0 (s:=s) (b:=y.n+3) Ec (by rw[aE];exact dz rfl) (M1 (all:=all) aA)
  have n6:∀k,k<y.n->¬O k->∀n cp,bV≠ .slice k 0 n cp:=λk ai cJ n cp e=>cJ ((eX k).2 (.inr (.inr ⟨n,cp,e⟩)))
  have sQ:∀k n cp,bV=.slice k 0 n cp->B<=k:=λk n cp e=>by
   rcases fo with⟨aE,_⟩|⟨q,aE,_,_,bC,_⟩
   · rw[aE] at e;cases e
   · rw[aE] at e;cases e;exact bC
  have bC:∀k,k<y.n->k≠p->(∀n cp,bV≠ .slice k 0 n cp)->a1.get k=y.get k:=λk ai da aW=>(g4 k (by omega) aW).trans (eh k ai da)
  have eH:cL p c all b d a1:=by
   have aV:aw.get p=al.get p:=by rw[aE];exact cr (by omega) rfl
   have aU:aw.get c=al.get c:=by rw[aE];exact cr (by omega) rfl
   exact⟨(g4 p (by omega) λn cp e=>by have:=sQ _ _ _ e;omega).trans (aV.trans b9.par),(g4 c (by omega) λn cp e=>by have:=sQ _ _ _ e;omega).trans (aU.trans b9.row),by omega,by omega,b9.lt⟩
  have iN:jy≠p/\cE≠p:=⟨by omega,by omega⟩
  have d1:=(bC jy h1 iN.1 (fo.out.ne fS (.inl (by simp)))).trans fS
  have d3:=(bC cE jo iN.2 (fo.out.ne iE (.inl (by simp)))).trans iE
  have Ed:=(eh jy h1 iN.1).trans fS
  obtain⟨lz,iy⟩:∃v,v=aa.slice aw.n 0 (l.map (·.1)++[s]).length (.aX 1):=⟨_,rfl⟩
  obtain⟨a5,dw⟩:∃g,g=a1.set jy (some (aD [lz] 48)):=⟨_,rfl⟩
  have ct:a5.n=a1.n:=by rw[dw];rfl
  have gW:∀k,k≠jy->a5.get k=a1.get k:=λk ai=>by rw[dw];exact cr ai rfl
  have f1:a5.get jy=some (aD [lz] 48):=by rw[dw];exact dz rfl
  have f3:=(gW cE (Ne.symm dk)).trans d3
  have f4:a5.get aw.n=some (.cells (eK kV (l.map (·.1)++[s])) 9 .aX 0 0):=(gW aw.n (by omega)).trans dd
  have jD:cL p c all b d a5:=⟨(gW p (by omega)).trans eH.par,(gW c (by omega)).trans eH.row,by rw[ct];exact eH.cM,by rw[ct];exact eH.gq,eH.lt⟩
  have cX:∀k,k<y.n->k≠p->¬O k->a5.get k=y.get k:=λk ai da cJ=>(gW k λe=>cJ ((eX k).2 (.inl e))).trans (bC k ai da (n6 k ai cJ))
  have Ef:∀k,O k->B<=k:=λk cJ=>by
   rcases(eX k).1 cJ with rfl|rfl|⟨n,cp,e⟩
   · exact J
   · exact aq
   · exact sQ _ _ _ e
  have gO:bU p B y a5:=⟨by omega,λk ai da=>cX k (by omega) da λcJ=>by have:=Ef k cJ;omega⟩
  have nQ:=M9 m ah de hm jD
  have go:∀{R:a8->Prop},((∃dP bc,Z (m+5) (.fn 45) [.ptr p 0] a5=.ret dP bc/\R (.ret dP bc))\/∃dP bc,Z (m+5) (.fn 45) [.ptr p 0] a5=.aK dP bc/\R (.aK dP bc))->R (Z (m+6) (.fn 88) [.ptr jy 0,.ptr cE 0] y):=λ{R} H=>
   UM (m+5) jy cE y (R:=R) (by
    rw[<-aG]
    refine⟨bV,aN c8 rfl,p,aN gf rfl,.inl ⟨s,al,a9,lz,a1,?_,by rw[iy];rfl,a5,by rw[dw];exact cy d1 rfl (by rw[iy];rfl),xo,?_,p,aN f3 rfl,H⟩⟩
    · rw[iy,<-ap,aE]
    · rw[<-aE];exact aN Ed rfl)
  cases aI:pz all T b with
  |error f=>
   rw[aI] at nQ
   obtain⟨e,g,a6,aV,aU⟩:=cB.rQ (show cB p c all d a5 f _ from nQ) (by omega) gO
   have ck:pA all T a=.error f:=by unfold pA;rw[aT];simp only[aI]
   rw[ck]
   exact go (R:=iV p c all d B y f) (.inr ⟨_,g,aV,⟨e,g,a6,rfl,aU⟩⟩)
  |ok eW=>
   obtain⟨t,dd⟩:=eW
   rw[aI] at nQ
   obtain⟨u,cj,kA,v6,ih,jJ⟩:=nQ
   have fu:=jJ.n
   have ck:pA all T a=.ok ((s,t),dd):=by unfold pA;rw[aT];simp only[aI]
   rw[ck]
   have fg:∀k,k<a5.n->k≠p->cj.get k=a5.get k:=λk ai da=>jJ.get k (by omega) da
   have xp:∀k,(∃n cp,lz=.slice k 0 n cp)->k=aw.n:=λk ⟨n,cp,e⟩=>by rw[iy] at e;injection e with e;exact e.symm
   refine go (R:=vi p c all d B (Em p jy cE B) (λF g x w=>ik F g x.2 w) l y O (.ok ((s,t),dd))) (.inl ⟨u,cj,kA,?_⟩)
   refine⟨_,cj,λk=>k=jy\/k=cE\/∃n cp,lz=.slice k 0 n cp,rfl,v6.cell.1,ih,⟨lz,(fg jy (by omega) iN.1).trans f1,(fg cE (by omega) iN.2).trans f3,⟨by omega,by omega⟩,?_,λk=>Iff.rfl⟩,?_,⟨by omega,λk ai da cJ=>(fg k (by omega) da).trans (cX k ai da cJ)⟩,λk ai=>?_⟩
   · rw[iy,List.map_append]
     exact .inr ⟨aw.n,rfl,by simp,(fg aw.n (by omega) (by omega)).trans f4,by omega,by omega⟩
   · refine ik.cx ⟨Nat.le_refl _,λ_ _ _=>rfl⟩ (λk ai cO=>⟨by omega,ai.2,λar=>?_⟩) t _ v6
     rcases ar with rfl|rfl|ar
     · omega
     · omega
     · have:=xp k ar;omega
   · rcases ai with rfl|rfl|ar
     · exact .inl ((eX _).2 (.inl rfl))
     · exact .inl ((eX _).2 (.inr (.inl rfl)))
     · have:=xp k ar;exact .inr ⟨by omega,by omega⟩
theorem aif{b:Nat}{bV:aa}(aA:h.get b=some (aD [bV] 48)):iw an (e1 Tryz.f43) Tryz.f43 [(2,.ptr b 0),(3,v)] h=some (.aF [bV,v]):=by
 have aG:Tryz.f43.results.toList=[ResultVar.cell 2 48,ResultVar.tmp 3]:=by kernel_rfl
 have aE:Nat.testBit (e1 Tryz.f43) 2=true:=by kernel_rfl
 have o8:Nat.testBit (e1 Tryz.f43) 3=true:=by kernel_rfl
 have br:oh an 48=some false:=by kernel_rfl
 have hh:gk 2 [(2,aa.ptr b 0),(3,v)]=some (.ptr b 0):=rfl
 have kF:gk 3 [(2,aa.ptr b 0),(3,v)]=some v:=rfl
 have xN:aC h b 0=some bV:=aN aA rfl
 unfold iw
 rw[aG]
 simp only[o6,aJ.rj,aE,br,hh,o8,kF,xN]
def HV(F:c6)(g:I)(l:List (bJ×Option cG))(v:aa):Prop:=∃bV ey us,v=.aF [bV,ey]/\fD kV 1 9 F g bV (l.map (·.1))/\fD dT 1 47 F g ey us/\fx ik F g (l.map (·.2)) us
theorem U6(m:Nat)(ah:Src all)(de:pL all T d lo)(ns:ev T)(hm:lo<=m+4){p:Nat}(w:cL p c all a d h):Fin p c all d h (λl v g=>HV (λk=>h.n<=k/\k<g.n) g l v) (rM all T a) (Z (m+8) (.fn 43) [.ptr p 0] h):=by
 have a3:=w.cM
 have ak:=w.gq
 obtain⟨J,aG⟩:∃g,g=(h.push (aD [.ptr p 0] 72)).push (aD [.ao] 48):=⟨_,rfl⟩
 have bn:J.n=h.n+2:=by rw[aG];rfl
 have bb:Ext h.n h J:=by rw[aG];exact Ext.k4 (by simp) (Ext.push (Nat.le_refl _) _)
 have En:J.get h.n=some (aD [.ptr p 0] 72):=by rw[aG];exact gN (by simp) (dx rfl)
 have aih:J.get (h.n+1)=some (aD [.ao] 48):=by rw[aG];exact dx rfl
 have b_:=w.ext bb (Nat.le_refl _)
 obtain⟨r,aj⟩:∃r,r=rM all T a:=⟨_,rfl⟩
 rw[<-aj]
 unfold rM at aj
 obtain⟨X,bk⟩:∃X,X=Fin p c all d h (λl v g=>HV (λk=>h.n<=k/\k<g.n) g l v) r:=⟨_,rfl⟩
 rw[<-bk]
 refine tz (P:=an) (intr:=fc) (n:=m+7) (R:=X) Tryz.func43 (by kernel_rfl) (by kernel_rfl) (by kernel_rfl) (Q:=λe st=>(∃bV v g,e=.ret/\st=az [(2,.ptr (h.n+1) 0),(3,v)] g/\g.get (h.n+1)=some (aD [bV] 48)/\X (.ret (.aF [bV,v]) g))\/∃v,e=.aK v/\st.d=[]/\X (.aK v st.h)) ?_ (λe st bB=>?_)
 rotate_left
 · rcases bB with⟨bV,v,g,rfl,rfl,aB,jd⟩|⟨v,rfl,aH,jd⟩
   · exact .inl ⟨.inl rfl,rfl,_,aif aB,jd⟩
   · exact .inr ⟨v,rfl,aH,jd⟩
 refine ah6 _ p h ?_
 rw[show((h.push (aD [.ptr p 0] 72)).push (aD [.ao] 48))=J from aG.symm,show(h.push (aD [.ptr p 0] 72)).n=h.n+1 from rfl]
 have dY:=mi (m+2) ah b_ [40]
 refine⟨p,aN En rfl,?_⟩
 cases eB:e_ all [40] a with
 |error f=>
  rw[eB] at dY aj
  obtain⟨e,g,a6,aO,aZ⟩:=cB.back (show cB p c all d J f _ from dY) (bb.eb p)
  refine .inr ⟨_,g,aO,.inr ⟨_,rfl,rfl,?_⟩⟩
  rw[bk,aj]
  exact⟨e,g,a6,rfl,aZ⟩
 |ok bd=>
  rw[eB] at dY aj
  obtain⟨aw,cI,b9,cw⟩:=dY
  have b6:=cw.n
  have U7:=(cw.get h.n (by omega) (by omega)).trans En
  have aii:=(cw.get (h.n+1) (by omega) (by omega)).trans aih
  have fJ:bU p h.n h aw:=(bb.eb p).trans bb.n cw
  have L:=ML (m+1) ah b9 [41] (B:=h.n) fJ.n (fv:=.fn 88 [] [.ptr (h.n+1) 0,.ptr h.n 0]) (xs:=[.ptr (h.n+1) 0,.ptr h.n 0]) (.inl rfl) (S8 ns) (Em.ok a3 (Nat.le_succ _) (Nat.le_refl _)) (λF G h g x w ab e m=>ik.cx e m x.2 w ab) (aie m ah de hm a3 ak (Nat.le_succ _) (Nat.le_refl _) (by omega)) (O0:=λk=>k=h.n+1\/k=h.n\/∃n cp,aa.ao=.slice k 0 n cp) ⟨.ao,aii,U7,⟨by omega,by omega⟩,.inl ⟨rfl,rfl⟩,λk=>Iff.rfl⟩
  refine .inl ⟨aw,cI,p,aN U7 rfl,?_⟩
  cases aA:j_ all [41] (pA all T) bd with
  |error f=>
   simp only[aA] at aj
   rw[aA] at L
   obtain⟨e,g,a6,aO,aZ⟩:=iV.Eh (show iV p c all d h.n _ f _ from L) fJ
   refine .inr ⟨_,g,aO,.inr ⟨_,rfl,rfl,?_⟩⟩
   rw[bk,aj]
   exact⟨e,g,a6,rfl,aZ⟩
  |ok km=>
   obtain⟨l,b⟩:=km
   simp only[aA] at aj
   rw[aA] at L
   obtain⟨v,cK,gj,mm,jq,⟨bV,fS,iE,⟨h1,jo⟩,fo,eX⟩,⟨ws,hz,el⟩,gA,bg⟩:=L
   have gR:=gA.n
   have lB:bU p h.n h cK:=fJ.trans (Nat.le_refl _) ⟨gR,λk ai da=>gA.get k (by omega) da λcJ=>by
    rcases cJ with rfl|rfl|⟨_,_,e⟩
    · omega
    · omega
    · cases e⟩
   obtain⟨ee,kF⟩:∃g,g=cK.set (h.n+1) (some (aD [bV] 48)):=⟨_,rfl⟩
   have fZ:ee.n=cK.n:=by rw[kF];rfl
   have ny:∀k,ee.get k=cK.get k:=λk=>by
    rw[kF]
    by_cases ai:k=h.n+1
    · rw[ai];exact(dz rfl).trans fS.symm
    · exact cr ai rfl
   have j2:∀F:c6,jK F cK ee:=λF=>⟨by omega,λk _ _=>ny k⟩
   refine .inl ⟨v,cK,mm,bV,aN fS rfl,fo.cell.1,ee,by rw[kF];exact cy fS rfl (by simp only[gK,fo.cell.1]),.inl ⟨bV,v,ee,rfl,rfl,(ny _).trans fS,?_⟩⟩
   rw[bk,aj]
   refine⟨_,ee,rfl,⟨bV,v,ws,rfl,?_,hz.to (j2 _) λk ai _=>⟨by omega,by omega⟩,(fx.map (W:=ik) (·.2) (el.imp λt v ab=>ik.cx (j2 _) (λk ai _=>⟨by omega,by omega⟩) t.2 v ab))⟩,⟨(ny p).trans jq.par,(ny c).trans jq.row,by rw[fZ];exact jq.cM,by rw[fZ];exact jq.gq,jq.lt⟩,by rw[kF];exact lB.ix (by omega)⟩
   rcases fo with⟨aV,aU⟩|⟨q,aV,aU,bu,e7,gL⟩
   · exact .inl ⟨aV,aU⟩
   · exact .inr ⟨q,aV,aU,(ny q).trans bu,⟨e7,by omega⟩,by omega⟩
abbrev fP(B:Nat):bX->aa->I->Prop:=λt v g=>dF (λk=>B<=k/\k<g.n) g t v
theorem eZ:nr dF:=λF G h g x w ab e m=>dF.cx e m x w ab
theorem vf.U8{p:Nat}(a3:p<B):vf p (fP B):=λt v g fT ab e=>dF.cx ⟨e.n,λb ag aT=>e.get b aT (by omega)⟩ (λb ag aT=>⟨ag.1,by have:=e.n;omega⟩) t v ab
theorem dF.ptr{F:c6}{t:bX}(o:dF F h t v):∃r,v=.ptr r 0:=by
 cases t
 obtain⟨r,_,_,_,_,_,_,_,_,_,J,_⟩:=o
 exact⟨r,J⟩
def sZ(all:List bP)(E:Nat->bw bX)(d lo:Nat):Prop:=∀(n:Nat),lo<=n->∀{p c a:Nat} {h:I},cL p c all a d h->Fin p c all d h (fP h.n) (E a) (Z n (.fn 46) [.ptr p 0] h)
theorem U9(m:Nat){E:Nat->bw bX}(ah:Src all)(bO:sZ all E d lo)(hm:lo<=m+5){p:Nat}(w:cL p c all a d h):Fin p c all d h (fP h.n) (nZ all E a) (Z (m+6) (.fn 147) [.ptr p 0] h):=by
 obtain⟨r,aj⟩:∃r,r=nZ all E a:=⟨_,rfl⟩
 rw[<-aj]
 unfold nZ at aj
 refine ah4 (m+5) p h (R:=Fin p c all d h (fP h.n) r) ?_
 have dY:=mi m ah w [40]
 cases eB:e_ all [40] a with
 |error f=>
  rw[eB] at dY aj
  obtain⟨e,g,a6,aO,aZ⟩:=(show cB p c all d h f _ from dY)
  rw[aj]
  exact .inr ⟨_,g,aO,e,g,a6,rfl,aZ⟩
 |ok bd=>
  rw[eB] at dY
  simp only[eB] at aj
  obtain⟨al,a9,b_,bb⟩:=dY
  have bn:=bb.n
  have ex:=bO (m+5) hm b_
  refine .inl ⟨al,a9,?_⟩
  cases he:E bd with
  |error f=>
   rw[he] at ex aj
   obtain⟨e,g,a6,aO,aZ⟩:=cB.back (show cB p c all d al f _ from ex) bb
   rw[aj]
   exact .inr ⟨_,g,aO,e,g,a6,rfl,aZ⟩
  |ok fG=>
   obtain⟨x,b2⟩:=fG
   rw[he] at ex
   simp only[he] at aj
   obtain⟨u,aw,cI,v2,b9,cw⟩:=ex
   obtain⟨q,rfl⟩:=dF.ptr v2
   have b6:=cw.n
   have fJ:=bb.trans bn cw
   have mn:=mi m ah b9 [41]
   refine .inl ⟨q,aw,cI,?_⟩
   cases lL:e_ all [41] b2 with
   |error f=>
    rw[lL] at mn aj
    obtain⟨e,g,a6,aO,aZ⟩:=cB.back (show cB p c all d aw f _ from mn) fJ
    rw[aj]
    exact .inr ⟨_,g,aO,e,g,a6,rfl,aZ⟩
   |ok dd=>
    rw[lL] at mn
    simp only[lL] at aj
    obtain⟨a1,gF,eH,fN⟩:=mn
    have dc:=fN.n
    have u0:=w.cM
    refine .inl ⟨a1,gF,?_⟩
    rw[aj]
    exact⟨_,a1,rfl,dF.cx (F:=λk=>al.n<=k/\k<aw.n) (h:=aw) (g:=a1) ⟨dc,λk ai cO=>fN.get k cO (by omega)⟩ (λk ai cO=>⟨by omega,by omega⟩) x _ v2,eH,fJ.trans (by omega) fN⟩
def Eo(p bL b1 cE at' B:Nat)(l:List (bJ×bX))(y:I)(O:c6):Prop:=
 ∃bV,y.get bL=some (dI 8 at' 0 [] .au .au .au .au bV .ao .ao)/\y.get b1=some (aD [.ptr bL 0] 40)/\y.get cE=some (aD [.ptr p 0] 72)/\(bL<y.n/\b1<y.n/\cE<y.n)/\fD kV 1 9 (λk=>B<=k) y bV (l.map (·.1))/\∀k,O k<->(k=bL\/k=b1\/k=cE\/∃n cp,bV=.slice k 0 n cp)
theorem Eo.ok{p bL b1 at':Nat}(a3:p<B)(J:B<=bL)(ae:B<=b1)(aq:B<=cE):vj p B (Eo p bL b1 cE at' B) where
 cx:=λl y g O aL aT ai=>by
  obtain⟨bV,fS,iD,iE,⟨h1,kW,jo⟩,fo,eX⟩:=aL
  refine⟨bV,(ai bL h1 ((eX _).2 (.inl rfl))).trans fS,(ai b1 kW ((eX _).2 (.inr (.inl rfl)))).trans iD,(ai cE jo ((eX _).2 (.inr (.inr (.inl rfl))))).trans iE,⟨by omega,by omega,by omega⟩,?_,eX⟩
  rcases fo with fo|⟨q,e,aO,aZ,bC,cX⟩
  · exact .inl fo
  · exact .inr ⟨q,e,aO,(ai q cX ((eX _).2 (.inr (.inr (.inr ⟨_,_,e⟩))))).trans aZ,bC,by omega⟩
 up:=λl y O aL k cJ=>by
  obtain⟨bV,fS,iD,iE,⟨h1,kW,jo⟩,fo,eX⟩:=aL
  rcases(eX k).1 cJ with rfl|rfl|rfl|⟨n,cp,e⟩
  · exact⟨J,h1⟩
  · exact⟨ae,kW⟩
  · exact⟨aq,jo⟩
  · rcases fo with⟨aE,_⟩|⟨q,aE,_,_,bC,cX⟩
    · rw[aE] at e;cases e
    · rw[aE] at e;cases e;exact⟨bC,cX⟩
 ne:=a3
theorem aij(m:Nat){T:Nat->bw bX}(ah:Src all)(de:sZ all T d lo)(hm:lo<=m+5){p bL b1 at':Nat}(a3:p<B)(ak:c<B)(J:B<=bL)(ae:B<=b1)(aq:B<=cE)(dk:bL≠b1/\bL≠cE/\b1≠cE):
  zp p c all d B (Eo p bL b1 cE at' B) (λF g x w=>dF F g x.2 w) (lR all T) (λy=>Z (m+6) (.fn 146) [.ptr b1 0,.ptr cE 0] y):=by
 intro l a y O aA eU w aL
 obtain⟨bV,fS,iD,iE,⟨h1,kW,jo⟩,fo,eX⟩:=aL
 obtain⟨ej,aG⟩:∃g,g=y.room 12:=⟨_,rfl⟩
 have bn:ej.n=y.n+12:=by rw[aG];rfl
 have bb:Ext y.n y ej:=by rw[aG];exact Ext.room _ _ _
 have b_:=w.ext bb (Nat.le_refl _)
 have c8:=(bb.get bL h1).trans fS
 have c9:=(bb.get b1 kW).trans iD
 have gf:=(bb.get cE jo).trans iE
 have xo:bV.sound=true:=fo.cell.2
 have dB:=sL (m+1) ah b_
 show vi _ _ _ _ _ _ _ _ _ _ _ (Z (m+6) _ _ y)
 cases aT:ij all a with
 |error f=>
  rw[aT] at dB
  obtain⟨e,g,a6,aO,aZ⟩:=cB.rQ (B:=B) (h:=y) (show cB p c all d ej f _ from dB) (by omega) ((bb.le eU).eb p)
  have ck:lR all T a=.error f:=by unfold lR;rw[aT]
  rw[ck]
  exact U2 (m+5) b1 cE y (R:=iV p c all d B y f) (by rw[<-aG];exact⟨bL,aN c9 rfl,bL,aN c9 rfl,bV,aN c8 rfl,p,aN gf rfl,.inr ⟨_,g,aO,xo,⟨e,g,a6,rfl,aZ⟩⟩⟩)
 |ok ch=>
  obtain⟨s,b⟩:=ch
  rw[aT] at dB
  obtain⟨v,al,a9,rfl,b9,cw⟩:=dB
  have b6:=cw.n
  obtain⟨aw,aE⟩:∃g,g=al.set (y.n+7) (some (aD [.str s] 9)):=⟨_,rfl⟩
  have gg:aw.n=al.n:=by rw[aE];rfl
  have eh:∀k,k<y.n->k≠p->aw.get k=y.get k:=λk ai da=>by
   rw[aE];exact(cr (by omega) rfl).trans ((cw.get k (by omega) da).trans (bb.get k ai))
  have u0:=w.cM
  have xQ:=w.gq
  have Ec:fD kV 1 9 (λk=>B<=k) aw bV (l.map (·.1)):=fo.cx ⟨by omega,λk ai cO=>eh k cO (by omega)⟩
  obtain⟨a1,ap,dc,dd,g4⟩:=M0 (s:=s) (b:=y.n+7) Ec (by rw[aE];exact dz rfl) (M1 (all:=all) aA)
  have n6:∀k,k<y.n->¬O k->∀n cp,bV≠ .slice k 0 n cp:=λk ai cJ n cp e=>cJ ((eX k).2 (.inr (.inr (.inr ⟨n,cp,e⟩))))
  have zy:∀k,(k=bL\/k=b1\/k=cE)->k≠p->k<y.n->(∀n cp,bV≠ .slice k 0 n cp):=λk ai da cO n cp e=>by
   rcases ai with rfl|rfl|rfl
   · exact fo.out.ne fS (.inl (by simp)) n cp e
   · exact fo.out.ne iD (.inl (by simp)) n cp e
   · exact fo.out.ne iE (.inl (by simp)) n cp e
  have bC:∀k,k<y.n->k≠p->(∀n cp,bV≠ .slice k 0 n cp)->a1.get k=y.get k:=λk ai da aW=>(g4 k (by omega) aW).trans (eh k ai da)
  have eH:cL p c all b d a1:=by
   have M3:∀n cp,bV≠ .slice p 0 n cp:=λn cp e=>by
    rcases fo with⟨aE,_⟩|⟨q,aE,_,_,bC,_⟩
    · rw[aE] at e;cases e
    · rw[aE] at e;cases e;omega
   have m0:∀n cp,bV≠ .slice c 0 n cp:=λn cp e=>by
    rcases fo with⟨aE,_⟩|⟨q,aE,_,_,bC,_⟩
    · rw[aE] at e;cases e
    · rw[aE] at e;cases e;omega
   have aV:aw.get p=al.get p:=by rw[aE];exact cr (by omega) rfl
   have aU:aw.get c=al.get c:=by rw[aE];exact cr (by omega) rfl
   exact⟨(g4 p (by omega) M3).trans (aV.trans b9.par),(g4 c (by omega) m0).trans (aU.trans b9.row),by omega,by omega,b9.lt⟩
  have iN:bL≠p/\b1≠p/\cE≠p:=⟨by omega,by omega,by omega⟩
  have d1:=(bC bL h1 iN.1 (zy bL (.inl rfl) iN.1 h1)).trans fS
  have d2:=(bC b1 kW iN.2.1 (zy b1 (.inr (.inl rfl)) iN.2.1 kW)).trans iD
  have d3:=(bC cE jo iN.2.2 (zy cE (.inr (.inr rfl)) iN.2.2 jo)).trans iE
  have Ed:=(eh bL h1 iN.1).trans fS
  have Ee:=(eh b1 kW iN.2.1).trans iD
  obtain⟨lz,iy⟩:∃v,v=aa.slice aw.n 0 (l.map (·.1)++[s]).length (.aX 1):=⟨_,rfl⟩
  obtain⟨a5,dw⟩:∃g,g=a1.set bL (some (dI 8 at' 0 [] .au .au .au .au lz .ao .ao)):=⟨_,rfl⟩
  have ct:a5.n=a1.n:=by rw[dw];rfl
  have gW:∀k,k≠bL->a5.get k=a1.get k:=λk ai=>by rw[dw];exact cr ai rfl
  have f1:a5.get bL=some (dI 8 at' 0 [] .au .au .au .au lz .ao .ao):=by rw[dw];exact dz rfl
  have f2:=(gW b1 (Ne.symm dk.1)).trans d2
  have f3:=(gW cE (Ne.symm dk.2.1)).trans d3
  have f4:a5.get aw.n=some (.cells (eK kV (l.map (·.1)++[s])) 9 .aX 0 0):=(gW aw.n (by omega)).trans dd
  have jD:cL p c all b d a5:=⟨(gW p (by omega)).trans eH.par,(gW c (by omega)).trans eH.row,by rw[ct];exact eH.cM,by rw[ct];exact eH.gq,eH.lt⟩
  have cX:∀k,k<y.n->k≠p->¬O k->a5.get k=y.get k:=λk ai da cJ=>(gW k λe=>cJ ((eX k).2 (.inl e))).trans (bC k ai da (n6 k ai cJ))
  have Ef:∀k,O k->B<=k:=λk cJ=>by
   rcases(eX k).1 cJ with rfl|rfl|rfl|⟨n,cp,e⟩
   · exact J
   · exact ae
   · exact aq
   · rcases fo with⟨aE,_⟩|⟨q,aE,_,_,bC,_⟩
     · rw[aE] at e;cases e
     · rw[aE] at e;cases e;exact bC
  have gO:bU p B y a5:=⟨by omega,λk ai da=>cX k (by omega) da λcJ=>by have:=Ef k cJ;omega⟩
  have dY:=mi m ah jD [61]
  have go:∀{R:a8->Prop},((∃bc,Z (m+5) (.fn 40) [.ptr p 0,.str [61]] a5=.ret (.aF []) bc/\∃cP,aC bc cE 0=some (.ptr cP 0)/\((∃fu cj,Z (m+5) (.fn 46) [.ptr cP 0] bc=.ret (.ptr fu 0) cj/\R (.ret (.ptr fu 0) cj))\/∃dP cj,Z (m+5) (.fn 46) [.ptr cP 0] bc=.aK dP cj/\R (.aK dP cj)))\/∃v4 cK,Z (m+5) (.fn 40) [.ptr p 0,.str [61]] a5=.aK v4 cK/\R (.aK v4 cK))->R (Z (m+6) (.fn 146) [.ptr b1 0,.ptr cE 0] y):=λ{R} H=>
   U2 (m+5) b1 cE y (R:=R) (by
    rw[<-aG]
    refine⟨bL,aN c9 rfl,bL,aN c9 rfl,bV,aN c8 rfl,p,aN gf rfl,.inl ⟨s,al,a9,lz,a1,?_,by rw[iy];rfl,a5,by rw[dw];exact cy d1 rfl (by rw[iy];rfl),aN d2 rfl,?_,?_,xo,?_,p,aN f3 rfl,H⟩⟩
    · rw[iy,<-ap,aE]
    · rw[<-aE];exact aN Ee rfl
    · rw[<-aE];exact aN Ee rfl
    · rw[<-aE];exact aN Ed rfl)
  cases eB:e_ all [61] b with
  |error f=>
   rw[eB] at dY
   obtain⟨e,g,a6,aV,aU⟩:=cB.rQ (show cB p c all d a5 f _ from dY) (by omega) gO
   have ck:lR all T a=.error f:=by unfold lR;rw[aT];simp only[eB]
   rw[ck]
   exact go (R:=iV p c all d B y f) (.inr ⟨_,g,aV,⟨e,g,a6,rfl,aU⟩⟩)
  |ok b2=>
   rw[eB] at dY
   obtain⟨bc,hB,kx,fX⟩:=dY
   have cP:=fX.n
   have ty:=de (m+5) hm kx
   have M4:bU p B y bc:=gO.trans (by omega) fX
   have Eg:=(fX.get cE (by omega) iN.2.2).trans f3
   cases aI:T b2 with
   |error f=>
    rw[aI] at ty
    obtain⟨e,g,a6,aV,aU⟩:=cB.rQ (show cB p c all d bc f _ from ty) (by omega) M4
    have ck:lR all T a=.error f:=by unfold lR;rw[aT];simp only[eB,aI]
    rw[ck]
    exact go (R:=iV p c all d B y f) (.inl ⟨bc,hB,p,aN Eg rfl,.inr ⟨_,g,aV,⟨e,g,a6,rfl,aU⟩⟩⟩)
   |ok eW=>
    obtain⟨t,dd⟩:=eW
    rw[aI] at ty
    obtain⟨u,cj,kA,v6,ih,jJ⟩:=ty
    obtain⟨r,rfl⟩:=dF.ptr v6
    have fu:=jJ.n
    have ck:lR all T a=.ok ((s,t),dd):=by unfold lR;rw[aT];simp only[eB,aI]
    rw[ck]
    have fg:∀k,k<a5.n->k≠p->cj.get k=a5.get k:=λk ai da=>(jJ.get k (by omega) da).trans (fX.get k ai da)
    have xp:∀k,(∃n cp,lz=.slice k 0 n cp)->k=aw.n:=λk ⟨n,cp,e⟩=>by rw[iy] at e;injection e with e;exact e.symm
    refine go (R:=vi p c all d B (Eo p bL b1 cE at' B) (λF g x w=>dF F g x.2 w) l y O (.ok ((s,t),dd))) (.inl ⟨bc,hB,p,aN Eg rfl,.inl ⟨r,cj,kA,?_⟩⟩)
    refine⟨_,cj,λk=>k=bL\/k=b1\/k=cE\/∃n cp,lz=.slice k 0 n cp,rfl,rfl,ih,⟨lz,(fg bL (by omega) iN.1).trans f1,(fg b1 (by omega) iN.2.1).trans f2,(fg cE (by omega) iN.2.2).trans f3,⟨by omega,by omega,by omega⟩,?_,λk=>Iff.rfl⟩,?_,⟨by omega,λk ai da cJ=>(fg k (by omega) da).trans (cX k ai da cJ)⟩,λk ai=>?_⟩
    · rw[iy,List.map_append]
      exact .inr ⟨aw.n,rfl,by simp,(fg aw.n (by omega) (by omega)).trans f4,by omega,by omega⟩
    · refine dF.cx ⟨Nat.le_refl _,λ_ _ _=>rfl⟩ (λk ai cO=>⟨by omega,ai.2,λar=>?_⟩) t _ v6
      rcases ar with rfl|rfl|rfl|ar
      · omega
      · omega
      · omega
      · have:=xp k ar;omega
    · rcases ai with rfl|rfl|rfl|ar
      · exact .inl ((eX _).2 (.inl rfl))
      · exact .inl ((eX _).2 (.inr (.inl rfl)))
      · exact .inl ((eX _).2 (.inr (.inr (.inl rfl))))
      · have:=xp k ar;exact .inr ⟨by omega,by omega⟩
end Go.Proofs.lv
