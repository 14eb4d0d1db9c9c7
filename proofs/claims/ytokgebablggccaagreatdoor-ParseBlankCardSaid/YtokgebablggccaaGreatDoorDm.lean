/- contracts of functions; no condition -/
import Derived.Test.YtokgebablggccaaGreatDoorDl
set_option linter.unusedVariables false
set_option linter.unusedSimpArgs false
set_option maxRecDepth 100000
set_option maxHeartbeats 1000000
namespace Go.Proofs.lv
open Go aJ Go.Proofs lp iI fO
variable {a bL c d:Nat}{all:List bP}{h y:I}{o:b5}
variable {Q:cl->bD->Prop} {R:a8->Prop}
theorem aiN(m b:Nat)(h:I)(H:∃bn,aC h b 0=some (af bn)/\∃b6 s1 dc ct al,Y m (.fn 20) [af bn] h=.ret (.agg [ad b6,.str s1,ad dc,ad ct]) al/\∃cP,aC (I.push al (xO ct 0 [])) b 0=some (af cP)/\∃bd aw,Y m (.fn 38) [af cP,.slice (I.n (I.push al (xO ct 0 []))) 0 1 (.exact 1)] (I.push (I.push al (xO ct 0 [])) (aD [.str [105,102]] 9))=.ret (.bool bd) aw/\(bd=true->∃fu,aC aw b 0=some (af fu)/\((∃gR a1,Y m (.fn 46) [af fu] aw=.ret (af gR) a1/\∃a5,aJ.storeCells a1 al.n 0 [ad 11]=some a5/\∃bc,aJ.storeCells a5 al.n 4 [af gR]=some bc/\∃fZ,aC bc b 0=some (af fZ)/\((∃cj,Y m (.fn 40) [af fZ,.str [116,104,101,110]] bc=.ret (.aF []) cj/\∃jX,aC cj b 0=some (af jX)/\((∃la cK,Y m (.fn 46) [af jX] cj=.ret (af la) cK/\∃ee,aJ.storeCells cK al.n 5 [af la]=some ee/\∃n7,aC ee b 0=some (af n7)/\((∃ez,Y m (.fn 40) [af n7,.str [101,108,115,101]] ee=.ret (.aF []) ez/\∃lb,aC ez b 0=some (af lb)/\((∃lU hZ,Y m (.fn 46) [af lb] ez=.ret (af lU) hZ/\∃fe,aJ.storeCells hZ al.n 6 [af lU]=some fe/\R (.ret (af al.n) fe))\/(∃v1 hO,Y m (.fn 46) [af lb] ez=.aK v1 hO/\R (.aK v1 hO))))\/(∃v2 gX,Y m (.fn 40) [af n7,.str [101,108,115,101]] ee=.aK v2 gX/\R (.aK v2 gX))))\/(∃dP hg,Y m (.fn 46) [af jX] cj=.aK dP hg/\R (.aK dP hg))))\/(∃v4 gS,Y m (.fn 40) [af fZ,.str [116,104,101,110]] bc=.aK v4 gS/\R (.aK v4 gS))))\/(∃hD oU,Y m (.fn 46) [af fu] aw=.aK hD oU/\R (.aK hD oU))))/\(bd=false->∃rS,aC aw b 0=some (af rS)/\∃b2 nt,Y m (.fn 38) [af rS,.slice aw.n 0 1 (.exact 1)] (I.push aw (aD [.str [108,101,116]] 9))=.ret (.bool b2) nt/\(b2=true->∃tX,aC nt b 0=some (af tX)/\((∃s2 oV,Y m (.fn 41) [af tX] nt=.ret (.str s2) oV/\∃qR,aJ.storeCells oV al.n 0 [ad 12]=some qR/\∃nu,aJ.storeCells qR al.n 3 [.str s2]=some nu/\∃sR,aC nu b 0=some (af sR)/\((∃v6 rU,Y m (.fn 45) [af sR] nu=.ret v6 rU/\k5 v6/\∃kd,aJ.storeCells rU al.n 7 [v6]=some kd/\∃vk,aC kd b 0=some (af vk)/\((∃mP,Y m (.fn 40) [af vk,.str [61]] kd=.ret (.aF []) mP/\∃tY,aC mP b 0=some (af tY)/\((∃vl qS,Y m (.fn 46) [af tY] mP=.ret (af vl) qS/\∃mQ,aJ.storeCells qS al.n 4 [af vl]=some mQ/\∃tZ,aC mQ b 0=some (af tZ)/\((∃nv,Y m (.fn 40) [af tZ,.str [105,110]] mQ=.ret (.aF []) nv/\∃sS,aC nv b 0=some (af sS)/\((∃xl nw,Y m (.fn 46) [af sS] nv=.ret (af xl) nw/\∃n8,aJ.storeCells nw al.n 5 [af xl]=some n8/\R (.ret (af al.n) n8))\/(∃il pK,Y m (.fn 46) [af sS] nv=.aK il pK/\R (.aK il pK))))\/(∃im lV,Y m (.fn 40) [af tZ,.str [105,110]] mQ=.aK im lV/\R (.aK im lV))))\/(∃jn n9,Y m (.fn 46) [af tY] mP=.aK jn n9/\R (.aK jn n9))))\/(∃v10 rW,Y m (.fn 40) [af vk,.str [61]] kd=.aK v10 rW/\R (.aK v10 rW))))\/(∃v11 rX,Y m (.fn 45) [af sR] nu=.aK v11 rX/\R (.aK v11 rX))))\/(∃lW xt,Y m (.fn 41) [af tX] nt=.aK lW xt/\R (.aK lW xt))))/\(b2=false->∃xm,aC nt b 0=some (af xm)/\∃dd qW,Y m (.fn 38) [af xm,.slice nt.n 0 1 (.exact 1)] (I.push nt (aD [.str [102,110]] 9))=.ret (.bool dd) qW/\(dd=true->∃zH,aJ.storeCells qW al.n 0 [ad 10]=some zH/\∃vm,aC zH b 0=some (af vm)/\((∃oY pM Ez,Y m (.fn 43) [af vm] zH=.ret (.aF [oY,pM]) Ez/\k5 oY/\∃Bw,aJ.storeCells Ez al.n 8 [oY]=some Bw/\k5 pM/\∃zI,aJ.storeCells Bw al.n 9 [pM]=some zI/\∃sU,aC zI b 0=some (af sU)/\((∃zJ,Y m (.fn 40) [af sU,.str [61,62]] zI=.ret (.aF []) zJ/\∃rT,aC zJ b 0=some (af rT)/\((∃t_ Bx,Y m (.fn 46) [af rT] zJ=.ret (af t_) Bx/\∃EA,aJ.storeCells Bx al.n 4 [af t_]=some EA/\R (.ret (af al.n) EA))\/(∃ue By,Y m (.fn 46) [af rT] zJ=.aK ue By/\R (.aK ue By))))\/(∃zD Bz,Y m (.fn 40) [af sU,.str [61,62]] zI=.aK zD Bz/\R (.aK zD Bz))))\/(∃EB EC,Y m (.fn 43) [af vm] zH=.aK EB EC/\R (.aK EB EC))))/\(dd=false->∃ua,aC qW b 0=some (af ua)/\((∃ub ED,Y m (.fn 91) [af ua,ad 0] qW=.ret (af ub) ED/\R (.ret (af ub) ED))\/(∃EE EF,Y m (.fn 91) [af ua,ad 0] qW=.aK EE EF/\R (.aK EE EF))))))):
  R (Y (m+1) (.fn 90) [af b] h):=
 mH [(17,.e none .o),(23,.e none .o),(26,.e none .o),(30,.e none .o),(33,.e none .o),(43,.e none .o),(50,.e (some .o) .o),(54,.e none .o),(57,.e none .o),(61,.e none .o),(64,.e none .o),(78,.e (some (.lP [.o,.o])) .o),(86,.e none .o),(89,.e none .o),(9,.e none .o)] [] Tryz.func90 H
structure od(p c:Nat)(all:List bP)(d:Nat)(h:I)(bL a:Nat)(o:b5)(y:I):Prop where
 w:cL p c all a d y
 cn:y.get bL=some o
 up:bL<y.n
 lo:h.n<=bL
 x:bU p h.n h y
 sV:p<h.n/\c<h.n
theorem od.step{p a6:Nat}{g:I}(s:od p c all d h bL a o y)(x:bU p y.n y g)(w:cL p c all a6 d g):od p c all d h bL a6 o g:=by
 have fF:=s.up
 have fw:=s.lo
 have:=s.sV.1
 have za:=x.n
 exact⟨w,(x.get _ fF (by omega)).trans s.cn,by omega,s.lo,s.x.trans s.x.n x,s.sV⟩
theorem od.put{p:Nat}(s:od p c all d h bL a o y)(o':b5):od p c all d h bL a o' (y.set bL (some o')):=by
 have fF:=s.up
 have fw:=s.lo
 obtain⟨dt,dv⟩:=s.sV
 exact⟨⟨cr (by omega) s.w.par,cr (by omega) s.w.row,s.w.cM,s.w.gq,s.w.lt⟩,dz rfl,s.up,s.lo,s.x.ix fw,s.sV⟩
theorem od.may{p:Nat}(m:Nat)(ah:Src all)(s:od p c all d h bL a o y)(l:List bJ)(aA:l.length<=100):
  ∃g,Z (m+4) (.fn 38) [.ptr p 0,.slice y.n 0 l.length (.exact l.length)] (y.push (aD (l.map .str) 9))=.ret (.bool (dV all l a)) g/\od p c all d h bL (if dV all l a then a+1 else a) o g:=by
 obtain⟨g,a9,b_,bb⟩:=vn m ah s.w l aA
 exact⟨g,a9,s.step bb b_⟩
theorem od.fin{α:Type}{p:Nat}{V:α->aa->I->Prop}{r:bw α}{f:rJ}{x:a8}(s:od p c all d h bL a o y)(ag:cB p c all d y f x)(aj:r=.error f):∃v g,x=.aK v g/\Fin p c all d h V r (.aK v g):=by
 obtain⟨e,g,a6,aO,aZ⟩:=ag.back s.x
 refine⟨_,g,aO,?_⟩
 rw[aj]
 exact⟨e,g,a6,rfl,aZ⟩
theorem od.box{p b:Nat}{ob:b5}(s:od p c all d h bL a o y)(ag:h.get b=some ob)(iC:b<h.n)(e9:b≠p):y.get b=some ob:=(s.x.get b iC e9).trans ag
theorem xu:nr HV:=λF G h g l v o e m=>by
 obtain⟨bV,ey,us,J,ae,aq,aQ⟩:=o
 exact⟨bV,ey,us,J,ae.to e m,aq.to e m,fx.imp (λt v ab=>ik.cx e m t v ab) aQ⟩
theorem aiO(m:Nat){E U:Nat->bw bX}{T:Nat->bw cG}{lo lt pO:Nat}(ah:Src all)(bO:sZ all E d lo)(de:pL all T d lt)(mM:Ng all (k9 all U 5) d 0 pO)(oP:ev T)(hm:lo<=m+9)(lL:lt<=m+5)(Et:pO<=m+9){p b:Nat}(w:cL p c all a d h)(ag:h.get b=some (aD [.ptr p 0] 72))(iC:b<h.n)(e9:b≠p):Fin p c all d h (fP h.n) (mf all E T U a) (Z (m+10) (.fn 90) [.ptr b 0] h):=by
 have a3:=w.cM
 have ak:=w.gq
 obtain⟨bY,g6⟩:∃t,t=bR all a:=⟨_,rfl⟩
 obtain⟨r,aj⟩:∃r,r=mf all E T U a:=⟨_,rfl⟩
 rw[<-aj]
 unfold mf at aj
 obtain⟨al,a9,bb⟩:=oR (m+8) w
 rw[<-g6] at a9
 have bn:=bb.n
 have b_:=w.ext bb (Nat.le_refl _)
 obtain⟨aw,aE⟩:∃g,g=al.push (dI 0 bY.at' 0 [] .au .au .au .au .ao .ao .ao):=⟨_,rfl⟩
 have b6:aw.n=al.n+1:=by rw[aE];rfl
 have oS:Ext al.n al aw:=by rw[aE];exact Ext.push (Nat.le_refl _) _
 have vp:od p c all d h al.n a (dI 0 bY.at' 0 [] .au .au .au .au .ao .ao .ao) aw:=⟨b_.ext oS (Nat.le_refl _),by rw[aE];exact dx rfl,by omega,bn,(bb.eb p).trans bn (oS.eb p),⟨a3,ak⟩⟩
 obtain⟨a1,gF,jY⟩:=vp.may (m+5) ah [S1] (by simp)
 refine aiN (m+9) b h (R:=Fin p c all d h (fP h.n) r) ⟨p,aN ag rfl,_,_,_,_,al,a9,?_⟩
 rw[show al.push (xO bY.at' 0 [])=aw from aE.symm]
 refine⟨p,aN (vp.box ag iC e9) rfl,_,a1,gF,λjH=>?_,λjH=>?_⟩
 ·
  rw[if_pos jH] at jY aj
  have iF:=bO (m+9) hm jY.w
  refine⟨p,aN (jY.box ag iC e9) rfl,?_⟩
  cases he:E (a+1) with
  |error f=>
   rw[he] at iF aj
   exact .inr (jY.fin (V:=fP h.n) (show cB p c all d _ f _ from iF) aj)
  |ok fG=>
   obtain⟨x,bd⟩:=fG
   rw[he] at iF
   simp only[he] at aj
   obtain⟨u,a5,hy,v4,jD,gO⟩:=iF
   obtain⟨q,rfl⟩:=dF.ptr v4
   have hP:=jY.step gO jD
   have eY:=hP.put (dI 11 bY.at' 0 [] .au .au .au .au .ao .ao .ao)
   have dQ:=eY.put (dI 11 bY.at' 0 [] (.ptr q 0) .au .au .au .ao .ao .ao)
   have v6:=eZ.put (eZ.put (eZ.new v4 jY.x.n jY.up) (some (dI 11 bY.at' 0 [] .au .au .au .au .ao .ao .ao))) (some (dI 11 bY.at' 0 [] (.ptr q 0) .au .au .au .ao .ao .ao))
   have dY:=mi (m+4) ah dQ.w Ht
   refine .inl ⟨q,a5,hy,_,cy hP.cn rfl rfl,_,cy eY.cn rfl rfl,p,aN (dQ.box ag iC e9) rfl,?_⟩
   cases eB:e_ all Ht bd with
   |error f=>
    rw[eB] at dY aj
    exact .inr (dQ.fin (V:=fP h.n) (show cB p c all d _ f _ from dY) aj)
   |ok b2=>
    rw[eB] at dY
    simp only[eB] at aj
    obtain⟨cK,mm,jq,lB⟩:=dY
    have er:=dQ.step lB jq
    have il:=eZ.step v6 lB a3
    have vy:=bO (m+9) hm er.w
    refine .inl ⟨cK,mm,p,aN (er.box ag iC e9) rfl,?_⟩
    cases ph:E b2 with
    |error f=>
     rw[ph] at vy aj
     exact .inr (er.fin (V:=fP h.n) (show cB p c all d _ f _ from vy) aj)
    |ok fG=>
     obtain⟨y,dd⟩:=fG
     rw[ph] at vy
     simp only[ph] at aj
     obtain⟨g9,ee,qU,im,qV,mR⟩:=vy
     obtain⟨aU,rfl⟩:=dF.ptr im
     have dZ:=er.step mR qV
     have fy:=dZ.put (dI 11 bY.at' 0 [] (.ptr q 0) (.ptr aU 0) .au .au .ao .ao .ao)
     have jn:=eZ.put (eZ.step il mR a3) (some (dI 11 bY.at' 0 [] (.ptr q 0) (.ptr aU 0) .au .au .ao .ao .ao))
     have aiP:=eZ.put (eZ.new im er.x.n er.up) (some (dI 11 bY.at' 0 [] (.ptr q 0) (.ptr aU 0) .au .au .ao .ao .ao))
     have mn:=mi (m+4) ah fy.w Hu
     refine .inl ⟨aU,ee,qU,_,cy dZ.cn rfl rfl,p,aN (fy.box ag iC e9) rfl,?_⟩
     cases zK:e_ all Hu dd with
     |error f=>
      rw[zK] at mn aj
      exact .inr (fy.fin (V:=fP h.n) (show cB p c all d _ f _ from mn) aj)
     |ok gm=>
      rw[zK] at mn
      simp only[zK] at aj
      obtain⟨hZ,vz,vA,oZ⟩:=mn
      have ek:=fy.step oZ vA
      have v10:=eZ.step jn oZ a3
      have aiQ:=eZ.step aiP oZ a3
      have H3:=bO (m+9) hm ek.w
      refine .inl ⟨hZ,vz,p,aN (ek.box ag iC e9) rfl,?_⟩
      cases Ct:E gm with
      |error f=>
       rw[Ct] at H3 aj
       exact .inr (ek.fin (V:=fP h.n) (show cB p c all d _ f _ from H3) aj)
      |ok fG=>
       obtain⟨z,jR⟩:=fG
       rw[Ct] at H3
       simp only[Ct] at aj
       obtain⟨lQ,fe,sW,v11,sX,mS⟩:=H3
       obtain⟨bu,rfl⟩:=dF.ptr v11
       have h2:=ek.step mS sX
       have fK:=h2.put (dI 11 bY.at' 0 [] (.ptr q 0) (.ptr aU 0) (.ptr bu 0) .au .ao .ao .ao)
       have lW:=eZ.fin (eZ.put (eZ.step v10 mS a3) (some (dI 11 bY.at' 0 [] (.ptr q 0) (.ptr aU 0) (.ptr bu 0) .au .ao .ao .ao)))
       have Nh:=eZ.fin (eZ.put (eZ.step aiQ mS a3) (some (dI 11 bY.at' 0 [] (.ptr q 0) (.ptr aU 0) (.ptr bu 0) .au .ao .ao .ao)))
       have aiR:=eZ.fin (eZ.put (eZ.new v11 ek.x.n ek.up) (some (dI 11 bY.at' 0 [] (.ptr q 0) (.ptr aU 0) (.ptr bu 0) .au .ao .ao .ao)))
       refine .inl ⟨bu,fe,sW,_,cy h2.cn rfl rfl,?_⟩
       rw[aj,<-g6]
       exact⟨_,_,rfl,⟨al.n,.ptr q 0,.ptr aU 0,.ptr bu 0,.au,.ao,.ao,.ao,[],[],rfl,⟨fK.lo,fK.up⟩,fK.up,fK.cn,lW,Nh,aiR,rfl,.inl ⟨rfl,rfl⟩,.inl ⟨rfl,rfl⟩,rfl,.inl ⟨rfl,rfl⟩,rfl⟩,fK.w,fK.x⟩
 · rw[if_neg (by simp[jH])] at jY aj
   obtain⟨a5,hy,hP⟩:=jY.may (m+5) ah [Hv] (by simp)
   refine⟨p,aN (jY.box ag iC e9) rfl,_,a5,hy,λen=>?_,λen=>?_⟩
   ·
    rw[if_pos en] at hP aj
    have dB:=sL (m+5) ah hP.w
    refine⟨p,aN (hP.box ag iC e9) rfl,?_⟩
    cases aT:ij all (a+1) with
    |error f=>
     rw[aT] at dB aj
     exact .inr (hP.fin (V:=fP h.n) (show cB p c all d _ f _ from dB) aj)
    |ok ch=>
     obtain⟨s,bd⟩:=ch
     rw[aT] at dB
     simp only[aT] at aj
     obtain⟨v,bc,hB,rfl,kx,fX⟩:=dB
     have eY:=hP.step fX kx
     have dQ:=eY.put (dI 12 bY.at' 0 [] .au .au .au .au .ao .ao .ao)
     have er:=dQ.put (dI 12 bY.at' 0 s .au .au .au .au .ao .ao .ao)
     have vB:=M9 (m+4) ah de (by omega) er.w
     refine .inl ⟨s,bc,hB,_,cy eY.cn rfl rfl,_,cy dQ.cn rfl rfl,p,aN (er.box ag iC e9) rfl,?_⟩
     cases zL:pz all T bd with
     |error f=>
      rw[zL] at vB aj
      exact .inr (er.fin (V:=fP h.n) (show cB p c all d _ f _ from vB) aj)
     |ok eW=>
      obtain⟨t,b2⟩:=eW
      rw[zL] at vB
      simp only[zL] at aj
      obtain⟨ey,ee,qU,im,qV,mR⟩:=vB
      have nq:ey.dJ=true:=(ik.cell im).1
      have dZ:=er.step mR qV
      have fy:=dZ.put (dI 12 bY.at' 0 s .au .au .au ey .ao .ao .ao)
      have t9:=oX.put (oX.new im er.x.n er.up) (some (dI 12 bY.at' 0 s .au .au .au ey .ao .ao .ao))
      have dY:=mi (m+4) ah fy.w [61]
      refine .inl ⟨ey,ee,qU,nq,_,cy dZ.cn rfl (by simp only[gK,nq]),p,aN (fy.box ag iC e9) rfl,?_⟩
      cases eB:e_ all [61] b2 with
      |error f=>
       rw[eB] at dY aj
       exact .inr (fy.fin (V:=fP h.n) (show cB p c all d _ f _ from dY) aj)
      |ok dd=>
       rw[eB] at dY
       simp only[eB] at aj
       obtain⟨hZ,vz,vA,oZ⟩:=dY
       have ek:=fy.step oZ vA
       have t10:=oX.step t9 oZ a3
       have iF:=bO (m+9) hm ek.w
       refine .inl ⟨hZ,vz,p,aN (ek.box ag iC e9) rfl,?_⟩
       cases he:E dd with
       |error f=>
        rw[he] at iF aj
        exact .inr (ek.fin (V:=fP h.n) (show cB p c all d _ f _ from iF) aj)
       |ok fG=>
        obtain⟨x,gm⟩:=fG
        rw[he] at iF
        simp only[he] at aj
        obtain⟨u,fe,sW,v11,sX,mS⟩:=iF
        obtain⟨q,rfl⟩:=dF.ptr v11
        have h2:=ek.step mS sX
        have fK:=h2.put (dI 12 bY.at' 0 s (.ptr q 0) .au .au ey .ao .ao .ao)
        have t12:=oX.put (oX.step t10 mS a3) (some (dI 12 bY.at' 0 s (.ptr q 0) .au .au ey .ao .ao .ao))
        have lW:=eZ.put (eZ.new v11 ek.x.n ek.up) (some (dI 12 bY.at' 0 s (.ptr q 0) .au .au ey .ao .ao .ao))
        have mn:=mi (m+4) ah fK.w Hw
        refine .inl ⟨q,fe,sW,_,cy h2.cn rfl rfl,p,aN (fK.box ag iC e9) rfl,?_⟩
        cases zK:e_ all Hw gm with
        |error f=>
         rw[zK] at mn aj
         exact .inr (fK.fin (V:=fP h.n) (show cB p c all d _ f _ from mn) aj)
        |ok jR=>
         rw[zK] at mn
         simp only[zK] at aj
         obtain⟨gX,zA,zB,nz⟩:=mn
         have n_:=fK.step nz zB
         have t13:=oX.step t12 nz a3
         have oY:=eZ.step lW nz a3
         have vy:=bO (m+9) hm n_.w
         refine .inl ⟨gX,zA,p,aN (n_.box ag iC e9) rfl,?_⟩
         cases ph:E jR with
         |error f=>
          rw[ph] at vy aj
          exact .inr (n_.fin (V:=fP h.n) (show cB p c all d _ f _ from vy) aj)
         |ok fG=>
          obtain⟨y,nP⟩:=fG
          rw[ph] at vy
          simp only[ph] at aj
          obtain⟨g9,hg,aiS,pM,HX,Es⟩:=vy
          obtain⟨aU,rfl⟩:=dF.ptr pM
          have lf:=n_.step Es HX
          have nA:=lf.put (dI 12 bY.at' 0 s (.ptr q 0) (.ptr aU 0) .au ey .ao .ao .ao)
          have t15:=oX.fin (oX.put (oX.step t13 Es a3) (some (dI 12 bY.at' 0 s (.ptr q 0) (.ptr aU 0) .au ey .ao .ao .ao)))
          have ue:=eZ.fin (eZ.put (eZ.step oY Es a3) (some (dI 12 bY.at' 0 s (.ptr q 0) (.ptr aU 0) .au ey .ao .ao .ao)))
          have aiT:=eZ.fin (eZ.put (eZ.new pM n_.x.n n_.up) (some (dI 12 bY.at' 0 s (.ptr q 0) (.ptr aU 0) .au ey .ao .ao .ao)))
          refine .inl ⟨aU,hg,aiS,_,cy lf.cn rfl rfl,?_⟩
          rw[aj,<-g6]
          exact⟨_,_,rfl,⟨al.n,.ptr q 0,.ptr aU 0,.au,ey,.ao,.ao,.ao,[],[],rfl,⟨nA.lo,nA.up⟩,nA.up,nA.cn,ue,aiT,rfl,t15,.inl ⟨rfl,rfl⟩,.inl ⟨rfl,rfl⟩,rfl,.inl ⟨rfl,rfl⟩,rfl⟩,nA.w,nA.x⟩
   · rw[if_neg (by simp[en])] at hP aj
     obtain⟨bc,hB,eY⟩:=hP.may (m+5) ah [Hr] (by simp)
     refine⟨p,aN (hP.box ag iC e9) rfl,_,bc,hB,λhJ=>?_,λhJ=>?_⟩
     ·
      rw[if_pos hJ] at eY aj
      have dQ:=eY.put (dI 10 bY.at' 0 [] .au .au .au .au .ao .ao .ao)
      have pN:=U6 (m+1) ah de oP lL dQ.w
      refine⟨_,cy eY.cn rfl rfl,p,aN (dQ.box ag iC e9) rfl,?_⟩
      cases zM:rM all T (a+1) with
      |error f=>
       rw[zM] at pN aj
       exact .inr (dQ.fin (V:=fP h.n) (show cB p c all d _ f _ from pN) aj)
      |ok km=>
       obtain⟨l,bd⟩:=km
       rw[zM] at pN
       simp only[zM] at aj
       obtain⟨v,cK,mm,il,jq,lB⟩:=pN
       have er:=dQ.step lB jq
       have il:=xu.new il dQ.x.n dQ.up
       obtain⟨bV,ey,us,rfl,dt,dv,gD⟩:=il
       have dZ:=er.put (dI 10 bY.at' 0 [] .au .au .au .au bV .ao .ao)
       have fy:=dZ.put (dI 10 bY.at' 0 [] .au .au .au .au bV ey .ao)
       have jn:=xu.put (xu.put (W:=HV) (t:=l) (v:=.aF [bV,ey]) ⟨bV,ey,us,rfl,dt,dv,gD⟩ (some (dI 10 bY.at' 0 [] .au .au .au .au bV .ao .ao))) (some (dI 10 bY.at' 0 [] .au .au .au .au bV ey .ao))
       have dY:=mi (m+4) ah fy.w [61,62]
       refine .inl ⟨bV,ey,cK,mm,dt.cell.1,_,cy er.cn rfl (by simp only[gK,dt.cell.1]),dv.cell.1,_,cy dZ.cn rfl (by simp only[gK,dv.cell.1]),p,aN (fy.box ag iC e9) rfl,?_⟩
       cases eB:e_ all [61,62] bd with
       |error f=>
        rw[eB] at dY aj
        exact .inr (fy.fin (V:=fP h.n) (show cB p c all d _ f _ from dY) aj)
       |ok b2=>
        rw[eB] at dY
        simp only[eB] at aj
        obtain⟨hZ,vz,vA,oZ⟩:=dY
        have ek:=fy.step oZ vA
        have v10:=xu.step jn oZ a3
        have iF:=bO (m+9) hm ek.w
        refine .inl ⟨hZ,vz,p,aN (ek.box ag iC e9) rfl,?_⟩
        cases he:E b2 with
        |error f=>
         rw[he] at iF aj
         exact .inr (ek.fin (V:=fP h.n) (show cB p c all d _ f _ from iF) aj)
        |ok fG=>
         obtain⟨x,dd⟩:=fG
         rw[he] at iF
         simp only[he] at aj
         obtain⟨u,fe,sW,v11,sX,mS⟩:=iF
         obtain⟨q,rfl⟩:=dF.ptr v11
         have h2:=ek.step mS sX
         have fK:=h2.put (dI 10 bY.at' 0 [] (.ptr q 0) .au .au .au bV ey .ao)
         have lW:=xu.fin (xu.put (xu.step v10 mS a3) (some (dI 10 bY.at' 0 [] (.ptr q 0) .au .au .au bV ey .ao)))
         have Nh:=eZ.fin (eZ.put (eZ.new v11 ek.x.n ek.up) (some (dI 10 bY.at' 0 [] (.ptr q 0) .au .au .au bV ey .ao)))
         obtain⟨lz,amt,te,iX,bt,b3,hj⟩:=lW
         cases iX
         refine .inl ⟨q,fe,sW,_,cy h2.cn rfl rfl,?_⟩
         rw[aj,<-g6]
         exact⟨_,_,rfl,⟨al.n,.ptr q 0,.au,.au,.au,bV,ey,.ao,te,[],rfl,⟨fK.lo,fK.up⟩,fK.up,fK.cn,Nh,rfl,rfl,rfl,bt,b3,hj,.inl ⟨rfl,rfl⟩,rfl⟩,fK.w,fK.x⟩
     ·
      rw[if_neg (by simp[hJ])] at eY aj
      have lc:=mM (m+9) Et eY.w
      refine⟨p,aN (eY.box ag iC e9) rfl,?_⟩
      rw[<-aj] at lc
      cases r with
      |error f=>exact .inr (eY.fin (V:=fP h.n) (show cB p c all d _ f _ from lc) rfl)
      |ok fG=>
       obtain⟨x,bd⟩:=fG
       obtain⟨u,cj,kA,v6,ih,jJ⟩:=lc
       obtain⟨q,rfl⟩:=dF.ptr v6
       exact .inl ⟨q,cj,kA,_,cj,rfl,eZ.fin (eZ.new v6 eY.x.n eY.up),ih,eY.x.trans eY.x.n jJ⟩
theorem aiU(m:Nat){E U:Nat->bw bX}{T:Nat->bw cG}{lo lt pO:Nat}(ah:Src all)(aH:d<40)(bO:sZ all E (d+1) lo)(de:pL all T (d+1) lt)(mM:Ng all (k9 all U 5) (d+1) 0 pO)(oP:ev T)(hm:lo<=m+9)(lL:lt<=m+5)(Et:pO<=m+9){p:Nat}(w:cL p c all a d h):Fin p c all d h (fP h.n) (mf all E T U a) (Z (m+12) (.fn 46) [.ptr p 0] h):=by
 have a3:=w.cM
 obtain⟨h0,c_⟩:∃g,g=h.push (aD [.ptr p 0] 72):=⟨_,rfl⟩
 have k8:h0.n=h.n+1:=by rw[c_];rfl
 have dH:Ext h.n h h0:=by rw[c_];exact Ext.push (Nat.le_refl _) _
 have bE:h0.get h.n=some (aD [.ptr p 0] 72):=by rw[c_];exact dx rfl
 have w0:=w.ext dH (Nat.le_refl _)
 have vu:=Uv (m+8) 0 (V:=fP h.n) (vf.U8 a3) ah w0 90 [] [.ptr h.n 0] aH (mf all E T U a) (λJ b_ bb=>by
  have t1:=aiO m ah bO de mM oP hm lL Et b_ (b:=h.n) ((bb.get h.n (by omega) (by omega)).trans bE) (by have:=bb.n;omega) (by omega)
  have bn:=bb.n
  cases aI:mf all E T U a with
  |error f=>rw[aI] at t1;exact t1
  |ok eW=>
   obtain⟨t,b⟩:=eW
   rw[aI] at t1
   obtain⟨u,g,aO,aZ,bC,cX⟩:=t1
   exact⟨u,g,aO,dF.cx (F:=λk=>J.n<=k/\k<g.n) (h:=g) (g:=g) ⟨Nat.le_refl _,λ_ _ _=>rfl⟩ (λk ai cO=>⟨by omega,ai.2⟩) t _ aZ,bC,cX⟩)
 refine U3 (m+11) p h (R:=Fin p c all d h (fP h.n) (mf all E T U a)) ?_
 rw[show(h.push (aD [.ptr p 0] 72))=h0 from c_.symm]
 refine⟨p,aN bE rfl,?_⟩
 cases aI:mf all E T U a with
 |error f=>
  rw[aI] at vu
  obtain⟨e,g,a6,aO,aZ⟩:=cB.back (show cB p c all d h0 f _ from vu) (dH.eb p)
  exact .inr ⟨_,g,aO,e,g,a6,rfl,aZ⟩
 |ok eW=>
  obtain⟨t,b⟩:=eW
  rw[aI] at vu
  obtain⟨u,g,aO,aZ,bC,cX⟩:=vu
  obtain⟨q,rfl⟩:=dF.ptr aZ
  exact .inl ⟨q,g,aO,_,g,rfl,aZ,bC,(dH.eb p).trans dH.n cX⟩
theorem aiV(m:Nat)(ah:Src all){p:Nat}(w:cL p c all a 40 h):Fin p c all 40 h (fP h.n) (u9 all 0 a) (Z (m+4) (.fn 46) [.ptr p 0] h):=by
 obtain⟨h0,c_⟩:∃g,g=h.push (aD [.ptr p 0] 72):=⟨_,rfl⟩
 have k8:h0.n=h.n+1:=by rw[c_];rfl
 have dH:Ext h.n h h0:=by rw[c_];exact Ext.push (Nat.le_refl _) _
 have bE:h0.get h.n=some (aD [.ptr p 0] 72):=by rw[c_];exact dx rfl
 have w0:=w.ext dH (Nat.le_refl _)
 refine U3 (m+3) p h (R:=Fin p c all 40 h (fP h.n) (u9 all 0 a)) ?_
 rw[show(h.push (aD [.ptr p 0] 72))=h0 from c_.symm]
 obtain⟨e,g,a6,aO,aZ⟩:=cB.back (Uw m ah w0 90 [] [.ptr h.n 0] rfl) (dH.eb p)
 exact⟨p,aN bE rfl,.inr ⟨_,g,aO,e,g,a6,rfl,aZ⟩⟩
theorem Vq{all:List bP}(ah:Src all):∀j d,d+j=40->sZ all (u9 all j) d (40*j+60)/\Nd all (nj all j).2 d (40*j+80)
 |0,d,aH=>by
  obtain rfl:d=40:=by omega
  have bO:sZ all (u9 all 0) 40 60:=λn aT p c a h w=>by
   obtain⟨m,rfl⟩:∃m,n=m+4:=⟨n-4,by omega⟩
   exact aiV m ah w
  refine⟨bO,λn aT p c a h w=>?_⟩
  obtain⟨m,rfl⟩:∃m,n=m+11:=⟨n-11,by omega⟩
  exact Vh m ah bO (Bs ah 0 40 (by omega)) (aiE ah) (zi 0).1 (nk 0) (by omega) (by omega) (by omega) w
 |j+1,d,aH=>by
  obtain⟨EG,Vr⟩:=Vq ah j (d+1) (by omega)
  have mM:=Vl ah Vr (zi j).2 (by omega) 5 0 (by omega)
  have bO:sZ all (u9 all (j+1)) d (40*(j+1)+60):=λn aT p c a h w=>by
   obtain⟨m,rfl⟩:∃m,n=m+12:=⟨n-12,by omega⟩
   exact aiU m ah (by omega) EG (Bs ah j (d+1) (by omega)) mM (nk j) (by omega) (by omega) (by omega) w
  refine⟨bO,λn aT p c a h w=>?_⟩
  obtain⟨m,rfl⟩:∃m,n=m+11:=⟨n-11,by omega⟩
  exact Vh m ah bO (Bs ah (j+1) d aH) (aiD ah (by omega) Vr (by omega)) (zi (j+1)).1 (nk (j+1)) (by omega) (by omega) (by omega) w
theorem aiW(m p:Nat)(h:I)(H:∃bn s1 b6 dc al,Y m (.fn 20) [af p] h=.ret (.agg [ad bn,.str s1,ad b6,ad dc]) al/\∃bd aw,Y m (.fn 38) [af p,.slice (I.n (I.push al (aD [ad 0,ad dc,.str [],.str [],.au,.au,.ao,.ao] 51))) 0 1 (.exact 1)] (I.push (I.push al (aD [ad 0,ad dc,.str [],.str [],.au,.au,.ao,.ao] 51)) (aD [.str [105,109,112,111,114,116]] 9))=.ret (.bool bd) aw/\(bd=true->((∃ct s2 cP fu a1,Y m (.fn 39) [af p,ad 4] aw=.ret (.agg [ad ct,.str s2,ad cP,ad fu]) a1/\∃a5,aJ.storeCells a1 al.n 0 [ad 1]=some a5/\∃bc,aJ.storeCells a5 al.n 3 [.str s2]=some bc/\((∃cj,Y m (.fn 40) [af p,.str [97,115]] bc=.ret (.aF []) cj/\((∃c4 cK,Y m (.fn 41) [af p] cj=.ret (.str c4) cK/\∃ee,aJ.storeCells cK al.n 2 [.str c4]=some ee/\R (.ret (af al.n) ee))\/(∃v1 ez,Y m (.fn 41) [af p] cj=.aK v1 ez/\R (.aK v1 ez))))\/(∃v2 hZ,Y m (.fn 40) [af p,.str [97,115]] bc=.aK v2 hZ/\R (.aK v2 hZ))))\/(∃dP fe,Y m (.fn 39) [af p,ad 4] aw=.aK dP fe/\R (.aK dP fe))))/\(bd=false->∃b2 hO,Y m (.fn 38) [af p,.slice aw.n 0 1 (.exact 1)] (I.push aw (aD [.str [116,121,112,101]] 9))=.ret (.bool b2) hO/\(b2=true->((∃c0 gX,Y m (.fn 41) [af p] hO=.ret (.str c0) gX/\∃hg,aJ.storeCells gX al.n 0 [ad 2]=some hg/\∃gS,aJ.storeCells hg al.n 2 [.str c0]=some gS/\((∃oU,Y m (.fn 40) [af p,.str [61]] gS=.ret (.aF []) oU/\((∃gR nt,Y m (.fn 42) [af p] oU=.ret (af gR) nt/\∃oV,aJ.storeCells nt al.n 4 [af gR]=some oV/\R (.ret (af al.n) oV))\/(∃v4 qR,Y m (.fn 42) [af p] oU=.aK v4 qR/\R (.aK v4 qR))))\/(∃hD nu,Y m (.fn 40) [af p,.str [61]] gS=.aK hD nu/\R (.aK hD nu))))\/(∃v6 rU,Y m (.fn 41) [af p] hO=.aK v6 rU/\R (.aK v6 rU))))/\(b2=false->∃dd kd,Y m (.fn 38) [af p,.slice hO.n 0 1 (.exact 1)] (I.push hO (aD [.str [108,101,116]] 9))=.ret (.bool dd) kd/\(dd=true->((∃dq mP,Y m (.fn 41) [af p] kd=.ret (.str dq) mP/\∃qS,aJ.storeCells mP al.n 0 [ad 3]=some qS/\∃mQ,aJ.storeCells qS al.n 2 [.str dq]=some mQ/\((∃il nv,Y m (.fn 45) [af p] mQ=.ret il nv/\k5 il/\∃nw,aJ.storeCells nv al.n 4 [il]=some nw/\((∃n8,Y m (.fn 40) [af p,.str [61]] nw=.ret (.aF []) n8/\((∃fZ pK,Y m (.fn 46) [af p] n8=.ret (af fZ) pK/\∃lV,aJ.storeCells pK al.n 5 [af fZ]=some lV/\R (.ret (af al.n) lV))\/(∃im n9,Y m (.fn 46) [af p] n8=.aK im n9/\R (.aK im n9))))\/(∃jn rW,Y m (.fn 40) [af p,.str [61]] nw=.aK jn rW/\R (.aK jn rW))))\/(∃v10 rX,Y m (.fn 45) [af p] mQ=.aK v10 rX/\R (.aK v10 rX))))\/(∃v11 xt,Y m (.fn 41) [af p] kd=.aK v11 xt/\R (.aK v11 xt))))/\(dd=false->∃gm qW,Y m (.fn 38) [af p,.slice kd.n 0 1 (.exact 1)] (I.push kd (aD [.str [102,117,110]] 9))=.ret (.bool gm) qW/\(gm=true->((∃eO zH,Y m (.fn 41) [af p] qW=.ret (.str eO) zH/\∃Ez,aJ.storeCells zH al.n 0 [ad 4]=some Ez/\∃Bw,aJ.storeCells Ez al.n 2 [.str eO]=some Bw/\((∃lW oY zI,Y m (.fn 43) [af p] Bw=.ret (.aF [lW,oY]) zI/\k5 lW/\∃zJ,aJ.storeCells zI al.n 6 [lW]=some zJ/\k5 oY/\∃Bx,aJ.storeCells zJ al.n 7 [oY]=some Bx/\((∃pM EA,Y m (.fn 45) [af p] Bx=.ret pM EA/\k5 pM/\∃By,aJ.storeCells EA al.n 4 [pM]=some By/\((∃Bz,Y m (.fn 40) [af p,.str [61]] By=.ret (.aF []) Bz/\((∃jX EC,Y m (.fn 46) [af p] Bz=.ret (af jX) EC/\∃ED,aJ.storeCells EC al.n 5 [af jX]=some ED/\R (.ret (af al.n) ED))\/(∃ue EF,Y m (.fn 46) [af p] Bz=.aK ue EF/\R (.aK ue EF))))\/(∃zD Vs,Y m (.fn 40) [af p,.str [61]] By=.aK zD Vs/\R (.aK zD Vs))))\/(∃EB Vt,Y m (.fn 45) [af p] Bx=.aK EB Vt/\R (.aK EB Vt))))\/(∃EE Vu,Y m (.fn 43) [af p] Bw=.aK EE Vu/\R (.aK EE Vu))))\/(∃Vv Vw,Y m (.fn 41) [af p] qW=.aK Vv Vw/\R (.aK Vv Vw))))/\(gm=false->∃v20 Vx,Y m (.fn 44) [af p,ad 10] qW=.aK v20 Vx/\R (.aK v20 Vx)))))):
  R (Y (m+1) (.fn 21) [af p] h):=
 mH [(18,.e none .o),(25,.e none .o),(28,.e none .o),(39,.e none .o),(45,.e none .o),(48,.e none .o),(59,.e none .o),(71,.e none .o),(80,.e (some (.lP [.o,.o])) .o),(10,.p .o),(89,.e (some .o) .o),(93,.e none .o),(96,.e none .o)] [] Tryz.func21 H
abbrev jz(k a:Nat)(dB aiX:bJ)(ey hd bV hq:aa):b5:=aD [ad k,ad a,.str dB,.str aiX,ey,hd,bV,hq] 51
def s3(F:c6)(h:I)(d:gI)(v:aa):Prop:=∃b ey hd bV hq us,v=.ptr b 0/\F b/\b<h.n/\h.get b=some (jz d.kind d.at' d.name d.text ey hd bV hq)/\ik F h d.t ey/\jm F h d.e hd/\fD kV 1 9 F h bV d.names/\fD dT 1 47 F h hq us/\fx ik F h d.types us
theorem H4:nr s3:=λF G h g d v o e m=>by
 obtain⟨b,ey,hd,bV,hq,us,J,ae,aq,aQ,bj,cW,eS,e6,mv⟩:=o
 exact⟨b,ey,hd,bV,hq,us,J,m b ae aq,Nat.lt_of_lt_of_le aq e.1,(e.2 b ae aq).trans aQ,ik.cx e m _ _ bj,jm.cx e m _ _ cW,eS.to e m,e6.to e m,mv.imp (ik.cx e m)⟩
theorem s3.ptr{F:c6}{d:gI}{v:aa}(o:s3 F h d v):∃b,v=.ptr b 0:=by
 obtain⟨b,_,_,_,_,_,J,_⟩:=o
 exact⟨b,J⟩
abbrev oe(B:Nat):gI->aa->I->Prop:=λt v g=>s3 (λk=>B<=k/\k<g.n) g t v
def Vy(bV hq:aa)(F:c6)(h:I)(l:List bJ×List (Option cG))(_:aa):Prop:=∃us,fD kV 1 9 F h bV l.1/\fD dT 1 47 F h hq us/\fx ik F h l.2 us
theorem xv(bV hq:aa):nr (Vy bV hq):=λF G h g l v o e m=>by
 obtain⟨us,J,ae,aq⟩:=o
 exact⟨us,J.to e m,ae.to e m,aq.imp (ik.cx e m)⟩
def aiY(n bL p:Nat)(g:I)(R:a8->Prop):Prop:=
 (∃il nv,Z n (.fn 45) [af p] g=.ret il nv/\k5 il/\∃nw,aJ.storeCells nv bL 4 [il]=some nw/\
  ((∃n8,Z n (.fn 40) [af p,.str [61]] nw=.ret (.aF []) n8/\
    ((∃fZ pK,Z n (.fn 46) [af p] n8=.ret (af fZ) pK/\∃lV,aJ.storeCells pK bL 5 [af fZ]=some lV/\R (.ret (af bL) lV))\/
    (∃im n9,Z n (.fn 46) [af p] n8=.aK im n9/\R (.aK im n9))))\/
  (∃jn rW,Z n (.fn 40) [af p,.str [61]] nw=.aK jn rW/\R (.aK jn rW))))\/
 (∃v10 rX,Z n (.fn 45) [af p] g=.aK v10 rX/\R (.aK v10 rX))
theorem Vz(q:Nat)(bB:1700<=q)(ah:Src all){p:Nat}{g:I}{D:gI}{bV hq:aa}(S:od p c all 0 h bL a (jz D.kind D.at' D.name D.text .au .au bV hq) g)(q_:Vy bV hq (Fn h bL g) g (D.names,D.types) .au):aiY (q+10) bL p g (λx=>Fin p c all 0 h (oe h.n) (pE all D a) x):=by
 have a3:=S.sV.1
 obtain⟨r,aj⟩:∃r,r=pE all D a:=⟨_,rfl⟩
 rw[<-aj]
 unfold pE at aj
 have de:=Bs ah 40 0 (by omega)
 have bO:=(Vq ah 40 0 (by omega)).1
 have vB:=M9 (q+5) ah de (by omega) S.w
 cases zL:pz all (jk all 40) a with
 |error f=>
  rw[zL] at vB aj
  exact .inr (S.fin (V:=oe h.n) (show cB p c all 0 _ f _ from vB) aj)
 |ok eW=>
  obtain⟨t,b2⟩:=eW
  rw[zL] at vB
  simp only[zL] at aj
  obtain⟨ey,ee,qU,im,qV,mR⟩:=vB
  have nq:ey.dJ=true:=(ik.cell im).1
  have dZ:=S.step mR qV
  have fy:=dZ.put (jz D.kind D.at' D.name D.text ey .au bV hq)
  have t9:=oX.put (oX.new im S.x.n S.up) (some (jz D.kind D.at' D.name D.text ey .au bV hq))
  have jX:=(xv bV hq).put ((xv bV hq).step q_ mR a3) (some (jz D.kind D.at' D.name D.text ey .au bV hq))
  have dY:=mi (q+5) ah fy.w [61]
  refine .inl ⟨ey,ee,qU,nq,_,cy dZ.cn rfl (by simp only[gK,nq];rfl),?_⟩
  cases eB:e_ all [61] b2 with
  |error f=>
   rw[eB] at dY aj
   exact .inr (fy.fin (V:=oe h.n) (show cB p c all 0 _ f _ from dY) aj)
  |ok dd=>
   rw[eB] at dY
   simp only[eB] at aj
   obtain⟨hZ,vz,vA,oZ⟩:=dY
   have ek:=fy.step oZ vA
   have t10:=oX.step t9 oZ a3
   have la:=(xv bV hq).step jX oZ a3
   have iF:=bO (q+10) (by omega) ek.w
   refine .inl ⟨hZ,vz,?_⟩
   cases he:u9 all 40 dd with
   |error f=>
    rw[he] at iF aj
    exact .inr (ek.fin (V:=oe h.n) (show cB p c all 0 _ f _ from iF) aj)
   |ok fG=>
    obtain⟨x,gm⟩:=fG
    rw[he] at iF
    simp only[he] at aj
    obtain⟨u,fe,sW,v11,sX,mS⟩:=iF
    obtain⟨e,rfl⟩:=dF.ptr v11
    have h2:=ek.step mS sX
    have fK:=h2.put (jz D.kind D.at' D.name D.text ey (.ptr e 0) bV hq)
    have t12:=oX.fin (oX.put (oX.step t10 mS a3) (some (jz D.kind D.at' D.name D.text ey (.ptr e 0) bV hq)))
    have lb:=(xv bV hq).fin ((xv bV hq).put ((xv bV hq).step la mS a3) (some (jz D.kind D.at' D.name D.text ey (.ptr e 0) bV hq)))
    have lW:=eZ.fin (eZ.put (eZ.new v11 ek.x.n ek.up) (some (jz D.kind D.at' D.name D.text ey (.ptr e 0) bV hq)))
    obtain⟨us,bt,b3,hj⟩:=lb
    refine .inl ⟨e,fe,sW,_,cy h2.cn rfl rfl,?_⟩
    rw[aj]
    exact⟨_,_,rfl,⟨bL,ey,.ptr e 0,bV,hq,us,rfl,⟨fK.lo,fK.up⟩,fK.up,fK.cn,t12,lW,bt,b3,hj⟩,fK.w,fK.x⟩
theorem aiZ(q:Nat)(bB:1700<=q)(ah:Src all){p:Nat}(w:cL p c all a 0 h):Fin p c all 0 h (oe h.n) (pF all a) (Z (q+11) (.fn 21) [.ptr p 0] h):=by
 have a3:=w.cM
 have ak:=w.gq
 have de:=Bs ah 40 0 (by omega)
 obtain⟨bY,g6⟩:∃t,t=bR all a:=⟨_,rfl⟩
 obtain⟨r,aj⟩:∃r,r=pF all a:=⟨_,rfl⟩
 rw[<-aj]
 unfold pF at aj
 obtain⟨al,a9,bb⟩:=oR (q+9) w
 rw[<-g6] at a9
 have bn:=bb.n
 have b_:=w.ext bb (Nat.le_refl _)
 obtain⟨aw,aE⟩:∃g,g=al.push (jz 0 bY.at' [] [] .au .au .ao .ao):=⟨_,rfl⟩
 have b6:aw.n=al.n+1:=by rw[aE];rfl
 have oS:Ext al.n al aw:=by rw[aE];exact Ext.push (Nat.le_refl _) _
 have vp:od p c all 0 h al.n a (jz 0 bY.at' [] [] .au .au .ao .ao) aw:=⟨b_.ext oS (Nat.le_refl _),by rw[aE];exact dx rfl,by omega,bn,(bb.eb p).trans bn (oS.eb p),⟨a3,ak⟩⟩
 obtain⟨a1,gF,jY⟩:=vp.may (q+6) ah [S2] (by simp)
 refine aiW (q+10) p h (R:=Fin p c all 0 h (oe h.n) r) ⟨_,_,_,_,al,a9,?_⟩
 rw[show al.push (aD [ad 0,ad bY.at',.str [],.str [],.au,.au,.ao,.ao] 51)=aw from aE.symm]
 refine⟨_,a1,gF,λjH=>?_,λjH=>?_⟩
 ·
  rw[if_pos jH] at jY aj
  have vw:=Ur (q+7) ah jY.w 4 (by decide)
  cases aI:nX all 4 (a+1) with
  |error f=>
   rw[aI] at vw aj
   exact .inr (jY.fin (V:=oe h.n) (show cB p c all 0 _ f _ from vw) aj)
  |ok eW=>
   obtain⟨t,bd⟩:=eW
   rw[aI] at vw
   simp only[aI] at aj
   obtain⟨v,a5,hy,rfl,jD,gO⟩:=vw
   have hP:=jY.step gO jD
   have eY:=hP.put (jz 1 bY.at' [] [] .au .au .ao .ao)
   have dQ:=eY.put (jz 1 bY.at' [] t.t .au .au .ao .ao)
   have dY:=mi (q+5) ah dQ.w Hx
   refine .inl ⟨_,_,_,_,a5,hy,_,cy hP.cn rfl rfl,_,cy eY.cn rfl rfl,?_⟩
   cases eB:e_ all Hx bd with
   |error f=>
    rw[eB] at dY aj
    exact .inr (dQ.fin (V:=oe h.n) (show cB p c all 0 _ f _ from dY) aj)
   |ok b2=>
    rw[eB] at dY
    simp only[eB] at aj
    obtain⟨cK,mm,jq,lB⟩:=dY
    have er:=dQ.step lB jq
    have dB:=sL (q+6) ah er.w
    refine .inl ⟨cK,mm,?_⟩
    cases aT:ij all b2 with
    |error f=>
     rw[aT] at dB aj
     exact .inr (er.fin (V:=oe h.n) (show cB p c all 0 _ f _ from dB) aj)
    |ok ch=>
     obtain⟨s,dd⟩:=ch
     rw[aT] at dB
     simp only[aT] at aj
     obtain⟨v,ee,qU,rfl,qV,mR⟩:=dB
     have dZ:=er.step mR qV
     have fy:=dZ.put (jz 1 bY.at' s t.t .au .au .ao .ao)
     refine .inl ⟨s,ee,qU,_,cy dZ.cn rfl rfl,?_⟩
     rw[aj,<-g6]
     exact⟨_,_,rfl,⟨al.n,.au,.au,.ao,.ao,[],rfl,⟨fy.lo,fy.up⟩,fy.up,fy.cn,rfl,rfl,.inl ⟨rfl,rfl⟩,.inl ⟨rfl,rfl⟩,rfl⟩,fy.w,fy.x⟩
 · rw[if_neg (by simp[jH])] at jY aj
   obtain⟨a5,hy,hP⟩:=jY.may (q+6) ah [S3] (by simp)
   refine⟨_,a5,hy,λen=>?_,λen=>?_⟩
   ·
    rw[if_pos en] at hP aj
    have dB:=sL (q+6) ah hP.w
    cases aT:ij all (a+1) with
    |error f=>
     rw[aT] at dB aj
     exact .inr (hP.fin (V:=oe h.n) (show cB p c all 0 _ f _ from dB) aj)
    |ok ch=>
     obtain⟨s,bd⟩:=ch
     rw[aT] at dB
     simp only[aT] at aj
     obtain⟨v,bc,hB,rfl,kx,fX⟩:=dB
     have eY:=hP.step fX kx
     have dQ:=eY.put (jz 2 bY.at' [] [] .au .au .ao .ao)
     have er:=dQ.put (jz 2 bY.at' s [] .au .au .ao .ao)
     have dY:=mi (q+5) ah er.w [61]
     refine .inl ⟨s,bc,hB,_,cy eY.cn rfl rfl,_,cy dQ.cn rfl rfl,?_⟩
     cases eB:e_ all [61] bd with
     |error f=>
      rw[eB] at dY aj
      exact .inr (er.fin (V:=oe h.n) (show cB p c all 0 _ f _ from dY) aj)
     |ok b2=>
      rw[eB] at dY
      simp only[eB] at aj
      obtain⟨ee,qU,qV,mR⟩:=dY
      have dZ:=er.step mR qV
      have ty:=de (q+10) (by omega) dZ.w
      refine .inl ⟨ee,qU,?_⟩
      cases aI:jk all 40 b2 with
      |error f=>
       rw[aI] at ty aj
       exact .inr (dZ.fin (V:=oe h.n) (show cB p c all 0 _ f _ from ty) aj)
      |ok eW=>
       obtain⟨t,dd⟩:=eW
       rw[aI] at ty
       simp only[aI] at aj
       obtain⟨u,ez,kT,jn,zz,rV⟩:=ty
       obtain⟨e,rfl⟩:=ef.ptr jn
       have fy:=dZ.step rV zz
       have ek:=fy.put (jz 2 bY.at' s [] (.ptr e 0) .au .ao .ao)
       have v10:=ly.fin (ly.put (ly.new jn dZ.x.n dZ.up) (some (jz 2 bY.at' s [] (.ptr e 0) .au .ao .ao)))
       refine .inl ⟨e,ez,kT,_,cy fy.cn rfl rfl,?_⟩
       rw[aj,<-g6]
       exact⟨_,_,rfl,⟨al.n,.ptr e 0,.au,.ao,.ao,[],rfl,⟨ek.lo,ek.up⟩,ek.up,ek.cn,v10,rfl,.inl ⟨rfl,rfl⟩,.inl ⟨rfl,rfl⟩,rfl⟩,ek.w,ek.x⟩
   · rw[if_neg (by simp[en])] at hP aj
     obtain⟨bc,hB,eY⟩:=hP.may (q+6) ah [Hv] (by simp)
     refine⟨_,bc,hB,λhJ=>?_,λhJ=>?_⟩
     ·
      rw[if_pos hJ] at eY aj
      have dB:=sL (q+6) ah eY.w
      cases aT:ij all (a+1) with
      |error f=>
       rw[aT] at dB aj
       exact .inr (eY.fin (V:=oe h.n) (show cB p c all 0 _ f _ from dB) aj)
      |ok ch=>
       obtain⟨s,bd⟩:=ch
       rw[aT] at dB
       simp only[aT] at aj
       obtain⟨v,cj,kA,rfl,ih,jJ⟩:=dB
       have dQ:=eY.step jJ ih
       have er:=dQ.put (jz 3 bY.at' [] [] .au .au .ao .ao)
       have dZ:=er.put (jz 3 bY.at' s [] .au .au .ao .ao)
       refine .inl ⟨s,cj,kA,_,cy dQ.cn rfl rfl,_,cy er.cn rfl rfl,?_⟩
       rw[<-g6] at aj
       have T:=Vz q bB ah (D:=⟨3,bY.at',s,[],none,none,[],[]⟩) dZ ⟨[],.inl ⟨rfl,rfl⟩,.inl ⟨rfl,rfl⟩,rfl⟩
       rw[<-aj] at T
       exact T
     · rw[if_neg (by simp[hJ])] at eY aj
       obtain⟨cj,kA,dQ⟩:=eY.may (q+6) ah [S4] (by simp)
       refine⟨_,cj,kA,λj5=>?_,λj5=>?_⟩
       ·
        rw[if_pos j5] at dQ aj
        have dB:=sL (q+6) ah dQ.w
        cases aT:ij all (a+1) with
        |error f=>
         rw[aT] at dB aj
         exact .inr (dQ.fin (V:=oe h.n) (show cB p c all 0 _ f _ from dB) aj)
        |ok ch=>
         obtain⟨s,bd⟩:=ch
         rw[aT] at dB
         simp only[aT] at aj
         obtain⟨v,cK,mm,rfl,jq,lB⟩:=dB
         have er:=dQ.step lB jq
         have dZ:=er.put (jz 4 bY.at' [] [] .au .au .ao .ao)
         have fy:=dZ.put (jz 4 bY.at' s [] .au .au .ao .ao)
         have pN:=U6 (q+2) ah de (nk 40) (by omega) fy.w
         refine .inl ⟨s,cK,mm,_,cy er.cn rfl rfl,_,cy dZ.cn rfl rfl,?_⟩
         cases zM:rM all (jk all 40) bd with
         |error f=>
          rw[zM] at pN aj
          exact .inr (fy.fin (V:=oe h.n) (show cB p c all 0 _ f _ from pN) aj)
         |ok km=>
          obtain⟨l,b2⟩:=km
          rw[zM] at pN
          simp only[zM] at aj
          obtain⟨v,hZ,vz,v10,vA,oZ⟩:=pN
          have ek:=fy.step oZ vA
          have v10:=xu.new v10 fy.x.n fy.up
          obtain⟨bV,ey,us,rfl,dt,dv,gD⟩:=v10
          have h2:=ek.put (jz 4 bY.at' s [] .au .au bV .ao)
          have fK:=h2.put (jz 4 bY.at' s [] .au .au bV ey)
          have lW:=(xv bV ey).put ((xv bV ey).put (t:=(l.map (·.1),l.map (·.2))) (v:=.au) ⟨us,dt,dv,gD⟩ (some (jz 4 bY.at' s [] .au .au bV .ao))) (some (jz 4 bY.at' s [] .au .au bV ey))
          refine .inl ⟨bV,ey,hZ,vz,dt.cell.1,_,cy ek.cn rfl (by simp only[gK,dt.cell.1]),dv.cell.1,_,cy h2.cn rfl (by simp only[gK,dv.cell.1];rfl),?_⟩
          rw[<-g6] at aj
          have T:=Vz q bB ah (D:=⟨4,bY.at',s,[],none,none,l.map (·.1),l.map (·.2)⟩) fK lW
          rw[<-aj] at T
          exact T
       ·
        rw[if_neg (by simp[j5])] at dQ aj
        obtain⟨v,g,aO,aZ⟩:=dQ.fin (V:=oe h.n) (zm (q+8) dQ.w 10) aj
        exact⟨v,g,aO,aZ⟩
end Go.Proofs.lv
