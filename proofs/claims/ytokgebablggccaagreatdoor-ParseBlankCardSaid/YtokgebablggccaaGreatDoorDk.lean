/- contracts of functions; no condition -/
import Derived.Test.YtokgebablggccaaGreatDoorDj
set_option linter.unusedVariables false
set_option linter.unusedSimpArgs false
set_option maxRecDepth 100000
set_option maxHeartbeats 1000000
namespace Go.Proofs.lv
open Go aJ Go.Proofs lp iI fO
variable {E:Nat->bw bX}{a bL c d lo:Nat}{all:List bP}{g h y:I}{v:aa}{α:Type}
variable {Q:cl->bD->Prop} {R:a8->Prop}
theorem aik(m p:Nat)(h:I)(H:∃bn,aC (I.push h (aD [af p] 72)) h.n 0=some (af bn)/\∃b6 al,Y m (.fn 145) [af bn] (I.push h (aD [af p] 72))=.ret (af b6) al/\R (.ret (af b6) al)):
  R (Y (m+1) (.fn 142) [af p] h):=
 mH [(7,.ep .p),(28,.e (some .o) .o),(36,.e none .o),(53,.p .o),(56,.e none .o),(60,.e none .o),(68,.e none .o),(75,.e none .o),(85,.e none .o),(17,.p .o)] [] Tryz.func142 H
theorem ail(m p:Nat)(h:I)(H:∃bn,aC (I.push h (aD [af p] 72)) h.n 0=some (af bn)/\∃al,Y m (.fn 145) [af bn] (I.push h (aD [af p] 72))=.ret .au al/\∃b6,aC al h.n 0=some (af b6)/\∃dc s1 ct cP aw,Y m (.fn 20) [af b6] al=.ret (.agg [ad dc,.str s1,ad ct,ad cP]) aw/\∃a1,aJ.storeCells (I.push (I.push aw (xO cP 0 [])) (aD [.au] 40)) (I.n (I.push aw (xO cP 0 []))) 0 [af aw.n]=some a1/\∃fu,aC a1 h.n 0=some (af fu)/\∃bd a5,Y m (.fn 38) [af fu,.slice a1.n 0 1 (.exact 1)] (I.push a1 (aD [.str [123]] 9))=.ret (.bool bd) a5/\(bd=true->∃gR,aC a5 (I.n (I.push aw (xO cP 0 []))) 0=some (af gR)/\∃bc,aJ.storeCells a5 gR 0 [ad 8]=some bc/\∃fZ,aC (bc.room 7) (I.n (I.push aw (xO cP 0 []))) 0=some (af fZ)/\∃jX,aC (bc.room 7) h.n 0=some (af jX)/\((∃v1 cj,Y m (.fn 143) [af jX,.str [125],.fn 146 [] [.ptr (I.n (I.push aw (xO cP 0 []))) 0,af h.n]] (bc.room 7)=.ret v1 cj/\k5 v1/\∃cK,aJ.storeCells cj fZ 10 [v1]=some cK/\aC cj (I.n (I.push aw (xO cP 0 []))) 0=some (af fZ)/\∃la,aC cK (I.n (I.push aw (xO cP 0 []))) 0=some (af la)/\R (.ret (af la) cK))\/(∃v2 ee,Y m (.fn 143) [af jX,.str [125],.fn 146 [] [.ptr (I.n (I.push aw (xO cP 0 []))) 0,af h.n]] (bc.room 7)=.aK v2 ee/\R (.aK v2 ee))))/\(bd=false->∃n7,aC a5 h.n 0=some (af n7)/\∃b2 ez,Y m (.fn 38) [af n7,.slice a5.n 0 1 (.exact 1)] (I.push a5 (aD [.str [40]] 9))=.ret (.bool b2) ez/\(b2=true->∃lb,aC ez h.n 0=some (af lb)/\((∃lU hZ,Y m (.fn 46) [af lb] ez=.ret (af lU) hZ/\∃rS,aC hZ h.n 0=some (af rS)/\∃dd fe,Y m (.fn 38) [af rS,.slice hZ.n 0 1 (.exact 1)] (I.push hZ (aD [.str [41]] 9))=.ret (.bool dd) fe/\(dd=true->R (.ret (af lU) fe))/\(dd=false->∃tX,aC (fe.room 9) (I.n (I.push aw (xO cP 0 []))) 0=some (af tX)/\∃sR,aC (fe.room 9) (I.n (I.push aw (xO cP 0 []))) 0=some (af sR)/\∃hO,aJ.storeCells (fe.room 9) tX 0 [ad 15]=some hO/\∃gX,aJ.storeCells hO sR 4 [af lU]=some gX/\aC hO (I.n (I.push aw (xO cP 0 []))) 0=some (af sR)/\∃vk,aC gX h.n 0=some (af vk)/\∃gm hg,Y m (.fn 38) [af vk,.slice gX.n 0 1 (.exact 1)] (I.push gX (aD [.str [58]] 9))=.ret (.bool gm) hg/\(gm=true->∃tY,aC (hg.room 6) (I.n (I.push aw (xO cP 0 []))) 0=some (af tY)/\∃vl,aC (hg.room 6) h.n 0=some (af vl)/\((∃tZ gS,Y m (.fn 42) [af vl] (hg.room 6)=.ret (af tZ) gS/\∃oU,aJ.storeCells gS tY 7 [af tZ]=some oU/\aC gS (I.n (I.push aw (xO cP 0 []))) 0=some (af tY)/\∃sS,aC oU h.n 0=some (af sS)/\((∃nt,Y m (.fn 40) [af sS,.str [41]] oU=.ret (.aF []) nt/\∃xl,aC nt (I.n (I.push aw (xO cP 0 []))) 0=some (af xl)/\R (.ret (af xl) nt))\/(∃dP oV,Y m (.fn 40) [af sS,.str [41]] oU=.aK dP oV/\R (.aK dP oV))))\/(∃v4 qR,Y m (.fn 42) [af vl] (hg.room 6)=.aK v4 qR/\R (.aK v4 qR))))/\(gm=false->∃xm,aC hg h.n 0=some (af xm)/\∃hD nu,Y m (.fn 44) [af xm,ad 10] hg=.aK hD nu/\R (.aK hD nu))))\/(∃v6 rU,Y m (.fn 46) [af lb] ez=.aK v6 rU/\R (.aK v6 rU))))/\(b2=false->∃vm,aC ez h.n 0=some (af vm)/\∃jR kd,Y m (.fn 38) [af vm,.slice ez.n 0 1 (.exact 1)] (I.push ez (aD [.str [114,111,108,108]] 9))=.ret (.bool jR) kd/\(jR=true->∃sU,aC (kd.room 10) (I.n (I.push aw (xO cP 0 []))) 0=some (af sU)/\∃rT,aC (kd.room 10) (I.n (I.push aw (xO cP 0 []))) 0=some (af rT)/\∃t_,aC (kd.room 10) h.n 0=some (af t_)/\((∃ua mP,Y m (.fn 119) [af t_] (kd.room 10)=.ret (af ua) mP/\∃qS,aJ.storeCells mP sU 0 [ad 16]=some qS/\∃mQ,aJ.storeCells qS rT 7 [af ua]=some mQ/\aC mP (I.n (I.push aw (xO cP 0 []))) 0=some (af sU)/\aC qS (I.n (I.push aw (xO cP 0 []))) 0=some (af rT)/\aC mP (I.n (I.push aw (xO cP 0 []))) 0=some (af rT)/\∃ub,aC (mQ.room 6) (I.n (I.push aw (xO cP 0 []))) 0=some (af ub)/\∃zu,aC (mQ.room 6) h.n 0=some (af zu)/\((∃Bo nv,Y m (.fn 147) [af zu] (mQ.room 6)=.ret (af Bo) nv/\∃nw,aJ.storeCells nv ub 4 [af Bo]=some nw/\aC nv (I.n (I.push aw (xO cP 0 []))) 0=some (af ub)/\∃D_,aC nw (I.n (I.push aw (xO cP 0 []))) 0=some (af D_)/\R (.ret (af D_) nw))\/(∃il n8,Y m (.fn 147) [af zu] (mQ.room 6)=.aK il n8/\R (.aK il n8))))\/(∃im pK,Y m (.fn 119) [af t_] (kd.room 10)=.aK im pK/\R (.aK im pK))))/\(jR=false->∃Ea,aC kd h.n 0=some (af Ea)/\∃nP lV,Y m (.fn 38) [af Ea,.slice kd.n 0 1 (.exact 1)] (I.push kd (aD [.str [117,110,114,111,108,108]] 9))=.ret (.bool nP) lV/\(nP=true->∃zv,aC (lV.room 10) (I.n (I.push aw (xO cP 0 []))) 0=some (af zv)/\∃zw,aC (lV.room 10) (I.n (I.push aw (xO cP 0 []))) 0=some (af zw)/\∃M_,aC (lV.room 10) h.n 0=some (af M_)/\((∃U_ n9,Y m (.fn 147) [af M_] (lV.room 10)=.ret (af U_) n9/\∃rW,aJ.storeCells n9 zv 0 [ad 17]=some rW/\∃rX,aJ.storeCells rW zw 4 [af U_]=some rX/\aC n9 (I.n (I.push aw (xO cP 0 []))) 0=some (af zv)/\aC rW (I.n (I.push aw (xO cP 0 []))) 0=some (af zw)/\aC n9 (I.n (I.push aw (xO cP 0 []))) 0=some (af zw)/\∃Va,aC rX (I.n (I.push aw (xO cP 0 []))) 0=some (af Va)/\R (.ret (af Va) rX))\/(∃jn xt,Y m (.fn 147) [af M_] (lV.room 10)=.aK jn xt/\R (.aK jn xt))))/\(nP=false->∃Vb,aC lV h.n 0=some (af Vb)/\∃v10 qW,Y m (.fn 44) [af Vb,ad 10] lV=.aK v10 qW/\R (.aK v10 qW)))))):
  R (Y (m+1) (.fn 142) [af p] h):=
 mH [(7,.ep (.is .au)),(28,.e (some .o) .o),(36,.e none .o),(53,.p .o),(56,.e none .o),(60,.e none .o),(68,.e none .o),(75,.e none .o),(85,.e none .o),(17,.p .o)] [] Tryz.func142 H
theorem aim(m:Nat){p:Nat}(w:cL p c all a d y)(l:List bJ)(aA:l.length<=100):
  ∃g,Z (m+3) (.fn 83) [.ptr p 0,.slice y.n 0 l.length (.exact l.length)] (y.push (aD (l.map .str) 9))=.ret (.bool (dV all l a)) g/\Ext y.n y g:=by
 have dH:Ext y.n y (y.push (aD (l.map .str) 9)):=Ext.push (Nat.le_refl _) _
 obtain⟨g,a9,bb⟩:=HJ m (w.ext dH (Nat.le_refl _)) (b:=y.n) (cp:=.exact l.length) (l:=l) (by omega) (Nat.lt_succ_self _) (λi hi=>by
  refine aN (dx rfl) ?_
  rw[j0,List.getElem?_map,show 0+i*1=i by omega,List.getElem?_eq_getElem hi];rfl)
 exact⟨g,a9,dH.trans dH.n bb⟩
theorem ain{F:c6}{k n b:Nat}{x:bJ}(n5:F b)(ag:b<g.n)(aB:g.get b=some (dI k a n x .au .au .au .au .ao .ao .ao)):dF F g (leaf k a n x) (.ptr b 0):=
 ⟨b,.au,.au,.au,.au,.ao,.ao,.ao,[],[],rfl,n5,ag,aB,rfl,rfl,rfl,rfl,.inl ⟨rfl,rfl⟩,.inl ⟨rfl,rfl⟩,rfl,.inl ⟨rfl,rfl⟩,rfl⟩
theorem aio(m:Nat)(ah:Src all){p:Nat}(w:cL p c all a d h):
  match oN all a with
  |some e=>∃q g,Z (m+4) (.fn 145) [.ptr p 0] h=.ret (.ptr q 0) g/\dF (λk=>h.n<=k/\k<g.n) g e (.ptr q 0)/\cL p c all (a+1) d g/\bU p h.n h g
  |none=>∃g,Z (m+4) (.fn 145) [.ptr p 0] h=.ret .au g/\cL p c all a d g/\bU p h.n h g:=by
 have a3:=w.cM
 have ak:=w.gq
 have hlen:=ah.len
 obtain⟨t,aI⟩:∃t,t=bR all a:=⟨_,rfl⟩
 obtain⟨al,a9,bb⟩:=oR (m+2) w
 rw[<-aI] at a9
 have bn:=bb.n
 obtain⟨aw,aE⟩:∃g,g=(al.push mh).set al.n (some (aD (fm t) 76)):=⟨_,rfl⟩
 have b6:aw.n=al.n+1:=by rw[aE];rfl
 have b2:aw.get al.n=some (aD (fm t) 76):=by rw[aE];exact dz rfl
 have fC:aJ.storeCells (al.push mh) al.n 0 [ad t.k,.str t.t,ad t.v,ad t.at']=some aw:=by rw[aE];exact cy (dx rfl) rfl rfl
 have oS:Ext al.n al aw:=by rw[aE];exact Ext.ix (Nat.le_refl _) (Ext.push (Nat.le_refl _) _)
 obtain⟨a1,br⟩:∃g,g=aw.push (dI 0 t.at' t.v t.t .au .au .au .au .ao .ao .ao):=⟨_,rfl⟩
 have dc:a1.n=aw.n+1:=by rw[br];rfl
 have HW:Ext aw.n aw a1:=by rw[br];exact Ext.push (Nat.le_refl _) _
 have dd:a1.get al.n=some (aD (fm t) 76):=(HW.get _ (by omega)).trans b2
 have d3:a1.get aw.n=some (dI 0 t.at' t.v t.t .au .au .au .au .ao .ao .ao):=by rw[br];exact dx rfl
 have oc:Ext h.n h a1:=(bb.trans bn oS).trans (by omega) HW
 have eH:=w.ext oc (Nat.le_refl _)
 have fin:∀(g:I) (k n:Nat) (x:bJ),g.n>=a1.n->bU p h.n h g->cL p c all a d g->g.get aw.n=some (dI k t.at' n x .au .au .au .au .ao .ao .ao)->a+1<all.length->∃fT,aJ.storeCells g p 1 [ad (a+1)]=some fT/\dF (λk=>h.n<=k/\k<fT.n) fT (leaf k t.at' n x) (.ptr aw.n 0)/\cL p c all (a+1) d fT/\bU p h.n h fT:=λg k n x aT gn gr aB cf=>by
  refine⟨_,cy gr.par rfl rfl,ain ⟨by omega,by simp;omega⟩ (by simp;omega) (cr (by omega) aB),gr.set cf,gn.qe⟩
 have one:∀(k:Nat),a+1<all.length->∃a5 bc,aJ.storeCells a1 aw.n 0 [ad k]=some a5/\aC a5 p 1=some (ad a)/\aJ.storeCells a5 p 1 [ad (a+1)]=some bc/\dF (λj=>h.n<=j/\j<bc.n) bc (leaf k t.at' t.v t.t) (.ptr aw.n 0)/\cL p c all (a+1) d bc/\bU p h.n h bc:=λk cf=>by
  have jD:cL p c all a d (a1.set aw.n (some (dI k t.at' t.v t.t .au .au .au .au .ao .ao .ao))):=⟨cr (by omega) eH.par,cr (by omega) eH.row,eH.cM,eH.gq,eH.lt⟩
  obtain⟨bc,aV,aU,bu,e7⟩:=fin (a1.set aw.n (some (dI k t.at' t.v t.t .au .au .au .au .ao .ao .ao))) k t.v t.t (Nat.le_refl _) ((oc.eb p).ix (by omega)) jD (dz rfl) cf
  exact⟨_,bc,cy d3 rfl rfl,aN jD.par rfl,aV,aU,bu,e7⟩
 have Bt:¬t.k=0->a+1<all.length:=λai=>ah.lt w.lt (by rw[<-aI];exact ai)
 have LS:oN all a=(if t.k=3 then some (leaf 1 t.at' t.v t.t) else if t.k=4 then some (leaf 2 t.at' t.v t.t) else if t.k=1 then some (leaf 6 t.at' t.v t.t) else if dV all [qE,qF,mN] a then some (leaf (qG t.t) t.at' t.v []) else none):=by
  unfold oN;rw[<-aI]
 rw[LS]
 have run:∀{R:a8->Prop},(t.k=3->∃a5,aJ.storeCells a1 aw.n 0 [ad 1]=some a5/\∃gR,aC a5 p 1=some (ad gR)/\gR+1<9223372036854775808/\∃bc,aJ.storeCells a5 p 1 [ad (gR+1)]=some bc/\R (.ret (.ptr aw.n 0) bc))->
   (t.k=4->∃a5,aJ.storeCells a1 aw.n 0 [ad 2]=some a5/\∃gR,aC a5 p 1=some (ad gR)/\gR+1<9223372036854775808/\∃bc,aJ.storeCells a5 p 1 [ad (gR+1)]=some bc/\R (.ret (.ptr aw.n 0) bc))->
   (t.k=1->∃a5,aJ.storeCells a1 aw.n 0 [ad 6]=some a5/\∃gR,aC a5 p 1=some (ad gR)/\gR+1<9223372036854775808/\∃bc,aJ.storeCells a5 p 1 [ad (gR+1)]=some bc/\R (.ret (.ptr aw.n 0) bc))->
   (¬t.k=3->¬t.k=4->¬t.k=1->∃bd ez,Z (m+3) (.fn 83) [.ptr p 0,.slice a1.n 0 3 (.exact 3)] (a1.push (aD [.str qE,.str qF,.str mN] 9))=.ret (.bool bd) ez/\(bd=true->∃hZ,iA an (ez.push (.map [] 0)) 200 (.map ez.n) (.str qE) (ad 3)=some hZ/\∃fe,iA an hZ 200 (.map ez.n) (.str qF) (ad 4)=some fe/\∃hO,iA an fe 200 (.map ez.n) (.str mN) (ad 5)=some hO/\aC hO al.n 1=some (.str t.t)/\∃lb,mY an hO 200 (.map ez.n) (.str t.t) false=some (ad lb)/\∃gX,aJ.storeCells hO aw.n 0 [ad lb]=some gX/\∃hg,aJ.storeCells gX aw.n 3 [.str []]=some hg/\∃lU,aC hg p 1=some (ad lU)/\lU+1<9223372036854775808/\∃gS,aJ.storeCells hg p 1 [ad (lU+1)]=some gS/\R (.ret (.ptr aw.n 0) gS))/\(bd=false->R (.ret .au ez)))->
   R (Z (m+4) (.fn 145) [.ptr p 0] h):=λ{R} aq aQ J bg=>
  ah5 (m+3) p h (R:=R) (by
   refine⟨_,_,_,_,al,a9,aw,fC,_,aN b2 rfl,_,aN b2 rfl,_,aN b2 rfl,?_⟩
   rw[show(aw.push (xO t.at' t.v t.t))=a1 from br.symm]
   refine⟨_,aN dd rfl,aq,λbC=>⟨_,aN dd rfl,aQ,λcX=>⟨_,aN dd rfl,J,λaO=>?_⟩⟩⟩
   obtain⟨bd,ez,aV,aU,bu⟩:=bg bC cX aO
   refine⟨bd,ez,aV,λag=>?_,bu⟩
   obtain⟨hZ,fF,fe,g9,hO,lQ,aip,lb,UQ,gX,aiq,hg,air,lU,u8,UW,gS,ais,ait⟩:=aU ag
   exact⟨hZ,⟨fF,rfl⟩,fe,⟨g9,rfl⟩,hO,⟨lQ,rfl⟩,_,aip,lb,UQ,gX,aiq,hg,air,lU,u8,UW,gS,ais,ait⟩)
 by_cases bC:t.k=3
 · rw[if_pos bC]
   obtain⟨a5,bc,aV,aU,bu,e7,gL,nh⟩:=one 1 (Bt (by omega))
   have cf:=Bt (by omega)
   exact run (R:=λx=>∃q g,x=.ret (.ptr q 0) g/\dF (λk=>h.n<=k/\k<g.n) g (leaf 1 t.at' t.v t.t) (.ptr q 0)/\cL p c all (a+1) d g/\bU p h.n h g) (λ_=>⟨a5,aV,a,aU,by omega,bc,bu,aw.n,bc,rfl,e7,gL,nh⟩) (λe=>by omega) (λe=>by omega) (λe _ _=>absurd bC e)
 rw[if_neg bC]
 by_cases cX:t.k=4
 · rw[if_pos cX]
   obtain⟨a5,bc,aV,aU,bu,e7,gL,nh⟩:=one 2 (Bt (by omega))
   have cf:=Bt (by omega)
   exact run (R:=λx=>∃q g,x=.ret (.ptr q 0) g/\dF (λk=>h.n<=k/\k<g.n) g (leaf 2 t.at' t.v t.t) (.ptr q 0)/\cL p c all (a+1) d g/\bU p h.n h g) (λe=>by omega) (λ_=>⟨a5,aV,a,aU,by omega,bc,bu,aw.n,bc,rfl,e7,gL,nh⟩) (λe=>by omega) (λ_ e _=>absurd cX e)
 rw[if_neg cX]
 by_cases aO:t.k=1
 · rw[if_pos aO]
   obtain⟨a5,bc,aV,aU,bu,e7,gL,nh⟩:=one 6 (Bt (by omega))
   have cf:=Bt (by omega)
   exact run (R:=λx=>∃q g,x=.ret (.ptr q 0) g/\dF (λk=>h.n<=k/\k<g.n) g (leaf 6 t.at' t.v t.t) (.ptr q 0)/\cL p c all (a+1) d g/\bU p h.n h g) (λe=>by omega) (λe=>by omega) (λ_=>⟨a5,aV,a,aU,by omega,bc,bu,aw.n,bc,rfl,e7,gL,nh⟩) (λ_ _ e=>absurd aO e)
 rw[if_neg aO]
 obtain⟨ez,kT,rV⟩:=aim m eH [qE,qF,mN] (by simp)
 have jX:=rV.n
 have Ep:Ext h.n h ez:=oc.trans (by omega) rV
 cases ag:dV all [qE,qF,mN] a with
 |false=>
  rw[ag] at kT
  rw[if_neg (by simp)]
  exact run (R:=λx=>∃g,x=.ret .au g/\cL p c all a d g/\bU p h.n h g) (λe=>absurd e bC) (λe=>absurd e cX) (λe=>absurd e aO) (λ_ _ _=>⟨false,ez,kT,λe=>(by cases e),λ_=>⟨ez,rfl,w.ext Ep (Nat.le_refl _),Ep.eb p⟩⟩)
 |true=>
  rw[ag] at kT
  rw[if_pos rfl]
  have bE:(ez.push (.map [] 0)).get ez.n=some (.map [] 0):=dx rfl
  obtain⟨hZ,cR,bd,la,e2⟩:=vo (v:=ad 3) uc (ud qE) bE (by kernel_rfl)
  obtain⟨fe,gg,aiu,n7,eh⟩:=vo (v:=ad 4) uc (ud qF) bd (by kernel_rfl)
  obtain⟨hO,ry,Na,lb,g4⟩:=vo (v:=ad 5) uc (ud mN) aiu (by kernel_rfl)
  have dB:(ez.push (.map [] 0)).n=ez.n+1:=rfl
  have Nb:∀j,j<ez.n->hO.get j=ez.get j:=λj aL=>(g4 j (by omega)).trans ((eh j (by omega)).trans ((e2 j (by omega)).trans (gN aL rfl)))
  have Vc:Ext h.n h hO:=⟨by have:=Ep.n;omega,λj aL=>(Nb j (by have:=Ep.n;omega)).trans (Ep.get j aL)⟩
  have eW:=(Nb al.n (by omega)).trans ((rV.get al.n (by omega)).trans dd)
  have bL:=(Nb aw.n (by omega)).trans ((rV.get aw.n (by omega)).trans d3)
  have hw:t.t∈[qE,qF,mN]:=by
   rw[aI]
   unfold dV at ag
   simp only[Bool.and_eq_true] at ag
   simpa using ag.2
  obtain⟨i,aM⟩:∃i,jN an hO 9 (.str t.t) ((([]++[⟨.str qE,ad 3,0⟩])++[⟨.str qF,ad 4,0+1⟩])++[⟨.str mN,ad 5,0+1+1⟩]) 0=some (some (i,ad (qG t.t))):=by
   simp only[List.mem_cons,List.not_mem_nil,or_false] at hw
   rcases hw with e|e|e<;>rw[e]
   · exact⟨0,by kernel_rfl⟩
   · exact⟨1,by kernel_rfl⟩
   · exact⟨2,by kernel_rfl⟩
  have gk:=zx uc (ud t.t) Na aM
  have cf:=ah.lt w.lt (Uq ag)
  obtain⟨gX,Bq⟩:∃g,g=hO.set aw.n (some (dI (qG t.t) t.at' t.v t.t .au .au .au .au .ao .ao .ao)):=⟨_,rfl⟩
  obtain⟨hg,Br⟩:∃g,g=gX.set aw.n (some (dI (qG t.t) t.at' t.v [] .au .au .au .au .ao .ao .ao)):=⟨_,rfl⟩
  have aiv:gX.get aw.n=some (dI (qG t.t) t.at' t.v t.t .au .au .au .au .ao .ao .ao):=by rw[Bq];exact dz rfl
  have rS:hg.n=hO.n:=by rw[Br,Bq];rfl
  have Vd:∀j,j≠aw.n->hg.get j=hO.get j:=λj aL=>by rw[Br,Bq];exact cr aL (cr aL rfl)
  have Er:=w.ext Vc (Nat.le_refl _)
  have HX:cL p c all a d hg:=⟨(Vd p (by omega)).trans Er.par,(Vd c (by omega)).trans Er.row,by rw[rS];exact Er.cM,by rw[rS];exact Er.gq,Er.lt⟩
  have Es:bU p h.n h hg:=by rw[Br,Bq];exact(((Vc.eb p).ix (by omega)).ix (by omega))
  obtain⟨gS,aV,aU,bu,e7⟩:=fin hg (qG t.t) t.v [] (by omega) Es HX (by rw[Br];exact dz rfl) cf
  exact run (R:=λx=>∃q g,x=.ret (.ptr q 0) g/\dF (λk=>h.n<=k/\k<g.n) g (leaf (qG t.t) t.at' t.v []) (.ptr q 0)/\cL p c all (a+1) d g/\bU p h.n h g) (λe=>absurd e bC) (λe=>absurd e cX) (λe=>absurd e aO) (λ_ _ _=>⟨true,ez,kT,λ_=>⟨hZ,cR,fe,gg,hO,ry,aN eW rfl,_,gk,gX,by rw[Bq];exact cy bL rfl rfl,hg,by rw[Br];exact cy aiv rfl rfl,a,aN HX.par rfl,by omega,gS,aV,aw.n,gS,rfl,aU,bu,e7⟩,λe=>(by cases e)⟩)
abbrev Fn(h:I)(bL:Nat)(y:I):c6:=λk=>h.n<=k/\k<y.n/\k≠bL
theorem nr.step{W:c6->I->α->aa->Prop}(iv:nr W){p:Nat}{t:α}(o:W (Fn h bL y) y t v)(x:bU p y.n y g)(a3:p<h.n):W (Fn h bL g) g t v:=
 iv _ _ _ _ _ _ o ⟨x.n,λk ai cO=>x.get k cO (by have:=ai.1;omega)⟩ λk ai cO=>⟨ai.1,by have:=x.n;omega,ai.2.2⟩
theorem nr.put{W:c6->I->α->aa->Prop}(iv:nr W){t:α}(o:W (Fn h bL y) y t v)(ob:Option b5):W (Fn h bL (y.set bL ob)) (y.set bL ob) t v:=
 iv _ _ _ _ _ _ o ⟨Nat.le_refl _,λk ai cO=>cr ai.2.2 rfl⟩ λk ai cO=>ai
theorem nr.new{W:c6->I->α->aa->Prop}(iv:nr W){t:α}(o:W (λk=>y.n<=k/\k<g.n) g t v)(bH:h.n<=y.n)(aT:bL<y.n):W (Fn h bL g) g t v:=
 iv _ _ _ _ _ _ o ⟨Nat.le_refl _,λ_ _ _=>rfl⟩ λk ai cO=>⟨by omega,ai.2,by omega⟩
theorem nr.fin{W:c6->I->α->aa->Prop}(iv:nr W){t:α}(o:W (Fn h bL g) g t v):W (λk=>h.n<=k/\k<g.n) g t v:=
 iv _ _ _ _ _ _ o ⟨Nat.le_refl _,λ_ _ _=>rfl⟩ λk ai cO=>⟨ai.1,ai.2.1⟩
theorem ml.fin{p b1 cE:Nat}{lA:TypeId}{o:b5}{V:α->aa->I->Prop}{r:bw α}{f:rJ}{x:a8}(s:ml p c all d h lA bL b1 cE a o y)(ag:cB p c all d y f x)(aj:r=.error f):∃v g,x=.aK v g/\Fin p c all d h V r (.aK v g):=by
 obtain⟨v,g,aO,aZ⟩:=s.bad ag
 exact⟨v,g,aO,by rw[aj];exact aZ⟩
theorem aiw(m:Nat){T:Nat->bw cG}{lt:Nat}(ah:Src all)(bO:sZ all E d lo)(de:pL all T d lt)(nn:ev E)(hm:lo<=m+6)(lL:lt<=m+6){p:Nat}(w:cL p c all a d h):Fin p c all d h (fP h.n) (pB all E T a) (Z (m+9) (.fn 142) [.ptr p 0] h):=by
 have a3:=w.cM
 have ak:=w.gq
 obtain⟨bY,g6⟩:∃t,t=bR all a:=⟨_,rfl⟩
 obtain⟨h0,c_⟩:∃g,g=h.push (aD [.ptr p 0] 72):=⟨_,rfl⟩
 have k8:h0.n=h.n+1:=by rw[c_];rfl
 have dH:Ext h.n h h0:=by rw[c_];exact Ext.push (Nat.le_refl _) _
 have bE:h0.get h.n=some (aD [.ptr p 0] 72):=by rw[c_];exact dx rfl
 have w0:=w.ext dH (Nat.le_refl _)
 obtain⟨r,aj⟩:∃r,r=pB all E T a:=⟨_,rfl⟩
 rw[<-aj]
 unfold pB at aj
 have vw:=aio (m+4) ah w0
 cases aI:oN all a with
 |some e=>
  rw[aI] at vw aj
  obtain⟨q,g,a9,v1,b_,bb⟩:=vw
  refine aik (m+8) p h (R:=Fin p c all d h (fP h.n) r) ?_
  rw[show(h.push (aD [.ptr p 0] 72))=h0 from c_.symm]
  refine⟨p,aN bE rfl,q,g,a9,?_⟩
  rw[aj]
  exact⟨_,g,rfl,dF.cx ⟨Nat.le_refl _,λ_ _ _=>rfl⟩ (λk ai cO=>⟨by omega,ai.2⟩) e _ v1,b_,(dH.eb p).trans dH.n bb⟩
 |none=>
  rw[aI] at vw
  simp only[aI] at aj
  obtain⟨al,a9,b_,bb⟩:=vw
  have bn:=bb.n
  have En:=(bb.get h.n (by omega) (by omega)).trans bE
  have Ve:bU p h.n h al:=(dH.eb p).trans dH.n bb
  obtain⟨aw,cI,cw⟩:=oR (m+7) b_
  rw[<-g6] at cI
  have b6:=cw.n
  obtain⟨a1,br⟩:∃g,g=((aw.push (dI 0 bY.at' 0 [] .au .au .au .au .ao .ao .ao)).push (aD [.au] 40)).set (aw.n+1) (some (aD [.ptr aw.n 0] 40)):=⟨_,rfl⟩
  have dc:a1.n=aw.n+2:=by rw[br];rfl
  have HW:Ext aw.n aw a1:=by rw[br];exact Ext.ix (by omega) (Ext.k4 (by simp) (Ext.push (Nat.le_refl _) _))
  have xe:aJ.storeCells ((aw.push (dI 0 bY.at' 0 [] .au .au .au .au .ao .ao .ao)).push (aD [.au] 40)) (aw.n+1) 0 [.ptr aw.n 0]=some a1:=by rw[br];exact cy (dx rfl) rfl rfl
  have nz:Ext al.n al a1:=cw.trans b6 HW
  have jY:ml p c all d h 40 aw.n (aw.n+1) h.n a (dI 0 bY.at' 0 [] .au .au .au .au .ao .ao .ao) a1:=⟨b_.ext nz (Nat.le_refl _),by rw[br];exact cr (by omega) (gN (by simp) (dx rfl)),by rw[br];exact dz rfl,(nz.get h.n (by omega)).trans En,⟨by omega,by omega,by omega⟩,⟨by omega,by omega,by omega⟩,⟨by omega,by omega,by omega⟩,Ve.trans Ve.n (nz.eb p),⟨a3,ak⟩⟩
  obtain⟨a5,hy,hP⟩:=jY.may (m+4) ah [[123]] (by simp)
  have fw:=jY.lo.1
  have gw:=jY.lo.2.1
  have tt:=jY.lo.2.2
  refine ail (m+8) p h (R:=Fin p c all d h (fP h.n) r) ?_
  rw[show(h.push (aD [.ptr p 0] 72))=h0 from c_.symm]
  refine⟨p,aN bE rfl,al,a9,p,aN En rfl,_,_,_,_,aw,cI,a1,xe,p,aN jY.dO rfl,_,a5,hy,λag=>?_,λag=>?_⟩
  ·
   rw[if_pos ag] at hP aj
   have eY:=hP.put (dI 8 bY.at' 0 [] .au .au .au .au .ao .ao .ao)
   have dQ:=eY.room 7
   have L:=UJ (m+2) ah dQ.w [125] (B:=h.n) dQ.x.n (fv:=.fn 146 [] [.ptr (aw.n+1) 0,.ptr h.n 0]) (xs:=[.ptr (aw.n+1) 0,.ptr h.n 0]) (.inl rfl) (S_ nn) (Eo.ok a3 fw gw tt) (λF G h g x w ab e m=>dF.cx e m x.2 w ab) (aij (m+1) ah bO (by omega) a3 ak fw gw tt dQ.ne) (O0:=λk=>k=aw.n\/k=aw.n+1\/k=h.n\/∃n cp,aa.ao=.slice k 0 n cp) ⟨.ao,dQ.cn,dQ.gt,dQ.dO,dQ.up,.inl ⟨rfl,rfl⟩,λk=>Iff.rfl⟩
   refine⟨aw.n,aN hP.gt rfl,_,cy hP.cn rfl rfl,aw.n,aN dQ.gt rfl,p,aN dQ.dO rfl,?_⟩
   cases aA:j_ all [125] (lR all E) (a+1) with
   |error f=>
    rw[aA] at L aj
    obtain⟨e,g,a6,aO,aZ⟩:=iV.Eh (show iV p c all d h.n _ f _ from L) dQ.x
    rw[aj]
    exact .inr ⟨_,g,aO,e,g,a6,rfl,aZ⟩
   |ok km=>
    obtain⟨l,b⟩:=km
    rw[aA] at L
    simp only[aA] at aj
    obtain⟨v,cK,gj,mm,jq,⟨bV,fS,iD,iE,⟨h1,kW,jo⟩,fo,eX⟩,⟨ws,hz,el⟩,gA,bg⟩:=L
    have gR:=gA.n
    have lB:bU p h.n h cK:=dQ.x.trans (Nat.le_refl _) ⟨gR,λk ai da=>gA.get k (by have:=dQ.x.n;omega) da λcJ=>by
     rcases cJ with rfl|rfl|rfl|⟨_,_,e⟩
     · omega
     · omega
     · omega
     · cases e⟩
    obtain⟨ee,kF⟩:∃g,g=cK.set aw.n (some (dI 8 bY.at' 0 [] .au .au .au .au bV .ao v)):=⟨_,rfl⟩
    have fZ:ee.n=cK.n:=by rw[kF];rfl
    have ny:∀k,k≠aw.n->ee.get k=cK.get k:=λk ai=>by rw[kF];exact cr ai rfl
    have M5:gj aw.n:=(eX _).2 (.inl rfl)
    refine .inl ⟨v,cK,mm,hz.cell.1,ee,by rw[kF];exact cy fS rfl (by simp only[gK,hz.cell.1]),aN iD rfl,aw.n,aN ((ny (aw.n+1) (by omega)).trans iD) rfl,?_⟩
    rw[aj,<-g6]
    have amn:=dQ.x.n
    have j2:jK (λk=>(a5.set aw.n (some (dI 8 bY.at' 0 [] .au .au .au .au .ao .ao .ao))|>.room 7).n<=k/\k<cK.n/\¬gj k) cK ee:=⟨by omega,λk ai cO=>ny k λe=>ai.2.2 (by rw[e];exact M5)⟩
    have sP:∀k,((a5.set aw.n (some (dI 8 bY.at' 0 [] .au .au .au .au .ao .ao .ao))|>.room 7).n<=k/\k<cK.n/\¬gj k)->k<cK.n->h.n<=k/\k<ee.n:=λk ai _=>⟨by omega,by omega⟩
    have aix:fD kV 1 9 (λk=>h.n<=k/\k<ee.n) ee bV (l.map (·.1)):=by
     have ne:=fo.out.ne fS (.inl (by simp))
     rcases fo with⟨aV,aU⟩|⟨q,aV,aU,bu,e7,gL⟩
     · exact .inl ⟨aV,aU⟩
     · exact .inr ⟨q,aV,aU,(ny q λe=>ne _ _ (by rw[aV,e])).trans bu,⟨e7,by omega⟩,by omega⟩
    refine⟨_,ee,rfl,⟨aw.n,.au,.au,.au,.au,bV,.ao,v,[],ws,rfl,⟨fw,by omega⟩,by omega,by rw[kF];exact dz rfl,rfl,rfl,rfl,rfl,aix,.inl ⟨rfl,rfl⟩,rfl,hz.to j2 sP,oT.els (fx.map (W:=dF) (·.2) (el.imp λt v ab=>dF.cx j2 sP t.2 v ab))⟩,⟨(ny p (by omega)).trans jq.par,(ny c (by omega)).trans jq.row,by rw[fZ];exact jq.cM,by rw[fZ];exact jq.gq,jq.lt⟩,by rw[kF];exact lB.ix fw⟩
  · rw[if_neg (by simp[ag])] at hP aj
    obtain⟨bc,hB,eY⟩:=hP.may (m+4) ah [[40]] (by simp)
    refine⟨p,aN hP.dO rfl,_,bc,hB,λen=>?_,λen=>?_⟩
    ·
     rw[if_pos en] at eY aj
     have iF:=bO (m+8) (by omega) eY.w
     refine⟨p,aN eY.dO rfl,?_⟩
     cases he:E (a+1) with
     |error f=>
      rw[he] at iF aj
      obtain⟨v,g,aO,aZ⟩:=eY.fin (V:=fP h.n) (show cB p c all d _ f _ from iF) aj
      exact .inr ⟨v,g,aO,aZ⟩
     |ok fG=>
      obtain⟨x,b⟩:=fG
      rw[he] at iF
      simp only[he] at aj
      obtain⟨u,cj,kA,v6,ih,jJ⟩:=iF
      obtain⟨q,rfl⟩:=dF.ptr v6
      have dQ:=eY.step jJ ih
      have aiy:=eZ.new v6 eY.x.n eY.up.1
      obtain⟨cK,mm,jq,lB⟩:=vn (m+4) ah dQ.w [[41]] (by simp)
      have er:=dQ.step lB jq
      have il:=eZ.step aiy lB a3
      refine .inl ⟨q,cj,kA,p,aN dQ.dO rfl,_,cK,mm,λhJ=>?_,λhJ=>?_⟩
      · rw[if_pos hJ] at er aj
        rw[aj]
        exact⟨_,cK,rfl,eZ.fin il,er.w,er.x⟩
      · rw[if_neg (by simp[hJ])] at er aj
        have dZ:=er.room 9
        have im:=eZ.step il ((Ext.room cK.n cK 9).eb p) a3
        have fy:=dZ.put (dI 15 bY.at' 0 [] .au .au .au .au .ao .ao .ao)
        have ek:=fy.put (dI 15 bY.at' 0 [] (.ptr q 0) .au .au .au .ao .ao .ao)
        have v10:=eZ.put (eZ.put im (some (dI 15 bY.at' 0 [] .au .au .au .au .ao .ao .ao))) (some (dI 15 bY.at' 0 [] (.ptr q 0) .au .au .au .ao .ao .ao))
        obtain⟨fe,sW,sX,mS⟩:=vn (m+4) ah ek.w [[58]] (by simp)
        have h2:=ek.step mS sX
        have v11:=eZ.step v10 mS a3
        refine⟨aw.n,aN dZ.gt rfl,aw.n,aN dZ.gt rfl,_,cy dZ.cn rfl rfl,_,cy fy.cn rfl rfl,aN fy.gt rfl,p,aN ek.dO rfl,_,fe,sW,λj5=>?_,λj5=>?_⟩
        · rw[if_pos j5] at h2 aj
          have fK:=h2.room 6
          have lW:=eZ.step v11 ((Ext.room fe.n fe 6).eb p) a3
          have HY:=de (m+8) (by omega) fK.w
          refine⟨aw.n,aN fK.gt rfl,p,aN fK.dO rfl,?_⟩
          cases zF:T (b+1) with
          |error f=>
           rw[zF] at HY aj
           obtain⟨v,g,aO,aZ⟩:=fK.fin (V:=fP h.n) (show cB p c all d _ f _ from HY) aj
           exact .inr ⟨v,g,aO,aZ⟩
          |ok eW=>
           obtain⟨t,b2⟩:=eW
           rw[zF] at HY
           simp only[zF] at aj
           obtain⟨g9,gX,zA,oY,zB,nz⟩:=HY
           obtain⟨aU,rfl⟩:=ef.ptr oY
           have n_:=fK.step nz zB
           have lf:=n_.put (dI 15 bY.at' 0 [] (.ptr q 0) .au .au (.ptr aU 0) .ao .ao .ao)
           have pM:=eZ.put (eZ.step lW nz a3) (some (dI 15 bY.at' 0 [] (.ptr q 0) .au .au (.ptr aU 0) .ao .ao .ao))
           have t14:=ly.put (ly.new oY fK.x.n fK.up.1) (some (dI 15 bY.at' 0 [] (.ptr q 0) .au .au (.ptr aU 0) .ao .ao .ao))
           have dY:=mi (m+3) ah lf.w [41]
           refine .inl ⟨aU,gX,zA,_,cy n_.cn rfl rfl,aN n_.gt rfl,p,aN lf.dO rfl,?_⟩
           cases eB:e_ all [41] b2 with
           |error f=>
            rw[eB] at dY aj
            obtain⟨v,g,aO,aZ⟩:=lf.fin (V:=fP h.n) (show cB p c all d _ f _ from dY) aj
            exact .inr ⟨v,g,aO,aZ⟩
           |ok dd=>
            rw[eB] at dY
            simp only[eB] at aj
            obtain⟨gS,rz,M6,zC⟩:=dY
            have nA:=lf.step zC M6
            refine .inl ⟨gS,rz,aw.n,aN nA.gt rfl,?_⟩
            rw[aj,<-g6]
            exact⟨_,gS,rfl,⟨aw.n,.ptr q 0,.au,.au,.ptr aU 0,.ao,.ao,.ao,[],[],rfl,⟨fw,nA.up.1⟩,nA.up.1,nA.cn,eZ.fin (eZ.step pM zC a3),rfl,rfl,ly.fin (ly.step t14 zC a3),.inl ⟨rfl,rfl⟩,.inl ⟨rfl,rfl⟩,rfl,.inl ⟨rfl,rfl⟩,rfl⟩,nA.w,nA.x⟩
        · rw[if_neg (by simp[j5])] at h2 aj
          obtain⟨v,g,aO,aZ⟩:=h2.fin (V:=fP h.n) (zm (m+6) h2.w 10) aj
          exact⟨p,aN h2.dO rfl,v,g,aO,aZ⟩
    · rw[if_neg (by simp[en])] at eY aj
      obtain⟨cj,kA,dQ⟩:=eY.may (m+4) ah [SZ] (by simp)
      refine⟨p,aN eY.dO rfl,_,cj,kA,λhJ=>?_,λhJ=>?_⟩
      ·
       rw[if_pos hJ] at dQ aj
       have dZ:=dQ.room 10
       have dB:=Uz (m+3) ah dZ.w
       refine⟨aw.n,aN dZ.gt rfl,aw.n,aN dZ.gt rfl,p,aN dZ.dO rfl,?_⟩
       cases aT:rK all (a+1) with
       |error f=>
        rw[aT] at dB aj
        obtain⟨v,g,aO,aZ⟩:=dZ.fin (V:=fP h.n) (show cB p c all d _ f _ from dB) aj
        exact .inr ⟨v,g,aO,aZ⟩
       |ok eW=>
        obtain⟨t,b⟩:=eW
        rw[aT] at dB
        simp only[aT] at aj
        obtain⟨u,ez,kT,jn,zz,rV⟩:=dB
        have jn:=ef.UN jn
        obtain⟨q,rfl⟩:=ef.ptr jn
        have fy:=dZ.step rV zz
        have ek:=fy.put (dI 16 bY.at' 0 [] .au .au .au .au .ao .ao .ao)
        have h2:=ek.put (dI 16 bY.at' 0 [] .au .au .au (.ptr q 0) .ao .ao .ao)
        have fK:=h2.room 6
        have v11:=ly.put (ly.put (ly.new jn dZ.x.n dZ.up.1) (some (dI 16 bY.at' 0 [] .au .au .au .au .ao .ao .ao))) (some (dI 16 bY.at' 0 [] .au .au .au (.ptr q 0) .ao .ao .ao))
        have lW:=ly.step v11 ((Ext.room _ _ 6).eb p) a3
        have vx:=U9 (m+2) ah bO (by omega) fK.w
        refine .inl ⟨q,ez,kT,_,cy fy.cn rfl rfl,_,cy ek.cn rfl rfl,aN fy.gt rfl,aN ek.gt rfl,aN fy.gt rfl,aw.n,aN fK.gt rfl,p,aN fK.dO rfl,?_⟩
        cases hi:nZ all E b with
        |error f=>
         rw[hi] at vx aj
         obtain⟨v,g,aO,aZ⟩:=fK.fin (V:=fP h.n) (show cB p c all d _ f _ from vx) aj
         exact .inr ⟨v,g,aO,aZ⟩
        |ok fG=>
         obtain⟨x,b2⟩:=fG
         rw[hi] at vx
         simp only[hi] at aj
         obtain⟨g9,gX,zA,oY,zB,nz⟩:=vx
         obtain⟨aU,rfl⟩:=dF.ptr oY
         have n_:=fK.step nz zB
         have lf:=n_.put (dI 16 bY.at' 0 [] (.ptr aU 0) .au .au (.ptr q 0) .ao .ao .ao)
         have pM:=eZ.put (eZ.new oY fK.x.n fK.up.1) (some (dI 16 bY.at' 0 [] (.ptr aU 0) .au .au (.ptr q 0) .ao .ao .ao))
         have t14:=ly.put (ly.step lW nz a3) (some (dI 16 bY.at' 0 [] (.ptr aU 0) .au .au (.ptr q 0) .ao .ao .ao))
         refine .inl ⟨aU,gX,zA,_,cy n_.cn rfl rfl,aN n_.gt rfl,aw.n,aN lf.gt rfl,?_⟩
         rw[aj,<-g6]
         exact⟨_,_,rfl,⟨aw.n,.ptr aU 0,.au,.au,.ptr q 0,.ao,.ao,.ao,[],[],rfl,⟨fw,lf.up.1⟩,lf.up.1,lf.cn,eZ.fin pM,rfl,rfl,ly.fin t14,.inl ⟨rfl,rfl⟩,.inl ⟨rfl,rfl⟩,rfl,.inl ⟨rfl,rfl⟩,rfl⟩,lf.w,lf.x⟩
      · rw[if_neg (by simp[hJ])] at dQ aj
        obtain⟨cK,mm,er⟩:=dQ.may (m+4) ah [S0] (by simp)
        refine⟨p,aN dQ.dO rfl,_,cK,mm,λj5=>?_,λj5=>?_⟩
        ·
         rw[if_pos j5] at er aj
         have dZ:=er.room 10
         have vx:=U9 (m+2) ah bO (by omega) dZ.w
         refine⟨aw.n,aN dZ.gt rfl,aw.n,aN dZ.gt rfl,p,aN dZ.dO rfl,?_⟩
         cases hi:nZ all E (a+1) with
         |error f=>
          rw[hi] at vx aj
          obtain⟨v,g,aO,aZ⟩:=dZ.fin (V:=fP h.n) (show cB p c all d _ f _ from vx) aj
          exact .inr ⟨v,g,aO,aZ⟩
         |ok fG=>
          obtain⟨x,b⟩:=fG
          rw[hi] at vx
          simp only[hi] at aj
          obtain⟨u,ez,kT,jn,zz,rV⟩:=vx
          obtain⟨q,rfl⟩:=dF.ptr jn
          have fy:=dZ.step rV zz
          have ek:=fy.put (dI 17 bY.at' 0 [] .au .au .au .au .ao .ao .ao)
          have h2:=ek.put (dI 17 bY.at' 0 [] (.ptr q 0) .au .au .au .ao .ao .ao)
          have v11:=eZ.put (eZ.put (eZ.new jn dZ.x.n dZ.up.1) (some (dI 17 bY.at' 0 [] .au .au .au .au .ao .ao .ao))) (some (dI 17 bY.at' 0 [] (.ptr q 0) .au .au .au .ao .ao .ao))
          refine .inl ⟨q,ez,kT,_,cy fy.cn rfl rfl,_,cy ek.cn rfl rfl,aN fy.gt rfl,aN ek.gt rfl,aN fy.gt rfl,aw.n,aN h2.gt rfl,?_⟩
          rw[aj,<-g6]
          exact⟨_,_,rfl,⟨aw.n,.ptr q 0,.au,.au,.au,.ao,.ao,.ao,[],[],rfl,⟨fw,h2.up.1⟩,h2.up.1,h2.cn,eZ.fin v11,rfl,rfl,rfl,.inl ⟨rfl,rfl⟩,.inl ⟨rfl,rfl⟩,rfl,.inl ⟨rfl,rfl⟩,rfl⟩,h2.w,h2.x⟩
        ·
         rw[if_neg (by simp[j5])] at er aj
         obtain⟨v,g,aO,aZ⟩:=er.fin (V:=fP h.n) (zm (m+6) er.w 10) aj
         exact⟨p,aN er.dO rfl,v,g,aO,aZ⟩
def HZ{α:Type}(l:List α)(y:I)(O:c6):Prop:=∀k,¬O k
theorem HZ.ok{p B:Nat}(a3:p<B):vj (α:=α) p B HZ:=⟨λl y g O aL _ _=>aL,λl y O aL k cJ=>absurd cJ (aL k),a3⟩
theorem aiz{n:Nat}(bO:sZ all E d lo)(aT:lo<=n){p B:Nat}(a3:p<B):zp p c all d B HZ dF E (λy=>Z n (.fn 46) [.ptr p 0] y):=by
 intro l a y O aA eU w aL
 have ex:=bO n aT w
 show vi _ _ _ _ _ _ _ _ _ _ _ (Z n _ _ y)
 cases aI:E a with
 |error f=>
  rw[aI] at ex
  exact cB.rQ (show cB p c all d y f _ from ex) eU (bU.refl _ _ _)
 |ok eW=>
  obtain⟨t,b⟩:=eW
  rw[aI] at ex
  obtain⟨v,g,a9,v1,b_,bb⟩:=ex
  obtain⟨q,rfl⟩:=dF.ptr v1
  exact⟨_,g,O,a9,rfl,b_,aL,dF.cx ⟨Nat.le_refl _,λ_ _ _=>rfl⟩ (λk ai cO=>⟨ai.1,ai.2,aL k⟩) t _ v1,⟨bb.n,λk ai da _=>bb.get k ai da⟩,λk ai=>.inl ai⟩
theorem aiA(m:Nat){T:Nat->bw cG}{lt:Nat}(ah:Src all)(bO:sZ all E d lo)(de:pL all T d lt)(nn:ev E)(oP:ev T)(hm:lo<=m+6)(lL:lt<=m+6){p:Nat}(w:cL p c all a d h):Fin p c all d h (fP h.n) (qH all E T a) (Z (m+10) (.fn 136) [.ptr p 0] h):=by
 have hlen:=ah.len
 have a3:=w.cM
 obtain⟨r,aj⟩:∃r,r=qH all E T a:=⟨_,rfl⟩
 rw[<-aj]
 unfold qH at aj
 obtain⟨X,bk⟩:∃X,X=Fin p c all d h (fP h.n) r:=⟨_,rfl⟩
 rw[<-bk]
 refine tz (P:=an) (intr:=fc) (n:=m+9) (R:=X) Tryz.func136 (by kernel_rfl) (by kernel_rfl) (by kernel_rfl) (Q:=λe st=>(∃v av g,e=.ret/\st=az av g/\iw an (e1 Tryz.f136) Tryz.f136 av g=some v/\X (.ret v g))\/∃v,e=.aK v/\st.d=[]/\X (.aK v st.h)) ?_ (λe st bB=>?_)
 rotate_left
 · rcases bB with⟨v,av,g,rfl,rfl,aW,jd⟩|⟨v,rfl,aH,jd⟩
   · exact .inl ⟨.inl rfl,rfl,v,aW,jd⟩
   · exact .inr ⟨v,rfl,aH,jd⟩
 have vq:∀{f:rJ} {x:a8} {z:I},r=.error f->bU p h.n h z->cB p c all d z f x->∃v g,x=.aK v g/\X (.aK v g):=λ{f x z} e Ej ag=>by
  obtain⟨jb,g,a6,aO,aZ⟩:=ag.back Ej
  rw[bk,e]
  exact⟨_,g,aO,jb,g,a6,rfl,aZ⟩
 refine e8 [] (ah8 _ p h ?_)
 have pN:=aiw m ah bO de nn hm lL w
 refine e8 [1] (ah9 _ p h ?_)
 cases bB:pB all E T a with
 |error f=>
  rw[bB] at pN aj
  obtain⟨v,g,aO,aZ⟩:=vq aj (bU.refl _ _ _) (show cB p c all d h f _ from pN)
  exact .inr ⟨v,g,aO,.inr ⟨v,rfl,rfl,aZ⟩⟩
 |ok fG=>
  obtain⟨dH,bE⟩:=fG
  rw[bB] at pN
  simp only[bB] at aj
  obtain⟨u,al,a9,v1,b_,bb⟩:=pN
  obtain⟨aV,rfl⟩:=dF.ptr v1
  refine .inl ⟨aV,al,a9,cg.block (p:=[1,1]) (id:=0) (by kernel_rfl) ?_⟩
  refine tA (λk st=>∃e a6 z q av,st=tI av z/\kN [(0,.ptr p 0),(3,.ptr q 0)] av/\cL p c all a6 d z/\dF (λk=>h.n<=k/\k<z.n) z e (.ptr q 0)/\bU p h.n h z/\all.length<=k+a6/\r=pC all E k a6 e) ?_ (all.length-bE) _ (by omega) ⟨dH,bE,al,aV,_,rfl,⟨rfl,rfl,trivial⟩,b_,v1,bb,by have:=b_.lt;omega,aj⟩
  rintro k st ⟨e,a6,z,q,av,rfl,jS,mc,A8,hQ,ahV,f_⟩
  obtain⟨k,rfl⟩:∃j,k=j+1:=⟨k-1,by have:=mc.lt;omega⟩
  have xq:=hQ.n
  obtain⟨bY,g6⟩:∃t,t=bR all a6:=⟨_,rfl⟩
  obtain⟨cN,d1,ej⟩:=oR (m+8) mc
  rw[<-g6] at d1
  have vr:=mc.ext ej (Nat.le_refl _)
  have HR:=ej.n
  have zE:bU p h.n h cN:=hQ.trans xq (ej.eb p)
  have up:∀{z g:I},h.n<=z.n->bU p z.n z g->dF (λk=>h.n<=k/\k<z.n) z e (.ptr q 0)->dF (λk=>h.n<=k/\k<g.n) g e (.ptr q 0):=λ{z g} bm x o=>dF.cx ⟨x.n,λk ai cO=>x.get k cO (by omega)⟩ (λk ai cO=>⟨ai.1,by have:=x.n;omega⟩) e _ o
  have aiB:=up xq (ej.eb p) A8
  obtain⟨ea,d2,oa,gl⟩:=vn (m+5) ah vr [[46]] (by simp)
  have HU:=gl.n
  have vt:=zE.trans (by omega) gl
  have Vf:=up (by omega) gl aiB
  unfold pC at f_
  refine kQ (ah_ _ p q z ⟨_,_,_,_,cN,d1,_,ea,d2,λag=>?_,λag=>?_⟩) jS
  · rw[if_pos ag] at oa f_
    have dB:=sL (m+5) ah oa
    cases aT:ij all (a6+1) with
    |error f=>
     rw[aT] at dB f_
     obtain⟨v,g,aO,aZ⟩:=vq f_ vt (show cB p c all d ea f _ from dB)
     exact .inr ⟨v,g,aO,.inr ⟨v,rfl,rfl,aZ⟩⟩
    |ok ch=>
     obtain⟨s,b⟩:=ch
     rw[aT] at dB
     simp only[aT] at f_
     obtain⟨v,dE,d3,rfl,oW,lq⟩:=dB
     have M8:=lq.n
     have p1:=rN aT
     obtain⟨hR,dw⟩:∃g,g=dE.push (dI 7 bY.at' 0 s (.ptr q 0) .au .au .au .ao .ao .ao):=⟨_,rfl⟩
     have ct:hR.n=dE.n+1:=by rw[dw];rfl
     have gO:Ext dE.n dE hR:=by rw[dw];exact Ext.push (Nat.le_refl _) _
     have v4:=up (by omega) (gO.eb p) (up (by omega) lq Vf)
     refine .inl ⟨s,dE,d3,k,Nat.lt_succ_self _,.mk 7 bY.at' 0 s (some e) none none none [] [] [],b,hR,dE.n,_,by rw[dw],⟨rfl,rfl,trivial⟩,oW.ext gO (Nat.le_refl _),⟨dE.n,.ptr q 0,.au,.au,.au,.ao,.ao,.ao,[],[],rfl,⟨by omega,by omega⟩,by omega,by rw[dw];exact dx rfl,v4,rfl,rfl,rfl,.inl ⟨rfl,rfl⟩,.inl ⟨rfl,rfl⟩,rfl,.inl ⟨rfl,rfl⟩,rfl⟩,(vt.trans (by omega) lq).trans (by omega) (gO.eb p),by omega,by rw[f_,g6]⟩
  · rw[if_neg (by simp[ag])] at oa f_
    obtain⟨dE,d3,oW,lq⟩:=vn (m+5) ah oa [[40]] (by simp)
    have M8:=lq.n
    have xr:=vt.trans (by omega) lq
    have Bu:=up (by omega) lq Vf
    refine⟨_,dE,d3,λen=>?_,λen=>?_⟩
    · rw[if_pos en] at oW f_
      have L:=UJ (m+3) ah oW [41] (B:=dE.n) (Nat.le_refl _) (fv:=.fn 46 [.ptr p 0] []) (xs:=[.ptr p 0]) (.inr ⟨p,rfl,rfl⟩) nn (HZ.ok oW.cM) eZ (aiz bO (by omega) oW.cM) (O0:=λ_=>False) (λ_ ar=>ar)
      cases aA:j_ all [41] E (a6+1) with
      |error f=>
       rw[aA] at L f_
       obtain⟨v,g,aO,aZ⟩:=vq f_ xr (iV.Eh (h:=dE) (show iV p c all d dE.n _ f _ from L) (bU.refl _ _ _))
       exact .inr ⟨v,g,aO,.inr ⟨v,rfl,rfl,aZ⟩⟩
      |ok km=>
       obtain⟨l,b⟩:=km
       rw[aA] at L
       simp only[aA] at f_
       obtain⟨v,hR,gj,d4,Nc,amo,⟨ws,hz,el⟩,gA,bg⟩:=L
       have aiC:=gA.n
       have p1:=Bk nn _ _ _ aA
       have Vg:bU p dE.n dE hR:=⟨gA.n,λj aL tW=>gA.get j aL tW λar=>ar⟩
       obtain⟨s0,hh⟩:∃g,g=hR.push (dI 9 bY.at' 0 [] (.ptr q 0) .au .au .au .ao .ao v):=⟨_,rfl⟩
       have cP:s0.n=hR.n+1:=by rw[hh];rfl
       have fX:Ext hR.n hR s0:=by rw[hh];exact Ext.push (Nat.le_refl _) _
       have hD:=up (by omega) (fX.eb p) (up (by omega) Vg Bu)
       have j2:∀F:c6,jK F hR s0:=λF=>⟨by omega,λj _ aL=>fX.get j aL⟩
       refine .inl ⟨v,hR,d4,hz.cell.1,hz.cell.1,k,Nat.lt_succ_self _,.mk 9 bY.at' 0 [] (some e) none none none [] [] l,b,s0,hR.n,_,by rw[hh],⟨rfl,rfl,trivial⟩,Nc.ext fX (Nat.le_refl _),⟨hR.n,.ptr q 0,.au,.au,.au,.ao,.ao,v,[],ws,rfl,⟨by omega,by omega⟩,by omega,by rw[hh];exact dx rfl,hD,rfl,rfl,rfl,.inl ⟨rfl,rfl⟩,.inl ⟨rfl,rfl⟩,rfl,hz.to (j2 _) λj aL _=>⟨by omega,by omega⟩,oT.els (el.to eZ (j2 _) λj aL _=>⟨by omega,by omega⟩)⟩,(xr.trans (by omega) Vg).trans (by omega) (fX.eb p),by omega,by rw[f_,g6]⟩
    · rw[if_neg (by simp[en])] at oW f_
      refine .inl ⟨.ptr q 0,_,dE,rfl,rfl,by kernel_rfl,?_⟩
      rw[bk,f_]
      exact⟨_,dE,rfl,Bu,oW,xr⟩
end Go.Proofs.lv
