/- contracts of functions; no condition -/
import Derived.Test.YtokgebablggccaaGreatDoorDg
import Derived.Test.YtokgebablggccaaGreatDoorDf
import Derived.Test.YtokgebablggccaaGreatDoorTx
set_option linter.unusedVariables false
set_option linter.unusedSimpArgs false
set_option maxRecDepth 100000
set_option maxHeartbeats 1000000
namespace Go.Proofs.lv
open Go aJ Go.Proofs lp iI fO
variable {B c d w:Nat}{D α:Type}{all:List bP}{g h:I}{v:aa}
variable {Q:cl->bD->Prop} {R:a8->Prop} (call:e0)
abbrev c6:=Nat->Prop
def jK(F:c6)(h g:I):Prop:=h.n<=g.n/\∀b,F b->b<h.n->g.get b=h.get b
theorem jK.mono{F G:c6}(e:jK G h g)(n5:∀b,F b->b<h.n->G b):jK F h g:=⟨e.1,λb ag aT=>e.2 b (n5 b ag aT) aT⟩
def fD{D:Type}(enc:D->List aa)(w el:Nat)(F:c6)(h:I)(v:aa)(bN:List D):Prop:=
 (v=.ao/\bN=[])\/∃p,v=.slice p 0 bN.length (.aX w)/\0<bN.length/\h.get p=some (.cells (eK enc bN) el .aX 0 0)/\F p/\p<h.n
theorem fD.cx{enc:D->List aa}{el:Nat}{F:c6}{bN:List D}(o:fD enc w el F h v bN)(e:jK F h g):fD enc w el F g v bN:=by
 rcases o with o|⟨p,J,ae,aq,aQ,bj⟩
 · exact .inl o
 · exact .inr ⟨p,J,ae,(e.2 p aQ bj).trans aq,aQ,Nat.lt_of_lt_of_le bj e.1⟩
theorem fD.mono{enc:D->List aa}{el:Nat}{F G:c6}{bN:List D}(o:fD enc w el F h v bN)(e:∀b,F b->b<h.n->G b):fD enc w el G h v bN:=by
 rcases o with o|⟨p,J,ae,aq,aQ,bj⟩
 · exact .inl o
 · exact .inr ⟨p,J,ae,aq,e p aQ bj,bj⟩
theorem fD.to{enc:D->List aa}{el:Nat}{F G:c6}{bN:List D}(o:fD enc w el F h v bN)(e:jK F h g)(m:∀b,F b->b<h.n->G b):fD enc w el G g v bN:=by
 rcases o with o|⟨p,J,ae,aq,aQ,bj⟩
 · exact .inl o
 · exact .inr ⟨p,J,ae,(e.2 p aQ bj).trans aq,m p aQ bj,Nat.lt_of_lt_of_le bj e.1⟩
theorem fD.out{enc:D->List aa}{el:Nat}{F:c6}{bN:List D}(o:fD enc w el F h v bN):iH enc w el 0 h v bN:=by
 rcases o with o|⟨p,J,ae,aq,aQ,bj⟩
 · exact .inl o
 · exact .inr ⟨p,J,ae,aq,Nat.zero_le _,bj⟩
theorem fD.of{enc:D->List aa}{el:Nat}{bN:List D}(o:iH enc w el B h v bN):fD enc w el (λb=>B<=b/\b<h.n) h v bN:=by
 rcases o with o|⟨p,J,ae,aq,aQ,bj⟩
 · exact .inl o
 · exact .inr ⟨p,J,ae,aq,⟨aQ,bj⟩,bj⟩
theorem fD.cell{enc:D->List aa}{el:Nat}{F:c6}{bN:List D}(o:fD enc w el F h v bN):v.dJ=true/\v.sound=true:=by
 rcases o with⟨rfl,_⟩|⟨p,rfl,_⟩<;>exact⟨rfl,rfl⟩
def fx{α:Type}(W:c6->I->α->aa->Prop)(F:c6)(h:I):List α->List aa->Prop
 |[],vs=>vs=[]
 |t::bl,vs=>∃v ws,vs=v::ws/\W F h t v/\fx W F h bl ws
theorem fx.imp{W jG:c6->I->α->aa->Prop}{F G:c6}(hi:∀t v,W F h t v->jG G g t v):∀{bl:List α} {vs:List aa},fx W F h bl vs->fx jG G g bl vs
 |[],vs,ab=>ab
 |t::bl,vs,⟨v,ws,J,ae,aq⟩=>⟨v,ws,J,hi t v ae,fx.imp hi aq⟩
theorem fx.snoc{W:c6->I->α->aa->Prop}{F:c6}{t:α}(aI:W F h t v):∀{bl:List α} {vs:List aa},fx W F h bl vs->fx W F h (bl++[t]) (vs++[v])
 |[],vs,ab=>by
  have e:vs=[]:=ab
  subst e
  exact⟨v,[],rfl,aI,rfl⟩
 |s::bl,vs,⟨u,ws,J,ae,aq⟩=>by
  subst J
  exact⟨u,ws++[v],rfl,ae,fx.snoc aI aq⟩
theorem fx.len{W:c6->I->α->aa->Prop}{F:c6}:∀{bl:List α} {vs:List aa},fx W F h bl vs->vs.length=bl.length
 |[],vs,ab=>by
  have e:vs=[]:=ab
  subst e;rfl
 |s::bl,vs,⟨u,ws,J,ae,aq⟩=>by
  subst J
  simp[fx.len aq]
theorem fx.map{β:Type}{W:c6->I->β->aa->Prop}{F:c6}(f:α->β):∀{bl:List α} {vs:List aa},fx (λF h t v=>W F h (f t) v) F h bl vs->fx W F h (bl.map f) vs
 |[],vs,ab=>ab
 |t::bl,vs,⟨v,ws,J,ae,aq⟩=>⟨v,ws,J,ae,fx.map f aq⟩
mutual
def ef(F:c6)(h:I):cG->aa->Prop
 |.mk k a u_ dB cZ xs rt,v=>∃r bV jw jx vs,v=.ptr r 0/\F r/\r<h.n/\h.get r=some (hf k a u_ dB bV jw jx)/\fD kV 1 9 F h bV cZ/\fD dT 1 47 F h jw vs/\np F h xs vs/\ik F h rt jx
def np(F:c6)(h:I):List cG->List aa->Prop
 |[],vs=>vs=[]
 |t::bl,vs=>∃v ws,vs=v::ws/\ef F h t v/\np F h bl ws
def ik(F:c6)(h:I):Option cG->aa->Prop
 |none,v=>v=.au
 |some t,v=>ef F h t v
end
mutual
theorem ef.cx{F G:c6}{h g:I}(e:jK F h g)(m:∀b,F b->b<h.n->G b):∀(t:cG) (v:aa),ef F h t v->ef G g t v
 |.mk k a u_ dB cZ xs rt,v,ab=>by
  obtain⟨r,bV,jw,jx,vs,J,ae,aq,aQ,bj,cW,eS,e6⟩:=ab
  exact⟨r,bV,jw,jx,vs,J,m r ae aq,Nat.lt_of_lt_of_le aq e.1,(e.2 r ae aq).trans aQ,bj.to e m,cW.to e m,np.cx e m xs vs eS,ik.cx e m rt jx e6⟩
theorem np.cx{F G:c6}{h g:I}(e:jK F h g)(m:∀b,F b->b<h.n->G b):∀(bl:List cG) (vs:List aa),np F h bl vs->np G g bl vs
 |[],vs,ab=>ab
 |t::bl,vs,ab=>by
  obtain⟨v,ws,J,ae,aq⟩:=ab
  exact⟨v,ws,J,ef.cx e m t v ae,np.cx e m bl ws aq⟩
theorem ik.cx{F G:c6}{h g:I}(e:jK F h g)(m:∀b,F b->b<h.n->G b):∀(t:Option cG) (v:aa),ik F h t v->ik G g t v
 |none,v,ab=>ab
 |some t,v,ab=>ef.cx e m t v ab
end
mutual
theorem ef.of{B:Nat}{h:I}:∀(t:cG) (v:aa),HK B h t v->ef (λb=>B<=b/\b<h.n) h t v
 |.mk k a u_ dB cZ xs rt,v,ab=>by
  obtain⟨r,bV,jw,jx,vs,J,ae,aq,aQ,bj,cW,eS,e6⟩:=ab
  exact⟨r,bV,jw,jx,vs,J,⟨ae,aq⟩,aq,aQ,fD.of bj,fD.of cW,np.of xs vs eS,ik.of rt jx e6⟩
theorem np.of{B:Nat}{h:I}:∀(bl:List cG) (vs:List aa),MF B h bl vs->np (λb=>B<=b/\b<h.n) h bl vs
 |[],vs,ab=>ab
 |t::bl,vs,ab=>by
  obtain⟨v,ws,J,ae,aq⟩:=ab
  exact⟨v,ws,J,ef.of t v ae,np.of bl ws aq⟩
theorem ik.of{B:Nat}{h:I}:∀(t:Option cG) (v:aa),Ux B h t v->ik (λb=>B<=b/\b<h.n) h t v
 |none,v,ab=>ab
 |some t,v,ab=>ef.of t v ab
end
theorem np.els{F:c6}:∀{bl:List cG} {vs:List aa},fx ef F h bl vs->np F h bl vs
 |[],vs,ab=>ab
 |t::bl,vs,⟨v,ws,J,ae,aq⟩=>⟨v,ws,J,ae,np.els aq⟩
abbrev dI(k a n:Nat)(x:bJ)(mO jx nq ey bV hq jw:aa):b5:=aD [ad k,ad a,ad n,.str x,mO,jx,nq,ey,bV,hq,jw] 61
mutual
def dF(F:c6)(h:I):bX->aa->Prop
 |.mk k a n x l r c t cZ bl es,v=>∃b mO jx nq ey bV hq jw us ws,v=.ptr b 0/\F b/\b<h.n/\h.get b=some (dI k a n x mO jx nq ey bV hq jw)/\jm F h l mO/\jm F h r jx/\jm F h c nq/\ik F h t ey/\fD kV 1 9 F h bV cZ/\fD dT 1 47 F h hq us/\fx ik F h bl us/\fD dT 1 40 F h jw ws/\oT F h es ws
def oT(F:c6)(h:I):List bX->List aa->Prop
 |[],vs=>vs=[]
 |t::bl,vs=>∃v ws,vs=v::ws/\dF F h t v/\oT F h bl ws
def jm(F:c6)(h:I):Option bX->aa->Prop
 |none,v=>v=.au
 |some t,v=>dF F h t v
end
mutual
theorem dF.cx{F G:c6}{h g:I}(e:jK F h g)(m:∀b,F b->b<h.n->G b):∀(t:bX) (v:aa),dF F h t v->dF G g t v
 |.mk k a n x l r c t cZ bl es,v,ab=>by
  obtain⟨b,mO,jx,nq,ey,bV,hq,jw,us,ws,J,ae,aq,aQ,bj,cW,eS,e6,mv,si,uC,SN,zo⟩:=ab
  exact⟨b,mO,jx,nq,ey,bV,hq,jw,us,ws,J,m b ae aq,Nat.lt_of_lt_of_le aq e.1,(e.2 b ae aq).trans aQ,jm.cx e m l mO bj,jm.cx e m r jx cW,jm.cx e m c nq eS,ik.cx e m t ey e6,mv.to e m,si.to e m,uC.imp (ik.cx e m),SN.to e m,oT.cx e m es ws zo⟩
theorem oT.cx{F G:c6}{h g:I}(e:jK F h g)(m:∀b,F b->b<h.n->G b):∀(bl:List bX) (vs:List aa),oT F h bl vs->oT G g bl vs
 |[],vs,ab=>ab
 |t::bl,vs,ab=>by
  obtain⟨v,ws,J,ae,aq⟩:=ab
  exact⟨v,ws,J,dF.cx e m t v ae,oT.cx e m bl ws aq⟩
theorem jm.cx{F G:c6}{h g:I}(e:jK F h g)(m:∀b,F b->b<h.n->G b):∀(t:Option bX) (v:aa),jm F h t v->jm G g t v
 |none,v,ab=>ab
 |some t,v,ab=>dF.cx e m t v ab
end
theorem oT.els{F:c6}:∀{bl:List bX} {vs:List aa},fx dF F h bl vs->oT F h bl vs
 |[],vs,ab=>ab
 |t::bl,vs,⟨v,ws,J,ae,aq⟩=>⟨v,ws,J,ae,oT.els aq⟩
theorem ahg(p:Nat)(s:List UInt8)(f:aa)(h:I)(H:Q .nrm (az [(0,af p),(1,.str s),(2,f)] h)):
  cg an Tryz.f87 call [0] (az [(0,af p),(1,.str s),(2,f)] h) Q:=
 dR [] [0,1,2] [2] H
theorem ahh(p:Nat)(s:List UInt8)(f:aa)(h:I)(H:Q .nrm (az [(0,af p),(1,.str s),(2,f),(7,.ao)] h)):
  cg an Tryz.f87 call [1,0] (az [(0,af p),(1,.str s),(2,f)] h) Q:=
 dR [] [0,1,2,7] [2] H
theorem ahi(p:Nat)(s:List UInt8)(f v:aa)(h:I)(H:∃bd al,call (.fn 83) [af p,.slice h.n 0 1 (.exact 1)] (I.push h (aD [.str s] 9))=.ret (.bool bd) al/\Q .nrm (az [(0,af p),(1,.str s),(2,f),(7,v),(8,.bool !bd)] al)):
  cg an Tryz.f87 call [1,1,0,0] (az [(0,af p),(1,.str s),(2,f),(7,v)] h) Q:=
 dR [] [0,1,2,7,8] [2,7] H
theorem ahj(p f:Nat)(cb:List aa)(s:List UInt8)(v:aa)(h:I)(H:true=true/\((∃v1 al,call (.fn f) cb h=.ret v1 al/\k5 v1/\∃v2 aw,fi an (I.push al (aD [v1] 47)) 49 (some 49) v (.slice al.n 0 1 (.exact 1))=some (v2,aw)/\∃bd a1,call (.fn 38) [af p,.slice aw.n 0 1 (.exact 1)] (I.push aw (aD [.str [44]] 9))=.ret (.bool bd) a1/\Q .nrm (az [(0,af p),(1,.str s),(2,.fn f [] cb),(7,v2),(8,.bool bd)] a1))\/(∃dP a5,call (.fn f) cb h=.aK dP a5/\Q (.aK dP) (az [(0,af p),(1,.str s),(2,.fn f [] cb),(8,.bool true)] a5)))):
  cg an Tryz.f87 call [1,1,0,1,0,0] (az [(0,af p),(1,.str s),(2,.fn f [] cb),(7,v),(8,.bool true)] h) Q:=
 dR [(1014,.t),(20,.e (some .o) .o),(22,.ep .o)] [0,1,2,7,8] [2,7] H
theorem ahk(p f q:Nat)(s:List UInt8)(v:aa)(h:I)(H:true=true/\((∃v1 al,call (.fn f) [af q] h=.ret v1 al/\k5 v1/\∃v2 aw,fi an (I.push al (aD [v1] 47)) 49 (some 49) v (.slice al.n 0 1 (.exact 1))=some (v2,aw)/\∃bd a1,call (.fn 38) [af p,.slice aw.n 0 1 (.exact 1)] (I.push aw (aD [.str [44]] 9))=.ret (.bool bd) a1/\Q .nrm (az [(0,af p),(1,.str s),(2,.fn f [af q] []),(7,v2),(8,.bool bd)] a1))\/(∃dP a5,call (.fn f) [af q] h=.aK dP a5/\Q (.aK dP) (az [(0,af p),(1,.str s),(2,.fn f [af q] []),(8,.bool true)] a5)))):
  cg an Tryz.f87 call [1,1,0,1,0,0] (az [(0,af p),(1,.str s),(2,.fn f [af q] []),(7,v),(8,.bool true)] h) Q:=
 dR [(1014,.t),(20,.e (some .o) .o),(22,.ep .o)] [0,1,2,7,8] [2,7] H
theorem ahl(p:Nat)(s:List UInt8)(f v:aa)(h:I)(H:false=false/\Q (.exit 0) (az [(0,af p),(1,.str s),(7,v)] h)):
  cg an Tryz.f87 call [1,1,0,1,0,0] (az [(0,af p),(1,.str s),(2,f),(7,v),(8,.bool false)] h) Q:=
 dR [(1014,.f)] [0,1,7] [2,7] H
theorem UF(p:Nat)(s:List UInt8)(v:aa)(h:I)(H:((∃al,call (.fn 40) [af p,.str s] h=.ret (.aF []) al/\Q .ret (az [(6,v)] al))\/(∃v1 aw,call (.fn 40) [af p,.str s] h=.aK v1 aw/\Q (.aK v1) (az [] aw)))):
  cg an Tryz.f87 call [1,1,1] (az [(0,af p),(1,.str s),(7,v)] h) Q:=
 dR [(25,.e none .o)] [6] [7] H
theorem ahm(p:Nat)(s:List UInt8)(f:aa)(h:I)(H:Q .nrm (az [(0,af p),(1,.str s),(2,f)] h)):
  cg an Tryz.f143 call [0] (az [(0,af p),(1,.str s),(2,f)] h) Q:=
 dR [] [0,1,2] [2] H
theorem ahn(p:Nat)(s:List UInt8)(f:aa)(h:I)(H:Q .nrm (az [(0,af p),(1,.str s),(2,f),(7,.ao)] h)):
  cg an Tryz.f143 call [1,0] (az [(0,af p),(1,.str s),(2,f)] h) Q:=
 dR [] [0,1,2,7] [2] H
theorem aho(p:Nat)(s:List UInt8)(f v:aa)(h:I)(H:∃bd al,call (.fn 83) [af p,.slice h.n 0 1 (.exact 1)] (I.push h (aD [.str s] 9))=.ret (.bool bd) al/\Q .nrm (az [(0,af p),(1,.str s),(2,f),(7,v),(8,.bool !bd)] al)):
  cg an Tryz.f143 call [1,1,0,0] (az [(0,af p),(1,.str s),(2,f),(7,v)] h) Q:=
 dR [] [0,1,2,7,8] [2,7] H
theorem ahp(p f:Nat)(cb:List aa)(s:List UInt8)(v:aa)(h:I)(H:true=true/\((∃v1 al,call (.fn f) cb h=.ret v1 al/\k5 v1/\∃v2 aw,fi an (I.push al (aD [v1] 40)) 59 (some 59) v (.slice al.n 0 1 (.exact 1))=some (v2,aw)/\∃bd a1,call (.fn 38) [af p,.slice aw.n 0 1 (.exact 1)] (I.push aw (aD [.str [44]] 9))=.ret (.bool bd) a1/\Q .nrm (az [(0,af p),(1,.str s),(2,.fn f [] cb),(7,v2),(8,.bool bd)] a1))\/(∃dP a5,call (.fn f) cb h=.aK dP a5/\Q (.aK dP) (az [(0,af p),(1,.str s),(2,.fn f [] cb),(8,.bool true)] a5)))):
  cg an Tryz.f143 call [1,1,0,1,0,0] (az [(0,af p),(1,.str s),(2,.fn f [] cb),(7,v),(8,.bool true)] h) Q:=
 dR [(1014,.t),(20,.e (some .o) .o),(22,.ep .o)] [0,1,2,7,8] [2,7] H
theorem ahq(p f q:Nat)(s:List UInt8)(v:aa)(h:I)(H:true=true/\((∃v1 al,call (.fn f) [af q] h=.ret v1 al/\k5 v1/\∃v2 aw,fi an (I.push al (aD [v1] 40)) 59 (some 59) v (.slice al.n 0 1 (.exact 1))=some (v2,aw)/\∃bd a1,call (.fn 38) [af p,.slice aw.n 0 1 (.exact 1)] (I.push aw (aD [.str [44]] 9))=.ret (.bool bd) a1/\Q .nrm (az [(0,af p),(1,.str s),(2,.fn f [af q] []),(7,v2),(8,.bool bd)] a1))\/(∃dP a5,call (.fn f) [af q] h=.aK dP a5/\Q (.aK dP) (az [(0,af p),(1,.str s),(2,.fn f [af q] []),(8,.bool true)] a5)))):
  cg an Tryz.f143 call [1,1,0,1,0,0] (az [(0,af p),(1,.str s),(2,.fn f [af q] []),(7,v),(8,.bool true)] h) Q:=
 dR [(1014,.t),(20,.e (some .o) .o),(22,.ep .o)] [0,1,2,7,8] [2,7] H
theorem ahr(p:Nat)(s:List UInt8)(f v:aa)(h:I)(H:false=false/\Q (.exit 0) (az [(0,af p),(1,.str s),(7,v)] h)):
  cg an Tryz.f143 call [1,1,0,1,0,0] (az [(0,af p),(1,.str s),(2,f),(7,v),(8,.bool false)] h) Q:=
 dR [(1014,.f)] [0,1,7] [2,7] H
theorem UG(p:Nat)(s:List UInt8)(v:aa)(h:I)(H:((∃al,call (.fn 40) [af p,.str s] h=.ret (.aF []) al/\Q .ret (az [(6,v)] al))\/(∃v1 aw,call (.fn 40) [af p,.str s] h=.aK v1 aw/\Q (.aK v1) (az [] aw)))):
  cg an Tryz.f143 call [1,1,1] (az [(0,af p),(1,.str s),(7,v)] h) Q:=
 dR [(25,.e none .o)] [6] [7] H
abbrev vg:={v:aa//v.dJ=true}
abbrev vh(v:vg):List aa:=[v.1]
theorem MH:∀vs:List aa,(∀v∈vs,v.dJ=true)->∃bN:List vg,vs=bN.map (·.1)
 |[],_=>⟨[],rfl⟩
 |v::vs,h=>by
  obtain⟨bN,e⟩:=MH vs λw hw=>h w (by simp[hw])
  exact⟨⟨v,h v (by simp)⟩::bN,by rw[List.map_cons,<-e]⟩
theorem D2:∀bN:List vg,eK vh bN=eK dT (bN.map (·.1))
 |[]=>rfl
 |d::bN=>by rw[yw,List.map_cons,yw,D2 bN]
theorem MI{el sT:TypeId}(T:qf an vh 1 el sT){F:c6}{vs:List aa}(o:fD dT 1 el F h v vs)(aW:∀x∈vs,x.dJ=true){w:aa}(hw:w.dJ=true)(aA:vs.length<=200000):
  ∃g,fi an (h.push (aD [w] el)) sT (some sT) v (.slice h.n 0 1 (.exact 1))=some (.slice (h.n+1) 0 (vs++[w]).length (.aX 1),g)/\g.n=h.n+2/\g.get (h.n+1)=some (.cells (eK dT (vs++[w])) el .aX 0 0)/\∀c,c<h.n->(∀n cp,v≠ .slice c 0 n cp)->g.get c=h.get c:=by
 obtain⟨bN,rfl⟩:=MH vs aW
 have ah:=QB T h el (⟨w,hw⟩:vg)
 obtain⟨H,g1⟩:∃H,H=h.push (aD [w] el):=⟨_,rfl⟩
 have G8:H.n=h.n+1:=by rw[g1];rfl
 have MJ:∀c,c<h.n->H.get c=h.get c:=λc ak=>by rw[g1];exact gN ak rfl
 have ah:jr H 1 (.slice h.n 0 1 (.exact 1))=some (([⟨w,hw⟩]:List vg).length,eK vh [⟨w,hw⟩]):=by rw[g1];exact ah
 rw[<-g1,<-G8]
 have z2:bN.length<=200000:=by simpa using aA
 rcases o with⟨rfl,e⟩|⟨b,rfl,ae,aq,aQ,bj⟩
 · have e:bN=[]:=List.map_eq_nil_iff.1 e
   subst e
   exact⟨_,Gp T ah (by simp) (by simp),by simp;omega,dx rfl,λc ak _=>(gN (by omega) rfl).trans (MJ c ak)⟩
 · rw[<-D2] at aq
   have ahs:=(MJ b bj).trans aq
   have ap:=Gq T ahs ah (by simp) (by simp;omega)
   have qP:(bN.map (·.1)++[w]).length=bN.length+([⟨w,hw⟩]:List vg).length:=by simp
   have D3:(bN.map (·.1)).length=bN.length:=by simp
   rw[qP,D3]
   refine⟨_,ap,by simp;omega,(dx rfl).trans (by rw[D2,List.map_append];rfl),λc ak aW=>?_⟩
   exact(gN (by simp;omega) (cr (λe=>aW _ _ (by rw[e])) rfl)).trans (MJ c ak)
theorem xj{id:Nat}{A:bD->Prop}{Q:cl->bD->Prop}{s:bD}(h:Q .nrm s):nx A (qg id Q) (.exit id) s:=by simpa[qg,nx] using h
def iV(p c:Nat)(all:List bP)(d B:Nat)(h:I)(f:Nat×Nat)(x:a8):Prop:=
 ∃e g a6,x=.aK (.iface 70 (.agg [.ptr e 0])) g/\g.get e=some (HI f)/\B<=e/\e<g.n/\cL p c all a6 d g/\bU p B h g
theorem iV.of{p:Nat}{J:I}{f:Nat×Nat}{x:a8}(ag:iV p c all d B J f x)(e:bU p B h J):iV p c all d B h f x:=by
 obtain⟨b,g,a6,J,ae,aq,aQ,bj,cW⟩:=ag
 exact⟨b,g,a6,J,ae,aq,aQ,bj,e.trans (Nat.le_refl _) cW⟩
theorem cB.rQ{p:Nat}{J:I}{f:Nat×Nat}{x:a8}(ag:cB p c all d J f x)(eU:B<=J.n)(e:bU p B h J):iV p c all d B h f x:=by
 obtain⟨b,g,a6,aO,aZ,bC,cX,gi,fg⟩:=ag
 exact⟨b,g,a6,aO,aZ,by omega,cX,gi,e.trans eU fg⟩
structure xk(p:Nat)(O:c6)(h g:I):Prop where
 n:h.n<=g.n
 get:∀k,k<h.n->k≠p->¬O k->g.get k=h.get k
def vi{α:Type}(p c:Nat)(all:List bP)(d B:Nat)(g5:List α->I->c6->Prop)(V:c6->I->α->aa->Prop)(l:List α)(y:I)(O:c6)(r:bw α)(x:a8):Prop:=match r with
 |.ok (v,b)=>∃w g gj,x=.ret w g/\w.dJ=true/\cL p c all b d g/\g5 (l++[v]) g gj/\V (λk=>y.n<=k/\k<g.n/\¬gj k) g v w/\xk p O y g/\∀k,gj k->O k\/(y.n<=k/\k<g.n)
 |.error f=>iV p c all d B y f x
def zp{α:Type}(p c:Nat)(all:List bP)(d B:Nat)(g5:List α->I->c6->Prop)(V:c6->I->α->aa->Prop)(one:Nat->bw α)(run:I->a8):Prop:=
 ∀(l:List α) (a:Nat) (y:I) (O:c6),l.length<=100000->B<=y.n->cL p c all a d y->g5 l y O->vi p c all d B g5 V l y O (one a) (run y)
structure vj{α:Type}(p B:Nat)(g5:List α->I->c6->Prop):Prop where
 cx:∀l y g O,g5 l y O->y.n<=g.n->(∀k,k<y.n->O k->g.get k=y.get k)->g5 l g O
 up:∀l y O,g5 l y O->∀k,O k->B<=k/\k<y.n
 ne:p<B
def nr{α:Type}(V:c6->I->α->aa->Prop):Prop:=∀F G h g x w,V F h x w->jK F h g->(∀k,F k->k<h.n->G k)->V G g x w
theorem fx.to{V:c6->I->α->aa->Prop}(l2:nr V){F G:c6}{bl:List α}{vs:List aa}(o:fx V F h bl vs)(e:jK F h g)(m:∀k,F k->k<h.n->G k):fx V G g bl vs:=o.imp λt v aI=>l2 _ _ _ _ _ _ aI e m
def rR{α:Type}(p c:Nat)(all:List bP)(d B el:Nat)(h:I)(O0:c6)(g5:List α->I->c6->Prop)(V:c6->I->α->aa->Prop)(r:bw (List α))(x:a8):Prop:=match r with
 |.ok (l,b)=>∃v g O,x=.ret v g/\cL p c all b d g/\g5 l g O/\(∃ws,fD dT 1 el (λk=>h.n<=k/\k<g.n/\¬O k) g v ws/\fx V (λk=>h.n<=k/\k<g.n/\¬O k) g l ws)/\xk p O0 h g/\∀k,O k->O0 k\/(h.n<=k/\k<g.n)
 |.error f=>iV p c all d B h f x
theorem MK:qf an vh 1 47 49 where
 hu:=by kernel_rfl
 hF:=by kernel_rfl
 info:=by
  obtain⟨i,hi⟩:∃i,an.info? 47=some i:=Option.isSome_iff_exists.1 (by kernel_rfl)
  refine⟨i,hi,?_,?_⟩
  · have:(an.info? 47).map (·.size)=some 1:=by kernel_rfl
    rw[hi] at this;exact Option.some.inj this
  · have:(an.info? 47).map (λi=>Nat.ble i.bytes 1000)=some true:=by kernel_rfl
    rw[hi] at this
    exact Nat.le_of_ble_eq_true (Option.some.inj this)
 zero:=by
  obtain⟨z,bm⟩:∃z,gu an 47=some z:=Option.isSome_iff_exists.1 (by kernel_rfl)
  refine⟨z,bm,?_⟩
  have:(gu an 47).map (·.cells.length)=some 1:=by kernel_rfl
  rw[bm] at this;exact Option.some.inj this
 size:=by kernel_rfl
 len:=λ_=>rfl
 cell:=λd=>by show(d.1.dJ&&true)=true;rw[d.2];rfl
 pos:=by decide
theorem UH(p f:Nat)(xs:List aa)(s:List UInt8)(fv v:aa)(h:I)(aM:fv=.fn f [] xs\/∃q,fv=.fn f [.ptr q 0] []/\xs=[.ptr q 0])(H:
  (∃v1 al,call (.fn f) xs h=.ret v1 al/\v1.dJ=true/\∃v2 aw,fi an (al.push (aD [v1] 47)) 49 (some 49) v (.slice al.n 0 1 (.exact 1))=some (v2,aw)/\∃bd a1,call (.fn 38) [.ptr p 0,.slice aw.n 0 1 (.exact 1)] (aw.push (aD [.str [44]] 9))=.ret (.bool bd) a1/\Q .nrm (az [(0,.ptr p 0),(1,.str s),(2,fv),(7,v2),(8,.bool bd)] a1))\/
  (∃dP a5,call (.fn f) xs h=.aK dP a5/\Q (.aK dP) (az [(0,.ptr p 0),(1,.str s),(2,fv),(8,.bool true)] a5))):
  cg an Tryz.f87 call [1,1,0,1,0,0] (az [(0,.ptr p 0),(1,.str s),(2,fv),(7,v),(8,.bool true)] h) Q:=by
 rcases aM with rfl|⟨q,rfl,rfl⟩
 · exact ahj call p f xs s v h ⟨rfl,H⟩
 · exact ahk call p f q s v h ⟨rfl,H⟩
theorem ML(m:Nat){one:Nat->bw α}{V:c6->I->α->aa->Prop}{g5:List α->I->c6->Prop}{p:Nat}{a:Nat}{O0:c6}(ah:Src all)(w:cL p c all a d h)(fin:bJ)(eU:B<=h.n){fv:aa}{f:Nat}{xs:List aa}(aM:fv=.fn f [] xs\/∃q,fv=.fn f [.ptr q 0] []/\xs=[.ptr q 0])(ns:ev one)(jL:vj p B g5)(l2:nr V)(gU:zp p c all d B g5 V one (λy=>Z (m+5) (.fn f) xs y))(sh:g5 [] h O0):
  rR p c all d B 47 h O0 g5 V (j_ all fin one a) (Z (m+6) (.fn 87) [.ptr p 0,.str fin,fv] h):=by
 have hlen:=ah.len
 have a3:=w.cM
 obtain⟨r,aj⟩:∃r,r=j_ all fin one a:=⟨_,rfl⟩
 rw[<-aj]
 refine tz (P:=an) (intr:=fc) (n:=m+5) (R:=rR p c all d B 47 h O0 g5 V r) Tryz.func87 (by kernel_rfl) (by kernel_rfl) (by kernel_rfl) (Q:=λe st=>(∃v g,e=.ret/\st=az [(6,v)] g/\rR p c all d B 47 h O0 g5 V r (.ret v g))\/∃v,e=.aK v/\st.d=[]/\rR p c all d B 47 h O0 g5 V r (.aK v st.h)) ?_ (λe st bB=>?_)
 rotate_left
 · rcases bB with⟨v,g,rfl,rfl,jd⟩|⟨v,rfl,aH,jd⟩
   · exact .inl ⟨.inl rfl,rfl,v,(by kernel_rfl:iw an (e1 Tryz.f87) Tryz.f87 [(6,v)] g=some v),jd⟩
   · exact .inr ⟨v,rfl,aH,jd⟩
 refine e8 [] (ahg _ p fin fv h ?_)
 refine e8 [1] (ahh _ p fin fv h ?_)
 obtain⟨J,aG⟩:∃x,x=h.push (aD [.str fin] 9):=⟨_,rfl⟩
 have bn:J.n=h.n+1:=by rw[aG];rfl
 have bb:Ext h.n h J:=by rw[aG];exact Ext.push (Nat.le_refl _) _
 obtain⟨ae,cI,cw⟩:=HJ (m+2) (w.ext bb (Nat.le_refl _)) (b:=h.n) (cp:=.exact 1) (l:=[fin]) (by simp) (by omega) (Bm (by rw[aG];exact dx rfl))
 have fJ:Ext h.n h ae:=bb.trans bb.n cw
 have b9:=w.ext fJ (Nat.le_refl _)
 have b6:=cw.n
 have MM:=jL.cx [] h ae O0 sh fJ.n λk ai _=>fJ.get k ai
 refine e8 [1,1] (e8 [1,1,0] (ahi _ p fin fv .ao h ⟨dV all [fin] a,ae,by rw[<-aG];exact cI,cg.block (p:=[1,1,0,1]) (id:=0) (by kernel_rfl) ?_⟩))
 have tail:∀(l:List α) (a6:Nat) (y:I) (O:c6) (v:aa) (vs:List aa),cL p c all a6 d y->g5 l y O->fD dT 1 47 (λk=>h.n<=k/\k<y.n/\¬O k) y v vs->fx V (λk=>h.n<=k/\k<y.n/\¬O k/\∀n cp,v≠ .slice k 0 n cp) y l vs->xk p O0 h y->(∀k,O k->O0 k\/(h.n<=k/\k<y.n))->
   (r=match e_ all fin a6 with|.error e=>.error e|.ok c=>.ok (l,c))->cg an Tryz.f87 (Z (m+5)) [1,1,1] (az [(0,.ptr p 0),(1,.str fin),(7,v)] y) (λe st=>(∃v g,e=.ret/\st=az [(6,v)] g/\rR p c all d B 47 h O0 g5 V r (.ret v g))\/∃v,e=.aK v/\st.d=[]/\rR p c all d B 47 h O0 g5 V r (.aK v st.h)):=by
  intro l a6 y O v vs kM qQ hz el gA bg gh
  have zq:=jL.up _ _ _ sh
  have D4:=jL.up _ _ _ qQ
  have lx:bU p B h y:=⟨gA.n,λk ai da=>gA.get k (by omega) da λcJ=>by have:=(zq k cJ).1;omega⟩
  have dY:=mi m ah kM fin
  cases hm:e_ all fin a6 with
  |error e=>
   rw[hm] at dY gh
   have ag:=cB.rQ (show cB p c all d y e _ from dY) (by have:=gA.n;omega) lx
   obtain⟨b,g,c9,aO,aZ,bC,cX,gi,fg⟩:=ag
   refine UF _ p fin v y (.inr ⟨_,g,aO,.inr ⟨_,rfl,rfl,?_⟩⟩)
   rw[gh]
   exact⟨b,g,c9,rfl,aZ,bC,cX,gi,fg⟩
  |ok cI=>
   rw[hm] at dY gh
   obtain⟨g,aO,aZ,bC⟩:=dY
   have zg:=bC.n
   have MN:∀k,O k->k≠p:=λk ai e=>by have:=(D4 k ai).1;have:=jL.ne;omega
   have j2:jK (λk=>h.n<=k/\k<y.n/\¬O k) y g:=⟨zg,λk ai cO=>bC.get k cO (by omega)⟩
   have sP:∀k,(h.n<=k/\k<y.n/\¬O k)->k<y.n->h.n<=k/\k<g.n/\¬O k:=λk ai _=>⟨ai.1,by omega,ai.2.2⟩
   refine UF _ p fin v y (.inl ⟨g,aO,.inl ⟨v,g,rfl,rfl,?_⟩⟩)
   rw[gh]
   exact⟨v,g,O,rfl,aZ,jL.cx l y g O qQ zg λk ai cJ=>bC.get k ai (MN k cJ),⟨vs,hz.to j2 sP,el.to l2 (j2.mono λk ai _=>⟨ai.1,ai.2.1,ai.2.2.1⟩) λk ai cO=>sP k ⟨ai.1,ai.2.1,ai.2.2.1⟩ cO⟩,⟨by have:=gA.n;omega,λk ai da cJ=>(bC.get k (by have:=gA.n;omega) da).trans (gA.get k ai da cJ)⟩,λk ai=>(bg k ai).imp_right λar=>⟨ar.1,by omega⟩⟩
 refine tA (λk st=>∃l a6 y O v vs nQ av,st=tI av y/\kN [(0,.ptr p 0),(1,.str fin),(2,fv),(7,v),(8,.bool nQ)] av/\cL p c all a6 d y/\g5 l y O/\fD dT 1 47 (λk=>h.n<=k/\k<y.n/\¬O k) y v vs/\fx V (λk=>h.n<=k/\k<y.n/\¬O k/\∀n cp,v≠ .slice k 0 n cp) y l vs/\(∀x∈vs,x.dJ=true)/\xk p O0 h y/\(∀k,O k->O0 k\/(h.n<=k/\k<y.n))/\l.length+k<=all.length/\((nQ=true/\all.length<=k+a6/\r=oM all fin one k a6 l)\/(nQ=false/\r=match e_ all fin a6 with|.error e=>.error e|.ok c=>.ok (l,c)))) ?_ (all.length-a) _ (by omega) ⟨[],a,ae,O0,.ao,[],!dV all [fin] a,_,rfl,⟨rfl,rfl,rfl,rfl,rfl,trivial⟩,b9,MM,.inl ⟨rfl,rfl⟩,rfl,λx ab=>(by cases ab),⟨fJ.n,λk ai _ _=>fJ.get k ai⟩,λk ai=>.inl ai,by simp,?_⟩
 rotate_left
 · rw[aj]
   unfold j_
   cases hi:dV all [fin] a with
   |true=>exact .inr ⟨rfl,by rw[if_pos rfl];cases e_ all fin a<;>rfl⟩
   |false=>exact .inl ⟨rfl,by have:=w.lt;omega,by rw[if_neg (by simp)]⟩
 rintro k st ⟨l,a6,y,O,v,vs,nQ,av,rfl,jS,kM,qQ,hz,el,tp,gA,bg,hA,MO⟩
 rcases MO with⟨rfl,ai,gh⟩|⟨rfl,gh⟩
 rotate_left
 · refine kQ (ahl _ p fin fv v y ⟨rfl,?_⟩) jS
   exact xj (tail l a6 y O v vs kM qQ hz el gA bg gh)
 · obtain⟨k,rfl⟩:∃j,k=j+1:=⟨k-1,by have:=kM.lt;omega⟩
   have zq:=jL.up _ _ _ sh
   have D4:=jL.up _ _ _ qQ
   have aht:=gA.n
   have lx:bU p B h y:=⟨gA.n,λk ai da=>gA.get k (by omega) da λcJ=>by have:=(zq k cJ).1;omega⟩
   have on:=gU l a6 y O (by omega) (by omega) kM qQ
   unfold oM at gh
   cases zr:one a6 with
   |error e=>
    rw[zr] at on gh
    have ag:=iV.of (show iV p c all d B y e _ from on) lx
    obtain⟨b,g,c9,aO,aZ,bC,cX,gi,fg⟩:=ag
    refine kQ (UH _ p f xs fin fv v y aM (.inr ⟨_,g,aO,.inr ⟨_,rfl,rfl,?_⟩⟩)) jS
    rw[gh]
    exact⟨b,g,c9,rfl,aZ,bC,cX,gi,fg⟩
   |ok fG=>
    obtain⟨x,b⟩:=fG
    rw[zr] at on gh
    simp only at gh
    obtain⟨u,al,gj,aV,aU,bu,e7,gL,nh,qC⟩:=on
    have MP:=nh.n
    have p1:=ns _ _ _ zr
    have HN:=el.len
    have D5:jK (λk=>h.n<=k/\k<y.n/\¬O k) y al:=⟨MP,λk ai cO=>nh.get k cO (by omega) ai.2.2⟩
    have D6:∀k,(h.n<=k/\k<y.n/\¬O k)->k<y.n->h.n<=k/\k<al.n/\¬gj k:=λk ai _=>⟨ai.1,by omega,λcJ=>by
     rcases qC k cJ with ar|ar
     · exact ai.2.2 ar
     · omega⟩
    have zs:=hz.to D5 D6
    have qP:=el.to l2 (G:=λk=>h.n<=k/\k<al.n/\¬gj k/\∀n cp,v≠ .slice k 0 n cp) (D5.mono λk ai _=>⟨ai.1,ai.2.1,ai.2.2.1⟩) λk ai cO=>by
     obtain⟨cN,ea,dE⟩:=D6 k ⟨ai.1,ai.2.1,ai.2.2.1⟩ cO
     exact⟨cN,ea,dE,ai.2.2.2⟩
    have MQ:∀k n cp,v=.slice k 0 n cp->k<y.n:=λk n cp e=>by
     rcases hz with⟨aW,_⟩|⟨jb,aW,_,_,n5,_⟩
     · rw[aW] at e;cases e
     · rw[aW] at e;cases e;exact n5.2.1
    have MR:∀F:c6,jK F al al:=λF=>⟨Nat.le_refl _,λ_ _ _=>rfl⟩
    have v1:=l2 _ (λk=>h.n<=k/\k<al.n/\¬gj k/\∀n cp,v≠ .slice k 0 n cp) _ _ _ _ gL (MR _) (λk ai _=>⟨by omega,ai.2.1,ai.2.2,λn cp e=>by have:=MQ k n cp e;omega⟩)
    have MS:=fx.snoc v1 qP
    obtain⟨aw,bt,b3,hj,gE⟩:=MI MK zs tp aU (by omega)
    have n6:∀k,gj k->∀n cp,v≠ .slice k 0 n cp:=λk ai n cp e=>by
     rcases zs with⟨aW,_⟩|⟨jb,aW,_,_,n5,_⟩
     · rw[aW] at e;cases e
     · rw[aW] at e;cases e;exact n5.2.2 ai
    have fF:=jL.up _ _ _ e7
    have sQ:∀k n cp,v=.slice k 0 n cp->h.n<=k:=λk n cp e=>by
     rcases zs with⟨aW,_⟩|⟨jb,aW,_,_,n5,_⟩
     · rw[aW] at e;cases e
     · rw[aW] at e;cases e;exact n5.1
    have MT:=jL.cx _ al aw gj e7 (by omega) λk ai cJ=>gE k ai (n6 k cJ)
    have MU:=bu.cM
    have MV:=bu.gq
    have eH:cL p c all b d aw:=⟨(gE p MU λn cp e=>by have:=sQ _ _ _ e;omega).trans bu.par,(gE c MV λn cp e=>by have:=sQ _ _ _ e;have:=w.gq;omega).trans bu.row,by omega,by omega,bu.lt⟩
    obtain⟨a1,br⟩:∃g,g=aw.push (aD [.str [44]] 9):=⟨_,rfl⟩
    have dc:a1.n=aw.n+1:=by rw[br];rfl
    have fN:Ext aw.n aw a1:=by rw[br];exact Ext.push (Nat.le_refl _) _
    obtain⟨a5,hy,jD,gO⟩:=Bl (m+1) ah (eH.ext fN (Nat.le_refl _)) (b:=aw.n) (cp:=.exact 1) (l:=[[44]]) (by simp) (by omega) (Bm (by rw[br];exact dx rfl))
    have ct:=gO.n
    have zt:∀k,k<aw.n->k≠p->a5.get k=aw.get k:=λk ai da=>(gO.get k (by omega) da).trans (fN.get k ai)
    have D7:∀k,k<al.n->k≠p->(∀n cp,v≠ .slice k 0 n cp)->a5.get k=al.get k:=λk ai da aW=>(zt k (by omega) da).trans (gE k ai aW)
    have MW:=jL.cx _ aw a5 gj MT (by omega) λk ai cJ=>zt k ai λe=>by have:=(fF k cJ).1;have:=jL.ne;omega
    have MX:jK (λk=>h.n<=k/\k<al.n/\¬gj k/\∀n cp,v≠ .slice k 0 n cp) al a5:=⟨by omega,λk ai cO=>D7 k cO (by omega) ai.2.2.2⟩
    have D8:=MS.to l2 (G:=λk=>h.n<=k/\k<a5.n/\¬gj k/\∀n cp,(aa.slice (al.n+1) 0 (vs++[u]).length (.aX 1))≠ .slice k 0 n cp) MX λk ai cO=>⟨ai.1,by omega,ai.2.2.1,λn cp e=>by injection e with e;omega⟩
    have D9:fD dT 1 47 (λk=>h.n<=k/\k<a5.n/\¬gj k) a5 (.slice (al.n+1) 0 (vs++[u]).length (.aX 1)) (vs++[u]):=.inr ⟨al.n+1,rfl,by simp,(zt _ (by omega) (by omega)).trans hj,⟨by omega,by omega,λcJ=>by have:=(fF _ cJ).2;omega⟩,by omega⟩
    have Dv:xk p O0 h a5:=⟨by omega,λj aL tW cJ=>(D7 j (by omega) tW λn cp e=>by have:=sQ _ _ _ e;omega).trans ((nh.get j (by omega) tW λar=>by
     rcases bg j ar with J|J
     · exact cJ J
     · omega).trans (gA.get j aL tW cJ))⟩
    have MY:∀j,gj j->O0 j\/(h.n<=j/\j<a5.n):=λj aL=>by
     rcases qC j aL with ar|ar
     · exact(bg j ar).imp_right λJ=>⟨J.1,by omega⟩
     · exact .inr ⟨by omega,by omega⟩
    have MZ:∀x∈vs++[u],x.dJ=true:=λx ab=>by
     rcases List.mem_append.1 ab with ab|ab
     · exact tp x ab
     · rw[List.mem_singleton.1 ab];exact aU
    refine kQ (UH _ p f xs fin fv v y aM (.inl ⟨u,al,aV,aU,_,aw,bt,dV all [[44]] b,a5,by rw[<-br];exact hy,?_⟩)) jS
    refine⟨k,Nat.lt_succ_self _,l++[x],_,a5,gj,_,vs++[u],_,_,rfl,⟨rfl,rfl,rfl,rfl,rfl,trivial⟩,jD,MW,D9,D8,MZ,Dv,MY,by simp;omega,?_⟩
    cases hi:dV all [[44]] b with
    |true=>
     rw[hi] at gh
     simp only[if_true] at gh⊢
     exact .inl ⟨trivial,by omega,gh⟩
    |false=>
     rw[hi] at gh
     simp only[if_false,Bool.false_eq_true] at gh⊢
     exact .inr ⟨trivial,by rw[gh];cases e_ all fin b<;>rfl⟩
theorem ahu:qf an vh 1 40 59 where
 hu:=by kernel_rfl
 hF:=by kernel_rfl
 info:=by
  obtain⟨i,hi⟩:∃i,an.info? 40=some i:=Option.isSome_iff_exists.1 (by kernel_rfl)
  refine⟨i,hi,?_,?_⟩
  · have:(an.info? 40).map (·.size)=some 1:=by kernel_rfl
    rw[hi] at this;exact Option.some.inj this
  · have:(an.info? 40).map (λi=>Nat.ble i.bytes 1000)=some true:=by kernel_rfl
    rw[hi] at this
    exact Nat.le_of_ble_eq_true (Option.some.inj this)
 zero:=by
  obtain⟨z,bm⟩:∃z,gu an 40=some z:=Option.isSome_iff_exists.1 (by kernel_rfl)
  refine⟨z,bm,?_⟩
  have:(gu an 40).map (·.cells.length)=some 1:=by kernel_rfl
  rw[bm] at this;exact Option.some.inj this
 size:=by kernel_rfl
 len:=λ_=>rfl
 cell:=λd=>by show(d.1.dJ&&true)=true;rw[d.2];rfl
 pos:=by decide
theorem UI(p f:Nat)(xs:List aa)(s:List UInt8)(fv v:aa)(h:I)(aM:fv=.fn f [] xs\/∃q,fv=.fn f [.ptr q 0] []/\xs=[.ptr q 0])(H:
  (∃v1 al,call (.fn f) xs h=.ret v1 al/\v1.dJ=true/\∃v2 aw,fi an (al.push (aD [v1] 40)) 59 (some 59) v (.slice al.n 0 1 (.exact 1))=some (v2,aw)/\∃bd a1,call (.fn 38) [.ptr p 0,.slice aw.n 0 1 (.exact 1)] (aw.push (aD [.str [44]] 9))=.ret (.bool bd) a1/\Q .nrm (az [(0,.ptr p 0),(1,.str s),(2,fv),(7,v2),(8,.bool bd)] a1))\/
  (∃dP a5,call (.fn f) xs h=.aK dP a5/\Q (.aK dP) (az [(0,.ptr p 0),(1,.str s),(2,fv),(8,.bool true)] a5))):
  cg an Tryz.f143 call [1,1,0,1,0,0] (az [(0,.ptr p 0),(1,.str s),(2,fv),(7,v),(8,.bool true)] h) Q:=by
 rcases aM with rfl|⟨q,rfl,rfl⟩
 · exact ahp call p f xs s v h ⟨rfl,H⟩
 · exact ahq call p f q s v h ⟨rfl,H⟩
theorem UJ(m:Nat){one:Nat->bw α}{V:c6->I->α->aa->Prop}{g5:List α->I->c6->Prop}{p:Nat}{a:Nat}{O0:c6}(ah:Src all)(w:cL p c all a d h)(fin:bJ)(eU:B<=h.n){fv:aa}{f:Nat}{xs:List aa}(aM:fv=.fn f [] xs\/∃q,fv=.fn f [.ptr q 0] []/\xs=[.ptr q 0])(ns:ev one)(jL:vj p B g5)(l2:nr V)(gU:zp p c all d B g5 V one (λy=>Z (m+5) (.fn f) xs y))(sh:g5 [] h O0):
  rR p c all d B 40 h O0 g5 V (j_ all fin one a) (Z (m+6) (.fn 143) [.ptr p 0,.str fin,fv] h):=by
 have hlen:=ah.len
 have a3:=w.cM
 obtain⟨r,aj⟩:∃r,r=j_ all fin one a:=⟨_,rfl⟩
 rw[<-aj]
 refine tz (P:=an) (intr:=fc) (n:=m+5) (R:=rR p c all d B 40 h O0 g5 V r) Tryz.func143 (by kernel_rfl) (by kernel_rfl) (by kernel_rfl) (Q:=λe st=>(∃v g,e=.ret/\st=az [(6,v)] g/\rR p c all d B 40 h O0 g5 V r (.ret v g))\/∃v,e=.aK v/\st.d=[]/\rR p c all d B 40 h O0 g5 V r (.aK v st.h)) ?_ (λe st bB=>?_)
 rotate_left
 · rcases bB with⟨v,g,rfl,rfl,jd⟩|⟨v,rfl,aH,jd⟩
   · exact .inl ⟨.inl rfl,rfl,v,(by kernel_rfl:iw an (e1 Tryz.f143) Tryz.f143 [(6,v)] g=some v),jd⟩
   · exact .inr ⟨v,rfl,aH,jd⟩
 refine e8 [] (ahm _ p fin fv h ?_)
 refine e8 [1] (ahn _ p fin fv h ?_)
 obtain⟨J,aG⟩:∃x,x=h.push (aD [.str fin] 9):=⟨_,rfl⟩
 have bn:J.n=h.n+1:=by rw[aG];rfl
 have bb:Ext h.n h J:=by rw[aG];exact Ext.push (Nat.le_refl _) _
 obtain⟨ae,cI,cw⟩:=HJ (m+2) (w.ext bb (Nat.le_refl _)) (b:=h.n) (cp:=.exact 1) (l:=[fin]) (by simp) (by omega) (Bm (by rw[aG];exact dx rfl))
 have fJ:Ext h.n h ae:=bb.trans bb.n cw
 have b9:=w.ext fJ (Nat.le_refl _)
 have b6:=cw.n
 have MM:=jL.cx [] h ae O0 sh fJ.n λk ai _=>fJ.get k ai
 refine e8 [1,1] (e8 [1,1,0] (aho _ p fin fv .ao h ⟨dV all [fin] a,ae,by rw[<-aG];exact cI,cg.block (p:=[1,1,0,1]) (id:=0) (by kernel_rfl) ?_⟩))
 have tail:∀(l:List α) (a6:Nat) (y:I) (O:c6) (v:aa) (vs:List aa),cL p c all a6 d y->g5 l y O->fD dT 1 40 (λk=>h.n<=k/\k<y.n/\¬O k) y v vs->fx V (λk=>h.n<=k/\k<y.n/\¬O k/\∀n cp,v≠ .slice k 0 n cp) y l vs->xk p O0 h y->(∀k,O k->O0 k\/(h.n<=k/\k<y.n))->
   (r=match e_ all fin a6 with|.error e=>.error e|.ok c=>.ok (l,c))->cg an Tryz.f143 (Z (m+5)) [1,1,1] (az [(0,.ptr p 0),(1,.str fin),(7,v)] y) (λe st=>(∃v g,e=.ret/\st=az [(6,v)] g/\rR p c all d B 40 h O0 g5 V r (.ret v g))\/∃v,e=.aK v/\st.d=[]/\rR p c all d B 40 h O0 g5 V r (.aK v st.h)):=by
  intro l a6 y O v vs kM qQ hz el gA bg gh
  have zq:=jL.up _ _ _ sh
  have D4:=jL.up _ _ _ qQ
  have lx:bU p B h y:=⟨gA.n,λk ai da=>gA.get k (by omega) da λcJ=>by have:=(zq k cJ).1;omega⟩
  have dY:=mi m ah kM fin
  cases hm:e_ all fin a6 with
  |error e=>
   rw[hm] at dY gh
   have ag:=cB.rQ (show cB p c all d y e _ from dY) (by have:=gA.n;omega) lx
   obtain⟨b,g,c9,aO,aZ,bC,cX,gi,fg⟩:=ag
   refine UG _ p fin v y (.inr ⟨_,g,aO,.inr ⟨_,rfl,rfl,?_⟩⟩)
   rw[gh]
   exact⟨b,g,c9,rfl,aZ,bC,cX,gi,fg⟩
  |ok cI=>
   rw[hm] at dY gh
   obtain⟨g,aO,aZ,bC⟩:=dY
   have zg:=bC.n
   have MN:∀k,O k->k≠p:=λk ai e=>by have:=(D4 k ai).1;have:=jL.ne;omega
   have j2:jK (λk=>h.n<=k/\k<y.n/\¬O k) y g:=⟨zg,λk ai cO=>bC.get k cO (by omega)⟩
   have sP:∀k,(h.n<=k/\k<y.n/\¬O k)->k<y.n->h.n<=k/\k<g.n/\¬O k:=λk ai _=>⟨ai.1,by omega,ai.2.2⟩
   refine UG _ p fin v y (.inl ⟨g,aO,.inl ⟨v,g,rfl,rfl,?_⟩⟩)
   rw[gh]
   exact⟨v,g,O,rfl,aZ,jL.cx l y g O qQ zg λk ai cJ=>bC.get k ai (MN k cJ),⟨vs,hz.to j2 sP,el.to l2 (j2.mono λk ai _=>⟨ai.1,ai.2.1,ai.2.2.1⟩) λk ai cO=>sP k ⟨ai.1,ai.2.1,ai.2.2.1⟩ cO⟩,⟨by have:=gA.n;omega,λk ai da cJ=>(bC.get k (by have:=gA.n;omega) da).trans (gA.get k ai da cJ)⟩,λk ai=>(bg k ai).imp_right λar=>⟨ar.1,by omega⟩⟩
 refine tA (λk st=>∃l a6 y O v vs nQ av,st=tI av y/\kN [(0,.ptr p 0),(1,.str fin),(2,fv),(7,v),(8,.bool nQ)] av/\cL p c all a6 d y/\g5 l y O/\fD dT 1 40 (λk=>h.n<=k/\k<y.n/\¬O k) y v vs/\fx V (λk=>h.n<=k/\k<y.n/\¬O k/\∀n cp,v≠ .slice k 0 n cp) y l vs/\(∀x∈vs,x.dJ=true)/\xk p O0 h y/\(∀k,O k->O0 k\/(h.n<=k/\k<y.n))/\l.length+k<=all.length/\((nQ=true/\all.length<=k+a6/\r=oM all fin one k a6 l)\/(nQ=false/\r=match e_ all fin a6 with|.error e=>.error e|.ok c=>.ok (l,c)))) ?_ (all.length-a) _ (by omega) ⟨[],a,ae,O0,.ao,[],!dV all [fin] a,_,rfl,⟨rfl,rfl,rfl,rfl,rfl,trivial⟩,b9,MM,.inl ⟨rfl,rfl⟩,rfl,λx ab=>(by cases ab),⟨fJ.n,λk ai _ _=>fJ.get k ai⟩,λk ai=>.inl ai,by simp,?_⟩
 rotate_left
 · rw[aj]
   unfold j_
   cases hi:dV all [fin] a with
   |true=>exact .inr ⟨rfl,by rw[if_pos rfl];cases e_ all fin a<;>rfl⟩
   |false=>exact .inl ⟨rfl,by have:=w.lt;omega,by rw[if_neg (by simp)]⟩
 rintro k st ⟨l,a6,y,O,v,vs,nQ,av,rfl,jS,kM,qQ,hz,el,tp,gA,bg,hA,MO⟩
 rcases MO with⟨rfl,ai,gh⟩|⟨rfl,gh⟩
 rotate_left
 · refine kQ (ahr _ p fin fv v y ⟨rfl,?_⟩) jS
   exact xj (tail l a6 y O v vs kM qQ hz el gA bg gh)
 · obtain⟨k,rfl⟩:∃j,k=j+1:=⟨k-1,by have:=kM.lt;omega⟩
   have zq:=jL.up _ _ _ sh
   have D4:=jL.up _ _ _ qQ
   have aht:=gA.n
   have lx:bU p B h y:=⟨gA.n,λk ai da=>gA.get k (by omega) da λcJ=>by have:=(zq k cJ).1;omega⟩
   have on:=gU l a6 y O (by omega) (by omega) kM qQ
   unfold oM at gh
   cases zr:one a6 with
   |error e=>
    rw[zr] at on gh
    have ag:=iV.of (show iV p c all d B y e _ from on) lx
    obtain⟨b,g,c9,aO,aZ,bC,cX,gi,fg⟩:=ag
    refine kQ (UI _ p f xs fin fv v y aM (.inr ⟨_,g,aO,.inr ⟨_,rfl,rfl,?_⟩⟩)) jS
    rw[gh]
    exact⟨b,g,c9,rfl,aZ,bC,cX,gi,fg⟩
   |ok fG=>
    obtain⟨x,b⟩:=fG
    rw[zr] at on gh
    simp only at gh
    obtain⟨u,al,gj,aV,aU,bu,e7,gL,nh,qC⟩:=on
    have MP:=nh.n
    have p1:=ns _ _ _ zr
    have HN:=el.len
    have D5:jK (λk=>h.n<=k/\k<y.n/\¬O k) y al:=⟨MP,λk ai cO=>nh.get k cO (by omega) ai.2.2⟩
    have D6:∀k,(h.n<=k/\k<y.n/\¬O k)->k<y.n->h.n<=k/\k<al.n/\¬gj k:=λk ai _=>⟨ai.1,by omega,λcJ=>by
     rcases qC k cJ with ar|ar
     · exact ai.2.2 ar
     · omega⟩
    have zs:=hz.to D5 D6
    have qP:=el.to l2 (G:=λk=>h.n<=k/\k<al.n/\¬gj k/\∀n cp,v≠ .slice k 0 n cp) (D5.mono λk ai _=>⟨ai.1,ai.2.1,ai.2.2.1⟩) λk ai cO=>by
     obtain⟨cN,ea,dE⟩:=D6 k ⟨ai.1,ai.2.1,ai.2.2.1⟩ cO
     exact⟨cN,ea,dE,ai.2.2.2⟩
    have MQ:∀k n cp,v=.slice k 0 n cp->k<y.n:=λk n cp e=>by
     rcases hz with⟨aW,_⟩|⟨jb,aW,_,_,n5,_⟩
     · rw[aW] at e;cases e
     · rw[aW] at e;cases e;exact n5.2.1
    have MR:∀F:c6,jK F al al:=λF=>⟨Nat.le_refl _,λ_ _ _=>rfl⟩
    have v1:=l2 _ (λk=>h.n<=k/\k<al.n/\¬gj k/\∀n cp,v≠ .slice k 0 n cp) _ _ _ _ gL (MR _) (λk ai _=>⟨by omega,ai.2.1,ai.2.2,λn cp e=>by have:=MQ k n cp e;omega⟩)
    have MS:=fx.snoc v1 qP
    obtain⟨aw,bt,b3,hj,gE⟩:=MI ahu zs tp aU (by omega)
    have n6:∀k,gj k->∀n cp,v≠ .slice k 0 n cp:=λk ai n cp e=>by
     rcases zs with⟨aW,_⟩|⟨jb,aW,_,_,n5,_⟩
     · rw[aW] at e;cases e
     · rw[aW] at e;cases e;exact n5.2.2 ai
    have fF:=jL.up _ _ _ e7
    have sQ:∀k n cp,v=.slice k 0 n cp->h.n<=k:=λk n cp e=>by
     rcases zs with⟨aW,_⟩|⟨jb,aW,_,_,n5,_⟩
     · rw[aW] at e;cases e
     · rw[aW] at e;cases e;exact n5.1
    have MT:=jL.cx _ al aw gj e7 (by omega) λk ai cJ=>gE k ai (n6 k cJ)
    have MU:=bu.cM
    have MV:=bu.gq
    have eH:cL p c all b d aw:=⟨(gE p MU λn cp e=>by have:=sQ _ _ _ e;omega).trans bu.par,(gE c MV λn cp e=>by have:=sQ _ _ _ e;have:=w.gq;omega).trans bu.row,by omega,by omega,bu.lt⟩
    obtain⟨a1,br⟩:∃g,g=aw.push (aD [.str [44]] 9):=⟨_,rfl⟩
    have dc:a1.n=aw.n+1:=by rw[br];rfl
    have fN:Ext aw.n aw a1:=by rw[br];exact Ext.push (Nat.le_refl _) _
    obtain⟨a5,hy,jD,gO⟩:=Bl (m+1) ah (eH.ext fN (Nat.le_refl _)) (b:=aw.n) (cp:=.exact 1) (l:=[[44]]) (by simp) (by omega) (Bm (by rw[br];exact dx rfl))
    have ct:=gO.n
    have zt:∀k,k<aw.n->k≠p->a5.get k=aw.get k:=λk ai da=>(gO.get k (by omega) da).trans (fN.get k ai)
    have D7:∀k,k<al.n->k≠p->(∀n cp,v≠ .slice k 0 n cp)->a5.get k=al.get k:=λk ai da aW=>(zt k (by omega) da).trans (gE k ai aW)
    have MW:=jL.cx _ aw a5 gj MT (by omega) λk ai cJ=>zt k ai λe=>by have:=(fF k cJ).1;have:=jL.ne;omega
    have MX:jK (λk=>h.n<=k/\k<al.n/\¬gj k/\∀n cp,v≠ .slice k 0 n cp) al a5:=⟨by omega,λk ai cO=>D7 k cO (by omega) ai.2.2.2⟩
    have D8:=MS.to l2 (G:=λk=>h.n<=k/\k<a5.n/\¬gj k/\∀n cp,(aa.slice (al.n+1) 0 (vs++[u]).length (.aX 1))≠ .slice k 0 n cp) MX λk ai cO=>⟨ai.1,by omega,ai.2.2.1,λn cp e=>by injection e with e;omega⟩
    have D9:fD dT 1 40 (λk=>h.n<=k/\k<a5.n/\¬gj k) a5 (.slice (al.n+1) 0 (vs++[u]).length (.aX 1)) (vs++[u]):=.inr ⟨al.n+1,rfl,by simp,(zt _ (by omega) (by omega)).trans hj,⟨by omega,by omega,λcJ=>by have:=(fF _ cJ).2;omega⟩,by omega⟩
    have Dv:xk p O0 h a5:=⟨by omega,λj aL tW cJ=>(D7 j (by omega) tW λn cp e=>by have:=sQ _ _ _ e;omega).trans ((nh.get j (by omega) tW λar=>by
     rcases bg j ar with J|J
     · exact cJ J
     · omega).trans (gA.get j aL tW cJ))⟩
    have MY:∀j,gj j->O0 j\/(h.n<=j/\j<a5.n):=λj aL=>by
     rcases qC j aL with ar|ar
     · exact(bg j ar).imp_right λJ=>⟨J.1,by omega⟩
     · exact .inr ⟨by omega,by omega⟩
    have MZ:∀x∈vs++[u],x.dJ=true:=λx ab=>by
     rcases List.mem_append.1 ab with ab|ab
     · exact tp x ab
     · rw[List.mem_singleton.1 ab];exact aU
    refine kQ (UI _ p f xs fin fv v y aM (.inl ⟨u,al,aV,aU,_,aw,bt,dV all [[44]] b,a5,by rw[<-br];exact hy,?_⟩)) jS
    refine⟨k,Nat.lt_succ_self _,l++[x],_,a5,gj,_,vs++[u],_,_,rfl,⟨rfl,rfl,rfl,rfl,rfl,trivial⟩,jD,MW,D9,D8,MZ,Dv,MY,by simp;omega,?_⟩
    cases hi:dV all [[44]] b with
    |true=>
     rw[hi] at gh
     simp only[if_true] at gh⊢
     exact .inl ⟨trivial,by omega,gh⟩
    |false=>
     rw[hi] at gh
     simp only[if_false,Bool.false_eq_true] at gh⊢
     exact .inr ⟨trivial,by rw[gh];cases e_ all fin b<;>rfl⟩
end Go.Proofs.lv
