/- contracts of functions; no condition -/
import Derived.Test.YtokgebablggccaaGreatDoorDh
set_option linter.unusedVariables false
set_option linter.unusedSimpArgs false
set_option maxRecDepth 100000
set_option maxHeartbeats 1000000
namespace Go.Proofs.lv
open Go aJ Go.Proofs lp iI fO
variable {B a b b1 bL c cE d lo:Nat}{H h y:I}{T iX kt lA:TypeId}{all:List bP}{es:List ga}{k v:aa}{o:b5}
variable {Q:cl->bD->Prop} {R:a8->Prop} (call:e0)
noncomputable abbrev Y(n:Nat):e0:=eA an fc n
noncomputable abbrev amh:Nat->List aa->I->Option (aa×I):=fc
theorem UK(m p:Nat)(h:I)(H:∃bn,aC (I.push h (aD [af p] 72)) h.n 0=some (af bn)/\((∃b6 al,Y m (.fn 84) [af bn,.fn 85 [] [af h.n]] (I.push h (aD [af p] 72))=.ret (af b6) al/\R (.ret (af b6) al))\/(∃v1 aw,Y m (.fn 84) [af bn,.fn 85 [] [af h.n]] (I.push h (aD [af p] 72))=.aK v1 aw/\R (.aK v1 aw)))):
  R (Y (m+1) (.fn 42) [af p] h):=
 mH [(5,.e none .o)] [] Tryz.func42 H
theorem ahv(m p:Nat)(h:I)(H:∃bd al,Y m (.fn 38) [af p,.slice h.n 0 1 (.exact 1)] (I.push h (aD [.str [58]] 9))=.ret (.bool bd) al/\(bd=true->((∃bn aw,Y m (.fn 42) [af p] al=.ret (af bn) aw/\R (.ret (af bn) aw))\/(∃v1 a1,Y m (.fn 42) [af p] al=.aK v1 a1/\R (.aK v1 a1))))/\(bd=false->R (.ret .au al))):
  R (Y (m+1) (.fn 45) [af p] h):=
 mH [(7,.e none .o)] [] Tryz.func45 H
theorem ahw(m:Nat)(s:List UInt8)(h:I)(H:∃al,(iA an (I.push h (.map [] 0)) 200 (.map h.n) (.str [105,110,116]) (ad 1)=some al/\aa.aF []=.aF [])/\∃aw,(iA an al 200 (.map h.n) (.str [98,111,111,108]) (ad 2)=some aw/\aa.aF []=.aF [])/\∃a1,(iA an aw 200 (.map h.n) (.str [115,116,114]) (ad 3)=some a1/\aa.aF []=.aF [])/\∃a5,(iA an a1 200 (.map h.n) (.str [110,105,108]) (ad 4)=some a5/\aa.aF []=.aF [])/\∃bc,(iA an a5 200 (.map h.n) (.str [97,110,121]) (ad 5)=some bc/\aa.aF []=.aF [])/\∃bn,mY an bc 200 (.map h.n) (.str s) false=some (ad bn)/\R (.ret (ad bn) bc)):
  R (Y (m+1) (.fn 117) [.str s] h):=
 mH [] [] Tryz.func117 H
theorem ahx(m p:Nat)(h:I)(H:∃bn,aC (I.push h (aD [af p] 72)) h.n 0=some (af bn)/\∃b6 s1 dc ct al,Y m (.fn 20) [af bn] (I.push h (aD [af p] 72))=.ret (.agg [ad b6,.str s1,ad dc,ad ct]) al/\∃aw,aJ.storeCells (I.push (I.push al (aD [ad 0,ad ct,.str [],.str [],.ao,.ao,.au] 58)) (aD [.au] 47)) (I.n (I.push al (aD [ad 0,ad ct,.str [],.str [],.ao,.ao,.au] 58))) 0 [af al.n]=some aw/\∃cP,aC aw h.n 0=some (af cP)/\∃fu s2 gR fZ a1,Y m (.fn 20) [af cP] aw=.ret (.agg [ad fu,.str s2,ad gR,ad fZ]) a1/\∃jX,aC a1 h.n 0=some (af jX)/\∃bd a5,Y m (.fn 38) [af jX,.slice a1.n 0 5 (.exact 5)] (I.push a1 (aD [.str [105,110,116],.str [98,111,111,108],.str [115,116,114],.str [110,105,108],.str [97,110,121]] 9))=.ret (.bool bd) a5/\(bd=true->∃la,aC (a5.room 6) (I.n (I.push al (aD [ad 0,ad ct,.str [],.str [],.ao,.ao,.au] 58))) 0=some (af la)/\∃n7 bc,Y m (.fn 117) [.str s2] (a5.room 6)=.ret (ad n7) bc/\∃cj,aJ.storeCells bc la 0 [ad n7]=some cj/\aC bc (I.n (I.push al (aD [ad 0,ad ct,.str [],.str [],.ao,.ao,.au] 58))) 0=some (af la)/\∃lb,aC cj (I.n (I.push al (aD [ad 0,ad ct,.str [],.str [],.ao,.ao,.au] 58))) 0=some (af lb)/\R (.ret (af lb) cj))/\(bd=false->∃lU,aC a5 h.n 0=some (af lU)/\∃b2 cK,Y m (.fn 38) [af lU,.slice a5.n 0 1 (.exact 1)] (I.push a5 (aD [.str [40]] 9))=.ret (.bool b2) cK/\(b2=true->∃rS,aC cK h.n 0=some (af rS)/\((∃tX ee,Y m (.fn 42) [af rS] cK=.ret (af tX) ee/\∃ez,aJ.storeCells ee (I.n (I.push al (aD [ad 0,ad ct,.str [],.str [],.ao,.ao,.au] 58))) 0 [af tX]=some ez/\∃sR,aC ez h.n 0=some (af sR)/\((∃hZ,Y m (.fn 40) [af sR,.str [41]] ez=.ret (.aF []) hZ/\∃vk,aC hZ (I.n (I.push al (aD [ad 0,ad ct,.str [],.str [],.ao,.ao,.au] 58))) 0=some (af vk)/\R (.ret (af vk) hZ))\/(∃v1 fe,Y m (.fn 40) [af sR,.str [41]] ez=.aK v1 fe/\R (.aK v1 fe))))\/(∃v2 hO,Y m (.fn 42) [af rS] cK=.aK v2 hO/\R (.aK v2 hO))))/\(b2=false->∃tY,aC cK h.n 0=some (af tY)/\∃dd gX,Y m (.fn 38) [af tY,.slice cK.n 0 1 (.exact 1)] (I.push cK (aD [.str [123]] 9))=.ret (.bool dd) gX/\(dd=true->∃vl,aC gX (I.n (I.push al (aD [ad 0,ad ct,.str [],.str [],.ao,.ao,.au] 58))) 0=some (af vl)/\∃hg,aJ.storeCells gX vl 0 [ad 7]=some hg/\∃tZ,aC (hg.room 7) (I.n (I.push al (aD [ad 0,ad ct,.str [],.str [],.ao,.ao,.au] 58))) 0=some (af tZ)/\∃sS,aC (hg.room 7) h.n 0=some (af sS)/\((∃dP gS,Y m (.fn 87) [af sS,.str [125],.fn 118 [] [.ptr (I.n (I.push al (aD [ad 0,ad ct,.str [],.str [],.ao,.ao,.au] 58))) 0,af h.n]] (hg.room 7)=.ret dP gS/\k5 dP/\∃oU,aJ.storeCells gS tZ 5 [dP]=some oU/\aC gS (I.n (I.push al (aD [ad 0,ad ct,.str [],.str [],.ao,.ao,.au] 58))) 0=some (af tZ)/\∃xl,aC oU (I.n (I.push al (aD [ad 0,ad ct,.str [],.str [],.ao,.ao,.au] 58))) 0=some (af xl)/\R (.ret (af xl) oU))\/(∃v4 nt,Y m (.fn 87) [af sS,.str [125],.fn 118 [] [.ptr (I.n (I.push al (aD [ad 0,ad ct,.str [],.str [],.ao,.ao,.au] 58))) 0,af h.n]] (hg.room 7)=.aK v4 nt/\R (.aK v4 nt))))/\(dd=false->∃xm,aC gX h.n 0=some (af xm)/\∃gm oV,Y m (.fn 38) [af xm,.slice gX.n 0 1 (.exact 1)] (I.push gX (aD [.str [102,110]] 9))=.ret (.bool gm) oV/\(gm=true->∃vm,aC oV (I.n (I.push al (aD [ad 0,ad ct,.str [],.str [],.ao,.ao,.au] 58))) 0=some (af vm)/\∃qR,aJ.storeCells oV vm 0 [ad 8]=some qR/\∃sU,aC qR h.n 0=some (af sU)/\((∃nu,Y m (.fn 40) [af sU,.str [40]] qR=.ret (.aF []) nu/\∃rT,aC (nu.room 8) (I.n (I.push al (aD [ad 0,ad ct,.str [],.str [],.ao,.ao,.au] 58))) 0=some (af rT)/\∃t_,aC (nu.room 8) h.n 0=some (af t_)/\∃ua,aC (nu.room 8) h.n 0=some (af ua)/\((∃hD rU,Y m (.fn 87) [af t_,.str [41],.fn 42 [af ua] []] (nu.room 8)=.ret hD rU/\k5 hD/\∃kd,aJ.storeCells rU rT 5 [hD]=some kd/\aC rU (I.n (I.push al (aD [ad 0,ad ct,.str [],.str [],.ao,.ao,.au] 58))) 0=some (af rT)/\∃ub,aC kd h.n 0=some (af ub)/\((∃mP,Y m (.fn 40) [af ub,.str [45,62]] kd=.ret (.aF []) mP/\∃zu,aC (mP.room 6) (I.n (I.push al (aD [ad 0,ad ct,.str [],.str [],.ao,.ao,.au] 58))) 0=some (af zu)/\∃Bo,aC (mP.room 6) h.n 0=some (af Bo)/\((∃D_ qS,Y m (.fn 42) [af Bo] (mP.room 6)=.ret (af D_) qS/\∃mQ,aJ.storeCells qS zu 6 [af D_]=some mQ/\aC qS (I.n (I.push al (aD [ad 0,ad ct,.str [],.str [],.ao,.ao,.au] 58))) 0=some (af zu)/\∃Ea,aC mQ (I.n (I.push al (aD [ad 0,ad ct,.str [],.str [],.ao,.ao,.au] 58))) 0=some (af Ea)/\R (.ret (af Ea) mQ))\/(∃v6 nv,Y m (.fn 42) [af Bo] (mP.room 6)=.aK v6 nv/\R (.aK v6 nv))))\/(∃il nw,Y m (.fn 40) [af ub,.str [45,62]] kd=.aK il nw/\R (.aK il nw))))\/(∃im n8,Y m (.fn 87) [af t_,.str [41],.fn 42 [af ua] []] (nu.room 8)=.aK im n8/\R (.aK im n8))))\/(∃jn pK,Y m (.fn 40) [af sU,.str [40]] qR=.aK jn pK/\R (.aK jn pK))))/\(gm=false->∃zv,aC oV h.n 0=some (af zv)/\((∃zw lV,Y m (.fn 119) [af zv] oV=.ret (af zw) lV/\R (.ret (af zw) lV))\/(∃v10 n9,Y m (.fn 119) [af zv] oV=.aK v10 n9/\R (.aK v10 n9)))))))):
  R (Y (m+1) (.fn 86) [af p] h):=
 mH [(29,.e none .o),(31,.e none .o),(42,.e (some .o) .o),(53,.e none .o),(58,.e (some .o) .o),(62,.e none .o),(65,.e none .o),(14,.e none .o)] [] Tryz.func86 H
theorem UL(m a b:Nat)(h:I)(H:∃bn,aC (h.room 12) a 0=some (af bn)/\∃b6,aC (h.room 12) a 0=some (af b6)/\∃v1,aC (h.room 12) b6 4=some v1/\∃dc,aC (h.room 12) b 0=some (af dc)/\((∃s1 al,Y m (.fn 41) [af dc] (h.room 12)=.ret (.str s1) al/\∃v2 aw,fi an (I.set al (h.n+7) (some (aD [.str s1] 9))) 48 (some 48) v1 (.slice (h.n+7) 0 1 (.exact 1))=some (v2,aw)/\k5 v2/\∃a1,aJ.storeCells aw bn 4 [v2]=some a1/\aC aw a 0=some (af bn)/\aC (I.set al (h.n+7) (some (aD [.str s1] 9))) a 0=some (af bn)/\aC (I.set al (h.n+7) (some (aD [.str s1] 9))) a 0=some (af b6)/\kR v1/\aC (I.set al (h.n+7) (some (aD [.str s1] 9))) b6 4=some v1/\∃ct,aC a1 b 0=some (af ct)/\((∃a5,Y m (.fn 40) [af ct,.str [58]] a1=.ret (.aF []) a5/\∃cP,aC a5 b 0=some (af cP)/\((∃fu bc,Y m (.fn 42) [af cP] a5=.ret (af fu) bc/\R (.ret (af fu) bc))\/(∃dP cj,Y m (.fn 42) [af cP] a5=.aK dP cj/\R (.aK dP cj))))\/(∃v4 cK,Y m (.fn 40) [af ct,.str [58]] a1=.aK v4 cK/\R (.aK v4 cK))))\/(∃hD ee,Y m (.fn 41) [af dc] (h.room 12)=.aK hD ee/\kR v1/\R (.aK hD ee)))):
  R (Y (m+1) (.fn 118) [af a,af b] h):=
 mH [(7,.ep .o),(9,.e none .o),(11,.ep .o),(15,.e none .o),(17,.e none .o)] [] Tryz.func118 H
theorem UM(m a b:Nat)(h:I)(H:∃v1,aC (h.room 6) a 0=some v1/\∃bn,aC (h.room 6) b 0=some (af bn)/\((∃s1 al,Y m (.fn 41) [af bn] (h.room 6)=.ret (.str s1) al/\∃v2 aw,fi an (I.set al (h.n+3) (some (aD [.str s1] 9))) 48 (some 48) v1 (.slice (h.n+3) 0 1 (.exact 1))=some (v2,aw)/\k5 v2/\∃a1,aJ.storeCells aw a 0 [v2]=some a1/\kR v1/\aC (I.set al (h.n+3) (some (aD [.str s1] 9))) a 0=some v1/\∃b6,aC a1 b 0=some (af b6)/\((∃dP a5,Y m (.fn 45) [af b6] a1=.ret dP a5/\R (.ret dP a5))\/(∃v4 bc,Y m (.fn 45) [af b6] a1=.aK v4 bc/\R (.aK v4 bc))))\/(∃hD cj,Y m (.fn 41) [af bn] (h.room 6)=.aK hD cj/\kR v1/\R (.aK hD cj)))):
  R (Y (m+1) (.fn 88) [af a,af b] h):=
 mH [(3,.ep .o),(5,.e none .o),(7,.ep .o),(9,.e (some .o) .o)] [] Tryz.func88 H
theorem ahy(b:Nat)(h:I)(H:Q .nrm (az [(0,af b)] h)):
  cg an Tryz.f85 call [0] (az [(0,af b)] h) Q:=
 dR [] [0] [] H
theorem ahz(b:Nat)(h:I)(H:∃bn,aC h b 0=some (af bn)/\∃b6 s1 dc ct al,call (.fn 20) [af bn] h=.ret (.agg [ad b6,.str s1,ad dc,ad ct]) al/\Q .nrm (az [(0,af b),(2,ad ct)] al)):
  cg an Tryz.f85 call [1,0] (az [(0,af b)] h) Q:=
 dR [] [0,2] [] H
theorem ahA(b n:Nat)(h:I)(H:∃bn,aC h b 0=some (af bn)/\((∃b6 al,call (.fn 86) [af bn] h=.ret (af b6) al/\Q .nrm (az [(0,af b),(2,ad n),(3,.slice al.n 0 1 (.exact 1))] (I.push al (aD [af b6] 47))))\/(∃v1 aw,call (.fn 86) [af bn] h=.aK v1 aw/\Q (.aK v1) (az [(0,af b),(2,ad n)] aw)))):
  cg an Tryz.f85 call [1,1,0] (az [(0,af b),(2,ad n)] h) Q:=
 dR [(8,.e none .o)] [0,2,3] [] H
theorem ahB(b n:Nat)(v:aa)(h:I)(H:∃bn,aC h b 0=some (af bn)/\∃bd al,call (.fn 38) [af bn,.slice h.n 0 1 (.exact 1)] (I.push h (aD [.str [124]] 9))=.ret (.bool bd) al/\(bd=true->∃b6,aC al b 0=some (af b6)/\((∃dc aw,call (.fn 86) [af b6] al=.ret (af dc) aw/\∃v1 a1,fi an (I.push aw (aD [af dc] 47)) 49 (some 49) v (.slice aw.n 0 1 (.exact 1))=some (v1,a1)/\Q .nrm (az [(0,af b),(2,ad n),(3,v1)] a1))\/(∃v2 a5,call (.fn 86) [af b6] al=.aK v2 a5/\Q (.aK v2) (az [(0,af b),(2,ad n)] a5))))/\(bd=false->Q (.exit 0) (az [(0,af b),(2,ad n),(3,v)] al))):
  cg an Tryz.f85 call [1,1,1,0,0,0] (az [(0,af b),(2,ad n),(3,v)] h) Q:=
 dR [(15,.e none .o),(17,.ep .o)] [0,2,3] [3] H
theorem ahC(n v N:Nat)(cp:dn)(h:I)(H:(N=1->0<N/\∃bn,aC h v (0+0*1)=some (af bn)/\Q .ret (az [(1,af bn)] h))/\(¬N=1->Q .ret (az [(1,af h.n)] (I.push h (aD [ad 9,ad n,.str [],.str [],.ao,.slice v 0 N cp,.au] 58))))):
  cg an Tryz.f85 call [1,1,1,1] (az [(2,ad n),(3,.slice v 0 N cp)] h) Q:=
 dR [(22,.ep .o)] [1] [] H
theorem ahD(hu:an.underlying T=some (.map kt iX))(ai:nC an kt k=true)(aB:H.get b=some (.map es c))(aM:jN an H kt k es 0=some none):iA an H T (.map b) k v=some (H.set b (some (.map (es++[⟨k,v,c⟩]) (c+1)))):=by
 simp only[iA,hu,ai,aB,aM]
theorem zx{i:Nat}{x:aa}(hu:an.underlying T=some (.map kt iX))(ai:nC an kt k=true)(aB:H.get b=some (.map es c))(aM:jN an H kt k es 0=some (some (i,x))):mY an H T (.map b) k false=some x:=by
 simp only[mY,hu,ai,aB,aM,xE]
 rfl
theorem uc:an.underlying 200=some (.map 9 3):=by kernel_rfl
theorem ud(s:bJ):nC an 9 (.str s)=true:=by kernel_rfl
theorem vn(m:Nat){p:Nat}(ah:Src all)(w:cL p c all a d y)(l:List bJ)(aA:l.length<=100):
  ∃g,Z (m+4) (.fn 38) [.ptr p 0,.slice y.n 0 l.length (.exact l.length)] (y.push (aD (l.map .str) 9))=.ret (.bool (dV all l a)) g/\cL p c all (if dV all l a then a+1 else a) d g/\bU p y.n y g:=by
 have dH:Ext y.n y (y.push (aD (l.map .str) 9)):=Ext.push (Nat.le_refl _) _
 obtain⟨g,a9,b_,bb⟩:=Bl m ah (w.ext dH (Nat.le_refl _)) (b:=y.n) (cp:=.exact l.length) (l:=l) (by omega) (Nat.lt_succ_self _) (λi hi=>by
  refine aN (dx rfl) ?_
  rw[j0,List.getElem?_map,show 0+i*1=i by omega,List.getElem?_eq_getElem hi];rfl)
 exact⟨g,a9,b_,(dH.eb p).trans dH.n bb⟩
theorem vo(hu:an.underlying T=some (.map kt iX))(ai:nC an kt k=true)(aB:H.get b=some (.map es c))(aM:jN an H kt k es 0=some none):∃g,iA an H T (.map b) k v=some g/\g.get b=some (.map (es++[⟨k,v,c⟩]) (c+1))/\g.n=H.n/\∀d,d≠b->g.get d=H.get d:=
 ⟨_,ahD hu ai aB aM,dz rfl,rfl,λd aH=>cr aH rfl⟩
theorem ahE(m:Nat)(s:bJ)(h:I)(ah:s∈[DO,DP,DQ,mN,DR]):∃g,Z (m+1) (.fn 117) [.str s] h=.ret (ad (Hs s)) g/\Ext h.n h g:=by
 have dH:Ext h.n h (h.push (.map [] 0)):=Ext.push (Nat.le_refl _) _
 have bE:(h.push (.map [] 0)).get h.n=some (.map [] 0):=dx rfl
 obtain⟨al,cR,bd,bn,e2⟩:=vo (v:=ad 1) uc (ud [105,110,116]) bE (by kernel_rfl)
 obtain⟨aw,gg,b2,b6,eh⟩:=vo (v:=ad 2) uc (ud [98,111,111,108]) bd (by kernel_rfl)
 obtain⟨a1,ry,dd,dc,g4⟩:=vo (v:=ad 3) uc (ud [115,116,114]) b2 (by kernel_rfl)
 obtain⟨a5,w6,gm,ct,gW⟩:=vo (v:=ad 4) uc (ud [110,105,108]) dd (by kernel_rfl)
 obtain⟨bc,xn,jR,cP,mj⟩:=vo (v:=ad 5) uc (ud [97,110,121]) gm (by kernel_rfl)
 have fX:Ext h.n h bc:=⟨by have:=dH.n;omega,λd aH=>by
  have dk:d≠h.n:=by omega
  exact(mj d dk).trans ((gW d dk).trans ((g4 d dk).trans ((eh d dk).trans ((e2 d dk).trans (dH.get d aH)))))⟩
 refine⟨bc,?_,fX⟩
 have go:∀i n,jN an bc 9 (.str s) _ 0=some (some (i,ad n))->Z (m+1) (.fn 117) [.str s] h=.ret (ad n) bc:=λi n aM=>
  ahw m s h (R:=λx=>x=.ret (ad n) bc) ⟨al,⟨cR,rfl⟩,aw,⟨gg,rfl⟩,a1,⟨ry,rfl⟩,a5,⟨w6,rfl⟩,bc,⟨xn,rfl⟩,n,zx uc (ud s) jR aM,rfl⟩
 simp only[List.mem_cons,List.not_mem_nil,or_false] at ah
 rcases ah with rfl|rfl|rfl|rfl|rfl
 · exact go 0 1 (by kernel_rfl)
 · exact go 1 2 (by kernel_rfl)
 · exact go 2 3 (by kernel_rfl)
 · exact go 3 4 (by kernel_rfl)
 · exact go 4 5 (by kernel_rfl)
abbrev qT(B:Nat):cG->aa->I->Prop:=λt v g=>ef (λk=>B<=k/\k<g.n) g t v
theorem ly:nr ef:=λF G h g x w ab e m=>ef.cx e m x w ab
theorem vf.ahF{p:Nat}(a3:p<B):vf p (qT B):=λt v g fT ab e=>ef.cx ⟨e.n,λb ag aT=>e.get b aT (by omega)⟩ (λb ag aT=>⟨ag.1,by have:=e.n;omega⟩) t v ab
theorem ef.ptr{F:c6}{t:cG}(o:ef F h t v):∃r,v=.ptr r 0:=by
 cases t
 obtain⟨r,_,_,_,_,J,_⟩:=o
 exact⟨r,J⟩
theorem ef.UN{t:cG}{g:I}(o:Uy B t v g):qT B t v g:=ef.of t v o
def pL(all:List bP)(T:Nat->bw cG)(d lo:Nat):Prop:=∀(n:Nat),lo<=n->∀{p c a:Nat} {h:I},cL p c all a d h->Fin p c all d h (qT h.n) (T a) (Z n (.fn 42) [.ptr p 0] h)
theorem UO:qf an kV 1 9 48 where
 hu:=by kernel_rfl
 hF:=by kernel_rfl
 info:=by
  obtain⟨i,hi⟩:∃i,an.info? 9=some i:=Option.isSome_iff_exists.1 (by kernel_rfl)
  refine⟨i,hi,?_,?_⟩
  · have:(an.info? 9).map (·.size)=some 1:=by kernel_rfl
    rw[hi] at this;exact Option.some.inj this
  · have:(an.info? 9).map (λi=>Nat.ble i.bytes 1000)=some true:=by kernel_rfl
    rw[hi] at this
    exact Nat.le_of_ble_eq_true (Option.some.inj this)
 zero:=by
  obtain⟨z,bm⟩:∃z,gu an 9=some z:=Option.isSome_iff_exists.1 (by kernel_rfl)
  refine⟨z,bm,?_⟩
  have:(gu an 9).map (·.cells.length)=some 1:=by kernel_rfl
  rw[bm] at this;exact Option.some.inj this
 size:=by kernel_rfl
 len:=λ_=>rfl
 cell:=λd=>rfl
 pos:=by decide
theorem M0{F:c6}{cZ:List bJ}{s:bJ}(o:fD kV 1 9 F H v cZ)(ag:H.get b=some (aD [.str s] 9))(aA:cZ.length<=200000):
  ∃g,fi an H 48 (some 48) v (.slice b 0 1 (.exact 1))=some (.slice H.n 0 (cZ++[s]).length (.aX 1),g)/\g.n=H.n+1/\g.get H.n=some (.cells (eK kV (cZ++[s])) 9 .aX 0 0)/\∀c,c<H.n->(∀n cp,v≠ .slice c 0 n cp)->g.get c=H.get c:=by
 have ah:jr H 1 (.slice b 0 1 (.exact 1))=some (([s]:List bJ).length,eK kV [s]):=by
  have:aJ.loadCells H b 0 (1*1)=some [.str s]:=rk ag rfl
  simp only[jr,this];rfl
 rcases o with⟨rfl,rfl⟩|⟨q,rfl,ae,aq,aQ,bj⟩
 · exact⟨_,Gp UO ah (by simp) (by simp),rfl,dx rfl,λc ak _=>gN ak rfl⟩
 · have qP:(cZ++[s]).length=cZ.length+([s]:List bJ).length:=by simp
   rw[qP]
   refine⟨_,Gq UO aq ah (by simp) (by simp;omega),rfl,dx rfl,λc ak aW=>?_⟩
   exact gN (by simpa using ak) (cr (λe=>aW _ _ (by rw[e])) rfl)
def Eb(p bL b1 cE at' B:Nat)(l:List (bJ×cG))(y:I)(O:c6):Prop:=
 ∃bV,y.get bL=some (hf 7 at' [] [] bV .ao .au)/\y.get b1=some (aD [.ptr bL 0] 47)/\y.get cE=some (aD [.ptr p 0] 72)/\(bL<y.n/\b1<y.n/\cE<y.n)/\fD kV 1 9 (λk=>B<=k) y bV (l.map (·.1))/\∀k,O k<->(k=bL\/k=b1\/k=cE\/∃n cp,bV=.slice k 0 n cp)
theorem Eb.ok{p at':Nat}(a3:p<B)(J:B<=bL)(ae:B<=b1)(aq:B<=cE):vj p B (Eb p bL b1 cE at' B) where
 cx:=λl y g O aL aT ai=>by
  obtain⟨bV,fS,iD,iE,⟨h1,kW,jo⟩,fo,eX⟩:=aL
  refine⟨bV,(ai bL h1 ((eX _).2 (.inl rfl))).trans fS,(ai b1 kW ((eX _).2 (.inr (.inl rfl)))).trans iD,(ai cE jo ((eX _).2 (.inr (.inr (.inl rfl))))).trans iE,⟨by omega,by omega,by omega⟩,?_,eX⟩
  rcases fo with fo|⟨q,e,aO,aZ,bC,cX⟩
  · exact .inl fo
  · exact .inr ⟨q,e,aO,(ai q cX ((eX _).2 (.inr (.inr (.inr ⟨_,_,e⟩))))).trans aZ,bC,by omega⟩
 up:=λl y O aL k cJ=>by
  obtain⟨bV,fS,iD,iE,⟨h1,kW,jo⟩,fo,eX⟩:=aL
  rcases(eX k).1 cJ with rfl|rfl|rfl|⟨n,cp,e⟩
  · exact⟨J,h1⟩
  · exact⟨ae,kW⟩
  · exact⟨aq,jo⟩
  · rcases fo with⟨aE,_⟩|⟨q,aE,_,_,bC,cX⟩
    · rw[aE] at e;cases e
    · rw[aE] at e;cases e;exact⟨bC,cX⟩
 ne:=a3
theorem M1{all:List bP}{α:Type}{l:List (bJ×α)}(h:l.length<=100000):(l.map (·.1)).length<=200000:=by simp;omega
theorem ahG(m:Nat){T:Nat->bw cG}(ah:Src all)(de:pL all T d lo)(hm:lo<=m+5){p at':Nat}(a3:p<B)(ak:c<B)(J:B<=bL)(ae:B<=b1)(aq:B<=cE)(dk:bL≠b1/\bL≠cE/\b1≠cE):
  zp p c all d B (Eb p bL b1 cE at' B) (λF g x w=>ef F g x.2 w) (nY all T) (λy=>Z (m+6) (.fn 118) [.ptr b1 0,.ptr cE 0] y):=by
 intro l a y O aA eU w aL
 obtain⟨bV,fS,iD,iE,⟨h1,kW,jo⟩,fo,eX⟩:=aL
 obtain⟨ej,aG⟩:∃g,g=y.room 12:=⟨_,rfl⟩
 have bn:ej.n=y.n+12:=by rw[aG];rfl
 have bb:Ext y.n y ej:=by rw[aG];exact Ext.room _ _ _
 have b_:=w.ext bb (Nat.le_refl _)
 have c8:=(bb.get bL h1).trans fS
 have c9:=(bb.get b1 kW).trans iD
 have gf:=(bb.get cE jo).trans iE
 have xo:bV.sound=true:=fo.cell.2
 have dB:=sL (m+1) ah b_
 show vi _ _ _ _ _ _ _ _ _ _ _ (Z (m+6) _ _ y)
 cases aT:ij all a with
 |error f=>
  rw[aT] at dB
  obtain⟨e,g,a6,aO,aZ⟩:=cB.rQ (B:=B) (h:=y) (show cB p c all d ej f _ from dB) (by omega) ((bb.le eU).eb p)
  have ck:nY all T a=.error f:=by unfold nY;rw[aT]
  rw[ck]
  exact UL (m+5) b1 cE y (R:=iV p c all d B y f) (by rw[<-aG];exact⟨bL,aN c9 rfl,bL,aN c9 rfl,bV,aN c8 rfl,p,aN gf rfl,.inr ⟨_,g,aO,xo,⟨e,g,a6,rfl,aZ⟩⟩⟩)
 |ok ch=>
  obtain⟨s,b⟩:=ch
  rw[aT] at dB
  obtain⟨v,al,a9,rfl,b9,cw⟩:=dB
  have b6:=cw.n
  obtain⟨aw,aE⟩:∃g,g=al.set (y.n+7) (some (aD [.str s] 9)):=⟨_,rfl⟩
  have gg:aw.n=al.n:=by rw[aE];rfl
  have eh:∀k,k<y.n->k≠p->aw.get k=y.get k:=λk ai da=>by
   rw[aE];exact(cr (by omega) rfl).trans ((cw.get k (by omega) da).trans (bb.get k ai))
  have u0:=w.cM
  have xQ:=w.gq
  have Ec:fD kV 1 9 (λk=>B<=k) aw bV (l.map (·.1)):=fo.cx ⟨by omega,λk ai cO=>eh k cO (by omega)⟩
  obtain⟨a1,ap,dc,dd,g4⟩:=M0 (s:=s) (b:=y.n+7) Ec (by rw[aE];exact dz rfl) (M1 (all:=all) aA)
  have n6:∀k,k<y.n->¬O k->∀n cp,bV≠ .slice k 0 n cp:=λk ai cJ n cp e=>cJ ((eX k).2 (.inr (.inr (.inr ⟨n,cp,e⟩))))
  have zy:∀k,(k=bL\/k=b1\/k=cE)->k≠p->k<y.n->(∀n cp,bV≠ .slice k 0 n cp):=λk ai da cO n cp e=>by
   rcases ai with rfl|rfl|rfl
   · exact fo.out.ne fS (.inl (by simp)) n cp e
   · exact fo.out.ne iD (.inl (by simp)) n cp e
   · exact fo.out.ne iE (.inl (by simp)) n cp e
  have bC:∀k,k<y.n->k≠p->(∀n cp,bV≠ .slice k 0 n cp)->a1.get k=y.get k:=λk ai da aW=>(g4 k (by omega) aW).trans (eh k ai da)
  have eH:cL p c all b d a1:=by
   have M3:∀n cp,bV≠ .slice p 0 n cp:=λn cp e=>by
    rcases fo with⟨aE,_⟩|⟨q,aE,_,_,bC,_⟩
    · rw[aE] at e;cases e
    · rw[aE] at e;cases e;omega
   have m0:∀n cp,bV≠ .slice c 0 n cp:=λn cp e=>by
    rcases fo with⟨aE,_⟩|⟨q,aE,_,_,bC,_⟩
    · rw[aE] at e;cases e
    · rw[aE] at e;cases e;omega
   have aV:aw.get p=al.get p:=by rw[aE];exact cr (by omega) rfl
   have aU:aw.get c=al.get c:=by rw[aE];exact cr (by omega) rfl
   exact⟨(g4 p (by omega) M3).trans (aV.trans b9.par),(g4 c (by omega) m0).trans (aU.trans b9.row),by omega,by omega,b9.lt⟩
  have iN:bL≠p/\b1≠p/\cE≠p:=⟨by omega,by omega,by omega⟩
  have d1:=(bC bL h1 iN.1 (zy bL (.inl rfl) iN.1 h1)).trans fS
  have d2:=(bC b1 kW iN.2.1 (zy b1 (.inr (.inl rfl)) iN.2.1 kW)).trans iD
  have d3:=(bC cE jo iN.2.2 (zy cE (.inr (.inr rfl)) iN.2.2 jo)).trans iE
  have Ed:=(eh bL h1 iN.1).trans fS
  have Ee:=(eh b1 kW iN.2.1).trans iD
  obtain⟨lz,iy⟩:∃v,v=aa.slice aw.n 0 (l.map (·.1)++[s]).length (.aX 1):=⟨_,rfl⟩
  obtain⟨a5,dw⟩:∃g,g=a1.set bL (some (hf 7 at' [] [] lz .ao .au)):=⟨_,rfl⟩
  have ct:a5.n=a1.n:=by rw[dw];rfl
  have gW:∀k,k≠bL->a5.get k=a1.get k:=λk ai=>by rw[dw];exact cr ai rfl
  have f1:a5.get bL=some (hf 7 at' [] [] lz .ao .au):=by rw[dw];exact dz rfl
  have f2:=(gW b1 (Ne.symm dk.1)).trans d2
  have f3:=(gW cE (Ne.symm dk.2.1)).trans d3
  have f4:a5.get aw.n=some (.cells (eK kV (l.map (·.1)++[s])) 9 .aX 0 0):=(gW aw.n (by omega)).trans dd
  have jD:cL p c all b d a5:=⟨(gW p (by omega)).trans eH.par,(gW c (by omega)).trans eH.row,by rw[ct];exact eH.cM,by rw[ct];exact eH.gq,eH.lt⟩
  have cX:∀k,k<y.n->k≠p->¬O k->a5.get k=y.get k:=λk ai da cJ=>(gW k λe=>cJ ((eX k).2 (.inl e))).trans (bC k ai da (n6 k ai cJ))
  have Ef:∀k,O k->B<=k:=λk cJ=>by
   rcases(eX k).1 cJ with rfl|rfl|rfl|⟨n,cp,e⟩
   · exact J
   · exact ae
   · exact aq
   · rcases fo with⟨aE,_⟩|⟨q,aE,_,_,bC,_⟩
     · rw[aE] at e;cases e
     · rw[aE] at e;cases e;exact bC
  have gO:bU p B y a5:=⟨by omega,λk ai da=>cX k (by omega) da λcJ=>by have:=Ef k cJ;omega⟩
  have dY:=mi m ah jD [58]
  have go:∀{R:a8->Prop},((∃bc,Z (m+5) (.fn 40) [.ptr p 0,.str [58]] a5=.ret (.aF []) bc/\∃cP,aC bc cE 0=some (.ptr cP 0)/\((∃fu cj,Z (m+5) (.fn 42) [.ptr cP 0] bc=.ret (.ptr fu 0) cj/\R (.ret (.ptr fu 0) cj))\/∃dP cj,Z (m+5) (.fn 42) [.ptr cP 0] bc=.aK dP cj/\R (.aK dP cj)))\/∃v4 cK,Z (m+5) (.fn 40) [.ptr p 0,.str [58]] a5=.aK v4 cK/\R (.aK v4 cK))->R (Z (m+6) (.fn 118) [.ptr b1 0,.ptr cE 0] y):=λ{R} H=>
   UL (m+5) b1 cE y (R:=R) (by
    rw[<-aG]
    refine⟨bL,aN c9 rfl,bL,aN c9 rfl,bV,aN c8 rfl,p,aN gf rfl,.inl ⟨s,al,a9,lz,a1,?_,by rw[iy];rfl,a5,by rw[dw];exact cy d1 rfl (by rw[iy];rfl),aN d2 rfl,?_,?_,xo,?_,p,aN f3 rfl,H⟩⟩
    · rw[iy,<-ap,aE]
    · rw[<-aE];exact aN Ee rfl
    · rw[<-aE];exact aN Ee rfl
    · rw[<-aE];exact aN Ed rfl)
  cases eB:e_ all [58] b with
  |error f=>
   rw[eB] at dY
   obtain⟨e,g,a6,aV,aU⟩:=cB.rQ (show cB p c all d a5 f _ from dY) (by omega) gO
   have ck:nY all T a=.error f:=by unfold nY;rw[aT];simp only[eB]
   rw[ck]
   exact go (R:=iV p c all d B y f) (.inr ⟨_,g,aV,⟨e,g,a6,rfl,aU⟩⟩)
  |ok b2=>
   rw[eB] at dY
   obtain⟨bc,hB,kx,fX⟩:=dY
   have cP:=fX.n
   have ty:=de (m+5) hm kx
   have M4:bU p B y bc:=gO.trans (by omega) fX
   have Eg:=(fX.get cE (by omega) iN.2.2).trans f3
   cases aI:T b2 with
   |error f=>
    rw[aI] at ty
    obtain⟨e,g,a6,aV,aU⟩:=cB.rQ (show cB p c all d bc f _ from ty) (by omega) M4
    have ck:nY all T a=.error f:=by unfold nY;rw[aT];simp only[eB,aI]
    rw[ck]
    exact go (R:=iV p c all d B y f) (.inl ⟨bc,hB,p,aN Eg rfl,.inr ⟨_,g,aV,⟨e,g,a6,rfl,aU⟩⟩⟩)
   |ok eW=>
    obtain⟨t,dd⟩:=eW
    rw[aI] at ty
    obtain⟨u,cj,kA,v6,ih,jJ⟩:=ty
    obtain⟨r,rfl⟩:=ef.ptr v6
    have fu:=jJ.n
    have ck:nY all T a=.ok ((s,t),dd):=by unfold nY;rw[aT];simp only[eB,aI]
    rw[ck]
    have fg:∀k,k<a5.n->k≠p->cj.get k=a5.get k:=λk ai da=>(jJ.get k (by omega) da).trans (fX.get k ai da)
    have xp:∀k,(∃n cp,lz=.slice k 0 n cp)->k=aw.n:=λk ⟨n,cp,e⟩=>by rw[iy] at e;injection e with e;exact e.symm
    refine go (R:=vi p c all d B (Eb p bL b1 cE at' B) (λF g x w=>ef F g x.2 w) l y O (.ok ((s,t),dd))) (.inl ⟨bc,hB,p,aN Eg rfl,.inl ⟨r,cj,kA,?_⟩⟩)
    refine⟨_,cj,λk=>k=bL\/k=b1\/k=cE\/∃n cp,lz=.slice k 0 n cp,rfl,rfl,ih,⟨lz,(fg bL (by omega) iN.1).trans f1,(fg b1 (by omega) iN.2.1).trans f2,(fg cE (by omega) iN.2.2).trans f3,⟨by omega,by omega,by omega⟩,?_,λk=>Iff.rfl⟩,?_,⟨by omega,λk ai da cJ=>(fg k (by omega) da).trans (cX k ai da cJ)⟩,λk ai=>?_⟩
    · rw[iy,List.map_append]
      exact .inr ⟨aw.n,rfl,by simp,(fg aw.n (by omega) (by omega)).trans f4,by omega,by omega⟩
    · refine ef.cx ⟨Nat.le_refl _,λ_ _ _=>rfl⟩ (λk ai cO=>⟨by omega,ai.2,λar=>?_⟩) t _ v6
      rcases ar with rfl|rfl|rfl|ar
      · omega
      · omega
      · omega
      · have:=xp k ar;omega
    · rcases ai with rfl|rfl|rfl|ar
      · exact .inl ((eX _).2 (.inl rfl))
      · exact .inl ((eX _).2 (.inr (.inl rfl)))
      · exact .inl ((eX _).2 (.inr (.inr (.inl rfl))))
      · have:=xp k ar;exact .inr ⟨by omega,by omega⟩
structure ml(p c:Nat)(all:List bP)(d:Nat)(h:I)(lA:TypeId)(bL b1 cE a:Nat)(o:b5)(y:I):Prop where
 w:cL p c all a d y
 cn:y.get bL=some o
 gt:y.get b1=some (aD [.ptr bL 0] lA)
 dO:y.get cE=some (aD [.ptr p 0] 72)
 up:bL<y.n/\b1<y.n/\cE<y.n
 lo:h.n<=bL/\h.n<=b1/\h.n<=cE
 ne:bL≠b1/\bL≠cE/\b1≠cE
 x:bU p h.n h y
 sV:p<h.n/\c<h.n
theorem ml.step{p a6:Nat}{g:I}(s:ml p c all d h lA bL b1 cE a o y)(x:bU p y.n y g)(w:cL p c all a6 d g):ml p c all d h lA bL b1 cE a6 o g:=by
 obtain⟨fF,g9,lQ⟩:=s.up
 obtain⟨fw,gw,tt⟩:=s.lo
 have:=s.sV.1
 have za:=x.n
 exact⟨w,(x.get _ fF (by omega)).trans s.cn,(x.get _ g9 (by omega)).trans s.gt,(x.get _ lQ (by omega)).trans s.dO,⟨by omega,by omega,by omega⟩,s.lo,s.ne,s.x.trans s.x.n x,s.sV⟩
theorem ml.put{p:Nat}(s:ml p c all d h lA bL b1 cE a o y)(o':b5):ml p c all d h lA bL b1 cE a o' (y.set bL (some o')):=by
 obtain⟨fF,g9,lQ⟩:=s.up
 obtain⟨fw,gw,tt⟩:=s.lo
 obtain⟨bn,b6,dc⟩:=s.ne
 obtain⟨dt,dv⟩:=s.sV
 exact⟨⟨cr (by omega) s.w.par,cr (by omega) s.w.row,s.w.cM,s.w.gq,s.w.lt⟩,dz rfl,cr (Ne.symm bn) s.gt,cr (Ne.symm b6) s.dO,s.up,s.lo,s.ne,s.x.ix fw,s.sV⟩
theorem ml.room{p:Nat}(s:ml p c all d h lA bL b1 cE a o y)(k:Nat):ml p c all d h lA bL b1 cE a o (y.room k):=s.step ((Ext.room y.n y k).eb p) (s.w.ext (Ext.room y.n y k) (Nat.le_refl _))
theorem ml.may{p:Nat}(m:Nat)(ah:Src all)(s:ml p c all d h lA bL b1 cE a o y)(l:List bJ)(aA:l.length<=100):
  ∃g,Z (m+4) (.fn 38) [.ptr p 0,.slice y.n 0 l.length (.exact l.length)] (y.push (aD (l.map .str) 9))=.ret (.bool (dV all l a)) g/\ml p c all d h lA bL b1 cE (if dV all l a then a+1 else a) o g:=by
 obtain⟨g,a9,b_,bb⟩:=vn m ah s.w l aA
 exact⟨g,a9,s.step bb b_⟩
theorem ml.bad{p:Nat}{f:Nat×Nat}{x:a8}(s:ml p c all d h lA bL b1 cE a o y)(ag:cB p c all d y f x):∃v g,x=.aK v g/\cB p c all d h f (.aK v g):=by
 obtain⟨e,g,a6,aO,aZ⟩:=ag.back s.x
 exact⟨_,g,aO,e,g,a6,rfl,aZ⟩
theorem iV.Eh{p:Nat}{f:Nat×Nat}{x:a8}(ag:iV p c all d h.n y f x)(e:bU p h.n h y):cB p c all d h f x:=by
 obtain⟨b,g,a6,aO,aZ,bC,cX,gi,fg⟩:=ag
 exact⟨b,g,a6,aO,aZ,bC,cX,gi,e.trans (Nat.le_refl _) fg⟩
def HO(p bL b1 cE:Nat)(lA:TypeId)(o:b5){α:Type}(l:List α)(y:I)(O:c6):Prop:=
 y.get bL=some o/\y.get b1=some (aD [.ptr bL 0] lA)/\y.get cE=some (aD [.ptr p 0] 72)/\(bL<y.n/\b1<y.n/\cE<y.n)/\∀k,O k<->(k=bL\/k=b1\/k=cE)
theorem HO.ok{α:Type}{p:Nat}{lA:TypeId}{o:b5}(a3:p<B)(J:B<=bL)(ae:B<=b1)(aq:B<=cE):vj (α:=α) p B (HO p bL b1 cE lA o) where
 cx:=λl y g O aL aT ai=>by
  obtain⟨fS,iD,iE,⟨h1,kW,jo⟩,eX⟩:=aL
  exact⟨(ai bL h1 ((eX _).2 (.inl rfl))).trans fS,(ai b1 kW ((eX _).2 (.inr (.inl rfl)))).trans iD,(ai cE jo ((eX _).2 (.inr (.inr rfl)))).trans iE,⟨by omega,by omega,by omega⟩,eX⟩
 up:=λl y O aL k cJ=>by
  obtain⟨fS,iD,iE,⟨h1,kW,jo⟩,eX⟩:=aL
  rcases(eX k).1 cJ with rfl|rfl|rfl
  · exact⟨J,h1⟩
  · exact⟨ae,kW⟩
  · exact⟨aq,jo⟩
 ne:=a3
theorem ahH{T:Nat->bw cG}{n:Nat}(de:pL all T d lo)(aT:lo<=n){p:Nat}{g5:List cG->I->c6->Prop}(jL:vj p B g5)(aB:∀l x y O,g5 l y O->g5 (l++[x]) y O):zp p c all d B g5 ef T (λy=>Z n (.fn 42) [.ptr p 0] y):=by
 intro l a y O aA eU w aL
 have ty:=de n aT w
 have u:=jL.up _ _ _ aL
 have a3:=jL.ne
 show vi _ _ _ _ _ _ _ _ _ _ _ (Z n _ _ y)
 cases aI:T a with
 |error f=>
  rw[aI] at ty
  exact cB.rQ (show cB p c all d y f _ from ty) eU (bU.refl _ _ _)
 |ok eW=>
  obtain⟨t,b⟩:=eW
  rw[aI] at ty
  obtain⟨v,g,a9,v1,b_,bb⟩:=ty
  have bn:=bb.n
  obtain⟨q,rfl⟩:=ef.ptr v1
  exact⟨_,g,O,a9,rfl,b_,aB _ _ _ _ (jL.cx l y g O aL bn λk ai cJ=>bb.get k ai (by have:=(u k cJ).1;omega)),ef.cx ⟨Nat.le_refl _,λ_ _ _=>rfl⟩ (λk ai cO=>⟨ai.1,ai.2,λcJ=>by have:=(u k cJ).2;omega⟩) t _ v1,⟨bn,λk ai da _=>bb.get k ai da⟩,λk ai=>.inl ai⟩
theorem UP(m:Nat){T:Nat->bw cG}(ah:Src all)(de:pL all T d lo)(ns:ev T)(hm:lo<=m+5){p:Nat}(w:cL p c all a d h):Fin p c all d h (qT h.n) (jV all T a) (Z (m+8) (.fn 86) [.ptr p 0] h):=by
 have a3:=w.cM
 have ak:=w.gq
 obtain⟨bY,g6⟩:∃t,t=bR all a:=⟨_,rfl⟩
 obtain⟨h0,c_⟩:∃g,g=h.push (aD [.ptr p 0] 72):=⟨_,rfl⟩
 have k8:h0.n=h.n+1:=by rw[c_];rfl
 have dH:Ext h.n h h0:=by rw[c_];exact Ext.push (Nat.le_refl _) _
 have bE:h0.get h.n=some (aD [.ptr p 0] 72):=by rw[c_];exact dx rfl
 have w0:=w.ext dH (Nat.le_refl _)
 obtain⟨al,a9,bb⟩:=oR (m+6) w0
 rw[<-g6] at a9
 have bn:=bb.n
 obtain⟨aw,aE⟩:∃g,g=((al.push (hf 0 bY.at' [] [] .ao .ao .au)).push (aD [.au] 47)).set (al.n+1) (some (aD [.ptr al.n 0] 47)):=⟨_,rfl⟩
 have b6:aw.n=al.n+2:=by rw[aE];rfl
 have oS:Ext al.n al aw:=by rw[aE];exact Ext.ix (by omega) (Ext.k4 (by simp) (Ext.push (Nat.le_refl _) _))
 have fC:aJ.storeCells ((al.push (hf 0 bY.at' [] [] .ao .ao .au)).push (aD [.au] 47)) (al.n+1) 0 [.ptr al.n 0]=some aw:=by rw[aE];exact cy (dx rfl) rfl rfl
 have fJ:Ext h0.n h0 aw:=bb.trans bn oS
 have ahI:Ext h.n h aw:=dH.trans dH.n fJ
 have vp:ml p c all d h 47 al.n (al.n+1) h.n a (hf 0 bY.at' [] [] .ao .ao .au) aw:=⟨w0.ext fJ (Nat.le_refl _),by rw[aE];exact cr (by omega) (gN (by simp) (dx rfl)),by rw[aE];exact dz rfl,(fJ.get h.n (by omega)).trans bE,⟨by omega,by omega,by omega⟩,⟨by omega,by omega,by omega⟩,⟨by omega,by omega,by omega⟩,ahI.eb p,⟨a3,ak⟩⟩
 obtain⟨a1,gF,fN⟩:=oR (m+6) vp.w
 rw[<-g6] at gF
 have jY:=vp.step (fN.eb p) (vp.w.ext fN (Nat.le_refl _))
 obtain⟨a5,hy,hP⟩:=jY.may (m+3) ah [DO,DP,DQ,mN,DR] (by simp)
 obtain⟨r,aj⟩:∃r,r=jV all T a:=⟨_,rfl⟩
 rw[<-aj]
 refine ahx (m+7) p h (R:=Fin p c all d h (qT h.n) r) ?_
 rw[show(h.push (aD [.ptr p 0] 72))=h0 from c_.symm]
 refine⟨p,aN bE rfl,_,_,_,_,al,a9,aw,fC,p,aN vp.dO rfl,_,_,_,_,a1,gF,p,aN jY.dO rfl,_,a5,hy,λag=>?_,λag=>?_⟩
 ·
  rw[if_pos ag] at hP
  have hw:bY.t∈[DO,DP,DQ,mN,DR]:=by
   rw[g6]
   unfold dV at ag
   simp only[Bool.and_eq_true] at ag
   simpa using ag.2
  have eY:=hP.room 6
  obtain⟨bc,hB,fX⟩:=ahE (m+6) bY.t (a5.room 6) hw
  have dQ:=eY.step (fX.eb p) (eY.w.ext fX (Nat.le_refl _))
  have er:=dQ.put (hf (Hs bY.t) bY.at' [] [] .ao .ao .au)
  refine⟨al.n,aN eY.gt rfl,_,bc,hB,_,cy dQ.cn rfl rfl,aN dQ.gt rfl,al.n,aN er.gt rfl,?_⟩
  have ck:jV all T a=.ok (.mk (Hs bY.t) bY.at' [] [] [] [] none,a+1):=by unfold jV;rw[if_pos ag,g6]
  rw[aj,ck]
  exact⟨_,_,rfl,⟨al.n,.ao,.ao,.au,[],rfl,⟨er.lo.1,er.up.1⟩,er.up.1,er.cn,.inl ⟨rfl,rfl⟩,.inl ⟨rfl,rfl⟩,rfl,rfl⟩,er.w,er.x⟩
 · rw[if_neg (by simp[ag])] at hP
   obtain⟨bc,hB,eY⟩:=hP.may (m+3) ah [[40]] (by simp)
   refine⟨p,aN hP.dO rfl,_,bc,hB,λen=>?_,λen=>?_⟩
   ·
    rw[if_pos en] at eY
    have ty:=de (m+7) (by omega) eY.w
    refine⟨p,aN eY.dO rfl,?_⟩
    cases aI:T (a+1) with
    |error f=>
     rw[aI] at ty
     have ck:r=.error f:=by rw[aj];unfold jV;rw[if_neg (by simp[ag]),if_pos en];simp only[aI]
     obtain⟨v,g,aO,aZ⟩:=eY.bad (show cB p c all d bc f _ from ty)
     rw[ck]
     exact .inr ⟨v,g,aO,aZ⟩
    |ok eW=>
     obtain⟨t,b⟩:=eW
     rw[aI] at ty
     obtain⟨u,cj,kA,v6,ih,jJ⟩:=ty
     obtain⟨q,rfl⟩:=ef.ptr v6
     have dQ:=eY.step jJ ih
     obtain⟨cK,o8⟩:∃g,g=cj.set (al.n+1) (some (aD [.ptr q 0] 47)):=⟨_,rfl⟩
     have gR:cK.n=cj.n:=by rw[o8];rfl
     have fu:=jJ.n
     have UQ:=eY.up
     have HP:∀k,k≠al.n+1->cK.get k=cj.get k:=λk ai=>by rw[o8];exact cr ai rfl
     have jq:cL p c all b d cK:=⟨(HP p (by omega)).trans ih.par,(HP c (by omega)).trans ih.row,by rw[gR];exact ih.cM,by rw[gR];exact ih.gq,ih.lt⟩
     have lB:bU p h.n h cK:=by rw[o8];exact dQ.x.ix (by omega)
     have ahJ:cK.get h.n=some (aD [.ptr p 0] 72):=(HP h.n (by omega)).trans dQ.dO
     have ahK:cK.get (al.n+1)=some (aD [.ptr q 0] 47):=by rw[o8];exact dz rfl
     have il:ef (λk=>h.n<=k/\k<cK.n/\bc.n<=k) cK t (.ptr q 0):=ef.cx ⟨by omega,λk ai cO=>HP k (by omega)⟩ (λk ai cO=>⟨by omega,by omega,ai.1⟩) t _ v6
     have dY:=mi (m+2) ah jq [41]
     refine .inl ⟨q,cj,kA,cK,by rw[o8];exact cy dQ.gt rfl rfl,p,aN ahJ rfl,?_⟩
     cases eB:e_ all [41] b with
     |error f=>
      rw[eB] at dY
      have ck:r=.error f:=by rw[aj];unfold jV;rw[if_neg (by simp[ag]),if_pos en];simp only[aI,eB]
      obtain⟨e,g,a6,aO,aZ⟩:=cB.back (show cB p c all d cK f _ from dY) lB
      rw[ck]
      exact .inr ⟨_,g,aO,e,g,a6,rfl,aZ⟩
     |ok b2=>
      rw[eB] at dY
      obtain⟨ee,qU,qV,mR⟩:=dY
      have fZ:=mR.n
      have ck:r=.ok (t,b2):=by rw[aj];unfold jV;rw[if_neg (by simp[ag]),if_pos en];simp only[aI,eB]
      refine .inl ⟨ee,qU,q,aN ((mR.get (al.n+1) (by omega) (by omega)).trans ahK) rfl,?_⟩
      rw[ck]
      exact⟨_,ee,rfl,ef.cx ⟨fZ,λk ai cO=>mR.get k cO (by omega)⟩ (λk ai cO=>⟨ai.1,by omega⟩) t _ il,qV,lB.trans lB.n mR⟩
   · rw[if_neg (by simp[en])] at eY
     obtain⟨cj,kA,dQ⟩:=eY.may (m+3) ah [[123]] (by simp)
     refine⟨p,aN eY.dO rfl,_,cj,kA,λhJ=>?_,λhJ=>?_⟩
     ·
      rw[if_pos hJ] at dQ
      have er:=dQ.put (hf 7 bY.at' [] [] .ao .ao .au)
      have dZ:=er.room 7
      obtain⟨fw,gw,tt⟩:=dZ.lo
      have L:=ML (m+1) ah dZ.w [125] (B:=h.n) dZ.x.n (fv:=.fn 118 [] [.ptr (al.n+1) 0,.ptr h.n 0]) (xs:=[.ptr (al.n+1) 0,.ptr h.n 0]) (.inl rfl) (S7 ns) (Eb.ok a3 fw gw tt) (λF G h g x w ab e m=>ef.cx e m x.2 w ab) (ahG m ah de hm a3 ak fw gw tt dZ.ne) (O0:=λk=>k=al.n\/k=al.n+1\/k=h.n\/∃n cp,aa.ao=.slice k 0 n cp) ⟨.ao,dZ.cn,dZ.gt,dZ.dO,dZ.up,.inl ⟨rfl,rfl⟩,λk=>Iff.rfl⟩
      refine⟨al.n,aN dQ.gt rfl,_,cy dQ.cn rfl rfl,al.n,aN dZ.gt rfl,p,aN dZ.dO rfl,?_⟩
      cases aA:j_ all [125] (nY all T) (a+1) with
      |error f=>
       rw[aA] at L
       have ck:r=.error f:=by rw[aj];unfold jV;rw[if_neg (by simp[ag]),if_neg (by simp[en]),if_pos hJ];simp only[aA]
       obtain⟨e,g,a6,aO,aZ⟩:=iV.Eh (show iV p c all d h.n _ f _ from L) dZ.x
       rw[ck]
       exact .inr ⟨_,g,aO,e,g,a6,rfl,aZ⟩
      |ok km=>
       obtain⟨l,b⟩:=km
       rw[aA] at L
       obtain⟨v,cK,gj,mm,jq,⟨bV,fS,iD,iE,⟨h1,kW,jo⟩,fo,eX⟩,⟨ws,hz,el⟩,gA,bg⟩:=L
       have gR:=gA.n
       have ck:r=.ok (.mk 7 bY.at' [] [] (l.map (·.1)) (l.map (·.2)) none,b):=by rw[aj];unfold jV;rw[if_neg (by simp[ag]),if_neg (by simp[en]),if_pos hJ];simp only[aA,g6]
       have lB:bU p h.n h cK:=dZ.x.trans (Nat.le_refl _) ⟨gR,λk ai da=>gA.get k (by have:=dZ.x.n;omega) da λcJ=>by
        rcases cJ with rfl|rfl|rfl|⟨_,_,e⟩
        · omega
        · omega
        · omega
        · cases e⟩
       obtain⟨ee,kF⟩:∃g,g=cK.set al.n (some (hf 7 bY.at' [] [] bV v .au)):=⟨_,rfl⟩
       have fZ:ee.n=cK.n:=by rw[kF];rfl
       have ny:∀k,k≠al.n->ee.get k=cK.get k:=λk ai=>by rw[kF];exact cr ai rfl
       have M5:gj al.n:=(eX _).2 (.inl rfl)
       refine .inl ⟨v,cK,mm,hz.cell.1,ee,by rw[kF];exact cy fS rfl (by simp only[gK,hz.cell.1]),aN iD rfl,al.n,aN ((ny (al.n+1) (by omega)).trans iD) rfl,?_⟩
       rw[ck]
       have j2:jK (λk=>(cj.set al.n (some (hf 7 bY.at' [] [] .ao .ao .au))|>.room 7).n<=k/\k<cK.n/\¬gj k) cK ee:=⟨by omega,λk ai cO=>ny k λe=>ai.2.2 (by rw[e];exact M5)⟩
       have sP:∀k,((cj.set al.n (some (hf 7 bY.at' [] [] .ao .ao .au))|>.room 7).n<=k/\k<cK.n/\¬gj k)->k<cK.n->h.n<=k/\k<ee.n:=λk ai _=>⟨by have:=dZ.x.n;omega,by omega⟩
       refine⟨_,ee,rfl,⟨al.n,bV,v,.au,ws,rfl,⟨fw,by omega⟩,by omega,by rw[kF];exact dz rfl,?_,hz.to j2 sP,np.els (fx.map (W:=ef) (·.2) (el.imp λt v ab=>ef.cx j2 sP t.2 v ab)),rfl⟩,⟨(ny p (by omega)).trans jq.par,(ny c (by omega)).trans jq.row,by rw[fZ];exact jq.cM,by rw[fZ];exact jq.gq,jq.lt⟩,by rw[kF];exact lB.ix fw⟩
       have ne:=fo.out.ne fS (.inl (by simp))
       rcases fo with⟨aV,aU⟩|⟨q,aV,aU,bu,e7,gL⟩
       · exact .inl ⟨aV,aU⟩
       · exact .inr ⟨q,aV,aU,(ny q λe=>ne _ _ (by rw[aV,e])).trans bu,⟨e7,by omega⟩,by omega⟩
     · rw[if_neg (by simp[hJ])] at dQ
       obtain⟨cK,mm,er⟩:=dQ.may (m+3) ah [Hr] (by simp)
       refine⟨p,aN dQ.dO rfl,_,cK,mm,λj5=>?_,λj5=>?_⟩
       ·
        rw[if_pos j5] at er
        have dZ:=er.put (hf 8 bY.at' [] [] .ao .ao .au)
        obtain⟨fw,gw,tt⟩:=dZ.lo
        have HQ:=mi (m+2) ah dZ.w [40]
        refine⟨al.n,aN er.gt rfl,_,cy er.cn rfl rfl,p,aN dZ.dO rfl,?_⟩
        cases eB:e_ all [40] (a+1) with
        |error f=>
         rw[eB] at HQ
         obtain⟨v,g,aO,aZ⟩:=dZ.bad (show cB p c all d _ f _ from HQ)
         rw[show r=.error f by rw[aj];unfold jV;rw[if_neg (by simp[ag]),if_neg (by simp[en]),if_neg (by simp[hJ]),if_pos j5];simp only[eB]]
         exact .inr ⟨v,g,aO,aZ⟩
        |ok bd=>
         rw[eB] at HQ
         obtain⟨ez,kT,zz,rV⟩:=HQ
         have fy:=dZ.step rV zz
         have ek:=fy.room 8
         have UR:vj (α:=cG) p h.n (HO p al.n (al.n+1) h.n 47 (hf 8 bY.at' [] [] .ao .ao .au)):=HO.ok a3 fw gw tt
         have L:=ML (m+1) ah ek.w [41] (B:=h.n) ek.x.n (fv:=.fn 42 [.ptr p 0] []) (xs:=[.ptr p 0]) (.inr ⟨p,rfl,rfl⟩) ns UR ly (ahH de (by omega) UR λ_ _ _ _ aL=>aL) (O0:=λk=>k=al.n\/k=al.n+1\/k=h.n) ⟨ek.cn,ek.gt,ek.dO,ek.up,λk=>Iff.rfl⟩
         refine .inl ⟨ez,kT,al.n,aN ek.gt rfl,p,aN ek.dO rfl,p,aN ek.dO rfl,?_⟩
         cases aA:j_ all [41] T bd with
         |error f=>
          rw[aA] at L
          obtain⟨e,g,a6,aO,aZ⟩:=iV.Eh (show iV p c all d h.n _ f _ from L) ek.x
          rw[show r=.error f by rw[aj];unfold jV;rw[if_neg (by simp[ag]),if_neg (by simp[en]),if_neg (by simp[hJ]),if_pos j5];simp only[eB,aA]]
          exact .inr ⟨_,g,aO,e,g,a6,rfl,aZ⟩
         |ok km=>
          obtain⟨l,b2⟩:=km
          rw[aA] at L
          obtain⟨v,fe,gj,sW,sX,⟨fS,iD,iE,h1,eX⟩,⟨ws,hz,el⟩,gA,bg⟩:=L
          have n7:=gA.n
          have mS:bU p h.n h fe:=ek.x.trans (Nat.le_refl _) ⟨n7,λk ai da=>gA.get k (by have:=ek.x.n;omega) da λcJ=>by rcases cJ with rfl|rfl|rfl<;>omega⟩
          have h2:ml p c all d h 47 al.n (al.n+1) h.n b2 (hf 8 bY.at' [] [] .ao .ao .au) fe:=⟨sX,fS,iD,iE,h1,ek.lo,ek.ne,mS,ek.sV⟩
          have fK:=h2.put (hf 8 bY.at' [] [] .ao v .au)
          have US:jK (λk=>(ez.room 8).n<=k/\k<fe.n/\¬gj k) fe (fe.set al.n (some (hf 8 bY.at' [] [] .ao v .au))):=⟨Nat.le_refl _,λk ai cO=>cr (λe=>ai.2.2 ((eX k).2 (.inl e))) rfl⟩
          have ld:∀k,((ez.room 8).n<=k/\k<fe.n/\¬gj k)->k<fe.n->(h.n<=k/\k<fe.n/\k≠al.n):=λk ai _=>⟨by have:=ek.x.n;omega,ai.2.1,λe=>ai.2.2 ((eX k).2 (.inl e))⟩
          have ahL:=hz.to US ld
          have ahM:=el.to ly US ld
          have mn:=mi (m+2) ah fK.w [45,62]
          refine .inl ⟨v,fe,sW,hz.cell.1,_,cy h2.cn rfl (by simp only[gK,hz.cell.1]),aN h2.gt rfl,p,aN fK.dO rfl,?_⟩
          cases lL:e_ all [45,62] b2 with
          |error f=>
           rw[lL] at mn
           obtain⟨v',g,aO,aZ⟩:=fK.bad (show cB p c all d _ f _ from mn)
           rw[show r=.error f by rw[aj];unfold jV;rw[if_neg (by simp[ag]),if_neg (by simp[en]),if_neg (by simp[hJ]),if_pos j5];simp only[eB,aA,lL]]
           exact .inr ⟨v',g,aO,aZ⟩
          |ok dd=>
           rw[lL] at mn
           obtain⟨gX,zA,zB,nz⟩:=mn
           have n_:=fK.step nz zB
           have lf:=n_.room 6
           have ty:=de (m+7) (by omega) lf.w
           refine .inl ⟨gX,zA,al.n,aN lf.gt rfl,p,aN lf.dO rfl,?_⟩
           cases aI:T dd with
           |error f=>
            rw[aI] at ty
            obtain⟨v',g,aO,aZ⟩:=lf.bad (show cB p c all d _ f _ from ty)
            rw[show r=.error f by rw[aj];unfold jV;rw[if_neg (by simp[ag]),if_neg (by simp[en]),if_neg (by simp[hJ]),if_pos j5];simp only[eB,aA,lL,aI]]
            exact .inr ⟨v',g,aO,aZ⟩
           |ok eW=>
            obtain⟨t,gm⟩:=eW
            rw[aI] at ty
            obtain⟨u,gS,rz,ue,M6,zC⟩:=ty
            obtain⟨q,rfl⟩:=ef.ptr ue
            have nA:=lf.step zC M6
            have Bp:=nA.put (hf 8 bY.at' [] [] .ao v (.ptr q 0))
            have lU:=nz.n
            have tX:=zC.n
            have Bq:(fe.set al.n (some (hf 8 bY.at' [] [] .ao v .au))).n=fe.n:=rfl
            have Br:(gX.room 6).n=gX.n+6:=rfl
            have ami:(gS.set al.n (some (hf 8 bY.at' [] [] .ao v (.ptr q 0)))).n=gS.n:=rfl
            refine .inl ⟨q,gS,rz,_,cy nA.cn rfl rfl,aN nA.gt rfl,al.n,aN Bp.gt rfl,?_⟩
            rw[show r=.ok (.mk 8 bY.at' [] [] [] l (some t),gm) by rw[aj];unfold jV;rw[if_neg (by simp[ag]),if_neg (by simp[en]),if_neg (by simp[hJ]),if_pos j5];simp only[eB,aA,lL,aI,g6]]
            have ahN:∀k,k<fe.n->k≠p->k≠al.n->(gS.set al.n (some (hf 8 bY.at' [] [] .ao v (.ptr q 0)))).get k=(fe.set al.n (some (hf 8 bY.at' [] [] .ao v .au))).get k:=λk ai da cO=>(cr cO rfl).trans ((zC.get k (by omega) da).trans (nz.get k (by omega) da))
            have UT:jK (λk=>h.n<=k/\k<fe.n/\k≠al.n) (fe.set al.n (some (hf 8 bY.at' [] [] .ao v .au))) (gS.set al.n (some (hf 8 bY.at' [] [] .ao v (.ptr q 0)))):=⟨by omega,λk ai cO=>ahN k ai.2.1 (by omega) ai.2.2⟩
            have UU:∀k,(h.n<=k/\k<fe.n/\k≠al.n)->k<(fe.set al.n (some (hf 8 bY.at' [] [] .ao v .au))).n->h.n<=k/\k<(gS.set al.n (some (hf 8 bY.at' [] [] .ao v (.ptr q 0)))).n:=λk ai _=>⟨ai.1,by omega⟩
            have UW:=ek.up
            have ahO:=lf.x.n
            have zD:ef (λk=>h.n<=k/\k<(gS.set al.n (some (hf 8 bY.at' [] [] .ao v (.ptr q 0)))).n) (gS.set al.n (some (hf 8 bY.at' [] [] .ao v (.ptr q 0)))) t (.ptr q 0):=ef.cx (F:=λk=>(gX.room 6).n<=k/\k<gS.n) (h:=gS) (g:=gS.set al.n (some (hf 8 bY.at' [] [] .ao v (.ptr q 0)))) ⟨Nat.le_refl gS.n,λk ai cO=>cr (λe=>by have J:=lf.up.1;have ae:=ai.1;omega) rfl⟩ (λk ai cO=>⟨Nat.le_trans ahO ai.1,ai.2⟩) t _ ue
            refine⟨_,_,rfl,⟨al.n,.ao,v,.ptr q 0,ws,rfl,⟨fw,Bp.up.1⟩,Bp.up.1,Bp.cn,.inl ⟨rfl,rfl⟩,ahL.to UT UU,np.els (ahM.to ly UT UU),zD⟩,Bp.w,Bp.x⟩
       ·
        rw[if_neg (by simp[j5])] at er
        have dB:=Uz (m+2) ah er.w
        have ck:r=rK all a:=by rw[aj];unfold jV;rw[if_neg (by simp[ag]),if_neg (by simp[en]),if_neg (by simp[hJ]),if_neg (by simp[j5])]
        refine⟨p,aN er.dO rfl,?_⟩
        cases aT:rK all a with
        |error f=>
         rw[aT] at dB ck
         obtain⟨v,g,aO,aZ⟩:=er.bad (show cB p c all d cK f _ from dB)
         rw[ck]
         exact .inr ⟨v,g,aO,aZ⟩
        |ok eW=>
         obtain⟨t,b⟩:=eW
         rw[aT] at dB ck
         obtain⟨u,ee,qU,im,qV,mR⟩:=dB
         have im:=ef.UN im
         obtain⟨q,rfl⟩:=ef.ptr im
         rw[ck]
         exact .inl ⟨q,ee,qU,_,ee,rfl,ef.cx ⟨Nat.le_refl _,λ_ _ _=>rfl⟩ (λk ai cO=>⟨by have:=er.x.n;omega,ai.2⟩) t _ im,qV,er.x.trans er.x.n mR⟩
end Go.Proofs.lv
