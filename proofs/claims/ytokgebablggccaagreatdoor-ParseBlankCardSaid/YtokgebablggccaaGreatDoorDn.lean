/- contracts of functions; no condition -/
import Derived.Test.YtokgebablggccaaGreatDoorDm
import Derived.Test.YtokgebablggccaaGreatDoorDf
set_option linter.unusedVariables false
set_option linter.unusedSimpArgs false
set_option maxRecDepth 100000
set_option maxHeartbeats 1000000
namespace Go.Proofs.lv
open Go aJ Go.Proofs lp iI fO
variable {F:c6}{a b:Nat}{all:List bP}{h:I}{s:bJ}{v:aa}
variable {Q:cl->bD->Prop} {R:a8->Prop} (call:e0)
theorem ai0(s:List UInt8)(h:I)(H:Q .nrm (az [(0,.str s),(2,af h.n),(3,.ptr (I.n (I.push h (aD [.ao] 24))) 0)] (I.push (I.push h (aD [.ao] 24)) (aD [.c3] 26)))):
  cg an Tryz.f9 call [0] (az [(0,.str s)] h) Q:=
 dR [] [0,2,3] [] H
theorem ai1(s:List UInt8)(a b c N:Nat)(h:I)(H:∃al,call (.fn 18) [.str s] h=.ret (.aF [.slice c 0 N (.aX 4),.c3]) al/\∃aw,aJ.storeCells al b 0 [.c3]=some aw/\Q .nrm (az [(2,af a),(3,af b),(4,.slice c 0 N (.aX 4))] aw)):
  cg an Tryz.f9 call [1,0] (az [(0,.str s),(2,af a),(3,af b)] h) Q:=
 dR [(8,.ep (.lP [.is (.slice c 0 N (.aX 4)),.is .c3]))] [2,3,4] [] H
theorem ai2(s:List UInt8)(a b e:Nat)(h:I)(H:∃al,call (.fn 18) [.str s] h=.ret (.aF [.ao,.iface 68 (af e)]) al/\∃aw,aJ.storeCells al b 0 [.iface 68 (af e)]=some aw/\Q .nrm (az [(2,af a),(3,af b),(4,.ao)] aw)):
  cg an Tryz.f9 call [1,0] (az [(0,.str s),(2,af a),(3,af b)] h) Q:=
 dR [(8,.ep (.lP [.is .ao,.is (.iface 68 (af e))]))] [2,3,4] [] H
theorem ai3(a b e:Nat)(h:I)(H:aC h b 0=some (.iface 68 (af e))/\aC (h.room 3) b 0=some (.iface 68 (af e))/\∃al,aJ.storeCells (h.room 3) a 0 [.ao]=some al/\∃aw,aJ.storeCells al b 0 [.iface 68 (af e)]=some aw/\aC al b 0=some (.iface 68 (af e))/\Q .ret (az [(2,af a),(3,af b)] aw)):
  cg an Tryz.f9 call [1,1,0] (az [(2,af a),(3,af b)] h) Q:=
 dR [(11,.ep (.is (.iface 68 (af e)))),(13,.ep (.is (.iface 68 (af e))))] [2,3] [] H
theorem ai4(a b c N:Nat)(h:I)(H:aC h b 0=some .c3/\Q .nrm (az [(2,af a),(3,af b),(4,.slice c 0 N (.aX 4))] h)):
  cg an Tryz.f9 call [1,1,0] (az [(2,af a),(3,af b),(4,.slice c 0 N (.aX 4))] h) Q:=
 dR [(11,.ep (.is .c3))] [2,3,4] [] H
theorem ai5(a b c N:Nat)(h:I)(H:Q .nrm (bD.mk [(2,af a),(3,af b),(4,.slice c 0 N (.aX 4))] [cc.call 19 [af a,af b]] .none h)):
  cg an Tryz.f9 call [1,1,1,0] (az [(2,af a),(3,af b),(4,.slice c 0 N (.aX 4))] h) Q:=
 dR [] [2,3,4] [] H
theorem ai6(a b c N:Nat)(d:List cc)(h:I)(H:Q .nrm (bD.mk [(2,af a),(3,af b),(5,af h.n)] d .none (I.push h (aD [.slice c 0 N (.aX 4),ad 0,ad 0] 74)))):
  cg an Tryz.f9 call [1,1,1,1,0] ⟨[(2,af a),(3,af b),(4,.slice c 0 N (.aX 4))],d,.none,h⟩ Q:=
 dR [] [2,3,5] [] H
theorem ai7(a b p:Nat)(d:List cc)(h:I)(H:∃bn s1 b6 dc al,call (.fn 20) [af p] h=.ret (.agg [ad bn,.str s1,ad b6,ad dc]) al/\(bn=0->Q (.exit 0) (bD.mk [(2,af a),(3,af b),(5,af p)] d .none al))/\(¬bn=0->∃v1,aC (al.room 6) a 0=some v1/\((∃ct aw,call (.fn 21) [af p] (al.room 6)=.ret (af ct) aw/\∃cP fu a1,fi an (I.set aw (al.n+3) (some (aD [af ct] 52))) 24 (some 24) v1 (.slice (al.n+3) 0 1 (.exact 1))=some (.slice cP 0 fu (.aX 1),a1)/\∃a5,aJ.storeCells a1 a 0 [.slice cP 0 fu (.aX 1)]=some a5/\kR v1/\aC (I.set aw (al.n+3) (some (aD [af ct] 52))) a 0=some v1/\Q .nrm (bD.mk [(2,af a),(3,af b),(5,af p)] d .none a5))\/(∃v2 bc,call (.fn 21) [af p] (al.room 6)=.aK v2 bc/\kR v1/\Q (.aK v2) (bD.mk [(2,af a),(3,af b),(5,af p)] d .none bc))))):
  cg an Tryz.f9 call [1,1,1,1,1,0,0,0] ⟨[(2,af a),(3,af b),(5,af p)],d,.none,h⟩ Q:=
 dR [(22,.ep .o),(24,.e none .o),(26,.ep (.Kn (.aX 1)))] [2,3,5] [] H
theorem ai8(a b:Nat)(d:List cc)(h:I)(H:∃v1,aC h a 0=some v1/\k5 v1/\∃al,aJ.storeCells h a 0 [v1]=some al/\∃aw,aJ.storeCells al b 0 [.c3]=some aw/\Q .ret (bD.mk [(2,af a),(3,af b)] d .none aw)):
  cg an Tryz.f9 call [1,1,1,1,1,1] ⟨[(2,af a),(3,af b)],d,.none,h⟩ Q:=
 dR [(27,.ep .o)] [2,3] [] H
theorem ai9(a b e:Nat)(h aS:I)(aP aY:Nat)(cV fV:I)
  (H1:aJ.storeCells (I.push h (aD [.au] 70)) (I.n h) 0 [af e]=some aS)
  (a4:aC (I.room aS 5) (I.n h) (0+0)=some (.ptr aP aY))
  (bh:aJ.storeCells (I.room aS 5) a 0 [.ao]=some cV)
  (bx:aJ.storeCells cV b 0 [aa.iface 68 (aa.ptr aP aY)]=some fV)
  (bW:aC cV (I.n h) (0+0)=some (.ptr aP aY)):
  a0 an Tryz.f19 none call [] (bD.mk [(0,af a),(1,af b)] [] (.act (.iface 70 (.agg [af e]))) h) (.nrm)
   (bD.mk [] [] (.done (.iface 70 (.agg [af e]))) fV):=
 bA [] [.v (.bool !false),.b true,.cU (.aF []) aS,.b false,.v (.ptr aP aY),.cU (.aF []) cV,.cU (.aF []) fV] 16 19 0x23456789a9abcb6dede (dN (by kernel_rfl:hs an h BinOp.neq 20 (Operand.tmp 6) (Operand.const Value.nilIface) (aa.iface 70 (aa.agg [aa.ptr e 0])) aa.c3=some (aa.bool !false)) (by kernel_rfl:(!false)=true) (⟨by kernel_rfl,H1,rfl⟩:some 1=some 1/\aJ.storeCells (I.push h (b5.cells [aa.au] 70 ff.own 0 0)) (I.n h) 0 [aa.ptr e 0]=some aS/\aa.aF []=aa.aF []) (by kernel_rfl:(!true)=false) a4 (⟨by kernel_rfl,bh,rfl⟩:some 1=some 1/\aJ.storeCells (I.room aS 5) a 0 [aa.ao]=some cV/\aa.aF []=aa.aF []) (⟨by kernel_rfl,bx,rfl⟩:some 1=some 1/\aJ.storeCells cV b 0 [aa.iface 68 (aa.ptr aP aY)]=some fV/\aa.aF []=aa.aF []) (b4 (.ptr (I.n h) (0+0))) (ck (.ptr (I.n h) (0+0)))<|jt (b4 (.ptr aP aY)) bW (b4 (.iface 68 (.ptr aP aY))) (ck (.iface 68 (.ptr aP aY))) bz)
theorem ai_(a b:Nat)(h:I):
  a0 an Tryz.f19 none call [] (az [(0,af a),(1,af b)] h) (.nrm)
   (az [] h):=
 bA [] [.v (.bool !true),.b false] 16 2 35 (kP (by kernel_rfl:hs an h BinOp.neq 20 (Operand.tmp 6) (Operand.const Value.nilIface) aa.c3 aa.c3=some (aa.bool !true)) (by kernel_rfl:(!true)=false) bz)
theorem aja{P:Program}{fn:Func}{intr:Nat->List aa->I->Option (aa×I)}{f n:Nat}{args:List aa}{R:a8->Prop}(aM:P.funcs[f]? =some fn)(ag:fn.body.isSome=true)(hi:intr f args h=none)(hle:Nat.ble args.length fn.ntmps=true)
  {Q:cl->bD->Prop}(aB:cg P fn (eA P intr n) [] ⟨lN 0 args,[],.none,h⟩ Q)
  (Kk:∀e s,Q e s->(e=.ret/\s.d=[]/\∃w,iw P (e1 fn) fn s.av s.h=some w/\R (.ret w s.h))\/∃g cn gargs,s.d=[.call g gargs]/\(e=.ret\/∃v,e=.aK v)/\P.funcs[g]? =some cn/\cn.body.isSome=true/\Nat.ble gargs.length cn.ntmps=true/\∃Γ2 aU ae,a0 P cn none (eA P intr n) [] ⟨lN 0 gargs,[],pX (tx e),s.h⟩ .nrm ⟨Γ2,[],aU,ae⟩/\(∃w,iw P (e1 cn) cn Γ2 ae=some w)/\uu aU (tx e)=none/\∃v,iw P (e1 fn) fn s.av ae=some v/\R (.ret v ae)):R (eA P intr (n+1) (.fn f) args h):=by
 obtain⟨e,s,r,q⟩:=aB
 obtain⟨av,d,aag,ay⟩:=s
 rcases Kk e _ q with⟨rfl,aH,w,hw,aj⟩|⟨g,cn,gargs,aH,he,p7,se,C5,Γ2,aU,ae,rl,⟨w,p0⟩,uz,v,aW,aj⟩
 · simp only at aH hw aj
   subst aH
   rw[Kb aM ag hi hle r (.inl rfl) hw];exact aj
 · simp only at aH aW aj rl
   subst aH
   rw[C4 aM ag hi hle r (by rcases he with h|h;exact .inl h;exact .inr (.inr h)) p7 se C5 rl (.inr rfl) p0 uz aW];exact aj
theorem Ni{av:Env}{y:I}{w:aa}(u2:aC y a 0=some v)(ze:aC y b 0=some w)(ae:gk 2 av=some (.ptr a 0):=by kernel_rfl)(aq:gk 3 av=some (.ptr b 0):=by kernel_rfl):iw an (e1 Tryz.f9) Tryz.f9 av y=some (.aF [v,w]):=by
 have e:(Tryz.f9).results.toList=[.cell 2 24,.cell 3 26]:=by kernel_rfl
 have b2:Nat.testBit (e1 Tryz.f9) 2=true:=by kernel_rfl
 have dd:Nat.testBit (e1 Tryz.f9) 3=true:=by kernel_rfl
 have aw:oh an 24=some false:=by kernel_rfl
 have a1:oh an 26=some false:=by kernel_rfl
 have ea:eg an 24=some 1:=by kernel_rfl
 have dE:eg an 26=some 1:=by kernel_rfl
 unfold iw
 rw[e]
 simp only[o6,rj,b2,dd,ae,aq,aw,a1,ea,dE,u2,ze]
theorem ajb:qf an vh 1 52 24 where
 hu:=by kernel_rfl
 hF:=by kernel_rfl
 info:=by
  obtain⟨i,hi⟩:∃i,an.info? 52=some i:=Option.isSome_iff_exists.1 (by kernel_rfl)
  refine⟨i,hi,?_,?_⟩
  · have:(an.info? 52).map (·.size)=some 1:=by kernel_rfl
    rw[hi] at this;exact Option.some.inj this
  · have:(an.info? 52).map (λi=>Nat.ble i.bytes 1000)=some true:=by kernel_rfl
    rw[hi] at this
    exact Nat.le_of_ble_eq_true (Option.some.inj this)
 zero:=by
  obtain⟨z,bm⟩:∃z,gu an 52=some z:=Option.isSome_iff_exists.1 (by kernel_rfl)
  refine⟨z,bm,?_⟩
  have:(gu an 52).map (·.cells.length)=some 1:=by kernel_rfl
  rw[bm] at this;exact Option.some.inj this
 size:=by kernel_rfl
 len:=λ_=>rfl
 cell:=λd=>by show(d.1.dJ&&true)=true;rw[d.2];rfl
 pos:=by decide
theorem ajc{el sT:TypeId}(T:qf an vh 1 el sT){H:I}{vs:List aa}(o:fD dT 1 el F H v vs)(aW:∀x∈vs,x.dJ=true){w:aa}(hw:w.dJ=true)(ag:H.get b=some (aD [w] el))(aA:vs.length<=200000):
  ∃g,fi an H sT (some sT) v (.slice b 0 1 (.exact 1))=some (.slice H.n 0 (vs++[w]).length (.aX 1),g)/\g.n=H.n+1/\g.get H.n=some (.cells (eK dT (vs++[w])) el .aX 0 0)/\∀c,c<H.n->(∀n cp,v≠ .slice c 0 n cp)->g.get c=H.get c:=by
 obtain⟨bN,rfl⟩:=MH vs aW
 have ah:jr H 1 (.slice b 0 1 (.exact 1))=some (([⟨w,hw⟩]:List vg).length,eK vh [⟨w,hw⟩]):=by
  have:aJ.loadCells H b 0 (1*1)=some [w]:=rk ag rfl
  simp only[jr,this];rfl
 have z2:bN.length<=200000:=by simpa using aA
 rcases o with⟨rfl,e⟩|⟨q,rfl,ae,aq,aQ,bj⟩
 · have e:bN=[]:=List.map_eq_nil_iff.1 e
   subst e
   exact⟨_,Gp T ah (by simp) (by simp),by simp,dx rfl,λc ak _=>gN ak rfl⟩
 · rw[<-D2] at aq
   have ap:=Gq T aq ah (by simp) (by simp;omega)
   have qP:(bN.map (·.1)++[w]).length=bN.length+([⟨w,hw⟩]:List vg).length:=by simp
   have D3:(bN.map (·.1)).length=bN.length:=by simp
   rw[qP,D3]
   exact⟨_,ap,by simp,(dx rfl).trans (by rw[D2,List.map_append];rfl),λc ak aW=>gN (by simpa using ak) (cr (λe=>aW bN.length (.aX 1) (by rw[e])) rfl)⟩
theorem VA{D x:gI}(h:pE all D a=.ok (x,b)):a<b:=by
 unfold pE at h
 split at h
 · cases h
 · rename_i t c J
   have aO:=Hz (nk 40) _ _ _ J
   split at h
   · cases h
   · rename_i cI ae
     have aZ:=lS ae
     split at h
     · cases h
     · rename_i y f aq
       have bC:=(zi 40).1 _ _ _ aq
       cases h;omega
theorem ajd{x:gI}(h:pF all a=.ok (x,b)):a<b:=by
 unfold pF at h
 split at h
 · split at h
   · cases h
   · rename_i J
     have aO:=S5 J
     split at h
     · cases h
     · rename_i ae
       have aZ:=lS ae
       split at h
       · cases h
       · rename_i aq
         have bC:=rN aq
         cases h;omega
 split at h
 · split at h
   · cases h
   · rename_i J
     have aO:=rN J
     split at h
     · cases h
     · rename_i ae
       have aZ:=lS ae
       split at h
       · cases h
       · rename_i aq
         have bC:=nk 40 _ _ _ aq
         cases h;omega
 split at h
 · split at h
   · cases h
   · rename_i J
     have aO:=rN J
     have:=VA h
     omega
 split at h
 · split at h
   · cases h
   · rename_i J
     have aO:=rN J
     split at h
     · cases h
     · rename_i ae
       have aZ:=Mi (nk 40) _ _ _ ae
       have:=VA h
       omega
 · cases h
theorem aje(h:px s=.ok all)(ah:s.length<=80000):Src all:=by
 obtain⟨out,rfl,t⟩:=Mt h
 have:=t.len
 refine⟨by simp;omega,by simp,?_⟩
 simp[bR]
theorem ajf{t:bP}{l:List bP}(aA:px s=.ok (t::l))(ah:s.length<=80000)(aI:gH h dL=true)(n:Nat):Z (n+1) (.fn 18) [.str s] h=.ret (.aF [.slice h.n 0 (t::l).length (.aX 4),.c3]) (h.push (.cells (eK fm (t::l)) 76 .aX 0 0)):=by
 have e:fc 18 [.str s] h=some (.aF [.slice h.n 0 (t::l).length (.aX 4),.c3],h.push (.cells (eK fm (t::l)) 76 .aX 0 0)):=by
  have aG:y0 dL ku [Bj,amO] 18 [.str s] h=none:=by kernel_rfl
  have aE:tV 18 [.str s] h=some (.aF [.slice h.n 0 (t::l).length (.aX 4),.c3],h.push (.cells (eK fm (t::l)) 76 .aX 0 0)):=by
   have ag:Nat.ble (List.length s) 80000=true:=Nat.ble_eq_true_of_le ah
   unfold tV
   rw[show Nat.beq 18 18=true from rfl]
   simp only[ag,aI,aA]
  simp only[fc,oF,aG,aE]
 show eA an fc (n+1) _ _ _=_
 simp only[eA,e]
theorem ajg(aA:px s=.error a)(ah:s.length<=80000)(aI:gH h dL=true)(n:Nat):Z (n+1) (.fn 18) [.str s] h=.ret (.aF [.ao,.iface 68 (.ptr h.n 0)]) (h.push (qz a)):=by
 have e:fc 18 [.str s] h=some (.aF [.ao,.iface 68 (.ptr h.n 0)],h.push (qz a)):=by
  have aG:y0 dL ku [Bj,amO] 18 [.str s] h=none:=by kernel_rfl
  have aE:tV 18 [.str s] h=some (.aF [.ao,.iface 68 (.ptr h.n 0)],h.push (qz a)):=by
   have ag:Nat.ble (List.length s) 80000=true:=Nat.ble_eq_true_of_le ah
   unfold tV
   rw[show Nat.beq 18 18=true from rfl]
   simp only[ag,aI,aA]
  simp only[fc,oF,aG,aE]
 show eA an fc (n+1) _ _ _=_
 simp only[eA,e]
abbrev H5(B:Nat)(v:aa)(z:I):c6:=λk=>B<=k/\k<z.n/\∀n cp,v≠ .slice k 0 n cp
def vC(B:Nat)(z:I)(l:List gI)(v:aa):Prop:=∃ws,fD dT 1 52 (λk=>B<=k) z v ws/\fx s3 (H5 B v z) z l ws
def VB(s:bJ)(h:I)(r:Except rJ (List gI))(x:a8):Prop:=match r with
 |.ok l=>∃v g,x=.ret (.aF [v,.c3]) g/\vC h.n g l v/\Ext h.n h g/\∃all,px s=.ok all/\∀d∈l,(gC d.e).length<=W all all.length+1
 |.error f=>∃e g,x=.ret (.aF [.ao,.iface 68 (.ptr e 0)]) g/\g.get e=some (HI f)/\h.n<=e/\e<g.n/\Ext h.n h g
def ajh(X:a8->Prop)(n a b:Nat)(e:cl)(st:bD):Prop:=(e=.ret/\st.d=[]/\∃w,iw an (e1 Tryz.f9) Tryz.f9 st.av st.h=some w/\X (.ret w st.h))\/(st.d=[.call 19 [.ptr a 0,.ptr b 0]]/\(e=.ret\/∃v,e=.aK v)/\∃Γ2 aU ae,a0 an Tryz.f19 none (Z n) [] ⟨lN 0 [.ptr a 0,.ptr b 0],[],pX (tx e),st.h⟩ .nrm ⟨Γ2,[],aU,ae⟩/\(∃w,iw an (e1 Tryz.f19) Tryz.f19 Γ2 ae=some w)/\uu aU (tx e)=none/\∃v,iw an (e1 Tryz.f9) Tryz.f9 st.av ae=some v/\X (.ret v ae))
theorem vC.cx{B:Nat}{y z:I}{l:List gI}(o:vC B y l v)(aT:y.n<=z.n)(ai:∀k,B<=k->k<y.n->z.get k=y.get k):vC B z l v:=by
 obtain⟨ws,J,ae⟩:=o
 refine⟨ws,J.cx ⟨aT,λk ag cO=>ai k ag cO⟩,ae.to H4 ⟨aT,λk ag cO=>ai k ag.1 cO⟩ λk ag cO=>⟨ag.1,by omega,ag.2.2⟩⟩
theorem VC{F:c6}{h:I}:∀{l:List gI} {ws:List aa},fx s3 F h l ws->∀x∈ws,x.dJ=true
 |[],ws,e=>by
  have e:ws=[]:=e
  subst e
  intro x ab;cases ab
 |d::l,ws,⟨v,us,e,J,ae⟩=>by
  subst e
  intro x ab
  rcases List.mem_cons.1 ab with rfl|ab
  · obtain⟨b,rfl⟩:=s3.ptr J;rfl
  · exact VC ae x ab
theorem vC.cell{B:Nat}{z:I}{l:List gI}(o:vC B z l v):v.dJ=true/\v.sound=true:=by
 obtain⟨ws,J,_⟩:=o
 exact J.cell
theorem Nj(q:Nat)(bB:1700<=q)(h9:s.length<=80000)(aI:gH h dL=true)(aT:7<=h.n):VB s h (ky s) (Z (q+12) (.fn 9) [.str s] h):=by
 obtain⟨r,aj⟩:∃r,r=ky s:=⟨_,rfl⟩
 rw[<-aj]
 unfold ky at aj
 obtain⟨X,bk⟩:∃X,X=VB s h r:=⟨_,rfl⟩
 rw[<-bk]
 obtain⟨ae,aE⟩:∃g,g=(h.push (aD [.ao] 24)).push (aD [.c3] 26):=⟨_,rfl⟩
 have b6:ae.n=h.n+2:=by rw[aE];rfl
 have cw:Ext h.n h ae:=by rw[aE];exact Ext.k4 (by simp) (Ext.push (Nat.le_refl _) _)
 have c9:ae.get h.n=some (aD [.ao] 24):=by rw[aE];exact gN (by simp) (dx rfl)
 have b2:ae.get (h.n+1)=some (aD [.c3] 26):=by rw[aE];exact dx rfl
 have t2:gH ae dL=true:=nT aI λb ag=>cw.get b (by omega)
 refine aja (P:=an) (intr:=fc) (n:=q+11) (R:=X) Tryz.func9 (by kernel_rfl) (by kernel_rfl) (by kernel_rfl) (Q:=ajh X (q+11) h.n (h.n+1)) ?_ (λe st bB=>?_)
 rotate_left
 · rcases bB with bB|⟨aH,he,Γ2,aU,y,aO,aZ,bC,cX⟩
   · exact .inl bB
   · exact .inr ⟨_,_,_,aH,he,Tryz.func19,(by kernel_rfl),(by kernel_rfl),Γ2,aU,y,aO,aZ,bC,cX⟩
 refine e8 [] (ai0 _ s h ?_)
 rw[show((h.push (aD [.ao] 24)).push (aD [.c3] 26))=ae from aE.symm]
 cases aA:px s with
 |error a=>
  simp only[aA] at aj
  obtain⟨al,aG⟩:∃g,g=ae.push (qz a):=⟨_,rfl⟩
  have lc:=ajg aA h9 t2 (q+10)
  rw[<-aG] at lc
  have bn:al.n=ae.n+1:=by rw[aG];rfl
  have bb:Ext ae.n ae al:=by rw[aG];exact Ext.push (Nat.le_refl _) _
  have c8:=(bb.get h.n (by omega)).trans c9
  have bd:=(bb.get (h.n+1) (by omega)).trans b2
  have f1:al.get ae.n=some (qz a):=by rw[aG];exact dx rfl
  obtain⟨a1,br⟩:∃g,g=al.set (h.n+1) (some (aD [.iface 68 (.ptr ae.n 0)] 26)):=⟨_,rfl⟩
  have dc:a1.n=al.n:=by rw[br];rfl
  have g4:∀k,k≠h.n+1->a1.get k=al.get k:=λk ai=>by rw[br];exact cr ai rfl
  have dd:a1.get (h.n+1)=some (aD [.iface 68 (.ptr ae.n 0)] 26):=by rw[br];exact dz rfl
  have xe:aJ.storeCells al (h.n+1) 0 [.iface 68 (.ptr ae.n 0)]=some a1:=by rw[br];exact cy bd rfl rfl
  refine e8 [1] (ai2 _ s h.n (h.n+1) ae.n ae ⟨al,lc,a1,xe,?_⟩)
  have jh:=(AF dd:(a1.room 3).get (h.n+1)=_)
  have Nk:=(AF ((g4 h.n (by omega)).trans c8):(a1.room 3).get h.n=_)
  have dy:=(AF ((g4 ae.n (by omega)).trans f1):(a1.room 3).get ae.n=_)
  obtain⟨a5,dw⟩:∃g,g=(a1.room 3).set h.n (some (aD [.ao] 24)):=⟨_,rfl⟩
  have gW:∀k,k≠h.n->a5.get k=(a1.room 3).get k:=λk ai=>by rw[dw];exact cr ai rfl
  have wR:a5.get h.n=some (aD [.ao] 24):=by rw[dw];exact dz rfl
  have Nl:aJ.storeCells (a1.room 3) h.n 0 [.ao]=some a5:=by rw[dw];exact cy Nk rfl rfl
  have gm:=(gW (h.n+1) (by omega)).trans jh
  obtain⟨bc,hh⟩:∃g,g=a5.set (h.n+1) (some (aD [.iface 68 (.ptr ae.n 0)] 26)):=⟨_,rfl⟩
  have mj:∀k,k≠h.n+1->bc.get k=a5.get k:=λk ai=>by rw[hh];exact cr ai rfl
  have jR:bc.get (h.n+1)=some (aD [.iface 68 (.ptr ae.n 0)] 26):=by rw[hh];exact dz rfl
  have Nm:aJ.storeCells a5 (h.n+1) 0 [.iface 68 (.ptr ae.n 0)]=some bc:=by rw[hh];exact cy gm rfl rfl
  have cP:bc.n=h.n+6:=by
   have xn:bc.n=(a1.room 3).n:=by rw[hh,dw];rfl
   have aji:(a1.room 3).n=a1.n+3:=rfl
   omega
  refine e8 [1,1] (kQ (ai3 _ h.n (h.n+1) ae.n a1 ⟨aN dd rfl,aN jh rfl,a5,Nl,bc,Nm,aN gm rfl,?_⟩) ⟨rfl,rfl,trivial⟩)
  refine .inl ⟨rfl,rfl,_,Ni (aN ((mj h.n (by omega)).trans wR) rfl) (aN jR rfl),?_⟩
  rw[bk,aj]
  refine⟨ae.n,bc,rfl,(mj ae.n (by omega)).trans ((gW ae.n (by omega)).trans dy),by omega,by omega,⟨by omega,λk ai=>?_⟩⟩
  exact(mj k (by omega)).trans ((gW k (by omega)).trans ((Ext.room a1.n a1 3).get k (by omega)|>.trans ((g4 k (by omega)).trans ((bb.get k (by omega)).trans (cw.get k ai)))))
 |ok all=>
  simp only[aA] at aj
  have ah:=aje aA h9
  have amu:=ah.len
  obtain⟨t0,nE,a_⟩:∃t l,all=t::l:=by
   cases all with
   |nil=>exact absurd ah.pos (by simp)
   |cons t l=>exact⟨t,l,rfl⟩
  have lc:=ajf (a_▸aA) h9 t2 (q+10)
  rw[<-a_] at lc
  obtain⟨al,aG⟩:∃g,g=ae.push (.cells (eK fm all) 76 .aX 0 0):=⟨_,rfl⟩
  rw[<-aG] at lc
  have bn:al.n=ae.n+1:=by rw[aG];rfl
  have bb:Ext ae.n ae al:=by rw[aG];exact Ext.push (Nat.le_refl _) _
  have a9:al.get ae.n=some (.cells (eK fm all) 76 .aX 0 0):=by rw[aG];exact dx rfl
  have c8:=(bb.get h.n (by omega)).trans c9
  have bd:=(bb.get (h.n+1) (by omega)).trans b2
  obtain⟨aw,Nn⟩:∃g,g=al.set (h.n+1) (some (aD [.c3] 26)):=⟨_,rfl⟩
  have gg:aw.n=al.n:=by rw[Nn];rfl
  have eh:∀k,aw.get k=al.get k:=λk=>by
   rw[Nn]
   by_cases ai:k=h.n+1
   · rw[ai];exact(dz rfl).trans bd.symm
   · exact cr ai rfl
  have fC:aJ.storeCells al (h.n+1) 0 [.c3]=some aw:=by rw[Nn];exact cy bd rfl rfl
  refine e8 [1] (ai1 _ s h.n (h.n+1) ae.n all.length ae ⟨al,lc,aw,fC,?_⟩)
  refine e8 [1,1] (ai4 _ h.n (h.n+1) ae.n all.length aw ⟨aN ((eh _).trans bd) rfl,?_⟩)
  refine e8 [1,1,1] (ai5 _ h.n (h.n+1) ae.n all.length aw ?_)
  refine e8 [1,1,1,1] (ai6 _ h.n (h.n+1) ae.n all.length [.call 19 [.ptr h.n 0,.ptr (h.n+1) 0]] aw ?_)
  obtain⟨a1,br⟩:∃g,g=aw.push (oQ ae.n all.length 0 0):=⟨_,rfl⟩
  rw[show aw.push (aD [.slice ae.n 0 all.length (.aX 4),ad 0,ad 0] 74)=a1 from br.symm]
  have dc:a1.n=aw.n+1:=by rw[br];rfl
  have fN:Ext aw.n aw a1:=by rw[br];exact Ext.push (Nat.le_refl _) _
  obtain⟨p,VD⟩:∃p,p=aw.n:=⟨_,rfl⟩
  obtain⟨c,iF⟩:∃c,c=ae.n:=⟨_,rfl⟩
  have a3:p=h.n+3:=by omega
  have ak:c=h.n+2:=by omega
  have eH:cL p c all 0 0 a1:=⟨by rw[br,VD,iF];exact dx rfl,(fN.get c (by omega)).trans ((eh c).trans (by rw[iF];exact a9)),by omega,by omega,ah.pos⟩
  refine e8 [1,1,1,1,1] (cg.block (p:=[1,1,1,1,1,0]) (id:=0) (by kernel_rfl) ?_)
  refine tA (λf st=>∃l a6 z v av,st=⟨av,[.call 19 [.ptr h.n 0,.ptr (h.n+1) 0]],.none,z⟩/\kN [(2,.ptr h.n 0),(3,.ptr (h.n+1) 0),(5,.ptr p 0)] av/\cL p c all a6 0 z/\z.get h.n=some (aD [v] 24)/\z.get (h.n+1)=some (aD [.c3] 26)/\vC (p+1) z l v/\(∀k,k<h.n->z.get k=h.get k)/\l.length<=a6/\all.length<=f+a6/\r=n1 all f a6 l/\∀d∈l,(gC d.e).length<=W all all.length+1) ?_ all.length _ (by omega) ⟨[],0,a1,.ao,_,rfl,⟨rfl,rfl,by rw[VD];rfl,trivial⟩,eH,(fN.get _ (by omega)).trans ((eh _).trans c8),(fN.get _ (by omega)).trans ((eh _).trans bd),⟨[],.inl ⟨rfl,rfl⟩,rfl⟩,λk ai=>(fN.get k (by omega)).trans ((eh k).trans ((bb.get k (by omega)).trans (cw.get k ai))),Nat.le_refl _,by omega,aj,λd aH=>by cases aH⟩
  rintro f st ⟨l,a6,z,v,av,rfl,jS,mc,No,VE,EH,Np,EI,aiJ,f_,iv⟩
  obtain⟨f,rfl⟩:∃j,f=j+1:=⟨f-1,by have:=mc.lt;omega⟩
  have amv:=mc.cM
  obtain⟨bY,g6⟩:∃t,t=bR all a6:=⟨_,rfl⟩
  obtain⟨cN,d1,ej⟩:=oR (q+10) mc
  rw[<-g6] at d1
  have HR:=ej.n
  have vr:=mc.ext ej (Nat.le_refl _)
  have EJ:=(ej.get h.n (by omega)).trans No
  have H6:=(ej.get (h.n+1) (by omega)).trans VE
  unfold n1 at f_
  rw[<-g6] at f_
  refine kQ (ai7 _ h.n (h.n+1) p [.call 19 [.ptr h.n 0,.ptr (h.n+1) 0]] z ⟨_,_,_,_,cN,d1,λai=>?_,λai=>?_⟩) jS
  · rw[if_pos ai] at f_
    have ajj:=EH.cx ej.n (λk _ ai=>ej.get k ai)
    obtain⟨a5,dw⟩:∃g,g=cN.set h.n (some (aD [v] 24)):=⟨_,rfl⟩
    have w6:a5.n=cN.n:=by rw[dw];rfl
    have gW:∀k,a5.get k=cN.get k:=λk=>by
     rw[dw]
     by_cases ai:k=h.n
     · rw[ai];exact(dz rfl).trans EJ.symm
     · exact cr ai rfl
    have Nl:aJ.storeCells cN h.n 0 [v]=some a5:=by rw[dw];exact cy EJ rfl (by simp only[gK,EH.cell.1])
    obtain⟨bc,hh⟩:∃g,g=a5.set (h.n+1) (some (aD [.c3] 26)):=⟨_,rfl⟩
    have xn:bc.n=a5.n:=by rw[hh];rfl
    have ajk:=(gW _).trans H6
    have mj:∀k,bc.get k=cN.get k:=λk=>by
     rw[hh]
     by_cases ai:k=h.n+1
     · rw[ai];exact(dz rfl).trans H6.symm
     · exact(cr ai rfl).trans (gW k)
    have Nm:aJ.storeCells a5 (h.n+1) 0 [.c3]=some bc:=by rw[hh];exact cy ajk rfl rfl
    refine xj (kQ (ai8 _ h.n (h.n+1) [.call 19 [.ptr h.n 0,.ptr (h.n+1) 0]] cN ⟨v,aN EJ rfl,EH.cell.1,a5,Nl,bc,Nm,?_⟩) ⟨rfl,rfl,trivial⟩)
    refine .inr ⟨rfl,.inl rfl,[],.none,bc,ai_ (Z (q+11)) h.n (h.n+1) bc,⟨.aF [],by kernel_rfl⟩,rfl,_,Ni (aN ((mj h.n).trans EJ) rfl) (aN ((mj _).trans H6) rfl),?_⟩
    rw[bk,f_]
    have ajl:=ajj.cx (z:=bc) (by omega) (λk _ _=>mj k)
    obtain⟨ws,bt,b3⟩:=ajl
    exact⟨v,bc,rfl,⟨ws,bt.mono λb ag _=>by omega,b3.to H4 ⟨Nat.le_refl _,λ_ _ _=>rfl⟩ λk ai _=>⟨by have:=ai.1;omega,ai.2⟩⟩,⟨by omega,λk ai=>(mj k).trans ((ej.get k (by omega)).trans (Np k ai))⟩,all,aA,iv⟩
  · rw[if_neg ai] at f_
    obtain⟨ea,Nq⟩:∃g,g=cN.room 6:=⟨_,rfl⟩
    have HU:ea.n=cN.n+6:=by rw[Nq];rfl
    have gl:Ext cN.n cN ea:=by rw[Nq];exact Ext.room _ _ _
    have oa:=vr.ext gl (Nat.le_refl _)
    have VF:=(gl.get h.n (by omega)).trans EJ
    have ajm:=(gl.get (h.n+1) (by omega)).trans H6
    have H7:=aiZ q bB ah oa
    rw[show cN.room 6=ea from Nq.symm]
    refine⟨v,aN VF rfl,?_⟩
    cases aH:pF all a6 with
    |error u5=>
     rw[aH] at H7 f_
     simp only at f_
     obtain⟨e,g,amw,aO,ajn,amx,ajo,gr,gn⟩:=H7
     refine .inr ⟨_,g,aO,EH.cell.2,.inr ⟨rfl,.inr ⟨_,rfl⟩,?_⟩⟩
     have mI:=gn.n
     have Fu:=(gn.get h.n (by omega) (by omega)).trans VF
     have Fv:=(gn.get (h.n+1) (by omega) (by omega)).trans ajm
     obtain⟨fF,H8⟩:∃y,y=(g.push (aD [.au] 70)).set g.n (some (aD [.ptr e 0] 70)):=⟨_,rfl⟩
     have st1:aJ.storeCells (g.push (aD [.au] 70)) g.n 0 [.ptr e 0]=some fF:=by rw[H8];exact cy (dx rfl) rfl rfl
     have bb:Ext g.n g fF:=by rw[H8];exact(Ext.push (Nat.le_refl _) _).ix (Nat.le_refl _)
     have amy:fF.n=g.n+1:=by rw[H8];rfl
     have b_:fF.get g.n=some (aD [.ptr e 0] 70):=by rw[H8];exact dz rfl
     have lT:Ext fF.n fF (fF.room 5):=Ext.room _ _ _
     have wr:=(lT.get g.n (by omega)).trans b_
     have Nk:=(lT.get h.n (by omega)).trans ((bb.get h.n (by omega)).trans Fu)
     have jh:=(lT.get (h.n+1) (by omega)).trans ((bb.get (h.n+1) (by omega)).trans Fv)
     obtain⟨g9,H9⟩:∃y,y=(fF.room 5).set h.n (some (aD [.ao] 24)):=⟨_,rfl⟩
     have fC:aJ.storeCells (fF.room 5) h.n 0 [.ao]=some g9:=by rw[H9];exact cy Nk rfl rfl
     have Nr:∀k,k≠h.n->g9.get k=(fF.room 5).get k:=λk ai=>by rw[H9];exact cr ai rfl
     have ajp:g9.get h.n=some (aD [.ao] 24):=by rw[H9];exact dz rfl
     obtain⟨lQ,H_⟩:∃y,y=g9.set (h.n+1) (some (aD [.iface 68 (.ptr e 0)] 26)):=⟨_,rfl⟩
     have xe:aJ.storeCells g9 (h.n+1) 0 [.iface 68 (.ptr e 0)]=some lQ:=by rw[H_];exact cy ((Nr _ (by omega)).trans jh) rfl rfl
     have zf:∀k,k≠h.n+1->lQ.get k=g9.get k:=λk ai=>by rw[H_];exact cr ai rfl
     have Na:lQ.get (h.n+1)=some (aD [.iface 68 (.ptr e 0)] 26):=by rw[H_];exact dz rfl
     have VG:∀k,k<g.n->k≠h.n->k≠h.n+1->lQ.get k=g.get k:=λk J ae aq=>(zf k aq).trans ((Nr k ae).trans ((lT.get k (by omega)).trans (bb.get k J)))
     have amz:lQ.n=g.n+6:=by
      have xn:lQ.n=(fF.room 5).n:=by rw[H_,H9];rfl
      have aji:(fF.room 5).n=fF.n+5:=rfl
      omega
     refine⟨[],.done _,lQ,ai9 (Z (q+11)) h.n (h.n+1) e g fF e 0 g9 lQ st1 (aN wr rfl) fC xe (aN ((Nr g.n (by omega)).trans wr) rfl),⟨.aF [],by kernel_rfl⟩,rfl,_,Ni (aN ((zf h.n (by omega)).trans ajp) rfl) (aN Na rfl),?_⟩
     rw[bk,f_]
     exact⟨e,lQ,rfl,(VG e ajo (by omega) (by omega)).trans ajn,by omega,by omega,⟨by omega,λk ai=>(VG k (by omega) (by omega) (by omega)).trans ((gn.get k (by omega) (by omega)).trans ((gl.get k (by omega)).trans ((ej.get k (by omega)).trans (Np k ai))))⟩⟩
    |ok Ia=>
     obtain⟨D,jb⟩:=Ia
     rw[aH] at H7 f_
     simp only at f_
     have p1:=ajd aH
     obtain⟨u,g,aO,VH,gr,gn⟩:=H7
     obtain⟨zN,rfl⟩:=s3.ptr VH
     have mI:=gn.n
     obtain⟨ws,hz,el⟩:=EH
     obtain⟨hR,dw⟩:∃y,y=g.set (cN.n+3) (some (aD [.ptr zN 0] 52)):=⟨_,rfl⟩
     have aiC:hR.n=g.n:=by rw[dw];rfl
     have gW:∀k,k≠cN.n+3->hR.get k=g.get k:=λk ai=>by rw[dw];exact cr ai rfl
     have c0:hR.get (cN.n+3)=some (aD [.ptr zN 0] 52):=by rw[dw];exact dz rfl
     have cX:∀k,k<z.n->k≠p->hR.get k=z.get k:=λk ai da=>(gW k (by omega)).trans ((gn.get k (by omega) da).trans ((gl.get k (by omega)).trans (ej.get k ai)))
     have D9:fD dT 1 52 (λk=>p+1<=k) hR v ws:=hz.cx ⟨by omega,λk ai cO=>cX k cO (by omega)⟩
     have lw:=el.len
     have hlen:=ah.len
     have cf:=mc.lt
     obtain⟨bc,ap,cP,jR,mj⟩:=ajc ajb D9 (VC el) (w:=.ptr zN 0) rfl c0 (by omega)
     have n6:∀k,(k<=p\/z.n<=k)->∀n cp,v≠ .slice k 0 n cp:=λk ai n cp e=>by
      rcases hz with⟨aG,_⟩|⟨bZ,aG,_,_,e7,gL⟩
      · rw[aG] at e;cases e
      · rw[aG] at e;injection e with e _ _ _
        have:bZ=k:=e
        omega
     obtain⟨v',iy⟩:∃v,v=aa.slice hR.n 0 (ws++[aa.ptr zN 0]).length (.aX 1):=⟨_,rfl⟩
     have uL:bc.get h.n=some (aD [v] 24):=(mj h.n (by omega) (n6 _ (by omega))).trans ((cX _ (by omega) (by omega)).trans No)
     obtain⟨cj,h8⟩:∃y,y=bc.set h.n (some (aD [v'] 24)):=⟨_,rfl⟩
     have fu:cj.n=bc.n:=by rw[h8];rfl
     have nB:∀k,k≠h.n->cj.get k=bc.get k:=λk ai=>by rw[h8];exact cr ai rfl
     have ajq:aJ.storeCells bc h.n 0 [v']=some cj:=by rw[h8,iy];exact cy uL rfl rfl
     rw[<-iy] at ap
     have fg:∀k,k<hR.n->k≠h.n->(∀n cp,v≠ .slice k 0 n cp)->cj.get k=hR.get k:=λk J ae aq=>(nB k ae).trans (mj k J aq)
     refine .inl ⟨zN,g,aO,hR.n,(ws++[aa.ptr zN 0]).length,bc,?_,cj,by rw[<-iy];exact ajq,hz.cell.2,?_,f,Nat.lt_succ_self _,l++[D],jb,cj,v',_,rfl,⟨rfl,rfl,rfl,trivial⟩,?_,by rw[h8];exact dz rfl,?_,?_,?_,by simp;omega,by omega,f_,?_⟩
     · rw[<-iy,<-ap,dw]
     · rw[<-dw];exact aN ((cX _ (by omega) (by omega)).trans No) rfl
     · have amA:=gr.cM
       exact⟨(fg p (by omega) (by omega) (n6 _ (by omega))).trans ((gW p (by omega)).trans gr.par),(fg c (by omega) (by omega) (n6 _ (by omega))).trans ((gW c (by omega)).trans gr.row),by omega,by omega,gr.lt⟩
     · exact(fg _ (by omega) (by omega) (n6 _ (by omega))).trans ((cX _ (by omega) (by omega)).trans VE)
     · refine⟨ws++[aa.ptr zN 0],.inr ⟨hR.n,iy,by simp,(nB _ (by omega)).trans jR,by omega,by omega⟩,fx.snoc ?_ ?_⟩
       · refine H4 _ _ _ _ _ _ VH ⟨by omega,λk ai cO=>(fg k (by omega) (by omega) (n6 _ (by omega))).trans (gW k (by omega))⟩ λk ai cO=>⟨by omega,by omega,λn cp e=>?_⟩
         rw[iy] at e;injection e with e _ _ _
         have:hR.n=k:=e
         omega
       · refine el.to H4 ⟨by omega,λk ai cO=>(fg k (by omega) (by have:=ai.1;omega) ai.2.2).trans (cX k cO (by have:=ai.1;omega))⟩ λk ai cO=>⟨ai.1,by omega,λn cp e=>?_⟩
         rw[iy] at e;injection e with e _ _ _
         have:hR.n=k:=e
         omega
     · exactλk ai=>(fg k (by omega) (by omega) (n6 _ (by omega))).trans ((cX k (by omega) (by omega)).trans (Np k ai))
     · intro d EK
       rcases List.mem_append.1 EK with EK|EK
       · exact iv d EK
       · rw[List.mem_singleton.1 EK]
         have J:=agn aH
         have ae:=DX (all:=all) (Nat.le_of_lt gr.lt)
         omega
theorem ajr(m:Nat)(s t:List UInt8)(h:I)(H:∃cN:Int,∃al,Y m (.fn 68) [.str s,.str t] h=.ret (.int .i64 cN) al/\R (.ret (.bool (mo (.ofNat 0) cN)) al)):
  R (Y (m+1) (.fn 31) [.str s,.str t] h):=
 mH [(7,.ep (.z .i64))] [] Tryz.func31 H
theorem ajs(s t:List UInt8)(h:I)(H:Q .nrm (az [(0,.str s),(1,.str t)] h)):
  cg an Tryz.f68 call [0] (az [(0,.str s),(1,.str t)] h) Q:=
 dR [] [0,1] [] H
theorem ajt(s:List UInt8)(h:I)(H:(gb [34,92,10] []=true->Q .ret (az [(0,.str s),(1,.str [34,92,10])] h))/\(gb [34,92,10] []=false->Q .nrm (az [(0,.str s),(1,.str [34,92,10])] h))):
  cg an Tryz.f68 call [1,0] (az [(0,.str s),(1,.str [34,92,10])] h) Q:=
 dR [] [0,1] [] H
theorem aju(s:List UInt8)(h:I)(H:(3=1->∃bn,eJ 0 [34,92,10]=some (ax bn)/\∃b6,df an 5 21 (ax bn) h=dW.val (.int .i32 (.ofNat b6)) h/\(128<=b6->∃dc al,call (.fn 99) [.str s,.int .i32 (.ofNat 65533)] h=.ret (ad dc) al/\Q .ret (az [(0,.str s),(1,.str [34,92,10])] al))/\(¬128<=b6->∃ct aw,call (.fn 99) [.str s,.int .i32 (.ofNat b6)] h=.ret (ad ct) aw/\Q .ret (az [(0,.str s),(1,.str [34,92,10])] aw)))/\(¬3=1->Q .nrm (az [(0,.str s),(1,.str [34,92,10])] h))):
  cg an Tryz.f68 call [1,1,0] (az [(0,.str s),(1,.str [34,92,10])] h) Q:=
 dR [] [0,1] [] H
theorem ajv(s:List UInt8)(h:I)(H:∃al,call (.fn 100) [ad s.length] h=.ret (.bool false) al/\Q .nrm (az [(0,.str s),(1,.str [34,92,10])] al)):
  cg an Tryz.f68 call [1,1,1,0] (az [(0,.str s),(1,.str [34,92,10])] h) Q:=
 dR [(26,.ep (.is (.bool false)))] [0,1] [] H
theorem ajw(s:List UInt8)(h:I)(H:Q .nrm (az [(1,.str [34,92,10]),(45,af h.n)] (I.push h (.fp s 0)))):
  cg an Tryz.f68 call [1,1,1,1,0,0] (az [(0,.str s),(1,.str [34,92,10])] h) Q:=
 dR [] [1,45] [] H
theorem ajx(h:I)(H:Q .ret (az [(4,.int .i64 (.negSucc 0))] h)):
  cg an Tryz.f68 call [1,1,1,1,1] (az [(1,.str [34,92,10])] h) Q:=
 dR [] [4] [] H
theorem ajy(m n:Nat)(h:I)(H:R (.ret (.bool (cz 8 n)) h)):
  R (Y (m+1) (.fn 100) [ad n] h):=
 mH [] [] Tryz.func100 H
theorem ajz(it i c:Nat)(h g aw:I)
  (H1:kh h (aa.ptr it 0) true=some (aa.aF [aa.bool true,ad i,aa.int IntKind.i32 (Int.ofNat c)],g))
  (a4:call (.fn 99) [.str [34,92,10],.int .i32 (.ofNat c)] g=a8.ret (.int .i64 (.negSucc 0)) aw):
  a0 an Tryz.f68 none call [1,1,1,1,0,1,0,0] (az [(1,.str [34,92,10]),(45,af it)] h) (.nrm)
   (az [(1,.str [34,92,10]),(45,af it)] aw):=
 bA [1,45] [.cU (.aF [.bool true,ad i,.int .i32 (.ofNat c)]) g,.b true,.c (.int .i64 (-1)) aw,.b false] 16 4 8244 (m9 H1 a4 (by kernel_rfl:mo (Int.ofNat 0) (Int.negSucc 0)=false) bz)
theorem ajA(it:Nat)(h g:I)
  (H1:kh h (aa.ptr it 0) true=some (aa.aF [aa.bool false],g)):
  a0 an Tryz.f68 none call [1,1,1,1,0,1,0,0] (az [(1,.str [34,92,10]),(45,af it)] h) (.exit 2)
   (az [(1,.str [34,92,10]),(45,af it)] g):=
 bA [1,45] [.cU (.aF [.bool false]) g,.b false] 16 2 33 (hU H1 bz)
theorem ajB(n:Nat)(s:List UInt8)(c:Nat)(h:I)(ak:c<256):Z (n+1) (.fn 128) [.str s,ax c] h=.ret (.int .i64 (kZ c s 0)) h:=by
 have ag:Nat.blt c 256=true:=by simpa[Nat.blt_eq] using ak
 have hi:fc 128 [.str s,ax c] h=none:=by kernel_rfl
 have sn:Tryz.f128.body=none:=by rfl
 have ab:vO an Tryz.f128 Tryz.f128.name [.str s,ax c] h=some (.int .i64 (kZ c s 0),h):=by
  have aT:Tryz.f128.name= "internal/bytealg.IndexByteString" :=by rfl
  simp only[vO,aT,if_true,ag]
 simp only[Z,eA,hi,ta,Tryz.func128,sn,ab]
theorem ajC(n:Nat)(s:List UInt8)(c:Nat)(h:I)(ak:c<256):Z (n+2) (.fn 103) [.str s,ax c] h=.ret (.int .i64 (kZ c s 0)) h:=
 eI (intr:=fc) (n:=n+1) (args:=[.str s,ax c]) Tryz.func103 (R1 (Z (n+1)) s c _ h h (ajB n s c h ak)) (.inl rfl) (by kernel_rfl)
theorem ajD(n:Nat)(s:List UInt8)(c:Nat)(h:I)(ak:c<256):Z (n+3) (.fn 126) [.str s,ax c] h=.ret (.int .i64 (kZ c s 0)) h:=
 eI (intr:=fc) (n:=n+2) (args:=[.str s,ax c]) Tryz.func126 (RT (Z (n+2)) s c _ h h (ajC n s c h ak)) (.inl rfl) (by kernel_rfl)
theorem ajE(m r:Nat)(s:List UInt8)(h:I)(aj:r<128):Z (m+4) (.fn 99) [.str s,.int .i32 (Int.ofNat r)] h=.ret (.int .i64 (kZ r s 0)) h:=by
 have ja:=Gr (P:=an) (n:=r) (h:=h) oJ oI
 rw[Nat.mod_eq_of_lt (show r<256 by omega)] at ja
 exact eI (intr:=fc) (n:=m+3) (args:=[.str s,.int .i32 (Int.ofNat r)]) Tryz.func99 (RU (Z (m+3)) s r r _ h h (ib aj) ja (ajD m s r h (by omega))) (.inl rfl) (by kernel_rfl)
theorem ajF{id:Nat}{Q:cl->bD->Prop}{s:bD}(h:Q .nrm s):qg id Q (.exit id) s:=by simpa[qg] using h
theorem ajG(m:Nat)(h:I):∃g,Z (m+7) (.fn 68) [.str [115],.str [34,92,10]] h=.ret (.int .i64 (-1)) g/\Ext h.n h g:=by
 obtain⟨H,g1⟩:∃H,H=h.push (.fp [115] 0):=⟨_,rfl⟩
 have jU:H.get h.n=some (.fp [115] 0):=by rw[g1];exact dx rfl
 have d1:dS [115]=(115,1):=by decide
 have bn:=w9 jU
 rw[d1] at bn
 obtain⟨H1,aG⟩:∃y,y=H.set h.n (some (.fp [] 1)):=⟨_,rfl⟩
 have bn:kh H (.ptr h.n 0) true=some (.aF [.bool true,ad 0,.int .i32 (Int.ofNat 115)],H1):=by rw[aG];exact bn
 have ajH:Z (m+6) (.fn 99) [.str [34,92,10],.int .i32 (Int.ofNat 115)] H1=.ret (.int .i64 (Int.negSucc 0)) H1:=ajE (m+2) 115 [34,92,10] H1 (by omega)
 have b6:=Ba (h:=H1) (it:=h.n) (pos:=1) (by rw[aG];exact dz rfl)
 have ho:=eP.run (p:=[1,1,1,1,0,1,0]) (by kernel_rfl) (eP.step (ajz (Z (m+6)) h.n 0 115 H H1 H1 bn ajH) (eP.exit (n:=0) (ajA (Z (m+6)) h.n H1 H1 b6) (by simp))) (by omega)
 refine⟨H1,?_,by rw[aG,g1];exact(Ext.push (Nat.le_refl _) _).ix (Nat.le_refl _)⟩
 refine tz (P:=an) (intr:=fc) (n:=m+6) (R:=λx=>x=.ret (.int .i64 (-1)) H1) Tryz.func68 (by kernel_rfl) (by kernel_rfl) (by kernel_rfl) (Q:=λe st=>e=.ret/\st=az [(4,.int .i64 (.negSucc 0))] H1) ?_ (λe st bB=>?_)
 rotate_left
 · obtain⟨rfl,rfl⟩:=bB
   exact .inl ⟨.inl rfl,rfl,.int .i64 (.negSucc 0),by kernel_rfl,rfl⟩
 refine e8 [] (ajs _ [115] [34,92,10] h ?_)
 refine e8 [1] (ajt _ [115] h ⟨λag=>absurd ag (by decide),λ_=>?_⟩)
 refine e8 [1,1] (aju _ [115] h ⟨λag=>absurd ag (by decide),λ_=>?_⟩)
 refine e8 [1,1,1] (ajv _ [115] h ⟨h,ajy (m+5) 1 h (R:=λx=>x=.ret (.bool false) h) rfl,?_⟩)
 refine e8 [1,1,1,1] (e8 [1,1,1,1,0] (ajw _ [115] h ?_))
 rw[<-g1]
 refine cg.block (p:=[1,1,1,1,0,1]) (id:=2) (by kernel_rfl) (cg.of ho ?_)
 refine ajF ?_
 exact kQ (ajx _ H1 ⟨rfl,rfl⟩) ⟨rfl,trivial⟩
theorem ajI(m:Nat)(h:I):∃g,Z (m+8) (.fn 31) [.str [115],.str [34,92,10]] h=.ret (.bool false) g/\Ext h.n h g:=by
 obtain⟨g,a9,bb⟩:=ajG m h
 exact⟨g,ajr (m+7) [115] [34,92,10] h (R:=λx=>x=.ret (.bool false) g) ⟨_,g,a9,rfl⟩,bb⟩
theorem ajJ(m:Nat)(h:I)(H:R (.ret (.str [63]) h)):
  R (Y (m+1) (.fn 15) [.au] h):=
 mH [] [] Tryz.func15 H
theorem ajK(b:Nat)(h:I)(H:Q .nrm (az [(0,af b)] h)):
  cg an Tryz.f15 call [0] (az [(0,af b)] h) Q:=
 dR [] [0] [] H
theorem ajL(b:Nat)(h:I)(H:Q .nrm (az [(0,af b)] h)):
  cg an Tryz.f15 call [1,0] (az [(0,af b)] h) Q:=
 dR [] [0] [] H
theorem ajM(b:Nat)(h:I)(H:∃bn,aC h b 0=some (ad bn)/\(bn=1->∃b6,aC h b 2=some (ad b6)/\∃dc,arith .rem .i64 (.ofNat b6) (.ofNat 10)=some (ad dc)/\48+dc<9223372036854775808/\∃ct,df an 2 5 (ad (48+dc)) h=dW.val (ax ct) h/\∃s1,df an 44 9 (.slice h.n 0 1 (.exact 1)) (I.push h (aD [ax ct] 5))=dW.val (.str s1) (I.push h (aD [ax ct] 5))/\Q .ret (az [(0,af b),(2,.str s1)] (I.push h (aD [ax ct] 5))))/\(¬bn=1->(bn=3->Q .ret (az [(0,af b),(2,.str [116,114,117,101])] h))/\(¬bn=3->(bn=4->Q .ret (az [(0,af b),(2,.str [102,97,108,115,101])] h))/\(¬bn=4->(bn=5->Q .ret (az [(0,af b),(2,.str [110,105,108])] h))/\(¬bn=5->(bn=2->∃s2,aC h b 3=some (.str s2)/\∃bd al,call (.fn 31) [.str s2,.str [34,92,10]] h=.ret (.bool bd) al/\(bd=true->Q .ret (az [(0,af b),(2,.str [63])] al))/\(bd=false->∃c4,aC al b 3=some (.str c4)/\1+List.length c4<=1000000000000/\List.length ([34]++c4)+1<=1000000000000/\Q .ret (az [(0,af b),(2,.str ([34]++c4++[34]))] al)))/\(¬bn=2->(bn=6->∃c0,aC h b 3=some (.str c0)/\Q .ret (az [(0,af b),(2,.str c0)] h))/\(¬bn=6->(bn=7->∃v1,aC (h.room 13) b 4=some v1/\∃dq aw,call (.fn 15) [v1] (h.room 13)=.ret (.str dq) aw/\1+List.length dq<=1000000000000/\List.length ([40]++dq)+2<=1000000000000/\∃eO,aC aw b 3=some (.str eO)/\List.length ([40]++dq++[41,46])+List.length eO<=1000000000000/\kR v1/\aC (h.room 13) b 3=some (.str eO)/\Q .ret (az [(0,af b),(2,.str ([40]++dq++[41,46]++eO))] aw))/\(¬bn=7->(bn=14->∃gM,aC (h.room 13) b 3=some (.str gM)/\List.length gM+2<=1000000000000/\∃v2,aC (h.room 13) b 4=some v2/\∃Ib a1,call (.fn 15) [v2] (h.room 13)=.ret (.str Ib) a1/\List.length (gM++[32,40])+List.length Ib<=1000000000000/\List.length (gM++[32,40]++Ib)+1<=1000000000000/\aC a1 b 3=some (.str gM)/\kR v2/\Q .ret (az [(0,af b),(2,.str (gM++[32,40]++Ib++[41]))] a1))/\(¬bn=14->(bn=13->∃dP,aC (h.room 21) b 4=some dP/\∃xw a5,call (.fn 15) [dP] (h.room 21)=.ret (.str xw) a5/\1+List.length xw<=1000000000000/\List.length ([40]++xw)+2<=1000000000000/\∃tN,aC a5 b 3=some (.str tN)/\List.length ([40]++xw++[41,32])+List.length tN<=1000000000000/\List.length ([40]++xw++[41,32]++tN)+2<=1000000000000/\∃v4,aC a5 b 5=some v4/\∃Ic bc,call (.fn 15) [v4] a5=.ret (.str Ic) bc/\List.length ([40]++xw++[41,32]++tN++[32,40])+List.length Ic<=1000000000000/\List.length ([40]++xw++[41,32]++tN++[32,40]++Ic)+1<=1000000000000/\kR dP/\aC bc b 3=some (.str tN)/\aC (h.room 21) b 3=some (.str tN)/\kR v4/\aC (h.room 21) b 5=some v4/\Q .ret (az [(0,af b),(2,.str ([40]++xw++[41,32]++tN++[32,40]++Ic++[41]))] bc))/\(¬bn=13->(bn=11->∃hD,aC (h.room 21) b 4=some hD/\∃zO cj,call (.fn 15) [hD] (h.room 21)=.ret (.str zO) cj/\3+List.length zO<=1000000000000/\List.length ([105,102,32]++zO)+6<=1000000000000/\∃v6,aC cj b 5=some v6/\∃EL cK,call (.fn 15) [v6] cj=.ret (.str EL) cK/\List.length ([105,102,32]++zO++[32,116,104,101,110,32])+List.length EL<=1000000000000/\List.length ([105,102,32]++zO++[32,116,104,101,110,32]++EL)+6<=1000000000000/\∃il,aC cK b 6=some il/\∃Ns ee,call (.fn 15) [il] cK=.ret (.str Ns) ee/\List.length ([105,102,32]++zO++[32,116,104,101,110,32]++EL++[32,101,108,115,101,32])+List.length Ns<=1000000000000/\kR hD/\kR v6/\aC (h.room 21) b 5=some v6/\kR il/\aC cj b 6=some il/\aC (h.room 21) b 6=some il/\Q .ret (az [(0,af b),(2,.str ([105,102,32]++zO++[32,116,104,101,110,32]++EL++[32,101,108,115,101,32]++Ns))] ee))/\(¬bn=11->(bn=17->∃im,aC h b 4=some im/\∃Ie ez,call (.fn 15) [im] h=.ret (.str Ie) ez/\7+List.length Ie<=1000000000000/\List.length ([117,110,114,111,108,108,40]++Ie)+1<=1000000000000/\Q .ret (az [(0,af b),(2,.str ([117,110,114,111,108,108,40]++Ie++[41]))] ez))/\(¬bn=17->Q .nrm (az [(0,af b)] h))))))))))))):
  cg an Tryz.f15 call [1,1,0] (az [(0,af b)] h) Q:=
 dR [(52,.ep .o),(71,.ep .o),(80,.ep .o),(93,.ep .o),(102,.ep .o),(109,.ep .o),(116,.ep .o),(124,.ep .o)] [0,2] [] H
theorem ajN(b:Nat)(h:I)(H:Q .nrm (az [(0,af b),(3,.str [])] h)):
  cg an Tryz.f15 call [1,1,1,0] (az [(0,af b)] h) Q:=
 dR [] [0,3] [] H
theorem ajO(b:Nat)(s:List UInt8)(h:I)(H:Q .nrm (az [(0,af b),(3,.str s),(4,ad 0)] h)):
  cg an Tryz.f15 call [1,1,1,1,0,0] (az [(0,af b),(3,.str s)] h) Q:=
 dR [] [0,3,4] [] H
theorem ajP(b i w N u M:Nat)(s:List UInt8)(h:I)(H:aC h b 10=some (.slice w 0 N (.aX 1))/\(i<N->(0<i->List.length s+2<=1000000000000/\∃bn,aC h b 0=some (ad bn)/\(bn=8->aC h b 8=some (.slice u 0 M (.aX 1))/\i<M/\∃s1,aC h u (0+i*1)=some (.str s1)/\List.length (s++[44,32])+List.length s1<=1000000000000/\List.length (s++[44,32]++s1)+3<=1000000000000/\aC h b 10=some (.slice w 0 N (.aX 1))/\i<N/\∃b6,aC h w (0+i*1)=some (af b6)/\∃s2 al,call (.fn 15) [af b6] h=.ret (.str s2) al/\List.length (s++[44,32]++s1++[32,61,32])+List.length s2<=1000000000000/\i+1<9223372036854775808/\Q .nrm (az [(0,af b),(3,.str (s++[44,32]++s1++[32,61,32]++s2)),(4,ad (i+1))] al))/\(¬bn=8->aC h b 10=some (.slice w 0 N (.aX 1))/\i<N/\∃dc,aC h w (0+i*1)=some (af dc)/\∃c4 aw,call (.fn 15) [af dc] h=.ret (.str c4) aw/\List.length (s++[44,32])+List.length c4<=1000000000000/\i+1<9223372036854775808/\Q .nrm (az [(0,af b),(3,.str (s++[44,32]++c4)),(4,ad (i+1))] aw)))/\(¬0<i->∃ct,aC h b 0=some (ad ct)/\(ct=8->aC h b 8=some (.slice u 0 M (.aX 1))/\i<M/\∃c0,aC h u (0+i*1)=some (.str c0)/\List.length s+List.length c0<=1000000000000/\List.length (s++c0)+3<=1000000000000/\aC h b 10=some (.slice w 0 N (.aX 1))/\i<N/\∃cP,aC h w (0+i*1)=some (af cP)/\∃dq a1,call (.fn 15) [af cP] h=.ret (.str dq) a1/\List.length (s++c0++[32,61,32])+List.length dq<=1000000000000/\i+1<9223372036854775808/\Q .nrm (az [(0,af b),(3,.str (s++c0++[32,61,32]++dq)),(4,ad (i+1))] a1))/\(¬ct=8->aC h b 10=some (.slice w 0 N (.aX 1))/\i<N/\∃fu,aC h w (0+i*1)=some (af fu)/\∃eO a5,call (.fn 15) [af fu] h=.ret (.str eO) a5/\List.length s+List.length eO<=1000000000000/\i+1<9223372036854775808/\Q .nrm (az [(0,af b),(3,.str (s++eO)),(4,ad (i+1))] a5))))/\(¬i<N->Q (.exit 1) (az [(0,af b),(3,.str s),(4,ad i)] h))):
  cg an Tryz.f15 call [1,1,1,1,0,1,0,0] (az [(0,af b),(3,.str s),(4,ad i)] h) Q:=
 dR [(132,.ep (.is (.slice w 0 N (.aX 1)))),(160,.ep (.is (.slice w 0 N (.aX 1)))),(150,.ep (.is (.slice u 0 M (.aX 1))))] [0,3,4] [] H
theorem ajQ(b:Nat)(s:List UInt8)(h:I)(H:aC h b 10=some .ao/\¬0<0/\Q (.exit 1) (az [(0,af b),(3,.str s),(4,ad 0)] h)):
  cg an Tryz.f15 call [1,1,1,1,0,1,0,0] (az [(0,af b),(3,.str s),(4,ad 0)] h) Q:=
 dR [(132,.ep (.is .ao)),(1134,.f)] [0,3,4] [] H
theorem ajR(b:Nat)(s:List UInt8)(h:I)(H:∃bn,aC h b 0=some (ad bn)/\(bn=9->∃v1,aC h b 4=some v1/\∃s1 al,call (.fn 15) [v1] h=.ret (.str s1) al/\1+List.length s1<=1000000000000/\List.length ([40]++s1)+2<=1000000000000/\List.length ([40]++s1++[41,40])+List.length s<=1000000000000/\List.length ([40]++s1++[41,40]++s)+1<=1000000000000/\Q .ret (az [(0,af b),(2,.str ([40]++s1++[41,40]++s++[41]))] al))/\(¬bn=9->(bn=8->1+List.length s<=1000000000000/\List.length ([123]++s)+1<=1000000000000/\Q .ret (az [(0,af b),(2,.str ([123]++s++[125]))] h))/\(¬bn=8->Q .ret (az [(0,af b),(2,.str [63])] h)))):
  cg an Tryz.f15 call [1,1,1,1,1] (az [(0,af b),(3,.str s)] h) Q:=
 dR [(175,.ep .o)] [0,2] [] H
def uf(h:I):Prop:=gH h dL=true/\7<=h.n/\w1 ku.rt ku.mI ku.qq (h.get ku.g)=true
theorem uf.ext{g:I}(t:uf h)(x:Ext h.n h g):uf g:=⟨nT t.1 λb ag=>x.get b (by have:=t.2.1;omega),by have:=t.2.1;have:=x.n;omega,by
 have:ku.g<7:=by decide
 rw[x.get ku.g (by have:=t.2.1;omega)];exact t.2.2⟩
def EM(S:bJ->Prop)(lo:Nat):Prop:=∀x,S x->∀n,lo<=n->∀h,uf h->∃g,Z n (.fn 31) [.str x,.str [34,92,10]] h=.ret (.bool (TK x)) g/\Ext h.n h g
theorem VI:EM (λx=>x=[115]) 8:=λx ab n aT h _=>by
 subst ab
 obtain⟨m,rfl⟩:∃m,n=m+8:=⟨n-8,by omega⟩
 exact ajI m h
mutual
def BA:bX->Nat
 |.mk _ _ _ _ l r c _ _ _ es=>1+qX l+qX r+qX c+BB es
def BB:List bX->Nat
 |[]=>0
 |e::es=>BA e+BB es
def qX:Option bX->Nat
 |none=>0
 |some e=>BA e
end
theorem VJ{e:bX}:∀{es:List bX},e∈es->BA e<=BB es
 |[],h=>by cases h
 |x::es,h=>by
  rcases List.mem_cons.1 h with rfl|h
  · rw[BB];omega
  · have:=VJ h
    rw[BB];omega
def Ig(h:I)(s:bJ)(x:a8):Prop:=∃g,x=.ret (.str s) g/\Ext h.n h g
def ug(lo:Nat)(o:Option bX):Prop:=(gC o).length<=90000->∀n,qX o+lo<=n->∀{F:c6} {h:I} {v:aa},jm F h o v->uf h->Ig h (gC o) (Z n (.fn 15) [v] h)
def VK(X:a8->Prop)(e:cl)(st:bD):Prop:=∃v av g,e=.ret/\st=az av g/\iw an (e1 Tryz.f15) Tryz.f15 av g=some v/\X (.ret v g)
theorem jm.ext{g:I}{o:Option bX}(x:Ext h.n h g)(e:jm F h o v):jm F g o v:=jm.cx ⟨x.n,λb _ ag=>x.get b ag⟩ (λb ag _=>ag) _ _ e
theorem jm.snd{o:Option bX}(e:jm F h o v):v.sound=true:=by
 cases o with
 |none=>have e:v=.au:=e;subst e;rfl
 |some t=>obtain⟨r,rfl⟩:=dF.ptr (show dF F h t v from e);rfl
theorem VL{F:c6}{h:I}:∀{es:List bX} {ws:List aa},oT F h es ws->ws.length=es.length
 |[],ws,e=>by
  have e:ws=[]:=e
  subst e;rfl
 |t::es,ws,⟨v,us,e,J,ae⟩=>by
  subst e
  simp[VL ae]
theorem VM{F:c6}{h:I}:∀{es:List bX} {ws:List aa},oT F h es ws->∀i (hi:i<es.length),∃r,ws[i]? =some (.ptr r 0)/\dF F h es[i] (.ptr r 0)
 |[],ws,e,i,hi=>by simp at hi
 |t::es,ws,⟨v,us,e,J,ae⟩,i,hi=>by
  subst e
  cases i with
  |zero=>
   obtain⟨r,rfl⟩:=dF.ptr J
   exact⟨r,rfl,J⟩
  |succ i=>
   obtain⟨r,aG,aE⟩:=VM ae i (by simpa using hi)
   exact⟨r,by simpa using aG,by simpa using aE⟩
theorem Nt:∀vs:List aa,eK dT vs=vs
 |[]=>rfl
 |v::vs=>by rw[yw,Nt vs];rfl
theorem Nu:∀cZ:List bJ,eK kV cZ=cZ.map .str
 |[]=>rfl
 |v::vs=>by rw[yw,Nu vs];rfl
theorem VN(k:Nat)(cZ:List bJ):∀(es:List bX) (i:Nat) (s:bJ),s.length<=(hN k cZ es i s).length
 |[],i,s=>by rw[hN];exact Nat.le_refl _
 |e::es,i,s=>by
  rw[hN]
  refine Nat.le_trans ?_ (VN k cZ es _ _)
  rw[List.length_append]
  split<;>(try split)<;>simp<;>omega
theorem VO(k:Nat)(cZ:List bJ):∀(es:List bX) (i:Nat) (s:bJ),0<i->s.length+2*es.length<=(hN k cZ es i s).length
 |[],i,s,_=>by rw[hN];simp
 |e::es,i,s,hi=>by
  rw[hN]
  refine Nat.le_trans ?_ (VO k cZ es _ _ (by omega))
  rw[List.length_append,if_pos hi]
  split<;>simp<;>omega
theorem ajS(k:Nat)(cZ:List bJ)(es:List bX)(s:bJ):2*es.length<=(hN k cZ es 0 s).length+2:=by
 cases es with
 |nil=>simp
 |cons e es=>
  rw[hN]
  have:=VO k cZ es (0+1) ((if k=8 then(if 0<0 then s++[44,32] else s)++cZ.getD 0 []++[32,61,32] else(if 0<0 then s++[44,32] else s))++iz e) (by omega)
  simp only[List.length_cons]
  omega
theorem ajT{lo m k at' ld:Nat}{x:bJ}{cZ:List bJ}{es:List bX}{mO jx nq ey bV hq jw:aa}{ws:List aa}{Q:cl->bD->Prop}(ag:b<h.n)(aB:h.get b=some (dI k at' ld x mO jx nq ey bV hq jw))(ai:k=8\/k=9\/es=[])(q_:k=8->cZ.length=es.length)(hlen:(hN k cZ es 0 []).length<=90000)(on:fD kV 1 9 F h bV cZ)(Nv:fD dT 1 40 F h jw ws)(Ih:oT F h es ws)(EG:∀e∈es,ug lo (some e))(bQ:BB es+lo<=m)(aI:uf h)
  (fin:∀z,Ext h.n h z->cg an Tryz.f15 (Z m) [1,1,1,1,1] (az [(0,.ptr b 0),(3,.str (hN k cZ es 0 []))] z) Q):cg an Tryz.f15 (Z m) [1,1,1] (az [(0,.ptr b 0)] h) Q:=by
 have r7:=VL Ih
 have Bb:=ajS k cZ es []
 refine e8 [1,1,1] (ajN _ b h ?_)
 refine e8 [1,1,1,1] (e8 [1,1,1,1,0] (ajO _ b [] h ?_))
 refine cg.block (p:=[1,1,1,1,0,1]) (id:=1) (by kernel_rfl) ?_
 rcases Nv with⟨rfl,e⟩|⟨q,rfl,xM,bB,amB,DM⟩
 ·
  have ajU:es=[]:=by
   rw[e] at r7
   exact List.length_eq_zero_iff.1 r7.symm
  subst ajU
  refine tA (λ_ st=>st=az [(0,.ptr b 0),(3,.str []),(4,ad 0)] h) ?_ 0 _ (by omega) rfl
  rintro _ st rfl
  refine ajQ _ b [] h ⟨aN aB rfl,by omega,?_⟩
  refine xj ?_
  exact kQ (fin h (Ext.refl _ _)) ⟨rfl,rfl,trivial⟩
 · have dk:es≠[]:=λe=>by rw[e] at r7;simp at r7;rw[r7] at xM;simp at xM
   have amC:k=8\/k=9:=by
    rcases ai with h|h|h
    · exact .inl h
    · exact .inr h
    · exact absurd h dk
   obtain⟨u,M,hu⟩:∃u M,k=8->bV=.slice u 0 M (.aX 1)/\M=cZ.length/\h.get u=some (.cells (eK kV cZ) 9 .aX 0 0)/\u<h.n:=by
    rcases on with⟨_,e⟩|⟨u,aG,_,aE,_,br⟩
    · refine⟨0,0,λe6=>?_⟩
      have:=q_ e6
      rw[e] at this
      exact absurd (List.length_eq_zero_iff.1 this.symm) dk
    · exact⟨u,cZ.length,λ_=>⟨aG,rfl,aE,br⟩⟩
   rw[Nt] at bB
   refine tA (λf st=>∃i s z av,st=tI av z/\kN [(0,.ptr b 0),(3,.str s),(4,ad i)] av/\Ext h.n h z/\i<=es.length/\es.length<=f+i/\hN k cZ es 0 []=hN k cZ (es.drop i) i s) ?_ es.length _ ?_ ⟨0,[],h,_,rfl,⟨rfl,rfl,rfl,trivial⟩,Ext.refl _ _,Nat.zero_le _,by omega,rfl⟩
   · rintro f st ⟨i,s,z,av,rfl,jS,hQ,hi,aM,ah⟩
     have xq:=hQ.n
     have vD:=(hQ.get b ag).trans aB
     have ajV:=(hQ.get q DM).trans bB
     refine kQ (ajP _ b i q ws.length u M s z ⟨aN vD rfl,λcf=>?_,λcf=>?_⟩) jS
     · have yZ:i<es.length:=by omega
       obtain⟨f,rfl⟩:∃j,f=j+1:=⟨f-1,by omega⟩
       have aH:es.drop i=es[i]::es.drop (i+1):=List.drop_eq_getElem_cons yZ
       rw[aH,hN] at ah
       obtain⟨zP,aG,aE⟩:=VM Ih i yZ
       have FH:es[i]∈es:=List.getElem_mem yZ
       have mJ:=VN k cZ (es.drop (i+1)) (i+1) ((if k=8 then(if 0<i then s++[44,32] else s)++cZ.getD i []++[32,61,32] else(if 0<i then s++[44,32] else s))++iz es[i])
       rw[<-ah] at mJ
       have hT:((if k=8 then(if 0<i then s++[44,32] else s)++cZ.getD i []++[32,61,32] else(if 0<i then s++[44,32] else s))++iz es[i]).length<=90000:=Nat.le_trans mJ hlen
       obtain⟨g,a9,bb⟩:=EG es[i] FH (by rw[List.length_append] at hT;show(iz es[i]).length<=_;omega) m (by have:=VJ FH;show BA es[i]+lo<=m;omega) (F:=F) (h:=z) (v:=.ptr zP 0) (jm.ext (o:=some es[i]) hQ aE) (aI.ext hQ)
       have a9:Z m (.fn 15) [.ptr zP 0] z=.ret (.str (iz es[i])) g:=a9
       have gn:=hQ.trans (hQ.n) bb
       have Ii:aC z q (0+i*1)=some (.ptr zP 0):=aN ajV (by rw[j0,show 0+i*1=i by omega];exact aG)
       have Ij:∀{bF:bJ},hN k cZ es 0 []=hN k cZ (es.drop (i+1)) (i+1) bF->∃j,j<f+1/\∃wA VP wv av,(az [(0,.ptr b 0),(3,.str bF),(4,ad (i+1))] g:bD)=tI av wv/\kN [(0,.ptr b 0),(3,.str VP),(4,ad wA)] av/\Ext h.n h wv/\wA<=es.length/\es.length<=j+wA/\hN k cZ es 0 []=hN k cZ (es.drop wA) wA VP:=λ{bF} e=>⟨f,Nat.lt_succ_self _,i+1,bF,g,_,rfl,⟨rfl,rfl,rfl,trivial⟩,gn,by omega,by omega,e⟩
       refine⟨λh0=>?_,λh0=>?_⟩
       · rw[if_pos h0] at hT ah
         refine⟨?_,k,aN vD rfl,λe6=>?_,λe6=>?_⟩
         · split at hT<;>simp at hT⊢ <;>omega
         · obtain⟨br,dw,hh,h8⟩:=hu e6
           rw[if_pos e6] at hT ah
           have pO:aC z u (0+i*1)=some (.str (cZ.getD i [])):=aN ((hQ.get u h8).trans hh) (by
            rw[Nu,j0,show 0+i*1=i by omega,List.getElem?_map,List.getD_eq_getElem?_getD]
            have:=q_ e6
            rw[List.getElem?_eq_getElem (by omega)];rfl)
           have pd:aC z b 8=some (.slice u 0 M (.aX 1)):=by rw[<-br];exact aN vD rfl
           obtain⟨dB,v5⟩:∃dB,dB=cZ.getD i []:=⟨_,rfl⟩
           rw[<-v5] at pO hT ah
           exact⟨pd,by have:=q_ e6;omega,_,pO,by simp at hT⊢;omega,by simp at hT⊢;omega,aN vD rfl,cf,zP,Ii,_,g,a9,by simp at hT⊢;omega,by omega,Ij ah⟩
         · rw[if_neg e6] at hT ah
           exact⟨aN vD rfl,cf,zP,Ii,_,g,a9,by simp at hT⊢;omega,by omega,Ij ah⟩
       · rw[if_neg h0] at hT ah
         refine⟨k,aN vD rfl,λe6=>?_,λe6=>?_⟩
         · obtain⟨br,dw,hh,h8⟩:=hu e6
           rw[if_pos e6] at hT ah
           have pO:aC z u (0+i*1)=some (.str (cZ.getD i [])):=aN ((hQ.get u h8).trans hh) (by
            rw[Nu,j0,show 0+i*1=i by omega,List.getElem?_map,List.getD_eq_getElem?_getD]
            have:=q_ e6
            rw[List.getElem?_eq_getElem (by omega)];rfl)
           have pd:aC z b 8=some (.slice u 0 M (.aX 1)):=by rw[<-br];exact aN vD rfl
           obtain⟨dB,v5⟩:∃dB,dB=cZ.getD i []:=⟨_,rfl⟩
           rw[<-v5] at pO hT ah
           exact⟨pd,by have:=q_ e6;omega,_,pO,by simp at hT⊢;omega,by simp at hT⊢;omega,aN vD rfl,cf,zP,Ii,_,g,a9,by simp at hT⊢;omega,by omega,Ij ah⟩
         · rw[if_neg e6] at hT ah
           exact⟨aN vD rfl,cf,zP,Ii,_,g,a9,by simp at hT⊢;omega,by omega,Ij ah⟩
     · have he:i=es.length:=by omega
       rw[he,List.drop_length,hN] at ah
       refine xj ?_
       exact kQ (fin z hQ) ⟨rfl,by rw[ah];rfl,trivial⟩
   · omega
theorem ajW(n:Nat)(aT:n<256)(h:I):df an 2 5 (ad n) h=.val (ax n) h:=AE (ka:=.i64) (by kernel_rfl) (by kernel_rfl) (by
 have:=wrap_u8 n
 rw[show n %256=n by omega] at this
 exact this)
theorem ajX{N S:bJ->Prop}{s4 lo:Nat}(rZ:EM S s4)(iO:s4<=lo)(mJ:1<=lo){k at' ld:Nat}{x:bJ}{l r c:Option bX}{t:Option cG}{cZ:List bJ}{bl:List (Option cG)}{es:List bX}(ai:qL N S k x l r c cZ es)(BC:ug lo l)(VQ:ug lo r)(ajY:ug lo c)(EG:∀e∈es,ug lo (some e)):ug lo (some (.mk k at' ld x l r c t cZ bl es)):=by
 intro hlen n aT F h v o aI
 obtain⟨b,mO,jx,nq,ey,bV,hq,jw,us,ws,rfl,n5,ag,aB,ol,Ik,l0,amD,on,amE,amF,Nv,Ih⟩:=(show dF F h (.mk k at' ld x l r c t cZ bl es) v from o)
 have aT:BA (.mk k at' ld x l r c t cZ bl es)+lo<=n:=aT
 have hlen:(iz (.mk k at' ld x l r c t cZ bl es)).length<=90000:=hlen
 rw[BA] at aT
 obtain⟨m,rfl⟩:∃m,n=m+1:=⟨n-1,by omega⟩
 show Ig h (iz (.mk k at' ld x l r c t cZ bl es)) _
 obtain⟨vE,cS⟩:∃s,s=iz (.mk k at' ld x l r c t cZ bl es):=⟨_,rfl⟩
 rw[<-cS] at hlen⊢
 rw[iz] at cS
 obtain⟨X,bk⟩:∃X,X=Ig h vE:=⟨_,rfl⟩
 rw[<-bk]
 refine tz (P:=an) (intr:=fc) (n:=m) (R:=X) Tryz.func15 (by kernel_rfl) (by kernel_rfl) (by kernel_rfl) (Q:=VK X) ?_ (λe st bB=>?_)
 rotate_left
 · obtain⟨v,av,g,rfl,rfl,aW,jd⟩:=bB
   exact .inl ⟨.inl rfl,rfl,v,aW,jd⟩
 have fin:∀{s:bJ} {g:I},vE=s->Ext h.n h g->VK X .ret (az [(0,.ptr b 0),(2,.str s)] g):=λ{s g} e x=>⟨.str s,_,g,rfl,rfl,by kernel_rfl,by rw[bk];exact⟨g,by rw[e],x⟩⟩
 have lX:∀i,Ext h.n h (h.room i):=λi=>Ext.room h.n h i
 refine e8 [] (ajK _ b h ?_)
 refine e8 [1] (ajL _ b h ?_)
 refine e8 [1,1] (ajM _ b h ⟨k,aN aB rfl,λJ=>?_,λJ=>⟨λaq=>?_,λaq=>⟨λaQ=>?_,λaQ=>⟨λbj=>?_,λbj=>⟨λae=>?_,λae=>⟨λcW=>?_,λcW=>⟨λeS=>?_,λeS=>⟨λBD=>?_,λBD=>⟨λzo=>?_,λzo=>⟨λuC=>?_,λuC=>⟨λNw=>?_,λNw=>?_⟩⟩⟩⟩⟩⟩⟩⟩⟩⟩⟩)
 ·
  rw[if_pos J] at cS
  have aH:48+ld %10<256:=by omega
  refine⟨ld,aN aB rfl,ld %10,Gl .i64 (by omega),by omega,48+ld %10,ajW _ aH h,[UInt8.ofNat (48+ld %10)],?_,fin cS (Ext.push (Nat.le_refl _) _)⟩
  have kF:(UInt8.ofNat (48+ld %10)).toNat=48+ld %10:=by
   rw[UInt8.toNat_ofNat'];omega
  have ajZ:(h.push (aD [ax (48+ld %10)] 5)).get h.n=some (aD (cC [UInt8.ofNat (48+ld %10)]++[]) 5):=by
   simp only[cC,List.append_nil,kF]
   exact dx rfl
  exact Z3 (e:=5) (cap:=.exact 1) (w:=[UInt8.ofNat (48+ld %10)]) (by kernel_rfl) (by kernel_rfl) (by kernel_rfl) (.inl rfl) ajZ
 · rw[if_neg J,if_pos aq] at cS
   exact fin cS (Ext.refl _ _)
 · rw[if_neg J,if_neg aq,if_pos aQ] at cS
   exact fin cS (Ext.refl _ _)
 · rw[if_neg J,if_neg aq,if_neg aQ,if_pos bj] at cS
   exact fin cS (Ext.refl _ _)
 ·
  rw[if_neg J,if_neg aq,if_neg aQ,if_neg bj,if_pos ae] at cS
  have ab:S x:=by subst ae;simpa[qL] using ai
  obtain⟨al,a9,bb⟩:=rZ x ab m (by omega) h aI
  unfold HH at cS
  refine⟨x,aN aB rfl,_,al,a9,λjH=>?_,λjH=>?_⟩
  · rw[if_pos jH] at cS
    exact fin cS bb
  · rw[if_neg (by rw[jH];decide)] at cS
    have aA:(vE).length<=90000:=hlen
    rw[cS] at aA
    exact⟨x,aN ((bb.get b ag).trans aB) rfl,by simp at aA⊢;omega,by simp at aA⊢;omega,fin cS bb⟩
 · rw[if_neg J,if_neg aq,if_neg aQ,if_neg bj,if_neg ae,if_pos cW] at cS
   exact⟨x,aN aB rfl,fin cS (Ext.refl _ _)⟩
 ·
  rw[if_neg J,if_neg aq,if_neg aQ,if_neg bj,if_neg ae,if_neg cW,if_pos eS] at cS
  have aA:(vE).length<=90000:=hlen
  rw[cS] at aA
  obtain⟨kk,h9⟩:∃s,s=gC l:=⟨_,rfl⟩
  have jh:=((lX 13).get b ag).trans aB
  obtain⟨aw,cI,cw⟩:=BC (by simp at aA;omega) m (by omega) (jm.ext (lX 13) ol) (aI.ext (lX 13))
  have fJ:=(lX 13).trans (lX 13).n cw
  rw[<-h9] at cI cS aA
  exact⟨mO,aN jh rfl,kk,aw,cI,by simp at aA⊢;omega,by simp at aA⊢;omega,x,aN ((fJ.get b ag).trans aB) rfl,by simp at aA⊢;omega,ol.snd,aN jh rfl,fin cS fJ⟩
 ·
  rw[if_neg J,if_neg aq,if_neg aQ,if_neg bj,if_neg ae,if_neg cW,if_neg eS,if_pos BD] at cS
  have aA:(vE).length<=90000:=hlen
  rw[cS] at aA
  obtain⟨kk,h9⟩:∃s,s=gC l:=⟨_,rfl⟩
  have jh:=((lX 13).get b ag).trans aB
  obtain⟨aw,cI,cw⟩:=BC (by simp at aA;omega) m (by omega) (jm.ext (lX 13) ol) (aI.ext (lX 13))
  have fJ:=(lX 13).trans (lX 13).n cw
  rw[<-h9] at cI cS aA
  exact⟨x,aN jh rfl,by simp at aA⊢;omega,mO,aN jh rfl,kk,aw,cI,by simp at aA⊢;omega,by simp at aA⊢;omega,aN ((fJ.get b ag).trans aB) rfl,ol.snd,fin cS fJ⟩
 ·
  rw[if_neg J,if_neg aq,if_neg aQ,if_neg bj,if_neg ae,if_neg cW,if_neg eS,if_neg BD,if_pos zo] at cS
  have aA:(vE).length<=90000:=hlen
  rw[cS] at aA
  obtain⟨kk,h9⟩:∃s,s=gC l:=⟨_,rfl⟩
  obtain⟨Nx,Ny⟩:∃s,s=gC r:=⟨_,rfl⟩
  have jh:=((lX 21).get b ag).trans aB
  obtain⟨aw,cI,cw⟩:=BC (by simp at aA;omega) m (by omega) (jm.ext (lX 21) ol) (aI.ext (lX 21))
  have fJ:=(lX 21).trans (lX 21).n cw
  have b2:=(fJ.get b ag).trans aB
  obtain⟨a1,gF,fN⟩:=VQ (by simp at aA;omega) m (by omega) (jm.ext fJ Ik) (aI.ext fJ)
  have oc:=fJ.trans fJ.n fN
  have dd:=(oc.get b ag).trans aB
  rw[<-h9] at cI cS aA
  rw[<-Ny] at gF cS aA
  exact⟨mO,aN jh rfl,kk,aw,cI,by simp at aA⊢;omega,by simp at aA⊢;omega,x,aN b2 rfl,by simp at aA⊢;omega,by simp at aA⊢;omega,jx,aN b2 rfl,Nx,a1,gF,by simp at aA⊢;omega,by simp at aA⊢;omega,ol.snd,aN dd rfl,aN jh rfl,Ik.snd,aN jh rfl,fin cS oc⟩
 ·
  rw[if_neg J,if_neg aq,if_neg aQ,if_neg bj,if_neg ae,if_neg cW,if_neg eS,if_neg BD,if_neg zo,if_pos uC] at cS
  have aA:(vE).length<=90000:=hlen
  rw[cS] at aA
  obtain⟨kk,h9⟩:∃s,s=gC l:=⟨_,rfl⟩
  obtain⟨Nx,Ny⟩:∃s,s=gC r:=⟨_,rfl⟩
  obtain⟨uI,m8⟩:∃s,s=gC c:=⟨_,rfl⟩
  have jh:=((lX 21).get b ag).trans aB
  obtain⟨aw,cI,cw⟩:=BC (by simp at aA;omega) m (by omega) (jm.ext (lX 21) ol) (aI.ext (lX 21))
  have fJ:=(lX 21).trans (lX 21).n cw
  have b2:=(fJ.get b ag).trans aB
  obtain⟨a1,gF,fN⟩:=VQ (by simp at aA;omega) m (by omega) (jm.ext fJ Ik) (aI.ext fJ)
  have oc:=fJ.trans fJ.n fN
  have dd:=(oc.get b ag).trans aB
  obtain⟨a5,hy,gO⟩:=ajY (by simp at aA;omega) m (by omega) (jm.ext oc l0) (aI.ext oc)
  have H0:=oc.trans oc.n gO
  rw[<-h9] at cI cS aA
  rw[<-Ny] at gF cS aA
  rw[<-m8] at hy cS aA
  simp only[Mv,Mw,Mx] at cS aA
  exact⟨mO,aN jh rfl,kk,aw,cI,by simp at aA⊢;omega,by simp at aA⊢;omega,jx,aN b2 rfl,Nx,a1,gF,by simp at aA⊢;omega,by simp at aA⊢;omega,nq,aN dd rfl,uI,a5,hy,by simp at aA⊢;omega,ol.snd,Ik.snd,aN jh rfl,l0.snd,aN b2 rfl,aN jh rfl,fin cS H0⟩
 ·
  rw[if_neg J,if_neg aq,if_neg aQ,if_neg bj,if_neg ae,if_neg cW,if_neg eS,if_neg BD,if_neg zo,if_neg uC,if_pos Nw] at cS
  have aA:(vE).length<=90000:=hlen
  rw[cS] at aA
  obtain⟨kk,h9⟩:∃s,s=gC l:=⟨_,rfl⟩
  obtain⟨aw,cI,cw⟩:=BC (by simp at aA;omega) m (by omega) ol aI
  rw[<-h9] at cI cS aA
  simp only[My] at cS aA
  exact⟨mO,aN aB rfl,kk,aw,cI,by simp at aA⊢;omega,by simp at aA⊢;omega,fin cS cw⟩
 ·
  rw[if_neg J,if_neg aq,if_neg aQ,if_neg bj,if_neg ae,if_neg cW,if_neg eS,if_neg BD,if_neg zo,if_neg uC,if_neg Nw] at cS
  have tq:k=8\/k=9\/(es=[]/\¬k=8/\¬k=9):=by
   rcases ai with e|e|e|e|e|e|e|e|e|e|e|e|e|⟨e,b0⟩
   · omega
   · omega
   · omega
   · omega
   · omega
   · omega
   · omega
   · omega
   · omega
   · omega
   · omega
   · omega
   · omega
   · exact .inr (.inr ⟨b0,by omega,by omega⟩)
  have q_:k=8->cZ.length=es.length:=λe6=>by
   subst e6
   have:cZ.length=es.length/\∀n∈cZ,N n:=by simpa[qL] using ai
   exact this.1
  have EI:(hN k cZ es 0 []).length<=90000:=by
   rcases tq with e|e|⟨e,_,_⟩
   · rw[if_neg (by omega),if_pos e] at cS
     rw[cS] at hlen
     simp at hlen;omega
   · rw[if_pos e] at cS
     rw[cS] at hlen
     simp at hlen;omega
   · rw[e,hN];simp
  refine ajT (lo:=lo) ag aB (by rcases tq with e|e|⟨e,_,_⟩;exact .inl e;exact .inr (.inl e);exact .inr (.inr e)) q_ EI on Nv Ih EG (by omega) aI λz hQ=>?_
  have Ek:=(hQ.get b ag).trans aB
  obtain⟨Fz,r8⟩:∃s,s=hN k cZ es 0 []:=⟨_,rfl⟩
  rw[<-r8] at EI cS⊢
  refine ajR _ b Fz z ⟨k,aN Ek rfl,λmv=>?_,λmv=>⟨λe6=>?_,λe6=>?_⟩⟩
  · rw[if_pos mv] at cS
    have aA:(vE).length<=90000:=hlen
    rw[cS] at aA
    obtain⟨kk,h9⟩:∃s,s=gC l:=⟨_,rfl⟩
    obtain⟨aw,cI,cw⟩:=BC (by simp at aA;omega) m (by omega) (jm.ext hQ ol) (aI.ext hQ)
    have fJ:=hQ.trans hQ.n cw
    rw[<-h9] at cI cS aA
    exact⟨mO,aN Ek rfl,kk,aw,cI,by simp at aA⊢;omega,by simp at aA⊢;omega,by simp at aA⊢;omega,by simp at aA⊢;omega,fin cS fJ⟩
  · rw[if_neg mv,if_pos e6] at cS
    exact⟨by omega,by simp;omega,fin cS hQ⟩
  · rw[if_neg mv,if_neg e6] at cS
    exact fin cS hQ
theorem aj0(lo:Nat)(iO:1<=lo):ug lo none:=λ_ n aT F h v o aI=>by
 have o:v=.au:=o
 subst o
 obtain⟨m,rfl⟩:∃m,n=m+1:=⟨n-1,by omega⟩
 exact ajJ m h (R:=Ig h [63]) ⟨h,rfl,Ext.refl _ _⟩
mutual
theorem VR{N S:bJ->Prop}{s4 lo:Nat}(rZ:EM S s4)(iO:s4<=lo)(mJ:1<=lo):∀e:bX,jl N S e->ug lo (some e)
 |.mk k at' ld x l r c t cZ bl es,h=>ajX rZ iO mJ h.1 (EN rZ iO mJ l h.2.1) (EN rZ iO mJ r h.2.2.1) (EN rZ iO mJ c h.2.2.2.1) (VS rZ iO mJ es h.2.2.2.2)
theorem VS{N S:bJ->Prop}{s4 lo:Nat}(rZ:EM S s4)(iO:s4<=lo)(mJ:1<=lo):∀es:List bX,xh N S es->∀e∈es,ug lo (some e)
 |[],_=>λe he=>by cases he
 |c_::es,h=>by
  have h0:=VR rZ iO mJ c_ h.1
  have J:=VS rZ iO mJ es h.2
  intro e he
  rcases List.mem_cons.1 he with he|he
  · rw[he];exact h0
  · exact J e he
theorem EN{N S:bJ->Prop}{s4 lo:Nat}(rZ:EM S s4)(iO:s4<=lo)(mJ:1<=lo):∀o:Option bX,qM N S o->ug lo o
 |none,_=>aj0 lo mJ
 |some c_,h=>VR rZ iO mJ c_ h
end
end Go.Proofs.lv
