/-
  PROVED HERE: contracts of functions (Dy). No condition beside each statement's own.
-/
import Derived.Test.YtjkomfonmcmgdaaGreatDoorDk
import Derived.Test.YtjkomfonmcmgdaaGreatDoorAed
import Derived.Deep.Strs
import Derived.DataReads
import Derived.OpenShut
import Derived.ChangeSlices
import Derived.Test.YtjkomfonmcmgdaaGreatDoorDh
import Derived.Test.YtjkomfonmcmgdaaGreatDoorDa
set_option linter.unusedVariables false
set_option linter.unusedSimpArgs false
set_option maxRecDepth 100000
set_option maxHeartbeats 1000000
namespace Go.Proofs.kU
open Go bg Go.Proofs ir Go.Proofs.kh
variable {Q:bW->bL->Prop} {R:bE->Prop} (call:aW)
theorem agv(m:Nat)(z:Int)(h:ab)(H:∃aB,mH sn (.int .i64 z) [J 0]=some (J aB)/\R (.ret (.ptr (ab.n (ab.push (ab.push h (.map [] 0)) (.map [] 0))) 0) (ab.push (ab.push (ab.push h (.map [] 0)) (.map [] 0)) (aQ [J aB,aC 0,aC 0,.map h.n,.map (ab.n (ab.push h (.map [] 0)))] 58)))):
  R (Y (m+1) (.fn 7) [.int .i64 z] h):=
 dB [] [] Tryz.func7 H
theorem agw(m p a3:Nat)(h:ab)(H:aq h p 3=some (.map a3)/\∃bn,ec an h .eql 55 (.tmp 9) (.const (.map none)) (.map a3) .jw=some (.bool bn)/\R (.ret (.bool bn) h)):
  R (Y (m+1) (.fn 21) [af p] h):=
 dB [(9,.a1 (.is (.map a3)))] [] Tryz.func21 H
theorem agx(m p r a3:Nat)(h:ab)(H:∃bn ak,Y m (.fn 21) [af p] h=.ret (.bool bn) ak/\bn=false/\∃aB av,Y m (.fn 25) [af r] ak=.ret (J aB) av/\aB=0/\∃aY aD,Y m (.fn 26) [af p,af r] av=.ret (aC aY) aD/\aq aD p 3=some (.map a3)/\∃bd,ho an aD 55 (.map a3) (aC aY) false=some (af bd)/\∃bj,aq aD bd 7=some (J bj)/\bj+1<9223372036854775808/\∃a4,bg.storeCells aD bd 7 [J (bj+1)]=some a4/\∃bk,Y m (.fn 22) [af p] a4=.ret (.aR []) bk/\R (.ret (.aR [aC aY,J 0]) bk)):
  R (Y (m+1) (.fn 11) [af p,af r] h):=
 dB [(1009,.f),(1013,.f),(21,.a1 (.is (.map a3))),(23,.a1 .p)] [] Tryz.func11 H
theorem SL(m p id a3:Nat)(h:ab)(H:∃bn ak,Y m (.fn 21) [af p] h=.ret (.bool bn) ak/\bn=false/\aq ak p 3=some (.map a3)/\∃aB,ho an ak 55 (.map a3) (aC id) true=some (.aR [af aB,.bool true])/\∃aY,aq ak aB 7=some (J aY)/\(aY=0->R (.ret (J 2) ak))/\(¬aY=0->∃bd,aq ak aB 7=some (J bd)/\(1<=bd/\bd<9223372036854775808)/\∃av,bg.storeCells ak aB 7 [J (bd-1)]=some av/\∃aD,Y m (.fn 22) [af p] av=.ret (.aR []) aD/\R (.ret (J 0) aD))):
  R (Y (m+1) (.fn 9) [af p,aC id] h):=
 dB [(1008,.f),(13,.a1 (.is (.map a3))),(15,.a1 (.eQ [.p,.is (.bool true)]))] [] Tryz.func9 H
theorem agy(m p id a3:Nat)(h:ab)(H:∃bn ak,Y m (.fn 21) [af p] h=.ret (.bool bn) ak/\bn=false/\aq ak p 3=some (.map a3)/\ho an ak 55 (.map a3) (aC id) true=some (.aR [.aX,.bool false])/\R (.ret (J 5) ak)):
  R (Y (m+1) (.fn 9) [af p,aC id] h):=
 dB [(1008,.f),(13,.a1 (.is (.map a3))),(15,.a1 (.eQ [.is .aX,.is (.bool false)]))] [] Tryz.func9 H
theorem agz(m p a3:Nat)(h:ab)(H:∃bn ak,Y m (.fn 21) [af p] h=.ret (.bool bn) ak/\bn=false/\aq ak p 3=some (.map a3)/\∃aB,bV an ak 55 (.map a3)=some (J aB)/\R (.ret (J aB) ak)):
  R (Y (m+1) (.fn 17) [af p] h):=
 dB [(1004,.f),(8,.a1 (.is (.map a3)))] [] Tryz.func17 H
theorem SM(a:Int):mH sn (.int .i64 a) [.int .i64 (Int.ofNat 0)]=some (.int .i64 (Int.ofNat a.toNat)):=by
 simp only[mH,sn]
 by_cases h:gY a (Int.ofNat 0)=true
 · have h0:a<0:=by simpa[gY] using h
   rw[if_pos h,show a.toNat=0 by omega];simp
 · have h0:¬a<0:=by simpa[gY] using h
   rw[if_neg h]
   have:Int.ofNat a.toNat=a:=Int.toNat_of_nonneg (by omega)
   rw[this];simp
theorem agA(m:Nat){F:Nat->Prop}{h:ab}(z:Int)(gU:∀b,F b->b<h.n):∃g p,Y (m+1) (.fn 7) [.int .i64 z] h=.ret (.ptr p 0) g/\gK F g p ⟨z.toNat,0,0,[]⟩/\Ext h.n h g:=by
 obtain⟨I,aG⟩:∃x,x=h.push (.map [] 0):=⟨_,rfl⟩
 obtain⟨ae,aE⟩:∃x,x=I.push (.map [] 0):=⟨_,rfl⟩
 obtain⟨ax,bH⟩:∃x,x=ae.push (zx z.toNat 0 0 h.n I.n):=⟨_,rfl⟩
 have aB:I.n=h.n+1:=by rw[aG];rfl
 have aY:ae.n=I.n+1:=by rw[aE];rfl
 have bd:ax.n=ae.n+1:=by rw[bH];rfl
 refine⟨ax,ae.n,agv m z h (R:=λx=>x=.ret (.ptr ae.n 0) ax) ⟨z.toNat,SM z,by rw[bH,aE,aG]⟩,⟨h.n,I.n,0,0,[],⟨?_,?_,?_,?_,?_,?_,.nil,.nil,?_,.nil,?_,by omega,⟨by omega,by omega,by omega,?_⟩,⟨?_,?_,?_⟩,?_,?_,?_⟩,rfl,?_⟩,?_⟩
 · rw[bH];exact e7 rfl
 · rw[bH];refine nn (by omega) ?_;rw[aE];refine nn (by omega) ?_;rw[aG];exact e7 rfl
 · rw[bH];refine nn (by omega) ?_;rw[aE];exact e7 rfl
 · intro x aa;cases aa
 · intro x aa;cases aa
 · intro x aa;cases aa
 · intro x aa;cases aa
 · intro x aa;cases aa
 · intro x aa;cases aa
 · intro hf;have:=gU _ hf;omega
 · intro hf;have:=gU _ hf;omega
 · intro hf;have:=gU _ hf;omega
 · intro x aa;cases aa
 · intro x aa;cases aa
 · intro x aa;cases aa
 · intro x aa;cases aa
 · rw[bH];refine Ext.lV (by omega) ?_;rw[aE];refine Ext.lV (by omega) ?_;rw[aG];exact Ext.push (Nat.le_refl _) _
theorem vq(m:Nat){F:Nat->Prop}{h:ab}{p a3 b7 aM bf cap given clock:Nat}{M:List Mem}(w:ha F h p a3 b7 aM bf cap given clock M):Y (m+1) (.fn 21) [.ptr p 0] h=.ret (.bool false) h:=
 agw m p a3 h (R:=λx=>x=.ret (.bool false) h) ⟨aF w.st rfl,false,by kernel_rfl,rfl⟩
theorem SN(m:Nat){F:Nat->Prop}{h:ab}{p:Nat}{s:bZ}(w:gK F h p s):Y (m+2) (.fn 17) [.ptr p 0] h=.ret (J s.l.length) h:=by
 obtain⟨a3,b7,aM,bf,M,w,r⟩:=w
 refine agz (m+1) p a3 h (R:=λx=>x=.ret (J s.l.length) h) ⟨false,h,vq m w,rfl,aF w.st rfl,s.l.length,?_,rfl⟩
 have hu:=zu
 simp only[bV,hu,w.aG,List.length_map]
 rw[<-r.e,List.length_map]
structure Fit(K:Nat)(s:bZ):Prop where
 ok:eg s
 nm:∀e∈s.l,e.args.length<=61/\k2 e.ns
 kB:s.given<=K
 qa:s.clock<=K
 pins:∀e∈s.l,e.pins<=K
theorem Fit.cK{K:Nat}{s:bZ}(f:Fit K s)(h:K<=10000):se s:=⟨λe he=>(f.nm e he).1,λe he=>(f.nm e he).2,by have:=f.kB;omega,by have:=f.qa;omega⟩
theorem Fit.room{K:Nat}{s:bZ}(f:Fit K s):Fit K (oy s):=⟨JO _ _ f.ok,λe he=>f.nm e (zj _ _ _ e he),f.kB,f.qa,λe he=>f.pins e (zj _ _ _ e he)⟩
theorem Fit.map{K zL:Nat}{s:bZ}(f:Fit K s)(dg:K<=zL){g:b3->b3}(ar:zh g)(aV:∀e,(g e).args=e.args/\(g e).ns=e.ns)(a0:∀e,(g e).pins<=e.pins+(zL-K)):Fit zL {s with l:=s.l.map g}:=by
 refine⟨f.ok.map ar,λe he=>?_,by have:=f.kB;show s.given<=_;omega,by have:=f.qa;show s.clock<=_;omega,λe he=>?_⟩<;>obtain⟨x,aa,rfl⟩:=List.mem_map.1 he
 · rw[(aV x).1,(aV x).2];exact f.nm x aa
 · have:=a0 x
   have:=f.pins x aa
   omega
theorem agB:∀(t:aJ) (s:bZ),eg s->∀e∈(ch t s).2.l,e.pins=0\/∃q∈s.l,q.pins=e.pins:=λt s al e he=>by
 obtain⟨_,g,_⟩:=oA t al
 rcases g.new e he with⟨q,aK,aV⟩|⟨_,h⟩
 · exact .inr ⟨q,aK,aV.pins.symm⟩
 · exact .inl h
theorem Fit.lay{K:Nat}{s:bZ}(f:Fit K s){t:aJ}(ah:dE (some t)=0):Fit (K+sz t) (ch t s).2:=by
 obtain⟨aB,aY,_⟩:=FJ t s
 refine⟨(oA t f.ok).1,Kz t s ah f.nm,by have:=f.kB;omega,by have:=f.qa;omega,λe he=>?_⟩
 rcases agB t s f.ok e he with h|⟨q,aK,h⟩
 · omega
 · have:=f.pins q aK;omega
theorem CH(i:Nat)(e:b3):(jZ i e).args=e.args/\(jZ i e).ns=e.ns:=by unfold jZ;split<;>exact⟨rfl,rfl⟩
theorem CI(i:Nat)(e:b3):(kY i e).args=e.args/\(kY i e).ns=e.ns:=by unfold kY;split<;>exact⟨rfl,rfl⟩
theorem KQ(i:Nat)(e:b3):(jZ i e).pins<=e.pins+1:=by
 unfold jZ
 split
 · exact Nat.le_refl _
 · exact Nat.le_succ _
theorem KR(i:Nat)(e:b3):(kY i e).pins<=e.pins:=by
 unfold kY
 split
 · exact Nat.sub_le _ _
 · exact Nat.le_refl _
theorem Fit.intern{K:Nat}{s:bZ}(f:Fit K s){t:aJ}(ah:dE (some t)=0):Fit (K+61) (gl t s).2:=by
 have cz:=(lK.1 ah).1
 exact((f.lay ah).map (by omega:K+sz t<=K+61) (tm _) (CH _) λe=>Nat.le_trans (KQ _ e) (by omega)).room
theorem Fit.rel{K:Nat}{s:bZ}(f:Fit K s)(i:Nat):Fit K (iI i s).2:=by
 unfold iI
 cases nE i s.l with
 |none=>exact f
 |some e=>
  simp only
  split
  · exact f
  · exact(f.map (Nat.le_refl K) (zi _) (CI _) λe=>Nat.le_trans (KR _ e) (by omega)).room
theorem agC(f:Nat->Nat):zB λy=>{y with e:={y.e with pins:=f y.e.pins}}:=⟨λ_=>rfl,λ_=>rfl,λ_=>rfl,λ_=>rfl,λ_=>rfl,λ_=>rfl,λ_=>rfl,λ_=>rfl,λ_=>rfl⟩
theorem ha.SO{F:Nat->Prop}{h:ab}{p a3 b7 aM bf cap given clock:Nat}{M:List Mem}{l:List b3}(w:ha F h p a3 b7 aM bf cap given clock M)(r:zC l M){x:Mem}(aa:x∈M)(f:Nat->Nat){g:b3->b3}(ar:∀e,g e=if e.id=x.e.id then{e with pins:=f e.pins} else e):∃k,bg.storeCells h x.b (0+7) [J (f x.e.pins)]=some k/\cj F h k/\∃fx,ha F k p a3 b7 aM bf cap given clock fx/\zC (l.map g) fx:=by
 have u:=w.gx aa (agC f)
 refine⟨_,eV (w.ev x aa) rfl rfl,cj.set (b:=x.b) (w.ne x aa),_,u,⟨?_,λy aZ=>?_⟩⟩
 · unfold oC
   rw[List.map_map,<-r.e,List.map_map]
   refine List.map_congr_left λy _=>?_
   show(if y.e.id=x.e.id then({y with e:={y.e with pins:=f y.e.pins}}:Mem) else y).e=g y.e
   rw[ar]
   split<;>rfl
 · obtain⟨z,a7,rfl⟩:=List.mem_map.1 aZ
   have a0:∀e,(g e).parts=e.parts:=λe=>by rw[ar];split<;>rfl
   rw[KD _ a0]
   have:=r.ai z a7
   split<;>exact this
theorem agD(m:Nat){F:Nat->Prop}{h:ab}{p r K:Nat}{s:bZ}{t:aJ}(hm:1000<=m)(w:gK F h p s)(f:Fit K s)(dg:K+61<=10000)(gU:∀b,F b->b<h.n)(aI:ew F h t (.ptr r 0))(ah:dE (some t)=0):∃g,Y (m+1) (.fn 11) [.ptr p 0,.ptr r 0] h=.ret (.aR [aC (gl t s).1,J 0]) g/\gK F g p (gl t s).2/\cj F h g:=by
 obtain⟨dz,ek⟩:=Ca ah
 have fm:dk (some t)=sz t:=jk t
 obtain⟨m,rfl⟩:∃k,m=k+10:=⟨m-10,by omega⟩
 have qu:∃av,Y (m+10) (.fn 25) [.ptr r 0] h=.ret (J 0) av/\Ext h.n h av:=by
  have KS:d_ h.n h (some t) (.ptr r 0):=ew.at gU _ _ aI
  obtain⟨av,aE,cJ⟩:=adf (m+9) (by omega) (λu e=>by cases e;omega) (by omega) (Nat.le_refl _) KS
  rw[ah] at aE
  exact⟨av,aE,cJ⟩
 obtain⟨av,bf,cJ⟩:=qu
 have db:gK F av p s:=w.move cJ.n (λd ai _ _=>cJ.get d ai) λd _ h=>.inl h
 obtain⟨aD,ee,lr,dF⟩:=KG (sz t) t (Nat.le_refl _) ah (m+10) (by omega) F av p (.ptr r 0) s db f.ok f.nm (by have:=f.qa;omega) (by have:=f.kB;omega) (λb ag=>by have:=gU b ag;have:=cJ.n;omega) (ew.bB (λb ag=>⟨ag,cJ.get b (gU b ag)⟩) _ _ aI)
 obtain⟨a3,b7,d1,d2,M,lr,e5⟩:=lr
 have tx:=f.lay ah
 obtain⟨q,aK,my⟩:=(oA t f.ok).2.2
 obtain⟨x,aa,sh⟩:=List.mem_map.1 (e5.e▸aK:q∈M.map Mem.e)
 have q6:x.e.id=(ch t s).1:=by rw[sh];exact my
 have KT:x.e.pins<=10000:=by have:=tx.pins q aK;rw[sh];omega
 obtain⟨gA,b_,KU,si,sM,gh⟩:=lr.SO e5 aa (λn=>n+1) (g:=jZ (ch t s).1) λe=>by rw[q6];rfl
 have f4:Fit (K+61) {(ch t s).2 with l:=(ch t s).2.l.map (jZ (ch t s).1)}:=tx.map (by omega:K+sz t<=K+61) (tm _) (CH _) λe=>Nat.le_trans (KQ _ e) (by omega)
 obtain⟨bk,ox,zw,hg⟩:=Sh (m+8) (s:={(ch t s).2 with l:=(ch t s).2.l.map (jZ (ch t s).1)}) ⟨a3,b7,d1,d2,si,sM,gh⟩ f4.ok (f4.cK dg)
 have sj:Y (m+10) (.fn 21) [.ptr p 0] h=.ret (.bool false) h:=by
  obtain⟨cu,cU,dm,e0,ey,s8,_⟩:=w
  exact vq (m+9) s8
 have eo:=tt lr.aG lr.up aa false
 rw[q6] at eo
 exact⟨bk,agx (m+10) p r a3 h (R:=λy=>y=.ret (.aR [aC (gl t s).1,J 0]) bk) ⟨false,h,sj,rfl,0,av,bf,rfl,(ch t s).1,aD,ee,aF lr.st rfl,x.b,eo,x.e.pins,aF (lr.ev x aa) rfl,by omega,gA,b_,bk,ox,rfl⟩,zw,(cj.ext cJ).trans (dF.trans (KU.trans hg))⟩
theorem agE(m:Nat){F:Nat->Prop}{h:ab}{p id K:Nat}{s:bZ}(w:gK F h p s)(f:Fit K s)(dg:K<=10000):∃g,Y (m+3) (.fn 9) [.ptr p 0,aC id] h=.ret (J (iI id s).1) g/\gK F g p (iI id s).2/\cj F h g:=by
 have h3:=w
 obtain⟨a3,b7,aM,bf,M,w,r⟩:=w
 have sj:=vq (m+1) w
 cases hf:nE id s.l with
 |none=>
  have e:iI id s=(5,s):=by unfold iI;rw[hf]
  rw[e]
  have aH:∀x∈M,x.e.id≠id:=λx aa h=>by
   have:=List.find?_eq_none.1 hf x.e (by rw[<-r.e];exact List.mem_map.2 ⟨x,aa,rfl⟩)
   rw[h] at this;simp[Nat.beq_refl] at this
  exact⟨h,agy (m+2) p id a3 h (R:=λy=>y=.ret (J 5) h) ⟨false,h,sj,rfl,aF w.st rfl,Co w.aG aH true,rfl⟩,h3,cj.refl _ _⟩
 |some q=>
  obtain⟨a8,a2⟩:=B5 hf
  obtain⟨x,aa,sh⟩:=List.mem_map.1 (r.e▸a8:q∈M.map Mem.e)
  have q6:x.e.id=id:=by rw[sh];exact a2
  have eo:=tt w.aG w.up aa true
  rw[q6] at eo
  have KT:x.e.pins<=10000:=by have:=f.pins q a8;rw[sh];omega
  by_cases h0:q.pins=0
  · have e:iI id s=(2,s):=by unfold iI;rw[hf];simp only[if_pos h0]
    rw[e]
    exact⟨h,SL (m+2) p id a3 h (R:=λy=>y=.ret (J 2) h) ⟨false,h,sj,rfl,aF w.st rfl,x.b,eo,x.e.pins,aF (w.ev x aa) rfl,λ_=>rfl,λh=>absurd (by rw[sh];exact h0) h⟩,h3,cj.refl _ _⟩
  · have e:iI id s=(0,oy {s with l:=s.l.map (kY id)}):=by unfold iI;rw[hf];simp only[if_neg h0]
    rw[e]
    obtain⟨gA,b_,KU,si,sM,gh⟩:=w.SO r aa (λn=>n-1) (g:=kY id) λe=>by rw[q6];rfl
    have f4:Fit K {s with l:=s.l.map (kY id)}:=f.map (Nat.le_refl K) (zi _) (CI _) λe=>Nat.le_trans (KR _ e) (by omega)
    obtain⟨bk,ox,zw,hg⟩:=Sh m (s:={s with l:=s.l.map (kY id)}) ⟨a3,b7,aM,bf,si,sM,gh⟩ f4.ok (f4.cK dg)
    have agF:x.e.pins≠0:=by rw[sh];exact h0
    exact⟨bk,SL (m+2) p id a3 h (R:=λy=>y=.ret (J 0) bk) ⟨false,h,sj,rfl,aF w.st rfl,x.b,eo,x.e.pins,aF (w.ev x aa) rfl,λh=>absurd h agF,λ_=>⟨x.e.pins,aF (w.ev x aa) rfl,⟨by omega,by omega⟩,gA,b_,bk,ox,rfl⟩⟩,zw,KU.trans hg⟩
theorem KV(m:Nat)(h:ab):Y (m+1) (.fn 15) [] h=.ret (.bool true) h:=by
 have e:ea 15 [] h=some (.bool true,h):=by kernel_rfl
 show fF an ea (m+1) _ _ _=_
 simp only[fF,e]
theorem agG(m:Nat)(hm:200000<=m){B:Nat}{h y:ab}{p:Nat}{s:bZ}{v:ad}{cs:bb}{F:Nat->Prop}(gU:∀b,F b->b<y.n)(w:gK F y p s)(aI:pn y.n y v cs):∃r g,Y (m+8) (.fn 12) [v] y=.ret (.ptr r 0) g/\gK (λd=>F d\/lL y.n g.n d) g p s/\ew (λd=>F d\/lL y.n g.n d) g (B1 cs) (.ptr r 0)/\Ext y.n y g:=by
 obtain⟨r,g,c,x,t⟩:=RP m hm aI
 refine⟨r,g,c,w.move x.n (λd ai _ _=>x.get d ai) (λd ai h=>?_),ew.bB (λb ag=>⟨.inr ag,rfl⟩) _ _ t,x⟩
 rcases h with h|h
 · exact .inl h
 · have:=h.1;omega
open Go bg Go.Proofs ir Go.Proofs.kh Go.ChangeShapes Go.WideShapes Go.ChangeAt Go.RowKit Go.ChangeMaps
theorem FX{W:World}{a:Addr}{m j:Nat}{v:Value}(h:W.cell? ((a.add m).add j)=some v):∃c el fz,W.heap[a.block]? =some (.cells c el fz)/\c[a.off+m+j]? =some v/\(m=0->j=0->a.spot=none):=by
 have ag:((a.add m).add j).block=a.block:=by
  unfold Addr.add
  split<;>split<;>rfl
 have bc:((a.add m).add j).off=a.off+m+j:=by
  unfold Addr.add
  split<;>split<;>simp_all
 unfold World.cell? at h
 rw[ag,bc] at h
 split at h
 · rename_i c el fz aa
   split at h
   · cases h
   · rename_i al
     refine⟨c,el,fz,aa,h,λI ae=>?_⟩
     subst I;subst ae
     simpa[Addr.add] using al
 · cases h
def tz(rows:List (fO×List ad×Nat))(μ:bI)(h:ab)(B:Nat):Prop:=∀(k:Nat) (x:fO×List ad×Nat),rows[k]? =some x->μ (B+k)=some x.1/\h.get (B+k)=some (.cells x.2.1 x.2.2 .ro 0 0)/\B+k<h.n
theorem SP{r1 r2:List (fO×List ad×Nat)}{μ:bI}{h:ab}{B:Nat}(ao:tz (r1++r2) μ h B):tz r1 μ h B/\tz r2 μ h (B+r1.length):=by
 refine⟨λk x ay=>ao k x ?_,λk x ay=>?_⟩
 · rw[List.getElem?_append_left (List.getElem?_eq_some_iff.1 ay).1];exact ay
 · have:=ao (r1.length+k) x (by rw[List.getElem?_append_right (by omega),Nat.add_sub_cancel_left];exact ay)
   rw[Nat.add_assoc];exact this
theorem agH{rows:List (fO×List ad×Nat)}:tz rows (sW an.globals.size (rows.map (·.1))) (wj an.globals.size (rows.map (·.2))) an.globals.size:=by
 intro k x ay
 refine⟨W6 ay,W7 ay,?_⟩
 have:=(List.getElem?_eq_some_iff.1 ay).1
 rw[HG,List.length_map];omega
theorem agI{P:Program}{W:World}{base:Nat}{t e:TypeId}(bm:P.underlying t=some (.slice e)){a:Addr}{len cap:Nat}(h:Cell.okWide P W .any base t (.slice (some a) len cap)):∃c el fz,W.heap[a.block]? =some (.cells c el fz):=by
 simp only[Cell.okWide,bm,Cell.ok] at h
 obtain⟨_,_,_,_,row,cells,al,_⟩:=h
 unfold World.shape? at al
 cases ag:W.heap[a.block]? with
 |none=>simp[ag] at al
 |some o=>
  rw[ag] at al
  cases o with
  |cells c el fz=>exact⟨c,el,fz,rfl⟩
  |_=>cases al
def FY(μ:bI)(W:World)(i:fO)(cs:List ad)(el:Nat):Prop:=∃c fz,W.heap[i.bx]? =some (.cells c el fz)/\De μ cs c i.base/\i.base+i.size=c.size
theorem agJ{P:Program}{W:World}(kP:P.globals.size<=W.heap.size)(l:List (fO×List ad×Nat))(aA:∀x∈l,FY (sW P.globals.size (l.map (·.1))) W x.1 x.2.1 x.2.2):
  bK (sW P.globals.size (l.map (·.1))) (wj P.globals.size (l.map (·.2))) W/\iA P (sW P.globals.size (l.map (·.1)))/\A3 (wj P.globals.size (l.map (·.2))):=by
 have ro:∀b o,(wj P.globals.size (l.map (·.2))).get b=some o->∃x,l[b-P.globals.size]? =some x/\¬b<P.globals.size/\o=.cells x.2.1 x.2.2 .ro 0 0:=by
  intro b o h
  rw[HH] at h
  split at h
  · cases h
  · rename_i ag
    rw[List.getElem?_map] at h
    cases aa:l[b-P.globals.size]? with
    |none=>rw[aa] at h;cases h
    |some x=>rw[aa] at h;cases h;exact⟨x,rfl,ag,rfl⟩
 refine⟨⟨λb o j h aO=>?_,λb c' j k I ae=>?_,λb j h=>?_,λb h=>?_⟩,λg ar=>⟨⟨g,0,0⟩,by simp[sW,ar],rfl,rfl⟩,λb o h=>?_⟩
 · obtain⟨x,aa,ag,rfl⟩:=ro b o h
   have hx:=aO
   unfold sW at hx
   rw[if_neg ag,List.getElem?_map,aa] at hx
   cases hx
   obtain⟨c,fz,a8,a2,bX⟩:=aA x (List.mem_of_getElem? aa)
   exact⟨c,fz.1,fz.2,a8,a2,bX,trivial⟩
 · obtain⟨o,ae,ax⟩:=ae
   obtain⟨x,_,_,rfl⟩:=ro _ o ae
   cases ax
 · rw[HG,List.length_map]
   unfold sW at h
   split at h
   · rename_i ag;cases h;exact⟨by omega,Nat.lt_of_lt_of_le ag kP⟩
   · rw[List.getElem?_map] at h
     cases aa:l[b-P.globals.size]? with
     |none=>rw[aa] at h;cases h
     |some x=>
      rw[aa] at h;cases h
      obtain⟨c,fz,a8,_⟩:=aA x (List.mem_of_getElem? aa)
      have:=(List.getElem?_eq_some_iff.1 aa).1
      exact⟨by omega,(Array.getElem?_eq_some_iff.1 a8).1⟩
 · rw[HG,List.length_map] at h
   rw[HH,if_neg (by omega),List.getElem?_map,List.getElem?_eq_none (by omega)];rfl
 · obtain⟨x,_,_,rfl⟩:=ro b o h;rfl
theorem agK{W:World}{i:fO}{cs:List ad}{el:Nat}(h:HI W i cs el)(μ:bI):FY μ W i cs el:=by
 obtain⟨c,fz,I,ae,ax⟩:=h
 exact⟨c,fz,I,ae μ,ax⟩
theorem Ad{W:World}{a:Addr}{j:Nat}{v:Value}(h:W.cell? (a.add j)=some v):∃c el fz,W.heap[a.block]? =some (.cells c el fz)/\c[a.off+j]? =some v/\(j=0->a.spot=none):=by
 have c6:(a.add 0).add j=a.add j:=by simp[Addr.add]
 obtain⟨c,el,fz,a8,a2,bX⟩:=FX (W:=W) (a:=a) (m:=0) (j:=j) (by rw[c6];exact h)
 exact⟨c,el,fz,a8,by simpa using a2,bX rfl⟩
theorem agL{P:Program}{W:World}{r:Reach}{base u e:Nat}{v:Value}(hu:P.underlying u=some (.slice e))(h:Cell.okWide P W r base u v):∃a len cap,v=.slice a len cap:=by
 simp only[Cell.okWide,hu] at h
 cases v<;>simp_all [Cell.ok]
theorem agM:an.underlying 27=some (.slice 5):=by kernel_rfl
theorem SQ(l:List UInt8)(i:Nat)(h:i<l.length):(dR l)[i]? =some (.int .u8 (Int.ofNat (l[i]).toNat)):=by
 induction l generalizing i with
 |nil=>simp at h
 |cons x l bl=>
  cases i with
  |zero=>rfl
  |succ i=>simp only[dR,List.getElem?_cons_succ,List.getElem_cons_succ];exact bl i (by simpa using h)
theorem agN{H:Type}{enc:TypeId×Value->H}{W:World}{sp:Nat->Bool}{held:Bool}{fuel:Nat}{c0:Value}{x:DataW H×List MemPlace}(h:DataW.trod enc an W 0 sp held fuel 27 [c0]=some x):
  ∃n4 rows,(∀x∈rows,HI W x.1 x.2.1 x.2.2)/\∀B mC,∃z,∀(μ:bI) (h:ab) i0,μ mC=some i0->mC<h.n->tz rows μ h B->pn h.n h z n4/\bz μ z c0:=by
 have hu:an.underlying 5=some (.int .u8):=by kernel_rfl
 rcases open_ints agM hu (by kernel_rfl) h with⟨e,_⟩|⟨a,len,cap,nK,e,_,hle,_,pE,_,ah,vX⟩
 · cases e
   exact⟨[],[],by simp,λB mC=>⟨.aP,λμ h i0 _ _ _=>⟨.inl ⟨rfl,rfl⟩,rfl⟩⟩⟩
 · cases e
   by_cases h0:len=0
   · subst h0
     exact⟨[],[],by simp,λB mC=>⟨.slice mC 0 0 .dead,λμ h i0 I ax _=>⟨.inr ⟨mC,0,.dead,rfl,ax,rfl,λi hi=>by simp at hi⟩,⟨_,I,rfl,a,cap,rfl⟩⟩⟩⟩
   · have aA:len<=nK.length:=by rw[pE];split<;>omega
     obtain⟨c,el,fz,ag,_,_⟩:=Ad (ah 0 (by omega))
     have jJ:∀i,i<nK.length->c[a.off+i]? =some (.int .u8 (nK.getD i 0))/\(i=0->a.spot=none):=by
      intro i hi
      obtain⟨c',qv,SR,a8,a2,bX⟩:=Ad (ah i hi)
      rw[ag] at a8
      cases a8
      exact⟨a2,bX⟩
     obtain⟨ng,al⟩:=jJ 0 (by omega)
     have CJ:=al rfl
     have Dt:a.off<=c.size:=by have:=(Array.getElem?_eq_some_iff.1 ng).1;omega
     obtain⟨n4,yi⟩:∃n4,n4=(nK.take len).map λz=>UInt8.ofNat z.toNat:=⟨_,rfl⟩
     have xC:n4.length=len:=by rw[yi];simp;omega
     refine⟨n4,[(⟨a.block,a.off,c.size-a.off⟩,dR n4,el)],λx aa=>?_,λB mC=>⟨.slice B 0 len (.exact cap),λμ h i0 _ _ ao=>?_⟩⟩
     · obtain rfl:x=_:=by simpa using aa
       refine⟨c,fz,ag,λμ j v aO=>?_,by simp;omega⟩
       have xY:j<len:=by
        have:=(List.getElem?_eq_some_iff.1 aO).1
        simp only[Kn,xC] at this;exact this
       have KW:j<nK.length:=by omega
       refine⟨_,(jJ j KW).1,?_⟩
       have aH:=SQ n4 j (by rw[xC];exact xY)
       simp only at aO
       rw[aH] at aO
       cases aO
       have hw:=vX nK[j] (List.getElem_mem KW)
       have a7:0<=nK[j]/\nK[j]<256:=by
        have As:IntKind.u8.min<=nK[j]/\nK[j]<=IntKind.u8.max:=by simpa[Lit.wf] using hw
        have a3:IntKind.u8.min=0:=by decide
        have b7:IntKind.u8.max=255:=by decide
        rw[a3,b7] at As
        omega
       have aG:nK.getD j 0=nK[j]:=by simp[List.getD,List.getElem?_eq_getElem KW]
       rw[aG]
       have aE:(n4[j]'(by rw[xC];exact xY)).toNat=nK[j].toNat:=by
        subst yi
        rw[List.getElem_map,List.getElem_take,UInt8.toNat_ofNat'];omega
       rw[aE]
       have bH:Int.ofNat nK[j].toNat=nK[j]:=by
        have:=Int.toNat_of_nonneg a7.1;simpa using this
       rw[bH];rfl
     · obtain⟨I,ae,ax⟩:=ao 0 _ rfl
       simp only[Nat.add_zero] at I ae ax
       refine⟨.inr ⟨B,0,.exact cap,by rw[xC],ax,by show n4.length<=cap;rw[xC];exact hle,λi hi=>?_⟩,⟨_,I,?_⟩⟩
       · rw[Nat.zero_add,Nat.mul_one]
         exact lb ae (SQ n4 i hi)
       · obtain⟨bx,off,spot⟩:=a
         simp only at CJ
         subst CJ
         rfl
theorem agO(m p id a3:Nat)(h:ab)(H:∃bn ak,Y m (.fn 21) [af p] h=.ret (.bool bn) ak/\(bn=true->R (.ret (J 0) ak))/\(bn=false->aq ak p 3=some (.map a3)/\∃aB,ho an ak 55 (.map a3) (aC id) false=some (af aB)/\aq ak p 3=some (.map a3)/\∃aY,ho an ak 55 (.map a3) (aC id) false=some (af aY)/\∃bd,aq ak aY 7=some (J bd)/\R (.ret (J bd) ak))):
  R (Y (m+1) (.fn 18) [af p,aC id] h):=
 dB [(1015,.f),(11,.a1 (.is (.map a3))),(13,.a1 .p),(19,.a1 (.is (.map a3))),(21,.a1 .p)] [] Tryz.func18 H
theorem agP(m p id a3:Nat)(h:ab)(H:∃bn ak,Y m (.fn 21) [af p] h=.ret (.bool bn) ak/\(bn=true->R (.ret (J 0) ak))/\(bn=false->aq ak p 3=some (.map a3)/\ho an ak 55 (.map a3) (aC id) false=some .aX/\R (.ret (J 0) ak))):
  R (Y (m+1) (.fn 18) [af p,aC id] h):=
 dB [(11,.a1 (.is (.map a3))),(13,.a1 (.is .aX))] [] Tryz.func18 H
def zM(id:Nat)(s:bZ):Nat:=match nE id s.l with
 |some e=>e.pins
 |none=>0
theorem SS(m:Nat){F:Nat->Prop}{h:ab}{p id:Nat}{s:bZ}(w:gK F h p s):Y (m+2) (.fn 18) [.ptr p 0,aC id] h=.ret (J (zM id s)) h:=by
 obtain⟨a3,b7,aM,bf,M,w,r⟩:=w
 have sj:=vq m w
 unfold zM
 cases hf:nE id s.l with
 |none=>
  have aH:∀x∈M,x.e.id≠id:=λx aa h=>by
   have:=List.find?_eq_none.1 hf x.e (by rw[<-r.e];exact List.mem_map.2 ⟨x,aa,rfl⟩)
   rw[h] at this;simp[Nat.beq_refl] at this
  exact agP (m+1) p id a3 h (R:=λy=>y=.ret (J 0) h) ⟨false,h,sj,λh=>(by cases h),λ_=>⟨aF w.st rfl,Co w.aG aH false,rfl⟩⟩
 |some q=>
  obtain⟨a8,a2⟩:=B5 hf
  obtain⟨x,aa,sh⟩:=List.mem_map.1 (r.e▸a8:q∈M.map Mem.e)
  have q6:x.e.id=id:=by rw[sh];exact a2
  have eo:=tt w.aG w.up aa false
  rw[q6] at eo
  exact agO (m+1) p id a3 h (R:=λy=>y=.ret (J q.pins) h) ⟨false,h,sj,λh=>(by cases h),λ_=>⟨aF w.st rfl,x.b,eo,aF w.st rfl,x.b,eo,x.e.pins,aF (w.ev x aa) rfl,by rw[sh]⟩⟩
theorem bT.lt{D:Type}{enc:D->List ad}{w el B:Nat}{h:ab}{v:ad}{ds:List D}(bc:bT enc w el B h v ds):∀d k cp,v=.slice d 0 k cp->B<=d/\d<h.n:=by
 intro d k cp e
 rcases bc with⟨rfl,_⟩|⟨q,rfl,_,_,aN,bS⟩
 · cases e
 · cases e;exact⟨aN,bS⟩
theorem agQ(m p id a3:Nat)(h:ab)(H:∃bn ak,Y m (.fn 21) [af p] h=.ret (.bool bn) ak/\(bn=true->R (.ret (.aR [.aX,.bool false]) ak))/\(bn=false->aq ak p 3=some (.map a3)/\ho an ak 55 (.map a3) (aC id) false=some .aX/\R (.ret (.aR [.aX,.bool false]) ak))):
  R (Y (m+1) (.fn 19) [af p,aC id] h):=
 dB [(18,.a1 (.is (.map a3))),(20,.a1 (.is .aX))] [] Tryz.func19 H
theorem agR(m p id a3:Nat)(h:ab)(H:∃bn ak,Y m (.fn 21) [af p] h=.ret (.bool bn) ak/\(bn=true->R (.ret (.aR [.aX,.bool false]) ak))/\(bn=false->aq ak p 3=some (.map a3)/\∃aB,ho an ak 55 (.map a3) (aC id) false=some (af aB)/\aq ak p 3=some (.map a3)/\∃aY,ho an ak 55 (.map a3) (aC id) false=some (af aY)/\∃bd,aq (ak.room 18) aY 0=some (J bd)/\∃s1,aq (ak.room 18) aY 1=some (.str s1)/\∃v1,aq (ak.room 18) aY 5=some v1/\∃v2 av,Y m (.fn 38) [v1] (ak.room 18)=.ret v2 av/\g4 v2/\g4 v2/\aq (ab.set av (ak.n+16) (some (aQ [J bd,.str s1,v2,.aP,.aX] 80))) aY 0=some (J bd)/\aq (ab.set av (ak.n+16) (some (aQ [J bd,.str s1,v2,.aP,.aX] 80))) aY 1=some (.str s1)/\cr v1/\cr v2/\∃b8,aq (ab.set av (ak.n+16) (some (aQ [J bd,.str s1,v2,.aP,.aX] 80))) aY 6=some b8/\∃bj,bV an (ab.set av (ak.n+16) (some (aQ [J bd,.str s1,v2,.aP,.aX] 80))) 44 b8=some (J bj)/\bp an Tryz.f19 (Y m) [1,1,1,1,0,1,0] (aj [(0,af p),(6,af aY),(7,af (ak.n+16)),(49,b8),(50,J bj),(51,J 0)] (ab.set av (ak.n+16) (some (aQ [J bd,.str s1,v2,.aP,.aX] 80)))) (λb2 cc=>∃bC bP aD bt,b2=.exit 0/\cc=aj bt aD/\bY [(0,af p),(6,af bC),(7,af bP)] bt/\∃cd,aq aD bC 4=some (aC cd)/\∃v4 bo a4,Y m (.fn 19) [af p,aC cd] aD=.ret (.aR [v4,.bool bo]) a4/\g4 v4/\∃bk,bg.storeCells a4 bP 4 [v4]=some bk/\R (.ret (.aR [af bP,.bool true]) bk)))):
  R (Y (m+1) (.fn 19) [af p,aC id] h):=
 dB [(1022,.f),(18,.a1 (.is (.map a3))),(20,.a1 .p),(26,.a1 (.is (.map a3))),(28,.a1 .p),(43,.a1 .o),(49,.a1 .o),(80,.a1 (.eQ [.o,.b])),(4000,.fj [0,6,7,49,50,51] [(.exit 0,[(0,.is (af p)),(6,.p),(7,.p)])])] [] Tryz.func19 H
theorem agS(p e t b off N i:Nat)(cp:ct)(h:ab)(H:(i<N->i<N/\∃aB,aq h b (off+i*1)=some (aC aB)/\∃aY bn ak,call (.fn 19) [af p,aC aB] h=.ret (.aR [af aY,.bool bn]) ak/\∃v1,aq ak t 3=some v1/\∃v2 av,dJ an (ab.push ak (aQ [af aY] 35)) 50 (some 50) v1 (.slice ak.n 0 1 (.exact 1))=some (v2,av)/\g4 v2/\∃aD,bg.storeCells av t 3 [v2]=some aD/\i+1<9223372036854775808/\Q .nrm (aj [(0,af p),(6,af e),(7,af t),(49,.slice b off N cp),(50,J N),(51,J (i+1))] aD))/\(¬i<N->Q (.exit 0) (aj [(0,af p),(6,af e),(7,af t),(49,.slice b off N cp),(50,J N),(51,J i)] h))):
  bp an Tryz.f19 call [1,1,1,1,0,1,0,0] (aj [(0,af p),(6,af e),(7,af t),(49,.slice b off N cp),(50,J N),(51,J i)] h) Q:=
 c3 [(58,.a1 (.eQ [.p,.b]))] [0,6,7,49,50,51] [] H
theorem agT(p e t:Nat)(v:ad)(h:ab)(H:¬0<0/\Q (.exit 0) (aj [(0,af p),(6,af e),(7,af t)] h)):
  bp an Tryz.f19 call [1,1,1,1,0,1,0,0] (aj [(0,af p),(6,af e),(7,af t),(49,v),(50,J 0),(51,J 0)] h) Q:=
 c3 [(1052,.f)] [0,6,7] [49] H
theorem SU(m:Nat){F:Nat->Prop}{h:ab}{p i:Nat}{s:bZ}(w:gK F h p s)(aH:∀e∈s.l,e.id≠i):Y (m+2) (.fn 19) [.ptr p 0,aC i] h=.ret (.aR [.aX,.bool false]) h:=by
 obtain⟨a3,b7,aM,bf,M,w,r⟩:=w
 have gB:∀x∈M,x.e.id≠i:=λx aa=>aH x.e (by rw[<-r.e];exact List.mem_map.2 ⟨x,aa,rfl⟩)
 exact agQ (m+1) p i a3 h (R:=λy=>y=.ret (.aR [.aX,.bool false]) h) ⟨false,h,vq m w,λh=>(by cases h),λ_=>⟨aF w.st rfl,Co w.aG gB false,rfl⟩⟩
def agU(n:Nat)(t:aJ):Prop:=∀(F:Nat->Prop) (h:ab) (p i:Nat) (s:bZ),gK F h p s->eg s->gC s.l i t->∃r g,Y n (.fn 19) [.ptr p 0,aC i] h=.ret (.aR [.ptr r 0,.bool true]) g/\Ext h.n h g/\ew (lL h.n g.n) g t (.ptr r 0)
theorem gK.ext{F:Nat->Prop}{h g:ab}{p:Nat}{s:bZ}(w:gK F h p s)(e:Ext h.n h g):gK F g p s:=w.move e.n (λd ai _ _=>e.get d ai) λd _ h=>.inl h
theorem KX{l:List b3}:∀{m6:List Nat} {cF:List aJ},kZ l m6 cF->m6.length=cF.length/\∀i (I:i<m6.length) (ae:i<cF.length),gC l m6[i] cF[i]
 |[],[],_=>⟨rfl,λi h=>by cases h⟩
 |[],_::_,h=>by simp[kZ] at h
 |_::_,[],h=>by simp[kZ] at h
 |j::m6,t::cF,h=>by
  rw[kZ] at h
  obtain⟨j7,KY,e,I,ae⟩:∃j7 KY,j::m6=j7::KY/\gC l j7 t/\kZ l KY cF:=by
   first
    |exact⟨_,_,rfl,h.1,h.2⟩
    |(obtain⟨a,b,c,d,e⟩:=h;exact⟨a,b,c,d,e⟩)
  cases e
  obtain⟨bG,b0⟩:=KX ae
  refine⟨by rw[List.length_cons,List.length_cons,bG],λi ax aN=>?_⟩
  cases i with
  |zero=>exact I
  |succ i=>exact b0 i (by simpa using ax) (by simpa using aN)
theorem KZ:∀(N:Nat) (t:aJ),sz t<=N->sz t<=60->iE t<=1000->∀n,sz t+3<=n->agU n t
 |0,t,h,_,_,_,_=>by have:=p0 t;omega
 |N+1,.mk k nm ns xs rt,hh,p4,ig,n,aH=>by
  intro F h p i s st al q9
  have bJ:=l3 k nm ns xs rt
  have fH:=mo xs
  have K0:iE (.mk k nm ns xs rt)=ns.length+p2 xs+m3 rt:=by rw[iE]
  rw[gC] at q9
  obtain⟨e,he,zk,ay,iN,K1,mM,gn⟩:=q9
  subst ay;subst iN;subst K1
  obtain⟨g1,vU⟩:=KX mM
  obtain⟨m,rfl⟩:∃m,n=m+3:=⟨n-3,by omega⟩
  have oU:=st
  obtain⟨a3,b7,aM,bf,M,w,r⟩:=st
  obtain⟨x,aa,lp⟩:=List.mem_map.1 (r.e▸he:e∈M.map Mem.e)
  subst lp
  have eo:=tt w.aG w.up aa false
  rw[zk] at eo
  have ko:=w.ev x aa
  have sJ:=w.lo.2.2.2 x aa
  have vm:(h.room 18).n=h.n+18:=rfl
  have hI:Ext h.n h (h.room 18):=Ext.room _ _ _
  have xz:=w.ns x aa
  have KI:∃v2 av,Y (m+2) (.fn 38) [x.bA] (h.room 18)=.ret v2 av/\k0 (h.n+18) av v2 x.e.ns/\Ext (h.room 18).n (h.room 18) av/\v2.de=true:=by
   have CE:c5 (h.room 18).n (h.room 18) x.bA (x.e.ns.map .str):=by
    rcases xz with⟨a,b⟩|⟨q,cu,cU,dm,e0,ey⟩
    · exact .inl ⟨a,by rw[b];rfl⟩
    · refine .inr ⟨q,0,.aL 1,by rw[cu,List.length_map],by omega,λj aO=>?_,by rw[List.length_map];exact cU,by simp⟩
      refine lb (h:=h.room 18) dm ?_
      rw[kn,Nat.zero_add,Nat.mul_one,List.getElem?_eq_getElem aO]
   rcases E_ (m+1) (Nat.le_refl _) CE (by rw[List.length_map];omega) (by simp[List.all_map,ad.de]) with⟨_,c6,c⟩|⟨I,b,ak,c,bn,bo,c9,fS⟩
   · have c6:x.e.ns=[]:=by simpa using c6
     exact⟨.aP,_,c,.inl ⟨rfl,c6⟩,Ext.refl _ _,rfl⟩
   · rw[List.length_map] at I c
     refine⟨_,ak,c,.inr ⟨b,rfl,I,?_,bn,bo⟩,fS,rfl⟩
     rw[kn];exact c9
  obtain⟨v2,av,yh,SV,u7,jJ⟩:=KI
  have aY:=u7.n
  obtain⟨H,cy⟩:∃H,H=av.set (h.n+16) (some (aQ [J x.e.k,.str x.e.nm,v2,.aP,.aX] 80)):=⟨_,rfl⟩
  have lj:H.n=av.n:=by rw[cy];rfl
  have dY:Ext h.n h H:=by rw[cy];exact Ext.hQ (by omega) (hI.trans (by omega) u7)
  have SW:k0 (h.n+18) H v2 x.e.ns:=bT.tn SV (by omega) λd I _=>by rw[cy];exact cX (by omega) rfl
  have mO:=w.az x aa
  have CK:H.get x.b=some (zy x.e x.ai x.bA x.aU):=(dY.get _ sJ).trans ko
  have K2:bV an H 44 x.aU=some (J x.e.args.length):=bT.len (P:=an) (sT:=44) (by kernel_rfl) mO H
  have agV:ad.sound v2=true:=bT.sound SV
  subst cy
  refine agR (m+2) p i a3 h (R:=λy=>∃r g,y=.ret (.aR [.ptr r 0,.bool true]) g/\Ext h.n h g/\ew (lL h.n g.n) g (.mk x.e.k x.e.nm x.e.ns xs rt) (.ptr r 0)) ⟨false,h,vq (m+1) w,λh=>(by cases h),λ_=>⟨aF w.st rfl,x.b,eo,aF w.st rfl,x.b,eo,x.e.k,aF (h:=h.room 18) ko rfl,x.e.nm,aF (h:=h.room 18) ko rfl,x.bA,aF (h:=h.room 18) ko rfl,v2,av,yh,jJ,jJ,aF CK rfl,aF CK rfl,bT.sound xz,agV,x.aU,aF CK rfl,x.e.args.length,K2,?_⟩⟩
  have rest:∀(y:ab) (aU:ad) (ps:List Nat) (Γ:Env),Ext h.n h y->h.n+18<=y.n->y.get (h.n+16)=some (aQ [J x.e.k,.str x.e.nm,v2,aU,.aX] 80)->k0 (h.n+18) y v2 x.e.ns->iJ (h.n+18) y aU ps->cN (λb=>h.n<=b/\b<y.n/\b≠h.n+16) y xs (ps.map g_)->bY [(0,.ptr p 0),(6,.ptr x.b 0),(7,.ptr (h.n+16) 0)] Γ->
    ∃bC bP aD bt,bW.exit 0=.exit 0/\((aks Γ y):bL)=bL.mk bt [] .none aD/\bY [(0,.ptr p 0),(6,.ptr bC 0),(7,.ptr bP 0)] bt/\∃cd,aq aD bC (0+0+4)=some (aC cd)/\∃v4 bo a4,Y (m+2) (.fn 19) [.ptr p 0,aC cd] aD=.ret (.aR [v4,.bool bo]) a4/\ad.de v4=true/\∃bk,bg.storeCells a4 bP (0+4) [v4]=some bk/\∃r g,bE.ret (.aR [.ptr bP 0,.bool true]) bk=.ret (.aR [.ptr r 0,.bool true]) g/\Ext h.n h g/\ew (lL h.n g.n) g (.mk x.e.k x.e.nm x.e.ns xs rt) (.ptr r 0):=by
   intro y aU ps Γ aZ kF js jg eM qd cn
   have agW:y.get x.b=some (zy x.e x.ai x.bA x.aU):=(aZ.get _ sJ).trans ko
   have SX:=oU.ext aZ
   have ret:∃v4 bo a4,Y (m+2) (.fn 19) [.ptr p 0,aC x.e.ret] y=.ret (.aR [v4,.bool bo]) a4/\ad.de v4=true/\Ext y.n y a4/\q0 (lL y.n a4.n) a4 rt v4:=by
    cases rt with
    |none=>
     rw[nG] at gn
     have c6:x.e.ret=0:=gn
     rw[c6]
     exact⟨.aX,false,y,SU m SX (λe he h0=>by have:=(al.lo e he).1;omega),rfl,Ext.refl _ _,rfl⟩
    |some u=>
     rw[nG] at gn
     rw[jk] at bJ
     rw[show m3 (some u)=iE u by rw[m3]] at K0
     obtain⟨fY,a4,fQ,e1,t4⟩:=KZ N u (by omega) (by omega) (by omega) (m+2) (by omega) F y p _ s SX al gn
     exact⟨.ptr fY 0,true,a4,fQ,rfl,e1,t4⟩
   obtain⟨v4,bo,a4,fQ,SY,e1,t4⟩:=ret
   have bj:=e1.n
   have node4:=(e1.get (h.n+16) (by omega)).trans js
   have K3:Ext h.n h a4:=aZ.trans aZ.n e1
   refine⟨x.b,h.n+16,y,Γ,rfl,rfl,cn,x.e.ret,aF agW rfl,v4,bo,a4,fQ,SY,a4.set (h.n+16) (some (aQ [J x.e.k,.str x.e.nm,v2,aU,v4] 80)),?_,h.n+16,_,rfl,Ext.hQ (by omega) K3,?_⟩
   · refine eV node4 rfl ?_
     simp[gD,SY]
   · have low:∀d,d≠h.n+16->(a4.set (h.n+16) (some (aQ [J x.e.k,.str x.e.nm,v2,aU,v4] 80))).get d=a4.get d:=λd ai=>cX ai rfl
     have CL:k0 (h.n+18) (a4.set (h.n+16) (some (aQ [J x.e.k,.str x.e.nm,v2,aU,v4] 80))) v2 x.e.ns:=bT.tn jg (by simp;omega) λd I ae=>(low d (by omega)).trans (e1.get d ae)
     have CM:iJ (h.n+18) (a4.set (h.n+16) (some (aQ [J x.e.k,.str x.e.nm,v2,aU,v4] 80))) aU ps:=bT.tn eM (by simp;omega) λd I ae=>(low d (by omega)).trans (e1.get d ae)
     refine⟨h.n+16,v2,aU,v4,ps.map g_,.own,0,0,rfl,⟨by omega,by simp;omega⟩,eK rfl,sc CL (bT.iX CL (by omega)),sc CM (bT.iX CM (by omega)),?_,?_⟩
     · exact cN.bB (λb ag=>⟨⟨ag.1,by simp;omega⟩,(low b ag.2.2).trans (e1.get b ag.2.1)⟩) _ _ qd
     · exact q0.bB (λb ag=>⟨⟨by have:=ag.1;omega,by simp;exact ag.2⟩,low b (by have:=ag.1;omega)⟩) _ _ t4
  rcases mO with⟨y6,SZ⟩|⟨q,aK,a8,a2,bX,eG⟩
  · have ng:xs=[]:=List.eq_nil_of_length_eq_zero (by rw[<-g1,SZ];rfl)
    rw[y6,SZ]
    refine e8 (λk st=>∃Γ,st=⟨Γ,[],.none,av.set (h.n+16) (some (aQ [J x.e.k,.str x.e.nm,v2,.aP,.aX] 80))⟩/\bY [(0,.ptr p 0),(6,.ptr x.b 0),(7,.ptr (h.n+16) 0),(49,.aP),(50,J 0),(51,J 0)] Γ) ?_ 0 _ (by omega) ⟨_,rfl,rfl,rfl,rfl,rfl,rfl,rfl,trivial⟩
    rintro cO cg ⟨Γ,rfl,cn⟩
    refine ei (agT _ p x.b (h.n+16) .aP _ ⟨by omega,?_⟩) cn
    exact rest _ .aP [] _ dY (by simp;omega) (eK rfl) SW (.inl ⟨rfl,rfl⟩) (by rw[ng];rfl) ⟨rfl,rfl,rfl,trivial⟩
  · rw[aK]
    refine e8 (λk st=>∃j y aU ps Γ,st=aks Γ y/\bY [(0,.ptr p 0),(6,.ptr x.b 0),(7,.ptr (h.n+16) 0),(49,.slice q 0 x.e.args.length (.aL 1)),(50,J x.e.args.length),(51,J j)] Γ/\x.e.args.length-j=k/\j<=x.e.args.length/\Ext h.n h y/\h.n+18<=y.n/\y.get (h.n+16)=some (aQ [J x.e.k,.str x.e.nm,v2,aU,.aX] 80)/\k0 (h.n+18) y v2 x.e.ns/\iJ (h.n+18) y aU ps/\ps.length=j/\cN (λb=>h.n<=b/\b<y.n/\b≠h.n+16/\∀n cp,aU≠ .slice b 0 n cp) y (xs.take j) (ps.map g_)) ?_ x.e.args.length _ (by omega) ⟨0,_,.aP,[],_,rfl,⟨rfl,rfl,rfl,rfl,rfl,rfl,trivial⟩,by omega,by omega,dY,by simp;omega,eK rfl,SW,.inl ⟨rfl,rfl⟩,rfl,rfl⟩
    rintro cO cg ⟨j,y,aU,ps,Γ,rfl,cn,fl,aO,aZ,kF,js,jg,eM,hV,qd⟩
    refine ei (agS _ p x.b (h.n+16) q 0 _ j (.aL 1) y ⟨λfW=>?_,λfW=>?_⟩) cn
    · have mc:j<xs.length:=by omega
      have KP:=FR xs mc
      have agX:=yS (List.getElem_mem mc)
      have gf:aq y q (0+j*1)=some (jF x.e.args[j]):=by
       refine lb ((aZ.get q eG).trans a2) ?_
       rw[kn,List.getElem?_map,Nat.zero_add,Nat.mul_one,List.getElem?_eq_getElem (by omega)];rfl
      obtain⟨fY,a4,fQ,e1,t4⟩:=KZ N xs[j] (by omega) (by omega) (by omega) (m+2) (by omega) F y p _ s (oU.ext aZ) al (vU j fW mc)
      have bj:=e1.n
      have node4:=(e1.get (h.n+16) (by omega)).trans js
      obtain⟨K,dg⟩:∃K,K=a4.push (aQ [.ptr fY 0] 35):=⟨_,rfl⟩
      have RK:K.n=a4.n+1:=by rw[dg];rfl
      have sd:Ext a4.n a4 K:=by rw[dg];exact Ext.push (Nat.le_refl _) _
      have K4:iJ (h.n+18) K aU ps:=(eM.mono e1 (Nat.le_refl _)).mono sd (Nat.le_refl _)
      obtain⟨bk,cu,cU,dm,e0,ey⟩:=zm qb K4 (by omega) (d:=fY) (src:=.slice a4.n 0 1 (.exact 1)) (by rw[dg];exact yz qb a4 35 fY) (by omega)
      have zN:=bT.lt eM
      have CN:∀n cp,aU≠ .slice (h.n+16) 0 n cp:=λn cp e=>by have:=(zN _ _ _ e).1;omega
      have node5:bk.get (h.n+16)=some (aQ [J x.e.k,.str x.e.nm,v2,aU,.aX] 80):=(ey _ (by omega) CN).trans ((sd.get _ (by omega)).trans node4)
      have l7:∀d,d<a4.n->(∀n cp,aU≠ .slice d 0 n cp)->bk.get d=a4.get d:=λd ai dr=>(ey d (by omega) dr).trans (sd.get d ai)
      subst dg
      refine⟨fW,_,gf,fY,true,a4,fQ,aU,aF node4 rfl,_,bk,cu,rfl,_,eV node5 rfl rfl,by omega,_,(by show _<cO;omega),j+1,_,_,ps++[fY],_,rfl,⟨rfl,rfl,rfl,rfl,rfl,rfl,trivial⟩,rfl,by omega,?_,by simp;omega,eK rfl,?_,?_,by simp[hV],?_⟩
      · refine Ext.hQ (by omega) ⟨by omega,λd ai=>(l7 d (by omega) λn cp e=>by have:=(zN _ _ _ e).1;omega).trans ((e1.get d (by have:=aZ.n;omega)).trans (aZ.get d ai))⟩
      · refine bT.bB jg (by simp;omega) λb ag oM=>?_
        have xC:=bT.lt jg b _ _ ag
        refine(cX (by omega) rfl).trans ((l7 b (by omega) λn cp e=>?_).trans (e1.get b oM))
        rcases jg with⟨aG,_⟩|⟨hP,aG,_,c9,_,_⟩
        · rw[aG] at ag;cases ag
        · rw[aG] at ag;cases ag
          rcases eM with⟨aE,_⟩|⟨agY,aE,_,fS,_,_⟩
          · rw[aE] at e;cases e
          · rw[aE] at e;cases e
            rw[c9] at fS
            injection fS with fS;injection fS with _ fS
            exact absurd fS (by decide)
      · exact .inr ⟨_,rfl,by simp,(cX (by omega) rfl).trans cU,by omega,by simp;omega⟩
      · rw[List.take_succ_eq_append_getElem mc,List.map_append]
        have old:∀b,h.n<=b->b<a4.n->b≠h.n+16->(∀n cp,aU≠ .slice b 0 n cp)->(h.n<=b/\b<(bk.set (h.n+16) (some (aQ [J x.e.k,.str x.e.nm,v2,.slice (a4.push (aQ [.ptr fY 0] 35)).n 0 (ps++[fY]).length (.aL 1),.aX] 80))).n/\b≠h.n+16/\∀n cp,ad.slice (a4.push (aQ [.ptr fY 0] 35)).n 0 (ps++[fY]).length (ct.aL 1)≠ .slice b 0 n cp)/\(bk.set (h.n+16) (some (aQ [J x.e.k,.str x.e.nm,v2,.slice (a4.push (aQ [.ptr fY 0] 35)).n 0 (ps++[fY]).length (.aL 1),.aX] 80))).get b=a4.get b:=λb I ae ax aN=>
         ⟨⟨I,by simp;omega,ax,λn cp e=>by cases e;omega⟩,(cX ax rfl).trans (l7 b ae aN)⟩
        refine cN.app (cN.cons (ew.bB (λb ag=>old b (by have:=ag.1;omega) ag.2 (by have:=ag.1;omega) λn cp e=>by have:=(zN _ _ _ e).2;have:=ag.1;omega) _ _ t4) cN.nil) (cN.bB (λb ag=>?_) _ _ qd)
        obtain⟨bn,bo,c9,fS⟩:=ag
        obtain⟨dy,ed⟩:=old b bn (by omega) c9 fS
        exact⟨dy,ed.trans (e1.get b bo)⟩
    · obtain rfl:j=x.e.args.length:=by omega
      rw[List.take_of_length_le (by omega)] at qd
      exact rest y aU ps _ aZ kF js jg eM (cN.bB (λb ag=>⟨⟨ag.1,ag.2.1,ag.2.2.1⟩,rfl⟩) _ _ qd) ⟨rfl,rfl,rfl,trivial⟩
theorem S0(a b:bb):c1 a b=true<->a=b:=by rw[nP];simp
theorem S1:∀a b:List bb,ki a b=true<->a=b
 |[],[]=>by simp[ki]
 |[],_::_=>by simp[ki]
 |_::_,[]=>by simp[ki]
 |x::a,y::b=>by rw[ki,Bool.and_eq_true,S0,S1 a b];simp
mutual
theorem K5:∀t u:aJ,w1 t u=true<->t=u
 |.mk k nm ns xs rt,.mk cO nw oh m2 nx=>by
  rw[w1,Bool.and_eq_true,Bool.and_eq_true,Bool.and_eq_true,Bool.and_eq_true,S0,S1,S2 xs m2,agZ rt nx,Nat.beq_eq]
  simp
theorem S2:∀t u:List aJ,kj t u=true<->t=u
 |[],[]=>by simp[kj]
 |[],_::_=>by simp[kj]
 |_::_,[]=>by simp[kj]
 |x::a,y::b=>by rw[kj,Bool.and_eq_true,K5 x y,S2 a b];simp
theorem agZ:∀t u:Option aJ,h6 t u=true<->t=u
 |none,none=>by simp[h6]
 |none,some _=>by simp[h6]
 |some _,none=>by simp[h6]
 |some x,some y=>by rw[h6,K5 x y];simp
end
theorem ag0{t u:aJ}(bm:sz t<=60)(hu:sz u<=60):qS (some t) (some u)=true<->t=u:=by
 unfold qS
 rw[jk,jk,decide_eq_true bm,decide_eq_true hu,Bool.true_and,Bool.true_and,h6,K5]
end Go.Proofs.kU
