/-
  PROVED HERE: contracts of functions (Dy). No condition beside each statement's own.
-/
import Derived.Test.YtjkomfonmcmgdaaDoorDk
import Derived.Test.YtjkomfonmcmgdaaDoorAed
import Derived.Deep.Strs
import Derived.DataReads
import Derived.OpenShut
import Derived.ChangeSlices
import Derived.Test.YtjkomfonmcmgdaaDoorDh
set_option linter.unusedVariables false
set_option linter.unusedSimpArgs false
set_option maxRecDepth 100000
set_option maxHeartbeats 1000000
namespace Go.Proofs.hJ
open Go a8 Go.Proofs gp Go.Proofs.hK
theorem Wj(m:Nat)(z:Int)(h:ab){R:a7->Prop}(H:∃aM:Nat,mu pr (.int .i64 z) [.int .i64 (.ofNat 0)]=some (.int .i64 (.ofNat aM))/\R (.ret (.ptr (ab.n (ab.push (ab.push h (.map [] 0)) (.map [] 0))) 0) (ab.push (ab.push (ab.push h (.map [] 0)) (.map [] 0)) (.cells [.int .i64 (.ofNat aM),.int .u64 (.ofNat 0),.int .u64 (.ofNat 0),.map h.n,.map (ab.n (ab.push h (.map [] 0)))] 55 .own 0 0)))):
  R (Y (m+1) (.fn 6) [.int .i64 z] h):=
 dq (intr:=b5) [] [(0,.v (.int .i64 z))] Tryd.func6 (by kernel_rfl) (by kernel_rfl) (by kernel_rfl) rfl (Eq.mp (by kernel_rfl) H)
theorem Wk(m p aR:Nat)(h:ab){R:a7->Prop}(H:aB h p (0+3)=some (.map aR)/\∃bn:Bool,e1 Tryd.prog h .eql 52 (.tmp 9) (.const (.map none)) (.map aR) .g2=some (.bool bn)/\R (.ret (.bool bn) h)):
  R (Y (m+1) (.fn 16) [.ptr p 0] h):=
 dq (intr:=b5) [(9,.a9 (.is (.map aR)))] [(0,.v (.ptr p 0))] Tryd.func16 (by kernel_rfl) (by kernel_rfl) (by kernel_rfl) rfl (Eq.mp (by kernel_rfl) H)
theorem Wl(m p r aR:Nat)(h:ab){R:a7->Prop}(H:∃bn:Bool,∃al:ab,(Y m) (.fn 16) [.ptr p 0] h=.ret (.bool bn) al/\bn=false/\∃aM:Nat,∃aA:ab,(Y m) (.fn 18) [.ptr r 0] al=.ret (.int .i64 (.ofNat aM)) aA/\aM=0/\∃bo:Nat,∃aU:ab,(Y m) (.fn 19) [.ptr p 0,.ptr r 0] aA=.ret (.int .u64 (.ofNat bo)) aU/\aB aU p (0+3)=some (.map aR)/\∃bF:Nat,gv Tryd.prog aU 52 (.map aR) (.int .u64 (.ofNat bo)) false=some (.ptr bF 0)/\∃b4:Nat,aB aU bF (0+7)=some (.int .i64 (.ofNat b4))/\b4+1<9223372036854775808/\∃bB:ab,a8.storeCells aU bF (0+7) [.int .i64 (.ofNat (b4+1))]=some bB/\∃bO:ab,(Y m) (.fn 20) [.ptr p 0] bB=.ret (.aJ []) bO/\R (.ret (.aJ [.int .u64 (.ofNat bo),.int .i64 (.ofNat 0)]) bO)):
  R (Y (m+1) (.fn 9) [.ptr p 0,.ptr r 0] h):=
 dq (intr:=b5) [(1009,.f),(1013,.f),(21,.a9 (.is (.map aR))),(23,.a9 .p)] [(0,.v (.ptr p 0)),(1,.v (.ptr r 0))] Tryd.func9 (by kernel_rfl) (by kernel_rfl) (by kernel_rfl) rfl (Eq.mp (by kernel_rfl) H)
theorem Lf(m p id aR:Nat)(h:ab){R:a7->Prop}(H:∃bn:Bool,∃al:ab,(Y m) (.fn 16) [.ptr p 0] h=.ret (.bool bn) al/\bn=false/\aB al p (0+3)=some (.map aR)/\∃aM:Nat,gv Tryd.prog al 52 (.map aR) (.int .u64 (.ofNat id)) true=some (.aJ [.ptr aM 0,.bool true])/\∃bo:Nat,aB al aM (0+7)=some (.int .i64 (.ofNat bo))/\(bo=0->R (.ret (.int .i64 (.ofNat 2)) al))/\(¬bo=0->∃bF:Nat,aB al aM (0+7)=some (.int .i64 (.ofNat bF))/\(1<=bF/\bF<9223372036854775808)/\∃aA:ab,a8.storeCells al aM (0+7) [.int .i64 (.ofNat (bF-1))]=some aA/\∃aU:ab,(Y m) (.fn 20) [.ptr p 0] aA=.ret (.aJ []) aU/\R (.ret (.int .i64 (.ofNat 0)) aU))):
  R (Y (m+1) (.fn 10) [.ptr p 0,.int .u64 (.ofNat id)] h):=
 dq (intr:=b5) [(1008,.f),(13,.a9 (.is (.map aR))),(15,.a9 (.g_ [.p,.is (.bool true)]))] [(0,.v (.ptr p 0)),(1,.v (.int .u64 (.ofNat id)))] Tryd.func10 (by kernel_rfl) (by kernel_rfl) (by kernel_rfl) rfl (Eq.mp (by kernel_rfl) H)
theorem Wm(m p id aR:Nat)(h:ab){R:a7->Prop}(H:∃bn:Bool,∃al:ab,(Y m) (.fn 16) [.ptr p 0] h=.ret (.bool bn) al/\bn=false/\aB al p (0+3)=some (.map aR)/\gv Tryd.prog al 52 (.map aR) (.int .u64 (.ofNat id)) true=some (.aJ [.br,.bool false])/\R (.ret (.int .i64 (.ofNat 5)) al)):
  R (Y (m+1) (.fn 10) [.ptr p 0,.int .u64 (.ofNat id)] h):=
 dq (intr:=b5) [(1008,.f),(13,.a9 (.is (.map aR))),(15,.a9 (.g_ [.is .br,.is (.bool false)]))] [(0,.v (.ptr p 0)),(1,.v (.int .u64 (.ofNat id)))] Tryd.func10 (by kernel_rfl) (by kernel_rfl) (by kernel_rfl) rfl (Eq.mp (by kernel_rfl) H)
theorem Wn(a:Int):mu pr (.int .i64 a) [.int .i64 (Int.ofNat 0)]=some (.int .i64 (Int.ofNat a.toNat)):=by
 simp only[mu,pr]
 by_cases h:fx a (Int.ofNat 0)=true
 · have h0:a<0:=by simpa[fx] using h
   rw[if_pos h,show a.toNat=0 by omega];simp
 · have h0:¬a<0:=by simpa[fx] using h
   rw[if_neg h]
   have:Int.ofNat a.toNat=a:=Int.toNat_of_nonneg (by omega)
   rw[this];simp
theorem Wo(m:Nat){F:Nat->Prop}{h:ab}(z:Int)(e6:∀b,F b->b<h.n):∃g p,Y (m+1) (.fn 6) [.int .i64 z] h=.ret (.ptr p 0) g/\fU F g p ⟨z.toNat,0,0,[]⟩/\Ext h.n h g:=by
 obtain⟨aa,ax⟩:∃x,x=h.push (.map [] 0):=⟨_,rfl⟩
 obtain⟨ad,av⟩:∃x,x=aa.push (.map [] 0):=⟨_,rfl⟩
 obtain⟨aq,bq⟩:∃x,x=ad.push (uy z.toNat 0 0 h.n aa.n):=⟨_,rfl⟩
 have aM:aa.n=h.n+1:=by rw[ax];rfl
 have bo:ad.n=aa.n+1:=by rw[av];rfl
 have bF:aq.n=ad.n+1:=by rw[bq];rfl
 refine⟨aq,ad.n,Wj m z h (R:=λx=>x=.ret (.ptr ad.n 0) aq) ⟨z.toNat,Wn z,by rw[bq,av,ax]⟩,⟨h.n,aa.n,0,0,[],⟨?_,?_,?_,?_,?_,?_,.nil,.nil,?_,.nil,?_,by omega,⟨by omega,by omega,by omega,?_⟩,⟨?_,?_,?_⟩,?_,?_,?_⟩,rfl,?_⟩,?_⟩
 · rw[bq];exact fI rfl
 · rw[bq];refine lp (by omega) ?_;rw[av];refine lp (by omega) ?_;rw[ax];exact fI rfl
 · rw[bq];refine lp (by omega) ?_;rw[av];exact fI rfl
 · intro x J;cases J
 · intro x J;cases J
 · intro x J;cases J
 · intro x J;cases J
 · intro x J;cases J
 · intro x J;cases J
 · intro hf;have:=e6 _ hf;omega
 · intro hf;have:=e6 _ hf;omega
 · intro hf;have:=e6 _ hf;omega
 · intro x J;cases J
 · intro x J;cases J
 · intro x J;cases J
 · intro x J;cases J
 · rw[bq];refine Ext.lq (by omega) ?_;rw[av];refine Ext.lq (by omega) ?_;rw[ax];exact Ext.push (Nat.le_refl _) _
theorem Ax(m:Nat){F:Nat->Prop}{h:ab}{p aR bD aT bp cap given clock:Nat}{M:List Mem}(w:e7 F h p aR bD aT bp cap given clock M):Y (m+1) (.fn 16) [.ptr p 0] h=.ret (.bool false) h:=
 Wk m p aR h (R:=λx=>x=.ret (.bool false) h) ⟨a_ w.st rfl,false,by kernel_rfl,rfl⟩
structure Fit(K:Nat)(s:b7):Prop where
 ok:dG s
 nm:∀e∈s.l,e.args.length<=61/\ig e.ns
 bl:s.given<=K
 sy:s.clock<=K
 pins:∀e∈s.l,e.pins<=K
theorem Fit.bV{K:Nat}{s:b7}(f:Fit K s)(h:K<=10000):od s:=⟨λe he=>(f.nm e he).1,λe he=>(f.nm e he).2,by have:=f.bl;omega,by have:=f.sy;omega⟩
theorem Fit.room{K:Nat}{s:b7}(f:Fit K s):Fit K (hd s):=⟨zT _ _ f.ok,λe he=>f.nm e (zX _ _ _ e he),f.bl,f.sy,λe he=>f.pins e (zX _ _ _ e he)⟩
theorem Fit.map{K EC:Nat}{s:b7}(f:Fit K s)(cZ:K<=EC){g:bI->bI}(aj:zV g)(aw:∀e,(g e).args=e.args/\(g e).ns=e.ns)(aL:∀e,(g e).pins<=e.pins+(EC-K)):Fit EC {s with l:=s.l.map g}:=by
 refine⟨f.ok.map aj,λe he=>?_,by have:=f.bl;show s.given<=_;omega,by have:=f.sy;show s.clock<=_;omega,λe he=>?_⟩<;>obtain⟨x,J,rfl⟩:=List.mem_map.1 he
 · rw[(aw x).1,(aw x).2];exact f.nm x J
 · have:=aL x
   have:=f.pins x J
   omega
theorem Wp:∀(t:aZ) (s:b7),dG s->∀e∈(cC t s).2.l,e.pins=0\/∃q∈s.l,q.pins=e.pins:=λt s hs e he=>by
 obtain⟨_,g,_⟩:=pd t hs
 rcases g.new e he with⟨q,aE,aw⟩|⟨_,h⟩
 · exact .inr ⟨q,aE,aw.pins.symm⟩
 · exact .inl h
theorem Fit.lay{K:Nat}{s:b7}(f:Fit K s){t:aZ}(af:hY (some t)=0):Fit (K+sz t) (cC t s).2:=by
 obtain⟨aM,bo,_⟩:=Ak t s
 refine⟨(pd t f.ok).1,Er t s af f.nm,by have:=f.bl;omega,by have:=f.sy;omega,λe he=>?_⟩
 rcases Wp t s f.ok e he with h|⟨q,aE,h⟩
 · omega
 · have:=f.pins q aE;omega
theorem Lg(i:Nat)(e:bI):(fK i e).args=e.args/\(fK i e).ns=e.ns:=by unfold fK;split<;>exact⟨rfl,rfl⟩
theorem Lh(i:Nat)(e:bI):(hN i e).args=e.args/\(hN i e).ns=e.ns:=by unfold hN;split<;>exact⟨rfl,rfl⟩
theorem Li(i:Nat)(e:bI):(fK i e).pins<=e.pins+1:=by
 unfold fK
 split
 · exact Nat.le_refl _
 · exact Nat.le_succ _
theorem Lj(i:Nat)(e:bI):(hN i e).pins<=e.pins:=by
 unfold hN
 split
 · exact Nat.sub_le _ _
 · exact Nat.le_refl _
theorem Fit.intern{K:Nat}{s:b7}(f:Fit K s){t:aZ}(af:hY (some t)=0):Fit (K+61) (dF t s).2:=by
 have dd:=(uw.1 af).1
 exact((f.lay af).map (by omega:K+sz t<=K+61) (qI _) (Lg _) λe=>Nat.le_trans (Li _ e) (by omega)).room
theorem Fit.rel{K:Nat}{s:b7}(f:Fit K s)(i:Nat):Fit K (gq i s).2:=by
 unfold gq
 cases mn i s.l with
 |none=>exact f
 |some e=>
  simp only
  split
  · exact f
  · exact(f.map (Nat.le_refl K) (zW _) (Lh _) λe=>Nat.le_trans (Lj _ e) (by omega)).room
theorem Wq(f:Nat->Nat):uC λy=>{y with e:={y.e with pins:=f y.e.pins}}:=⟨λ_=>rfl,λ_=>rfl,λ_=>rfl,λ_=>rfl,λ_=>rfl,λ_=>rfl,λ_=>rfl,λ_=>rfl,λ_=>rfl⟩
theorem e7.Lk{F:Nat->Prop}{h:ab}{p aR bD aT bp cap given clock:Nat}{M:List Mem}{l:List bI}(w:e7 F h p aR bD aT bp cap given clock M)(r:uE l M){x:Mem}(J:x∈M)(f:Nat->Nat){g:bI->bI}(aj:∀e,g e=if e.id=x.e.id then{e with pins:=f e.pins} else e):∃k,a8.storeCells h x.b (0+7) [.int .i64 (Int.ofNat (f x.e.pins))]=some k/\bA F h k/\∃Ll,e7 F k p aR bD aT bp cap given clock Ll/\uE (l.map g) Ll:=by
 have u:=w.eG J (Wq f)
 refine⟨_,gn (w.dz x J) rfl rfl,bA.set (b:=x.b) (w.ne x J),_,u,⟨?_,λy aO=>?_⟩⟩
 · unfold k0
   rw[List.map_map,<-r.e,List.map_map]
   refine List.map_congr_left λy _=>?_
   show(if y.e.id=x.e.id then({y with e:={y.e with pins:=f y.e.pins}}:Mem) else y).e=g y.e
   rw[aj]
   split<;>rfl
 · obtain⟨z,aP,rfl⟩:=List.mem_map.1 aO
   have aL:∀e,(g e).parts=e.parts:=λe=>by rw[aj];split<;>rfl
   rw[Eu _ aL]
   have:=r.ak z aP
   split<;>exact this
theorem Wr(m:Nat){F:Nat->Prop}{h:ab}{p r K:Nat}{s:b7}{t:aZ}(hm:1000<=m)(w:fU F h p s)(f:Fit K s)(cZ:K+61<=10000)(e6:∀b,F b->b<h.n)(aD:fL F h t (.ptr r 0))(af:hY (some t)=0):∃g,Y (m+1) (.fn 9) [.ptr p 0,.ptr r 0] h=.ret (.aJ [.int .u64 (Int.ofNat (dF t s).1),.int .i64 (Int.ofNat 0)]) g/\fU F g p (dF t s).2/\bA F h g:=by
 obtain⟨cT,dn⟩:=J3 af
 have ez:ev (some t)=sz t:=o2 t
 obtain⟨m,rfl⟩:∃k,m=k+10:=⟨m-10,by omega⟩
 have pL:∃aA,Y (m+10) (.fn 18) [.ptr r 0] h=.ret (.int .i64 (Int.ofNat 0)) aA/\Ext h.n h aA:=by
  have Ws:ht h.n h (some t) (.ptr r 0):=fL.at e6 _ _ aD
  obtain⟨aA,av,cU⟩:=TP (m+9) (by omega) (λu e=>by cases e;omega) (by omega) (Nat.le_refl _) Ws
  rw[af] at av
  exact⟨aA,av,cU⟩
 obtain⟨aA,bp,cU⟩:=pL
 have cA:fU F aA p s:=w.move cU.n (λd ak _ _=>cU.get d ak) λd _ h=>.inl h
 obtain⟨aU,ef,jo,e_⟩:=Ex (sz t) t (Nat.le_refl _) af (m+10) (by omega) F aA p (.ptr r 0) s cA f.ok f.nm (by have:=f.sy;omega) (by have:=f.bl;omega) (λb ae=>by have:=e6 b ae;have:=cU.n;omega) (fL.cL (λb ae=>⟨ae,cU.get b (e6 b ae)⟩) _ _ aD)
 obtain⟨aR,bD,d1,d2,M,jo,dJ⟩:=jo
 have Lm:=f.lay af
 obtain⟨q,aE,lF⟩:=(pd t f.ok).2.2
 obtain⟨x,J,sJ⟩:=List.mem_map.1 (dJ.e▸aE:q∈M.map Mem.e)
 have nf:x.e.id=(cC t s).1:=by rw[sJ];exact lF
 have Wt:x.e.pins<=10000:=by have:=Lm.pins q aE;rw[sJ];omega
 obtain⟨jK,b9,ED,EE,mN,gj⟩:=jo.Lk dJ J (λn=>n+1) (g:=fK (cC t s).1) λe=>by rw[nf];rfl
 have f4:Fit (K+61) {(cC t s).2 with l:=(cC t s).2.l.map (fK (cC t s).1)}:=Lm.map (by omega:K+sz t<=K+61) (qI _) (Lg _) λe=>Nat.le_trans (Li _ e) (by omega)
 obtain⟨bO,kq,pf,iF⟩:=KA (m+8) (s:={(cC t s).2 with l:=(cC t s).2.l.map (fK (cC t s).1)}) ⟨aR,bD,d1,d2,EE,mN,gj⟩ f4.ok (f4.bV cZ)
 have xz:Y (m+10) (.fn 16) [.ptr p 0] h=.ret (.bool false) h:=by
  obtain⟨b8,cG,dw,gF,gf,m1,_⟩:=w
  exact Ax (m+9) m1
 have dp:=sr jo.ax jo.up J false
 rw[nf] at dp
 exact⟨bO,Wl (m+10) p r aR h (R:=λy=>y=.ret (.aJ [.int .u64 (Int.ofNat (dF t s).1),.int .i64 (Int.ofNat 0)]) bO) ⟨false,h,xz,rfl,0,aA,bp,rfl,(cC t s).1,aU,ef,a_ jo.st rfl,x.b,dp,x.e.pins,a_ (jo.dz x J) rfl,by omega,jK,b9,bO,kq,rfl⟩,pf,(bA.ext cU).trans (e_.trans (ED.trans iF))⟩
theorem Wu(m:Nat){F:Nat->Prop}{h:ab}{p id K:Nat}{s:b7}(w:fU F h p s)(f:Fit K s)(cZ:K<=10000):∃g,Y (m+3) (.fn 10) [.ptr p 0,.int .u64 (Int.ofNat id)] h=.ret (.int .i64 (Int.ofNat (gq id s).1)) g/\fU F g p (gq id s).2/\bA F h g:=by
 have fO:=w
 obtain⟨aR,bD,aT,bp,M,w,r⟩:=w
 have xz:=Ax (m+1) w
 cases hf:mn id s.l with
 |none=>
  have e:gq id s=(5,s):=by unfold gq;rw[hf]
  rw[e]
  have aH:∀x∈M,x.e.id≠id:=λx J h=>by
   have:=List.find?_eq_none.1 hf x.e (by rw[<-r.e];exact List.mem_map.2 ⟨x,J,rfl⟩)
   rw[h] at this;simp[Nat.beq_refl] at this
  exact⟨h,Wm (m+2) p id aR h (R:=λy=>y=.ret (.int .i64 (Int.ofNat 5)) h) ⟨false,h,xz,rfl,a_ w.st rfl,Ec w.ax aH true,rfl⟩,fO,bA.refl _ _⟩
 |some q=>
  obtain⟨aV,ba⟩:=D4 hf
  obtain⟨x,J,sJ⟩:=List.mem_map.1 (r.e▸aV:q∈M.map Mem.e)
  have nf:x.e.id=id:=by rw[sJ];exact ba
  have dp:=sr w.ax w.up J true
  rw[nf] at dp
  have Wt:x.e.pins<=10000:=by have:=f.pins q aV;rw[sJ];omega
  by_cases h0:q.pins=0
  · have e:gq id s=(2,s):=by unfold gq;rw[hf];simp only[if_pos h0]
    rw[e]
    exact⟨h,Lf (m+2) p id aR h (R:=λy=>y=.ret (.int .i64 (Int.ofNat 2)) h) ⟨false,h,xz,rfl,a_ w.st rfl,x.b,dp,x.e.pins,a_ (w.dz x J) rfl,λ_=>rfl,λh=>absurd (by rw[sJ];exact h0) h⟩,fO,bA.refl _ _⟩
  · have e:gq id s=(0,hd {s with l:=s.l.map (hN id)}):=by unfold gq;rw[hf];simp only[if_neg h0]
    rw[e]
    obtain⟨jK,b9,ED,EE,mN,gj⟩:=w.Lk r J (λn=>n-1) (g:=hN id) λe=>by rw[nf];rfl
    have f4:Fit K {s with l:=s.l.map (hN id)}:=f.map (Nat.le_refl K) (zW _) (Lh _) λe=>Nat.le_trans (Lj _ e) (by omega)
    obtain⟨bO,kq,pf,iF⟩:=KA m (s:={s with l:=s.l.map (hN id)}) ⟨aR,bD,aT,bp,EE,mN,gj⟩ f4.ok (f4.bV cZ)
    have Wv:x.e.pins≠0:=by rw[sJ];exact h0
    exact⟨bO,Lf (m+2) p id aR h (R:=λy=>y=.ret (.int .i64 (Int.ofNat 0)) bO) ⟨false,h,xz,rfl,a_ w.st rfl,x.b,dp,x.e.pins,a_ (w.dz x J) rfl,λh=>absurd h Wv,λ_=>⟨x.e.pins,a_ (w.dz x J) rfl,⟨by omega,by omega⟩,jK,b9,bO,kq,rfl⟩⟩,pf,ED.trans iF⟩
theorem Ww(m:Nat)(h:ab):Y (m+1) (.fn 5) [] h=.ret (.bool true) h:=by
 have e:b5 5 [] h=some (.bool true,h):=by kernel_rfl
 show et Tryd.prog b5 (m+1) _ _ _=_
 simp only[et,e]
open Go a8 Go.Proofs gp Go.Proofs.hK Go.ChangeShapes Go.WideShapes Go.ChangeAt Go.RowKit Go.ChangeMaps
theorem Wx{W:World}{a:Addr}{m j:Nat}{v:Value}(h:W.cell? ((a.add m).add j)=some v):∃c el fz,W.heap[a.block]? =some (.cells c el fz)/\c[a.off+m+j]? =some v/\(m=0->j=0->a.spot=none):=by
 have ae:((a.add m).add j).block=a.block:=by
  unfold Addr.add
  split<;>split<;>rfl
 have aQ:((a.add m).add j).off=a.off+m+j:=by
  unfold Addr.add
  split<;>split<;>simp_all
 unfold World.cell? at h
 rw[ae,aQ] at h
 split at h
 · rename_i c el fz J
   split at h
   · cases h
   · rename_i hs
     refine⟨c,el,fz,J,h,λaa ad=>?_⟩
     subst aa;subst ad
     simpa[Addr.add] using hs
 · cases h
def sK(rows:List (ee×List I×Nat))(μ:bb)(h:ab)(B:Nat):Prop:=∀(k:Nat) (x:ee×List I×Nat),rows[k]? =some x->μ (B+k)=some x.1/\h.get (B+k)=some (.cells x.2.1 x.2.2 .ro 0 0)/\B+k<h.n
theorem Wy{r1 r2:List (ee×List I×Nat)}{μ:bb}{h:ab}{B:Nat}(ai:sK (r1++r2) μ h B):sK r1 μ h B/\sK r2 μ h (B+r1.length):=by
 refine⟨λk x an=>ai k x ?_,λk x an=>?_⟩
 · rw[List.getElem?_append_left (List.getElem?_eq_some_iff.1 an).1];exact an
 · have:=ai (r1.length+k) x (by rw[List.getElem?_append_right (by omega),Nat.add_sub_cancel_left];exact an)
   rw[Nat.add_assoc];exact this
theorem Wz{rows:List (ee×List I×Nat)}:sK rows (oQ Tryd.prog.globals.size (rows.map (·.1))) (rG Tryd.prog.globals.size (rows.map (·.2))) Tryd.prog.globals.size:=by
 intro k x an
 refine⟨PE an,PF an,?_⟩
 have:=(List.getElem?_eq_some_iff.1 an).1
 rw[Cj,List.length_map];omega
theorem WA{P:Program}{W:World}{base:Nat}{t e:TypeId}(bm:P.underlying t=some (.slice e)){a:Addr}{len cap:Nat}(h:Cell.okWide P W .any base t (.slice (some a) len cap)):∃c el fz,W.heap[a.block]? =some (.cells c el fz):=by
 simp only[Cell.okWide,bm,Cell.ok] at h
 obtain⟨_,_,_,_,row,cells,hs,_⟩:=h
 unfold World.shape? at hs
 cases ae:W.heap[a.block]? with
 |none=>simp[ae] at hs
 |some o=>
  rw[ae] at hs
  cases o with
  |cells c el fz=>exact⟨c,el,fz,rfl⟩
  |_=>cases hs
def EF(μ:bb)(W:World)(i:ee)(cs:List I)(el:Nat):Prop:=∃c fz,W.heap[i.a1]? =some (.cells c el fz)/\xP μ cs c i.base/\i.base+i.size=c.size
theorem WB{P:Program}{W:World}(iH:P.globals.size<=W.heap.size)(l:List (ee×List I×Nat))(ar:∀x∈l,EF (oQ P.globals.size (l.map (·.1))) W x.1 x.2.1 x.2.2):
  bc (oQ P.globals.size (l.map (·.1))) (rG P.globals.size (l.map (·.2))) W/\gm P (oQ P.globals.size (l.map (·.1)))/\vY (rG P.globals.size (l.map (·.2))):=by
 have ro:∀b o,(rG P.globals.size (l.map (·.2))).get b=some o->∃x,l[b-P.globals.size]? =some x/\¬b<P.globals.size/\o=.cells x.2.1 x.2.2 .ro 0 0:=by
  intro b o h
  rw[Ck] at h
  split at h
  · cases h
  · rename_i ae
    rw[List.getElem?_map] at h
    cases J:l[b-P.globals.size]? with
    |none=>rw[J] at h;cases h
    |some x=>rw[J] at h;cases h;exact⟨x,rfl,ae,rfl⟩
 refine⟨⟨λb o j h aF=>?_,λb c' j k aa ad=>?_,λb j h=>?_,λb h=>?_⟩,λg aj=>⟨⟨g,0,0⟩,by simp[oQ,aj],rfl,rfl⟩,λb o h=>?_⟩
 · obtain⟨x,J,ae,rfl⟩:=ro b o h
   have qY:=aF
   unfold oQ at qY
   rw[if_neg ae,List.getElem?_map,J] at qY
   cases qY
   obtain⟨c,fz,aV,ba,b1⟩:=ar x (List.mem_of_getElem? J)
   exact⟨c,fz.1,fz.2,aV,ba,b1,trivial⟩
 · obtain⟨o,ad,aq⟩:=ad
   obtain⟨x,_,_,rfl⟩:=ro _ o ad
   cases aq
 · rw[Cj,List.length_map]
   unfold oQ at h
   split at h
   · rename_i ae;cases h;exact⟨by omega,Nat.lt_of_lt_of_le ae iH⟩
   · rw[List.getElem?_map] at h
     cases J:l[b-P.globals.size]? with
     |none=>rw[J] at h;cases h
     |some x=>
      rw[J] at h;cases h
      obtain⟨c,fz,aV,_⟩:=ar x (List.mem_of_getElem? J)
      have:=(List.getElem?_eq_some_iff.1 J).1
      exact⟨by omega,(Array.getElem?_eq_some_iff.1 aV).1⟩
 · rw[Cj,List.length_map] at h
   rw[Ck,if_neg (by omega),List.getElem?_map,List.getElem?_eq_none (by omega)];rfl
 · obtain⟨x,_,_,rfl⟩:=ro b o h;rfl
theorem WC{W:World}{i:ee}{cs:List I}{el:Nat}(h:Hl W i cs el)(μ:bb):EF μ W i cs el:=by
 obtain⟨c,fz,aa,ad,aq⟩:=h
 exact⟨c,fz,aa,ad μ,aq⟩
theorem va{W:World}{a:Addr}{j:Nat}{v:Value}(h:W.cell? (a.add j)=some v):∃c el fz,W.heap[a.block]? =some (.cells c el fz)/\c[a.off+j]? =some v/\(j=0->a.spot=none):=by
 have da:(a.add 0).add j=a.add j:=by simp[Addr.add]
 obtain⟨c,el,fz,aV,ba,b1⟩:=Wx (W:=W) (a:=a) (m:=0) (j:=j) (by rw[da];exact h)
 exact⟨c,el,fz,aV,by simpa using ba,b1 rfl⟩
theorem WD{P:Program}{W:World}{r:Reach}{base u e:Nat}{v:Value}(hu:P.underlying u=some (.slice e))(h:Cell.okWide P W r base u v):∃a len cap,v=.slice a len cap:=by
 simp only[Cell.okWide,hu] at h
 cases v<;>simp_all [Cell.ok]
theorem Ay:Tryd.prog.underlying 22=some (.slice 5):=by kernel_rfl
theorem Ln(l:List UInt8)(i:Nat)(h:i<l.length):(cI l)[i]? =some (.int .u8 (Int.ofNat (l[i]).toNat)):=by
 induction l generalizing i with
 |nil=>simp at h
 |cons x l a3=>
  cases i with
  |zero=>rfl
  |succ i=>simp only[cI,List.getElem?_cons_succ,List.getElem_cons_succ];exact a3 i (by simpa using h)
theorem WE{H:Type}{enc:TypeId×Value->H}{W:World}{sp:Nat->Bool}{held:Bool}{fuel:Nat}{Az:Value}{x:DataW H×List MemPlace}(h:DataW.trod enc Tryd.prog W 0 sp held fuel 22 [Az]=some x):
  ∃hE rows,(∀x∈rows,Hl W x.1 x.2.1 x.2.2)/\∀B oe,∃z,∀(μ:bb) (h:ab) i0,μ oe=some i0->oe<h.n->sK rows μ h B->z2 h.n h z hE/\a2 μ z Az:=by
 have hu:Tryd.prog.underlying 5=some (.int .u8):=by kernel_rfl
 rcases open_ints Ay hu (by kernel_rfl) h with⟨e,_⟩|⟨a,len,cap,jY,e,_,hle,_,lW,_,af,vC⟩
 · cases e
   exact⟨[],[],by simp,λB oe=>⟨.bd,λμ h i0 _ _ _=>⟨.inl ⟨rfl,rfl⟩,rfl⟩⟩⟩
 · cases e
   by_cases h0:len=0
   · subst h0
     exact⟨[],[],by simp,λB oe=>⟨.slice oe 0 0 .dead,λμ h i0 aa aq _=>⟨.inr ⟨oe,0,.dead,rfl,aq,rfl,λi ag=>by simp at ag⟩,⟨_,aa,rfl,a,cap,rfl⟩⟩⟩⟩
   · have ar:len<=jY.length:=by rw[lW];split<;>omega
     obtain⟨c,el,fz,ae,_,_⟩:=va (af 0 (by omega))
     have jj:∀i,i<jY.length->c[a.off+i]? =some (.int .u8 (jY.getD i 0))/\(i=0->a.spot=none):=by
      intro i ag
      obtain⟨c',q7,YP,aV,ba,b1⟩:=va (af i ag)
      rw[ae] at aV
      cases aV
      exact⟨ba,b1⟩
     obtain⟨mI,hs⟩:=jj 0 (by omega)
     have Lo:=hs rfl
     have x6:a.off<=c.size:=by have:=(Array.getElem?_eq_some_iff.1 mI).1;omega
     obtain⟨hE,tu⟩:∃hE,hE=(jY.take len).map λz=>UInt8.ofNat z.toNat:=⟨_,rfl⟩
     have uM:hE.length=len:=by rw[tu];simp;omega
     refine⟨hE,[(⟨a.block,a.off,c.size-a.off⟩,cI hE,el)],λx J=>?_,λB oe=>⟨.slice B 0 len (.exact cap),λμ h i0 _ _ ai=>?_⟩⟩
     · obtain rfl:x=_:=by simpa using J
       refine⟨c,fz,ae,λμ j v aF=>?_,by simp;omega⟩
       have s6:j<len:=by
        have:=(List.getElem?_eq_some_iff.1 aF).1
        simp only[Ed,uM] at this;exact this
       have EG:j<jY.length:=by omega
       refine⟨_,(jj j EG).1,?_⟩
       have aH:=Ln hE j (by rw[uM];exact s6)
       simp only at aF
       rw[aH] at aF
       cases aF
       have hw:=vC jY[j] (List.getElem_mem EG)
       have aP:0<=jY[j]/\jY[j]<256:=by
        have Bf:IntKind.u8.min<=jY[j]/\jY[j]<=IntKind.u8.max:=by simpa[Lit.wf] using hw
        have aR:IntKind.u8.min=0:=by decide
        have bD:IntKind.u8.max=255:=by decide
        rw[aR,bD] at Bf
        omega
       have ax:jY.getD j 0=jY[j]:=by simp[List.getD,List.getElem?_eq_getElem EG]
       rw[ax]
       have av:(hE[j]'(by rw[uM];exact s6)).toNat=jY[j].toNat:=by
        subst tu
        rw[List.getElem_map,List.getElem_take,UInt8.toNat_ofNat'];omega
       rw[av]
       have bq:Int.ofNat jY[j].toNat=jY[j]:=by
        have:=Int.toNat_of_nonneg aP.1;simpa using this
       rw[bq];rfl
     · obtain⟨aa,ad,aq⟩:=ai 0 _ rfl
       simp only[Nat.add_zero] at aa ad aq
       refine⟨.inr ⟨B,0,.exact cap,by rw[uM],aq,by show hE.length<=cap;rw[uM];exact hle,λi ag=>?_⟩,⟨_,aa,?_⟩⟩
       · rw[Nat.zero_add,Nat.mul_one]
         exact mb ad (Ln hE i ag)
       · obtain⟨a1,off,spot⟩:=a
         simp only at Lo
         subst Lo
         rfl
theorem WG(i:Nat)(e:bI):(fK i e).pins=e.pins+if e.id=i then 1 else 0:=by
 unfold fK
 split<;>rfl
theorem WH{i:Nat}{l:List bI}(h:∃e∈l,e.id=i):∃x,mn i l=some x:=by
 obtain⟨e,he,ag⟩:=h
 cases J:mn i l with
 |some x=>exact⟨x,rfl⟩
 |none=>
  have:=List.find?_eq_none.1 J e he
  rw[ag] at this;simp[Nat.beq_refl] at this
theorem cH.lt{D:Type}{enc:D->List I}{w el B:Nat}{h:ab}{v:I}{ds:List D}(aQ:cH enc w el B h v ds):∀d k cp,v=.slice d 0 k cp->B<=d/\d<h.n:=by
 intro d k cp e
 rcases aQ with⟨rfl,_⟩|⟨q,rfl,_,_,aC,bC⟩
 · cases e
 · cases e;exact⟨aC,bC⟩
theorem WI(m p id aR:Nat)(h:ab){R:a7->Prop}(H:∃bn:Bool,∃al:ab,(Y m) (.fn 16) [.ptr p 0] h=.ret (.bool bn) al/\(bn=true->R (.ret (.aJ [.br,.bool false]) al))/\(bn=false->aB al p (0+3)=some (.map aR)/\gv Tryd.prog al 52 (.map aR) (.int .u64 (.ofNat id)) false=some .br/\R (.ret (.aJ [.br,.bool false]) al))):
  R (Y (m+1) (.fn 8) [.ptr p 0,.int .u64 (.ofNat id)] h):=
 dq (intr:=b5) [(18,.a9 (.is (.map aR))),(20,.a9 (.is .br))] [(0,.v (.ptr p 0)),(1,.v (.int .u64 (.ofNat id)))] Tryd.func8 (by kernel_rfl) (by kernel_rfl) (by kernel_rfl) rfl (Eq.mp (by kernel_rfl) H)
theorem WJ(m p id aR:Nat)(h:ab){R:a7->Prop}(H:∃bn:Bool,∃al:ab,(Y m) (.fn 16) [.ptr p 0] h=.ret (.bool bn) al/\(bn=true->R (.ret (.aJ [.br,.bool false]) al))/\(bn=false->aB al p (0+3)=some (.map aR)/\∃aM:Nat,gv Tryd.prog al 52 (.map aR) (.int .u64 (.ofNat id)) false=some (.ptr aM 0)/\aB al p (0+3)=some (.map aR)/\∃bo:Nat,gv Tryd.prog al 52 (.map aR) (.int .u64 (.ofNat id)) false=some (.ptr bo 0)/\∃bF:Nat,aB (al.room 18) bo (0+0+0)=some (.int .i64 (.ofNat bF))/\∃s1:List UInt8,aB (al.room 18) bo (0+0+1)=some (.str s1)/\∃v1:I,aB (al.room 18) bo (0+5)=some v1/\∃v2:I,∃aA:ab,(Y m) (.fn 17) [v1] (al.room 18)=.ret v2 aA/\I.cw v2=true/\I.cw v2=true/\aB (ab.set aA (al.n+16) (some (.cells [.int .i64 (.ofNat bF),.str s1,v2,.bd,.br] 43 .own 0 0))) bo (0+0+0)=some (.int .i64 (.ofNat bF))/\aB (ab.set aA (al.n+16) (some (.cells [.int .i64 (.ofNat bF),.str s1,v2,.bd,.br] 43 .own 0 0))) bo (0+0+1)=some (.str s1)/\I.sound v1=true/\I.sound v2=true/\∃eE:I,aB (ab.set aA (al.n+16) (some (.cells [.int .i64 (.ofNat bF),.str s1,v2,.bd,.br] 43 .own 0 0))) bo (0+6)=some eE/\∃b4:Nat,cr Tryd.prog (ab.set aA (al.n+16) (some (.cells [.int .i64 (.ofNat bF),.str s1,v2,.bd,.br] 43 .own 0 0))) 46 eE=some (.int .i64 (.ofNat b4))/\a4 Tryd.prog Tryd.f8 (Y m) [1,1,1,1,0,1,0] (au.mk [(0,.ptr p 0),(6,.ptr bo 0),(7,.ptr (al.n+16) 0),(49,eE),(50,.int .i64 (.ofNat b4)),(51,.int .i64 (.ofNat 0))] [] .none (ab.set aA (al.n+16) (some (.cells [.int .i64 (.ofNat bF),.str s1,v2,.bd,.br] 43 .own 0 0)))) (λca ck=>∃cy:Nat,∃cO:Nat,∃aU:ab,∃bW:Env,ca=.exit 0/\ck=au.mk bW [] .none aU/\cd [(0,.ptr p 0),(6,.ptr cy 0),(7,.ptr cO 0)] bW/\∃di:Nat,aB aU cy (0+0+4)=some (.int .u64 (.ofNat di))/\∃v4:I,∃cJ:Bool,∃bB:ab,(Y m) (.fn 8) [.ptr p 0,.int .u64 (.ofNat di)] aU=.ret (.aJ [v4,.bool cJ]) bB/\I.cw v4=true/\∃bO:ab,a8.storeCells bB cO (0+4) [v4]=some bO/\R (.ret (.aJ [.ptr cO 0,.bool true]) bO)))):
  R (Y (m+1) (.fn 8) [.ptr p 0,.int .u64 (.ofNat id)] h):=
 dq (intr:=b5) [(1022,.f),(18,.a9 (.is (.map aR))),(20,.a9 .p),(26,.a9 (.is (.map aR))),(28,.a9 .p),(43,.a9 .o),(49,.a9 .o),(80,.a9 (.g_ [.o,.b])),(4000,.hH [0,6,7,49,50,51] [(.exit 0,[(0,.is (.ptr p 0)),(6,.p),(7,.p)])])] [(0,.v (.ptr p 0)),(1,.v (.int .u64 (.ofNat id)))] Tryd.func8 (by kernel_rfl) (by kernel_rfl) (by kernel_rfl) rfl (Eq.mp (by kernel_rfl) H)
theorem WK(call:bt)(p e t b off N i:Nat)(cp:c7)(h:ab){Q:bk->au->Prop}(H:(i<N->i<N/\∃aM:Nat,aB h b (off+i*1)=some (.int .u64 (.ofNat aM))/\∃bo:Nat,∃bn:Bool,∃al:ab,call (.fn 8) [.ptr p 0,.int .u64 (.ofNat aM)] h=.ret (.aJ [.ptr bo 0,.bool bn]) al/\∃v1:I,aB al t (0+3)=some v1/\∃v2:I,∃aA:ab,eh Tryd.prog (ab.push al (.cells [.ptr bo 0] 33 .own 0 0)) 41 (some 41) v1 (.slice al.n 0 1 (.exact 1))=some (v2,aA)/\I.cw v2=true/\∃aU:ab,a8.storeCells aA t (0+3) [v2]=some aU/\i+1<9223372036854775808/\Q .nrm (au.mk [(0,.ptr p 0),(6,.ptr e 0),(7,.ptr t 0),(49,.slice b off N cp),(50,.int .i64 (.ofNat N)),(51,.int .i64 (.ofNat (i+1)))] [] .none aU))/\(¬i<N->Q (.exit 0) (au.mk [(0,.ptr p 0),(6,.ptr e 0),(7,.ptr t 0),(49,.slice b off N cp),(50,.int .i64 (.ofNat N)),(51,.int .i64 (.ofNat i))] [] .none h))):
  a4 Tryd.prog Tryd.f8 call [1,1,1,1,0,1,0,0] ⟨[(0,.ptr p 0),(6,.ptr e 0),(7,.ptr t 0),(49,.slice b off N cp),(50,.int .i64 (.ofNat N)),(51,.int .i64 (.ofNat i))],[],.none,h⟩ Q:=
 dZ [(58,.a9 (.g_ [.p,.b]))] [0,6,7,49,50,51] [(0,.v (.ptr p 0)),(6,.v (.ptr e 0)),(7,.v (.ptr t 0)),(49,.v (.slice b off N cp)),(50,.v (.int .i64 (.ofNat N))),(51,.v (.int .i64 (.ofNat i)))] rfl (Eq.mp (by kernel_rfl) H)
theorem WL(call:bt)(p e t:Nat)(v:I)(h:ab){Q:bk->au->Prop}(H:¬0<0/\Q (.exit 0) (au.mk [(0,.ptr p 0),(6,.ptr e 0),(7,.ptr t 0)] [] .none h)):
  a4 Tryd.prog Tryd.f8 call [1,1,1,1,0,1,0,0] ⟨[(0,.ptr p 0),(6,.ptr e 0),(7,.ptr t 0),(49,v),(50,.int .i64 (.ofNat 0)),(51,.int .i64 (.ofNat 0))],[],.none,h⟩ Q:=
 dZ [(1052,.f)] [0,6,7] [(0,.v (.ptr p 0)),(6,.v (.ptr e 0)),(7,.v (.ptr t 0)),(49,.o v),(50,.v (.int .i64 (.ofNat 0))),(51,.v (.int .i64 (.ofNat 0)))] rfl (Eq.mp (by kernel_rfl) H)
theorem Lp(m:Nat){F:Nat->Prop}{h:ab}{p i:Nat}{s:b7}(w:fU F h p s)(aH:∀e∈s.l,e.id≠i):Y (m+2) (.fn 8) [.ptr p 0,.int .u64 (Int.ofNat i)] h=.ret (.aJ [.br,.bool false]) h:=by
 obtain⟨aR,bD,aT,bp,M,w,r⟩:=w
 have jV:∀x∈M,x.e.id≠i:=λx J=>aH x.e (by rw[<-r.e];exact List.mem_map.2 ⟨x,J,rfl⟩)
 exact WI (m+1) p i aR h (R:=λy=>y=.ret (.aJ [.br,.bool false]) h) ⟨false,h,Ax m w,λh=>(by cases h),λ_=>⟨a_ w.st rfl,Ec w.ax jV false,rfl⟩⟩
def WM(n:Nat)(t:aZ):Prop:=∀(F:Nat->Prop) (h:ab) (p i:Nat) (s:b7),fU F h p s->dG s->qJ s.l i t->∃r g,Y n (.fn 8) [.ptr p 0,.int .u64 (Int.ofNat i)] h=.ret (.aJ [.ptr r 0,.bool true]) g/\Ext h.n h g/\fL (xa h.n g.n) g t (.ptr r 0)
theorem fU.ext{F:Nat->Prop}{h g:ab}{p:Nat}{s:b7}(w:fU F h p s)(e:Ext h.n h g):fU F g p s:=w.move e.n (λd ak _ _=>e.get d ak) λd _ h=>.inl h
theorem Lq{l:List bI}:∀{n_:List Nat} {cu:List aZ},qK l n_ cu->n_.length=cu.length/\∀i (aa:i<n_.length) (ad:i<cu.length),qJ l n_[i] cu[i]
 |[],[],_=>⟨rfl,λi h=>by cases h⟩
 |[],_::_,h=>by simp[qK] at h
 |_::_,[],h=>by simp[qK] at h
 |j::n_,t::cu,h=>by
  rw[qK] at h
  obtain⟨hB,EH,e,aa,ad⟩:∃hB EH,j::n_=hB::EH/\qJ l hB t/\qK l EH cu:=by
   first
    |exact⟨_,_,rfl,h.1,h.2⟩
    |(obtain⟨a,b,c,d,e⟩:=h;exact⟨a,b,c,d,e⟩)
  cases e
  obtain⟨bJ,bR⟩:=Lq ad
  refine⟨by rw[List.length_cons,List.length_cons,bJ],λi aq aC=>?_⟩
  cases i with
  |zero=>exact aa
  |succ i=>exact bR i (by simpa using aq) (by simpa using aC)
theorem EI:∀(N:Nat) (t:aZ),sz t<=N->sz t<=60->jT t<=1000->∀n,sz t+3<=n->WM n t
 |0,t,h,_,_,_,_=>by have:=ub t;omega
 |N+1,.mk k nm ns xs rt,hU,zD,h5,n,aH=>by
  intro F h p i s st hs Lr
  have bh:=o1 k nm ns xs rt
  have kG:=qu xs
  have WN:jT (.mk k nm ns xs rt)=ns.length+m2 xs+m3 rt:=by rw[jT]
  rw[qJ] at Lr
  obtain⟨e,he,zY,an,jl,WO,kF,fk⟩:=Lr
  subst an;subst jl;subst WO
  obtain⟨gC,vA⟩:=Lq kF
  obtain⟨m,rfl⟩:∃m,n=m+3:=⟨n-3,by omega⟩
  have la:=st
  obtain⟨aR,bD,aT,bp,M,w,r⟩:=st
  obtain⟨x,J,k1⟩:=List.mem_map.1 (r.e▸he:e∈M.map Mem.e)
  subst k1
  have dp:=sr w.ax w.up J false
  rw[zY] at dp
  have sC:=w.dz x J
  have ta:=w.aY.2.2.2 x J
  have KY:(h.room 18).n=h.n+18:=rfl
  have xA:Ext h.n h (h.room 18):=Ext.room _ _ _
  have Au:=w.ns x J
  have Ez:∃v2 aA,Y (m+2) (.fn 17) [x.bZ] (h.room 18)=.ret v2 aA/\na (h.n+18) aA v2 x.e.ns/\Ext (h.room 18).n (h.room 18) aA/\v2.cw=true:=by
   have EA:ep (h.room 18).n (h.room 18) x.bZ (x.e.ns.map .str):=by
    rcases Au with⟨a,b⟩|⟨q,b8,cG,dw,gF,gf⟩
    · exact .inl ⟨a,by rw[b];rfl⟩
    · refine .inr ⟨q,0,.aS 1,by rw[b8,List.length_map],by omega,λj aF=>?_,by rw[List.length_map];exact cG,by simp⟩
      refine mb (h:=h.room 18) dw ?_
      rw[kZ,Nat.zero_add,Nat.mul_one,List.getElem?_eq_getElem aF]
   rcases DB (m+1) (Nat.le_refl _) EA (by rw[List.length_map];omega) (by simp[List.all_map,I.cw]) with⟨_,da,c⟩|⟨aa,b,al,c,bn,cJ,dr,gG⟩
   · have da:x.e.ns=[]:=by simpa using da
     exact⟨.bd,_,c,.inl ⟨rfl,da⟩,Ext.refl _ _,rfl⟩
   · rw[List.length_map] at aa c
     refine⟨_,al,c,.inr ⟨b,rfl,aa,?_,bn,cJ⟩,gG,rfl⟩
     rw[kZ];exact dr
  obtain⟨v2,aA,yL,Ls,qC,jj⟩:=Ez
  have bo:=qC.n
  obtain⟨H,cQ⟩:∃H,H=aA.set (h.n+16) (some (.cells [.int .i64 (Int.ofNat x.e.k),.str x.e.nm,v2,.bd,.br] 43 .own 0 0)):=⟨_,rfl⟩
  have n6:H.n=aA.n:=by rw[cQ];rfl
  have dU:Ext h.n h H:=by rw[cQ];exact Ext.hG (by omega) (xA.trans (by omega) qC)
  have Lt:na (h.n+18) H v2 x.e.ns:=cH.D6 Ls (by omega) λd aa _=>by rw[cQ];exact c5 (by omega) rfl
  have oE:=w.az x J
  have EJ:H.get x.b=some (uz x.e x.ak x.bZ x.bf):=(dU.get _ ta).trans sC
  have WQ:cr Tryd.prog H 46 x.bf=some (.int .i64 (Int.ofNat x.e.args.length)):=cH.len (P:=Tryd.prog) (sT:=46) (by kernel_rfl) oE H
  have WR:I.sound v2=true:=cH.sound Ls
  subst cQ
  refine WJ (m+2) p i aR h (R:=λy=>∃r g,y=.ret (.aJ [.ptr r 0,.bool true]) g/\Ext h.n h g/\fL (xa h.n g.n) g (.mk x.e.k x.e.nm x.e.ns xs rt) (.ptr r 0)) ⟨false,h,Ax (m+1) w,λh=>(by cases h),λ_=>⟨a_ w.st rfl,x.b,dp,a_ w.st rfl,x.b,dp,x.e.k,a_ (h:=h.room 18) sC rfl,x.e.nm,a_ (h:=h.room 18) sC rfl,x.bZ,a_ (h:=h.room 18) sC rfl,v2,aA,yL,jj,jj,a_ EJ rfl,a_ EJ rfl,cH.sound Au,WR,x.bf,a_ EJ rfl,x.e.args.length,WQ,?_⟩⟩
  have rest:∀(y:ab) (bf:I) (ps:List Nat) (Γ:Env),Ext h.n h y->h.n+18<=y.n->y.get (h.n+16)=some (.cells [.int .i64 (Int.ofNat x.e.k),.str x.e.nm,v2,bf,.br] 43 .own 0 0)->na (h.n+18) y v2 x.e.ns->z4 (h.n+18) y bf ps->eQ (λb=>h.n<=b/\b<y.n/\b≠h.n+16) y xs (ps.map xb)->cd [(0,.ptr p 0),(6,.ptr x.b 0),(7,.ptr (h.n+16) 0)] Γ->
    ∃cy cO aU bW,bk.exit 0=.exit 0/\(⟨Γ,[],.none,y⟩:au)=au.mk bW [] .none aU/\cd [(0,.ptr p 0),(6,.ptr cy 0),(7,.ptr cO 0)] bW/\∃di,aB aU cy (0+0+4)=some (.int .u64 (Int.ofNat di))/\∃v4 cJ bB,Y (m+2) (.fn 8) [.ptr p 0,.int .u64 (Int.ofNat di)] aU=.ret (.aJ [v4,.bool cJ]) bB/\I.cw v4=true/\∃bO,a8.storeCells bB cO (0+4) [v4]=some bO/\∃r g,a7.ret (.aJ [.ptr cO 0,.bool true]) bO=.ret (.aJ [.ptr r 0,.bool true]) g/\Ext h.n h g/\fL (xa h.n g.n) g (.mk x.e.k x.e.nm x.e.ns xs rt) (.ptr r 0):=by
   intro y bf ps Γ aO uD pg mR dO xB cR
   have WS:y.get x.b=some (uz x.e x.ak x.bZ x.bf):=(aO.get _ ta).trans sC
   have Lu:=la.ext aO
   have ret:∃v4 cJ bB,Y (m+2) (.fn 8) [.ptr p 0,.int .u64 (Int.ofNat x.e.ret)] y=.ret (.aJ [v4,.bool cJ]) bB/\I.cw v4=true/\Ext y.n y bB/\ob (xa y.n bB.n) bB rt v4:=by
    cases rt with
    |none=>
     rw[zZ] at fk
     have da:x.e.ret=0:=fk
     rw[da]
     exact⟨.br,false,y,Lp m Lu (λe he h0=>by have:=(hs.aY e he).1;omega),rfl,Ext.refl _ _,rfl⟩
    |some u=>
     rw[zZ] at fk
     rw[o2] at bh
     rw[show m3 (some u)=jT u by rw[m3]] at WN
     obtain⟨je,bB,gl,eO,t4⟩:=EI N u (by omega) (by omega) (by omega) (m+2) (by omega) F y p _ s Lu hs fk
     exact⟨.ptr je 0,true,bB,gl,rfl,eO,t4⟩
   obtain⟨v4,cJ,bB,gl,Lv,eO,t4⟩:=ret
   have b4:=eO.n
   have node4:=(eO.get (h.n+16) (by omega)).trans pg
   have WT:Ext h.n h bB:=aO.trans aO.n eO
   refine⟨x.b,h.n+16,y,Γ,rfl,rfl,cR,x.e.ret,a_ WS rfl,v4,cJ,bB,gl,Lv,bB.set (h.n+16) (some (.cells [.int .i64 (Int.ofNat x.e.k),.str x.e.nm,v2,bf,v4] 43 .own 0 0)),?_,h.n+16,_,rfl,Ext.hG (by omega) WT,?_⟩
   · refine gn node4 rfl ?_
     simp[ff,Lv]
   · have low:∀d,d≠h.n+16->(bB.set (h.n+16) (some (.cells [.int .i64 (Int.ofNat x.e.k),.str x.e.nm,v2,bf,v4] 43 .own 0 0))).get d=bB.get d:=λd ak=>c5 ak rfl
     have Lw:na (h.n+18) (bB.set (h.n+16) (some (.cells [.int .i64 (Int.ofNat x.e.k),.str x.e.nm,v2,bf,v4] 43 .own 0 0))) v2 x.e.ns:=cH.D6 mR (by simp;omega) λd aa ad=>(low d (by omega)).trans (eO.get d ad)
     have Lx:z4 (h.n+18) (bB.set (h.n+16) (some (.cells [.int .i64 (Int.ofNat x.e.k),.str x.e.nm,v2,bf,v4] 43 .own 0 0))) bf ps:=cH.D6 dO (by simp;omega) λd aa ad=>(low d (by omega)).trans (eO.get d ad)
     refine⟨h.n+16,v2,bf,v4,ps.map xb,.own,0,0,rfl,⟨by omega,by simp;omega⟩,ft rfl,J0 Lw (cH.J7 Lw (by omega)),J0 Lx (cH.J7 Lx (by omega)),?_,?_⟩
     · exact eQ.cL (λb ae=>⟨⟨ae.1,by simp;omega⟩,(low b ae.2.2).trans (eO.get b ae.2.1)⟩) _ _ xB
     · exact ob.cL (λb ae=>⟨⟨by have:=ae.1;omega,by simp;exact ae.2⟩,low b (by have:=ae.1;omega)⟩) _ _ t4
  rcases oE with⟨WU,Ly⟩|⟨q,aE,aV,ba,b1,gy⟩
  · have mI:xs=[]:=List.eq_nil_of_length_eq_zero (by rw[<-gC,Ly];rfl)
    rw[WU,Ly]
    refine a4.loop (by kernel_rfl) (λk st=>∃Γ,st=⟨Γ,[],.none,aA.set (h.n+16) (some (.cells [.int .i64 (Int.ofNat x.e.k),.str x.e.nm,v2,.bd,.br] 43 .own 0 0))⟩/\cd [(0,.ptr p 0),(6,.ptr x.b 0),(7,.ptr (h.n+16) 0),(49,.bd),(50,.int .i64 (Int.ofNat 0)),(51,.int .i64 (Int.ofNat 0))] Γ) ?_ 0 _ (by omega) ⟨_,rfl,rfl,rfl,rfl,rfl,rfl,rfl,trivial⟩
    rintro dA bG ⟨Γ,rfl,cR⟩
    refine a4.pre (WL _ p x.b (h.n+16) .bd _ ⟨by omega,?_⟩) cR rfl rfl rfl
    exact rest _ .bd [] _ dU (by simp;omega) (ft rfl) Lt (.inl ⟨rfl,rfl⟩) (by rw[mI];rfl) ⟨rfl,rfl,rfl,trivial⟩
  · rw[aE]
    refine a4.loop (by kernel_rfl) (λk st=>∃j y bf ps Γ,st=⟨Γ,[],.none,y⟩/\cd [(0,.ptr p 0),(6,.ptr x.b 0),(7,.ptr (h.n+16) 0),(49,.slice q 0 x.e.args.length (.aS 1)),(50,.int .i64 (Int.ofNat x.e.args.length)),(51,.int .i64 (Int.ofNat j))] Γ/\x.e.args.length-j=k/\j<=x.e.args.length/\Ext h.n h y/\h.n+18<=y.n/\y.get (h.n+16)=some (.cells [.int .i64 (Int.ofNat x.e.k),.str x.e.nm,v2,bf,.br] 43 .own 0 0)/\na (h.n+18) y v2 x.e.ns/\z4 (h.n+18) y bf ps/\ps.length=j/\eQ (λb=>h.n<=b/\b<y.n/\b≠h.n+16/\∀n cp,bf≠ .slice b 0 n cp) y (xs.take j) (ps.map xb)) ?_ x.e.args.length _ (by omega) ⟨0,_,.bd,[],_,rfl,⟨rfl,rfl,rfl,rfl,rfl,rfl,trivial⟩,by omega,by omega,dU,by simp;omega,ft rfl,Lt,.inl ⟨rfl,rfl⟩,rfl,rfl⟩
    rintro dA bG ⟨j,y,bf,ps,Γ,rfl,cR,ek,aF,aO,uD,pg,mR,dO,jE,xB⟩
    refine a4.pre (WK _ p x.b (h.n+16) q 0 _ j (.aS 1) y ⟨λfX=>?_,λfX=>?_⟩) cR rfl rfl rfl
    · have hk:j<xs.length:=by omega
      have Wd:=K5 xs hk
      have YQ:=Dn (List.getElem_mem hk)
      have ga:aB y q (0+j*1)=some (hO x.e.args[j]):=by
       refine mb ((aO.get q gy).trans ba) ?_
       rw[kZ,List.getElem?_map,Nat.zero_add,Nat.mul_one,List.getElem?_eq_getElem (by omega)];rfl
      obtain⟨je,bB,gl,eO,t4⟩:=EI N xs[j] (by omega) (by omega) (by omega) (m+2) (by omega) F y p _ s (la.ext aO) hs (vA j fX hk)
      have b4:=eO.n
      have node4:=(eO.get (h.n+16) (by omega)).trans pg
      obtain⟨K,cZ⟩:∃K,K=bB.push (.cells [.ptr je 0] 33 .own 0 0):=⟨_,rfl⟩
      have Lz:K.n=bB.n+1:=by rw[cZ];rfl
      have pj:Ext bB.n bB K:=by rw[cZ];exact Ext.push (Nat.le_refl _) _
      have WV:z4 (h.n+18) K bf ps:=(dO.mono eO (Nat.le_refl _)).mono pj (Nat.le_refl _)
      obtain⟨bO,b8,cG,dw,gF,gf⟩:=z1 J6 WV (by omega) (d:=je) (src:=.slice bB.n 0 1 (.exact 1)) (by rw[cZ];exact wh J6 bB 33 je) (by omega)
      have EK:=cH.lt dO
      have WW:∀n cp,bf≠ .slice (h.n+16) 0 n cp:=λn cp e=>by have:=(EK _ _ _ e).1;omega
      have node5:bO.get (h.n+16)=some (.cells [.int .i64 (Int.ofNat x.e.k),.str x.e.nm,v2,bf,.br] 43 .own 0 0):=(gf _ (by omega) WW).trans ((pj.get _ (by omega)).trans node4)
      have sG:∀d,d<bB.n->(∀n cp,bf≠ .slice d 0 n cp)->bO.get d=bB.get d:=λd ak cF=>(gf d (by omega) cF).trans (pj.get d ak)
      subst cZ
      refine⟨fX,_,ga,je,true,bB,gl,bf,a_ node4 rfl,_,bO,b8,rfl,_,gn node5 rfl rfl,by omega,_,(by show _<dA;omega),j+1,_,_,ps++[je],_,rfl,⟨rfl,rfl,rfl,rfl,rfl,rfl,trivial⟩,rfl,by omega,?_,by simp;omega,ft rfl,?_,?_,by simp[jE],?_⟩
      · refine Ext.hG (by omega) ⟨by omega,λd ak=>(sG d (by omega) λn cp e=>by have:=(EK _ _ _ e).1;omega).trans ((eO.get d (by have:=aO.n;omega)).trans (aO.get d ak))⟩
      · refine cH.cL mR (by simp;omega) λb ae q4=>?_
        have uM:=cH.lt mR b _ _ ae
        refine(c5 (by omega) rfl).trans ((sG b (by omega) λn cp e=>?_).trans (eO.get b q4))
        rcases mR with⟨ax,_⟩|⟨g7,ax,_,dr,_,_⟩
        · rw[ax] at ae;cases ae
        · rw[ax] at ae;cases ae
          rcases dO with⟨av,_⟩|⟨YR,av,_,gG,_,_⟩
          · rw[av] at e;cases e
          · rw[av] at e;cases e
            rw[dr] at gG
            injection gG with gG;injection gG with _ gG
            exact absurd gG (by decide)
      · exact .inr ⟨_,rfl,by simp,(c5 (by omega) rfl).trans cG,by omega,by simp;omega⟩
      · rw[List.take_succ_eq_append_getElem hk,List.map_append]
        have old:∀b,h.n<=b->b<bB.n->b≠h.n+16->(∀n cp,bf≠ .slice b 0 n cp)->(h.n<=b/\b<(bO.set (h.n+16) (some (.cells [.int .i64 (Int.ofNat x.e.k),.str x.e.nm,v2,.slice (bB.push (.cells [.ptr je 0] 33 .own 0 0)).n 0 (ps++[je]).length (.aS 1),.br] 43 .own 0 0))).n/\b≠h.n+16/\∀n cp,I.slice (bB.push (.cells [.ptr je 0] 33 .own 0 0)).n 0 (ps++[je]).length (c7.aS 1)≠ .slice b 0 n cp)/\(bO.set (h.n+16) (some (.cells [.int .i64 (Int.ofNat x.e.k),.str x.e.nm,v2,.slice (bB.push (.cells [.ptr je 0] 33 .own 0 0)).n 0 (ps++[je]).length (.aS 1),.br] 43 .own 0 0))).get b=bB.get b:=λb aa ad aq aC=>
         ⟨⟨aa,by simp;omega,aq,λn cp e=>by cases e;omega⟩,(c5 aq rfl).trans (sG b ad aC)⟩
        refine eQ.app (eQ.cons (fL.cL (λb ae=>old b (by have:=ae.1;omega) ae.2 (by have:=ae.1;omega) λn cp e=>by have:=(EK _ _ _ e).2;have:=ae.1;omega) _ _ t4) eQ.nil) (eQ.cL (λb ae=>?_) _ _ xB)
        obtain⟨bn,cJ,dr,gG⟩:=ae
        obtain⟨de,c9⟩:=old b bn (by omega) dr gG
        exact⟨de,c9.trans (eO.get b cJ)⟩
    · obtain rfl:j=x.e.args.length:=by omega
      rw[List.take_of_length_le (by omega)] at xB
      exact rest y bf ps _ aO uD pg mR dO (eQ.cL (λb ae=>⟨⟨ae.1,ae.2.1,ae.2.2.1⟩,rfl⟩) _ _ xB) ⟨rfl,rfl,rfl,trivial⟩
end Go.Proofs.hJ
