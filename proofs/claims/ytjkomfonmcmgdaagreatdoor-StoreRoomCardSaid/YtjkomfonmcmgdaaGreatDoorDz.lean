/-
  PROVED HERE: contracts of functions (Dz). No condition beside each statement's own.
-/
import Derived.Test.YtjkomfonmcmgdaaGreatDoorDk
import Derived.Test.YtjkomfonmcmgdaaGreatDoorAed
import Derived.Deep.Strs
import Derived.DataReads
import Derived.OpenShut
import Derived.ChangeSlices
import Derived.Test.YtjkomfonmcmgdaaGreatDoorDh
set_option linter.unusedVariables false
set_option linter.unusedSimpArgs false
namespace Go.Proofs.dj
open Go aP Go.Proofs c8 Go.Proofs.cG
set_option maxRecDepth 100000
set_option maxHeartbeats 1000000
theorem abN(m:Nat)(z:Int)(h:J){R:av->Prop}(H:∃aD:Nat,jE mz (.int .i64 z) [.int .i64 (.ofNat 0)]=some (.int .i64 (.ofNat aD))/\R (.ret (.ptr (J.n (J.push (J.push h (.map [] 0)) (.map [] 0))) 0) (J.push (J.push (J.push h (.map [] 0)) (.map [] 0)) (.cells [.int .i64 (.ofNat aD),.int .u64 (.ofNat 0),.int .u64 (.ofNat 0),.map h.n,.map (J.n (J.push h (.map [] 0)))] 58 .own 0 0)))):
  R (Y (m+1) (.fn 7) [.int .i64 z] h):=
 dI (intr:=b0) [] [(0,.v (.int .i64 z))] Tryz.func7 (by kernel_rfl) (by kernel_rfl) (by kernel_rfl) rfl (Eq.mp (by kernel_rfl) H)
theorem abO(m:Nat)(p:Nat)(aZ:Nat)(h:J){R:av->Prop}(H:au h p (0+3)=some (.map aZ)/\∃bo:Bool,eJ Tryz.prog h .eql 55 (.tmp 9) (.const (.map none)) (.map aZ) .h4=some (.bool bo)/\R (.ret (.bool bo) h)):
  R (Y (m+1) (.fn 21) [.ptr p 0] h):=
 dI (intr:=b0) [(9,.bA (.is (.map aZ)))] [(0,.v (.ptr p 0))] Tryz.func21 (by kernel_rfl) (by kernel_rfl) (by kernel_rfl) rfl (Eq.mp (by kernel_rfl) H)
theorem abP(m:Nat)(p:Nat)(r:Nat)(aZ:Nat)(h:J){R:av->Prop}(H:∃bo:Bool,∃ai:J,(Y m) (.fn 21) [.ptr p 0] h=.ret (.bool bo) ai/\bo=false/\∃aD:Nat,∃ax:J,(Y m) (.fn 25) [.ptr r 0] ai=.ret (.int .i64 (.ofNat aD)) ax/\aD=0/\∃bj:Nat,∃aB:J,(Y m) (.fn 26) [.ptr p 0,.ptr r 0] ax=.ret (.int .u64 (.ofNat bj)) aB/\au aB p (0+3)=some (.map aZ)/\∃bD:Nat,hy Tryz.prog aB 55 (.map aZ) (.int .u64 (.ofNat bj)) false=some (.ptr bD 0)/\∃bT:Nat,au aB bD (0+7)=some (.int .i64 (.ofNat bT))/\bT+1<9223372036854775808/\∃bE:J,aP.storeCells aB bD (0+7) [.int .i64 (.ofNat (bT+1))]=some bE/\∃bS:J,(Y m) (.fn 22) [.ptr p 0] bE=.ret (.aQ []) bS/\R (.ret (.aQ [.int .u64 (.ofNat bj),.int .i64 (.ofNat 0)]) bS)):
  R (Y (m+1) (.fn 11) [.ptr p 0,.ptr r 0] h):=
 dI (intr:=b0) [(1009,.f),(1013,.f),(21,.bA (.is (.map aZ))),(23,.bA .p)] [(0,.v (.ptr p 0)),(1,.v (.ptr r 0))] Tryz.func11 (by kernel_rfl) (by kernel_rfl) (by kernel_rfl) rfl (Eq.mp (by kernel_rfl) H)
theorem OX(m:Nat)(p:Nat)(id:Nat)(aZ:Nat)(h:J){R:av->Prop}(H:∃bo:Bool,∃ai:J,(Y m) (.fn 21) [.ptr p 0] h=.ret (.bool bo) ai/\bo=false/\au ai p (0+3)=some (.map aZ)/\∃aD:Nat,hy Tryz.prog ai 55 (.map aZ) (.int .u64 (.ofNat id)) true=some (.aQ [.ptr aD 0,.bool true])/\∃bj:Nat,au ai aD (0+7)=some (.int .i64 (.ofNat bj))/\(bj=0->R (.ret (.int .i64 (.ofNat 2)) ai))/\(¬bj=0->∃bD:Nat,au ai aD (0+7)=some (.int .i64 (.ofNat bD))/\(1<=bD/\bD<9223372036854775808)/\∃ax:J,aP.storeCells ai aD (0+7) [.int .i64 (.ofNat (bD-1))]=some ax/\∃aB:J,(Y m) (.fn 22) [.ptr p 0] ax=.ret (.aQ []) aB/\R (.ret (.int .i64 (.ofNat 0)) aB))):
  R (Y (m+1) (.fn 9) [.ptr p 0,.int .u64 (.ofNat id)] h):=
 dI (intr:=b0) [(1008,.f),(13,.bA (.is (.map aZ))),(15,.bA (.fL [.p,.is (.bool true)]))] [(0,.v (.ptr p 0)),(1,.v (.int .u64 (.ofNat id)))] Tryz.func9 (by kernel_rfl) (by kernel_rfl) (by kernel_rfl) rfl (Eq.mp (by kernel_rfl) H)
theorem abQ(m:Nat)(p:Nat)(id:Nat)(aZ:Nat)(h:J){R:av->Prop}(H:∃bo:Bool,∃ai:J,(Y m) (.fn 21) [.ptr p 0] h=.ret (.bool bo) ai/\bo=false/\au ai p (0+3)=some (.map aZ)/\hy Tryz.prog ai 55 (.map aZ) (.int .u64 (.ofNat id)) true=some (.aQ [.bb,.bool false])/\R (.ret (.int .i64 (.ofNat 5)) ai)):
  R (Y (m+1) (.fn 9) [.ptr p 0,.int .u64 (.ofNat id)] h):=
 dI (intr:=b0) [(1008,.f),(13,.bA (.is (.map aZ))),(15,.bA (.fL [.is .bb,.is (.bool false)]))] [(0,.v (.ptr p 0)),(1,.v (.int .u64 (.ofNat id)))] Tryz.func9 (by kernel_rfl) (by kernel_rfl) (by kernel_rfl) rfl (Eq.mp (by kernel_rfl) H)
theorem abR(m:Nat)(p:Nat)(aZ:Nat)(h:J){R:av->Prop}(H:∃bo:Bool,∃ai:J,(Y m) (.fn 21) [.ptr p 0] h=.ret (.bool bo) ai/\bo=false/\au ai p (0+3)=some (.map aZ)/\∃aD:Nat,cc Tryz.prog ai 55 (.map aZ)=some (.int .i64 (.ofNat aD))/\R (.ret (.int .i64 (.ofNat aD)) ai)):
  R (Y (m+1) (.fn 17) [.ptr p 0] h):=
 dI (intr:=b0) [(1004,.f),(8,.bA (.is (.map aZ)))] [(0,.v (.ptr p 0))] Tryz.func17 (by kernel_rfl) (by kernel_rfl) (by kernel_rfl) rfl (Eq.mp (by kernel_rfl) H)
theorem OY(a:Int):jE mz (.int .i64 a) [.int .i64 (Int.ofNat 0)]=some (.int .i64 (Int.ofNat a.toNat)):=by
 simp only[jE,mz]
 by_cases h:bM a (Int.ofNat 0)=true
 · have h0:a<0:=by simpa[bM] using h
   rw[if_pos h,show a.toNat=0 by omega];simp
 · have h0:¬a<0:=by simpa[bM] using h
   rw[if_neg h]
   have:Int.ofNat a.toNat=a:=Int.toNat_of_nonneg (by omega)
   rw[this];simp
theorem abS(m:Nat){F:Nat->Prop}{h:J}(z:Int)(fP:∀b,F b->b<h.n):∃g p,Y (m+1) (.fn 7) [.int .i64 z] h=.ret (.ptr p 0) g/\gE F g p ⟨z.toNat,0,0,[]⟩/\Ext h.n h g:=by
 obtain⟨ab,aA⟩:∃x,x=h.push (.map [] 0):=⟨_,rfl⟩
 obtain⟨ad,ay⟩:∃x,x=ab.push (.map [] 0):=⟨_,rfl⟩
 obtain⟨ar,bw⟩:∃x,x=ad.push (wT z.toNat 0 0 h.n ab.n):=⟨_,rfl⟩
 have aD:ab.n=h.n+1:=by rw[aA];rfl
 have bj:ad.n=ab.n+1:=by rw[ay];rfl
 have bD:ar.n=ad.n+1:=by rw[bw];rfl
 refine⟨ar,ad.n,abN m z h (R:=λx=>x=.ret (.ptr ad.n 0) ar) ⟨z.toNat,OY z,by rw[bw,ay,aA]⟩,⟨h.n,ab.n,0,0,[],⟨?_,?_,?_,?_,?_,?_,.nil,.nil,?_,.nil,?_,by omega,⟨by omega,by omega,by omega,?_⟩,⟨?_,?_,?_⟩,?_,?_,?_⟩,rfl,?_⟩,?_⟩
 · rw[bw];exact fo rfl
 · rw[bw];refine l7 (by omega) ?_;rw[ay];refine l7 (by omega) ?_;rw[aA];exact fo rfl
 · rw[bw];refine l7 (by omega) ?_;rw[ay];exact fo rfl
 · intro x aa;cases aa
 · intro x aa;cases aa
 · intro x aa;cases aa
 · intro x aa;cases aa
 · intro x aa;cases aa
 · intro x aa;cases aa
 · intro hf;have:=fP _ hf;omega
 · intro hf;have:=fP _ hf;omega
 · intro hf;have:=fP _ hf;omega
 · intro x aa;cases aa
 · intro x aa;cases aa
 · intro x aa;cases aa
 · intro x aa;cases aa
 · rw[bw];refine Ext.kG (by omega) ?_;rw[ay];refine Ext.kG (by omega) ?_;rw[aA];exact Ext.push (Nat.le_refl _) _
theorem CI(m:Nat){F:Nat->Prop}{h:J}{p aZ bQ aH a9 cap given clock:Nat}{M:List Mem}(w:gj F h p aZ bQ aH a9 cap given clock M):Y (m+1) (.fn 21) [.ptr p 0] h=.ret (.bool false) h:=
 abO m p aZ h (R:=λx=>x=.ret (.bool false) h) ⟨aV w.st rfl,false,by kernel_rfl,rfl⟩
theorem OZ(m:Nat){F:Nat->Prop}{h:J}{p:Nat}{s:cm}(w:gE F h p s):Y (m+2) (.fn 17) [.ptr p 0] h=.ret (.int .i64 (Int.ofNat s.l.length)) h:=by
 obtain⟨aZ,bQ,aH,a9,M,w,r⟩:=w
 refine abR (m+1) p aZ h (R:=λx=>x=.ret (.int .i64 (Int.ofNat s.l.length)) h) ⟨false,h,CI m w,rfl,aV w.st rfl,s.l.length,?_,rfl⟩
 have hu:=wP
 simp only[cc,hu,w.aA,List.length_map]
 rw[<-r.e,List.length_map]
structure Fit(K:Nat)(s:cm):Prop where
 ok:dw s
 nm:∀e∈s.l,e.args.length<=61/\jC e.ns
 kJ:s.given<=K
 oW:s.clock<=K
 pins:∀e∈s.l,e.pins<=K
theorem Fit.cn{K:Nat}{s:cm}(f:Fit K s)(h:K<=10000):p9 s:=⟨λe he=>(f.nm e he).1,λe he=>(f.nm e he).2,by have:=f.kJ;omega,by have:=f.oW;omega⟩
theorem Fit.room{K:Nat}{s:cm}(f:Fit K s):Fit K (n3 s):=⟨Gf _ _ f.ok,λe he=>f.nm e (zi _ _ _ e he),f.kJ,f.oW,λe he=>f.pins e (zi _ _ _ e he)⟩
theorem Fit.map{K Hj:Nat}{s:cm}(f:Fit K s)(dk:K<=Hj){g:ca->ca}(al:zh g)(aT:∀e,(g e).args=e.args/\(g e).ns=e.ns)(aK:∀e,(g e).pins<=e.pins+(Hj-K)):Fit Hj {s with l:=s.l.map g}:=by
 refine⟨f.ok.map al,λe he=>?_,by have:=f.kJ;show s.given<=_;omega,by have:=f.oW;show s.clock<=_;omega,λe he=>?_⟩<;>obtain⟨x,aa,rfl⟩:=List.mem_map.1 he
 · rw[(aT x).1,(aT x).2];exact f.nm x aa
 · have:=aK x
   have:=f.pins x aa
   omega
theorem abT:∀(t:aE) (s:cm),dw s->∀e∈(cD t s).2.l,e.pins=0\/∃q∈s.l,q.pins=e.pins:=λt s hs e he=>by
 obtain⟨_,g,_⟩:=m_ t hs
 rcases g.new e he with⟨q,aM,aT⟩|⟨_,h⟩
 · exact .inr ⟨q,aM,aT.pins.symm⟩
 · exact .inl h
theorem Fit.lay{K:Nat}{s:cm}(f:Fit K s){t:aE}(ag:dm (some t)=0):Fit (K+sz t) (cD t s).2:=by
 obtain⟨aD,bj,_⟩:=zI t s
 refine⟨(m_ t f.ok).1,G9 t s ag f.nm,by have:=f.kJ;omega,by have:=f.oW;omega,λe he=>?_⟩
 rcases abT t s f.ok e he with h|⟨q,aM,h⟩
 · omega
 · have:=f.pins q aM;omega
theorem O0(i:Nat)(e:ca):(iC i e).args=e.args/\(iC i e).ns=e.ns:=by unfold iC;split<;>exact⟨rfl,rfl⟩
theorem O1(i:Nat)(e:ca):(kk i e).args=e.args/\(kk i e).ns=e.ns:=by unfold kk;split<;>exact⟨rfl,rfl⟩
theorem O2(i:Nat)(e:ca):(iC i e).pins<=e.pins+1:=by
 unfold iC
 split
 · exact Nat.le_refl _
 · exact Nat.le_succ _
theorem O3(i:Nat)(e:ca):(kk i e).pins<=e.pins:=by
 unfold kk
 split
 · exact Nat.sub_le _ _
 · exact Nat.le_refl _
theorem Fit.intern{K:Nat}{s:cm}(f:Fit K s){t:aE}(ag:dm (some t)=0):Fit (K+61) (eg t s).2:=by
 have cu:=(kR.1 ag).1
 exact((f.lay ag).map (by omega:K+sz t<=K+61) (lJ _) (O0 _) λe=>Nat.le_trans (O2 _ e) (by omega)).room
theorem Fit.rel{K:Nat}{s:cm}(f:Fit K s)(i:Nat):Fit K (jc i s).2:=by
 unfold jc
 cases oT i s.l with
 |none=>exact f
 |some e=>
  simp only
  split
  · exact f
  · exact(f.map (Nat.le_refl K) (wH _) (O1 _) λe=>Nat.le_trans (O3 _ e) (by omega)).room
theorem abU(f:Nat->Nat):wW λy=>{y with e:={y.e with pins:=f y.e.pins}}:=⟨λ_=>rfl,λ_=>rfl,λ_=>rfl,λ_=>rfl,λ_=>rfl,λ_=>rfl,λ_=>rfl,λ_=>rfl,λ_=>rfl⟩
theorem gj.ni{F:Nat->Prop}{h:J}{p aZ bQ aH a9 cap given clock:Nat}{M:List Mem}{l:List ca}(w:gj F h p aZ bQ aH a9 cap given clock M)(r:wX l M){x:Mem}(aa:x∈M)(f:Nat->Nat){g:ca->ca}(al:∀e,g e=if e.id=x.e.id then{e with pins:=f e.pins} else e):∃k,aP.storeCells h x.b (0+7) [.int .i64 (Int.ofNat (f x.e.pins))]=some k/\bW F h k/\∃O4,gj F k p aZ bQ aH a9 cap given clock O4/\wX (l.map g) O4:=by
 have u:=w.fr aa (abU f)
 refine⟨_,gS (w.eu x aa) rfl rfl,bW.set (b:=x.b) (w.ne x aa),_,u,⟨?_,λy aS=>?_⟩⟩
 · unfold mw
   rw[List.map_map,<-r.e,List.map_map]
   refine List.map_congr_left λy _=>?_
   show(if y.e.id=x.e.id then({y with e:={y.e with pins:=f y.e.pins}}:Mem) else y).e=g y.e
   rw[al]
   split<;>rfl
 · obtain⟨z,a2,rfl⟩:=List.mem_map.1 aS
   have aK:∀e,(g e).parts=e.parts:=λe=>by rw[al];split<;>rfl
   rw[Hd _ aK]
   have:=r.ao z a2
   split<;>exact this
theorem abV(m:Nat){F:Nat->Prop}{h:J}{p r K:Nat}{s:cm}{t:aE}(hm:1000<=m)(w:gE F h p s)(f:Fit K s)(dk:K+61<=10000)(fP:∀b,F b->b<h.n)(aC:eU F h t (.ptr r 0))(ag:dm (some t)=0):∃g,Y (m+1) (.fn 11) [.ptr p 0,.ptr r 0] h=.ret (.aQ [.int .u64 (Int.ofNat (eg t s).1),.int .i64 (Int.ofNat 0)]) g/\gE F g p (eg t s).2/\bW F h g:=by
 obtain⟨c3,dA⟩:=B9 ag
 have eB:dq (some t)=sz t:=ld t
 obtain⟨m,rfl⟩:∃k,m=k+10:=⟨m-10,by omega⟩
 have qq:∃ax,Y (m+10) (.fn 25) [.ptr r 0] h=.ret (.int .i64 (Int.ofNat 0)) ax/\Ext h.n h ax:=by
  have Hk:ez h.n h (some t) (.ptr r 0):=eU.at fP _ _ aC
  obtain⟨ax,ay,c0⟩:=Yl (m+9) (by omega) (λu e=>by cases e;omega) (by omega) (Nat.le_refl _) Hk
  rw[ag] at ay
  exact⟨ax,ay,c0⟩
 obtain⟨ax,a9,c0⟩:=qq
 have cK:gE F ax p s:=w.move c0.n (λd ao _ _=>c0.get d ao) λd _ h=>.inl h
 obtain⟨aB,du,iK,eb⟩:=Hg (sz t) t (Nat.le_refl _) ag (m+10) (by omega) F ax p (.ptr r 0) s cK f.ok f.nm (by have:=f.oW;omega) (by have:=f.kJ;omega) (λb ae=>by have:=fP b ae;have:=c0.n;omega) (eU.b8 (λb ae=>⟨ae,c0.get b (fP b ae)⟩) _ _ aC)
 obtain⟨aZ,bQ,d1,d2,M,iK,ec⟩:=iK
 have O5:=f.lay ag
 obtain⟨q,aM,oO⟩:=(m_ t f.ok).2.2
 obtain⟨x,aa,p_⟩:=List.mem_map.1 (ec.e▸aM:q∈M.map Mem.e)
 have o2:x.e.id=(cD t s).1:=by rw[p_];exact oO
 have abW:x.e.pins<=10000:=by have:=O5.pins q aM;rw[p_];omega
 obtain⟨gO,bN,Hl,Hm,nD,fb⟩:=iK.ni ec aa (λn=>n+1) (g:=iC (cD t s).1) λe=>by rw[o2];rfl
 have f4:Fit (K+61) {(cD t s).2 with l:=(cD t s).2.l.map (iC (cD t s).1)}:=O5.map (by omega:K+sz t<=K+61) (lJ _) (O0 _) λe=>Nat.le_trans (O2 _ e) (by omega)
 obtain⟨bS,n0,wR,ho⟩:=Of (m+8) (s:={(cD t s).2 with l:=(cD t s).2.l.map (iC (cD t s).1)}) ⟨aZ,bQ,d1,d2,Hm,nD,fb⟩ f4.ok (f4.cn dk)
 have sR:Y (m+10) (.fn 21) [.ptr p 0] h=.ret (.bool false) h:=by
  obtain⟨cr,cZ,dp,eS,eG,qR,_⟩:=w
  exact CI (m+9) qR
 have ee:=uF iK.aA iK.up aa false
 rw[o2] at ee
 exact⟨bS,abP (m+10) p r aZ h (R:=λy=>y=.ret (.aQ [.int .u64 (Int.ofNat (eg t s).1),.int .i64 (Int.ofNat 0)]) bS) ⟨false,h,sR,rfl,0,ax,a9,rfl,(cD t s).1,aB,du,aV iK.st rfl,x.b,ee,x.e.pins,aV (iK.eu x aa) rfl,by omega,gO,bN,bS,n0,rfl⟩,wR,(bW.ext c0).trans (eb.trans (Hl.trans ho))⟩
theorem abX(m:Nat){F:Nat->Prop}{h:J}{p id K:Nat}{s:cm}(w:gE F h p s)(f:Fit K s)(dk:K<=10000):∃g,Y (m+3) (.fn 9) [.ptr p 0,.int .u64 (Int.ofNat id)] h=.ret (.int .i64 (Int.ofNat (jc id s).1)) g/\gE F g p (jc id s).2/\bW F h g:=by
 have gX:=w
 obtain⟨aZ,bQ,aH,a9,M,w,r⟩:=w
 have sR:=CI (m+1) w
 cases hf:oT id s.l with
 |none=>
  have e:jc id s=(5,s):=by unfold jc;rw[hf]
  rw[e]
  have aN:∀x∈M,x.e.id≠id:=λx aa h=>by
   have:=List.find?_eq_none.1 hf x.e (by rw[<-r.e];exact List.mem_map.2 ⟨x,aa,rfl⟩)
   rw[h] at this;simp[Nat.beq_refl] at this
  exact⟨h,abQ (m+2) p id aZ h (R:=λy=>y=.ret (.int .i64 (Int.ofNat 5)) h) ⟨false,h,sR,rfl,aV w.st rfl,GV w.aA aN true,rfl⟩,gX,bW.refl _ _⟩
 |some q=>
  obtain⟨a8,a6⟩:=zj hf
  obtain⟨x,aa,p_⟩:=List.mem_map.1 (r.e▸a8:q∈M.map Mem.e)
  have o2:x.e.id=id:=by rw[p_];exact a6
  have ee:=uF w.aA w.up aa true
  rw[o2] at ee
  have abW:x.e.pins<=10000:=by have:=f.pins q a8;rw[p_];omega
  by_cases h0:q.pins=0
  · have e:jc id s=(2,s):=by unfold jc;rw[hf];simp only[if_pos h0]
    rw[e]
    exact⟨h,OX (m+2) p id aZ h (R:=λy=>y=.ret (.int .i64 (Int.ofNat 2)) h) ⟨false,h,sR,rfl,aV w.st rfl,x.b,ee,x.e.pins,aV (w.eu x aa) rfl,λ_=>rfl,λh=>absurd (by rw[p_];exact h0) h⟩,gX,bW.refl _ _⟩
  · have e:jc id s=(0,n3 {s with l:=s.l.map (kk id)}):=by unfold jc;rw[hf];simp only[if_neg h0]
    rw[e]
    obtain⟨gO,bN,Hl,Hm,nD,fb⟩:=w.ni r aa (λn=>n-1) (g:=kk id) λe=>by rw[o2];rfl
    have f4:Fit K {s with l:=s.l.map (kk id)}:=f.map (Nat.le_refl K) (wH _) (O1 _) λe=>Nat.le_trans (O3 _ e) (by omega)
    obtain⟨bS,n0,wR,ho⟩:=Of m (s:={s with l:=s.l.map (kk id)}) ⟨aZ,bQ,aH,a9,Hm,nD,fb⟩ f4.ok (f4.cn dk)
    have abY:x.e.pins≠0:=by rw[p_];exact h0
    exact⟨bS,OX (m+2) p id aZ h (R:=λy=>y=.ret (.int .i64 (Int.ofNat 0)) bS) ⟨false,h,sR,rfl,aV w.st rfl,x.b,ee,x.e.pins,aV (w.eu x aa) rfl,λh=>absurd h abY,λ_=>⟨x.e.pins,aV (w.eu x aa) rfl,⟨by omega,by omega⟩,gO,bN,bS,n0,rfl⟩⟩,wR,Hl.trans ho⟩
end Go.Proofs.dj
namespace Go.Proofs.dj
open Go aP Go.Proofs c8 Go.Proofs.cG
set_option maxRecDepth 100000
set_option maxHeartbeats 1000000
theorem abZ(m:Nat)(h:J):Y (m+1) (.fn 15) [] h=.ret (.bool true) h:=by
 have e:b0 15 [] h=some (.bool true,h):=by kernel_rfl
 show fa Tryz.prog b0 (m+1) _ _ _=_
 simp only[fa,e]
def CJ(B:Nat)(h:J)(v:I)(ls:List a5):Prop:=(v=.a0/\ls=[])\/∃b off cp,v=.slice b off ls.length cp/\b<B/\∀i (af:i<ls.length),∃w,au h b (off+i*1)=some w/\mq B h w ls[i]
theorem ab0(m:Nat)(hm:200000<=m){B:Nat}{h y:J}{p:Nat}{s:cm}{v:I}{cs:a5}{F:Nat->Prop}(fP:∀b,F b->b<y.n)(w:gE F y p s)(aC:mq y.n y v cs):∃r g,Y (m+8) (.fn 12) [v] y=.ret (.ptr r 0) g/\gE (λd=>F d\/oV y.n g.n d) g p s/\eU (λd=>F d\/oV y.n g.n d) g (gD cs) (.ptr r 0)/\Ext y.n y g:=by
 obtain⟨r,g,c,x,t⟩:=NO m hm aC
 refine⟨r,g,c,w.move x.n (λd ao _ _=>x.get d ao) (λd ao h=>?_),eU.b8 (λb ae=>⟨.inr ae,rfl⟩) _ _ t,x⟩
 rcases h with h|h
 · exact .inl h
 · have:=h.1;omega
end Go.Proofs.dj
namespace Go.Proofs.dj
open Go aP Go.Proofs c8 Go.Proofs.cG Go.ChangeShapes Go.WideShapes Go.ChangeAt Go.RowKit Go.ChangeMaps
set_option maxRecDepth 100000
set_option maxHeartbeats 1000000
theorem O6{W:World}{a:Addr}{m j:Nat}{v:Value}(h:W.cell? ((a.add m).add j)=some v):∃c el fz,W.heap[a.block]? =some (.cells c el fz)/\c[a.off+m+j]? =some v/\(m=0->j=0->a.spot=none):=by
 have ae:((a.add m).add j).block=a.block:=by
  unfold Addr.add
  split<;>split<;>rfl
 have a4:((a.add m).add j).off=a.off+m+j:=by
  unfold Addr.add
  split<;>split<;>simp_all
 unfold World.cell? at h
 rw[ae,a4] at h
 split at h
 · rename_i c el fz aa
   split at h
   · cases h
   · rename_i hs
     refine⟨c,el,fz,aa,h,λab ad=>?_⟩
     subst ab;subst ad
     simpa[Addr.add] using hs
 · cases h
def q8(rows:List (eV×List I×Nat))(μ:bq)(h:J)(B:Nat):Prop:=∀(k:Nat) (x:eV×List I×Nat),rows[k]? =some x->μ (B+k)=some x.1/\h.get (B+k)=some (.cells x.2.1 x.2.2 .ro 0 0)/\B+k<h.n
theorem O7{r1 r2:List (eV×List I×Nat)}{μ:bq}{h:J}{B:Nat}(aj:q8 (r1++r2) μ h B):q8 r1 μ h B/\q8 r2 μ h (B+r1.length):=by
 refine⟨λk x aq=>aj k x ?_,λk x aq=>?_⟩
 · rw[List.getElem?_append_left (List.getElem?_eq_some_iff.1 aq).1];exact aq
 · have:=aj (r1.length+k) x (by rw[List.getElem?_append_right (by omega),Nat.add_sub_cancel_left];exact aq)
   rw[Nat.add_assoc];exact this
theorem ab1{rows:List (eV×List I×Nat)}:q8 rows (qK Tryz.prog.globals.size (rows.map (·.1))) (tB Tryz.prog.globals.size (rows.map (·.2))) Tryz.prog.globals.size:=by
 intro k x aq
 refine⟨SF aq,SG aq,?_⟩
 have:=(List.getElem?_eq_some_iff.1 aq).1
 rw[Eg,List.length_map];omega
theorem ab2{P:Program}{W:World}{base:Nat}{t e:TypeId}(ba:P.underlying t=some (.slice e)){a:Addr}{len cap:Nat}(h:Cell.okWide P W .any base t (.slice (some a) len cap)):∃c el fz,W.heap[a.block]? =some (.cells c el fz):=by
 simp only[Cell.okWide,ba,Cell.ok] at h
 obtain⟨_,_,_,_,row,cells,hs,_⟩:=h
 unfold World.shape? at hs
 cases ae:W.heap[a.block]? with
 |none=>simp[ae] at hs
 |some o=>
  rw[ae] at hs
  cases o with
  |cells c el fz=>exact⟨c,el,fz,rfl⟩
  |_=>cases hs
def CK(μ:bq)(W:World)(i:eV)(cs:List I)(el:Nat):Prop:=∃c fz,W.heap[i.bl]? =some (.cells c el fz)/\z8 μ cs c i.base/\i.base+i.size=c.size
theorem ab3{P:Program}{W:World}(js:P.globals.size<=W.heap.size)(l:List (eV×List I×Nat))(aw:∀x∈l,CK (qK P.globals.size (l.map (·.1))) W x.1 x.2.1 x.2.2):
  bt (qK P.globals.size (l.map (·.1))) (tB P.globals.size (l.map (·.2))) W/\hn P (qK P.globals.size (l.map (·.1)))/\ye (tB P.globals.size (l.map (·.2))):=by
 have ro:∀b o,(tB P.globals.size (l.map (·.2))).get b=some o->∃x,l[b-P.globals.size]? =some x/\¬b<P.globals.size/\o=.cells x.2.1 x.2.2 .ro 0 0:=by
  intro b o h
  rw[Eh] at h
  split at h
  · cases h
  · rename_i ae
    rw[List.getElem?_map] at h
    cases aa:l[b-P.globals.size]? with
    |none=>rw[aa] at h;cases h
    |some x=>rw[aa] at h;cases h;exact⟨x,rfl,ae,rfl⟩
 refine⟨⟨λb o j h aJ=>?_,λb c' j k ab ad=>?_,λb j h=>?_,λb h=>?_⟩,λg al=>⟨⟨g,0,0⟩,by simp[qK,al],rfl,rfl⟩,λb o h=>?_⟩
 · obtain⟨x,aa,ae,rfl⟩:=ro b o h
   have gv:=aJ
   unfold qK at gv
   rw[if_neg ae,List.getElem?_map,aa] at gv
   cases gv
   obtain⟨c,fz,a8,a6,b4⟩:=aw x (List.mem_of_getElem? aa)
   exact⟨c,fz.1,fz.2,a8,a6,b4,trivial⟩
 · obtain⟨o,ad,ar⟩:=ad
   obtain⟨x,_,_,rfl⟩:=ro _ o ad
   cases ar
 · rw[Eg,List.length_map]
   unfold qK at h
   split at h
   · rename_i ae;cases h;exact⟨by omega,Nat.lt_of_lt_of_le ae js⟩
   · rw[List.getElem?_map] at h
     cases aa:l[b-P.globals.size]? with
     |none=>rw[aa] at h;cases h
     |some x=>
      rw[aa] at h;cases h
      obtain⟨c,fz,a8,_⟩:=aw x (List.mem_of_getElem? aa)
      have:=(List.getElem?_eq_some_iff.1 aa).1
      exact⟨by omega,(Array.getElem?_eq_some_iff.1 a8).1⟩
 · rw[Eg,List.length_map] at h
   rw[Eh,if_neg (by omega),List.getElem?_map,List.getElem?_eq_none (by omega)];rfl
 · obtain⟨x,_,_,rfl⟩:=ro b o h;rfl
theorem ab4{W:World}{i:eV}{cs:List I}{el:Nat}(h:Ei W i cs el)(μ:bq):CK μ W i cs el:=by
 obtain⟨c,fz,ab,ad,ar⟩:=h
 exact⟨c,fz,ab,ad μ,ar⟩
theorem u1{W:World}{a:Addr}{j:Nat}{v:Value}(h:W.cell? (a.add j)=some v):∃c el fz,W.heap[a.block]? =some (.cells c el fz)/\c[a.off+j]? =some v/\(j=0->a.spot=none):=by
 have c9:(a.add 0).add j=a.add j:=by simp[Addr.add]
 obtain⟨c,el,fz,a8,a6,b4⟩:=O6 (W:=W) (a:=a) (m:=0) (j:=j) (by rw[c9];exact h)
 exact⟨c,el,fz,a8,by simpa using a6,b4 rfl⟩
theorem ab5{P:Program}{W:World}{r:Reach}{base u e:Nat}{v:Value}(hu:P.underlying u=some (.slice e))(h:Cell.okWide P W r base u v):∃a len cap,v=.slice a len cap:=by
 simp only[Cell.okWide,hu] at h
 cases v<;>simp_all [Cell.ok]
theorem ab6:Tryz.prog.underlying 27=some (.slice 5):=by kernel_rfl
theorem O8(l:List UInt8)(i:Nat)(h:i<l.length):(dd l)[i]? =some (.int .u8 (Int.ofNat (l[i]).toNat)):=by
 induction l generalizing i with
 |nil=>simp at h
 |cons x l a7=>
  cases i with
  |zero=>rfl
  |succ i=>simp only[dd,List.getElem?_cons_succ,List.getElem_cons_succ];exact a7 i (by simpa using h)
theorem ab7{H:Type}{enc:TypeId×Value->H}{W:World}{sp:Nat->Bool}{held:Bool}{fuel:Nat}{qa:Value}{x:DataW H×List MemPlace}(h:DataW.trod enc Tryz.prog W 0 sp held fuel 27 [qa]=some x):
  ∃l4 rows,(∀x∈rows,Ei W x.1 x.2.1 x.2.2)/\∀B kU,∃z,∀(μ:bq) (h:J) i0,μ kU=some i0->kU<h.n->q8 rows μ h B->mq h.n h z l4/\bm μ z qa:=by
 have hu:Tryz.prog.underlying 5=some (.int .u8):=by kernel_rfl
 rcases open_ints ab6 hu (by kernel_rfl) h with⟨e,_⟩|⟨a,len,cap,lN,e,_,hle,_,nv,_,ag,xR⟩
 · cases e
   exact⟨[],[],by simp,λB kU=>⟨.a0,λμ h i0 _ _ _=>⟨.inl ⟨rfl,rfl⟩,rfl⟩⟩⟩
 · cases e
   by_cases h0:len=0
   · subst h0
     exact⟨[],[],by simp,λB kU=>⟨.slice kU 0 0 .dead,λμ h i0 ab ar _=>⟨.inr ⟨kU,0,.dead,rfl,ar,rfl,λi af=>by simp at af⟩,⟨_,ab,rfl,a,cap,rfl⟩⟩⟩⟩
   · have aw:len<=lN.length:=by rw[nv];split<;>omega
     obtain⟨c,el,fz,ae,_,_⟩:=u1 (ag 0 (by omega))
     have lR:∀i,i<lN.length->c[a.off+i]? =some (.int .u8 (lN.getD i 0))/\(i=0->a.spot=none):=by
      intro i af
      obtain⟨c',pt,ab8,a8,a6,b4⟩:=u1 (ag i af)
      rw[ae] at a8
      cases a8
      exact⟨a6,b4⟩
     obtain⟨mF,hs⟩:=lR 0 (by omega)
     have zT:=hs rfl
     have Al:a.off<=c.size:=by have:=(Array.getElem?_eq_some_iff.1 mF).1;omega
     obtain⟨l4,vr⟩:∃l4,l4=(lN.take len).map λz=>UInt8.ofNat z.toNat:=⟨_,rfl⟩
     have zU:l4.length=len:=by rw[vr];simp;omega
     refine⟨l4,[(⟨a.block,a.off,c.size-a.off⟩,dd l4,el)],λx aa=>?_,λB kU=>⟨.slice B 0 len (.exact cap),λμ h i0 _ _ aj=>?_⟩⟩
     · obtain rfl:x=_:=by simpa using aa
       refine⟨c,fz,ae,λμ j v aJ=>?_,by simp;omega⟩
       have u4:j<len:=by
        have:=(List.getElem?_eq_some_iff.1 aJ).1
        simp only[GW,zU] at this;exact this
       have Hn:j<lN.length:=by omega
       refine⟨_,(lR j Hn).1,?_⟩
       have aN:=O8 l4 j (by rw[zU];exact u4)
       simp only at aJ
       rw[aN] at aJ
       cases aJ
       have hw:=xR lN[j] (List.getElem_mem Hn)
       have a2:0<=lN[j]/\lN[j]<256:=by
        have qu:IntKind.u8.min<=lN[j]/\lN[j]<=IntKind.u8.max:=by simpa[Lit.wf] using hw
        have aZ:IntKind.u8.min=0:=by decide
        have bQ:IntKind.u8.max=255:=by decide
        rw[aZ,bQ] at qu
        omega
       have aA:lN.getD j 0=lN[j]:=by simp[List.getD,List.getElem?_eq_getElem Hn]
       rw[aA]
       have ay:(l4[j]'(by rw[zU];exact u4)).toNat=lN[j].toNat:=by
        subst vr
        rw[List.getElem_map,List.getElem_take,UInt8.toNat_ofNat'];omega
       rw[ay]
       have bw:Int.ofNat lN[j].toNat=lN[j]:=by
        have:=Int.toNat_of_nonneg a2.1;simpa using this
       rw[bw];rfl
     · obtain⟨ab,ad,ar⟩:=aj 0 _ rfl
       simp only[Nat.add_zero] at ab ad ar
       refine⟨.inr ⟨B,0,.exact cap,by rw[zU],ar,by show l4.length<=cap;rw[zU];exact hle,λi af=>?_⟩,⟨_,ab,?_⟩⟩
       · rw[Nat.zero_add,Nat.mul_one]
         exact l8 ad (O8 l4 i af)
       · obtain⟨bl,off,spot⟩:=a
         simp only at zT
         subst zT
         rfl
def w4(x:a5×I):List I:=[x.2]
theorem O9{H:Type}{enc:TypeId×Value->H}{W:World}{sp:Nat->Bool}{held:Bool}{a:Addr}:∀n,(∀i,i<n->∃cs fuel x,W.cells? 0 (a.add (i*1)) 1=some cs/\DataW.trod enc Tryz.prog W 0 sp held fuel 27 cs=some x)->
  ∃(l:List a5) (rows:List (eV×List I×Nat)),l.length=n/\(∀x∈rows,Ei W x.1 x.2.1 x.2.2)/\∀B kU,∃ds:List (a5×I),ds.map (·.1)=l/\∀(μ:bq) (h:J) i0,μ kU=some i0->kU<h.n->q8 rows μ h B->∀i (af:i<ds.length),mq h.n h ds[i].2 ds[i].1/\∃u,W.cell? (a.add (i*1))=some u/\bm μ ds[i].2 u
 |0,_=>⟨[],[],rfl,by simp,λB kU=>⟨[],rfl,λμ h i0 _ _ _ i af=>by simp at af⟩⟩
 |n+1,qs=>by
  obtain⟨l,rows,aw,aj,ae⟩:=O9 n λi af=>qs i (by omega)
  obtain⟨cs,fuel,x,fC,aa⟩:=qs n (by omega)
  have k:=World.cells?_some fC
  obtain⟨qa,rfl⟩:∃qa,cs=[qa]:=by
   match cs,k.1 with
   |[qa],_=>exact⟨qa,rfl⟩
  obtain⟨y,r,xE,aS⟩:=ab7 aa
  refine⟨l++[y],rows++r,by simp[aw],λx aa=>?_,λB kU=>?_⟩
  · rcases List.mem_append.1 aa with aa|aa
    · exact aj x aa
    · exact xE x aa
  · obtain⟨ds,zV,aq⟩:=ae B kU
    obtain⟨z,a2⟩:=aS (B+rows.length) kU
    have vX:ds.length=n:=by rw[<-aw,<-zV,List.length_map]
    refine⟨ds++[(y,z)],by simp[zV],λμ h i0 fe lX ab9 i af=>?_⟩
    obtain⟨ep,gk⟩:=O7 ab9
    rw[List.length_append,List.length_singleton] at af
    by_cases fj:i<ds.length
    · rw[List.getElem_append_left fj]
      exact aq μ h i0 fe lX ep i fj
    · obtain rfl:i=n:=by omega
      rw[List.getElem_append_right (by omega)]
      simp only[vX,Nat.sub_self,List.getElem_singleton]
      obtain⟨bC,c0⟩:=a2 μ h i0 fe lX gk
      have c9:((a.add (i*1)).add 0)=a.add (i*1):=by simp[Addr.add]
      have:=k.2.2 0 (by omega)
      rw[c9] at this
      exact⟨bC,qa,this,c0⟩
theorem Ho:Tryz.prog.underlying 43=some (.slice 27):=by kernel_rfl
theorem ab_{H:Type}{enc:TypeId×Value->H}{W:World}{base:Nat}{sp:Nat->Bool}{held:Bool}{fuel:Nat}{v:Value}{x:DataW H×List MemPlace}(aC:Cell.okWide Tryz.prog W .any base 43 v)(h:DataW.trod enc Tryz.prog W 0 sp held fuel 43 [v]=some x):
  ∃(l:List a5) (n:Nat) (rows:Nat->List (eV×List I×Nat)),(∀B,(rows B).length=n)/\∀B,∃u,∀(μ:bq) (g:J),q8 (rows B) μ g B->(∀x∈rows B,CK μ W x.1 x.2.1 x.2.2)/\CJ g.n g u l/\bm μ u v:=by
 have qO:Tryz.prog.cellsOf 27=1:=by kernel_rfl
 rcases DataW.trod_slice Ho h with⟨h0,_⟩|⟨a,len,cap,elems,rest,n,_,h0,_,BN,aw,hm,hlen,qs,_,_⟩
 · cases h0
   exact⟨[],0,λ_=>[],λ_=>rfl,λB=>⟨.a0,λμ g _=>⟨by simp,.inl ⟨rfl,rfl⟩,rfl⟩⟩⟩
 cases h0
 by_cases h0:len=0
 · subst h0
   obtain⟨c,el,fz,ae⟩:=ab2 Ho aC
   refine⟨[],1,λ_=>[(⟨a.block,0,c.size⟩,[],el)],λ_=>rfl,λB=>⟨.slice B 0 0 .dead,λμ g aj=>?_⟩⟩
   obtain⟨ab,ad,ar⟩:=aj 0 _ rfl
   refine⟨λx aa=>?_,.inr ⟨B,0,.dead,rfl,ar,λi af=>by simp at af⟩,⟨_,ab,rfl,a,cap,rfl⟩⟩
   obtain rfl:x=(⟨a.block,0,c.size⟩,[],el):=by simpa using aa
   exact⟨c,fz,ae,λj v aJ=>by simp at aJ,Nat.zero_add _⟩
 obtain⟨l,rows,Fh,aj,aq⟩:=O9 (a:=a) len λi af=>by
  have he:=qs i af
  rw[List.getElem?_eq_getElem (by omega),qO,Option.bind_eq_some_iff] at he
  obtain⟨cs,fC,aS⟩:=he
  exact⟨cs,n,_,fC,aS⟩
 obtain⟨c,el,fz,ae,zT,IG⟩:∃c el fz,W.heap[a.block]? =some (.cells c el fz)/\a.spot=none/\a.off<=c.size:=by
  have he:=qs 0 (by omega)
  rw[List.getElem?_eq_getElem (by omega),qO,Option.bind_eq_some_iff] at he
  obtain⟨cs,fC,aS⟩:=he
  have k:=World.cells?_some fC
  obtain⟨c9,bH⟩:∃c9,W.cell? ((a.add (0*1)).add 0)=some c9:=by
   have:=k.2.2 0 (by omega)
   obtain⟨c9,aca⟩:∃c9,cs[0]? =some c9:=⟨_,List.getElem?_eq_getElem (by have:=k.1;omega)⟩
   exact⟨c9,this.trans aca⟩
  obtain⟨c,el,fz,ae,mF,hs⟩:=O6 bH
  exact⟨c,el,fz,ae,hs (by omega) rfl,by have:=(Array.getElem?_eq_some_iff.1 mF).1;omega⟩
 have key:∀B,∃ds:List (a5×I),∀(μ:bq) (g:J),q8 ((⟨a.block,a.off,c.size-a.off⟩,dR w4 ds,el)::rows) μ g B->(∀x∈(⟨a.block,a.off,c.size-a.off⟩,dR w4 ds,el)::rows,CK μ W x.1 x.2.1 x.2.2)/\CJ g.n g (.slice B 0 len (.exact cap)) l/\bm μ (.slice B 0 len (.exact cap)) (.slice (some a) len cap):=λB=>by
  obtain⟨ds,zV,aq⟩:=aq (B+1) B
  refine⟨ds,λμ g O_=>?_⟩
  have vX:ds.length=len:=by rw[<-Fh,<-zV,List.length_map]
  have pZ:dR w4 ds=ds.map (·.2):=kn (λx:a5×I=>x.2) ds
  obtain⟨ab,ad,ar⟩:=O_ 0 _ rfl
  simp only[Nat.add_zero] at ab ad ar
  have acb:q8 rows μ g (B+1):=(O7 (r1:=[(⟨a.block,a.off,c.size-a.off⟩,dR w4 ds,el)]) (r2:=rows) (by rw[List.singleton_append];exact O_)).2
  have aq:=aq μ g _ ab ar acb
  refine⟨λx aa=>?_,.inr ⟨_,0,.exact cap,by rw[Fh],ar,λi af=>?_⟩,⟨_,ab,?_⟩⟩
  · rcases List.mem_cons.1 aa with rfl|aa
    · refine⟨c,fz,ae,λt v aC=>?_,by simp;omega⟩
      have ux:(dR w4 ds)[t]? =some v:=aC
      rw[pZ,List.getElem?_map] at ux
      cases ao:ds[t]? with
      |none=>rw[ao] at ux;cases ux
      |some d=>
       rw[ao] at ux
       obtain⟨ba,acd⟩:=List.getElem?_eq_some_iff.1 ao
       have ace:d.2=v:=by simpa using ux
       obtain⟨_,u,hu,CG⟩:=aq t ba
       obtain⟨c',pt,ab8,j_,aa,_⟩:=u1 hu
       rw[ae] at j_
       cases j_
       rw[Nat.mul_one] at aa
       rw[acd,ace] at CG
       exact⟨u,aa,CG⟩
    · exact ab4 (aj x aa) _
  · have eQ:i<ds.length:=by omega
    have pt:l[i]=ds[i].1:=by simp[<-zV]
    rw[pt]
    refine⟨ds[i].2,?_,(aq i eQ).1⟩
    refine l8 ad ?_
    rw[pZ,List.getElem?_map,Nat.zero_add,Nat.mul_one,List.getElem?_eq_getElem eQ];rfl
  · obtain⟨bl,off,spot⟩:=a
    simp only at zT
    subst zT
    rfl
 exact⟨l,rows.length+1,λB=>(⟨a.block,a.off,c.size-a.off⟩,dR w4 (key B).choose,el)::rows,λ_=>rfl,λB=>⟨.slice B 0 len (.exact cap),(key B).choose_spec⟩⟩
theorem acf{H:Type}{enc:TypeId×Value->H}{W:World}{base:Nat}{sp:Nat->Bool}{held:Bool}{fuel:Nat}{v:Value}{x:DataW H×List MemPlace}(js:Tryz.prog.globals.size<=W.heap.size)(aC:Cell.okWide Tryz.prog W .any base 43 v)(h:DataW.trod enc Tryz.prog W 0 sp held fuel 43 [v]=some x):
  ∃(l:List a5) (μ:bq) (g:J) (u:I),bt μ g W/\hn Tryz.prog μ/\ye g/\CJ g.n g u l/\bm μ u v:=by
 obtain⟨l,n,rows,_,aj⟩:=ab_ aC h
 obtain⟨u,hu⟩:=aj Tryz.prog.globals.size
 obtain⟨bH,bY,eb⟩:=hu _ _ ab1
 obtain⟨s1,s2,bK⟩:=ab3 (P:=Tryz.prog) js _ bH
 exact⟨l,_,_,u,s1,s2,bK,bY,eb⟩
end Go.Proofs.dj
namespace Go.Proofs.dj
open Go aP Go.Proofs c8 Go.Proofs.cG
set_option maxRecDepth 100000
set_option maxHeartbeats 1000000
structure kq(s:cm)(ids:List Nat):Prop where
 ni:∀e∈s.l,e.pins=ids.count e.id
 has:∀i∈ids,∃e∈s.l,e.id=i
def Full(s:cm):Prop:=s.l.length<=s.cap\/ig s.l s.l=none
theorem Hp(s:cm):Full (n3 s):=MU s.cap s.l.length s.l (Nat.le_refl _)
theorem kq.room{s:cm}{ids:List Nat}(hs:dw s)(c4:kq s ids):kq (n3 s) ids:=by
 refine⟨λe he=>c4.ni e (zi _ _ _ e he),λi af=>?_⟩
 obtain⟨e,he,rfl⟩:=c4.has i af
 refine⟨e,Gi _ _ _ e he λx aa h=>?_,rfl⟩
 rw[c4.ni x aa,h]
 exact Nat.ne_of_gt (List.count_pos_iff.2 af)
theorem Pa(t:aE){s:cm}{ids:List Nat}(hs:dw s)(c4:kq s ids):kq (cD t s).2 ids:=by
 obtain⟨_,g,_⟩:=m_ t hs
 refine⟨λq aM=>?_,λi af=>?_⟩
 · rcases g.new q aM with⟨e,he,aT⟩|⟨ab,ad⟩
   · rw[aT.pins,aT.id];exact c4.ni e he
   · rw[ad,List.count_eq_zero.2]
     intro hm
     obtain⟨e,he,ar⟩:=c4.has _ hm
     have:=(hs.aO e he).2.1
     omega
 · obtain⟨e,he,rfl⟩:=c4.has i af
   obtain⟨q,aM,aT⟩:=g.old e he
   exact⟨q,aM,aT.id⟩
theorem Hq(i:Nat)(e:ca):(iC i e).pins=e.pins+if e.id=i then 1 else 0:=by
 unfold iC
 split<;>rfl
theorem acg(t:aE){s:cm}{ids:List Nat}(hs:dw s)(c4:kq s ids):kq (eg t s).2 (ids++[(eg t s).1]):=by
 obtain⟨kB,_,p,aK,pX⟩:=m_ t hs
 have zW:=Pa t hs c4
 refine kq.room (s:={(cD t s).2 with l:=(cD t s).2.l.map (iC (cD t s).1)}) (kB.map (lJ _)) ⟨λe he=>?_,λi af=>?_⟩
 · obtain⟨x,aa,rfl⟩:=List.mem_map.1 he
   show(iC (cD t s).1 x).pins=(ids++[(cD t s).1]).count (iC (cD t s).1 x).id
   rw[Hq,(lJ _).id,zW.ni x aa,List.count_append,List.count_singleton]
   congr 1
   by_cases h:x.id=(cD t s).1
   · rw[if_pos h,h];simp
   · rw[if_neg h,if_neg];simp;exactλe=>h e.symm
 · rcases List.mem_append.1 af with af|af
   · obtain⟨e,he,rfl⟩:=zW.has i af
     exact⟨_,List.mem_map.2 ⟨e,he,rfl⟩,(lJ _).id e⟩
   · rw[List.mem_singleton.1 af]
     exact⟨_,List.mem_map.2 ⟨p,aK,rfl⟩,((lJ _).id p).trans pX⟩
theorem ach(t:aE){s:cm}{ids:List Nat}(hs:dw s)(c4:kq s ids){P:List (Nat×aE)}(nY:P.map (·.1)=ids)(dP:∀x∈P,eI s.l x.1 x.2):∀x∈P++[((eg t s).1,t)],eI (eg t s).2.l x.1 x.2:=by
 obtain⟨kB,g,p,aK,pX⟩:=m_ t hs
 have zW:=Pa t hs c4
 have aci:=kB.map (lJ (cD t s).1)
 intro x aa
 refine eI.room (s:={(cD t s).2 with l:=(cD t s).2.l.map (iC (cD t s).1)}) _ _ aci ?_ ?_
 · rcases List.mem_append.1 aa with aa|aa
   · have af:x.1∈ids:=by rw[<-nY];exact List.mem_map.2 ⟨x,aa,rfl⟩
     obtain⟨e,he,ab⟩:=zW.has _ af
     refine⟨_,List.mem_map.2 ⟨e,he,rfl⟩,((lJ _).id e).trans ab,?_⟩
     rw[Hq,zW.ni e he,ab]
     have:=List.count_pos_iff.2 af
     omega
   · rw[List.mem_singleton.1 aa]
     refine⟨_,List.mem_map.2 ⟨p,aK,rfl⟩,((lJ _).id p).trans pX,?_⟩
     rw[Hq,if_pos pX]
     omega
 · rcases List.mem_append.1 aa with aa|aa
   · exact eI.map kB (lJ _) (eI.p7 hs g (dP x aa))
   · rw[List.mem_singleton.1 aa]
     exact eI.map kB (lJ _) (Gj t hs)
theorem acj{s:cm}(hs:dw s){ids:List Nat}(c4:kq s ids){P:List (Nat×aE)}(nY:P.map (·.1)=ids)(dP:∀x∈P,eI s.l x.1 x.2)(hf:Full s):s.l.length<=max s.cap (oU P):=by
 rcases hf with h|h
 · omega
 · have:=Yu hs dP (λe he h0=>by
     rw[c4.ni e he] at h0
     have:e.id∈ids:=List.count_pos_iff.1 (by omega)
     rw[<-nY] at this
     obtain⟨x,aa,ab⟩:=List.mem_map.1 this
     exact⟨x,aa,ab⟩) h
   omega
theorem ack(i:Nat)(e:ca):(kk i e).pins=e.pins-if e.id=i then 1 else 0:=by
 unfold kk
 split
 · rfl
 · exact(Nat.sub_zero _).symm
theorem acm{i:Nat}{l:List ca}(h:∃e∈l,e.id=i):∃x,oT i l=some x:=by
 obtain⟨e,he,af⟩:=h
 cases aa:oT i l with
 |some x=>exact⟨x,rfl⟩
 |none=>
  have:=List.find?_eq_none.1 aa e he
  rw[af] at this;simp[Nat.beq_refl] at this
theorem acn{s:cm}{i:Nat}{ids:List Nat}(hs:dw s)(c4:kq s ids)(af:i∈ids):(jc i s).1=0/\kq (jc i s).2 (ids.erase i)/\Full (jc i s).2/\(jc i s).2.cap=s.cap:=by
 obtain⟨x,aa⟩:=acm (c4.has i af)
 obtain⟨bC,c0⟩:=zj aa
 have aK:x.pins≠0:=by
  rw[c4.ni x bC,c0]
  exact Nat.ne_of_gt (List.count_pos_iff.2 af)
 have e:jc i s=(0,n3 {s with l:=s.l.map (kk i)}):=by
  unfold jc
  rw[aa]
  simp only[if_neg aK]
 rw[e]
 refine⟨rfl,kq.room (s:={s with l:=s.l.map (kk i)}) (hs.map (wH i)) ⟨λq aM=>?_,λj aJ=>?_⟩,Hp _,rfl⟩
 · obtain⟨y,aS,rfl⟩:=List.mem_map.1 aM
   rw[ack,(wH i).id,c4.ni y aS,List.count_erase]
   congr 1
   by_cases h:y.id=i
   · rw[if_pos h,if_pos (by simp[h])]
   · rw[if_neg h,if_neg (by simp;exactλe=>h e.symm)]
 · obtain⟨y,aS,rfl⟩:=c4.has j (List.mem_of_mem_erase aJ)
   exact⟨_,List.mem_map.2 ⟨y,aS,rfl⟩,(wH i).id y⟩
theorem aco{s:cm}(hs:dw s)(c4:kq s [])(hf:Full s):s.l.length<=s.cap:=by
 rcases hf with h|h
 · exact h
 · by_cases aw:s.l=[]
   · rw[aw];exact Nat.zero_le _
   · exact absurd h (dw.least hs (λe he=>by rw[c4.ni e he];rfl) aw)
end Go.Proofs.dj
namespace Go.Proofs.dj
open Go aP Go.Proofs c8 Go.Proofs.cG
set_option maxRecDepth 100000
set_option maxHeartbeats 1000000
theorem acp(m:Nat)(p:Nat)(id:Nat)(aZ:Nat)(h:J){R:av->Prop}(H:∃bo:Bool,∃ai:J,(Y m) (.fn 21) [.ptr p 0] h=.ret (.bool bo) ai/\(bo=true->R (.ret (.int .i64 (.ofNat 0)) ai))/\(bo=false->au ai p (0+3)=some (.map aZ)/\∃aD:Nat,hy Tryz.prog ai 55 (.map aZ) (.int .u64 (.ofNat id)) false=some (.ptr aD 0)/\au ai p (0+3)=some (.map aZ)/\∃bj:Nat,hy Tryz.prog ai 55 (.map aZ) (.int .u64 (.ofNat id)) false=some (.ptr bj 0)/\∃bD:Nat,au ai bj (0+7)=some (.int .i64 (.ofNat bD))/\R (.ret (.int .i64 (.ofNat bD)) ai))):
  R (Y (m+1) (.fn 18) [.ptr p 0,.int .u64 (.ofNat id)] h):=
 dI (intr:=b0) [(1015,.f),(11,.bA (.is (.map aZ))),(13,.bA .p),(19,.bA (.is (.map aZ))),(21,.bA .p)] [(0,.v (.ptr p 0)),(1,.v (.int .u64 (.ofNat id)))] Tryz.func18 (by kernel_rfl) (by kernel_rfl) (by kernel_rfl) rfl (Eq.mp (by kernel_rfl) H)
theorem acq(m:Nat)(p:Nat)(id:Nat)(aZ:Nat)(h:J){R:av->Prop}(H:∃bo:Bool,∃ai:J,(Y m) (.fn 21) [.ptr p 0] h=.ret (.bool bo) ai/\(bo=true->R (.ret (.int .i64 (.ofNat 0)) ai))/\(bo=false->au ai p (0+3)=some (.map aZ)/\hy Tryz.prog ai 55 (.map aZ) (.int .u64 (.ofNat id)) false=some .bb/\R (.ret (.int .i64 (.ofNat 0)) ai))):
  R (Y (m+1) (.fn 18) [.ptr p 0,.int .u64 (.ofNat id)] h):=
 dI (intr:=b0) [(11,.bA (.is (.map aZ))),(13,.bA (.is .bb))] [(0,.v (.ptr p 0)),(1,.v (.int .u64 (.ofNat id)))] Tryz.func18 (by kernel_rfl) (by kernel_rfl) (by kernel_rfl) rfl (Eq.mp (by kernel_rfl) H)
theorem acr(m:Nat)(v:I)(z:Int)(h:J){R:av->Prop}(H:∃bo:Bool,∃ai:J,(Y m) (.fn 15) [] h=.ret (.bool bo) ai/\bo=true/\∃aD:Nat,∃ax:J,(Y m) (.fn 7) [.int .i64 z] ai=.ret (.ptr aD 0) ax/\∃bj:Nat,jE mz (.int .i64 z) [.int .i64 (.ofNat 0)]=some (.int .i64 (.ofNat bj))/\a3 Tryz.prog Tryz.f4 (Y m) [1,1,1,1,1,1,0,1,0] (ah.mk [(0,v),(5,.ptr aD 0),(6,.int .i64 (.ofNat bj)),(7,.int .i64 (.ofNat 0)),(8,.a0),(9,.int .i64 (.ofNat 0))] [] .none ax) (λb9 cj=>∃bD:Nat,∃bT:Nat,∃v1:I,∃aB:J,∃bz:Env,b9=.exit 0/\cj=ah.mk bz [] .none aB/\b_ [(5,.ptr bD 0),(6,.int .i64 (.ofNat bT)),(8,v1)] bz/\a3 Tryz.prog Tryz.f4 (Y m) [1,1,1,1,1,1,1,0,1,0] (ah.mk [(5,.ptr bD 0),(6,.int .i64 (.ofNat bT)),(8,v1),(13,.int .i64 (.ofNat 0))] [] .none aB) (λb9 cj=>∃b5:Nat,∃cx:Nat,∃v2:I,∃bE:J,∃bR:Env,b9=.exit 2/\cj=ah.mk bR [] .none bE/\b_ [(5,.ptr b5 0),(6,.int .i64 (.ofNat cx)),(8,v2)] bR/\∃da:Nat,∃bS:J,(Y m) (.fn 17) [.ptr b5 0] bE=.ret (.int .i64 (.ofNat da)) bS/\¬cx<da/\a3 Tryz.prog Tryz.f4 (Y m) [1,1,1,1,1,1,1,1,1,0,1,0] (ah.mk [(5,.ptr b5 0),(8,v2),(14,.int .i64 (.ofNat 0))] [] .none bS) (λb9 cj=>∃dC:J,∃cU:Env,b9=.exit 4/\cj=ah.mk cU [] .none dC/\b_ [] cU/\R (.ret (.bool true) dC))))):
  R (Y (m+1) (.fn 4) [v,.int .i64 z] h):=
 dI (intr:=b0) [(1016,.f),(20,.bA (.n .i64)),(1074,.f),(4000,.gT [0,5,6,7,8,9] [(.exit 0,[(5,.p),(6,.n .i64),(8,.o)])]),(4002,.gT [5,6,8,13] [(.exit 2,[(5,.p),(6,.n .i64),(8,.o)])]),(4004,.gT [5,8,14] [(.exit 4,[])])] [(0,.o v),(1,.v (.int .i64 z))] Tryz.func4 (by kernel_rfl) (by kernel_rfl) (by kernel_rfl) rfl (Eq.mp (by kernel_rfl) H)
theorem acs(call:aI->List I->J->av)(b:Nat)(off:Nat)(N:Nat)(p:Nat)(jS:Nat)(parts:Nat)(i:Nat)(cp:b3)(w:I)(h:J){Q:bn->ah->Prop}(H:(i<N->(i<30->i<N/\∃v1:I,au h b (off+i*1)=some v1/\∃aD:Nat,∃ai:J,call (.fn 12) [v1] h=.ret (.ptr aD 0) ai/\∃bj:Nat,∃bD:Nat,∃ax:J,call (.fn 11) [.ptr p 0,.ptr aD 0] ai=.ret (.aQ [.int .u64 (.ofNat bj),.int .i64 (.ofNat bD)]) ax/\bD=0/\∃v2:I,∃aB:J,dt Tryz.prog (J.push ax (.cells [.int .u64 (.ofNat bj)] 32 .own 0 0)) 44 (some 44) w (.slice ax.n 0 1 (.exact 1))=some (v2,aB)/\∃bT:Nat,∃bE:J,call (.fn 16) [.ptr aD 0] aB=.ret (.int .i64 (.ofNat bT)) bE/\parts+bT<9223372036854775808/\∃b5:Nat,∃bS:J,call (.fn 17) [.ptr p 0] bE=.ret (.int .i64 (.ofNat b5)) bS/\∃cx:Nat,jE mz (.int .i64 (.ofNat jS)) [.int .i64 (.ofNat (parts+bT))]=some (.int .i64 (.ofNat cx))/\¬cx<b5/\i+1<9223372036854775808/\Q .nrm (ah.mk [(0,.slice b off N cp),(5,.ptr p 0),(6,.int .i64 (.ofNat jS)),(7,.int .i64 (.ofNat (parts+bT))),(8,v2),(9,.int .i64 (.ofNat (i+1)))] [] .none bS))/\(¬i<30->Q (.exit 0) (ah.mk [(0,.slice b off N cp),(5,.ptr p 0),(6,.int .i64 (.ofNat jS)),(7,.int .i64 (.ofNat parts)),(8,w),(9,.int .i64 (.ofNat i))] [] .none h)))/\(¬i<N->Q (.exit 0) (ah.mk [(0,.slice b off N cp),(5,.ptr p 0),(6,.int .i64 (.ofNat jS)),(7,.int .i64 (.ofNat parts)),(8,w),(9,.int .i64 (.ofNat i))] [] .none h))):
  a3 Tryz.prog Tryz.f4 call [1,1,1,1,1,1,0,1,0,0] ⟨[(0,.slice b off N cp),(5,.ptr p 0),(6,.int .i64 (.ofNat jS)),(7,.int .i64 (.ofNat parts)),(8,w),(9,.int .i64 (.ofNat i))],[],.none,h⟩ Q:=
 dB [(1043,.f),(1057,.f),(34,.bA .o),(56,.bA (.n .i64))] [0,5,6,7,8,9] [(0,.v (.slice b off N cp)),(5,.v (.ptr p 0)),(6,.v (.int .i64 (.ofNat jS))),(7,.v (.int .i64 (.ofNat parts))),(8,.o w),(9,.v (.int .i64 (.ofNat i)))] rfl (Eq.mp (by kernel_rfl) H)
theorem acu(call:aI->List I->J->av)(p:Nat)(jS:Nat)(parts:Nat)(i:Nat)(v:I)(w:I)(h:J){Q:bn->ah->Prop}(H:∃aD:Nat,cc Tryz.prog h 43 v=some (.int .i64 (.ofNat aD))/\(i<aD->¬i<30/\Q (.exit 0) (ah.mk [(0,v),(5,.ptr p 0),(6,.int .i64 (.ofNat jS)),(7,.int .i64 (.ofNat parts)),(8,w),(9,.int .i64 (.ofNat i))] [] .none h))/\(¬i<aD->Q (.exit 0) (ah.mk [(0,v),(5,.ptr p 0),(6,.int .i64 (.ofNat jS)),(7,.int .i64 (.ofNat parts)),(8,w),(9,.int .i64 (.ofNat i))] [] .none h))):
  a3 Tryz.prog Tryz.f4 call [1,1,1,1,1,1,0,1,0,0] ⟨[(0,v),(5,.ptr p 0),(6,.int .i64 (.ofNat jS)),(7,.int .i64 (.ofNat parts)),(8,w),(9,.int .i64 (.ofNat i))],[],.none,h⟩ Q:=
 dB [(1028,.f)] [0,5,6,7,8,9] [(0,.o v),(5,.v (.ptr p 0)),(6,.v (.int .i64 (.ofNat jS))),(7,.v (.int .i64 (.ofNat parts))),(8,.o w),(9,.v (.int .i64 (.ofNat i)))] rfl (Eq.mp (by kernel_rfl) H)
theorem acv(call:aI->List I->J->av)(b:Nat)(off:Nat)(N:Nat)(p:Nat)(jS:Nat)(i:Nat)(cp:b3)(h:J){Q:bn->ah->Prop}(H:(i<N->i<N/\∃aD:Nat,au h b (off+i*1)=some (.int .u64 (.ofNat aD))/\∃bj:Nat,∃ai:J,call (.fn 9) [.ptr p 0,.int .u64 (.ofNat aD)] h=.ret (.int .i64 (.ofNat bj)) ai/\bj=0/\i+1<9223372036854775808/\Q .nrm (ah.mk [(5,.ptr p 0),(6,.int .i64 (.ofNat jS)),(8,.slice b off N cp),(13,.int .i64 (.ofNat (i+1)))] [] .none ai))/\(¬i<N->Q (.exit 2) (ah.mk [(5,.ptr p 0),(6,.int .i64 (.ofNat jS)),(8,.slice b off N cp),(13,.int .i64 (.ofNat i))] [] .none h))):
  a3 Tryz.prog Tryz.f4 call [1,1,1,1,1,1,1,0,1,0,0] ⟨[(5,.ptr p 0),(6,.int .i64 (.ofNat jS)),(8,.slice b off N cp),(13,.int .i64 (.ofNat i))],[],.none,h⟩ Q:=
 dB [(1070,.f)] [5,6,8,13] [(5,.v (.ptr p 0)),(6,.v (.int .i64 (.ofNat jS))),(8,.v (.slice b off N cp)),(13,.v (.int .i64 (.ofNat i)))] rfl (Eq.mp (by kernel_rfl) H)
theorem acw(call:aI->List I->J->av)(p:Nat)(jS:Nat)(i:Nat)(w:I)(h:J){Q:bn->ah->Prop}(H:∃aD:Nat,cc Tryz.prog h 44 w=some (.int .i64 (.ofNat aD))/\¬i<aD/\Q (.exit 2) (ah.mk [(5,.ptr p 0),(6,.int .i64 (.ofNat jS)),(8,w),(13,.int .i64 (.ofNat i))] [] .none h)):
  a3 Tryz.prog Tryz.f4 call [1,1,1,1,1,1,1,0,1,0,0] ⟨[(5,.ptr p 0),(6,.int .i64 (.ofNat jS)),(8,w),(13,.int .i64 (.ofNat i))],[],.none,h⟩ Q:=
 dB [(1061,.f)] [5,6,8,13] [(5,.v (.ptr p 0)),(6,.v (.int .i64 (.ofNat jS))),(8,.o w),(13,.v (.int .i64 (.ofNat i)))] rfl (Eq.mp (by kernel_rfl) H)
theorem acx(call:aI->List I->J->av)(b:Nat)(off:Nat)(N:Nat)(p:Nat)(i:Nat)(cp:b3)(h:J){Q:bn->ah->Prop}(H:(i<N->i<N/\∃aD:Nat,au h b (off+i*1)=some (.int .u64 (.ofNat aD))/\∃bj:Nat,∃ai:J,call (.fn 18) [.ptr p 0,.int .u64 (.ofNat aD)] h=.ret (.int .i64 (.ofNat bj)) ai/\bj=0/\i+1<9223372036854775808/\Q .nrm (ah.mk [(5,.ptr p 0),(8,.slice b off N cp),(14,.int .i64 (.ofNat (i+1)))] [] .none ai))/\(¬i<N->Q (.exit 4) (ah.mk [(5,.ptr p 0),(8,.slice b off N cp),(14,.int .i64 (.ofNat i))] [] .none h))):
  a3 Tryz.prog Tryz.f4 call [1,1,1,1,1,1,1,1,1,0,1,0,0] ⟨[(5,.ptr p 0),(8,.slice b off N cp),(14,.int .i64 (.ofNat i))],[],.none,h⟩ Q:=
 dB [(1087,.f)] [5,8,14] [(5,.v (.ptr p 0)),(8,.v (.slice b off N cp)),(14,.v (.int .i64 (.ofNat i)))] rfl (Eq.mp (by kernel_rfl) H)
theorem acy(call:aI->List I->J->av)(p:Nat)(i:Nat)(w:I)(h:J){Q:bn->ah->Prop}(H:∃aD:Nat,cc Tryz.prog h 44 w=some (.int .i64 (.ofNat aD))/\¬i<aD/\Q (.exit 4) (ah.mk [(5,.ptr p 0),(8,w),(14,.int .i64 (.ofNat i))] [] .none h)):
  a3 Tryz.prog Tryz.f4 call [1,1,1,1,1,1,1,1,1,0,1,0,0] ⟨[(5,.ptr p 0),(8,w),(14,.int .i64 (.ofNat i))],[],.none,h⟩ Q:=
 dB [(1078,.f)] [5,8,14] [(5,.v (.ptr p 0)),(8,.o w),(14,.v (.int .i64 (.ofNat i)))] rfl (Eq.mp (by kernel_rfl) H)
def CL(id:Nat)(s:cm):Nat:=match oT id s.l with
 |some e=>e.pins
 |none=>0
theorem acz(m:Nat){F:Nat->Prop}{h:J}{p id:Nat}{s:cm}(w:gE F h p s):Y (m+2) (.fn 18) [.ptr p 0,.int .u64 (Int.ofNat id)] h=.ret (.int .i64 (Int.ofNat (CL id s))) h:=by
 obtain⟨aZ,bQ,aH,a9,M,w,r⟩:=w
 have sR:=CI m w
 unfold CL
 cases hf:oT id s.l with
 |none=>
  have aN:∀x∈M,x.e.id≠id:=λx aa h=>by
   have:=List.find?_eq_none.1 hf x.e (by rw[<-r.e];exact List.mem_map.2 ⟨x,aa,rfl⟩)
   rw[h] at this;simp[Nat.beq_refl] at this
  exact acq (m+1) p id aZ h (R:=λy=>y=.ret (.int .i64 (Int.ofNat 0)) h) ⟨false,h,sR,λh=>(by cases h),λ_=>⟨aV w.st rfl,GV w.aA aN false,rfl⟩⟩
 |some q=>
  obtain⟨a8,a6⟩:=zj hf
  obtain⟨x,aa,p_⟩:=List.mem_map.1 (r.e▸a8:q∈M.map Mem.e)
  have o2:x.e.id=id:=by rw[p_];exact a6
  have ee:=uF w.aA w.up aa false
  rw[o2] at ee
  exact acp (m+1) p id aZ h (R:=λy=>y=.ret (.int .i64 (Int.ofNat q.pins)) h) ⟨false,h,sR,λh=>(by cases h),λ_=>⟨aV w.st rfl,x.b,ee,aV w.st rfl,x.b,ee,x.e.pins,aV (w.eu x aa) rfl,by rw[p_]⟩⟩
theorem acA(a b:Nat):jE mz (.int .i64 (Int.ofNat a)) [.int .i64 (Int.ofNat b)]=some (.int .i64 (Int.ofNat (max a b))):=by
 have e:jE mz (.int .i64 (Int.ofNat a)) [.int .i64 (Int.ofNat b)]=some (.int .i64 (if bM (Int.ofNat a) (Int.ofNat b)=true then Int.ofNat b else Int.ofNat a)):=by
  simp only[jE,mz]
  split<;>simp_all
 rw[e]
 by_cases h:a<b
 · rw[if_pos (dT h),Nat.max_eq_right (by omega)]
 · rw[if_neg (by rw[eZ h];simp),Nat.max_eq_left (by omega)]
def qb(B:Nat)(w:I)(d:Nat):Prop:=d<B\/∃k cp,w=.slice d 0 k cp
theorem cC.lt{D:Type}{enc:D->List I}{w el B:Nat}{h:J}{v:I}{ds:List D}(a4:cC enc w el B h v ds):∀d k cp,v=.slice d 0 k cp->B<=d/\d<h.n:=by
 intro d k cp e
 rcases a4 with⟨rfl,_⟩|⟨q,rfl,_,_,aG,bJ⟩
 · cases e
 · cases e;exact⟨aG,bJ⟩
theorem Hr(P:List (Nat×aE))(x:Nat×aE):oU (P++[x])=oU P+sz x.2:=by simp[oU]
theorem acB(m:Nat)(hm:200000<=m){B:Nat}{h y:J}{p K:Nat}{s:cm}{w u:I}{ids:List Nat}{cs:a5}(cM:B<=y.n)(hw:gE (qb B w) y p s)(gi:mv B y w ids)(f:Fit K s)(dk:K+61<=10000)(hu:mq y.n y u cs)(aw:ids.length<=1000):
  ∃r ai,Y (m+8) (.fn 12) [u] y=.ret (.ptr r 0) ai/\∃ax,Y (m+8) (.fn 11) [.ptr p 0,.ptr r 0] ai=.ret (.aQ [.int .u64 (Int.ofNat (eg (gD cs) s).1),.int .i64 (Int.ofNat 0)]) ax/\∃v2 aB,dt Tryz.prog (ax.push (.cells [o1 (eg (gD cs) s).1] 32 .own 0 0)) 44 (some 44) w (.slice ax.n 0 1 (.exact 1))=some (v2,aB)/\gE (λd=>qb B v2 d\/oV y.n ai.n d) aB p (eg (gD cs) s).2/\mv B aB v2 (ids++[(eg (gD cs) s).1])/\eU (oV y.n ai.n) aB (gD cs) (.ptr r 0)/\bW (λd=>d<B) y aB/\ai.n<=aB.n:=by
 have jl:=cC.lt gi
 obtain⟨r,ai,aH,cN,t1,bC⟩:=ab0 m hm (h:=h) (B:=B) (F:=qb B w) (λb ae=>by
  rcases ae with ae|⟨k,cp,ae⟩
  · omega
  · exact(jl b k cp ae).2) hw hu
 have aD:=bC.n
 have ag:=MJ cs
 obtain⟨ax,a9,cK,bY⟩:=abV (m+7) (by omega) cN f dk (λb ae=>by
  rcases ae with(ae|⟨k,cp,ae⟩)|ae
  · omega
  · have:=(jl b k cp ae).2;omega
  · exact ae.2) t1 ag
 have bj:=bY.n
 obtain⟨H,cl⟩:∃H,H=ax.push (.cells [o1 (eg (gD cs) s).1] 32 .own 0 0):=⟨_,rfl⟩
 have lg:H.n=ax.n+1:=by rw[cl];rfl
 have sM:∀d,d<ax.n->H.get d=ax.get d:=λd ao=>by rw[cl];exact l7 ao rfl
 have GI:mv B H w ids:=cC.b8 gi (by omega) λq aM kT=>(sM q (by omega)).trans ((bY.get q (by omega) (.inl (.inr ⟨_,_,aM⟩))).trans (bC.get q kT))
 obtain⟨aB,cr,cZ,dp,eS,eG⟩:=Gm wS GI (by omega) (d:=(eg (gD cs) s).1) (src:=.slice ax.n 0 1 (.exact 1)) (by rw[cl];exact yr wS ax 32 _) (by omega)
 have Hs:∀d,d<ax.n->(∀k cp,w≠ .slice d 0 k cp)->aB.get d=ax.get d:=λd ao cS=>(eG d (by omega) cS).trans (sM d ao)
 subst cl
 refine⟨r,ai,aH,ax,a9,_,aB,cr,cK.move (by omega) (λd ao D7 _=>Hs d ao λk cp aM=>D7 (.inl (.inr ⟨_,_,aM⟩))) (λd ao hf=>?_),.inr ⟨_,rfl,by simp,cZ,by omega,by omega⟩,?_,⟨by omega,λd ao ae=>?_⟩,by omega⟩
 · rcases hf with(hf|⟨k,cp,hf⟩)|hf
   · exact .inl (.inl (.inl hf))
   · cases hf;omega
   · exact .inl (.inr hf)
 · have acC:eU (oV y.n ai.n) ai (gD cs) (.ptr r 0):=by
     obtain⟨r',f_,c',Jp,Ny⟩:=NO m hm hu
     rw[aH] at c'
     injection c' with Ht acD
     injection Ht with Ht
     subst Ht;subst acD
     exact Ny
   refine eU.b8 (λb ae=>⟨ae,?_⟩) _ _ acC
   refine(Hs b (by have:=ae.2;omega) λk cp aM=>?_).trans (bY.get b ae.2 (.inr ae))
   have:=(jl b k cp aM).2
   have:=ae.1
   omega
 · have ae:d<B:=ae
   exact(Hs d (by omega) λk cp aM=>by have:=(jl d k cp aM).1;omega).trans ((bY.get d (by omega) (.inl (.inl ae))).trans (bC.get d (by omega)))
theorem acE(m:Nat)(hm:200000<=m){h:J}{v:I}{z:Int}{ls:List a5}(aC:CJ h.n h v ls):∃g,Y (m+9) (.fn 4) [v,.int .i64 z] h=.ret (.bool true) g:=by
 obtain⟨Pb,p,qa,gX,lE⟩:=abS (m+7) (F:=qb h.n .a0) (h:=h) z λb ae=>by
  rcases ae with ae|⟨_,_,ae⟩
  · exact ae
  · cases ae
 have qT:=lE.n
 refine acr (m+8) v z h (R:=λx=>∃g,x=.ret (.bool true) g) ⟨true,h,abZ _ h,rfl,p,Pb,qa,z.toNat,OY z,?_⟩
 have f0:Fit (61*0) ⟨z.toNat,0,0,[]⟩:=⟨⟨.nil,λe he=>(by cases he),λe he=>(by cases he),λa aT=>(by cases aT),.nil⟩,λe he=>(by cases he),Nat.le_refl _,Nat.le_refl _,λe he=>(by cases he)⟩
 have rest:∀(y:J) (w:I) (s:cm) (ids:List Nat) (Γ:Env),gE (qb h.n w) y p s->mv h.n y w ids->Fit 2000 s->kq s ids->Full s->s.cap=z.toNat->ids.length<=30->b_ [(5,.ptr p 0),(6,.int .i64 (Int.ofNat z.toNat)),(8,w)] Γ->∃bD bT v1 aB bz,bn.exit 0=.exit 0/\(⟨Γ,[],.none,y⟩:ah)=ah.mk bz [] .none aB/\b_ [(5,.ptr bD 0),(6,.int .i64 (Int.ofNat bT)),(8,v1)] bz/\
   a3 Tryz.prog Tryz.f4 (Y (m+8)) [1,1,1,1,1,1,1,0,1,0] (ah.mk [(5,.ptr bD 0),(6,.int .i64 (Int.ofNat bT)),(8,v1),(13,.int .i64 (Int.ofNat 0))] [] .none aB) (λb9 cj=>
    ∃b5 cx v2 bE bR,b9=.exit 2/\cj=ah.mk bR [] .none bE/\b_ [(5,.ptr b5 0),(6,.int .i64 (Int.ofNat cx)),(8,v2)] bR/\
    ∃da bS,Y (m+8) (.fn 17) [.ptr b5 0] bE=.ret (.int .i64 (Int.ofNat da)) bS/\¬cx<da/\
    a3 Tryz.prog Tryz.f4 (Y (m+8)) [1,1,1,1,1,1,1,1,1,0,1,0] (ah.mk [(5,.ptr b5 0),(8,v2),(14,.int .i64 (Int.ofNat 0))] [] .none bS) (λb9 cj=>
     ∃dC cU,b9=.exit 4/\cj=ah.mk cU [] .none dC/\b_ [] cU/\∃g,av.ret (.bool true) dC=.ret (.bool true) g)):=by
  intro y w s ids Γ hw gi f c4 qH iG aea cQ
  refine⟨p,z.toNat,w,y,Γ,rfl,rfl,cQ,?_⟩
  have last:∀(eN:J) (s2:cm) (Γ2:Env),gE (qb h.n w) eN p s2->mv h.n eN w ids->Fit 2000 s2->kq s2 []->Full s2->s2.cap=z.toNat->b_ [(5,.ptr p 0),(6,.int .i64 (Int.ofNat z.toNat)),(8,w)] Γ2->∃b5 cx v2 bE bR,bn.exit 2=.exit 2/\(⟨Γ2,[],.none,eN⟩:ah)=ah.mk bR [] .none bE/\b_ [(5,.ptr b5 0),(6,.int .i64 (Int.ofNat cx)),(8,v2)] bR/\
    ∃da bS,Y (m+8) (.fn 17) [.ptr b5 0] bE=.ret (.int .i64 (Int.ofNat da)) bS/\¬cx<da/\
    a3 Tryz.prog Tryz.f4 (Y (m+8)) [1,1,1,1,1,1,1,1,1,0,1,0] (ah.mk [(5,.ptr b5 0),(8,v2),(14,.int .i64 (Int.ofNat 0))] [] .none bS) (λb9 cj=>
     ∃dC cU,b9=.exit 4/\cj=ah.mk cU [] .none dC/\b_ [] cU/\∃g,av.ret (.bool true) dC=.ret (.bool true) g):=by
   intro eN s2 Γ2 qu Hu f2 q7 Hv sD acF
   have hle:=aco f2.ok q7 Hv
   rw[sD] at hle
   refine⟨p,z.toNat,w,eN,Γ2,rfl,rfl,acF,s2.l.length,eN,OZ (m+6) qu,by omega,?_⟩
   have acG:∀id,CL id s2=0:=λid=>by
    unfold CL
    cases hf:oT id s2.l with
    |none=>rfl
    |some e=>
     obtain⟨a8,_⟩:=zj hf
     show e.pins=0
     rw[q7.ni e a8];rfl
   have acH:=Hu
   rcases acH with⟨rfl,rfl⟩|⟨b,rfl,bo,bG,ed,ja⟩
   · refine a3.loop (by kernel_rfl) (λk st=>∃Γ,st=⟨Γ,[],.none,eN⟩/\b_ [(5,.ptr p 0),(8,.a0),(14,.int .i64 (Int.ofNat 0))] Γ) ?_ 0 _ (by omega) ⟨_,rfl,rfl,rfl,rfl,trivial⟩
     rintro k st ⟨Hw,rfl,uQ⟩
     exact a3.pre (acy _ p 0 .a0 eN ⟨0,rfl,by omega,eN,_,rfl,rfl,trivial,eN,rfl⟩) uQ rfl rfl rfl
   · refine a3.loop (by kernel_rfl) (λk st=>∃i Γ,st=⟨Γ,[],.none,eN⟩/\b_ [(5,.ptr p 0),(8,.slice b 0 ids.length (.a1 1)),(14,.int .i64 (Int.ofNat i))] Γ/\ids.length-i=k/\i<=ids.length) ?_ ids.length _ (by omega) ⟨0,_,rfl,⟨rfl,rfl,rfl,trivial⟩,by omega,by omega⟩
     rintro k st ⟨i,Hw,rfl,uQ,aq,af⟩
     refine a3.pre (acx _ b 0 _ p i (.a1 1) eN ⟨λi1=>?_,λi1=>⟨eN,_,rfl,rfl,trivial,eN,rfl⟩⟩) uQ rfl rfl rfl
     have fp:au eN b (0+i*1)=some (o1 ids[i]):=by
      refine l8 bG ?_
      rw[kn,List.getElem?_map,Nat.zero_add,Nat.mul_one,List.getElem?_eq_getElem (by omega)];rfl
     exact⟨i1,_,fp,_,eN,acz (m+6) qu,acG _,by omega,_,(by show _<k;omega),i+1,_,rfl,⟨rfl,rfl,rfl,trivial⟩,rfl,by omega⟩
  have GP:=gi
  rcases GP with⟨rfl,rfl⟩|⟨b,rfl,bo,bG,ed,ja⟩
  · refine a3.loop (by kernel_rfl) (λk st=>∃Γ,st=⟨Γ,[],.none,y⟩/\b_ [(5,.ptr p 0),(6,.int .i64 (Int.ofNat z.toNat)),(8,.a0),(13,.int .i64 (Int.ofNat 0))] Γ) ?_ 0 _ (by omega) ⟨_,rfl,rfl,rfl,rfl,rfl,trivial⟩
    rintro k st ⟨Hw,rfl,uQ⟩
    exact a3.pre (acw _ p z.toNat 0 .a0 y ⟨0,rfl,by omega,last y s _ hw gi f c4 qH iG ⟨rfl,rfl,rfl,trivial⟩⟩) uQ rfl rfl rfl
  · refine a3.loop (by kernel_rfl) (λk st=>∃i eN s2 Γ,st=⟨Γ,[],.none,eN⟩/\b_ [(5,.ptr p 0),(6,.int .i64 (Int.ofNat z.toNat)),(8,.slice b 0 ids.length (.a1 1)),(13,.int .i64 (Int.ofNat i))] Γ/\ids.length-i=k/\i<=ids.length/\gE (qb h.n (.slice b 0 ids.length (.a1 1))) eN p s2/\bW (qb h.n (.slice b 0 ids.length (.a1 1))) y eN/\Fit 2000 s2/\kq s2 (ids.drop i)/\Full s2/\s2.cap=z.toNat) ?_ ids.length _ (by omega) ⟨0,y,s,_,rfl,⟨rfl,rfl,rfl,rfl,trivial⟩,by omega,by omega,hw,bW.refl _ _,f,c4,qH,iG⟩
    rintro k st ⟨i,eN,s2,Hw,rfl,uQ,aq,af,qu,CM,f2,q7,Hv,sD⟩
    have Hu:mv h.n eN (.slice b 0 ids.length (.a1 1)) ids:=.inr ⟨b,rfl,bo,(CM.get b ja (.inr ⟨_,_,rfl⟩)).trans bG,ed,by have:=CM.n;omega⟩
    refine a3.pre (acv _ b 0 _ p z.toNat i (.a1 1) eN ⟨λi1=>?_,λi1=>?_⟩) uQ rfl rfl rfl
    · have fp:au eN b (0+i*1)=some (o1 ids[i]):=by
        refine l8 ((CM.get b ja (.inr ⟨_,_,rfl⟩)).trans bG) ?_
        rw[kn,List.getElem?_map,Nat.zero_add,Nat.mul_one,List.getElem?_eq_getElem (by omega)];rfl
      have hdr:ids.drop i=ids[i]::ids.drop (i+1):=List.drop_eq_getElem_cons i1
      rw[hdr] at q7
      obtain⟨r1,r2,ec,fb⟩:=acn f2.ok q7 (List.mem_cons_self ..)
      rw[List.erase_cons_head] at r2
      obtain⟨aB,du,iK,eb⟩:=abX (m+5) (id:=ids[i]) qu f2 (by omega)
      rw[r1] at du
      exact⟨i1,_,fp,0,aB,du,rfl,by omega,_,(by show _<k;omega),i+1,aB,_,_,rfl,⟨rfl,rfl,rfl,rfl,trivial⟩,rfl,by omega,iK,CM.trans eb,f2.rel _,r2,ec,fb.trans sD⟩
    · obtain rfl:i=ids.length:=by omega
      rw[List.drop_length] at q7
      exact last eN s2 _ qu Hu f2 q7 Hv sD ⟨rfl,rfl,rfl,trivial⟩
 refine a3.loop (by kernel_rfl) (λk st=>∃i y w Γ s ids P,st=⟨Γ,[],.none,y⟩/\b_ [(0,v),(5,.ptr p 0),(6,.int .i64 (Int.ofNat z.toNat)),(7,.int .i64 (Int.ofNat (oU P))),(8,w),(9,.int .i64 (Int.ofNat i))] Γ/\30-i=k/\i<=30/\gE (qb h.n w) y p s/\mv h.n y w ids/\ids.length=i/\bW (λd=>d<h.n) h y/\Fit (61*i) s/\kq s ids/\Full s/\s.cap=z.toNat/\P.map (·.1)=ids/\(∀x∈P,eI s.l x.1 x.2)/\oU P<=60*i) ?_ 30 _ (by omega) ⟨0,Pb,.a0,_,_,[],[],rfl,⟨rfl,rfl,rfl,rfl,rfl,rfl,trivial⟩,by omega,by omega,gX,.inl ⟨rfl,rfl⟩,rfl,bW.ext lE,f0,⟨λe he=>(by cases he),λi af=>(by cases af)⟩,.inl (Nat.zero_le _),rfl,rfl,λx aa=>(by cases aa),Nat.le_refl _⟩
 rintro k st ⟨i,y,w,Γ,s,ids,P,rfl,cQ,aq,af,hw,gi,jy,fg,f,c4,qH,iG,nY,dP,bx⟩
 have aS:=fg.n
 have Hx:Fit 2000 s:=⟨f.ok,f.nm,by have:=f.kJ;omega,by have:=f.oW;omega,λe he=>by have:=f.pins e he;omega⟩
 rcases aC with⟨rfl,rfl⟩|⟨b,off,cp,rfl,ae,fp⟩
 · exact a3.pre (acu _ p z.toNat _ i .a0 w y ⟨0,rfl,λh=>absurd h (by omega),λ_=>rest y w s ids _ hw gi Hx c4 qH iG (by omega) ⟨rfl,rfl,rfl,trivial⟩⟩) cQ rfl rfl rfl
 refine a3.pre (acs _ b off _ p z.toNat _ i cp w y ⟨λi1=>⟨λi2=>?_,λi2=>rest y w s ids _ hw gi Hx c4 qH iG (by omega) ⟨rfl,rfl,rfl,trivial⟩⟩,λi1=>rest y w s ids _ hw gi Hx c4 qH iG (by omega) ⟨rfl,rfl,rfl,trivial⟩⟩) cQ rfl rfl rfl
 obtain⟨u,bz,bR⟩:=fp i i1
 have Pc:Ext h.n h y:=⟨aS,λd ao=>fg.get d ao ao⟩
 have acI:mq y.n y u ls[i]:=by
  rcases bR.ext Pc with o|⟨hS,n4,kS,dz,dG,sH,uC⟩
  · exact .inl o
  · exact .inr ⟨hS,n4,kS,dz,by omega,sH,uC⟩
 obtain⟨r,ai,aH,ax,a9,v2,aB,cr,iK,sH,t3,eb,bD⟩:=acB m hm (h:=h) aS hw gi f (by omega) acI (by omega)
 have ag:=MJ ls[i]
 obtain⟨c3,_⟩:=B9 ag
 have eB:dq (some (gD ls[i]))=sz (gD ls[i]):=ld _
 have Hk:ez aB.n aB (some (gD ls[i])) (.ptr r 0):=eU.at (λb ae=>by have:=ae.2;omega) _ _ t3
 obtain⟨bE,gW,g_⟩:=LB (m+6) (by omega) (Nat.le_refl _) Hk (by omega)
 rw[eB,show min (sz (gD ls[i])) 61=sz (gD ls[i]) by omega] at gW
 have CH:=acg (gD ls[i]) f.ok c4
 have Pd:=ach (gD ls[i]) f.ok c4 nY dP
 have vb:=f.intern (t:=gD ls[i]) ag
 have Pe:(P++[((eg (gD ls[i]) s).1,gD ls[i])]).map (·.1)=ids++[(eg (gD ls[i]) s).1]:=by rw[List.map_append,nY];rfl
 have Pf:(eg (gD ls[i]) s).2.cap=z.toNat:=((zI (gD ls[i]) s).2.2).trans iG
 have hbound:=acj vb.ok CH Pe Pd (Hp _)
 rw[Hr,Pf] at hbound
 have hbound:(eg (gD ls[i]) s).2.l.length<=max z.toNat (oU P+sz (gD ls[i])):=hbound
 have nD:gE (qb h.n v2) bE p (eg (gD ls[i]) s).2:=iK.move g_.n (λd ao _ _=>g_.get d ao) λd _ hf=>.inl (.inl hf)
 have gO:=g_.n
 refine⟨i1,u,iZ Pc ae bz,r,ai,aH,_,0,ax,a9,rfl,v2,aB,cr,_,bE,gW,by omega,_,bE,OZ (m+6) nD,_,acA _ _,by omega,by omega,_,(by show _<k;omega),i+1,bE,v2,_,(eg (gD ls[i]) s).2,ids++[(eg (gD ls[i]) s).1],P++[((eg (gD ls[i]) s).1,gD ls[i])],rfl,⟨rfl,rfl,rfl,by rw[Hr];rfl,rfl,rfl,trivial⟩,rfl,by omega,nD,sH.mono g_ (Nat.le_refl _),by simp[jy],(fg.trans eb).trans (bW.ext g_),?_,CH,Hp _,Pf,Pe,Pd,by rw[Hr];show oU P+sz (gD ls[i])<=_;omega⟩
 rw[show 61*(i+1)=61*i+61 by omega];exact vb
end Go.Proofs.dj
