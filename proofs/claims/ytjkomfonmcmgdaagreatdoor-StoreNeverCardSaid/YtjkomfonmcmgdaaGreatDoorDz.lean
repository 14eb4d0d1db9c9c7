/-
  PROVED HERE: contracts of functions (Dz). No condition beside each statement's own.
-/
import Derived.Test.YtjkomfonmcmgdaaGreatDoorDk
import Derived.Test.YtjkomfonmcmgdaaGreatDoorAed
import Derived.Deep.Strs
import Derived.DataReads
import Derived.OpenShut
import Derived.ChangeSlices
set_option linter.unusedVariables false
set_option linter.unusedSimpArgs false
namespace Go.Proofs.dj
open Go aM Go.Proofs c_ Go.Proofs.cF
set_option maxRecDepth 100000
set_option maxHeartbeats 1000000
theorem abb(m:Nat)(z:Int)(h:J){R:av->Prop}(H:∃aD:Nat,k7 qO (.int .i64 z) [.int .i64 (.ofNat 0)]=some (.int .i64 (.ofNat aD))/\R (.ret (.ptr (J.n (J.push (J.push h (.map [] 0)) (.map [] 0))) 0) (J.push (J.push (J.push h (.map [] 0)) (.map [] 0)) (.cells [.int .i64 (.ofNat aD),.int .u64 (.ofNat 0),.int .u64 (.ofNat 0),.map h.n,.map (J.n (J.push h (.map [] 0)))] 58 .own 0 0)))):
  R (Y (m+1) (.fn 7) [.int .i64 z] h):=
 dJ (intr:=b1) [] [(0,.v (.int .i64 z))] Tryz.func7 (by kernel_rfl) (by kernel_rfl) (by kernel_rfl) rfl (Eq.mp (by kernel_rfl) H)
theorem abc(m:Nat)(p:Nat)(a3:Nat)(h:J){R:av->Prop}(H:au h p (0+3)=some (.map a3)/\∃bt:Bool,eB Tryz.prog h .eql 55 (.tmp 9) (.const (.map none)) (.map a3) .hW=some (.bool bt)/\R (.ret (.bool bt) h)):
  R (Y (m+1) (.fn 21) [.ptr p 0] h):=
 dJ (intr:=b1) [(9,.bC (.is (.map a3)))] [(0,.v (.ptr p 0))] Tryz.func21 (by kernel_rfl) (by kernel_rfl) (by kernel_rfl) rfl (Eq.mp (by kernel_rfl) H)
theorem abd(m:Nat)(p:Nat)(r:Nat)(a3:Nat)(h:J){R:av->Prop}(H:∃bt:Bool,∃aj:J,(Y m) (.fn 21) [.ptr p 0] h=.ret (.bool bt) aj/\bt=false/\∃aD:Nat,∃ax:J,(Y m) (.fn 25) [.ptr r 0] aj=.ret (.int .i64 (.ofNat aD)) ax/\aD=0/\∃bm:Nat,∃aC:J,(Y m) (.fn 26) [.ptr p 0,.ptr r 0] ax=.ret (.int .u64 (.ofNat bm)) aC/\au aC p (0+3)=some (.map a3)/\∃bG:Nat,h9 Tryz.prog aC 55 (.map a3) (.int .u64 (.ofNat bm)) false=some (.ptr bG 0)/\∃bV:Nat,au aC bG (0+7)=some (.int .i64 (.ofNat bV))/\bV+1<9223372036854775808/\∃bK:J,aM.storeCells aC bG (0+7) [.int .i64 (.ofNat (bV+1))]=some bK/\∃bW:J,(Y m) (.fn 22) [.ptr p 0] bK=.ret (.aP []) bW/\R (.ret (.aP [.int .u64 (.ofNat bm),.int .i64 (.ofNat 0)]) bW)):
  R (Y (m+1) (.fn 11) [.ptr p 0,.ptr r 0] h):=
 dJ (intr:=b1) [(1009,.f),(1013,.f),(21,.bC (.is (.map a3))),(23,.bC .p)] [(0,.v (.ptr p 0)),(1,.v (.ptr r 0))] Tryz.func11 (by kernel_rfl) (by kernel_rfl) (by kernel_rfl) rfl (Eq.mp (by kernel_rfl) H)
theorem Of(m:Nat)(p:Nat)(id:Nat)(a3:Nat)(h:J){R:av->Prop}(H:∃bt:Bool,∃aj:J,(Y m) (.fn 21) [.ptr p 0] h=.ret (.bool bt) aj/\bt=false/\au aj p (0+3)=some (.map a3)/\∃aD:Nat,h9 Tryz.prog aj 55 (.map a3) (.int .u64 (.ofNat id)) true=some (.aP [.ptr aD 0,.bool true])/\∃bm:Nat,au aj aD (0+7)=some (.int .i64 (.ofNat bm))/\(bm=0->R (.ret (.int .i64 (.ofNat 2)) aj))/\(¬bm=0->∃bG:Nat,au aj aD (0+7)=some (.int .i64 (.ofNat bG))/\(1<=bG/\bG<9223372036854775808)/\∃ax:J,aM.storeCells aj aD (0+7) [.int .i64 (.ofNat (bG-1))]=some ax/\∃aC:J,(Y m) (.fn 22) [.ptr p 0] ax=.ret (.aP []) aC/\R (.ret (.int .i64 (.ofNat 0)) aC))):
  R (Y (m+1) (.fn 9) [.ptr p 0,.int .u64 (.ofNat id)] h):=
 dJ (intr:=b1) [(1008,.f),(13,.bC (.is (.map a3))),(15,.bC (.fG [.p,.is (.bool true)]))] [(0,.v (.ptr p 0)),(1,.v (.int .u64 (.ofNat id)))] Tryz.func9 (by kernel_rfl) (by kernel_rfl) (by kernel_rfl) rfl (Eq.mp (by kernel_rfl) H)
theorem abe(m:Nat)(p:Nat)(id:Nat)(a3:Nat)(h:J){R:av->Prop}(H:∃bt:Bool,∃aj:J,(Y m) (.fn 21) [.ptr p 0] h=.ret (.bool bt) aj/\bt=false/\au aj p (0+3)=some (.map a3)/\h9 Tryz.prog aj 55 (.map a3) (.int .u64 (.ofNat id)) true=some (.aP [.bb,.bool false])/\R (.ret (.int .i64 (.ofNat 5)) aj)):
  R (Y (m+1) (.fn 9) [.ptr p 0,.int .u64 (.ofNat id)] h):=
 dJ (intr:=b1) [(1008,.f),(13,.bC (.is (.map a3))),(15,.bC (.fG [.is .bb,.is (.bool false)]))] [(0,.v (.ptr p 0)),(1,.v (.int .u64 (.ofNat id)))] Tryz.func9 (by kernel_rfl) (by kernel_rfl) (by kernel_rfl) rfl (Eq.mp (by kernel_rfl) H)
theorem abf(m:Nat)(p:Nat)(a3:Nat)(h:J){R:av->Prop}(H:∃bt:Bool,∃aj:J,(Y m) (.fn 21) [.ptr p 0] h=.ret (.bool bt) aj/\bt=false/\au aj p (0+3)=some (.map a3)/\∃aD:Nat,b9 Tryz.prog aj 55 (.map a3)=some (.int .i64 (.ofNat aD))/\R (.ret (.int .i64 (.ofNat aD)) aj)):
  R (Y (m+1) (.fn 17) [.ptr p 0] h):=
 dJ (intr:=b1) [(1004,.f),(8,.bC (.is (.map a3)))] [(0,.v (.ptr p 0))] Tryz.func17 (by kernel_rfl) (by kernel_rfl) (by kernel_rfl) rfl (Eq.mp (by kernel_rfl) H)
theorem abg(m:Nat)(v:I)(h:J){R:av->Prop}(H:∃bt:Bool,∃aj:J,(Y m) (.fn 15) [] h=.ret (.bool bt) aj/\bt=true/\∃aD:Nat,∃ax:J,(Y m) (.fn 7) [.int .i64 (.ofNat 0)] aj=.ret (.ptr aD 0) ax/\a4 Tryz.prog Tryz.f5 (Y m) [1,1,1,1,0,1,0] (ah.mk [(0,v),(3,.ptr aD 0),(4,.int .u64 (.ofNat 0)),(5,.int .i64 (.ofNat 0))] [] .none ax) (λcd ct=>∃aC:J,∃bB:Env,cd=.exit 0/\ct=ah.mk bB [] .none aC/\cl [] bB/\R (.ret (.bool true) aC))):
  R (Y (m+1) (.fn 5) [v] h):=
 dJ (intr:=b1) [(1009,.f),(4000,.g2 [0,3,4,5] [(.exit 0,[])])] [(0,.o v)] Tryz.func5 (by kernel_rfl) (by kernel_rfl) (by kernel_rfl) rfl (Eq.mp (by kernel_rfl) H)
theorem abh(call:aI->List I->J->av)(b:Nat)(off:Nat)(N:Nat)(p:Nat)(last:Nat)(i:Nat)(cp:b3)(h:J){Q:bn->ah->Prop}(H:(i<N->(i<30->i<N/\∃v1:I,au h b (off+i*1)=some v1/\∃aD:Nat,∃aj:J,call (.fn 12) [v1] h=.ret (.ptr aD 0) aj/\∃bm:Nat,∃bG:Nat,∃ax:J,call (.fn 11) [.ptr p 0,.ptr aD 0] aj=.ret (.aP [.int .u64 (.ofNat bm),.int .i64 (.ofNat bG)]) ax/\(bG=0->¬bm<=last/\∃bV:Nat,∃aC:J,call (.fn 9) [.ptr p 0,.int .u64 (.ofNat bm)] ax=.ret (.int .i64 (.ofNat bV)) aC/\(bV=0->∃cc:Nat,∃bK:J,call (.fn 17) [.ptr p 0] aC=.ret (.int .i64 (.ofNat cc)) bK/\cc=0/\i+1<9223372036854775808/\Q .nrm (ah.mk [(0,.slice b off N cp),(3,.ptr p 0),(4,.int .u64 (.ofNat bm)),(5,.int .i64 (.ofNat (i+1)))] [] .none bK))/\(¬bV=0->Q .ret (ah.mk [(0,.slice b off N cp),(2,.bool false),(3,.ptr p 0),(4,.int .u64 (.ofNat bm)),(5,.int .i64 (.ofNat i))] [] .none aC)))/\(¬bG=0->Q .ret (ah.mk [(0,.slice b off N cp),(2,.bool false),(3,.ptr p 0),(4,.int .u64 (.ofNat last)),(5,.int .i64 (.ofNat i))] [] .none ax)))/\(¬i<30->Q (.exit 0) (ah.mk [(0,.slice b off N cp),(3,.ptr p 0),(4,.int .u64 (.ofNat last)),(5,.int .i64 (.ofNat i))] [] .none h)))/\(¬i<N->Q (.exit 0) (ah.mk [(0,.slice b off N cp),(3,.ptr p 0),(4,.int .u64 (.ofNat last)),(5,.int .i64 (.ofNat i))] [] .none h))):
  a4 Tryz.prog Tryz.f5 call [1,1,1,1,0,1,0,0] ⟨[(0,.slice b off N cp),(3,.ptr p 0),(4,.int .u64 (.ofNat last)),(5,.int .i64 (.ofNat i))],[],.none,h⟩ Q:=
 dI [(1037,.f),(1047,.f),(26,.bC .o)] [0,2,3,4,5] [(0,.v (.slice b off N cp)),(3,.v (.ptr p 0)),(4,.v (.int .u64 (.ofNat last))),(5,.v (.int .i64 (.ofNat i)))] rfl (Eq.mp (by kernel_rfl) H)
theorem abi(call:aI->List I->J->av)(p:Nat)(last:Nat)(i:Nat)(v:I)(h:J){Q:bn->ah->Prop}(H:∃aD:Nat,b9 Tryz.prog h 43 v=some (.int .i64 (.ofNat aD))/\(i<aD->¬i<30/\Q (.exit 0) (ah.mk [(0,v),(3,.ptr p 0),(4,.int .u64 (.ofNat last)),(5,.int .i64 (.ofNat i))] [] .none h))/\(¬i<aD->Q (.exit 0) (ah.mk [(0,v),(3,.ptr p 0),(4,.int .u64 (.ofNat last)),(5,.int .i64 (.ofNat i))] [] .none h))):
  a4 Tryz.prog Tryz.f5 call [1,1,1,1,0,1,0,0] ⟨[(0,v),(3,.ptr p 0),(4,.int .u64 (.ofNat last)),(5,.int .i64 (.ofNat i))],[],.none,h⟩ Q:=
 dI [(1018,.f)] [0,2,3,4,5] [(0,.o v),(3,.v (.ptr p 0)),(4,.v (.int .u64 (.ofNat last))),(5,.v (.int .i64 (.ofNat i)))] rfl (Eq.mp (by kernel_rfl) H)
theorem abj(a:Int):k7 qO (.int .i64 a) [.int .i64 (Int.ofNat 0)]=some (.int .i64 (Int.ofNat a.toNat)):=by
 simp only[k7,qO]
 by_cases h:bM a (Int.ofNat 0)=true
 · have h0:a<0:=by simpa[bM] using h
   rw[if_pos h,show a.toNat=0 by omega];simp
 · have h0:¬a<0:=by simpa[bM] using h
   rw[if_neg h]
   have:Int.ofNat a.toNat=a:=Int.toNat_of_nonneg (by omega)
   rw[this];simp
theorem abk(m:Nat){F:Nat->Prop}{h:J}(z:Int)(fJ:∀b,F b->b<h.n):∃g p,Y (m+1) (.fn 7) [.int .i64 z] h=.ret (.ptr p 0) g/\hE F g p ⟨z.toNat,0,0,[]⟩/\Ext h.n h g:=by
 obtain⟨ab,aA⟩:∃x,x=h.push (.map [] 0):=⟨_,rfl⟩
 obtain⟨ad,ay⟩:∃x,x=ab.push (.map [] 0):=⟨_,rfl⟩
 obtain⟨ar,bx⟩:∃x,x=ad.push (wo z.toNat 0 0 h.n ab.n):=⟨_,rfl⟩
 have aD:ab.n=h.n+1:=by rw[aA];rfl
 have bm:ad.n=ab.n+1:=by rw[ay];rfl
 have bG:ar.n=ad.n+1:=by rw[bx];rfl
 refine⟨ar,ad.n,abb m z h (R:=λx=>x=.ret (.ptr ad.n 0) ar) ⟨z.toNat,abj z,by rw[bx,ay,aA]⟩,⟨h.n,ab.n,0,0,[],⟨?_,?_,?_,?_,?_,?_,.nil,.nil,?_,.nil,?_,by omega,⟨by omega,by omega,by omega,?_⟩,⟨?_,?_,?_⟩,?_,?_,?_⟩,rfl,?_⟩,?_⟩
 · rw[bx];exact fj rfl
 · rw[bx];refine mC (by omega) ?_;rw[ay];refine mC (by omega) ?_;rw[aA];exact fj rfl
 · rw[bx];refine mC (by omega) ?_;rw[ay];exact fj rfl
 · intro x aa;cases aa
 · intro x aa;cases aa
 · intro x aa;cases aa
 · intro x aa;cases aa
 · intro x aa;cases aa
 · intro x aa;cases aa
 · intro hf;have:=fJ _ hf;omega
 · intro hf;have:=fJ _ hf;omega
 · intro hf;have:=fJ _ hf;omega
 · intro x aa;cases aa
 · intro x aa;cases aa
 · intro x aa;cases aa
 · intro x aa;cases aa
 · rw[bx];refine Ext.ks (by omega) ?_;rw[ay];refine Ext.ks (by omega) ?_;rw[aA];exact Ext.push (Nat.le_refl _) _
theorem GR(m:Nat){F:Nat->Prop}{h:J}{p a3 bS aG a9 cap given clock:Nat}{M:List Mem}(w:f_ F h p a3 bS aG a9 cap given clock M):Y (m+1) (.fn 21) [.ptr p 0] h=.ret (.bool false) h:=
 abc m p a3 h (R:=λx=>x=.ret (.bool false) h) ⟨aU w.st rfl,false,by kernel_rfl,rfl⟩
theorem abl(m:Nat){F:Nat->Prop}{h:J}{p:Nat}{s:c5}(w:hE F h p s):Y (m+2) (.fn 17) [.ptr p 0] h=.ret (.int .i64 (Int.ofNat s.l.length)) h:=by
 obtain⟨a3,bS,aG,a9,M,w,r⟩:=w
 refine abf (m+1) p a3 h (R:=λx=>x=.ret (.int .i64 (Int.ofNat s.l.length)) h) ⟨false,h,GR m w,rfl,aU w.st rfl,s.l.length,?_,rfl⟩
 have hu:=wi
 simp only[b9,hu,w.aA,List.length_map]
 rw[<-r.e,List.length_map]
structure Fit(K:Nat)(s:c5):Prop where
 ok:e_ s
 nm:∀e∈s.l,e.args.length<=61/\jm e.ns
 kX:s.given<=K
 pG:s.clock<=K
 pins:∀e∈s.l,e.pins<=K
theorem Fit.cf{K:Nat}{s:c5}(f:Fit K s)(h:K<=10000):pI s:=⟨λe he=>(f.nm e he).1,λe he=>(f.nm e he).2,by have:=f.kX;omega,by have:=f.pG;omega⟩
theorem Fit.room{K:Nat}{s:c5}(f:Fit K s):Fit K (qD s):=⟨FQ _ _ f.ok,λe he=>f.nm e (BH _ _ _ e he),f.kX,f.pG,λe he=>f.pins e (BH _ _ _ e he)⟩
theorem Fit.map{K GS:Nat}{s:c5}(f:Fit K s)(di:K<=GS){g:cu->cu}(al:BG g)(aS:∀e,(g e).args=e.args/\(g e).ns=e.ns)(aO:∀e,(g e).pins<=e.pins+(GS-K)):Fit GS {s with l:=s.l.map g}:=by
 refine⟨f.ok.map al,λe he=>?_,by have:=f.kX;show s.given<=_;omega,by have:=f.pG;show s.clock<=_;omega,λe he=>?_⟩<;>obtain⟨x,aa,rfl⟩:=List.mem_map.1 he
 · rw[(aS x).1,(aS x).2];exact f.nm x aa
 · have:=aO x
   have:=f.pins x aa
   omega
theorem abm:∀(t:aF) (s:c5),e_ s->∀e∈(c1 t s).2.l,e.pins=0\/∃q∈s.l,q.pins=e.pins:=λt s hs e he=>by
 obtain⟨_,g,_⟩:=qF t hs
 rcases g.new e he with⟨q,aT,aS⟩|⟨_,h⟩
 · exact .inr ⟨q,aT,aS.pins.symm⟩
 · exact .inl h
theorem Fit.lay{K:Nat}{s:c5}(f:Fit K s){t:aF}(ag:dg (some t)=0):Fit (K+sz t) (c1 t s).2:=by
 obtain⟨aD,bm,_⟩:=B6 t s
 refine⟨(qF t f.ok).1,GG t s ag f.nm,by have:=f.kX;omega,by have:=f.pG;omega,λe he=>?_⟩
 rcases abm t s f.ok e he with h|⟨q,aT,h⟩
 · omega
 · have:=f.pins q aT;omega
theorem Og(i:Nat)(e:cu):(j_ i e).args=e.args/\(j_ i e).ns=e.ns:=by unfold j_;split<;>exact⟨rfl,rfl⟩
theorem Oh(i:Nat)(e:cu):(l8 i e).args=e.args/\(l8 i e).ns=e.ns:=by unfold l8;split<;>exact⟨rfl,rfl⟩
theorem Oi(i:Nat)(e:cu):(j_ i e).pins<=e.pins+1:=by
 unfold j_
 split
 · exact Nat.le_refl _
 · exact Nat.le_succ _
theorem Oj(i:Nat)(e:cu):(l8 i e).pins<=e.pins:=by
 unfold l8
 split
 · exact Nat.sub_le _ _
 · exact Nat.le_refl _
theorem Fit.intern{K:Nat}{s:c5}(f:Fit K s){t:aF}(ag:dg (some t)=0):Fit (K+61) (fB t s).2:=by
 have cj:=(kE.1 ag).1
 exact((f.lay ag).map (by omega:K+sz t<=K+61) (v8 _) (Og _) λe=>Nat.le_trans (Oi _ e) (by omega)).room
theorem Fit.rel{K:Nat}{s:c5}(f:Fit K s)(i:Nat):Fit K (k2 i s).2:=by
 unfold k2
 cases v3 i s.l with
 |none=>exact f
 |some e=>
  simp only
  split
  · exact f
  · exact(f.map (Nat.le_refl K) (FT _) (Oh _) λe=>Nat.le_trans (Oj _ e) (by omega)).room
theorem abn(f:Nat->Nat):wv λy=>{y with e:={y.e with pins:=f y.e.pins}}:=⟨λ_=>rfl,λ_=>rfl,λ_=>rfl,λ_=>rfl,λ_=>rfl,λ_=>rfl,λ_=>rfl,λ_=>rfl,λ_=>rfl⟩
theorem f_.Ok{F:Nat->Prop}{h:J}{p a3 bS aG a9 cap given clock:Nat}{M:List Mem}{l:List cu}(w:f_ F h p a3 bS aG a9 cap given clock M)(r:wx l M){x:Mem}(aa:x∈M)(f:Nat->Nat){g:cu->cu}(al:∀e,g e=if e.id=x.e.id then{e with pins:=f e.pins} else e):∃k,aM.storeCells h x.b (0+7) [.int .i64 (Int.ofNat (f x.e.pins))]=some k/\bT F h k/\∃Ol,f_ F k p a3 bS aG a9 cap given clock Ol/\wx (l.map g) Ol:=by
 have u:=w.fm aa (abn f)
 refine⟨_,gJ (w.et x aa) rfl rfl,bT.set (b:=x.b) (w.ne x aa),_,u,⟨?_,λy aW=>?_⟩⟩
 · unfold ma
   rw[List.map_map,<-r.e,List.map_map]
   refine List.map_congr_left λy _=>?_
   show(if y.e.id=x.e.id then({y with e:={y.e with pins:=f y.e.pins}}:Mem) else y).e=g y.e
   rw[al]
   split<;>rfl
 · obtain⟨z,aZ,rfl⟩:=List.mem_map.1 aW
   have aO:∀e,(g e).parts=e.parts:=λe=>by rw[al];split<;>rfl
   rw[GL _ aO]
   have:=r.ao z aZ
   split<;>exact this
theorem abo(m:Nat){F:Nat->Prop}{h:J}{p r K:Nat}{s:c5}{t:aF}(hm:1000<=m)(w:hE F h p s)(f:Fit K s)(di:K+61<=10000)(fJ:∀b,F b->b<h.n)(aB:fa F h t (.ptr r 0))(ag:dg (some t)=0):∃g,Y (m+1) (.fn 11) [.ptr p 0,.ptr r 0] h=.ret (.aP [.int .u64 (Int.ofNat (fB t s).1),.int .i64 (Int.ofNat 0)]) g/\hE F g p (fB t s).2/\bT F h g:=by
 obtain⟨cW,dw⟩:=F2 ag
 have eF:dx (some t)=sz t:=l0 t
 obtain⟨m,rfl⟩:∃k,m=k+10:=⟨m-10,by omega⟩
 have p0:∃ax,Y (m+10) (.fn 25) [.ptr r 0] h=.ret (.int .i64 (Int.ofNat 0)) ax/\Ext h.n h ax:=by
  have abp:ey h.n h (some t) (.ptr r 0):=fa.at fJ _ _ aB
  obtain⟨ax,ay,cX⟩:=XF (m+9) (by omega) (λu e=>by cases e;omega) (by omega) (Nat.le_refl _) abp
  rw[ag] at ay
  exact⟨ax,ay,cX⟩
 obtain⟨ax,a9,cX⟩:=p0
 have cG:hE F ax p s:=w.move cX.n (λd ao _ _=>cX.get d ao) λd _ h=>.inl h
 obtain⟨aC,dn,iN,ec⟩:=GO (sz t) t (Nat.le_refl _) ag (m+10) (by omega) F ax p (.ptr r 0) s cG f.ok f.nm (by have:=f.pG;omega) (by have:=f.kX;omega) (λb ae=>by have:=fJ b ae;have:=cX.n;omega) (fa.ck (λb ae=>⟨ae,cX.get b (fJ b ae)⟩) _ _ aB)
 obtain⟨a3,bS,d1,d2,M,iN,ed⟩:=iN
 have Om:=f.lay ag
 obtain⟨q,aT,ov⟩:=(qF t f.ok).2.2
 obtain⟨x,aa,uj⟩:=List.mem_map.1 (ed.e▸aT:q∈M.map Mem.e)
 have qI:x.e.id=(c1 t s).1:=by rw[uj];exact ov
 have abq:x.e.pins<=10000:=by have:=Om.pins q aT;rw[uj];omega
 obtain⟨gP,bL,GU,GV,p_,fq⟩:=iN.Ok ed aa (λn=>n+1) (g:=j_ (c1 t s).1) λe=>by rw[qI];rfl
 have f4:Fit (K+61) {(c1 t s).2 with l:=(c1 t s).2.l.map (j_ (c1 t s).1)}:=Om.map (by omega:K+sz t<=K+61) (v8 _) (Og _) λe=>Nat.le_trans (Oi _ e) (by omega)
 obtain⟨bW,nI,wm,hg⟩:=NA (m+8) (s:={(c1 t s).2 with l:=(c1 t s).2.l.map (j_ (c1 t s).1)}) ⟨a3,bS,d1,d2,GV,p_,fq⟩ f4.ok (f4.cf di)
 have zr:Y (m+10) (.fn 21) [.ptr p 0] h=.ret (.bool false) h:=by
  obtain⟨cw,c2,dm,e4,eX,qo,_⟩:=w
  exact GR (m+9) qo
 have er:=wk iN.aA iN.up aa false
 rw[qI] at er
 exact⟨bW,abd (m+10) p r a3 h (R:=λy=>y=.ret (.aP [.int .u64 (Int.ofNat (fB t s).1),.int .i64 (Int.ofNat 0)]) bW) ⟨false,h,zr,rfl,0,ax,a9,rfl,(c1 t s).1,aC,dn,aU iN.st rfl,x.b,er,x.e.pins,aU (iN.et x aa) rfl,by omega,gP,bL,bW,nI,rfl⟩,wm,(bT.ext cX).trans (ec.trans (GU.trans hg))⟩
theorem abr(m:Nat){F:Nat->Prop}{h:J}{p id K:Nat}{s:c5}(w:hE F h p s)(f:Fit K s)(di:K<=10000):∃g,Y (m+3) (.fn 9) [.ptr p 0,.int .u64 (Int.ofNat id)] h=.ret (.int .i64 (Int.ofNat (k2 id s).1)) g/\hE F g p (k2 id s).2/\bT F h g:=by
 have gO:=w
 obtain⟨a3,bS,aG,a9,M,w,r⟩:=w
 have zr:=GR (m+1) w
 cases hf:v3 id s.l with
 |none=>
  have e:k2 id s=(5,s):=by unfold k2;rw[hf]
  rw[e]
  have aK:∀x∈M,x.e.id≠id:=λx aa h=>by
   have:=List.find?_eq_none.1 hf x.e (by rw[<-r.e];exact List.mem_map.2 ⟨x,aa,rfl⟩)
   rw[h] at this;simp[Nat.beq_refl] at this
  exact⟨h,abe (m+2) p id a3 h (R:=λy=>y=.ret (.int .i64 (Int.ofNat 5)) h) ⟨false,h,zr,rfl,aU w.st rfl,Nc w.aA aK true,rfl⟩,gO,bT.refl _ _⟩
 |some q=>
  obtain⟨ba,a7⟩:=Md hf
  obtain⟨x,aa,uj⟩:=List.mem_map.1 (r.e▸ba:q∈M.map Mem.e)
  have qI:x.e.id=id:=by rw[uj];exact a7
  have er:=wk w.aA w.up aa true
  rw[qI] at er
  have abq:x.e.pins<=10000:=by have:=f.pins q ba;rw[uj];omega
  by_cases h0:q.pins=0
  · have e:k2 id s=(2,s):=by unfold k2;rw[hf];simp only[if_pos h0]
    rw[e]
    exact⟨h,Of (m+2) p id a3 h (R:=λy=>y=.ret (.int .i64 (Int.ofNat 2)) h) ⟨false,h,zr,rfl,aU w.st rfl,x.b,er,x.e.pins,aU (w.et x aa) rfl,λ_=>rfl,λh=>absurd (by rw[uj];exact h0) h⟩,gO,bT.refl _ _⟩
  · have e:k2 id s=(0,qD {s with l:=s.l.map (l8 id)}):=by unfold k2;rw[hf];simp only[if_neg h0]
    rw[e]
    obtain⟨gP,bL,GU,GV,p_,fq⟩:=w.Ok r aa (λn=>n-1) (g:=l8 id) λe=>by rw[qI];rfl
    have f4:Fit K {s with l:=s.l.map (l8 id)}:=f.map (Nat.le_refl K) (FT _) (Oh _) λe=>Nat.le_trans (Oj _ e) (by omega)
    obtain⟨bW,nI,wm,hg⟩:=NA m (s:={s with l:=s.l.map (l8 id)}) ⟨a3,bS,aG,a9,GV,p_,fq⟩ f4.ok (f4.cf di)
    have abt:x.e.pins≠0:=by rw[uj];exact h0
    exact⟨bW,Of (m+2) p id a3 h (R:=λy=>y=.ret (.int .i64 (Int.ofNat 0)) bW) ⟨false,h,zr,rfl,aU w.st rfl,x.b,er,x.e.pins,aU (w.et x aa) rfl,λh=>absurd h abt,λ_=>⟨x.e.pins,aU (w.et x aa) rfl,⟨by omega,by omega⟩,gP,bL,bW,nI,rfl⟩⟩,wm,GU.trans hg⟩
end Go.Proofs.dj
namespace Go.Proofs.dj
open Go aM Go.Proofs c_ Go.Proofs.cF
set_option maxRecDepth 100000
set_option maxHeartbeats 1000000
theorem abu(m:Nat)(h:J):Y (m+1) (.fn 15) [] h=.ret (.bool true) h:=by
 have e:b1 15 [] h=some (.bool true,h):=by kernel_rfl
 show e6 Tryz.prog b1 (m+1) _ _ _=_
 simp only[e6,e]
def Ck(B:Nat)(h:J)(v:I)(ls:List a5):Prop:=(v=.a0/\ls=[])\/∃b off cp,v=.slice b off ls.length cp/\b<B/\∀i (af:i<ls.length),∃w,au h b (off+i*1)=some w/\mU B h w ls[i]
theorem abv(m:Nat)(hm:200000<=m){B:Nat}{h y:J}{p:Nat}{s:c5}{v:I}{cs:a5}{F:Nat->Prop}(fJ:∀b,F b->b<y.n)(w:hE F y p s)(aB:mU y.n y v cs):∃r g,Y (m+8) (.fn 12) [v] y=.ret (.ptr r 0) g/\hE (λd=>F d\/sc y.n g.n d) g p s/\fa (λd=>F d\/sc y.n g.n d) g (qC cs) (.ptr r 0)/\Ext y.n y g:=by
 obtain⟨r,g,c,x,t⟩:=Y8 m hm aB
 refine⟨r,g,c,w.move x.n (λd ao _ _=>x.get d ao) (λd ao h=>?_),fa.ck (λb ae=>⟨.inr ae,rfl⟩) _ _ t,x⟩
 rcases h with h|h
 · exact .inl h
 · have:=h.1;omega
theorem abw(m:Nat)(hm:200000<=m){h:J}{v:I}{ls:List a5}(aB:Ck h.n h v ls):∃g,Y (m+9) (.fn 5) [v] h=.ret (.bool true) g:=by
 obtain⟨On,p,pJ,gO,lp⟩:=abk (m+7) (F:=λd=>d<h.n) 0 λb ae=>ae
 have qq:=lp.n
 refine abg (m+8) v h (R:=λx=>∃g,x=.ret (.bool true) g) ⟨true,h,abu _ h,rfl,p,On,pJ,?_⟩
 have f0:Fit (61*0) ⟨(0:Int).toNat,0,0,[]⟩:=⟨⟨.nil,λe he=>(by cases he),λe he=>(by cases he),λa aS=>(by cases aS),.nil⟩,λe he=>(by cases he),Nat.le_refl _,Nat.le_refl _,λe he=>(by cases he)⟩
 refine a4.loop (by kernel_rfl) (λk st=>∃i last y Γ s,st=⟨Γ,[],.none,y⟩/\cl [(0,v),(3,.ptr p 0),(4,.int .u64 (Int.ofNat last)),(5,.int .i64 (Int.ofNat i))] Γ/\30-i=k/\i<=30/\hE (λd=>d<h.n) y p s/\bT (λd=>d<h.n) h y/\Fit (61*i) s/\s.l=[]/\s.cap=0/\last<=s.given) ?_ 30 _ (by omega) ⟨0,0,On,_,_,rfl,⟨rfl,rfl,rfl,rfl,trivial⟩,by omega,by omega,gO,bT.ext lp,f0,rfl,rfl,Nat.le_refl _⟩
 rintro k st ⟨i,last,y,Γ,s,rfl,cP,aq,af,w,e9,f,aw,kj,pV⟩
 have aW:=e9.n
 rcases aB with⟨rfl,rfl⟩|⟨b,off,cp,rfl,ae,fU⟩
 · exact a4.pre (abi _ p last i .a0 y ⟨0,rfl,λh=>absurd h (by omega),λ_=>⟨y,_,rfl,rfl,trivial,y,rfl⟩⟩) cP rfl rfl rfl
 refine a4.pre (abh _ b off _ p last i cp y ⟨λi1=>⟨λi2=>?_,λi2=>⟨y,_,rfl,rfl,trivial,y,rfl⟩⟩,λi1=>⟨y,_,rfl,rfl,trivial,y,rfl⟩⟩) cP rfl rfl rfl
 obtain⟨u,bB,b2⟩:=fU i i1
 have Oo:Ext h.n h y:=⟨aW,λd ao=>e9.get d ao ao⟩
 have abx:mU y.n y u ls[i]:=by
  rcases b2.ext Oo with o|⟨hK,nL,kF,dv,dC,wa,tV⟩
  · exact .inl o
  · exact .inr ⟨hK,nL,kF,dv,by omega,wa,tV⟩
 obtain⟨r,aj,aG,cK,t1,bA⟩:=abv m hm (h:=h) (B:=0) (λb ae=>by show b<y.n;have ae:b<h.n:=ae;omega) w abx
 have aD:=bA.n
 have ag:=XI ls[i]
 obtain⟨ax,a9,cG,b0⟩:=abo (m+7) (by omega) cK f (by omega) (λb ae=>by
  rcases ae with ae|ae
  · have ae:b<h.n:=ae;omega
  · exact ae.2) t1 ag
 have f2:=f.intern (t:=qC ls[i]) ag
 obtain⟨v1,v2,c4,v4,fl,v6,hT⟩:=never (qC ls[i]) f.ok aw kj
 have aby:hE (λd=>d<h.n) ax p (fB (qC ls[i]) s).2:=cG.move (Nat.le_refl _) (λ_ _ _ _=>rfl) λd ao ai=>.inl (.inl ai)
 obtain⟨aC,dn,iN,ec⟩:=abr (m+5) (id:=(fB (qC ls[i]) s).1) aby f2 (by omega)
 rw[v4] at dn
 have f3:=f2.rel (fB (qC ls[i]) s).1
 have gN:=abl (m+6) iN
 rw[fl] at gN
 refine⟨i1,u,iS Oo ae bB,r,aj,aG,_,0,ax,a9,λ_=>⟨by omega,0,aC,dn,λ_=>⟨0,aC,gN,rfl,by omega,_,(by show _<k;omega),i+1,_,aC,_,_,rfl,⟨rfl,rfl,rfl,rfl,trivial⟩,rfl,by omega,iN,?_,?_,fl,v6,by omega⟩,λh=>absurd rfl h⟩,λh=>absurd rfl h⟩
 · refine((e9.trans (bT.ext bA)).trans ?_).trans ec
   exact⟨b0.n,λd ao ai=>b0.get d ao (.inl ai)⟩
 · rw[show 61*(i+1)=61*i+61 by omega];exact f3
end Go.Proofs.dj
namespace Go.Proofs.dj
open Go aM Go.Proofs c_ Go.Proofs.cF Go.ChangeShapes Go.WideShapes Go.ChangeAt Go.RowKit Go.ChangeMaps
set_option maxRecDepth 100000
set_option maxHeartbeats 1000000
theorem Oq{W:World}{a:Addr}{m j:Nat}{v:Value}(h:W.cell? ((a.add m).add j)=some v):∃c el fz,W.heap[a.block]? =some (.cells c el fz)/\c[a.off+m+j]? =some v/\(m=0->j=0->a.spot=none):=by
 have ae:((a.add m).add j).block=a.block:=by
  unfold Addr.add
  split<;>split<;>rfl
 have a2:((a.add m).add j).off=a.off+m+j:=by
  unfold Addr.add
  split<;>split<;>simp_all
 unfold World.cell? at h
 rw[ae,a2] at h
 split at h
 · rename_i c el fz aa
   split at h
   · cases h
   · rename_i hs
     refine⟨c,el,fz,aa,h,λab ad=>?_⟩
     subst ab;subst ad
     simpa[Addr.add] using hs
 · cases h
def qK(rows:List (eM×List I×Nat))(μ:bp)(h:J)(B:Nat):Prop:=∀(k:Nat) (x:eM×List I×Nat),rows[k]? =some x->μ (B+k)=some x.1/\h.get (B+k)=some (.cells x.2.1 x.2.2 .ro 0 0)/\B+k<h.n
theorem Ot{r1 r2:List (eM×List I×Nat)}{μ:bp}{h:J}{B:Nat}(ak:qK (r1++r2) μ h B):qK r1 μ h B/\qK r2 μ h (B+r1.length):=by
 refine⟨λk x aq=>ak k x ?_,λk x aq=>?_⟩
 · rw[List.getElem?_append_left (List.getElem?_eq_some_iff.1 aq).1];exact aq
 · have:=ak (r1.length+k) x (by rw[List.getElem?_append_right (by omega),Nat.add_sub_cancel_left];exact aq)
   rw[Nat.add_assoc];exact this
theorem abz{rows:List (eM×List I×Nat)}:qK rows (qh Tryz.prog.globals.size (rows.map (·.1))) (s6 Tryz.prog.globals.size (rows.map (·.2))) Tryz.prog.globals.size:=by
 intro k x aq
 refine⟨RX aq,RY aq,?_⟩
 have:=(List.getElem?_eq_some_iff.1 aq).1
 rw[DR,List.length_map];omega
theorem abA{P:Program}{W:World}{base:Nat}{t e:TypeId}(a_:P.underlying t=some (.slice e)){a:Addr}{len cap:Nat}(h:Cell.okWide P W .any base t (.slice (some a) len cap)):∃c el fz,W.heap[a.block]? =some (.cells c el fz):=by
 simp only[Cell.okWide,a_,Cell.ok] at h
 obtain⟨_,_,_,_,row,cells,hs,_⟩:=h
 unfold World.shape? at hs
 cases ae:W.heap[a.block]? with
 |none=>simp[ae] at hs
 |some o=>
  rw[ae] at hs
  cases o with
  |cells c el fz=>exact⟨c,el,fz,rfl⟩
  |_=>cases hs
def Cl(μ:bp)(W:World)(i:eM)(cs:List I)(el:Nat):Prop:=∃c fz,W.heap[i.bk]? =some (.cells c el fz)/\zG μ cs c i.base/\i.base+i.size=c.size
theorem abB{P:Program}{W:World}(je:P.globals.size<=W.heap.size)(l:List (eM×List I×Nat))(aw:∀x∈l,Cl (qh P.globals.size (l.map (·.1))) W x.1 x.2.1 x.2.2):
  br (qh P.globals.size (l.map (·.1))) (s6 P.globals.size (l.map (·.2))) W/\hd P (qh P.globals.size (l.map (·.1)))/\xP (s6 P.globals.size (l.map (·.2))):=by
 have ro:∀b o,(s6 P.globals.size (l.map (·.2))).get b=some o->∃x,l[b-P.globals.size]? =some x/\¬b<P.globals.size/\o=.cells x.2.1 x.2.2 .ro 0 0:=by
  intro b o h
  rw[DS] at h
  split at h
  · cases h
  · rename_i ae
    rw[List.getElem?_map] at h
    cases aa:l[b-P.globals.size]? with
    |none=>rw[aa] at h;cases h
    |some x=>rw[aa] at h;cases h;exact⟨x,rfl,ae,rfl⟩
 refine⟨⟨λb o j h aL=>?_,λb c' j k ab ad=>?_,λb j h=>?_,λb h=>?_⟩,λg al=>⟨⟨g,0,0⟩,by simp[qh,al],rfl,rfl⟩,λb o h=>?_⟩
 · obtain⟨x,aa,ae,rfl⟩:=ro b o h
   have gF:=aL
   unfold qh at gF
   rw[if_neg ae,List.getElem?_map,aa] at gF
   cases gF
   obtain⟨c,fz,ba,a7,b5⟩:=aw x (List.mem_of_getElem? aa)
   exact⟨c,fz.1,fz.2,ba,a7,b5,trivial⟩
 · obtain⟨o,ad,ar⟩:=ad
   obtain⟨x,_,_,rfl⟩:=ro _ o ad
   cases ar
 · rw[DR,List.length_map]
   unfold qh at h
   split at h
   · rename_i ae;cases h;exact⟨by omega,Nat.lt_of_lt_of_le ae je⟩
   · rw[List.getElem?_map] at h
     cases aa:l[b-P.globals.size]? with
     |none=>rw[aa] at h;cases h
     |some x=>
      rw[aa] at h;cases h
      obtain⟨c,fz,ba,_⟩:=aw x (List.mem_of_getElem? aa)
      have:=(List.getElem?_eq_some_iff.1 aa).1
      exact⟨by omega,(Array.getElem?_eq_some_iff.1 ba).1⟩
 · rw[DR,List.length_map] at h
   rw[DS,if_neg (by omega),List.getElem?_map,List.getElem?_eq_none (by omega)];rfl
 · obtain⟨x,_,_,rfl⟩:=ro b o h;rfl
theorem abC{W:World}{i:eM}{cs:List I}{el:Nat}(h:DT W i cs el)(μ:bp):Cl μ W i cs el:=by
 obtain⟨c,fz,ab,ad,ar⟩:=h
 exact⟨c,fz,ab,ad μ,ar⟩
theorem uz{W:World}{a:Addr}{j:Nat}{v:Value}(h:W.cell? (a.add j)=some v):∃c el fz,W.heap[a.block]? =some (.cells c el fz)/\c[a.off+j]? =some v/\(j=0->a.spot=none):=by
 have df:(a.add 0).add j=a.add j:=by simp[Addr.add]
 obtain⟨c,el,fz,ba,a7,b5⟩:=Oq (W:=W) (a:=a) (m:=0) (j:=j) (by rw[df];exact h)
 exact⟨c,el,fz,ba,by simpa using a7,b5 rfl⟩
theorem abD{P:Program}{W:World}{r:Reach}{base u e:Nat}{v:Value}(hu:P.underlying u=some (.slice e))(h:Cell.okWide P W r base u v):∃a len cap,v=.slice a len cap:=by
 simp only[Cell.okWide,hu] at h
 cases v<;>simp_all [Cell.ok]
theorem abE:Tryz.prog.underlying 27=some (.slice 5):=by kernel_rfl
theorem Ou(l:List UInt8)(i:Nat)(h:i<l.length):(c8 l)[i]? =some (.int .u8 (Int.ofNat (l[i]).toNat)):=by
 induction l generalizing i with
 |nil=>simp at h
 |cons x l a6=>
  cases i with
  |zero=>rfl
  |succ i=>simp only[c8,List.getElem?_cons_succ,List.getElem_cons_succ];exact a6 i (by simpa using h)
theorem abF{H:Type}{enc:TypeId×Value->H}{W:World}{sp:Nat->Bool}{held:Bool}{fuel:Nat}{pJ:Value}{x:DataW H×List MemPlace}(h:DataW.trod enc Tryz.prog W 0 sp held fuel 27 [pJ]=some x):
  ∃lQ rows,(∀x∈rows,DT W x.1 x.2.1 x.2.2)/\∀B kG,∃z,∀(μ:bp) (h:J) i0,μ kG=some i0->kG<h.n->qK rows μ h B->mU h.n h z lQ/\bl μ z pJ:=by
 have hu:Tryz.prog.underlying 5=some (.int .u8):=by kernel_rfl
 rcases open_ints abE hu (by kernel_rfl) h with⟨e,_⟩|⟨a,len,cap,lA,e,_,hle,_,m8,_,ag,xq⟩
 · cases e
   exact⟨[],[],by simp,λB kG=>⟨.a0,λμ h i0 _ _ _=>⟨.inl ⟨rfl,rfl⟩,rfl⟩⟩⟩
 · cases e
   by_cases h0:len=0
   · subst h0
     exact⟨[],[],by simp,λB kG=>⟨.slice kG 0 0 .dead,λμ h i0 ab ar _=>⟨.inr ⟨kG,0,.dead,rfl,ar,rfl,λi af=>by simp at af⟩,⟨_,ab,rfl,a,cap,rfl⟩⟩⟩⟩
   · have aw:len<=lA.length:=by rw[m8];split<;>omega
     obtain⟨c,el,fz,ae,_,_⟩:=uz (ag 0 (by omega))
     have lE:∀i,i<lA.length->c[a.off+i]? =some (.int .u8 (lA.getD i 0))/\(i=0->a.spot=none):=by
      intro i af
      obtain⟨c',o1,abG,ba,a7,b5⟩:=uz (ag i af)
      rw[ae] at ba
      cases ba
      exact⟨a7,b5⟩
     obtain⟨mh,hs⟩:=lE 0 (by omega)
     have zs:=hs rfl
     have zU:a.off<=c.size:=by have:=(Array.getElem?_eq_some_iff.1 mh).1;omega
     obtain⟨lQ,uZ⟩:∃lQ,lQ=(lA.take len).map λz=>UInt8.ofNat z.toNat:=⟨_,rfl⟩
     have zt:lQ.length=len:=by rw[uZ];simp;omega
     refine⟨lQ,[(⟨a.block,a.off,c.size-a.off⟩,c8 lQ,el)],λx aa=>?_,λB kG=>⟨.slice B 0 len (.exact cap),λμ h i0 _ _ ak=>?_⟩⟩
     · obtain rfl:x=_:=by simpa using aa
       refine⟨c,fz,ae,λμ j v aL=>?_,by simp;omega⟩
       have uC:j<len:=by
        have:=(List.getElem?_eq_some_iff.1 aL).1
        simp only[Gs,zt] at this;exact this
       have GW:j<lA.length:=by omega
       refine⟨_,(lE j GW).1,?_⟩
       have aK:=Ou lQ j (by rw[zt];exact uC)
       simp only at aL
       rw[aK] at aL
       cases aL
       have hw:=xq lA[j] (List.getElem_mem GW)
       have aZ:0<=lA[j]/\lA[j]<256:=by
        have CN:IntKind.u8.min<=lA[j]/\lA[j]<=IntKind.u8.max:=by simpa[Lit.wf] using hw
        have a3:IntKind.u8.min=0:=by decide
        have bS:IntKind.u8.max=255:=by decide
        rw[a3,bS] at CN
        omega
       have aA:lA.getD j 0=lA[j]:=by simp[List.getD,List.getElem?_eq_getElem GW]
       rw[aA]
       have ay:(lQ[j]'(by rw[zt];exact uC)).toNat=lA[j].toNat:=by
        subst uZ
        rw[List.getElem_map,List.getElem_take,UInt8.toNat_ofNat'];omega
       rw[ay]
       have bx:Int.ofNat lA[j].toNat=lA[j]:=by
        have:=Int.toNat_of_nonneg aZ.1;simpa using this
       rw[bx];rfl
     · obtain⟨ab,ad,ar⟩:=ak 0 _ rfl
       simp only[Nat.add_zero] at ab ad ar
       refine⟨.inr ⟨B,0,.exact cap,by rw[zt],ar,by show lQ.length<=cap;rw[zt];exact hle,λi af=>?_⟩,⟨_,ab,?_⟩⟩
       · rw[Nat.zero_add,Nat.mul_one]
         exact nu ad (Ou lQ i af)
       · obtain⟨bk,off,spot⟩:=a
         simp only at zs
         subst zs
         rfl
def wE(x:a5×I):List I:=[x.2]
theorem Ov{H:Type}{enc:TypeId×Value->H}{W:World}{sp:Nat->Bool}{held:Bool}{a:Addr}:∀n,(∀i,i<n->∃cs fuel x,W.cells? 0 (a.add (i*1)) 1=some cs/\DataW.trod enc Tryz.prog W 0 sp held fuel 27 cs=some x)->
  ∃(l:List a5) (rows:List (eM×List I×Nat)),l.length=n/\(∀x∈rows,DT W x.1 x.2.1 x.2.2)/\∀B kG,∃ds:List (a5×I),ds.map (·.1)=l/\∀(μ:bp) (h:J) i0,μ kG=some i0->kG<h.n->qK rows μ h B->∀i (af:i<ds.length),mU h.n h ds[i].2 ds[i].1/\∃u,W.cell? (a.add (i*1))=some u/\bl μ ds[i].2 u
 |0,_=>⟨[],[],rfl,by simp,λB kG=>⟨[],rfl,λμ h i0 _ _ _ i af=>by simp at af⟩⟩
 |n+1,p1=>by
  obtain⟨l,rows,aw,ak,ae⟩:=Ov n λi af=>p1 i (by omega)
  obtain⟨cs,fuel,x,fx,aa⟩:=p1 n (by omega)
  have k:=World.cells?_some fx
  obtain⟨pJ,rfl⟩:∃pJ,cs=[pJ]:=by
   match cs,k.1 with
   |[pJ],_=>exact⟨pJ,rfl⟩
  obtain⟨y,r,xd,aW⟩:=abF aa
  refine⟨l++[y],rows++r,by simp[aw],λx aa=>?_,λB kG=>?_⟩
  · rcases List.mem_append.1 aa with aa|aa
    · exact ak x aa
    · exact xd x aa
  · obtain⟨ds,zu,aq⟩:=ae B kG
    obtain⟨z,aZ⟩:=aW (B+rows.length) kG
    have vu:ds.length=n:=by rw[<-aw,<-zu,List.length_map]
    refine⟨ds++[(y,z)],by simp[zu],λμ h i0 e7 lK abH i af=>?_⟩
    obtain⟨ei,gf⟩:=Ot abH
    rw[List.length_append,List.length_singleton] at af
    by_cases fe:i<ds.length
    · rw[List.getElem_append_left fe]
      exact aq μ h i0 e7 lK ei i fe
    · obtain rfl:i=n:=by omega
      rw[List.getElem_append_right (by omega)]
      simp only[vu,Nat.sub_self,List.getElem_singleton]
      obtain⟨bA,cX⟩:=aZ μ h i0 e7 lK gf
      have df:((a.add (i*1)).add 0)=a.add (i*1):=by simp[Addr.add]
      have:=k.2.2 0 (by omega)
      rw[df] at this
      exact⟨bA,pJ,this,cX⟩
theorem GX:Tryz.prog.underlying 43=some (.slice 27):=by kernel_rfl
theorem abI{H:Type}{enc:TypeId×Value->H}{W:World}{base:Nat}{sp:Nat->Bool}{held:Bool}{fuel:Nat}{v:Value}{x:DataW H×List MemPlace}(aB:Cell.okWide Tryz.prog W .any base 43 v)(h:DataW.trod enc Tryz.prog W 0 sp held fuel 43 [v]=some x):
  ∃(l:List a5) (n:Nat) (rows:Nat->List (eM×List I×Nat)),(∀B,(rows B).length=n)/\∀B,∃u,∀(μ:bp) (g:J),qK (rows B) μ g B->(∀x∈rows B,Cl μ W x.1 x.2.1 x.2.2)/\Ck g.n g u l/\bl μ u v:=by
 have ql:Tryz.prog.cellsOf 27=1:=by kernel_rfl
 rcases DataW.trod_slice GX h with⟨h0,_⟩|⟨a,len,cap,elems,rest,n,_,h0,_,Bm,aw,hm,hlen,p1,_,_⟩
 · cases h0
   exact⟨[],0,λ_=>[],λ_=>rfl,λB=>⟨.a0,λμ g _=>⟨by simp,.inl ⟨rfl,rfl⟩,rfl⟩⟩⟩
 cases h0
 by_cases h0:len=0
 · subst h0
   obtain⟨c,el,fz,ae⟩:=abA GX aB
   refine⟨[],1,λ_=>[(⟨a.block,0,c.size⟩,[],el)],λ_=>rfl,λB=>⟨.slice B 0 0 .dead,λμ g ak=>?_⟩⟩
   obtain⟨ab,ad,ar⟩:=ak 0 _ rfl
   refine⟨λx aa=>?_,.inr ⟨B,0,.dead,rfl,ar,λi af=>by simp at af⟩,⟨_,ab,rfl,a,cap,rfl⟩⟩
   obtain rfl:x=(⟨a.block,0,c.size⟩,[],el):=by simpa using aa
   exact⟨c,fz,ae,λj v aL=>by simp at aL,Nat.zero_add _⟩
 obtain⟨l,rows,ER,ak,aq⟩:=Ov (a:=a) len λi af=>by
  have he:=p1 i af
  rw[List.getElem?_eq_getElem (by omega),ql,Option.bind_eq_some_iff] at he
  obtain⟨cs,fx,aW⟩:=he
  exact⟨cs,n,_,fx,aW⟩
 obtain⟨c,el,fz,ae,zs,H3⟩:∃c el fz,W.heap[a.block]? =some (.cells c el fz)/\a.spot=none/\a.off<=c.size:=by
  have he:=p1 0 (by omega)
  rw[List.getElem?_eq_getElem (by omega),ql,Option.bind_eq_some_iff] at he
  obtain⟨cs,fx,aW⟩:=he
  have k:=World.cells?_some fx
  obtain⟨df,bE⟩:∃df,W.cell? ((a.add (0*1)).add 0)=some df:=by
   have:=k.2.2 0 (by omega)
   obtain⟨df,abJ⟩:∃df,cs[0]? =some df:=⟨_,List.getElem?_eq_getElem (by have:=k.1;omega)⟩
   exact⟨df,this.trans abJ⟩
  obtain⟨c,el,fz,ae,mh,hs⟩:=Oq bE
  exact⟨c,el,fz,ae,hs (by omega) rfl,by have:=(Array.getElem?_eq_some_iff.1 mh).1;omega⟩
 have key:∀B,∃ds:List (a5×I),∀(μ:bp) (g:J),qK ((⟨a.block,a.off,c.size-a.off⟩,dN wE ds,el)::rows) μ g B->(∀x∈(⟨a.block,a.off,c.size-a.off⟩,dN wE ds,el)::rows,Cl μ W x.1 x.2.1 x.2.2)/\Ck g.n g (.slice B 0 len (.exact cap)) l/\bl μ (.slice B 0 len (.exact cap)) (.slice (some a) len cap):=λB=>by
  obtain⟨ds,zu,aq⟩:=aq (B+1) B
  refine⟨ds,λμ g Ow=>?_⟩
  have vu:ds.length=len:=by rw[<-ER,<-zu,List.length_map]
  have pz:dN wE ds=ds.map (·.2):=k3 (λx:a5×I=>x.2) ds
  obtain⟨ab,ad,ar⟩:=Ow 0 _ rfl
  simp only[Nat.add_zero] at ab ad ar
  have abK:qK rows μ g (B+1):=(Ot (r1:=[(⟨a.block,a.off,c.size-a.off⟩,dN wE ds,el)]) (r2:=rows) (by rw[List.singleton_append];exact Ow)).2
  have aq:=aq μ g _ ab ar abK
  refine⟨λx aa=>?_,.inr ⟨_,0,.exact cap,by rw[ER],ar,λi af=>?_⟩,⟨_,ab,?_⟩⟩
  · rcases List.mem_cons.1 aa with rfl|aa
    · refine⟨c,fz,ae,λt v aB=>?_,by simp;omega⟩
      have tQ:(dN wE ds)[t]? =some v:=aB
      rw[pz,List.getElem?_map] at tQ
      cases ao:ds[t]? with
      |none=>rw[ao] at tQ;cases tQ
      |some d=>
       rw[ao] at tQ
       obtain⟨a_,abL⟩:=List.getElem?_eq_some_iff.1 ao
       have abM:d.2=v:=by simpa using tQ
       obtain⟨_,u,hu,Cj⟩:=aq t a_
       obtain⟨c',o1,abG,jZ,aa,_⟩:=uz hu
       rw[ae] at jZ
       cases jZ
       rw[Nat.mul_one] at aa
       rw[abL,abM] at Cj
       exact⟨u,aa,Cj⟩
    · exact abC (ak x aa) _
  · have eJ:i<ds.length:=by omega
    have o1:l[i]=ds[i].1:=by simp[<-zu]
    rw[o1]
    refine⟨ds[i].2,?_,(aq i eJ).1⟩
    refine nu ad ?_
    rw[pz,List.getElem?_map,Nat.zero_add,Nat.mul_one,List.getElem?_eq_getElem eJ];rfl
  · obtain⟨bk,off,spot⟩:=a
    simp only at zs
    subst zs
    rfl
 exact⟨l,rows.length+1,λB=>(⟨a.block,a.off,c.size-a.off⟩,dN wE (key B).choose,el)::rows,λ_=>rfl,λB=>⟨.slice B 0 len (.exact cap),(key B).choose_spec⟩⟩
theorem abN{H:Type}{enc:TypeId×Value->H}{W:World}{base:Nat}{sp:Nat->Bool}{held:Bool}{fuel:Nat}{v:Value}{x:DataW H×List MemPlace}(je:Tryz.prog.globals.size<=W.heap.size)(aB:Cell.okWide Tryz.prog W .any base 43 v)(h:DataW.trod enc Tryz.prog W 0 sp held fuel 43 [v]=some x):
  ∃(l:List a5) (μ:bp) (g:J) (u:I),br μ g W/\hd Tryz.prog μ/\xP g/\Ck g.n g u l/\bl μ u v:=by
 obtain⟨l,n,rows,_,ak⟩:=abI aB h
 obtain⟨u,hu⟩:=ak Tryz.prog.globals.size
 obtain⟨bE,b0,ec⟩:=hu _ _ abz
 obtain⟨s1,s2,bI⟩:=abB (P:=Tryz.prog) je _ bE
 exact⟨l,_,_,u,s1,s2,bI,b0,ec⟩
end Go.Proofs.dj
