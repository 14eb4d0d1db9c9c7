/-
  PROVED HERE: contracts of functions (Dy). No condition beside each statement's own.
-/
import Derived.Test.YtjkomfonmcmgdaaGreatDoorDk
import Derived.Test.YtjkomfonmcmgdaaGreatDoorAed
import Derived.Deep.Strs
import Derived.DataReads
import Derived.OpenShut
import Derived.ChangeSlices
import Derived.Test.YtjkomfonmcmgdaaGreatDoorDh
set_option linter.unusedVariables false
set_option linter.unusedSimpArgs false
set_option maxRecDepth 100000
set_option maxHeartbeats 1000000
namespace Go.Proofs.jj
open Go bt Go.Proofs hy Go.Proofs.jk
theorem adZ(m:Nat)(z:Int)(h:J){R:a9->Prop}(H:∃aE:Nat,lU r3 (.int .i64 z) [.int .i64 (.ofNat 0)]=some (.int .i64 (.ofNat aE))/\R (.ret (.ptr (J.n (J.push (J.push h (.map [] 0)) (.map [] 0))) 0) (J.push (J.push (J.push h (.map [] 0)) (.map [] 0)) (.cells [.int .i64 (.ofNat aE),.int .u64 (.ofNat 0),.int .u64 (.ofNat 0),.map h.n,.map (J.n (J.push h (.map [] 0)))] 58 .own 0 0)))):
  R (Y (m+1) (.fn 7) [.int .i64 z] h):=
 dQ (intr:=b3) [] [(0,.v (.int .i64 z))] Tryz.func7 (by kernel_rfl) (by kernel_rfl) (by kernel_rfl) rfl (Eq.mp (by kernel_rfl) H)
theorem ad0(m p a5:Nat)(h:J){R:a9->Prop}(H:ar h p (0+3)=some (.map a5)/\∃br:Bool,dZ Tryz.prog h .eql 55 (.tmp 9) (.const (.map none)) (.map a5) .ix=some (.bool br)/\R (.ret (.bool br) h)):
  R (Y (m+1) (.fn 21) [.ptr p 0] h):=
 dQ (intr:=b3) [(9,.bq (.is (.map a5)))] [(0,.v (.ptr p 0))] Tryz.func21 (by kernel_rfl) (by kernel_rfl) (by kernel_rfl) rfl (Eq.mp (by kernel_rfl) H)
theorem ad1(m p r a5:Nat)(h:J){R:a9->Prop}(H:∃br:Bool,∃ai:J,(Y m) (.fn 21) [.ptr p 0] h=.ret (.bool br) ai/\br=false/\∃aE:Nat,∃au:J,(Y m) (.fn 25) [.ptr r 0] ai=.ret (.int .i64 (.ofNat aE)) au/\aE=0/\∃bf:Nat,∃ay:J,(Y m) (.fn 26) [.ptr p 0,.ptr r 0] au=.ret (.int .u64 (.ofNat bf)) ay/\ar ay p (0+3)=some (.map a5)/\∃bH:Nat,hO Tryz.prog ay 55 (.map a5) (.int .u64 (.ofNat bf)) false=some (.ptr bH 0)/\∃bU:Nat,ar ay bH (0+7)=some (.int .i64 (.ofNat bU))/\bU+1<9223372036854775808/\∃bg:J,bt.storeCells ay bH (0+7) [.int .i64 (.ofNat (bU+1))]=some bg/\∃bF:J,(Y m) (.fn 22) [.ptr p 0] bg=.ret (.aO []) bF/\R (.ret (.aO [.int .u64 (.ofNat bf),.int .i64 (.ofNat 0)]) bF)):
  R (Y (m+1) (.fn 11) [.ptr p 0,.ptr r 0] h):=
 dQ (intr:=b3) [(1009,.f),(1013,.f),(21,.bq (.is (.map a5))),(23,.bq .p)] [(0,.v (.ptr p 0)),(1,.v (.ptr r 0))] Tryz.func11 (by kernel_rfl) (by kernel_rfl) (by kernel_rfl) rfl (Eq.mp (by kernel_rfl) H)
theorem P9(m p id a5:Nat)(h:J){R:a9->Prop}(H:∃br:Bool,∃ai:J,(Y m) (.fn 21) [.ptr p 0] h=.ret (.bool br) ai/\br=false/\ar ai p (0+3)=some (.map a5)/\∃aE:Nat,hO Tryz.prog ai 55 (.map a5) (.int .u64 (.ofNat id)) true=some (.aO [.ptr aE 0,.bool true])/\∃bf:Nat,ar ai aE (0+7)=some (.int .i64 (.ofNat bf))/\(bf=0->R (.ret (.int .i64 (.ofNat 2)) ai))/\(¬bf=0->∃bH:Nat,ar ai aE (0+7)=some (.int .i64 (.ofNat bH))/\(1<=bH/\bH<9223372036854775808)/\∃au:J,bt.storeCells ai aE (0+7) [.int .i64 (.ofNat (bH-1))]=some au/\∃ay:J,(Y m) (.fn 22) [.ptr p 0] au=.ret (.aO []) ay/\R (.ret (.int .i64 (.ofNat 0)) ay))):
  R (Y (m+1) (.fn 9) [.ptr p 0,.int .u64 (.ofNat id)] h):=
 dQ (intr:=b3) [(1008,.f),(13,.bq (.is (.map a5))),(15,.bq (.fC [.p,.is (.bool true)]))] [(0,.v (.ptr p 0)),(1,.v (.int .u64 (.ofNat id)))] Tryz.func9 (by kernel_rfl) (by kernel_rfl) (by kernel_rfl) rfl (Eq.mp (by kernel_rfl) H)
theorem ad2(m p id a5:Nat)(h:J){R:a9->Prop}(H:∃br:Bool,∃ai:J,(Y m) (.fn 21) [.ptr p 0] h=.ret (.bool br) ai/\br=false/\ar ai p (0+3)=some (.map a5)/\hO Tryz.prog ai 55 (.map a5) (.int .u64 (.ofNat id)) true=some (.aO [.aZ,.bool false])/\R (.ret (.int .i64 (.ofNat 5)) ai)):
  R (Y (m+1) (.fn 9) [.ptr p 0,.int .u64 (.ofNat id)] h):=
 dQ (intr:=b3) [(1008,.f),(13,.bq (.is (.map a5))),(15,.bq (.fC [.is .aZ,.is (.bool false)]))] [(0,.v (.ptr p 0)),(1,.v (.int .u64 (.ofNat id)))] Tryz.func9 (by kernel_rfl) (by kernel_rfl) (by kernel_rfl) rfl (Eq.mp (by kernel_rfl) H)
theorem ad3(a:Int):lU r3 (.int .i64 a) [.int .i64 (Int.ofNat 0)]=some (.int .i64 (Int.ofNat a.toNat)):=by
 simp only[lU,r3]
 by_cases h:bP a (Int.ofNat 0)=true
 · have h0:a<0:=by simpa[bP] using h
   rw[if_pos h,show a.toNat=0 by omega];simp
 · have h0:¬a<0:=by simpa[bP] using h
   rw[if_neg h]
   have:Int.ofNat a.toNat=a:=Int.toNat_of_nonneg (by omega)
   rw[this];simp
theorem ad4(m:Nat){F:Nat->Prop}{h:J}(z:Int)(fR:∀b,F b->b<h.n):∃g p,Y (m+1) (.fn 7) [.int .i64 z] h=.ret (.ptr p 0) g/\g8 F g p ⟨z.toNat,0,0,[]⟩/\Ext h.n h g:=by
 obtain⟨aa,aA⟩:∃x,x=h.push (.map [] 0):=⟨_,rfl⟩
 obtain⟨ad,ax⟩:∃x,x=aa.push (.map [] 0):=⟨_,rfl⟩
 obtain⟨av,bD⟩:∃x,x=ad.push (xE z.toNat 0 0 h.n aa.n):=⟨_,rfl⟩
 have aE:aa.n=h.n+1:=by rw[aA];rfl
 have bf:ad.n=aa.n+1:=by rw[ax];rfl
 have bH:av.n=ad.n+1:=by rw[bD];rfl
 refine⟨av,ad.n,adZ m z h (R:=λx=>x=.ret (.ptr ad.n 0) av) ⟨z.toNat,ad3 z,by rw[bD,ax,aA]⟩,⟨h.n,aa.n,0,0,[],⟨?_,?_,?_,?_,?_,?_,.nil,.nil,?_,.nil,?_,by omega,⟨by omega,by omega,by omega,?_⟩,⟨?_,?_,?_⟩,?_,?_,?_⟩,rfl,?_⟩,?_⟩
 · rw[bD];exact fl rfl
 · rw[bD];refine lA (by omega) ?_;rw[ax];refine lA (by omega) ?_;rw[aA];exact fl rfl
 · rw[bD];refine lA (by omega) ?_;rw[ax];exact fl rfl
 · intro x ab;cases ab
 · intro x ab;cases ab
 · intro x ab;cases ab
 · intro x ab;cases ab
 · intro x ab;cases ab
 · intro x ab;cases ab
 · intro hf;have:=fR _ hf;omega
 · intro hf;have:=fR _ hf;omega
 · intro hf;have:=fR _ hf;omega
 · intro x ab;cases ab
 · intro x ab;cases ab
 · intro x ab;cases ab
 · intro x ab;cases ab
 · rw[bD];refine Ext.k2 (by omega) ?_;rw[ax];refine Ext.k2 (by omega) ?_;rw[aA];exact Ext.push (Nat.le_refl _) _
theorem DQ(m:Nat){F:Nat->Prop}{h:J}{p a5 bX aF a6 cap given clock:Nat}{M:List Mem}(w:gr F h p a5 bX aF a6 cap given clock M):Y (m+1) (.fn 21) [.ptr p 0] h=.ret (.bool false) h:=
 ad0 m p a5 h (R:=λx=>x=.ret (.bool false) h) ⟨aT w.st rfl,false,by kernel_rfl,rfl⟩
structure Fit(K:Nat)(s:ct):Prop where
 ok:dG s
 nm:∀e∈s.l,e.args.length<=61/\jX e.ns
 lE:s.given<=K
 lM:s.clock<=K
 pins:∀e∈s.l,e.pins<=K
theorem Fit.cy{K:Nat}{s:ct}(f:Fit K s)(h:K<=10000):qJ s:=⟨λe he=>(f.nm e he).1,λe he=>(f.nm e he).2,by have:=f.lE;omega,by have:=f.lM;omega⟩
theorem Fit.room{K:Nat}{s:ct}(f:Fit K s):Fit K (nU s):=⟨Hv _ _ f.ok,λe he=>f.nm e (Ab _ _ _ e he),f.lE,f.lM,λe he=>f.pins e (Ab _ _ _ e he)⟩
theorem Fit.map{K Ix:Nat}{s:ct}(f:Fit K s)(de:K<=Ix){g:cc->cc}(al:Aa g)(aL:∀e,(g e).args=e.args/\(g e).ns=e.ns)(aQ:∀e,(g e).pins<=e.pins+(Ix-K)):Fit Ix {s with l:=s.l.map g}:=by
 refine⟨f.ok.map al,λe he=>?_,by have:=f.lE;show s.given<=_;omega,by have:=f.lM;show s.clock<=_;omega,λe he=>?_⟩<;>obtain⟨x,ab,rfl⟩:=List.mem_map.1 he
 · rw[(aL x).1,(aL x).2];exact f.nm x ab
 · have:=aQ x
   have:=f.pins x ab
   omega
theorem ad5:∀(t:aC) (s:ct),dG s->∀e∈(cM t s).2.l,e.pins=0\/∃q∈s.l,q.pins=e.pins:=λt s hs e he=>by
 obtain⟨_,g,_⟩:=nW t hs
 rcases g.new e he with⟨q,aJ,aL⟩|⟨_,h⟩
 · exact .inr ⟨q,aJ,aL.pins.symm⟩
 · exact .inl h
theorem Fit.lay{K:Nat}{s:ct}(f:Fit K s){t:aC}(ag:dv (some t)=0):Fit (K+sz t) (cM t s).2:=by
 obtain⟨aE,bf,_⟩:=DB t s
 refine⟨(nW t f.ok).1,Il t s ag f.nm,by have:=f.lE;omega,by have:=f.lM;omega,λe he=>?_⟩
 rcases ad5 t s f.ok e he with h|⟨q,aJ,h⟩
 · omega
 · have:=f.pins q aJ;omega
theorem P_(i:Nat)(e:cc):(iV i e).args=e.args/\(iV i e).ns=e.ns:=by unfold iV;split<;>exact⟨rfl,rfl⟩
theorem Qa(i:Nat)(e:cc):(ke i e).args=e.args/\(ke i e).ns=e.ns:=by unfold ke;split<;>exact⟨rfl,rfl⟩
theorem Qb(i:Nat)(e:cc):(iV i e).pins<=e.pins+1:=by
 unfold iV
 split
 · exact Nat.le_refl _
 · exact Nat.le_succ _
theorem Qc(i:Nat)(e:cc):(ke i e).pins<=e.pins:=by
 unfold ke
 split
 · exact Nat.sub_le _ _
 · exact Nat.le_refl _
theorem Fit.intern{K:Nat}{s:ct}(f:Fit K s){t:aC}(ag:dv (some t)=0):Fit (K+61) (fb t s).2:=by
 have cq:=(ld.1 ag).1
 exact((f.lay ag).map (by omega:K+sz t<=K+61) (mm _) (P_ _) λe=>Nat.le_trans (Qb _ e) (by omega)).room
theorem Fit.rel{K:Nat}{s:ct}(f:Fit K s)(i:Nat):Fit K (iw i s).2:=by
 unfold iw
 cases th i s.l with
 |none=>exact f
 |some e=>
  simp only
  split
  · exact f
  · exact(f.map (Nat.le_refl K) (rO _) (Qa _) λe=>Nat.le_trans (Qc _ e) (by omega)).room
theorem ad6(f:Nat->Nat):xI λy=>{y with e:={y.e with pins:=f y.e.pins}}:=⟨λ_=>rfl,λ_=>rfl,λ_=>rfl,λ_=>rfl,λ_=>rfl,λ_=>rfl,λ_=>rfl,λ_=>rfl,λ_=>rfl⟩
theorem gr.n1{F:Nat->Prop}{h:J}{p a5 bX aF a6 cap given clock:Nat}{M:List Mem}{l:List cc}(w:gr F h p a5 bX aF a6 cap given clock M)(r:xJ l M){x:Mem}(ab:x∈M)(f:Nat->Nat){g:cc->cc}(al:∀e,g e=if e.id=x.e.id then{e with pins:=f e.pins} else e):∃k,bt.storeCells h x.b (0+7) [.int .i64 (Int.ofNat (f x.e.pins))]=some k/\b2 F h k/\∃Qd,gr F k p a5 bX aF a6 cap given clock Qd/\xJ (l.map g) Qd:=by
 have u:=w.fE ab (ad6 f)
 refine⟨_,gN (w.eF x ab) rfl rfl,b2.set (b:=x.b) (w.ne x ab),_,u,⟨?_,λy aU=>?_⟩⟩
 · unfold m6
   rw[List.map_map,<-r.e,List.map_map]
   refine List.map_congr_left λy _=>?_
   show(if y.e.id=x.e.id then({y with e:={y.e with pins:=f y.e.pins}}:Mem) else y).e=g y.e
   rw[al]
   split<;>rfl
 · obtain⟨z,aW,rfl⟩:=List.mem_map.1 aU
   have aQ:∀e,(g e).parts=e.parts:=λe=>by rw[al];split<;>rfl
   rw[Ip _ aQ]
   have:=r.ao z aW
   split<;>exact this
theorem ad7(m:Nat){F:Nat->Prop}{h:J}{p r K:Nat}{s:ct}{t:aC}(hm:1000<=m)(w:g8 F h p s)(f:Fit K s)(de:K+61<=10000)(fR:∀b,F b->b<h.n)(aD:dY F h t (.ptr r 0))(ag:dv (some t)=0):∃g,Y (m+1) (.fn 11) [.ptr p 0,.ptr r 0] h=.ret (.aO [.int .u64 (Int.ofNat (fb t s).1),.int .i64 (Int.ofNat 0)]) g/\g8 F g p (fb t s).2/\b2 F h g:=by
 obtain⟨c3,dE⟩:=Ag ag
 have eR:c_ (some t)=sz t:=iP t
 obtain⟨m,rfl⟩:∃k,m=k+10:=⟨m-10,by omega⟩
 have q1:∃au,Y (m+10) (.fn 25) [.ptr r 0] h=.ret (.int .i64 (Int.ofNat 0)) au/\Ext h.n h au:=by
  have ad8:dM h.n h (some t) (.ptr r 0):=dY.at fR _ _ aD
  obtain⟨au,ax,cS⟩:=aaz (m+9) (by omega) (λu e=>by cases e;omega) (by omega) (Nat.le_refl _) ad8
  rw[ag] at ax
  exact⟨au,ax,cS⟩
 obtain⟨au,a6,cS⟩:=q1
 have cN:g8 F au p s:=w.move cS.n (λd ao _ _=>cS.get d ao) λd _ h=>.inl h
 obtain⟨ay,dy,ki,ez⟩:=Is (sz t) t (Nat.le_refl _) ag (m+10) (by omega) F au p (.ptr r 0) s cN f.ok f.nm (by have:=f.lM;omega) (by have:=f.lE;omega) (λb ae=>by have:=fR b ae;have:=cS.n;omega) (dY.bO (λb ae=>⟨ae,cS.get b (fR b ae)⟩) _ _ aD)
 obtain⟨a5,bX,d1,d2,M,ki,dS⟩:=ki
 have Qe:=f.lay ag
 obtain⟨q,aJ,pv⟩:=(nW t f.ok).2.2
 obtain⟨x,ab,vy⟩:=List.mem_map.1 (dS.e▸aJ:q∈M.map Mem.e)
 have rT:x.e.id=(cM t s).1:=by rw[vy];exact pv
 have ad9:x.e.pins<=10000:=by have:=Qe.pins q aJ;rw[vy];omega
 obtain⟨gV,bS,Iy,Iz,rb,eZ⟩:=ki.n1 dS ab (λn=>n+1) (g:=iV (cM t s).1) λe=>by rw[rT];rfl
 have f4:Fit (K+61) {(cM t s).2 with l:=(cM t s).2.l.map (iV (cM t s).1)}:=Qe.map (by omega:K+sz t<=K+61) (mm _) (P_ _) λe=>Nat.le_trans (Qb _ e) (by omega)
 obtain⟨bF,mj,tt,fX⟩:=Pr (m+8) (s:={(cM t s).2 with l:=(cM t s).2.l.map (iV (cM t s).1)}) ⟨a5,bX,d1,d2,Iz,rb,eZ⟩ f4.ok (f4.cy de)
 have AN:Y (m+10) (.fn 21) [.ptr p 0] h=.ret (.bool false) h:=by
  obtain⟨b6,cU,c8,ek,en,rz,_⟩:=w
  exact DQ (m+9) rz
 have ej:=vj ki.aA ki.up ab false
 rw[rT] at ej
 exact⟨bF,ad1 (m+10) p r a5 h (R:=λy=>y=.ret (.aO [.int .u64 (Int.ofNat (fb t s).1),.int .i64 (Int.ofNat 0)]) bF) ⟨false,h,AN,rfl,0,au,a6,rfl,(cM t s).1,ay,dy,aT ki.st rfl,x.b,ej,x.e.pins,aT (ki.eF x ab) rfl,by omega,gV,bS,bF,mj,rfl⟩,tt,(b2.ext cS).trans (ez.trans (Iy.trans fX))⟩
theorem ad_(m:Nat){F:Nat->Prop}{h:J}{p id K:Nat}{s:ct}(w:g8 F h p s)(f:Fit K s)(de:K<=10000):∃g,Y (m+3) (.fn 9) [.ptr p 0,.int .u64 (Int.ofNat id)] h=.ret (.int .i64 (Int.ofNat (iw id s).1)) g/\g8 F g p (iw id s).2/\b2 F h g:=by
 have g_:=w
 obtain⟨a5,bX,aF,a6,M,w,r⟩:=w
 have AN:=DQ (m+1) w
 cases hf:th id s.l with
 |none=>
  have e:iw id s=(5,s):=by unfold iw;rw[hf]
  rw[e]
  have aN:∀x∈M,x.e.id≠id:=λx ab h=>by
   have:=List.find?_eq_none.1 hf x.e (by rw[<-r.e];exact List.mem_map.2 ⟨x,ab,rfl⟩)
   rw[h] at this;simp[Nat.beq_refl] at this
  exact⟨h,ad2 (m+2) p id a5 h (R:=λy=>y=.ret (.int .i64 (Int.ofNat 5)) h) ⟨false,h,AN,rfl,aT w.st rfl,H6 w.aA aN true,rfl⟩,g_,b2.refl _ _⟩
 |some q=>
  obtain⟨ba,a1⟩:=C_ hf
  obtain⟨x,ab,vy⟩:=List.mem_map.1 (r.e▸ba:q∈M.map Mem.e)
  have rT:x.e.id=id:=by rw[vy];exact a1
  have ej:=vj w.aA w.up ab true
  rw[rT] at ej
  have ad9:x.e.pins<=10000:=by have:=f.pins q ba;rw[vy];omega
  by_cases h0:q.pins=0
  · have e:iw id s=(2,s):=by unfold iw;rw[hf];simp only[if_pos h0]
    rw[e]
    exact⟨h,P9 (m+2) p id a5 h (R:=λy=>y=.ret (.int .i64 (Int.ofNat 2)) h) ⟨false,h,AN,rfl,aT w.st rfl,x.b,ej,x.e.pins,aT (w.eF x ab) rfl,λ_=>rfl,λh=>absurd (by rw[vy];exact h0) h⟩,g_,b2.refl _ _⟩
  · have e:iw id s=(0,nU {s with l:=s.l.map (ke id)}):=by unfold iw;rw[hf];simp only[if_neg h0]
    rw[e]
    obtain⟨gV,bS,Iy,Iz,rb,eZ⟩:=w.n1 r ab (λn=>n-1) (g:=ke id) λe=>by rw[rT];rfl
    have f4:Fit K {s with l:=s.l.map (ke id)}:=f.map (Nat.le_refl K) (rO _) (Qa _) λe=>Nat.le_trans (Qc _ e) (by omega)
    obtain⟨bF,mj,tt,fX⟩:=Pr m (s:={s with l:=s.l.map (ke id)}) ⟨a5,bX,aF,a6,Iz,rb,eZ⟩ f4.ok (f4.cy de)
    have aea:x.e.pins≠0:=by rw[vy];exact h0
    exact⟨bF,P9 (m+2) p id a5 h (R:=λy=>y=.ret (.int .i64 (Int.ofNat 0)) bF) ⟨false,h,AN,rfl,aT w.st rfl,x.b,ej,x.e.pins,aT (w.eF x ab) rfl,λh=>absurd h aea,λ_=>⟨x.e.pins,aT (w.eF x ab) rfl,⟨by omega,by omega⟩,gV,bS,bF,mj,rfl⟩⟩,tt,Iy.trans fX⟩
theorem aeb(m:Nat)(h:J):Y (m+1) (.fn 15) [] h=.ret (.bool true) h:=by
 have e:b3 15 [] h=some (.bool true,h):=by kernel_rfl
 show fp Tryz.prog b3 (m+1) _ _ _=_
 simp only[fp,e]
def DR(B:Nat)(h:J)(v:I)(ls:List a7):Prop:=(v=.aS/\ls=[])\/∃b off cp,v=.slice b off ls.length cp/\b<B/\∀i (af:i<ls.length),∃w,ar h b (off+i*1)=some w/\lf B h w ls[i]
open Go bt Go.Proofs hy Go.Proofs.jk Go.ChangeShapes Go.WideShapes Go.ChangeAt Go.RowKit Go.ChangeMaps
theorem Qf{W:World}{a:Addr}{m j:Nat}{v:Value}(h:W.cell? ((a.add m).add j)=some v):∃c el fz,W.heap[a.block]? =some (.cells c el fz)/\c[a.off+m+j]? =some v/\(m=0->j=0->a.spot=none):=by
 have ae:((a.add m).add j).block=a.block:=by
  unfold Addr.add
  split<;>split<;>rfl
 have aY:((a.add m).add j).off=a.off+m+j:=by
  unfold Addr.add
  split<;>split<;>simp_all
 unfold World.cell? at h
 rw[ae,aY] at h
 split at h
 · rename_i c el fz ab
   split at h
   · cases h
   · rename_i hs
     refine⟨c,el,fz,ab,h,λaa ad=>?_⟩
     subst aa;subst ad
     simpa[Addr.add] using hs
 · cases h
def pF(rows:List (eX×List I×Nat))(μ:bz)(h:J)(B:Nat):Prop:=∀(k:Nat) (x:eX×List I×Nat),rows[k]? =some x->μ (B+k)=some x.1/\h.get (B+k)=some (.cells x.2.1 x.2.2 .ro 0 0)/\B+k<h.n
theorem DS{r1 r2:List (eX×List I×Nat)}{μ:bz}{h:J}{B:Nat}(aj:pF (r1++r2) μ h B):pF r1 μ h B/\pF r2 μ h (B+r1.length):=by
 refine⟨λk x aq=>aj k x ?_,λk x aq=>?_⟩
 · rw[List.getElem?_append_left (List.getElem?_eq_some_iff.1 aq).1];exact aq
 · have:=aj (r1.length+k) x (by rw[List.getElem?_append_right (by omega),Nat.add_sub_cancel_left];exact aq)
   rw[Nat.add_assoc];exact this
theorem aec{rows:List (eX×List I×Nat)}:pF rows (rm Tryz.prog.globals.size (rows.map (·.1))) (uo Tryz.prog.globals.size (rows.map (·.2))) Tryz.prog.globals.size:=by
 intro k x aq
 refine⟨Ui aq,Uj aq,?_⟩
 have:=(List.getElem?_eq_some_iff.1 aq).1
 rw[Fv,List.length_map];omega
theorem Qg{P:Program}{W:World}{base:Nat}{t e:TypeId}(bc:P.underlying t=some (.slice e)){a:Addr}{len cap:Nat}(h:Cell.okWide P W .any base t (.slice (some a) len cap)):∃c el fz,W.heap[a.block]? =some (.cells c el fz):=by
 simp only[Cell.okWide,bc,Cell.ok] at h
 obtain⟨_,_,_,_,row,cells,hs,_⟩:=h
 unfold World.shape? at hs
 cases ae:W.heap[a.block]? with
 |none=>simp[ae] at hs
 |some o=>
  rw[ae] at hs
  cases o with
  |cells c el fz=>exact⟨c,el,fz,rfl⟩
  |_=>cases hs
def AO(μ:bz)(W:World)(i:eX)(cs:List I)(el:Nat):Prop:=∃c fz,W.heap[i.bo]? =some (.cells c el fz)/\A5 μ cs c i.base/\i.base+i.size=c.size
theorem aed{P:Program}{W:World}(jO:P.globals.size<=W.heap.size)(l:List (eX×List I×Nat))(aw:∀x∈l,AO (rm P.globals.size (l.map (·.1))) W x.1 x.2.1 x.2.2):
  bB (rm P.globals.size (l.map (·.1))) (uo P.globals.size (l.map (·.2))) W/\hG P (rm P.globals.size (l.map (·.1)))/\y7 (uo P.globals.size (l.map (·.2))):=by
 have ro:∀b o,(uo P.globals.size (l.map (·.2))).get b=some o->∃x,l[b-P.globals.size]? =some x/\¬b<P.globals.size/\o=.cells x.2.1 x.2.2 .ro 0 0:=by
  intro b o h
  rw[Fw] at h
  split at h
  · cases h
  · rename_i ae
    rw[List.getElem?_map] at h
    cases ab:l[b-P.globals.size]? with
    |none=>rw[ab] at h;cases h
    |some x=>rw[ab] at h;cases h;exact⟨x,rfl,ae,rfl⟩
 refine⟨⟨λb o j h aK=>?_,λb c' j k aa ad=>?_,λb j h=>?_,λb h=>?_⟩,λg al=>⟨⟨g,0,0⟩,by simp[rm,al],rfl,rfl⟩,λb o h=>?_⟩
 · obtain⟨x,ab,ae,rfl⟩:=ro b o h
   have gH:=aK
   unfold rm at gH
   rw[if_neg ae,List.getElem?_map,ab] at gH
   cases gH
   obtain⟨c,fz,ba,a1,b7⟩:=aw x (List.mem_of_getElem? ab)
   exact⟨c,fz.1,fz.2,ba,a1,b7,trivial⟩
 · obtain⟨o,ad,av⟩:=ad
   obtain⟨x,_,_,rfl⟩:=ro _ o ad
   cases av
 · rw[Fv,List.length_map]
   unfold rm at h
   split at h
   · rename_i ae;cases h;exact⟨by omega,Nat.lt_of_lt_of_le ae jO⟩
   · rw[List.getElem?_map] at h
     cases ab:l[b-P.globals.size]? with
     |none=>rw[ab] at h;cases h
     |some x=>
      rw[ab] at h;cases h
      obtain⟨c,fz,ba,_⟩:=aw x (List.mem_of_getElem? ab)
      have:=(List.getElem?_eq_some_iff.1 ab).1
      exact⟨by omega,(Array.getElem?_eq_some_iff.1 ba).1⟩
 · rw[Fv,List.length_map] at h
   rw[Fw,if_neg (by omega),List.getElem?_map,List.getElem?_eq_none (by omega)];rfl
 · obtain⟨x,_,_,rfl⟩:=ro b o h;rfl
theorem Qh{W:World}{i:eX}{cs:List I}{el:Nat}(h:Fx W i cs el)(μ:bz):AO μ W i cs el:=by
 obtain⟨c,fz,aa,ad,av⟩:=h
 exact⟨c,fz,aa,ad μ,av⟩
theorem vN{W:World}{a:Addr}{j:Nat}{v:Value}(h:W.cell? (a.add j)=some v):∃c el fz,W.heap[a.block]? =some (.cells c el fz)/\c[a.off+j]? =some v/\(j=0->a.spot=none):=by
 have dc:(a.add 0).add j=a.add j:=by simp[Addr.add]
 obtain⟨c,el,fz,ba,a1,b7⟩:=Qf (W:=W) (a:=a) (m:=0) (j:=j) (by rw[dc];exact h)
 exact⟨c,el,fz,ba,by simpa using a1,b7 rfl⟩
theorem Qi{P:Program}{W:World}{r:Reach}{base u e:Nat}{v:Value}(hu:P.underlying u=some (.slice e))(h:Cell.okWide P W r base u v):∃a len cap,v=.slice a len cap:=by
 simp only[Cell.okWide,hu] at h
 cases v<;>simp_all [Cell.ok]
theorem DT:Tryz.prog.underlying 27=some (.slice 5):=by kernel_rfl
theorem Qj(l:List UInt8)(i:Nat)(h:i<l.length):(dp l)[i]? =some (.int .u8 (Int.ofNat (l[i]).toNat)):=by
 induction l generalizing i with
 |nil=>simp at h
 |cons x l bb=>
  cases i with
  |zero=>rfl
  |succ i=>simp only[dp,List.getElem?_cons_succ,List.getElem_cons_succ];exact bb i (by simpa using h)
theorem Qk{H:Type}{enc:TypeId×Value->H}{W:World}{sp:Nat->Bool}{held:Bool}{fuel:Nat}{qK:Value}{x:DataW H×List MemPlace}(h:DataW.trod enc Tryz.prog W 0 sp held fuel 27 [qK]=some x):
  ∃jf rows,(∀x∈rows,Fx W x.1 x.2.1 x.2.2)/\∀B lg,∃z,∀(μ:bz) (h:J) i0,μ lg=some i0->lg<h.n->pF rows μ h B->lf h.n h z jf/\bp μ z qK:=by
 have hu:Tryz.prog.underlying 5=some (.int .u8):=by kernel_rfl
 rcases open_ints DT hu (by kernel_rfl) h with⟨e,_⟩|⟨a,len,cap,lQ,e,_,hle,_,n9,_,ag,yJ⟩
 · cases e
   exact⟨[],[],by simp,λB lg=>⟨.aS,λμ h i0 _ _ _=>⟨.inl ⟨rfl,rfl⟩,rfl⟩⟩⟩
 · cases e
   by_cases h0:len=0
   · subst h0
     exact⟨[],[],by simp,λB lg=>⟨.slice lg 0 0 .dead,λμ h i0 aa av _=>⟨.inr ⟨lg,0,.dead,rfl,av,rfl,λi af=>by simp at af⟩,⟨_,aa,rfl,a,cap,rfl⟩⟩⟩⟩
   · have aw:len<=lQ.length:=by rw[n9];split<;>omega
     obtain⟨c,el,fz,ae,_,_⟩:=vN (ag 0 (by omega))
     have kS:∀i,i<lQ.length->c[a.off+i]? =some (.int .u8 (lQ.getD i 0))/\(i=0->a.spot=none):=by
      intro i af
      obtain⟨c',p4,aee,ba,a1,b7⟩:=vN (ag i af)
      rw[ae] at ba
      cases ba
      exact⟨a1,b7⟩
     obtain⟨l1,hs⟩:=kS 0 (by omega)
     have AP:=hs rfl
     have Bj:a.off<=c.size:=by have:=(Array.getElem?_eq_some_iff.1 l1).1;omega
     obtain⟨jf,wg⟩:∃jf,jf=(lQ.take len).map λz=>UInt8.ofNat z.toNat:=⟨_,rfl⟩
     have xQ:jf.length=len:=by rw[wg];simp;omega
     refine⟨jf,[(⟨a.block,a.off,c.size-a.off⟩,dp jf,el)],λx ab=>?_,λB lg=>⟨.slice B 0 len (.exact cap),λμ h i0 _ _ aj=>?_⟩⟩
     · obtain rfl:x=_:=by simpa using ab
       refine⟨c,fz,ae,λμ j v aK=>?_,by simp;omega⟩
       have vQ:j<len:=by
        have:=(List.getElem?_eq_some_iff.1 aK).1
        simp only[H7,xQ] at this;exact this
       have IA:j<lQ.length:=by omega
       refine⟨_,(kS j IA).1,?_⟩
       have aN:=Qj jf j (by rw[xQ];exact vQ)
       simp only at aK
       rw[aN] at aK
       cases aK
       have hw:=yJ lQ[j] (List.getElem_mem IA)
       have aW:0<=lQ[j]/\lQ[j]<256:=by
        have Er:IntKind.u8.min<=lQ[j]/\lQ[j]<=IntKind.u8.max:=by simpa[Lit.wf] using hw
        have a5:IntKind.u8.min=0:=by decide
        have bX:IntKind.u8.max=255:=by decide
        rw[a5,bX] at Er
        omega
       have aA:lQ.getD j 0=lQ[j]:=by simp[List.getD,List.getElem?_eq_getElem IA]
       rw[aA]
       have ax:(jf[j]'(by rw[xQ];exact vQ)).toNat=lQ[j].toNat:=by
        subst wg
        rw[List.getElem_map,List.getElem_take,UInt8.toNat_ofNat'];omega
       rw[ax]
       have bD:Int.ofNat lQ[j].toNat=lQ[j]:=by
        have:=Int.toNat_of_nonneg aW.1;simpa using this
       rw[bD];rfl
     · obtain⟨aa,ad,av⟩:=aj 0 _ rfl
       simp only[Nat.add_zero] at aa ad av
       refine⟨.inr ⟨B,0,.exact cap,by rw[xQ],av,by show jf.length<=cap;rw[xQ];exact hle,λi af=>?_⟩,⟨_,aa,?_⟩⟩
       · rw[Nat.zero_add,Nat.mul_one]
         exact lB ad (Qj jf i af)
       · obtain⟨bo,off,spot⟩:=a
         simp only at AP
         subst AP
         rfl
def xR(x:a7×I):List I:=[x.2]
theorem Ql{H:Type}{enc:TypeId×Value->H}{W:World}{sp:Nat->Bool}{held:Bool}{a:Addr}:∀n,(∀i,i<n->∃cs fuel x,W.cells? 0 (a.add (i*1)) 1=some cs/\DataW.trod enc Tryz.prog W 0 sp held fuel 27 cs=some x)->
  ∃(l:List a7) (rows:List (eX×List I×Nat)),l.length=n/\(∀x∈rows,Fx W x.1 x.2.1 x.2.2)/\∀B lg,∃ds:List (a7×I),ds.map (·.1)=l/\∀(μ:bz) (h:J) i0,μ lg=some i0->lg<h.n->pF rows μ h B->∀i (af:i<ds.length),lf h.n h ds[i].2 ds[i].1/\∃u,W.cell? (a.add (i*1))=some u/\bp μ ds[i].2 u
 |0,_=>⟨[],[],rfl,by simp,λB lg=>⟨[],rfl,λμ h i0 _ _ _ i af=>by simp at af⟩⟩
 |n+1,q2=>by
  obtain⟨l,rows,aw,aj,ae⟩:=Ql n λi af=>q2 i (by omega)
  obtain⟨cs,fuel,x,fN,ab⟩:=q2 n (by omega)
  have k:=World.cells?_some fN
  obtain⟨qK,rfl⟩:∃qK,cs=[qK]:=by
   match cs,k.1 with
   |[qK],_=>exact⟨qK,rfl⟩
  obtain⟨y,r,yu,aU⟩:=Qk ab
  refine⟨l++[y],rows++r,by simp[aw],λx ab=>?_,λB lg=>?_⟩
  · rcases List.mem_append.1 ab with ab|ab
    · exact aj x ab
    · exact yu x ab
  · obtain⟨ds,AQ,aq⟩:=ae B lg
    obtain⟨z,aW⟩:=aU (B+rows.length) lg
    have wT:ds.length=n:=by rw[<-aw,<-AQ,List.length_map]
    refine⟨ds++[(y,z)],by simp[AQ],λμ h i0 fq mF aef i af=>?_⟩
    obtain⟨eu,fI⟩:=DS aef
    rw[List.length_append,List.length_singleton] at af
    by_cases ft:i<ds.length
    · rw[List.getElem_append_left ft]
      exact aq μ h i0 fq mF eu i ft
    · obtain rfl:i=n:=by omega
      rw[List.getElem_append_right (by omega)]
      simp only[wT,Nat.sub_self,List.getElem_singleton]
      obtain⟨bC,cS⟩:=aW μ h i0 fq mF fI
      have dc:((a.add (i*1)).add 0)=a.add (i*1):=by simp[Addr.add]
      have:=k.2.2 0 (by omega)
      rw[dc] at this
      exact⟨bC,qK,this,cS⟩
theorem IB:Tryz.prog.underlying 43=some (.slice 27):=by kernel_rfl
theorem aeg{H:Type}{enc:TypeId×Value->H}{W:World}{base:Nat}{sp:Nat->Bool}{held:Bool}{fuel:Nat}{v:Value}{x:DataW H×List MemPlace}(aD:Cell.okWide Tryz.prog W .any base 43 v)(h:DataW.trod enc Tryz.prog W 0 sp held fuel 43 [v]=some x):
  ∃(l:List a7) (n:Nat) (rows:Nat->List (eX×List I×Nat)),(∀B,(rows B).length=n)/\∀B,∃u,∀(μ:bz) (g:J),pF (rows B) μ g B->(∀x∈rows B,AO μ W x.1 x.2.1 x.2.2)/\DR g.n g u l/\bp μ u v:=by
 have ru:Tryz.prog.cellsOf 27=1:=by kernel_rfl
 rcases DataW.trod_slice IB h with⟨h0,_⟩|⟨a,len,cap,elems,rest,n,_,h0,_,CR,aw,hm,hlen,q2,_,_⟩
 · cases h0
   exact⟨[],0,λ_=>[],λ_=>rfl,λB=>⟨.aS,λμ g _=>⟨by simp,.inl ⟨rfl,rfl⟩,rfl⟩⟩⟩
 cases h0
 by_cases h0:len=0
 · subst h0
   obtain⟨c,el,fz,ae⟩:=Qg IB aD
   refine⟨[],1,λ_=>[(⟨a.block,0,c.size⟩,[],el)],λ_=>rfl,λB=>⟨.slice B 0 0 .dead,λμ g aj=>?_⟩⟩
   obtain⟨aa,ad,av⟩:=aj 0 _ rfl
   refine⟨λx ab=>?_,.inr ⟨B,0,.dead,rfl,av,λi af=>by simp at af⟩,⟨_,aa,rfl,a,cap,rfl⟩⟩
   obtain rfl:x=(⟨a.block,0,c.size⟩,[],el):=by simpa using ab
   exact⟨c,fz,ae,λj v aK=>by simp at aK,Nat.zero_add _⟩
 obtain⟨l,rows,wS,aj,aq⟩:=Ql (a:=a) len λi af=>by
  have he:=q2 i af
  rw[List.getElem?_eq_getElem (by omega),ru,Option.bind_eq_some_iff] at he
  obtain⟨cs,fN,aU⟩:=he
  exact⟨cs,n,_,fN,aU⟩
 obtain⟨c,el,fz,ae,AP,JU⟩:∃c el fz,W.heap[a.block]? =some (.cells c el fz)/\a.spot=none/\a.off<=c.size:=by
  have he:=q2 0 (by omega)
  rw[List.getElem?_eq_getElem (by omega),ru,Option.bind_eq_some_iff] at he
  obtain⟨cs,fN,aU⟩:=he
  have k:=World.cells?_some fN
  obtain⟨dc,bJ⟩:∃dc,W.cell? ((a.add (0*1)).add 0)=some dc:=by
   have:=k.2.2 0 (by omega)
   obtain⟨dc,aeh⟩:∃dc,cs[0]? =some dc:=⟨_,List.getElem?_eq_getElem (by have:=k.1;omega)⟩
   exact⟨dc,this.trans aeh⟩
  obtain⟨c,el,fz,ae,l1,hs⟩:=Qf bJ
  exact⟨c,el,fz,ae,hs (by omega) rfl,by have:=(Array.getElem?_eq_some_iff.1 l1).1;omega⟩
 have key:∀B,∃ds:List (a7×I),∀(μ:bz) (g:J),pF ((⟨a.block,a.off,c.size-a.off⟩,cV xR ds,el)::rows) μ g B->(∀x∈(⟨a.block,a.off,c.size-a.off⟩,cV xR ds,el)::rows,AO μ W x.1 x.2.1 x.2.2)/\DR g.n g (.slice B 0 len (.exact cap)) l/\bp μ (.slice B 0 len (.exact cap)) (.slice (some a) len cap):=λB=>by
  obtain⟨ds,AQ,aq⟩:=aq (B+1) B
  refine⟨ds,λμ g AR=>?_⟩
  have wT:ds.length=len:=by rw[<-wS,<-AQ,List.length_map]
  have qw:cV xR ds=ds.map (·.2):=jm (λx:a7×I=>x.2) ds
  obtain⟨aa,ad,av⟩:=AR 0 _ rfl
  simp only[Nat.add_zero] at aa ad av
  have IC:pF rows μ g (B+1):=(DS (r1:=[(⟨a.block,a.off,c.size-a.off⟩,cV xR ds,el)]) (r2:=rows) (by rw[List.singleton_append];exact AR)).2
  have aq:=aq μ g _ aa av IC
  refine⟨λx ab=>?_,.inr ⟨_,0,.exact cap,by rw[wS],av,λi af=>?_⟩,⟨_,aa,?_⟩⟩
  · rcases List.mem_cons.1 ab with rfl|ab
    · refine⟨c,fz,ae,λt v aD=>?_,by simp;omega⟩
      have rN:(cV xR ds)[t]? =some v:=aD
      rw[qw,List.getElem?_map] at rN
      cases ao:ds[t]? with
      |none=>rw[ao] at rN;cases rN
      |some d=>
       rw[ao] at rN
       obtain⟨bc,aei⟩:=List.getElem?_eq_some_iff.1 ao
       have aej:d.2=v:=by simpa using rN
       obtain⟨_,u,hu,DP⟩:=aq t bc
       obtain⟨c',p4,aee,j1,ab,_⟩:=vN hu
       rw[ae] at j1
       cases j1
       rw[Nat.mul_one] at ab
       rw[aei,aej] at DP
       exact⟨u,ab,DP⟩
    · exact Qh (aj x ab) _
  · have eY:i<ds.length:=by omega
    have p4:l[i]=ds[i].1:=by simp[<-AQ]
    rw[p4]
    refine⟨ds[i].2,?_,(aq i eY).1⟩
    refine lB ad ?_
    rw[qw,List.getElem?_map,Nat.zero_add,Nat.mul_one,List.getElem?_eq_getElem eY];rfl
  · obtain⟨bo,off,spot⟩:=a
    simp only at AP
    subst AP
    rfl
 exact⟨l,rows.length+1,λB=>(⟨a.block,a.off,c.size-a.off⟩,cV xR (key B).choose,el)::rows,λ_=>rfl,λB=>⟨.slice B 0 len (.exact cap),(key B).choose_spec⟩⟩
structure lh(s:ct)(ids:List Nat):Prop where
 n1:∀e∈s.l,e.pins=ids.count e.id
 has:∀i∈ids,∃e∈s.l,e.id=i
def Full(s:ct):Prop:=s.l.length<=s.cap\/iU s.l s.l=none
theorem aek(s:ct):Full (nU s):=N7 s.cap s.l.length s.l (Nat.le_refl _)
theorem lh.room{s:ct}{ids:List Nat}(hs:dG s)(bM:lh s ids):lh (nU s) ids:=by
 refine⟨λe he=>bM.n1 e (Ab _ _ _ e he),λi af=>?_⟩
 obtain⟨e,he,rfl⟩:=bM.has i af
 refine⟨e,Hz _ _ _ e he λx ab h=>?_,rfl⟩
 rw[bM.n1 x ab,h]
 exact Nat.ne_of_gt (List.count_pos_iff.2 af)
theorem Qm(t:aC){s:ct}{ids:List Nat}(hs:dG s)(bM:lh s ids):lh (cM t s).2 ids:=by
 obtain⟨_,g,_⟩:=nW t hs
 refine⟨λq aJ=>?_,λi af=>?_⟩
 · rcases g.new q aJ with⟨e,he,aL⟩|⟨aa,ad⟩
   · rw[aL.pins,aL.id];exact bM.n1 e he
   · rw[ad,List.count_eq_zero.2]
     intro hm
     obtain⟨e,he,av⟩:=bM.has _ hm
     have:=(hs.aI e he).2.1
     omega
 · obtain⟨e,he,rfl⟩:=bM.has i af
   obtain⟨q,aJ,aL⟩:=g.old e he
   exact⟨q,aJ,aL.id⟩
theorem ID(i:Nat)(e:cc):(iV i e).pins=e.pins+if e.id=i then 1 else 0:=by
 unfold iV
 split<;>rfl
theorem ael(t:aC){s:ct}{ids:List Nat}(hs:dG s)(bM:lh s ids):lh (fb t s).2 (ids++[(fb t s).1]):=by
 obtain⟨kW,_,p,aQ,qu⟩:=nW t hs
 have rX:=Qm t hs bM
 refine lh.room (s:={(cM t s).2 with l:=(cM t s).2.l.map (iV (cM t s).1)}) (kW.map (mm _)) ⟨λe he=>?_,λi af=>?_⟩
 · obtain⟨x,ab,rfl⟩:=List.mem_map.1 he
   show(iV (cM t s).1 x).pins=(ids++[(cM t s).1]).count (iV (cM t s).1 x).id
   rw[ID,(mm _).id,rX.n1 x ab,List.count_append,List.count_singleton]
   congr 1
   by_cases h:x.id=(cM t s).1
   · rw[if_pos h,h];simp
   · rw[if_neg h,if_neg];simp;exactλe=>h e.symm
 · rcases List.mem_append.1 af with af|af
   · obtain⟨e,he,rfl⟩:=rX.has i af
     exact⟨_,List.mem_map.2 ⟨e,he,rfl⟩,(mm _).id e⟩
   · rw[List.mem_singleton.1 af]
     exact⟨_,List.mem_map.2 ⟨p,aQ,rfl⟩,((mm _).id p).trans qu⟩
theorem aem(t:aC){s:ct}{ids:List Nat}(hs:dG s)(bM:lh s ids){P:List (Nat×aC)}(zX:P.map (·.1)=ids)(ei:∀x∈P,dH s.l x.1 x.2):∀x∈P++[((fb t s).1,t)],dH (fb t s).2.l x.1 x.2:=by
 obtain⟨kW,g,p,aQ,qu⟩:=nW t hs
 have rX:=Qm t hs bM
 have aen:=kW.map (mm (cM t s).1)
 intro x ab
 refine dH.room (s:={(cM t s).2 with l:=(cM t s).2.l.map (iV (cM t s).1)}) _ _ aen ?_ ?_
 · rcases List.mem_append.1 ab with ab|ab
   · have af:x.1∈ids:=by rw[<-zX];exact List.mem_map.2 ⟨x,ab,rfl⟩
     obtain⟨e,he,aa⟩:=rX.has _ af
     refine⟨_,List.mem_map.2 ⟨e,he,rfl⟩,((mm _).id e).trans aa,?_⟩
     rw[ID,rX.n1 e he,aa]
     have:=List.count_pos_iff.2 af
     omega
   · rw[List.mem_singleton.1 ab]
     refine⟨_,List.mem_map.2 ⟨p,aQ,rfl⟩,((mm _).id p).trans qu,?_⟩
     rw[ID,if_pos qu]
     omega
 · rcases List.mem_append.1 ab with ab|ab
   · exact dH.map kW (mm _) (dH.qF hs g (ei x ab))
   · rw[List.mem_singleton.1 ab]
     exact dH.map kW (mm _) (HB t hs)
theorem Qn(i:Nat)(e:cc):(ke i e).pins=e.pins-if e.id=i then 1 else 0:=by
 unfold ke
 split
 · rfl
 · exact(Nat.sub_zero _).symm
theorem Qo{i:Nat}{l:List cc}(h:∃e∈l,e.id=i):∃x,th i l=some x:=by
 obtain⟨e,he,af⟩:=h
 cases ab:th i l with
 |some x=>exact⟨x,rfl⟩
 |none=>
  have:=List.find?_eq_none.1 ab e he
  rw[af] at this;simp[Nat.beq_refl] at this
theorem aeo{s:ct}{i:Nat}{ids:List Nat}(hs:dG s)(bM:lh s ids)(af:i∈ids):(iw i s).1=0/\lh (iw i s).2 (ids.erase i)/\Full (iw i s).2/\(iw i s).2.cap=s.cap:=by
 obtain⟨x,ab⟩:=Qo (bM.has i af)
 obtain⟨bC,cS⟩:=C_ ab
 have aQ:x.pins≠0:=by
  rw[bM.n1 x bC,cS]
  exact Nat.ne_of_gt (List.count_pos_iff.2 af)
 have e:iw i s=(0,nU {s with l:=s.l.map (ke i)}):=by
  unfold iw
  rw[ab]
  simp only[if_neg aQ]
 rw[e]
 refine⟨rfl,lh.room (s:={s with l:=s.l.map (ke i)}) (hs.map (rO i)) ⟨λq aJ=>?_,λj aK=>?_⟩,aek _,rfl⟩
 · obtain⟨y,aU,rfl⟩:=List.mem_map.1 aJ
   rw[Qn,(rO i).id,bM.n1 y aU,List.count_erase]
   congr 1
   by_cases h:y.id=i
   · rw[if_pos h,if_pos (by simp[h])]
   · rw[if_neg h,if_neg (by simp;exactλe=>h e.symm)]
 · obtain⟨y,aU,rfl⟩:=bM.has j (List.mem_of_mem_erase aK)
   exact⟨_,List.mem_map.2 ⟨y,aU,rfl⟩,(rO i).id y⟩
theorem cu.lt{D:Type}{enc:D->List I}{w el B:Nat}{h:J}{v:I}{ds:List D}(aY:cu enc w el B h v ds):∀d k cp,v=.slice d 0 k cp->B<=d/\d<h.n:=by
 intro d k cp e
 rcases aY with⟨rfl,_⟩|⟨q,rfl,_,_,aG,bI⟩
 · cases e
 · cases e;exact⟨aG,bI⟩
end Go.Proofs.jj
