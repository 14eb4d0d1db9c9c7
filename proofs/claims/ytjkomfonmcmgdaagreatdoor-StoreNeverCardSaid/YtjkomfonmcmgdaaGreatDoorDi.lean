/-
  PROVED HERE: contracts of functions (Di). No condition beside each statement's own.
-/
import Derived.Test.YtjkomfonmcmgdaaGreatDoorDh
import Derived.Test.YtjkomfonmcmgdaaGreatDoorDg
import Derived.Test.YtjkomfonmcmgdaaGreatDoorTx
import Derived.Test.YtjkomfonmcmgdaaGreatDoorSxb
set_option linter.unusedVariables false
set_option linter.unusedSimpArgs false
namespace Go.Proofs.dj
open Go aM Go.Proofs c_ Go.Proofs.cF
set_option maxRecDepth 100000
set_option maxHeartbeats 1000000
def v9(n:Nat):b3->Prop
 |.exact k=>n<=k
 |.a1 e=>e=1
 |.dead=>n=0
def kb(F:Nat->Prop)(h:J)(v:I)(vs:List I):Prop:=(v=.a0/\vs=[])\/∃b off cp,v=.slice b off vs.length cp/\F b/\(∀i (af:i<vs.length),au h b (off+i*1)=some vs[i])/\0<vs.length/\cp≠ .dead/\v9 vs.length cp
mutual
def fa(F:Nat->Prop)(h:J):aF->I->Prop
 |.mk k nm ns xs rt,v=>∃r bJ bd cU vs bh aN up,v=.ptr r 0/\F r/\h.get r=some (.cells [.int .i64 (Int.ofNat k),.str nm,bJ,bd,cU] 80 bh aN up)/\kb F h bJ (ns.map .str)/\kb F h bd vs/\cT F h xs vs/\sb F h rt cU
def cT(F:Nat->Prop)(h:J):List aF->List I->Prop
 |[],vs=>vs=[]
 |t::cv,vs=>∃v ws,vs=v::ws/\fa F h t v/\cT F h cv ws
def sb(F:Nat->Prop)(h:J):Option aF->I->Prop
 |none,v=>v=.bb
 |some t,v=>fa F h t v
end
theorem kb.ck{F G:Nat->Prop}{h g:J}{v:I}{vs:List I}(e:∀b,F b->G b/\g.get b=h.get b)(hs:kb F h v vs):kb G g v vs:=by
 rcases hs with hs|⟨b,off,cp,ab,ad,ar,aJ⟩
 · exact .inl hs
 · refine .inr ⟨b,off,cp,ab,(e b ad).1,λi af=>?_,aJ⟩
   rw[<-ar i af]
   unfold au
   rw[(e b ad).2]
mutual
theorem fa.ck{F G:Nat->Prop}{h g:J}(e:∀b,F b->G b/\g.get b=h.get b):∀(t:aF) (v:I),fa F h t v->fa G g t v
 |.mk k nm ns xs rt,v,aa=>by
  obtain⟨r,bJ,bd,cU,vs,bh,aN,up,ab,ad,ar,aJ,bO,cj,db⟩:=aa
  exact⟨r,bJ,bd,cU,vs,bh,aN,up,ab,(e r ad).1,(e r ad).2.trans ar,aJ.ck e,bO.ck e,cT.ck e xs vs cj,sb.ck e rt cU db⟩
theorem cT.ck{F G:Nat->Prop}{h g:J}(e:∀b,F b->G b/\g.get b=h.get b):∀(cv:List aF) (vs:List I),cT F h cv vs->cT G g cv vs
 |[],vs,aa=>aa
 |t::cv,vs,aa=>by
  obtain⟨v,ws,ab,ad,ar⟩:=aa
  exact⟨v,ws,ab,fa.ck e t v ad,cT.ck e cv ws ar⟩
theorem sb.ck{F G:Nat->Prop}{h g:J}(e:∀b,F b->G b/\g.get b=h.get b):∀(t:Option aF) (v:I),sb F h t v->sb G g t v
 |none,v,aa=>aa
 |some t,v,aa=>fa.ck e t v aa
end
mutual
theorem fa.at{F:Nat->Prop}{B:Nat}{h:J}(e:∀b,F b->b<B):∀(t:aF) (v:I),fa F h t v->dE B h t v
 |.mk k nm ns xs rt,v,aa=>by
  obtain⟨r,bJ,bd,cU,vs,bh,aN,up,ab,ad,ar,aJ,bO,cj,db⟩:=aa
  have fS:∀{v:I} {vs:List I},kb F h v vs->c7 B h v vs:=by
   intro v vs hs
   rcases hs with hs|⟨b,off,cp,ab,ad,ar,aJ⟩
   · exact .inl hs
   · exact .inr ⟨b,off,cp,ab,e b ad,ar,aJ.1,aJ.2.1⟩
  exact⟨r,bJ,bd,cU,vs,bh,aN,up,ab,e r ad,ar,fS aJ,fS bO,cT.at e xs vs cj,sb.at e rt cU db⟩
theorem cT.at{F:Nat->Prop}{B:Nat}{h:J}(e:∀b,F b->b<B):∀(cv:List aF) (vs:List I),cT F h cv vs->dO B h cv vs
 |[],vs,aa=>aa
 |t::cv,vs,aa=>by
  obtain⟨v,ws,ab,ad,ar⟩:=aa
  exact⟨v,ws,ab,fa.at e t v ad,cT.at e cv ws ar⟩
theorem sb.at{F:Nat->Prop}{B:Nat}{h:J}(e:∀b,F b->b<B):∀(t:Option aF) (v:I),sb F h t v->ey B h t v
 |none,v,aa=>aa
 |some t,v,aa=>fa.at e t v aa
end
abbrev XV(s:a5):List I:=[.str s]
abbrev XW(r:Nat):List I:=[.ptr r 0]
theorem XX:kU Tryz.prog XV 1 9 63 where
 hu:=by kernel_rfl
 fy:=by kernel_rfl
 info:=by
  obtain⟨i,af⟩:=Option.isSome_iff_exists.1 (show(Tryz.prog.info? 9).isSome=true by kernel_rfl)
  refine⟨i,af,?_,?_⟩
  · have:(Tryz.prog.info? 9).map (·.size)=some 1:=by kernel_rfl
    rw[af] at this;simpa using this
  · have:(Tryz.prog.info? 9).map (λi=>Nat.ble i.bytes 1000)=some true:=by kernel_rfl
    rw[af] at this
    exact Nat.le_of_ble_eq_true (by simpa using this)
 zero:=⟨.str [],by kernel_rfl,rfl⟩
 size:=by kernel_rfl
 len:=λ_=>rfl
 cell:=λ_=>rfl
 pos:=by decide
theorem XY:kU Tryz.prog XW 1 35 50 where
 hu:=by kernel_rfl
 fy:=by kernel_rfl
 info:=by
  obtain⟨i,af⟩:=Option.isSome_iff_exists.1 (show(Tryz.prog.info? 35).isSome=true by kernel_rfl)
  refine⟨i,af,?_,?_⟩
  · have:(Tryz.prog.info? 35).map (·.size)=some 1:=by kernel_rfl
    rw[af] at this;simpa using this
  · have:(Tryz.prog.info? 35).map (λi=>Nat.ble i.bytes 1000)=some true:=by kernel_rfl
    rw[af] at this
    exact Nat.le_of_ble_eq_true (by simpa using this)
 zero:=⟨.bb,by kernel_rfl,rfl⟩
 size:=by kernel_rfl
 len:=λ_=>rfl
 cell:=λ_=>rfl
 pos:=by decide
theorem k3{D:Type}(enc:D->I):∀ds:List D,dN (λd=>[enc d]) ds=ds.map enc
 |[]=>rfl
 |d::l=>by
  show[enc d]++dN _ l=enc d::l.map enc
  rw[k3 enc l];rfl
theorem BI{D:Type}{enc:D->I}{el B:Nat}{F:Nat->Prop}{h:J}{v:I}{ds:List D}(a2:cD (λd=>[enc d]) 1 el B h v ds)(fJ:∀b n cp,v=.slice b 0 n cp->F b):kb F h v (ds.map enc):=by
 rcases a2 with⟨rfl,rfl⟩|⟨b,rfl,ad,ar,aJ,bO⟩
 · exact .inl ⟨rfl,rfl⟩
 · refine .inr ⟨b,0,.a1 1,by rw[List.length_map],fJ b _ _ rfl,λi af=>?_,by rw[List.length_map];exact ad,by simp,rfl⟩
   have e:=k3 enc ds
   rw[e] at ar
   exact nu ar (by rw[List.getElem?_eq_getElem (by simpa using af)];simp)
theorem Mp{D:Type}{P:Program}{enc:D->List I}{w:Nat}{el sT:TypeId}(T:kU P enc w el sT){B:Nat}{h:J}{v src:I}{ds:List D}{d:D}(a2:cD enc w el B h v ds)(cM:B<=h.n)(hs:fP h w src=some (1,enc d))(aw:ds.length+1<=1000000):
  ∃an,dy P h sT (some sT) v src=some (.slice h.n 0 (ds++[d]).length (.a1 w),an)/\an.get h.n=some (.cells (dN enc (ds++[d])) el .a1 0 0)/\an.n=h.n+1/\Ext B h an/\∀c,c<h.n->(∀n cp,v≠ .slice c 0 n cp)->an.get c=h.get c:=by
 have dp:fP h w src=some ([d].length,dN enc [d]):=by rw[hs];simp[dN]
 rcases a2 with⟨rfl,rfl⟩|⟨p,rfl,ad,ar,aJ,bO⟩
 · rw[List.nil_append]
   exact⟨_,JQ T dp (by simp) (by simp),fj rfl,by simp,Ext.ks cM (Ext.refl _ _),λc ag _=>mC ag rfl⟩
 · refine⟨_,by rw[List.length_append];exact JR T ar dp (by simp) (by simpa using aw),fj (by simp),by simp,?_,λc ag hw=>?_⟩
   · exact Ext.ks (by simp;omega) (Ext.iQ aJ (Ext.refl _ _))
   · exact mC (by simpa using ag) (dH (λe=>hw _ _ (by rw[e])) rfl)
theorem cD.XZ{D:Type}{enc:D->List I}{w el B:Nat}{h g:J}{v:I}{ds:List D}(a2:cD enc w el B h v ds)(aK:h.n<=g.n)(aq:∀d,B<=d->d<h.n->g.get d=h.get d):cD enc w el B g v ds:=by
 rcases a2 with a2|⟨q,rfl,ad,ar,aJ,bO⟩
 · exact .inl a2
 · exact .inr ⟨q,rfl,ad,(aq q aJ bO).trans ar,aJ,by omega⟩
end Go.Proofs.dj
namespace Go.Proofs.dj
open Go aM Go.Proofs c_ Go.Proofs.cF
set_option maxRecDepth 100000
set_option maxHeartbeats 1000000
theorem X0(m:Nat)(c:Nat)(n:Nat)(h:J){R:av->Prop}(H:∃v1:I,au h c (0+0)=some v1/\∃aD:Nat,b9 Tryz.prog h 27 v1=some (.int .i64 (.ofNat aD))/\(aD=0->R (.ret (.int .i64 (.ofNat 0)) h))/\(¬aD=0->∃bm:Nat,∃bG:Nat,∃bV:Nat,∃aG:b3,au h c (0+0)=some (.slice bm bG bV aG)/\0<bV/\∃cc:Nat,au h bm (bG+0*1)=some (.int .u8 (.ofNat cc))/\∃cI:Nat,iJ Tryz.prog 5 3 (.int .u8 (.ofNat cc)) h=iX.val (.int .i64 (.ofNat cI)) h/\∃dr:Nat,arith .rem .i64 (.ofNat cI) (.ofNat n)=some (.int .i64 (.ofNat dr))/\∃en:Nat,∃eH:Nat,∃fX:Nat,∃a9:b3,au h c (0+0)=some (.slice en eH fX a9)/\∃v2:I,de Tryz.prog h 27 (.slice en eH fX a9) (some (.int .i64 (.ofNat 1))) none none=some v2/\I.cQ v2=true/\∃aj:J,aM.storeCells h c (0+0) [v2]=some aj/\R (.ret (.int .i64 (.ofNat dr)) aj))):
  R (Y (m+1) (.fn 48) [.ptr c 0,.int .i64 (.ofNat n)] h):=
 dJ (intr:=b1) [(15,.bC .fS),(25,.bC .fS)] [(0,.v (.ptr c 0)),(1,.v (.int .i64 (.ofNat n)))] Tryz.func48 (by kernel_rfl) (by kernel_rfl) (by kernel_rfl) rfl (Eq.mp (by kernel_rfl) H)
theorem X1(m:Nat)(b:Nat)(off:Nat)(N:Nat)(cp:b3)(h:J){R:av->Prop}(H:a4 Tryz.prog Tryz.f75 (Y m) [1,0,1,0] (ah.mk [(0,.slice b off N cp),(3,.int .i64 (.ofNat 0))] [] .none h) (λcd ct=>((∃aj:J,∃bB:Env,cd=.exit 0/\ct=ah.mk bB [] .none aj/\cl [] bB/\R (.ret (.bool true) aj))\/(∃ax:J,∃b2:Env,cd=.ret/\ct=ah.mk b2 [] .none ax/\cl [(2,.bool false)] b2/\R (.ret (.bool false) ax))))):
  R (Y (m+1) (.fn 75) [.slice b off N cp] h):=
 dJ (intr:=b1) [(4000,.g2 [0,3] [(.exit 0,[]),(.ret,[(2,.is (.bool false))])])] [(0,.v (.slice b off N cp))] Tryz.func75 (by kernel_rfl) (by kernel_rfl) (by kernel_rfl) rfl (Eq.mp (by kernel_rfl) H)
theorem X2(call:aI->List I->J->av)(b:Nat)(off:Nat)(N:Nat)(i:Nat)(cp:b3)(h:J){Q:bn->ah->Prop}(H:(i<N->i<N/\∃aD:Nat,au h b (off+i*1)=some (.ptr aD 0)/\∃bm:Nat,∃aj:J,call (.fn 28) [.ptr aD 0] h=.ret (.int .i64 (.ofNat bm)) aj/\(bm=0->i+1<9223372036854775808/\Q .nrm (ah.mk [(0,.slice b off N cp),(3,.int .i64 (.ofNat (i+1)))] [] .none aj))/\(¬bm=0->Q .ret (ah.mk [(0,.slice b off N cp),(2,.bool false),(3,.int .i64 (.ofNat i))] [] .none aj)))/\(¬i<N->Q (.exit 0) (ah.mk [(0,.slice b off N cp),(3,.int .i64 (.ofNat i))] [] .none h))):
  a4 Tryz.prog Tryz.f75 call [1,0,1,0,0] ⟨[(0,.slice b off N cp),(3,.int .i64 (.ofNat i))],[],.none,h⟩ Q:=
 dI [] [0,2,3] [(0,.v (.slice b off N cp)),(3,.v (.int .i64 (.ofNat i)))] rfl (Eq.mp (by kernel_rfl) H)
theorem X3(m:Nat)(r:Nat)(h:J){R:av->Prop}(H:∃aD:Nat,∃aj:J,(Y m) (.fn 52) [.ptr r 0] h=.ret (.int .i64 (.ofNat aD)) aj/\(60<aD->R (.ret (.aP [.bb,.int .i64 (.ofNat 3)]) aj))/\(¬60<aD->R (.ret (.aP [.ptr r 0,.int .i64 (.ofNat 0)]) aj))):
  R (Y (m+1) (.fn 78) [.ptr r 0] h):=
 dJ (intr:=b1) [] [(0,.v (.ptr r 0))] Tryz.func78 (by kernel_rfl) (by kernel_rfl) (by kernel_rfl) rfl (Eq.mp (by kernel_rfl) H)
theorem X4(m:Nat)(nb:Nat)(N:Nat)(b:Nat)(nc:b3)(cp:b3)(h:J){R:av->Prop}(H:(N=N->∃bt:Bool,∃aj:J,(Y m) (.fn 75) [.slice b 0 N cp] h=.ret (.bool bt) aj/\bt=true/\a4 Tryz.prog Tryz.f49 (Y m) [1,1,1,0,1,0] (ah.mk [(0,.slice nb 0 N nc),(1,.slice b 0 N cp),(6,.ptr aj.n 0),(7,.int .i64 (.ofNat 0))] [] .none (J.push aj (.cells [.int .i64 (.ofNat 7),.str [],.a0,.a0,.bb] 80 .own 0 0))) (λcd ct=>∃aD:Nat,∃ax:J,∃bB:Env,cd=.exit 0/\ct=ah.mk bB [] .none ax/\cl [(6,.ptr aD 0)] bB/\∃v1:I,∃bm:Nat,∃aC:J,(Y m) (.fn 78) [.ptr aD 0] ax=.ret (.aP [v1,.int .i64 (.ofNat bm)]) aC/\R (.ret (.aP [v1,.int .i64 (.ofNat bm)]) aC)))/\(¬N=N->R (.ret (.aP [.bb,.int .i64 (.ofNat 2)]) h))):
  R (Y (m+1) (.fn 49) [.slice nb 0 N nc,.slice b 0 N cp] h):=
 dJ (intr:=b1) [(1020,.f),(132,.bC (.fG [.o,.n .i64])),(4000,.g2 [0,1,6,7] [(.exit 0,[(6,.p)])])] [(0,.v (.slice nb 0 N nc)),(1,.v (.slice b 0 N cp))] Tryz.func49 (by kernel_rfl) (by kernel_rfl) (by kernel_rfl) rfl (Eq.mp (by kernel_rfl) H)
theorem X5(call:aI->List I->J->av)(nb:Nat)(N:Nat)(b:Nat)(R:Nat)(i:Nat)(nc:b3)(cp:b3)(h:J){Q:bn->ah->Prop}(H:(i<N->i<N/\∃s1:List UInt8,au h nb (0+i*1)=some (.str s1)/\∃bt:Bool,∃aj:J,call (.fn 76) [.str s1] h=.ret (.bool bt) aj/\bt=true/\a4 Tryz.prog Tryz.f49 call [1,1,1,0,1,0,0,1,0,0,1,1,0,0] (ah.mk [(0,.slice nb 0 N nc),(1,.slice b 0 N cp),(6,.ptr R 0),(7,.int .i64 (.ofNat i)),(8,.int .i64 (.ofNat 0))] [] .none aj) (λcd ct=>∃aD:Nat,∃ax:J,∃bB:Env,cd=.exit 2/\ct=ah.mk bB [] .none ax/\cl [(0,.slice nb 0 N nc),(1,.slice b 0 N cp),(6,.ptr R 0),(7,.int .i64 (.ofNat i)),(8,.int .i64 (.ofNat aD))] bB/\∃v1:I,au (ax.room 21) R (0+2)=some v1/\∃bm:Nat,b9 Tryz.prog (ax.room 21) 63 v1=some (.int .i64 (.ofNat bm))/\¬aD<bm/\I.sound v1=true/\∃v2:I,au (ax.room 21) R (0+2)=some v2/\∃c4:I,de Tryz.prog (ax.room 21) 63 v2 none (some (.int .i64 (.ofNat aD))) none=some c4/\∃v4:I,∃aC:J,dy Tryz.prog (ax.room 21) 63 (some 63) .a0 c4=some (v4,aC)/\i<N/\∃s2:List UInt8,au aC nb (0+i*1)=some (.str s2)/\∃fl:I,∃bK:J,dy Tryz.prog (J.push aC (.cells [.str s2] 9 .own 0 0)) 63 (some 63) v4 (.slice aC.n 0 1 (.exact 1))=some (fl,bK)/\∃v6:I,au bK R (0+2)=some v6/\∃hT:I,de Tryz.prog bK 63 v6 (some (.int .i64 (.ofNat aD))) none none=some hT/\∃hk:I,∃bW:J,dy Tryz.prog bK 63 (some 63) fl hT=some (hk,bW)/\I.cQ hk=true/\∃dZ:J,aM.storeCells bW R (0+2) [hk]=some dZ/\∃r5:I,au dZ R (0+3)=some r5/\∃v10:I,de Tryz.prog dZ 50 r5 none (some (.int .i64 (.ofNat aD))) none=some v10/\∃v11:I,∃eQ:J,dy Tryz.prog dZ 50 (some 50) .a0 v10=some (v11,eQ)/\i<N/\∃bG:Nat,au eQ b (0+i*1)=some (.ptr bG 0)/\∃Mq:I,∃fT:J,dy Tryz.prog (J.push eQ (.cells [.ptr bG 0] 35 .own 0 0)) 50 (some 50) v11 (.slice eQ.n 0 1 (.exact 1))=some (Mq,fT)/\∃Mr:I,au fT R (0+3)=some Mr/\∃Ms:I,de Tryz.prog fT 50 Mr (some (.int .i64 (.ofNat aD))) none none=some Ms/\∃FX:I,∃jz:J,dy Tryz.prog fT 50 (some 50) Mq Ms=some (FX,jz)/\I.cQ FX=true/\∃l7:J,aM.storeCells jz R (0+3) [FX]=some l7/\i+1<9223372036854775808/\Q .nrm (ah.mk [(0,.slice nb 0 N nc),(1,.slice b 0 N cp),(6,.ptr R 0),(7,.int .i64 (.ofNat (i+1)))] [] .none l7)))/\(¬i<N->Q (.exit 0) (ah.mk [(0,.slice nb 0 N nc),(1,.slice b 0 N cp),(6,.ptr R 0),(7,.int .i64 (.ofNat i))] [] .none h))):
  a4 Tryz.prog Tryz.f49 call [1,1,1,0,1,0,0] ⟨[(0,.slice nb 0 N nc),(1,.slice b 0 N cp),(6,.ptr R 0),(7,.int .i64 (.ofNat i))],[],.none,h⟩ Q:=
 dI [(1034,.f),(1078,.f),(1066,.f),(4002,.g2 [0,1,6,7,8] [(.exit 2,[(0,.is (.slice nb 0 N nc)),(1,.is (.slice b 0 N cp)),(6,.is (.ptr R 0)),(7,.is (.int .i64 (.ofNat i))),(8,.n .i64)])])] [0,1,6,7] [(0,.v (.slice nb 0 N nc)),(1,.v (.slice b 0 N cp)),(6,.v (.ptr R 0)),(7,.v (.int .i64 (.ofNat i)))] rfl (Eq.mp (by kernel_rfl) H)
theorem X6(call:aI->List I->J->av)(nb:Nat)(N:Nat)(b:Nat)(R:Nat)(i:Nat)(j:Nat)(nc:b3)(cp:b3)(h:J){Q:bn->ah->Prop}(H:∃v1:I,au (h.room 21) R (0+2)=some v1/\∃aD:Nat,b9 Tryz.prog (h.room 21) 63 v1=some (.int .i64 (.ofNat aD))/\(j<aD->∃bm:Nat,∃bG:Nat,∃bV:Nat,∃aG:b3,au (h.room 21) R (0+2)=some (.slice bm bG bV aG)/\j<bV/\∃s1:List UInt8,au (h.room 21) bm (bG+j*1)=some (.str s1)/\i<N/\∃s2:List UInt8,au (h.room 21) nb (0+i*1)=some (.str s2)/\∃bt:Bool,∃aj:J,call (.fn 77) [.str s1,.str s2] (h.room 21)=.ret (.bool bt) aj/\I.sound v1=true/\(bt=true->j+1<9223372036854775808/\Q .nrm (ah.mk [(0,.slice nb 0 N nc),(1,.slice b 0 N cp),(6,.ptr R 0),(7,.int .i64 (.ofNat i)),(8,.int .i64 (.ofNat (j+1)))] [] .none aj))/\(bt=false->Q (.exit 2) (ah.mk [(0,.slice nb 0 N nc),(1,.slice b 0 N cp),(6,.ptr R 0),(7,.int .i64 (.ofNat i)),(8,.int .i64 (.ofNat j))] [] .none aj)))/\(¬j<aD->I.sound v1=true/\Q (.exit 2) (ah.mk [(0,.slice nb 0 N nc),(1,.slice b 0 N cp),(6,.ptr R 0),(7,.int .i64 (.ofNat i)),(8,.int .i64 (.ofNat j))] [] .none (h.room 21)))):
  a4 Tryz.prog Tryz.f49 call [1,1,1,0,1,0,0,1,0,0,1,1,0,0,0] ⟨[(0,.slice nb 0 N nc),(1,.slice b 0 N cp),(6,.ptr R 0),(7,.int .i64 (.ofNat i)),(8,.int .i64 (.ofNat j))],[],.none,h⟩ Q:=
 dI [(46,.bC .fS)] [0,1,6,7,8] [(0,.v (.slice nb 0 N nc)),(1,.v (.slice b 0 N cp)),(6,.v (.ptr R 0)),(7,.v (.int .i64 (.ofNat i))),(8,.v (.int .i64 (.ofNat j)))] rfl (Eq.mp (by kernel_rfl) H)
theorem X7(m:Nat)(b:Nat)(off:Nat)(N:Nat)(r:Nat)(cp:b3)(h:J){R:av->Prop}(H:∃bt:Bool,∃aj:J,(Y m) (.fn 75) [.slice b off N cp] h=.ret (.bool bt) aj/\(bt=true->∃aD:Nat,∃ax:J,(Y m) (.fn 28) [.ptr r 0] aj=.ret (.int .i64 (.ofNat aD)) ax/\aD=0/\∃v1:I,au (J.push ax (.cells [.int .i64 (.ofNat 8),.str [],.a0,.a0,.ptr r 0] 80 .own 0 0)) ax.n (0+3)=some v1/\∃v2:I,∃aC:J,dy Tryz.prog (J.push ax (.cells [.int .i64 (.ofNat 8),.str [],.a0,.a0,.ptr r 0] 80 .own 0 0)) 50 (some 50) v1 (.slice b off N cp)=some (v2,aC)/\I.cQ v2=true/\∃bK:J,aM.storeCells aC ax.n (0+3) [v2]=some bK/\∃c4:I,∃bm:Nat,∃bW:J,(Y m) (.fn 78) [.ptr ax.n 0] bK=.ret (.aP [c4,.int .i64 (.ofNat bm)]) bW/\R (.ret (.aP [c4,.int .i64 (.ofNat bm)]) bW))/\(bt=false->R (.ret (.aP [.bb,.int .i64 (.ofNat 2)]) aj))):
  R (Y (m+1) (.fn 50) [.slice b off N cp,.ptr r 0] h):=
 dJ (intr:=b1) [(1014,.f),(28,.bC (.fG [.o,.n .i64]))] [(0,.v (.slice b off N cp)),(1,.v (.ptr r 0))] Tryz.func50 (by kernel_rfl) (by kernel_rfl) (by kernel_rfl) rfl (Eq.mp (by kernel_rfl) H)
theorem X8(m:Nat)(b:Nat)(off:Nat)(N:Nat)(cp:b3)(h:J){R:av->Prop}(H:(N=0->R (.ret (.aP [.bb,.int .i64 (.ofNat 2)]) h))/\(¬N=0->∃bt:Bool,∃aj:J,(Y m) (.fn 75) [.slice b off N cp] h=.ret (.bool bt) aj/\bt=true/\a4 Tryz.prog Tryz.f51 (Y m) [1,1,1,0,1,0] (ah.mk [(0,.slice b off N cp),(4,.a0),(5,.int .i64 (.ofNat 0))] [] .none aj) (λcd ct=>((∃aD:Nat,∃bm:Nat,∃bG:Nat,∃aG:b3,∃ax:J,∃bB:Env,cd=.exit 0/\ct=ah.mk bB [] .none ax/\cl [(4,.slice aD bm bG aG)] bB/\a4 Tryz.prog Tryz.f51 (Y m) [1,1,1,1,1,0,1,0] (ah.mk [(4,.slice aD bm bG aG),(6,.a0),(7,.int .i64 (.ofNat 0))] [] .none ax) (λcd ct=>∃bV:Nat,∃cc:Nat,∃cI:Nat,∃a9:b3,∃aC:J,∃b2:Env,cd=.exit 2/\ct=ah.mk b2 [] .none aC/\cl [(6,.slice bV cc cI a9)] b2/\(cI=1->0<cI/\∃dr:Nat,au aC bV (cc+0*1)=some (.ptr dr 0)/\R (.ret (.aP [.ptr dr 0,.int .i64 (.ofNat 0)]) aC))/\(¬cI=1->∃v1:I,∃en:Nat,∃bK:J,(Y m) (.fn 78) [.ptr aC.n 0] (J.push aC (.cells [.int .i64 (.ofNat 9),.str [],.a0,.slice bV cc cI a9,.bb] 80 .own 0 0))=.ret (.aP [v1,.int .i64 (.ofNat en)]) bK/\R (.ret (.aP [v1,.int .i64 (.ofNat en)]) bK))))\/(∃eH:Nat,∃bW:J,∃dq:Env,cd=.ret/\ct=ah.mk dq [] .none bW/\cl [(2,.ptr eH 0),(3,.int .i64 (.ofNat 0))] dq/\R (.ret (.aP [.ptr eH 0,.int .i64 (.ofNat 0)]) bW)))))):
  R (Y (m+1) (.fn 51) [.slice b off N cp] h):=
 dJ (intr:=b1) [(1017,.f),(4000,.g2 [0,4,5] [(.exit 0,[(4,.fS)]),(.ret,[(2,.p),(3,.is (.int .i64 (.ofNat 0)))])]),(4002,.g2 [4,6,7] [(.exit 2,[(6,.fS)])]),(126,.bC (.fG [.o,.n .i64]))] [(0,.v (.slice b off N cp))] Tryz.func51 (by kernel_rfl) (by kernel_rfl) (by kernel_rfl) rfl (Eq.mp (by kernel_rfl) H)
theorem X9(call:aI->List I->J->av)(b:Nat)(off:Nat)(N:Nat)(i:Nat)(cp:b3)(w:I)(h:J){Q:bn->ah->Prop}(H:(i<N->i<N/\∃aD:Nat,au h b (off+i*1)=some (.ptr aD 0)/\∃bm:Nat,au h aD (0+0)=some (.int .i64 (.ofNat bm))/\(bm=1->Q .ret (ah.mk [(0,.slice b off N cp),(2,.ptr h.n 0),(3,.int .i64 (.ofNat 0)),(4,w),(5,.int .i64 (.ofNat i))] [] .none (J.push h (.cells [.int .i64 (.ofNat 1),.str [],.a0,.a0,.bb] 80 .own 0 0))))/\(¬bm=1->i<N/\∃bG:Nat,au h b (off+i*1)=some (.ptr bG 0)/\∃bV:Nat,au h bG (0+0)=some (.int .i64 (.ofNat bV))/\(bV=9->i<N/\∃cc:Nat,au h b (off+i*1)=some (.ptr cc 0)/\∃v1:I,au h cc (0+3)=some v1/\∃v2:I,∃aj:J,dy Tryz.prog h 50 (some 50) w v1=some (v2,aj)/\i+1<9223372036854775808/\Q .nrm (ah.mk [(0,.slice b off N cp),(4,v2),(5,.int .i64 (.ofNat (i+1)))] [] .none aj))/\(¬bV=9->i<N/\∃cI:Nat,au h b (off+i*1)=some (.ptr cI 0)/\∃c4:I,∃ax:J,dy Tryz.prog (J.push h (.cells [.ptr cI 0] 35 .own 0 0)) 50 (some 50) w (.slice h.n 0 1 (.exact 1))=some (c4,ax)/\i+1<9223372036854775808/\Q .nrm (ah.mk [(0,.slice b off N cp),(4,c4),(5,.int .i64 (.ofNat (i+1)))] [] .none ax))))/\(¬i<N->Q (.exit 0) (ah.mk [(0,.slice b off N cp),(4,w),(5,.int .i64 (.ofNat i))] [] .none h))):
  a4 Tryz.prog Tryz.f51 call [1,1,1,0,1,0,0] ⟨[(0,.slice b off N cp),(4,w),(5,.int .i64 (.ofNat i))],[],.none,h⟩ Q:=
 dI [] [0,2,3,4,5] [(0,.v (.slice b off N cp)),(4,.o w),(5,.v (.int .i64 (.ofNat i)))] rfl (Eq.mp (by kernel_rfl) H)
theorem X_(call:aI->List I->J->av)(b:Nat)(N:Nat)(cq:Nat)(M:Nat)(i:Nat)(cp:b3)(fD:b3)(h:J){Q:bn->ah->Prop}(H:(i<N->a4 Tryz.prog Tryz.f51 call [1,1,1,1,1,0,1,0,0,1,0,0,1,0,0] (ah.mk [(4,.slice b 0 N cp),(6,.slice cq 0 M fD),(7,.int .i64 (.ofNat i)),(8,.int .i64 (.ofNat 0))] [] .none h) (λcd ct=>∃aD:Nat,∃aj:J,∃bB:Env,cd=.exit 4/\ct=ah.mk bB [] .none aj/\cl [(4,.slice b 0 N cp),(6,.slice cq 0 M fD),(7,.int .i64 (.ofNat i)),(8,.int .i64 (.ofNat aD))] bB/\(aD<M->aD<M/\∃bm:Nat,au (aj.room 17) cq (0+aD*1)=some (.ptr bm 0)/\∃s1:List UInt8,∃ax:J,call (.fn 79) [.ptr bm 0] (aj.room 17)=.ret (.str s1) ax/\i<N/\∃bG:Nat,au ax b (0+i*1)=some (.ptr bG 0)/\∃s2:List UInt8,∃aC:J,call (.fn 79) [.ptr bG 0] ax=.ret (.str s2) aC/\au (aj.room 17) b (0+i*1)=some (.ptr bG 0)/\(dF s1 s2=true->i+1<9223372036854775808/\Q .nrm (ah.mk [(4,.slice b 0 N cp),(6,.slice cq 0 M fD),(7,.int .i64 (.ofNat (i+1)))] [] .none aC))/\(dF s1 s2=false->∃v1:I,de Tryz.prog aC 50 (.slice cq 0 M fD) none (some (.int .i64 (.ofNat aD))) none=some v1/\∃v2:I,∃bK:J,dy Tryz.prog aC 50 (some 50) .a0 v1=some (v2,bK)/\i<N/\∃bV:Nat,au bK b (0+i*1)=some (.ptr bV 0)/\∃c4:I,∃bW:J,dy Tryz.prog (J.push bK (.cells [.ptr bV 0] 35 .own 0 0)) 50 (some 50) v2 (.slice bK.n 0 1 (.exact 1))=some (c4,bW)/\∃v4:I,de Tryz.prog bW 50 (.slice cq 0 M fD) (some (.int .i64 (.ofNat aD))) none none=some v4/\∃fl:I,∃dZ:J,dy Tryz.prog bW 50 (some 50) c4 v4=some (fl,dZ)/\i+1<9223372036854775808/\Q .nrm (ah.mk [(4,.slice b 0 N cp),(6,fl),(7,.int .i64 (.ofNat (i+1)))] [] .none dZ)))/\(¬aD<M->∃v6:I,de Tryz.prog (aj.room 17) 50 (.slice cq 0 M fD) none (some (.int .i64 (.ofNat aD))) none=some v6/\∃hT:I,∃eQ:J,dy Tryz.prog (aj.room 17) 50 (some 50) .a0 v6=some (hT,eQ)/\i<N/\∃cc:Nat,au eQ b (0+i*1)=some (.ptr cc 0)/\∃hk:I,∃fT:J,dy Tryz.prog (J.push eQ (.cells [.ptr cc 0] 35 .own 0 0)) 50 (some 50) hT (.slice eQ.n 0 1 (.exact 1))=some (hk,fT)/\∃r5:I,de Tryz.prog fT 50 (.slice cq 0 M fD) (some (.int .i64 (.ofNat aD))) none none=some r5/\∃v10:I,∃jz:J,dy Tryz.prog fT 50 (some 50) hk r5=some (v10,jz)/\i+1<9223372036854775808/\Q .nrm (ah.mk [(4,.slice b 0 N cp),(6,v10),(7,.int .i64 (.ofNat (i+1)))] [] .none jz))))/\(¬i<N->Q (.exit 2) (ah.mk [(4,.slice b 0 N cp),(6,.slice cq 0 M fD),(7,.int .i64 (.ofNat i))] [] .none h))):
  a4 Tryz.prog Tryz.f51 call [1,1,1,1,1,0,1,0,0] ⟨[(4,.slice b 0 N cp),(6,.slice cq 0 M fD),(7,.int .i64 (.ofNat i))],[],.none,h⟩ Q:=
 dI [(4004,.g2 [4,6,7,8] [(.exit 4,[(4,.is (.slice b 0 N cp)),(6,.is (.slice cq 0 M fD)),(7,.is (.int .i64 (.ofNat i))),(8,.n .i64)])])] [4,6,7] [(4,.v (.slice b 0 N cp)),(6,.v (.slice cq 0 M fD)),(7,.v (.int .i64 (.ofNat i)))] rfl (Eq.mp (by kernel_rfl) H)
theorem Ya(call:aI->List I->J->av)(b:Nat)(N:Nat)(i:Nat)(cp:b3)(h:J){Q:bn->ah->Prop}(H:(i<N->a4 Tryz.prog Tryz.f51 call [1,1,1,1,1,0,1,0,0,1,0,0,1,0,0] (ah.mk [(4,.slice b 0 N cp),(6,.a0),(7,.int .i64 (.ofNat i)),(8,.int .i64 (.ofNat 0))] [] .none h) (λcd ct=>∃aD:Nat,∃aj:J,∃bB:Env,cd=.exit 4/\ct=ah.mk bB [] .none aj/\cl [(4,.slice b 0 N cp),(6,.a0),(7,.int .i64 (.ofNat i)),(8,.int .i64 (.ofNat aD))] bB/\¬aD<0/\∃v1:I,de Tryz.prog (aj.room 17) 50 .a0 none (some (.int .i64 (.ofNat aD))) none=some v1/\∃v2:I,∃ax:J,dy Tryz.prog (aj.room 17) 50 (some 50) .a0 v1=some (v2,ax)/\i<N/\∃bm:Nat,au ax b (0+i*1)=some (.ptr bm 0)/\∃c4:I,∃aC:J,dy Tryz.prog (J.push ax (.cells [.ptr bm 0] 35 .own 0 0)) 50 (some 50) v2 (.slice ax.n 0 1 (.exact 1))=some (c4,aC)/\∃v4:I,de Tryz.prog aC 50 .a0 (some (.int .i64 (.ofNat aD))) none none=some v4/\∃fl:I,∃bK:J,dy Tryz.prog aC 50 (some 50) c4 v4=some (fl,bK)/\i+1<9223372036854775808/\Q .nrm (ah.mk [(4,.slice b 0 N cp),(6,fl),(7,.int .i64 (.ofNat (i+1)))] [] .none bK)))/\(¬i<N->Q (.exit 2) (ah.mk [(4,.slice b 0 N cp),(6,.a0),(7,.int .i64 (.ofNat i))] [] .none h))):
  a4 Tryz.prog Tryz.f51 call [1,1,1,1,1,0,1,0,0] ⟨[(4,.slice b 0 N cp),(6,.a0),(7,.int .i64 (.ofNat i))],[],.none,h⟩ Q:=
 dI [(1088,.f),(4004,.g2 [4,6,7,8] [(.exit 4,[(4,.is (.slice b 0 N cp)),(6,.is .a0),(7,.is (.int .i64 (.ofNat i))),(8,.n .i64)])])] [4,6,7] [(4,.v (.slice b 0 N cp)),(6,.v .a0),(7,.v (.int .i64 (.ofNat i)))] rfl (Eq.mp (by kernel_rfl) H)
theorem Yb(call:aI->List I->J->av)(b:Nat)(N:Nat)(cq:Nat)(M:Nat)(i:Nat)(j:Nat)(cp:b3)(fD:b3)(h:J){Q:bn->ah->Prop}(H:(j<M->j<M/\∃aD:Nat,au (h.room 17) cq (0+j*1)=some (.ptr aD 0)/\∃s1:List UInt8,∃aj:J,call (.fn 79) [.ptr aD 0] (h.room 17)=.ret (.str s1) aj/\i<N/\∃bm:Nat,au aj b (0+i*1)=some (.ptr bm 0)/\∃s2:List UInt8,∃ax:J,call (.fn 79) [.ptr bm 0] aj=.ret (.str s2) ax/\∃bt:Bool,∃aC:J,call (.fn 77) [.str s1,.str s2] ax=.ret (.bool bt) aC/\au (h.room 17) b (0+i*1)=some (.ptr bm 0)/\(bt=true->j+1<9223372036854775808/\Q .nrm (ah.mk [(4,.slice b 0 N cp),(6,.slice cq 0 M fD),(7,.int .i64 (.ofNat i)),(8,.int .i64 (.ofNat (j+1)))] [] .none aC))/\(bt=false->Q (.exit 4) (ah.mk [(4,.slice b 0 N cp),(6,.slice cq 0 M fD),(7,.int .i64 (.ofNat i)),(8,.int .i64 (.ofNat j))] [] .none aC)))/\(¬j<M->Q (.exit 4) (ah.mk [(4,.slice b 0 N cp),(6,.slice cq 0 M fD),(7,.int .i64 (.ofNat i)),(8,.int .i64 (.ofNat j))] [] .none (h.room 17)))):
  a4 Tryz.prog Tryz.f51 call [1,1,1,1,1,0,1,0,0,1,0,0,1,0,0,0] ⟨[(4,.slice b 0 N cp),(6,.slice cq 0 M fD),(7,.int .i64 (.ofNat i)),(8,.int .i64 (.ofNat j))],[],.none,h⟩ Q:=
 dI [] [4,6,7,8] [(4,.v (.slice b 0 N cp)),(6,.v (.slice cq 0 M fD)),(7,.v (.int .i64 (.ofNat i))),(8,.v (.int .i64 (.ofNat j)))] rfl (Eq.mp (by kernel_rfl) H)
theorem Yc(call:aI->List I->J->av)(b:Nat)(N:Nat)(i:Nat)(cp:b3)(h:J){Q:bn->ah->Prop}(H:¬0<0/\Q (.exit 4) (ah.mk [(4,.slice b 0 N cp),(6,.a0),(7,.int .i64 (.ofNat i)),(8,.int .i64 (.ofNat 0))] [] .none (h.room 17))):
  a4 Tryz.prog Tryz.f51 call [1,1,1,1,1,0,1,0,0,1,0,0,1,0,0,0] ⟨[(4,.slice b 0 N cp),(6,.a0),(7,.int .i64 (.ofNat i)),(8,.int .i64 (.ofNat 0))],[],.none,h⟩ Q:=
 dI [(1069,.f)] [4,6,7,8] [(4,.v (.slice b 0 N cp)),(6,.v .a0),(7,.v (.int .i64 (.ofNat i))),(8,.v (.int .i64 (.ofNat 0)))] rfl (Eq.mp (by kernel_rfl) H)
theorem Mt(call:aI->List I->J->av)(c:Nat)(d:Nat)(h:J){Q:bn->ah->Prop}(H:∃aD:Nat,au h c (0+1)=some (.int .i64 (.ofNat aD))/\aD+1<9223372036854775808/\∃aj:J,aM.storeCells h c (0+1) [.int .i64 (.ofNat (aD+1))]=some aj/\Q .nrm (ah.mk [(0,.ptr c 0),(1,.int .i64 (.ofNat d))] [] .none aj)):
  a4 Tryz.prog Tryz.f27 call [1,0] ⟨[(0,.ptr c 0),(1,.int .i64 (.ofNat d))],[],.none,h⟩ Q:=
 dI [] [0,1] [(0,.v (.ptr c 0)),(1,.v (.int .i64 (.ofNat d)))] rfl (Eq.mp (by kernel_rfl) H)
theorem Mu(call:aI->List I->J->av)(c:Nat)(d:Nat)(h:J){Q:bn->ah->Prop}(H:∃aD:Nat,∃aj:J,call (.fn 48) [.ptr c 0,.int .i64 (.ofNat 9)] h=.ret (.int .i64 (.ofNat aD)) aj/\1+aD<9223372036854775808/\Q .nrm (ah.mk [(0,.ptr c 0),(1,.int .i64 (.ofNat d)),(5,.int .i64 (.ofNat (1+aD)))] [] .none aj)):
  a4 Tryz.prog Tryz.f27 call [1,1,0] ⟨[(0,.ptr c 0),(1,.int .i64 (.ofNat d))],[],.none,h⟩ Q:=
 dI [] [0,1,5] [(0,.v (.ptr c 0)),(1,.v (.int .i64 (.ofNat d)))] rfl (Eq.mp (by kernel_rfl) H)
theorem Mv(call:aI->List I->J->av)(c:Nat)(d:Nat)(k:Nat)(h:J){Q:bn->ah->Prop}(H:(d<1->∃aD:Nat,∃aj:J,call (.fn 48) [.ptr c 0,.int .i64 (.ofNat 5)] h=.ret (.int .i64 (.ofNat aD)) aj/\1+aD<9223372036854775808/\Q .nrm (ah.mk [(0,.ptr c 0),(1,.int .i64 (.ofNat d)),(5,.int .i64 (.ofNat (1+aD)))] [] .none aj))/\(¬d<1->∃bm:Nat,au h c (0+1)=some (.int .i64 (.ofNat bm))/\(40<bm->∃bG:Nat,∃ax:J,call (.fn 48) [.ptr c 0,.int .i64 (.ofNat 5)] h=.ret (.int .i64 (.ofNat bG)) ax/\1+bG<9223372036854775808/\Q .nrm (ah.mk [(0,.ptr c 0),(1,.int .i64 (.ofNat d)),(5,.int .i64 (.ofNat (1+bG)))] [] .none ax))/\(¬40<bm->Q .nrm (ah.mk [(0,.ptr c 0),(1,.int .i64 (.ofNat d)),(5,.int .i64 (.ofNat k))] [] .none h)))):
  a4 Tryz.prog Tryz.f27 call [1,1,1,0] ⟨[(0,.ptr c 0),(1,.int .i64 (.ofNat d)),(5,.int .i64 (.ofNat k))],[],.none,h⟩ Q:=
 dI [] [0,1,5] [(0,.v (.ptr c 0)),(1,.v (.int .i64 (.ofNat d))),(5,.v (.int .i64 (.ofNat k)))] rfl (Eq.mp (by kernel_rfl) H)
theorem Yd(call:aI->List I->J->av)(c:Nat)(d:Nat)(k:Nat)(h:J){Q:bn->ah->Prop}(H:∃aD:Nat,∃aj:J,call (.fn 48) [.ptr c 0,.int .i64 (.ofNat 3)] (J.push h (.cells [.int .i64 (.ofNat k),.str [],.a0,.a0,.bb] 80 .own 0 0))=.ret (.int .i64 (.ofNat aD)) aj/\aD+1<9223372036854775808/\a4 Tryz.prog Tryz.f27 call [1,1,1,1,1,1,0,1,0] (ah.mk [(0,.ptr c 0),(1,.int .i64 (.ofNat d)),(5,.int .i64 (.ofNat k)),(6,.ptr h.n 0),(7,.a0),(8,.int .i64 (.ofNat (aD+1)))] [] .none aj) (λcd ct=>∃bm:Nat,∃ax:J,∃bB:Env,cd=.exit 0/\ct=ah.mk bB [] .none ax/\cl [(0,.ptr c 0),(5,.int .i64 (.ofNat k)),(6,.ptr bm 0),(7,.a0)] bB/\(k=6->∃bG:Nat,∃aC:J,call (.fn 48) [.ptr c 0,.int .i64 (.ofNat 2)] (J.push (J.push ax (.cells [.str [97],.str [98],.str [99]] 9 .own 0 0)) (.cells [.str [109,46,84],.str [109,46,85]] 9 .own 0 0))=.ret (.int .i64 (.ofNat bG)) aC/\bG<2/\∃s1:List UInt8,au aC (J.n (J.push ax (.cells [.str [97],.str [98],.str [99]] 9 .own 0 0))) (0+bG*1)=some (.str s1)/\∃bK:J,aM.storeCells aC bm (0+1) [.str s1]=some bK/\(0=0->Q .ret (ah.mk [(4,.ptr bm 0)] [] .none bK))/\(¬0=0->Q .ret (ah.mk [(4,.ptr bK.n 0)] [] .none (J.push bK (.cells [.int .i64 (.ofNat 2),.str [],.a0,.a0,.bb] 80 .own 0 0)))))/\(¬k=6->¬k=7/\¬k=8/\¬k=9/\(0=0->Q .ret (ah.mk [(4,.ptr bm 0)] [] .none (J.push ax (.cells [.str [97],.str [98],.str [99]] 9 .own 0 0))))/\(¬0=0->Q .ret (ah.mk [(4,.ptr (J.n (J.push ax (.cells [.str [97],.str [98],.str [99]] 9 .own 0 0))) 0)] [] .none (J.push (J.push ax (.cells [.str [97],.str [98],.str [99]] 9 .own 0 0)) (.cells [.int .i64 (.ofNat 2),.str [],.a0,.a0,.bb] 80 .own 0 0))))))):
  a4 Tryz.prog Tryz.f27 call [1,1,1,1] ⟨[(0,.ptr c 0),(1,.int .i64 (.ofNat d)),(5,.int .i64 (.ofNat k))],[],.none,h⟩ Q:=
 dI [(1066,.f),(1077,.f),(1088,.f),(74,.bC (.fG [.o,.n .i64])),(85,.bC (.fG [.o,.n .i64])),(92,.bC (.fG [.o,.n .i64])),(4000,.g2 [0,1,5,6,7,8] [(.exit 0,[(0,.is (.ptr c 0)),(5,.is (.int .i64 (.ofNat k))),(6,.p),(7,.is .a0)])])] [4] [(0,.v (.ptr c 0)),(1,.v (.int .i64 (.ofNat d))),(5,.v (.int .i64 (.ofNat k)))] rfl (Eq.mp (by kernel_rfl) H)
theorem Ye(call:aI->List I->J->av)(c:Nat)(d:Nat)(k:Nat)(h:J){Q:bn->ah->Prop}(H:∃aD:Nat,∃aj:J,call (.fn 48) [.ptr c 0,.int .i64 (.ofNat 3)] (J.push h (.cells [.int .i64 (.ofNat k),.str [],.a0,.a0,.bb] 80 .own 0 0))=.ret (.int .i64 (.ofNat aD)) aj/\aD+1<9223372036854775808/\a4 Tryz.prog Tryz.f27 call [1,1,1,1,1,1,0,1,0] (ah.mk [(0,.ptr c 0),(1,.int .i64 (.ofNat d)),(5,.int .i64 (.ofNat k)),(6,.ptr h.n 0),(7,.a0),(8,.int .i64 (.ofNat (aD+1)))] [] .none aj) (λcd ct=>∃bm:Nat,∃bG:Nat,∃bV:Nat,∃cc:Nat,∃aG:b3,∃ax:J,∃bB:Env,cd=.exit 0/\ct=ah.mk bB [] .none ax/\cl [(0,.ptr c 0),(5,.int .i64 (.ofNat k)),(6,.ptr bm 0),(7,.slice bG bV cc aG)] bB/\¬k=6/\(k=7->∃v1:I,de Tryz.prog (J.push ax (.cells [.str [97],.str [98],.str [99]] 9 .own 0 0)) 63 (.slice ax.n 0 3 (.exact 3)) none (some (.int .i64 (.ofNat cc))) none=some v1/\∃cI:Nat,∃aC:J,call (.fn 49) [v1,.slice bG bV cc aG] (J.push ax (.cells [.str [97],.str [98],.str [99]] 9 .own 0 0))=.ret (.aP [.ptr cI 0,.int .i64 (.ofNat 0)]) aC/\(0=0->Q .ret (ah.mk [(4,.ptr cI 0)] [] .none aC))/\(¬0=0->Q .ret (ah.mk [(4,.ptr aC.n 0)] [] .none (J.push aC (.cells [.int .i64 (.ofNat 2),.str [],.a0,.a0,.bb] 80 .own 0 0)))))/\(¬k=7->(k=8->∃v2:I,de Tryz.prog (J.room (J.push ax (.cells [.str [97],.str [98],.str [99]] 9 .own 0 0)) 11) 50 (.slice bG bV cc aG) (some (.int .i64 (.ofNat 1))) none none=some v2/\0<cc/\∃dr:Nat,au (J.room (J.push ax (.cells [.str [97],.str [98],.str [99]] 9 .own 0 0)) 11) bG (bV+0*1)=some (.ptr dr 0)/\∃en:Nat,∃bK:J,call (.fn 50) [v2,.ptr dr 0] (J.room (J.push ax (.cells [.str [97],.str [98],.str [99]] 9 .own 0 0)) 11)=.ret (.aP [.ptr en 0,.int .i64 (.ofNat 0)]) bK/\I.sound v2=true/\(0=0->Q .ret (ah.mk [(4,.ptr en 0)] [] .none bK))/\(¬0=0->Q .ret (ah.mk [(4,.ptr bK.n 0)] [] .none (J.push bK (.cells [.int .i64 (.ofNat 2),.str [],.a0,.a0,.bb] 80 .own 0 0)))))/\(¬k=8->(k=9->∃eH:Nat,∃bW:J,call (.fn 51) [.slice bG bV cc aG] (J.push ax (.cells [.str [97],.str [98],.str [99]] 9 .own 0 0))=.ret (.aP [.ptr eH 0,.int .i64 (.ofNat 0)]) bW/\(0=0->Q .ret (ah.mk [(4,.ptr eH 0)] [] .none bW))/\(¬0=0->Q .ret (ah.mk [(4,.ptr bW.n 0)] [] .none (J.push bW (.cells [.int .i64 (.ofNat 2),.str [],.a0,.a0,.bb] 80 .own 0 0)))))/\(¬k=9->(0=0->Q .ret (ah.mk [(4,.ptr bm 0)] [] .none (J.push ax (.cells [.str [97],.str [98],.str [99]] 9 .own 0 0))))/\(¬0=0->Q .ret (ah.mk [(4,.ptr (J.n (J.push ax (.cells [.str [97],.str [98],.str [99]] 9 .own 0 0))) 0)] [] .none (J.push (J.push ax (.cells [.str [97],.str [98],.str [99]] 9 .own 0 0)) (.cells [.int .i64 (.ofNat 2),.str [],.a0,.a0,.bb] 80 .own 0 0))))))))):
  a4 Tryz.prog Tryz.f27 call [1,1,1,1] ⟨[(0,.ptr c 0),(1,.int .i64 (.ofNat d)),(5,.int .i64 (.ofNat k))],[],.none,h⟩ Q:=
 dI [(1056,.f),(74,.bC (.fG [.p,.is (.int .i64 (.ofNat 0))])),(85,.bC (.fG [.p,.is (.int .i64 (.ofNat 0))])),(92,.bC (.fG [.p,.is (.int .i64 (.ofNat 0))])),(4000,.g2 [0,1,5,6,7,8] [(.exit 0,[(0,.is (.ptr c 0)),(5,.is (.int .i64 (.ofNat k))),(6,.p),(7,.fS)])])] [4] [(0,.v (.ptr c 0)),(1,.v (.int .i64 (.ofNat d))),(5,.v (.int .i64 (.ofNat k)))] rfl (Eq.mp (by kernel_rfl) H)
theorem Yf(call:aI->List I->J->av)(c:Nat)(d:Nat)(k:Nat)(h:J){Q:bn->ah->Prop}(H:∃aD:Nat,∃aj:J,call (.fn 48) [.ptr c 0,.int .i64 (.ofNat 3)] (J.push h (.cells [.int .i64 (.ofNat k),.str [],.a0,.a0,.bb] 80 .own 0 0))=.ret (.int .i64 (.ofNat aD)) aj/\aD+1<9223372036854775808/\a4 Tryz.prog Tryz.f27 call [1,1,1,1,1,1,0,1,0] (ah.mk [(0,.ptr c 0),(1,.int .i64 (.ofNat d)),(5,.int .i64 (.ofNat k)),(6,.ptr h.n 0),(7,.a0),(8,.int .i64 (.ofNat (aD+1)))] [] .none aj) (λcd ct=>∃bm:Nat,∃bG:Nat,∃bV:Nat,∃cc:Nat,∃aG:b3,∃ax:J,∃bB:Env,cd=.exit 0/\ct=ah.mk bB [] .none ax/\cl [(0,.ptr c 0),(5,.int .i64 (.ofNat k)),(6,.ptr bm 0),(7,.slice bG bV cc aG)] bB/\¬k=6/\(k=7->∃v1:I,de Tryz.prog (J.push ax (.cells [.str [97],.str [98],.str [99]] 9 .own 0 0)) 63 (.slice ax.n 0 3 (.exact 3)) none (some (.int .i64 (.ofNat cc))) none=some v1/\∃aC:J,call (.fn 49) [v1,.slice bG bV cc aG] (J.push ax (.cells [.str [97],.str [98],.str [99]] 9 .own 0 0))=.ret (.aP [.bb,.int .i64 (.ofNat 3)]) aC/\(3=0->Q .ret (ah.mk [(4,.bb)] [] .none aC))/\(¬3=0->Q .ret (ah.mk [(4,.ptr aC.n 0)] [] .none (J.push aC (.cells [.int .i64 (.ofNat 2),.str [],.a0,.a0,.bb] 80 .own 0 0)))))/\(¬k=7->(k=8->∃v2:I,de Tryz.prog (J.room (J.push ax (.cells [.str [97],.str [98],.str [99]] 9 .own 0 0)) 11) 50 (.slice bG bV cc aG) (some (.int .i64 (.ofNat 1))) none none=some v2/\0<cc/\∃cI:Nat,au (J.room (J.push ax (.cells [.str [97],.str [98],.str [99]] 9 .own 0 0)) 11) bG (bV+0*1)=some (.ptr cI 0)/\∃bK:J,call (.fn 50) [v2,.ptr cI 0] (J.room (J.push ax (.cells [.str [97],.str [98],.str [99]] 9 .own 0 0)) 11)=.ret (.aP [.bb,.int .i64 (.ofNat 3)]) bK/\I.sound v2=true/\(3=0->Q .ret (ah.mk [(4,.bb)] [] .none bK))/\(¬3=0->Q .ret (ah.mk [(4,.ptr bK.n 0)] [] .none (J.push bK (.cells [.int .i64 (.ofNat 2),.str [],.a0,.a0,.bb] 80 .own 0 0)))))/\(¬k=8->(k=9->∃bW:J,call (.fn 51) [.slice bG bV cc aG] (J.push ax (.cells [.str [97],.str [98],.str [99]] 9 .own 0 0))=.ret (.aP [.bb,.int .i64 (.ofNat 3)]) bW/\(3=0->Q .ret (ah.mk [(4,.bb)] [] .none bW))/\(¬3=0->Q .ret (ah.mk [(4,.ptr bW.n 0)] [] .none (J.push bW (.cells [.int .i64 (.ofNat 2),.str [],.a0,.a0,.bb] 80 .own 0 0)))))/\(¬k=9->(0=0->Q .ret (ah.mk [(4,.ptr bm 0)] [] .none (J.push ax (.cells [.str [97],.str [98],.str [99]] 9 .own 0 0))))/\(¬0=0->Q .ret (ah.mk [(4,.ptr (J.n (J.push ax (.cells [.str [97],.str [98],.str [99]] 9 .own 0 0))) 0)] [] .none (J.push (J.push ax (.cells [.str [97],.str [98],.str [99]] 9 .own 0 0)) (.cells [.int .i64 (.ofNat 2),.str [],.a0,.a0,.bb] 80 .own 0 0))))))))):
  a4 Tryz.prog Tryz.f27 call [1,1,1,1] ⟨[(0,.ptr c 0),(1,.int .i64 (.ofNat d)),(5,.int .i64 (.ofNat k))],[],.none,h⟩ Q:=
 dI [(1056,.f),(74,.bC (.fG [.is .bb,.is (.int .i64 (.ofNat 3))])),(85,.bC (.fG [.is .bb,.is (.int .i64 (.ofNat 3))])),(92,.bC (.fG [.is .bb,.is (.int .i64 (.ofNat 3))])),(4000,.g2 [0,1,5,6,7,8] [(.exit 0,[(0,.is (.ptr c 0)),(5,.is (.int .i64 (.ofNat k))),(6,.p),(7,.fS)])])] [4] [(0,.v (.ptr c 0)),(1,.v (.int .i64 (.ofNat d))),(5,.v (.int .i64 (.ofNat k)))] rfl (Eq.mp (by kernel_rfl) H)
theorem Mw(call:aI->List I->J->av)(c:Nat)(d:Nat)(k:Nat)(q:Nat)(n:Nat)(w:I)(h:J){Q:bn->ah->Prop}(H:(0<n->(7<=k->(1<=d/\d<9223372036854775808)/\∃aD:Nat,∃aj:J,call (.fn 27) [.ptr c 0,.int .i64 (.ofNat (d-1))] h=.ret (.ptr aD 0) aj/\∃v1:I,∃ax:J,dy Tryz.prog (J.push aj (.cells [.ptr aD 0] 35 .own 0 0)) 50 (some 50) w (.slice aj.n 0 1 (.exact 1))=some (v1,ax)/\(1<=n/\n<9223372036854775808)/\Q .nrm (ah.mk [(0,.ptr c 0),(1,.int .i64 (.ofNat d)),(5,.int .i64 (.ofNat k)),(6,.ptr q 0),(7,v1),(8,.int .i64 (.ofNat (n-1)))] [] .none ax))/\(¬7<=k->Q (.exit 0) (ah.mk [(0,.ptr c 0),(1,.int .i64 (.ofNat d)),(5,.int .i64 (.ofNat k)),(6,.ptr q 0),(7,w),(8,.int .i64 (.ofNat n))] [] .none h)))/\(¬0<n->Q (.exit 0) (ah.mk [(0,.ptr c 0),(1,.int .i64 (.ofNat d)),(5,.int .i64 (.ofNat k)),(6,.ptr q 0),(7,w),(8,.int .i64 (.ofNat n))] [] .none h))):
  a4 Tryz.prog Tryz.f27 call [1,1,1,1,1,1,0,1,0,0] ⟨[(0,.ptr c 0),(1,.int .i64 (.ofNat d)),(5,.int .i64 (.ofNat k)),(6,.ptr q 0),(7,w),(8,.int .i64 (.ofNat n))],[],.none,h⟩ Q:=
 dI [] [0,1,5,6,7,8] [(0,.v (.ptr c 0)),(1,.v (.int .i64 (.ofNat d))),(5,.v (.int .i64 (.ofNat k))),(6,.v (.ptr q 0)),(7,.o w),(8,.v (.int .i64 (.ofNat n)))] rfl (Eq.mp (by kernel_rfl) H)
theorem Yg(m:Nat)(v:I)(h:J){R:av->Prop}(H:∃aD:Nat,b9 Tryz.prog h 27 v=some (.int .i64 (.ofNat aD))/\∃bm:Nat,k7 pL (.int .i64 (.ofNat aD)) [.int .i64 (.ofNat 60)]=some (.int .i64 (.ofNat bm))/\∃v1:I,de Tryz.prog h 27 v none (some (.int .i64 (.ofNat bm))) none=some v1/\I.cQ v1=true/\I.cQ v1=true/\∃bG:Nat,∃aj:J,(Y m) (.fn 27) [.ptr h.n 0,.int .i64 (.ofNat 3)] (J.push h (.cells [v1,.int .i64 (.ofNat 0)] 72 .own 0 0))=.ret (.ptr bG 0) aj/\R (.ret (.ptr bG 0) aj)):
  R (Y (m+1) (.fn 12) [v] h):=
 dJ (intr:=b1) [(7,.bC (.n .i64))] [(0,.o v)] Tryz.func12 (by kernel_rfl) (by kernel_rfl) (by kernel_rfl) rfl (Eq.mp (by kernel_rfl) H)
theorem Mx(call:aI->List I->J->av)(c:Nat)(d:Nat)(h:J){Q:bn->ah->Prop}(H:Q .nrm (ah.mk [(0,.ptr c 0),(1,.int .i64 (.ofNat d))] [] .none h)):
  a4 Tryz.prog Tryz.f27 call [0] ⟨[(0,.ptr c 0),(1,.int .i64 (.ofNat d))],[],.none,h⟩ Q:=
 dI [] [0,1] [(0,.v (.ptr c 0)),(1,.v (.int .i64 (.ofNat d)))] rfl (Eq.mp (by kernel_rfl) H)
theorem FY{P:Program}{h:J}{T E b off n:Nat}{cp:b3}(hu:P.underlying T=some (.slice E))(hs:dh P E=some 1)(h0:0<n)(ag:v9 n cp):∃nL kF,de P h T (.slice b off n cp) (some (.int .i64 (Int.ofNat 1))) none none=some (.slice b nL (n-1) kF)/\v9 (n-1) kF/\(0<n-1->nL=off+1*1/\kF≠ .dead):=by
 have bH:Nat.ble 1 n=true:=by rw[Nat.ble_eq];omega
 cases cp with
 |exact k=>
  have aq:n<=k:=ag
  have bt:Nat.ble k k=true:=by rw[Nat.ble_eq];omega
  have ej:Nat.ble n k=true:=by rw[Nat.ble_eq];omega
  refine⟨if k=1 then off else off+1*1,.exact (k-1),by simp only[de,hu,hs,bounds,g8,eC,bt,bH,ej],by show n-1<=k-1;omega,λab=>⟨?_,by simp⟩⟩
  rw[if_neg (by omega)]
 |a1 e=>
  obtain rfl:e=1:=ag
  have bt:Nat.ble n n=true:=by rw[Nat.ble_eq];omega
  by_cases ab:1<n
  · have ej:Nat.blt 1 n=true:=by rw[Nat.blt_eq];omega
    refine⟨off+1*1,.a1 1,?_,rfl,λ_=>⟨rfl,by simp⟩⟩
    simp only[de,hu,hs,bounds,g8,eC,bt,bH,ej,if_true]
    rw[if_neg (by decide)]
  · have ej:¬Nat.blt 1 n=true:=by rw[Nat.blt_eq];omega
    obtain rfl:n=1:=by omega
    exact⟨off,.dead,by simp only[de,hu,hs,bounds,g8,eC];rfl,rfl,λh=>absurd h (by omega)⟩
 |dead=>have:n=0:=ag;omega
theorem My{P:Program}{h:J}{T E b off n k:Nat}{cp:b3}(hu:P.underlying T=some (.slice E))(hs:dh P E=some 1)(aq:k<=n)(ag:v9 n cp):∃nL kF,de P h T (.slice b off n cp) none (some (.int .i64 (Int.ofNat k))) none=some (.slice b nL k kF)/\v9 k kF/\(0<k->nL=off/\kF≠ .dead):=by
 have cA:Nat.ble 0 k=true:=by rw[Nat.ble_eq];omega
 cases cp with
 |exact j=>
  have aL:n<=j:=ag
  have bt:Nat.ble j j=true:=by rw[Nat.ble_eq];omega
  have ej:Nat.ble k j=true:=by rw[Nat.ble_eq];omega
  refine⟨if j=0 then off else off+0*1,.exact (j-0),by simp only[de,hu,hs,bounds,g8,eC,bt,cA,ej,Nat.sub_zero],by show k<=j-0;omega,λab=>⟨?_,by simp⟩⟩
  rw[if_neg (by omega),Nat.zero_mul,Nat.add_zero]
 |a1 e=>
  obtain rfl:e=1:=ag
  have bt:Nat.ble n n=true:=by rw[Nat.ble_eq];omega
  have bH:Nat.ble k n=true:=by rw[Nat.ble_eq];omega
  exact⟨off,.a1 1,by simp only[de,hu,hs,bounds,g8,eC,bt,bH,cA,if_true,Nat.sub_zero],rfl,λ_=>⟨rfl,by simp⟩⟩
 |dead=>
  have h0:n=0:=ag
  obtain rfl:k=0:=by omega
  exact⟨off,.dead,by simp only[de,hu,hs,bounds,g8,eC],rfl,λh=>absurd h (by omega)⟩
def mU(B:Nat)(h:J)(v:I)(s:a5):Prop:=(v=.a0/\s=[])\/∃b off cp,v=.slice b off s.length cp/\b<B/\v9 s.length cp/\∀i (af:i<s.length),au h b (off+i*1)=some (.int .u8 (Int.ofNat s[i].toNat))
theorem mU.ext{B:Nat}{h g:J}{v:I}{s:a5}(x:Ext B h g)(o:mU B h v s):mU B g v s:=by
 rcases o with o|⟨b,off,cp,ab,ad,ar,aJ⟩
 · exact .inl o
 · exact .inr ⟨b,off,cp,ab,ad,ar,λi af=>iS x ad (aJ i af)⟩
theorem mU.len{B:Nat}{h:J}{v:I}{s:a5}(o:mU B h v s)(g:J):b9 Tryz.prog g 27 v=some (.int .i64 (Int.ofNat s.length)):=by
 rcases o with⟨rfl,rfl⟩|⟨b,off,cp,rfl,_⟩<;>rfl
structure fK(B c:Nat)(h:J)(m:e5):Prop where
 get:∃v,h.get c=some (.cells [v,.int .i64 (Int.ofNat m.nodes)] 72 .own 0 0)/\mU B h v m.left
 aN:B<=c
 up:c<h.n
structure eo(c:Nat)(h g:J):Prop where
 n:h.n<=g.n
 get:∀d,d<h.n->d≠c->g.get d=h.get d
theorem eo.refl(c:Nat)(h:J):eo c h h:=⟨Nat.le_refl _,λ_ _ _=>rfl⟩
theorem eo.trans{c:Nat}{h g k:J}(e:eo c h g)(f:eo c g k):eo c h k:=⟨Nat.le_trans e.n f.n,λd ao ag=>(f.get d (Nat.lt_of_lt_of_le ao e.n) ag).trans (e.get d ao ag)⟩
theorem eo.kD{c:Nat}{h g:J}(e:Ext h.n h g):eo c h g:=⟨e.n,λd ao _=>e.get d ao⟩
theorem fK.move{B c:Nat}{h g:J}{m:e5}(o:fK B c h m)(e:Ext h.n h g):fK B c g m:=by
 obtain⟨v,ab,ad⟩:=o.get
 have hu:=o.up
 exact⟨⟨v,(e.get c hu).trans ab,ad.ext (e.le (by have:=o.aN;omega))⟩,o.aN,Nat.lt_of_lt_of_le hu e.n⟩
theorem Yh(n:Nat)(aK:n<256)(h:J):iJ Tryz.prog 5 3 (.int .u8 (Int.ofNat n)) h=.val (.int .i64 (Int.ofNat n)) h:=JO (ka:=.u8) (by kernel_rfl) (by kernel_rfl) (q2 n (by omega))
theorem BJ{h g:J}{b off:Nat}(e:g.get b=h.get b):au g b off=au h b off:=by unfold au;rw[e]
theorem tU(m n:Nat){B c:Nat}{h:J}{k:e5}(aq:fK B c h k)(h0:0<n):∃g,Y (m+1) (.fn 48) [.ptr c 0,.int .i64 (Int.ofNat n)] h=.ret (.int .i64 (Int.ofNat (c0 n k).1)) g/\fK B c g (c0 n k).2/\eo c h g:=by
 obtain⟨⟨v,al,ae⟩,hZ,v7⟩:=aq
 obtain⟨left,nodes⟩:=k
 refine X0 m c n h (R:=λx=>∃g,x=.ret (.int .i64 (Int.ofNat (c0 n ⟨left,nodes⟩).1)) g/\fK B c g (c0 n ⟨left,nodes⟩).2/\eo c h g) ⟨v,aU al rfl,left.length,ae.len h,λaw=>?_,λaw=>?_⟩
 · obtain rfl:left=[]:=List.eq_nil_of_length_eq_zero aw
   exact⟨h,rfl,⟨⟨v,al,ae⟩,hZ,v7⟩,eo.refl _ _⟩
 · rcases ae with⟨rfl,rfl⟩|⟨b,off,cp,rfl,ad,ar,aJ⟩
   · exact absurd rfl aw
   cases left with
   |nil=>exact absurd rfl aw
   |cons x l=>
    have aa:=UInt8.toNat_lt x
    obtain⟨nL,kF,aA,ay,bx⟩:=FY (P:=Tryz.prog) (h:=h) (T:=27) (E:=5) (b:=b) (off:=off) (by kernel_rfl) (by kernel_rfl) (by simp) ar
    refine⟨b,off,_,cp,aU al rfl,by simp,x.toNat,aJ 0 (by simp),x.toNat,Yh _ (by omega) h,x.toNat %n,Su .i64 h0,b,off,_,cp,aU al rfl,_,aA,rfl,_,gJ al rfl rfl,_,rfl,⟨⟨_,gI rfl,?_⟩,hZ,by simpa using v7⟩,⟨by simp,λd ao ag=>dH ag rfl⟩⟩
    refine .inr ⟨b,nL,kF,rfl,ad,ay,λi af=>?_⟩
    have af:i<l.length:=af
    obtain⟨f1,_⟩:=bx (by simp;omega)
    have ga:=aJ (i+1) (by simp;omega)
    rw[f1,show off+1*1+i*1=off+(i+1)*1 by omega]
    have q3:b≠c:=by omega
    refine(BJ ?_).trans ga
    exact dH q3 rfl
end Go.Proofs.dj
namespace Go.Proofs.dj
open Go aM Go.Proofs c_ Go.Proofs.cF
set_option maxRecDepth 100000
set_option maxHeartbeats 1000000
abbrev sc(a b:Nat)(d:Nat):Prop:=a<=d/\d<b
abbrev fZ(aN:Nat)(h:J)(t:aF)(v:I):Prop:=fa (sc aN h.n) h t v
abbrev iV(aN:Nat)(h:J)(l:List aF)(vs:List I):Prop:=cT (sc aN h.n) h l vs
theorem Ext.jl{aN:Nat}{h g:J}(x:Ext h.n h g):∀b,sc aN h.n b->sc aN g.n b/\g.get b=h.get b:=λb ae=>⟨⟨ae.1,Nat.lt_of_lt_of_le ae.2 x.n⟩,x.get b ae.2⟩
theorem fZ.gY{aN:Nat}{h g:J}{t:aF}{v:I}(x:Ext h.n h g)(o:fZ aN h t v):fZ aN g t v:=fa.ck (Ext.jl x) t v o
theorem iV.gY{aN:Nat}{h g:J}{l:List aF}{vs:List I}(x:Ext h.n h g)(o:iV aN h l vs):iV aN g l vs:=cT.ck (Ext.jl x) l vs o
theorem fZ.at{aN:Nat}{h:J}{t:aF}{v:I}(o:fZ aN h t v):dE h.n h t v:=fa.at (λb ae=>ae.2) t v o
theorem iV.at{aN:Nat}{h:J}{l:List aF}{vs:List I}(o:iV aN h l vs):dO h.n h l vs:=cT.at (λb ae=>ae.2) l vs o
theorem cT.len{F:Nat->Prop}{h:J}:∀{cv:List aF} {vs:List I},cT F h cv vs->vs.length=cv.length
 |[],vs,aa=>by have e:vs=[]:=aa;rw[e];rfl
 |t::cv,vs,aa=>by
  obtain⟨v,ws,rfl,_,ad⟩:=aa
  rw[List.length_cons,List.length_cons,cT.len ad]
theorem cT.get{F:Nat->Prop}{h:J}:∀{cv:List aF} {vs:List I},cT F h cv vs->∀i (ab:i<vs.length) (ad:i<cv.length),fa F h cv[i] vs[i]
 |[],_,_,_,_,ad=>by cases ad
 |t::cv,_,aa,0,_,_=>by obtain⟨v,ws,rfl,ar,_⟩:=aa;exact ar
 |t::cv,_,aa,i+1,ab,ad=>by
  obtain⟨v,ws,rfl,_,ar⟩:=aa
  exact cT.get ar i (by simpa using ab) (by simpa using ad)
theorem fa.ptr{F:Nat->Prop}{h:J}:∀{t:aF} {v:I},fa F h t v->∃r,v=.ptr r 0
 |.mk _ _ _ _ _,_,aa=>by obtain⟨r,_,_,_,_,_,_,_,ab,_⟩:=aa;exact⟨r,ab⟩
theorem cT.BK{F:Nat->Prop}{h:J}:∀{cv:List aF} {vs:List I},cT F h cv vs->∃ps:List Nat,vs=ps.map λp=>.ptr p 0
 |[],vs,aa=>⟨[],aa⟩
 |t::cv,_,aa=>by
  obtain⟨v,ws,rfl,ab,ad⟩:=aa
  obtain⟨r,rfl⟩:=fa.ptr ab
  obtain⟨ps,rfl⟩:=cT.BK ad
  exact⟨r::ps,rfl⟩
theorem cT.app{F:Nat->Prop}{h:J}{us:List aF}{ws:List I}(hu:cT F h us ws):∀{cv:List aF} {vs:List I},cT F h cv vs->cT F h (cv++us) (vs++ws)
 |[],vs,aa=>by have e:vs=[]:=aa;rw[e];exact hu
 |t::cv,_,aa=>by
  obtain⟨v,ys,rfl,ab,ad⟩:=aa
  exact⟨v,ys++ws,rfl,ab,cT.app hu ad⟩
theorem cT.take{F:Nat->Prop}{h:J}:∀{cv:List aF} {vs:List I} (k:Nat),cT F h cv vs->cT F h (cv.take k) (vs.take k)
 |[],vs,k,aa=>by have e:vs=[]:=aa;rw[e,List.take_nil,List.take_nil];rfl
 |t::cv,vs,0,aa=>rfl
 |t::cv,_,k+1,aa=>by
  obtain⟨v,ys,rfl,ab,ad⟩:=aa
  exact⟨v,ys.take k,rfl,ab,cT.take k ad⟩
theorem cT.drop{F:Nat->Prop}{h:J}:∀{cv:List aF} {vs:List I} (k:Nat),cT F h cv vs->cT F h (cv.drop k) (vs.drop k)
 |[],vs,k,aa=>by have e:vs=[]:=aa;rw[e,List.drop_nil,List.drop_nil];rfl
 |t::cv,vs,0,aa=>aa
 |t::cv,_,k+1,aa=>by
  obtain⟨v,ys,rfl,ab,ad⟩:=aa
  exact cT.drop k ad
theorem FZ{k N M:Nat}{s:a5}{o:Bool}(h:hQ k s N M o=true)(db:k≠7):N=0:=by
 unfold hQ at h
 simp only[Bool.and_eq_true] at h
 have:=h.1.1.2
 simp only[Bool.not_eq_true',Bool.and_eq_false_iff,decide_eq_false_iff_not] at this
 rcases this with h|h
 · omega
 · exact absurd db (by simpa using h)
mutual
theorem Mz:∀t:aF,dY t=true->k0 t<=sz t
 |.mk k nm ns xs rt,h=>by
  rw[mM] at h
  simp only[Bool.and_eq_true] at h
  obtain⟨_,aO,aa,aq⟩:=h
  have ab:=MA xs aa
  have ad:qu rt<=dx rt:=by
   cases rt with
   |none=>rw[qu];exact Nat.zero_le _
   |some u=>
    have hq:k=8:=by
     unfold hQ at aO
     simp only[Bool.and_eq_true] at aO
     have:=aO.2
     simpa using this
    subst hq
    have hu:dY u=true:=by simpa[eL,il] using aq
    rw[qu,dx]
    exact Mz u hu
  have ar:ns.length<=xs.length:=by
   by_cases db:k=7
   · subst db
     have:ns.length=xs.length/\jx none ns=true:=by simpa[eL] using aq
     omega
   · have:=FZ aO db;omega
  have aJ:=nD xs
  have bO:=F0 xs aa
  rw[k0,sz]
  omega
theorem MA:∀l:List aF,hj l=true->pr l<=cY l
 |[],_=>by rw[pr];exact Nat.zero_le _
 |t::l,h=>by
  rw[hj,Bool.and_eq_true] at h
  have ab:=Mz t h.1
  have ad:=MA l h.2
  rw[pr,cY];omega
theorem F0:∀l:List aF,hj l=true->pr l+l.length<=cY l
 |[],_=>by rw[pr,cY];simp
 |t::l,h=>by
  rw[hj,Bool.and_eq_true] at h
  have ab:=F1 t h.1
  have ad:=F0 l h.2
  rw[pr,cY,List.length_cons];omega
theorem F1:∀t:aF,dY t=true->k0 t+1<=sz t
 |.mk k nm ns xs rt,h=>by
  rw[mM] at h
  simp only[Bool.and_eq_true] at h
  obtain⟨_,aO,aa,aq⟩:=h
  have ab:=F0 xs aa
  have ad:qu rt<=dx rt:=by
   cases rt with
   |none=>rw[qu];exact Nat.zero_le _
   |some u=>
    have hq:k=8:=by
     unfold hQ at aO
     simp only[Bool.and_eq_true] at aO
     have:=aO.2
     simpa using this
    subst hq
    have hu:dY u=true:=by simpa[eL,il] using aq
    have:=F1 u hu
    rw[qu,dx];omega
  have ar:ns.length<=xs.length:=by
   by_cases db:k=7
   · subst db
     have:ns.length=xs.length/\jx none ns=true:=by simpa[eL] using aq
     omega
   · have:=FZ aO db;omega
  rw[k0,sz]
  omega
end
theorem F2{t:aF}(h:dg (some t)=0):sz t<=60/\k0 t<=60:=by
 obtain⟨ab,ad⟩:=kE.1 h
 have:=F1 t ad
 exact⟨ab,by omega⟩
theorem F3(m:Nat){B:Nat}{h:J}{b off:Nat}{cp:b3}{l:List aF}{vs:List I}(hm:70<=m)(cM:B<=h.n)(ae:b<B)(aw:∀i (af:i<vs.length),au h b (off+i*1)=some vs[i])(aa:dO B h l vs)(hlen:vs.length<=1000)(ag:∀t∈l,dg (some t)=0):cN B h (.bool true) (Y (m+2) (.fn 75) [.slice b off vs.length cp] h):=by
 refine X1 (m+1) b off vs.length cp h (R:=cN B h (.bool true)) ?_
 refine a4.loop (by kernel_rfl) (λk st=>∃i y Γ,st=⟨Γ,[],.none,y⟩/\cl [(0,.slice b off vs.length cp),(3,.int .i64 (Int.ofNat i))] Γ/\vs.length-i=k/\i<=vs.length/\Ext B h y) ?_ vs.length _ (by omega) ⟨0,h,_,rfl,⟨rfl,rfl,trivial⟩,by omega,by omega,Ext.refl _ _⟩
 rintro k st ⟨i,y,Γ,rfl,cP,aq,af,aW⟩
 have fs:=dO.len aa
 refine a4.pre (X2 (Y (m+1)) b off _ i cp y ⟨λab=>?_,λab=>?_⟩) cP rfl rfl rfl
 · have ad:i<l.length:=by omega
   have a_:=dO.get aa i ab ad
   have pG:=ag _ (List.getElem_mem ad)
   obtain⟨s1,s2⟩:=F2 pG
   have eF:dx (some l[i])=sz l[i]:=l0 _
   have aO:∃r,vs[i]=.ptr r 0:=by
    rcases ey.Be (ot:=some l[i]) a_ with e|⟨r,e⟩
    · exfalso
      rw[e] at a_
      cases Yi:l[i] with
      |mk cw c2 dm e4 eX=>
       rw[Yi] at a_
       obtain⟨_,_,_,_,_,_,_,_,e,_⟩:=a_;cases e
    · exact⟨r,e⟩
   obtain⟨r,ak⟩:=aO
   obtain⟨g,aG,bA⟩:=Lq (ot:=some l[i]) (B:=B) (h:=y) (v:=vs[i]) m (by omega) (λt e=>by cases e;omega) (by omega) (Nat.le_trans cM aW.n) (ey.ck (gK.ext aW (Nat.le_refl _)) _ _ a_)
   rw[pG,ak] at aG
   refine⟨ab,r,(iS aW ae (aw i ab)).trans (by rw[ak]),0,g,aG,λ_=>⟨by omega,_,(by show _<k;omega),i+1,g,_,rfl,⟨rfl,rfl,trivial⟩,rfl,by omega,aW.trans (Nat.le_refl _) bA⟩,λh=>absurd rfl h⟩
 · exact .inl ⟨y,_,rfl,rfl,trivial,cN.mk aW⟩
theorem Yj(m:Nat){B:Nat}{h:J}{t:aF}{r:Nat}(ae:sz t<=90000)(hm:sz t<m)(aB:dE B h t (.ptr r 0)):Y (m+2) (.fn 78) [.ptr r 0] h=.ret (if sz t<=60 then .aP [.ptr r 0,.int .i64 (Int.ofNat 0)] else .aP [.bb,.int .i64 (Int.ofNat 3)]) h:=by
 refine X3 (m+1) r h (R:=λx=>x=_) ⟨_,h,KX ae hm aB,λcj=>?_,λcj=>?_⟩
 · rw[if_neg (by omega)]
 · rw[if_pos (by omega)]
theorem cD.Yk{D:Type}{P:Program}{e:D->I}{el sT:TypeId}(T:kU P (λd=>[e d]) 1 el sT){B:Nat}{h:J}{v:I}{ds:List D}(a2:cD (λd=>[e d]) 1 el B h v ds){k:Nat}(aq:k<=ds.length):∃v',de P h sT v none (some (.int .i64 (Int.ofNat k))) none=some v'/\∀g,(∀p,v=.slice p 0 ds.length (.a1 1)->g.get p=h.get p)->fP g 1 v'=some ((ds.take k).length,dN (λd=>[e d]) (ds.take k)):=by
 rcases a2 with⟨rfl,rfl⟩|⟨p,rfl,ad,ar,aJ,bO⟩
 · obtain rfl:k=0:=by simpa using aq
   refine⟨.a0,?_,λg _=>by rw[List.take_zero];rfl⟩
   simp only[de,T.hu,T.size,bounds,g8,eC]
 · refine⟨_,Bt T.hu T.size aq,λg al=>?_⟩
   have hlen:(ds.take k).length=k:=by rw[List.length_take];omega
   by_cases h0:k=0
   · subst h0
     have e:aM.loadCells g p 0 (0*1)=some []:=pb ((al p rfl).trans ar) rfl
     simp only[fP,e,List.take_zero];rfl
   · have:=c7.src (B:=B) (h:=g) (b:=p) (off:=0) (cp:=.a1 1) (vs:=(ds.take k).map e) (λi af=>by
       rw[List.length_map] at af
       refine nu ((al p rfl).trans ar) ?_
       rw[k3,List.getElem?_map,Nat.zero_add,Nat.mul_one,List.getElem?_eq_getElem (by omega)]
       simp) (by rw[List.length_map];omega) (by simp)
     rw[List.length_map,hlen] at this
     rw[this,hlen,k3]
theorem cD.Yl{D:Type}{P:Program}{e:D->I}{el sT:TypeId}(T:kU P (λd=>[e d]) 1 el sT){B:Nat}{h:J}{v:I}{ds:List D}(a2:cD (λd=>[e d]) 1 el B h v ds){k:Nat}(aq:k<=ds.length)(g:J)(al:∀p,v=.slice p 0 ds.length (.a1 1)->g.get p=h.get p):∃v',de P g sT v (some (.int .i64 (Int.ofNat k))) none none=some v'/\fP g 1 v'=some ((ds.drop k).length,dN (λd=>[e d]) (ds.drop k)):=by
 rcases a2 with⟨rfl,rfl⟩|⟨p,rfl,ad,ar,aJ,bO⟩
 · obtain rfl:k=0:=by simpa using aq
   refine⟨.a0,?_,rfl⟩
   simp only[de,T.hu,T.size,bounds,g8,eC]
 · have hlen:(ds.drop k).length=ds.length-k:=by rw[List.length_drop]
   have rd:∀(o:Nat) (c:b3),c≠ .dead->o=0+k*1->0<ds.length-k->fP g 1 (.slice p o (ds.length-k) c)=some (ds.length-k,(ds.drop k).map e):=λo c ag a2 h0=>by
    have:=c7.src (B:=B) (h:=g) (b:=p) (off:=o) (cp:=c) (vs:=(ds.drop k).map e) (λi af=>by
     rw[List.length_map,hlen] at af
     refine nu ((al p rfl).trans ar) ?_
     rw[k3,List.getElem?_map,List.getElem?_eq_getElem (by omega)]
     simp[a2]) (by rw[List.length_map];omega) ag
    rw[List.length_map,hlen] at this
    exact this
   by_cases h0:k=0
   · subst h0
     have bt:Nat.ble ds.length ds.length=true:=by rw[Nat.ble_eq];omega
     have bH:Nat.ble 0 ds.length=true:=by rw[Nat.ble_eq];omega
     refine⟨.slice p 0 ds.length (.a1 1),by simp only[de,T.hu,T.size,bounds,g8,eC,bt,bH,if_true],?_⟩
     have:=rd 0 (.a1 1) (by simp) rfl (by omega)
     rw[k3,hlen]
     exact this
   · by_cases cj:k<ds.length
     · refine⟨_,yF T.hu T.size (by omega) cj,?_⟩
       rw[rd _ _ (by simp) rfl (by omega),k3,hlen]
     · obtain rfl:k=ds.length:=by omega
       have bt:Nat.ble ds.length ds.length=true:=by rw[Nat.ble_eq];omega
       have ej:¬Nat.blt ds.length ds.length=true:=by rw[Nat.blt_eq];omega
       refine⟨.slice p 0 0 .dead,by simp only[de,T.hu,T.size,bounds,g8,eC,bt,if_true,if_neg h0,if_neg ej],?_⟩
       rw[List.drop_length];rfl
theorem cD.cell{D:Type}{enc:D->List I}{w el B:Nat}{h:J}{v:I}{ds:List D}(a2:cD enc w el B h v ds):v.cQ=true:=by
 rcases a2 with⟨rfl,_⟩|⟨p,rfl,_⟩<;>rfl
theorem cD.len{D:Type}{P:Program}{enc:D->List I}{w el sT B:Nat}(hu:P.underlying sT=some (.slice el)){h:J}{v:I}{ds:List D}(a2:cD enc w el B h v ds)(g:J):b9 P g sT v=some (.int .i64 (Int.ofNat ds.length)):=by
 rcases a2 with⟨rfl,rfl⟩|⟨p,rfl,_⟩<;>simp only[b9,hu]<;>rfl
theorem grow{D:Type}{P:Program}{e:D->I}{el sT:TypeId}(T:kU P (λd=>[e d]) 1 el sT){B:Nat}{h:J}{v:I}{ds:List D}(a2:cD (λd=>[e d]) 1 el B h v ds)(d:D)(tc:TypeId){k:Nat}(aq:k<=ds.length)(aw:ds.length<=1000):
  ∃c4 v4 aC,de P h sT v none (some (.int .i64 (Int.ofNat k))) none=some c4/\dy P h sT (some sT) .a0 c4=some (v4,aC)/\Ext h.n h aC/\
  ∃fl bK,dy P (aC.push (.cells [e d] tc .own 0 0)) sT (some sT) v4 (.slice aC.n 0 1 (.exact 1))=some (fl,bK)/\Ext h.n h bK/\
  ∃hT hk bW,de P bK sT v (some (.int .i64 (Int.ofNat k))) none none=some hT/\dy P bK sT (some sT) fl hT=some (hk,bW)/\Ext h.n h bW/\cD (λd=>[e d]) 1 el h.n bW hk (ds.take k++d::ds.drop k):=by
 obtain⟨c4,bx,bI⟩:=cD.Yk T a2 aq
 have dq:(ds.take k).length<=ds.length:=by rw[List.length_take];omega
 obtain⟨v4,aC,ef,tV,iE,_⟩:=vc T (B:=h.n) (h:=h) (v:=.a0) (ds:=[]) (es:=ds.take k) (.inl ⟨rfl,rfl⟩) (Nat.le_refl _) (bI h λ_ _=>rfl) (by simp;omega)
 rw[List.nil_append] at tV
 have Ym:cD (λd=>[e d]) 1 el h.n (aC.push (.cells [e d] tc .own 0 0)) v4 (ds.take k):=tV.mono (Ext.push (Nat.le_refl _) _) (Nat.le_refl _)
 have MB:Ext h.n h (aC.push (.cells [e d] tc .own 0 0)):=Ext.ks iE.n iE
 obtain⟨fl,bK,ga,Yn,pk,_⟩:=vc T (B:=h.n) (es:=[d]) Ym MB.n (AV T aC tc d) (by rw[List.length_singleton];omega)
 have BL:=MB.trans (Nat.le_refl _) pk
 obtain⟨hT,gq,dw⟩:=cD.Yl T a2 aq bK (λp aO=>by
  rcases a2 with⟨rfl,_⟩|⟨q,rfl,_,_,_,bO⟩
  · cases aO
  · cases aO;exact BL.get _ bO)
 have acJ:(ds.drop k).length<=ds.length:=by rw[List.length_drop];omega
 obtain⟨hk,bW,gX,Yo,Yp,_⟩:=vc T (B:=h.n) (es:=ds.drop k) Yn BL.n dw (by rw[List.length_append,List.length_singleton];omega)
 refine⟨c4,v4,aC,bx,ef,iE,fl,bK,ga,BL,hT,hk,bW,gq,gX,BL.trans (Nat.le_refl _) Yp,?_⟩
 have gC:ds.take k++d::ds.drop k=ds.take k++[d]++ds.drop k:=by simp
 rw[gC];exact Yo
end Go.Proofs.dj
namespace Go.Proofs.dj
open Go aM Go.Proofs c_ Go.Proofs.cF
set_option maxRecDepth 100000
set_option maxHeartbeats 1000000
def yX(aN:Nat)(h:J)(t:aF)(x:av):Prop:=∃g,Ext h.n h g/\((sz t<=60/\∃r,x=.ret (.aP [.ptr r 0,.int .i64 (Int.ofNat 0)]) g/\fZ aN g t (.ptr r 0))\/(60<sz t/\x=.ret (.aP [.bb,.int .i64 (Int.ofNat 3)]) g))
abbrev hl(p:Nat):I:=.ptr p 0
abbrev jC(B:Nat)(h:J)(v:I)(ps:List Nat):Prop:=cD (λd=>[hl d]) 1 35 B h v ps
abbrev pH(B:Nat)(h:J)(v:I)(ct:List a5):Prop:=cD (λd=>[I.str d]) 1 9 B h v ct
theorem sd:kU Tryz.prog (λd=>[hl d]) 1 35 50:=XY
theorem Yq:kU Tryz.prog (λd=>[I.str d]) 1 9 63:=XX
theorem cD.jl{D:Type}{enc:D->List I}{w el B aN:Nat}{h:J}{v:I}{ds:List D}(a2:cD enc w el B h v ds)(hZ:aN<=B):∀b n cp,v=.slice b 0 n cp->sc aN h.n b:=by
 intro b n cp e
 rcases a2 with⟨rfl,_⟩|⟨p,rfl,_,_,aJ,bO⟩
 · cases e
 · cases e;exact⟨by omega,bO⟩
theorem xO(m aN:Nat){h g:J}{t:aF}{r:Nat}(aa:Ext h.n h g)(aB:fZ aN g t (.ptr r 0))(ae:sz t<=90000)(hm:sz t<m):∃v n gg,Y (m+2) (.fn 78) [.ptr r 0] g=.ret (.aP [v,.int .i64 (Int.ofNat n)]) gg/\yX aN h t (.ret (.aP [v,.int .i64 (Int.ofNat n)]) gg):=by
 have e:=Yj m ae hm aB.at
 by_cases cj:sz t<=60
 · rw[if_pos cj] at e
   exact⟨_,_,_,e,g,aa,.inl ⟨cj,r,rfl,aB⟩⟩
 · rw[if_neg cj] at e
   exact⟨_,_,_,e,g,aa,.inr ⟨by omega,rfl⟩⟩
theorem F4(k:Nat)(ns:List a5)(l:List aF)(rt:Option aF)(aw:∀t∈l,dg (some t)=0)(hlen:l.length<=1000):sz (.mk k [] ns l rt)<=60001+dx rt:=by
 have:=XQ aw
 have:60*l.length<=60*1000:=Nat.mul_le_mul_left _ hlen
 rw[mL];omega
theorem F5{cw c2 dm e4 eX w:I}(hw:w.cQ=true):fN (0+2) [w] [cw,c2,dm,e4,eX]=some [cw,c2,w,e4,eX]/\fN (0+3) [w] [cw,c2,dm,e4,eX]=some [cw,c2,dm,w,eX]:=by
 constructor<;>simp[fN,hw]
theorem Yr(m aN:Nat){h:J}{b off r:Nat}{cp:b3}{x:aF}{l:List aF}{vs:List I}(hm:200000<=m)(hZ:aN<=h.n)(ae:b<h.n)(aw:∀i (af:i<vs.length),au h b (off+i*1)=some vs[i])(aB:iV aN h l vs)(hs:∀g,Ext h.n h g->fP g 1 (.slice b off vs.length cp)=some (vs.length,vs))(ak:fZ aN h x (.ptr r 0))(hlen:vs.length<=1000)(ag:∀t∈l,dg (some t)=0)(MC:dg (some x)=0):yX aN h (.mk 8 [] [] l (some x)) (Y (m+3) (.fn 50) [.slice b off vs.length cp,.ptr r 0] h):=by
 obtain⟨aj,aG,bA⟩:=F3 m (by omega) (Nat.le_refl _) ae aw aB.at hlen ag
 obtain⟨s1,s2⟩:=F2 MC
 have eF:dx (some x)=sz x:=l0 _
 have g6:fZ aN aj x (.ptr r 0):=ak.gY bA
 obtain⟨ax,a9,cX⟩:=Lq (ot:=some x) (B:=aj.n) (h:=aj) (v:=.ptr r 0) (m+1) (by omega) (λt e=>by cases e;omega) (by omega) (Nat.le_refl _) g6.at
 rw[MC] at a9
 have fs:=cT.len aB
 obtain⟨ps,n3⟩:=cT.BK aB
 have hr:vs.length=ps.length:=by rw[n3,List.length_map]
 have nJ:=bA.trans bA.n cX
 obtain⟨H,cm⟩:∃H,H=ax.push (.cells [.int .i64 (Int.ofNat 8),.str [],.a0,.a0,.ptr r 0] 80 .own 0 0):=⟨_,rfl⟩
 have dA:Ext h.n h H:=by rw[cm];exact Ext.ks nJ.n nJ
 have v_:H.get ax.n=some (.cells [.int .i64 (Int.ofNat 8),.str [],.a0,.a0,.ptr r 0] 80 .own 0 0):=by rw[cm];exact fj rfl
 have lr:H.n=ax.n+1:=by rw[cm];rfl
 have Ys:=nJ.n
 have MD:=hs H dA
 rw[hr] at MD
 obtain⟨v2,aC,bx,wa,dP,bG,ec⟩:=vc sd (B:=H.n) (h:=H) (v:=.a0) (ds:=[]) (es:=ps) (.inl ⟨rfl,rfl⟩) (Nat.le_refl _) (by rw[MD,k3,n3]) (by simp;omega)
 rw[List.nil_append] at wa
 rw[<-hr] at bx
 have b5:aC.get ax.n=some (.cells [.int .i64 (Int.ofNat 8),.str [],.a0,.a0,.ptr r 0] 80 .own 0 0):=(dP.get _ (by omega)).trans v_
 obtain⟨bK,l9⟩:∃bK,bK=aC.set ax.n (some (.cells [.int .i64 (Int.ofNat 8),.str [],.a0,v2,.ptr r 0] 80 .own 0 0)):=⟨_,rfl⟩
 have Yt:Ext h.n h aC:=dA.trans dA.n dP
 have iE:Ext h.n h bK:=by rw[l9];exact Ext.iQ Ys Yt
 have bV:bK.n=aC.n:=by rw[l9];rfl
 have tV:jC H.n bK v2 ps:=by rw[l9];exact cD.rD wa b5
 have Yu:=dP.n
 have yY:fZ aN bK (.mk 8 [] [] l (some x)) (.ptr ax.n 0):=by
  refine⟨ax.n,.a0,v2,.ptr r 0,vs,.own,0,0,rfl,⟨by omega,by omega⟩,by rw[l9];exact gI rfl,.inl ⟨rfl,rfl⟩,?_,aB.gY iE,ak.gY iE⟩
  rw[n3]
  exact BI tV (cD.jl tV (by omega))
 have bw:=F4 8 [] l (some x) ag (by omega)
 refine X7 (m+2) b off vs.length r cp h (R:=yX aN h (.mk 8 [] [] l (some x))) ⟨true,aj,aG,λ_=>?_,λh=>by cases h⟩
 obtain⟨w,n,bW,ga,f5⟩:=xO m aN iE yY (by omega) (by omega)
 subst cm
 exact⟨0,ax,a9,rfl,.a0,aU v_ rfl,v2,aC,bx,cD.cell wa,bK,by rw[l9];exact gJ b5 rfl (F5 (cD.cell wa)).2,w,n,bW,ga,f5⟩
theorem Yv:∀i,i<3->∀j,j<i->dB (fY[j]?.getD []) (fY[i]?.getD [])=true:=by decide
theorem Yw:∀i,i<3->hP (fY[i]?.getD [])=true:=by decide
abbrev mV(i:Nat):a5:=fY[i]?.getD []
theorem Yx{i:Nat}(h:i<3):fY.take (i+1)=fY.take i++[mV i]:=by
 have:i=0\/i=1\/i=2:=by omega
 rcases this with rfl|rfl|rfl<;>rfl
theorem ME{i:Nat}(h:i<=3):(fY.take i).length=i:=by rw[List.length_take];show min i 3=i;omega
theorem Yy{i j:Nat}(h:i<=3)(aL:j<(fY.take i).length):(fY.take i)[j]=mV j:=by
 have:j<i:=by rw[ME h] at aL;exact aL
 have ar:j<fY.length:=by show j<3;omega
 simp[mV,List.getElem?_eq_getElem ar]
theorem Yz(m aN:Nat){h:J}{nb b:Nat}{nc cp:b3}{l:List aF}{vs:List I}(hm:200000<=m)(hZ:aN<=h.n)(kM:nb<h.n)(ae:b<h.n)(jt:∀i,i<vs.length->au h nb (0+i*1)=some (.str (mV i)))(aw:∀i (af:i<vs.length),au h b (0+i*1)=some vs[i])(aB:iV aN h l vs)(ar:vs.length<=3)(ag:∀t∈l,dg (some t)=0):yX aN h (.mk 7 [] (fY.take l.length) l none) (Y (m+3) (.fn 49) [.slice nb 0 vs.length nc,.slice b 0 vs.length cp] h):=by
 obtain⟨aj,aG,bA⟩:=F3 m (by omega) (Nat.le_refl _) ae aw aB.at (by omega) ag
 have fs:=cT.len aB
 obtain⟨ps,n3⟩:=cT.BK aB
 have hr:vs.length=ps.length:=by rw[n3,List.length_map]
 have tW:=bA.n
 have bw:=F4 7 (fY.take l.length) l none ag (by omega)
 have eF:dx none=0:=by rw[dx]
 obtain⟨H,cm⟩:∃H,H=aj.push (.cells [.int .i64 (Int.ofNat 7),.str [],.a0,.a0,.bb] 80 .own 0 0):=⟨_,rfl⟩
 have dA:Ext h.n h H:=by rw[cm];exact Ext.ks bA.n bA
 have v_:H.get aj.n=some (.cells [.int .i64 (Int.ofNat 7),.str [],.a0,.a0,.bb] 80 .own 0 0):=by rw[cm];exact fj rfl
 have lr:H.n=aj.n+1:=by rw[cm];rfl
 refine X4 (m+2) nb vs.length b nc cp h (R:=yX aN h (.mk 7 [] (fY.take l.length) l none)) ⟨λ_=>⟨true,aj,aG,rfl,?_⟩,λh=>absurd rfl h⟩
 rw[<-cm]
 refine a4.loop (by kernel_rfl) (λk st=>∃i y Γ bJ bd,st=⟨Γ,[],.none,y⟩/\cl [(0,.slice nb 0 vs.length nc),(1,.slice b 0 vs.length cp),(6,.ptr aj.n 0),(7,.int .i64 (Int.ofNat i))] Γ/\vs.length-i=k/\i<=vs.length/\Ext h.n h y/\H.n<=y.n/\y.get aj.n=some (.cells [.int .i64 (Int.ofNat 7),.str [],bJ,bd,.bb] 80 .own 0 0)/\pH H.n y bJ (fY.take i)/\jC H.n y bd (ps.take i)) ?_ vs.length _ (by omega) ⟨0,H,_,.a0,.a0,rfl,⟨rfl,rfl,rfl,rfl,trivial⟩,by omega,by omega,dA,Nat.le_refl _,v_,.inl ⟨rfl,rfl⟩,.inl ⟨rfl,rfl⟩⟩
 rintro k st ⟨i,y,Γ,bJ,bd,rfl,cP,aq,af,aW,mW,aT,o7,yZ⟩
 refine a4.pre (X5 (Y (m+2)) nb vs.length b aj.n i nc cp y ⟨λab=>?_,λab=>?_⟩) cP rfl rfl rfl
 · have F6:i<3:=by omega
   have jR:(fY.take i).length=i:=ME (by omega)
   have yB:(ps.take i).length=i:=by rw[List.length_take];omega
   refine⟨ab,mV i,iS aW kM (jt i ab),true,y,?_,rfl,?_⟩
   · have:=K9 m (mV i) y
     rw[Yw i F6] at this
     exact this
   refine a4.loop (by kernel_rfl) (λk st=>∃j z Γ,st=⟨Γ,[],.none,z⟩/\cl [(0,.slice nb 0 vs.length nc),(1,.slice b 0 vs.length cp),(6,.ptr aj.n 0),(7,.int .i64 (Int.ofNat i)),(8,.int .i64 (Int.ofNat j))] Γ/\i-j=k/\j<=i/\Ext y.n y z) ?_ i _ (by omega) ⟨0,y,_,rfl,⟨rfl,rfl,rfl,rfl,rfl,trivial⟩,by omega,by omega,Ext.refl _ _⟩
   rintro ea st ⟨j,z,cg,rfl,ox,eU,aL,aZ⟩
   have lI:Ext y.n y (z.room 21):=aZ.h3
   have MF:(z.room 21).get aj.n=some (.cells [.int .i64 (Int.ofNat 7),.str [],bJ,bd,.bb] 80 .own 0 0):=(lI.get _ (by omega)).trans aT
   have MG:pH H.n (z.room 21) bJ (fY.take i):=o7.mono lI (Nat.le_refl _)
   have acK:jC H.n (z.room 21) bd (ps.take i):=yZ.mono lI (Nat.le_refl _)
   have MH:I.sound bJ=true:=cD.sound o7
   have hlen:=cD.len (P:=Tryz.prog) (sT:=63) (by kernel_rfl) MG (z.room 21)
   rw[jR] at hlen
   refine a4.pre (X6 (Y (m+2)) nb vs.length b aj.n i j nc cp z ⟨bJ,aU MF rfl,i,hlen,λgF=>?_,λgF=>?_⟩) ox rfl rfl rfl
   · have kr:∃p,bJ=.slice p 0 i (.a1 1)/\(z.room 21).get p=some (.cells (dN (λd=>[I.str d]) (fY.take i)) 9 .a1 0 0):=by
       rcases MG with⟨_,e⟩|⟨p,aA,ay,bx,_⟩
       · rw[e] at jR;simp at jR;omega
       · exact⟨p,by rw[aA,jR],bx⟩
     obtain⟨p,rfl,aO⟩:=kr
     have YA:=aW.trans aW.n lI
     obtain⟨g,jT,p3⟩:=Bg (m+1) (mV j) (mV i) (z.room 21).n (z.room 21) (by
      have:j=0\/j=1:=by omega
      rcases this with rfl|rfl<;>decide)
     rw[Yv i F6 j gF] at jT
     refine⟨p,0,i,.a1 1,aU MF rfl,gF,mV j,?_,ab,mV i,iS YA kM (jt i ab),true,g,jT,rfl,λ_=>⟨by omega,_,(by show _<ea;omega),j+1,g,_,rfl,⟨rfl,rfl,rfl,rfl,rfl,trivial⟩,rfl,by omega,lI.trans lI.n p3⟩,λh=>by cases h⟩
     refine nu aO ?_
     rw[k3,List.getElem?_map,Nat.zero_add,Nat.mul_one,List.getElem?_eq_getElem (by omega),Yy (by omega)]
     rfl
   · obtain rfl:j=i:=by omega
     refine⟨MH,j,_,_,rfl,rfl,⟨rfl,rfl,rfl,rfl,rfl,trivial⟩,?_⟩
     obtain⟨Z,pB⟩:∃Z,Z=(z.room 21).room 21:=⟨_,rfl⟩
     rw[<-pB]
     have y0:Ext y.n y Z:=by rw[pB];exact lI.h3
     have acL:=y0.n
     have BM:Z.get aj.n=some (.cells [.int .i64 (Int.ofNat 7),.str [],bJ,bd,.bb] 80 .own 0 0):=(y0.get _ (by omega)).trans aT
     have MI:pH H.n Z bJ (fY.take j):=o7.mono y0 (Nat.le_refl _)
     have YB:jC H.n Z bd (ps.take j):=yZ.mono y0 (Nat.le_refl _)
     have hlen:=cD.len (P:=Tryz.prog) (sT:=63) (by kernel_rfl) MI Z
     rw[jR] at hlen
     obtain⟨dm,e4,ec,s1,s2,bI,eX,gP,bL,cb,qp,kY,hg,cW,dw,oB,nM⟩:=grow Yq MI (mV j) 9 (k:=j) (by omega) (by omega)
     have gC:(fY.take j).take j++mV j::(fY.take j).drop j=fY.take (j+1):=by
      have ab:(fY.take j).take j=fY.take j:=List.take_of_length_le (by omega)
      have ad:(fY.take j).drop j=[]:=List.drop_of_length_le (by omega)
      rw[ab,ad,Yx F6]
     rw[gC] at nM
     have gb:hg.get aj.n=some (.cells [.int .i64 (Int.ofNat 7),.str [],bJ,bd,.bb] 80 .own 0 0):=(oB.get _ (by omega)).trans BM
     have gr:gP.get aj.n=some (.cells [.int .i64 (Int.ofNat 7),.str [],bJ,bd,.bb] 80 .own 0 0):=(cb.get _ (by omega)).trans BM
     obtain⟨ic,y1⟩:∃ic,ic=hg.set aj.n (some (.cells [.int .i64 (Int.ofNat 7),.str [],kY,bd,.bb] 80 .own 0 0)):=⟨_,rfl⟩
     have F7:ic.get aj.n=some (.cells [.int .i64 (Int.ofNat 7),.str [],kY,bd,.bb] 80 .own 0 0):=by rw[y1];exact gI rfl
     have cI:ic.n=hg.n:=by rw[y1];rfl
     have YC:pH Z.n ic kY (fY.take (j+1)):=by rw[y1];exact cD.rD nM gb
     have acM:=oB.n
     have MJ:∀d,d<Z.n->d≠aj.n->ic.get d=Z.get d:=λd ao ag=>by rw[y1];exact(dH ag rfl).trans (oB.get d ao)
     have YD:jC H.n ic bd (ps.take j):=cD.XZ YB (by omega) λd ab ad=>MJ d ad (by omega)
     obtain⟨ej,j6,ed,t1,t2,t3,pj,fq,t4,t5,yJ,vQ,l5,t6,t7,t8,t9⟩:=grow sd YD (ps[j]'(by omega)) 35 (k:=j) (by omega) (by omega)
     have wb:(ps.take j).take j++(ps[j]'(by omega))::(ps.take j).drop j=ps.take (j+1):=by
      have ab:(ps.take j).take j=ps.take j:=List.take_of_length_le (by omega)
      have ad:(ps.take j).drop j=[]:=List.drop_of_length_le (by omega)
      rw[ab,ad,List.take_succ_eq_append_getElem (by omega:j<ps.length)]
     rw[wb] at t9
     have F8:l5.get aj.n=some (.cells [.int .i64 (Int.ofNat 7),.str [],kY,bd,.bb] 80 .own 0 0):=(t8.get _ (by omega)).trans F7
     have YE:fq.get aj.n=some (.cells [.int .i64 (Int.ofNat 7),.str [],kY,bd,.bb] 80 .own 0 0):=(t5.get _ (by omega)).trans F7
     obtain⟨y2,wc⟩:∃y2,y2=l5.set aj.n (some (.cells [.int .i64 (Int.ofNat 7),.str [],kY,vQ,.bb] 80 .own 0 0)):=⟨_,rfl⟩
     have acN:=t8.n
     have eH:y2.n=l5.n:=by rw[wc];rfl
     have y3:Ext h.n h Z:=aW.trans aW.n y0
     have up:∀{x},Ext Z.n Z x->Ext h.n h x:=λe=>y3.trans y3.n e
     have F9:Ext h.n h ic:=⟨by have:=y3.n;omega,λd ao=>(MJ d (by have:=y3.n;omega) (by omega)).trans (y3.get d ao)⟩
     have MK:∀{x},Ext ic.n ic x->Ext h.n h x:=λe=>F9.trans F9.n e
     have lJ:∀{x},Ext h.n h x->au x b (0+j*1)=some (.ptr (ps[j]'(by omega)) 0):=λe=>by
      rw[iS e ae (aw j ab)];simp[n3]
     refine⟨bJ,aU BM rfl,j,hlen,by omega,MH,bJ,aU BM rfl,dm,s1,e4,ec,s2,ab,mV j,iS (up bI) kM (jt j ab),eX,gP,bL,bJ,aU gr rfl,qp,cW,kY,hg,dw,cD.cell nM,ic,by rw[y1];exact gJ gb rfl (F5 (cD.cell nM)).1,bd,aU F7 rfl,ej,t1,j6,ed,t2,ab,_,lJ (MK t3),pj,fq,t4,bd,aU YE rfl,yJ,t6,vQ,l5,t7,cD.cell t9,y2,by rw[wc];exact gJ F8 rfl (F5 (cD.cell t9)).2,by omega,_,(by show _<k;omega),j+1,y2,_,kY,vQ,rfl,⟨rfl,rfl,rfl,rfl,trivial⟩,rfl,by omega,?_,by omega,by rw[wc];exact gI rfl,?_,?_⟩
     · exact⟨by have:=F9.n;omega,λd ao=>by rw[wc];exact(dH (by omega) rfl).trans ((MK t8).get d ao)⟩
     · refine cD.le (by omega:H.n<=Z.n) ?_
       rw[wc]
       exact cD.rD (YC.mono t8 (Nat.le_refl _)) F8
     · refine cD.le (by omega:H.n<=ic.n) ?_
       rw[wc]
       exact cD.rD t9 F8
 · obtain rfl:i=vs.length:=by omega
   have jR:ps.take vs.length=ps:=List.take_of_length_le (by omega)
   rw[jR] at yZ
   have yY:fZ aN y (.mk 7 [] (fY.take l.length) l none) (.ptr aj.n 0):=by
    refine⟨aj.n,bJ,bd,.bb,vs,.own,0,0,rfl,⟨by omega,by omega⟩,aT,?_,?_,aB.gY aW,rfl⟩
    · rw[<-fs];exact BI o7 (cD.jl o7 (by omega))
    · rw[n3];exact BI yZ (cD.jl yZ (by omega))
   obtain⟨w,n,bW,ga,f5⟩:=xO m aN aW yY (by omega) (by omega)
   exact⟨aj.n,y,_,rfl,rfl,⟨rfl,trivial⟩,w,n,bW,ga,f5⟩
end Go.Proofs.dj
namespace Go.Proofs.dj
open Go aM Go.Proofs c_ Go.Proofs.cF
set_option maxRecDepth 100000
set_option maxHeartbeats 1000000
theorem ML{t:aF}:∀{l:List aF},t∈l->t.k=1->g7 l=none
 |[],h,_=>by cases h
 |x::l,h,aq=>by
  rw[g7]
  rcases List.mem_cons.1 h with rfl|h
  · rw[if_pos aq]
  · split
    · rfl
    · rw[ML h aq];rfl
theorem MM{t:aF}(aq:¬t.k=1):∀{l f:List aF},g7 l=some f->g7 (l++[t])=some (f++if t.k=9 then t.xs else[t])
 |[],f,h=>by
  cases h
  rw[List.nil_append,g7,if_neg aq,g7];simp
 |x::l,f,h=>by
  rw[g7] at h
  split at h
  · cases h
  · rename_i aa
    cases e:g7 l with
    |none=>rw[e] at h;cases h
    |some r=>
     rw[e] at h
     cases h
     rw[List.cons_append,g7,if_neg aa,MM aq e]
     simp
theorem MN{t:aF}:∀(acc:List aF) (j:Nat),j<=acc.length->(∀i (af:i<acc.length),i<j->dB (wr acc[i]) (wr t)=true)->
  (j=acc.length->h6 t acc=acc.take j++t::acc.drop j)/\(∀aL:j<acc.length,dB (wr acc[j]) (wr t)=false->(wr acc[j]=wr t->h6 t acc=acc)/\(¬wr acc[j]=wr t->h6 t acc=acc.take j++t::acc.drop j))
 |[],j,aL,_=>by
  obtain rfl:j=0:=by simpa using aL
  exact⟨λ_=>rfl,λh=>by simp at h⟩
 |x::acc,0,_,_=>by
  refine⟨λh=>by simp at h,λ_ b8=>?_⟩
  have b8:dB (wr x) (wr t)=false:=b8
  rw[h6,if_neg (by rw[b8];simp)]
  refine⟨λe=>?_,λe=>?_⟩
  · have e:wr x=wr t:=e
    rw[if_pos e]
  · have e:¬wr x=wr t:=e
    rw[if_neg e];rfl
 |x::acc,j+1,aL,aw=>by
  have h0:dB (wr x) (wr t)=true:=aw 0 (by simp) (by omega)
  obtain⟨i1,i2⟩:=MN (t:=t) acc j (by simpa using aL) λi af ru=>by
   have:=aw (i+1) (by simpa using af) (by omega)
   simpa using this
  rw[h6,if_pos h0]
  refine⟨λe=>?_,λgF b8=>?_⟩
  · rw[i1 (by simpa using e)];rfl
  · have YF:j<acc.length:=by simpa using gF
    have w7:dB (wr acc[j]) (wr t)=false:=by simpa using b8
    obtain⟨bE,b0⟩:=i2 YF w7
    refine⟨λe=>?_,λe=>?_⟩
    · rw[bE (by simpa using e)]
    · rw[b0 (by simpa using e)];rfl
theorem MO(l:List aF)(t:aF):eI (l++[t])=h6 t (eI l):=by unfold eI;rw[List.foldl_append];rfl
def F_(l:List aF):Prop:=∃f,g7 l=some f/\(eI f).length≠1/\60<sz (.mk 9 [] [] (eI f) none)
def MP(aN:Nat)(h:J)(l:List aF)(x:av):Prop:=∃g,Ext h.n h g/\((¬F_ l/\∃r,x=.ret (.aP [.ptr r 0,.int .i64 (Int.ofNat 0)]) g/\fZ aN g (mS l) (.ptr r 0))\/(F_ l/\x=.ret (.aP [.bb,.int .i64 (Int.ofNat 3)]) g))
theorem MQ(m aN:Nat){h:J}{t:aF}{r:Nat}(aB:fZ aN h t (.ptr r 0))(ag:dg (some t)=0)(hm:62<=m):∃g,Y m (.fn 79) [.ptr r 0] h=.ret (.str (wr t)) g/\Ext h.n h g:=by
 obtain⟨ab,ad⟩:=kE.1 ag
 have:=vA t ad
 exact Bj (sz t) t (Nat.le_refl _) (by omega) (yr t ad) (by omega) m h.n h _ (by omega) (Nat.le_refl _) aB.at
theorem fa.node{F:Nat->Prop}{h:J}:∀{t:aF} {r:Nat},fa F h t (.ptr r 0)->∃bJ bd cU vs bh aN up,h.get r=some (.cells [.int .i64 (Int.ofNat t.k),.str t.nm,bJ,bd,cU] 80 bh aN up)/\kb F h bd vs/\cT F h t.xs vs/\F r
 |.mk _ _ _ _ _,_,aa=>by
  obtain⟨r,bJ,bd,cU,vs,bh,aN,up,ab,ad,ar,_,bO,cj,_⟩:=aa
  cases ab
  exact⟨bJ,bd,cU,vs,bh,aN,up,ar,bO,cj,ad⟩
theorem cT.nil{F:Nat->Prop}{h:J}:cT F h [] []:=rfl
theorem cT.cons{F:Nat->Prop}{h:J}{t:aF}{v:I}{cv:List aF}{vs:List I}(a_:fa F h t v)(hs:cT F h cv vs):cT F h (t::cv) (v::vs):=⟨v,vs,rfl,a_,hs⟩
theorem kb.src{F:Nat->Prop}{h:J}{v:I}{vs:List I}(hs:kb F h v vs):fP h 1 v=some (vs.length,vs):=by
 rcases hs with⟨rfl,rfl⟩|⟨b,off,cp,rfl,_,ar,aJ,bO⟩
 · rfl
 · exact c7.src (B:=0) ar aJ bO.1
theorem YG(m aN:Nat){h:J}{b off:Nat}{cp:b3}{l:List aF}{ps:List Nat}(hZ:aN<=h.n)(ae:b<h.n)(aw:∀i (af:i<ps.length),au h b (off+i*1)=some (.ptr ps[i] 0))(aB:iV aN h l (ps.map hl))(hlen:ps.length<=10)(ag:∀t∈l,dg (some t)=0){Q:bn->ah->Prop}
  (ab:∀g f w dM Γ,Ext h.n h g->g7 l=some f->jC h.n g w dM->iV aN h f (dM.map hl)->cl [(4,w)] Γ->Q (.exit 0) ⟨Γ,[],.none,g⟩)
  (ad:∀g r Γ,Ext h.n h g->g7 l=none->fZ aN g FJ (.ptr r 0)->cl [(2,.ptr r 0),(3,.int .i64 (Int.ofNat 0))] Γ->Q .ret ⟨Γ,[],.none,g⟩):
  a4 Tryz.prog Tryz.f51 (Y (m+2)) [1,1,1,0,1,0] ⟨[(0,.slice b off ps.length cp),(4,.a0),(5,.int .i64 (Int.ofNat 0))],[],.none,h⟩ Q:=by
 have fs:ps.length=l.length:=by have:=cT.len aB;rwa [List.length_map] at this
 refine a4.loop (by kernel_rfl) (λk st=>∃i y Γ w f dM,st=⟨Γ,[],.none,y⟩/\cl [(0,.slice b off ps.length cp),(4,w),(5,.int .i64 (Int.ofNat i))] Γ/\ps.length-i=k/\i<=ps.length/\Ext h.n h y/\g7 (l.take i)=some f/\jC h.n y w dM/\iV aN h f (dM.map hl)) ?_ ps.length _ (by omega) ⟨0,h,_,.a0,[],[],rfl,⟨rfl,rfl,rfl,trivial⟩,by omega,by omega,Ext.refl _ _,rfl,.inl ⟨rfl,rfl⟩,rfl⟩
 rintro k st ⟨i,y,Γ,w,f,dM,rfl,cP,aq,af,aW,hf,iv,jV⟩
 refine a4.pre (X9 (Y (m+2)) b off _ i cp w y ⟨λi1=>?_,λi1=>?_⟩) cP rfl rfl rfl
 · have i2:i<l.length:=by omega
   have Ga:fZ aN h l[i] (.ptr ps[i] 0):=by
    have:=cT.get aB i (by simpa using i1) i2
    simpa using this
   have xe:fZ aN y l[i] (.ptr ps[i] 0):=Ga.gY aW
   have lJ:=iS aW ae (aw i i1)
   obtain⟨bJ,bd,cU,vs,bh,q6,up,aj,ax,aC,bK⟩:=fa.node xe
   have mW:=aW.n
   have YH:=FW (l:=l.take i) (λt a_=>ag t (List.mem_of_mem_take a_)) hf
   have oC:dM.length=f.length:=by have:=cT.len jV;rwa [List.length_map] at this
   have w_:(l.take i).length<=10:=by rw[List.length_take];omega
   have acO:f.length<=600:=by omega
   refine⟨i1,_,lJ,l[i].k,aU aj rfl,λbE=>?_,λbE=>?_⟩
   · refine ad _ y.n _ (Ext.ks mW aW) (ML (List.getElem_mem i2) bE) ?_ ⟨rfl,rfl,trivial⟩
     exact⟨y.n,.a0,.a0,.bb,[],.own,0,0,rfl,⟨by omega,by simp⟩,fj rfl,.inl ⟨rfl,rfl⟩,.inl ⟨rfl,rfl⟩,rfl,rfl⟩
   have nz:=MM bE hf
   rw[<-List.take_succ_eq_append_getElem i2] at nz
   refine⟨i1,_,lJ,l[i].k,aU aj rfl,λiG=>?_,λiG=>?_⟩
   · obtain⟨us,iM⟩:=cT.BK aC
     have pv:=(kE.1 (ag _ (List.getElem_mem i2))).1
     have G9:us.length<=60:=by
      have aA:=cT.len aC
      rw[iM,List.length_map] at aA
      have ay:=nD l[i].xs
      have bx:cY l[i].xs<=sz l[i]:=by
       cases l[i] with
       |mk cw c2 dm e4 eX=>rw[mL];show cY e4<=_;omega
      omega
     have fy:=kb.src ax
     rw[iM,List.length_map] at fy
     obtain⟨v',g,aA,dv,bA,aD,_⟩:=vc sd (B:=h.n) (es:=us) iv mW (by rw[fy,k3]) (by omega)
     refine⟨i1,_,lJ,bd,aU aj rfl,v',g,aA,by omega,_,(by show _<k;omega),i+1,g,_,v',f++l[i].xs,dM++us,rfl,⟨rfl,rfl,rfl,trivial⟩,rfl,by omega,aW.trans (Nat.le_refl _) bA,by rw[nz,if_pos iG],dv,?_⟩
     obtain⟨YI,jW,YJ,uK,YK,YL,YM,Gb,y4,Gc,Gd⟩:=fa.node Ga
     have ay:some (da.cells [.int .i64 (Int.ofNat l[i].k),.str l[i].nm,YI,jW,YJ] 80 YK YL YM)=some (da.cells [.int .i64 (Int.ofNat l[i].k),.str l[i].nm,bJ,bd,cU] 80 bh q6 up):=by rw[<-Gb,<-aj];exact(aW.get _ Gd.2).symm
     have bx:jW=bd:=by injection ay with ay;injection ay with ay;injection ay with _ ay;injection ay with _ ay;injection ay with _ ay;injection ay with ay
     rw[bx] at y4
     have ef:=kb.src y4
     have ga:=kb.src (kb.ck (G:=sc aN y.n) (g:=y) (Ext.jl aW) y4)
     rw[kb.src ax] at ga
     have gM:uK=vs:=by injection ga with ga;injection ga with _ ga;exact ga.symm
     rw[List.map_append]
     refine cT.app ?_ jV
     rw[<-iM,<-gM];exact Gc
   · obtain⟨v',g,aA,dv,bA,aD,_⟩:=vc sd (B:=h.n) (es:=[ps[i]]) (iv.mono (Ext.push (Nat.le_refl _) _) (Nat.le_refl _)) (by simp;omega) (AV sd y 35 ps[i]) (by rw[List.length_singleton];omega)
     refine⟨i1,_,lJ,v',g,aA,by omega,_,(by show _<k;omega),i+1,g,_,v',f++[l[i]],dM++[ps[i]],rfl,⟨rfl,rfl,rfl,trivial⟩,rfl,by omega,(Ext.ks mW aW).trans (Nat.le_refl _) bA,by rw[nz,if_neg iG],dv,?_⟩
     rw[List.map_append]
     exact cT.app (cT.cons Ga cT.nil) jV
 · obtain rfl:i=ps.length:=by omega
   rw[List.take_of_length_le (by omega)] at hf
   exact ab y f w dM _ aW hf iv jV ⟨rfl,trivial⟩
theorem YN(m aN:Nat){h:J}{jl:Nat}{se:b3}{f:List aF}{bR:List Nat}(hm:100<=m)(hZ:aN<=h.n)(ae:jl<h.n)(aw:∀i (af:i<bR.length),au h jl (0+i*1)=some (.ptr bR[i] 0))(aB:iV aN h f (bR.map hl))(hlen:bR.length<=900)(ag:∀t∈f,dg (some t)=0)(h0:0<bR.length){Q:bn->ah->Prop}
  (ab:∀g p dM Γ,Ext h.n h g->jC h.n g (.slice p 0 dM.length (.a1 1)) dM->iV aN h (eI f) (dM.map hl)->cl [(6,.slice p 0 dM.length (.a1 1))] Γ->Q (.exit 2) ⟨Γ,[],.none,g⟩):
  a4 Tryz.prog Tryz.f51 (Y (m+1)) [1,1,1,1,1,0,1,0] ⟨[(4,.slice jl 0 bR.length se),(6,.a0),(7,.int .i64 (Int.ofNat 0))],[],.none,h⟩ Q:=by
 have fs:bR.length=f.length:=by have:=cT.len aB;rwa [List.length_map] at this
 refine a4.loop (by kernel_rfl) (λk st=>∃i y Γ w dM,st=⟨Γ,[],.none,y⟩/\cl [(4,.slice jl 0 bR.length se),(6,w),(7,.int .i64 (Int.ofNat i))] Γ/\bR.length-i=k/\i<=bR.length/\Ext h.n h y/\jC h.n y w dM/\iV aN h (eI (f.take i)) (dM.map hl)) ?_ bR.length _ (by omega) ⟨0,h,_,.a0,[],rfl,⟨rfl,rfl,rfl,trivial⟩,by omega,by omega,Ext.refl _ _,.inl ⟨rfl,rfl⟩,rfl⟩
 rintro k st ⟨i,y,Γ,w,dM,rfl,cP,aq,af,aW,iv,jV⟩
 have mW:=aW.n
 have oC:dM.length=(eI (f.take i)).length:=by have:=cT.len jV;rwa [List.length_map] at this
 have ja:dM.length<=i:=by
  have:=(yV (f.take i) []).2.1
  rw[List.length_take] at this
  have e:(eI (f.take i)).length<=([]:List aF).length+min i f.length:=this
  simp at e;omega
 have fx:∀t∈eI (f.take i),dg (some t)=0:=λt a_=>by
  rcases yS (f.take i) [] a_ with h|h
  · exact ag t (List.mem_of_mem_take h)
  · cases h
 have y5:∀{x},Ext h.n h x->∀j (aL:j<bR.length),au x jl (0+j*1)=some (.ptr bR[j] 0):=λe j aL=>iS e ae (aw j aL)
 have iT:∀j (aL:j<f.length) (gF:j<bR.length),fZ aN h f[j] (.ptr bR[j] 0):=λj aL gF=>by
  have:=cT.get aB j (by simpa using gF) aL
  simpa using this
 have YO:∀j (aL:j<(eI (f.take i)).length) (gF:j<dM.length),fZ aN h (eI (f.take i))[j] (.ptr dM[j] 0):=λj aL gF=>by
  have:=cT.get jV j (by simpa using gF) aL
  simpa using this
 have fin:∀(i1:i<bR.length) (Z:J) (j:Nat),Ext h.n h Z->(∀p,w=.slice p 0 dM.length (.a1 1)->Z.get p=y.get p)->y.n<=Z.n->j<=dM.length->h6 (f[i]'(by omega)) (eI (f.take i))=(eI (f.take i)).take j++f[i]'(by omega)::(eI (f.take i)).drop j->
   ∃c4 v4 aC,de Tryz.prog Z 50 w none (some (.int .i64 (Int.ofNat j))) none=some c4/\dy Tryz.prog Z 50 (some 50) .a0 c4=some (v4,aC)/\au aC jl (0+i*1)=some (.ptr (bR[i]) 0)/\
   ∃fl bK,dy Tryz.prog (aC.push (.cells [.ptr bR[i] 0] 35 .own 0 0)) 50 (some 50) v4 (.slice aC.n 0 1 (.exact 1))=some (fl,bK)/\
   ∃hT hk bW,de Tryz.prog bK 50 w (some (.int .i64 (Int.ofNat j))) none none=some hT/\dy Tryz.prog bK 50 (some 50) fl hT=some (hk,bW)/\∃sf,Ext h.n h bW/\jC h.n bW hk sf/\iV aN h (eI (f.take (i+1))) (sf.map hl):=by
  intro i1 Z j pB hw YP aL YQ
  have i2:i<f.length:=by omega
  have YR:jC h.n Z w dM:=cD.ck iv YP λp aO _=>hw p aO
  obtain⟨dm,e4,ec,s1,s2,bI,eX,gP,bL,cb,qp,kY,hg,cW,dw,oB,nM⟩:=grow sd YR bR[i] 35 aL (by omega)
  refine⟨dm,e4,ec,s1,s2,y5 (pB.trans pB.n bI) i i1,eX,gP,bL,qp,kY,hg,cW,dw,_,pB.trans pB.n oB,cD.le pB.n nM,?_⟩
  rw[List.take_succ_eq_append_getElem i2,MO,YQ,List.map_append,List.map_cons,List.map_take,List.map_drop]
  exact cT.app (cT.cons (iT i i2 i1) (cT.drop j jV)) (cT.take j jV)
 have YS:∀a b:a5,dF a b=true->a=b:=λa b h=>by simpa[nW] using h
 rcases iv with⟨rfl,rfl⟩|⟨p,rfl,fR,js,k_,pC⟩
 · refine a4.pre (Ya (Y (m+1)) jl _ i se y ⟨λi1=>?_,λi1=>?_⟩) cP rfl rfl rfl
   · have df:eI (f.take i)=[]:=List.eq_nil_of_length_eq_zero (by rw[<-oC];rfl)
     refine a4.loop (by kernel_rfl) (λk st=>∃Γ,st=⟨Γ,[],.none,y⟩/\cl [(4,.slice jl 0 bR.length se),(6,.a0),(7,.int .i64 (Int.ofNat i)),(8,.int .i64 (Int.ofNat 0))] Γ) ?_ 0 _ (by omega) ⟨_,rfl,rfl,rfl,rfl,rfl,trivial⟩
     rintro ea st ⟨cg,rfl,ox⟩
     refine a4.pre (Yc (Y (m+1)) jl _ i se y ⟨by omega,?_⟩) ox rfl rfl rfl
     obtain⟨c4,v4,aC,s1,s2,bI,fl,bK,bL,hT,hk,bW,cb,cW,sf,dw,oB,nM⟩:=fin i1 ((y.room 17).room 17) 0 (aW.h3.h3) (λp aO=>by cases aO) (by simp;omega) (by simp) (by rw[df];rfl)
     exact⟨0,_,_,rfl,rfl,⟨rfl,rfl,rfl,rfl,trivial⟩,by omega,c4,s1,v4,aC,s2,i1,_,bI,fl,bK,bL,hT,cb,hk,bW,cW,by omega,_,(by show _<k;omega),i+1,bW,_,hk,sf,rfl,⟨rfl,rfl,rfl,trivial⟩,rfl,by omega,dw,oB,nM⟩
   · exfalso
     have e:i=bR.length:=by omega
     subst e
     have:=(yV (f.take bR.length) []).2.2 (by rw[List.length_take];omega)
     have aA:0<(eI (f.take bR.length)).length:=this
     rw[<-oC] at aA;simp at aA
 · have iv:jC h.n y (.slice p 0 dM.length (.a1 1)) dM:=.inr ⟨p,rfl,fR,js,k_,pC⟩
   refine a4.pre (X_ (Y (m+1)) jl _ p _ i se (.a1 1) y ⟨λi1=>?_,λi1=>?_⟩) cP rfl rfl rfl
   · have i2:i<f.length:=by omega
     have ci:=ag _ (List.getElem_mem i2)
     refine a4.loop (by kernel_rfl) (λk st=>∃j z Γ,st=⟨Γ,[],.none,z⟩/\cl [(4,.slice jl 0 bR.length se),(6,.slice p 0 dM.length (.a1 1)),(7,.int .i64 (Int.ofNat i)),(8,.int .i64 (Int.ofNat j))] Γ/\dM.length-j=k/\j<=dM.length/\Ext y.n y z/\∀a (aS:a<(eI (f.take i)).length),a<j->dB (wr (eI (f.take i))[a]) (wr f[i])=true) ?_ dM.length _ (by omega) ⟨0,y,_,rfl,⟨rfl,rfl,rfl,rfl,trivial⟩,by omega,by omega,Ext.refl _ _,λa _ h=>absurd h (by omega)⟩
     rintro ea st ⟨j,z,cg,rfl,ox,eU,aL,aZ,b8⟩
     obtain⟨YT,YU⟩:=MN (t:=f[i]) (eI (f.take i)) j (by omega) b8
     have lI:Ext y.n y (z.room 17):=aZ.h3
     have row:∀{x},Ext y.n y x->∀j (aL:j<dM.length),au x p (0+j*1)=some (.ptr dM[j] 0):=λe j aL=>by
      refine nu ((e.get p pC).trans js) ?_
      rw[k3,List.getElem?_map,Nat.zero_add,Nat.mul_one,List.getElem?_eq_getElem (by omega)]
      rfl
     have go:∀{x},Ext y.n y x->Ext h.n h x:=λe=>aW.trans mW e
     have two:∀(gF:j<dM.length) {x},Ext y.n y x->∃aj ax,Y (m+1) (.fn 79) [.ptr dM[j] 0] x=.ret (.str (wr ((eI (f.take i))[j]'(by omega)))) aj/\Ext y.n y aj/\Y (m+1) (.fn 79) [.ptr bR[i] 0] aj=.ret (.str (wr f[i])) ax/\Ext y.n y ax:=λgF {x} e=>by
      obtain⟨aj,cK,bA⟩:=MQ (m+1) aN ((YO j (by omega) gF).gY (go e)) (fx _ (List.getElem_mem (by omega))) (by omega)
      have jg:=e.trans e.n bA
      obtain⟨ax,cG,cX⟩:=MQ (m+1) aN ((iT i i2 i1).gY (go jg)) ci (by omega)
      exact⟨aj,ax,cK,jg,cG,jg.trans jg.n cX⟩
     refine a4.pre (Yb (Y (m+1)) jl _ p _ i j se (.a1 1) z ⟨λgF=>?_,λgF=>?_⟩) ox rfl rfl rfl
     · obtain⟨aj,ax,cK,jg,cG,jN⟩:=two gF lI
       have yD:(wr ((eI (f.take i))[j]'(by omega))).length<=90000:=by
        have a9:=kE.1 (fx ((eI (f.take i))[j]'(by omega)) (List.getElem_mem (by omega)))
        have:=vA _ a9.2
        omega
       obtain⟨aC,iN,dP⟩:=Bg m (wr ((eI (f.take i))[j]'(by omega))) (wr f[i]) ax.n ax yD
       have MR:=jN.trans jN.n dP
       refine⟨gF,_,row lI j gF,_,aj,cK,i1,_,y5 (go jg) i i1,_,ax,cG,_,aC,iN,y5 (go lI) i i1,λae=>?_,λae=>?_⟩
       · refine⟨by omega,_,(by show _<ea;omega),j+1,aC,_,rfl,⟨rfl,rfl,rfl,rfl,trivial⟩,rfl,by omega,MR,λa aS acP=>?_⟩
         by_cases e:a=j
         · subst e;exact ae
         · exact b8 a aS (by omega)
       · refine⟨j,aC,_,rfl,rfl,⟨rfl,rfl,rfl,rfl,trivial⟩,λ_=>?_,λh=>absurd gF h⟩
         have Ge:Ext y.n y (aC.room 17):=MR.h3
         obtain⟨bE,b0,cK,ei,cG,gf⟩:=two gF Ge
         obtain⟨YV,M2⟩:=YU (by omega) ae
         refine⟨gF,_,row Ge j gF,_,bE,cK,i1,_,y5 (go ei) i i1,_,b0,cG,y5 (go Ge) i i1,λaT=>?_,λaT=>?_⟩
         · refine⟨by omega,_,(by show _<k;omega),i+1,b0,_,_,dM,rfl,⟨rfl,rfl,rfl,trivial⟩,rfl,by omega,go gf,iv.mono gf (Nat.le_refl _),?_⟩
           rw[List.take_succ_eq_append_getElem i2,MO,YV (YS _ _ aT)]
           exact jV
         · obtain⟨c4,v4,aC,s1,s2,bI,fl,bK,bL,hT,hk,bW,cb,cW,sf,dw,oB,nM⟩:=fin i1 b0 j (go gf) (λq sQ=>by cases sQ;exact gf.get _ pC) gf.n (by omega) (M2 λe=>by rw[e,JP] at aT;cases aT)
           exact⟨c4,s1,v4,aC,s2,i1,_,bI,fl,bK,bL,hT,cb,hk,bW,cW,by omega,_,(by show _<k;omega),i+1,bW,_,hk,sf,rfl,⟨rfl,rfl,rfl,trivial⟩,rfl,by omega,dw,oB,nM⟩
     · obtain rfl:j=dM.length:=by omega
       refine⟨_,_,_,rfl,rfl,⟨rfl,rfl,rfl,rfl,trivial⟩,λh=>absurd h (by omega),λ_=>?_⟩
       have Gf:Ext y.n y ((z.room 17).room 17):=lI.h3
       obtain⟨c4,v4,aC,s1,s2,bI,fl,bK,bL,hT,hk,bW,cb,cW,sf,dw,oB,nM⟩:=fin i1 ((z.room 17).room 17) dM.length (go Gf) (λq sQ=>by cases sQ;exact Gf.get _ pC) Gf.n (by omega) (YT oC)
       exact⟨c4,s1,v4,aC,s2,i1,_,bI,fl,bK,bL,hT,cb,hk,bW,cW,by omega,_,(by show _<k;omega),i+1,bW,_,hk,sf,rfl,⟨rfl,rfl,rfl,trivial⟩,rfl,by omega,dw,oB,nM⟩
   · obtain rfl:i=bR.length:=by omega
     rw[List.take_of_length_le (by omega)] at jV
     exact ab y p dM _ aW iv jV ⟨rfl,trivial⟩
theorem YW(m aN:Nat){h:J}{b off:Nat}{cp:b3}{l:List aF}{ps:List Nat}(hm:200000<=m)(hZ:aN<=h.n)(ae:b<h.n)(aw:∀i (af:i<ps.length),au h b (off+i*1)=some (.ptr ps[i] 0))(aB:iV aN h l (ps.map hl))(h0:0<ps.length)(hlen:ps.length<=10)(ag:∀t∈l,dg (some t)=0):MP aN h l (Y (m+3) (.fn 51) [.slice b off ps.length cp] h):=by
 have fs:ps.length=l.length:=by have:=cT.len aB;rwa [List.length_map] at this
 obtain⟨aj,aG,bA⟩:=F3 m (vs:=ps.map hl) (cp:=cp) (by omega) (Nat.le_refl _) ae (λi af=>by rw[aw i (by simpa using af)];simp) aB.at (by rw[List.length_map];omega) ag
 rw[List.length_map] at aG
 have tW:=bA.n
 refine X8 (m+2) b off ps.length cp h (R:=MP aN h l) ⟨λe=>absurd e (by omega),λ_=>⟨true,aj,aG,rfl,?_⟩⟩
 refine YG m aN (h:=aj) (by omega) (by omega) (λi af=>iS bA ae (aw i af)) (aB.gY bA) hlen ag (λy f w bR Γ aW hf iv jV cP=>?_) (λy r Γ aW hf mX cP=>?_)
 · have acQ:=Mn ag (by omega) hf
   have YH:=FW ag hf
   have Bc:bR.length=f.length:=by have:=cT.len jV;rwa [List.length_map] at this
   have MS:∀t∈f,dg (some t)=0:=λt a_=>by
    rcases BC hf a_ with hm|⟨x,ab,ad⟩
    · exact ag t hm
    · exact tT (ag x ab) ad
   have mW:=aW.n
   rcases iv with⟨_,e⟩|⟨p,rfl,fR,js,k_,pC⟩
   · rw[e] at Bc;simp at Bc;omega
   left
   refine⟨p,0,bR.length,.a1 1,y,Γ,rfl,rfl,cP,?_⟩
   refine YN (m+1) aN (h:=y) (by omega) (by omega) pC (λi af=>by
    refine nu js ?_
    rw[k3,List.getElem?_map,Nat.zero_add,Nat.mul_one,List.getElem?_eq_getElem (by omega)]
    rfl) (jV.gY aW) (by omega) MS (by omega) (λz q dM Γ aZ y6 BN cP=>?_)
   have oC:dM.length=(eI f).length:=by have:=cT.len BN;rwa [List.length_map] at this
   have we:=bA.trans bA.n (aW.trans mW aZ)
   have fx:∀t∈eI f,dg (some t)=0:=λt a_=>by
    rcases yS f [] a_ with h|h
    · exact MS t h
    · cases h
   refine⟨q,0,dM.length,.a1 1,z,Γ,rfl,rfl,cP,λaA=>?_,λaA=>?_⟩
   · obtain⟨t,a_⟩:∃t,eI f=[t]:=by
       cases hs:eI f with
       |nil=>
        rw[hs] at oC
        have:dM.length=0:=oC
        omega
       |cons t s=>
        rw[hs] at oC
        have:s=[]:=List.eq_nil_of_length_eq_zero (by simp at oC;omega)
        exact⟨t,by rw[this]⟩
     obtain⟨r,ak⟩:∃r,dM=[r]:=by
      cases dM with
      |nil=>simp at aA
      |cons r s=>
       have:s=[]:=by simpa using aA
       exact⟨r,by rw[this]⟩
     subst ak
     refine⟨by omega,r,?_,z,we,.inl ⟨?_,r,rfl,?_⟩⟩
     · rcases y6 with⟨e,_⟩|⟨acR,e,_,b5,_⟩
       · cases e
       · cases e;exact aU b5 rfl
     · rintro⟨Df,sg,pZ,_⟩
       rw[hf] at sg;cases sg
       rw[a_] at pZ;exact pZ rfl
     · rw[a_] at BN
       have hu:mS l=t:=by unfold mS;rw[hf];simp only[a_]
       rw[hu]
       obtain⟨v,ws,e,bE,_⟩:=BN
       cases e
       exact fZ.gY aZ bE
   · obtain⟨H,cm⟩:∃H,H=z.push (.cells [.int .i64 (Int.ofNat 9),.str [],.a0,.slice q 0 dM.length (.a1 1),.bb] 80 .own 0 0):=⟨_,rfl⟩
     have dA:Ext z.n z H:=by rw[cm];exact Ext.push (Nat.le_refl _) _
     have acS:=aZ.n
     have yY:fZ aN H (.mk 9 [] [] (eI f) none) (.ptr z.n 0):=by
      refine⟨z.n,.a0,_,.bb,dM.map hl,.own,0,0,rfl,⟨by omega,by rw[cm];simp⟩,by rw[cm];exact fj rfl,.inl ⟨rfl,rfl⟩,BI (y6.mono dA (Nat.le_refl _)) (cD.jl (y6.mono dA (Nat.le_refl _)) (by omega)),BN.gY (aZ.trans aZ.n dA),rfl⟩
     have rX:dY (.mk 9 [] [] (eI f) none)=true:=Mo ag (by omega) hf (by omega)
     have Hh:sz (.mk 9 [] [] (eI f) none)<=60001+dx none:=F4 9 [] (eI f) none fx (by
      have:=(yV f []).2.1
      have e:(eI f).length<=([]:List aF).length+f.length:=this
      simp at e;omega)
     have eF:dx none=0:=by rw[dx]
     have hu:mS l=pE (.mk 9 [] [] (eI f) none):=by
      unfold mS
      rw[hf]
      simp only
      cases hs:eI f with
      |nil=>rfl
      |cons t s=>
       cases s with
       |nil=>rw[hs] at oC;exact absurd oC aA
       |cons acT s=>rfl
     obtain⟨w,n,bW,ga,YX,f1,f2⟩:=xO m aN (we.trans we.n (dA.le (by have:=we.n;omega))) yY (by omega) (by omega)
     rw[cm] at ga
     refine⟨w,n,bW,ga,YX,f1,?_⟩
     rcases f2 with⟨cj,r,f3,f4⟩|⟨cj,f3⟩
     · refine .inl ⟨?_,r,f3,by rw[hu,yU rX,if_pos cj];exact f4⟩
       rintro⟨Df,sg,_,db⟩
       rw[hf] at sg;cases sg
       omega
     · exact .inr ⟨⟨f,hf,by omega,cj⟩,f3⟩
 · right
   refine⟨r,y,Γ,rfl,rfl,cP,y,bA.trans tW (aW.le (Nat.le_refl _)),.inl ⟨?_,r,rfl,?_⟩⟩
   · rintro⟨Df,sg,_⟩;rw[hf] at sg;cases sg
   · have hu:mS l=FJ:=by unfold mS;rw[hf]
     rw[hu];exact mX
end Go.Proofs.dj
namespace Go.Proofs.dj
open Go aM Go.Proofs c_ Go.Proofs.cF
set_option maxRecDepth 100000
set_option maxHeartbeats 1000000
def kd:Nat->Nat
 |0=>1
 |d+1=>1+3*kd d
theorem sh(n:Nat)(m:e5):(c0 n m).2.nodes=m.nodes:=by unfold c0;split<;>rfl
theorem MT(k:Nat)(l:List aF)(m:e5):(fI k l m).2.nodes=m.nodes:=by
 unfold fI
 split
 · exact sh 2 m
 split
 · rfl
 split
 · rfl
 split<;>rfl
theorem MU{f:e5->aF×e5}{b:Nat}(hf:∀m,(f m).2.nodes<=m.nodes+b):∀n m,(hC f n m).2.nodes<=m.nodes+n*b
 |0,m=>by simp[hC]
 |n+1,m=>by
  have ab:=hf m
  have ad:=MU hf n (f m).2
  show(hC f n (f m).2).2.nodes<=_
  rw[Nat.succ_mul];omega
theorem MV{f:e5->aF×e5}:∀n m,(hC f n m).1.length=n
 |0,m=>rfl
 |n+1,m=>by show(hC f n (f m).2).1.length+1=_;rw[MV n]
def Gg(d bh:Nat)(s:e5):aF×e5:=fI bh (hC (ev d) ((c0 3 s).1+1) (c0 3 s).2).1 (hC (ev d) ((c0 3 s).1+1) (c0 3 s).2).2
theorem MW:∀d m,(ev d m).2.nodes<=m.nodes+kd d
 |0,m=>by
  rw[ev,MT,sh,sh,sh];exact Nat.le_refl _
 |d+1,m=>by
  rw[ev,MT,kd]
  have key:∀(c:Prop) [Decidable c] (n:Nat) (jI:e5),n<=3->jI.nodes=m.nodes+1->(if c then hC (ev d) n jI else([],jI)).2.nodes<=m.nodes+(1+3*kd d):=by
   intro c _ n jI aK hm
   split
   · have:=MU (MW d) n jI
     have ar:n*kd d<=3*kd d:=Nat.mul_le_mul_right _ aK
     omega
   · simp only;omega
  refine key _ _ _ ?_ ?_
  · split
    · have:=nK (n:=3) (by omega) (c0 5 (c0 9 ⟨m.left,m.nodes+1⟩).2).2
      omega
    · have:=nK (n:=3) (by omega) (c0 9 ⟨m.left,m.nodes+1⟩).2
      omega
  · split<;>simp only[sh]
theorem fK.low{B c:Nat}{h g:J}{m:e5}(o:fK B c h m)(aK:h.n<=g.n)(ag:g.get c=h.get c)(cM:∀d,d<B->g.get d=h.get d):fK B c g m:=by
 obtain⟨v,ab,ad⟩:=o.get
 refine⟨⟨v,ag.trans ab,?_⟩,o.aN,Nat.lt_of_lt_of_le o.up aK⟩
 rcases ad with ad|⟨b,off,cp,bE,b0,ec,gP⟩
 · exact .inl ad
 · exact .inr ⟨b,off,cp,bE,b0,ec,λi af=>(BJ (cM b b0)).trans (gP i af)⟩
theorem MX(m d:Nat){B c:Nat}(wg:∀(h:J) (s:e5),fK B c h s->s.nodes+kd d<=1000000->∃r g,Y m (.fn 27) [.ptr c 0,.int .i64 (Int.ofNat d)] h=.ret (.ptr r 0) g/\fK B c g (ev d s).2/\eo c h g/\fZ h.n g (ev d s).1 (.ptr r 0))
  {k q n:Nat}{h:J}{s:e5}(aq:7<=k)(ao:d<=1000)(hs:fK B c h s)(aK:n<=3)(kM:s.nodes+n*kd d<=1000000){Q:bn->ah->Prop}
  (Ei:∀g w ps Γ,eo c h g->fK B c g (hC (ev d) n s).2->jC h.n g w ps->iV h.n g (hC (ev d) n s).1 (ps.map hl)->cl [(0,.ptr c 0),(5,.int .i64 (Int.ofNat k)),(6,.ptr q 0),(7,w)] Γ->Q (.exit 0) ⟨Γ,[],.none,g⟩):
  a4 Tryz.prog Tryz.f27 (Y m) [1,1,1,1,1,1,0,1,0] ⟨[(0,.ptr c 0),(1,.int .i64 (Int.ofNat (d+1))),(5,.int .i64 (Int.ofNat k)),(6,.ptr q 0),(7,.a0),(8,.int .i64 (Int.ofNat n))],[],.none,h⟩ Q:=by
 have p0:=hs.up
 refine a4.loop (by kernel_rfl) (λj st=>∃i y Γ w cv ps bg,st=⟨Γ,[],.none,y⟩/\cl [(0,.ptr c 0),(1,.int .i64 (Int.ofNat (d+1))),(5,.int .i64 (Int.ofNat k)),(6,.ptr q 0),(7,w),(8,.int .i64 (Int.ofNat i))] Γ/\i=j/\i<=3/\eo c h y/\fK B c y bg/\bg.nodes+i*kd d<=1000000/\cv.length+i<=3/\jC h.n y w ps/\cT (λb=>h.n<=b/\b<y.n/\∀n cp,w≠ .slice b 0 n cp) y cv (ps.map hl)/\(hC (ev d) n s).1=cv++(hC (ev d) i bg).1/\(hC (ev d) n s).2=(hC (ev d) i bg).2) ?_ n _ (by omega) ⟨n,h,_,.a0,[],[],s,rfl,⟨rfl,rfl,rfl,rfl,rfl,rfl,trivial⟩,rfl,aK,eo.refl _ _,hs,kM,by simpa using aK,.inl ⟨rfl,rfl⟩,rfl,rfl,rfl⟩
 rintro j st ⟨i,y,Γ,w,cv,ps,bg,rfl,cP,rfl,af,aW,dp,YY,acU,iv,jV,aA,ay⟩
 have fin:i=0->Q (.exit 0) ⟨[(0,.ptr c 0),(1,.int .i64 (Int.ofNat (d+1))),(5,.int .i64 (Int.ofNat k)),(6,.ptr q 0),(7,w),(8,.int .i64 (Int.ofNat i))],[],.none,y⟩:=λh0=>by
  subst h0
  have aA:(hC (ev d) n s).1=cv:=by rw[aA];exact List.append_nil _
  have ay:(hC (ev d) n s).2=bg:=ay
  exact Ei y w ps _ aW (by rw[ay];exact dp) iv (by rw[aA];exact cT.ck (λb ae=>⟨⟨ae.1,ae.2.1⟩,rfl⟩) _ _ jV) ⟨rfl,rfl,rfl,rfl,trivial⟩
 have mW:=aW.n
 refine a4.pre (Mw (Y m) c (d+1) k q i w y ⟨λi1=>⟨λ_=>?_,λh=>absurd aq h⟩,λi1=>fin (by omega)⟩) cP rfl rfl rfl
 obtain⟨i,rfl⟩:∃a,i=a+1:=⟨i-1,by omega⟩
 rw[Nat.succ_mul] at YY
 obtain⟨r,g,aG,a3,bA,t1⟩:=wg y bg dp (by omega)
 have tW:=bA.n
 have cV:∀n cp,w≠ .slice c 0 n cp:=by
  intro n cp e
  rcases iv with⟨rfl,_⟩|⟨p,rfl,_,_,aJ,_⟩
  · cases e
  · cases e;omega
 have YZ:jC h.n g w ps:=cD.ck iv tW λp aO BO=>bA.get p BO λe=>by subst e;exact cV _ _ aO
 have fx:=dp.up
 have hr:ps.length=cv.length:=by have:=cT.len jV;rwa [List.length_map] at this
 obtain⟨H,cm⟩:∃H,H=g.push (.cells [.ptr r 0] 35 .own 0 0):=⟨_,rfl⟩
 have lr:H.n=g.n+1:=by rw[cm];rfl
 have y7:∀b,b<g.n->H.get b=g.get b:=λb ae=>by rw[cm];exact mC ae rfl
 have Y0:jC h.n H w ps:=cD.ck YZ (by omega) λp _ BO=>y7 p BO
 obtain⟨ax,cw,c2,dm,e4,eX⟩:=Mp sd Y0 (by omega) (d:=r) (src:=.slice g.n 0 1 (.exact 1)) (by rw[cm];exact AV sd g 35 r) (by omega)
 subst cm
 refine⟨⟨by omega,by omega⟩,r,g,aG,_,ax,cw,⟨by omega,by omega⟩,i,(by show i<i+1;omega),i,ax,_,_,cv++[(ev d bg).1],ps++[r],(ev d bg).2,rfl,⟨rfl,rfl,rfl,rfl,rfl,rfl,trivial⟩,rfl,by omega,?_,?_,?_,by rw[List.length_append,List.length_singleton];omega,?_,?_,by rw[aA];simp[hC],by rw[ay];rfl⟩
 · exact⟨by omega,λb ae q3=>(e4.get b ae).trans (((y7 b (by omega)).trans (bA.get b (by omega) q3)).trans (aW.get b ae q3))⟩
 · exact a3.low (by omega) ((eX c (by omega) cV).trans (y7 c (by have:=a3.up;omega))) λb ae=>by
    have hZ:=hs.aN
    exact(e4.get b (by omega)).trans (y7 b (by omega))
 · have:=MW d bg
   omega
 · exact .inr ⟨_,rfl,by simp,c2,by omega,by omega⟩
 · rw[List.map_append]
   have old:∀b,h.n<=b->b<g.n->(∀n cp,w≠ .slice b 0 n cp)->(h.n<=b/\b<ax.n/\∀n cp,I.slice (g.n+1) 0 (ps++[r]).length (b3.a1 1)≠ .slice b 0 n cp)/\ax.get b=g.get b:=λb ab ad ar=>by
    refine⟨⟨ab,by omega,λn cp e=>by cases e;omega⟩,(eX b (by omega) ar).trans (y7 b ad)⟩
   refine cT.app (cT.cons (fa.ck (λb ae=>old b (by have:=ae.1;omega) ae.2 λn cp e=>?_) _ _ t1) cT.nil) (cT.ck (λb ae=>?_) _ _ jV)
   · rcases iv with⟨rfl,_⟩|⟨p,rfl,_,_,_,bO⟩
     · cases e
     · cases e;have:=ae.1;omega
   · obtain⟨bt,bH,ej⟩:=ae
     obtain⟨dv,dC⟩:=old b bt (by omega) ej
     exact⟨dv,dC.trans (bA.get b bH (by omega))⟩
theorem fK.count{B c:Nat}{h:J}{s:e5}(o:fK B c h s):∃g,au h c (0+1)=some (.int .i64 (Int.ofNat s.nodes))/\aM.storeCells h c (0+1) [.int .i64 (Int.ofNat (s.nodes+1))]=some g/\fK B c g ⟨s.left,s.nodes+1⟩/\eo c h g/\g.n=h.n:=by
 obtain⟨v,ab,ad⟩:=o.get
 have v7:=o.up
 have hZ:=o.aN
 refine⟨_,aU ab rfl,gJ ab rfl rfl,⟨⟨v,gI rfl,?_⟩,o.aN,by simpa using o.up⟩,⟨by simp,λd _ ao=>dH ao rfl⟩,rfl⟩
 rcases ad with ad|⟨b,off,cp,bE,b0,ec,gP⟩
 · exact .inl ad
 · exact .inr ⟨b,off,cp,bE,b0,ec,λi af=>(BJ (dH (by omega) rfl)).trans (gP i af)⟩
def oD(B c:Nat)(h:J)(t:aF)(s:e5)(e:bn)(st:ah):Prop:=e=.ret/\∃r g,st=⟨[(4,.ptr r 0)],[],.none,g⟩/\fK B c g s/\eo c h g/\fZ h.n g t (.ptr r 0)
theorem eo.push{c:Nat}{h g:J}(e:eo c h g)(o:da):eo c h (g.push o):=⟨by have:=e.n;simp;omega,λd ao ag=>(mC (by have:=e.n;omega) rfl).trans (e.get d ao ag)⟩
abbrev qG:da:=.cells [.str [97],.str [98],.str [99]] 9 .own 0 0
theorem MY(m D:Nat){B c bh:Nat}{h:J}{s:e5}(hs:fK B c h s)(ab:1<=bh)(cj:bh<=6):a4 Tryz.prog Tryz.f27 (Y (m+1)) [1,1,1,1] ⟨[(0,.ptr c 0),(1,.int .i64 (Int.ofNat D)),(5,.int .i64 (Int.ofNat bh))],[],.none,h⟩ (oD B c h (fI bh [] (c0 3 s).2).1 (fI bh [] (c0 3 s).2).2):=by
 have BP:=hs.up
 have hZ:=hs.aN
 obtain⟨H,cm⟩:∃H,H=h.push (.cells [.int .i64 (Int.ofNat bh),.str [],.a0,.a0,.bb] 80 .own 0 0):=⟨_,rfl⟩
 have dA:Ext h.n h H:=by rw[cm];exact Ext.push (Nat.le_refl _) _
 have lr:H.n=h.n+1:=by rw[cm];rfl
 have v_:H.get h.n=some (.cells [.int .i64 (Int.ofNat bh),.str [],.a0,.a0,.bb] 80 .own 0 0):=by rw[cm];exact fj rfl
 obtain⟨aj,aG,a3,bA⟩:=tU m 3 (hs.move dA) (by omega)
 have tW:=bA.n
 have bG:=nK (n:=3) (by omega) s
 have ba:aj.get h.n=some (.cells [.int .i64 (Int.ofNat bh),.str [],.a0,.a0,.bb] 80 .own 0 0):=(bA.get _ (by omega) (by omega)).trans v_
 have tX:eo c h aj:=(eo.kD dA).trans bA
 refine Yd (Y (m+1)) c D bh h ⟨(c0 3 s).1,aj,by rw[<-cm];exact aG,by omega,?_⟩
 refine a4.loop (by kernel_rfl) (λj st=>∃Γ,st=⟨Γ,[],.none,aj⟩/\cl [(0,.ptr c 0),(1,.int .i64 (Int.ofNat D)),(5,.int .i64 (Int.ofNat bh)),(6,.ptr h.n 0),(7,.a0),(8,.int .i64 (Int.ofNat ((c0 3 s).1+1)))] Γ) ?_ 0 _ (by omega) ⟨_,rfl,rfl,rfl,rfl,rfl,rfl,rfl,trivial⟩
 rintro j st ⟨Γ,rfl,cP⟩
 refine a4.pre (Mw (Y (m+1)) c D bh h.n _ .a0 aj ⟨λ_=>⟨λdb=>absurd db (by omega),λ_=>?_⟩,λh=>absurd h (by omega)⟩) cP rfl rfl rfl
 obtain⟨G,iC⟩:∃G,G=aj.push qG:=⟨_,rfl⟩
 have wh:G.n=aj.n+1:=by rw[iC];rfl
 have l_:Ext aj.n aj G:=by rw[iC];exact Ext.push (Nat.le_refl _) _
 have MZ:G.get h.n=some (.cells [.int .i64 (Int.ofNat bh),.str [],.a0,.a0,.bb] 80 .own 0 0):=(l_.get _ (by omega)).trans ba
 have M0:∀(g:J) (t:aF) (nm:a5),t=.mk bh nm [] [] none->g.get h.n=some (.cells [.int .i64 (Int.ofNat bh),.str nm,.a0,.a0,.bb] 80 .own 0 0)->h.n<g.n->fZ h.n g t (.ptr h.n 0):=λg t nm e al aK=>by
  subst e
  exact⟨h.n,.a0,.a0,.bb,[],.own,0,0,rfl,⟨Nat.le_refl _,aK⟩,al,.inl ⟨rfl,rfl⟩,.inl ⟨rfl,rfl⟩,rfl,rfl⟩
 refine⟨h.n,aj,_,rfl,rfl,⟨rfl,rfl,rfl,rfl,trivial⟩,λgM=>?_,λcI=>⟨by omega,by omega,by omega,λ_=>?_,λh=>absurd rfl h⟩⟩
 · subst gM
   obtain⟨K,di⟩:∃K,K=G.push (.cells [.str [109,46,84],.str [109,46,85]] 9 .own 0 0):=⟨_,rfl⟩
   have Gh:Ext G.n G K:=by rw[di];exact Ext.push (Nat.le_refl _) _
   have acV:K.n=G.n+1:=by rw[di];rfl
   obtain⟨aC,dn,nC,dP⟩:=tU m 2 ((a3.move l_).move Gh) (by omega)
   have bm:=nK (n:=2) (by omega) (c0 3 s).2
   have Yu:=dP.n
   have b5:aC.get h.n=some (.cells [.int .i64 (Int.ofNat 6),.str [],.a0,.a0,.bb] 80 .own 0 0):=(dP.get _ (by omega) (by omega)).trans ((Gh.get _ (by omega)).trans MZ)
   have ed:aC.get G.n=some (.cells [.str [109,46,84],.str [109,46,85]] 9 .own 0 0):=(dP.get _ (by omega) (by have:=a3.up;omega)).trans (by rw[di];exact fj rfl)
   have dq:au aC G.n (0+(c0 2 (c0 3 s).2).1*1)=some (.str (vZ (c0 2 (c0 3 s).2).1)):=by
    have:(c0 2 (c0 3 s).2).1=0\/(c0 2 (c0 3 s).2).1=1:=by omega
    rcases this with e|e<;>rw[e]<;>exact aU ed rfl
   obtain⟨bK,l9⟩:∃bK,bK=aC.set h.n (some (.cells [.int .i64 (Int.ofNat 6),.str (vZ (c0 2 (c0 3 s).2).1),.a0,.a0,.bb] 80 .own 0 0)):=⟨_,rfl⟩
   have vS:eo c h aC:=(tX.trans (eo.kD l_)).trans ((eo.kD Gh).trans dP)
   subst di;subst iC
   refine⟨_,aC,dn,bm,_,dq,bK,by rw[l9];exact gJ b5 rfl rfl,λ_=>⟨rfl,_,_,rfl,?_,?_,?_⟩,λh=>absurd rfl h⟩
   · have e:(fI 6 [] (c0 3 s).2).2=(c0 2 (c0 3 s).2).2:=by simp[fI]
     rw[e]
     exact nC.low (by rw[l9];simp) (by rw[l9];exact dH (by omega) rfl) λd ao=>by rw[l9];exact dH (by omega) rfl
   · exact⟨by rw[l9];have:=vS.n;simpa using this,λd ao ag=>by rw[l9];exact(dH (by omega) rfl).trans (vS.get d ao ag)⟩
   · exact M0 _ _ (vZ (c0 2 (c0 3 s).2).1) (by simp[fI]) (by rw[l9];exact gI rfl) (by rw[l9];simp;omega)
 · have Y1:h.n<G.n:=by omega
   subst iC
   have e:fI bh [] (c0 3 s).2=(.mk bh [] [] [] none,(c0 3 s).2):=by
    unfold fI
    rw[if_neg cI,if_neg (by omega),if_neg (by omega),if_neg (by omega)]
   rw[e]
   exact⟨rfl,_,_,rfl,a3.move l_,tX.trans (eo.kD l_),M0 _ _ [] rfl MZ Y1⟩
def M1:List aF->aF
 |[]=>pD
 |x::l=>.mk 8 [] [] l (some x)
def si(bh:Nat)(l:List aF):Prop:=(bh=7/\60<sz (.mk 7 [] (fY.take l.length) l none))\/(bh=8/\60<sz (M1 l))\/(bh=9/\F_ l)
theorem Y2{bh:Nat}{l:List aF}(m:e5)(ae:si bh l)(aw:∀t∈l,dg (some t)=0)(ar:l.length<=3)(h0:0<l.length):fI bh l m=(pD,m):=by
 rcases ae with⟨rfl,cj⟩|⟨rfl,cj⟩|⟨rfl,f,hf,ab,cj⟩
 · have:FK l=pD:=by rw[rec_eq aw ar,if_neg (by omega)]
   simp[fI,this]
 · have:BB l=pD:=by
     cases l with
     |nil=>rfl
     |cons x l=>
      have cj:60<sz (.mk 8 [] [] l (some x)):=cj
      show pE _=_
      rw[yU (Mg (λt a_=>aw t (List.mem_cons_of_mem _ a_)) (aw x (List.mem_cons_self ..))),if_neg (by omega)]
   simp[fI,this]
 · have rX:=Mo aw h0 hf ab
   have:mS l=pD:=by
    unfold mS
    rw[hf]
    simp only
    split
    · rename_i t a_;rw[a_] at ab;exact absurd rfl ab
    · rw[yU rX,if_neg (by omega)]
   simp[fI,this]
theorem BQ{h:J}{p:Nat}{ps:List Nat}(al:h.get p=some (.cells (dN (λd=>[hl d]) ps) 35 .a1 0 0))(i:Nat)(af:i<ps.length):au h p (0+i*1)=some (.ptr ps[i] 0):=by
 refine nu al ?_
 rw[k3,List.getElem?_map,Nat.zero_add,Nat.mul_one,List.getElem?_eq_getElem (by omega)]
 rfl
theorem M3(m bh:Nat){B c:Nat}{h g:J}{bg:e5}{l:List aF}{p:Nat}{ps:List Nat}(hm:200000<=m)(aa:eo c h g)(hs:fK B c g bg)(iv:jC (h.n+1) g (.slice p 0 ps.length (.a1 1)) ps)(mX:iV (h.n+1) g l (ps.map hl))(h0:0<ps.length)(ar:ps.length<=3)(ag:∀t∈l,dg (some t)=0)(Kp:c<h.n)(acW:h.n<g.n):
  (bh=7->∃v1,de Tryz.prog (g.push qG) 63 (.slice g.n 0 3 (.exact 3)) none (some (.int .i64 (Int.ofNat ps.length))) none=some v1/\∃v e aC,Y (m+3) (.fn 49) [v1,.slice p 0 ps.length (.a1 1)] (g.push qG)=.ret (.aP [v,.int .i64 (Int.ofNat e)]) aC/\eo c h aC/\fK B c aC bg/\((si bh l/\v=.bb/\e=3)\/(¬si bh l/\e=0/\∃r,v=.ptr r 0/\fZ h.n aC (fI bh l bg).1 (.ptr r 0)/\(fI bh l bg).2=bg)))/\
  (bh=8->∃v1,de Tryz.prog ((g.push qG).room 11) 50 (.slice p 0 ps.length (.a1 1)) (some (.int .i64 (Int.ofNat 1))) none none=some v1/\I.sound v1=true/\∃x,au ((g.push qG).room 11) p (0+0*1)=some (.ptr x 0)/\∃v e aC,Y (m+3) (.fn 50) [v1,.ptr x 0] ((g.push qG).room 11)=.ret (.aP [v,.int .i64 (Int.ofNat e)]) aC/\eo c h aC/\fK B c aC bg/\((si bh l/\v=.bb/\e=3)\/(¬si bh l/\e=0/\∃r,v=.ptr r 0/\fZ h.n aC (fI bh l bg).1 (.ptr r 0)/\(fI bh l bg).2=bg)))/\
  (bh=9->∃v e aC,Y (m+3) (.fn 51) [.slice p 0 ps.length (.a1 1)] (g.push qG)=.ret (.aP [v,.int .i64 (Int.ofNat e)]) aC/\eo c h aC/\fK B c aC bg/\((si bh l/\v=.bb/\e=3)\/(¬si bh l/\e=0/\∃r,v=.ptr r 0/\fZ h.n aC (fI bh l bg).1 (.ptr r 0)/\(fI bh l bg).2=bg))):=by
 have fs:ps.length=l.length:=by have:=cT.len mX;rwa [List.length_map] at this
 have BP:=hs.up
 obtain⟨G,iC⟩:∃G,G=g.push qG:=⟨_,rfl⟩
 have l_:Ext g.n g G:=by rw[iC];exact Ext.push (Nat.le_refl _) _
 have wh:G.n=g.n+1:=by rw[iC];rfl
 have Y3:G.get g.n=some qG:=by rw[iC];exact fj rfl
 rw[<-iC]
 have aO:G.get p=some (.cells (dN (λd=>[hl d]) ps) 35 .a1 0 0)/\p<g.n:=by
  rcases iv with⟨e,_⟩|⟨q,e,_,b5,_,gb⟩
  · cases e
  · cases e;exact⟨(l_.get _ gb).trans b5,gb⟩
 obtain⟨aO,BO⟩:=aO
 have cast:∀{r:Nat} {K:J} {t:aF},fZ (h.n+1) K t (.ptr r 0)->fZ h.n K t (.ptr r 0):=λo=>fa.ck (λb ae=>⟨⟨by have:=ae.1;omega,ae.2⟩,rfl⟩) _ _ o
 have Gi:iV (h.n+1) G l (ps.map hl):=mX.gY l_
 refine⟨λgq=>?_,λgX=>?_,λgC=>?_⟩
 · subst gq
   obtain⟨off,cp,s1,s2,bI⟩:=My (P:=Tryz.prog) (h:=G) (T:=63) (E:=9) (b:=g.n) (off:=0) (n:=3) (cp:=.exact 3) (by kernel_rfl) (by kernel_rfl) ar (Nat.le_refl 3)
   obtain⟨rfl,_⟩:=bI h0
   refine⟨_,s1,?_⟩
   have f:=Yz m (h.n+1) (h:=G) (nb:=g.n) (b:=p) (nc:=cp) (cp:=.a1 1) (l:=l) (vs:=ps.map hl) hm (by omega) (by omega) (by omega) (λi af=>by
    rw[List.length_map] at af
    have:i=0\/i=1\/i=2:=by omega
    rcases this with rfl|rfl|rfl<;>exact aU Y3 rfl) (λi af=>by
    rw[List.length_map] at af
    rw[BQ aO i af];simp) Gi (by rw[List.length_map];omega) ag
   rw[List.length_map] at f
   obtain⟨aC,dP,f⟩:=f
   have sj:=(aa.trans (eo.kD l_)).trans (eo.kD dP)
   have jD:=(hs.move l_).move dP
   rcases f with⟨cj,r,f1,f2⟩|⟨cj,f1⟩
   · refine⟨_,_,aC,f1,sj,jD,.inr ⟨?_,rfl,r,rfl,?_,by simp[fI]⟩⟩
     · rintro(⟨_,db⟩|⟨db,_⟩|⟨db,_⟩)<;>omega
     · have e:(fI 7 l bg).1=.mk 7 [] (fY.take l.length) l none:=by simp[fI,rec_eq ag (by omega:l.length<=3),if_pos cj]
       rw[e];exact cast f2
   · exact⟨_,_,aC,f1,sj,jD,.inl ⟨.inl ⟨rfl,cj⟩,rfl,rfl⟩⟩
 · subst gX
   cases l with
   |nil=>exact absurd fs (by show¬ps.length=0;omega)
   |cons x l=>
    cases ps with
    |nil=>simp at h0
    |cons q ps=>
     have Gj:Ext G.n G (G.room 11):=Ext.room _ _ _
     have M4:(G.room 11).n=G.n+11:=rfl
     have Gk:(G.room 11).get p=some (.cells (dN (λd=>[hl d]) (q::ps)) 35 .a1 0 0):=aO
     have Y4:=iV.gY Gj Gi
     obtain⟨v,ws,e,t1,t2⟩:=Y4
     cases e
     have hr:ps.length=l.length:=by simpa using fs
     obtain⟨off,cp,s1,s2,bI⟩:=FY (P:=Tryz.prog) (h:=G.room 11) (T:=50) (E:=35) (b:=p) (off:=0) (n:=(q::ps).length) (cp:=.a1 1) (by kernel_rfl) (by kernel_rfl) h0 rfl
     refine⟨_,s1,rfl,q,BQ Gk 0 (by simp),?_⟩
     have el:(q::ps).length-1=ps.length:=rfl
     rw[el] at bI⊢
     have fU:∀{K:J},K.get p=some (.cells (dN (λd=>[hl d]) (q::ps)) 35 .a1 0 0)->∀i (af:i<(ps.map hl).length),au K p (off+i*1)=some (ps.map hl)[i]:=λaq i af=>by
      rw[List.length_map] at af
      obtain⟨rfl,_⟩:=bI (by omega)
      rw[show 0+1*1+i*1=0+(i+1)*1 by omega,BQ aq (i+1) (by simpa using af)]
      simp
     have f:=Yr m (h.n+1) (h:=G.room 11) (b:=p) (off:=off) (r:=q) (cp:=cp) (x:=x) (l:=l) (vs:=ps.map hl) hm (by omega) (by omega) (fU Gk) t2 (λK di=>by
      have aq:K.get p=some (.cells (dN (λd=>[hl d]) (q::ps)) 35 .a1 0 0):=(di.get p (by omega)).trans Gk
      by_cases ab:0<ps.length
      · exact c7.src (B:=0) (fU aq) (by rw[List.length_map];exact ab) (bI ab).2
      · have df:ps=[]:=List.eq_nil_of_length_eq_zero (by omega)
        subst df
        have:cp=.dead\/cp≠ .dead:=by cases cp<;>simp
        rcases this with rfl|Gl
        · rfl
        · have e:aM.loadCells K p off (0*1)=some []:=pb aq rfl
          cases cp with
          |exact k=>simp only[List.map_nil,List.length_nil,fP,e]
          |a1 k=>simp only[List.map_nil,List.length_nil,fP,e]
          |dead=>exact absurd rfl Gl) t1 (by rw[List.length_map];simp at ar;omega) (λt a_=>ag t (List.mem_cons_of_mem _ a_)) (ag x (List.mem_cons_self ..))
     rw[List.length_map] at f
     obtain⟨aC,dP,f⟩:=f
     have sj:=(aa.trans (eo.kD l_)).trans ((eo.kD Gj).trans (eo.kD dP))
     have jD:=((hs.move l_).move Gj).move dP
     rcases f with⟨cj,r,f1,f2⟩|⟨cj,f1⟩
     · refine⟨_,_,aC,f1,sj,jD,.inr ⟨?_,rfl,r,rfl,?_,by simp[fI]⟩⟩
       · have cj:sz (M1 (x::l))<=60:=cj
         rintro(⟨db,_⟩|⟨_,db⟩|⟨db,_⟩)<;>omega
       · have e:(fI 8 (x::l) bg).1=.mk 8 [] [] l (some x):=by
           have:BB (x::l)=.mk 8 [] [] l (some x):=by
            show pE _=_
            rw[yU (Mg (λt a_=>ag t (List.mem_cons_of_mem _ a_)) (ag x (List.mem_cons_self ..))),if_pos cj]
           simp[fI,this]
         rw[e];exact cast f2
     · exact⟨_,_,aC,f1,sj,jD,.inl ⟨.inr (.inl ⟨rfl,cj⟩),rfl,rfl⟩⟩
 · subst gC
   obtain⟨aC,dP,f⟩:=YW m (h.n+1) (h:=G) (b:=p) (off:=0) (cp:=.a1 1) (l:=l) (ps:=ps) hm (by omega) (by omega) (BQ aO) Gi h0 (by omega) ag
   have sj:=(aa.trans (eo.kD l_)).trans (eo.kD dP)
   have jD:=(hs.move l_).move dP
   rcases f with⟨ae,r,f1,f2⟩|⟨ae,f1⟩
   · refine⟨_,_,aC,f1,sj,jD,.inr ⟨?_,rfl,r,rfl,?_,by simp[fI]⟩⟩
     · rintro(⟨db,_⟩|⟨db,_⟩|⟨_,db⟩)
       · omega
       · omega
       · exact ae db
     · have e:(fI 9 l bg).1=mS l:=by simp[fI]
       rw[e];exact cast f2
   · exact⟨_,_,aC,f1,sj,jD,.inl ⟨.inr (.inr ⟨rfl,ae⟩),rfl,rfl⟩⟩
end Go.Proofs.dj
namespace Go.Proofs.dj
open Go aM Go.Proofs c_ Go.Proofs.cF
set_option maxRecDepth 100000
set_option maxHeartbeats 1000000
theorem oD.back{B c:Nat}{h ar:J}{t:aF}{s:e5}{e:bn}{st:ah}(x:eo c h ar)(o:oD B c ar t s e st):oD B c h t s e st:=by
 obtain⟨ab,r,g,ad,yE,aJ,bO⟩:=o
 have:=x.n
 exact⟨ab,r,g,ad,yE,x.trans aJ,fa.ck (λb ae=>⟨⟨by have:=ae.1;omega,ae.2⟩,rfl⟩) _ _ bO⟩
theorem Y5(m d:Nat){B c bh:Nat}{h:J}{s:e5}(hm:200000<=m)(wg:∀(h:J) (s:e5),fK B c h s->s.nodes+kd d<=1000000->∃r g,Y (m+3) (.fn 27) [.ptr c 0,.int .i64 (Int.ofNat d)] h=.ret (.ptr r 0) g/\fK B c g (ev d s).2/\eo c h g/\fZ h.n g (ev d s).1 (.ptr r 0))
  (hs:fK B c h s)(ao:d<=1000)(aK:s.nodes+3*kd d<=1000000)(db:7<=bh)(gW:bh<=9):a4 Tryz.prog Tryz.f27 (Y (m+3)) [1,1,1,1] ⟨[(0,.ptr c 0),(1,.int .i64 (Int.ofNat (d+1))),(5,.int .i64 (Int.ofNat bh))],[],.none,h⟩ (oD B c h (Gg d bh s).1 (Gg d bh s).2):=by
 have BP:=hs.up
 obtain⟨H,cm⟩:∃H,H=h.push (.cells [.int .i64 (Int.ofNat bh),.str [],.a0,.a0,.bb] 80 .own 0 0):=⟨_,rfl⟩
 have dA:Ext h.n h H:=by rw[cm];exact Ext.push (Nat.le_refl _) _
 have lr:H.n=h.n+1:=by rw[cm];rfl
 obtain⟨aj,aG,a3,bA⟩:=tU (m+2) 3 (hs.move dA) (by omega)
 have tW:=bA.n
 have bG:=nK (n:=3) (by omega) s
 have acX:=sh 3 s
 have tX:eo c h aj:=(eo.kD dA).trans bA
 rw[cm] at aG
 obtain⟨L,g4⟩:∃L,L=hC (ev d) ((c0 3 s).1+1) (c0 3 s).2:=⟨_,rfl⟩
 have Bu:L.1.length=(c0 3 s).1+1:=by rw[g4];exact MV _ _
 have Gm:∀t∈L.1,dg (some t)=0:=by rw[g4];exact FO (λt=>dg (some t)=0) (FP d) _ _
 have n9:Gg d bh s=fI bh L.1 L.2:=by rw[g4];rfl
 rw[n9]
 have kM:(c0 3 s).2.nodes+((c0 3 s).1+1)*kd d<=1000000:=by
  have:((c0 3 s).1+1)*kd d<=3*kd d:=Nat.mul_le_mul_right _ (by omega)
  omega
 have key:∀(g:J) (w:I) (ps:List Nat),eo c aj g->fK B c g L.2->jC aj.n g w ps->iV aj.n g L.1 (ps.map hl)->∃p,w=.slice p 0 ps.length (.a1 1)/\eo c h g/\h.n<g.n/\jC (h.n+1) g (.slice p 0 ps.length (.a1 1)) ps/\iV (h.n+1) g L.1 (ps.map hl)/\0<ps.length/\ps.length<=3:=by
  intro g w ps aa l4 iv mX
  have fs:ps.length=L.1.length:=by have:=cT.len mX;rwa [List.length_map] at this
  have M5:=aa.n
  have Y6:jC (h.n+1) g w ps:=cD.le (by omega) iv
  have Y7:iV (h.n+1) g L.1 (ps.map hl):=cT.ck (λb ae=>⟨⟨by have:=ae.1;omega,ae.2⟩,rfl⟩) _ _ mX
  rcases Y6 with⟨_,e⟩|⟨p,rfl,a7,b5,gr,gb⟩
  · rw[e] at fs;simp at fs;omega
  · exact⟨p,rfl,tX.trans aa,by omega,.inr ⟨p,rfl,a7,b5,gr,gb⟩,Y7,a7,by omega⟩
 by_cases cM:si bh L.1
 · have l3:=Y2 L.2 cM Gm (by omega) (by omega)
   rw[l3]
   have fin:∀aC,eo c h aC->fK B c aC L.2->oD B c h pD L.2 .ret ⟨[(4,.ptr aC.n 0)],[],.none,aC.push (.cells [.int .i64 (Int.ofNat 2),.str [],.a0,.a0,.bb] 80 .own 0 0)⟩:=λaC dP nC=>by
    have:=dP.n
    exact⟨rfl,_,_,rfl,nC.move (Ext.push (Nat.le_refl _) _),dP.push _,⟨aC.n,.a0,.a0,.bb,[],.own,0,0,rfl,⟨by omega,by simp⟩,fj rfl,.inl ⟨rfl,rfl⟩,.inl ⟨rfl,rfl⟩,rfl,rfl⟩⟩
   refine Yf (Y (m+3)) c (d+1) bh h ⟨(c0 3 s).1,aj,aG,by omega,?_⟩
   refine MX (m+3) d wg db ao a3 (by omega) kM (λg w ps Γ aa l4 iv mX cP=>?_)
   rw[<-g4] at l4 mX
   obtain⟨p,rfl,bE,b0,ec,gP,hg,ic⟩:=key g w ps aa l4 iv mX
   obtain⟨Gn,Gp,Gq⟩:=M3 m bh hm bE l4 ec gP hg ic Gm BP b0
   refine⟨h.n,p,0,ps.length,.a1 1,g,Γ,rfl,rfl,cP,by omega,λgq=>?_,λdr=>⟨λgX=>?_,λen=>⟨λgC=>?_,λeH=>by omega⟩⟩⟩
   · obtain⟨v1,s1,v,e,aC,f1,f2,f3,f4⟩:=Gn gq
     rcases f4 with⟨_,rfl,rfl⟩|⟨ae,_⟩
     · exact⟨v1,s1,aC,f1,λh=>absurd h (by decide),λ_=>fin aC f2 f3⟩
     · exact absurd cM ae
   · obtain⟨v1,s1,s2,x,bI,v,e,aC,f1,f2,f3,f4⟩:=Gp gX
     rcases f4 with⟨_,rfl,rfl⟩|⟨ae,_⟩
     · exact⟨v1,s1,hg,x,bI,aC,f1,s2,λh=>absurd h (by decide),λ_=>fin aC f2 f3⟩
     · exact absurd cM ae
   · obtain⟨v,e,aC,f1,f2,f3,f4⟩:=Gq gC
     rcases f4 with⟨_,rfl,rfl⟩|⟨ae,_⟩
     · exact⟨aC,f1,λh=>absurd h (by decide),λ_=>fin aC f2 f3⟩
     · exact absurd cM ae
 · refine Ye (Y (m+3)) c (d+1) bh h ⟨(c0 3 s).1,aj,aG,by omega,?_⟩
   refine MX (m+3) d wg db ao a3 (by omega) kM (λg w ps Γ aa l4 iv mX cP=>?_)
   rw[<-g4] at l4 mX
   obtain⟨p,rfl,bE,b0,ec,gP,hg,ic⟩:=key g w ps aa l4 iv mX
   obtain⟨Gn,Gp,Gq⟩:=M3 m bh hm bE l4 ec gP hg ic Gm BP b0
   refine⟨h.n,p,0,ps.length,.a1 1,g,Γ,rfl,rfl,cP,by omega,λgq=>?_,λdr=>⟨λgX=>?_,λen=>⟨λgC=>?_,λeH=>by omega⟩⟩⟩
   · obtain⟨v1,s1,v,e,aC,f1,f2,f3,f4⟩:=Gn gq
     rcases f4 with⟨ae,_⟩|⟨_,rfl,r,rfl,f5,f6⟩
     · exact absurd ae cM
     · exact⟨v1,s1,r,aC,f1,λ_=>⟨rfl,r,aC,rfl,by rw[f6];exact f3,f2,f5⟩,λh=>absurd rfl h⟩
   · obtain⟨v1,s1,s2,x,bI,v,e,aC,f1,f2,f3,f4⟩:=Gp gX
     rcases f4 with⟨ae,_⟩|⟨_,rfl,r,rfl,f5,f6⟩
     · exact absurd ae cM
     · exact⟨v1,s1,hg,x,bI,r,aC,f1,s2,λ_=>⟨rfl,r,aC,rfl,by rw[f6];exact f3,f2,f5⟩,λh=>absurd rfl h⟩
   · obtain⟨v,e,aC,f1,f2,f3,f4⟩:=Gq gC
     rcases f4 with⟨ae,_⟩|⟨_,rfl,r,rfl,f5,f6⟩
     · exact absurd ae cM
     · exact⟨r,aC,f1,λ_=>⟨rfl,r,aC,rfl,by rw[f6];exact f3,f2,f5⟩,λh=>absurd rfl h⟩
theorem M6(M:Nat){B c D:Nat}{h:J}{t:aF}{s:e5}(al:a4 Tryz.prog Tryz.f27 (Y M) [] ⟨[(0,.ptr c 0),(1,.int .i64 (Int.ofNat D))],[],.none,h⟩ (oD B c h t s)):∃r g,Y (M+1) (.fn 27) [.ptr c 0,.int .i64 (Int.ofNat D)] h=.ret (.ptr r 0) g/\fK B c g s/\eo c h g/\fZ h.n g t (.ptr r 0):=by
 refine Eh (R:=λx=>∃r g,x=.ret (.ptr r 0) g/\fK B c g s/\eo c h g/\fZ h.n g t (.ptr r 0)) (intr:=b1) (n:=M) (args:=[.ptr c 0,.int .i64 (Int.ofNat D)]) Tryz.func27 (by kernel_rfl) (by kernel_rfl) (by kernel_rfl) al ?_
 rintro e st ⟨rfl,r,g,rfl,ab,ad,ar⟩
 exact .inl ⟨.inl rfl,rfl,.ptr r 0,by kernel_rfl,r,g,rfl,ab,ad,ar⟩
theorem M7(m:Nat)(hm:200000<=m):∀(d:Nat),d<=1000->∀{B c:Nat} (h:J) (s:e5),fK B c h s->s.nodes+kd d<=1000000->∃r g,Y (m+4+d) (.fn 27) [.ptr c 0,.int .i64 (Int.ofNat d)] h=.ret (.ptr r 0) g/\fK B c g (ev d s).2/\eo c h g/\fZ h.n g (ev d s).1 (.ptr r 0)
 |0,_,B,c,h,s,hs,kM=>by
  obtain⟨aj,bB,s1,a3,bA,_⟩:=hs.count
  obtain⟨ax,a9,bS,cX⟩:=tU (m+2) 9 a3 (by omega)
  obtain⟨aC,dn,nC,dP⟩:=tU (m+2) 5 bS (by omega)
  have eH:=nK (n:=9) (by omega) ⟨s.left,s.nodes+1⟩
  have cc:=nK (n:=5) (by omega) (c0 9 ⟨s.left,s.nodes+1⟩).2
  refine M6 (m+3) (a4.seq (p:=[]) (by kernel_rfl) (Mx _ c 0 h (a4.seq (p:=[1]) (by kernel_rfl) (Mt _ c 0 h ⟨s.nodes,bB,by omega,aj,s1,a4.seq (p:=[1,1]) (by kernel_rfl) (Mu _ c 0 aj ⟨_,ax,a9,by omega,a4.seq (p:=[1,1,1]) (by kernel_rfl) (Mv _ c 0 _ ax ⟨λ_=>⟨_,aC,dn,by omega,?_⟩,λh=>absurd (by omega:0<1) h⟩)⟩)⟩))))
  refine a4.mono (MY (m+2) 0 nC (by omega) (by omega)) λe st o=>?_
  have o':=oD.back ((bA.trans cX).trans dP) o
  rw[ev]
  exact o'
 |d+1,ao,B,c,h,s,hs,kM=>by
  rw[kd] at kM
  obtain⟨aj,bB,s1,a3,bA,_⟩:=hs.count
  obtain⟨ax,a9,bS,cX⟩:=tU (m+1+d+2) 9 a3 (by omega)
  have eH:=nK (n:=9) (by omega) ⟨s.left,s.nodes+1⟩
  have ay:=sh 9 ⟨s.left,s.nodes+1⟩
  have nJ:=bA.trans cX
  have wg:∀(h:J) (s:e5),fK B c h s->s.nodes+kd d<=1000000->∃r g,Y (m+1+d+3) (.fn 27) [.ptr c 0,.int .i64 (Int.ofNat d)] h=.ret (.ptr r 0) g/\fK B c g (ev d s).2/\eo c h g/\fZ h.n g (ev d s).1 (.ptr r 0):=λh s a b=>by
   have:=M7 m hm d (by omega) h s a b
   rwa [show m+4+d=m+1+d+3 by omega] at this
  have tail:∀{g bh bg},fK B c g bg->1<=bh->bh<=9->bg.nodes=s.nodes+1->eo c h g->a4 Tryz.prog Tryz.f27 (Y (m+1+d+3)) [1,1,1,1] ⟨[(0,.ptr c 0),(1,.int .i64 (Int.ofNat (d+1))),(5,.int .i64 (Int.ofNat bh))],[],.none,g⟩ (oD B c h (fI bh (if 7<=bh then hC (ev d) ((c0 3 bg).1+1) (c0 3 bg).2 else([],(c0 3 bg).2)).1 (if 7<=bh then hC (ev d) ((c0 3 bg).1+1) (c0 3 bg).2 else([],(c0 3 bg).2)).2).1 (fI bh (if 7<=bh then hC (ev d) ((c0 3 bg).1+1) (c0 3 bg).2 else([],(c0 3 bg).2)).1 (if 7<=bh then hC (ev d) ((c0 3 bg).1+1) (c0 3 bg).2 else([],(c0 3 bg).2)).2).2):=λ{g bh bg} pY bE iG aK aa=>by
   by_cases db:7<=bh
   · rw[if_pos db]
     exact a4.mono (Y5 (m+1+d) d (by omega) wg pY (by omega) (by omega) db iG) λe st o=>oD.back aa o
   · rw[if_neg db]
     exact a4.mono (MY (m+1+d+2) (d+1) pY bE (by omega)) λe st o=>oD.back aa o
  rw[show m+4+(d+1)=m+1+d+3+1 by omega]
  refine M6 (m+1+d+3) (a4.seq (p:=[]) (by kernel_rfl) (Mx _ c (d+1) h (a4.seq (p:=[1]) (by kernel_rfl) (Mt _ c (d+1) h ⟨s.nodes,bB,by omega,aj,s1,a4.seq (p:=[1,1]) (by kernel_rfl) (Mu _ c (d+1) aj ⟨_,ax,a9,by omega,a4.seq (p:=[1,1,1]) (by kernel_rfl) (Mv _ c (d+1) _ ax ⟨λh=>absurd h (by omega),λ_=>?_⟩)⟩)⟩))))
  obtain⟨v,ba,a7⟩:=bS.get
  refine⟨(c0 9 ⟨s.left,s.nodes+1⟩).2.nodes,aU ba rfl,λaJ=>?_,λaJ=>?_⟩
  · obtain⟨aC,dn,nC,dP⟩:=tU (m+1+d+2) 5 bS (by omega)
    have cc:=nK (n:=5) (by omega) (c0 9 ⟨s.left,s.nodes+1⟩).2
    have bx:=sh 5 (c0 9 ⟨s.left,s.nodes+1⟩).2
    refine⟨_,aC,dn,by omega,?_⟩
    have af:40<s.nodes+1:=by rw[ay] at aJ;exact aJ
    rw[ev]
    simp only[if_pos af]
    exact tail nC (by omega) (by omega) (by rw[bx,ay]) (nJ.trans dP)
  · have af:¬40<s.nodes+1:=by rw[ay] at aJ;exact aJ
    rw[ev]
    simp only[if_neg af]
    exact tail bS (by omega) (by omega) ay nJ
theorem Y8(m:Nat)(hm:200000<=m){h:J}{v:I}{cs:a5}(aB:mU h.n h v cs):∃r g,Y (m+8) (.fn 12) [v] h=.ret (.ptr r 0) g/\Ext h.n h g/\fZ h.n g (qC cs) (.ptr r 0):=by
 have Y9:∃v1,de Tryz.prog h 27 v none (some (.int .i64 (Int.ofNat (min cs.length 60)))) none=some v1/\mU h.n h v1 (cs.take (min cs.length 60))/\v1.cQ=true:=by
  have hlen:(cs.take (min cs.length 60)).length=min cs.length 60:=by rw[List.length_take];omega
  rcases aB with⟨rfl,rfl⟩|⟨b,off,cp,rfl,ad,ar,aJ⟩
  · exact⟨.a0,by kernel_rfl,.inl ⟨rfl,rfl⟩,rfl⟩
  · obtain⟨nL,kF,s1,s2,bI⟩:=My (P:=Tryz.prog) (h:=h) (T:=27) (E:=5) (b:=b) (off:=off) (n:=cs.length) (k:=min cs.length 60) (cp:=cp) (by kernel_rfl) (by kernel_rfl) (by omega) ar
    refine⟨_,s1,.inr ⟨b,nL,kF,by rw[hlen],ad,by rw[hlen];exact s2,λi af=>?_⟩,rfl⟩
    rw[hlen] at af
    obtain⟨rfl,_⟩:=bI (by omega)
    rw[aJ i (by omega)]
    simp
 obtain⟨v1,s1,s2,bI⟩:=Y9
 obtain⟨H,cm⟩:∃H,H=h.push (.cells [v1,.int .i64 (Int.ofNat 0)] 72 .own 0 0):=⟨_,rfl⟩
 have dA:Ext h.n h H:=by rw[cm];exact Ext.push (Nat.le_refl _) _
 have lr:H.n=h.n+1:=by rw[cm];rfl
 have Y_:fK h.n h.n H ⟨cs.take (min cs.length 60),0⟩:=⟨⟨v1,by rw[cm];exact fj rfl,s2.ext dA⟩,Nat.le_refl _,by omega⟩
 obtain⟨r,g,aG,a3,bA,t1⟩:=M7 m hm 3 (by omega) H _ Y_ (by simp[kd])
 have tW:=bA.n
 rw[cm] at aG
 refine Yg (m+7) v h (R:=λx=>∃r g,x=.ret (.ptr r 0) g/\Ext h.n h g/\fZ h.n g (qC cs) (.ptr r 0)) ⟨cs.length,aB.len h,min cs.length 60,Sx _ _,v1,s1,bI,bI,r,g,aG,r,g,rfl,?_,?_⟩
 · exact⟨by omega,λd ao=>(bA.get d (by omega) (by omega)).trans (dA.get d ao)⟩
 · exact fa.ck (λb ae=>⟨⟨by have:=ae.1;omega,ae.2⟩,rfl⟩) _ _ t1
end Go.Proofs.dj
