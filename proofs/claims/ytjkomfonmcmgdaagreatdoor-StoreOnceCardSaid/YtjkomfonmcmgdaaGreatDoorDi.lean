/-
  PROVED HERE: contracts of functions (Di). No condition beside each statement's own.
-/
import Derived.Test.YtjkomfonmcmgdaaGreatDoorDh
import Derived.Test.YtjkomfonmcmgdaaGreatDoorDg
import Derived.Test.YtjkomfonmcmgdaaGreatDoorTx
import Derived.Test.YtjkomfonmcmgdaaGreatDoorSxb
set_option linter.unusedVariables false
set_option linter.unusedSimpArgs false
set_option maxRecDepth 100000
set_option maxHeartbeats 1000000
namespace Go.Proofs.jj
open Go bt Go.Proofs hy Go.Proofs.jk
def xv(n:Nat):bR->Prop
 |.exact k=>n<=k
 |.aR e=>e=1
 |.dead=>n=0
def kL(F:Nat->Prop)(h:J)(v:I)(vs:List I):Prop:=(v=.aS/\vs=[])\/∃b off cp,v=.slice b off vs.length cp/\F b/\(∀i (af:i<vs.length),ar h b (off+i*1)=some vs[i])/\0<vs.length/\cp≠ .dead/\xv vs.length cp
mutual
def dY(F:Nat->Prop)(h:J):aC->I->Prop
 |.mk k nm ns xs rt,v=>∃r bK a_ c0 vs bk aI up,v=.ptr r 0/\F r/\h.get r=some (.cells [.int .i64 (Int.ofNat k),.str nm,bK,a_,c0] 80 bk aI up)/\kL F h bK (ns.map .str)/\kL F h a_ vs/\cT F h xs vs/\qG F h rt c0
def cT(F:Nat->Prop)(h:J):List aC->List I->Prop
 |[],vs=>vs=[]
 |t::ck,vs=>∃v ws,vs=v::ws/\dY F h t v/\cT F h ck ws
def qG(F:Nat->Prop)(h:J):Option aC->I->Prop
 |none,v=>v=.aZ
 |some t,v=>dY F h t v
end
theorem kL.bO{F G:Nat->Prop}{h g:J}{v:I}{vs:List I}(e:∀b,F b->G b/\g.get b=h.get b)(hs:kL F h v vs):kL G g v vs:=by
 rcases hs with hs|⟨b,off,cp,aa,ad,av,aG⟩
 · exact .inl hs
 · refine .inr ⟨b,off,cp,aa,(e b ad).1,λi af=>?_,aG⟩
   rw[<-av i af]
   unfold ar
   rw[(e b ad).2]
mutual
theorem dY.bO{F G:Nat->Prop}{h g:J}(e:∀b,F b->G b/\g.get b=h.get b):∀(t:aC) (v:I),dY F h t v->dY G g t v
 |.mk k nm ns xs rt,v,ab=>by
  obtain⟨r,bK,a_,c0,vs,bk,aI,up,aa,ad,av,aG,bI,cq,di⟩:=ab
  exact⟨r,bK,a_,c0,vs,bk,aI,up,aa,(e r ad).1,(e r ad).2.trans av,aG.bO e,bI.bO e,cT.bO e xs vs cq,qG.bO e rt c0 di⟩
theorem cT.bO{F G:Nat->Prop}{h g:J}(e:∀b,F b->G b/\g.get b=h.get b):∀(ck:List aC) (vs:List I),cT F h ck vs->cT G g ck vs
 |[],vs,ab=>ab
 |t::ck,vs,ab=>by
  obtain⟨v,ws,aa,ad,av⟩:=ab
  exact⟨v,ws,aa,dY.bO e t v ad,cT.bO e ck ws av⟩
theorem qG.bO{F G:Nat->Prop}{h g:J}(e:∀b,F b->G b/\g.get b=h.get b):∀(t:Option aC) (v:I),qG F h t v->qG G g t v
 |none,v,ab=>ab
 |some t,v,ab=>dY.bO e t v ab
end
mutual
theorem dY.at{F:Nat->Prop}{B:Nat}{h:J}(e:∀b,F b->b<B):∀(t:aC) (v:I),dY F h t v->dD B h t v
 |.mk k nm ns xs rt,v,ab=>by
  obtain⟨r,bK,a_,c0,vs,bk,aI,up,aa,ad,av,aG,bI,cq,di⟩:=ab
  have fx:∀{v:I} {vs:List I},kL F h v vs->c6 B h v vs:=by
   intro v vs hs
   rcases hs with hs|⟨b,off,cp,aa,ad,av,aG⟩
   · exact .inl hs
   · exact .inr ⟨b,off,cp,aa,e b ad,av,aG.1,aG.2.1⟩
  exact⟨r,bK,a_,c0,vs,bk,aI,up,aa,e r ad,av,fx aG,fx bI,cT.at e xs vs cq,qG.at e rt c0 di⟩
theorem cT.at{F:Nat->Prop}{B:Nat}{h:J}(e:∀b,F b->b<B):∀(ck:List aC) (vs:List I),cT F h ck vs->dL B h ck vs
 |[],vs,ab=>ab
 |t::ck,vs,ab=>by
  obtain⟨v,ws,aa,ad,av⟩:=ab
  exact⟨v,ws,aa,dY.at e t v ad,cT.at e ck ws av⟩
theorem qG.at{F:Nat->Prop}{B:Nat}{h:J}(e:∀b,F b->b<B):∀(t:Option aC) (v:I),qG F h t v->dM B h t v
 |none,v,ab=>ab
 |some t,v,ab=>dY.at e t v ab
end
abbrev aaO(s:a7):List I:=[.str s]
abbrev aaP(r:Nat):List I:=[.ptr r 0]
theorem aaQ:jy Tryz.prog aaO 1 9 63 where
 hu:=by kernel_rfl
 fj:=by kernel_rfl
 info:=by
  obtain⟨i,af⟩:=Option.isSome_iff_exists.1 (show(Tryz.prog.info? 9).isSome=true by kernel_rfl)
  refine⟨i,af,?_,?_⟩
  · have:(Tryz.prog.info? 9).map (·.size)=some 1:=by kernel_rfl
    rw[af] at this;simpa using this
  · have:(Tryz.prog.info? 9).map (λi=>Nat.ble i.bytes 1000)=some true:=by kernel_rfl
    rw[af] at this
    exact Nat.le_of_ble_eq_true (by simpa using this)
 zero:=⟨.str [],by kernel_rfl,rfl⟩
 size:=by kernel_rfl
 len:=λ_=>rfl
 cell:=λ_=>rfl
 pos:=by decide
theorem aaR:jy Tryz.prog aaP 1 35 50 where
 hu:=by kernel_rfl
 fj:=by kernel_rfl
 info:=by
  obtain⟨i,af⟩:=Option.isSome_iff_exists.1 (show(Tryz.prog.info? 35).isSome=true by kernel_rfl)
  refine⟨i,af,?_,?_⟩
  · have:(Tryz.prog.info? 35).map (·.size)=some 1:=by kernel_rfl
    rw[af] at this;simpa using this
  · have:(Tryz.prog.info? 35).map (λi=>Nat.ble i.bytes 1000)=some true:=by kernel_rfl
    rw[af] at this
    exact Nat.le_of_ble_eq_true (by simpa using this)
 zero:=⟨.aZ,by kernel_rfl,rfl⟩
 size:=by kernel_rfl
 len:=λ_=>rfl
 cell:=λ_=>rfl
 pos:=by decide
theorem jm{D:Type}(enc:D->I):∀ds:List D,cV (λd=>[enc d]) ds=ds.map enc
 |[]=>rfl
 |d::l=>by
  show[enc d]++cV _ l=enc d::l.map enc
  rw[jm enc l];rfl
theorem xw{D:Type}{enc:D->I}{el B:Nat}{F:Nat->Prop}{h:J}{v:I}{ds:List D}(aY:cu (λd=>[enc d]) 1 el B h v ds)(fR:∀b n cp,v=.slice b 0 n cp->F b):kL F h v (ds.map enc):=by
 rcases aY with⟨rfl,rfl⟩|⟨b,rfl,ad,av,aG,bI⟩
 · exact .inl ⟨rfl,rfl⟩
 · refine .inr ⟨b,0,.aR 1,by rw[List.length_map],fR b _ _ rfl,λi af=>?_,by rw[List.length_map];exact ad,by simp,rfl⟩
   have e:=jm enc ds
   rw[e] at av
   exact lB av (by rw[List.getElem?_eq_getElem (by simpa using af)];simp)
theorem Db{D:Type}{P:Program}{enc:D->List I}{w:Nat}{el sT:TypeId}(T:jy P enc w el sT){B:Nat}{h:J}{v src:I}{ds:List D}{d:D}(aY:cu enc w el B h v ds)(cC:B<=h.n)(hs:fg h w src=some (1,enc d))(aw:ds.length+1<=1000000):
  ∃an,db P h sT (some sT) v src=some (.slice h.n 0 (ds++[d]).length (.aR w),an)/\an.get h.n=some (.cells (cV enc (ds++[d])) el .aR 0 0)/\an.n=h.n+1/\Ext B h an/\∀c,c<h.n->(∀n cp,v≠ .slice c 0 n cp)->an.get c=h.get c:=by
 have dw:fg h w src=some ([d].length,cV enc [d]):=by rw[hs];simp[cV]
 rcases aY with⟨rfl,rfl⟩|⟨p,rfl,ad,av,aG,bI⟩
 · rw[List.nil_append]
   exact⟨_,Ly T dw (by simp) (by simp),fl rfl,by simp,Ext.k2 cC (Ext.refl _ _),λc ag _=>lA ag rfl⟩
 · refine⟨_,by rw[List.length_append];exact Lz T av dw (by simp) (by simpa using aw),fl (by simp),by simp,?_,λc ag hw=>?_⟩
   · exact Ext.k2 (by simp;omega) (Ext.iB aG (Ext.refl _ _))
   · exact lA (by simpa using ag) (dB (λe=>hw _ _ (by rw[e])) rfl)
theorem cu.Dc{D:Type}{enc:D->List I}{w el B:Nat}{h g:J}{v:I}{ds:List D}(aY:cu enc w el B h v ds)(aN:h.n<=g.n)(aq:∀d,B<=d->d<h.n->g.get d=h.get d):cu enc w el B g v ds:=by
 rcases aY with aY|⟨q,rfl,ad,av,aG,bI⟩
 · exact .inl aY
 · exact .inr ⟨q,rfl,ad,(aq q aG bI).trans av,aG,by omega⟩
theorem aaS(m c n:Nat)(h:J){R:a9->Prop}(H:∃v1:I,ar h c (0+0)=some v1/\∃aE:Nat,cl Tryz.prog h 27 v1=some (.int .i64 (.ofNat aE))/\(aE=0->R (.ret (.int .i64 (.ofNat 0)) h))/\(¬aE=0->∃bf:Nat,∃bH:Nat,∃bU:Nat,∃aF:bR,ar h c (0+0)=some (.slice bf bH bU aF)/\0<bU/\∃b_:Nat,ar h bf (bH+0*1)=some (.int .u8 (.ofNat b_))/\∃cv:Nat,iZ Tryz.prog 5 3 (.int .u8 (.ofNat b_)) h=jr.val (.int .i64 (.ofNat cv)) h/\∃c4:Nat,arith .rem .i64 (.ofNat cv) (.ofNat n)=some (.int .i64 (.ofNat c4))/\∃eo:Nat,∃eG:Nat,∃fK:Nat,∃a6:bR,ar h c (0+0)=some (.slice eo eG fK a6)/\∃v2:I,c1 Tryz.prog h 27 (.slice eo eG fK a6) (some (.int .i64 (.ofNat 1))) none none=some v2/\I.cO v2=true/\∃ai:J,bt.storeCells h c (0+0) [v2]=some ai/\R (.ret (.int .i64 (.ofNat c4)) ai))):
  R (Y (m+1) (.fn 48) [.ptr c 0,.int .i64 (.ofNat n)] h):=
 dQ (intr:=b3) [(15,.bq .fx),(25,.bq .fx)] [(0,.v (.ptr c 0)),(1,.v (.int .i64 (.ofNat n)))] Tryz.func48 (by kernel_rfl) (by kernel_rfl) (by kernel_rfl) rfl (Eq.mp (by kernel_rfl) H)
theorem aaT(m b off N:Nat)(cp:bR)(h:J){R:a9->Prop}(H:a4 Tryz.prog Tryz.f75 (Y m) [1,0,1,0] (ah.mk [(0,.slice b off N cp),(3,.int .i64 (.ofNat 0))] [] .none h) (λb9 cf=>((∃ai:J,∃bw:Env,b9=.exit 0/\cf=ah.mk bw [] .none ai/\cd [] bw/\R (.ret (.bool true) ai))\/(∃au:J,∃bV:Env,b9=.ret/\cf=ah.mk bV [] .none au/\cd [(2,.bool false)] bV/\R (.ret (.bool false) au))))):
  R (Y (m+1) (.fn 75) [.slice b off N cp] h):=
 dQ (intr:=b3) [(4000,.gO [0,3] [(.exit 0,[]),(.ret,[(2,.is (.bool false))])])] [(0,.v (.slice b off N cp))] Tryz.func75 (by kernel_rfl) (by kernel_rfl) (by kernel_rfl) rfl (Eq.mp (by kernel_rfl) H)
theorem aaU(call:aP)(b off N i:Nat)(cp:bR)(h:J){Q:bu->ah->Prop}(H:(i<N->i<N/\∃aE:Nat,ar h b (off+i*1)=some (.ptr aE 0)/\∃bf:Nat,∃ai:J,call (.fn 28) [.ptr aE 0] h=.ret (.int .i64 (.ofNat bf)) ai/\(bf=0->i+1<9223372036854775808/\Q .nrm (ah.mk [(0,.slice b off N cp),(3,.int .i64 (.ofNat (i+1)))] [] .none ai))/\(¬bf=0->Q .ret (ah.mk [(0,.slice b off N cp),(2,.bool false),(3,.int .i64 (.ofNat i))] [] .none ai)))/\(¬i<N->Q (.exit 0) (ah.mk [(0,.slice b off N cp),(3,.int .i64 (.ofNat i))] [] .none h))):
  a4 Tryz.prog Tryz.f75 call [1,0,1,0,0] ⟨[(0,.slice b off N cp),(3,.int .i64 (.ofNat i))],[],.none,h⟩ Q:=
 dF [] [0,2,3] [(0,.v (.slice b off N cp)),(3,.v (.int .i64 (.ofNat i)))] rfl (Eq.mp (by kernel_rfl) H)
theorem aaV(m r:Nat)(h:J){R:a9->Prop}(H:∃aE:Nat,∃ai:J,(Y m) (.fn 52) [.ptr r 0] h=.ret (.int .i64 (.ofNat aE)) ai/\(60<aE->R (.ret (.aO [.aZ,.int .i64 (.ofNat 3)]) ai))/\(¬60<aE->R (.ret (.aO [.ptr r 0,.int .i64 (.ofNat 0)]) ai))):
  R (Y (m+1) (.fn 78) [.ptr r 0] h):=
 dQ (intr:=b3) [] [(0,.v (.ptr r 0))] Tryz.func78 (by kernel_rfl) (by kernel_rfl) (by kernel_rfl) rfl (Eq.mp (by kernel_rfl) H)
theorem aaW(m nb N b:Nat)(nc cp:bR)(h:J){R:a9->Prop}(H:(N=N->∃br:Bool,∃ai:J,(Y m) (.fn 75) [.slice b 0 N cp] h=.ret (.bool br) ai/\br=true/\a4 Tryz.prog Tryz.f49 (Y m) [1,1,1,0,1,0] (ah.mk [(0,.slice nb 0 N nc),(1,.slice b 0 N cp),(6,.ptr ai.n 0),(7,.int .i64 (.ofNat 0))] [] .none (J.push ai (.cells [.int .i64 (.ofNat 7),.str [],.aS,.aS,.aZ] 80 .own 0 0))) (λb9 cf=>∃aE:Nat,∃au:J,∃bw:Env,b9=.exit 0/\cf=ah.mk bw [] .none au/\cd [(6,.ptr aE 0)] bw/\∃v1:I,∃bf:Nat,∃ay:J,(Y m) (.fn 78) [.ptr aE 0] au=.ret (.aO [v1,.int .i64 (.ofNat bf)]) ay/\R (.ret (.aO [v1,.int .i64 (.ofNat bf)]) ay)))/\(¬N=N->R (.ret (.aO [.aZ,.int .i64 (.ofNat 2)]) h))):
  R (Y (m+1) (.fn 49) [.slice nb 0 N nc,.slice b 0 N cp] h):=
 dQ (intr:=b3) [(1020,.f),(132,.bq (.fC [.o,.n .i64])),(4000,.gO [0,1,6,7] [(.exit 0,[(6,.p)])])] [(0,.v (.slice nb 0 N nc)),(1,.v (.slice b 0 N cp))] Tryz.func49 (by kernel_rfl) (by kernel_rfl) (by kernel_rfl) rfl (Eq.mp (by kernel_rfl) H)
theorem aaX(call:aP)(nb N b R i:Nat)(nc cp:bR)(h:J){Q:bu->ah->Prop}(H:(i<N->i<N/\∃s1:List UInt8,ar h nb (0+i*1)=some (.str s1)/\∃br:Bool,∃ai:J,call (.fn 76) [.str s1] h=.ret (.bool br) ai/\br=true/\a4 Tryz.prog Tryz.f49 call [1,1,1,0,1,0,0,1,0,0,1,1,0,0] (ah.mk [(0,.slice nb 0 N nc),(1,.slice b 0 N cp),(6,.ptr R 0),(7,.int .i64 (.ofNat i)),(8,.int .i64 (.ofNat 0))] [] .none ai) (λb9 cf=>∃aE:Nat,∃au:J,∃bw:Env,b9=.exit 2/\cf=ah.mk bw [] .none au/\cd [(0,.slice nb 0 N nc),(1,.slice b 0 N cp),(6,.ptr R 0),(7,.int .i64 (.ofNat i)),(8,.int .i64 (.ofNat aE))] bw/\∃v1:I,ar (au.room 21) R (0+2)=some v1/\∃bf:Nat,cl Tryz.prog (au.room 21) 63 v1=some (.int .i64 (.ofNat bf))/\¬aE<bf/\I.sound v1=true/\∃v2:I,ar (au.room 21) R (0+2)=some v2/\∃cz:I,c1 Tryz.prog (au.room 21) 63 v2 none (some (.int .i64 (.ofNat aE))) none=some cz/\∃v4:I,∃ay:J,db Tryz.prog (au.room 21) 63 (some 63) .aS cz=some (v4,ay)/\i<N/\∃s2:List UInt8,ar ay nb (0+i*1)=some (.str s2)/\∃er:I,∃bg:J,db Tryz.prog (J.push ay (.cells [.str s2] 9 .own 0 0)) 63 (some 63) v4 (.slice ay.n 0 1 (.exact 1))=some (er,bg)/\∃v6:I,ar bg R (0+2)=some v6/\∃hM:I,c1 Tryz.prog bg 63 v6 (some (.int .i64 (.ofNat aE))) none none=some hM/\∃gA:I,∃bF:J,db Tryz.prog bg 63 (some 63) er hM=some (gA,bF)/\I.cO gA=true/\∃dk:J,bt.storeCells bF R (0+2) [gA]=some dk/\∃m3:I,ar dk R (0+3)=some m3/\∃v10:I,c1 Tryz.prog dk 50 m3 none (some (.int .i64 (.ofNat aE))) none=some v10/\∃v11:I,∃dX:J,db Tryz.prog dk 50 (some 50) .aS v10=some (v11,dX)/\i<N/\∃bH:Nat,ar dX b (0+i*1)=some (.ptr bH 0)/\∃Og:I,∃fJ:J,db Tryz.prog (J.push dX (.cells [.ptr bH 0] 35 .own 0 0)) 50 (some 50) v11 (.slice dX.n 0 1 (.exact 1))=some (Og,fJ)/\∃Oh:I,ar fJ R (0+3)=some Oh/\∃Oi:I,c1 Tryz.prog fJ 50 Oh (some (.int .i64 (.ofNat aE))) none none=some Oi/\∃HE:I,∃ir:J,db Tryz.prog fJ 50 (some 50) Og Oi=some (HE,ir)/\I.cO HE=true/\∃la:J,bt.storeCells ir R (0+3) [HE]=some la/\i+1<9223372036854775808/\Q .nrm (ah.mk [(0,.slice nb 0 N nc),(1,.slice b 0 N cp),(6,.ptr R 0),(7,.int .i64 (.ofNat (i+1)))] [] .none la)))/\(¬i<N->Q (.exit 0) (ah.mk [(0,.slice nb 0 N nc),(1,.slice b 0 N cp),(6,.ptr R 0),(7,.int .i64 (.ofNat i))] [] .none h))):
  a4 Tryz.prog Tryz.f49 call [1,1,1,0,1,0,0] ⟨[(0,.slice nb 0 N nc),(1,.slice b 0 N cp),(6,.ptr R 0),(7,.int .i64 (.ofNat i))],[],.none,h⟩ Q:=
 dF [(1034,.f),(1078,.f),(1066,.f),(4002,.gO [0,1,6,7,8] [(.exit 2,[(0,.is (.slice nb 0 N nc)),(1,.is (.slice b 0 N cp)),(6,.is (.ptr R 0)),(7,.is (.int .i64 (.ofNat i))),(8,.n .i64)])])] [0,1,6,7] [(0,.v (.slice nb 0 N nc)),(1,.v (.slice b 0 N cp)),(6,.v (.ptr R 0)),(7,.v (.int .i64 (.ofNat i)))] rfl (Eq.mp (by kernel_rfl) H)
theorem aaY(call:aP)(nb N b R i j:Nat)(nc cp:bR)(h:J){Q:bu->ah->Prop}(H:∃v1:I,ar (h.room 21) R (0+2)=some v1/\∃aE:Nat,cl Tryz.prog (h.room 21) 63 v1=some (.int .i64 (.ofNat aE))/\(j<aE->∃bf:Nat,∃bH:Nat,∃bU:Nat,∃aF:bR,ar (h.room 21) R (0+2)=some (.slice bf bH bU aF)/\j<bU/\∃s1:List UInt8,ar (h.room 21) bf (bH+j*1)=some (.str s1)/\i<N/\∃s2:List UInt8,ar (h.room 21) nb (0+i*1)=some (.str s2)/\∃br:Bool,∃ai:J,call (.fn 77) [.str s1,.str s2] (h.room 21)=.ret (.bool br) ai/\I.sound v1=true/\(br=true->j+1<9223372036854775808/\Q .nrm (ah.mk [(0,.slice nb 0 N nc),(1,.slice b 0 N cp),(6,.ptr R 0),(7,.int .i64 (.ofNat i)),(8,.int .i64 (.ofNat (j+1)))] [] .none ai))/\(br=false->Q (.exit 2) (ah.mk [(0,.slice nb 0 N nc),(1,.slice b 0 N cp),(6,.ptr R 0),(7,.int .i64 (.ofNat i)),(8,.int .i64 (.ofNat j))] [] .none ai)))/\(¬j<aE->I.sound v1=true/\Q (.exit 2) (ah.mk [(0,.slice nb 0 N nc),(1,.slice b 0 N cp),(6,.ptr R 0),(7,.int .i64 (.ofNat i)),(8,.int .i64 (.ofNat j))] [] .none (h.room 21)))):
  a4 Tryz.prog Tryz.f49 call [1,1,1,0,1,0,0,1,0,0,1,1,0,0,0] ⟨[(0,.slice nb 0 N nc),(1,.slice b 0 N cp),(6,.ptr R 0),(7,.int .i64 (.ofNat i)),(8,.int .i64 (.ofNat j))],[],.none,h⟩ Q:=
 dF [(46,.bq .fx)] [0,1,6,7,8] [(0,.v (.slice nb 0 N nc)),(1,.v (.slice b 0 N cp)),(6,.v (.ptr R 0)),(7,.v (.int .i64 (.ofNat i))),(8,.v (.int .i64 (.ofNat j)))] rfl (Eq.mp (by kernel_rfl) H)
theorem aaZ(m b off N r:Nat)(cp:bR)(h:J){R:a9->Prop}(H:∃br:Bool,∃ai:J,(Y m) (.fn 75) [.slice b off N cp] h=.ret (.bool br) ai/\(br=true->∃aE:Nat,∃au:J,(Y m) (.fn 28) [.ptr r 0] ai=.ret (.int .i64 (.ofNat aE)) au/\aE=0/\∃v1:I,ar (J.push au (.cells [.int .i64 (.ofNat 8),.str [],.aS,.aS,.ptr r 0] 80 .own 0 0)) au.n (0+3)=some v1/\∃v2:I,∃ay:J,db Tryz.prog (J.push au (.cells [.int .i64 (.ofNat 8),.str [],.aS,.aS,.ptr r 0] 80 .own 0 0)) 50 (some 50) v1 (.slice b off N cp)=some (v2,ay)/\I.cO v2=true/\∃bg:J,bt.storeCells ay au.n (0+3) [v2]=some bg/\∃cz:I,∃bf:Nat,∃bF:J,(Y m) (.fn 78) [.ptr au.n 0] bg=.ret (.aO [cz,.int .i64 (.ofNat bf)]) bF/\R (.ret (.aO [cz,.int .i64 (.ofNat bf)]) bF))/\(br=false->R (.ret (.aO [.aZ,.int .i64 (.ofNat 2)]) ai))):
  R (Y (m+1) (.fn 50) [.slice b off N cp,.ptr r 0] h):=
 dQ (intr:=b3) [(1014,.f),(28,.bq (.fC [.o,.n .i64]))] [(0,.v (.slice b off N cp)),(1,.v (.ptr r 0))] Tryz.func50 (by kernel_rfl) (by kernel_rfl) (by kernel_rfl) rfl (Eq.mp (by kernel_rfl) H)
theorem aa0(m b off N:Nat)(cp:bR)(h:J){R:a9->Prop}(H:(N=0->R (.ret (.aO [.aZ,.int .i64 (.ofNat 2)]) h))/\(¬N=0->∃br:Bool,∃ai:J,(Y m) (.fn 75) [.slice b off N cp] h=.ret (.bool br) ai/\br=true/\a4 Tryz.prog Tryz.f51 (Y m) [1,1,1,0,1,0] (ah.mk [(0,.slice b off N cp),(4,.aS),(5,.int .i64 (.ofNat 0))] [] .none ai) (λb9 cf=>((∃aE:Nat,∃bf:Nat,∃bH:Nat,∃aF:bR,∃au:J,∃bw:Env,b9=.exit 0/\cf=ah.mk bw [] .none au/\cd [(4,.slice aE bf bH aF)] bw/\a4 Tryz.prog Tryz.f51 (Y m) [1,1,1,1,1,0,1,0] (ah.mk [(4,.slice aE bf bH aF),(6,.aS),(7,.int .i64 (.ofNat 0))] [] .none au) (λb9 cf=>∃bU:Nat,∃b_:Nat,∃cv:Nat,∃a6:bR,∃ay:J,∃bV:Env,b9=.exit 2/\cf=ah.mk bV [] .none ay/\cd [(6,.slice bU b_ cv a6)] bV/\(cv=1->0<cv/\∃c4:Nat,ar ay bU (b_+0*1)=some (.ptr c4 0)/\R (.ret (.aO [.ptr c4 0,.int .i64 (.ofNat 0)]) ay))/\(¬cv=1->∃v1:I,∃eo:Nat,∃bg:J,(Y m) (.fn 78) [.ptr ay.n 0] (J.push ay (.cells [.int .i64 (.ofNat 9),.str [],.aS,.slice bU b_ cv a6,.aZ] 80 .own 0 0))=.ret (.aO [v1,.int .i64 (.ofNat eo)]) bg/\R (.ret (.aO [v1,.int .i64 (.ofNat eo)]) bg))))\/(∃eG:Nat,∃bF:J,∃c5:Env,b9=.ret/\cf=ah.mk c5 [] .none bF/\cd [(2,.ptr eG 0),(3,.int .i64 (.ofNat 0))] c5/\R (.ret (.aO [.ptr eG 0,.int .i64 (.ofNat 0)]) bF)))))):
  R (Y (m+1) (.fn 51) [.slice b off N cp] h):=
 dQ (intr:=b3) [(1017,.f),(4000,.gO [0,4,5] [(.exit 0,[(4,.fx)]),(.ret,[(2,.p),(3,.is (.int .i64 (.ofNat 0)))])]),(4002,.gO [4,6,7] [(.exit 2,[(6,.fx)])]),(126,.bq (.fC [.o,.n .i64]))] [(0,.v (.slice b off N cp))] Tryz.func51 (by kernel_rfl) (by kernel_rfl) (by kernel_rfl) rfl (Eq.mp (by kernel_rfl) H)
theorem aa1(call:aP)(b off N i:Nat)(cp:bR)(w:I)(h:J){Q:bu->ah->Prop}(H:(i<N->i<N/\∃aE:Nat,ar h b (off+i*1)=some (.ptr aE 0)/\∃bf:Nat,ar h aE (0+0)=some (.int .i64 (.ofNat bf))/\(bf=1->Q .ret (ah.mk [(0,.slice b off N cp),(2,.ptr h.n 0),(3,.int .i64 (.ofNat 0)),(4,w),(5,.int .i64 (.ofNat i))] [] .none (J.push h (.cells [.int .i64 (.ofNat 1),.str [],.aS,.aS,.aZ] 80 .own 0 0))))/\(¬bf=1->i<N/\∃bH:Nat,ar h b (off+i*1)=some (.ptr bH 0)/\∃bU:Nat,ar h bH (0+0)=some (.int .i64 (.ofNat bU))/\(bU=9->i<N/\∃b_:Nat,ar h b (off+i*1)=some (.ptr b_ 0)/\∃v1:I,ar h b_ (0+3)=some v1/\∃v2:I,∃ai:J,db Tryz.prog h 50 (some 50) w v1=some (v2,ai)/\i+1<9223372036854775808/\Q .nrm (ah.mk [(0,.slice b off N cp),(4,v2),(5,.int .i64 (.ofNat (i+1)))] [] .none ai))/\(¬bU=9->i<N/\∃cv:Nat,ar h b (off+i*1)=some (.ptr cv 0)/\∃cz:I,∃au:J,db Tryz.prog (J.push h (.cells [.ptr cv 0] 35 .own 0 0)) 50 (some 50) w (.slice h.n 0 1 (.exact 1))=some (cz,au)/\i+1<9223372036854775808/\Q .nrm (ah.mk [(0,.slice b off N cp),(4,cz),(5,.int .i64 (.ofNat (i+1)))] [] .none au))))/\(¬i<N->Q (.exit 0) (ah.mk [(0,.slice b off N cp),(4,w),(5,.int .i64 (.ofNat i))] [] .none h))):
  a4 Tryz.prog Tryz.f51 call [1,1,1,0,1,0,0] ⟨[(0,.slice b off N cp),(4,w),(5,.int .i64 (.ofNat i))],[],.none,h⟩ Q:=
 dF [] [0,2,3,4,5] [(0,.v (.slice b off N cp)),(4,.o w),(5,.v (.int .i64 (.ofNat i)))] rfl (Eq.mp (by kernel_rfl) H)
theorem aa2(call:aP)(b N ob M i:Nat)(cp fU:bR)(h:J){Q:bu->ah->Prop}(H:(i<N->a4 Tryz.prog Tryz.f51 call [1,1,1,1,1,0,1,0,0,1,0,0,1,0,0] (ah.mk [(4,.slice b 0 N cp),(6,.slice ob 0 M fU),(7,.int .i64 (.ofNat i)),(8,.int .i64 (.ofNat 0))] [] .none h) (λb9 cf=>∃aE:Nat,∃ai:J,∃bw:Env,b9=.exit 4/\cf=ah.mk bw [] .none ai/\cd [(4,.slice b 0 N cp),(6,.slice ob 0 M fU),(7,.int .i64 (.ofNat i)),(8,.int .i64 (.ofNat aE))] bw/\(aE<M->aE<M/\∃bf:Nat,ar (ai.room 17) ob (0+aE*1)=some (.ptr bf 0)/\∃s1:List UInt8,∃au:J,call (.fn 79) [.ptr bf 0] (ai.room 17)=.ret (.str s1) au/\i<N/\∃bH:Nat,ar au b (0+i*1)=some (.ptr bH 0)/\∃s2:List UInt8,∃ay:J,call (.fn 79) [.ptr bH 0] au=.ret (.str s2) ay/\ar (ai.room 17) b (0+i*1)=some (.ptr bH 0)/\(dd s1 s2=true->i+1<9223372036854775808/\Q .nrm (ah.mk [(4,.slice b 0 N cp),(6,.slice ob 0 M fU),(7,.int .i64 (.ofNat (i+1)))] [] .none ay))/\(dd s1 s2=false->∃v1:I,c1 Tryz.prog ay 50 (.slice ob 0 M fU) none (some (.int .i64 (.ofNat aE))) none=some v1/\∃v2:I,∃bg:J,db Tryz.prog ay 50 (some 50) .aS v1=some (v2,bg)/\i<N/\∃bU:Nat,ar bg b (0+i*1)=some (.ptr bU 0)/\∃cz:I,∃bF:J,db Tryz.prog (J.push bg (.cells [.ptr bU 0] 35 .own 0 0)) 50 (some 50) v2 (.slice bg.n 0 1 (.exact 1))=some (cz,bF)/\∃v4:I,c1 Tryz.prog bF 50 (.slice ob 0 M fU) (some (.int .i64 (.ofNat aE))) none none=some v4/\∃er:I,∃dk:J,db Tryz.prog bF 50 (some 50) cz v4=some (er,dk)/\i+1<9223372036854775808/\Q .nrm (ah.mk [(4,.slice b 0 N cp),(6,er),(7,.int .i64 (.ofNat (i+1)))] [] .none dk)))/\(¬aE<M->∃v6:I,c1 Tryz.prog (ai.room 17) 50 (.slice ob 0 M fU) none (some (.int .i64 (.ofNat aE))) none=some v6/\∃hM:I,∃dX:J,db Tryz.prog (ai.room 17) 50 (some 50) .aS v6=some (hM,dX)/\i<N/\∃b_:Nat,ar dX b (0+i*1)=some (.ptr b_ 0)/\∃gA:I,∃fJ:J,db Tryz.prog (J.push dX (.cells [.ptr b_ 0] 35 .own 0 0)) 50 (some 50) hM (.slice dX.n 0 1 (.exact 1))=some (gA,fJ)/\∃m3:I,c1 Tryz.prog fJ 50 (.slice ob 0 M fU) (some (.int .i64 (.ofNat aE))) none none=some m3/\∃v10:I,∃ir:J,db Tryz.prog fJ 50 (some 50) gA m3=some (v10,ir)/\i+1<9223372036854775808/\Q .nrm (ah.mk [(4,.slice b 0 N cp),(6,v10),(7,.int .i64 (.ofNat (i+1)))] [] .none ir))))/\(¬i<N->Q (.exit 2) (ah.mk [(4,.slice b 0 N cp),(6,.slice ob 0 M fU),(7,.int .i64 (.ofNat i))] [] .none h))):
  a4 Tryz.prog Tryz.f51 call [1,1,1,1,1,0,1,0,0] ⟨[(4,.slice b 0 N cp),(6,.slice ob 0 M fU),(7,.int .i64 (.ofNat i))],[],.none,h⟩ Q:=
 dF [(4004,.gO [4,6,7,8] [(.exit 4,[(4,.is (.slice b 0 N cp)),(6,.is (.slice ob 0 M fU)),(7,.is (.int .i64 (.ofNat i))),(8,.n .i64)])])] [4,6,7] [(4,.v (.slice b 0 N cp)),(6,.v (.slice ob 0 M fU)),(7,.v (.int .i64 (.ofNat i)))] rfl (Eq.mp (by kernel_rfl) H)
theorem aa3(call:aP)(b N i:Nat)(cp:bR)(h:J){Q:bu->ah->Prop}(H:(i<N->a4 Tryz.prog Tryz.f51 call [1,1,1,1,1,0,1,0,0,1,0,0,1,0,0] (ah.mk [(4,.slice b 0 N cp),(6,.aS),(7,.int .i64 (.ofNat i)),(8,.int .i64 (.ofNat 0))] [] .none h) (λb9 cf=>∃aE:Nat,∃ai:J,∃bw:Env,b9=.exit 4/\cf=ah.mk bw [] .none ai/\cd [(4,.slice b 0 N cp),(6,.aS),(7,.int .i64 (.ofNat i)),(8,.int .i64 (.ofNat aE))] bw/\¬aE<0/\∃v1:I,c1 Tryz.prog (ai.room 17) 50 .aS none (some (.int .i64 (.ofNat aE))) none=some v1/\∃v2:I,∃au:J,db Tryz.prog (ai.room 17) 50 (some 50) .aS v1=some (v2,au)/\i<N/\∃bf:Nat,ar au b (0+i*1)=some (.ptr bf 0)/\∃cz:I,∃ay:J,db Tryz.prog (J.push au (.cells [.ptr bf 0] 35 .own 0 0)) 50 (some 50) v2 (.slice au.n 0 1 (.exact 1))=some (cz,ay)/\∃v4:I,c1 Tryz.prog ay 50 .aS (some (.int .i64 (.ofNat aE))) none none=some v4/\∃er:I,∃bg:J,db Tryz.prog ay 50 (some 50) cz v4=some (er,bg)/\i+1<9223372036854775808/\Q .nrm (ah.mk [(4,.slice b 0 N cp),(6,er),(7,.int .i64 (.ofNat (i+1)))] [] .none bg)))/\(¬i<N->Q (.exit 2) (ah.mk [(4,.slice b 0 N cp),(6,.aS),(7,.int .i64 (.ofNat i))] [] .none h))):
  a4 Tryz.prog Tryz.f51 call [1,1,1,1,1,0,1,0,0] ⟨[(4,.slice b 0 N cp),(6,.aS),(7,.int .i64 (.ofNat i))],[],.none,h⟩ Q:=
 dF [(1088,.f),(4004,.gO [4,6,7,8] [(.exit 4,[(4,.is (.slice b 0 N cp)),(6,.is .aS),(7,.is (.int .i64 (.ofNat i))),(8,.n .i64)])])] [4,6,7] [(4,.v (.slice b 0 N cp)),(6,.v .aS),(7,.v (.int .i64 (.ofNat i)))] rfl (Eq.mp (by kernel_rfl) H)
theorem aa4(call:aP)(b N ob M i j:Nat)(cp fU:bR)(h:J){Q:bu->ah->Prop}(H:(j<M->j<M/\∃aE:Nat,ar (h.room 17) ob (0+j*1)=some (.ptr aE 0)/\∃s1:List UInt8,∃ai:J,call (.fn 79) [.ptr aE 0] (h.room 17)=.ret (.str s1) ai/\i<N/\∃bf:Nat,ar ai b (0+i*1)=some (.ptr bf 0)/\∃s2:List UInt8,∃au:J,call (.fn 79) [.ptr bf 0] ai=.ret (.str s2) au/\∃br:Bool,∃ay:J,call (.fn 77) [.str s1,.str s2] au=.ret (.bool br) ay/\ar (h.room 17) b (0+i*1)=some (.ptr bf 0)/\(br=true->j+1<9223372036854775808/\Q .nrm (ah.mk [(4,.slice b 0 N cp),(6,.slice ob 0 M fU),(7,.int .i64 (.ofNat i)),(8,.int .i64 (.ofNat (j+1)))] [] .none ay))/\(br=false->Q (.exit 4) (ah.mk [(4,.slice b 0 N cp),(6,.slice ob 0 M fU),(7,.int .i64 (.ofNat i)),(8,.int .i64 (.ofNat j))] [] .none ay)))/\(¬j<M->Q (.exit 4) (ah.mk [(4,.slice b 0 N cp),(6,.slice ob 0 M fU),(7,.int .i64 (.ofNat i)),(8,.int .i64 (.ofNat j))] [] .none (h.room 17)))):
  a4 Tryz.prog Tryz.f51 call [1,1,1,1,1,0,1,0,0,1,0,0,1,0,0,0] ⟨[(4,.slice b 0 N cp),(6,.slice ob 0 M fU),(7,.int .i64 (.ofNat i)),(8,.int .i64 (.ofNat j))],[],.none,h⟩ Q:=
 dF [] [4,6,7,8] [(4,.v (.slice b 0 N cp)),(6,.v (.slice ob 0 M fU)),(7,.v (.int .i64 (.ofNat i))),(8,.v (.int .i64 (.ofNat j)))] rfl (Eq.mp (by kernel_rfl) H)
theorem aa5(call:aP)(b N i:Nat)(cp:bR)(h:J){Q:bu->ah->Prop}(H:¬0<0/\Q (.exit 4) (ah.mk [(4,.slice b 0 N cp),(6,.aS),(7,.int .i64 (.ofNat i)),(8,.int .i64 (.ofNat 0))] [] .none (h.room 17))):
  a4 Tryz.prog Tryz.f51 call [1,1,1,1,1,0,1,0,0,1,0,0,1,0,0,0] ⟨[(4,.slice b 0 N cp),(6,.aS),(7,.int .i64 (.ofNat i)),(8,.int .i64 (.ofNat 0))],[],.none,h⟩ Q:=
 dF [(1069,.f)] [4,6,7,8] [(4,.v (.slice b 0 N cp)),(6,.v .aS),(7,.v (.int .i64 (.ofNat i))),(8,.v (.int .i64 (.ofNat 0)))] rfl (Eq.mp (by kernel_rfl) H)
theorem Oj(call:aP)(c d:Nat)(h:J){Q:bu->ah->Prop}(H:∃aE:Nat,ar h c (0+1)=some (.int .i64 (.ofNat aE))/\aE+1<9223372036854775808/\∃ai:J,bt.storeCells h c (0+1) [.int .i64 (.ofNat (aE+1))]=some ai/\Q .nrm (ah.mk [(0,.ptr c 0),(1,.int .i64 (.ofNat d))] [] .none ai)):
  a4 Tryz.prog Tryz.f27 call [1,0] ⟨[(0,.ptr c 0),(1,.int .i64 (.ofNat d))],[],.none,h⟩ Q:=
 dF [] [0,1] [(0,.v (.ptr c 0)),(1,.v (.int .i64 (.ofNat d)))] rfl (Eq.mp (by kernel_rfl) H)
theorem Ok(call:aP)(c d:Nat)(h:J){Q:bu->ah->Prop}(H:∃aE:Nat,∃ai:J,call (.fn 48) [.ptr c 0,.int .i64 (.ofNat 9)] h=.ret (.int .i64 (.ofNat aE)) ai/\1+aE<9223372036854775808/\Q .nrm (ah.mk [(0,.ptr c 0),(1,.int .i64 (.ofNat d)),(5,.int .i64 (.ofNat (1+aE)))] [] .none ai)):
  a4 Tryz.prog Tryz.f27 call [1,1,0] ⟨[(0,.ptr c 0),(1,.int .i64 (.ofNat d))],[],.none,h⟩ Q:=
 dF [] [0,1,5] [(0,.v (.ptr c 0)),(1,.v (.int .i64 (.ofNat d)))] rfl (Eq.mp (by kernel_rfl) H)
theorem Ol(call:aP)(c d k:Nat)(h:J){Q:bu->ah->Prop}(H:(d<1->∃aE:Nat,∃ai:J,call (.fn 48) [.ptr c 0,.int .i64 (.ofNat 5)] h=.ret (.int .i64 (.ofNat aE)) ai/\1+aE<9223372036854775808/\Q .nrm (ah.mk [(0,.ptr c 0),(1,.int .i64 (.ofNat d)),(5,.int .i64 (.ofNat (1+aE)))] [] .none ai))/\(¬d<1->∃bf:Nat,ar h c (0+1)=some (.int .i64 (.ofNat bf))/\(40<bf->∃bH:Nat,∃au:J,call (.fn 48) [.ptr c 0,.int .i64 (.ofNat 5)] h=.ret (.int .i64 (.ofNat bH)) au/\1+bH<9223372036854775808/\Q .nrm (ah.mk [(0,.ptr c 0),(1,.int .i64 (.ofNat d)),(5,.int .i64 (.ofNat (1+bH)))] [] .none au))/\(¬40<bf->Q .nrm (ah.mk [(0,.ptr c 0),(1,.int .i64 (.ofNat d)),(5,.int .i64 (.ofNat k))] [] .none h)))):
  a4 Tryz.prog Tryz.f27 call [1,1,1,0] ⟨[(0,.ptr c 0),(1,.int .i64 (.ofNat d)),(5,.int .i64 (.ofNat k))],[],.none,h⟩ Q:=
 dF [] [0,1,5] [(0,.v (.ptr c 0)),(1,.v (.int .i64 (.ofNat d))),(5,.v (.int .i64 (.ofNat k)))] rfl (Eq.mp (by kernel_rfl) H)
theorem aa6(call:aP)(c d k:Nat)(h:J){Q:bu->ah->Prop}(H:∃aE:Nat,∃ai:J,call (.fn 48) [.ptr c 0,.int .i64 (.ofNat 3)] (J.push h (.cells [.int .i64 (.ofNat k),.str [],.aS,.aS,.aZ] 80 .own 0 0))=.ret (.int .i64 (.ofNat aE)) ai/\aE+1<9223372036854775808/\a4 Tryz.prog Tryz.f27 call [1,1,1,1,1,1,0,1,0] (ah.mk [(0,.ptr c 0),(1,.int .i64 (.ofNat d)),(5,.int .i64 (.ofNat k)),(6,.ptr h.n 0),(7,.aS),(8,.int .i64 (.ofNat (aE+1)))] [] .none ai) (λb9 cf=>∃bf:Nat,∃au:J,∃bw:Env,b9=.exit 0/\cf=ah.mk bw [] .none au/\cd [(0,.ptr c 0),(5,.int .i64 (.ofNat k)),(6,.ptr bf 0),(7,.aS)] bw/\(k=6->∃bH:Nat,∃ay:J,call (.fn 48) [.ptr c 0,.int .i64 (.ofNat 2)] (J.push (J.push au (.cells [.str [97],.str [98],.str [99]] 9 .own 0 0)) (.cells [.str [109,46,84],.str [109,46,85]] 9 .own 0 0))=.ret (.int .i64 (.ofNat bH)) ay/\bH<2/\∃s1:List UInt8,ar ay (J.n (J.push au (.cells [.str [97],.str [98],.str [99]] 9 .own 0 0))) (0+bH*1)=some (.str s1)/\∃bg:J,bt.storeCells ay bf (0+1) [.str s1]=some bg/\(0=0->Q .ret (ah.mk [(4,.ptr bf 0)] [] .none bg))/\(¬0=0->Q .ret (ah.mk [(4,.ptr bg.n 0)] [] .none (J.push bg (.cells [.int .i64 (.ofNat 2),.str [],.aS,.aS,.aZ] 80 .own 0 0)))))/\(¬k=6->¬k=7/\¬k=8/\¬k=9/\(0=0->Q .ret (ah.mk [(4,.ptr bf 0)] [] .none (J.push au (.cells [.str [97],.str [98],.str [99]] 9 .own 0 0))))/\(¬0=0->Q .ret (ah.mk [(4,.ptr (J.n (J.push au (.cells [.str [97],.str [98],.str [99]] 9 .own 0 0))) 0)] [] .none (J.push (J.push au (.cells [.str [97],.str [98],.str [99]] 9 .own 0 0)) (.cells [.int .i64 (.ofNat 2),.str [],.aS,.aS,.aZ] 80 .own 0 0))))))):
  a4 Tryz.prog Tryz.f27 call [1,1,1,1] ⟨[(0,.ptr c 0),(1,.int .i64 (.ofNat d)),(5,.int .i64 (.ofNat k))],[],.none,h⟩ Q:=
 dF [(1066,.f),(1077,.f),(1088,.f),(74,.bq (.fC [.o,.n .i64])),(85,.bq (.fC [.o,.n .i64])),(92,.bq (.fC [.o,.n .i64])),(4000,.gO [0,1,5,6,7,8] [(.exit 0,[(0,.is (.ptr c 0)),(5,.is (.int .i64 (.ofNat k))),(6,.p),(7,.is .aS)])])] [4] [(0,.v (.ptr c 0)),(1,.v (.int .i64 (.ofNat d))),(5,.v (.int .i64 (.ofNat k)))] rfl (Eq.mp (by kernel_rfl) H)
theorem aa7(call:aP)(c d k:Nat)(h:J){Q:bu->ah->Prop}(H:∃aE:Nat,∃ai:J,call (.fn 48) [.ptr c 0,.int .i64 (.ofNat 3)] (J.push h (.cells [.int .i64 (.ofNat k),.str [],.aS,.aS,.aZ] 80 .own 0 0))=.ret (.int .i64 (.ofNat aE)) ai/\aE+1<9223372036854775808/\a4 Tryz.prog Tryz.f27 call [1,1,1,1,1,1,0,1,0] (ah.mk [(0,.ptr c 0),(1,.int .i64 (.ofNat d)),(5,.int .i64 (.ofNat k)),(6,.ptr h.n 0),(7,.aS),(8,.int .i64 (.ofNat (aE+1)))] [] .none ai) (λb9 cf=>∃bf:Nat,∃bH:Nat,∃bU:Nat,∃b_:Nat,∃aF:bR,∃au:J,∃bw:Env,b9=.exit 0/\cf=ah.mk bw [] .none au/\cd [(0,.ptr c 0),(5,.int .i64 (.ofNat k)),(6,.ptr bf 0),(7,.slice bH bU b_ aF)] bw/\¬k=6/\(k=7->∃v1:I,c1 Tryz.prog (J.push au (.cells [.str [97],.str [98],.str [99]] 9 .own 0 0)) 63 (.slice au.n 0 3 (.exact 3)) none (some (.int .i64 (.ofNat b_))) none=some v1/\∃cv:Nat,∃ay:J,call (.fn 49) [v1,.slice bH bU b_ aF] (J.push au (.cells [.str [97],.str [98],.str [99]] 9 .own 0 0))=.ret (.aO [.ptr cv 0,.int .i64 (.ofNat 0)]) ay/\(0=0->Q .ret (ah.mk [(4,.ptr cv 0)] [] .none ay))/\(¬0=0->Q .ret (ah.mk [(4,.ptr ay.n 0)] [] .none (J.push ay (.cells [.int .i64 (.ofNat 2),.str [],.aS,.aS,.aZ] 80 .own 0 0)))))/\(¬k=7->(k=8->∃v2:I,c1 Tryz.prog (J.room (J.push au (.cells [.str [97],.str [98],.str [99]] 9 .own 0 0)) 11) 50 (.slice bH bU b_ aF) (some (.int .i64 (.ofNat 1))) none none=some v2/\0<b_/\∃c4:Nat,ar (J.room (J.push au (.cells [.str [97],.str [98],.str [99]] 9 .own 0 0)) 11) bH (bU+0*1)=some (.ptr c4 0)/\∃eo:Nat,∃bg:J,call (.fn 50) [v2,.ptr c4 0] (J.room (J.push au (.cells [.str [97],.str [98],.str [99]] 9 .own 0 0)) 11)=.ret (.aO [.ptr eo 0,.int .i64 (.ofNat 0)]) bg/\I.sound v2=true/\(0=0->Q .ret (ah.mk [(4,.ptr eo 0)] [] .none bg))/\(¬0=0->Q .ret (ah.mk [(4,.ptr bg.n 0)] [] .none (J.push bg (.cells [.int .i64 (.ofNat 2),.str [],.aS,.aS,.aZ] 80 .own 0 0)))))/\(¬k=8->(k=9->∃eG:Nat,∃bF:J,call (.fn 51) [.slice bH bU b_ aF] (J.push au (.cells [.str [97],.str [98],.str [99]] 9 .own 0 0))=.ret (.aO [.ptr eG 0,.int .i64 (.ofNat 0)]) bF/\(0=0->Q .ret (ah.mk [(4,.ptr eG 0)] [] .none bF))/\(¬0=0->Q .ret (ah.mk [(4,.ptr bF.n 0)] [] .none (J.push bF (.cells [.int .i64 (.ofNat 2),.str [],.aS,.aS,.aZ] 80 .own 0 0)))))/\(¬k=9->(0=0->Q .ret (ah.mk [(4,.ptr bf 0)] [] .none (J.push au (.cells [.str [97],.str [98],.str [99]] 9 .own 0 0))))/\(¬0=0->Q .ret (ah.mk [(4,.ptr (J.n (J.push au (.cells [.str [97],.str [98],.str [99]] 9 .own 0 0))) 0)] [] .none (J.push (J.push au (.cells [.str [97],.str [98],.str [99]] 9 .own 0 0)) (.cells [.int .i64 (.ofNat 2),.str [],.aS,.aS,.aZ] 80 .own 0 0))))))))):
  a4 Tryz.prog Tryz.f27 call [1,1,1,1] ⟨[(0,.ptr c 0),(1,.int .i64 (.ofNat d)),(5,.int .i64 (.ofNat k))],[],.none,h⟩ Q:=
 dF [(1056,.f),(74,.bq (.fC [.p,.is (.int .i64 (.ofNat 0))])),(85,.bq (.fC [.p,.is (.int .i64 (.ofNat 0))])),(92,.bq (.fC [.p,.is (.int .i64 (.ofNat 0))])),(4000,.gO [0,1,5,6,7,8] [(.exit 0,[(0,.is (.ptr c 0)),(5,.is (.int .i64 (.ofNat k))),(6,.p),(7,.fx)])])] [4] [(0,.v (.ptr c 0)),(1,.v (.int .i64 (.ofNat d))),(5,.v (.int .i64 (.ofNat k)))] rfl (Eq.mp (by kernel_rfl) H)
theorem aa8(call:aP)(c d k:Nat)(h:J){Q:bu->ah->Prop}(H:∃aE:Nat,∃ai:J,call (.fn 48) [.ptr c 0,.int .i64 (.ofNat 3)] (J.push h (.cells [.int .i64 (.ofNat k),.str [],.aS,.aS,.aZ] 80 .own 0 0))=.ret (.int .i64 (.ofNat aE)) ai/\aE+1<9223372036854775808/\a4 Tryz.prog Tryz.f27 call [1,1,1,1,1,1,0,1,0] (ah.mk [(0,.ptr c 0),(1,.int .i64 (.ofNat d)),(5,.int .i64 (.ofNat k)),(6,.ptr h.n 0),(7,.aS),(8,.int .i64 (.ofNat (aE+1)))] [] .none ai) (λb9 cf=>∃bf:Nat,∃bH:Nat,∃bU:Nat,∃b_:Nat,∃aF:bR,∃au:J,∃bw:Env,b9=.exit 0/\cf=ah.mk bw [] .none au/\cd [(0,.ptr c 0),(5,.int .i64 (.ofNat k)),(6,.ptr bf 0),(7,.slice bH bU b_ aF)] bw/\¬k=6/\(k=7->∃v1:I,c1 Tryz.prog (J.push au (.cells [.str [97],.str [98],.str [99]] 9 .own 0 0)) 63 (.slice au.n 0 3 (.exact 3)) none (some (.int .i64 (.ofNat b_))) none=some v1/\∃ay:J,call (.fn 49) [v1,.slice bH bU b_ aF] (J.push au (.cells [.str [97],.str [98],.str [99]] 9 .own 0 0))=.ret (.aO [.aZ,.int .i64 (.ofNat 3)]) ay/\(3=0->Q .ret (ah.mk [(4,.aZ)] [] .none ay))/\(¬3=0->Q .ret (ah.mk [(4,.ptr ay.n 0)] [] .none (J.push ay (.cells [.int .i64 (.ofNat 2),.str [],.aS,.aS,.aZ] 80 .own 0 0)))))/\(¬k=7->(k=8->∃v2:I,c1 Tryz.prog (J.room (J.push au (.cells [.str [97],.str [98],.str [99]] 9 .own 0 0)) 11) 50 (.slice bH bU b_ aF) (some (.int .i64 (.ofNat 1))) none none=some v2/\0<b_/\∃cv:Nat,ar (J.room (J.push au (.cells [.str [97],.str [98],.str [99]] 9 .own 0 0)) 11) bH (bU+0*1)=some (.ptr cv 0)/\∃bg:J,call (.fn 50) [v2,.ptr cv 0] (J.room (J.push au (.cells [.str [97],.str [98],.str [99]] 9 .own 0 0)) 11)=.ret (.aO [.aZ,.int .i64 (.ofNat 3)]) bg/\I.sound v2=true/\(3=0->Q .ret (ah.mk [(4,.aZ)] [] .none bg))/\(¬3=0->Q .ret (ah.mk [(4,.ptr bg.n 0)] [] .none (J.push bg (.cells [.int .i64 (.ofNat 2),.str [],.aS,.aS,.aZ] 80 .own 0 0)))))/\(¬k=8->(k=9->∃bF:J,call (.fn 51) [.slice bH bU b_ aF] (J.push au (.cells [.str [97],.str [98],.str [99]] 9 .own 0 0))=.ret (.aO [.aZ,.int .i64 (.ofNat 3)]) bF/\(3=0->Q .ret (ah.mk [(4,.aZ)] [] .none bF))/\(¬3=0->Q .ret (ah.mk [(4,.ptr bF.n 0)] [] .none (J.push bF (.cells [.int .i64 (.ofNat 2),.str [],.aS,.aS,.aZ] 80 .own 0 0)))))/\(¬k=9->(0=0->Q .ret (ah.mk [(4,.ptr bf 0)] [] .none (J.push au (.cells [.str [97],.str [98],.str [99]] 9 .own 0 0))))/\(¬0=0->Q .ret (ah.mk [(4,.ptr (J.n (J.push au (.cells [.str [97],.str [98],.str [99]] 9 .own 0 0))) 0)] [] .none (J.push (J.push au (.cells [.str [97],.str [98],.str [99]] 9 .own 0 0)) (.cells [.int .i64 (.ofNat 2),.str [],.aS,.aS,.aZ] 80 .own 0 0))))))))):
  a4 Tryz.prog Tryz.f27 call [1,1,1,1] ⟨[(0,.ptr c 0),(1,.int .i64 (.ofNat d)),(5,.int .i64 (.ofNat k))],[],.none,h⟩ Q:=
 dF [(1056,.f),(74,.bq (.fC [.is .aZ,.is (.int .i64 (.ofNat 3))])),(85,.bq (.fC [.is .aZ,.is (.int .i64 (.ofNat 3))])),(92,.bq (.fC [.is .aZ,.is (.int .i64 (.ofNat 3))])),(4000,.gO [0,1,5,6,7,8] [(.exit 0,[(0,.is (.ptr c 0)),(5,.is (.int .i64 (.ofNat k))),(6,.p),(7,.fx)])])] [4] [(0,.v (.ptr c 0)),(1,.v (.int .i64 (.ofNat d))),(5,.v (.int .i64 (.ofNat k)))] rfl (Eq.mp (by kernel_rfl) H)
theorem Om(call:aP)(c d k q n:Nat)(w:I)(h:J){Q:bu->ah->Prop}(H:(0<n->(7<=k->(1<=d/\d<9223372036854775808)/\∃aE:Nat,∃ai:J,call (.fn 27) [.ptr c 0,.int .i64 (.ofNat (d-1))] h=.ret (.ptr aE 0) ai/\∃v1:I,∃au:J,db Tryz.prog (J.push ai (.cells [.ptr aE 0] 35 .own 0 0)) 50 (some 50) w (.slice ai.n 0 1 (.exact 1))=some (v1,au)/\(1<=n/\n<9223372036854775808)/\Q .nrm (ah.mk [(0,.ptr c 0),(1,.int .i64 (.ofNat d)),(5,.int .i64 (.ofNat k)),(6,.ptr q 0),(7,v1),(8,.int .i64 (.ofNat (n-1)))] [] .none au))/\(¬7<=k->Q (.exit 0) (ah.mk [(0,.ptr c 0),(1,.int .i64 (.ofNat d)),(5,.int .i64 (.ofNat k)),(6,.ptr q 0),(7,w),(8,.int .i64 (.ofNat n))] [] .none h)))/\(¬0<n->Q (.exit 0) (ah.mk [(0,.ptr c 0),(1,.int .i64 (.ofNat d)),(5,.int .i64 (.ofNat k)),(6,.ptr q 0),(7,w),(8,.int .i64 (.ofNat n))] [] .none h))):
  a4 Tryz.prog Tryz.f27 call [1,1,1,1,1,1,0,1,0,0] ⟨[(0,.ptr c 0),(1,.int .i64 (.ofNat d)),(5,.int .i64 (.ofNat k)),(6,.ptr q 0),(7,w),(8,.int .i64 (.ofNat n))],[],.none,h⟩ Q:=
 dF [] [0,1,5,6,7,8] [(0,.v (.ptr c 0)),(1,.v (.int .i64 (.ofNat d))),(5,.v (.int .i64 (.ofNat k))),(6,.v (.ptr q 0)),(7,.o w),(8,.v (.int .i64 (.ofNat n)))] rfl (Eq.mp (by kernel_rfl) H)
theorem aa9(m:Nat)(v:I)(h:J){R:a9->Prop}(H:∃aE:Nat,cl Tryz.prog h 27 v=some (.int .i64 (.ofNat aE))/\∃bf:Nat,lU qN (.int .i64 (.ofNat aE)) [.int .i64 (.ofNat 60)]=some (.int .i64 (.ofNat bf))/\∃v1:I,c1 Tryz.prog h 27 v none (some (.int .i64 (.ofNat bf))) none=some v1/\I.cO v1=true/\I.cO v1=true/\∃bH:Nat,∃ai:J,(Y m) (.fn 27) [.ptr h.n 0,.int .i64 (.ofNat 3)] (J.push h (.cells [v1,.int .i64 (.ofNat 0)] 72 .own 0 0))=.ret (.ptr bH 0) ai/\R (.ret (.ptr bH 0) ai)):
  R (Y (m+1) (.fn 12) [v] h):=
 dQ (intr:=b3) [(7,.bq (.n .i64))] [(0,.o v)] Tryz.func12 (by kernel_rfl) (by kernel_rfl) (by kernel_rfl) rfl (Eq.mp (by kernel_rfl) H)
theorem On(call:aP)(c d:Nat)(h:J){Q:bu->ah->Prop}(H:Q .nrm (ah.mk [(0,.ptr c 0),(1,.int .i64 (.ofNat d))] [] .none h)):
  a4 Tryz.prog Tryz.f27 call [0] ⟨[(0,.ptr c 0),(1,.int .i64 (.ofNat d))],[],.none,h⟩ Q:=
 dF [] [0,1] [(0,.v (.ptr c 0)),(1,.v (.int .i64 (.ofNat d)))] rfl (Eq.mp (by kernel_rfl) H)
theorem HF{P:Program}{h:J}{T E b off n:Nat}{cp:bR}(hu:P.underlying T=some (.slice E))(hs:dx P E=some 1)(h0:0<n)(ag:xv n cp):∃oM jD,c1 P h T (.slice b off n cp) (some (.int .i64 (Int.ofNat 1))) none none=some (.slice b oM (n-1) jD)/\xv (n-1) jD/\(0<n-1->oM=off+1*1/\jD≠ .dead):=by
 have a3:Nat.ble 1 n=true:=by rw[Nat.ble_eq];omega
 cases cp with
 |exact k=>
  have aq:n<=k:=ag
  have br:Nat.ble k k=true:=by rw[Nat.ble_eq];omega
  have dm:Nat.ble n k=true:=by rw[Nat.ble_eq];omega
  refine⟨if k=1 then off else off+1*1,.exact (k-1),by simp only[c1,hu,hs,bounds,g4,eI,br,a3,dm],by show n-1<=k-1;omega,λaa=>⟨?_,by simp⟩⟩
  rw[if_neg (by omega)]
 |aR e=>
  obtain rfl:e=1:=ag
  have br:Nat.ble n n=true:=by rw[Nat.ble_eq];omega
  by_cases aa:1<n
  · have dm:Nat.blt 1 n=true:=by rw[Nat.blt_eq];omega
    refine⟨off+1*1,.aR 1,?_,rfl,λ_=>⟨rfl,by simp⟩⟩
    simp only[c1,hu,hs,bounds,g4,eI,br,a3,dm,if_true]
    rw[if_neg (by decide)]
  · have dm:¬Nat.blt 1 n=true:=by rw[Nat.blt_eq];omega
    obtain rfl:n=1:=by omega
    exact⟨off,.dead,by simp only[c1,hu,hs,bounds,g4,eI];rfl,rfl,λh=>absurd h (by omega)⟩
 |dead=>have:n=0:=ag;omega
theorem Oo{P:Program}{h:J}{T E b off n k:Nat}{cp:bR}(hu:P.underlying T=some (.slice E))(hs:dx P E=some 1)(aq:k<=n)(ag:xv n cp):∃oM jD,c1 P h T (.slice b off n cp) none (some (.int .i64 (Int.ofNat k))) none=some (.slice b oM k jD)/\xv k jD/\(0<k->oM=off/\jD≠ .dead):=by
 have cJ:Nat.ble 0 k=true:=by rw[Nat.ble_eq];omega
 cases cp with
 |exact j=>
  have aK:n<=j:=ag
  have br:Nat.ble j j=true:=by rw[Nat.ble_eq];omega
  have dm:Nat.ble k j=true:=by rw[Nat.ble_eq];omega
  refine⟨if j=0 then off else off+0*1,.exact (j-0),by simp only[c1,hu,hs,bounds,g4,eI,br,cJ,dm,Nat.sub_zero],by show k<=j-0;omega,λaa=>⟨?_,by simp⟩⟩
  rw[if_neg (by omega),Nat.zero_mul,Nat.add_zero]
 |aR e=>
  obtain rfl:e=1:=ag
  have br:Nat.ble n n=true:=by rw[Nat.ble_eq];omega
  have a3:Nat.ble k n=true:=by rw[Nat.ble_eq];omega
  exact⟨off,.aR 1,by simp only[c1,hu,hs,bounds,g4,eI,br,a3,cJ,if_true,Nat.sub_zero],rfl,λ_=>⟨rfl,by simp⟩⟩
 |dead=>
  have h0:n=0:=ag
  obtain rfl:k=0:=by omega
  exact⟨off,.dead,by simp only[c1,hu,hs,bounds,g4,eI],rfl,λh=>absurd h (by omega)⟩
def lf(B:Nat)(h:J)(v:I)(s:a7):Prop:=(v=.aS/\s=[])\/∃b off cp,v=.slice b off s.length cp/\b<B/\xv s.length cp/\∀i (af:i<s.length),ar h b (off+i*1)=some (.int .u8 (Int.ofNat s[i].toNat))
theorem lf.ext{B:Nat}{h g:J}{v:I}{s:a7}(x:Ext B h g)(o:lf B h v s):lf B g v s:=by
 rcases o with o|⟨b,off,cp,aa,ad,av,aG⟩
 · exact .inl o
 · exact .inr ⟨b,off,cp,aa,ad,av,λi af=>jh x ad (aG i af)⟩
theorem lf.len{B:Nat}{h:J}{v:I}{s:a7}(o:lf B h v s)(g:J):cl Tryz.prog g 27 v=some (.int .i64 (Int.ofNat s.length)):=by
 rcases o with⟨rfl,rfl⟩|⟨b,off,cp,rfl,_⟩<;>rfl
structure ga(B c:Nat)(h:J)(m:fm):Prop where
 get:∃v,h.get c=some (.cells [v,.int .i64 (Int.ofNat m.nodes)] 72 .own 0 0)/\lf B h v m.left
 aI:B<=c
 up:c<h.n
structure eH(c:Nat)(h g:J):Prop where
 n:h.n<=g.n
 get:∀d,d<h.n->d≠c->g.get d=h.get d
theorem eH.refl(c:Nat)(h:J):eH c h h:=⟨Nat.le_refl _,λ_ _ _=>rfl⟩
theorem eH.trans{c:Nat}{h g k:J}(e:eH c h g)(f:eH c g k):eH c h k:=⟨Nat.le_trans e.n f.n,λd ao ag=>(f.get d (Nat.lt_of_lt_of_le ao e.n) ag).trans (e.get d ao ag)⟩
theorem eH.lb{c:Nat}{h g:J}(e:Ext h.n h g):eH c h g:=⟨e.n,λd ao _=>e.get d ao⟩
theorem ga.move{B c:Nat}{h g:J}{m:fm}(o:ga B c h m)(e:Ext h.n h g):ga B c g m:=by
 obtain⟨v,aa,ad⟩:=o.get
 have hu:=o.up
 exact⟨⟨v,(e.get c hu).trans aa,ad.ext (e.le (by have:=o.aI;omega))⟩,o.aI,Nat.lt_of_lt_of_le hu e.n⟩
theorem Oq(n:Nat)(aN:n<256)(h:J):iZ Tryz.prog 5 3 (.int .u8 (Int.ofNat n)) h=.val (.int .i64 (Int.ofNat n)) h:=Lw (ka:=.u8) (by kernel_rfl) (by kernel_rfl) (sg n (by omega))
theorem Dd{h g:J}{b off:Nat}(e:g.get b=h.get b):ar g b off=ar h b off:=by unfold ar;rw[e]
theorem ve(m n:Nat){B c:Nat}{h:J}{k:fm}(aq:ga B c h k)(h0:0<n):∃g,Y (m+1) (.fn 48) [.ptr c 0,.int .i64 (Int.ofNat n)] h=.ret (.int .i64 (Int.ofNat (dg n k).1)) g/\ga B c g (dg n k).2/\eH c h g:=by
 obtain⟨⟨v,al,ae⟩,iA,qE⟩:=aq
 obtain⟨left,nodes⟩:=k
 refine aaS m c n h (R:=λx=>∃g,x=.ret (.int .i64 (Int.ofNat (dg n ⟨left,nodes⟩).1)) g/\ga B c g (dg n ⟨left,nodes⟩).2/\eH c h g) ⟨v,aT al rfl,left.length,ae.len h,λaw=>?_,λaw=>?_⟩
 · obtain rfl:left=[]:=List.eq_nil_of_length_eq_zero aw
   exact⟨h,rfl,⟨⟨v,al,ae⟩,iA,qE⟩,eH.refl _ _⟩
 · rcases ae with⟨rfl,rfl⟩|⟨b,off,cp,rfl,ad,av,aG⟩
   · exact absurd rfl aw
   cases left with
   |nil=>exact absurd rfl aw
   |cons x l=>
    have ab:=UInt8.toNat_lt x
    obtain⟨oM,jD,aA,ax,bD⟩:=HF (P:=Tryz.prog) (h:=h) (T:=27) (E:=5) (b:=b) (off:=off) (by kernel_rfl) (by kernel_rfl) (by simp) av
    refine⟨b,off,_,cp,aT al rfl,by simp,x.toNat,aG 0 (by simp),x.toNat,Oq _ (by omega) h,x.toNat %n,FV .i64 h0,b,off,_,cp,aT al rfl,_,aA,rfl,_,gN al rfl rfl,_,rfl,⟨⟨_,gk rfl,?_⟩,iA,by simpa using qE⟩,⟨by simp,λd ao ag=>dB ag rfl⟩⟩
    refine .inr ⟨b,oM,jD,rfl,ad,ax,λi af=>?_⟩
    have af:i<l.length:=af
    obtain⟨f1,_⟩:=bD (by simp;omega)
    have fF:=aG (i+1) (by simp;omega)
    rw[f1,show off+1*1+i*1=off+(i+1)*1 by omega]
    have sh:b≠c:=by omega
    refine(Dd ?_).trans fF
    exact dB sh rfl
abbrev mn(a b:Nat)(d:Nat):Prop:=a<=d/\d<b
abbrev gq(aI:Nat)(h:J)(t:aC)(v:I):Prop:=dY (mn aI h.n) h t v
abbrev jE(aI:Nat)(h:J)(l:List aC)(vs:List I):Prop:=cT (mn aI h.n) h l vs
theorem Ext.jn{aI:Nat}{h g:J}(x:Ext h.n h g):∀b,mn aI h.n b->mn aI g.n b/\g.get b=h.get b:=λb ae=>⟨⟨ae.1,Nat.lt_of_lt_of_le ae.2 x.n⟩,x.get b ae.2⟩
theorem gq.hk{aI:Nat}{h g:J}{t:aC}{v:I}(x:Ext h.n h g)(o:gq aI h t v):gq aI g t v:=dY.bO (Ext.jn x) t v o
theorem jE.hk{aI:Nat}{h g:J}{l:List aC}{vs:List I}(x:Ext h.n h g)(o:jE aI h l vs):jE aI g l vs:=cT.bO (Ext.jn x) l vs o
theorem gq.at{aI:Nat}{h:J}{t:aC}{v:I}(o:gq aI h t v):dD h.n h t v:=dY.at (λb ae=>ae.2) t v o
theorem jE.at{aI:Nat}{h:J}{l:List aC}{vs:List I}(o:jE aI h l vs):dL h.n h l vs:=cT.at (λb ae=>ae.2) l vs o
theorem cT.len{F:Nat->Prop}{h:J}:∀{ck:List aC} {vs:List I},cT F h ck vs->vs.length=ck.length
 |[],vs,ab=>by have e:vs=[]:=ab;rw[e];rfl
 |t::ck,vs,ab=>by
  obtain⟨v,ws,rfl,_,ad⟩:=ab
  rw[List.length_cons,List.length_cons,cT.len ad]
theorem cT.get{F:Nat->Prop}{h:J}:∀{ck:List aC} {vs:List I},cT F h ck vs->∀i (aa:i<vs.length) (ad:i<ck.length),dY F h ck[i] vs[i]
 |[],_,_,_,_,ad=>by cases ad
 |t::ck,_,ab,0,_,_=>by obtain⟨v,ws,rfl,av,_⟩:=ab;exact av
 |t::ck,_,ab,i+1,aa,ad=>by
  obtain⟨v,ws,rfl,_,av⟩:=ab
  exact cT.get av i (by simpa using aa) (by simpa using ad)
theorem dY.ptr{F:Nat->Prop}{h:J}:∀{t:aC} {v:I},dY F h t v->∃r,v=.ptr r 0
 |.mk _ _ _ _ _,_,ab=>by obtain⟨r,_,_,_,_,_,_,_,aa,_⟩:=ab;exact⟨r,aa⟩
theorem cT.De{F:Nat->Prop}{h:J}:∀{ck:List aC} {vs:List I},cT F h ck vs->∃ps:List Nat,vs=ps.map λp=>.ptr p 0
 |[],vs,ab=>⟨[],ab⟩
 |t::ck,_,ab=>by
  obtain⟨v,ws,rfl,aa,ad⟩:=ab
  obtain⟨r,rfl⟩:=dY.ptr aa
  obtain⟨ps,rfl⟩:=cT.De ad
  exact⟨r::ps,rfl⟩
theorem cT.app{F:Nat->Prop}{h:J}{us:List aC}{ws:List I}(hu:cT F h us ws):∀{ck:List aC} {vs:List I},cT F h ck vs->cT F h (ck++us) (vs++ws)
 |[],vs,ab=>by have e:vs=[]:=ab;rw[e];exact hu
 |t::ck,_,ab=>by
  obtain⟨v,ys,rfl,aa,ad⟩:=ab
  exact⟨v,ys++ws,rfl,aa,cT.app hu ad⟩
theorem cT.take{F:Nat->Prop}{h:J}:∀{ck:List aC} {vs:List I} (k:Nat),cT F h ck vs->cT F h (ck.take k) (vs.take k)
 |[],vs,k,ab=>by have e:vs=[]:=ab;rw[e,List.take_nil,List.take_nil];rfl
 |t::ck,vs,0,ab=>rfl
 |t::ck,_,k+1,ab=>by
  obtain⟨v,ys,rfl,aa,ad⟩:=ab
  exact⟨v,ys.take k,rfl,aa,cT.take k ad⟩
theorem cT.drop{F:Nat->Prop}{h:J}:∀{ck:List aC} {vs:List I} (k:Nat),cT F h ck vs->cT F h (ck.drop k) (vs.drop k)
 |[],vs,k,ab=>by have e:vs=[]:=ab;rw[e,List.drop_nil,List.drop_nil];rfl
 |t::ck,vs,0,ab=>ab
 |t::ck,_,k+1,ab=>by
  obtain⟨v,ys,rfl,aa,ad⟩:=ab
  exact cT.drop k ad
theorem HG{k N M:Nat}{s:a7}{o:Bool}(h:ik k s N M o=true)(di:k≠7):N=0:=by
 unfold ik at h
 simp only[Bool.and_eq_true] at h
 have:=h.1.1.2
 simp only[Bool.not_eq_true',Bool.and_eq_false_iff,decide_eq_false_iff_not] at this
 rcases this with h|h
 · omega
 · exact absurd di (by simpa using h)
mutual
theorem Ot:∀t:aC,ep t=true->iQ t<=sz t
 |.mk k nm ns xs rt,h=>by
  rw[nL] at h
  simp only[Bool.and_eq_true] at h
  obtain⟨_,aQ,ab,aq⟩:=h
  have aa:=Ou xs ab
  have ad:nK rt<=c_ rt:=by
   cases rt with
   |none=>rw[nK];exact Nat.zero_le _
   |some u=>
    have hR:k=8:=by
     unfold ik at aQ
     simp only[Bool.and_eq_true] at aQ
     have:=aQ.2
     simpa using this
    subst hR
    have hu:ep u=true:=by simpa[e3,iR] using aq
    rw[nK,c_]
    exact Ot u hu
  have av:ns.length<=xs.length:=by
   by_cases di:k=7
   · subst di
     have:ns.length=xs.length/\j_ none ns=true:=by simpa[e3] using aq
     omega
   · have:=HG aQ di;omega
  have aG:=mW xs
  have bI:=HH xs ab
  rw[iQ,sz]
  omega
theorem Ou:∀l:List aC,hL l=true->pg l<=df l
 |[],_=>by rw[pg];exact Nat.zero_le _
 |t::l,h=>by
  rw[hL,Bool.and_eq_true] at h
  have aa:=Ot t h.1
  have ad:=Ou l h.2
  rw[pg,df];omega
theorem HH:∀l:List aC,hL l=true->pg l+l.length<=df l
 |[],_=>by rw[pg,df];simp
 |t::l,h=>by
  rw[hL,Bool.and_eq_true] at h
  have aa:=HI t h.1
  have ad:=HH l h.2
  rw[pg,df,List.length_cons];omega
theorem HI:∀t:aC,ep t=true->iQ t+1<=sz t
 |.mk k nm ns xs rt,h=>by
  rw[nL] at h
  simp only[Bool.and_eq_true] at h
  obtain⟨_,aQ,ab,aq⟩:=h
  have aa:=HH xs ab
  have ad:nK rt<=c_ rt:=by
   cases rt with
   |none=>rw[nK];exact Nat.zero_le _
   |some u=>
    have hR:k=8:=by
     unfold ik at aQ
     simp only[Bool.and_eq_true] at aQ
     have:=aQ.2
     simpa using this
    subst hR
    have hu:ep u=true:=by simpa[e3,iR] using aq
    have:=HI u hu
    rw[nK,c_];omega
  have av:ns.length<=xs.length:=by
   by_cases di:k=7
   · subst di
     have:ns.length=xs.length/\j_ none ns=true:=by simpa[e3] using aq
     omega
   · have:=HG aQ di;omega
  rw[iQ,sz]
  omega
end
theorem Ag{t:aC}(h:dv (some t)=0):sz t<=60/\iQ t<=60:=by
 obtain⟨aa,ad⟩:=ld.1 h
 have:=HI t ad
 exact⟨aa,by omega⟩
theorem HJ(m:Nat){B:Nat}{h:J}{b off:Nat}{cp:bR}{l:List aC}{vs:List I}(hm:70<=m)(cC:B<=h.n)(ae:b<B)(aw:∀i (af:i<vs.length),ar h b (off+i*1)=some vs[i])(ab:dL B h l vs)(hlen:vs.length<=1000)(ag:∀t∈l,dv (some t)=0):cZ B h (.bool true) (Y (m+2) (.fn 75) [.slice b off vs.length cp] h):=by
 refine aaT (m+1) b off vs.length cp h (R:=cZ B h (.bool true)) ?_
 refine a4.loop (by kernel_rfl) (λk st=>∃i y Γ,st=⟨Γ,[],.none,y⟩/\cd [(0,.slice b off vs.length cp),(3,.int .i64 (Int.ofNat i))] Γ/\vs.length-i=k/\i<=vs.length/\Ext B h y) ?_ vs.length _ (by omega) ⟨0,h,_,rfl,⟨rfl,rfl,trivial⟩,by omega,by omega,Ext.refl _ _⟩
 rintro k st ⟨i,y,Γ,rfl,cL,aq,af,aU⟩
 have eD:=dL.len ab
 refine a4.pre (aaU (Y (m+1)) b off _ i cp y ⟨λaa=>?_,λaa=>?_⟩) cL rfl rfl rfl
 · have ad:i<l.length:=by omega
   have bc:=dL.get ab i aa ad
   have lM:=ag _ (List.getElem_mem ad)
   obtain⟨s1,s2⟩:=Ag lM
   have eR:c_ (some l[i])=sz l[i]:=iP _
   have aQ:∃r,vs[i]=.ptr r 0:=by
    rcases dM.CF (ot:=some l[i]) bc with e|⟨r,e⟩
    · exfalso
      rw[e] at bc
      cases aa_:l[i] with
      |mk b6 cU c8 ek en=>
       rw[aa_] at bc
       obtain⟨_,_,_,_,_,_,_,_,e,_⟩:=bc;cases e
    · exact⟨r,e⟩
   obtain⟨r,aj⟩:=aQ
   obtain⟨g,aF,bC⟩:=Nl (ot:=some l[i]) (B:=B) (h:=y) (v:=vs[i]) m (by omega) (λt e=>by cases e;omega) (by omega) (Nat.le_trans cC aU.n) (dM.bO (fa.ext aU (Nat.le_refl _)) _ _ bc)
   rw[lM,aj] at aF
   refine⟨aa,r,(jh aU ae (aw i aa)).trans (by rw[aj]),0,g,aF,λ_=>⟨by omega,_,(by show _<k;omega),i+1,g,_,rfl,⟨rfl,rfl,trivial⟩,rfl,by omega,aU.trans (Nat.le_refl _) bC⟩,λh=>absurd rfl h⟩
 · exact .inl ⟨y,_,rfl,rfl,trivial,cZ.mk aU⟩
theorem aba(m:Nat){B:Nat}{h:J}{t:aC}{r:Nat}(ae:sz t<=90000)(hm:sz t<m)(aD:dD B h t (.ptr r 0)):Y (m+2) (.fn 78) [.ptr r 0] h=.ret (if sz t<=60 then .aO [.ptr r 0,.int .i64 (Int.ofNat 0)] else .aO [.aZ,.int .i64 (Int.ofNat 3)]) h:=by
 refine aaV (m+1) r h (R:=λx=>x=_) ⟨_,h,MF ae hm aD,λcq=>?_,λcq=>?_⟩
 · rw[if_neg (by omega)]
 · rw[if_pos (by omega)]
theorem cu.abb{D:Type}{P:Program}{e:D->I}{el sT:TypeId}(T:jy P (λd=>[e d]) 1 el sT){B:Nat}{h:J}{v:I}{ds:List D}(aY:cu (λd=>[e d]) 1 el B h v ds){k:Nat}(aq:k<=ds.length):∃v',c1 P h sT v none (some (.int .i64 (Int.ofNat k))) none=some v'/\∀g,(∀p,v=.slice p 0 ds.length (.aR 1)->g.get p=h.get p)->fg g 1 v'=some ((ds.take k).length,cV (λd=>[e d]) (ds.take k)):=by
 rcases aY with⟨rfl,rfl⟩|⟨p,rfl,ad,av,aG,bI⟩
 · obtain rfl:k=0:=by simpa using aq
   refine⟨.aS,?_,λg _=>by rw[List.take_zero];rfl⟩
   simp only[c1,T.hu,T.size,bounds,g4,eI]
 · refine⟨_,CX T.hu T.size aq,λg al=>?_⟩
   have hlen:(ds.take k).length=k:=by rw[List.length_take];omega
   by_cases h0:k=0
   · subst h0
     have e:bt.loadCells g p 0 (0*1)=some []:=pa ((al p rfl).trans av) rfl
     simp only[fg,e,List.take_zero];rfl
   · have:=c6.src (B:=B) (h:=g) (b:=p) (off:=0) (cp:=.aR 1) (vs:=(ds.take k).map e) (λi af=>by
       rw[List.length_map] at af
       refine lB ((al p rfl).trans av) ?_
       rw[jm,List.getElem?_map,Nat.zero_add,Nat.mul_one,List.getElem?_eq_getElem (by omega)]
       simp) (by rw[List.length_map];omega) (by simp)
     rw[List.length_map,hlen] at this
     rw[this,hlen,jm]
theorem cu.abc{D:Type}{P:Program}{e:D->I}{el sT:TypeId}(T:jy P (λd=>[e d]) 1 el sT){B:Nat}{h:J}{v:I}{ds:List D}(aY:cu (λd=>[e d]) 1 el B h v ds){k:Nat}(aq:k<=ds.length)(g:J)(al:∀p,v=.slice p 0 ds.length (.aR 1)->g.get p=h.get p):∃v',c1 P g sT v (some (.int .i64 (Int.ofNat k))) none none=some v'/\fg g 1 v'=some ((ds.drop k).length,cV (λd=>[e d]) (ds.drop k)):=by
 rcases aY with⟨rfl,rfl⟩|⟨p,rfl,ad,av,aG,bI⟩
 · obtain rfl:k=0:=by simpa using aq
   refine⟨.aS,?_,rfl⟩
   simp only[c1,T.hu,T.size,bounds,g4,eI]
 · have hlen:(ds.drop k).length=ds.length-k:=by rw[List.length_drop]
   have rd:∀(o:Nat) (c:bR),c≠ .dead->o=0+k*1->0<ds.length-k->fg g 1 (.slice p o (ds.length-k) c)=some (ds.length-k,(ds.drop k).map e):=λo c ag aY h0=>by
    have:=c6.src (B:=B) (h:=g) (b:=p) (off:=o) (cp:=c) (vs:=(ds.drop k).map e) (λi af=>by
     rw[List.length_map,hlen] at af
     refine lB ((al p rfl).trans av) ?_
     rw[jm,List.getElem?_map,List.getElem?_eq_getElem (by omega)]
     simp[aY]) (by rw[List.length_map];omega) ag
    rw[List.length_map,hlen] at this
    exact this
   by_cases h0:k=0
   · subst h0
     have br:Nat.ble ds.length ds.length=true:=by rw[Nat.ble_eq];omega
     have a3:Nat.ble 0 ds.length=true:=by rw[Nat.ble_eq];omega
     refine⟨.slice p 0 ds.length (.aR 1),by simp only[c1,T.hu,T.size,bounds,g4,eI,br,a3,if_true],?_⟩
     have:=rd 0 (.aR 1) (by simp) rfl (by omega)
     rw[jm,hlen]
     exact this
   · by_cases cq:k<ds.length
     · refine⟨_,zY T.hu T.size (by omega) cq,?_⟩
       rw[rd _ _ (by simp) rfl (by omega),jm,hlen]
     · obtain rfl:k=ds.length:=by omega
       have br:Nat.ble ds.length ds.length=true:=by rw[Nat.ble_eq];omega
       have dm:¬Nat.blt ds.length ds.length=true:=by rw[Nat.blt_eq];omega
       refine⟨.slice p 0 0 .dead,by simp only[c1,T.hu,T.size,bounds,g4,eI,br,if_true,if_neg h0,if_neg dm],?_⟩
       rw[List.drop_length];rfl
theorem cu.cell{D:Type}{enc:D->List I}{w el B:Nat}{h:J}{v:I}{ds:List D}(aY:cu enc w el B h v ds):v.cO=true:=by
 rcases aY with⟨rfl,_⟩|⟨p,rfl,_⟩<;>rfl
theorem cu.len{D:Type}{P:Program}{enc:D->List I}{w el sT B:Nat}(hu:P.underlying sT=some (.slice el)){h:J}{v:I}{ds:List D}(aY:cu enc w el B h v ds)(g:J):cl P g sT v=some (.int .i64 (Int.ofNat ds.length)):=by
 rcases aY with⟨rfl,rfl⟩|⟨p,rfl,_⟩<;>simp only[cl,hu]<;>rfl
theorem grow{D:Type}{P:Program}{e:D->I}{el sT:TypeId}(T:jy P (λd=>[e d]) 1 el sT){B:Nat}{h:J}{v:I}{ds:List D}(aY:cu (λd=>[e d]) 1 el B h v ds)(d:D)(tc:TypeId){k:Nat}(aq:k<=ds.length)(aw:ds.length<=1000):
  ∃cz v4 ay,c1 P h sT v none (some (.int .i64 (Int.ofNat k))) none=some cz/\db P h sT (some sT) .aS cz=some (v4,ay)/\Ext h.n h ay/\
  ∃er bg,db P (ay.push (.cells [e d] tc .own 0 0)) sT (some sT) v4 (.slice ay.n 0 1 (.exact 1))=some (er,bg)/\Ext h.n h bg/\
  ∃hM gA bF,c1 P bg sT v (some (.int .i64 (Int.ofNat k))) none none=some hM/\db P bg sT (some sT) er hM=some (gA,bF)/\Ext h.n h bF/\cu (λd=>[e d]) 1 el h.n bF gA (ds.take k++d::ds.drop k):=by
 obtain⟨cz,bD,bN⟩:=cu.abb T aY aq
 have c5:(ds.take k).length<=ds.length:=by rw[List.length_take];omega
 obtain⟨v4,ay,ed,vf,e2,_⟩:=wz T (B:=h.n) (h:=h) (v:=.aS) (ds:=[]) (es:=ds.take k) (.inl ⟨rfl,rfl⟩) (Nat.le_refl _) (bN h λ_ _=>rfl) (by simp;omega)
 rw[List.nil_append] at vf
 have abd:cu (λd=>[e d]) 1 el h.n (ay.push (.cells [e d] tc .own 0 0)) v4 (ds.take k):=vf.mono (Ext.push (Nat.le_refl _) _) (Nat.le_refl _)
 have Ov:Ext h.n h (ay.push (.cells [e d] tc .own 0 0)):=Ext.k2 e2.n e2
 obtain⟨er,bg,fF,abe,pe,_⟩:=wz T (B:=h.n) (es:=[d]) abd Ov.n (uC T ay tc d) (by rw[List.length_singleton];omega)
 have Df:=Ov.trans (Nat.le_refl _) pe
 obtain⟨hM,gj,dE⟩:=cu.abc T aY aq bg (λp aQ=>by
  rcases aY with⟨rfl,_⟩|⟨q,rfl,_,_,_,bI⟩
  · cases aQ
  · cases aQ;exact Df.get _ bI)
 have af1:(ds.drop k).length<=ds.length:=by rw[List.length_drop];omega
 obtain⟨gA,bF,g6,abf,abg,_⟩:=wz T (B:=h.n) (es:=ds.drop k) abe Df.n dE (by rw[List.length_append,List.length_singleton];omega)
 refine⟨cz,v4,ay,bD,ed,e2,er,bg,fF,Df,hM,gA,bF,gj,g6,Df.trans (Nat.le_refl _) abg,?_⟩
 have gv:ds.take k++d::ds.drop k=ds.take k++[d]++ds.drop k:=by simp
 rw[gv];exact abf
def Ah(aI:Nat)(h:J)(t:aC)(x:a9):Prop:=∃g,Ext h.n h g/\((sz t<=60/\∃r,x=.ret (.aO [.ptr r 0,.int .i64 (Int.ofNat 0)]) g/\gq aI g t (.ptr r 0))\/(60<sz t/\x=.ret (.aO [.aZ,.int .i64 (Int.ofNat 3)]) g))
abbrev g2(p:Nat):I:=.ptr p 0
abbrev iW(B:Nat)(h:J)(v:I)(ps:List Nat):Prop:=cu (λd=>[g2 d]) 1 35 B h v ps
abbrev mo(B:Nat)(h:J)(v:I)(cf:List a7):Prop:=cu (λd=>[I.str d]) 1 9 B h v cf
theorem lN:jy Tryz.prog (λd=>[g2 d]) 1 35 50:=aaR
theorem abh:jy Tryz.prog (λd=>[I.str d]) 1 9 63:=aaQ
theorem cu.jn{D:Type}{enc:D->List I}{w el B aI:Nat}{h:J}{v:I}{ds:List D}(aY:cu enc w el B h v ds)(iA:aI<=B):∀b n cp,v=.slice b 0 n cp->mn aI h.n b:=by
 intro b n cp e
 rcases aY with⟨rfl,_⟩|⟨p,rfl,_,_,aG,bI⟩
 · cases e
 · cases e;exact⟨by omega,bI⟩
theorem y6(m aI:Nat){h g:J}{t:aC}{r:Nat}(ab:Ext h.n h g)(aD:gq aI g t (.ptr r 0))(ae:sz t<=90000)(hm:sz t<m):∃v n gw,Y (m+2) (.fn 78) [.ptr r 0] g=.ret (.aO [v,.int .i64 (Int.ofNat n)]) gw/\Ah aI h t (.ret (.aO [v,.int .i64 (Int.ofNat n)]) gw):=by
 have e:=aba m ae hm aD.at
 by_cases cq:sz t<=60
 · rw[if_pos cq] at e
   exact⟨_,_,_,e,g,ab,.inl ⟨cq,r,rfl,aD⟩⟩
 · rw[if_neg cq] at e
   exact⟨_,_,_,e,g,ab,.inr ⟨by omega,rfl⟩⟩
theorem HK(k:Nat)(ns:List a7)(l:List aC)(rt:Option aC)(aw:∀t∈l,dv (some t)=0)(hlen:l.length<=1000):sz (.mk k [] ns l rt)<=60001+c_ rt:=by
 have:=aaJ aw
 have:60*l.length<=60*1000:=Nat.mul_le_mul_left _ hlen
 rw[mc];omega
theorem HL{b6 cU c8 ek en w:I}(hw:w.cO=true):fS (0+2) [w] [b6,cU,c8,ek,en]=some [b6,cU,w,ek,en]/\fS (0+3) [w] [b6,cU,c8,ek,en]=some [b6,cU,c8,w,en]:=by
 constructor<;>simp[fS,hw]
theorem abi(m aI:Nat){h:J}{b off r:Nat}{cp:bR}{x:aC}{l:List aC}{vs:List I}(hm:200000<=m)(iA:aI<=h.n)(ae:b<h.n)(aw:∀i (af:i<vs.length),ar h b (off+i*1)=some vs[i])(aD:jE aI h l vs)(hs:∀g,Ext h.n h g->fg g 1 (.slice b off vs.length cp)=some (vs.length,vs))(aj:gq aI h x (.ptr r 0))(hlen:vs.length<=1000)(ag:∀t∈l,dv (some t)=0)(Ow:dv (some x)=0):Ah aI h (.mk 8 [] [] l (some x)) (Y (m+3) (.fn 50) [.slice b off vs.length cp,.ptr r 0] h):=by
 obtain⟨ai,aF,bC⟩:=HJ m (by omega) (Nat.le_refl _) ae aw aD.at hlen ag
 obtain⟨s1,s2⟩:=Ag Ow
 have eR:c_ (some x)=sz x:=iP _
 have hz:gq aI ai x (.ptr r 0):=aj.hk bC
 obtain⟨au,a6,cS⟩:=Nl (ot:=some x) (B:=ai.n) (h:=ai) (v:=.ptr r 0) (m+1) (by omega) (λt e=>by cases e;omega) (by omega) (Nat.le_refl _) hz.at
 rw[Ow] at a6
 have eD:=cT.len aD
 obtain⟨ps,o3⟩:=cT.De aD
 have hj:vs.length=ps.length:=by rw[o3,List.length_map]
 have oK:=bC.trans bC.n cS
 obtain⟨H,cw⟩:∃H,H=au.push (.cells [.int .i64 (Int.ofNat 8),.str [],.aS,.aS,.ptr r 0] 80 .own 0 0):=⟨_,rfl⟩
 have dz:Ext h.n h H:=by rw[cw];exact Ext.k2 oK.n oK
 have xx:H.get au.n=some (.cells [.int .i64 (Int.ofNat 8),.str [],.aS,.aS,.ptr r 0] 80 .own 0 0):=by rw[cw];exact fl rfl
 have lK:H.n=au.n+1:=by rw[cw];rfl
 have abj:=oK.n
 have Ox:=hs H dz
 rw[hj] at Ox
 obtain⟨v2,ay,bD,xy,dC,bH,ez⟩:=wz lN (B:=H.n) (h:=H) (v:=.aS) (ds:=[]) (es:=ps) (.inl ⟨rfl,rfl⟩) (Nat.le_refl _) (by rw[Ox,jm,o3]) (by simp;omega)
 rw[List.nil_append] at xy
 rw[<-hj] at bD
 have b7:ay.get au.n=some (.cells [.int .i64 (Int.ofNat 8),.str [],.aS,.aS,.ptr r 0] 80 .own 0 0):=(dC.get _ (by omega)).trans xx
 obtain⟨bg,m4⟩:∃bg,bg=ay.set au.n (some (.cells [.int .i64 (Int.ofNat 8),.str [],.aS,v2,.ptr r 0] 80 .own 0 0)):=⟨_,rfl⟩
 have abk:Ext h.n h ay:=dz.trans dz.n dC
 have e2:Ext h.n h bg:=by rw[m4];exact Ext.iB abj abk
 have bU:bg.n=ay.n:=by rw[m4];rfl
 have vf:iW H.n bg v2 ps:=by rw[m4];exact cu.sM xy b7
 have abl:=dC.n
 have Ai:gq aI bg (.mk 8 [] [] l (some x)) (.ptr au.n 0):=by
  refine⟨au.n,.aS,v2,.ptr r 0,vs,.own,0,0,rfl,⟨by omega,by omega⟩,by rw[m4];exact gk rfl,.inl ⟨rfl,rfl⟩,?_,aD.hk e2,aj.hk e2⟩
  rw[o3]
  exact xw vf (cu.jn vf (by omega))
 have bA:=HK 8 [] l (some x) ag (by omega)
 refine aaZ (m+2) b off vs.length r cp h (R:=Ah aI h (.mk 8 [] [] l (some x))) ⟨true,ai,aF,λ_=>?_,λh=>by cases h⟩
 obtain⟨w,n,bF,fF,f5⟩:=y6 m aI e2 Ai (by omega) (by omega)
 subst cw
 exact⟨0,au,a6,rfl,.aS,aT xx rfl,v2,ay,bD,cu.cell xy,bg,by rw[m4];exact gN b7 rfl (HL (cu.cell xy)).2,w,n,bF,fF,f5⟩
theorem abm:∀i,i<3->∀j,j<i->dO (gp[j]?.getD []) (gp[i]?.getD [])=true:=by decide
theorem abn:∀i,i<3->ij (gp[i]?.getD [])=true:=by decide
abbrev nX(i:Nat):a7:=gp[i]?.getD []
theorem abo{i:Nat}(h:i<3):gp.take (i+1)=gp.take i++[nX i]:=by
 have:i=0\/i=1\/i=2:=by omega
 rcases this with rfl|rfl|rfl<;>rfl
theorem Oy{i:Nat}(h:i<=3):(gp.take i).length=i:=by rw[List.length_take];show min i 3=i;omega
theorem abp{i j:Nat}(h:i<=3)(aK:j<(gp.take i).length):(gp.take i)[j]=nX j:=by
 have:j<i:=by rw[Oy h] at aK;exact aK
 have av:j<gp.length:=by show j<3;omega
 simp[nX,List.getElem?_eq_getElem av]
theorem abq(m aI:Nat){h:J}{nb b:Nat}{nc cp:bR}{l:List aC}{vs:List I}(hm:200000<=m)(iA:aI<=h.n)(lp:nb<h.n)(ae:b<h.n)(jc:∀i,i<vs.length->ar h nb (0+i*1)=some (.str (nX i)))(aw:∀i (af:i<vs.length),ar h b (0+i*1)=some vs[i])(aD:jE aI h l vs)(av:vs.length<=3)(ag:∀t∈l,dv (some t)=0):Ah aI h (.mk 7 [] (gp.take l.length) l none) (Y (m+3) (.fn 49) [.slice nb 0 vs.length nc,.slice b 0 vs.length cp] h):=by
 obtain⟨ai,aF,bC⟩:=HJ m (by omega) (Nat.le_refl _) ae aw aD.at (by omega) ag
 have eD:=cT.len aD
 obtain⟨ps,o3⟩:=cT.De aD
 have hj:vs.length=ps.length:=by rw[o3,List.length_map]
 have vg:=bC.n
 have bA:=HK 7 (gp.take l.length) l none ag (by omega)
 have eR:c_ none=0:=by rw[c_]
 obtain⟨H,cw⟩:∃H,H=ai.push (.cells [.int .i64 (Int.ofNat 7),.str [],.aS,.aS,.aZ] 80 .own 0 0):=⟨_,rfl⟩
 have dz:Ext h.n h H:=by rw[cw];exact Ext.k2 bC.n bC
 have xx:H.get ai.n=some (.cells [.int .i64 (Int.ofNat 7),.str [],.aS,.aS,.aZ] 80 .own 0 0):=by rw[cw];exact fl rfl
 have lK:H.n=ai.n+1:=by rw[cw];rfl
 refine aaW (m+2) nb vs.length b nc cp h (R:=Ah aI h (.mk 7 [] (gp.take l.length) l none)) ⟨λ_=>⟨true,ai,aF,rfl,?_⟩,λh=>absurd rfl h⟩
 rw[<-cw]
 refine a4.loop (by kernel_rfl) (λk st=>∃i y Γ bK a_,st=⟨Γ,[],.none,y⟩/\cd [(0,.slice nb 0 vs.length nc),(1,.slice b 0 vs.length cp),(6,.ptr ai.n 0),(7,.int .i64 (Int.ofNat i))] Γ/\vs.length-i=k/\i<=vs.length/\Ext h.n h y/\H.n<=y.n/\y.get ai.n=some (.cells [.int .i64 (Int.ofNat 7),.str [],bK,a_,.aZ] 80 .own 0 0)/\mo H.n y bK (gp.take i)/\iW H.n y a_ (ps.take i)) ?_ vs.length _ (by omega) ⟨0,H,_,.aS,.aS,rfl,⟨rfl,rfl,rfl,rfl,trivial⟩,by omega,by omega,dz,Nat.le_refl _,xx,.inl ⟨rfl,rfl⟩,.inl ⟨rfl,rfl⟩⟩
 rintro k st ⟨i,y,Γ,bK,a_,rfl,cL,aq,af,aU,lO,aJ,kY,Aj⟩
 refine a4.pre (aaX (Y (m+2)) nb vs.length b ai.n i nc cp y ⟨λaa=>?_,λaa=>?_⟩) cL rfl rfl rfl
 · have HM:i<3:=by omega
   have ku:(gp.take i).length=i:=Oy (by omega)
   have qu:(ps.take i).length=i:=by rw[List.length_take];omega
   refine⟨aa,nX i,jh aU lp (jc i aa),true,y,?_,rfl,?_⟩
   · have:=M3 m (nX i) y
     rw[abn i HM] at this
     exact this
   refine a4.loop (by kernel_rfl) (λk st=>∃j z Γ,st=⟨Γ,[],.none,z⟩/\cd [(0,.slice nb 0 vs.length nc),(1,.slice b 0 vs.length cp),(6,.ptr ai.n 0),(7,.int .i64 (Int.ofNat i)),(8,.int .i64 (Int.ofNat j))] Γ/\i-j=k/\j<=i/\Ext y.n y z) ?_ i _ (by omega) ⟨0,y,_,rfl,⟨rfl,rfl,rfl,rfl,rfl,trivial⟩,by omega,by omega,Ext.refl _ _⟩
   rintro dh st ⟨j,z,cx,rfl,nS,e0,aK,aW⟩
   have mD:Ext y.n y (z.room 21):=aW.ht
   have Oz:(z.room 21).get ai.n=some (.cells [.int .i64 (Int.ofNat 7),.str [],bK,a_,.aZ] 80 .own 0 0):=(mD.get _ (by omega)).trans aJ
   have OA:mo H.n (z.room 21) bK (gp.take i):=kY.mono mD (Nat.le_refl _)
   have af2:iW H.n (z.room 21) a_ (ps.take i):=Aj.mono mD (Nat.le_refl _)
   have OB:I.sound bK=true:=cu.sound kY
   have hlen:=cu.len (P:=Tryz.prog) (sT:=63) (by kernel_rfl) OA (z.room 21)
   rw[ku] at hlen
   refine a4.pre (aaY (Y (m+2)) nb vs.length b ai.n i j nc cp z ⟨bK,aT Oz rfl,i,hlen,λgH=>?_,λgH=>?_⟩) nS rfl rfl rfl
   · have k1:∃p,bK=.slice p 0 i (.aR 1)/\(z.room 21).get p=some (.cells (cV (λd=>[I.str d]) (gp.take i)) 9 .aR 0 0):=by
       rcases OA with⟨_,e⟩|⟨p,aA,ax,bD,_⟩
       · rw[e] at ku;simp at ku;omega
       · exact⟨p,by rw[aA,ku],bD⟩
     obtain⟨p,rfl,aQ⟩:=k1
     have abr:=aU.trans aU.n mD
     obtain⟨g,ky,q4⟩:=CL (m+1) (nX j) (nX i) (z.room 21).n (z.room 21) (by
      have:j=0\/j=1:=by omega
      rcases this with rfl|rfl<;>decide)
     rw[abm i HM j gH] at ky
     refine⟨p,0,i,.aR 1,aT Oz rfl,gH,nX j,?_,aa,nX i,jh abr lp (jc i aa),true,g,ky,rfl,λ_=>⟨by omega,_,(by show _<dh;omega),j+1,g,_,rfl,⟨rfl,rfl,rfl,rfl,rfl,trivial⟩,rfl,by omega,mD.trans mD.n q4⟩,λh=>by cases h⟩
     refine lB aQ ?_
     rw[jm,List.getElem?_map,Nat.zero_add,Nat.mul_one,List.getElem?_eq_getElem (by omega),abp (by omega)]
     rfl
   · obtain rfl:j=i:=by omega
     refine⟨OB,j,_,_,rfl,rfl,⟨rfl,rfl,rfl,rfl,rfl,trivial⟩,?_⟩
     obtain⟨Z,qz⟩:∃Z,Z=(z.room 21).room 21:=⟨_,rfl⟩
     rw[<-qz]
     have Ak:Ext y.n y Z:=by rw[qz];exact mD.ht
     have af3:=Ak.n
     have Dg:Z.get ai.n=some (.cells [.int .i64 (Int.ofNat 7),.str [],bK,a_,.aZ] 80 .own 0 0):=(Ak.get _ (by omega)).trans aJ
     have OC:mo H.n Z bK (gp.take j):=kY.mono Ak (Nat.le_refl _)
     have abt:iW H.n Z a_ (ps.take j):=Aj.mono Ak (Nat.le_refl _)
     have hlen:=cu.len (P:=Tryz.prog) (sT:=63) (by kernel_rfl) OC Z
     rw[ku] at hlen
     obtain⟨c8,ek,ez,s1,s2,bN,en,gV,bS,cr,rA,lF,fX,c3,dE,pA,oN⟩:=grow abh OC (nX j) 9 (k:=j) (by omega) (by omega)
     have gv:(gp.take j).take j++nX j::(gp.take j).drop j=gp.take (j+1):=by
      have aa:(gp.take j).take j=gp.take j:=List.take_of_length_le (by omega)
      have ad:(gp.take j).drop j=[]:=List.drop_of_length_le (by omega)
      rw[aa,ad,abo HM]
     rw[gv] at oN
     have fV:fX.get ai.n=some (.cells [.int .i64 (Int.ofNat 7),.str [],bK,a_,.aZ] 80 .own 0 0):=(pA.get _ (by omega)).trans Dg
     have fv:gV.get ai.n=some (.cells [.int .i64 (Int.ofNat 7),.str [],bK,a_,.aZ] 80 .own 0 0):=(cr.get _ (by omega)).trans Dg
     obtain⟨iI,Al⟩:∃iI,iI=fX.set ai.n (some (.cells [.int .i64 (Int.ofNat 7),.str [],lF,a_,.aZ] 80 .own 0 0)):=⟨_,rfl⟩
     have Ac:iI.get ai.n=some (.cells [.int .i64 (Int.ofNat 7),.str [],lF,a_,.aZ] 80 .own 0 0):=by rw[Al];exact gk rfl
     have cv:iI.n=fX.n:=by rw[Al];rfl
     have abu:mo Z.n iI lF (gp.take (j+1)):=by rw[Al];exact cu.sM oN fV
     have af4:=pA.n
     have OD:∀d,d<Z.n->d≠ai.n->iI.get d=Z.get d:=λd ao ag=>by rw[Al];exact(dB ag rfl).trans (pA.get d ao)
     have abv:iW H.n iI a_ (ps.take j):=cu.Dc abt (by omega) λd aa ad=>OD d ad (by omega)
     obtain⟨dm,gl,dS,t1,t2,t3,k5,eZ,t4,t5,z1,xh,jB,t6,t7,t8,t9⟩:=grow lN abv (ps[j]'(by omega)) 35 (k:=j) (by omega) (by omega)
     have tk:(ps.take j).take j++(ps[j]'(by omega))::(ps.take j).drop j=ps.take (j+1):=by
      have aa:(ps.take j).take j=ps.take j:=List.take_of_length_le (by omega)
      have ad:(ps.take j).drop j=[]:=List.drop_of_length_le (by omega)
      rw[aa,ad,List.take_succ_eq_append_getElem (by omega:j<ps.length)]
     rw[tk] at t9
     have HN:jB.get ai.n=some (.cells [.int .i64 (Int.ofNat 7),.str [],lF,a_,.aZ] 80 .own 0 0):=(t8.get _ (by omega)).trans Ac
     have abw:eZ.get ai.n=some (.cells [.int .i64 (Int.ofNat 7),.str [],lF,a_,.aZ] 80 .own 0 0):=(t5.get _ (by omega)).trans Ac
     obtain⟨Am,xz⟩:∃Am,Am=jB.set ai.n (some (.cells [.int .i64 (Int.ofNat 7),.str [],lF,xh,.aZ] 80 .own 0 0)):=⟨_,rfl⟩
     have af5:=t8.n
     have eG:Am.n=jB.n:=by rw[xz];rfl
     have An:Ext h.n h Z:=aU.trans aU.n Ak
     have up:∀{x},Ext Z.n Z x->Ext h.n h x:=λe=>An.trans An.n e
     have HO:Ext h.n h iI:=⟨by have:=An.n;omega,λd ao=>(OD d (by have:=An.n;omega) (by omega)).trans (An.get d ao)⟩
     have OE:∀{x},Ext iI.n iI x->Ext h.n h x:=λe=>HO.trans HO.n e
     have mE:∀{x},Ext h.n h x->ar x b (0+j*1)=some (.ptr (ps[j]'(by omega)) 0):=λe=>by
      rw[jh e ae (aw j aa)];simp[o3]
     refine⟨bK,aT Dg rfl,j,hlen,by omega,OB,bK,aT Dg rfl,c8,s1,ek,ez,s2,aa,nX j,jh (up bN) lp (jc j aa),en,gV,bS,bK,aT fv rfl,rA,c3,lF,fX,dE,cu.cell oN,iI,by rw[Al];exact gN fV rfl (HL (cu.cell oN)).1,a_,aT Ac rfl,dm,t1,gl,dS,t2,aa,_,mE (OE t3),k5,eZ,t4,a_,aT abw rfl,z1,t6,xh,jB,t7,cu.cell t9,Am,by rw[xz];exact gN HN rfl (HL (cu.cell t9)).2,by omega,_,(by show _<k;omega),j+1,Am,_,lF,xh,rfl,⟨rfl,rfl,rfl,rfl,trivial⟩,rfl,by omega,?_,by omega,by rw[xz];exact gk rfl,?_,?_⟩
     · exact⟨by have:=HO.n;omega,λd ao=>by rw[xz];exact(dB (by omega) rfl).trans ((OE t8).get d ao)⟩
     · refine cu.le (by omega:H.n<=Z.n) ?_
       rw[xz]
       exact cu.sM (abu.mono t8 (Nat.le_refl _)) HN
     · refine cu.le (by omega:H.n<=iI.n) ?_
       rw[xz]
       exact cu.sM t9 HN
 · obtain rfl:i=vs.length:=by omega
   have ku:ps.take vs.length=ps:=List.take_of_length_le (by omega)
   rw[ku] at Aj
   have Ai:gq aI y (.mk 7 [] (gp.take l.length) l none) (.ptr ai.n 0):=by
    refine⟨ai.n,bK,a_,.aZ,vs,.own,0,0,rfl,⟨by omega,by omega⟩,aJ,?_,?_,aD.hk aU,rfl⟩
    · rw[<-eD];exact xw kY (cu.jn kY (by omega))
    · rw[o3];exact xw Aj (cu.jn Aj (by omega))
   obtain⟨w,n,bF,fF,f5⟩:=y6 m aI aU Ai (by omega) (by omega)
   exact⟨ai.n,y,_,rfl,rfl,⟨rfl,trivial⟩,w,n,bF,fF,f5⟩
theorem OF{t:aC}:∀{l:List aC},t∈l->t.k=1->hA l=none
 |[],h,_=>by cases h
 |x::l,h,aq=>by
  rw[hA]
  rcases List.mem_cons.1 h with rfl|h
  · rw[if_pos aq]
  · split
    · rfl
    · rw[OF h aq];rfl
theorem OG{t:aC}(aq:¬t.k=1):∀{l f:List aC},hA l=some f->hA (l++[t])=some (f++if t.k=9 then t.xs else[t])
 |[],f,h=>by
  cases h
  rw[List.nil_append,hA,if_neg aq,hA];simp
 |x::l,f,h=>by
  rw[hA] at h
  split at h
  · cases h
  · rename_i ab
    cases e:hA l with
    |none=>rw[e] at h;cases h
    |some r=>
     rw[e] at h
     cases h
     rw[List.cons_append,hA,if_neg ab,OG aq e]
     simp
theorem OH{t:aC}:∀(acc:List aC) (j:Nat),j<=acc.length->(∀i (af:i<acc.length),i<j->dO (wr acc[i]) (wr t)=true)->
  (j=acc.length->iE t acc=acc.take j++t::acc.drop j)/\(∀aK:j<acc.length,dO (wr acc[j]) (wr t)=false->(wr acc[j]=wr t->iE t acc=acc)/\(¬wr acc[j]=wr t->iE t acc=acc.take j++t::acc.drop j))
 |[],j,aK,_=>by
  obtain rfl:j=0:=by simpa using aK
  exact⟨λ_=>rfl,λh=>by simp at h⟩
 |x::acc,0,_,_=>by
  refine⟨λh=>by simp at h,λ_ ch=>?_⟩
  have ch:dO (wr x) (wr t)=false:=ch
  rw[iE,if_neg (by rw[ch];simp)]
  refine⟨λe=>?_,λe=>?_⟩
  · have e:wr x=wr t:=e
    rw[if_pos e]
  · have e:¬wr x=wr t:=e
    rw[if_neg e];rfl
 |x::acc,j+1,aK,aw=>by
  have h0:dO (wr x) (wr t)=true:=aw 0 (by simp) (by omega)
  obtain⟨i1,i2⟩:=OH (t:=t) acc j (by simpa using aK) λi af sF=>by
   have:=aw (i+1) (by simpa using af) (by omega)
   simpa using this
  rw[iE,if_pos h0]
  refine⟨λe=>?_,λgH ch=>?_⟩
  · rw[i1 (by simpa using e)];rfl
  · have abx:j<acc.length:=by simpa using gH
    have ym:dO (wr acc[j]) (wr t)=false:=by simpa using ch
    obtain⟨bJ,bQ⟩:=i2 abx ym
    refine⟨λe=>?_,λe=>?_⟩
    · rw[bJ (by simpa using e)]
    · rw[bQ (by simpa using e)];rfl
theorem OI(l:List aC)(t:aC):eW (l++[t])=iE t (eW l):=by unfold eW;rw[List.foldl_append];rfl
def HP(l:List aC):Prop:=∃f,hA l=some f/\(eW f).length≠1/\60<sz (.mk 9 [] [] (eW f) none)
def OJ(aI:Nat)(h:J)(l:List aC)(x:a9):Prop:=∃g,Ext h.n h g/\((¬HP l/\∃r,x=.ret (.aO [.ptr r 0,.int .i64 (Int.ofNat 0)]) g/\gq aI g (nT l) (.ptr r 0))\/(HP l/\x=.ret (.aO [.aZ,.int .i64 (Int.ofNat 3)]) g))
theorem OK(m aI:Nat){h:J}{t:aC}{r:Nat}(aD:gq aI h t (.ptr r 0))(ag:dv (some t)=0)(hm:62<=m):∃g,Y m (.fn 79) [.ptr r 0] h=.ret (.str (wr t)) g/\Ext h.n h g:=by
 obtain⟨aa,ad⟩:=ld.1 ag
 have:=wZ t ad
 exact CO (sz t) t (Nat.le_refl _) (by omega) (zM t ad) (by omega) m h.n h _ (by omega) (Nat.le_refl _) aD.at
theorem dY.node{F:Nat->Prop}{h:J}:∀{t:aC} {r:Nat},dY F h t (.ptr r 0)->∃bK a_ c0 vs bk aI up,h.get r=some (.cells [.int .i64 (Int.ofNat t.k),.str t.nm,bK,a_,c0] 80 bk aI up)/\kL F h a_ vs/\cT F h t.xs vs/\F r
 |.mk _ _ _ _ _,_,ab=>by
  obtain⟨r,bK,a_,c0,vs,bk,aI,up,aa,ad,av,_,bI,cq,_⟩:=ab
  cases aa
  exact⟨bK,a_,c0,vs,bk,aI,up,av,bI,cq,ad⟩
theorem cT.nil{F:Nat->Prop}{h:J}:cT F h [] []:=rfl
theorem cT.cons{F:Nat->Prop}{h:J}{t:aC}{v:I}{ck:List aC}{vs:List I}(bc:dY F h t v)(hs:cT F h ck vs):cT F h (t::ck) (v::vs):=⟨v,vs,rfl,bc,hs⟩
theorem kL.src{F:Nat->Prop}{h:J}{v:I}{vs:List I}(hs:kL F h v vs):fg h 1 v=some (vs.length,vs):=by
 rcases hs with⟨rfl,rfl⟩|⟨b,off,cp,rfl,_,av,aG,bI⟩
 · rfl
 · exact c6.src (B:=0) av aG bI.1
theorem aby(m aI:Nat){h:J}{b off:Nat}{cp:bR}{l:List aC}{ps:List Nat}(iA:aI<=h.n)(ae:b<h.n)(aw:∀i (af:i<ps.length),ar h b (off+i*1)=some (.ptr ps[i] 0))(aD:jE aI h l (ps.map g2))(hlen:ps.length<=10)(ag:∀t∈l,dv (some t)=0){Q:bu->ah->Prop}
  (aa:∀g f w dW Γ,Ext h.n h g->hA l=some f->iW h.n g w dW->jE aI h f (dW.map g2)->cd [(4,w)] Γ->Q (.exit 0) ⟨Γ,[],.none,g⟩)
  (ad:∀g r Γ,Ext h.n h g->hA l=none->gq aI g Hn (.ptr r 0)->cd [(2,.ptr r 0),(3,.int .i64 (Int.ofNat 0))] Γ->Q .ret ⟨Γ,[],.none,g⟩):
  a4 Tryz.prog Tryz.f51 (Y (m+2)) [1,1,1,0,1,0] ⟨[(0,.slice b off ps.length cp),(4,.aS),(5,.int .i64 (Int.ofNat 0))],[],.none,h⟩ Q:=by
 have eD:ps.length=l.length:=by have:=cT.len aD;rwa [List.length_map] at this
 refine a4.loop (by kernel_rfl) (λk st=>∃i y Γ w f dW,st=⟨Γ,[],.none,y⟩/\cd [(0,.slice b off ps.length cp),(4,w),(5,.int .i64 (Int.ofNat i))] Γ/\ps.length-i=k/\i<=ps.length/\Ext h.n h y/\hA (l.take i)=some f/\iW h.n y w dW/\jE aI h f (dW.map g2)) ?_ ps.length _ (by omega) ⟨0,h,_,.aS,[],[],rfl,⟨rfl,rfl,rfl,trivial⟩,by omega,by omega,Ext.refl _ _,rfl,.inl ⟨rfl,rfl⟩,rfl⟩
 rintro k st ⟨i,y,Γ,w,f,dW,rfl,cL,aq,af,aU,hf,iX,kz⟩
 refine a4.pre (aa1 (Y (m+2)) b off _ i cp w y ⟨λi1=>?_,λi1=>?_⟩) cL rfl rfl rfl
 · have i2:i<l.length:=by omega
   have HQ:gq aI h l[i] (.ptr ps[i] 0):=by
    have:=cT.get aD i (by simpa using i1) i2
    simpa using this
   have yv:gq aI y l[i] (.ptr ps[i] 0):=HQ.hk aU
   have mE:=jh aU ae (aw i i1)
   obtain⟨bK,a_,c0,vs,bk,qY,up,ai,au,ay,bg⟩:=dY.node yv
   have lO:=aU.n
   have abz:=HD (l:=l.take i) (λt bc=>ag t (List.mem_of_mem_take bc)) hf
   have pB:dW.length=f.length:=by have:=cT.len kz;rwa [List.length_map] at this
   have yo:(l.take i).length<=10:=by rw[List.length_take];omega
   have af6:f.length<=600:=by omega
   refine⟨i1,_,mE,l[i].k,aT ai rfl,λbJ=>?_,λbJ=>?_⟩
   · refine ad _ y.n _ (Ext.k2 lO aU) (OF (List.getElem_mem i2) bJ) ?_ ⟨rfl,rfl,trivial⟩
     exact⟨y.n,.aS,.aS,.aZ,[],.own,0,0,rfl,⟨by omega,by simp⟩,fl rfl,.inl ⟨rfl,rfl⟩,.inl ⟨rfl,rfl⟩,rfl,rfl⟩
   have oC:=OG bJ hf
   rw[<-List.take_succ_eq_append_getElem i2] at oC
   refine⟨i1,_,mE,l[i].k,aT ai rfl,λjl=>?_,λjl=>?_⟩
   · obtain⟨us,jw⟩:=cT.De ay
     have pj:=(ld.1 (ag _ (List.getElem_mem i2))).1
     have I2:us.length<=60:=by
      have aA:=cT.len ay
      rw[jw,List.length_map] at aA
      have ax:=mW l[i].xs
      have bD:df l[i].xs<=sz l[i]:=by
       cases l[i] with
       |mk b6 cU c8 ek en=>rw[mc];show df ek<=_;omega
      omega
     have fj:=kL.src au
     rw[jw,List.length_map] at fj
     obtain⟨v',g,aA,dA,bC,aE,_⟩:=wz lN (B:=h.n) (es:=us) iX lO (by rw[fj,jm]) (by omega)
     refine⟨i1,_,mE,a_,aT ai rfl,v',g,aA,by omega,_,(by show _<k;omega),i+1,g,_,v',f++l[i].xs,dW++us,rfl,⟨rfl,rfl,rfl,trivial⟩,rfl,by omega,aU.trans (Nat.le_refl _) bC,by rw[oC,if_pos jl],dA,?_⟩
     obtain⟨GJ,jU,CK,sA,MQ,abA,MR,HR,Ao,HS,HT⟩:=dY.node HQ
     have ax:some (dr.cells [.int .i64 (Int.ofNat l[i].k),.str l[i].nm,GJ,jU,CK] 80 MQ abA MR)=some (dr.cells [.int .i64 (Int.ofNat l[i].k),.str l[i].nm,bK,a_,c0] 80 bk qY up):=by rw[<-HR,<-ai];exact(aU.get _ HT.2).symm
     have bD:jU=a_:=by injection ax with ax;injection ax with ax;injection ax with _ ax;injection ax with _ ax;injection ax with _ ax;injection ax with ax
     rw[bD] at Ao
     have ed:=kL.src Ao
     have fF:=kL.src (kL.bO (G:=mn aI y.n) (g:=y) (Ext.jn aU) Ao)
     rw[kL.src au] at fF
     have gu:sA=vs:=by injection fF with fF;injection fF with _ fF;exact fF.symm
     rw[List.map_append]
     refine cT.app ?_ kz
     rw[<-jw,<-gu];exact HS
   · obtain⟨v',g,aA,dA,bC,aE,_⟩:=wz lN (B:=h.n) (es:=[ps[i]]) (iX.mono (Ext.push (Nat.le_refl _) _) (Nat.le_refl _)) (by simp;omega) (uC lN y 35 ps[i]) (by rw[List.length_singleton];omega)
     refine⟨i1,_,mE,v',g,aA,by omega,_,(by show _<k;omega),i+1,g,_,v',f++[l[i]],dW++[ps[i]],rfl,⟨rfl,rfl,rfl,trivial⟩,rfl,by omega,(Ext.k2 lO aU).trans (Nat.le_refl _) bC,by rw[oC,if_neg jl],dA,?_⟩
     rw[List.map_append]
     exact cT.app (cT.cons HQ cT.nil) kz
 · obtain rfl:i=ps.length:=by omega
   rw[List.take_of_length_le (by omega)] at hf
   exact aa y f w dW _ aU hf iX kz ⟨rfl,trivial⟩
theorem abB(m aI:Nat){h:J}{jn:Nat}{tl:bR}{f:List aC}{b0:List Nat}(hm:100<=m)(iA:aI<=h.n)(ae:jn<h.n)(aw:∀i (af:i<b0.length),ar h jn (0+i*1)=some (.ptr b0[i] 0))(aD:jE aI h f (b0.map g2))(hlen:b0.length<=900)(ag:∀t∈f,dv (some t)=0)(h0:0<b0.length){Q:bu->ah->Prop}
  (aa:∀g p dW Γ,Ext h.n h g->iW h.n g (.slice p 0 dW.length (.aR 1)) dW->jE aI h (eW f) (dW.map g2)->cd [(6,.slice p 0 dW.length (.aR 1))] Γ->Q (.exit 2) ⟨Γ,[],.none,g⟩):
  a4 Tryz.prog Tryz.f51 (Y (m+1)) [1,1,1,1,1,0,1,0] ⟨[(4,.slice jn 0 b0.length tl),(6,.aS),(7,.int .i64 (Int.ofNat 0))],[],.none,h⟩ Q:=by
 have eD:b0.length=f.length:=by have:=cT.len aD;rwa [List.length_map] at this
 refine a4.loop (by kernel_rfl) (λk st=>∃i y Γ w dW,st=⟨Γ,[],.none,y⟩/\cd [(4,.slice jn 0 b0.length tl),(6,w),(7,.int .i64 (Int.ofNat i))] Γ/\b0.length-i=k/\i<=b0.length/\Ext h.n h y/\iW h.n y w dW/\jE aI h (eW (f.take i)) (dW.map g2)) ?_ b0.length _ (by omega) ⟨0,h,_,.aS,[],rfl,⟨rfl,rfl,rfl,trivial⟩,by omega,by omega,Ext.refl _ _,.inl ⟨rfl,rfl⟩,rfl⟩
 rintro k st ⟨i,y,Γ,w,dW,rfl,cL,aq,af,aU,iX,kz⟩
 have lO:=aU.n
 have pB:dW.length=(eW (f.take i)).length:=by have:=cT.len kz;rwa [List.length_map] at this
 have jv:dW.length<=i:=by
  have:=(Ae (f.take i) []).2.1
  rw[List.length_take] at this
  have e:(eW (f.take i)).length<=([]:List aC).length+min i f.length:=this
  simp at e;omega
 have fN:∀t∈eW (f.take i),dv (some t)=0:=λt bc=>by
  rcases z_ (f.take i) [] bc with h|h
  · exact ag t (List.mem_of_mem_take h)
  · cases h
 have Ap:∀{x},Ext h.n h x->∀j (aK:j<b0.length),ar x jn (0+j*1)=some (.ptr b0[j] 0):=λe j aK=>jh e ae (aw j aK)
 have jz:∀j (aK:j<f.length) (gH:j<b0.length),gq aI h f[j] (.ptr b0[j] 0):=λj aK gH=>by
  have:=cT.get aD j (by simpa using gH) aK
  simpa using this
 have abC:∀j (aK:j<(eW (f.take i)).length) (gH:j<dW.length),gq aI h (eW (f.take i))[j] (.ptr dW[j] 0):=λj aK gH=>by
  have:=cT.get kz j (by simpa using gH) aK
  simpa using this
 have fin:∀(i1:i<b0.length) (Z:J) (j:Nat),Ext h.n h Z->(∀p,w=.slice p 0 dW.length (.aR 1)->Z.get p=y.get p)->y.n<=Z.n->j<=dW.length->iE (f[i]'(by omega)) (eW (f.take i))=(eW (f.take i)).take j++f[i]'(by omega)::(eW (f.take i)).drop j->
   ∃cz v4 ay,c1 Tryz.prog Z 50 w none (some (.int .i64 (Int.ofNat j))) none=some cz/\db Tryz.prog Z 50 (some 50) .aS cz=some (v4,ay)/\ar ay jn (0+i*1)=some (.ptr (b0[i]) 0)/\
   ∃er bg,db Tryz.prog (ay.push (.cells [.ptr b0[i] 0] 35 .own 0 0)) 50 (some 50) v4 (.slice ay.n 0 1 (.exact 1))=some (er,bg)/\
   ∃hM gA bF,c1 Tryz.prog bg 50 w (some (.int .i64 (Int.ofNat j))) none none=some hM/\db Tryz.prog bg 50 (some 50) er hM=some (gA,bF)/\∃tm,Ext h.n h bF/\iW h.n bF gA tm/\jE aI h (eW (f.take (i+1))) (tm.map g2):=by
  intro i1 Z j qz hw abD aK abE
  have i2:i<f.length:=by omega
  have abF:iW h.n Z w dW:=cu.bO iX abD λp aQ _=>hw p aQ
  obtain⟨c8,ek,ez,s1,s2,bN,en,gV,bS,cr,rA,lF,fX,c3,dE,pA,oN⟩:=grow lN abF b0[i] 35 aK (by omega)
  refine⟨c8,ek,ez,s1,s2,Ap (qz.trans qz.n bN) i i1,en,gV,bS,rA,lF,fX,c3,dE,_,qz.trans qz.n pA,cu.le qz.n oN,?_⟩
  rw[List.take_succ_eq_append_getElem i2,OI,abE,List.map_append,List.map_cons,List.map_take,List.map_drop]
  exact cT.app (cT.cons (jz i i2 i1) (cT.drop j kz)) (cT.take j kz)
 have abG:∀a b:a7,dd a b=true->a=b:=λa b h=>by simpa[n_] using h
 rcases iX with⟨rfl,rfl⟩|⟨p,rfl,e9,jK,lY,qA⟩
 · refine a4.pre (aa3 (Y (m+1)) jn _ i tl y ⟨λi1=>?_,λi1=>?_⟩) cL rfl rfl rfl
   · have dc:eW (f.take i)=[]:=List.eq_nil_of_length_eq_zero (by rw[<-pB];rfl)
     refine a4.loop (by kernel_rfl) (λk st=>∃Γ,st=⟨Γ,[],.none,y⟩/\cd [(4,.slice jn 0 b0.length tl),(6,.aS),(7,.int .i64 (Int.ofNat i)),(8,.int .i64 (Int.ofNat 0))] Γ) ?_ 0 _ (by omega) ⟨_,rfl,rfl,rfl,rfl,rfl,trivial⟩
     rintro dh st ⟨cx,rfl,nS⟩
     refine a4.pre (aa5 (Y (m+1)) jn _ i tl y ⟨by omega,?_⟩) nS rfl rfl rfl
     obtain⟨cz,v4,ay,s1,s2,bN,er,bg,bS,hM,gA,bF,cr,c3,tm,dE,pA,oN⟩:=fin i1 ((y.room 17).room 17) 0 (aU.ht.ht) (λp aQ=>by cases aQ) (by simp;omega) (by simp) (by rw[dc];rfl)
     exact⟨0,_,_,rfl,rfl,⟨rfl,rfl,rfl,rfl,trivial⟩,by omega,cz,s1,v4,ay,s2,i1,_,bN,er,bg,bS,hM,cr,gA,bF,c3,by omega,_,(by show _<k;omega),i+1,bF,_,gA,tm,rfl,⟨rfl,rfl,rfl,trivial⟩,rfl,by omega,dE,pA,oN⟩
   · exfalso
     have e:i=b0.length:=by omega
     subst e
     have:=(Ae (f.take b0.length) []).2.2 (by rw[List.length_take];omega)
     have aA:0<(eW (f.take b0.length)).length:=this
     rw[<-pB] at aA;simp at aA
 · have iX:iW h.n y (.slice p 0 dW.length (.aR 1)) dW:=.inr ⟨p,rfl,e9,jK,lY,qA⟩
   refine a4.pre (aa2 (Y (m+1)) jn _ p _ i tl (.aR 1) y ⟨λi1=>?_,λi1=>?_⟩) cL rfl rfl rfl
   · have i2:i<f.length:=by omega
     have ci:=ag _ (List.getElem_mem i2)
     refine a4.loop (by kernel_rfl) (λk st=>∃j z Γ,st=⟨Γ,[],.none,z⟩/\cd [(4,.slice jn 0 b0.length tl),(6,.slice p 0 dW.length (.aR 1)),(7,.int .i64 (Int.ofNat i)),(8,.int .i64 (Int.ofNat j))] Γ/\dW.length-j=k/\j<=dW.length/\Ext y.n y z/\∀a (aL:a<(eW (f.take i)).length),a<j->dO (wr (eW (f.take i))[a]) (wr f[i])=true) ?_ dW.length _ (by omega) ⟨0,y,_,rfl,⟨rfl,rfl,rfl,rfl,trivial⟩,by omega,by omega,Ext.refl _ _,λa _ h=>absurd h (by omega)⟩
     rintro dh st ⟨j,z,cx,rfl,nS,e0,aK,aW,ch⟩
     obtain⟨abH,abI⟩:=OH (t:=f[i]) (eW (f.take i)) j (by omega) ch
     have mD:Ext y.n y (z.room 17):=aW.ht
     have row:∀{x},Ext y.n y x->∀j (aK:j<dW.length),ar x p (0+j*1)=some (.ptr dW[j] 0):=λe j aK=>by
      refine lB ((e.get p qA).trans jK) ?_
      rw[jm,List.getElem?_map,Nat.zero_add,Nat.mul_one,List.getElem?_eq_getElem (by omega)]
      rfl
     have go:∀{x},Ext y.n y x->Ext h.n h x:=λe=>aU.trans lO e
     have two:∀(gH:j<dW.length) {x},Ext y.n y x->∃ai au,Y (m+1) (.fn 79) [.ptr dW[j] 0] x=.ret (.str (wr ((eW (f.take i))[j]'(by omega)))) ai/\Ext y.n y ai/\Y (m+1) (.fn 79) [.ptr b0[i] 0] ai=.ret (.str (wr f[i])) au/\Ext y.n y au:=λgH {x} e=>by
      obtain⟨ai,cW,bC⟩:=OK (m+1) aI ((abC j (by omega) gH).hk (go e)) (fN _ (List.getElem_mem (by omega))) (by omega)
      have jQ:=e.trans e.n bC
      obtain⟨au,cN,cS⟩:=OK (m+1) aI ((jz i i2 i1).hk (go jQ)) ci (by omega)
      exact⟨ai,au,cW,jQ,cN,jQ.trans jQ.n cS⟩
     refine a4.pre (aa4 (Y (m+1)) jn _ p _ i j tl (.aR 1) z ⟨λgH=>?_,λgH=>?_⟩) nS rfl rfl rfl
     · obtain⟨ai,au,cW,jQ,cN,kp⟩:=two gH mD
       have zW:(wr ((eW (f.take i))[j]'(by omega))).length<=90000:=by
        have a6:=ld.1 (fN ((eW (f.take i))[j]'(by omega)) (List.getElem_mem (by omega)))
        have:=wZ _ a6.2
        omega
       obtain⟨ay,ki,dC⟩:=CL m (wr ((eW (f.take i))[j]'(by omega))) (wr f[i]) au.n au zW
       have OL:=kp.trans kp.n dC
       refine⟨gH,_,row mD j gH,_,ai,cW,i1,_,Ap (go jQ) i i1,_,au,cN,_,ay,ki,Ap (go mD) i i1,λae=>?_,λae=>?_⟩
       · refine⟨by omega,_,(by show _<dh;omega),j+1,ay,_,rfl,⟨rfl,rfl,rfl,rfl,trivial⟩,rfl,by omega,OL,λa aL af7=>?_⟩
         by_cases e:a=j
         · subst e;exact ae
         · exact ch a aL (by omega)
       · refine⟨j,ay,_,rfl,rfl,⟨rfl,rfl,rfl,rfl,trivial⟩,λ_=>?_,λh=>absurd gH h⟩
         have HU:Ext y.n y (ay.room 17):=OL.ht
         obtain⟨bJ,bQ,cW,eu,cN,fI⟩:=two gH HU
         obtain⟨abJ,M2⟩:=abI (by omega) ae
         refine⟨gH,_,row HU j gH,_,bJ,cW,i1,_,Ap (go eu) i i1,_,bQ,cN,Ap (go HU) i i1,λaJ=>?_,λaJ=>?_⟩
         · refine⟨by omega,_,(by show _<k;omega),i+1,bQ,_,_,dW,rfl,⟨rfl,rfl,rfl,trivial⟩,rfl,by omega,go fI,iX.mono fI (Nat.le_refl _),?_⟩
           rw[List.take_succ_eq_append_getElem i2,OI,abJ (abG _ _ aJ)]
           exact kz
         · obtain⟨cz,v4,ay,s1,s2,bN,er,bg,bS,hM,gA,bF,cr,c3,tm,dE,pA,oN⟩:=fin i1 bQ j (go fI) (λq tY=>by cases tY;exact fI.get _ qA) fI.n (by omega) (M2 λe=>by rw[e,Lx] at aJ;cases aJ)
           exact⟨cz,s1,v4,ay,s2,i1,_,bN,er,bg,bS,hM,cr,gA,bF,c3,by omega,_,(by show _<k;omega),i+1,bF,_,gA,tm,rfl,⟨rfl,rfl,rfl,trivial⟩,rfl,by omega,dE,pA,oN⟩
     · obtain rfl:j=dW.length:=by omega
       refine⟨_,_,_,rfl,rfl,⟨rfl,rfl,rfl,rfl,trivial⟩,λh=>absurd h (by omega),λ_=>?_⟩
       have HV:Ext y.n y ((z.room 17).room 17):=mD.ht
       obtain⟨cz,v4,ay,s1,s2,bN,er,bg,bS,hM,gA,bF,cr,c3,tm,dE,pA,oN⟩:=fin i1 ((z.room 17).room 17) dW.length (go HV) (λq tY=>by cases tY;exact HV.get _ qA) HV.n (by omega) (abH pB)
       exact⟨cz,s1,v4,ay,s2,i1,_,bN,er,bg,bS,hM,cr,gA,bF,c3,by omega,_,(by show _<k;omega),i+1,bF,_,gA,tm,rfl,⟨rfl,rfl,rfl,trivial⟩,rfl,by omega,dE,pA,oN⟩
   · obtain rfl:i=b0.length:=by omega
     rw[List.take_of_length_le (by omega)] at kz
     exact aa y p dW _ aU iX kz ⟨rfl,trivial⟩
theorem abK(m aI:Nat){h:J}{b off:Nat}{cp:bR}{l:List aC}{ps:List Nat}(hm:200000<=m)(iA:aI<=h.n)(ae:b<h.n)(aw:∀i (af:i<ps.length),ar h b (off+i*1)=some (.ptr ps[i] 0))(aD:jE aI h l (ps.map g2))(h0:0<ps.length)(hlen:ps.length<=10)(ag:∀t∈l,dv (some t)=0):OJ aI h l (Y (m+3) (.fn 51) [.slice b off ps.length cp] h):=by
 have eD:ps.length=l.length:=by have:=cT.len aD;rwa [List.length_map] at this
 obtain⟨ai,aF,bC⟩:=HJ m (vs:=ps.map g2) (cp:=cp) (by omega) (Nat.le_refl _) ae (λi af=>by rw[aw i (by simpa using af)];simp) aD.at (by rw[List.length_map];omega) ag
 rw[List.length_map] at aF
 have vg:=bC.n
 refine aa0 (m+2) b off ps.length cp h (R:=OJ aI h l) ⟨λe=>absurd e (by omega),λ_=>⟨true,ai,aF,rfl,?_⟩⟩
 refine aby m aI (h:=ai) (by omega) (by omega) (λi af=>jh bC ae (aw i af)) (aD.hk bC) hlen ag (λy f w b0 Γ aU hf iX kz cL=>?_) (λy r Γ aU hf nY cL=>?_)
 · have af8:=Oe ag (by omega) hf
   have abz:=HD ag hf
   have CD:b0.length=f.length:=by have:=cT.len kz;rwa [List.length_map] at this
   have OM:∀t∈f,dv (some t)=0:=λt bc=>by
    rcases C6 hf bc with hm|⟨x,aa,ad⟩
    · exact ag t hm
    · exact vd (ag x aa) ad
   have lO:=aU.n
   rcases iX with⟨_,e⟩|⟨p,rfl,e9,jK,lY,qA⟩
   · rw[e] at CD;simp at CD;omega
   left
   refine⟨p,0,b0.length,.aR 1,y,Γ,rfl,rfl,cL,?_⟩
   refine abB (m+1) aI (h:=y) (by omega) (by omega) qA (λi af=>by
    refine lB jK ?_
    rw[jm,List.getElem?_map,Nat.zero_add,Nat.mul_one,List.getElem?_eq_getElem (by omega)]
    rfl) (kz.hk aU) (by omega) OM (by omega) (λz q dW Γ aW Aq Dh cL=>?_)
   have pB:dW.length=(eW f).length:=by have:=cT.len Dh;rwa [List.length_map] at this
   have xA:=bC.trans bC.n (aU.trans lO aW)
   have fN:∀t∈eW f,dv (some t)=0:=λt bc=>by
    rcases z_ f [] bc with h|h
    · exact OM t h
    · cases h
   refine⟨q,0,dW.length,.aR 1,z,Γ,rfl,rfl,cL,λaA=>?_,λaA=>?_⟩
   · obtain⟨t,bc⟩:∃t,eW f=[t]:=by
       cases hs:eW f with
       |nil=>
        rw[hs] at pB
        have:dW.length=0:=pB
        omega
       |cons t s=>
        rw[hs] at pB
        have:s=[]:=List.eq_nil_of_length_eq_zero (by simp at pB;omega)
        exact⟨t,by rw[this]⟩
     obtain⟨r,aj⟩:∃r,dW=[r]:=by
      cases dW with
      |nil=>simp at aA
      |cons r s=>
       have:s=[]:=by simpa using aA
       exact⟨r,by rw[this]⟩
     subst aj
     refine⟨by omega,r,?_,z,xA,.inl ⟨?_,r,rfl,?_⟩⟩
     · rcases Aq with⟨e,_⟩|⟨af9,e,_,b7,_⟩
       · cases e
       · cases e;exact aT b7 rfl
     · rintro⟨ER,tn,q0,_⟩
       rw[hf] at tn;cases tn
       rw[bc] at q0;exact q0 rfl
     · rw[bc] at Dh
       have hu:nT l=t:=by unfold nT;rw[hf];simp only[bc]
       rw[hu]
       obtain⟨v,ws,e,bJ,_⟩:=Dh
       cases e
       exact gq.hk aW bJ
   · obtain⟨H,cw⟩:∃H,H=z.push (.cells [.int .i64 (Int.ofNat 9),.str [],.aS,.slice q 0 dW.length (.aR 1),.aZ] 80 .own 0 0):=⟨_,rfl⟩
     have dz:Ext z.n z H:=by rw[cw];exact Ext.push (Nat.le_refl _) _
     have af_:=aW.n
     have Ai:gq aI H (.mk 9 [] [] (eW f) none) (.ptr z.n 0):=by
      refine⟨z.n,.aS,_,.aZ,dW.map g2,.own,0,0,rfl,⟨by omega,by rw[cw];simp⟩,by rw[cw];exact fl rfl,.inl ⟨rfl,rfl⟩,xw (Aq.mono dz (Nat.le_refl _)) (cu.jn (Aq.mono dz (Nat.le_refl _)) (by omega)),Dh.hk (aW.trans aW.n dz),rfl⟩
     have s6:ep (.mk 9 [] [] (eW f) none)=true:=Of ag (by omega) hf (by omega)
     have Ja:sz (.mk 9 [] [] (eW f) none)<=60001+c_ none:=HK 9 [] (eW f) none fN (by
      have:=(Ae f []).2.1
      have e:(eW f).length<=([]:List aC).length+f.length:=this
      simp at e;omega)
     have eR:c_ none=0:=by rw[c_]
     have hu:nT l=qC (.mk 9 [] [] (eW f) none):=by
      unfold nT
      rw[hf]
      simp only
      cases hs:eW f with
      |nil=>rfl
      |cons t s=>
       cases s with
       |nil=>rw[hs] at pB;exact absurd pB aA
       |cons aga s=>rfl
     obtain⟨w,n,bF,fF,abL,f1,f2⟩:=y6 m aI (xA.trans xA.n (dz.le (by have:=xA.n;omega))) Ai (by omega) (by omega)
     rw[cw] at fF
     refine⟨w,n,bF,fF,abL,f1,?_⟩
     rcases f2 with⟨cq,r,f3,f4⟩|⟨cq,f3⟩
     · refine .inl ⟨?_,r,f3,by rw[hu,Ad s6,if_pos cq];exact f4⟩
       rintro⟨ER,tn,_,di⟩
       rw[hf] at tn;cases tn
       omega
     · exact .inr ⟨⟨f,hf,by omega,cq⟩,f3⟩
 · right
   refine⟨r,y,Γ,rfl,rfl,cL,y,bC.trans vg (aU.le (Nat.le_refl _)),.inl ⟨?_,r,rfl,?_⟩⟩
   · rintro⟨ER,tn,_⟩;rw[hf] at tn;cases tn
   · have hu:nT l=Hn:=by unfold nT;rw[hf]
     rw[hu];exact nY
def kM:Nat->Nat
 |0=>1
 |d+1=>1+3*kM d
theorem tp(n:Nat)(m:fm):(dg n m).2.nodes=m.nodes:=by unfold dg;split<;>rfl
theorem ON(k:Nat)(l:List aC)(m:fm):(f_ k l m).2.nodes=m.nodes:=by
 unfold f_
 split
 · exact tp 2 m
 split
 · rfl
 split
 · rfl
 split<;>rfl
theorem OO{f:fm->aC×fm}{b:Nat}(hf:∀m,(f m).2.nodes<=m.nodes+b):∀n m,(h2 f n m).2.nodes<=m.nodes+n*b
 |0,m=>by simp[h2]
 |n+1,m=>by
  have aa:=hf m
  have ad:=OO hf n (f m).2
  show(h2 f n (f m).2).2.nodes<=_
  rw[Nat.succ_mul];omega
theorem OP{f:fm->aC×fm}:∀n m,(h2 f n m).1.length=n
 |0,m=>rfl
 |n+1,m=>by show(h2 f n (f m).2).1.length+1=_;rw[OP n]
def HW(d bk:Nat)(s:fm):aC×fm:=f_ bk (h2 (eN d) ((dg 3 s).1+1) (dg 3 s).2).1 (h2 (eN d) ((dg 3 s).1+1) (dg 3 s).2).2
theorem OQ:∀d m,(eN d m).2.nodes<=m.nodes+kM d
 |0,m=>by
  rw[eN,ON,tp,tp,tp];exact Nat.le_refl _
 |d+1,m=>by
  rw[eN,ON,kM]
  have key:∀(c:Prop) [Decidable c] (n:Nat) (j5:fm),n<=3->j5.nodes=m.nodes+1->(if c then h2 (eN d) n j5 else([],j5)).2.nodes<=m.nodes+(1+3*kM d):=by
   intro c _ n j5 aN hm
   split
   · have:=OO (OQ d) n j5
     have av:n*kM d<=3*kM d:=Nat.mul_le_mul_right _ aN
     omega
   · simp only;omega
  refine key _ _ _ ?_ ?_
  · split
    · have:=oL (n:=3) (by omega) (dg 5 (dg 9 ⟨m.left,m.nodes+1⟩).2).2
      omega
    · have:=oL (n:=3) (by omega) (dg 9 ⟨m.left,m.nodes+1⟩).2
      omega
  · split<;>simp only[tp]
theorem ga.low{B c:Nat}{h g:J}{m:fm}(o:ga B c h m)(aN:h.n<=g.n)(ag:g.get c=h.get c)(cC:∀d,d<B->g.get d=h.get d):ga B c g m:=by
 obtain⟨v,aa,ad⟩:=o.get
 refine⟨⟨v,ag.trans aa,?_⟩,o.aI,Nat.lt_of_lt_of_le o.up aN⟩
 rcases ad with ad|⟨b,off,cp,bJ,bQ,ez,gV⟩
 · exact .inl ad
 · exact .inr ⟨b,off,cp,bJ,bQ,ez,λi af=>(Dd (cC b bQ)).trans (gV i af)⟩
theorem OR(m d:Nat){B c:Nat}(xB:∀(h:J) (s:fm),ga B c h s->s.nodes+kM d<=1000000->∃r g,Y m (.fn 27) [.ptr c 0,.int .i64 (Int.ofNat d)] h=.ret (.ptr r 0) g/\ga B c g (eN d s).2/\eH c h g/\gq h.n g (eN d s).1 (.ptr r 0))
  {k q n:Nat}{h:J}{s:fm}(aq:7<=k)(ao:d<=1000)(hs:ga B c h s)(aN:n<=3)(lp:s.nodes+n*kM d<=1000000){Q:bu->ah->Prop}
  (zl:∀g w ps Γ,eH c h g->ga B c g (h2 (eN d) n s).2->iW h.n g w ps->jE h.n g (h2 (eN d) n s).1 (ps.map g2)->cd [(0,.ptr c 0),(5,.int .i64 (Int.ofNat k)),(6,.ptr q 0),(7,w)] Γ->Q (.exit 0) ⟨Γ,[],.none,g⟩):
  a4 Tryz.prog Tryz.f27 (Y m) [1,1,1,1,1,1,0,1,0] ⟨[(0,.ptr c 0),(1,.int .i64 (Int.ofNat (d+1))),(5,.int .i64 (Int.ofNat k)),(6,.ptr q 0),(7,.aS),(8,.int .i64 (Int.ofNat n))],[],.none,h⟩ Q:=by
 have q1:=hs.up
 refine a4.loop (by kernel_rfl) (λj st=>∃i y Γ w ck ps bd,st=⟨Γ,[],.none,y⟩/\cd [(0,.ptr c 0),(1,.int .i64 (Int.ofNat (d+1))),(5,.int .i64 (Int.ofNat k)),(6,.ptr q 0),(7,w),(8,.int .i64 (Int.ofNat i))] Γ/\i=j/\i<=3/\eH c h y/\ga B c y bd/\bd.nodes+i*kM d<=1000000/\ck.length+i<=3/\iW h.n y w ps/\cT (λb=>h.n<=b/\b<y.n/\∀n cp,w≠ .slice b 0 n cp) y ck (ps.map g2)/\(h2 (eN d) n s).1=ck++(h2 (eN d) i bd).1/\(h2 (eN d) n s).2=(h2 (eN d) i bd).2) ?_ n _ (by omega) ⟨n,h,_,.aS,[],[],s,rfl,⟨rfl,rfl,rfl,rfl,rfl,rfl,trivial⟩,rfl,aN,eH.refl _ _,hs,lp,by simpa using aN,.inl ⟨rfl,rfl⟩,rfl,rfl,rfl⟩
 rintro j st ⟨i,y,Γ,w,ck,ps,bd,rfl,cL,rfl,af,aU,dw,abM,agb,iX,kz,aA,ax⟩
 have fin:i=0->Q (.exit 0) ⟨[(0,.ptr c 0),(1,.int .i64 (Int.ofNat (d+1))),(5,.int .i64 (Int.ofNat k)),(6,.ptr q 0),(7,w),(8,.int .i64 (Int.ofNat i))],[],.none,y⟩:=λh0=>by
  subst h0
  have aA:(h2 (eN d) n s).1=ck:=by rw[aA];exact List.append_nil _
  have ax:(h2 (eN d) n s).2=bd:=ax
  exact zl y w ps _ aU (by rw[ax];exact dw) iX (by rw[aA];exact cT.bO (λb ae=>⟨⟨ae.1,ae.2.1⟩,rfl⟩) _ _ kz) ⟨rfl,rfl,rfl,rfl,trivial⟩
 have lO:=aU.n
 refine a4.pre (Om (Y m) c (d+1) k q i w y ⟨λi1=>⟨λ_=>?_,λh=>absurd aq h⟩,λi1=>fin (by omega)⟩) cL rfl rfl rfl
 obtain⟨i,rfl⟩:∃a,i=a+1:=⟨i-1,by omega⟩
 rw[Nat.succ_mul] at abM
 obtain⟨r,g,aF,a5,bC,t1⟩:=xB y bd dw (by omega)
 have vg:=bC.n
 have cX:∀n cp,w≠ .slice c 0 n cp:=by
  intro n cp e
  rcases iX with⟨rfl,_⟩|⟨p,rfl,_,_,aG,_⟩
  · cases e
  · cases e;omega
 have abN:iW h.n g w ps:=cu.bO iX vg λp aQ Di=>bC.get p Di λe=>by subst e;exact cX _ _ aQ
 have fN:=dw.up
 have hj:ps.length=ck.length:=by have:=cT.len kz;rwa [List.length_map] at this
 obtain⟨H,cw⟩:∃H,H=g.push (.cells [.ptr r 0] 35 .own 0 0):=⟨_,rfl⟩
 have lK:H.n=g.n+1:=by rw[cw];rfl
 have Ar:∀b,b<g.n->H.get b=g.get b:=λb ae=>by rw[cw];exact lA ae rfl
 have abO:iW h.n H w ps:=cu.bO abN (by omega) λp _ Di=>Ar p Di
 obtain⟨au,b6,cU,c8,ek,en⟩:=Db lN abO (by omega) (d:=r) (src:=.slice g.n 0 1 (.exact 1)) (by rw[cw];exact uC lN g 35 r) (by omega)
 subst cw
 refine⟨⟨by omega,by omega⟩,r,g,aF,_,au,b6,⟨by omega,by omega⟩,i,(by show i<i+1;omega),i,au,_,_,ck++[(eN d bd).1],ps++[r],(eN d bd).2,rfl,⟨rfl,rfl,rfl,rfl,rfl,rfl,trivial⟩,rfl,by omega,?_,?_,?_,by rw[List.length_append,List.length_singleton];omega,?_,?_,by rw[aA];simp[h2],by rw[ax];rfl⟩
 · exact⟨by omega,λb ae sh=>(ek.get b ae).trans (((Ar b (by omega)).trans (bC.get b (by omega) sh)).trans (aU.get b ae sh))⟩
 · exact a5.low (by omega) ((en c (by omega) cX).trans (Ar c (by have:=a5.up;omega))) λb ae=>by
    have iA:=hs.aI
    exact(ek.get b (by omega)).trans (Ar b (by omega))
 · have:=OQ d bd
   omega
 · exact .inr ⟨_,rfl,by simp,cU,by omega,by omega⟩
 · rw[List.map_append]
   have old:∀b,h.n<=b->b<g.n->(∀n cp,w≠ .slice b 0 n cp)->(h.n<=b/\b<au.n/\∀n cp,I.slice (g.n+1) 0 (ps++[r]).length (bR.aR 1)≠ .slice b 0 n cp)/\au.get b=g.get b:=λb aa ad av=>by
    refine⟨⟨aa,by omega,λn cp e=>by cases e;omega⟩,(en b (by omega) av).trans (Ar b ad)⟩
   refine cT.app (cT.cons (dY.bO (λb ae=>old b (by have:=ae.1;omega) ae.2 λn cp e=>?_) _ _ t1) cT.nil) (cT.bO (λb ae=>?_) _ _ kz)
   · rcases iX with⟨rfl,_⟩|⟨p,rfl,_,_,_,bI⟩
     · cases e
     · cases e;have:=ae.1;omega
   · obtain⟨br,a3,dm⟩:=ae
     obtain⟨dA,dK⟩:=old b br (by omega) dm
     exact⟨dA,dK.trans (bC.get b a3 (by omega))⟩
theorem ga.count{B c:Nat}{h:J}{s:fm}(o:ga B c h s):∃g,ar h c (0+1)=some (.int .i64 (Int.ofNat s.nodes))/\bt.storeCells h c (0+1) [.int .i64 (Int.ofNat (s.nodes+1))]=some g/\ga B c g ⟨s.left,s.nodes+1⟩/\eH c h g/\g.n=h.n:=by
 obtain⟨v,aa,ad⟩:=o.get
 have qE:=o.up
 have iA:=o.aI
 refine⟨_,aT aa rfl,gN aa rfl rfl,⟨⟨v,gk rfl,?_⟩,o.aI,by simpa using o.up⟩,⟨by simp,λd _ ao=>dB ao rfl⟩,rfl⟩
 rcases ad with ad|⟨b,off,cp,bJ,bQ,ez,gV⟩
 · exact .inl ad
 · exact .inr ⟨b,off,cp,bJ,bQ,ez,λi af=>(Dd (dB (by omega) rfl)).trans (gV i af)⟩
def pC(B c:Nat)(h:J)(t:aC)(s:fm)(e:bu)(st:ah):Prop:=e=.ret/\∃r g,st=⟨[(4,.ptr r 0)],[],.none,g⟩/\ga B c g s/\eH c h g/\gq h.n g t (.ptr r 0)
theorem eH.push{c:Nat}{h g:J}(e:eH c h g)(o:dr):eH c h (g.push o):=⟨by have:=e.n;simp;omega,λd ao ag=>(lA (by have:=e.n;omega) rfl).trans (e.get d ao ag)⟩
abbrev rP:dr:=.cells [.str [97],.str [98],.str [99]] 9 .own 0 0
theorem OS(m D:Nat){B c bk:Nat}{h:J}{s:fm}(hs:ga B c h s)(aa:1<=bk)(cq:bk<=6):a4 Tryz.prog Tryz.f27 (Y (m+1)) [1,1,1,1] ⟨[(0,.ptr c 0),(1,.int .i64 (Int.ofNat D)),(5,.int .i64 (Int.ofNat bk))],[],.none,h⟩ (pC B c h (f_ bk [] (dg 3 s).2).1 (f_ bk [] (dg 3 s).2).2):=by
 have Dj:=hs.up
 have iA:=hs.aI
 obtain⟨H,cw⟩:∃H,H=h.push (.cells [.int .i64 (Int.ofNat bk),.str [],.aS,.aS,.aZ] 80 .own 0 0):=⟨_,rfl⟩
 have dz:Ext h.n h H:=by rw[cw];exact Ext.push (Nat.le_refl _) _
 have lK:H.n=h.n+1:=by rw[cw];rfl
 have xx:H.get h.n=some (.cells [.int .i64 (Int.ofNat bk),.str [],.aS,.aS,.aZ] 80 .own 0 0):=by rw[cw];exact fl rfl
 obtain⟨ai,aF,a5,bC⟩:=ve m 3 (hs.move dz) (by omega)
 have vg:=bC.n
 have bH:=oL (n:=3) (by omega) s
 have ba:ai.get h.n=some (.cells [.int .i64 (Int.ofNat bk),.str [],.aS,.aS,.aZ] 80 .own 0 0):=(bC.get _ (by omega) (by omega)).trans xx
 have vh:eH c h ai:=(eH.lb dz).trans bC
 refine aa6 (Y (m+1)) c D bk h ⟨(dg 3 s).1,ai,by rw[<-cw];exact aF,by omega,?_⟩
 refine a4.loop (by kernel_rfl) (λj st=>∃Γ,st=⟨Γ,[],.none,ai⟩/\cd [(0,.ptr c 0),(1,.int .i64 (Int.ofNat D)),(5,.int .i64 (Int.ofNat bk)),(6,.ptr h.n 0),(7,.aS),(8,.int .i64 (Int.ofNat ((dg 3 s).1+1)))] Γ) ?_ 0 _ (by omega) ⟨_,rfl,rfl,rfl,rfl,rfl,rfl,rfl,trivial⟩
 rintro j st ⟨Γ,rfl,cL⟩
 refine a4.pre (Om (Y (m+1)) c D bk h.n _ .aS ai ⟨λ_=>⟨λdi=>absurd di (by omega),λ_=>?_⟩,λh=>absurd h (by omega)⟩) cL rfl rfl rfl
 obtain⟨G,jg⟩:∃G,G=ai.push rP:=⟨_,rfl⟩
 have xC:G.n=ai.n+1:=by rw[jg];rfl
 have m5:Ext ai.n ai G:=by rw[jg];exact Ext.push (Nat.le_refl _) _
 have OT:G.get h.n=some (.cells [.int .i64 (Int.ofNat bk),.str [],.aS,.aS,.aZ] 80 .own 0 0):=(m5.get _ (by omega)).trans ba
 have OU:∀(g:J) (t:aC) (nm:a7),t=.mk bk nm [] [] none->g.get h.n=some (.cells [.int .i64 (Int.ofNat bk),.str nm,.aS,.aS,.aZ] 80 .own 0 0)->h.n<g.n->gq h.n g t (.ptr h.n 0):=λg t nm e al aN=>by
  subst e
  exact⟨h.n,.aS,.aS,.aZ,[],.own,0,0,rfl,⟨Nat.le_refl _,aN⟩,al,.inl ⟨rfl,rfl⟩,.inl ⟨rfl,rfl⟩,rfl,rfl⟩
 refine⟨h.n,ai,_,rfl,rfl,⟨rfl,rfl,rfl,rfl,trivial⟩,λgu=>?_,λcv=>⟨by omega,by omega,by omega,λ_=>?_,λh=>absurd rfl h⟩⟩
 · subst gu
   obtain⟨K,de⟩:∃K,K=G.push (.cells [.str [109,46,84],.str [109,46,85]] 9 .own 0 0):=⟨_,rfl⟩
   have vi:Ext G.n G K:=by rw[de];exact Ext.push (Nat.le_refl _) _
   have abP:K.n=G.n+1:=by rw[de];rfl
   obtain⟨ay,dy,oF,dC⟩:=ve m 2 ((a5.move m5).move vi) (by omega)
   have bf:=oL (n:=2) (by omega) (dg 3 s).2
   have abl:=dC.n
   have b7:ay.get h.n=some (.cells [.int .i64 (Int.ofNat 6),.str [],.aS,.aS,.aZ] 80 .own 0 0):=(dC.get _ (by omega) (by omega)).trans ((vi.get _ (by omega)).trans OT)
   have dS:ay.get G.n=some (.cells [.str [109,46,84],.str [109,46,85]] 9 .own 0 0):=(dC.get _ (by omega) (by have:=a5.up;omega)).trans (by rw[de];exact fl rfl)
   have c5:ar ay G.n (0+(dg 2 (dg 3 s).2).1*1)=some (.str (xq (dg 2 (dg 3 s).2).1)):=by
    have:(dg 2 (dg 3 s).2).1=0\/(dg 2 (dg 3 s).2).1=1:=by omega
    rcases this with e|e<;>rw[e]<;>exact aT dS rfl
   obtain⟨bg,m4⟩:∃bg,bg=ay.set h.n (some (.cells [.int .i64 (Int.ofNat 6),.str (xq (dg 2 (dg 3 s).2).1),.aS,.aS,.aZ] 80 .own 0 0)):=⟨_,rfl⟩
   have xj:eH c h ay:=(vh.trans (eH.lb m5)).trans ((eH.lb vi).trans dC)
   subst de;subst jg
   refine⟨_,ay,dy,bf,_,c5,bg,by rw[m4];exact gN b7 rfl rfl,λ_=>⟨rfl,_,_,rfl,?_,?_,?_⟩,λh=>absurd rfl h⟩
   · have e:(f_ 6 [] (dg 3 s).2).2=(dg 2 (dg 3 s).2).2:=by simp[f_]
     rw[e]
     exact oF.low (by rw[m4];simp) (by rw[m4];exact dB (by omega) rfl) λd ao=>by rw[m4];exact dB (by omega) rfl
   · exact⟨by rw[m4];have:=xj.n;simpa using this,λd ao ag=>by rw[m4];exact(dB (by omega) rfl).trans (xj.get d ao ag)⟩
   · exact OU _ _ (xq (dg 2 (dg 3 s).2).1) (by simp[f_]) (by rw[m4];exact gk rfl) (by rw[m4];simp;omega)
 · have abQ:h.n<G.n:=by omega
   subst jg
   have e:f_ bk [] (dg 3 s).2=(.mk bk [] [] [] none,(dg 3 s).2):=by
    unfold f_
    rw[if_neg cv,if_neg (by omega),if_neg (by omega),if_neg (by omega)]
   rw[e]
   exact⟨rfl,_,_,rfl,a5.move m5,vh.trans (eH.lb m5),OU _ _ [] rfl OT abQ⟩
def OV:List aC->aC
 |[]=>qB
 |x::l=>.mk 8 [] [] l (some x)
def tq(bk:Nat)(l:List aC):Prop:=(bk=7/\60<sz (.mk 7 [] (gp.take l.length) l none))\/(bk=8/\60<sz (OV l))\/(bk=9/\HP l)
theorem abR{bk:Nat}{l:List aC}(m:fm)(ae:tq bk l)(aw:∀t∈l,dv (some t)=0)(av:l.length<=3)(h0:0<l.length):f_ bk l m=(qB,m):=by
 rcases ae with⟨rfl,cq⟩|⟨rfl,cq⟩|⟨rfl,f,hf,aa,cq⟩
 · have:Ho l=qB:=by rw[rec_eq aw av,if_neg (by omega)]
   simp[f_,this]
 · have:C5 l=qB:=by
     cases l with
     |nil=>rfl
     |cons x l=>
      have cq:60<sz (.mk 8 [] [] l (some x)):=cq
      show qC _=_
      rw[Ad (N8 (λt bc=>aw t (List.mem_cons_of_mem _ bc)) (aw x (List.mem_cons_self ..))),if_neg (by omega)]
   simp[f_,this]
 · have s6:=Of aw h0 hf aa
   have:nT l=qB:=by
    unfold nT
    rw[hf]
    simp only
    split
    · rename_i t bc;rw[bc] at aa;exact absurd rfl aa
    · rw[Ad s6,if_neg (by omega)]
   simp[f_,this]
theorem Dk{h:J}{p:Nat}{ps:List Nat}(al:h.get p=some (.cells (cV (λd=>[g2 d]) ps) 35 .aR 0 0))(i:Nat)(af:i<ps.length):ar h p (0+i*1)=some (.ptr ps[i] 0):=by
 refine lB al ?_
 rw[jm,List.getElem?_map,Nat.zero_add,Nat.mul_one,List.getElem?_eq_getElem (by omega)]
 rfl
theorem OW(m bk:Nat){B c:Nat}{h g:J}{bd:fm}{l:List aC}{p:Nat}{ps:List Nat}(hm:200000<=m)(ab:eH c h g)(hs:ga B c g bd)(iX:iW (h.n+1) g (.slice p 0 ps.length (.aR 1)) ps)(nY:jE (h.n+1) g l (ps.map g2))(h0:0<ps.length)(av:ps.length<=3)(ag:∀t∈l,dv (some t)=0)(L8:c<h.n)(agc:h.n<g.n):
  (bk=7->∃v1,c1 Tryz.prog (g.push rP) 63 (.slice g.n 0 3 (.exact 3)) none (some (.int .i64 (Int.ofNat ps.length))) none=some v1/\∃v e ay,Y (m+3) (.fn 49) [v1,.slice p 0 ps.length (.aR 1)] (g.push rP)=.ret (.aO [v,.int .i64 (Int.ofNat e)]) ay/\eH c h ay/\ga B c ay bd/\((tq bk l/\v=.aZ/\e=3)\/(¬tq bk l/\e=0/\∃r,v=.ptr r 0/\gq h.n ay (f_ bk l bd).1 (.ptr r 0)/\(f_ bk l bd).2=bd)))/\
  (bk=8->∃v1,c1 Tryz.prog ((g.push rP).room 11) 50 (.slice p 0 ps.length (.aR 1)) (some (.int .i64 (Int.ofNat 1))) none none=some v1/\I.sound v1=true/\∃x,ar ((g.push rP).room 11) p (0+0*1)=some (.ptr x 0)/\∃v e ay,Y (m+3) (.fn 50) [v1,.ptr x 0] ((g.push rP).room 11)=.ret (.aO [v,.int .i64 (Int.ofNat e)]) ay/\eH c h ay/\ga B c ay bd/\((tq bk l/\v=.aZ/\e=3)\/(¬tq bk l/\e=0/\∃r,v=.ptr r 0/\gq h.n ay (f_ bk l bd).1 (.ptr r 0)/\(f_ bk l bd).2=bd)))/\
  (bk=9->∃v e ay,Y (m+3) (.fn 51) [.slice p 0 ps.length (.aR 1)] (g.push rP)=.ret (.aO [v,.int .i64 (Int.ofNat e)]) ay/\eH c h ay/\ga B c ay bd/\((tq bk l/\v=.aZ/\e=3)\/(¬tq bk l/\e=0/\∃r,v=.ptr r 0/\gq h.n ay (f_ bk l bd).1 (.ptr r 0)/\(f_ bk l bd).2=bd))):=by
 have eD:ps.length=l.length:=by have:=cT.len nY;rwa [List.length_map] at this
 have Dj:=hs.up
 obtain⟨G,jg⟩:∃G,G=g.push rP:=⟨_,rfl⟩
 have m5:Ext g.n g G:=by rw[jg];exact Ext.push (Nat.le_refl _) _
 have xC:G.n=g.n+1:=by rw[jg];rfl
 have abS:G.get g.n=some rP:=by rw[jg];exact fl rfl
 rw[<-jg]
 have aQ:G.get p=some (.cells (cV (λd=>[g2 d]) ps) 35 .aR 0 0)/\p<g.n:=by
  rcases iX with⟨e,_⟩|⟨q,e,_,b7,_,fV⟩
  · cases e
  · cases e;exact⟨(m5.get _ fV).trans b7,fV⟩
 obtain⟨aQ,Di⟩:=aQ
 have cast:∀{r:Nat} {K:J} {t:aC},gq (h.n+1) K t (.ptr r 0)->gq h.n K t (.ptr r 0):=λo=>dY.bO (λb ae=>⟨⟨by have:=ae.1;omega,ae.2⟩,rfl⟩) _ _ o
 have HX:jE (h.n+1) G l (ps.map g2):=nY.hk m5
 refine⟨λgj=>?_,λg6=>?_,λgv=>?_⟩
 · subst gj
   obtain⟨off,cp,s1,s2,bN⟩:=Oo (P:=Tryz.prog) (h:=G) (T:=63) (E:=9) (b:=g.n) (off:=0) (n:=3) (cp:=.exact 3) (by kernel_rfl) (by kernel_rfl) av (Nat.le_refl 3)
   obtain⟨rfl,_⟩:=bN h0
   refine⟨_,s1,?_⟩
   have f:=abq m (h.n+1) (h:=G) (nb:=g.n) (b:=p) (nc:=cp) (cp:=.aR 1) (l:=l) (vs:=ps.map g2) hm (by omega) (by omega) (by omega) (λi af=>by
    rw[List.length_map] at af
    have:i=0\/i=1\/i=2:=by omega
    rcases this with rfl|rfl|rfl<;>exact aT abS rfl) (λi af=>by
    rw[List.length_map] at af
    rw[Dk aQ i af];simp) HX (by rw[List.length_map];omega) ag
   rw[List.length_map] at f
   obtain⟨ay,dC,f⟩:=f
   have tr:=(ab.trans (eH.lb m5)).trans (eH.lb dC)
   have kf:=(hs.move m5).move dC
   rcases f with⟨cq,r,f1,f2⟩|⟨cq,f1⟩
   · refine⟨_,_,ay,f1,tr,kf,.inr ⟨?_,rfl,r,rfl,?_,by simp[f_]⟩⟩
     · rintro(⟨_,di⟩|⟨di,_⟩|⟨di,_⟩)<;>omega
     · have e:(f_ 7 l bd).1=.mk 7 [] (gp.take l.length) l none:=by simp[f_,rec_eq ag (by omega:l.length<=3),if_pos cq]
       rw[e];exact cast f2
   · exact⟨_,_,ay,f1,tr,kf,.inl ⟨.inl ⟨rfl,cq⟩,rfl,rfl⟩⟩
 · subst g6
   cases l with
   |nil=>exact absurd eD (by show¬ps.length=0;omega)
   |cons x l=>
    cases ps with
    |nil=>simp at h0
    |cons q ps=>
     have rQ:Ext G.n G (G.room 11):=Ext.room _ _ _
     have Dl:(G.room 11).n=G.n+11:=rfl
     have HY:(G.room 11).get p=some (.cells (cV (λd=>[g2 d]) (q::ps)) 35 .aR 0 0):=aQ
     have abT:=jE.hk rQ HX
     obtain⟨v,ws,e,t1,t2⟩:=abT
     cases e
     have hj:ps.length=l.length:=by simpa using eD
     obtain⟨off,cp,s1,s2,bN⟩:=HF (P:=Tryz.prog) (h:=G.room 11) (T:=50) (E:=35) (b:=p) (off:=0) (n:=(q::ps).length) (cp:=.aR 1) (by kernel_rfl) (by kernel_rfl) h0 rfl
     refine⟨_,s1,rfl,q,Dk HY 0 (by simp),?_⟩
     have el:(q::ps).length-1=ps.length:=rfl
     rw[el] at bN⊢
     have fB:∀{K:J},K.get p=some (.cells (cV (λd=>[g2 d]) (q::ps)) 35 .aR 0 0)->∀i (af:i<(ps.map g2).length),ar K p (off+i*1)=some (ps.map g2)[i]:=λaq i af=>by
      rw[List.length_map] at af
      obtain⟨rfl,_⟩:=bN (by omega)
      rw[show 0+1*1+i*1=0+(i+1)*1 by omega,Dk aq (i+1) (by simpa using af)]
      simp
     have f:=abi m (h.n+1) (h:=G.room 11) (b:=p) (off:=off) (r:=q) (cp:=cp) (x:=x) (l:=l) (vs:=ps.map g2) hm (by omega) (by omega) (fB HY) t2 (λK de=>by
      have aq:K.get p=some (.cells (cV (λd=>[g2 d]) (q::ps)) 35 .aR 0 0):=(de.get p (by omega)).trans HY
      by_cases aa:0<ps.length
      · exact c6.src (B:=0) (fB aq) (by rw[List.length_map];exact aa) (bN aa).2
      · have dc:ps=[]:=List.eq_nil_of_length_eq_zero (by omega)
        subst dc
        have:cp=.dead\/cp≠ .dead:=by cases cp<;>simp
        rcases this with rfl|HZ
        · rfl
        · have e:bt.loadCells K p off (0*1)=some []:=pa aq rfl
          cases cp with
          |exact k=>simp only[List.map_nil,List.length_nil,fg,e]
          |aR k=>simp only[List.map_nil,List.length_nil,fg,e]
          |dead=>exact absurd rfl HZ) t1 (by rw[List.length_map];simp at av;omega) (λt bc=>ag t (List.mem_cons_of_mem _ bc)) (ag x (List.mem_cons_self ..))
     rw[List.length_map] at f
     obtain⟨ay,dC,f⟩:=f
     have tr:=(ab.trans (eH.lb m5)).trans ((eH.lb rQ).trans (eH.lb dC))
     have kf:=((hs.move m5).move rQ).move dC
     rcases f with⟨cq,r,f1,f2⟩|⟨cq,f1⟩
     · refine⟨_,_,ay,f1,tr,kf,.inr ⟨?_,rfl,r,rfl,?_,by simp[f_]⟩⟩
       · have cq:sz (OV (x::l))<=60:=cq
         rintro(⟨di,_⟩|⟨_,di⟩|⟨di,_⟩)<;>omega
       · have e:(f_ 8 (x::l) bd).1=.mk 8 [] [] l (some x):=by
           have:C5 (x::l)=.mk 8 [] [] l (some x):=by
            show qC _=_
            rw[Ad (N8 (λt bc=>ag t (List.mem_cons_of_mem _ bc)) (ag x (List.mem_cons_self ..))),if_pos cq]
           simp[f_,this]
         rw[e];exact cast f2
     · exact⟨_,_,ay,f1,tr,kf,.inl ⟨.inr (.inl ⟨rfl,cq⟩),rfl,rfl⟩⟩
 · subst gv
   obtain⟨ay,dC,f⟩:=abK m (h.n+1) (h:=G) (b:=p) (off:=0) (cp:=.aR 1) (l:=l) (ps:=ps) hm (by omega) (by omega) (Dk aQ) HX h0 (by omega) ag
   have tr:=(ab.trans (eH.lb m5)).trans (eH.lb dC)
   have kf:=(hs.move m5).move dC
   rcases f with⟨ae,r,f1,f2⟩|⟨ae,f1⟩
   · refine⟨_,_,ay,f1,tr,kf,.inr ⟨?_,rfl,r,rfl,?_,by simp[f_]⟩⟩
     · rintro(⟨di,_⟩|⟨di,_⟩|⟨_,di⟩)
       · omega
       · omega
       · exact ae di
     · have e:(f_ 9 l bd).1=nT l:=by simp[f_]
       rw[e];exact cast f2
   · exact⟨_,_,ay,f1,tr,kf,.inl ⟨.inr (.inr ⟨rfl,ae⟩),rfl,rfl⟩⟩
theorem pC.back{B c:Nat}{h av:J}{t:aC}{s:fm}{e:bu}{st:ah}(x:eH c h av)(o:pC B c av t s e st):pC B c h t s e st:=by
 obtain⟨aa,r,g,ad,rG,aG,bI⟩:=o
 have:=x.n
 exact⟨aa,r,g,ad,rG,x.trans aG,dY.bO (λb ae=>⟨⟨by have:=ae.1;omega,ae.2⟩,rfl⟩) _ _ bI⟩
theorem abU(m d:Nat){B c bk:Nat}{h:J}{s:fm}(hm:200000<=m)(xB:∀(h:J) (s:fm),ga B c h s->s.nodes+kM d<=1000000->∃r g,Y (m+3) (.fn 27) [.ptr c 0,.int .i64 (Int.ofNat d)] h=.ret (.ptr r 0) g/\ga B c g (eN d s).2/\eH c h g/\gq h.n g (eN d s).1 (.ptr r 0))
  (hs:ga B c h s)(ao:d<=1000)(aN:s.nodes+3*kM d<=1000000)(di:7<=bk)(g5:bk<=9):a4 Tryz.prog Tryz.f27 (Y (m+3)) [1,1,1,1] ⟨[(0,.ptr c 0),(1,.int .i64 (Int.ofNat (d+1))),(5,.int .i64 (Int.ofNat bk))],[],.none,h⟩ (pC B c h (HW d bk s).1 (HW d bk s).2):=by
 have Dj:=hs.up
 obtain⟨H,cw⟩:∃H,H=h.push (.cells [.int .i64 (Int.ofNat bk),.str [],.aS,.aS,.aZ] 80 .own 0 0):=⟨_,rfl⟩
 have dz:Ext h.n h H:=by rw[cw];exact Ext.push (Nat.le_refl _) _
 have lK:H.n=h.n+1:=by rw[cw];rfl
 obtain⟨ai,aF,a5,bC⟩:=ve (m+2) 3 (hs.move dz) (by omega)
 have vg:=bC.n
 have bH:=oL (n:=3) (by omega) s
 have agd:=tp 3 s
 have vh:eH c h ai:=(eH.lb dz).trans bC
 rw[cw] at aF
 obtain⟨L,hx⟩:∃L,L=h2 (eN d) ((dg 3 s).1+1) (dg 3 s).2:=⟨_,rfl⟩
 have CY:L.1.length=(dg 3 s).1+1:=by rw[hx];exact OP _ _
 have H0:∀t∈L.1,dv (some t)=0:=by rw[hx];exact Hs (λt=>dv (some t)=0) (Ht d) _ _
 have o8:HW d bk s=f_ bk L.1 L.2:=by rw[hx];rfl
 rw[o8]
 have lp:(dg 3 s).2.nodes+((dg 3 s).1+1)*kM d<=1000000:=by
  have:((dg 3 s).1+1)*kM d<=3*kM d:=Nat.mul_le_mul_right _ (by omega)
  omega
 have key:∀(g:J) (w:I) (ps:List Nat),eH c ai g->ga B c g L.2->iW ai.n g w ps->jE ai.n g L.1 (ps.map g2)->∃p,w=.slice p 0 ps.length (.aR 1)/\eH c h g/\h.n<g.n/\iW (h.n+1) g (.slice p 0 ps.length (.aR 1)) ps/\jE (h.n+1) g L.1 (ps.map g2)/\0<ps.length/\ps.length<=3:=by
  intro g w ps ab m1 iX nY
  have eD:ps.length=L.1.length:=by have:=cT.len nY;rwa [List.length_map] at this
  have OX:=ab.n
  have abV:iW (h.n+1) g w ps:=cu.le (by omega) iX
  have abW:jE (h.n+1) g L.1 (ps.map g2):=cT.bO (λb ae=>⟨⟨by have:=ae.1;omega,ae.2⟩,rfl⟩) _ _ nY
  rcases abV with⟨_,e⟩|⟨p,rfl,a1,b7,fv,fV⟩
  · rw[e] at eD;simp at eD;omega
  · exact⟨p,rfl,vh.trans ab,by omega,.inr ⟨p,rfl,a1,b7,fv,fV⟩,abW,a1,by omega⟩
 by_cases cC:tq bk L.1
 · have mZ:=abR L.2 cC H0 (by omega) (by omega)
   rw[mZ]
   have fin:∀ay,eH c h ay->ga B c ay L.2->pC B c h qB L.2 .ret ⟨[(4,.ptr ay.n 0)],[],.none,ay.push (.cells [.int .i64 (Int.ofNat 2),.str [],.aS,.aS,.aZ] 80 .own 0 0)⟩:=λay dC oF=>by
    have:=dC.n
    exact⟨rfl,_,_,rfl,oF.move (Ext.push (Nat.le_refl _) _),dC.push _,⟨ay.n,.aS,.aS,.aZ,[],.own,0,0,rfl,⟨by omega,by simp⟩,fl rfl,.inl ⟨rfl,rfl⟩,.inl ⟨rfl,rfl⟩,rfl,rfl⟩⟩
   refine aa8 (Y (m+3)) c (d+1) bk h ⟨(dg 3 s).1,ai,aF,by omega,?_⟩
   refine OR (m+3) d xB di ao a5 (by omega) lp (λg w ps Γ ab m1 iX nY cL=>?_)
   rw[<-hx] at m1 nY
   obtain⟨p,rfl,bJ,bQ,ez,gV,fX,iI⟩:=key g w ps ab m1 iX nY
   obtain⟨H2,H3,H4⟩:=OW m bk hm bJ m1 ez gV fX iI H0 Dj bQ
   refine⟨h.n,p,0,ps.length,.aR 1,g,Γ,rfl,rfl,cL,by omega,λgj=>?_,λc4=>⟨λg6=>?_,λeo=>⟨λgv=>?_,λeG=>by omega⟩⟩⟩
   · obtain⟨v1,s1,v,e,ay,f1,f2,f3,f4⟩:=H2 gj
     rcases f4 with⟨_,rfl,rfl⟩|⟨ae,_⟩
     · exact⟨v1,s1,ay,f1,λh=>absurd h (by decide),λ_=>fin ay f2 f3⟩
     · exact absurd cC ae
   · obtain⟨v1,s1,s2,x,bN,v,e,ay,f1,f2,f3,f4⟩:=H3 g6
     rcases f4 with⟨_,rfl,rfl⟩|⟨ae,_⟩
     · exact⟨v1,s1,fX,x,bN,ay,f1,s2,λh=>absurd h (by decide),λ_=>fin ay f2 f3⟩
     · exact absurd cC ae
   · obtain⟨v,e,ay,f1,f2,f3,f4⟩:=H4 gv
     rcases f4 with⟨_,rfl,rfl⟩|⟨ae,_⟩
     · exact⟨ay,f1,λh=>absurd h (by decide),λ_=>fin ay f2 f3⟩
     · exact absurd cC ae
 · refine aa7 (Y (m+3)) c (d+1) bk h ⟨(dg 3 s).1,ai,aF,by omega,?_⟩
   refine OR (m+3) d xB di ao a5 (by omega) lp (λg w ps Γ ab m1 iX nY cL=>?_)
   rw[<-hx] at m1 nY
   obtain⟨p,rfl,bJ,bQ,ez,gV,fX,iI⟩:=key g w ps ab m1 iX nY
   obtain⟨H2,H3,H4⟩:=OW m bk hm bJ m1 ez gV fX iI H0 Dj bQ
   refine⟨h.n,p,0,ps.length,.aR 1,g,Γ,rfl,rfl,cL,by omega,λgj=>?_,λc4=>⟨λg6=>?_,λeo=>⟨λgv=>?_,λeG=>by omega⟩⟩⟩
   · obtain⟨v1,s1,v,e,ay,f1,f2,f3,f4⟩:=H2 gj
     rcases f4 with⟨ae,_⟩|⟨_,rfl,r,rfl,f5,f6⟩
     · exact absurd ae cC
     · exact⟨v1,s1,r,ay,f1,λ_=>⟨rfl,r,ay,rfl,by rw[f6];exact f3,f2,f5⟩,λh=>absurd rfl h⟩
   · obtain⟨v1,s1,s2,x,bN,v,e,ay,f1,f2,f3,f4⟩:=H3 g6
     rcases f4 with⟨ae,_⟩|⟨_,rfl,r,rfl,f5,f6⟩
     · exact absurd ae cC
     · exact⟨v1,s1,fX,x,bN,r,ay,f1,s2,λ_=>⟨rfl,r,ay,rfl,by rw[f6];exact f3,f2,f5⟩,λh=>absurd rfl h⟩
   · obtain⟨v,e,ay,f1,f2,f3,f4⟩:=H4 gv
     rcases f4 with⟨ae,_⟩|⟨_,rfl,r,rfl,f5,f6⟩
     · exact absurd ae cC
     · exact⟨r,ay,f1,λ_=>⟨rfl,r,ay,rfl,by rw[f6];exact f3,f2,f5⟩,λh=>absurd rfl h⟩
theorem OY(M:Nat){B c D:Nat}{h:J}{t:aC}{s:fm}(al:a4 Tryz.prog Tryz.f27 (Y M) [] ⟨[(0,.ptr c 0),(1,.int .i64 (Int.ofNat D))],[],.none,h⟩ (pC B c h t s)):∃r g,Y (M+1) (.fn 27) [.ptr c 0,.int .i64 (Int.ofNat D)] h=.ret (.ptr r 0) g/\ga B c g s/\eH c h g/\gq h.n g t (.ptr r 0):=by
 refine FX (R:=λx=>∃r g,x=.ret (.ptr r 0) g/\ga B c g s/\eH c h g/\gq h.n g t (.ptr r 0)) (intr:=b3) (n:=M) (args:=[.ptr c 0,.int .i64 (Int.ofNat D)]) Tryz.func27 (by kernel_rfl) (by kernel_rfl) (by kernel_rfl) al ?_
 rintro e st ⟨rfl,r,g,rfl,aa,ad,av⟩
 exact .inl ⟨.inl rfl,rfl,.ptr r 0,by kernel_rfl,r,g,rfl,aa,ad,av⟩
theorem OZ(m:Nat)(hm:200000<=m):∀(d:Nat),d<=1000->∀{B c:Nat} (h:J) (s:fm),ga B c h s->s.nodes+kM d<=1000000->∃r g,Y (m+4+d) (.fn 27) [.ptr c 0,.int .i64 (Int.ofNat d)] h=.ret (.ptr r 0) g/\ga B c g (eN d s).2/\eH c h g/\gq h.n g (eN d s).1 (.ptr r 0)
 |0,_,B,c,h,s,hs,lp=>by
  obtain⟨ai,bw,s1,a5,bC,_⟩:=hs.count
  obtain⟨au,a6,bX,cS⟩:=ve (m+2) 9 a5 (by omega)
  obtain⟨ay,dy,oF,dC⟩:=ve (m+2) 5 bX (by omega)
  have eG:=oL (n:=9) (by omega) ⟨s.left,s.nodes+1⟩
  have b_:=oL (n:=5) (by omega) (dg 9 ⟨s.left,s.nodes+1⟩).2
  refine OY (m+3) (a4.seq (p:=[]) (by kernel_rfl) (On _ c 0 h (a4.seq (p:=[1]) (by kernel_rfl) (Oj _ c 0 h ⟨s.nodes,bw,by omega,ai,s1,a4.seq (p:=[1,1]) (by kernel_rfl) (Ok _ c 0 ai ⟨_,au,a6,by omega,a4.seq (p:=[1,1,1]) (by kernel_rfl) (Ol _ c 0 _ au ⟨λ_=>⟨_,ay,dy,by omega,?_⟩,λh=>absurd (by omega:0<1) h⟩)⟩)⟩))))
  refine a4.mono (OS (m+2) 0 oF (by omega) (by omega)) λe st o=>?_
  have o':=pC.back ((bC.trans cS).trans dC) o
  rw[eN]
  exact o'
 |d+1,ao,B,c,h,s,hs,lp=>by
  rw[kM] at lp
  obtain⟨ai,bw,s1,a5,bC,_⟩:=hs.count
  obtain⟨au,a6,bX,cS⟩:=ve (m+1+d+2) 9 a5 (by omega)
  have eG:=oL (n:=9) (by omega) ⟨s.left,s.nodes+1⟩
  have ax:=tp 9 ⟨s.left,s.nodes+1⟩
  have oK:=bC.trans cS
  have xB:∀(h:J) (s:fm),ga B c h s->s.nodes+kM d<=1000000->∃r g,Y (m+1+d+3) (.fn 27) [.ptr c 0,.int .i64 (Int.ofNat d)] h=.ret (.ptr r 0) g/\ga B c g (eN d s).2/\eH c h g/\gq h.n g (eN d s).1 (.ptr r 0):=λh s a b=>by
   have:=OZ m hm d (by omega) h s a b
   rwa [show m+4+d=m+1+d+3 by omega] at this
  have tail:∀{g bk bd},ga B c g bd->1<=bk->bk<=9->bd.nodes=s.nodes+1->eH c h g->a4 Tryz.prog Tryz.f27 (Y (m+1+d+3)) [1,1,1,1] ⟨[(0,.ptr c 0),(1,.int .i64 (Int.ofNat (d+1))),(5,.int .i64 (Int.ofNat bk))],[],.none,g⟩ (pC B c h (f_ bk (if 7<=bk then h2 (eN d) ((dg 3 bd).1+1) (dg 3 bd).2 else([],(dg 3 bd).2)).1 (if 7<=bk then h2 (eN d) ((dg 3 bd).1+1) (dg 3 bd).2 else([],(dg 3 bd).2)).2).1 (f_ bk (if 7<=bk then h2 (eN d) ((dg 3 bd).1+1) (dg 3 bd).2 else([],(dg 3 bd).2)).1 (if 7<=bk then h2 (eN d) ((dg 3 bd).1+1) (dg 3 bd).2 else([],(dg 3 bd).2)).2).2):=λ{g bk bd} qZ bJ jl aN ab=>by
   by_cases di:7<=bk
   · rw[if_pos di]
     exact a4.mono (abU (m+1+d) d (by omega) xB qZ (by omega) (by omega) di jl) λe st o=>pC.back ab o
   · rw[if_neg di]
     exact a4.mono (OS (m+1+d+2) (d+1) qZ bJ (by omega)) λe st o=>pC.back ab o
  rw[show m+4+(d+1)=m+1+d+3+1 by omega]
  refine OY (m+1+d+3) (a4.seq (p:=[]) (by kernel_rfl) (On _ c (d+1) h (a4.seq (p:=[1]) (by kernel_rfl) (Oj _ c (d+1) h ⟨s.nodes,bw,by omega,ai,s1,a4.seq (p:=[1,1]) (by kernel_rfl) (Ok _ c (d+1) ai ⟨_,au,a6,by omega,a4.seq (p:=[1,1,1]) (by kernel_rfl) (Ol _ c (d+1) _ au ⟨λh=>absurd h (by omega),λ_=>?_⟩)⟩)⟩))))
  obtain⟨v,ba,a1⟩:=bX.get
  refine⟨(dg 9 ⟨s.left,s.nodes+1⟩).2.nodes,aT ba rfl,λaG=>?_,λaG=>?_⟩
  · obtain⟨ay,dy,oF,dC⟩:=ve (m+1+d+2) 5 bX (by omega)
    have b_:=oL (n:=5) (by omega) (dg 9 ⟨s.left,s.nodes+1⟩).2
    have bD:=tp 5 (dg 9 ⟨s.left,s.nodes+1⟩).2
    refine⟨_,ay,dy,by omega,?_⟩
    have af:40<s.nodes+1:=by rw[ax] at aG;exact aG
    rw[eN]
    simp only[if_pos af]
    exact tail oF (by omega) (by omega) (by rw[bD,ax]) (oK.trans dC)
  · have af:¬40<s.nodes+1:=by rw[ax] at aG;exact aG
    rw[eN]
    simp only[if_neg af]
    exact tail bX (by omega) (by omega) ax oK
theorem abX(m:Nat)(hm:200000<=m){h:J}{v:I}{cs:a7}(aD:lf h.n h v cs):∃r g,Y (m+8) (.fn 12) [v] h=.ret (.ptr r 0) g/\Ext h.n h g/\gq h.n g (hB cs) (.ptr r 0):=by
 have Dm:∃v1,c1 Tryz.prog h 27 v none (some (.int .i64 (Int.ofNat (min cs.length 60)))) none=some v1/\lf h.n h v1 (cs.take (min cs.length 60))/\v1.cO=true:=by
  have hlen:(cs.take (min cs.length 60)).length=min cs.length 60:=by rw[List.length_take];omega
  rcases aD with⟨rfl,rfl⟩|⟨b,off,cp,rfl,ad,av,aG⟩
  · exact⟨.aS,by kernel_rfl,.inl ⟨rfl,rfl⟩,rfl⟩
  · obtain⟨oM,jD,s1,s2,bN⟩:=Oo (P:=Tryz.prog) (h:=h) (T:=27) (E:=5) (b:=b) (off:=off) (n:=cs.length) (k:=min cs.length 60) (cp:=cp) (by kernel_rfl) (by kernel_rfl) (by omega) av
    refine⟨_,s1,.inr ⟨b,oM,jD,by rw[hlen],ad,by rw[hlen];exact s2,λi af=>?_⟩,rfl⟩
    rw[hlen] at af
    obtain⟨rfl,_⟩:=bN (by omega)
    rw[aG i (by omega)]
    simp
 obtain⟨v1,s1,s2,bN⟩:=Dm
 obtain⟨H,cw⟩:∃H,H=h.push (.cells [v1,.int .i64 (Int.ofNat 0)] 72 .own 0 0):=⟨_,rfl⟩
 have dz:Ext h.n h H:=by rw[cw];exact Ext.push (Nat.le_refl _) _
 have lK:H.n=h.n+1:=by rw[cw];rfl
 have abY:ga h.n h.n H ⟨cs.take (min cs.length 60),0⟩:=⟨⟨v1,by rw[cw];exact fl rfl,s2.ext dz⟩,Nat.le_refl _,by omega⟩
 obtain⟨r,g,aF,a5,bC,t1⟩:=OZ m hm 3 (by omega) H _ abY (by simp[kM])
 have vg:=bC.n
 rw[cw] at aF
 refine aa9 (m+7) v h (R:=λx=>∃r g,x=.ret (.ptr r 0) g/\Ext h.n h g/\gq h.n g (hB cs) (.ptr r 0)) ⟨cs.length,aD.len h,min cs.length 60,UR _ _,v1,s1,bN,bN,r,g,aF,r,g,rfl,?_,?_⟩
 · exact⟨by omega,λd ao=>(bC.get d (by omega) (by omega)).trans (dz.get d ao)⟩
 · exact dY.bO (λb ae=>⟨⟨by have:=ae.1;omega,ae.2⟩,rfl⟩) _ _ t1
end Go.Proofs.jj
