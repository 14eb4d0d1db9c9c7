/-
  PROVED HERE: contracts of functions (Di). No condition beside each statement's own.
-/
import Derived.Test.YtjkomfonmcmgdaaGreatDoorDh
import Derived.Test.YtjkomfonmcmgdaaGreatDoorDg
import Derived.Test.YtjkomfonmcmgdaaGreatDoorTx
import Derived.Test.YtjkomfonmcmgdaaGreatDoorSxb
set_option linter.unusedVariables false
set_option linter.unusedSimpArgs false
namespace Go.Proofs.dj
open Go aP Go.Proofs c8 Go.Proofs.cG
set_option maxRecDepth 100000
set_option maxHeartbeats 1000000
def wI(n:Nat):b3->Prop
 |.exact k=>n<=k
 |.a1 e=>e=1
 |.dead=>n=0
def km(F:Nat->Prop)(h:J)(v:I)(vs:List I):Prop:=(v=.a0/\vs=[])\/∃b off cp,v=.slice b off vs.length cp/\F b/\(∀i (af:i<vs.length),au h b (off+i*1)=some vs[i])/\0<vs.length/\cp≠ .dead/\wI vs.length cp
mutual
def eU(F:Nat->Prop)(h:J):aE->I->Prop
 |.mk k nm ns xs rt,v=>∃r bL bg c2 vs bh aO up,v=.ptr r 0/\F r/\h.get r=some (.cells [.int .i64 (Int.ofNat k),.str nm,bL,bg,c2] 80 bh aO up)/\km F h bL (ns.map .str)/\km F h bg vs/\cY F h xs vs/\sF F h rt c2
def cY(F:Nat->Prop)(h:J):List aE->List I->Prop
 |[],vs=>vs=[]
 |t::ck,vs=>∃v ws,vs=v::ws/\eU F h t v/\cY F h ck ws
def sF(F:Nat->Prop)(h:J):Option aE->I->Prop
 |none,v=>v=.bb
 |some t,v=>eU F h t v
end
theorem km.b8{F G:Nat->Prop}{h g:J}{v:I}{vs:List I}(e:∀b,F b->G b/\g.get b=h.get b)(hs:km F h v vs):km G g v vs:=by
 rcases hs with hs|⟨b,off,cp,ab,ad,ar,aG⟩
 · exact .inl hs
 · refine .inr ⟨b,off,cp,ab,(e b ad).1,λi af=>?_,aG⟩
   rw[<-ar i af]
   unfold au
   rw[(e b ad).2]
mutual
theorem eU.b8{F G:Nat->Prop}{h g:J}(e:∀b,F b->G b/\g.get b=h.get b):∀(t:aE) (v:I),eU F h t v->eU G g t v
 |.mk k nm ns xs rt,v,aa=>by
  obtain⟨r,bL,bg,c2,vs,bh,aO,up,ab,ad,ar,aG,bJ,cu,dg⟩:=aa
  exact⟨r,bL,bg,c2,vs,bh,aO,up,ab,(e r ad).1,(e r ad).2.trans ar,aG.b8 e,bJ.b8 e,cY.b8 e xs vs cu,sF.b8 e rt c2 dg⟩
theorem cY.b8{F G:Nat->Prop}{h g:J}(e:∀b,F b->G b/\g.get b=h.get b):∀(ck:List aE) (vs:List I),cY F h ck vs->cY G g ck vs
 |[],vs,aa=>aa
 |t::ck,vs,aa=>by
  obtain⟨v,ws,ab,ad,ar⟩:=aa
  exact⟨v,ws,ab,eU.b8 e t v ad,cY.b8 e ck ws ar⟩
theorem sF.b8{F G:Nat->Prop}{h g:J}(e:∀b,F b->G b/\g.get b=h.get b):∀(t:Option aE) (v:I),sF F h t v->sF G g t v
 |none,v,aa=>aa
 |some t,v,aa=>eU.b8 e t v aa
end
mutual
theorem eU.at{F:Nat->Prop}{B:Nat}{h:J}(e:∀b,F b->b<B):∀(t:aE) (v:I),eU F h t v->dJ B h t v
 |.mk k nm ns xs rt,v,aa=>by
  obtain⟨r,bL,bg,c2,vs,bh,aO,up,ab,ad,ar,aG,bJ,cu,dg⟩:=aa
  have fY:∀{v:I} {vs:List I},km F h v vs->db B h v vs:=by
   intro v vs hs
   rcases hs with hs|⟨b,off,cp,ab,ad,ar,aG⟩
   · exact .inl hs
   · exact .inr ⟨b,off,cp,ab,e b ad,ar,aG.1,aG.2.1⟩
  exact⟨r,bL,bg,c2,vs,bh,aO,up,ab,e r ad,ar,fY aG,fY bJ,cY.at e xs vs cu,sF.at e rt c2 dg⟩
theorem cY.at{F:Nat->Prop}{B:Nat}{h:J}(e:∀b,F b->b<B):∀(ck:List aE) (vs:List I),cY F h ck vs->dS B h ck vs
 |[],vs,aa=>aa
 |t::ck,vs,aa=>by
  obtain⟨v,ws,ab,ad,ar⟩:=aa
  exact⟨v,ws,ab,eU.at e t v ad,cY.at e ck ws ar⟩
theorem sF.at{F:Nat->Prop}{B:Nat}{h:J}(e:∀b,F b->b<B):∀(t:Option aE) (v:I),sF F h t v->ez B h t v
 |none,v,aa=>aa
 |some t,v,aa=>eU.at e t v aa
end
abbrev YA(s:a5):List I:=[.str s]
abbrev YB(r:Nat):List I:=[.ptr r 0]
theorem YC:k7 Tryz.prog YA 1 9 63 where
 hu:=by kernel_rfl
 fD:=by kernel_rfl
 info:=by
  obtain⟨i,af⟩:=Option.isSome_iff_exists.1 (show(Tryz.prog.info? 9).isSome=true by kernel_rfl)
  refine⟨i,af,?_,?_⟩
  · have:(Tryz.prog.info? 9).map (·.size)=some 1:=by kernel_rfl
    rw[af] at this;simpa using this
  · have:(Tryz.prog.info? 9).map (λi=>Nat.ble i.bytes 1000)=some true:=by kernel_rfl
    rw[af] at this
    exact Nat.le_of_ble_eq_true (by simpa using this)
 zero:=⟨.str [],by kernel_rfl,rfl⟩
 size:=by kernel_rfl
 len:=λ_=>rfl
 cell:=λ_=>rfl
 pos:=by decide
theorem YD:k7 Tryz.prog YB 1 35 50 where
 hu:=by kernel_rfl
 fD:=by kernel_rfl
 info:=by
  obtain⟨i,af⟩:=Option.isSome_iff_exists.1 (show(Tryz.prog.info? 35).isSome=true by kernel_rfl)
  refine⟨i,af,?_,?_⟩
  · have:(Tryz.prog.info? 35).map (·.size)=some 1:=by kernel_rfl
    rw[af] at this;simpa using this
  · have:(Tryz.prog.info? 35).map (λi=>Nat.ble i.bytes 1000)=some true:=by kernel_rfl
    rw[af] at this
    exact Nat.le_of_ble_eq_true (by simpa using this)
 zero:=⟨.bb,by kernel_rfl,rfl⟩
 size:=by kernel_rfl
 len:=λ_=>rfl
 cell:=λ_=>rfl
 pos:=by decide
theorem kn{D:Type}(enc:D->I):∀ds:List D,dR (λd=>[enc d]) ds=ds.map enc
 |[]=>rfl
 |d::l=>by
  show[enc d]++dR _ l=enc d::l.map enc
  rw[kn enc l];rfl
theorem B6{D:Type}{enc:D->I}{el B:Nat}{F:Nat->Prop}{h:J}{v:I}{ds:List D}(a4:cC (λd=>[enc d]) 1 el B h v ds)(fP:∀b n cp,v=.slice b 0 n cp->F b):km F h v (ds.map enc):=by
 rcases a4 with⟨rfl,rfl⟩|⟨b,rfl,ad,ar,aG,bJ⟩
 · exact .inl ⟨rfl,rfl⟩
 · refine .inr ⟨b,0,.a1 1,by rw[List.length_map],fP b _ _ rfl,λi af=>?_,by rw[List.length_map];exact ad,by simp,rfl⟩
   have e:=kn enc ds
   rw[e] at ar
   exact l8 ar (by rw[List.getElem?_eq_getElem (by simpa using af)];simp)
theorem Gm{D:Type}{P:Program}{enc:D->List I}{w:Nat}{el sT:TypeId}(T:k7 P enc w el sT){B:Nat}{h:J}{v src:I}{ds:List D}{d:D}(a4:cC enc w el B h v ds)(cM:B<=h.n)(hs:fV h w src=some (1,enc d))(aw:ds.length+1<=1000000):
  ∃an,dt P h sT (some sT) v src=some (.slice h.n 0 (ds++[d]).length (.a1 w),an)/\an.get h.n=some (.cells (dR enc (ds++[d])) el .a1 0 0)/\an.n=h.n+1/\Ext B h an/\∀c,c<h.n->(∀n cp,v≠ .slice c 0 n cp)->an.get c=h.get c:=by
 have dv:fV h w src=some ([d].length,dR enc [d]):=by rw[hs];simp[dR]
 rcases a4 with⟨rfl,rfl⟩|⟨p,rfl,ad,ar,aG,bJ⟩
 · rw[List.nil_append]
   exact⟨_,Kq T dv (by simp) (by simp),fo rfl,by simp,Ext.kG cM (Ext.refl _ _),λc ag _=>l7 ag rfl⟩
 · refine⟨_,by rw[List.length_append];exact Kr T ar dv (by simp) (by simpa using aw),fo (by simp),by simp,?_,λc ag hw=>?_⟩
   · exact Ext.kG (by simp;omega) (Ext.iX aG (Ext.refl _ _))
   · exact l7 (by simpa using ag) (dM (λe=>hw _ _ (by rw[e])) rfl)
theorem cC.YE{D:Type}{enc:D->List I}{w el B:Nat}{h g:J}{v:I}{ds:List D}(a4:cC enc w el B h v ds)(aN:h.n<=g.n)(aq:∀d,B<=d->d<h.n->g.get d=h.get d):cC enc w el B g v ds:=by
 rcases a4 with a4|⟨q,rfl,ad,ar,aG,bJ⟩
 · exact .inl a4
 · exact .inr ⟨q,rfl,ad,(aq q aG bJ).trans ar,aG,by omega⟩
end Go.Proofs.dj
namespace Go.Proofs.dj
open Go aP Go.Proofs c8 Go.Proofs.cG
set_option maxRecDepth 100000
set_option maxHeartbeats 1000000
theorem YF(m:Nat)(c:Nat)(n:Nat)(h:J){R:av->Prop}(H:∃v1:I,au h c (0+0)=some v1/\∃aD:Nat,cc Tryz.prog h 27 v1=some (.int .i64 (.ofNat aD))/\(aD=0->R (.ret (.int .i64 (.ofNat 0)) h))/\(¬aD=0->∃bj:Nat,∃bD:Nat,∃bT:Nat,∃aH:b3,au h c (0+0)=some (.slice bj bD bT aH)/\0<bT/\∃b5:Nat,au h bj (bD+0*1)=some (.int .u8 (.ofNat b5))/\∃cx:Nat,iR Tryz.prog 5 3 (.int .u8 (.ofNat b5)) h=jg.val (.int .i64 (.ofNat cx)) h/\∃da:Nat,arith .rem .i64 (.ofNat cx) (.ofNat n)=some (.int .i64 (.ofNat da))/\∃et:Nat,∃eO:Nat,∃gf:Nat,∃a9:b3,au h c (0+0)=some (.slice et eO gf a9)/\∃v2:I,di Tryz.prog h 27 (.slice et eO gf a9) (some (.int .i64 (.ofNat 1))) none none=some v2/\I.cT v2=true/\∃ai:J,aP.storeCells h c (0+0) [v2]=some ai/\R (.ret (.int .i64 (.ofNat da)) ai))):
  R (Y (m+1) (.fn 48) [.ptr c 0,.int .i64 (.ofNat n)] h):=
 dI (intr:=b0) [(15,.bA .fY),(25,.bA .fY)] [(0,.v (.ptr c 0)),(1,.v (.int .i64 (.ofNat n)))] Tryz.func48 (by kernel_rfl) (by kernel_rfl) (by kernel_rfl) rfl (Eq.mp (by kernel_rfl) H)
theorem YG(m:Nat)(b:Nat)(off:Nat)(N:Nat)(cp:b3)(h:J){R:av->Prop}(H:a3 Tryz.prog Tryz.f75 (Y m) [1,0,1,0] (ah.mk [(0,.slice b off N cp),(3,.int .i64 (.ofNat 0))] [] .none h) (λb9 cj=>((∃ai:J,∃bz:Env,b9=.exit 0/\cj=ah.mk bz [] .none ai/\b_ [] bz/\R (.ret (.bool true) ai))\/(∃ax:J,∃bR:Env,b9=.ret/\cj=ah.mk bR [] .none ax/\b_ [(2,.bool false)] bR/\R (.ret (.bool false) ax))))):
  R (Y (m+1) (.fn 75) [.slice b off N cp] h):=
 dI (intr:=b0) [(4000,.gT [0,3] [(.exit 0,[]),(.ret,[(2,.is (.bool false))])])] [(0,.v (.slice b off N cp))] Tryz.func75 (by kernel_rfl) (by kernel_rfl) (by kernel_rfl) rfl (Eq.mp (by kernel_rfl) H)
theorem YH(call:aI->List I->J->av)(b:Nat)(off:Nat)(N:Nat)(i:Nat)(cp:b3)(h:J){Q:bn->ah->Prop}(H:(i<N->i<N/\∃aD:Nat,au h b (off+i*1)=some (.ptr aD 0)/\∃bj:Nat,∃ai:J,call (.fn 28) [.ptr aD 0] h=.ret (.int .i64 (.ofNat bj)) ai/\(bj=0->i+1<9223372036854775808/\Q .nrm (ah.mk [(0,.slice b off N cp),(3,.int .i64 (.ofNat (i+1)))] [] .none ai))/\(¬bj=0->Q .ret (ah.mk [(0,.slice b off N cp),(2,.bool false),(3,.int .i64 (.ofNat i))] [] .none ai)))/\(¬i<N->Q (.exit 0) (ah.mk [(0,.slice b off N cp),(3,.int .i64 (.ofNat i))] [] .none h))):
  a3 Tryz.prog Tryz.f75 call [1,0,1,0,0] ⟨[(0,.slice b off N cp),(3,.int .i64 (.ofNat i))],[],.none,h⟩ Q:=
 dB [] [0,2,3] [(0,.v (.slice b off N cp)),(3,.v (.int .i64 (.ofNat i)))] rfl (Eq.mp (by kernel_rfl) H)
theorem YI(m:Nat)(r:Nat)(h:J){R:av->Prop}(H:∃aD:Nat,∃ai:J,(Y m) (.fn 52) [.ptr r 0] h=.ret (.int .i64 (.ofNat aD)) ai/\(60<aD->R (.ret (.aQ [.bb,.int .i64 (.ofNat 3)]) ai))/\(¬60<aD->R (.ret (.aQ [.ptr r 0,.int .i64 (.ofNat 0)]) ai))):
  R (Y (m+1) (.fn 78) [.ptr r 0] h):=
 dI (intr:=b0) [] [(0,.v (.ptr r 0))] Tryz.func78 (by kernel_rfl) (by kernel_rfl) (by kernel_rfl) rfl (Eq.mp (by kernel_rfl) H)
theorem YJ(m:Nat)(nb:Nat)(N:Nat)(b:Nat)(nc:b3)(cp:b3)(h:J){R:av->Prop}(H:(N=N->∃bo:Bool,∃ai:J,(Y m) (.fn 75) [.slice b 0 N cp] h=.ret (.bool bo) ai/\bo=true/\a3 Tryz.prog Tryz.f49 (Y m) [1,1,1,0,1,0] (ah.mk [(0,.slice nb 0 N nc),(1,.slice b 0 N cp),(6,.ptr ai.n 0),(7,.int .i64 (.ofNat 0))] [] .none (J.push ai (.cells [.int .i64 (.ofNat 7),.str [],.a0,.a0,.bb] 80 .own 0 0))) (λb9 cj=>∃aD:Nat,∃ax:J,∃bz:Env,b9=.exit 0/\cj=ah.mk bz [] .none ax/\b_ [(6,.ptr aD 0)] bz/\∃v1:I,∃bj:Nat,∃aB:J,(Y m) (.fn 78) [.ptr aD 0] ax=.ret (.aQ [v1,.int .i64 (.ofNat bj)]) aB/\R (.ret (.aQ [v1,.int .i64 (.ofNat bj)]) aB)))/\(¬N=N->R (.ret (.aQ [.bb,.int .i64 (.ofNat 2)]) h))):
  R (Y (m+1) (.fn 49) [.slice nb 0 N nc,.slice b 0 N cp] h):=
 dI (intr:=b0) [(1020,.f),(132,.bA (.fL [.o,.n .i64])),(4000,.gT [0,1,6,7] [(.exit 0,[(6,.p)])])] [(0,.v (.slice nb 0 N nc)),(1,.v (.slice b 0 N cp))] Tryz.func49 (by kernel_rfl) (by kernel_rfl) (by kernel_rfl) rfl (Eq.mp (by kernel_rfl) H)
theorem YK(call:aI->List I->J->av)(nb:Nat)(N:Nat)(b:Nat)(R:Nat)(i:Nat)(nc:b3)(cp:b3)(h:J){Q:bn->ah->Prop}(H:(i<N->i<N/\∃s1:List UInt8,au h nb (0+i*1)=some (.str s1)/\∃bo:Bool,∃ai:J,call (.fn 76) [.str s1] h=.ret (.bool bo) ai/\bo=true/\a3 Tryz.prog Tryz.f49 call [1,1,1,0,1,0,0,1,0,0,1,1,0,0] (ah.mk [(0,.slice nb 0 N nc),(1,.slice b 0 N cp),(6,.ptr R 0),(7,.int .i64 (.ofNat i)),(8,.int .i64 (.ofNat 0))] [] .none ai) (λb9 cj=>∃aD:Nat,∃ax:J,∃bz:Env,b9=.exit 2/\cj=ah.mk bz [] .none ax/\b_ [(0,.slice nb 0 N nc),(1,.slice b 0 N cp),(6,.ptr R 0),(7,.int .i64 (.ofNat i)),(8,.int .i64 (.ofNat aD))] bz/\∃v1:I,au (ax.room 21) R (0+2)=some v1/\∃bj:Nat,cc Tryz.prog (ax.room 21) 63 v1=some (.int .i64 (.ofNat bj))/\¬aD<bj/\I.sound v1=true/\∃v2:I,au (ax.room 21) R (0+2)=some v2/\∃dc:I,di Tryz.prog (ax.room 21) 63 v2 none (some (.int .i64 (.ofNat aD))) none=some dc/\∃v4:I,∃aB:J,dt Tryz.prog (ax.room 21) 63 (some 63) .a0 dc=some (v4,aB)/\i<N/\∃s2:List UInt8,au aB nb (0+i*1)=some (.str s2)/\∃fM:I,∃bE:J,dt Tryz.prog (J.push aB (.cells [.str s2] 9 .own 0 0)) 63 (some 63) v4 (.slice aB.n 0 1 (.exact 1))=some (fM,bE)/\∃v6:I,au bE R (0+2)=some v6/\∃ic:I,di Tryz.prog bE 63 v6 (some (.int .i64 (.ofNat aD))) none none=some ic/\∃ht:I,∃bS:J,dt Tryz.prog bE 63 (some 63) fM ic=some (ht,bS)/\I.cT ht=true/\∃dC:J,aP.storeCells bS R (0+2) [ht]=some dC/\∃su:I,au dC R (0+3)=some su/\∃v10:I,di Tryz.prog dC 50 su none (some (.int .i64 (.ofNat aD))) none=some v10/\∃v11:I,∃eY:J,dt Tryz.prog dC 50 (some 50) .a0 v10=some (v11,eY)/\i<N/\∃bD:Nat,au eY b (0+i*1)=some (.ptr bD 0)/\∃M5:I,∃fZ:J,dt Tryz.prog (J.push eY (.cells [.ptr bD 0] 35 .own 0 0)) 50 (some 50) v11 (.slice eY.n 0 1 (.exact 1))=some (M5,fZ)/\∃M6:I,au fZ R (0+3)=some M6/\∃M7:I,di Tryz.prog fZ 50 M6 (some (.int .i64 (.ofNat aD))) none none=some M7/\∃Gn:I,∃jO:J,dt Tryz.prog fZ 50 (some 50) M5 M7=some (Gn,jO)/\I.cT Gn=true/\∃mn:J,aP.storeCells jO R (0+3) [Gn]=some mn/\i+1<9223372036854775808/\Q .nrm (ah.mk [(0,.slice nb 0 N nc),(1,.slice b 0 N cp),(6,.ptr R 0),(7,.int .i64 (.ofNat (i+1)))] [] .none mn)))/\(¬i<N->Q (.exit 0) (ah.mk [(0,.slice nb 0 N nc),(1,.slice b 0 N cp),(6,.ptr R 0),(7,.int .i64 (.ofNat i))] [] .none h))):
  a3 Tryz.prog Tryz.f49 call [1,1,1,0,1,0,0] ⟨[(0,.slice nb 0 N nc),(1,.slice b 0 N cp),(6,.ptr R 0),(7,.int .i64 (.ofNat i))],[],.none,h⟩ Q:=
 dB [(1034,.f),(1078,.f),(1066,.f),(4002,.gT [0,1,6,7,8] [(.exit 2,[(0,.is (.slice nb 0 N nc)),(1,.is (.slice b 0 N cp)),(6,.is (.ptr R 0)),(7,.is (.int .i64 (.ofNat i))),(8,.n .i64)])])] [0,1,6,7] [(0,.v (.slice nb 0 N nc)),(1,.v (.slice b 0 N cp)),(6,.v (.ptr R 0)),(7,.v (.int .i64 (.ofNat i)))] rfl (Eq.mp (by kernel_rfl) H)
theorem YL(call:aI->List I->J->av)(nb:Nat)(N:Nat)(b:Nat)(R:Nat)(i:Nat)(j:Nat)(nc:b3)(cp:b3)(h:J){Q:bn->ah->Prop}(H:∃v1:I,au (h.room 21) R (0+2)=some v1/\∃aD:Nat,cc Tryz.prog (h.room 21) 63 v1=some (.int .i64 (.ofNat aD))/\(j<aD->∃bj:Nat,∃bD:Nat,∃bT:Nat,∃aH:b3,au (h.room 21) R (0+2)=some (.slice bj bD bT aH)/\j<bT/\∃s1:List UInt8,au (h.room 21) bj (bD+j*1)=some (.str s1)/\i<N/\∃s2:List UInt8,au (h.room 21) nb (0+i*1)=some (.str s2)/\∃bo:Bool,∃ai:J,call (.fn 77) [.str s1,.str s2] (h.room 21)=.ret (.bool bo) ai/\I.sound v1=true/\(bo=true->j+1<9223372036854775808/\Q .nrm (ah.mk [(0,.slice nb 0 N nc),(1,.slice b 0 N cp),(6,.ptr R 0),(7,.int .i64 (.ofNat i)),(8,.int .i64 (.ofNat (j+1)))] [] .none ai))/\(bo=false->Q (.exit 2) (ah.mk [(0,.slice nb 0 N nc),(1,.slice b 0 N cp),(6,.ptr R 0),(7,.int .i64 (.ofNat i)),(8,.int .i64 (.ofNat j))] [] .none ai)))/\(¬j<aD->I.sound v1=true/\Q (.exit 2) (ah.mk [(0,.slice nb 0 N nc),(1,.slice b 0 N cp),(6,.ptr R 0),(7,.int .i64 (.ofNat i)),(8,.int .i64 (.ofNat j))] [] .none (h.room 21)))):
  a3 Tryz.prog Tryz.f49 call [1,1,1,0,1,0,0,1,0,0,1,1,0,0,0] ⟨[(0,.slice nb 0 N nc),(1,.slice b 0 N cp),(6,.ptr R 0),(7,.int .i64 (.ofNat i)),(8,.int .i64 (.ofNat j))],[],.none,h⟩ Q:=
 dB [(46,.bA .fY)] [0,1,6,7,8] [(0,.v (.slice nb 0 N nc)),(1,.v (.slice b 0 N cp)),(6,.v (.ptr R 0)),(7,.v (.int .i64 (.ofNat i))),(8,.v (.int .i64 (.ofNat j)))] rfl (Eq.mp (by kernel_rfl) H)
theorem YM(m:Nat)(b:Nat)(off:Nat)(N:Nat)(r:Nat)(cp:b3)(h:J){R:av->Prop}(H:∃bo:Bool,∃ai:J,(Y m) (.fn 75) [.slice b off N cp] h=.ret (.bool bo) ai/\(bo=true->∃aD:Nat,∃ax:J,(Y m) (.fn 28) [.ptr r 0] ai=.ret (.int .i64 (.ofNat aD)) ax/\aD=0/\∃v1:I,au (J.push ax (.cells [.int .i64 (.ofNat 8),.str [],.a0,.a0,.ptr r 0] 80 .own 0 0)) ax.n (0+3)=some v1/\∃v2:I,∃aB:J,dt Tryz.prog (J.push ax (.cells [.int .i64 (.ofNat 8),.str [],.a0,.a0,.ptr r 0] 80 .own 0 0)) 50 (some 50) v1 (.slice b off N cp)=some (v2,aB)/\I.cT v2=true/\∃bE:J,aP.storeCells aB ax.n (0+3) [v2]=some bE/\∃dc:I,∃bj:Nat,∃bS:J,(Y m) (.fn 78) [.ptr ax.n 0] bE=.ret (.aQ [dc,.int .i64 (.ofNat bj)]) bS/\R (.ret (.aQ [dc,.int .i64 (.ofNat bj)]) bS))/\(bo=false->R (.ret (.aQ [.bb,.int .i64 (.ofNat 2)]) ai))):
  R (Y (m+1) (.fn 50) [.slice b off N cp,.ptr r 0] h):=
 dI (intr:=b0) [(1014,.f),(28,.bA (.fL [.o,.n .i64]))] [(0,.v (.slice b off N cp)),(1,.v (.ptr r 0))] Tryz.func50 (by kernel_rfl) (by kernel_rfl) (by kernel_rfl) rfl (Eq.mp (by kernel_rfl) H)
theorem YN(m:Nat)(b:Nat)(off:Nat)(N:Nat)(cp:b3)(h:J){R:av->Prop}(H:(N=0->R (.ret (.aQ [.bb,.int .i64 (.ofNat 2)]) h))/\(¬N=0->∃bo:Bool,∃ai:J,(Y m) (.fn 75) [.slice b off N cp] h=.ret (.bool bo) ai/\bo=true/\a3 Tryz.prog Tryz.f51 (Y m) [1,1,1,0,1,0] (ah.mk [(0,.slice b off N cp),(4,.a0),(5,.int .i64 (.ofNat 0))] [] .none ai) (λb9 cj=>((∃aD:Nat,∃bj:Nat,∃bD:Nat,∃aH:b3,∃ax:J,∃bz:Env,b9=.exit 0/\cj=ah.mk bz [] .none ax/\b_ [(4,.slice aD bj bD aH)] bz/\a3 Tryz.prog Tryz.f51 (Y m) [1,1,1,1,1,0,1,0] (ah.mk [(4,.slice aD bj bD aH),(6,.a0),(7,.int .i64 (.ofNat 0))] [] .none ax) (λb9 cj=>∃bT:Nat,∃b5:Nat,∃cx:Nat,∃a9:b3,∃aB:J,∃bR:Env,b9=.exit 2/\cj=ah.mk bR [] .none aB/\b_ [(6,.slice bT b5 cx a9)] bR/\(cx=1->0<cx/\∃da:Nat,au aB bT (b5+0*1)=some (.ptr da 0)/\R (.ret (.aQ [.ptr da 0,.int .i64 (.ofNat 0)]) aB))/\(¬cx=1->∃v1:I,∃et:Nat,∃bE:J,(Y m) (.fn 78) [.ptr aB.n 0] (J.push aB (.cells [.int .i64 (.ofNat 9),.str [],.a0,.slice bT b5 cx a9,.bb] 80 .own 0 0))=.ret (.aQ [v1,.int .i64 (.ofNat et)]) bE/\R (.ret (.aQ [v1,.int .i64 (.ofNat et)]) bE))))\/(∃eO:Nat,∃bS:J,∃cU:Env,b9=.ret/\cj=ah.mk cU [] .none bS/\b_ [(2,.ptr eO 0),(3,.int .i64 (.ofNat 0))] cU/\R (.ret (.aQ [.ptr eO 0,.int .i64 (.ofNat 0)]) bS)))))):
  R (Y (m+1) (.fn 51) [.slice b off N cp] h):=
 dI (intr:=b0) [(1017,.f),(4000,.gT [0,4,5] [(.exit 0,[(4,.fY)]),(.ret,[(2,.p),(3,.is (.int .i64 (.ofNat 0)))])]),(4002,.gT [4,6,7] [(.exit 2,[(6,.fY)])]),(126,.bA (.fL [.o,.n .i64]))] [(0,.v (.slice b off N cp))] Tryz.func51 (by kernel_rfl) (by kernel_rfl) (by kernel_rfl) rfl (Eq.mp (by kernel_rfl) H)
theorem YO(call:aI->List I->J->av)(b:Nat)(off:Nat)(N:Nat)(i:Nat)(cp:b3)(w:I)(h:J){Q:bn->ah->Prop}(H:(i<N->i<N/\∃aD:Nat,au h b (off+i*1)=some (.ptr aD 0)/\∃bj:Nat,au h aD (0+0)=some (.int .i64 (.ofNat bj))/\(bj=1->Q .ret (ah.mk [(0,.slice b off N cp),(2,.ptr h.n 0),(3,.int .i64 (.ofNat 0)),(4,w),(5,.int .i64 (.ofNat i))] [] .none (J.push h (.cells [.int .i64 (.ofNat 1),.str [],.a0,.a0,.bb] 80 .own 0 0))))/\(¬bj=1->i<N/\∃bD:Nat,au h b (off+i*1)=some (.ptr bD 0)/\∃bT:Nat,au h bD (0+0)=some (.int .i64 (.ofNat bT))/\(bT=9->i<N/\∃b5:Nat,au h b (off+i*1)=some (.ptr b5 0)/\∃v1:I,au h b5 (0+3)=some v1/\∃v2:I,∃ai:J,dt Tryz.prog h 50 (some 50) w v1=some (v2,ai)/\i+1<9223372036854775808/\Q .nrm (ah.mk [(0,.slice b off N cp),(4,v2),(5,.int .i64 (.ofNat (i+1)))] [] .none ai))/\(¬bT=9->i<N/\∃cx:Nat,au h b (off+i*1)=some (.ptr cx 0)/\∃dc:I,∃ax:J,dt Tryz.prog (J.push h (.cells [.ptr cx 0] 35 .own 0 0)) 50 (some 50) w (.slice h.n 0 1 (.exact 1))=some (dc,ax)/\i+1<9223372036854775808/\Q .nrm (ah.mk [(0,.slice b off N cp),(4,dc),(5,.int .i64 (.ofNat (i+1)))] [] .none ax))))/\(¬i<N->Q (.exit 0) (ah.mk [(0,.slice b off N cp),(4,w),(5,.int .i64 (.ofNat i))] [] .none h))):
  a3 Tryz.prog Tryz.f51 call [1,1,1,0,1,0,0] ⟨[(0,.slice b off N cp),(4,w),(5,.int .i64 (.ofNat i))],[],.none,h⟩ Q:=
 dB [] [0,2,3,4,5] [(0,.v (.slice b off N cp)),(4,.o w),(5,.v (.int .i64 (.ofNat i)))] rfl (Eq.mp (by kernel_rfl) H)
theorem YP(call:aI->List I->J->av)(b:Nat)(N:Nat)(cw:Nat)(M:Nat)(i:Nat)(cp:b3)(fG:b3)(h:J){Q:bn->ah->Prop}(H:(i<N->a3 Tryz.prog Tryz.f51 call [1,1,1,1,1,0,1,0,0,1,0,0,1,0,0] (ah.mk [(4,.slice b 0 N cp),(6,.slice cw 0 M fG),(7,.int .i64 (.ofNat i)),(8,.int .i64 (.ofNat 0))] [] .none h) (λb9 cj=>∃aD:Nat,∃ai:J,∃bz:Env,b9=.exit 4/\cj=ah.mk bz [] .none ai/\b_ [(4,.slice b 0 N cp),(6,.slice cw 0 M fG),(7,.int .i64 (.ofNat i)),(8,.int .i64 (.ofNat aD))] bz/\(aD<M->aD<M/\∃bj:Nat,au (ai.room 17) cw (0+aD*1)=some (.ptr bj 0)/\∃s1:List UInt8,∃ax:J,call (.fn 79) [.ptr bj 0] (ai.room 17)=.ret (.str s1) ax/\i<N/\∃bD:Nat,au ax b (0+i*1)=some (.ptr bD 0)/\∃s2:List UInt8,∃aB:J,call (.fn 79) [.ptr bD 0] ax=.ret (.str s2) aB/\au (ai.room 17) b (0+i*1)=some (.ptr bD 0)/\(dK s1 s2=true->i+1<9223372036854775808/\Q .nrm (ah.mk [(4,.slice b 0 N cp),(6,.slice cw 0 M fG),(7,.int .i64 (.ofNat (i+1)))] [] .none aB))/\(dK s1 s2=false->∃v1:I,di Tryz.prog aB 50 (.slice cw 0 M fG) none (some (.int .i64 (.ofNat aD))) none=some v1/\∃v2:I,∃bE:J,dt Tryz.prog aB 50 (some 50) .a0 v1=some (v2,bE)/\i<N/\∃bT:Nat,au bE b (0+i*1)=some (.ptr bT 0)/\∃dc:I,∃bS:J,dt Tryz.prog (J.push bE (.cells [.ptr bT 0] 35 .own 0 0)) 50 (some 50) v2 (.slice bE.n 0 1 (.exact 1))=some (dc,bS)/\∃v4:I,di Tryz.prog bS 50 (.slice cw 0 M fG) (some (.int .i64 (.ofNat aD))) none none=some v4/\∃fM:I,∃dC:J,dt Tryz.prog bS 50 (some 50) dc v4=some (fM,dC)/\i+1<9223372036854775808/\Q .nrm (ah.mk [(4,.slice b 0 N cp),(6,fM),(7,.int .i64 (.ofNat (i+1)))] [] .none dC)))/\(¬aD<M->∃v6:I,di Tryz.prog (ai.room 17) 50 (.slice cw 0 M fG) none (some (.int .i64 (.ofNat aD))) none=some v6/\∃ic:I,∃eY:J,dt Tryz.prog (ai.room 17) 50 (some 50) .a0 v6=some (ic,eY)/\i<N/\∃b5:Nat,au eY b (0+i*1)=some (.ptr b5 0)/\∃ht:I,∃fZ:J,dt Tryz.prog (J.push eY (.cells [.ptr b5 0] 35 .own 0 0)) 50 (some 50) ic (.slice eY.n 0 1 (.exact 1))=some (ht,fZ)/\∃su:I,di Tryz.prog fZ 50 (.slice cw 0 M fG) (some (.int .i64 (.ofNat aD))) none none=some su/\∃v10:I,∃jO:J,dt Tryz.prog fZ 50 (some 50) ht su=some (v10,jO)/\i+1<9223372036854775808/\Q .nrm (ah.mk [(4,.slice b 0 N cp),(6,v10),(7,.int .i64 (.ofNat (i+1)))] [] .none jO))))/\(¬i<N->Q (.exit 2) (ah.mk [(4,.slice b 0 N cp),(6,.slice cw 0 M fG),(7,.int .i64 (.ofNat i))] [] .none h))):
  a3 Tryz.prog Tryz.f51 call [1,1,1,1,1,0,1,0,0] ⟨[(4,.slice b 0 N cp),(6,.slice cw 0 M fG),(7,.int .i64 (.ofNat i))],[],.none,h⟩ Q:=
 dB [(4004,.gT [4,6,7,8] [(.exit 4,[(4,.is (.slice b 0 N cp)),(6,.is (.slice cw 0 M fG)),(7,.is (.int .i64 (.ofNat i))),(8,.n .i64)])])] [4,6,7] [(4,.v (.slice b 0 N cp)),(6,.v (.slice cw 0 M fG)),(7,.v (.int .i64 (.ofNat i)))] rfl (Eq.mp (by kernel_rfl) H)
theorem YQ(call:aI->List I->J->av)(b:Nat)(N:Nat)(i:Nat)(cp:b3)(h:J){Q:bn->ah->Prop}(H:(i<N->a3 Tryz.prog Tryz.f51 call [1,1,1,1,1,0,1,0,0,1,0,0,1,0,0] (ah.mk [(4,.slice b 0 N cp),(6,.a0),(7,.int .i64 (.ofNat i)),(8,.int .i64 (.ofNat 0))] [] .none h) (λb9 cj=>∃aD:Nat,∃ai:J,∃bz:Env,b9=.exit 4/\cj=ah.mk bz [] .none ai/\b_ [(4,.slice b 0 N cp),(6,.a0),(7,.int .i64 (.ofNat i)),(8,.int .i64 (.ofNat aD))] bz/\¬aD<0/\∃v1:I,di Tryz.prog (ai.room 17) 50 .a0 none (some (.int .i64 (.ofNat aD))) none=some v1/\∃v2:I,∃ax:J,dt Tryz.prog (ai.room 17) 50 (some 50) .a0 v1=some (v2,ax)/\i<N/\∃bj:Nat,au ax b (0+i*1)=some (.ptr bj 0)/\∃dc:I,∃aB:J,dt Tryz.prog (J.push ax (.cells [.ptr bj 0] 35 .own 0 0)) 50 (some 50) v2 (.slice ax.n 0 1 (.exact 1))=some (dc,aB)/\∃v4:I,di Tryz.prog aB 50 .a0 (some (.int .i64 (.ofNat aD))) none none=some v4/\∃fM:I,∃bE:J,dt Tryz.prog aB 50 (some 50) dc v4=some (fM,bE)/\i+1<9223372036854775808/\Q .nrm (ah.mk [(4,.slice b 0 N cp),(6,fM),(7,.int .i64 (.ofNat (i+1)))] [] .none bE)))/\(¬i<N->Q (.exit 2) (ah.mk [(4,.slice b 0 N cp),(6,.a0),(7,.int .i64 (.ofNat i))] [] .none h))):
  a3 Tryz.prog Tryz.f51 call [1,1,1,1,1,0,1,0,0] ⟨[(4,.slice b 0 N cp),(6,.a0),(7,.int .i64 (.ofNat i))],[],.none,h⟩ Q:=
 dB [(1088,.f),(4004,.gT [4,6,7,8] [(.exit 4,[(4,.is (.slice b 0 N cp)),(6,.is .a0),(7,.is (.int .i64 (.ofNat i))),(8,.n .i64)])])] [4,6,7] [(4,.v (.slice b 0 N cp)),(6,.v .a0),(7,.v (.int .i64 (.ofNat i)))] rfl (Eq.mp (by kernel_rfl) H)
theorem YR(call:aI->List I->J->av)(b:Nat)(N:Nat)(cw:Nat)(M:Nat)(i:Nat)(j:Nat)(cp:b3)(fG:b3)(h:J){Q:bn->ah->Prop}(H:(j<M->j<M/\∃aD:Nat,au (h.room 17) cw (0+j*1)=some (.ptr aD 0)/\∃s1:List UInt8,∃ai:J,call (.fn 79) [.ptr aD 0] (h.room 17)=.ret (.str s1) ai/\i<N/\∃bj:Nat,au ai b (0+i*1)=some (.ptr bj 0)/\∃s2:List UInt8,∃ax:J,call (.fn 79) [.ptr bj 0] ai=.ret (.str s2) ax/\∃bo:Bool,∃aB:J,call (.fn 77) [.str s1,.str s2] ax=.ret (.bool bo) aB/\au (h.room 17) b (0+i*1)=some (.ptr bj 0)/\(bo=true->j+1<9223372036854775808/\Q .nrm (ah.mk [(4,.slice b 0 N cp),(6,.slice cw 0 M fG),(7,.int .i64 (.ofNat i)),(8,.int .i64 (.ofNat (j+1)))] [] .none aB))/\(bo=false->Q (.exit 4) (ah.mk [(4,.slice b 0 N cp),(6,.slice cw 0 M fG),(7,.int .i64 (.ofNat i)),(8,.int .i64 (.ofNat j))] [] .none aB)))/\(¬j<M->Q (.exit 4) (ah.mk [(4,.slice b 0 N cp),(6,.slice cw 0 M fG),(7,.int .i64 (.ofNat i)),(8,.int .i64 (.ofNat j))] [] .none (h.room 17)))):
  a3 Tryz.prog Tryz.f51 call [1,1,1,1,1,0,1,0,0,1,0,0,1,0,0,0] ⟨[(4,.slice b 0 N cp),(6,.slice cw 0 M fG),(7,.int .i64 (.ofNat i)),(8,.int .i64 (.ofNat j))],[],.none,h⟩ Q:=
 dB [] [4,6,7,8] [(4,.v (.slice b 0 N cp)),(6,.v (.slice cw 0 M fG)),(7,.v (.int .i64 (.ofNat i))),(8,.v (.int .i64 (.ofNat j)))] rfl (Eq.mp (by kernel_rfl) H)
theorem YS(call:aI->List I->J->av)(b:Nat)(N:Nat)(i:Nat)(cp:b3)(h:J){Q:bn->ah->Prop}(H:¬0<0/\Q (.exit 4) (ah.mk [(4,.slice b 0 N cp),(6,.a0),(7,.int .i64 (.ofNat i)),(8,.int .i64 (.ofNat 0))] [] .none (h.room 17))):
  a3 Tryz.prog Tryz.f51 call [1,1,1,1,1,0,1,0,0,1,0,0,1,0,0,0] ⟨[(4,.slice b 0 N cp),(6,.a0),(7,.int .i64 (.ofNat i)),(8,.int .i64 (.ofNat 0))],[],.none,h⟩ Q:=
 dB [(1069,.f)] [4,6,7,8] [(4,.v (.slice b 0 N cp)),(6,.v .a0),(7,.v (.int .i64 (.ofNat i))),(8,.v (.int .i64 (.ofNat 0)))] rfl (Eq.mp (by kernel_rfl) H)
theorem M8(call:aI->List I->J->av)(c:Nat)(d:Nat)(h:J){Q:bn->ah->Prop}(H:∃aD:Nat,au h c (0+1)=some (.int .i64 (.ofNat aD))/\aD+1<9223372036854775808/\∃ai:J,aP.storeCells h c (0+1) [.int .i64 (.ofNat (aD+1))]=some ai/\Q .nrm (ah.mk [(0,.ptr c 0),(1,.int .i64 (.ofNat d))] [] .none ai)):
  a3 Tryz.prog Tryz.f27 call [1,0] ⟨[(0,.ptr c 0),(1,.int .i64 (.ofNat d))],[],.none,h⟩ Q:=
 dB [] [0,1] [(0,.v (.ptr c 0)),(1,.v (.int .i64 (.ofNat d)))] rfl (Eq.mp (by kernel_rfl) H)
theorem M9(call:aI->List I->J->av)(c:Nat)(d:Nat)(h:J){Q:bn->ah->Prop}(H:∃aD:Nat,∃ai:J,call (.fn 48) [.ptr c 0,.int .i64 (.ofNat 9)] h=.ret (.int .i64 (.ofNat aD)) ai/\1+aD<9223372036854775808/\Q .nrm (ah.mk [(0,.ptr c 0),(1,.int .i64 (.ofNat d)),(5,.int .i64 (.ofNat (1+aD)))] [] .none ai)):
  a3 Tryz.prog Tryz.f27 call [1,1,0] ⟨[(0,.ptr c 0),(1,.int .i64 (.ofNat d))],[],.none,h⟩ Q:=
 dB [] [0,1,5] [(0,.v (.ptr c 0)),(1,.v (.int .i64 (.ofNat d)))] rfl (Eq.mp (by kernel_rfl) H)
theorem M_(call:aI->List I->J->av)(c:Nat)(d:Nat)(k:Nat)(h:J){Q:bn->ah->Prop}(H:(d<1->∃aD:Nat,∃ai:J,call (.fn 48) [.ptr c 0,.int .i64 (.ofNat 5)] h=.ret (.int .i64 (.ofNat aD)) ai/\1+aD<9223372036854775808/\Q .nrm (ah.mk [(0,.ptr c 0),(1,.int .i64 (.ofNat d)),(5,.int .i64 (.ofNat (1+aD)))] [] .none ai))/\(¬d<1->∃bj:Nat,au h c (0+1)=some (.int .i64 (.ofNat bj))/\(40<bj->∃bD:Nat,∃ax:J,call (.fn 48) [.ptr c 0,.int .i64 (.ofNat 5)] h=.ret (.int .i64 (.ofNat bD)) ax/\1+bD<9223372036854775808/\Q .nrm (ah.mk [(0,.ptr c 0),(1,.int .i64 (.ofNat d)),(5,.int .i64 (.ofNat (1+bD)))] [] .none ax))/\(¬40<bj->Q .nrm (ah.mk [(0,.ptr c 0),(1,.int .i64 (.ofNat d)),(5,.int .i64 (.ofNat k))] [] .none h)))):
  a3 Tryz.prog Tryz.f27 call [1,1,1,0] ⟨[(0,.ptr c 0),(1,.int .i64 (.ofNat d)),(5,.int .i64 (.ofNat k))],[],.none,h⟩ Q:=
 dB [] [0,1,5] [(0,.v (.ptr c 0)),(1,.v (.int .i64 (.ofNat d))),(5,.v (.int .i64 (.ofNat k)))] rfl (Eq.mp (by kernel_rfl) H)
theorem YT(call:aI->List I->J->av)(c:Nat)(d:Nat)(k:Nat)(h:J){Q:bn->ah->Prop}(H:∃aD:Nat,∃ai:J,call (.fn 48) [.ptr c 0,.int .i64 (.ofNat 3)] (J.push h (.cells [.int .i64 (.ofNat k),.str [],.a0,.a0,.bb] 80 .own 0 0))=.ret (.int .i64 (.ofNat aD)) ai/\aD+1<9223372036854775808/\a3 Tryz.prog Tryz.f27 call [1,1,1,1,1,1,0,1,0] (ah.mk [(0,.ptr c 0),(1,.int .i64 (.ofNat d)),(5,.int .i64 (.ofNat k)),(6,.ptr h.n 0),(7,.a0),(8,.int .i64 (.ofNat (aD+1)))] [] .none ai) (λb9 cj=>∃bj:Nat,∃ax:J,∃bz:Env,b9=.exit 0/\cj=ah.mk bz [] .none ax/\b_ [(0,.ptr c 0),(5,.int .i64 (.ofNat k)),(6,.ptr bj 0),(7,.a0)] bz/\(k=6->∃bD:Nat,∃aB:J,call (.fn 48) [.ptr c 0,.int .i64 (.ofNat 2)] (J.push (J.push ax (.cells [.str [97],.str [98],.str [99]] 9 .own 0 0)) (.cells [.str [109,46,84],.str [109,46,85]] 9 .own 0 0))=.ret (.int .i64 (.ofNat bD)) aB/\bD<2/\∃s1:List UInt8,au aB (J.n (J.push ax (.cells [.str [97],.str [98],.str [99]] 9 .own 0 0))) (0+bD*1)=some (.str s1)/\∃bE:J,aP.storeCells aB bj (0+1) [.str s1]=some bE/\(0=0->Q .ret (ah.mk [(4,.ptr bj 0)] [] .none bE))/\(¬0=0->Q .ret (ah.mk [(4,.ptr bE.n 0)] [] .none (J.push bE (.cells [.int .i64 (.ofNat 2),.str [],.a0,.a0,.bb] 80 .own 0 0)))))/\(¬k=6->¬k=7/\¬k=8/\¬k=9/\(0=0->Q .ret (ah.mk [(4,.ptr bj 0)] [] .none (J.push ax (.cells [.str [97],.str [98],.str [99]] 9 .own 0 0))))/\(¬0=0->Q .ret (ah.mk [(4,.ptr (J.n (J.push ax (.cells [.str [97],.str [98],.str [99]] 9 .own 0 0))) 0)] [] .none (J.push (J.push ax (.cells [.str [97],.str [98],.str [99]] 9 .own 0 0)) (.cells [.int .i64 (.ofNat 2),.str [],.a0,.a0,.bb] 80 .own 0 0))))))):
  a3 Tryz.prog Tryz.f27 call [1,1,1,1] ⟨[(0,.ptr c 0),(1,.int .i64 (.ofNat d)),(5,.int .i64 (.ofNat k))],[],.none,h⟩ Q:=
 dB [(1066,.f),(1077,.f),(1088,.f),(74,.bA (.fL [.o,.n .i64])),(85,.bA (.fL [.o,.n .i64])),(92,.bA (.fL [.o,.n .i64])),(4000,.gT [0,1,5,6,7,8] [(.exit 0,[(0,.is (.ptr c 0)),(5,.is (.int .i64 (.ofNat k))),(6,.p),(7,.is .a0)])])] [4] [(0,.v (.ptr c 0)),(1,.v (.int .i64 (.ofNat d))),(5,.v (.int .i64 (.ofNat k)))] rfl (Eq.mp (by kernel_rfl) H)
theorem YU(call:aI->List I->J->av)(c:Nat)(d:Nat)(k:Nat)(h:J){Q:bn->ah->Prop}(H:∃aD:Nat,∃ai:J,call (.fn 48) [.ptr c 0,.int .i64 (.ofNat 3)] (J.push h (.cells [.int .i64 (.ofNat k),.str [],.a0,.a0,.bb] 80 .own 0 0))=.ret (.int .i64 (.ofNat aD)) ai/\aD+1<9223372036854775808/\a3 Tryz.prog Tryz.f27 call [1,1,1,1,1,1,0,1,0] (ah.mk [(0,.ptr c 0),(1,.int .i64 (.ofNat d)),(5,.int .i64 (.ofNat k)),(6,.ptr h.n 0),(7,.a0),(8,.int .i64 (.ofNat (aD+1)))] [] .none ai) (λb9 cj=>∃bj:Nat,∃bD:Nat,∃bT:Nat,∃b5:Nat,∃aH:b3,∃ax:J,∃bz:Env,b9=.exit 0/\cj=ah.mk bz [] .none ax/\b_ [(0,.ptr c 0),(5,.int .i64 (.ofNat k)),(6,.ptr bj 0),(7,.slice bD bT b5 aH)] bz/\¬k=6/\(k=7->∃v1:I,di Tryz.prog (J.push ax (.cells [.str [97],.str [98],.str [99]] 9 .own 0 0)) 63 (.slice ax.n 0 3 (.exact 3)) none (some (.int .i64 (.ofNat b5))) none=some v1/\∃cx:Nat,∃aB:J,call (.fn 49) [v1,.slice bD bT b5 aH] (J.push ax (.cells [.str [97],.str [98],.str [99]] 9 .own 0 0))=.ret (.aQ [.ptr cx 0,.int .i64 (.ofNat 0)]) aB/\(0=0->Q .ret (ah.mk [(4,.ptr cx 0)] [] .none aB))/\(¬0=0->Q .ret (ah.mk [(4,.ptr aB.n 0)] [] .none (J.push aB (.cells [.int .i64 (.ofNat 2),.str [],.a0,.a0,.bb] 80 .own 0 0)))))/\(¬k=7->(k=8->∃v2:I,di Tryz.prog (J.room (J.push ax (.cells [.str [97],.str [98],.str [99]] 9 .own 0 0)) 11) 50 (.slice bD bT b5 aH) (some (.int .i64 (.ofNat 1))) none none=some v2/\0<b5/\∃da:Nat,au (J.room (J.push ax (.cells [.str [97],.str [98],.str [99]] 9 .own 0 0)) 11) bD (bT+0*1)=some (.ptr da 0)/\∃et:Nat,∃bE:J,call (.fn 50) [v2,.ptr da 0] (J.room (J.push ax (.cells [.str [97],.str [98],.str [99]] 9 .own 0 0)) 11)=.ret (.aQ [.ptr et 0,.int .i64 (.ofNat 0)]) bE/\I.sound v2=true/\(0=0->Q .ret (ah.mk [(4,.ptr et 0)] [] .none bE))/\(¬0=0->Q .ret (ah.mk [(4,.ptr bE.n 0)] [] .none (J.push bE (.cells [.int .i64 (.ofNat 2),.str [],.a0,.a0,.bb] 80 .own 0 0)))))/\(¬k=8->(k=9->∃eO:Nat,∃bS:J,call (.fn 51) [.slice bD bT b5 aH] (J.push ax (.cells [.str [97],.str [98],.str [99]] 9 .own 0 0))=.ret (.aQ [.ptr eO 0,.int .i64 (.ofNat 0)]) bS/\(0=0->Q .ret (ah.mk [(4,.ptr eO 0)] [] .none bS))/\(¬0=0->Q .ret (ah.mk [(4,.ptr bS.n 0)] [] .none (J.push bS (.cells [.int .i64 (.ofNat 2),.str [],.a0,.a0,.bb] 80 .own 0 0)))))/\(¬k=9->(0=0->Q .ret (ah.mk [(4,.ptr bj 0)] [] .none (J.push ax (.cells [.str [97],.str [98],.str [99]] 9 .own 0 0))))/\(¬0=0->Q .ret (ah.mk [(4,.ptr (J.n (J.push ax (.cells [.str [97],.str [98],.str [99]] 9 .own 0 0))) 0)] [] .none (J.push (J.push ax (.cells [.str [97],.str [98],.str [99]] 9 .own 0 0)) (.cells [.int .i64 (.ofNat 2),.str [],.a0,.a0,.bb] 80 .own 0 0))))))))):
  a3 Tryz.prog Tryz.f27 call [1,1,1,1] ⟨[(0,.ptr c 0),(1,.int .i64 (.ofNat d)),(5,.int .i64 (.ofNat k))],[],.none,h⟩ Q:=
 dB [(1056,.f),(74,.bA (.fL [.p,.is (.int .i64 (.ofNat 0))])),(85,.bA (.fL [.p,.is (.int .i64 (.ofNat 0))])),(92,.bA (.fL [.p,.is (.int .i64 (.ofNat 0))])),(4000,.gT [0,1,5,6,7,8] [(.exit 0,[(0,.is (.ptr c 0)),(5,.is (.int .i64 (.ofNat k))),(6,.p),(7,.fY)])])] [4] [(0,.v (.ptr c 0)),(1,.v (.int .i64 (.ofNat d))),(5,.v (.int .i64 (.ofNat k)))] rfl (Eq.mp (by kernel_rfl) H)
theorem YV(call:aI->List I->J->av)(c:Nat)(d:Nat)(k:Nat)(h:J){Q:bn->ah->Prop}(H:∃aD:Nat,∃ai:J,call (.fn 48) [.ptr c 0,.int .i64 (.ofNat 3)] (J.push h (.cells [.int .i64 (.ofNat k),.str [],.a0,.a0,.bb] 80 .own 0 0))=.ret (.int .i64 (.ofNat aD)) ai/\aD+1<9223372036854775808/\a3 Tryz.prog Tryz.f27 call [1,1,1,1,1,1,0,1,0] (ah.mk [(0,.ptr c 0),(1,.int .i64 (.ofNat d)),(5,.int .i64 (.ofNat k)),(6,.ptr h.n 0),(7,.a0),(8,.int .i64 (.ofNat (aD+1)))] [] .none ai) (λb9 cj=>∃bj:Nat,∃bD:Nat,∃bT:Nat,∃b5:Nat,∃aH:b3,∃ax:J,∃bz:Env,b9=.exit 0/\cj=ah.mk bz [] .none ax/\b_ [(0,.ptr c 0),(5,.int .i64 (.ofNat k)),(6,.ptr bj 0),(7,.slice bD bT b5 aH)] bz/\¬k=6/\(k=7->∃v1:I,di Tryz.prog (J.push ax (.cells [.str [97],.str [98],.str [99]] 9 .own 0 0)) 63 (.slice ax.n 0 3 (.exact 3)) none (some (.int .i64 (.ofNat b5))) none=some v1/\∃aB:J,call (.fn 49) [v1,.slice bD bT b5 aH] (J.push ax (.cells [.str [97],.str [98],.str [99]] 9 .own 0 0))=.ret (.aQ [.bb,.int .i64 (.ofNat 3)]) aB/\(3=0->Q .ret (ah.mk [(4,.bb)] [] .none aB))/\(¬3=0->Q .ret (ah.mk [(4,.ptr aB.n 0)] [] .none (J.push aB (.cells [.int .i64 (.ofNat 2),.str [],.a0,.a0,.bb] 80 .own 0 0)))))/\(¬k=7->(k=8->∃v2:I,di Tryz.prog (J.room (J.push ax (.cells [.str [97],.str [98],.str [99]] 9 .own 0 0)) 11) 50 (.slice bD bT b5 aH) (some (.int .i64 (.ofNat 1))) none none=some v2/\0<b5/\∃cx:Nat,au (J.room (J.push ax (.cells [.str [97],.str [98],.str [99]] 9 .own 0 0)) 11) bD (bT+0*1)=some (.ptr cx 0)/\∃bE:J,call (.fn 50) [v2,.ptr cx 0] (J.room (J.push ax (.cells [.str [97],.str [98],.str [99]] 9 .own 0 0)) 11)=.ret (.aQ [.bb,.int .i64 (.ofNat 3)]) bE/\I.sound v2=true/\(3=0->Q .ret (ah.mk [(4,.bb)] [] .none bE))/\(¬3=0->Q .ret (ah.mk [(4,.ptr bE.n 0)] [] .none (J.push bE (.cells [.int .i64 (.ofNat 2),.str [],.a0,.a0,.bb] 80 .own 0 0)))))/\(¬k=8->(k=9->∃bS:J,call (.fn 51) [.slice bD bT b5 aH] (J.push ax (.cells [.str [97],.str [98],.str [99]] 9 .own 0 0))=.ret (.aQ [.bb,.int .i64 (.ofNat 3)]) bS/\(3=0->Q .ret (ah.mk [(4,.bb)] [] .none bS))/\(¬3=0->Q .ret (ah.mk [(4,.ptr bS.n 0)] [] .none (J.push bS (.cells [.int .i64 (.ofNat 2),.str [],.a0,.a0,.bb] 80 .own 0 0)))))/\(¬k=9->(0=0->Q .ret (ah.mk [(4,.ptr bj 0)] [] .none (J.push ax (.cells [.str [97],.str [98],.str [99]] 9 .own 0 0))))/\(¬0=0->Q .ret (ah.mk [(4,.ptr (J.n (J.push ax (.cells [.str [97],.str [98],.str [99]] 9 .own 0 0))) 0)] [] .none (J.push (J.push ax (.cells [.str [97],.str [98],.str [99]] 9 .own 0 0)) (.cells [.int .i64 (.ofNat 2),.str [],.a0,.a0,.bb] 80 .own 0 0))))))))):
  a3 Tryz.prog Tryz.f27 call [1,1,1,1] ⟨[(0,.ptr c 0),(1,.int .i64 (.ofNat d)),(5,.int .i64 (.ofNat k))],[],.none,h⟩ Q:=
 dB [(1056,.f),(74,.bA (.fL [.is .bb,.is (.int .i64 (.ofNat 3))])),(85,.bA (.fL [.is .bb,.is (.int .i64 (.ofNat 3))])),(92,.bA (.fL [.is .bb,.is (.int .i64 (.ofNat 3))])),(4000,.gT [0,1,5,6,7,8] [(.exit 0,[(0,.is (.ptr c 0)),(5,.is (.int .i64 (.ofNat k))),(6,.p),(7,.fY)])])] [4] [(0,.v (.ptr c 0)),(1,.v (.int .i64 (.ofNat d))),(5,.v (.int .i64 (.ofNat k)))] rfl (Eq.mp (by kernel_rfl) H)
theorem Na(call:aI->List I->J->av)(c:Nat)(d:Nat)(k:Nat)(q:Nat)(n:Nat)(w:I)(h:J){Q:bn->ah->Prop}(H:(0<n->(7<=k->(1<=d/\d<9223372036854775808)/\∃aD:Nat,∃ai:J,call (.fn 27) [.ptr c 0,.int .i64 (.ofNat (d-1))] h=.ret (.ptr aD 0) ai/\∃v1:I,∃ax:J,dt Tryz.prog (J.push ai (.cells [.ptr aD 0] 35 .own 0 0)) 50 (some 50) w (.slice ai.n 0 1 (.exact 1))=some (v1,ax)/\(1<=n/\n<9223372036854775808)/\Q .nrm (ah.mk [(0,.ptr c 0),(1,.int .i64 (.ofNat d)),(5,.int .i64 (.ofNat k)),(6,.ptr q 0),(7,v1),(8,.int .i64 (.ofNat (n-1)))] [] .none ax))/\(¬7<=k->Q (.exit 0) (ah.mk [(0,.ptr c 0),(1,.int .i64 (.ofNat d)),(5,.int .i64 (.ofNat k)),(6,.ptr q 0),(7,w),(8,.int .i64 (.ofNat n))] [] .none h)))/\(¬0<n->Q (.exit 0) (ah.mk [(0,.ptr c 0),(1,.int .i64 (.ofNat d)),(5,.int .i64 (.ofNat k)),(6,.ptr q 0),(7,w),(8,.int .i64 (.ofNat n))] [] .none h))):
  a3 Tryz.prog Tryz.f27 call [1,1,1,1,1,1,0,1,0,0] ⟨[(0,.ptr c 0),(1,.int .i64 (.ofNat d)),(5,.int .i64 (.ofNat k)),(6,.ptr q 0),(7,w),(8,.int .i64 (.ofNat n))],[],.none,h⟩ Q:=
 dB [] [0,1,5,6,7,8] [(0,.v (.ptr c 0)),(1,.v (.int .i64 (.ofNat d))),(5,.v (.int .i64 (.ofNat k))),(6,.v (.ptr q 0)),(7,.o w),(8,.v (.int .i64 (.ofNat n)))] rfl (Eq.mp (by kernel_rfl) H)
theorem YW(m:Nat)(v:I)(h:J){R:av->Prop}(H:∃aD:Nat,cc Tryz.prog h 27 v=some (.int .i64 (.ofNat aD))/\∃bj:Nat,jE qd (.int .i64 (.ofNat aD)) [.int .i64 (.ofNat 60)]=some (.int .i64 (.ofNat bj))/\∃v1:I,di Tryz.prog h 27 v none (some (.int .i64 (.ofNat bj))) none=some v1/\I.cT v1=true/\I.cT v1=true/\∃bD:Nat,∃ai:J,(Y m) (.fn 27) [.ptr h.n 0,.int .i64 (.ofNat 3)] (J.push h (.cells [v1,.int .i64 (.ofNat 0)] 72 .own 0 0))=.ret (.ptr bD 0) ai/\R (.ret (.ptr bD 0) ai)):
  R (Y (m+1) (.fn 12) [v] h):=
 dI (intr:=b0) [(7,.bA (.n .i64))] [(0,.o v)] Tryz.func12 (by kernel_rfl) (by kernel_rfl) (by kernel_rfl) rfl (Eq.mp (by kernel_rfl) H)
theorem Nb(call:aI->List I->J->av)(c:Nat)(d:Nat)(h:J){Q:bn->ah->Prop}(H:Q .nrm (ah.mk [(0,.ptr c 0),(1,.int .i64 (.ofNat d))] [] .none h)):
  a3 Tryz.prog Tryz.f27 call [0] ⟨[(0,.ptr c 0),(1,.int .i64 (.ofNat d))],[],.none,h⟩ Q:=
 dB [] [0,1] [(0,.v (.ptr c 0)),(1,.v (.int .i64 (.ofNat d)))] rfl (Eq.mp (by kernel_rfl) H)
theorem Gp{P:Program}{h:J}{T E b off n:Nat}{cp:b3}(hu:P.underlying T=some (.slice E))(hs:dn P E=some 1)(h0:0<n)(ag:wI n cp):∃n4 kS,di P h T (.slice b off n cp) (some (.int .i64 (Int.ofNat 1))) none none=some (.slice b n4 (n-1) kS)/\wI (n-1) kS/\(0<n-1->n4=off+1*1/\kS≠ .dead):=by
 have bG:Nat.ble 1 n=true:=by rw[Nat.ble_eq];omega
 cases cp with
 |exact k=>
  have aq:n<=k:=ag
  have bo:Nat.ble k k=true:=by rw[Nat.ble_eq];omega
  have ed:Nat.ble n k=true:=by rw[Nat.ble_eq];omega
  refine⟨if k=1 then off else off+1*1,.exact (k-1),by simp only[di,hu,hs,bounds,hg,eK,bo,bG,ed],by show n-1<=k-1;omega,λab=>⟨?_,by simp⟩⟩
  rw[if_neg (by omega)]
 |a1 e=>
  obtain rfl:e=1:=ag
  have bo:Nat.ble n n=true:=by rw[Nat.ble_eq];omega
  by_cases ab:1<n
  · have ed:Nat.blt 1 n=true:=by rw[Nat.blt_eq];omega
    refine⟨off+1*1,.a1 1,?_,rfl,λ_=>⟨rfl,by simp⟩⟩
    simp only[di,hu,hs,bounds,hg,eK,bo,bG,ed,if_true]
    rw[if_neg (by decide)]
  · have ed:¬Nat.blt 1 n=true:=by rw[Nat.blt_eq];omega
    obtain rfl:n=1:=by omega
    exact⟨off,.dead,by simp only[di,hu,hs,bounds,hg,eK];rfl,rfl,λh=>absurd h (by omega)⟩
 |dead=>have:n=0:=ag;omega
theorem Nc{P:Program}{h:J}{T E b off n k:Nat}{cp:b3}(hu:P.underlying T=some (.slice E))(hs:dn P E=some 1)(aq:k<=n)(ag:wI n cp):∃n4 kS,di P h T (.slice b off n cp) none (some (.int .i64 (Int.ofNat k))) none=some (.slice b n4 k kS)/\wI k kS/\(0<k->n4=off/\kS≠ .dead):=by
 have cE:Nat.ble 0 k=true:=by rw[Nat.ble_eq];omega
 cases cp with
 |exact j=>
  have aJ:n<=j:=ag
  have bo:Nat.ble j j=true:=by rw[Nat.ble_eq];omega
  have ed:Nat.ble k j=true:=by rw[Nat.ble_eq];omega
  refine⟨if j=0 then off else off+0*1,.exact (j-0),by simp only[di,hu,hs,bounds,hg,eK,bo,cE,ed,Nat.sub_zero],by show k<=j-0;omega,λab=>⟨?_,by simp⟩⟩
  rw[if_neg (by omega),Nat.zero_mul,Nat.add_zero]
 |a1 e=>
  obtain rfl:e=1:=ag
  have bo:Nat.ble n n=true:=by rw[Nat.ble_eq];omega
  have bG:Nat.ble k n=true:=by rw[Nat.ble_eq];omega
  exact⟨off,.a1 1,by simp only[di,hu,hs,bounds,hg,eK,bo,bG,cE,if_true,Nat.sub_zero],rfl,λ_=>⟨rfl,by simp⟩⟩
 |dead=>
  have h0:n=0:=ag
  obtain rfl:k=0:=by omega
  exact⟨off,.dead,by simp only[di,hu,hs,bounds,hg,eK],rfl,λh=>absurd h (by omega)⟩
def mq(B:Nat)(h:J)(v:I)(s:a5):Prop:=(v=.a0/\s=[])\/∃b off cp,v=.slice b off s.length cp/\b<B/\wI s.length cp/\∀i (af:i<s.length),au h b (off+i*1)=some (.int .u8 (Int.ofNat s[i].toNat))
theorem mq.ext{B:Nat}{h g:J}{v:I}{s:a5}(x:Ext B h g)(o:mq B h v s):mq B g v s:=by
 rcases o with o|⟨b,off,cp,ab,ad,ar,aG⟩
 · exact .inl o
 · exact .inr ⟨b,off,cp,ab,ad,ar,λi af=>iZ x ad (aG i af)⟩
theorem mq.len{B:Nat}{h:J}{v:I}{s:a5}(o:mq B h v s)(g:J):cc Tryz.prog g 27 v=some (.int .i64 (Int.ofNat s.length)):=by
 rcases o with⟨rfl,rfl⟩|⟨b,off,cp,rfl,_⟩<;>rfl
structure fQ(B c:Nat)(h:J)(m:e_):Prop where
 get:∃v,h.get c=some (.cells [v,.int .i64 (Int.ofNat m.nodes)] 72 .own 0 0)/\mq B h v m.left
 aO:B<=c
 up:c<h.n
structure ev(c:Nat)(h g:J):Prop where
 n:h.n<=g.n
 get:∀d,d<h.n->d≠c->g.get d=h.get d
theorem ev.refl(c:Nat)(h:J):ev c h h:=⟨Nat.le_refl _,λ_ _ _=>rfl⟩
theorem ev.trans{c:Nat}{h g k:J}(e:ev c h g)(f:ev c g k):ev c h k:=⟨Nat.le_trans e.n f.n,λd ao ag=>(f.get d (Nat.lt_of_lt_of_le ao e.n) ag).trans (e.get d ao ag)⟩
theorem ev.kQ{c:Nat}{h g:J}(e:Ext h.n h g):ev c h g:=⟨e.n,λd ao _=>e.get d ao⟩
theorem fQ.move{B c:Nat}{h g:J}{m:e_}(o:fQ B c h m)(e:Ext h.n h g):fQ B c g m:=by
 obtain⟨v,ab,ad⟩:=o.get
 have hu:=o.up
 exact⟨⟨v,(e.get c hu).trans ab,ad.ext (e.le (by have:=o.aO;omega))⟩,o.aO,Nat.lt_of_lt_of_le hu e.n⟩
theorem YX(n:Nat)(aN:n<256)(h:J):iR Tryz.prog 5 3 (.int .u8 (Int.ofNat n)) h=.val (.int .i64 (Int.ofNat n)) h:=Ko (ka:=.u8) (by kernel_rfl) (by kernel_rfl) (rv n (by omega))
theorem B7{h g:J}{b off:Nat}(e:g.get b=h.get b):au g b off=au h b off:=by unfold au;rw[e]
theorem uB(m n:Nat){B c:Nat}{h:J}{k:e_}(aq:fQ B c h k)(h0:0<n):∃g,Y (m+1) (.fn 48) [.ptr c 0,.int .i64 (Int.ofNat n)] h=.ret (.int .i64 (Int.ofNat (c6 n k).1)) g/\fQ B c g (c6 n k).2/\ev c h g:=by
 obtain⟨⟨v,al,ae⟩,h7,wF⟩:=aq
 obtain⟨left,nodes⟩:=k
 refine YF m c n h (R:=λx=>∃g,x=.ret (.int .i64 (Int.ofNat (c6 n ⟨left,nodes⟩).1)) g/\fQ B c g (c6 n ⟨left,nodes⟩).2/\ev c h g) ⟨v,aV al rfl,left.length,ae.len h,λaw=>?_,λaw=>?_⟩
 · obtain rfl:left=[]:=List.eq_nil_of_length_eq_zero aw
   exact⟨h,rfl,⟨⟨v,al,ae⟩,h7,wF⟩,ev.refl _ _⟩
 · rcases ae with⟨rfl,rfl⟩|⟨b,off,cp,rfl,ad,ar,aG⟩
   · exact absurd rfl aw
   cases left with
   |nil=>exact absurd rfl aw
   |cons x l=>
    have aa:=UInt8.toNat_lt x
    obtain⟨n4,kS,aA,ay,bw⟩:=Gp (P:=Tryz.prog) (h:=h) (T:=27) (E:=5) (b:=b) (off:=off) (by kernel_rfl) (by kernel_rfl) (by simp) ar
    refine⟨b,off,_,cp,aV al rfl,by simp,x.toNat,aG 0 (by simp),x.toNat,YX _ (by omega) h,x.toNat %n,Tc .i64 h0,b,off,_,cp,aV al rfl,_,aA,rfl,_,gS al rfl rfl,_,rfl,⟨⟨_,gR rfl,?_⟩,h7,by simpa using wF⟩,⟨by simp,λd ao ag=>dM ag rfl⟩⟩
    refine .inr ⟨b,n4,kS,rfl,ad,ay,λi af=>?_⟩
    have af:i<l.length:=af
    obtain⟨f1,_⟩:=bw (by simp;omega)
    have fH:=aG (i+1) (by simp;omega)
    rw[f1,show off+1*1+i*1=off+(i+1)*1 by omega]
    have ry:b≠c:=by omega
    refine(B7 ?_).trans fH
    exact dM ry rfl
end Go.Proofs.dj
namespace Go.Proofs.dj
open Go aP Go.Proofs c8 Go.Proofs.cG
set_option maxRecDepth 100000
set_option maxHeartbeats 1000000
abbrev oV(a b:Nat)(d:Nat):Prop:=a<=d/\d<b
abbrev gh(aO:Nat)(h:J)(t:aE)(v:I):Prop:=eU (oV aO h.n) h t v
abbrev je(aO:Nat)(h:J)(l:List aE)(vs:List I):Prop:=cY (oV aO h.n) h l vs
theorem Ext.jB{aO:Nat}{h g:J}(x:Ext h.n h g):∀b,oV aO h.n b->oV aO g.n b/\g.get b=h.get b:=λb ae=>⟨⟨ae.1,Nat.lt_of_lt_of_le ae.2 x.n⟩,x.get b ae.2⟩
theorem gh.g5{aO:Nat}{h g:J}{t:aE}{v:I}(x:Ext h.n h g)(o:gh aO h t v):gh aO g t v:=eU.b8 (Ext.jB x) t v o
theorem je.g5{aO:Nat}{h g:J}{l:List aE}{vs:List I}(x:Ext h.n h g)(o:je aO h l vs):je aO g l vs:=cY.b8 (Ext.jB x) l vs o
theorem gh.at{aO:Nat}{h:J}{t:aE}{v:I}(o:gh aO h t v):dJ h.n h t v:=eU.at (λb ae=>ae.2) t v o
theorem je.at{aO:Nat}{h:J}{l:List aE}{vs:List I}(o:je aO h l vs):dS h.n h l vs:=cY.at (λb ae=>ae.2) l vs o
theorem cY.len{F:Nat->Prop}{h:J}:∀{ck:List aE} {vs:List I},cY F h ck vs->vs.length=ck.length
 |[],vs,aa=>by have e:vs=[]:=aa;rw[e];rfl
 |t::ck,vs,aa=>by
  obtain⟨v,ws,rfl,_,ad⟩:=aa
  rw[List.length_cons,List.length_cons,cY.len ad]
theorem cY.get{F:Nat->Prop}{h:J}:∀{ck:List aE} {vs:List I},cY F h ck vs->∀i (ab:i<vs.length) (ad:i<ck.length),eU F h ck[i] vs[i]
 |[],_,_,_,_,ad=>by cases ad
 |t::ck,_,aa,0,_,_=>by obtain⟨v,ws,rfl,ar,_⟩:=aa;exact ar
 |t::ck,_,aa,i+1,ab,ad=>by
  obtain⟨v,ws,rfl,_,ar⟩:=aa
  exact cY.get ar i (by simpa using ab) (by simpa using ad)
theorem eU.ptr{F:Nat->Prop}{h:J}:∀{t:aE} {v:I},eU F h t v->∃r,v=.ptr r 0
 |.mk _ _ _ _ _,_,aa=>by obtain⟨r,_,_,_,_,_,_,_,ab,_⟩:=aa;exact⟨r,ab⟩
theorem cY.B8{F:Nat->Prop}{h:J}:∀{ck:List aE} {vs:List I},cY F h ck vs->∃ps:List Nat,vs=ps.map λp=>.ptr p 0
 |[],vs,aa=>⟨[],aa⟩
 |t::ck,_,aa=>by
  obtain⟨v,ws,rfl,ab,ad⟩:=aa
  obtain⟨r,rfl⟩:=eU.ptr ab
  obtain⟨ps,rfl⟩:=cY.B8 ad
  exact⟨r::ps,rfl⟩
theorem cY.app{F:Nat->Prop}{h:J}{us:List aE}{ws:List I}(hu:cY F h us ws):∀{ck:List aE} {vs:List I},cY F h ck vs->cY F h (ck++us) (vs++ws)
 |[],vs,aa=>by have e:vs=[]:=aa;rw[e];exact hu
 |t::ck,_,aa=>by
  obtain⟨v,ys,rfl,ab,ad⟩:=aa
  exact⟨v,ys++ws,rfl,ab,cY.app hu ad⟩
theorem cY.take{F:Nat->Prop}{h:J}:∀{ck:List aE} {vs:List I} (k:Nat),cY F h ck vs->cY F h (ck.take k) (vs.take k)
 |[],vs,k,aa=>by have e:vs=[]:=aa;rw[e,List.take_nil,List.take_nil];rfl
 |t::ck,vs,0,aa=>rfl
 |t::ck,_,k+1,aa=>by
  obtain⟨v,ys,rfl,ab,ad⟩:=aa
  exact⟨v,ys.take k,rfl,ab,cY.take k ad⟩
theorem cY.drop{F:Nat->Prop}{h:J}:∀{ck:List aE} {vs:List I} (k:Nat),cY F h ck vs->cY F h (ck.drop k) (vs.drop k)
 |[],vs,k,aa=>by have e:vs=[]:=aa;rw[e,List.drop_nil,List.drop_nil];rfl
 |t::ck,vs,0,aa=>aa
 |t::ck,_,k+1,aa=>by
  obtain⟨v,ys,rfl,ab,ad⟩:=aa
  exact cY.drop k ad
theorem Gq{k N M:Nat}{s:a5}{o:Bool}(h:hY k s N M o=true)(dg:k≠7):N=0:=by
 unfold hY at h
 simp only[Bool.and_eq_true] at h
 have:=h.1.1.2
 simp only[Bool.not_eq_true',Bool.and_eq_false_iff,decide_eq_false_iff_not] at this
 rcases this with h|h
 · omega
 · exact absurd dg (by simpa using h)
mutual
theorem Nd:∀t:aE,ef t=true->lf t<=sz t
 |.mk k nm ns xs rt,h=>by
  rw[m3] at h
  simp only[Bool.and_eq_true] at h
  obtain⟨_,aK,aa,aq⟩:=h
  have ab:=Nf xs aa
  have ad:qW rt<=dq rt:=by
   cases rt with
   |none=>rw[qW];exact Nat.zero_le _
   |some u=>
    have hB:k=8:=by
     unfold hY at aK
     simp only[Bool.and_eq_true] at aK
     have:=aK.2
     simpa using this
    subst hB
    have hu:ef u=true:=by simpa[eT,ix] using aq
    rw[qW,dq]
    exact Nd u hu
  have ar:ns.length<=xs.length:=by
   by_cases dg:k=7
   · subst dg
     have:ns.length=xs.length/\jM none ns=true:=by simpa[eT] using aq
     omega
   · have:=Gq aK dg;omega
  have aG:=nU xs
  have bJ:=Gr xs aa
  rw[lf,sz]
  omega
theorem Nf:∀l:List aE,hr l=true->pR l<=c1 l
 |[],_=>by rw[pR];exact Nat.zero_le _
 |t::l,h=>by
  rw[hr,Bool.and_eq_true] at h
  have ab:=Nd t h.1
  have ad:=Nf l h.2
  rw[pR,c1];omega
theorem Gr:∀l:List aE,hr l=true->pR l+l.length<=c1 l
 |[],_=>by rw[pR,c1];simp
 |t::l,h=>by
  rw[hr,Bool.and_eq_true] at h
  have ab:=Gs t h.1
  have ad:=Gr l h.2
  rw[pR,c1,List.length_cons];omega
theorem Gs:∀t:aE,ef t=true->lf t+1<=sz t
 |.mk k nm ns xs rt,h=>by
  rw[m3] at h
  simp only[Bool.and_eq_true] at h
  obtain⟨_,aK,aa,aq⟩:=h
  have ab:=Gr xs aa
  have ad:qW rt<=dq rt:=by
   cases rt with
   |none=>rw[qW];exact Nat.zero_le _
   |some u=>
    have hB:k=8:=by
     unfold hY at aK
     simp only[Bool.and_eq_true] at aK
     have:=aK.2
     simpa using this
    subst hB
    have hu:ef u=true:=by simpa[eT,ix] using aq
    have:=Gs u hu
    rw[qW,dq];omega
  have ar:ns.length<=xs.length:=by
   by_cases dg:k=7
   · subst dg
     have:ns.length=xs.length/\jM none ns=true:=by simpa[eT] using aq
     omega
   · have:=Gq aK dg;omega
  rw[lf,sz]
  omega
end
theorem B9{t:aE}(h:dm (some t)=0):sz t<=60/\lf t<=60:=by
 obtain⟨ab,ad⟩:=kR.1 h
 have:=Gs t ad
 exact⟨ab,by omega⟩
theorem Gt(m:Nat){B:Nat}{h:J}{b off:Nat}{cp:b3}{l:List aE}{vs:List I}(hm:70<=m)(cM:B<=h.n)(ae:b<B)(aw:∀i (af:i<vs.length),au h b (off+i*1)=some vs[i])(aa:dS B h l vs)(hlen:vs.length<=1000)(ag:∀t∈l,dm (some t)=0):cP B h (.bool true) (Y (m+2) (.fn 75) [.slice b off vs.length cp] h):=by
 refine YG (m+1) b off vs.length cp h (R:=cP B h (.bool true)) ?_
 refine a3.loop (by kernel_rfl) (λk st=>∃i y Γ,st=⟨Γ,[],.none,y⟩/\b_ [(0,.slice b off vs.length cp),(3,.int .i64 (Int.ofNat i))] Γ/\vs.length-i=k/\i<=vs.length/\Ext B h y) ?_ vs.length _ (by omega) ⟨0,h,_,rfl,⟨rfl,rfl,trivial⟩,by omega,by omega,Ext.refl _ _⟩
 rintro k st ⟨i,y,Γ,rfl,cQ,aq,af,aS⟩
 have fw:=dS.len aa
 refine a3.pre (YH (Y (m+1)) b off _ i cp y ⟨λab=>?_,λab=>?_⟩) cQ rfl rfl rfl
 · have ad:i<l.length:=by omega
   have ba:=dS.get aa i ab ad
   have oW:=ag _ (List.getElem_mem ad)
   obtain⟨s1,s2⟩:=B9 oW
   have eB:dq (some l[i])=sz l[i]:=ld _
   have aK:∃r,vs[i]=.ptr r 0:=by
    rcases ez.BF (ot:=some l[i]) ba with e|⟨r,e⟩
    · exfalso
      rw[e] at ba
      cases YY:l[i] with
      |mk cr cZ dp eS eG=>
       rw[YY] at ba
       obtain⟨_,_,_,_,_,_,_,_,e,_⟩:=ba;cases e
    · exact⟨r,e⟩
   obtain⟨r,aj⟩:=aK
   obtain⟨g,aH,bC⟩:=L4 (ot:=some l[i]) (B:=B) (h:=y) (v:=vs[i]) m (by omega) (λt e=>by cases e;omega) (by omega) (Nat.le_trans cM aS.n) (ez.b8 (gU.ext aS (Nat.le_refl _)) _ _ ba)
   rw[oW,aj] at aH
   refine⟨ab,r,(iZ aS ae (aw i ab)).trans (by rw[aj]),0,g,aH,λ_=>⟨by omega,_,(by show _<k;omega),i+1,g,_,rfl,⟨rfl,rfl,trivial⟩,rfl,by omega,aS.trans (Nat.le_refl _) bC⟩,λh=>absurd rfl h⟩
 · exact .inl ⟨y,_,rfl,rfl,trivial,cP.mk aS⟩
theorem YZ(m:Nat){B:Nat}{h:J}{t:aE}{r:Nat}(ae:sz t<=90000)(hm:sz t<m)(aC:dJ B h t (.ptr r 0)):Y (m+2) (.fn 78) [.ptr r 0] h=.ret (if sz t<=60 then .aQ [.ptr r 0,.int .i64 (Int.ofNat 0)] else .aQ [.bb,.int .i64 (Int.ofNat 3)]) h:=by
 refine YI (m+1) r h (R:=λx=>x=_) ⟨_,h,Lx ae hm aC,λcu=>?_,λcu=>?_⟩
 · rw[if_neg (by omega)]
 · rw[if_pos (by omega)]
theorem cC.Y0{D:Type}{P:Program}{e:D->I}{el sT:TypeId}(T:k7 P (λd=>[e d]) 1 el sT){B:Nat}{h:J}{v:I}{ds:List D}(a4:cC (λd=>[e d]) 1 el B h v ds){k:Nat}(aq:k<=ds.length):∃v',di P h sT v none (some (.int .i64 (Int.ofNat k))) none=some v'/\∀g,(∀p,v=.slice p 0 ds.length (.a1 1)->g.get p=h.get p)->fV g 1 v'=some ((ds.take k).length,dR (λd=>[e d]) (ds.take k)):=by
 rcases a4 with⟨rfl,rfl⟩|⟨p,rfl,ad,ar,aG,bJ⟩
 · obtain rfl:k=0:=by simpa using aq
   refine⟨.a0,?_,λg _=>by rw[List.take_zero];rfl⟩
   simp only[di,T.hu,T.size,bounds,hg,eK]
 · refine⟨_,BU T.hu T.size aq,λg al=>?_⟩
   have hlen:(ds.take k).length=k:=by rw[List.length_take];omega
   by_cases h0:k=0
   · subst h0
     have e:aP.loadCells g p 0 (0*1)=some []:=pF ((al p rfl).trans ar) rfl
     simp only[fV,e,List.take_zero];rfl
   · have:=db.src (B:=B) (h:=g) (b:=p) (off:=0) (cp:=.a1 1) (vs:=(ds.take k).map e) (λi af=>by
       rw[List.length_map] at af
       refine l8 ((al p rfl).trans ar) ?_
       rw[kn,List.getElem?_map,Nat.zero_add,Nat.mul_one,List.getElem?_eq_getElem (by omega)]
       simp) (by rw[List.length_map];omega) (by simp)
     rw[List.length_map,hlen] at this
     rw[this,hlen,kn]
theorem cC.Y1{D:Type}{P:Program}{e:D->I}{el sT:TypeId}(T:k7 P (λd=>[e d]) 1 el sT){B:Nat}{h:J}{v:I}{ds:List D}(a4:cC (λd=>[e d]) 1 el B h v ds){k:Nat}(aq:k<=ds.length)(g:J)(al:∀p,v=.slice p 0 ds.length (.a1 1)->g.get p=h.get p):∃v',di P g sT v (some (.int .i64 (Int.ofNat k))) none none=some v'/\fV g 1 v'=some ((ds.drop k).length,dR (λd=>[e d]) (ds.drop k)):=by
 rcases a4 with⟨rfl,rfl⟩|⟨p,rfl,ad,ar,aG,bJ⟩
 · obtain rfl:k=0:=by simpa using aq
   refine⟨.a0,?_,rfl⟩
   simp only[di,T.hu,T.size,bounds,hg,eK]
 · have hlen:(ds.drop k).length=ds.length-k:=by rw[List.length_drop]
   have rd:∀(o:Nat) (c:b3),c≠ .dead->o=0+k*1->0<ds.length-k->fV g 1 (.slice p o (ds.length-k) c)=some (ds.length-k,(ds.drop k).map e):=λo c ag a4 h0=>by
    have:=db.src (B:=B) (h:=g) (b:=p) (off:=o) (cp:=c) (vs:=(ds.drop k).map e) (λi af=>by
     rw[List.length_map,hlen] at af
     refine l8 ((al p rfl).trans ar) ?_
     rw[kn,List.getElem?_map,List.getElem?_eq_getElem (by omega)]
     simp[a4]) (by rw[List.length_map];omega) ag
    rw[List.length_map,hlen] at this
    exact this
   by_cases h0:k=0
   · subst h0
     have bo:Nat.ble ds.length ds.length=true:=by rw[Nat.ble_eq];omega
     have bG:Nat.ble 0 ds.length=true:=by rw[Nat.ble_eq];omega
     refine⟨.slice p 0 ds.length (.a1 1),by simp only[di,T.hu,T.size,bounds,hg,eK,bo,bG,if_true],?_⟩
     have:=rd 0 (.a1 1) (by simp) rfl (by omega)
     rw[kn,hlen]
     exact this
   · by_cases cu:k<ds.length
     · refine⟨_,y4 T.hu T.size (by omega) cu,?_⟩
       rw[rd _ _ (by simp) rfl (by omega),kn,hlen]
     · obtain rfl:k=ds.length:=by omega
       have bo:Nat.ble ds.length ds.length=true:=by rw[Nat.ble_eq];omega
       have ed:¬Nat.blt ds.length ds.length=true:=by rw[Nat.blt_eq];omega
       refine⟨.slice p 0 0 .dead,by simp only[di,T.hu,T.size,bounds,hg,eK,bo,if_true,if_neg h0,if_neg ed],?_⟩
       rw[List.drop_length];rfl
theorem cC.cell{D:Type}{enc:D->List I}{w el B:Nat}{h:J}{v:I}{ds:List D}(a4:cC enc w el B h v ds):v.cT=true:=by
 rcases a4 with⟨rfl,_⟩|⟨p,rfl,_⟩<;>rfl
theorem cC.len{D:Type}{P:Program}{enc:D->List I}{w el sT B:Nat}(hu:P.underlying sT=some (.slice el)){h:J}{v:I}{ds:List D}(a4:cC enc w el B h v ds)(g:J):cc P g sT v=some (.int .i64 (Int.ofNat ds.length)):=by
 rcases a4 with⟨rfl,rfl⟩|⟨p,rfl,_⟩<;>simp only[cc,hu]<;>rfl
theorem grow{D:Type}{P:Program}{e:D->I}{el sT:TypeId}(T:k7 P (λd=>[e d]) 1 el sT){B:Nat}{h:J}{v:I}{ds:List D}(a4:cC (λd=>[e d]) 1 el B h v ds)(d:D)(tc:TypeId){k:Nat}(aq:k<=ds.length)(aw:ds.length<=1000):
  ∃dc v4 aB,di P h sT v none (some (.int .i64 (Int.ofNat k))) none=some dc/\dt P h sT (some sT) .a0 dc=some (v4,aB)/\Ext h.n h aB/\
  ∃fM bE,dt P (aB.push (.cells [e d] tc .own 0 0)) sT (some sT) v4 (.slice aB.n 0 1 (.exact 1))=some (fM,bE)/\Ext h.n h bE/\
  ∃ic ht bS,di P bE sT v (some (.int .i64 (Int.ofNat k))) none none=some ic/\dt P bE sT (some sT) fM ic=some (ht,bS)/\Ext h.n h bS/\cC (λd=>[e d]) 1 el h.n bS ht (ds.take k++d::ds.drop k):=by
 obtain⟨dc,bw,bK⟩:=cC.Y0 T a4 aq
 have cU:(ds.take k).length<=ds.length:=by rw[List.length_take];omega
 obtain⟨v4,aB,eh,uC,g_,_⟩:=vG T (B:=h.n) (h:=h) (v:=.a0) (ds:=[]) (es:=ds.take k) (.inl ⟨rfl,rfl⟩) (Nat.le_refl _) (bK h λ_ _=>rfl) (by simp;omega)
 rw[List.nil_append] at uC
 have Y2:cC (λd=>[e d]) 1 el h.n (aB.push (.cells [e d] tc .own 0 0)) v4 (ds.take k):=uC.mono (Ext.push (Nat.le_refl _) _) (Nat.le_refl _)
 have Ng:Ext h.n h (aB.push (.cells [e d] tc .own 0 0)):=Ext.kG g_.n g_
 obtain⟨fM,bE,fH,Y3,pN,_⟩:=vG T (B:=h.n) (es:=[d]) Y2 Ng.n (yr T aB tc d) (by rw[List.length_singleton];omega)
 have B_:=Ng.trans (Nat.le_refl _) pN
 obtain⟨ic,gx,dA⟩:=cC.Y1 T a4 aq bE (λp aK=>by
  rcases a4 with⟨rfl,_⟩|⟨q,rfl,_,_,_,bJ⟩
  · cases aK
  · cases aK;exact B_.get _ bJ)
 have adF:(ds.drop k).length<=ds.length:=by rw[List.length_drop];omega
 obtain⟨ht,bS,g4,Y4,Y5,_⟩:=vG T (B:=h.n) (es:=ds.drop k) Y3 B_.n dA (by rw[List.length_append,List.length_singleton];omega)
 refine⟨dc,v4,aB,bw,eh,g_,fM,bE,fH,B_,ic,ht,bS,gx,g4,B_.trans (Nat.le_refl _) Y5,?_⟩
 have gJ:ds.take k++d::ds.drop k=ds.take k++[d]++ds.drop k:=by simp
 rw[gJ];exact Y4
end Go.Proofs.dj
namespace Go.Proofs.dj
open Go aP Go.Proofs c8 Go.Proofs.cG
set_option maxRecDepth 100000
set_option maxHeartbeats 1000000
def zo(aO:Nat)(h:J)(t:aE)(x:av):Prop:=∃g,Ext h.n h g/\((sz t<=60/\∃r,x=.ret (.aQ [.ptr r 0,.int .i64 (Int.ofNat 0)]) g/\gh aO g t (.ptr r 0))\/(60<sz t/\x=.ret (.aQ [.bb,.int .i64 (Int.ofNat 3)]) g))
abbrev hv(p:Nat):I:=.ptr p 0
abbrev jQ(B:Nat)(h:J)(v:I)(ps:List Nat):Prop:=cC (λd=>[hv d]) 1 35 B h v ps
abbrev p8(B:Nat)(h:J)(v:I)(cj:List a5):Prop:=cC (λd=>[I.str d]) 1 9 B h v cj
theorem sG:k7 Tryz.prog (λd=>[hv d]) 1 35 50:=YD
theorem Y6:k7 Tryz.prog (λd=>[I.str d]) 1 9 63:=YC
theorem cC.jB{D:Type}{enc:D->List I}{w el B aO:Nat}{h:J}{v:I}{ds:List D}(a4:cC enc w el B h v ds)(h7:aO<=B):∀b n cp,v=.slice b 0 n cp->oV aO h.n b:=by
 intro b n cp e
 rcases a4 with⟨rfl,_⟩|⟨p,rfl,_,_,aG,bJ⟩
 · cases e
 · cases e;exact⟨by omega,bJ⟩
theorem yd(m aO:Nat){h g:J}{t:aE}{r:Nat}(aa:Ext h.n h g)(aC:gh aO g t (.ptr r 0))(ae:sz t<=90000)(hm:sz t<m):∃v n f_,Y (m+2) (.fn 78) [.ptr r 0] g=.ret (.aQ [v,.int .i64 (Int.ofNat n)]) f_/\zo aO h t (.ret (.aQ [v,.int .i64 (Int.ofNat n)]) f_):=by
 have e:=YZ m ae hm aC.at
 by_cases cu:sz t<=60
 · rw[if_pos cu] at e
   exact⟨_,_,_,e,g,aa,.inl ⟨cu,r,rfl,aC⟩⟩
 · rw[if_neg cu] at e
   exact⟨_,_,_,e,g,aa,.inr ⟨by omega,rfl⟩⟩
theorem Gu(k:Nat)(ns:List a5)(l:List aE)(rt:Option aE)(aw:∀t∈l,dm (some t)=0)(hlen:l.length<=1000):sz (.mk k [] ns l rt)<=60001+dq rt:=by
 have:=Yv aw
 have:60*l.length<=60*1000:=Nat.mul_le_mul_left _ hlen
 rw[mf];omega
theorem Gv{cr cZ dp eS eG w:I}(hw:w.cT=true):fT (0+2) [w] [cr,cZ,dp,eS,eG]=some [cr,cZ,w,eS,eG]/\fT (0+3) [w] [cr,cZ,dp,eS,eG]=some [cr,cZ,dp,w,eG]:=by
 constructor<;>simp[fT,hw]
theorem Y7(m aO:Nat){h:J}{b off r:Nat}{cp:b3}{x:aE}{l:List aE}{vs:List I}(hm:200000<=m)(h7:aO<=h.n)(ae:b<h.n)(aw:∀i (af:i<vs.length),au h b (off+i*1)=some vs[i])(aC:je aO h l vs)(hs:∀g,Ext h.n h g->fV g 1 (.slice b off vs.length cp)=some (vs.length,vs))(aj:gh aO h x (.ptr r 0))(hlen:vs.length<=1000)(ag:∀t∈l,dm (some t)=0)(Nh:dm (some x)=0):zo aO h (.mk 8 [] [] l (some x)) (Y (m+3) (.fn 50) [.slice b off vs.length cp,.ptr r 0] h):=by
 obtain⟨ai,aH,bC⟩:=Gt m (by omega) (Nat.le_refl _) ae aw aC.at hlen ag
 obtain⟨s1,s2⟩:=B9 Nh
 have eB:dq (some x)=sz x:=ld _
 have hc:gh aO ai x (.ptr r 0):=aj.g5 bC
 obtain⟨ax,a9,c0⟩:=L4 (ot:=some x) (B:=ai.n) (h:=ai) (v:=.ptr r 0) (m+1) (by omega) (λt e=>by cases e;omega) (by omega) (Nat.le_refl _) hc.at
 rw[Nh] at a9
 have fw:=cY.len aC
 obtain⟨ps,ou⟩:=cY.B8 aC
 have hC:vs.length=ps.length:=by rw[ou,List.length_map]
 have n1:=bC.trans bC.n c0
 obtain⟨H,cl⟩:∃H,H=ax.push (.cells [.int .i64 (Int.ofNat 8),.str [],.a0,.a0,.ptr r 0] 80 .own 0 0):=⟨_,rfl⟩
 have dE:Ext h.n h H:=by rw[cl];exact Ext.kG n1.n n1
 have wJ:H.get ax.n=some (.cells [.int .i64 (Int.ofNat 8),.str [],.a0,.a0,.ptr r 0] 80 .own 0 0):=by rw[cl];exact fo rfl
 have lg:H.n=ax.n+1:=by rw[cl];rfl
 have Y8:=n1.n
 have Ni:=hs H dE
 rw[hC] at Ni
 obtain⟨v2,aB,bw,sH,dU,bD,eb⟩:=vG sG (B:=H.n) (h:=H) (v:=.a0) (ds:=[]) (es:=ps) (.inl ⟨rfl,rfl⟩) (Nat.le_refl _) (by rw[Ni,kn,ou]) (by simp;omega)
 rw[List.nil_append] at sH
 rw[<-hC] at bw
 have b4:aB.get ax.n=some (.cells [.int .i64 (Int.ofNat 8),.str [],.a0,.a0,.ptr r 0] 80 .own 0 0):=(dU.get _ (by omega)).trans wJ
 obtain⟨bE,mr⟩:∃bE,bE=aB.set ax.n (some (.cells [.int .i64 (Int.ofNat 8),.str [],.a0,v2,.ptr r 0] 80 .own 0 0)):=⟨_,rfl⟩
 have Y9:Ext h.n h aB:=dE.trans dE.n dU
 have g_:Ext h.n h bE:=by rw[mr];exact Ext.iX Y8 Y9
 have bT:bE.n=aB.n:=by rw[mr];rfl
 have uC:jQ H.n bE v2 ps:=by rw[mr];exact cC.r3 sH b4
 have Y_:=dU.n
 have zp:gh aO bE (.mk 8 [] [] l (some x)) (.ptr ax.n 0):=by
  refine⟨ax.n,.a0,v2,.ptr r 0,vs,.own,0,0,rfl,⟨by omega,by omega⟩,by rw[mr];exact gR rfl,.inl ⟨rfl,rfl⟩,?_,aC.g5 g_,aj.g5 g_⟩
  rw[ou]
  exact B6 uC (cC.jB uC (by omega))
 have bx:=Gu 8 [] l (some x) ag (by omega)
 refine YM (m+2) b off vs.length r cp h (R:=zo aO h (.mk 8 [] [] l (some x))) ⟨true,ai,aH,λ_=>?_,λh=>by cases h⟩
 obtain⟨w,n,bS,fH,f5⟩:=yd m aO g_ zp (by omega) (by omega)
 subst cl
 exact⟨0,ax,a9,rfl,.a0,aV wJ rfl,v2,aB,bw,cC.cell sH,bE,by rw[mr];exact gS b4 rfl (Gv (cC.cell sH)).2,w,n,bS,fH,f5⟩
theorem Za:∀i,i<3->∀j,j<i->dF (gg[j]?.getD []) (gg[i]?.getD [])=true:=by decide
theorem Zb:∀i,i<3->hX (gg[i]?.getD [])=true:=by decide
abbrev na(i:Nat):a5:=gg[i]?.getD []
theorem Zc{i:Nat}(h:i<3):gg.take (i+1)=gg.take i++[na i]:=by
 have:i=0\/i=1\/i=2:=by omega
 rcases this with rfl|rfl|rfl<;>rfl
theorem Nj{i:Nat}(h:i<=3):(gg.take i).length=i:=by rw[List.length_take];show min i 3=i;omega
theorem Zd{i j:Nat}(h:i<=3)(aJ:j<(gg.take i).length):(gg.take i)[j]=na j:=by
 have:j<i:=by rw[Nj h] at aJ;exact aJ
 have ar:j<gg.length:=by show j<3;omega
 simp[na,List.getElem?_eq_getElem ar]
theorem Ze(m aO:Nat){h:J}{nb b:Nat}{nc cp:b3}{l:List aE}{vs:List I}(hm:200000<=m)(h7:aO<=h.n)(kZ:nb<h.n)(ae:b<h.n)(jI:∀i,i<vs.length->au h nb (0+i*1)=some (.str (na i)))(aw:∀i (af:i<vs.length),au h b (0+i*1)=some vs[i])(aC:je aO h l vs)(ar:vs.length<=3)(ag:∀t∈l,dm (some t)=0):zo aO h (.mk 7 [] (gg.take l.length) l none) (Y (m+3) (.fn 49) [.slice nb 0 vs.length nc,.slice b 0 vs.length cp] h):=by
 obtain⟨ai,aH,bC⟩:=Gt m (by omega) (Nat.le_refl _) ae aw aC.at (by omega) ag
 have fw:=cY.len aC
 obtain⟨ps,ou⟩:=cY.B8 aC
 have hC:vs.length=ps.length:=by rw[ou,List.length_map]
 have uD:=bC.n
 have bx:=Gu 7 (gg.take l.length) l none ag (by omega)
 have eB:dq none=0:=by rw[dq]
 obtain⟨H,cl⟩:∃H,H=ai.push (.cells [.int .i64 (Int.ofNat 7),.str [],.a0,.a0,.bb] 80 .own 0 0):=⟨_,rfl⟩
 have dE:Ext h.n h H:=by rw[cl];exact Ext.kG bC.n bC
 have wJ:H.get ai.n=some (.cells [.int .i64 (Int.ofNat 7),.str [],.a0,.a0,.bb] 80 .own 0 0):=by rw[cl];exact fo rfl
 have lg:H.n=ai.n+1:=by rw[cl];rfl
 refine YJ (m+2) nb vs.length b nc cp h (R:=zo aO h (.mk 7 [] (gg.take l.length) l none)) ⟨λ_=>⟨true,ai,aH,rfl,?_⟩,λh=>absurd rfl h⟩
 rw[<-cl]
 refine a3.loop (by kernel_rfl) (λk st=>∃i y Γ bL bg,st=⟨Γ,[],.none,y⟩/\b_ [(0,.slice nb 0 vs.length nc),(1,.slice b 0 vs.length cp),(6,.ptr ai.n 0),(7,.int .i64 (Int.ofNat i))] Γ/\vs.length-i=k/\i<=vs.length/\Ext h.n h y/\H.n<=y.n/\y.get ai.n=some (.cells [.int .i64 (Int.ofNat 7),.str [],bL,bg,.bb] 80 .own 0 0)/\p8 H.n y bL (gg.take i)/\jQ H.n y bg (ps.take i)) ?_ vs.length _ (by omega) ⟨0,H,_,.a0,.a0,rfl,⟨rfl,rfl,rfl,rfl,trivial⟩,by omega,by omega,dE,Nat.le_refl _,wJ,.inl ⟨rfl,rfl⟩,.inl ⟨rfl,rfl⟩⟩
 rintro k st ⟨i,y,Γ,bL,bg,rfl,cQ,aq,af,aS,nd,aM,pA,zq⟩
 refine a3.pre (YK (Y (m+2)) nb vs.length b ai.n i nc cp y ⟨λab=>?_,λab=>?_⟩) cQ rfl rfl rfl
 · have Gw:i<3:=by omega
   have jy:(gg.take i).length=i:=Nj (by omega)
   have pX:(ps.take i).length=i:=by rw[List.length_take];omega
   refine⟨ab,na i,iZ aS kZ (jI i ab),true,y,?_,rfl,?_⟩
   · have:=LL m (na i) y
     rw[Zb i Gw] at this
     exact this
   refine a3.loop (by kernel_rfl) (λk st=>∃j z Γ,st=⟨Γ,[],.none,z⟩/\b_ [(0,.slice nb 0 vs.length nc),(1,.slice b 0 vs.length cp),(6,.ptr ai.n 0),(7,.int .i64 (Int.ofNat i)),(8,.int .i64 (Int.ofNat j))] Γ/\i-j=k/\j<=i/\Ext y.n y z) ?_ i _ (by omega) ⟨0,y,_,rfl,⟨rfl,rfl,rfl,rfl,rfl,trivial⟩,by omega,by omega,Ext.refl _ _⟩
   rintro ej st ⟨j,z,cq,rfl,oQ,e3,aJ,a2⟩
   have lV:Ext y.n y (z.room 21):=a2.h_
   have Nk:(z.room 21).get ai.n=some (.cells [.int .i64 (Int.ofNat 7),.str [],bL,bg,.bb] 80 .own 0 0):=(lV.get _ (by omega)).trans aM
   have Nl:p8 H.n (z.room 21) bL (gg.take i):=pA.mono lV (Nat.le_refl _)
   have adG:jQ H.n (z.room 21) bg (ps.take i):=zq.mono lV (Nat.le_refl _)
   have Nm:I.sound bL=true:=cC.sound pA
   have hlen:=cC.len (P:=Tryz.prog) (sT:=63) (by kernel_rfl) Nl (z.room 21)
   rw[jy] at hlen
   refine a3.pre (YL (Y (m+2)) nb vs.length b ai.n i j nc cp z ⟨bL,aV Nk rfl,i,hlen,λgv=>?_,λgv=>?_⟩) oQ rfl rfl rfl
   · have kF:∃p,bL=.slice p 0 i (.a1 1)/\(z.room 21).get p=some (.cells (dR (λd=>[I.str d]) (gg.take i)) 9 .a1 0 0):=by
       rcases Nl with⟨_,e⟩|⟨p,aA,ay,bw,_⟩
       · rw[e] at jy;simp at jy;omega
       · exact⟨p,by rw[aA,jy],bw⟩
     obtain⟨p,rfl,aK⟩:=kF
     have Zf:=aS.trans aS.n lV
     obtain⟨g,j5,qv⟩:=BH (m+1) (na j) (na i) (z.room 21).n (z.room 21) (by
      have:j=0\/j=1:=by omega
      rcases this with rfl|rfl<;>decide)
     rw[Za i Gw j gv] at j5
     refine⟨p,0,i,.a1 1,aV Nk rfl,gv,na j,?_,ab,na i,iZ Zf kZ (jI i ab),true,g,j5,rfl,λ_=>⟨by omega,_,(by show _<ej;omega),j+1,g,_,rfl,⟨rfl,rfl,rfl,rfl,rfl,trivial⟩,rfl,by omega,lV.trans lV.n qv⟩,λh=>by cases h⟩
     refine l8 aK ?_
     rw[kn,List.getElem?_map,Nat.zero_add,Nat.mul_one,List.getElem?_eq_getElem (by omega),Zd (by omega)]
     rfl
   · obtain rfl:j=i:=by omega
     refine⟨Nm,j,_,_,rfl,rfl,⟨rfl,rfl,rfl,rfl,rfl,trivial⟩,?_⟩
     obtain⟨Z,p1⟩:∃Z,Z=(z.room 21).room 21:=⟨_,rfl⟩
     rw[<-p1]
     have zr:Ext y.n y Z:=by rw[p1];exact lV.h_
     have adH:=zr.n
     have Ca:Z.get ai.n=some (.cells [.int .i64 (Int.ofNat 7),.str [],bL,bg,.bb] 80 .own 0 0):=(zr.get _ (by omega)).trans aM
     have Nn:p8 H.n Z bL (gg.take j):=pA.mono zr (Nat.le_refl _)
     have Zg:jQ H.n Z bg (ps.take j):=zq.mono zr (Nat.le_refl _)
     have hlen:=cC.len (P:=Tryz.prog) (sT:=63) (by kernel_rfl) Nn Z
     rw[jy] at hlen
     obtain⟨dp,eS,eb,s1,s2,bK,eG,gO,bN,ch,qS,k_,ho,c3,dA,oX,n5⟩:=grow Y6 Nn (na j) 9 (k:=j) (by omega) (by omega)
     have gJ:(gg.take j).take j++na j::(gg.take j).drop j=gg.take (j+1):=by
      have ab:(gg.take j).take j=gg.take j:=List.take_of_length_le (by omega)
      have ad:(gg.take j).drop j=[]:=List.drop_of_length_le (by omega)
      rw[ab,ad,Zc Gw]
     rw[gJ] at n5
     have fI:ho.get ai.n=some (.cells [.int .i64 (Int.ofNat 7),.str [],bL,bg,.bb] 80 .own 0 0):=(oX.get _ (by omega)).trans Ca
     have fX:gO.get ai.n=some (.cells [.int .i64 (Int.ofNat 7),.str [],bL,bg,.bb] 80 .own 0 0):=(ch.get _ (by omega)).trans Ca
     obtain⟨im,zs⟩:∃im,im=ho.set ai.n (some (.cells [.int .i64 (Int.ofNat 7),.str [],k_,bg,.bb] 80 .own 0 0)):=⟨_,rfl⟩
     have zk:im.get ai.n=some (.cells [.int .i64 (Int.ofNat 7),.str [],k_,bg,.bb] 80 .own 0 0):=by rw[zs];exact gR rfl
     have cx:im.n=ho.n:=by rw[zs];rfl
     have Zh:p8 Z.n im k_ (gg.take (j+1)):=by rw[zs];exact cC.r3 n5 fI
     have adI:=oX.n
     have No:∀d,d<Z.n->d≠ai.n->im.get d=Z.get d:=λd ao ag=>by rw[zs];exact(dM ag rfl).trans (oX.get d ao)
     have Zi:jQ H.n im bg (ps.take j):=cC.YE Zg (by omega) λd ab ad=>No d ad (by omega)
     obtain⟨ed,ja,ec,t1,t2,t3,pM,fb,t4,t5,y8,wq,ml,t6,t7,t8,t9⟩:=grow sG Zi (ps[j]'(by omega)) 35 (k:=j) (by omega) (by omega)
     have wK:(ps.take j).take j++(ps[j]'(by omega))::(ps.take j).drop j=ps.take (j+1):=by
      have ab:(ps.take j).take j=ps.take j:=List.take_of_length_le (by omega)
      have ad:(ps.take j).drop j=[]:=List.drop_of_length_le (by omega)
      rw[ab,ad,List.take_succ_eq_append_getElem (by omega:j<ps.length)]
     rw[wK] at t9
     have Gx:ml.get ai.n=some (.cells [.int .i64 (Int.ofNat 7),.str [],k_,bg,.bb] 80 .own 0 0):=(t8.get _ (by omega)).trans zk
     have Zj:fb.get ai.n=some (.cells [.int .i64 (Int.ofNat 7),.str [],k_,bg,.bb] 80 .own 0 0):=(t5.get _ (by omega)).trans zk
     obtain⟨zt,wL⟩:∃zt,zt=ml.set ai.n (some (.cells [.int .i64 (Int.ofNat 7),.str [],k_,wq,.bb] 80 .own 0 0)):=⟨_,rfl⟩
     have adJ:=t8.n
     have eO:zt.n=ml.n:=by rw[wL];rfl
     have zu:Ext h.n h Z:=aS.trans aS.n zr
     have up:∀{x},Ext Z.n Z x->Ext h.n h x:=λe=>zu.trans zu.n e
     have Gy:Ext h.n h im:=⟨by have:=zu.n;omega,λd ao=>(No d (by have:=zu.n;omega) (by omega)).trans (zu.get d ao)⟩
     have Np:∀{x},Ext im.n im x->Ext h.n h x:=λe=>Gy.trans Gy.n e
     have lW:∀{x},Ext h.n h x->au x b (0+j*1)=some (.ptr (ps[j]'(by omega)) 0):=λe=>by
      rw[iZ e ae (aw j ab)];simp[ou]
     refine⟨bL,aV Ca rfl,j,hlen,by omega,Nm,bL,aV Ca rfl,dp,s1,eS,eb,s2,ab,na j,iZ (up bK) kZ (jI j ab),eG,gO,bN,bL,aV fX rfl,qS,c3,k_,ho,dA,cC.cell n5,im,by rw[zs];exact gS fI rfl (Gv (cC.cell n5)).1,bg,aV zk rfl,ed,t1,ja,ec,t2,ab,_,lW (Np t3),pM,fb,t4,bg,aV Zj rfl,y8,t6,wq,ml,t7,cC.cell t9,zt,by rw[wL];exact gS Gx rfl (Gv (cC.cell t9)).2,by omega,_,(by show _<k;omega),j+1,zt,_,k_,wq,rfl,⟨rfl,rfl,rfl,rfl,trivial⟩,rfl,by omega,?_,by omega,by rw[wL];exact gR rfl,?_,?_⟩
     · exact⟨by have:=Gy.n;omega,λd ao=>by rw[wL];exact(dM (by omega) rfl).trans ((Np t8).get d ao)⟩
     · refine cC.le (by omega:H.n<=Z.n) ?_
       rw[wL]
       exact cC.r3 (Zh.mono t8 (Nat.le_refl _)) Gx
     · refine cC.le (by omega:H.n<=im.n) ?_
       rw[wL]
       exact cC.r3 t9 Gx
 · obtain rfl:i=vs.length:=by omega
   have jy:ps.take vs.length=ps:=List.take_of_length_le (by omega)
   rw[jy] at zq
   have zp:gh aO y (.mk 7 [] (gg.take l.length) l none) (.ptr ai.n 0):=by
    refine⟨ai.n,bL,bg,.bb,vs,.own,0,0,rfl,⟨by omega,by omega⟩,aM,?_,?_,aC.g5 aS,rfl⟩
    · rw[<-fw];exact B6 pA (cC.jB pA (by omega))
    · rw[ou];exact B6 zq (cC.jB zq (by omega))
   obtain⟨w,n,bS,fH,f5⟩:=yd m aO aS zp (by omega) (by omega)
   exact⟨ai.n,y,_,rfl,rfl,⟨rfl,trivial⟩,w,n,bS,fH,f5⟩
end Go.Proofs.dj
namespace Go.Proofs.dj
open Go aP Go.Proofs c8 Go.Proofs.cG
set_option maxRecDepth 100000
set_option maxHeartbeats 1000000
theorem Nq{t:aE}:∀{l:List aE},t∈l->t.k=1->hd l=none
 |[],h,_=>by cases h
 |x::l,h,aq=>by
  rw[hd]
  rcases List.mem_cons.1 h with rfl|h
  · rw[if_pos aq]
  · split
    · rfl
    · rw[Nq h aq];rfl
theorem Nr{t:aE}(aq:¬t.k=1):∀{l f:List aE},hd l=some f->hd (l++[t])=some (f++if t.k=9 then t.xs else[t])
 |[],f,h=>by
  cases h
  rw[List.nil_append,hd,if_neg aq,hd];simp
 |x::l,f,h=>by
  rw[hd] at h
  split at h
  · cases h
  · rename_i aa
    cases e:hd l with
    |none=>rw[e] at h;cases h
    |some r=>
     rw[e] at h
     cases h
     rw[List.cons_append,hd,if_neg aa,Nr aq e]
     simp
theorem Ns{t:aE}:∀(acc:List aE) (j:Nat),j<=acc.length->(∀i (af:i<acc.length),i<j->dF (wr acc[i]) (wr t)=true)->
  (j=acc.length->ie t acc=acc.take j++t::acc.drop j)/\(∀aJ:j<acc.length,dF (wr acc[j]) (wr t)=false->(wr acc[j]=wr t->ie t acc=acc)/\(¬wr acc[j]=wr t->ie t acc=acc.take j++t::acc.drop j))
 |[],j,aJ,_=>by
  obtain rfl:j=0:=by simpa using aJ
  exact⟨λ_=>rfl,λh=>by simp at h⟩
 |x::acc,0,_,_=>by
  refine⟨λh=>by simp at h,λ_ cd=>?_⟩
  have cd:dF (wr x) (wr t)=false:=cd
  rw[ie,if_neg (by rw[cd];simp)]
  refine⟨λe=>?_,λe=>?_⟩
  · have e:wr x=wr t:=e
    rw[if_pos e]
  · have e:¬wr x=wr t:=e
    rw[if_neg e];rfl
 |x::acc,j+1,aJ,aw=>by
  have h0:dF (wr x) (wr t)=true:=aw 0 (by simp) (by omega)
  obtain⟨i1,i2⟩:=Ns (t:=t) acc j (by simpa using aJ) λi af rU=>by
   have:=aw (i+1) (by simpa using af) (by omega)
   simpa using this
  rw[ie,if_pos h0]
  refine⟨λe=>?_,λgv cd=>?_⟩
  · rw[i1 (by simpa using e)];rfl
  · have Zk:j<acc.length:=by simpa using gv
    have xx:dF (wr acc[j]) (wr t)=false:=by simpa using cd
    obtain⟨bH,bY⟩:=i2 Zk xx
    refine⟨λe=>?_,λe=>?_⟩
    · rw[bH (by simpa using e)]
    · rw[bY (by simpa using e)];rfl
theorem Nt(l:List aE)(t:aE):eP (l++[t])=ie t (eP l):=by unfold eP;rw[List.foldl_append];rfl
def Gz(l:List aE):Prop:=∃f,hd l=some f/\(eP f).length≠1/\60<sz (.mk 9 [] [] (eP f) none)
def Nu(aO:Nat)(h:J)(l:List aE)(x:av):Prop:=∃g,Ext h.n h g/\((¬Gz l/\∃r,x=.ret (.aQ [.ptr r 0,.int .i64 (Int.ofNat 0)]) g/\gh aO g (m8 l) (.ptr r 0))\/(Gz l/\x=.ret (.aQ [.bb,.int .i64 (Int.ofNat 3)]) g))
theorem Nv(m aO:Nat){h:J}{t:aE}{r:Nat}(aC:gh aO h t (.ptr r 0))(ag:dm (some t)=0)(hm:62<=m):∃g,Y m (.fn 79) [.ptr r 0] h=.ret (.str (wr t)) g/\Ext h.n h g:=by
 obtain⟨ab,ad⟩:=kR.1 ag
 have:=v5 t ad
 exact BK (sz t) t (Nat.le_refl _) (by omega) (yT t ad) (by omega) m h.n h _ (by omega) (Nat.le_refl _) aC.at
theorem eU.node{F:Nat->Prop}{h:J}:∀{t:aE} {r:Nat},eU F h t (.ptr r 0)->∃bL bg c2 vs bh aO up,h.get r=some (.cells [.int .i64 (Int.ofNat t.k),.str t.nm,bL,bg,c2] 80 bh aO up)/\km F h bg vs/\cY F h t.xs vs/\F r
 |.mk _ _ _ _ _,_,aa=>by
  obtain⟨r,bL,bg,c2,vs,bh,aO,up,ab,ad,ar,_,bJ,cu,_⟩:=aa
  cases ab
  exact⟨bL,bg,c2,vs,bh,aO,up,ar,bJ,cu,ad⟩
theorem cY.nil{F:Nat->Prop}{h:J}:cY F h [] []:=rfl
theorem cY.cons{F:Nat->Prop}{h:J}{t:aE}{v:I}{ck:List aE}{vs:List I}(ba:eU F h t v)(hs:cY F h ck vs):cY F h (t::ck) (v::vs):=⟨v,vs,rfl,ba,hs⟩
theorem km.src{F:Nat->Prop}{h:J}{v:I}{vs:List I}(hs:km F h v vs):fV h 1 v=some (vs.length,vs):=by
 rcases hs with⟨rfl,rfl⟩|⟨b,off,cp,rfl,_,ar,aG,bJ⟩
 · rfl
 · exact db.src (B:=0) ar aG bJ.1
theorem Zl(m aO:Nat){h:J}{b off:Nat}{cp:b3}{l:List aE}{ps:List Nat}(h7:aO<=h.n)(ae:b<h.n)(aw:∀i (af:i<ps.length),au h b (off+i*1)=some (.ptr ps[i] 0))(aC:je aO h l (ps.map hv))(hlen:ps.length<=10)(ag:∀t∈l,dm (some t)=0){Q:bn->ah->Prop}
  (ab:∀g f w dQ Γ,Ext h.n h g->hd l=some f->jQ h.n g w dQ->je aO h f (dQ.map hv)->b_ [(4,w)] Γ->Q (.exit 0) ⟨Γ,[],.none,g⟩)
  (ad:∀g r Γ,Ext h.n h g->hd l=none->gh aO g F9 (.ptr r 0)->b_ [(2,.ptr r 0),(3,.int .i64 (Int.ofNat 0))] Γ->Q .ret ⟨Γ,[],.none,g⟩):
  a3 Tryz.prog Tryz.f51 (Y (m+2)) [1,1,1,0,1,0] ⟨[(0,.slice b off ps.length cp),(4,.a0),(5,.int .i64 (Int.ofNat 0))],[],.none,h⟩ Q:=by
 have fw:ps.length=l.length:=by have:=cY.len aC;rwa [List.length_map] at this
 refine a3.loop (by kernel_rfl) (λk st=>∃i y Γ w f dQ,st=⟨Γ,[],.none,y⟩/\b_ [(0,.slice b off ps.length cp),(4,w),(5,.int .i64 (Int.ofNat i))] Γ/\ps.length-i=k/\i<=ps.length/\Ext h.n h y/\hd (l.take i)=some f/\jQ h.n y w dQ/\je aO h f (dQ.map hv)) ?_ ps.length _ (by omega) ⟨0,h,_,.a0,[],[],rfl,⟨rfl,rfl,rfl,trivial⟩,by omega,by omega,Ext.refl _ _,rfl,.inl ⟨rfl,rfl⟩,rfl⟩
 rintro k st ⟨i,y,Γ,w,f,dQ,rfl,cQ,aq,af,aS,hf,gi,j6⟩
 refine a3.pre (YO (Y (m+2)) b off _ i cp w y ⟨λi1=>?_,λi1=>?_⟩) cQ rfl rfl rfl
 · have i2:i<l.length:=by omega
   have GA:gh aO h l[i] (.ptr ps[i] 0):=by
    have:=cY.get aC i (by simpa using i1) i2
    simpa using this
   have xF:gh aO y l[i] (.ptr ps[i] 0):=GA.g5 aS
   have lW:=iZ aS ae (aw i i1)
   obtain⟨bL,bg,c2,vs,bh,rB,up,ai,ax,aB,bE⟩:=eU.node xF
   have nd:=aS.n
   have Zm:=Gl (l:=l.take i) (λt ba=>ag t (List.mem_of_mem_take ba)) hf
   have oY:dQ.length=f.length:=by have:=cY.len j6;rwa [List.length_map] at this
   have xA:(l.take i).length<=10:=by rw[List.length_take];omega
   have adK:f.length<=600:=by omega
   refine⟨i1,_,lW,l[i].k,aV ai rfl,λbH=>?_,λbH=>?_⟩
   · refine ad _ y.n _ (Ext.kG nd aS) (Nq (List.getElem_mem i2) bH) ?_ ⟨rfl,rfl,trivial⟩
     exact⟨y.n,.a0,.a0,.bb,[],.own,0,0,rfl,⟨by omega,by simp⟩,fo rfl,.inl ⟨rfl,rfl⟩,.inl ⟨rfl,rfl⟩,rfl,rfl⟩
   have nQ:=Nr bH hf
   rw[<-List.take_succ_eq_append_getElem i2] at nQ
   refine⟨i1,_,lW,l[i].k,aV ai rfl,λiO=>?_,λiO=>?_⟩
   · obtain⟨us,iU⟩:=cY.B8 aB
     have pU:=(kR.1 (ag _ (List.getElem_mem i2))).1
     have HJ:us.length<=60:=by
      have aA:=cY.len aB
      rw[iU,List.length_map] at aA
      have ay:=nU l[i].xs
      have bw:c1 l[i].xs<=sz l[i]:=by
       cases l[i] with
       |mk cr cZ dp eS eG=>rw[mf];show c1 eS<=_;omega
      omega
     have fD:=km.src ax
     rw[iU,List.length_map] at fD
     obtain⟨v',g,aA,dz,bC,aD,_⟩:=vG sG (B:=h.n) (es:=us) gi nd (by rw[fD,kn]) (by omega)
     refine⟨i1,_,lW,bg,aV ai rfl,v',g,aA,by omega,_,(by show _<k;omega),i+1,g,_,v',f++l[i].xs,dQ++us,rfl,⟨rfl,rfl,rfl,trivial⟩,rfl,by omega,aS.trans (Nat.le_refl _) bC,by rw[nQ,if_pos iO],dz,?_⟩
     obtain⟨Zn,j7,Zo,vc,Zp,Zq,Zr,GB,zv,GC,GD⟩:=eU.node GA
     have ay:some (df.cells [.int .i64 (Int.ofNat l[i].k),.str l[i].nm,Zn,j7,Zo] 80 Zp Zq Zr)=some (df.cells [.int .i64 (Int.ofNat l[i].k),.str l[i].nm,bL,bg,c2] 80 bh rB up):=by rw[<-GB,<-ai];exact(aS.get _ GD.2).symm
     have bw:j7=bg:=by injection ay with ay;injection ay with ay;injection ay with _ ay;injection ay with _ ay;injection ay with _ ay;injection ay with ay
     rw[bw] at zv
     have eh:=km.src zv
     have fH:=km.src (km.b8 (G:=oV aO y.n) (g:=y) (Ext.jB aS) zv)
     rw[km.src ax] at fH
     have gI:vc=vs:=by injection fH with fH;injection fH with _ fH;exact fH.symm
     rw[List.map_append]
     refine cY.app ?_ j6
     rw[<-iU,<-gI];exact GC
   · obtain⟨v',g,aA,dz,bC,aD,_⟩:=vG sG (B:=h.n) (es:=[ps[i]]) (gi.mono (Ext.push (Nat.le_refl _) _) (Nat.le_refl _)) (by simp;omega) (yr sG y 35 ps[i]) (by rw[List.length_singleton];omega)
     refine⟨i1,_,lW,v',g,aA,by omega,_,(by show _<k;omega),i+1,g,_,v',f++[l[i]],dQ++[ps[i]],rfl,⟨rfl,rfl,rfl,trivial⟩,rfl,by omega,(Ext.kG nd aS).trans (Nat.le_refl _) bC,by rw[nQ,if_neg iO],dz,?_⟩
     rw[List.map_append]
     exact cY.app (cY.cons GA cY.nil) j6
 · obtain rfl:i=ps.length:=by omega
   rw[List.take_of_length_le (by omega)] at hf
   exact ab y f w dQ _ aS hf gi j6 ⟨rfl,trivial⟩
theorem Zs(m aO:Nat){h:J}{jB:Nat}{sI:b3}{f:List aE}{bV:List Nat}(hm:100<=m)(h7:aO<=h.n)(ae:jB<h.n)(aw:∀i (af:i<bV.length),au h jB (0+i*1)=some (.ptr bV[i] 0))(aC:je aO h f (bV.map hv))(hlen:bV.length<=900)(ag:∀t∈f,dm (some t)=0)(h0:0<bV.length){Q:bn->ah->Prop}
  (ab:∀g p dQ Γ,Ext h.n h g->jQ h.n g (.slice p 0 dQ.length (.a1 1)) dQ->je aO h (eP f) (dQ.map hv)->b_ [(6,.slice p 0 dQ.length (.a1 1))] Γ->Q (.exit 2) ⟨Γ,[],.none,g⟩):
  a3 Tryz.prog Tryz.f51 (Y (m+1)) [1,1,1,1,1,0,1,0] ⟨[(4,.slice jB 0 bV.length sI),(6,.a0),(7,.int .i64 (Int.ofNat 0))],[],.none,h⟩ Q:=by
 have fw:bV.length=f.length:=by have:=cY.len aC;rwa [List.length_map] at this
 refine a3.loop (by kernel_rfl) (λk st=>∃i y Γ w dQ,st=⟨Γ,[],.none,y⟩/\b_ [(4,.slice jB 0 bV.length sI),(6,w),(7,.int .i64 (Int.ofNat i))] Γ/\bV.length-i=k/\i<=bV.length/\Ext h.n h y/\jQ h.n y w dQ/\je aO h (eP (f.take i)) (dQ.map hv)) ?_ bV.length _ (by omega) ⟨0,h,_,.a0,[],rfl,⟨rfl,rfl,rfl,trivial⟩,by omega,by omega,Ext.refl _ _,.inl ⟨rfl,rfl⟩,rfl⟩
 rintro k st ⟨i,y,Γ,w,dQ,rfl,cQ,aq,af,aS,gi,j6⟩
 have nd:=aS.n
 have oY:dQ.length=(eP (f.take i)).length:=by have:=cY.len j6;rwa [List.length_map] at this
 have jm:dQ.length<=i:=by
  have:=(zm (f.take i) []).2.1
  rw[List.length_take] at this
  have e:(eP (f.take i)).length<=([]:List aE).length+min i f.length:=this
  simp at e;omega
 have fC:∀t∈eP (f.take i),dm (some t)=0:=λt ba=>by
  rcases zg (f.take i) [] ba with h|h
  · exact ag t (List.mem_of_mem_take h)
  · cases h
 have zw:∀{x},Ext h.n h x->∀j (aJ:j<bV.length),au x jB (0+j*1)=some (.ptr bV[j] 0):=λe j aJ=>iZ e ae (aw j aJ)
 have i_:∀j (aJ:j<f.length) (gv:j<bV.length),gh aO h f[j] (.ptr bV[j] 0):=λj aJ gv=>by
  have:=cY.get aC j (by simpa using gv) aJ
  simpa using this
 have Zt:∀j (aJ:j<(eP (f.take i)).length) (gv:j<dQ.length),gh aO h (eP (f.take i))[j] (.ptr dQ[j] 0):=λj aJ gv=>by
  have:=cY.get j6 j (by simpa using gv) aJ
  simpa using this
 have fin:∀(i1:i<bV.length) (Z:J) (j:Nat),Ext h.n h Z->(∀p,w=.slice p 0 dQ.length (.a1 1)->Z.get p=y.get p)->y.n<=Z.n->j<=dQ.length->ie (f[i]'(by omega)) (eP (f.take i))=(eP (f.take i)).take j++f[i]'(by omega)::(eP (f.take i)).drop j->
   ∃dc v4 aB,di Tryz.prog Z 50 w none (some (.int .i64 (Int.ofNat j))) none=some dc/\dt Tryz.prog Z 50 (some 50) .a0 dc=some (v4,aB)/\au aB jB (0+i*1)=some (.ptr (bV[i]) 0)/\
   ∃fM bE,dt Tryz.prog (aB.push (.cells [.ptr bV[i] 0] 35 .own 0 0)) 50 (some 50) v4 (.slice aB.n 0 1 (.exact 1))=some (fM,bE)/\
   ∃ic ht bS,di Tryz.prog bE 50 w (some (.int .i64 (Int.ofNat j))) none none=some ic/\dt Tryz.prog bE 50 (some 50) fM ic=some (ht,bS)/\∃sJ,Ext h.n h bS/\jQ h.n bS ht sJ/\je aO h (eP (f.take (i+1))) (sJ.map hv):=by
  intro i1 Z j p1 hw Zu aJ Zv
  have i2:i<f.length:=by omega
  have Zw:jQ h.n Z w dQ:=cC.b8 gi Zu λp aK _=>hw p aK
  obtain⟨dp,eS,eb,s1,s2,bK,eG,gO,bN,ch,qS,k_,ho,c3,dA,oX,n5⟩:=grow sG Zw bV[i] 35 aJ (by omega)
  refine⟨dp,eS,eb,s1,s2,zw (p1.trans p1.n bK) i i1,eG,gO,bN,qS,k_,ho,c3,dA,_,p1.trans p1.n oX,cC.le p1.n n5,?_⟩
  rw[List.take_succ_eq_append_getElem i2,Nt,Zv,List.map_append,List.map_cons,List.map_take,List.map_drop]
  exact cY.app (cY.cons (i_ i i2 i1) (cY.drop j j6)) (cY.take j j6)
 have Zx:∀a b:a5,dK a b=true->a=b:=λa b h=>by simpa[oe] using h
 rcases gi with⟨rfl,rfl⟩|⟨p,rfl,fs,jk,lp,p2⟩
 · refine a3.pre (YQ (Y (m+1)) jB _ i sI y ⟨λi1=>?_,λi1=>?_⟩) cQ rfl rfl rfl
   · have c9:eP (f.take i)=[]:=List.eq_nil_of_length_eq_zero (by rw[<-oY];rfl)
     refine a3.loop (by kernel_rfl) (λk st=>∃Γ,st=⟨Γ,[],.none,y⟩/\b_ [(4,.slice jB 0 bV.length sI),(6,.a0),(7,.int .i64 (Int.ofNat i)),(8,.int .i64 (Int.ofNat 0))] Γ) ?_ 0 _ (by omega) ⟨_,rfl,rfl,rfl,rfl,rfl,trivial⟩
     rintro ej st ⟨cq,rfl,oQ⟩
     refine a3.pre (YS (Y (m+1)) jB _ i sI y ⟨by omega,?_⟩) oQ rfl rfl rfl
     obtain⟨dc,v4,aB,s1,s2,bK,fM,bE,bN,ic,ht,bS,ch,c3,sJ,dA,oX,n5⟩:=fin i1 ((y.room 17).room 17) 0 (aS.h_.h_) (λp aK=>by cases aK) (by simp;omega) (by simp) (by rw[c9];rfl)
     exact⟨0,_,_,rfl,rfl,⟨rfl,rfl,rfl,rfl,trivial⟩,by omega,dc,s1,v4,aB,s2,i1,_,bK,fM,bE,bN,ic,ch,ht,bS,c3,by omega,_,(by show _<k;omega),i+1,bS,_,ht,sJ,rfl,⟨rfl,rfl,rfl,trivial⟩,rfl,by omega,dA,oX,n5⟩
   · exfalso
     have e:i=bV.length:=by omega
     subst e
     have:=(zm (f.take bV.length) []).2.2 (by rw[List.length_take];omega)
     have aA:0<(eP (f.take bV.length)).length:=this
     rw[<-oY] at aA;simp at aA
 · have gi:jQ h.n y (.slice p 0 dQ.length (.a1 1)) dQ:=.inr ⟨p,rfl,fs,jk,lp,p2⟩
   refine a3.pre (YP (Y (m+1)) jB _ p _ i sI (.a1 1) y ⟨λi1=>?_,λi1=>?_⟩) cQ rfl rfl rfl
   · have i2:i<f.length:=by omega
     have ci:=ag _ (List.getElem_mem i2)
     refine a3.loop (by kernel_rfl) (λk st=>∃j z Γ,st=⟨Γ,[],.none,z⟩/\b_ [(4,.slice jB 0 bV.length sI),(6,.slice p 0 dQ.length (.a1 1)),(7,.int .i64 (Int.ofNat i)),(8,.int .i64 (Int.ofNat j))] Γ/\dQ.length-j=k/\j<=dQ.length/\Ext y.n y z/\∀a (aT:a<(eP (f.take i)).length),a<j->dF (wr (eP (f.take i))[a]) (wr f[i])=true) ?_ dQ.length _ (by omega) ⟨0,y,_,rfl,⟨rfl,rfl,rfl,rfl,trivial⟩,by omega,by omega,Ext.refl _ _,λa _ h=>absurd h (by omega)⟩
     rintro ej st ⟨j,z,cq,rfl,oQ,e3,aJ,a2,cd⟩
     obtain⟨Zy,Zz⟩:=Ns (t:=f[i]) (eP (f.take i)) j (by omega) cd
     have lV:Ext y.n y (z.room 17):=a2.h_
     have row:∀{x},Ext y.n y x->∀j (aJ:j<dQ.length),au x p (0+j*1)=some (.ptr dQ[j] 0):=λe j aJ=>by
      refine l8 ((e.get p p2).trans jk) ?_
      rw[kn,List.getElem?_map,Nat.zero_add,Nat.mul_one,List.getElem?_eq_getElem (by omega)]
      rfl
     have go:∀{x},Ext y.n y x->Ext h.n h x:=λe=>aS.trans nd e
     have two:∀(gv:j<dQ.length) {x},Ext y.n y x->∃ai ax,Y (m+1) (.fn 79) [.ptr dQ[j] 0] x=.ret (.str (wr ((eP (f.take i))[j]'(by omega)))) ai/\Ext y.n y ai/\Y (m+1) (.fn 79) [.ptr bV[i] 0] ai=.ret (.str (wr f[i])) ax/\Ext y.n y ax:=λgv {x} e=>by
      obtain⟨ai,cN,bC⟩:=Nv (m+1) aO ((Zt j (by omega) gv).g5 (go e)) (fC _ (List.getElem_mem (by omega))) (by omega)
      have ju:=e.trans e.n bC
      obtain⟨ax,cK,c0⟩:=Nv (m+1) aO ((i_ i i2 i1).g5 (go ju)) ci (by omega)
      exact⟨ai,ax,cN,ju,cK,ju.trans ju.n c0⟩
     refine a3.pre (YR (Y (m+1)) jB _ p _ i j sI (.a1 1) z ⟨λgv=>?_,λgv=>?_⟩) oQ rfl rfl rfl
     · obtain⟨ai,ax,cN,ju,cK,eN⟩:=two gv lV
       have y2:(wr ((eP (f.take i))[j]'(by omega))).length<=90000:=by
        have a9:=kR.1 (fC ((eP (f.take i))[j]'(by omega)) (List.getElem_mem (by omega)))
        have:=v5 _ a9.2
        omega
       obtain⟨aB,iK,dU⟩:=BH m (wr ((eP (f.take i))[j]'(by omega))) (wr f[i]) ax.n ax y2
       have Nw:=eN.trans eN.n dU
       refine⟨gv,_,row lV j gv,_,ai,cN,i1,_,zw (go ju) i i1,_,ax,cK,_,aB,iK,zw (go lV) i i1,λae=>?_,λae=>?_⟩
       · refine⟨by omega,_,(by show _<ej;omega),j+1,aB,_,rfl,⟨rfl,rfl,rfl,rfl,trivial⟩,rfl,by omega,Nw,λa aT adL=>?_⟩
         by_cases e:a=j
         · subst e;exact ae
         · exact cd a aT (by omega)
       · refine⟨j,aB,_,rfl,rfl,⟨rfl,rfl,rfl,rfl,trivial⟩,λ_=>?_,λh=>absurd gv h⟩
         have GF:Ext y.n y (aB.room 17):=Nw.h_
         obtain⟨bH,bY,cN,ep,cK,gk⟩:=two gv GF
         obtain⟨ZA,M2⟩:=Zz (by omega) ae
         refine⟨gv,_,row GF j gv,_,bH,cN,i1,_,zw (go ep) i i1,_,bY,cK,zw (go GF) i i1,λaM=>?_,λaM=>?_⟩
         · refine⟨by omega,_,(by show _<k;omega),i+1,bY,_,_,dQ,rfl,⟨rfl,rfl,rfl,trivial⟩,rfl,by omega,go gk,gi.mono gk (Nat.le_refl _),?_⟩
           rw[List.take_succ_eq_append_getElem i2,Nt,ZA (Zx _ _ aM)]
           exact j6
         · obtain⟨dc,v4,aB,s1,s2,bK,fM,bE,bN,ic,ht,bS,ch,c3,sJ,dA,oX,n5⟩:=fin i1 bY j (go gk) (λq tm=>by cases tm;exact gk.get _ p2) gk.n (by omega) (M2 λe=>by rw[e,Kp] at aM;cases aM)
           exact⟨dc,s1,v4,aB,s2,i1,_,bK,fM,bE,bN,ic,ch,ht,bS,c3,by omega,_,(by show _<k;omega),i+1,bS,_,ht,sJ,rfl,⟨rfl,rfl,rfl,trivial⟩,rfl,by omega,dA,oX,n5⟩
     · obtain rfl:j=dQ.length:=by omega
       refine⟨_,_,_,rfl,rfl,⟨rfl,rfl,rfl,rfl,trivial⟩,λh=>absurd h (by omega),λ_=>?_⟩
       have GG:Ext y.n y ((z.room 17).room 17):=lV.h_
       obtain⟨dc,v4,aB,s1,s2,bK,fM,bE,bN,ic,ht,bS,ch,c3,sJ,dA,oX,n5⟩:=fin i1 ((z.room 17).room 17) dQ.length (go GG) (λq tm=>by cases tm;exact GG.get _ p2) GG.n (by omega) (Zy oY)
       exact⟨dc,s1,v4,aB,s2,i1,_,bK,fM,bE,bN,ic,ch,ht,bS,c3,by omega,_,(by show _<k;omega),i+1,bS,_,ht,sJ,rfl,⟨rfl,rfl,rfl,trivial⟩,rfl,by omega,dA,oX,n5⟩
   · obtain rfl:i=bV.length:=by omega
     rw[List.take_of_length_le (by omega)] at j6
     exact ab y p dQ _ aS gi j6 ⟨rfl,trivial⟩
theorem ZB(m aO:Nat){h:J}{b off:Nat}{cp:b3}{l:List aE}{ps:List Nat}(hm:200000<=m)(h7:aO<=h.n)(ae:b<h.n)(aw:∀i (af:i<ps.length),au h b (off+i*1)=some (.ptr ps[i] 0))(aC:je aO h l (ps.map hv))(h0:0<ps.length)(hlen:ps.length<=10)(ag:∀t∈l,dm (some t)=0):Nu aO h l (Y (m+3) (.fn 51) [.slice b off ps.length cp] h):=by
 have fw:ps.length=l.length:=by have:=cY.len aC;rwa [List.length_map] at this
 obtain⟨ai,aH,bC⟩:=Gt m (vs:=ps.map hv) (cp:=cp) (by omega) (Nat.le_refl _) ae (λi af=>by rw[aw i (by simpa using af)];simp) aC.at (by rw[List.length_map];omega) ag
 rw[List.length_map] at aH
 have uD:=bC.n
 refine YN (m+2) b off ps.length cp h (R:=Nu aO h l) ⟨λe=>absurd e (by omega),λ_=>⟨true,ai,aH,rfl,?_⟩⟩
 refine Zl m aO (h:=ai) (by omega) (by omega) (λi af=>iZ bC ae (aw i af)) (aC.g5 bC) hlen ag (λy f w bV Γ aS hf gi j6 cQ=>?_) (λy r Γ aS hf nf cQ=>?_)
 · have adM:=M3 ag (by omega) hf
   have Zm:=Gl ag hf
   have BD:bV.length=f.length:=by have:=cY.len j6;rwa [List.length_map] at this
   have Nx:∀t∈f,dm (some t)=0:=λt ba=>by
    rcases B3 hf ba with hm|⟨x,ab,ad⟩
    · exact ag t hm
    · exact uA (ag x ab) ad
   have nd:=aS.n
   rcases gi with⟨_,e⟩|⟨p,rfl,fs,jk,lp,p2⟩
   · rw[e] at BD;simp at BD;omega
   left
   refine⟨p,0,bV.length,.a1 1,y,Γ,rfl,rfl,cQ,?_⟩
   refine Zs (m+1) aO (h:=y) (by omega) (by omega) p2 (λi af=>by
    refine l8 jk ?_
    rw[kn,List.getElem?_map,Nat.zero_add,Nat.mul_one,List.getElem?_eq_getElem (by omega)]
    rfl) (j6.g5 aS) (by omega) Nx (by omega) (λz q dQ Γ a2 zx Cb cQ=>?_)
   have oY:dQ.length=(eP f).length:=by have:=cY.len Cb;rwa [List.length_map] at this
   have wM:=bC.trans bC.n (aS.trans nd a2)
   have fC:∀t∈eP f,dm (some t)=0:=λt ba=>by
    rcases zg f [] ba with h|h
    · exact Nx t h
    · cases h
   refine⟨q,0,dQ.length,.a1 1,z,Γ,rfl,rfl,cQ,λaA=>?_,λaA=>?_⟩
   · obtain⟨t,ba⟩:∃t,eP f=[t]:=by
       cases hs:eP f with
       |nil=>
        rw[hs] at oY
        have:dQ.length=0:=oY
        omega
       |cons t s=>
        rw[hs] at oY
        have:s=[]:=List.eq_nil_of_length_eq_zero (by simp at oY;omega)
        exact⟨t,by rw[this]⟩
     obtain⟨r,aj⟩:∃r,dQ=[r]:=by
      cases dQ with
      |nil=>simp at aA
      |cons r s=>
       have:s=[]:=by simpa using aA
       exact⟨r,by rw[this]⟩
     subst aj
     refine⟨by omega,r,?_,z,wM,.inl ⟨?_,r,rfl,?_⟩⟩
     · rcases zx with⟨e,_⟩|⟨adN,e,_,b4,_⟩
       · cases e
       · cases e;exact aV b4 rfl
     · rintro⟨vb,sK,qp,_⟩
       rw[hf] at sK;cases sK
       rw[ba] at qp;exact qp rfl
     · rw[ba] at Cb
       have hu:m8 l=t:=by unfold m8;rw[hf];simp only[ba]
       rw[hu]
       obtain⟨v,ws,e,bH,_⟩:=Cb
       cases e
       exact gh.g5 a2 bH
   · obtain⟨H,cl⟩:∃H,H=z.push (.cells [.int .i64 (Int.ofNat 9),.str [],.a0,.slice q 0 dQ.length (.a1 1),.bb] 80 .own 0 0):=⟨_,rfl⟩
     have dE:Ext z.n z H:=by rw[cl];exact Ext.push (Nat.le_refl _) _
     have adO:=a2.n
     have zp:gh aO H (.mk 9 [] [] (eP f) none) (.ptr z.n 0):=by
      refine⟨z.n,.a0,_,.bb,dQ.map hv,.own,0,0,rfl,⟨by omega,by rw[cl];simp⟩,by rw[cl];exact fo rfl,.inl ⟨rfl,rfl⟩,B6 (zx.mono dE (Nat.le_refl _)) (cC.jB (zx.mono dE (Nat.le_refl _)) (by omega)),Cb.g5 (a2.trans a2.n dE),rfl⟩
     have sm:ef (.mk 9 [] [] (eP f) none)=true:=M4 ag (by omega) hf (by omega)
     have HS:sz (.mk 9 [] [] (eP f) none)<=60001+dq none:=Gu 9 [] (eP f) none fC (by
      have:=(zm f []).2.1
      have e:(eP f).length<=([]:List aE).length+f.length:=this
      simp at e;omega)
     have eB:dq none=0:=by rw[dq]
     have hu:m8 l=p4 (.mk 9 [] [] (eP f) none):=by
      unfold m8
      rw[hf]
      simp only
      cases hs:eP f with
      |nil=>rfl
      |cons t s=>
       cases s with
       |nil=>rw[hs] at oY;exact absurd oY aA
       |cons Ny s=>rfl
     obtain⟨w,n,bS,fH,ZC,f1,f2⟩:=yd m aO (wM.trans wM.n (dE.le (by have:=wM.n;omega))) zp (by omega) (by omega)
     rw[cl] at fH
     refine⟨w,n,bS,fH,ZC,f1,?_⟩
     rcases f2 with⟨cu,r,f3,f4⟩|⟨cu,f3⟩
     · refine .inl ⟨?_,r,f3,by rw[hu,zl sm,if_pos cu];exact f4⟩
       rintro⟨vb,sK,_,dg⟩
       rw[hf] at sK;cases sK
       omega
     · exact .inr ⟨⟨f,hf,by omega,cu⟩,f3⟩
 · right
   refine⟨r,y,Γ,rfl,rfl,cQ,y,bC.trans uD (aS.le (Nat.le_refl _)),.inl ⟨?_,r,rfl,?_⟩⟩
   · rintro⟨vb,sK,_⟩;rw[hf] at sK;cases sK
   · have hu:m8 l=F9:=by unfold m8;rw[hf]
     rw[hu];exact nf
end Go.Proofs.dj
namespace Go.Proofs.dj
open Go aP Go.Proofs c8 Go.Proofs.cG
set_option maxRecDepth 100000
set_option maxHeartbeats 1000000
def ko:Nat->Nat
 |0=>1
 |d+1=>1+3*ko d
theorem sL(n:Nat)(m:e_):(c6 n m).2.nodes=m.nodes:=by unfold c6;split<;>rfl
theorem Nz(k:Nat)(l:List aE)(m:e_):(fO k l m).2.nodes=m.nodes:=by
 unfold fO
 split
 · exact sL 2 m
 split
 · rfl
 split
 · rfl
 split<;>rfl
theorem NA{f:e_->aE×e_}{b:Nat}(hf:∀m,(f m).2.nodes<=m.nodes+b):∀n m,(hK f n m).2.nodes<=m.nodes+n*b
 |0,m=>by simp[hK]
 |n+1,m=>by
  have ab:=hf m
  have ad:=NA hf n (f m).2
  show(hK f n (f m).2).2.nodes<=_
  rw[Nat.succ_mul];omega
theorem NB{f:e_->aE×e_}:∀n m,(hK f n m).1.length=n
 |0,m=>rfl
 |n+1,m=>by show(hK f n (f m).2).1.length+1=_;rw[NB n]
def GH(d bh:Nat)(s:e_):aE×e_:=fO bh (hK (eC d) ((c6 3 s).1+1) (c6 3 s).2).1 (hK (eC d) ((c6 3 s).1+1) (c6 3 s).2).2
theorem NC:∀d m,(eC d m).2.nodes<=m.nodes+ko d
 |0,m=>by
  rw[eC,Nz,sL,sL,sL];exact Nat.le_refl _
 |d+1,m=>by
  rw[eC,Nz,ko]
  have key:∀(c:Prop) [Decidable c] (n:Nat) (jW:e_),n<=3->jW.nodes=m.nodes+1->(if c then hK (eC d) n jW else([],jW)).2.nodes<=m.nodes+(1+3*ko d):=by
   intro c _ n jW aN hm
   split
   · have:=NA (NC d) n jW
     have ar:n*ko d<=3*ko d:=Nat.mul_le_mul_right _ aN
     omega
   · simp only;omega
  refine key _ _ _ ?_ ?_
  · split
    · have:=n2 (n:=3) (by omega) (c6 5 (c6 9 ⟨m.left,m.nodes+1⟩).2).2
      omega
    · have:=n2 (n:=3) (by omega) (c6 9 ⟨m.left,m.nodes+1⟩).2
      omega
  · split<;>simp only[sL]
theorem fQ.low{B c:Nat}{h g:J}{m:e_}(o:fQ B c h m)(aN:h.n<=g.n)(ag:g.get c=h.get c)(cM:∀d,d<B->g.get d=h.get d):fQ B c g m:=by
 obtain⟨v,ab,ad⟩:=o.get
 refine⟨⟨v,ag.trans ab,?_⟩,o.aO,Nat.lt_of_lt_of_le o.up aN⟩
 rcases ad with ad|⟨b,off,cp,bH,bY,eb,gO⟩
 · exact .inl ad
 · exact .inr ⟨b,off,cp,bH,bY,eb,λi af=>(B7 (cM b bY)).trans (gO i af)⟩
theorem ND(m d:Nat){B c:Nat}(wN:∀(h:J) (s:e_),fQ B c h s->s.nodes+ko d<=1000000->∃r g,Y m (.fn 27) [.ptr c 0,.int .i64 (Int.ofNat d)] h=.ret (.ptr r 0) g/\fQ B c g (eC d s).2/\ev c h g/\gh h.n g (eC d s).1 (.ptr r 0))
  {k q n:Nat}{h:J}{s:e_}(aq:7<=k)(ao:d<=1000)(hs:fQ B c h s)(aN:n<=3)(kZ:s.nodes+n*ko d<=1000000){Q:bn->ah->Prop}
  (EJ:∀g w ps Γ,ev c h g->fQ B c g (hK (eC d) n s).2->jQ h.n g w ps->je h.n g (hK (eC d) n s).1 (ps.map hv)->b_ [(0,.ptr c 0),(5,.int .i64 (Int.ofNat k)),(6,.ptr q 0),(7,w)] Γ->Q (.exit 0) ⟨Γ,[],.none,g⟩):
  a3 Tryz.prog Tryz.f27 (Y m) [1,1,1,1,1,1,0,1,0] ⟨[(0,.ptr c 0),(1,.int .i64 (Int.ofNat (d+1))),(5,.int .i64 (Int.ofNat k)),(6,.ptr q 0),(7,.a0),(8,.int .i64 (Int.ofNat n))],[],.none,h⟩ Q:=by
 have qq:=hs.up
 refine a3.loop (by kernel_rfl) (λj st=>∃i y Γ w ck ps bc,st=⟨Γ,[],.none,y⟩/\b_ [(0,.ptr c 0),(1,.int .i64 (Int.ofNat (d+1))),(5,.int .i64 (Int.ofNat k)),(6,.ptr q 0),(7,w),(8,.int .i64 (Int.ofNat i))] Γ/\i=j/\i<=3/\ev c h y/\fQ B c y bc/\bc.nodes+i*ko d<=1000000/\ck.length+i<=3/\jQ h.n y w ps/\cY (λb=>h.n<=b/\b<y.n/\∀n cp,w≠ .slice b 0 n cp) y ck (ps.map hv)/\(hK (eC d) n s).1=ck++(hK (eC d) i bc).1/\(hK (eC d) n s).2=(hK (eC d) i bc).2) ?_ n _ (by omega) ⟨n,h,_,.a0,[],[],s,rfl,⟨rfl,rfl,rfl,rfl,rfl,rfl,trivial⟩,rfl,aN,ev.refl _ _,hs,kZ,by simpa using aN,.inl ⟨rfl,rfl⟩,rfl,rfl,rfl⟩
 rintro j st ⟨i,y,Γ,w,ck,ps,bc,rfl,cQ,rfl,af,aS,dv,ZD,adP,gi,j6,aA,ay⟩
 have fin:i=0->Q (.exit 0) ⟨[(0,.ptr c 0),(1,.int .i64 (Int.ofNat (d+1))),(5,.int .i64 (Int.ofNat k)),(6,.ptr q 0),(7,w),(8,.int .i64 (Int.ofNat i))],[],.none,y⟩:=λh0=>by
  subst h0
  have aA:(hK (eC d) n s).1=ck:=by rw[aA];exact List.append_nil _
  have ay:(hK (eC d) n s).2=bc:=ay
  exact EJ y w ps _ aS (by rw[ay];exact dv) gi (by rw[aA];exact cY.b8 (λb ae=>⟨⟨ae.1,ae.2.1⟩,rfl⟩) _ _ j6) ⟨rfl,rfl,rfl,rfl,trivial⟩
 have nd:=aS.n
 refine a3.pre (Na (Y m) c (d+1) k q i w y ⟨λi1=>⟨λ_=>?_,λh=>absurd aq h⟩,λi1=>fin (by omega)⟩) cQ rfl rfl rfl
 obtain⟨i,rfl⟩:∃a,i=a+1:=⟨i-1,by omega⟩
 rw[Nat.succ_mul] at ZD
 obtain⟨r,g,aH,aZ,bC,t1⟩:=wN y bc dv (by omega)
 have uD:=bC.n
 have cS:∀n cp,w≠ .slice c 0 n cp:=by
  intro n cp e
  rcases gi with⟨rfl,_⟩|⟨p,rfl,_,_,aG,_⟩
  · cases e
  · cases e;omega
 have GI:jQ h.n g w ps:=cC.b8 gi uD λp aK Cc=>bC.get p Cc λe=>by subst e;exact cS _ _ aK
 have fC:=dv.up
 have hC:ps.length=ck.length:=by have:=cY.len j6;rwa [List.length_map] at this
 obtain⟨H,cl⟩:∃H,H=g.push (.cells [.ptr r 0] 35 .own 0 0):=⟨_,rfl⟩
 have lg:H.n=g.n+1:=by rw[cl];rfl
 have sM:∀b,b<g.n->H.get b=g.get b:=λb ae=>by rw[cl];exact l7 ae rfl
 have ZE:jQ h.n H w ps:=cC.b8 GI (by omega) λp _ Cc=>sM p Cc
 obtain⟨ax,cr,cZ,dp,eS,eG⟩:=Gm sG ZE (by omega) (d:=r) (src:=.slice g.n 0 1 (.exact 1)) (by rw[cl];exact yr sG g 35 r) (by omega)
 subst cl
 refine⟨⟨by omega,by omega⟩,r,g,aH,_,ax,cr,⟨by omega,by omega⟩,i,(by show i<i+1;omega),i,ax,_,_,ck++[(eC d bc).1],ps++[r],(eC d bc).2,rfl,⟨rfl,rfl,rfl,rfl,rfl,rfl,trivial⟩,rfl,by omega,?_,?_,?_,by rw[List.length_append,List.length_singleton];omega,?_,?_,by rw[aA];simp[hK],by rw[ay];rfl⟩
 · exact⟨by omega,λb ae ry=>(eS.get b ae).trans (((sM b (by omega)).trans (bC.get b (by omega) ry)).trans (aS.get b ae ry))⟩
 · exact aZ.low (by omega) ((eG c (by omega) cS).trans (sM c (by have:=aZ.up;omega))) λb ae=>by
    have h7:=hs.aO
    exact(eS.get b (by omega)).trans (sM b (by omega))
 · have:=NC d bc
   omega
 · exact .inr ⟨_,rfl,by simp,cZ,by omega,by omega⟩
 · rw[List.map_append]
   have old:∀b,h.n<=b->b<g.n->(∀n cp,w≠ .slice b 0 n cp)->(h.n<=b/\b<ax.n/\∀n cp,I.slice (g.n+1) 0 (ps++[r]).length (b3.a1 1)≠ .slice b 0 n cp)/\ax.get b=g.get b:=λb ab ad ar=>by
    refine⟨⟨ab,by omega,λn cp e=>by cases e;omega⟩,(eG b (by omega) ar).trans (sM b ad)⟩
   refine cY.app (cY.cons (eU.b8 (λb ae=>old b (by have:=ae.1;omega) ae.2 λn cp e=>?_) _ _ t1) cY.nil) (cY.b8 (λb ae=>?_) _ _ j6)
   · rcases gi with⟨rfl,_⟩|⟨p,rfl,_,_,_,bJ⟩
     · cases e
     · cases e;have:=ae.1;omega
   · obtain⟨bo,bG,ed⟩:=ae
     obtain⟨dz,dG⟩:=old b bo (by omega) ed
     exact⟨dz,dG.trans (bC.get b bG (by omega))⟩
theorem fQ.count{B c:Nat}{h:J}{s:e_}(o:fQ B c h s):∃g,au h c (0+1)=some (.int .i64 (Int.ofNat s.nodes))/\aP.storeCells h c (0+1) [.int .i64 (Int.ofNat (s.nodes+1))]=some g/\fQ B c g ⟨s.left,s.nodes+1⟩/\ev c h g/\g.n=h.n:=by
 obtain⟨v,ab,ad⟩:=o.get
 have wF:=o.up
 have h7:=o.aO
 refine⟨_,aV ab rfl,gS ab rfl rfl,⟨⟨v,gR rfl,?_⟩,o.aO,by simpa using o.up⟩,⟨by simp,λd _ ao=>dM ao rfl⟩,rfl⟩
 rcases ad with ad|⟨b,off,cp,bH,bY,eb,gO⟩
 · exact .inl ad
 · exact .inr ⟨b,off,cp,bH,bY,eb,λi af=>(B7 (dM (by omega) rfl)).trans (gO i af)⟩
def oZ(B c:Nat)(h:J)(t:aE)(s:e_)(e:bn)(st:ah):Prop:=e=.ret/\∃r g,st=⟨[(4,.ptr r 0)],[],.none,g⟩/\fQ B c g s/\ev c h g/\gh h.n g t (.ptr r 0)
theorem ev.push{c:Nat}{h g:J}(e:ev c h g)(o:df):ev c h (g.push o):=⟨by have:=e.n;simp;omega,λd ao ag=>(l7 (by have:=e.n;omega) rfl).trans (e.get d ao ag)⟩
abbrev q4:df:=.cells [.str [97],.str [98],.str [99]] 9 .own 0 0
theorem NF(m D:Nat){B c bh:Nat}{h:J}{s:e_}(hs:fQ B c h s)(ab:1<=bh)(cu:bh<=6):a3 Tryz.prog Tryz.f27 (Y (m+1)) [1,1,1,1] ⟨[(0,.ptr c 0),(1,.int .i64 (Int.ofNat D)),(5,.int .i64 (Int.ofNat bh))],[],.none,h⟩ (oZ B c h (fO bh [] (c6 3 s).2).1 (fO bh [] (c6 3 s).2).2):=by
 have Cd:=hs.up
 have h7:=hs.aO
 obtain⟨H,cl⟩:∃H,H=h.push (.cells [.int .i64 (Int.ofNat bh),.str [],.a0,.a0,.bb] 80 .own 0 0):=⟨_,rfl⟩
 have dE:Ext h.n h H:=by rw[cl];exact Ext.push (Nat.le_refl _) _
 have lg:H.n=h.n+1:=by rw[cl];rfl
 have wJ:H.get h.n=some (.cells [.int .i64 (Int.ofNat bh),.str [],.a0,.a0,.bb] 80 .own 0 0):=by rw[cl];exact fo rfl
 obtain⟨ai,aH,aZ,bC⟩:=uB m 3 (hs.move dE) (by omega)
 have uD:=bC.n
 have bD:=n2 (n:=3) (by omega) s
 have a8:ai.get h.n=some (.cells [.int .i64 (Int.ofNat bh),.str [],.a0,.a0,.bb] 80 .own 0 0):=(bC.get _ (by omega) (by omega)).trans wJ
 have uE:ev c h ai:=(ev.kQ dE).trans bC
 refine YT (Y (m+1)) c D bh h ⟨(c6 3 s).1,ai,by rw[<-cl];exact aH,by omega,?_⟩
 refine a3.loop (by kernel_rfl) (λj st=>∃Γ,st=⟨Γ,[],.none,ai⟩/\b_ [(0,.ptr c 0),(1,.int .i64 (Int.ofNat D)),(5,.int .i64 (Int.ofNat bh)),(6,.ptr h.n 0),(7,.a0),(8,.int .i64 (Int.ofNat ((c6 3 s).1+1)))] Γ) ?_ 0 _ (by omega) ⟨_,rfl,rfl,rfl,rfl,rfl,rfl,rfl,trivial⟩
 rintro j st ⟨Γ,rfl,cQ⟩
 refine a3.pre (Na (Y (m+1)) c D bh h.n _ .a0 ai ⟨λ_=>⟨λdg=>absurd dg (by omega),λ_=>?_⟩,λh=>absurd h (by omega)⟩) cQ rfl rfl rfl
 obtain⟨G,iL⟩:∃G,G=ai.push q4:=⟨_,rfl⟩
 have wO:G.n=ai.n+1:=by rw[iL];rfl
 have mu:Ext ai.n ai G:=by rw[iL];exact Ext.push (Nat.le_refl _) _
 have NG:G.get h.n=some (.cells [.int .i64 (Int.ofNat bh),.str [],.a0,.a0,.bb] 80 .own 0 0):=(mu.get _ (by omega)).trans a8
 have NH:∀(g:J) (t:aE) (nm:a5),t=.mk bh nm [] [] none->g.get h.n=some (.cells [.int .i64 (Int.ofNat bh),.str nm,.a0,.a0,.bb] 80 .own 0 0)->h.n<g.n->gh h.n g t (.ptr h.n 0):=λg t nm e al aN=>by
  subst e
  exact⟨h.n,.a0,.a0,.bb,[],.own,0,0,rfl,⟨Nat.le_refl _,aN⟩,al,.inl ⟨rfl,rfl⟩,.inl ⟨rfl,rfl⟩,rfl,rfl⟩
 refine⟨h.n,ai,_,rfl,rfl,⟨rfl,rfl,rfl,rfl,trivial⟩,λgI=>?_,λcx=>⟨by omega,by omega,by omega,λ_=>?_,λh=>absurd rfl h⟩⟩
 · subst gI
   obtain⟨K,dk⟩:∃K,K=G.push (.cells [.str [109,46,84],.str [109,46,85]] 9 .own 0 0):=⟨_,rfl⟩
   have GJ:Ext G.n G K:=by rw[dk];exact Ext.push (Nat.le_refl _) _
   have adQ:K.n=G.n+1:=by rw[dk];rfl
   obtain⟨aB,du,lb,dU⟩:=uB m 2 ((aZ.move mu).move GJ) (by omega)
   have bj:=n2 (n:=2) (by omega) (c6 3 s).2
   have Y_:=dU.n
   have b4:aB.get h.n=some (.cells [.int .i64 (Int.ofNat 6),.str [],.a0,.a0,.bb] 80 .own 0 0):=(dU.get _ (by omega) (by omega)).trans ((GJ.get _ (by omega)).trans NG)
   have ec:aB.get G.n=some (.cells [.str [109,46,84],.str [109,46,85]] 9 .own 0 0):=(dU.get _ (by omega) (by have:=aZ.up;omega)).trans (by rw[dk];exact fo rfl)
   have cU:au aB G.n (0+(c6 2 (c6 3 s).2).1*1)=some (.str (wD (c6 2 (c6 3 s).2).1)):=by
    have:(c6 2 (c6 3 s).2).1=0\/(c6 2 (c6 3 s).2).1=1:=by omega
    rcases this with e|e<;>rw[e]<;>exact aV ec rfl
   obtain⟨bE,mr⟩:∃bE,bE=aB.set h.n (some (.cells [.int .i64 (Int.ofNat 6),.str (wD (c6 2 (c6 3 s).2).1),.a0,.a0,.bb] 80 .own 0 0)):=⟨_,rfl⟩
   have wv:ev c h aB:=(uE.trans (ev.kQ mu)).trans ((ev.kQ GJ).trans dU)
   subst dk;subst iL
   refine⟨_,aB,du,bj,_,cU,bE,by rw[mr];exact gS b4 rfl rfl,λ_=>⟨rfl,_,_,rfl,?_,?_,?_⟩,λh=>absurd rfl h⟩
   · have e:(fO 6 [] (c6 3 s).2).2=(c6 2 (c6 3 s).2).2:=by simp[fO]
     rw[e]
     exact lb.low (by rw[mr];simp) (by rw[mr];exact dM (by omega) rfl) λd ao=>by rw[mr];exact dM (by omega) rfl
   · exact⟨by rw[mr];have:=wv.n;simpa using this,λd ao ag=>by rw[mr];exact(dM (by omega) rfl).trans (wv.get d ao ag)⟩
   · exact NH _ _ (wD (c6 2 (c6 3 s).2).1) (by simp[fO]) (by rw[mr];exact gR rfl) (by rw[mr];simp;omega)
 · have ZF:h.n<G.n:=by omega
   subst iL
   have e:fO bh [] (c6 3 s).2=(.mk bh [] [] [] none,(c6 3 s).2):=by
    unfold fO
    rw[if_neg cx,if_neg (by omega),if_neg (by omega),if_neg (by omega)]
   rw[e]
   exact⟨rfl,_,_,rfl,aZ.move mu,uE.trans (ev.kQ mu),NH _ _ [] rfl NG ZF⟩
def NI:List aE->aE
 |[]=>p3
 |x::l=>.mk 8 [] [] l (some x)
def sN(bh:Nat)(l:List aE):Prop:=(bh=7/\60<sz (.mk 7 [] (gg.take l.length) l none))\/(bh=8/\60<sz (NI l))\/(bh=9/\Gz l)
theorem ZG{bh:Nat}{l:List aE}(m:e_)(ae:sN bh l)(aw:∀t∈l,dm (some t)=0)(ar:l.length<=3)(h0:0<l.length):fO bh l m=(p3,m):=by
 rcases ae with⟨rfl,cu⟩|⟨rfl,cu⟩|⟨rfl,f,hf,ab,cu⟩
 · have:F_ l=p3:=by rw[rec_eq aw ar,if_neg (by omega)]
   simp[fO,this]
 · have:B2 l=p3:=by
     cases l with
     |nil=>rfl
     |cons x l=>
      have cu:60<sz (.mk 8 [] [] l (some x)):=cu
      show p4 _=_
      rw[zl (MV (λt ba=>aw t (List.mem_cons_of_mem _ ba)) (aw x (List.mem_cons_self ..))),if_neg (by omega)]
   simp[fO,this]
 · have sm:=M4 aw h0 hf ab
   have:m8 l=p3:=by
    unfold m8
    rw[hf]
    simp only
    split
    · rename_i t ba;rw[ba] at ab;exact absurd rfl ab
    · rw[zl sm,if_neg (by omega)]
   simp[fO,this]
theorem Ce{h:J}{p:Nat}{ps:List Nat}(al:h.get p=some (.cells (dR (λd=>[hv d]) ps) 35 .a1 0 0))(i:Nat)(af:i<ps.length):au h p (0+i*1)=some (.ptr ps[i] 0):=by
 refine l8 al ?_
 rw[kn,List.getElem?_map,Nat.zero_add,Nat.mul_one,List.getElem?_eq_getElem (by omega)]
 rfl
theorem NJ(m bh:Nat){B c:Nat}{h g:J}{bc:e_}{l:List aE}{p:Nat}{ps:List Nat}(hm:200000<=m)(aa:ev c h g)(hs:fQ B c g bc)(gi:jQ (h.n+1) g (.slice p 0 ps.length (.a1 1)) ps)(nf:je (h.n+1) g l (ps.map hv))(h0:0<ps.length)(ar:ps.length<=3)(ag:∀t∈l,dm (some t)=0)(K0:c<h.n)(adR:h.n<g.n):
  (bh=7->∃v1,di Tryz.prog (g.push q4) 63 (.slice g.n 0 3 (.exact 3)) none (some (.int .i64 (Int.ofNat ps.length))) none=some v1/\∃v e aB,Y (m+3) (.fn 49) [v1,.slice p 0 ps.length (.a1 1)] (g.push q4)=.ret (.aQ [v,.int .i64 (Int.ofNat e)]) aB/\ev c h aB/\fQ B c aB bc/\((sN bh l/\v=.bb/\e=3)\/(¬sN bh l/\e=0/\∃r,v=.ptr r 0/\gh h.n aB (fO bh l bc).1 (.ptr r 0)/\(fO bh l bc).2=bc)))/\
  (bh=8->∃v1,di Tryz.prog ((g.push q4).room 11) 50 (.slice p 0 ps.length (.a1 1)) (some (.int .i64 (Int.ofNat 1))) none none=some v1/\I.sound v1=true/\∃x,au ((g.push q4).room 11) p (0+0*1)=some (.ptr x 0)/\∃v e aB,Y (m+3) (.fn 50) [v1,.ptr x 0] ((g.push q4).room 11)=.ret (.aQ [v,.int .i64 (Int.ofNat e)]) aB/\ev c h aB/\fQ B c aB bc/\((sN bh l/\v=.bb/\e=3)\/(¬sN bh l/\e=0/\∃r,v=.ptr r 0/\gh h.n aB (fO bh l bc).1 (.ptr r 0)/\(fO bh l bc).2=bc)))/\
  (bh=9->∃v e aB,Y (m+3) (.fn 51) [.slice p 0 ps.length (.a1 1)] (g.push q4)=.ret (.aQ [v,.int .i64 (Int.ofNat e)]) aB/\ev c h aB/\fQ B c aB bc/\((sN bh l/\v=.bb/\e=3)\/(¬sN bh l/\e=0/\∃r,v=.ptr r 0/\gh h.n aB (fO bh l bc).1 (.ptr r 0)/\(fO bh l bc).2=bc))):=by
 have fw:ps.length=l.length:=by have:=cY.len nf;rwa [List.length_map] at this
 have Cd:=hs.up
 obtain⟨G,iL⟩:∃G,G=g.push q4:=⟨_,rfl⟩
 have mu:Ext g.n g G:=by rw[iL];exact Ext.push (Nat.le_refl _) _
 have wO:G.n=g.n+1:=by rw[iL];rfl
 have ZH:G.get g.n=some q4:=by rw[iL];exact fo rfl
 rw[<-iL]
 have aK:G.get p=some (.cells (dR (λd=>[hv d]) ps) 35 .a1 0 0)/\p<g.n:=by
  rcases gi with⟨e,_⟩|⟨q,e,_,b4,_,fI⟩
  · cases e
  · cases e;exact⟨(mu.get _ fI).trans b4,fI⟩
 obtain⟨aK,Cc⟩:=aK
 have cast:∀{r:Nat} {K:J} {t:aE},gh (h.n+1) K t (.ptr r 0)->gh h.n K t (.ptr r 0):=λo=>eU.b8 (λb ae=>⟨⟨by have:=ae.1;omega,ae.2⟩,rfl⟩) _ _ o
 have GK:je (h.n+1) G l (ps.map hv):=nf.g5 mu
 refine⟨λgx=>?_,λg4=>?_,λgJ=>?_⟩
 · subst gx
   obtain⟨off,cp,s1,s2,bK⟩:=Nc (P:=Tryz.prog) (h:=G) (T:=63) (E:=9) (b:=g.n) (off:=0) (n:=3) (cp:=.exact 3) (by kernel_rfl) (by kernel_rfl) ar (Nat.le_refl 3)
   obtain⟨rfl,_⟩:=bK h0
   refine⟨_,s1,?_⟩
   have f:=Ze m (h.n+1) (h:=G) (nb:=g.n) (b:=p) (nc:=cp) (cp:=.a1 1) (l:=l) (vs:=ps.map hv) hm (by omega) (by omega) (by omega) (λi af=>by
    rw[List.length_map] at af
    have:i=0\/i=1\/i=2:=by omega
    rcases this with rfl|rfl|rfl<;>exact aV ZH rfl) (λi af=>by
    rw[List.length_map] at af
    rw[Ce aK i af];simp) GK (by rw[List.length_map];omega) ag
   rw[List.length_map] at f
   obtain⟨aB,dU,f⟩:=f
   have sO:=(aa.trans (ev.kQ mu)).trans (ev.kQ dU)
   have jR:=(hs.move mu).move dU
   rcases f with⟨cu,r,f1,f2⟩|⟨cu,f1⟩
   · refine⟨_,_,aB,f1,sO,jR,.inr ⟨?_,rfl,r,rfl,?_,by simp[fO]⟩⟩
     · rintro(⟨_,dg⟩|⟨dg,_⟩|⟨dg,_⟩)<;>omega
     · have e:(fO 7 l bc).1=.mk 7 [] (gg.take l.length) l none:=by simp[fO,rec_eq ag (by omega:l.length<=3),if_pos cu]
       rw[e];exact cast f2
   · exact⟨_,_,aB,f1,sO,jR,.inl ⟨.inl ⟨rfl,cu⟩,rfl,rfl⟩⟩
 · subst g4
   cases l with
   |nil=>exact absurd fw (by show¬ps.length=0;omega)
   |cons x l=>
    cases ps with
    |nil=>simp at h0
    |cons q ps=>
     have GL:Ext G.n G (G.room 11):=Ext.room _ _ _
     have NK:(G.room 11).n=G.n+11:=rfl
     have GM:(G.room 11).get p=some (.cells (dR (λd=>[hv d]) (q::ps)) 35 .a1 0 0):=aK
     have ZI:=je.g5 GL GK
     obtain⟨v,ws,e,t1,t2⟩:=ZI
     cases e
     have hC:ps.length=l.length:=by simpa using fw
     obtain⟨off,cp,s1,s2,bK⟩:=Gp (P:=Tryz.prog) (h:=G.room 11) (T:=50) (E:=35) (b:=p) (off:=0) (n:=(q::ps).length) (cp:=.a1 1) (by kernel_rfl) (by kernel_rfl) h0 rfl
     refine⟨_,s1,rfl,q,Ce GM 0 (by simp),?_⟩
     have el:(q::ps).length-1=ps.length:=rfl
     rw[el] at bK⊢
     have fp:∀{K:J},K.get p=some (.cells (dR (λd=>[hv d]) (q::ps)) 35 .a1 0 0)->∀i (af:i<(ps.map hv).length),au K p (off+i*1)=some (ps.map hv)[i]:=λaq i af=>by
      rw[List.length_map] at af
      obtain⟨rfl,_⟩:=bK (by omega)
      rw[show 0+1*1+i*1=0+(i+1)*1 by omega,Ce aq (i+1) (by simpa using af)]
      simp
     have f:=Y7 m (h.n+1) (h:=G.room 11) (b:=p) (off:=off) (r:=q) (cp:=cp) (x:=x) (l:=l) (vs:=ps.map hv) hm (by omega) (by omega) (fp GM) t2 (λK dk=>by
      have aq:K.get p=some (.cells (dR (λd=>[hv d]) (q::ps)) 35 .a1 0 0):=(dk.get p (by omega)).trans GM
      by_cases ab:0<ps.length
      · exact db.src (B:=0) (fp aq) (by rw[List.length_map];exact ab) (bK ab).2
      · have c9:ps=[]:=List.eq_nil_of_length_eq_zero (by omega)
        subst c9
        have:cp=.dead\/cp≠ .dead:=by cases cp<;>simp
        rcases this with rfl|GN
        · rfl
        · have e:aP.loadCells K p off (0*1)=some []:=pF aq rfl
          cases cp with
          |exact k=>simp only[List.map_nil,List.length_nil,fV,e]
          |a1 k=>simp only[List.map_nil,List.length_nil,fV,e]
          |dead=>exact absurd rfl GN) t1 (by rw[List.length_map];simp at ar;omega) (λt ba=>ag t (List.mem_cons_of_mem _ ba)) (ag x (List.mem_cons_self ..))
     rw[List.length_map] at f
     obtain⟨aB,dU,f⟩:=f
     have sO:=(aa.trans (ev.kQ mu)).trans ((ev.kQ GL).trans (ev.kQ dU))
     have jR:=((hs.move mu).move GL).move dU
     rcases f with⟨cu,r,f1,f2⟩|⟨cu,f1⟩
     · refine⟨_,_,aB,f1,sO,jR,.inr ⟨?_,rfl,r,rfl,?_,by simp[fO]⟩⟩
       · have cu:sz (NI (x::l))<=60:=cu
         rintro(⟨dg,_⟩|⟨_,dg⟩|⟨dg,_⟩)<;>omega
       · have e:(fO 8 (x::l) bc).1=.mk 8 [] [] l (some x):=by
           have:B2 (x::l)=.mk 8 [] [] l (some x):=by
            show p4 _=_
            rw[zl (MV (λt ba=>ag t (List.mem_cons_of_mem _ ba)) (ag x (List.mem_cons_self ..))),if_pos cu]
           simp[fO,this]
         rw[e];exact cast f2
     · exact⟨_,_,aB,f1,sO,jR,.inl ⟨.inr (.inl ⟨rfl,cu⟩),rfl,rfl⟩⟩
 · subst gJ
   obtain⟨aB,dU,f⟩:=ZB m (h.n+1) (h:=G) (b:=p) (off:=0) (cp:=.a1 1) (l:=l) (ps:=ps) hm (by omega) (by omega) (Ce aK) GK h0 (by omega) ag
   have sO:=(aa.trans (ev.kQ mu)).trans (ev.kQ dU)
   have jR:=(hs.move mu).move dU
   rcases f with⟨ae,r,f1,f2⟩|⟨ae,f1⟩
   · refine⟨_,_,aB,f1,sO,jR,.inr ⟨?_,rfl,r,rfl,?_,by simp[fO]⟩⟩
     · rintro(⟨dg,_⟩|⟨dg,_⟩|⟨_,dg⟩)
       · omega
       · omega
       · exact ae dg
     · have e:(fO 9 l bc).1=m8 l:=by simp[fO]
       rw[e];exact cast f2
   · exact⟨_,_,aB,f1,sO,jR,.inl ⟨.inr (.inr ⟨rfl,ae⟩),rfl,rfl⟩⟩
end Go.Proofs.dj
namespace Go.Proofs.dj
open Go aP Go.Proofs c8 Go.Proofs.cG
set_option maxRecDepth 100000
set_option maxHeartbeats 1000000
theorem oZ.back{B c:Nat}{h ar:J}{t:aE}{s:e_}{e:bn}{st:ah}(x:ev c h ar)(o:oZ B c ar t s e st):oZ B c h t s e st:=by
 obtain⟨ab,r,g,ad,y3,aG,bJ⟩:=o
 have:=x.n
 exact⟨ab,r,g,ad,y3,x.trans aG,eU.b8 (λb ae=>⟨⟨by have:=ae.1;omega,ae.2⟩,rfl⟩) _ _ bJ⟩
theorem ZJ(m d:Nat){B c bh:Nat}{h:J}{s:e_}(hm:200000<=m)(wN:∀(h:J) (s:e_),fQ B c h s->s.nodes+ko d<=1000000->∃r g,Y (m+3) (.fn 27) [.ptr c 0,.int .i64 (Int.ofNat d)] h=.ret (.ptr r 0) g/\fQ B c g (eC d s).2/\ev c h g/\gh h.n g (eC d s).1 (.ptr r 0))
  (hs:fQ B c h s)(ao:d<=1000)(aN:s.nodes+3*ko d<=1000000)(dg:7<=bh)(g3:bh<=9):a3 Tryz.prog Tryz.f27 (Y (m+3)) [1,1,1,1] ⟨[(0,.ptr c 0),(1,.int .i64 (Int.ofNat (d+1))),(5,.int .i64 (Int.ofNat bh))],[],.none,h⟩ (oZ B c h (GH d bh s).1 (GH d bh s).2):=by
 have Cd:=hs.up
 obtain⟨H,cl⟩:∃H,H=h.push (.cells [.int .i64 (Int.ofNat bh),.str [],.a0,.a0,.bb] 80 .own 0 0):=⟨_,rfl⟩
 have dE:Ext h.n h H:=by rw[cl];exact Ext.push (Nat.le_refl _) _
 have lg:H.n=h.n+1:=by rw[cl];rfl
 obtain⟨ai,aH,aZ,bC⟩:=uB (m+2) 3 (hs.move dE) (by omega)
 have uD:=bC.n
 have bD:=n2 (n:=3) (by omega) s
 have adS:=sL 3 s
 have uE:ev c h ai:=(ev.kQ dE).trans bC
 rw[cl] at aH
 obtain⟨L,ha⟩:∃L,L=hK (eC d) ((c6 3 s).1+1) (c6 3 s).2:=⟨_,rfl⟩
 have BV:L.1.length=(c6 3 s).1+1:=by rw[ha];exact NB _ _
 have GO:∀t∈L.1,dm (some t)=0:=by rw[ha];exact Gd (λt=>dm (some t)=0) (Ge d) _ _
 have oz:GH d bh s=fO bh L.1 L.2:=by rw[ha];rfl
 rw[oz]
 have kZ:(c6 3 s).2.nodes+((c6 3 s).1+1)*ko d<=1000000:=by
  have:((c6 3 s).1+1)*ko d<=3*ko d:=Nat.mul_le_mul_right _ (by omega)
  omega
 have key:∀(g:J) (w:I) (ps:List Nat),ev c ai g->fQ B c g L.2->jQ ai.n g w ps->je ai.n g L.1 (ps.map hv)->∃p,w=.slice p 0 ps.length (.a1 1)/\ev c h g/\h.n<g.n/\jQ (h.n+1) g (.slice p 0 ps.length (.a1 1)) ps/\je (h.n+1) g L.1 (ps.map hv)/\0<ps.length/\ps.length<=3:=by
  intro g w ps aa mj gi nf
  have fw:ps.length=L.1.length:=by have:=cY.len nf;rwa [List.length_map] at this
  have NL:=aa.n
  have GP:jQ (h.n+1) g w ps:=cC.le (by omega) gi
  have ZK:je (h.n+1) g L.1 (ps.map hv):=cY.b8 (λb ae=>⟨⟨by have:=ae.1;omega,ae.2⟩,rfl⟩) _ _ nf
  rcases GP with⟨_,e⟩|⟨p,rfl,a6,b4,fX,fI⟩
  · rw[e] at fw;simp at fw;omega
  · exact⟨p,rfl,uE.trans aa,by omega,.inr ⟨p,rfl,a6,b4,fX,fI⟩,ZK,a6,by omega⟩
 by_cases cM:sN bh L.1
 · have mi:=ZG L.2 cM GO (by omega) (by omega)
   rw[mi]
   have fin:∀aB,ev c h aB->fQ B c aB L.2->oZ B c h p3 L.2 .ret ⟨[(4,.ptr aB.n 0)],[],.none,aB.push (.cells [.int .i64 (Int.ofNat 2),.str [],.a0,.a0,.bb] 80 .own 0 0)⟩:=λaB dU lb=>by
    have:=dU.n
    exact⟨rfl,_,_,rfl,lb.move (Ext.push (Nat.le_refl _) _),dU.push _,⟨aB.n,.a0,.a0,.bb,[],.own,0,0,rfl,⟨by omega,by simp⟩,fo rfl,.inl ⟨rfl,rfl⟩,.inl ⟨rfl,rfl⟩,rfl,rfl⟩⟩
   refine YV (Y (m+3)) c (d+1) bh h ⟨(c6 3 s).1,ai,aH,by omega,?_⟩
   refine ND (m+3) d wN dg ao aZ (by omega) kZ (λg w ps Γ aa mj gi nf cQ=>?_)
   rw[<-ha] at mj nf
   obtain⟨p,rfl,bH,bY,eb,gO,ho,im⟩:=key g w ps aa mj gi nf
   obtain⟨GQ,GR,GS⟩:=NJ m bh hm bH mj eb gO ho im GO Cd bY
   refine⟨h.n,p,0,ps.length,.a1 1,g,Γ,rfl,rfl,cQ,by omega,λgx=>?_,λda=>⟨λg4=>?_,λet=>⟨λgJ=>?_,λeO=>by omega⟩⟩⟩
   · obtain⟨v1,s1,v,e,aB,f1,f2,f3,f4⟩:=GQ gx
     rcases f4 with⟨_,rfl,rfl⟩|⟨ae,_⟩
     · exact⟨v1,s1,aB,f1,λh=>absurd h (by decide),λ_=>fin aB f2 f3⟩
     · exact absurd cM ae
   · obtain⟨v1,s1,s2,x,bK,v,e,aB,f1,f2,f3,f4⟩:=GR g4
     rcases f4 with⟨_,rfl,rfl⟩|⟨ae,_⟩
     · exact⟨v1,s1,ho,x,bK,aB,f1,s2,λh=>absurd h (by decide),λ_=>fin aB f2 f3⟩
     · exact absurd cM ae
   · obtain⟨v,e,aB,f1,f2,f3,f4⟩:=GS gJ
     rcases f4 with⟨_,rfl,rfl⟩|⟨ae,_⟩
     · exact⟨aB,f1,λh=>absurd h (by decide),λ_=>fin aB f2 f3⟩
     · exact absurd cM ae
 · refine YU (Y (m+3)) c (d+1) bh h ⟨(c6 3 s).1,ai,aH,by omega,?_⟩
   refine ND (m+3) d wN dg ao aZ (by omega) kZ (λg w ps Γ aa mj gi nf cQ=>?_)
   rw[<-ha] at mj nf
   obtain⟨p,rfl,bH,bY,eb,gO,ho,im⟩:=key g w ps aa mj gi nf
   obtain⟨GQ,GR,GS⟩:=NJ m bh hm bH mj eb gO ho im GO Cd bY
   refine⟨h.n,p,0,ps.length,.a1 1,g,Γ,rfl,rfl,cQ,by omega,λgx=>?_,λda=>⟨λg4=>?_,λet=>⟨λgJ=>?_,λeO=>by omega⟩⟩⟩
   · obtain⟨v1,s1,v,e,aB,f1,f2,f3,f4⟩:=GQ gx
     rcases f4 with⟨ae,_⟩|⟨_,rfl,r,rfl,f5,f6⟩
     · exact absurd ae cM
     · exact⟨v1,s1,r,aB,f1,λ_=>⟨rfl,r,aB,rfl,by rw[f6];exact f3,f2,f5⟩,λh=>absurd rfl h⟩
   · obtain⟨v1,s1,s2,x,bK,v,e,aB,f1,f2,f3,f4⟩:=GR g4
     rcases f4 with⟨ae,_⟩|⟨_,rfl,r,rfl,f5,f6⟩
     · exact absurd ae cM
     · exact⟨v1,s1,ho,x,bK,r,aB,f1,s2,λ_=>⟨rfl,r,aB,rfl,by rw[f6];exact f3,f2,f5⟩,λh=>absurd rfl h⟩
   · obtain⟨v,e,aB,f1,f2,f3,f4⟩:=GS gJ
     rcases f4 with⟨ae,_⟩|⟨_,rfl,r,rfl,f5,f6⟩
     · exact absurd ae cM
     · exact⟨r,aB,f1,λ_=>⟨rfl,r,aB,rfl,by rw[f6];exact f3,f2,f5⟩,λh=>absurd rfl h⟩
theorem NM(M:Nat){B c D:Nat}{h:J}{t:aE}{s:e_}(al:a3 Tryz.prog Tryz.f27 (Y M) [] ⟨[(0,.ptr c 0),(1,.int .i64 (Int.ofNat D))],[],.none,h⟩ (oZ B c h t s)):∃r g,Y (M+1) (.fn 27) [.ptr c 0,.int .i64 (Int.ofNat D)] h=.ret (.ptr r 0) g/\fQ B c g s/\ev c h g/\gh h.n g t (.ptr r 0):=by
 refine EI (R:=λx=>∃r g,x=.ret (.ptr r 0) g/\fQ B c g s/\ev c h g/\gh h.n g t (.ptr r 0)) (intr:=b0) (n:=M) (args:=[.ptr c 0,.int .i64 (Int.ofNat D)]) Tryz.func27 (by kernel_rfl) (by kernel_rfl) (by kernel_rfl) al ?_
 rintro e st ⟨rfl,r,g,rfl,ab,ad,ar⟩
 exact .inl ⟨.inl rfl,rfl,.ptr r 0,by kernel_rfl,r,g,rfl,ab,ad,ar⟩
theorem NN(m:Nat)(hm:200000<=m):∀(d:Nat),d<=1000->∀{B c:Nat} (h:J) (s:e_),fQ B c h s->s.nodes+ko d<=1000000->∃r g,Y (m+4+d) (.fn 27) [.ptr c 0,.int .i64 (Int.ofNat d)] h=.ret (.ptr r 0) g/\fQ B c g (eC d s).2/\ev c h g/\gh h.n g (eC d s).1 (.ptr r 0)
 |0,_,B,c,h,s,hs,kZ=>by
  obtain⟨ai,bz,s1,aZ,bC,_⟩:=hs.count
  obtain⟨ax,a9,bQ,c0⟩:=uB (m+2) 9 aZ (by omega)
  obtain⟨aB,du,lb,dU⟩:=uB (m+2) 5 bQ (by omega)
  have eO:=n2 (n:=9) (by omega) ⟨s.left,s.nodes+1⟩
  have b5:=n2 (n:=5) (by omega) (c6 9 ⟨s.left,s.nodes+1⟩).2
  refine NM (m+3) (a3.seq (p:=[]) (by kernel_rfl) (Nb _ c 0 h (a3.seq (p:=[1]) (by kernel_rfl) (M8 _ c 0 h ⟨s.nodes,bz,by omega,ai,s1,a3.seq (p:=[1,1]) (by kernel_rfl) (M9 _ c 0 ai ⟨_,ax,a9,by omega,a3.seq (p:=[1,1,1]) (by kernel_rfl) (M_ _ c 0 _ ax ⟨λ_=>⟨_,aB,du,by omega,?_⟩,λh=>absurd (by omega:0<1) h⟩)⟩)⟩))))
  refine a3.mono (NF (m+2) 0 lb (by omega) (by omega)) λe st o=>?_
  have o':=oZ.back ((bC.trans c0).trans dU) o
  rw[eC]
  exact o'
 |d+1,ao,B,c,h,s,hs,kZ=>by
  rw[ko] at kZ
  obtain⟨ai,bz,s1,aZ,bC,_⟩:=hs.count
  obtain⟨ax,a9,bQ,c0⟩:=uB (m+1+d+2) 9 aZ (by omega)
  have eO:=n2 (n:=9) (by omega) ⟨s.left,s.nodes+1⟩
  have ay:=sL 9 ⟨s.left,s.nodes+1⟩
  have n1:=bC.trans c0
  have wN:∀(h:J) (s:e_),fQ B c h s->s.nodes+ko d<=1000000->∃r g,Y (m+1+d+3) (.fn 27) [.ptr c 0,.int .i64 (Int.ofNat d)] h=.ret (.ptr r 0) g/\fQ B c g (eC d s).2/\ev c h g/\gh h.n g (eC d s).1 (.ptr r 0):=λh s a b=>by
   have:=NN m hm d (by omega) h s a b
   rwa [show m+4+d=m+1+d+3 by omega] at this
  have tail:∀{g bh bc},fQ B c g bc->1<=bh->bh<=9->bc.nodes=s.nodes+1->ev c h g->a3 Tryz.prog Tryz.f27 (Y (m+1+d+3)) [1,1,1,1] ⟨[(0,.ptr c 0),(1,.int .i64 (Int.ofNat (d+1))),(5,.int .i64 (Int.ofNat bh))],[],.none,g⟩ (oZ B c h (fO bh (if 7<=bh then hK (eC d) ((c6 3 bc).1+1) (c6 3 bc).2 else([],(c6 3 bc).2)).1 (if 7<=bh then hK (eC d) ((c6 3 bc).1+1) (c6 3 bc).2 else([],(c6 3 bc).2)).2).1 (fO bh (if 7<=bh then hK (eC d) ((c6 3 bc).1+1) (c6 3 bc).2 else([],(c6 3 bc).2)).1 (if 7<=bh then hK (eC d) ((c6 3 bc).1+1) (c6 3 bc).2 else([],(c6 3 bc).2)).2).2):=λ{g bh bc} qo bH iO aN aa=>by
   by_cases dg:7<=bh
   · rw[if_pos dg]
     exact a3.mono (ZJ (m+1+d) d (by omega) wN qo (by omega) (by omega) dg iO) λe st o=>oZ.back aa o
   · rw[if_neg dg]
     exact a3.mono (NF (m+1+d+2) (d+1) qo bH (by omega)) λe st o=>oZ.back aa o
  rw[show m+4+(d+1)=m+1+d+3+1 by omega]
  refine NM (m+1+d+3) (a3.seq (p:=[]) (by kernel_rfl) (Nb _ c (d+1) h (a3.seq (p:=[1]) (by kernel_rfl) (M8 _ c (d+1) h ⟨s.nodes,bz,by omega,ai,s1,a3.seq (p:=[1,1]) (by kernel_rfl) (M9 _ c (d+1) ai ⟨_,ax,a9,by omega,a3.seq (p:=[1,1,1]) (by kernel_rfl) (M_ _ c (d+1) _ ax ⟨λh=>absurd h (by omega),λ_=>?_⟩)⟩)⟩))))
  obtain⟨v,a8,a6⟩:=bQ.get
  refine⟨(c6 9 ⟨s.left,s.nodes+1⟩).2.nodes,aV a8 rfl,λaG=>?_,λaG=>?_⟩
  · obtain⟨aB,du,lb,dU⟩:=uB (m+1+d+2) 5 bQ (by omega)
    have b5:=n2 (n:=5) (by omega) (c6 9 ⟨s.left,s.nodes+1⟩).2
    have bw:=sL 5 (c6 9 ⟨s.left,s.nodes+1⟩).2
    refine⟨_,aB,du,by omega,?_⟩
    have af:40<s.nodes+1:=by rw[ay] at aG;exact aG
    rw[eC]
    simp only[if_pos af]
    exact tail lb (by omega) (by omega) (by rw[bw,ay]) (n1.trans dU)
  · have af:¬40<s.nodes+1:=by rw[ay] at aG;exact aG
    rw[eC]
    simp only[if_neg af]
    exact tail bQ (by omega) (by omega) ay n1
theorem NO(m:Nat)(hm:200000<=m){h:J}{v:I}{cs:a5}(aC:mq h.n h v cs):∃r g,Y (m+8) (.fn 12) [v] h=.ret (.ptr r 0) g/\Ext h.n h g/\gh h.n g (gD cs) (.ptr r 0):=by
 have ZL:∃v1,di Tryz.prog h 27 v none (some (.int .i64 (Int.ofNat (min cs.length 60)))) none=some v1/\mq h.n h v1 (cs.take (min cs.length 60))/\v1.cT=true:=by
  have hlen:(cs.take (min cs.length 60)).length=min cs.length 60:=by rw[List.length_take];omega
  rcases aC with⟨rfl,rfl⟩|⟨b,off,cp,rfl,ad,ar,aG⟩
  · exact⟨.a0,by kernel_rfl,.inl ⟨rfl,rfl⟩,rfl⟩
  · obtain⟨n4,kS,s1,s2,bK⟩:=Nc (P:=Tryz.prog) (h:=h) (T:=27) (E:=5) (b:=b) (off:=off) (n:=cs.length) (k:=min cs.length 60) (cp:=cp) (by kernel_rfl) (by kernel_rfl) (by omega) ar
    refine⟨_,s1,.inr ⟨b,n4,kS,by rw[hlen],ad,by rw[hlen];exact s2,λi af=>?_⟩,rfl⟩
    rw[hlen] at af
    obtain⟨rfl,_⟩:=bK (by omega)
    rw[aG i (by omega)]
    simp
 obtain⟨v1,s1,s2,bK⟩:=ZL
 obtain⟨H,cl⟩:∃H,H=h.push (.cells [v1,.int .i64 (Int.ofNat 0)] 72 .own 0 0):=⟨_,rfl⟩
 have dE:Ext h.n h H:=by rw[cl];exact Ext.push (Nat.le_refl _) _
 have lg:H.n=h.n+1:=by rw[cl];rfl
 have ZM:fQ h.n h.n H ⟨cs.take (min cs.length 60),0⟩:=⟨⟨v1,by rw[cl];exact fo rfl,s2.ext dE⟩,Nat.le_refl _,by omega⟩
 obtain⟨r,g,aH,aZ,bC,t1⟩:=NN m hm 3 (by omega) H _ ZM (by simp[ko])
 have uD:=bC.n
 rw[cl] at aH
 refine YW (m+7) v h (R:=λx=>∃r g,x=.ret (.ptr r 0) g/\Ext h.n h g/\gh h.n g (gD cs) (.ptr r 0)) ⟨cs.length,aC.len h,min cs.length 60,Tf _ _,v1,s1,bK,bK,r,g,aH,r,g,rfl,?_,?_⟩
 · exact⟨by omega,λd ao=>(bC.get d (by omega) (by omega)).trans (dE.get d ao)⟩
 · exact eU.b8 (λb ae=>⟨⟨by have:=ae.1;omega,ae.2⟩,rfl⟩) _ _ t1
end Go.Proofs.dj
