/-
  PROVED HERE: contracts of functions (Di). No condition beside each statement's own.
-/
import Derived.Test.YtjkomfonmcmgdaaGreatDoorDh
import Derived.Test.YtjkomfonmcmgdaaGreatDoorDg
import Derived.Test.YtjkomfonmcmgdaaGreatDoorTx
import Derived.Test.YtjkomfonmcmgdaaGreatDoorSxb
set_option linter.unusedVariables false
set_option linter.unusedSimpArgs false
set_option maxRecDepth 100000
set_option maxHeartbeats 1000000
namespace Go.Proofs.kU
open Go bg Go.Proofs ir Go.Proofs.kh
variable {Q:bW->bL->Prop} {R:bE->Prop} (call:aW)
def zl(n:Nat):ct->Prop
 |.exact k=>n<=k
 |.aL e=>e=1
 |.dead=>n=0
def ll(F:Nat->Prop)(h:ab)(v:ad)(vs:List ad):Prop:=(v=.aP/\vs=[])\/∃b off cp,v=.slice b off vs.length cp/\F b/\(∀i (hi:i<vs.length),aq h b (off+i*1)=some vs[i])/\0<vs.length/\cp≠ .dead/\zl vs.length cp
mutual
def ew(F:Nat->Prop)(h:ab):aJ->ad->Prop
 |.mk k nm ns xs rt,v=>∃r bA aU cY vs bq lo up,v=.ptr r 0/\F r/\h.get r=some (.cells [J k,.str nm,bA,aU,cY] 80 bq lo up)/\ll F h bA (ns.map .str)/\ll F h aU vs/\cN F h xs vs/\q0 F h rt cY
def cN(F:Nat->Prop)(h:ab):List aJ->List ad->Prop
 |[],vs=>vs=[]
 |t::cF,vs=>∃v ws,vs=v::ws/\ew F h t v/\cN F h cF ws
def q0(F:Nat->Prop)(h:ab):Option aJ->ad->Prop
 |none,v=>v=.aX
 |some t,v=>ew F h t v
end
theorem ll.bB{F G:Nat->Prop}{h g:ab}{v:ad}{vs:List ad}(e:∀b,F b->G b/\g.get b=h.get b)(al:ll F h v vs):ll G g v vs:=by
 rcases al with al|⟨b,off,cp,I,ae,ax,aN⟩
 · exact .inl al
 · refine .inr ⟨b,off,cp,I,(e b ae).1,λi hi=>?_,aN⟩
   rw[<-ax i hi]
   unfold aq
   rw[(e b ae).2]
mutual
theorem ew.bB{F G:Nat->Prop}{h g:ab}(e:∀b,F b->G b/\g.get b=h.get b):∀(t:aJ) (v:ad),ew F h t v->ew G g t v
 |.mk k nm ns xs rt,v,aa=>by
  obtain⟨r,bA,aU,cY,vs,bq,lo,up,I,ae,ax,aN,bS,cz,dw⟩:=aa
  exact⟨r,bA,aU,cY,vs,bq,lo,up,I,(e r ae).1,(e r ae).2.trans ax,aN.bB e,bS.bB e,cN.bB e xs vs cz,q0.bB e rt cY dw⟩
theorem cN.bB{F G:Nat->Prop}{h g:ab}(e:∀b,F b->G b/\g.get b=h.get b):∀(cF:List aJ) (vs:List ad),cN F h cF vs->cN G g cF vs
 |[],vs,aa=>aa
 |t::cF,vs,aa=>by
  obtain⟨v,ws,I,ae,ax⟩:=aa
  exact⟨v,ws,I,ew.bB e t v ae,cN.bB e cF ws ax⟩
theorem q0.bB{F G:Nat->Prop}{h g:ab}(e:∀b,F b->G b/\g.get b=h.get b):∀(t:Option aJ) (v:ad),q0 F h t v->q0 G g t v
 |none,v,aa=>aa
 |some t,v,aa=>ew.bB e t v aa
end
mutual
theorem ew.at{F:Nat->Prop}{B:Nat}{h:ab}(e:∀b,F b->b<B):∀(t:aJ) (v:ad),ew F h t v->dP B h t v
 |.mk k nm ns xs rt,v,aa=>by
  obtain⟨r,bA,aU,cY,vs,bq,lo,up,I,ae,ax,aN,bS,cz,dw⟩:=aa
  have gN:∀{v:ad} {vs:List ad},ll F h v vs->c5 B h v vs:=by
   intro v vs al
   rcases al with al|⟨b,off,cp,I,ae,ax,aN⟩
   · exact .inl al
   · exact .inr ⟨b,off,cp,I,e b ae,ax,aN.1,aN.2.1⟩
  exact⟨r,bA,aU,cY,vs,bq,lo,up,I,e r ae,ax,gN aN,gN bS,cN.at e xs vs cz,q0.at e rt cY dw⟩
theorem cN.at{F:Nat->Prop}{B:Nat}{h:ab}(e:∀b,F b->b<B):∀(cF:List aJ) (vs:List ad),cN F h cF vs->dZ B h cF vs
 |[],vs,aa=>aa
 |t::cF,vs,aa=>by
  obtain⟨v,ws,I,ae,ax⟩:=aa
  exact⟨v,ws,I,ew.at e t v ae,cN.at e cF ws ax⟩
theorem q0.at{F:Nat->Prop}{B:Nat}{h:ab}(e:∀b,F b->b<B):∀(t:Option aJ) (v:ad),q0 F h t v->d_ B h t v
 |none,v,aa=>aa
 |some t,v,aa=>ew.at e t v aa
end
abbrev adx(s:bb):List ad:=[.str s]
abbrev ady(r:Nat):List ad:=[.ptr r 0]
theorem adz:lW an adx 1 9 63 where
 hu:=by kernel_rfl
 fG:=by kernel_rfl
 info:=by
  obtain⟨i,hi⟩:=Option.isSome_iff_exists.1 (show(an.info? 9).isSome=true by kernel_rfl)
  refine⟨i,hi,?_,?_⟩
  · have:(an.info? 9).map (·.size)=some 1:=by kernel_rfl
    rw[hi] at this;simpa using this
  · have:(an.info? 9).map (λi=>Nat.ble i.bytes 1000)=some true:=by kernel_rfl
    rw[hi] at this
    exact Nat.le_of_ble_eq_true (by simpa using this)
 zero:=⟨.str [],by kernel_rfl,rfl⟩
 size:=by kernel_rfl
 len:=λ_=>rfl
 cell:=λ_=>rfl
 pos:=by decide
theorem adA:lW an ady 1 35 50 where
 hu:=by kernel_rfl
 fG:=by kernel_rfl
 info:=by
  obtain⟨i,hi⟩:=Option.isSome_iff_exists.1 (show(an.info? 35).isSome=true by kernel_rfl)
  refine⟨i,hi,?_,?_⟩
  · have:(an.info? 35).map (·.size)=some 1:=by kernel_rfl
    rw[hi] at this;simpa using this
  · have:(an.info? 35).map (λi=>Nat.ble i.bytes 1000)=some true:=by kernel_rfl
    rw[hi] at this
    exact Nat.le_of_ble_eq_true (by simpa using this)
 zero:=⟨.aX,by kernel_rfl,rfl⟩
 size:=by kernel_rfl
 len:=λ_=>rfl
 cell:=λ_=>rfl
 pos:=by decide
theorem kn{D:Type}(enc:D->ad):∀ds:List D,dp (λd=>[enc d]) ds=ds.map enc
 |[]=>rfl
 |d::l=>by
  show[enc d]++dp _ l=enc d::l.map enc
  rw[kn enc l];rfl
theorem sc{D:Type}{enc:D->ad}{el B:Nat}{F:Nat->Prop}{h:ab}{v:ad}{ds:List D}(bc:bT (λd=>[enc d]) 1 el B h v ds)(gU:∀b n cp,v=.slice b 0 n cp->F b):ll F h v (ds.map enc):=by
 rcases bc with⟨rfl,rfl⟩|⟨b,rfl,ae,ax,aN,bS⟩
 · exact .inl ⟨rfl,rfl⟩
 · refine .inr ⟨b,0,.aL 1,by rw[List.length_map],gU b _ _ rfl,λi hi=>?_,by rw[List.length_map];exact ae,by simp,rfl⟩
   have e:=kn enc ds
   rw[e] at ax
   exact lb ax (by rw[List.getElem?_eq_getElem (by simpa using hi)];simp)
theorem zm{D:Type}{P:Program}{enc:D->List ad}{w:Nat}{el sT:TypeId}(T:lW P enc w el sT){B:Nat}{h:ab}{v src:ad}{ds:List D}{d:D}(bc:bT enc w el B h v ds)(dd:B<=h.n)(al:fu h w src=some (1,enc d))(aA:ds.length+1<=1000000):
  ∃aw,dJ P h sT (some sT) v src=some (.slice h.n 0 (ds++[d]).length (.aL w),aw)/\aw.get h.n=some (.cells (dp enc (ds++[d])) el .aL 0 0)/\aw.n=h.n+1/\Ext B h aw/\∀c,c<h.n->(∀n cp,v≠ .slice c 0 n cp)->aw.get c=h.get c:=by
 have en:fu h w src=some ([d].length,dp enc [d]):=by rw[al];simp[dp]
 rcases bc with⟨rfl,rfl⟩|⟨p,rfl,ae,ax,aN,bS⟩
 · rw[List.nil_append]
   exact⟨_,OB T en (by simp) (by simp),e7 rfl,by simp,Ext.lV dd (Ext.refl _ _),λc ah _=>nn ah rfl⟩
 · refine⟨_,by rw[List.length_append];exact OC T ax en (by simp) (by simpa using aA),e7 (by simp),by simp,?_,λc ah hw=>?_⟩
   · exact Ext.lV (by simp;omega) (Ext.hQ aN (Ext.refl _ _))
   · exact nn (by simpa using ah) (cX (λe=>hw _ _ (by rw[e])) rfl)
theorem bT.tn{D:Type}{enc:D->List ad}{w el B:Nat}{h g:ab}{v:ad}{ds:List D}(bc:bT enc w el B h v ds)(aH:h.n<=g.n)(ay:∀d,B<=d->d<h.n->g.get d=h.get d):bT enc w el B g v ds:=by
 rcases bc with bc|⟨q,rfl,ae,ax,aN,bS⟩
 · exact .inl bc
 · exact .inr ⟨q,rfl,ae,(ay q aN bS).trans ax,aN,by omega⟩
theorem adB(m c n:Nat)(h:ab)(H:∃v1,aq h c 0=some v1/\∃aB,bV an h 27 v1=some (J aB)/\(aB=0->R (.ret (J 0) h))/\(¬aB=0->∃aY bd bj,∃aM:ct,aq h c 0=some (.slice aY bd bj aM)/\0<bj/\∃bC,aq h aY (bd+0*1)=some (b4 bC)/\∃bP,hp an 5 3 (b4 bC) h=ia.val (J bP) h/\∃cd,arith .rem .i64 (.ofNat bP) (.ofNat n)=some (J cd)/\∃cR dD dX,∃bf:ct,aq h c 0=some (.slice cR dD dX bf)/\∃v2,dC an h 27 (.slice cR dD dX bf) (some (J 1)) none none=some v2/\g4 v2/\∃ak,bg.storeCells h c 0 [v2]=some ak/\R (.ret (J cd) ak))):
  R (Y (m+1) (.fn 48) [af c,J n] h):=
 dB [(15,.a1 .gN),(25,.a1 .gN)] [] Tryz.func48 H
theorem adC(m b off N:Nat)(cp:ct)(h:ab)(H:bp an Tryz.f75 (Y m) [1,0,1,0] (aj [(0,.slice b off N cp),(3,J 0)] h) (λb2 cc=>((∃ak bt,b2=.exit 0/\cc=aj bt ak/\bY [] bt/\R (.ret (.bool true) ak))\/(∃av bw,b2=.ret/\cc=aj bw av/\bY [(2,.bool false)] bw/\R (.ret (.bool false) av))))):
  R (Y (m+1) (.fn 75) [.slice b off N cp] h):=
 dB [(4000,.fj [0,3] [(.exit 0,[]),(.ret,[(2,.is (.bool false))])])] [] Tryz.func75 H
theorem adD(b off N i:Nat)(cp:ct)(h:ab)(H:(i<N->i<N/\∃aB,aq h b (off+i*1)=some (af aB)/\∃aY ak,call (.fn 28) [af aB] h=.ret (J aY) ak/\(aY=0->i+1<9223372036854775808/\Q .nrm (aj [(0,.slice b off N cp),(3,J (i+1))] ak))/\(¬aY=0->Q .ret (aj [(0,.slice b off N cp),(2,.bool false),(3,J i)] ak)))/\(¬i<N->Q (.exit 0) (aj [(0,.slice b off N cp),(3,J i)] h))):
  bp an Tryz.f75 call [1,0,1,0,0] (aj [(0,.slice b off N cp),(3,J i)] h) Q:=
 c3 [] [0,2,3] [] H
theorem adE(m r:Nat)(h:ab)(H:∃aB ak,Y m (.fn 52) [af r] h=.ret (J aB) ak/\(60<aB->R (.ret (.aR [.aX,J 3]) ak))/\(¬60<aB->R (.ret (.aR [af r,J 0]) ak))):
  R (Y (m+1) (.fn 78) [af r] h):=
 dB [] [] Tryz.func78 H
theorem adF(m nb N b:Nat)(nc cp:ct)(h:ab)(H:(N=N->∃bn ak,Y m (.fn 75) [.slice b 0 N cp] h=.ret (.bool bn) ak/\bn=true/\bp an Tryz.f49 (Y m) [1,1,1,0,1,0] (aj [(0,.slice nb 0 N nc),(1,.slice b 0 N cp),(6,af ak.n),(7,J 0)] (ab.push ak (aQ [J 7,.str [],.aP,.aP,.aX] 80))) (λb2 cc=>∃aB av bt,b2=.exit 0/\cc=aj bt av/\bY [(6,af aB)] bt/\∃v1 aY aD,Y m (.fn 78) [af aB] av=.ret (.aR [v1,J aY]) aD/\R (.ret (.aR [v1,J aY]) aD)))/\(¬N=N->R (.ret (.aR [.aX,J 2]) h))):
  R (Y (m+1) (.fn 49) [.slice nb 0 N nc,.slice b 0 N cp] h):=
 dB [(1020,.f),(132,.a1 (.eQ [.o,.n .i64])),(4000,.fj [0,1,6,7] [(.exit 0,[(6,.p)])])] [] Tryz.func49 H
theorem adG(nb N b R i:Nat)(nc cp:ct)(h:ab)(H:(i<N->i<N/\∃s1,aq h nb (0+i*1)=some (.str s1)/\∃bn ak,call (.fn 76) [.str s1] h=.ret (.bool bn) ak/\bn=true/\bp an Tryz.f49 call [1,1,1,0,1,0,0,1,0,0,1,1,0,0] (aj [(0,.slice nb 0 N nc),(1,.slice b 0 N cp),(6,af R),(7,J i),(8,J 0)] ak) (λb2 cc=>∃aB av bt,b2=.exit 2/\cc=aj bt av/\bY [(0,.slice nb 0 N nc),(1,.slice b 0 N cp),(6,af R),(7,J i),(8,J aB)] bt/\∃v1,aq (av.room 21) R 2=some v1/\∃aY,bV an (av.room 21) 63 v1=some (J aY)/\¬aB<aY/\cr v1/\∃v2,aq (av.room 21) R 2=some v2/\∃b8,dC an (av.room 21) 63 v2 none (some (J aB)) none=some b8/\∃v4 aD,dJ an (av.room 21) 63 (some 63) .aP b8=some (v4,aD)/\i<N/\∃s2,aq aD nb (0+i*1)=some (.str s2)/\∃eC a4,dJ an (ab.push aD (aQ [.str s2] 9)) 63 (some 63) v4 (.slice aD.n 0 1 (.exact 1))=some (eC,a4)/\∃v6,aq a4 R 2=some v6/\∃v7,dC an a4 63 v6 (some (J aB)) none none=some v7/\∃hZ bk,dJ an a4 63 (some 63) eC v7=some (hZ,bk)/\g4 hZ/\∃cQ,bg.storeCells bk R 2 [hZ]=some cQ/\∃qV,aq cQ R 3=some qV/\∃v10,dC an cQ 50 qV none (some (J aB)) none=some v10/\∃v11 dO,dJ an cQ 50 (some 50) .aP v10=some (v11,dO)/\i<N/\∃bd,aq dO b (0+i*1)=some (af bd)/\∃B_ dW,dJ an (ab.push dO (aQ [af bd] 35)) 50 (some 50) v11 (.slice dO.n 0 1 (.exact 1))=some (B_,dW)/\∃zn,aq dW R 3=some zn/\∃Rd,dC an dW 50 zn (some (J aB)) none none=some Rd/\∃JU gJ,dJ an dW 50 (some 50) B_ Rd=some (JU,gJ)/\g4 JU/\∃iH,bg.storeCells gJ R 3 [JU]=some iH/\i+1<9223372036854775808/\Q .nrm (aj [(0,.slice nb 0 N nc),(1,.slice b 0 N cp),(6,af R),(7,J (i+1))] iH)))/\(¬i<N->Q (.exit 0) (aj [(0,.slice nb 0 N nc),(1,.slice b 0 N cp),(6,af R),(7,J i)] h))):
  bp an Tryz.f49 call [1,1,1,0,1,0,0] (aj [(0,.slice nb 0 N nc),(1,.slice b 0 N cp),(6,af R),(7,J i)] h) Q:=
 c3 [(1034,.f),(1078,.f),(1066,.f),(4002,.fj [0,1,6,7,8] [(.exit 2,[(0,.is (.slice nb 0 N nc)),(1,.is (.slice b 0 N cp)),(6,.is (af R)),(7,.is (J i)),(8,.n .i64)])])] [0,1,6,7] [] H
theorem adH(nb N b R i j:Nat)(nc cp:ct)(h:ab)(H:∃v1,aq (h.room 21) R 2=some v1/\∃aB,bV an (h.room 21) 63 v1=some (J aB)/\(j<aB->∃aY bd bj,∃aM:ct,aq (h.room 21) R 2=some (.slice aY bd bj aM)/\j<bj/\∃s1,aq (h.room 21) aY (bd+j*1)=some (.str s1)/\i<N/\∃s2,aq (h.room 21) nb (0+i*1)=some (.str s2)/\∃bn ak,call (.fn 77) [.str s1,.str s2] (h.room 21)=.ret (.bool bn) ak/\cr v1/\(bn=true->j+1<9223372036854775808/\Q .nrm (aj [(0,.slice nb 0 N nc),(1,.slice b 0 N cp),(6,af R),(7,J i),(8,J (j+1))] ak))/\(bn=false->Q (.exit 2) (aj [(0,.slice nb 0 N nc),(1,.slice b 0 N cp),(6,af R),(7,J i),(8,J j)] ak)))/\(¬j<aB->cr v1/\Q (.exit 2) (aj [(0,.slice nb 0 N nc),(1,.slice b 0 N cp),(6,af R),(7,J i),(8,J j)] (h.room 21)))):
  bp an Tryz.f49 call [1,1,1,0,1,0,0,1,0,0,1,1,0,0,0] (aj [(0,.slice nb 0 N nc),(1,.slice b 0 N cp),(6,af R),(7,J i),(8,J j)] h) Q:=
 c3 [(46,.a1 .gN)] [0,1,6,7,8] [] H
theorem adI(m b off N r:Nat)(cp:ct)(h:ab)(H:∃bn ak,Y m (.fn 75) [.slice b off N cp] h=.ret (.bool bn) ak/\(bn=true->∃aB av,Y m (.fn 28) [af r] ak=.ret (J aB) av/\aB=0/\∃v1,aq (ab.push av (aQ [J 8,.str [],.aP,.aP,af r] 80)) av.n 3=some v1/\∃v2 aD,dJ an (ab.push av (aQ [J 8,.str [],.aP,.aP,af r] 80)) 50 (some 50) v1 (.slice b off N cp)=some (v2,aD)/\g4 v2/\∃a4,bg.storeCells aD av.n 3 [v2]=some a4/\∃b8 aY bk,Y m (.fn 78) [af av.n] a4=.ret (.aR [b8,J aY]) bk/\R (.ret (.aR [b8,J aY]) bk))/\(bn=false->R (.ret (.aR [.aX,J 2]) ak))):
  R (Y (m+1) (.fn 50) [.slice b off N cp,af r] h):=
 dB [(1014,.f),(28,.a1 (.eQ [.o,.n .i64]))] [] Tryz.func50 H
theorem adJ(m b off N:Nat)(cp:ct)(h:ab)(H:(N=0->R (.ret (.aR [.aX,J 2]) h))/\(¬N=0->∃bn ak,Y m (.fn 75) [.slice b off N cp] h=.ret (.bool bn) ak/\bn=true/\bp an Tryz.f51 (Y m) [1,1,1,0,1,0] (aj [(0,.slice b off N cp),(4,.aP),(5,J 0)] ak) (λb2 cc=>((∃aB aY bd,∃aM:ct,∃av bt,b2=.exit 0/\cc=aj bt av/\bY [(4,.slice aB aY bd aM)] bt/\bp an Tryz.f51 (Y m) [1,1,1,1,1,0,1,0] (aj [(4,.slice aB aY bd aM),(6,.aP),(7,J 0)] av) (λb2 cc=>∃bj bC bP,∃bf:ct,∃aD bw,b2=.exit 2/\cc=aj bw aD/\bY [(6,.slice bj bC bP bf)] bw/\(bP=1->0<bP/\∃cd,aq aD bj (bC+0*1)=some (af cd)/\R (.ret (.aR [af cd,J 0]) aD))/\(¬bP=1->∃v1 cR a4,Y m (.fn 78) [af aD.n] (ab.push aD (aQ [J 9,.str [],.aP,.slice bj bC bP bf,.aX] 80))=.ret (.aR [v1,J cR]) a4/\R (.ret (.aR [v1,J cR]) a4))))\/(∃dD bk dL,b2=.ret/\cc=aj dL bk/\bY [(2,af dD),(3,J 0)] dL/\R (.ret (.aR [af dD,J 0]) bk)))))):
  R (Y (m+1) (.fn 51) [.slice b off N cp] h):=
 dB [(1017,.f),(4000,.fj [0,4,5] [(.exit 0,[(4,.gN)]),(.ret,[(2,.p),(3,.is (J 0))])]),(4002,.fj [4,6,7] [(.exit 2,[(6,.gN)])]),(126,.a1 (.eQ [.o,.n .i64]))] [] Tryz.func51 H
theorem adK(b off N i:Nat)(cp:ct)(w:ad)(h:ab)(H:(i<N->i<N/\∃aB,aq h b (off+i*1)=some (af aB)/\∃aY,aq h aB 0=some (J aY)/\(aY=1->Q .ret (aj [(0,.slice b off N cp),(2,af h.n),(3,J 0),(4,w),(5,J i)] (ab.push h (aQ [J 1,.str [],.aP,.aP,.aX] 80))))/\(¬aY=1->i<N/\∃bd,aq h b (off+i*1)=some (af bd)/\∃bj,aq h bd 0=some (J bj)/\(bj=9->i<N/\∃bC,aq h b (off+i*1)=some (af bC)/\∃v1,aq h bC 3=some v1/\∃v2 ak,dJ an h 50 (some 50) w v1=some (v2,ak)/\i+1<9223372036854775808/\Q .nrm (aj [(0,.slice b off N cp),(4,v2),(5,J (i+1))] ak))/\(¬bj=9->i<N/\∃bP,aq h b (off+i*1)=some (af bP)/\∃b8 av,dJ an (ab.push h (aQ [af bP] 35)) 50 (some 50) w (.slice h.n 0 1 (.exact 1))=some (b8,av)/\i+1<9223372036854775808/\Q .nrm (aj [(0,.slice b off N cp),(4,b8),(5,J (i+1))] av))))/\(¬i<N->Q (.exit 0) (aj [(0,.slice b off N cp),(4,w),(5,J i)] h))):
  bp an Tryz.f51 call [1,1,1,0,1,0,0] (aj [(0,.slice b off N cp),(4,w),(5,J i)] h) Q:=
 c3 [] [0,2,3,4,5] [4] H
theorem adL(b N ob M i:Nat)(cp hc:ct)(h:ab)(H:(i<N->bp an Tryz.f51 call [1,1,1,1,1,0,1,0,0,1,0,0,1,0,0] (aj [(4,.slice b 0 N cp),(6,.slice ob 0 M hc),(7,J i),(8,J 0)] h) (λb2 cc=>∃aB ak bt,b2=.exit 4/\cc=aj bt ak/\bY [(4,.slice b 0 N cp),(6,.slice ob 0 M hc),(7,J i),(8,J aB)] bt/\(aB<M->aB<M/\∃aY,aq (ak.room 17) ob (0+aB*1)=some (af aY)/\∃s1 av,call (.fn 79) [af aY] (ak.room 17)=.ret (.str s1) av/\i<N/\∃bd,aq av b (0+i*1)=some (af bd)/\∃s2 aD,call (.fn 79) [af bd] av=.ret (.str s2) aD/\aq (ak.room 17) b (0+i*1)=some (af bd)/\(c1 s1 s2=true->i+1<9223372036854775808/\Q .nrm (aj [(4,.slice b 0 N cp),(6,.slice ob 0 M hc),(7,J (i+1))] aD))/\(c1 s1 s2=false->∃v1,dC an aD 50 (.slice ob 0 M hc) none (some (J aB)) none=some v1/\∃v2 a4,dJ an aD 50 (some 50) .aP v1=some (v2,a4)/\i<N/\∃bj,aq a4 b (0+i*1)=some (af bj)/\∃b8 bk,dJ an (ab.push a4 (aQ [af bj] 35)) 50 (some 50) v2 (.slice a4.n 0 1 (.exact 1))=some (b8,bk)/\∃v4,dC an bk 50 (.slice ob 0 M hc) (some (J aB)) none none=some v4/\∃eC cQ,dJ an bk 50 (some 50) b8 v4=some (eC,cQ)/\i+1<9223372036854775808/\Q .nrm (aj [(4,.slice b 0 N cp),(6,eC),(7,J (i+1))] cQ)))/\(¬aB<M->∃v6,dC an (ak.room 17) 50 (.slice ob 0 M hc) none (some (J aB)) none=some v6/\∃v7 dO,dJ an (ak.room 17) 50 (some 50) .aP v6=some (v7,dO)/\i<N/\∃bC,aq dO b (0+i*1)=some (af bC)/\∃hZ dW,dJ an (ab.push dO (aQ [af bC] 35)) 50 (some 50) v7 (.slice dO.n 0 1 (.exact 1))=some (hZ,dW)/\∃qV,dC an dW 50 (.slice ob 0 M hc) (some (J aB)) none none=some qV/\∃v10 gJ,dJ an dW 50 (some 50) hZ qV=some (v10,gJ)/\i+1<9223372036854775808/\Q .nrm (aj [(4,.slice b 0 N cp),(6,v10),(7,J (i+1))] gJ))))/\(¬i<N->Q (.exit 2) (aj [(4,.slice b 0 N cp),(6,.slice ob 0 M hc),(7,J i)] h))):
  bp an Tryz.f51 call [1,1,1,1,1,0,1,0,0] (aj [(4,.slice b 0 N cp),(6,.slice ob 0 M hc),(7,J i)] h) Q:=
 c3 [(4004,.fj [4,6,7,8] [(.exit 4,[(4,.is (.slice b 0 N cp)),(6,.is (.slice ob 0 M hc)),(7,.is (J i)),(8,.n .i64)])])] [4,6,7] [] H
theorem adM(b N i:Nat)(cp:ct)(h:ab)(H:(i<N->bp an Tryz.f51 call [1,1,1,1,1,0,1,0,0,1,0,0,1,0,0] (aj [(4,.slice b 0 N cp),(6,.aP),(7,J i),(8,J 0)] h) (λb2 cc=>∃aB ak bt,b2=.exit 4/\cc=aj bt ak/\bY [(4,.slice b 0 N cp),(6,.aP),(7,J i),(8,J aB)] bt/\¬aB<0/\∃v1,dC an (ak.room 17) 50 .aP none (some (J aB)) none=some v1/\∃v2 av,dJ an (ak.room 17) 50 (some 50) .aP v1=some (v2,av)/\i<N/\∃aY,aq av b (0+i*1)=some (af aY)/\∃b8 aD,dJ an (ab.push av (aQ [af aY] 35)) 50 (some 50) v2 (.slice av.n 0 1 (.exact 1))=some (b8,aD)/\∃v4,dC an aD 50 .aP (some (J aB)) none none=some v4/\∃eC a4,dJ an aD 50 (some 50) b8 v4=some (eC,a4)/\i+1<9223372036854775808/\Q .nrm (aj [(4,.slice b 0 N cp),(6,eC),(7,J (i+1))] a4)))/\(¬i<N->Q (.exit 2) (aj [(4,.slice b 0 N cp),(6,.aP),(7,J i)] h))):
  bp an Tryz.f51 call [1,1,1,1,1,0,1,0,0] (aj [(4,.slice b 0 N cp),(6,.aP),(7,J i)] h) Q:=
 c3 [(1088,.f),(4004,.fj [4,6,7,8] [(.exit 4,[(4,.is (.slice b 0 N cp)),(6,.is .aP),(7,.is (J i)),(8,.n .i64)])])] [4,6,7] [] H
theorem adN(b N ob M i j:Nat)(cp hc:ct)(h:ab)(H:(j<M->j<M/\∃aB,aq (h.room 17) ob (0+j*1)=some (af aB)/\∃s1 ak,call (.fn 79) [af aB] (h.room 17)=.ret (.str s1) ak/\i<N/\∃aY,aq ak b (0+i*1)=some (af aY)/\∃s2 av,call (.fn 79) [af aY] ak=.ret (.str s2) av/\∃bn aD,call (.fn 77) [.str s1,.str s2] av=.ret (.bool bn) aD/\aq (h.room 17) b (0+i*1)=some (af aY)/\(bn=true->j+1<9223372036854775808/\Q .nrm (aj [(4,.slice b 0 N cp),(6,.slice ob 0 M hc),(7,J i),(8,J (j+1))] aD))/\(bn=false->Q (.exit 4) (aj [(4,.slice b 0 N cp),(6,.slice ob 0 M hc),(7,J i),(8,J j)] aD)))/\(¬j<M->Q (.exit 4) (aj [(4,.slice b 0 N cp),(6,.slice ob 0 M hc),(7,J i),(8,J j)] (h.room 17)))):
  bp an Tryz.f51 call [1,1,1,1,1,0,1,0,0,1,0,0,1,0,0,0] (aj [(4,.slice b 0 N cp),(6,.slice ob 0 M hc),(7,J i),(8,J j)] h) Q:=
 c3 [] [4,6,7,8] [] H
theorem adO(b N i:Nat)(cp:ct)(h:ab)(H:¬0<0/\Q (.exit 4) (aj [(4,.slice b 0 N cp),(6,.aP),(7,J i),(8,J 0)] (h.room 17))):
  bp an Tryz.f51 call [1,1,1,1,1,0,1,0,0,1,0,0,1,0,0,0] (aj [(4,.slice b 0 N cp),(6,.aP),(7,J i),(8,J 0)] h) Q:=
 c3 [(1069,.f)] [4,6,7,8] [] H
theorem Re(c d:Nat)(h:ab)(H:∃aB,aq h c 1=some (J aB)/\aB+1<9223372036854775808/\∃ak,bg.storeCells h c 1 [J (aB+1)]=some ak/\Q .nrm (aj [(0,af c),(1,J d)] ak)):
  bp an Tryz.f27 call [1,0] (aj [(0,af c),(1,J d)] h) Q:=
 c3 [] [0,1] [] H
theorem Rf(c d:Nat)(h:ab)(H:∃aB ak,call (.fn 48) [af c,J 9] h=.ret (J aB) ak/\1+aB<9223372036854775808/\Q .nrm (aj [(0,af c),(1,J d),(5,J (1+aB))] ak)):
  bp an Tryz.f27 call [1,1,0] (aj [(0,af c),(1,J d)] h) Q:=
 c3 [] [0,1,5] [] H
theorem Rg(c d k:Nat)(h:ab)(H:(d<1->∃aB ak,call (.fn 48) [af c,J 5] h=.ret (J aB) ak/\1+aB<9223372036854775808/\Q .nrm (aj [(0,af c),(1,J d),(5,J (1+aB))] ak))/\(¬d<1->∃aY,aq h c 1=some (J aY)/\(40<aY->∃bd av,call (.fn 48) [af c,J 5] h=.ret (J bd) av/\1+bd<9223372036854775808/\Q .nrm (aj [(0,af c),(1,J d),(5,J (1+bd))] av))/\(¬40<aY->Q .nrm (aj [(0,af c),(1,J d),(5,J k)] h)))):
  bp an Tryz.f27 call [1,1,1,0] (aj [(0,af c),(1,J d),(5,J k)] h) Q:=
 c3 [] [0,1,5] [] H
theorem adP(c d k:Nat)(h:ab)(H:∃aB ak,call (.fn 48) [af c,J 3] (ab.push h (aQ [J k,.str [],.aP,.aP,.aX] 80))=.ret (J aB) ak/\aB+1<9223372036854775808/\bp an Tryz.f27 call [1,1,1,1,1,1,0,1,0] (aj [(0,af c),(1,J d),(5,J k),(6,af h.n),(7,.aP),(8,J (aB+1))] ak) (λb2 cc=>∃aY av bt,b2=.exit 0/\cc=aj bt av/\bY [(0,af c),(5,J k),(6,af aY),(7,.aP)] bt/\(k=6->∃bd aD,call (.fn 48) [af c,J 2] (ab.push (ab.push av (aQ [.str [97],.str [98],.str [99]] 9)) (aQ [.str [109,46,84],.str [109,46,85]] 9))=.ret (J bd) aD/\bd<2/\∃s1,aq aD (ab.n (ab.push av (aQ [.str [97],.str [98],.str [99]] 9))) (0+bd*1)=some (.str s1)/\∃a4,bg.storeCells aD aY 1 [.str s1]=some a4/\(0=0->Q .ret (aj [(4,af aY)] a4))/\(¬0=0->Q .ret (aj [(4,af a4.n)] (ab.push a4 (aQ [J 2,.str [],.aP,.aP,.aX] 80)))))/\(¬k=6->¬k=7/\¬k=8/\¬k=9/\(0=0->Q .ret (aj [(4,af aY)] (ab.push av (aQ [.str [97],.str [98],.str [99]] 9))))/\(¬0=0->Q .ret (aj [(4,.ptr (ab.n (ab.push av (aQ [.str [97],.str [98],.str [99]] 9))) 0)] (ab.push (ab.push av (aQ [.str [97],.str [98],.str [99]] 9)) (aQ [J 2,.str [],.aP,.aP,.aX] 80))))))):
  bp an Tryz.f27 call [1,1,1,1] (aj [(0,af c),(1,J d),(5,J k)] h) Q:=
 c3 [(1066,.f),(1077,.f),(1088,.f),(74,.a1 (.eQ [.o,.n .i64])),(85,.a1 (.eQ [.o,.n .i64])),(92,.a1 (.eQ [.o,.n .i64])),(4000,.fj [0,1,5,6,7,8] [(.exit 0,[(0,.is (af c)),(5,.is (J k)),(6,.p),(7,.is .aP)])])] [4] [] H
theorem adQ(c d k:Nat)(h:ab)(H:∃aB ak,call (.fn 48) [af c,J 3] (ab.push h (aQ [J k,.str [],.aP,.aP,.aX] 80))=.ret (J aB) ak/\aB+1<9223372036854775808/\bp an Tryz.f27 call [1,1,1,1,1,1,0,1,0] (aj [(0,af c),(1,J d),(5,J k),(6,af h.n),(7,.aP),(8,J (aB+1))] ak) (λb2 cc=>∃aY bd bj bC,∃aM:ct,∃av bt,b2=.exit 0/\cc=aj bt av/\bY [(0,af c),(5,J k),(6,af aY),(7,.slice bd bj bC aM)] bt/\¬k=6/\(k=7->∃v1,dC an (ab.push av (aQ [.str [97],.str [98],.str [99]] 9)) 63 (.slice av.n 0 3 (.exact 3)) none (some (J bC)) none=some v1/\∃bP aD,call (.fn 49) [v1,.slice bd bj bC aM] (ab.push av (aQ [.str [97],.str [98],.str [99]] 9))=.ret (.aR [af bP,J 0]) aD/\(0=0->Q .ret (aj [(4,af bP)] aD))/\(¬0=0->Q .ret (aj [(4,af aD.n)] (ab.push aD (aQ [J 2,.str [],.aP,.aP,.aX] 80)))))/\(¬k=7->(k=8->∃v2,dC an (ab.room (ab.push av (aQ [.str [97],.str [98],.str [99]] 9)) 11) 50 (.slice bd bj bC aM) (some (J 1)) none none=some v2/\0<bC/\∃cd,aq (ab.room (ab.push av (aQ [.str [97],.str [98],.str [99]] 9)) 11) bd (bj+0*1)=some (af cd)/\∃cR a4,call (.fn 50) [v2,af cd] (ab.room (ab.push av (aQ [.str [97],.str [98],.str [99]] 9)) 11)=.ret (.aR [af cR,J 0]) a4/\cr v2/\(0=0->Q .ret (aj [(4,af cR)] a4))/\(¬0=0->Q .ret (aj [(4,af a4.n)] (ab.push a4 (aQ [J 2,.str [],.aP,.aP,.aX] 80)))))/\(¬k=8->(k=9->∃dD bk,call (.fn 51) [.slice bd bj bC aM] (ab.push av (aQ [.str [97],.str [98],.str [99]] 9))=.ret (.aR [af dD,J 0]) bk/\(0=0->Q .ret (aj [(4,af dD)] bk))/\(¬0=0->Q .ret (aj [(4,af bk.n)] (ab.push bk (aQ [J 2,.str [],.aP,.aP,.aX] 80)))))/\(¬k=9->(0=0->Q .ret (aj [(4,af aY)] (ab.push av (aQ [.str [97],.str [98],.str [99]] 9))))/\(¬0=0->Q .ret (aj [(4,.ptr (ab.n (ab.push av (aQ [.str [97],.str [98],.str [99]] 9))) 0)] (ab.push (ab.push av (aQ [.str [97],.str [98],.str [99]] 9)) (aQ [J 2,.str [],.aP,.aP,.aX] 80))))))))):
  bp an Tryz.f27 call [1,1,1,1] (aj [(0,af c),(1,J d),(5,J k)] h) Q:=
 c3 [(1056,.f),(74,.a1 (.eQ [.p,.is (J 0)])),(85,.a1 (.eQ [.p,.is (J 0)])),(92,.a1 (.eQ [.p,.is (J 0)])),(4000,.fj [0,1,5,6,7,8] [(.exit 0,[(0,.is (af c)),(5,.is (J k)),(6,.p),(7,.gN)])])] [4] [] H
theorem adR(c d k:Nat)(h:ab)(H:∃aB ak,call (.fn 48) [af c,J 3] (ab.push h (aQ [J k,.str [],.aP,.aP,.aX] 80))=.ret (J aB) ak/\aB+1<9223372036854775808/\bp an Tryz.f27 call [1,1,1,1,1,1,0,1,0] (aj [(0,af c),(1,J d),(5,J k),(6,af h.n),(7,.aP),(8,J (aB+1))] ak) (λb2 cc=>∃aY bd bj bC,∃aM:ct,∃av bt,b2=.exit 0/\cc=aj bt av/\bY [(0,af c),(5,J k),(6,af aY),(7,.slice bd bj bC aM)] bt/\¬k=6/\(k=7->∃v1,dC an (ab.push av (aQ [.str [97],.str [98],.str [99]] 9)) 63 (.slice av.n 0 3 (.exact 3)) none (some (J bC)) none=some v1/\∃aD,call (.fn 49) [v1,.slice bd bj bC aM] (ab.push av (aQ [.str [97],.str [98],.str [99]] 9))=.ret (.aR [.aX,J 3]) aD/\(3=0->Q .ret (aj [(4,.aX)] aD))/\(¬3=0->Q .ret (aj [(4,af aD.n)] (ab.push aD (aQ [J 2,.str [],.aP,.aP,.aX] 80)))))/\(¬k=7->(k=8->∃v2,dC an (ab.room (ab.push av (aQ [.str [97],.str [98],.str [99]] 9)) 11) 50 (.slice bd bj bC aM) (some (J 1)) none none=some v2/\0<bC/\∃bP,aq (ab.room (ab.push av (aQ [.str [97],.str [98],.str [99]] 9)) 11) bd (bj+0*1)=some (af bP)/\∃a4,call (.fn 50) [v2,af bP] (ab.room (ab.push av (aQ [.str [97],.str [98],.str [99]] 9)) 11)=.ret (.aR [.aX,J 3]) a4/\cr v2/\(3=0->Q .ret (aj [(4,.aX)] a4))/\(¬3=0->Q .ret (aj [(4,af a4.n)] (ab.push a4 (aQ [J 2,.str [],.aP,.aP,.aX] 80)))))/\(¬k=8->(k=9->∃bk,call (.fn 51) [.slice bd bj bC aM] (ab.push av (aQ [.str [97],.str [98],.str [99]] 9))=.ret (.aR [.aX,J 3]) bk/\(3=0->Q .ret (aj [(4,.aX)] bk))/\(¬3=0->Q .ret (aj [(4,af bk.n)] (ab.push bk (aQ [J 2,.str [],.aP,.aP,.aX] 80)))))/\(¬k=9->(0=0->Q .ret (aj [(4,af aY)] (ab.push av (aQ [.str [97],.str [98],.str [99]] 9))))/\(¬0=0->Q .ret (aj [(4,.ptr (ab.n (ab.push av (aQ [.str [97],.str [98],.str [99]] 9))) 0)] (ab.push (ab.push av (aQ [.str [97],.str [98],.str [99]] 9)) (aQ [J 2,.str [],.aP,.aP,.aX] 80))))))))):
  bp an Tryz.f27 call [1,1,1,1] (aj [(0,af c),(1,J d),(5,J k)] h) Q:=
 c3 [(1056,.f),(74,.a1 (.eQ [.is .aX,.is (J 3)])),(85,.a1 (.eQ [.is .aX,.is (J 3)])),(92,.a1 (.eQ [.is .aX,.is (J 3)])),(4000,.fj [0,1,5,6,7,8] [(.exit 0,[(0,.is (af c)),(5,.is (J k)),(6,.p),(7,.gN)])])] [4] [] H
theorem Rh(c d k q n:Nat)(w:ad)(h:ab)(H:(0<n->(7<=k->(1<=d/\d<9223372036854775808)/\∃aB ak,call (.fn 27) [af c,J (d-1)] h=.ret (af aB) ak/\∃v1 av,dJ an (ab.push ak (aQ [af aB] 35)) 50 (some 50) w (.slice ak.n 0 1 (.exact 1))=some (v1,av)/\(1<=n/\n<9223372036854775808)/\Q .nrm (aj [(0,af c),(1,J d),(5,J k),(6,af q),(7,v1),(8,J (n-1))] av))/\(¬7<=k->Q (.exit 0) (aj [(0,af c),(1,J d),(5,J k),(6,af q),(7,w),(8,J n)] h)))/\(¬0<n->Q (.exit 0) (aj [(0,af c),(1,J d),(5,J k),(6,af q),(7,w),(8,J n)] h))):
  bp an Tryz.f27 call [1,1,1,1,1,1,0,1,0,0] (aj [(0,af c),(1,J d),(5,J k),(6,af q),(7,w),(8,J n)] h) Q:=
 c3 [] [0,1,5,6,7,8] [7] H
theorem adS(m:Nat)(v:ad)(h:ab)(H:∃aB,bV an h 27 v=some (J aB)/\∃aY,mH sm (J aB) [J 60]=some (J aY)/\∃v1,dC an h 27 v none (some (J aY)) none=some v1/\g4 v1/\g4 v1/\∃bd ak,Y m (.fn 27) [af h.n,J 3] (ab.push h (aQ [v1,J 0] 72))=.ret (af bd) ak/\R (.ret (af bd) ak)):
  R (Y (m+1) (.fn 12) [v] h):=
 dB [(7,.a1 (.n .i64))] [0] Tryz.func12 H
theorem Ri(c d:Nat)(h:ab)(H:Q .nrm (aj [(0,af c),(1,J d)] h)):
  bp an Tryz.f27 call [0] (aj [(0,af c),(1,J d)] h) Q:=
 c3 [] [0,1] [] H
theorem JV{P:Program}{h:ab}{T E b off n:Nat}{cp:ct}(hu:P.underlying T=some (.slice E))(al:ef P E=some 1)(h0:0<n)(ah:zl n cp):∃p_ jE,dC P h T (.slice b off n cp) (some (J 1)) none none=some (.slice b p_ (n-1) jE)/\zl (n-1) jE/\(0<n-1->p_=off+1*1/\jE≠ .dead):=by
 have bo:Nat.ble 1 n=true:=by rw[Nat.ble_eq];omega
 cases cp with
 |exact k=>
  have ay:n<=k:=ah
  have bn:Nat.ble k k=true:=by rw[Nat.ble_eq];omega
  have c9:Nat.ble n k=true:=by rw[Nat.ble_eq];omega
  refine⟨if k=1 then off else off+1*1,.exact (k-1),by simp only[dC,hu,al,bounds,hU,fe,bn,bo,c9],by show n-1<=k-1;omega,λI=>⟨?_,by simp⟩⟩
  rw[if_neg (by omega)]
 |aL e=>
  obtain rfl:e=1:=ah
  have bn:Nat.ble n n=true:=by rw[Nat.ble_eq];omega
  by_cases I:1<n
  · have c9:Nat.blt 1 n=true:=by rw[Nat.blt_eq];omega
    refine⟨off+1*1,.aL 1,?_,rfl,λ_=>⟨rfl,by simp⟩⟩
    simp only[dC,hu,al,bounds,hU,fe,bn,bo,c9,if_true]
    rw[if_neg (by decide)]
  · have c9:¬Nat.blt 1 n=true:=by rw[Nat.blt_eq];omega
    obtain rfl:n=1:=by omega
    exact⟨off,.dead,by simp only[dC,hu,al,bounds,hU,fe];rfl,rfl,λh=>absurd h (by omega)⟩
 |dead=>have:n=0:=ah;omega
theorem Rj{P:Program}{h:ab}{T E b off n k:Nat}{cp:ct}(hu:P.underlying T=some (.slice E))(al:ef P E=some 1)(ay:k<=n)(ah:zl n cp):∃p_ jE,dC P h T (.slice b off n cp) none (some (J k)) none=some (.slice b p_ k jE)/\zl k jE/\(0<k->p_=off/\jE≠ .dead):=by
 have c2:Nat.ble 0 k=true:=by rw[Nat.ble_eq];omega
 cases cp with
 |exact j=>
  have aO:n<=j:=ah
  have bn:Nat.ble j j=true:=by rw[Nat.ble_eq];omega
  have c9:Nat.ble k j=true:=by rw[Nat.ble_eq];omega
  refine⟨if j=0 then off else off+0*1,.exact (j-0),by simp only[dC,hu,al,bounds,hU,fe,bn,c2,c9,Nat.sub_zero],by show k<=j-0;omega,λI=>⟨?_,by simp⟩⟩
  rw[if_neg (by omega),Nat.zero_mul,Nat.add_zero]
 |aL e=>
  obtain rfl:e=1:=ah
  have bn:Nat.ble n n=true:=by rw[Nat.ble_eq];omega
  have bo:Nat.ble k n=true:=by rw[Nat.ble_eq];omega
  exact⟨off,.aL 1,by simp only[dC,hu,al,bounds,hU,fe,bn,bo,c2,if_true,Nat.sub_zero],rfl,λ_=>⟨rfl,by simp⟩⟩
 |dead=>
  have h0:n=0:=ah
  obtain rfl:k=0:=by omega
  exact⟨off,.dead,by simp only[dC,hu,al,bounds,hU,fe],rfl,λh=>absurd h (by omega)⟩
def pn(B:Nat)(h:ab)(v:ad)(s:bb):Prop:=(v=.aP/\s=[])\/∃b off cp,v=.slice b off s.length cp/\b<B/\zl s.length cp/\∀i (hi:i<s.length),aq h b (off+i*1)=some (b4 s[i].toNat)
theorem pn.ext{B:Nat}{h g:ab}{v:ad}{s:bb}(x:Ext B h g)(o:pn B h v s):pn B g v s:=by
 rcases o with o|⟨b,off,cp,I,ae,ax,aN⟩
 · exact .inl o
 · exact .inr ⟨b,off,cp,I,ae,ax,λi hi=>iD x ae (aN i hi)⟩
theorem pn.len{B:Nat}{h:ab}{v:ad}{s:bb}(o:pn B h v s)(g:ab):bV an g 27 v=some (J s.length):=by
 rcases o with⟨rfl,rfl⟩|⟨b,off,cp,rfl,_⟩<;>rfl
structure gV(B c:Nat)(h:ab)(m:gg):Prop where
 get:∃v,h.get c=some (aQ [v,J m.nodes] 72)/\pn B h v m.left
 lo:B<=c
 up:c<h.n
structure fb(c:Nat)(h g:ab):Prop where
 n:h.n<=g.n
 get:∀d,d<h.n->d≠c->g.get d=h.get d
theorem fb.refl(c:Nat)(h:ab):fb c h h:=⟨Nat.le_refl _,λ_ _ _=>rfl⟩
theorem fb.trans{c:Nat}{h g k:ab}(e:fb c h g)(f:fb c g k):fb c h k:=⟨Nat.le_trans e.n f.n,λd ai ah=>(f.get d (Nat.lt_of_lt_of_le ai e.n) ah).trans (e.get d ai ah)⟩
theorem fb.mA{c:Nat}{h g:ab}(e:Ext h.n h g):fb c h g:=⟨e.n,λd ai _=>e.get d ai⟩
theorem gV.move{B c:Nat}{h g:ab}{m:gg}(o:gV B c h m)(e:Ext h.n h g):gV B c g m:=by
 obtain⟨v,I,ae⟩:=o.get
 have hu:=o.up
 exact⟨⟨v,(e.get c hu).trans I,ae.ext (e.le (by have:=o.lo;omega))⟩,o.lo,Nat.lt_of_lt_of_le hu e.n⟩
theorem adT(n:Nat)(aH:n<256)(h:ab):hp an 5 3 (b4 n) h=.val (J n) h:=Ev (ka:=.u8) (by kernel_rfl) (by kernel_rfl) (tZ n (by omega))
theorem q1{h g:ab}{b off:Nat}(e:g.get b=h.get b):aq g b off=aq h b off:=by unfold aq;rw[e]
theorem xh(m n:Nat){B c:Nat}{h:ab}{k:gg}(ay:gV B c h k)(h0:0<n):∃g,Y (m+1) (.fn 48) [.ptr c 0,J n] h=.ret (J (dI n k).1) g/\gV B c g (dI n k).2/\fb c h g:=by
 obtain⟨⟨v,ar,ag⟩,gM,qY⟩:=ay
 obtain⟨left,nodes⟩:=k
 refine adB m c n h (R:=λx=>∃g,x=.ret (J (dI n ⟨left,nodes⟩).1) g/\gV B c g (dI n ⟨left,nodes⟩).2/\fb c h g) ⟨v,aF ar rfl,left.length,ag.len h,λaA=>?_,λaA=>?_⟩
 · obtain rfl:left=[]:=List.eq_nil_of_length_eq_zero aA
   exact⟨h,rfl,⟨⟨v,ar,ag⟩,gM,qY⟩,fb.refl _ _⟩
 · rcases ag with⟨rfl,rfl⟩|⟨b,off,cp,rfl,ae,ax,aN⟩
   · exact absurd rfl aA
   cases left with
   |nil=>exact absurd rfl aA
   |cons x l=>
    have aa:=UInt8.toNat_lt x
    obtain⟨p_,jE,aG,aE,bH⟩:=JV (P:=an) (h:=h) (T:=27) (E:=5) (b:=b) (off:=off) (by kernel_rfl) (by kernel_rfl) (by simp) ax
    refine⟨b,off,_,cp,aF ar rfl,by simp,x.toNat,aN 0 (by simp),x.toNat,adT _ (by omega) h,x.toNat %n,XC .i64 h0,b,off,_,cp,aF ar rfl,_,aG,rfl,_,eV ar rfl rfl,_,rfl,⟨⟨_,eK rfl,?_⟩,gM,by simpa using qY⟩,⟨by simp,λd ai ah=>cX ah rfl⟩⟩
    refine .inr ⟨b,p_,jE,rfl,ae,aE,λi hi=>?_⟩
    have hi:i<l.length:=hi
    obtain⟨f1,_⟩:=bH (by simp;omega)
    have eZ:=aN (i+1) (by simp;omega)
    rw[f1,show off+1*1+i*1=off+(i+1)*1 by omega]
    have t_:b≠c:=by omega
    refine(q1 ?_).trans eZ
    exact cX t_ rfl
abbrev lL(a b:Nat)(d:Nat):Prop:=a<=d/\d<b
abbrev g9(lo:Nat)(h:ab)(t:aJ)(v:ad):Prop:=ew (lL lo h.n) h t v
abbrev kE(lo:Nat)(h:ab)(l:List aJ)(vs:List ad):Prop:=cN (lL lo h.n) h l vs
theorem Ext.iX{lo:Nat}{h g:ab}(x:Ext h.n h g):∀b,lL lo h.n b->lL lo g.n b/\g.get b=h.get b:=λb ag=>⟨⟨ag.1,Nat.lt_of_lt_of_le ag.2 x.n⟩,x.get b ag.2⟩
theorem g9.ie{lo:Nat}{h g:ab}{t:aJ}{v:ad}(x:Ext h.n h g)(o:g9 lo h t v):g9 lo g t v:=ew.bB (Ext.iX x) t v o
theorem kE.ie{lo:Nat}{h g:ab}{l:List aJ}{vs:List ad}(x:Ext h.n h g)(o:kE lo h l vs):kE lo g l vs:=cN.bB (Ext.iX x) l vs o
theorem g9.at{lo:Nat}{h:ab}{t:aJ}{v:ad}(o:g9 lo h t v):dP h.n h t v:=ew.at (λb ag=>ag.2) t v o
theorem kE.at{lo:Nat}{h:ab}{l:List aJ}{vs:List ad}(o:kE lo h l vs):dZ h.n h l vs:=cN.at (λb ag=>ag.2) l vs o
theorem cN.len{F:Nat->Prop}{h:ab}:∀{cF:List aJ} {vs:List ad},cN F h cF vs->vs.length=cF.length
 |[],vs,aa=>by have e:vs=[]:=aa;rw[e];rfl
 |t::cF,vs,aa=>by
  obtain⟨v,ws,rfl,_,ae⟩:=aa
  rw[List.length_cons,List.length_cons,cN.len ae]
theorem cN.get{F:Nat->Prop}{h:ab}:∀{cF:List aJ} {vs:List ad},cN F h cF vs->∀i (I:i<vs.length) (ae:i<cF.length),ew F h cF[i] vs[i]
 |[],_,_,_,_,ae=>by cases ae
 |t::cF,_,aa,0,_,_=>by obtain⟨v,ws,rfl,ax,_⟩:=aa;exact ax
 |t::cF,_,aa,i+1,I,ae=>by
  obtain⟨v,ws,rfl,_,ax⟩:=aa
  exact cN.get ax i (by simpa using I) (by simpa using ae)
theorem ew.ptr{F:Nat->Prop}{h:ab}:∀{t:aJ} {v:ad},ew F h t v->∃r,v=.ptr r 0
 |.mk _ _ _ _ _,_,aa=>by obtain⟨r,_,_,_,_,_,_,_,I,_⟩:=aa;exact⟨r,I⟩
theorem cN.Fm{F:Nat->Prop}{h:ab}:∀{cF:List aJ} {vs:List ad},cN F h cF vs->∃ps:List Nat,vs=ps.map λp=>.ptr p 0
 |[],vs,aa=>⟨[],aa⟩
 |t::cF,_,aa=>by
  obtain⟨v,ws,rfl,I,ae⟩:=aa
  obtain⟨r,rfl⟩:=ew.ptr I
  obtain⟨ps,rfl⟩:=cN.Fm ae
  exact⟨r::ps,rfl⟩
theorem cN.app{F:Nat->Prop}{h:ab}{us:List aJ}{ws:List ad}(hu:cN F h us ws):∀{cF:List aJ} {vs:List ad},cN F h cF vs->cN F h (cF++us) (vs++ws)
 |[],vs,aa=>by have e:vs=[]:=aa;rw[e];exact hu
 |t::cF,_,aa=>by
  obtain⟨v,ys,rfl,I,ae⟩:=aa
  exact⟨v,ys++ws,rfl,I,cN.app hu ae⟩
theorem cN.take{F:Nat->Prop}{h:ab}:∀{cF:List aJ} {vs:List ad} (k:Nat),cN F h cF vs->cN F h (cF.take k) (vs.take k)
 |[],vs,k,aa=>by have e:vs=[]:=aa;rw[e,List.take_nil,List.take_nil];rfl
 |t::cF,vs,0,aa=>rfl
 |t::cF,_,k+1,aa=>by
  obtain⟨v,ys,rfl,I,ae⟩:=aa
  exact⟨v,ys.take k,rfl,I,cN.take k ae⟩
theorem cN.drop{F:Nat->Prop}{h:ab}:∀{cF:List aJ} {vs:List ad} (k:Nat),cN F h cF vs->cN F h (cF.drop k) (vs.drop k)
 |[],vs,k,aa=>by have e:vs=[]:=aa;rw[e,List.drop_nil,List.drop_nil];rfl
 |t::cF,vs,0,aa=>aa
 |t::cF,_,k+1,aa=>by
  obtain⟨v,ys,rfl,I,ae⟩:=aa
  exact cN.drop k ae
theorem JW{k N M:Nat}{s:bb}{o:Bool}(h:jm k s N M o=true)(dw:k≠7):N=0:=by
 unfold jm at h
 simp only[Bool.and_eq_true] at h
 have:=h.1.1.2
 simp only[Bool.not_eq_true',Bool.and_eq_false_iff,decide_eq_false_iff_not] at this
 rcases this with h|h
 · omega
 · exact absurd dw (by simpa using h)
mutual
theorem Rk:∀t:aJ,eW t=true->iE t<=sz t
 |.mk k nm ns xs rt,h=>by
  rw[o_] at h
  simp only[Bool.and_eq_true] at h
  obtain⟨_,a0,aa,ay⟩:=h
  have I:=Rl xs aa
  have ae:m3 rt<=dk rt:=by
   cases rt with
   |none=>rw[m3];exact Nat.zero_le _
   |some u=>
    have gF:k=8:=by
     unfold jm at a0
     simp only[Bool.and_eq_true] at a0
     have:=a0.2
     simpa using this
    subst gF
    have hu:eW u=true:=by simpa[fK,jV] using ay
    rw[m3,dk]
    exact Rk u hu
  have ax:ns.length<=xs.length:=by
   by_cases dw:k=7
   · subst dw
     have:ns.length=xs.length/\lg none ns=true:=by simpa[fK] using ay
     omega
   · have:=JW a0 dw;omega
  have aN:=mo xs
  have bS:=JX xs aa
  rw[iE,sz]
  omega
theorem Rl:∀l:List aJ,iG l=true->p2 l<=dH l
 |[],_=>by rw[p2];exact Nat.zero_le _
 |t::l,h=>by
  rw[iG,Bool.and_eq_true] at h
  have I:=Rk t h.1
  have ae:=Rl l h.2
  rw[p2,dH];omega
theorem JX:∀l:List aJ,iG l=true->p2 l+l.length<=dH l
 |[],_=>by rw[p2,dH];simp
 |t::l,h=>by
  rw[iG,Bool.and_eq_true] at h
  have I:=JY t h.1
  have ae:=JX l h.2
  rw[p2,dH,List.length_cons];omega
theorem JY:∀t:aJ,eW t=true->iE t+1<=sz t
 |.mk k nm ns xs rt,h=>by
  rw[o_] at h
  simp only[Bool.and_eq_true] at h
  obtain⟨_,a0,aa,ay⟩:=h
  have I:=JX xs aa
  have ae:m3 rt<=dk rt:=by
   cases rt with
   |none=>rw[m3];exact Nat.zero_le _
   |some u=>
    have gF:k=8:=by
     unfold jm at a0
     simp only[Bool.and_eq_true] at a0
     have:=a0.2
     simpa using this
    subst gF
    have hu:eW u=true:=by simpa[fK,jV] using ay
    have:=JY u hu
    rw[m3,dk];omega
  have ax:ns.length<=xs.length:=by
   by_cases dw:k=7
   · subst dw
     have:ns.length=xs.length/\lg none ns=true:=by simpa[fK] using ay
     omega
   · have:=JW a0 dw;omega
  rw[iE,sz]
  omega
end
theorem Ca{t:aJ}(h:dE (some t)=0):sz t<=60/\iE t<=60:=by
 obtain⟨I,ae⟩:=lK.1 h
 have:=JY t ae
 exact⟨I,by omega⟩
theorem JZ(m:Nat){B:Nat}{h:ab}{b off:Nat}{cp:ct}{l:List aJ}{vs:List ad}(hm:70<=m)(dd:B<=h.n)(ag:b<B)(aA:∀i (hi:i<vs.length),aq h b (off+i*1)=some vs[i])(aa:dZ B h l vs)(hlen:vs.length<=1000)(ah:∀t∈l,dE (some t)=0):dq B h (.bool true) (Y (m+2) (.fn 75) [.slice b off vs.length cp] h):=by
 refine adC (m+1) b off vs.length cp h (R:=dq B h (.bool true)) ?_
 refine e8 (λk st=>∃i y Γ,st=aks Γ y/\bY [(0,.slice b off vs.length cp),(3,J i)] Γ/\vs.length-i=k/\i<=vs.length/\Ext B h y) ?_ vs.length _ (by omega) ⟨0,h,_,rfl,⟨rfl,rfl,trivial⟩,by omega,by omega,Ext.refl _ _⟩
 rintro k st ⟨i,y,Γ,rfl,cn,ay,hi,aZ⟩
 have fH:=dZ.len aa
 refine ei (adD (Y (m+1)) b off _ i cp y ⟨λI=>?_,λI=>?_⟩) cn
 · have ae:i<l.length:=by omega
   have bm:=dZ.get aa i I ae
   have qa:=ah _ (List.getElem_mem ae)
   obtain⟨s1,s2⟩:=Ca qa
   have fm:dk (some l[i])=sz l[i]:=jk _
   have a0:∃r,vs[i]=.ptr r 0:=by
    rcases d_.uW (ot:=some l[i]) bm with e|⟨r,e⟩
    · exfalso
      rw[e] at bm
      cases adU:l[i] with
      |mk cu cU dm e0 ey=>
       rw[adU] at bm
       obtain⟨_,_,_,_,_,_,_,_,e,_⟩:=bm;cases e
    · exact⟨r,e⟩
   obtain⟨r,ao⟩:=a0
   obtain⟨g,aM,bF⟩:=Jm (ot:=some l[i]) (B:=B) (h:=y) (v:=vs[i]) m (by omega) (λt e=>by cases e;omega) (by omega) (Nat.le_trans dd aZ.n) (d_.bB (hk.ext aZ (Nat.le_refl _)) _ _ bm)
   rw[qa,ao] at aM
   refine⟨I,r,(iD aZ ag (aA i I)).trans (by rw[ao]),0,g,aM,λ_=>⟨by omega,_,(by show _<k;omega),i+1,g,_,rfl,⟨rfl,rfl,trivial⟩,rfl,by omega,aZ.trans (Nat.le_refl _) bF⟩,λh=>absurd rfl h⟩
 · exact .inl ⟨y,_,rfl,rfl,trivial,dq.mk aZ⟩
theorem adV(m:Nat){B:Nat}{h:ab}{t:aJ}{r:Nat}(ag:sz t<=90000)(hm:sz t<m)(aI:dP B h t (.ptr r 0)):Y (m+2) (.fn 78) [.ptr r 0] h=.ret (if sz t<=60 then .aR [.ptr r 0,J 0] else .aR [.aX,J 3]) h:=by
 refine adE (m+1) r h (R:=λx=>x=_) ⟨_,h,PK ag hm aI,λcz=>?_,λcz=>?_⟩
 · rw[if_neg (by omega)]
 · rw[if_pos (by omega)]
theorem bT.adW{D:Type}{P:Program}{e:D->ad}{el sT:TypeId}(T:lW P (λd=>[e d]) 1 el sT){B:Nat}{h:ab}{v:ad}{ds:List D}(bc:bT (λd=>[e d]) 1 el B h v ds){k:Nat}(ay:k<=ds.length):∃v',dC P h sT v none (some (J k)) none=some v'/\∀g,(∀p,v=.slice p 0 ds.length (.aL 1)->g.get p=h.get p)->fu g 1 v'=some ((ds.take k).length,dp (λd=>[e d]) (ds.take k)):=by
 rcases bc with⟨rfl,rfl⟩|⟨p,rfl,ae,ax,aN,bS⟩
 · obtain rfl:k=0:=by simpa using ay
   refine⟨.aP,?_,λg _=>by rw[List.take_zero];rfl⟩
   simp only[dC,T.hu,T.size,bounds,hU,fe]
 · refine⟨_,E9 T.hu T.size ay,λg ar=>?_⟩
   have hlen:(ds.take k).length=k:=by rw[List.length_take];omega
   by_cases h0:k=0
   · subst h0
     have e:bg.loadCells g p 0 (0*1)=some []:=lU ((ar p rfl).trans ax) rfl
     simp only[fu,e,List.take_zero];rfl
   · have:=c5.src (B:=B) (h:=g) (b:=p) (off:=0) (cp:=.aL 1) (vs:=(ds.take k).map e) (λi hi=>by
       rw[List.length_map] at hi
       refine lb ((ar p rfl).trans ax) ?_
       rw[kn,List.getElem?_map,Nat.zero_add,Nat.mul_one,List.getElem?_eq_getElem (by omega)]
       simp) (by rw[List.length_map];omega) (by simp)
     rw[List.length_map,hlen] at this
     rw[this,hlen,kn]
theorem bT.adX{D:Type}{P:Program}{e:D->ad}{el sT:TypeId}(T:lW P (λd=>[e d]) 1 el sT){B:Nat}{h:ab}{v:ad}{ds:List D}(bc:bT (λd=>[e d]) 1 el B h v ds){k:Nat}(ay:k<=ds.length)(g:ab)(ar:∀p,v=.slice p 0 ds.length (.aL 1)->g.get p=h.get p):∃v',dC P g sT v (some (J k)) none none=some v'/\fu g 1 v'=some ((ds.drop k).length,dp (λd=>[e d]) (ds.drop k)):=by
 rcases bc with⟨rfl,rfl⟩|⟨p,rfl,ae,ax,aN,bS⟩
 · obtain rfl:k=0:=by simpa using ay
   refine⟨.aP,?_,rfl⟩
   simp only[dC,T.hu,T.size,bounds,hU,fe]
 · have hlen:(ds.drop k).length=ds.length-k:=by rw[List.length_drop]
   have rd:∀(o:Nat) (c:ct),c≠ .dead->o=0+k*1->0<ds.length-k->fu g 1 (.slice p o (ds.length-k) c)=some (ds.length-k,(ds.drop k).map e):=λo c ah bc h0=>by
    have:=c5.src (B:=B) (h:=g) (b:=p) (off:=o) (cp:=c) (vs:=(ds.drop k).map e) (λi hi=>by
     rw[List.length_map,hlen] at hi
     refine lb ((ar p rfl).trans ax) ?_
     rw[kn,List.getElem?_map,List.getElem?_eq_getElem (by omega)]
     simp[bc]) (by rw[List.length_map];omega) ah
    rw[List.length_map,hlen] at this
    exact this
   by_cases h0:k=0
   · subst h0
     have bn:Nat.ble ds.length ds.length=true:=by rw[Nat.ble_eq];omega
     have bo:Nat.ble 0 ds.length=true:=by rw[Nat.ble_eq];omega
     refine⟨.slice p 0 ds.length (.aL 1),by simp only[dC,T.hu,T.size,bounds,hU,fe,bn,bo,if_true],?_⟩
     have:=rd 0 (.aL 1) (by simp) rfl (by omega)
     rw[kn,hlen]
     exact this
   · by_cases cz:k<ds.length
     · refine⟨_,u5 T.hu T.size (by omega) cz,?_⟩
       rw[rd _ _ (by simp) rfl (by omega),kn,hlen]
     · obtain rfl:k=ds.length:=by omega
       have bn:Nat.ble ds.length ds.length=true:=by rw[Nat.ble_eq];omega
       have c9:¬Nat.blt ds.length ds.length=true:=by rw[Nat.blt_eq];omega
       refine⟨.slice p 0 0 .dead,by simp only[dC,T.hu,T.size,bounds,hU,fe,bn,if_true,if_neg h0,if_neg c9],?_⟩
       rw[List.drop_length];rfl
theorem bT.cell{D:Type}{enc:D->List ad}{w el B:Nat}{h:ab}{v:ad}{ds:List D}(bc:bT enc w el B h v ds):v.de=true:=by
 rcases bc with⟨rfl,_⟩|⟨p,rfl,_⟩<;>rfl
theorem bT.len{D:Type}{P:Program}{enc:D->List ad}{w el sT B:Nat}(hu:P.underlying sT=some (.slice el)){h:ab}{v:ad}{ds:List D}(bc:bT enc w el B h v ds)(g:ab):bV P g sT v=some (J ds.length):=by
 rcases bc with⟨rfl,rfl⟩|⟨p,rfl,_⟩<;>simp only[bV,hu]<;>rfl
theorem grow{D:Type}{P:Program}{e:D->ad}{el sT:TypeId}(T:lW P (λd=>[e d]) 1 el sT){B:Nat}{h:ab}{v:ad}{ds:List D}(bc:bT (λd=>[e d]) 1 el B h v ds)(d:D)(tc:TypeId){k:Nat}(ay:k<=ds.length)(aA:ds.length<=1000):
  ∃b8 v4 aD,dC P h sT v none (some (J k)) none=some b8/\dJ P h sT (some sT) .aP b8=some (v4,aD)/\Ext h.n h aD/\
  ∃eC a4,dJ P (aD.push (aQ [e d] tc)) sT (some sT) v4 (.slice aD.n 0 1 (.exact 1))=some (eC,a4)/\Ext h.n h a4/\
  ∃v7 hZ bk,dC P a4 sT v (some (J k)) none none=some v7/\dJ P a4 sT (some sT) eC v7=some (hZ,bk)/\Ext h.n h bk/\bT (λd=>[e d]) 1 el h.n bk hZ (ds.take k++d::ds.drop k):=by
 obtain⟨b8,bH,b1⟩:=bT.adW T bc ay
 have dL:(ds.take k).length<=ds.length:=by rw[List.length_take];omega
 obtain⟨v4,aD,eu,po,e1,_⟩:=qK T (B:=h.n) (h:=h) (v:=.aP) (ds:=[]) (es:=ds.take k) (.inl ⟨rfl,rfl⟩) (Nat.le_refl _) (b1 h λ_ _=>rfl) (by simp;omega)
 rw[List.nil_append] at po
 have adY:bT (λd=>[e d]) 1 el h.n (aD.push (aQ [e d] tc)) v4 (ds.take k):=po.mono (Ext.push (Nat.le_refl _) _) (Nat.le_refl _)
 have mB:Ext h.n h (aD.push (aQ [e d] tc)):=Ext.lV e1.n e1
 obtain⟨eC,a4,eZ,adZ,m1,_⟩:=qK T (B:=h.n) (es:=[d]) adY mB.n (yz T aD tc d) (by rw[List.length_singleton];omega)
 have Fo:=mB.trans (Nat.le_refl _) m1
 obtain⟨v7,hA,ek⟩:=bT.adX T bc ay a4 (λp a0=>by
  rcases bc with⟨rfl,_⟩|⟨q,rfl,_,_,_,bS⟩
  · cases a0
  · cases a0;exact Fo.get _ bS)
 have ajQ:(ds.drop k).length<=ds.length:=by rw[List.length_drop];omega
 obtain⟨hZ,bk,ic,ad0,tp,_⟩:=qK T (B:=h.n) (es:=ds.drop k) adZ Fo.n ek (by rw[List.length_append,List.length_singleton];omega)
 refine⟨b8,v4,aD,bH,eu,e1,eC,a4,eZ,Fo,v7,hZ,bk,hA,ic,Fo.trans (Nat.le_refl _) tp,?_⟩
 have hN:ds.take k++d::ds.drop k=ds.take k++[d]++ds.drop k:=by simp
 rw[hN];exact ad0
def Cb(lo:Nat)(h:ab)(t:aJ)(x:bE):Prop:=∃g,Ext h.n h g/\((sz t<=60/\∃r,x=.ret (.aR [.ptr r 0,J 0]) g/\g9 lo g t (.ptr r 0))\/(60<sz t/\x=.ret (.aR [.aX,J 3]) g))
abbrev g_(p:Nat):ad:=.ptr p 0
abbrev iJ(B:Nat)(h:ab)(v:ad)(ps:List Nat):Prop:=bT (λd=>[g_ d]) 1 35 B h v ps
abbrev k0(B:Nat)(h:ab)(v:ad)(cc:List bb):Prop:=bT (λd=>[ad.str d]) 1 9 B h v cc
theorem qb:lW an (λd=>[g_ d]) 1 35 50:=adA
theorem J0:lW an (λd=>[ad.str d]) 1 9 63:=adz
theorem bT.iX{D:Type}{enc:D->List ad}{w el B lo:Nat}{h:ab}{v:ad}{ds:List D}(bc:bT enc w el B h v ds)(gM:lo<=B):∀b n cp,v=.slice b 0 n cp->lL lo h.n b:=by
 intro b n cp e
 rcases bc with⟨rfl,_⟩|⟨p,rfl,_,_,aN,bS⟩
 · cases e
 · cases e;exact⟨by omega,bS⟩
theorem A2(m lo:Nat){h g:ab}{t:aJ}{r:Nat}(aa:Ext h.n h g)(aI:g9 lo g t (.ptr r 0))(ag:sz t<=90000)(hm:sz t<m):∃v n e6,Y (m+2) (.fn 78) [.ptr r 0] g=.ret (.aR [v,J n]) e6/\Cb lo h t (.ret (.aR [v,J n]) e6):=by
 have e:=adV m ag hm aI.at
 by_cases cz:sz t<=60
 · rw[if_pos cz] at e
   exact⟨_,_,_,e,g,aa,.inl ⟨cz,r,rfl,aI⟩⟩
 · rw[if_neg cz] at e
   exact⟨_,_,_,e,g,aa,.inr ⟨by omega,rfl⟩⟩
theorem J1(k:Nat)(ns:List bb)(l:List aJ)(rt:Option aJ)(aA:∀t∈l,dE (some t)=0)(hlen:l.length<=1000):sz (.mk k [] ns l rt)<=60001+dk rt:=by
 have:=ads aA
 have:60*l.length<=60*1000:=Nat.mul_le_mul_left _ hlen
 rw[l3];omega
theorem J2{cu cU dm e0 ey w:ad}(hw:w.de=true):gD (0+2) [w] [cu,cU,dm,e0,ey]=some [cu,cU,w,e0,ey]/\gD (0+3) [w] [cu,cU,dm,e0,ey]=some [cu,cU,dm,w,ey]:=by
 constructor<;>simp[gD,hw]
theorem ad1(m lo:Nat){h:ab}{b off r:Nat}{cp:ct}{x:aJ}{l:List aJ}{vs:List ad}(hm:200000<=m)(gM:lo<=h.n)(ag:b<h.n)(aA:∀i (hi:i<vs.length),aq h b (off+i*1)=some vs[i])(aI:kE lo h l vs)(al:∀g,Ext h.n h g->fu g 1 (.slice b off vs.length cp)=some (vs.length,vs))(ao:g9 lo h x (.ptr r 0))(hlen:vs.length<=1000)(ah:∀t∈l,dE (some t)=0)(Rm:dE (some x)=0):Cb lo h (.mk 8 [] [] l (some x)) (Y (m+3) (.fn 50) [.slice b off vs.length cp,.ptr r 0] h):=by
 obtain⟨ak,aM,bF⟩:=JZ m (by omega) (Nat.le_refl _) ag aA aI.at hlen ah
 obtain⟨s1,s2⟩:=Ca Rm
 have fm:dk (some x)=sz x:=jk _
 have iu:g9 lo ak x (.ptr r 0):=ao.ie bF
 obtain⟨av,bf,cJ⟩:=Jm (ot:=some x) (B:=ak.n) (h:=ak) (v:=.ptr r 0) (m+1) (by omega) (λt e=>by cases e;omega) (by omega) (Nat.le_refl _) iu.at
 rw[Rm] at bf
 have fH:=cN.len aI
 obtain⟨ps,qA⟩:=cN.Fm aI
 have hV:vs.length=ps.length:=by rw[qA,List.length_map]
 have p8:=bF.trans bF.n cJ
 obtain⟨H,cy⟩:∃H,H=av.push (aQ [J 8,.str [],.aP,.aP,.ptr r 0] 80):=⟨_,rfl⟩
 have dY:Ext h.n h H:=by rw[cy];exact Ext.lV p8.n p8
 have zo:H.get av.n=some (aQ [J 8,.str [],.aP,.aP,.ptr r 0] 80):=by rw[cy];exact e7 rfl
 have lj:H.n=av.n+1:=by rw[cy];rfl
 have ad2:=p8.n
 have Rn:=al H dY
 rw[hV] at Rn
 obtain⟨v2,aD,bH,tq,dh,bd,dF⟩:=qK qb (B:=H.n) (h:=H) (v:=.aP) (ds:=[]) (es:=ps) (.inl ⟨rfl,rfl⟩) (Nat.le_refl _) (by rw[Rn,kn,qA]) (by simp;omega)
 rw[List.nil_append] at tq
 rw[<-hV] at bH
 have bX:aD.get av.n=some (aQ [J 8,.str [],.aP,.aP,.ptr r 0] 80):=(dh.get _ (by omega)).trans zo
 obtain⟨a4,nH⟩:∃a4,a4=aD.set av.n (some (aQ [J 8,.str [],.aP,v2,.ptr r 0] 80)):=⟨_,rfl⟩
 have ad3:Ext h.n h aD:=dY.trans dY.n dh
 have e1:Ext h.n h a4:=by rw[nH];exact Ext.hQ ad2 ad3
 have bj:a4.n=aD.n:=by rw[nH];rfl
 have po:iJ H.n a4 v2 ps:=by rw[nH];exact bT.uH tq bX
 have ad4:=dh.n
 have Cc:g9 lo a4 (.mk 8 [] [] l (some x)) (.ptr av.n 0):=by
  refine⟨av.n,.aP,v2,.ptr r 0,vs,.own,0,0,rfl,⟨by omega,by omega⟩,by rw[nH];exact eK rfl,.inl ⟨rfl,rfl⟩,?_,aI.ie e1,ao.ie e1⟩
  rw[qA]
  exact sc po (bT.iX po (by omega))
 have bJ:=J1 8 [] l (some x) ah (by omega)
 refine adI (m+2) b off vs.length r cp h (R:=Cb lo h (.mk 8 [] [] l (some x))) ⟨true,ak,aM,λ_=>?_,λh=>by cases h⟩
 obtain⟨w,n,bk,eZ,f5⟩:=A2 m lo e1 Cc (by omega) (by omega)
 subst cy
 exact⟨0,av,bf,rfl,.aP,aF zo rfl,v2,aD,bH,bT.cell tq,a4,by rw[nH];exact eV bX rfl (J2 (bT.cell tq)).2,w,n,bk,eZ,f5⟩
theorem ad5:∀i,i<3->∀j,j<i->eA (g8[j]?.getD []) (g8[i]?.getD [])=true:=by decide
theorem ad6:∀i,i<3->jl (g8[i]?.getD [])=true:=by decide
abbrev pq(i:Nat):bb:=g8[i]?.getD []
theorem ad7{i:Nat}(h:i<3):g8.take (i+1)=g8.take i++[pq i]:=by
 have:i=0\/i=1\/i=2:=by omega
 rcases this with rfl|rfl|rfl<;>rfl
theorem Ro{i:Nat}(h:i<=3):(g8.take i).length=i:=by rw[List.length_take];show min i 3=i;omega
theorem ad8{i j:Nat}(h:i<=3)(aO:j<(g8.take i).length):(g8.take i)[j]=pq j:=by
 have:j<i:=by rw[Ro h] at aO;exact aO
 have ax:j<g8.length:=by show j<3;omega
 simp[pq,List.getElem?_eq_getElem ax]
theorem ad9(m lo:Nat){h:ab}{nb b:Nat}{nc cp:ct}{l:List aJ}{vs:List ad}(hm:200000<=m)(gM:lo<=h.n)(kx:nb<h.n)(ag:b<h.n)(iN:∀i,i<vs.length->aq h nb (0+i*1)=some (.str (pq i)))(aA:∀i (hi:i<vs.length),aq h b (0+i*1)=some vs[i])(aI:kE lo h l vs)(ax:vs.length<=3)(ah:∀t∈l,dE (some t)=0):Cb lo h (.mk 7 [] (g8.take l.length) l none) (Y (m+3) (.fn 49) [.slice nb 0 vs.length nc,.slice b 0 vs.length cp] h):=by
 obtain⟨ak,aM,bF⟩:=JZ m (by omega) (Nat.le_refl _) ag aA aI.at (by omega) ah
 have fH:=cN.len aI
 obtain⟨ps,qA⟩:=cN.Fm aI
 have hV:vs.length=ps.length:=by rw[qA,List.length_map]
 have xi:=bF.n
 have bJ:=J1 7 (g8.take l.length) l none ah (by omega)
 have fm:dk none=0:=by rw[dk]
 obtain⟨H,cy⟩:∃H,H=ak.push (aQ [J 7,.str [],.aP,.aP,.aX] 80):=⟨_,rfl⟩
 have dY:Ext h.n h H:=by rw[cy];exact Ext.lV bF.n bF
 have zo:H.get ak.n=some (aQ [J 7,.str [],.aP,.aP,.aX] 80):=by rw[cy];exact e7 rfl
 have lj:H.n=ak.n+1:=by rw[cy];rfl
 refine adF (m+2) nb vs.length b nc cp h (R:=Cb lo h (.mk 7 [] (g8.take l.length) l none)) ⟨λ_=>⟨true,ak,aM,rfl,?_⟩,λh=>absurd rfl h⟩
 rw[<-cy]
 refine e8 (λk st=>∃i y Γ bA aU,st=aks Γ y/\bY [(0,.slice nb 0 vs.length nc),(1,.slice b 0 vs.length cp),(6,.ptr ak.n 0),(7,J i)] Γ/\vs.length-i=k/\i<=vs.length/\Ext h.n h y/\H.n<=y.n/\y.get ak.n=some (aQ [J 7,.str [],bA,aU,.aX] 80)/\k0 H.n y bA (g8.take i)/\iJ H.n y aU (ps.take i)) ?_ vs.length _ (by omega) ⟨0,H,_,.aP,.aP,rfl,⟨rfl,rfl,rfl,rfl,trivial⟩,by omega,by omega,dY,Nat.le_refl _,zo,.inl ⟨rfl,rfl⟩,.inl ⟨rfl,rfl⟩⟩
 rintro k st ⟨i,y,Γ,bA,aU,rfl,cn,ay,hi,aZ,kF,aK,jg,Cd⟩
 refine ei (adG (Y (m+2)) nb vs.length b ak.n i nc cp y ⟨λI=>?_,λI=>?_⟩) cn
 · have J3:i<3:=by omega
   have lh:(g8.take i).length=i:=Ro (by omega)
   have BQ:(ps.take i).length=i:=by rw[List.length_take];omega
   refine⟨I,pq i,iD aZ kx (iN i I),true,y,?_,rfl,?_⟩
   · have:=P9 m (pq i) y
     rw[ad6 i J3] at this
     exact this
   refine e8 (λk st=>∃j z Γ,st=aks Γ z/\bY [(0,.slice nb 0 vs.length nc),(1,.slice b 0 vs.length cp),(6,.ptr ak.n 0),(7,J i),(8,J j)] Γ/\i-j=k/\j<=i/\Ext y.n y z) ?_ i _ (by omega) ⟨0,y,_,rfl,⟨rfl,rfl,rfl,rfl,rfl,trivial⟩,by omega,by omega,Ext.refl _ _⟩
   rintro cO st ⟨j,z,cD,rfl,jY,fl,aO,a7⟩
   have nS:Ext y.n y (z.room 21):=a7.iT
   have Rp:(z.room 21).get ak.n=some (aQ [J 7,.str [],bA,aU,.aX] 80):=(nS.get _ (by omega)).trans aK
   have Rq:k0 H.n (z.room 21) bA (g8.take i):=jg.mono nS (Nat.le_refl _)
   have J4:iJ H.n (z.room 21) aU (ps.take i):=Cd.mono nS (Nat.le_refl _)
   have Rr:ad.sound bA=true:=bT.sound jg
   have hlen:=bT.len (P:=an) (sT:=63) (by kernel_rfl) Rq (z.room 21)
   rw[lh] at hlen
   refine ei (adH (Y (m+2)) nb vs.length b ak.n i j nc cp z ⟨bA,aF Rp rfl,i,hlen,λhx=>?_,λhx=>?_⟩) jY
   · have mj:∃p,bA=.slice p 0 i (.aL 1)/\(z.room 21).get p=some (.cells (dp (λd=>[ad.str d]) (g8.take i)) 9 .aL 0 0):=by
       rcases Rq with⟨_,e⟩|⟨p,aG,aE,bH,_⟩
       · rw[e] at lh;simp at lh;omega
       · exact⟨p,by rw[aG,lh],bH⟩
     obtain⟨p,rfl,a0⟩:=mj
     have ad_:=aZ.trans aZ.n nS
     obtain⟨g,lI,sE⟩:=EX (m+1) (pq j) (pq i) (z.room 21).n (z.room 21) (by
      have:j=0\/j=1:=by omega
      rcases this with rfl|rfl<;>decide)
     rw[ad5 i J3 j hx] at lI
     refine⟨p,0,i,.aL 1,aF Rp rfl,hx,pq j,?_,I,pq i,iD ad_ kx (iN i I),true,g,lI,rfl,λ_=>⟨by omega,_,(by show _<cO;omega),j+1,g,_,rfl,⟨rfl,rfl,rfl,rfl,rfl,trivial⟩,rfl,by omega,nS.trans nS.n sE⟩,λh=>by cases h⟩
     refine lb a0 ?_
     rw[kn,List.getElem?_map,Nat.zero_add,Nat.mul_one,List.getElem?_eq_getElem (by omega),ad8 (by omega)]
     rfl
   · obtain rfl:j=i:=by omega
     refine⟨Rr,j,_,_,rfl,rfl,⟨rfl,rfl,rfl,rfl,rfl,trivial⟩,?_⟩
     obtain⟨Z,km⟩:∃Z,Z=(z.room 21).room 21:=⟨_,rfl⟩
     rw[<-km]
     have Ce:Ext y.n y Z:=by rw[km];exact nS.iT
     have ajR:=Ce.n
     have Fp:Z.get ak.n=some (aQ [J 7,.str [],bA,aU,.aX] 80):=(Ce.get _ (by omega)).trans aK
     have Rs:k0 H.n Z bA (g8.take j):=jg.mono Ce (Nat.le_refl _)
     have aea:iJ H.n Z aU (ps.take j):=Cd.mono Ce (Nat.le_refl _)
     have hlen:=bT.len (P:=an) (sT:=63) (by kernel_rfl) Rs Z
     rw[lh] at hlen
     obtain⟨dm,e0,dF,s1,s2,b1,ey,gA,b_,cI,s9,m0,hg,dz,ek,q2,qc⟩:=grow J0 Rs (pq j) 9 (k:=j) (by omega) (by omega)
     have hN:(g8.take j).take j++pq j::(g8.take j).drop j=g8.take (j+1):=by
      have I:(g8.take j).take j=g8.take j:=List.take_of_length_le (by omega)
      have ae:(g8.take j).drop j=[]:=List.drop_of_length_le (by omega)
      rw[I,ae,ad7 J3]
     rw[hN] at qc
     have gi:hg.get ak.n=some (aQ [J 7,.str [],bA,aU,.aX] 80):=(q2.get _ (by omega)).trans Fp
     have eG:gA.get ak.n=some (aQ [J 7,.str [],bA,aU,.aX] 80):=(cI.get _ (by omega)).trans Fp
     obtain⟨jM,Cf⟩:∃jM,jM=hg.set ak.n (some (aQ [J 7,.str [],m0,aU,.aX] 80)):=⟨_,rfl⟩
     have B6:jM.get ak.n=some (aQ [J 7,.str [],m0,aU,.aX] 80):=by rw[Cf];exact eK rfl
     have bP:jM.n=hg.n:=by rw[Cf];rfl
     have aeb:k0 Z.n jM m0 (g8.take (j+1)):=by rw[Cf];exact bT.uH qc gi
     have ajS:=q2.n
     have zp:∀d,d<Z.n->d≠ak.n->jM.get d=Z.get d:=λd ai ah=>by rw[Cf];exact(cX ah rfl).trans (q2.get d ai)
     have aec:iJ H.n jM aU (ps.take j):=bT.tn aea (by omega) λd I ae=>zp d ae (by omega)
     obtain⟨c9,fS,e5,t1,t2,t3,l0,gh,t4,t5,p5,nC,ov,t6,t7,t8,t9⟩:=grow qb aec (ps[j]'(by omega)) 35 (k:=j) (by omega) (by omega)
     have zq:(ps.take j).take j++(ps[j]'(by omega))::(ps.take j).drop j=ps.take (j+1):=by
      have I:(ps.take j).take j=ps.take j:=List.take_of_length_le (by omega)
      have ae:(ps.take j).drop j=[]:=List.drop_of_length_le (by omega)
      rw[I,ae,List.take_succ_eq_append_getElem (by omega:j<ps.length)]
     rw[zq] at t9
     have J5:ov.get ak.n=some (aQ [J 7,.str [],m0,aU,.aX] 80):=(t8.get _ (by omega)).trans B6
     have aed:gh.get ak.n=some (aQ [J 7,.str [],m0,aU,.aX] 80):=(t5.get _ (by omega)).trans B6
     obtain⟨Cg,zr⟩:∃Cg,Cg=ov.set ak.n (some (aQ [J 7,.str [],m0,nC,.aX] 80)):=⟨_,rfl⟩
     have ajT:=t8.n
     have dD:Cg.n=ov.n:=by rw[zr];rfl
     have Ch:Ext h.n h Z:=aZ.trans aZ.n Ce
     have up:∀{x},Ext Z.n Z x->Ext h.n h x:=λe=>Ch.trans Ch.n e
     have J6:Ext h.n h jM:=⟨by have:=Ch.n;omega,λd ai=>(zp d (by have:=Ch.n;omega) (by omega)).trans (Ch.get d ai)⟩
     have Rt:∀{x},Ext jM.n jM x->Ext h.n h x:=λe=>J6.trans J6.n e
     have lQ:∀{x},Ext h.n h x->aq x b (0+j*1)=some (.ptr (ps[j]'(by omega)) 0):=λe=>by
      rw[iD e ag (aA j I)];simp[qA]
     refine⟨bA,aF Fp rfl,j,hlen,by omega,Rr,bA,aF Fp rfl,dm,s1,e0,dF,s2,I,pq j,iD (up b1) kx (iN j I),ey,gA,b_,bA,aF eG rfl,s9,dz,m0,hg,ek,bT.cell qc,jM,by rw[Cf];exact eV gi rfl (J2 (bT.cell qc)).1,aU,aF B6 rfl,c9,t1,fS,e5,t2,I,_,lQ (Rt t3),l0,gh,t4,aU,aF aed rfl,p5,t6,nC,ov,t7,bT.cell t9,Cg,by rw[zr];exact eV J5 rfl (J2 (bT.cell t9)).2,by omega,_,(by show _<k;omega),j+1,Cg,_,m0,nC,rfl,⟨rfl,rfl,rfl,rfl,trivial⟩,rfl,by omega,?_,by omega,by rw[zr];exact eK rfl,?_,?_⟩
     · exact⟨by have:=J6.n;omega,λd ai=>by rw[zr];exact(cX (by omega) rfl).trans ((Rt t8).get d ai)⟩
     · refine bT.le (by omega:H.n<=Z.n) ?_
       rw[zr]
       exact bT.uH (aeb.mono t8 (Nat.le_refl _)) J5
     · refine bT.le (by omega:H.n<=jM.n) ?_
       rw[zr]
       exact bT.uH t9 J5
 · obtain rfl:i=vs.length:=by omega
   have lh:ps.take vs.length=ps:=List.take_of_length_le (by omega)
   rw[lh] at Cd
   have Cc:g9 lo y (.mk 7 [] (g8.take l.length) l none) (.ptr ak.n 0):=by
    refine⟨ak.n,bA,aU,.aX,vs,.own,0,0,rfl,⟨by omega,by omega⟩,aK,?_,?_,aI.ie aZ,rfl⟩
    · rw[<-fH];exact sc jg (bT.iX jg (by omega))
    · rw[qA];exact sc Cd (bT.iX Cd (by omega))
   obtain⟨w,n,bk,eZ,f5⟩:=A2 m lo aZ Cc (by omega) (by omega)
   exact⟨ak.n,y,_,rfl,rfl,⟨rfl,trivial⟩,w,n,bk,eZ,f5⟩
theorem Ru{t:aJ}:∀{l:List aJ},t∈l->t.k=1->iv l=none
 |[],h,_=>by cases h
 |x::l,h,ay=>by
  rw[iv]
  rcases List.mem_cons.1 h with rfl|h
  · rw[if_pos ay]
  · split
    · rfl
    · rw[Ru h ay];rfl
theorem Rv{t:aJ}(ay:¬t.k=1):∀{l f:List aJ},iv l=some f->iv (l++[t])=some (f++if t.k=9 then t.xs else[t])
 |[],f,h=>by
  cases h
  rw[List.nil_append,iv,if_neg ay,iv];simp
 |x::l,f,h=>by
  rw[iv] at h
  split at h
  · cases h
  · rename_i aa
    cases e:iv l with
    |none=>rw[e] at h;cases h
    |some r=>
     rw[e] at h
     cases h
     rw[List.cons_append,iv,if_neg aa,Rv ay e]
     simp
theorem Rw{t:aJ}:∀(acc:List aJ) (j:Nat),j<=acc.length->(∀i (hi:i<acc.length),i<j->eA (wr acc[i]) (wr t)=true)->
  (j=acc.length->jC t acc=acc.take j++t::acc.drop j)/\(∀aO:j<acc.length,eA (wr acc[j]) (wr t)=false->(wr acc[j]=wr t->jC t acc=acc)/\(¬wr acc[j]=wr t->jC t acc=acc.take j++t::acc.drop j))
 |[],j,aO,_=>by
  obtain rfl:j=0:=by simpa using aO
  exact⟨λ_=>rfl,λh=>by simp at h⟩
 |x::acc,0,_,_=>by
  refine⟨λh=>by simp at h,λ_ cB=>?_⟩
  have cB:eA (wr x) (wr t)=false:=cB
  rw[jC,if_neg (by rw[cB];simp)]
  refine⟨λe=>?_,λe=>?_⟩
  · have e:wr x=wr t:=e
    rw[if_pos e]
  · have e:¬wr x=wr t:=e
    rw[if_neg e];rfl
 |x::acc,j+1,aO,aA=>by
  have h0:eA (wr x) (wr t)=true:=aA 0 (by simp) (by omega)
  obtain⟨i1,i2⟩:=Rw (t:=t) acc j (by simpa using aO) λi hi uy=>by
   have:=aA (i+1) (by simpa using hi) (by omega)
   simpa using this
  rw[jC,if_pos h0]
  refine⟨λe=>?_,λhx cB=>?_⟩
  · rw[i1 (by simpa using e)];rfl
  · have aee:j<acc.length:=by simpa using hx
    have An:eA (wr acc[j]) (wr t)=false:=by simpa using cB
    obtain⟨bG,b0⟩:=i2 aee An
    refine⟨λe=>?_,λe=>?_⟩
    · rw[bG (by simpa using e)]
    · rw[b0 (by simpa using e)];rfl
theorem Rx(l:List aJ)(t:aJ):fE (l++[t])=jC t (fE l):=by unfold fE;rw[List.foldl_append];rfl
def J7(l:List aJ):Prop:=∃f,iv l=some f/\(fE f).length≠1/\60<sz (.mk 9 [] [] (fE f) none)
def Ry(lo:Nat)(h:ab)(l:List aJ)(x:bE):Prop:=∃g,Ext h.n h g/\((¬J7 l/\∃r,x=.ret (.aR [.ptr r 0,J 0]) g/\g9 lo g (pj l) (.ptr r 0))\/(J7 l/\x=.ret (.aR [.aX,J 3]) g))
theorem Rz(m lo:Nat){h:ab}{t:aJ}{r:Nat}(aI:g9 lo h t (.ptr r 0))(ah:dE (some t)=0)(hm:62<=m):∃g,Y m (.fn 79) [.ptr r 0] h=.ret (.str (wr t)) g/\Ext h.n h g:=by
 obtain⟨I,ae⟩:=lK.1 ah
 have:=yV t ae
 exact EZ (sz t) t (Nat.le_refl _) (by omega) (BF t ae) (by omega) m h.n h _ (by omega) (Nat.le_refl _) aI.at
theorem ew.node{F:Nat->Prop}{h:ab}:∀{t:aJ} {r:Nat},ew F h t (.ptr r 0)->∃bA aU cY vs bq lo up,h.get r=some (.cells [J t.k,.str t.nm,bA,aU,cY] 80 bq lo up)/\ll F h aU vs/\cN F h t.xs vs/\F r
 |.mk _ _ _ _ _,_,aa=>by
  obtain⟨r,bA,aU,cY,vs,bq,lo,up,I,ae,ax,_,bS,cz,_⟩:=aa
  cases I
  exact⟨bA,aU,cY,vs,bq,lo,up,ax,bS,cz,ae⟩
theorem cN.nil{F:Nat->Prop}{h:ab}:cN F h [] []:=rfl
theorem cN.cons{F:Nat->Prop}{h:ab}{t:aJ}{v:ad}{cF:List aJ}{vs:List ad}(bm:ew F h t v)(al:cN F h cF vs):cN F h (t::cF) (v::vs):=⟨v,vs,rfl,bm,al⟩
theorem ll.src{F:Nat->Prop}{h:ab}{v:ad}{vs:List ad}(al:ll F h v vs):fu h 1 v=some (vs.length,vs):=by
 rcases al with⟨rfl,rfl⟩|⟨b,off,cp,rfl,_,ax,aN,bS⟩
 · rfl
 · exact c5.src (B:=0) ax aN bS.1
theorem aef(m lo:Nat){h:ab}{b off:Nat}{cp:ct}{l:List aJ}{ps:List Nat}(gM:lo<=h.n)(ag:b<h.n)(aA:∀i (hi:i<ps.length),aq h b (off+i*1)=some (.ptr ps[i] 0))(aI:kE lo h l (ps.map g_))(hlen:ps.length<=10)(ah:∀t∈l,dE (some t)=0){Q:bW->bL->Prop}
  (I:∀g f w eJ Γ,Ext h.n h g->iv l=some f->iJ h.n g w eJ->kE lo h f (eJ.map g_)->bY [(4,w)] Γ->Q (.exit 0) (aks Γ g))
  (ae:∀g r Γ,Ext h.n h g->iv l=none->g9 lo g JH (.ptr r 0)->bY [(2,.ptr r 0),(3,J 0)] Γ->Q .ret (aks Γ g)):
  bp an Tryz.f51 (Y (m+2)) [1,1,1,0,1,0] ⟨[(0,.slice b off ps.length cp),(4,.aP),(5,J 0)],[],.none,h⟩ Q:=by
 have fH:ps.length=l.length:=by have:=cN.len aI;rwa [List.length_map] at this
 refine e8 (λk st=>∃i y Γ w f eJ,st=aks Γ y/\bY [(0,.slice b off ps.length cp),(4,w),(5,J i)] Γ/\ps.length-i=k/\i<=ps.length/\Ext h.n h y/\iv (l.take i)=some f/\iJ h.n y w eJ/\kE lo h f (eJ.map g_)) ?_ ps.length _ (by omega) ⟨0,h,_,.aP,[],[],rfl,⟨rfl,rfl,rfl,trivial⟩,by omega,by omega,Ext.refl _ _,rfl,.inl ⟨rfl,rfl⟩,rfl⟩
 rintro k st ⟨i,y,Γ,w,f,eJ,rfl,cn,ay,hi,aZ,hf,j0,lM⟩
 refine ei (adK (Y (m+2)) b off _ i cp w y ⟨λi1=>?_,λi1=>?_⟩) cn
 · have i2:i<l.length:=by omega
   have J8:g9 lo h l[i] (.ptr ps[i] 0):=by
    have:=cN.get aI i (by simpa using i1) i2
    simpa using this
   have sH:g9 lo y l[i] (.ptr ps[i] 0):=J8.ie aZ
   have lQ:=iD aZ ag (aA i i1)
   obtain⟨bA,aU,cY,vs,bq,oL,up,ak,av,aD,a4⟩:=ew.node sH
   have kF:=aZ.n
   have aeg:=JT (l:=l.take i) (λt bm=>ah t (List.mem_of_mem_take bm)) hf
   have q3:eJ.length=f.length:=by have:=cN.len lM;rwa [List.length_map] at this
   have ud:(l.take i).length<=10:=by rw[List.length_take];omega
   have ajU:f.length<=600:=by omega
   refine⟨i1,_,lQ,l[i].k,aF ak rfl,λbG=>?_,λbG=>?_⟩
   · refine ae _ y.n _ (Ext.lV kF aZ) (Ru (List.getElem_mem i2) bG) ?_ ⟨rfl,rfl,trivial⟩
     exact⟨y.n,.aP,.aP,.aX,[],.own,0,0,rfl,⟨by omega,by simp⟩,e7 rfl,.inl ⟨rfl,rfl⟩,.inl ⟨rfl,rfl⟩,rfl,rfl⟩
   have l1:=Rv bG hf
   rw[<-List.take_succ_eq_append_getElem i2] at l1
   refine⟨i1,_,lQ,l[i].k,aF ak rfl,λkk=>?_,λkk=>?_⟩
   · obtain⟨us,ku⟩:=cN.Fm aD
     have p4:=(lK.1 (ah _ (List.getElem_mem i2))).1
     have LZ:us.length<=60:=by
      have aG:=cN.len aD
      rw[ku,List.length_map] at aG
      have aE:=mo l[i].xs
      have bH:dH l[i].xs<=sz l[i]:=by
       cases l[i] with
       |mk cu cU dm e0 ey=>rw[l3];show dH e0<=_;omega
      omega
     have fG:=ll.src av
     rw[ku,List.length_map] at fG
     obtain⟨v',g,aG,dy,bF,aB,_⟩:=qK qb (B:=h.n) (es:=us) j0 kF (by rw[fG,kn]) (by omega)
     refine⟨i1,_,lQ,aU,aF ak rfl,v',g,aG,by omega,_,(by show _<k;omega),i+1,g,_,v',f++l[i].xs,eJ++us,rfl,⟨rfl,rfl,rfl,trivial⟩,rfl,by omega,aZ.trans (Nat.le_refl _) bF,by rw[l1,if_pos kk],dy,?_⟩
     obtain⟨uX,jn,uY,sN,yZ,aeh,y0,J9,Ci,J_,Ka⟩:=ew.node J8
     have aE:some (dQ.cells [.int .i64 (Int.ofNat l[i].k),.str l[i].nm,uX,jn,uY] 80 yZ aeh y0)=some (dQ.cells [.int .i64 (Int.ofNat l[i].k),.str l[i].nm,bA,aU,cY] 80 bq oL up):=by rw[<-J9,<-ak];exact(aZ.get _ Ka.2).symm
     have bH:jn=aU:=by injection aE with aE;injection aE with aE;injection aE with _ aE;injection aE with _ aE;injection aE with _ aE;injection aE with aE
     rw[bH] at Ci
     have eu:=ll.src Ci
     have eZ:=ll.src (ll.bB (G:=lL lo y.n) (g:=y) (Ext.iX aZ) Ci)
     rw[ll.src av] at eZ
     have hd:sN=vs:=by injection eZ with eZ;injection eZ with _ eZ;exact eZ.symm
     rw[List.map_append]
     refine cN.app ?_ lM
     rw[<-ku,<-hd];exact J_
   · obtain⟨v',g,aG,dy,bF,aB,_⟩:=qK qb (B:=h.n) (es:=[ps[i]]) (j0.mono (Ext.push (Nat.le_refl _) _) (Nat.le_refl _)) (by simp;omega) (yz qb y 35 ps[i]) (by rw[List.length_singleton];omega)
     refine⟨i1,_,lQ,v',g,aG,by omega,_,(by show _<k;omega),i+1,g,_,v',f++[l[i]],eJ++[ps[i]],rfl,⟨rfl,rfl,rfl,trivial⟩,rfl,by omega,(Ext.lV kF aZ).trans (Nat.le_refl _) bF,by rw[l1,if_neg kk],dy,?_⟩
     rw[List.map_append]
     exact cN.app (cN.cons J8 cN.nil) lM
 · obtain rfl:i=ps.length:=by omega
   rw[List.take_of_length_le (by omega)] at hf
   exact I y f w eJ _ aZ hf j0 lM ⟨rfl,trivial⟩
theorem aei(m lo:Nat){h:ab}{iX:Nat}{vf:ct}{f:List aJ}{b6:List Nat}(hm:100<=m)(gM:lo<=h.n)(ag:iX<h.n)(aA:∀i (hi:i<b6.length),aq h iX (0+i*1)=some (.ptr b6[i] 0))(aI:kE lo h f (b6.map g_))(hlen:b6.length<=900)(ah:∀t∈f,dE (some t)=0)(h0:0<b6.length){Q:bW->bL->Prop}
  (I:∀g p eJ Γ,Ext h.n h g->iJ h.n g (.slice p 0 eJ.length (.aL 1)) eJ->kE lo h (fE f) (eJ.map g_)->bY [(6,.slice p 0 eJ.length (.aL 1))] Γ->Q (.exit 2) (aks Γ g)):
  bp an Tryz.f51 (Y (m+1)) [1,1,1,1,1,0,1,0] ⟨[(4,.slice iX 0 b6.length vf),(6,.aP),(7,J 0)],[],.none,h⟩ Q:=by
 have fH:b6.length=f.length:=by have:=cN.len aI;rwa [List.length_map] at this
 refine e8 (λk st=>∃i y Γ w eJ,st=aks Γ y/\bY [(4,.slice iX 0 b6.length vf),(6,w),(7,J i)] Γ/\b6.length-i=k/\i<=b6.length/\Ext h.n h y/\iJ h.n y w eJ/\kE lo h (fE (f.take i)) (eJ.map g_)) ?_ b6.length _ (by omega) ⟨0,h,_,.aP,[],rfl,⟨rfl,rfl,rfl,trivial⟩,by omega,by omega,Ext.refl _ _,.inl ⟨rfl,rfl⟩,rfl⟩
 rintro k st ⟨i,y,Γ,w,eJ,rfl,cn,ay,hi,aZ,j0,lM⟩
 have kF:=aZ.n
 have q3:eJ.length=(fE (f.take i)).length:=by have:=cN.len lM;rwa [List.length_map] at this
 have ks:eJ.length<=i:=by
  have:=(B8 (f.take i) []).2.1
  rw[List.length_take] at this
  have e:(fE (f.take i)).length<=([]:List aJ).length+min i f.length:=this
  simp at e;omega
 have gG:∀t∈fE (f.take i),dE (some t)=0:=λt bm=>by
  rcases B2 (f.take i) [] bm with h|h
  · exact ah t (List.mem_of_mem_take h)
  · cases h
 have Cj:∀{x},Ext h.n h x->∀j (aO:j<b6.length),aq x iX (0+j*1)=some (.ptr b6[j] 0):=λe j aO=>iD e ag (aA j aO)
 have kz:∀j (aO:j<f.length) (hx:j<b6.length),g9 lo h f[j] (.ptr b6[j] 0):=λj aO hx=>by
  have:=cN.get aI j (by simpa using hx) aO
  simpa using this
 have aej:∀j (aO:j<(fE (f.take i)).length) (hx:j<eJ.length),g9 lo h (fE (f.take i))[j] (.ptr eJ[j] 0):=λj aO hx=>by
  have:=cN.get lM j (by simpa using hx) aO
  simpa using this
 have fin:∀(i1:i<b6.length) (Z:ab) (j:Nat),Ext h.n h Z->(∀p,w=.slice p 0 eJ.length (.aL 1)->Z.get p=y.get p)->y.n<=Z.n->j<=eJ.length->jC (f[i]'(by omega)) (fE (f.take i))=(fE (f.take i)).take j++f[i]'(by omega)::(fE (f.take i)).drop j->
   ∃b8 v4 aD,dC an Z 50 w none (some (J j)) none=some b8/\dJ an Z 50 (some 50) .aP b8=some (v4,aD)/\aq aD iX (0+i*1)=some (.ptr (b6[i]) 0)/\
   ∃eC a4,dJ an (aD.push (aQ [.ptr b6[i] 0] 35)) 50 (some 50) v4 (.slice aD.n 0 1 (.exact 1))=some (eC,a4)/\
   ∃v7 hZ bk,dC an a4 50 w (some (J j)) none none=some v7/\dJ an a4 50 (some 50) eC v7=some (hZ,bk)/\∃vg,Ext h.n h bk/\iJ h.n bk hZ vg/\kE lo h (fE (f.take (i+1))) (vg.map g_):=by
  intro i1 Z j km hw aek aO ael
  have i2:i<f.length:=by omega
  have aem:iJ h.n Z w eJ:=bT.bB j0 aek λp a0 _=>hw p a0
  obtain⟨dm,e0,dF,s1,s2,b1,ey,gA,b_,cI,s9,m0,hg,dz,ek,q2,qc⟩:=grow qb aem b6[i] 35 aO (by omega)
  refine⟨dm,e0,dF,s1,s2,Cj (km.trans km.n b1) i i1,ey,gA,b_,s9,m0,hg,dz,ek,_,km.trans km.n q2,bT.le km.n qc,?_⟩
  rw[List.take_succ_eq_append_getElem i2,Rx,ael,List.map_append,List.map_cons,List.map_take,List.map_drop]
  exact cN.app (cN.cons (kz i i2 i1) (cN.drop j lM)) (cN.take j lM)
 have aen:∀a b:bb,c1 a b=true->a=b:=λa b h=>by simpa[nP] using h
 rcases j0 with⟨rfl,rfl⟩|⟨p,rfl,dv,eY,gq,il⟩
 · refine ei (adM (Y (m+1)) iX _ i vf y ⟨λi1=>?_,λi1=>?_⟩) cn
   · have c6:fE (f.take i)=[]:=List.eq_nil_of_length_eq_zero (by rw[<-q3];rfl)
     refine e8 (λk st=>∃Γ,st=aks Γ y/\bY [(4,.slice iX 0 b6.length vf),(6,.aP),(7,J i),(8,J 0)] Γ) ?_ 0 _ (by omega) ⟨_,rfl,rfl,rfl,rfl,rfl,trivial⟩
     rintro cO st ⟨cD,rfl,jY⟩
     refine ei (adO (Y (m+1)) iX _ i vf y ⟨by omega,?_⟩) jY
     obtain⟨b8,v4,aD,s1,s2,b1,eC,a4,b_,v7,hZ,bk,cI,dz,vg,ek,q2,qc⟩:=fin i1 ((y.room 17).room 17) 0 (aZ.iT.iT) (λp a0=>by cases a0) (by simp;omega) (by simp) (by rw[c6];rfl)
     exact⟨0,_,_,rfl,rfl,⟨rfl,rfl,rfl,rfl,trivial⟩,by omega,b8,s1,v4,aD,s2,i1,_,b1,eC,a4,b_,v7,cI,hZ,bk,dz,by omega,_,(by show _<k;omega),i+1,bk,_,hZ,vg,rfl,⟨rfl,rfl,rfl,trivial⟩,rfl,by omega,ek,q2,qc⟩
   · exfalso
     have e:i=b6.length:=by omega
     subst e
     have:=(B8 (f.take b6.length) []).2.2 (by rw[List.length_take];omega)
     have aG:0<(fE (f.take b6.length)).length:=this
     rw[<-q3] at aG;simp at aG
 · have j0:iJ h.n y (.slice p 0 eJ.length (.aL 1)) eJ:=.inr ⟨p,rfl,dv,eY,gq,il⟩
   refine ei (adL (Y (m+1)) iX _ p _ i vf (.aL 1) y ⟨λi1=>?_,λi1=>?_⟩) cn
   · have i2:i<f.length:=by omega
     have ci:=ah _ (List.getElem_mem i2)
     refine e8 (λk st=>∃j z Γ,st=aks Γ z/\bY [(4,.slice iX 0 b6.length vf),(6,.slice p 0 eJ.length (.aL 1)),(7,J i),(8,J j)] Γ/\eJ.length-j=k/\j<=eJ.length/\Ext y.n y z/\∀a (aV:a<(fE (f.take i)).length),a<j->eA (wr (fE (f.take i))[a]) (wr f[i])=true) ?_ eJ.length _ (by omega) ⟨0,y,_,rfl,⟨rfl,rfl,rfl,rfl,trivial⟩,by omega,by omega,Ext.refl _ _,λa _ h=>absurd h (by omega)⟩
     rintro cO st ⟨j,z,cD,rfl,jY,fl,aO,a7,cB⟩
     obtain⟨aeo,aep⟩:=Rw (t:=f[i]) (fE (f.take i)) j (by omega) cB
     have nS:Ext y.n y (z.room 17):=a7.iT
     have row:∀{x},Ext y.n y x->∀j (aO:j<eJ.length),aq x p (0+j*1)=some (.ptr eJ[j] 0):=λe j aO=>by
      refine lb ((e.get p il).trans eY) ?_
      rw[kn,List.getElem?_map,Nat.zero_add,Nat.mul_one,List.getElem?_eq_getElem (by omega)]
      rfl
     have go:∀{x},Ext y.n y x->Ext h.n h x:=λe=>aZ.trans kF e
     have two:∀(hx:j<eJ.length) {x},Ext y.n y x->∃ak av,Y (m+1) (.fn 79) [.ptr eJ[j] 0] x=.ret (.str (wr ((fE (f.take i))[j]'(by omega)))) ak/\Ext y.n y ak/\Y (m+1) (.fn 79) [.ptr b6[i] 0] ak=.ret (.str (wr f[i])) av/\Ext y.n y av:=λhx {x} e=>by
      obtain⟨ak,df,bF⟩:=Rz (m+1) lo ((aej j (by omega) hx).ie (go e)) (gG _ (List.getElem_mem (by omega))) (by omega)
      have jP:=e.trans e.n bF
      obtain⟨av,db,cJ⟩:=Rz (m+1) lo ((kz i i2 i1).ie (go jP)) ci (by omega)
      exact⟨ak,av,df,jP,db,jP.trans jP.n cJ⟩
     refine ei (adN (Y (m+1)) iX _ p _ i j vf (.aL 1) z ⟨λhx=>?_,λhx=>?_⟩) jY
     · obtain⟨ak,av,df,jP,db,jQ⟩:=two hx nS
       have BR:(wr ((fE (f.take i))[j]'(by omega))).length<=90000:=by
        have bf:=lK.1 (gG ((fE (f.take i))[j]'(by omega)) (List.getElem_mem (by omega)))
        have:=yV _ bf.2
        omega
       obtain⟨aD,lr,dh⟩:=EX m (wr ((fE (f.take i))[j]'(by omega))) (wr f[i]) av.n av BR
       have Fq:=jQ.trans jQ.n dh
       refine⟨hx,_,row nS j hx,_,ak,df,i1,_,Cj (go jP) i i1,_,av,db,_,aD,lr,Cj (go nS) i i1,λag=>?_,λag=>?_⟩
       · refine⟨by omega,_,(by show _<cO;omega),j+1,aD,_,rfl,⟨rfl,rfl,rfl,rfl,trivial⟩,rfl,by omega,Fq,λa aV ajV=>?_⟩
         by_cases e:a=j
         · subst e;exact ag
         · exact cB a aV (by omega)
       · refine⟨j,aD,_,rfl,rfl,⟨rfl,rfl,rfl,rfl,trivial⟩,λ_=>?_,λh=>absurd hx h⟩
         have Kb:Ext y.n y (aD.room 17):=Fq.iT
         obtain⟨bG,b0,df,dS,db,gb⟩:=two hx Kb
         obtain⟨aeq,M2⟩:=aep (by omega) ag
         refine⟨hx,_,row Kb j hx,_,bG,df,i1,_,Cj (go dS) i i1,_,b0,db,Cj (go Kb) i i1,λaK=>?_,λaK=>?_⟩
         · refine⟨by omega,_,(by show _<k;omega),i+1,b0,_,_,eJ,rfl,⟨rfl,rfl,rfl,trivial⟩,rfl,by omega,go gb,j0.mono gb (Nat.le_refl _),?_⟩
           rw[List.take_succ_eq_append_getElem i2,Rx,aeq (aen _ _ aK)]
           exact lM
         · obtain⟨b8,v4,aD,s1,s2,b1,eC,a4,b_,v7,hZ,bk,cI,dz,vg,ek,q2,qc⟩:=fin i1 b0 j (go gb) (λq rJ=>by cases rJ;exact gb.get _ il) gb.n (by omega) (M2 λe=>by rw[e,yx] at aK;cases aK)
           exact⟨b8,s1,v4,aD,s2,i1,_,b1,eC,a4,b_,v7,cI,hZ,bk,dz,by omega,_,(by show _<k;omega),i+1,bk,_,hZ,vg,rfl,⟨rfl,rfl,rfl,trivial⟩,rfl,by omega,ek,q2,qc⟩
     · obtain rfl:j=eJ.length:=by omega
       refine⟨_,_,_,rfl,rfl,⟨rfl,rfl,rfl,rfl,trivial⟩,λh=>absurd h (by omega),λ_=>?_⟩
       have Kc:Ext y.n y ((z.room 17).room 17):=nS.iT
       obtain⟨b8,v4,aD,s1,s2,b1,eC,a4,b_,v7,hZ,bk,cI,dz,vg,ek,q2,qc⟩:=fin i1 ((z.room 17).room 17) eJ.length (go Kc) (λq rJ=>by cases rJ;exact Kc.get _ il) Kc.n (by omega) (aeo q3)
       exact⟨b8,s1,v4,aD,s2,i1,_,b1,eC,a4,b_,v7,cI,hZ,bk,dz,by omega,_,(by show _<k;omega),i+1,bk,_,hZ,vg,rfl,⟨rfl,rfl,rfl,trivial⟩,rfl,by omega,ek,q2,qc⟩
   · obtain rfl:i=b6.length:=by omega
     rw[List.take_of_length_le (by omega)] at lM
     exact I y p eJ _ aZ j0 lM ⟨rfl,trivial⟩
theorem aer(m lo:Nat){h:ab}{b off:Nat}{cp:ct}{l:List aJ}{ps:List Nat}(hm:200000<=m)(gM:lo<=h.n)(ag:b<h.n)(aA:∀i (hi:i<ps.length),aq h b (off+i*1)=some (.ptr ps[i] 0))(aI:kE lo h l (ps.map g_))(h0:0<ps.length)(hlen:ps.length<=10)(ah:∀t∈l,dE (some t)=0):Ry lo h l (Y (m+3) (.fn 51) [.slice b off ps.length cp] h):=by
 have fH:ps.length=l.length:=by have:=cN.len aI;rwa [List.length_map] at this
 obtain⟨ak,aM,bF⟩:=JZ m (vs:=ps.map g_) (cp:=cp) (by omega) (Nat.le_refl _) ag (λi hi=>by rw[aA i (by simpa using hi)];simp) aI.at (by rw[List.length_map];omega) ah
 rw[List.length_map] at aM
 have xi:=bF.n
 refine adJ (m+2) b off ps.length cp h (R:=Ry lo h l) ⟨λe=>absurd e (by omega),λ_=>⟨true,ak,aM,rfl,?_⟩⟩
 refine aef m lo (h:=ak) (by omega) (by omega) (λi hi=>iD bF ag (aA i hi)) (aI.ie bF) hlen ah (λy f w b6 Γ aZ hf j0 lM cn=>?_) (λy r Γ aZ hf pr cn=>?_)
 · have ajW:=Rb ah (by omega) hf
   have aeg:=JT ah hf
   have ES:b6.length=f.length:=by have:=cN.len lM;rwa [List.length_map] at this
   have RA:∀t∈f,dE (some t)=0:=λt bm=>by
    rcases Fk hf bm with hm|⟨x,I,ae⟩
    · exact ah t hm
    · exact pk (ah x I) ae
   have kF:=aZ.n
   rcases j0 with⟨_,e⟩|⟨p,rfl,dv,eY,gq,il⟩
   · rw[e] at ES;simp at ES;omega
   left
   refine⟨p,0,b6.length,.aL 1,y,Γ,rfl,rfl,cn,?_⟩
   refine aei (m+1) lo (h:=y) (by omega) (by omega) il (λi hi=>by
    refine lb eY ?_
    rw[kn,List.getElem?_map,Nat.zero_add,Nat.mul_one,List.getElem?_eq_getElem (by omega)]
    rfl) (lM.ie aZ) (by omega) RA (by omega) (λz q eJ Γ a7 vh Fs cn=>?_)
   have q3:eJ.length=(fE f).length:=by have:=cN.len Fs;rwa [List.length_map] at this
   have zs:=bF.trans bF.n (aZ.trans kF a7)
   have gG:∀t∈fE f,dE (some t)=0:=λt bm=>by
    rcases B2 f [] bm with h|h
    · exact RA t h
    · cases h
   refine⟨q,0,eJ.length,.aL 1,z,Γ,rfl,rfl,cn,λaG=>?_,λaG=>?_⟩
   · obtain⟨t,bm⟩:∃t,fE f=[t]:=by
       cases al:fE f with
       |nil=>
        rw[al] at q3
        have:eJ.length=0:=q3
        omega
       |cons t s=>
        rw[al] at q3
        have:s=[]:=List.eq_nil_of_length_eq_zero (by simp at q3;omega)
        exact⟨t,by rw[this]⟩
     obtain⟨r,ao⟩:∃r,eJ=[r]:=by
      cases eJ with
      |nil=>simp at aG
      |cons r s=>
       have:s=[]:=by simpa using aG
       exact⟨r,by rw[this]⟩
     subst ao
     refine⟨by omega,r,?_,z,zs,.inl ⟨?_,r,rfl,?_⟩⟩
     · rcases vh with⟨e,_⟩|⟨ajX,e,_,bX,_⟩
       · cases e
       · cases e;exact aF bX rfl
     · rintro⟨G5,vi,pG,_⟩
       rw[hf] at vi;cases vi
       rw[bm] at pG;exact pG rfl
     · rw[bm] at Fs
       have hu:pj l=t:=by unfold pj;rw[hf];simp only[bm]
       rw[hu]
       obtain⟨v,ws,e,bG,_⟩:=Fs
       cases e
       exact g9.ie a7 bG
   · obtain⟨H,cy⟩:∃H,H=z.push (aQ [J 9,.str [],.aP,.slice q 0 eJ.length (.aL 1),.aX] 80):=⟨_,rfl⟩
     have dY:Ext z.n z H:=by rw[cy];exact Ext.push (Nat.le_refl _) _
     have RB:=a7.n
     have Cc:g9 lo H (.mk 9 [] [] (fE f) none) (.ptr z.n 0):=by
      refine⟨z.n,.aP,_,.aX,eJ.map g_,.own,0,0,rfl,⟨by omega,by rw[cy];simp⟩,by rw[cy];exact e7 rfl,.inl ⟨rfl,rfl⟩,sc (vh.mono dY (Nat.le_refl _)) (bT.iX (vh.mono dY (Nat.le_refl _)) (by omega)),Fs.ie (a7.trans a7.n dY),rfl⟩
     have u1:eW (.mk 9 [] [] (fE f) none)=true:=Rc ah (by omega) hf (by omega)
     have L8:sz (.mk 9 [] [] (fE f) none)<=60001+dk none:=J1 9 [] (fE f) none gG (by
      have:=(B8 f []).2.1
      have e:(fE f).length<=([]:List aJ).length+f.length:=this
      simp at e;omega)
     have fm:dk none=0:=by rw[dk]
     have hu:pj l=r_ (.mk 9 [] [] (fE f) none):=by
      unfold pj
      rw[hf]
      simp only
      cases al:fE f with
      |nil=>rfl
      |cons t s=>
       cases s with
       |nil=>rw[al] at q3;exact absurd q3 aG
       |cons ajY s=>rfl
     obtain⟨w,n,bk,eZ,aes,f1,f2⟩:=A2 m lo (zs.trans zs.n (dY.le (by have:=zs.n;omega))) Cc (by omega) (by omega)
     rw[cy] at eZ
     refine⟨w,n,bk,eZ,aes,f1,?_⟩
     rcases f2 with⟨cz,r,f3,f4⟩|⟨cz,f3⟩
     · refine .inl ⟨?_,r,f3,by rw[hu,B7 u1,if_pos cz];exact f4⟩
       rintro⟨G5,vi,_,dw⟩
       rw[hf] at vi;cases vi
       omega
     · exact .inr ⟨⟨f,hf,by omega,cz⟩,f3⟩
 · right
   refine⟨r,y,Γ,rfl,rfl,cn,y,bF.trans xi (aZ.le (Nat.le_refl _)),.inl ⟨?_,r,rfl,?_⟩⟩
   · rintro⟨G5,vi,_⟩;rw[hf] at vi;cases vi
   · have hu:pj l=JH:=by unfold pj;rw[hf]
     rw[hu];exact pr
def l5:Nat->Nat
 |0=>1
 |d+1=>1+3*l5 d
theorem vj(n:Nat)(m:gg):(dI n m).2.nodes=m.nodes:=by unfold dI;split<;>rfl
theorem RC(k:Nat)(l:List aJ)(m:gg):(gT k l m).2.nodes=m.nodes:=by
 unfold gT
 split
 · exact vj 2 m
 split
 · rfl
 split
 · rfl
 split<;>rfl
theorem RD{f:gg->aJ×gg}{b:Nat}(hf:∀m,(f m).2.nodes<=m.nodes+b):∀n m,(iW f n m).2.nodes<=m.nodes+n*b
 |0,m=>by simp[iW]
 |n+1,m=>by
  have I:=hf m
  have ae:=RD hf n (f m).2
  show(iW f n (f m).2).2.nodes<=_
  rw[Nat.succ_mul];omega
theorem RE{f:gg->aJ×gg}:∀n m,(iW f n m).1.length=n
 |0,m=>rfl
 |n+1,m=>by show(iW f n (f m).2).1.length+1=_;rw[RE n]
def Kd(d bq:Nat)(s:gg):aJ×gg:=gT bq (iW (fa d) ((dI 3 s).1+1) (dI 3 s).2).1 (iW (fa d) ((dI 3 s).1+1) (dI 3 s).2).2
theorem RF:∀d m,(fa d m).2.nodes<=m.nodes+l5 d
 |0,m=>by
  rw[fa,RC,vj,vj,vj];exact Nat.le_refl _
 |d+1,m=>by
  rw[fa,RC,l5]
  have key:∀(c:Prop) [Decidable c] (n:Nat) (lv:gg),n<=3->lv.nodes=m.nodes+1->(if c then iW (fa d) n lv else([],lv)).2.nodes<=m.nodes+(1+3*l5 d):=by
   intro c _ n lv aH hm
   split
   · have:=RD (RF d) n lv
     have ax:n*l5 d<=3*l5 d:=Nat.mul_le_mul_right _ aH
     omega
   · simp only;omega
  refine key _ _ _ ?_ ?_
  · split
    · have:=p9 (n:=3) (by omega) (dI 5 (dI 9 ⟨m.left,m.nodes+1⟩).2).2
      omega
    · have:=p9 (n:=3) (by omega) (dI 9 ⟨m.left,m.nodes+1⟩).2
      omega
  · split<;>simp only[vj]
theorem gV.low{B c:Nat}{h g:ab}{m:gg}(o:gV B c h m)(aH:h.n<=g.n)(ah:g.get c=h.get c)(dd:∀d,d<B->g.get d=h.get d):gV B c g m:=by
 obtain⟨v,I,ae⟩:=o.get
 refine⟨⟨v,ah.trans I,?_⟩,o.lo,Nat.lt_of_lt_of_le o.up aH⟩
 rcases ae with ae|⟨b,off,cp,bG,b0,dF,gA⟩
 · exact .inl ae
 · exact .inr ⟨b,off,cp,bG,b0,dF,λi hi=>(q1 (dd b b0)).trans (gA i hi)⟩
theorem RG(m d:Nat){B c:Nat}(iw:∀(h:ab) (s:gg),gV B c h s->s.nodes+l5 d<=1000000->∃r g,Y m (.fn 27) [.ptr c 0,J d] h=.ret (.ptr r 0) g/\gV B c g (fa d s).2/\fb c h g/\g9 h.n g (fa d s).1 (.ptr r 0))
  {k q n:Nat}{h:ab}{s:gg}(ay:7<=k)(ai:d<=1000)(al:gV B c h s)(aH:n<=3)(kx:s.nodes+n*l5 d<=1000000){Q:bW->bL->Prop}
  (uI:∀g w ps Γ,fb c h g->gV B c g (iW (fa d) n s).2->iJ h.n g w ps->kE h.n g (iW (fa d) n s).1 (ps.map g_)->bY [(0,.ptr c 0),(5,J k),(6,.ptr q 0),(7,w)] Γ->Q (.exit 0) (aks Γ g)):
  bp an Tryz.f27 (Y m) [1,1,1,1,1,1,0,1,0] ⟨[(0,.ptr c 0),(1,J (d+1)),(5,J k),(6,.ptr q 0),(7,.aP),(8,J n)],[],.none,h⟩ Q:=by
 have qu:=al.up
 refine e8 (λj st=>∃i y Γ w cF ps s',st=aks Γ y/\bY [(0,.ptr c 0),(1,J (d+1)),(5,J k),(6,.ptr q 0),(7,w),(8,J i)] Γ/\i=j/\i<=3/\fb c h y/\gV B c y s'/\s'.nodes+i*l5 d<=1000000/\cF.length+i<=3/\iJ h.n y w ps/\cN (λb=>h.n<=b/\b<y.n/\∀n cp,w≠ .slice b 0 n cp) y cF (ps.map g_)/\(iW (fa d) n s).1=cF++(iW (fa d) i s').1/\(iW (fa d) n s).2=(iW (fa d) i s').2) ?_ n _ (by omega) ⟨n,h,_,.aP,[],[],s,rfl,⟨rfl,rfl,rfl,rfl,rfl,rfl,trivial⟩,rfl,aH,fb.refl _ _,al,kx,by simpa using aH,.inl ⟨rfl,rfl⟩,rfl,rfl,rfl⟩
 rintro j st ⟨i,y,Γ,w,cF,ps,s',rfl,cn,rfl,hi,aZ,en,aet,ajZ,j0,lM,aG,aE⟩
 have fin:i=0->Q (.exit 0) ⟨[(0,.ptr c 0),(1,J (d+1)),(5,J k),(6,.ptr q 0),(7,w),(8,J i)],[],.none,y⟩:=λh0=>by
  subst h0
  have aG:(iW (fa d) n s).1=cF:=by rw[aG];exact List.append_nil _
  have aE:(iW (fa d) n s).2=s':=aE
  exact uI y w ps _ aZ (by rw[aE];exact en) j0 (by rw[aG];exact cN.bB (λb ag=>⟨⟨ag.1,ag.2.1⟩,rfl⟩) _ _ lM) ⟨rfl,rfl,rfl,rfl,trivial⟩
 have kF:=aZ.n
 refine ei (Rh (Y m) c (d+1) k q i w y ⟨λi1=>⟨λ_=>?_,λh=>absurd ay h⟩,λi1=>fin (by omega)⟩) cn
 obtain⟨i,rfl⟩:∃a,i=a+1:=⟨i-1,by omega⟩
 rw[Nat.succ_mul] at aet
 obtain⟨r,g,aM,a3,bF,t1⟩:=iw y s' en (by omega)
 have xi:=bF.n
 have dr:∀n cp,w≠ .slice c 0 n cp:=by
  intro n cp e
  rcases j0 with⟨rfl,_⟩|⟨p,rfl,_,_,aN,_⟩
  · cases e
  · cases e;omega
 have aeu:iJ h.n g w ps:=bT.bB j0 xi λp a0 Ft=>bF.get p Ft λe=>by subst e;exact dr _ _ a0
 have gG:=en.up
 have hV:ps.length=cF.length:=by have:=cN.len lM;rwa [List.length_map] at this
 obtain⟨H,cy⟩:∃H,H=g.push (aQ [.ptr r 0] 35):=⟨_,rfl⟩
 have lj:H.n=g.n+1:=by rw[cy];rfl
 have k1:∀b,b<g.n->H.get b=g.get b:=λb ag=>by rw[cy];exact nn ag rfl
 have aev:iJ h.n H w ps:=bT.bB aeu (by omega) λp _ Ft=>k1 p Ft
 obtain⟨av,cu,cU,dm,e0,ey⟩:=zm qb aev (by omega) (d:=r) (src:=.slice g.n 0 1 (.exact 1)) (by rw[cy];exact yz qb g 35 r) (by omega)
 subst cy
 refine⟨⟨by omega,by omega⟩,r,g,aM,_,av,cu,⟨by omega,by omega⟩,i,(by show i<i+1;omega),i,av,_,_,cF++[(fa d s').1],ps++[r],(fa d s').2,rfl,⟨rfl,rfl,rfl,rfl,rfl,rfl,trivial⟩,rfl,by omega,?_,?_,?_,by rw[List.length_append,List.length_singleton];omega,?_,?_,by rw[aG];simp[iW],by rw[aE];rfl⟩
 · exact⟨by omega,λb ag t_=>(e0.get b ag).trans (((k1 b (by omega)).trans (bF.get b (by omega) t_)).trans (aZ.get b ag t_))⟩
 · exact a3.low (by omega) ((ey c (by omega) dr).trans (k1 c (by have:=a3.up;omega))) λb ag=>by
    have gM:=al.lo
    exact(e0.get b (by omega)).trans (k1 b (by omega))
 · have:=RF d s'
   omega
 · exact .inr ⟨_,rfl,by simp,cU,by omega,by omega⟩
 · rw[List.map_append]
   have old:∀b,h.n<=b->b<g.n->(∀n cp,w≠ .slice b 0 n cp)->(h.n<=b/\b<av.n/\∀n cp,ad.slice (g.n+1) 0 (ps++[r]).length (ct.aL 1)≠ .slice b 0 n cp)/\av.get b=g.get b:=λb I ae ax=>by
    refine⟨⟨I,by omega,λn cp e=>by cases e;omega⟩,(ey b (by omega) ax).trans (k1 b ae)⟩
   refine cN.app (cN.cons (ew.bB (λb ag=>old b (by have:=ag.1;omega) ag.2 λn cp e=>?_) _ _ t1) cN.nil) (cN.bB (λb ag=>?_) _ _ lM)
   · rcases j0 with⟨rfl,_⟩|⟨p,rfl,_,_,_,bS⟩
     · cases e
     · cases e;have:=ag.1;omega
   · obtain⟨bn,bo,c9⟩:=ag
     obtain⟨dy,ed⟩:=old b bn (by omega) c9
     exact⟨dy,ed.trans (bF.get b bo (by omega))⟩
theorem gV.count{B c:Nat}{h:ab}{s:gg}(o:gV B c h s):∃g,aq h c (0+1)=some (J s.nodes)/\bg.storeCells h c (0+1) [J (s.nodes+1)]=some g/\gV B c g ⟨s.left,s.nodes+1⟩/\fb c h g/\g.n=h.n:=by
 obtain⟨v,I,ae⟩:=o.get
 have qY:=o.up
 have gM:=o.lo
 refine⟨_,aF I rfl,eV I rfl rfl,⟨⟨v,eK rfl,?_⟩,o.lo,by simpa using o.up⟩,⟨by simp,λd _ ai=>cX ai rfl⟩,rfl⟩
 rcases ae with ae|⟨b,off,cp,bG,b0,dF,gA⟩
 · exact .inl ae
 · exact .inr ⟨b,off,cp,bG,b0,dF,λi hi=>(q1 (cX (by omega) rfl)).trans (gA i hi)⟩
def q4(B c:Nat)(h:ab)(t:aJ)(s:gg)(e:bW)(st:bL):Prop:=e=.ret/\∃r g,st=⟨[(4,.ptr r 0)],[],.none,g⟩/\gV B c g s/\fb c h g/\g9 h.n g t (.ptr r 0)
theorem fb.push{c:Nat}{h g:ab}(e:fb c h g)(o:dQ):fb c h (g.push o):=⟨by have:=e.n;simp;omega,λd ai ah=>(nn (by have:=e.n;omega) rfl).trans (e.get d ai ah)⟩
abbrev tr:dQ:=aQ [.str [97],.str [98],.str [99]] 9
theorem RH(m D:Nat){B c bq:Nat}{h:ab}{s:gg}(al:gV B c h s)(I:1<=bq)(cz:bq<=6):bp an Tryz.f27 (Y (m+1)) [1,1,1,1] ⟨[(0,.ptr c 0),(1,J D),(5,J bq)],[],.none,h⟩ (q4 B c h (gT bq [] (dI 3 s).2).1 (gT bq [] (dI 3 s).2).2):=by
 have Fu:=al.up
 have gM:=al.lo
 obtain⟨H,cy⟩:∃H,H=h.push (aQ [J bq,.str [],.aP,.aP,.aX] 80):=⟨_,rfl⟩
 have dY:Ext h.n h H:=by rw[cy];exact Ext.push (Nat.le_refl _) _
 have lj:H.n=h.n+1:=by rw[cy];rfl
 have zo:H.get h.n=some (aQ [J bq,.str [],.aP,.aP,.aX] 80):=by rw[cy];exact e7 rfl
 obtain⟨ak,aM,a3,bF⟩:=xh m 3 (al.move dY) (by omega)
 have xi:=bF.n
 have bd:=p9 (n:=3) (by omega) s
 have a8:ak.get h.n=some (aQ [J bq,.str [],.aP,.aP,.aX] 80):=(bF.get _ (by omega) (by omega)).trans zo
 have xj:fb c h ak:=(fb.mA dY).trans bF
 refine adP (Y (m+1)) c D bq h ⟨(dI 3 s).1,ak,by rw[<-cy];exact aM,by omega,?_⟩
 refine e8 (λj st=>∃Γ,st=aks Γ ak/\bY [(0,.ptr c 0),(1,J D),(5,J bq),(6,.ptr h.n 0),(7,.aP),(8,J ((dI 3 s).1+1))] Γ) ?_ 0 _ (by omega) ⟨_,rfl,rfl,rfl,rfl,rfl,rfl,rfl,trivial⟩
 rintro j st ⟨Γ,rfl,cn⟩
 refine ei (Rh (Y (m+1)) c D bq h.n _ .aP ak ⟨λ_=>⟨λdw=>absurd dw (by omega),λ_=>?_⟩,λh=>absurd h (by omega)⟩) cn
 obtain⟨G,fR⟩:∃G,G=ak.push tr:=⟨_,rfl⟩
 have zt:G.n=ak.n+1:=by rw[fR];rfl
 have oB:Ext ak.n ak G:=by rw[fR];exact Ext.push (Nat.le_refl _) _
 have RI:G.get h.n=some (aQ [J bq,.str [],.aP,.aP,.aX] 80):=(oB.get _ (by omega)).trans a8
 have RJ:∀(g:ab) (t:aJ) (nm:bb),t=.mk bq nm [] [] none->g.get h.n=some (aQ [J bq,.str nm,.aP,.aP,.aX] 80)->h.n<g.n->g9 h.n g t (.ptr h.n 0):=λg t nm e ar aH=>by
  subst e
  exact⟨h.n,.aP,.aP,.aX,[],.own,0,0,rfl,⟨Nat.le_refl _,aH⟩,ar,.inl ⟨rfl,rfl⟩,.inl ⟨rfl,rfl⟩,rfl,rfl⟩
 refine⟨h.n,ak,_,rfl,rfl,⟨rfl,rfl,rfl,rfl,trivial⟩,λhd=>?_,λbP=>⟨by omega,by omega,by omega,λ_=>?_,λh=>absurd rfl h⟩⟩
 · subst hd
   obtain⟨K,dg⟩:∃K,K=G.push (aQ [.str [109,46,84],.str [109,46,85]] 9):=⟨_,rfl⟩
   have sd:Ext G.n G K:=by rw[dg];exact Ext.push (Nat.le_refl _) _
   have RK:K.n=G.n+1:=by rw[dg];rfl
   obtain⟨aD,ee,pY,dh⟩:=xh m 2 ((a3.move oB).move sd) (by omega)
   have aY:=p9 (n:=2) (by omega) (dI 3 s).2
   have ad4:=dh.n
   have bX:aD.get h.n=some (aQ [J 6,.str [],.aP,.aP,.aX] 80):=(dh.get _ (by omega) (by omega)).trans ((sd.get _ (by omega)).trans RI)
   have e5:aD.get G.n=some (aQ [.str [109,46,84],.str [109,46,85]] 9):=(dh.get _ (by omega) (by have:=a3.up;omega)).trans (by rw[dg];exact e7 rfl)
   have dL:aq aD G.n (0+(dI 2 (dI 3 s).2).1*1)=some (.str (zf (dI 2 (dI 3 s).2).1)):=by
    have:(dI 2 (dI 3 s).2).1=0\/(dI 2 (dI 3 s).2).1=1:=by omega
    rcases this with e|e<;>rw[e]<;>exact aF e5 rfl
   obtain⟨a4,nH⟩:∃a4,a4=aD.set h.n (some (aQ [J 6,.str (zf (dI 2 (dI 3 s).2).1),.aP,.aP,.aX] 80)):=⟨_,rfl⟩
   have zb:fb c h aD:=(xj.trans (fb.mA oB)).trans ((fb.mA sd).trans dh)
   subst dg;subst fR
   refine⟨_,aD,ee,aY,_,dL,a4,by rw[nH];exact eV bX rfl rfl,λ_=>⟨rfl,_,_,rfl,?_,?_,?_⟩,λh=>absurd rfl h⟩
   · have e:(gT 6 [] (dI 3 s).2).2=(dI 2 (dI 3 s).2).2:=by simp[gT]
     rw[e]
     exact pY.low (by rw[nH];simp) (by rw[nH];exact cX (by omega) rfl) λd ai=>by rw[nH];exact cX (by omega) rfl
   · exact⟨by rw[nH];have:=zb.n;simpa using this,λd ai ah=>by rw[nH];exact(cX (by omega) rfl).trans (zb.get d ai ah)⟩
   · exact RJ _ _ (zf (dI 2 (dI 3 s).2).1) (by simp[gT]) (by rw[nH];exact eK rfl) (by rw[nH];simp;omega)
 · have aew:h.n<G.n:=by omega
   subst fR
   have e:gT bq [] (dI 3 s).2=(.mk bq [] [] [] none,(dI 3 s).2):=by
    unfold gT
    rw[if_neg bP,if_neg (by omega),if_neg (by omega),if_neg (by omega)]
   rw[e]
   exact⟨rfl,_,_,rfl,a3.move oB,xj.trans (fb.mA oB),RJ _ _ [] rfl RI aew⟩
def RL:List aJ->aJ
 |[]=>r9
 |x::l=>.mk 8 [] [] l (some x)
def vk(bq:Nat)(l:List aJ):Prop:=(bq=7/\60<sz (.mk 7 [] (g8.take l.length) l none))\/(bq=8/\60<sz (RL l))\/(bq=9/\J7 l)
theorem aex{bq:Nat}{l:List aJ}(m:gg)(ag:vk bq l)(aA:∀t∈l,dE (some t)=0)(ax:l.length<=3)(h0:0<l.length):gT bq l m=(r9,m):=by
 rcases ag with⟨rfl,cz⟩|⟨rfl,cz⟩|⟨rfl,f,hf,I,cz⟩
 · have:JI l=r9:=by rw[rec_eq aA ax,if_neg (by omega)]
   simp[gT,this]
 · have:Fj l=r9:=by
     cases l with
     |nil=>rfl
     |cons x l=>
      have cz:60<sz (.mk 8 [] [] l (some x)):=cz
      show r_ _=_
      rw[B7 (Q5 (λt bm=>aA t (List.mem_cons_of_mem _ bm)) (aA x (List.mem_cons_self ..))),if_neg (by omega)]
   simp[gT,this]
 · have u1:=Rc aA h0 hf I
   have:pj l=r9:=by
    unfold pj
    rw[hf]
    simp only
    split
    · rename_i t bm;rw[bm] at I;exact absurd rfl I
    · rw[B7 u1,if_neg (by omega)]
   simp[gT,this]
theorem Fv{h:ab}{p:Nat}{ps:List Nat}(ar:h.get p=some (.cells (dp (λd=>[g_ d]) ps) 35 .aL 0 0))(i:Nat)(hi:i<ps.length):aq h p (0+i*1)=some (.ptr ps[i] 0):=by
 refine lb ar ?_
 rw[kn,List.getElem?_map,Nat.zero_add,Nat.mul_one,List.getElem?_eq_getElem (by omega)]
 rfl
theorem RM(m bq:Nat){B c:Nat}{h g:ab}{s':gg}{l:List aJ}{p:Nat}{ps:List Nat}(hm:200000<=m)(aa:fb c h g)(al:gV B c g s')(j0:iJ (h.n+1) g (.slice p 0 ps.length (.aL 1)) ps)(pr:kE (h.n+1) g l (ps.map g_))(h0:0<ps.length)(ax:ps.length<=3)(ah:∀t∈l,dE (some t)=0)(Pb:c<h.n)(aj0:h.n<g.n):
  (bq=7->∃v1,dC an (g.push tr) 63 (.slice g.n 0 3 (.exact 3)) none (some (J ps.length)) none=some v1/\∃v e aD,Y (m+3) (.fn 49) [v1,.slice p 0 ps.length (.aL 1)] (g.push tr)=.ret (.aR [v,J e]) aD/\fb c h aD/\gV B c aD s'/\((vk bq l/\v=.aX/\e=3)\/(¬vk bq l/\e=0/\∃r,v=.ptr r 0/\g9 h.n aD (gT bq l s').1 (.ptr r 0)/\(gT bq l s').2=s')))/\
  (bq=8->∃v1,dC an ((g.push tr).room 11) 50 (.slice p 0 ps.length (.aL 1)) (some (J 1)) none none=some v1/\ad.sound v1=true/\∃x,aq ((g.push tr).room 11) p (0+0*1)=some (.ptr x 0)/\∃v e aD,Y (m+3) (.fn 50) [v1,.ptr x 0] ((g.push tr).room 11)=.ret (.aR [v,J e]) aD/\fb c h aD/\gV B c aD s'/\((vk bq l/\v=.aX/\e=3)\/(¬vk bq l/\e=0/\∃r,v=.ptr r 0/\g9 h.n aD (gT bq l s').1 (.ptr r 0)/\(gT bq l s').2=s')))/\
  (bq=9->∃v e aD,Y (m+3) (.fn 51) [.slice p 0 ps.length (.aL 1)] (g.push tr)=.ret (.aR [v,J e]) aD/\fb c h aD/\gV B c aD s'/\((vk bq l/\v=.aX/\e=3)\/(¬vk bq l/\e=0/\∃r,v=.ptr r 0/\g9 h.n aD (gT bq l s').1 (.ptr r 0)/\(gT bq l s').2=s'))):=by
 have fH:ps.length=l.length:=by have:=cN.len pr;rwa [List.length_map] at this
 have Fu:=al.up
 obtain⟨G,fR⟩:∃G,G=g.push tr:=⟨_,rfl⟩
 have oB:Ext g.n g G:=by rw[fR];exact Ext.push (Nat.le_refl _) _
 have zt:G.n=g.n+1:=by rw[fR];rfl
 have aey:G.get g.n=some tr:=by rw[fR];exact e7 rfl
 rw[<-fR]
 have a0:G.get p=some (.cells (dp (λd=>[g_ d]) ps) 35 .aL 0 0)/\p<g.n:=by
  rcases j0 with⟨e,_⟩|⟨q,e,_,bX,_,gi⟩
  · cases e
  · cases e;exact⟨(oB.get _ gi).trans bX,gi⟩
 obtain⟨a0,Ft⟩:=a0
 have cast:∀{r:Nat} {K:ab} {t:aJ},g9 (h.n+1) K t (.ptr r 0)->g9 h.n K t (.ptr r 0):=λo=>ew.bB (λb ag=>⟨⟨by have:=ag.1;omega,ag.2⟩,rfl⟩) _ _ o
 have Ke:kE (h.n+1) G l (ps.map g_):=pr.ie oB
 refine⟨λhA=>?_,λic=>?_,λhN=>?_⟩
 · subst hA
   obtain⟨off,cp,s1,s2,b1⟩:=Rj (P:=an) (h:=G) (T:=63) (E:=9) (b:=g.n) (off:=0) (n:=3) (cp:=.exact 3) (by kernel_rfl) (by kernel_rfl) ax (Nat.le_refl 3)
   obtain⟨rfl,_⟩:=b1 h0
   refine⟨_,s1,?_⟩
   have f:=ad9 m (h.n+1) (h:=G) (nb:=g.n) (b:=p) (nc:=cp) (cp:=.aL 1) (l:=l) (vs:=ps.map g_) hm (by omega) (by omega) (by omega) (λi hi=>by
    rw[List.length_map] at hi
    have:i=0\/i=1\/i=2:=by omega
    rcases this with rfl|rfl|rfl<;>exact aF aey rfl) (λi hi=>by
    rw[List.length_map] at hi
    rw[Fv a0 i hi];simp) Ke (by rw[List.length_map];omega) ah
   rw[List.length_map] at f
   obtain⟨aD,dh,f⟩:=f
   have vl:=(aa.trans (fb.mA oB)).trans (fb.mA dh)
   have ln:=(al.move oB).move dh
   rcases f with⟨cz,r,f1,f2⟩|⟨cz,f1⟩
   · refine⟨_,_,aD,f1,vl,ln,.inr ⟨?_,rfl,r,rfl,?_,by simp[gT]⟩⟩
     · rintro(⟨_,dw⟩|⟨dw,_⟩|⟨dw,_⟩)<;>omega
     · have e:(gT 7 l s').1=.mk 7 [] (g8.take l.length) l none:=by simp[gT,rec_eq ah (by omega:l.length<=3),if_pos cz]
       rw[e];exact cast f2
   · exact⟨_,_,aD,f1,vl,ln,.inl ⟨.inl ⟨rfl,cz⟩,rfl,rfl⟩⟩
 · subst ic
   cases l with
   |nil=>exact absurd fH (by show¬ps.length=0;omega)
   |cons x l=>
    cases ps with
    |nil=>simp at h0
    |cons q ps=>
     have hI:Ext G.n G (G.room 11):=Ext.room _ _ _
     have vm:(G.room 11).n=G.n+11:=rfl
     have Kf:(G.room 11).get p=some (.cells (dp (λd=>[g_ d]) (q::ps)) 35 .aL 0 0):=a0
     have aez:=kE.ie hI Ke
     obtain⟨v,ws,e,t1,t2⟩:=aez
     cases e
     have hV:ps.length=l.length:=by simpa using fH
     obtain⟨off,cp,s1,s2,b1⟩:=JV (P:=an) (h:=G.room 11) (T:=50) (E:=35) (b:=p) (off:=0) (n:=(q::ps).length) (cp:=.aL 1) (by kernel_rfl) (by kernel_rfl) h0 rfl
     refine⟨_,s1,rfl,q,Fv Kf 0 (by simp),?_⟩
     have el:(q::ps).length-1=ps.length:=rfl
     rw[el] at b1⊢
     have gf:∀{K:ab},K.get p=some (.cells (dp (λd=>[g_ d]) (q::ps)) 35 .aL 0 0)->∀i (hi:i<(ps.map g_).length),aq K p (off+i*1)=some (ps.map g_)[i]:=λay i hi=>by
      rw[List.length_map] at hi
      obtain⟨rfl,_⟩:=b1 (by omega)
      rw[show 0+1*1+i*1=0+(i+1)*1 by omega,Fv ay (i+1) (by simpa using hi)]
      simp
     have f:=ad1 m (h.n+1) (h:=G.room 11) (b:=p) (off:=off) (r:=q) (cp:=cp) (x:=x) (l:=l) (vs:=ps.map g_) hm (by omega) (by omega) (gf Kf) t2 (λK dg=>by
      have ay:K.get p=some (.cells (dp (λd=>[g_ d]) (q::ps)) 35 .aL 0 0):=(dg.get p (by omega)).trans Kf
      by_cases I:0<ps.length
      · exact c5.src (B:=0) (gf ay) (by rw[List.length_map];exact I) (b1 I).2
      · have c6:ps=[]:=List.eq_nil_of_length_eq_zero (by omega)
        subst c6
        have:cp=.dead\/cp≠ .dead:=by cases cp<;>simp
        rcases this with rfl|Kg
        · rfl
        · have e:bg.loadCells K p off (0*1)=some []:=lU ay rfl
          cases cp with
          |exact k=>simp only[List.map_nil,List.length_nil,fu,e]
          |aL k=>simp only[List.map_nil,List.length_nil,fu,e]
          |dead=>exact absurd rfl Kg) t1 (by rw[List.length_map];simp at ax;omega) (λt bm=>ah t (List.mem_cons_of_mem _ bm)) (ah x (List.mem_cons_self ..))
     rw[List.length_map] at f
     obtain⟨aD,dh,f⟩:=f
     have vl:=(aa.trans (fb.mA oB)).trans ((fb.mA hI).trans (fb.mA dh))
     have ln:=((al.move oB).move hI).move dh
     rcases f with⟨cz,r,f1,f2⟩|⟨cz,f1⟩
     · refine⟨_,_,aD,f1,vl,ln,.inr ⟨?_,rfl,r,rfl,?_,by simp[gT]⟩⟩
       · have cz:sz (RL (x::l))<=60:=cz
         rintro(⟨dw,_⟩|⟨_,dw⟩|⟨dw,_⟩)<;>omega
       · have e:(gT 8 (x::l) s').1=.mk 8 [] [] l (some x):=by
           have:Fj (x::l)=.mk 8 [] [] l (some x):=by
            show r_ _=_
            rw[B7 (Q5 (λt bm=>ah t (List.mem_cons_of_mem _ bm)) (ah x (List.mem_cons_self ..))),if_pos cz]
           simp[gT,this]
         rw[e];exact cast f2
     · exact⟨_,_,aD,f1,vl,ln,.inl ⟨.inr (.inl ⟨rfl,cz⟩),rfl,rfl⟩⟩
 · subst hN
   obtain⟨aD,dh,f⟩:=aer m (h.n+1) (h:=G) (b:=p) (off:=0) (cp:=.aL 1) (l:=l) (ps:=ps) hm (by omega) (by omega) (Fv a0) Ke h0 (by omega) ah
   have vl:=(aa.trans (fb.mA oB)).trans (fb.mA dh)
   have ln:=(al.move oB).move dh
   rcases f with⟨ag,r,f1,f2⟩|⟨ag,f1⟩
   · refine⟨_,_,aD,f1,vl,ln,.inr ⟨?_,rfl,r,rfl,?_,by simp[gT]⟩⟩
     · rintro(⟨dw,_⟩|⟨dw,_⟩|⟨_,dw⟩)
       · omega
       · omega
       · exact ag dw
     · have e:(gT 9 l s').1=pj l:=by simp[gT]
       rw[e];exact cast f2
   · exact⟨_,_,aD,f1,vl,ln,.inl ⟨.inr (.inr ⟨rfl,ag⟩),rfl,rfl⟩⟩
theorem q4.back{B c:Nat}{h ax:ab}{t:aJ}{s:gg}{e:bW}{st:bL}(x:fb c h ax)(o:q4 B c ax t s e st):q4 B c h t s e st:=by
 obtain⟨I,r,g,ae,te,aN,bS⟩:=o
 have:=x.n
 exact⟨I,r,g,ae,te,x.trans aN,ew.bB (λb ag=>⟨⟨by have:=ag.1;omega,ag.2⟩,rfl⟩) _ _ bS⟩
theorem aeA(m d:Nat){B c bq:Nat}{h:ab}{s:gg}(hm:200000<=m)(iw:∀(h:ab) (s:gg),gV B c h s->s.nodes+l5 d<=1000000->∃r g,Y (m+3) (.fn 27) [.ptr c 0,J d] h=.ret (.ptr r 0) g/\gV B c g (fa d s).2/\fb c h g/\g9 h.n g (fa d s).1 (.ptr r 0))
  (al:gV B c h s)(ai:d<=1000)(aH:s.nodes+3*l5 d<=1000000)(dw:7<=bq)(hz:bq<=9):bp an Tryz.f27 (Y (m+3)) [1,1,1,1] ⟨[(0,.ptr c 0),(1,J (d+1)),(5,J bq)],[],.none,h⟩ (q4 B c h (Kd d bq s).1 (Kd d bq s).2):=by
 have Fu:=al.up
 obtain⟨H,cy⟩:∃H,H=h.push (aQ [J bq,.str [],.aP,.aP,.aX] 80):=⟨_,rfl⟩
 have dY:Ext h.n h H:=by rw[cy];exact Ext.push (Nat.le_refl _) _
 have lj:H.n=h.n+1:=by rw[cy];rfl
 obtain⟨ak,aM,a3,bF⟩:=xh (m+2) 3 (al.move dY) (by omega)
 have xi:=bF.n
 have bd:=p9 (n:=3) (by omega) s
 have aj1:=vj 3 s
 have xj:fb c h ak:=(fb.mA dY).trans bF
 rw[cy] at aM
 obtain⟨L,hY⟩:∃L,L=iW (fa d) ((dI 3 s).1+1) (dI 3 s).2:=⟨_,rfl⟩
 have Fa:L.1.length=(dI 3 s).1+1:=by rw[hY];exact RE _ _
 have Kh:∀t∈L.1,dE (some t)=0:=by rw[hY];exact JM (λt=>dE (some t)=0) (JN d) _ _
 have qF:Kd d bq s=gT bq L.1 L.2:=by rw[hY];rfl
 rw[qF]
 have kx:(dI 3 s).2.nodes+((dI 3 s).1+1)*l5 d<=1000000:=by
  have:((dI 3 s).1+1)*l5 d<=3*l5 d:=Nat.mul_le_mul_right _ (by omega)
  omega
 have key:∀(g:ab) (w:ad) (ps:List Nat),fb c ak g->gV B c g L.2->iJ ak.n g w ps->kE ak.n g L.1 (ps.map g_)->∃p,w=.slice p 0 ps.length (.aL 1)/\fb c h g/\h.n<g.n/\iJ (h.n+1) g (.slice p 0 ps.length (.aL 1)) ps/\kE (h.n+1) g L.1 (ps.map g_)/\0<ps.length/\ps.length<=3:=by
  intro g w ps aa ou j0 pr
  have fH:ps.length=L.1.length:=by have:=cN.len pr;rwa [List.length_map] at this
  have Ki:=aa.n
  have aeB:iJ (h.n+1) g w ps:=bT.le (by omega) j0
  have aeC:kE (h.n+1) g L.1 (ps.map g_):=cN.bB (λb ag=>⟨⟨by have:=ag.1;omega,ag.2⟩,rfl⟩) _ _ pr
  rcases aeB with⟨_,e⟩|⟨p,rfl,a2,bX,eG,gi⟩
  · rw[e] at fH;simp at fH;omega
  · exact⟨p,rfl,xj.trans aa,by omega,.inr ⟨p,rfl,a2,bX,eG,gi⟩,aeC,a2,by omega⟩
 by_cases dd:vk bq L.1
 · have om:=aex L.2 dd Kh (by omega) (by omega)
   rw[om]
   have fin:∀aD,fb c h aD->gV B c aD L.2->q4 B c h r9 L.2 .ret ⟨[(4,.ptr aD.n 0)],[],.none,aD.push (aQ [J 2,.str [],.aP,.aP,.aX] 80)⟩:=λaD dh pY=>by
    have:=dh.n
    exact⟨rfl,_,_,rfl,pY.move (Ext.push (Nat.le_refl _) _),dh.push _,⟨aD.n,.aP,.aP,.aX,[],.own,0,0,rfl,⟨by omega,by simp⟩,e7 rfl,.inl ⟨rfl,rfl⟩,.inl ⟨rfl,rfl⟩,rfl,rfl⟩⟩
   refine adR (Y (m+3)) c (d+1) bq h ⟨(dI 3 s).1,ak,aM,by omega,?_⟩
   refine RG (m+3) d iw dw ai a3 (by omega) kx (λg w ps Γ aa ou j0 pr cn=>?_)
   rw[<-hY] at ou pr
   obtain⟨p,rfl,bG,b0,dF,gA,hg,jM⟩:=key g w ps aa ou j0 pr
   obtain⟨Kj,Kk,Kl⟩:=RM m bq hm bG ou dF gA hg jM Kh Fu b0
   refine⟨h.n,p,0,ps.length,.aL 1,g,Γ,rfl,rfl,cn,by omega,λhA=>?_,λcd=>⟨λic=>?_,λcR=>⟨λhN=>?_,λdD=>by omega⟩⟩⟩
   · obtain⟨v1,s1,v,e,aD,f1,f2,f3,f4⟩:=Kj hA
     rcases f4 with⟨_,rfl,rfl⟩|⟨ag,_⟩
     · exact⟨v1,s1,aD,f1,λh=>absurd h (by decide),λ_=>fin aD f2 f3⟩
     · exact absurd dd ag
   · obtain⟨v1,s1,s2,x,b1,v,e,aD,f1,f2,f3,f4⟩:=Kk ic
     rcases f4 with⟨_,rfl,rfl⟩|⟨ag,_⟩
     · exact⟨v1,s1,hg,x,b1,aD,f1,s2,λh=>absurd h (by decide),λ_=>fin aD f2 f3⟩
     · exact absurd dd ag
   · obtain⟨v,e,aD,f1,f2,f3,f4⟩:=Kl hN
     rcases f4 with⟨_,rfl,rfl⟩|⟨ag,_⟩
     · exact⟨aD,f1,λh=>absurd h (by decide),λ_=>fin aD f2 f3⟩
     · exact absurd dd ag
 · refine adQ (Y (m+3)) c (d+1) bq h ⟨(dI 3 s).1,ak,aM,by omega,?_⟩
   refine RG (m+3) d iw dw ai a3 (by omega) kx (λg w ps Γ aa ou j0 pr cn=>?_)
   rw[<-hY] at ou pr
   obtain⟨p,rfl,bG,b0,dF,gA,hg,jM⟩:=key g w ps aa ou j0 pr
   obtain⟨Kj,Kk,Kl⟩:=RM m bq hm bG ou dF gA hg jM Kh Fu b0
   refine⟨h.n,p,0,ps.length,.aL 1,g,Γ,rfl,rfl,cn,by omega,λhA=>?_,λcd=>⟨λic=>?_,λcR=>⟨λhN=>?_,λdD=>by omega⟩⟩⟩
   · obtain⟨v1,s1,v,e,aD,f1,f2,f3,f4⟩:=Kj hA
     rcases f4 with⟨ag,_⟩|⟨_,rfl,r,rfl,f5,f6⟩
     · exact absurd ag dd
     · exact⟨v1,s1,r,aD,f1,λ_=>⟨rfl,r,aD,rfl,by rw[f6];exact f3,f2,f5⟩,λh=>absurd rfl h⟩
   · obtain⟨v1,s1,s2,x,b1,v,e,aD,f1,f2,f3,f4⟩:=Kk ic
     rcases f4 with⟨ag,_⟩|⟨_,rfl,r,rfl,f5,f6⟩
     · exact absurd ag dd
     · exact⟨v1,s1,hg,x,b1,r,aD,f1,s2,λ_=>⟨rfl,r,aD,rfl,by rw[f6];exact f3,f2,f5⟩,λh=>absurd rfl h⟩
   · obtain⟨v,e,aD,f1,f2,f3,f4⟩:=Kl hN
     rcases f4 with⟨ag,_⟩|⟨_,rfl,r,rfl,f5,f6⟩
     · exact absurd ag dd
     · exact⟨r,aD,f1,λ_=>⟨rfl,r,aD,rfl,by rw[f6];exact f3,f2,f5⟩,λh=>absurd rfl h⟩
theorem RN(M:Nat){B c D:Nat}{h:ab}{t:aJ}{s:gg}(ar:bp an Tryz.f27 (Y M) [] ⟨[(0,.ptr c 0),(1,J D)],[],.none,h⟩ (q4 B c h t s)):∃r g,Y (M+1) (.fn 27) [.ptr c 0,J D] h=.ret (.ptr r 0) g/\gV B c g s/\fb c h g/\g9 h.n g t (.ptr r 0):=by
 refine wz (R:=λx=>∃r g,x=.ret (.ptr r 0) g/\gV B c g s/\fb c h g/\g9 h.n g t (.ptr r 0)) (intr:=ea) (n:=M) (args:=[.ptr c 0,J D]) Tryz.func27 (by kernel_rfl) (by kernel_rfl) (by kernel_rfl) ar ?_
 rintro e st ⟨rfl,r,g,rfl,I,ae,ax⟩
 exact .inl ⟨.inl rfl,rfl,.ptr r 0,by kernel_rfl,r,g,rfl,I,ae,ax⟩
theorem RO(m:Nat)(hm:200000<=m):∀(d:Nat),d<=1000->∀{B c:Nat} (h:ab) (s:gg),gV B c h s->s.nodes+l5 d<=1000000->∃r g,Y (m+4+d) (.fn 27) [.ptr c 0,J d] h=.ret (.ptr r 0) g/\gV B c g (fa d s).2/\fb c h g/\g9 h.n g (fa d s).1 (.ptr r 0)
 |0,_,B,c,h,s,al,kx=>by
  obtain⟨ak,bt,s1,a3,bF,_⟩:=al.count
  obtain⟨av,bf,b7,cJ⟩:=xh (m+2) 9 a3 (by omega)
  obtain⟨aD,ee,pY,dh⟩:=xh (m+2) 5 b7 (by omega)
  have dD:=p9 (n:=9) (by omega) ⟨s.left,s.nodes+1⟩
  have bC:=p9 (n:=5) (by omega) (dI 9 ⟨s.left,s.nodes+1⟩).2
  refine RN (m+3) (ke [] (Ri _ c 0 h (ke [1] (Re _ c 0 h ⟨s.nodes,bt,by omega,ak,s1,ke [1,1] (Rf _ c 0 ak ⟨_,av,bf,by omega,ke [1,1,1] (Rg _ c 0 _ av ⟨λ_=>⟨_,aD,ee,by omega,?_⟩,λh=>absurd (by omega:0<1) h⟩)⟩)⟩))))
  refine bp.mono (RH (m+2) 0 pY (by omega) (by omega)) λe st o=>?_
  have o':=q4.back ((bF.trans cJ).trans dh) o
  rw[fa]
  exact o'
 |d+1,ai,B,c,h,s,al,kx=>by
  rw[l5] at kx
  obtain⟨ak,bt,s1,a3,bF,_⟩:=al.count
  obtain⟨av,bf,b7,cJ⟩:=xh (m+1+d+2) 9 a3 (by omega)
  have dD:=p9 (n:=9) (by omega) ⟨s.left,s.nodes+1⟩
  have aE:=vj 9 ⟨s.left,s.nodes+1⟩
  have p8:=bF.trans cJ
  have iw:∀(h:ab) (s:gg),gV B c h s->s.nodes+l5 d<=1000000->∃r g,Y (m+1+d+3) (.fn 27) [.ptr c 0,J d] h=.ret (.ptr r 0) g/\gV B c g (fa d s).2/\fb c h g/\g9 h.n g (fa d s).1 (.ptr r 0):=λh s a b=>by
   have:=RO m hm d (by omega) h s a b
   rwa [show m+4+d=m+1+d+3 by omega] at this
  have tail:∀{g bq s'},gV B c g s'->1<=bq->bq<=9->s'.nodes=s.nodes+1->fb c h g->bp an Tryz.f27 (Y (m+1+d+3)) [1,1,1,1] ⟨[(0,.ptr c 0),(1,J (d+1)),(5,J bq)],[],.none,g⟩ (q4 B c h (gT bq (if 7<=bq then iW (fa d) ((dI 3 s').1+1) (dI 3 s').2 else([],(dI 3 s').2)).1 (if 7<=bq then iW (fa d) ((dI 3 s').1+1) (dI 3 s').2 else([],(dI 3 s').2)).2).1 (gT bq (if 7<=bq then iW (fa d) ((dI 3 s').1+1) (dI 3 s').2 else([],(dI 3 s').2)).1 (if 7<=bq then iW (fa d) ((dI 3 s').1+1) (dI 3 s').2 else([],(dI 3 s').2)).2).2):=λ{g bq s'} sA bG kk aH aa=>by
   by_cases dw:7<=bq
   · rw[if_pos dw]
     exact bp.mono (aeA (m+1+d) d (by omega) iw sA (by omega) (by omega) dw kk) λe st o=>q4.back aa o
   · rw[if_neg dw]
     exact bp.mono (RH (m+1+d+2) (d+1) sA bG (by omega)) λe st o=>q4.back aa o
  rw[show m+4+(d+1)=m+1+d+3+1 by omega]
  refine RN (m+1+d+3) (ke [] (Ri _ c (d+1) h (ke [1] (Re _ c (d+1) h ⟨s.nodes,bt,by omega,ak,s1,ke [1,1] (Rf _ c (d+1) ak ⟨_,av,bf,by omega,ke [1,1,1] (Rg _ c (d+1) _ av ⟨λh=>absurd h (by omega),λ_=>?_⟩)⟩)⟩))))
  obtain⟨v,a8,a2⟩:=b7.get
  refine⟨(dI 9 ⟨s.left,s.nodes+1⟩).2.nodes,aF a8 rfl,λaN=>?_,λaN=>?_⟩
  · obtain⟨aD,ee,pY,dh⟩:=xh (m+1+d+2) 5 b7 (by omega)
    have bC:=p9 (n:=5) (by omega) (dI 9 ⟨s.left,s.nodes+1⟩).2
    have bH:=vj 5 (dI 9 ⟨s.left,s.nodes+1⟩).2
    refine⟨_,aD,ee,by omega,?_⟩
    have hi:40<s.nodes+1:=by rw[aE] at aN;exact aN
    rw[fa]
    simp only[if_pos hi]
    exact tail pY (by omega) (by omega) (by rw[bH,aE]) (p8.trans dh)
  · have hi:¬40<s.nodes+1:=by rw[aE] at aN;exact aN
    rw[fa]
    simp only[if_neg hi]
    exact tail b7 (by omega) (by omega) aE p8
theorem RP(m:Nat)(hm:200000<=m){h:ab}{v:ad}{cs:bb}(aI:pn h.n h v cs):∃r g,Y (m+8) (.fn 12) [v] h=.ret (.ptr r 0) g/\Ext h.n h g/\g9 h.n g (B1 cs) (.ptr r 0):=by
 have aeD:∃v1,dC an h 27 v none (some (J (min cs.length 60))) none=some v1/\pn h.n h v1 (cs.take (min cs.length 60))/\v1.de=true:=by
  have hlen:(cs.take (min cs.length 60)).length=min cs.length 60:=by rw[List.length_take];omega
  rcases aI with⟨rfl,rfl⟩|⟨b,off,cp,rfl,ae,ax,aN⟩
  · exact⟨.aP,by kernel_rfl,.inl ⟨rfl,rfl⟩,rfl⟩
  · obtain⟨p_,jE,s1,s2,b1⟩:=Rj (P:=an) (h:=h) (T:=27) (E:=5) (b:=b) (off:=off) (n:=cs.length) (k:=min cs.length 60) (cp:=cp) (by kernel_rfl) (by kernel_rfl) (by omega) ax
    refine⟨_,s1,.inr ⟨b,p_,jE,by rw[hlen],ae,by rw[hlen];exact s2,λi hi=>?_⟩,rfl⟩
    rw[hlen] at hi
    obtain⟨rfl,_⟩:=b1 (by omega)
    rw[aN i (by omega)]
    simp
 obtain⟨v1,s1,s2,b1⟩:=aeD
 obtain⟨H,cy⟩:∃H,H=h.push (aQ [v1,J 0] 72):=⟨_,rfl⟩
 have dY:Ext h.n h H:=by rw[cy];exact Ext.push (Nat.le_refl _) _
 have lj:H.n=h.n+1:=by rw[cy];rfl
 have aeE:gV h.n h.n H ⟨cs.take (min cs.length 60),0⟩:=⟨⟨v1,by rw[cy];exact e7 rfl,s2.ext dY⟩,Nat.le_refl _,by omega⟩
 obtain⟨r,g,aM,a3,bF,t1⟩:=RO m hm 3 (by omega) H _ aeE (by simp[l5])
 have xi:=bF.n
 rw[cy] at aM
 refine adS (m+7) v h (R:=λx=>∃r g,x=.ret (.ptr r 0) g/\Ext h.n h g/\g9 h.n g (B1 cs) (.ptr r 0)) ⟨cs.length,aI.len h,min cs.length 60,XF _ _,v1,s1,b1,b1,r,g,aM,r,g,rfl,?_,?_⟩
 · exact⟨by omega,λd ai=>(bF.get d (by omega) (by omega)).trans (dY.get d ai)⟩
 · exact ew.bB (λb ag=>⟨⟨by have:=ag.1;omega,ag.2⟩,rfl⟩) _ _ t1
end Go.Proofs.kU
