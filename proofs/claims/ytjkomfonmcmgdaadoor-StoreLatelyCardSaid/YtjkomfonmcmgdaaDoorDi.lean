/-
  PROVED HERE: contracts of functions (Di). No condition beside each statement's own.
-/
import Derived.Test.YtjkomfonmcmgdaaDoorDh
import Derived.Test.YtjkomfonmcmgdaaDoorDg
import Derived.Test.YtjkomfonmcmgdaaDoorTx
import Derived.Test.YtjkomfonmcmgdaaDoorSxb
set_option linter.unusedVariables false
set_option linter.unusedSimpArgs false
set_option maxRecDepth 100000
set_option maxHeartbeats 1000000
namespace Go.Proofs.hJ
open Go a8 Go.Proofs gp Go.Proofs.hK
def z0(n:Nat):c7->Prop
 |.exact k=>n<=k
 |.aS e=>e=1
 |.dead=>n=0
def oa(F:Nat->Prop)(h:ab)(v:I)(vs:List I):Prop:=(v=.bd/\vs=[])\/∃b off cp,v=.slice b off vs.length cp/\F b/\(∀i (ag:i<vs.length),aB h b (off+i*1)=some vs[i])/\0<vs.length/\cp≠ .dead/\z0 vs.length cp
mutual
def fL(F:Nat->Prop)(h:ab):aZ->I->Prop
 |.mk k nm ns xs rt,v=>∃r bZ bf dL vs b2 aY up,v=.ptr r 0/\F r/\h.get r=some (.cells [.int .i64 (Int.ofNat k),.str nm,bZ,bf,dL] 43 b2 aY up)/\oa F h bZ (ns.map .str)/\oa F h bf vs/\eQ F h xs vs/\ob F h rt dL
def eQ(F:Nat->Prop)(h:ab):List aZ->List I->Prop
 |[],vs=>vs=[]
 |t::cu,vs=>∃v ws,vs=v::ws/\fL F h t v/\eQ F h cu ws
def ob(F:Nat->Prop)(h:ab):Option aZ->I->Prop
 |none,v=>v=.br
 |some t,v=>fL F h t v
end
theorem oa.cL{F G:Nat->Prop}{h g:ab}{v:I}{vs:List I}(e:∀b,F b->G b/\g.get b=h.get b)(hs:oa F h v vs):oa G g v vs:=by
 rcases hs with hs|⟨b,off,cp,aa,ad,aq,aC⟩
 · exact .inl hs
 · refine .inr ⟨b,off,cp,aa,(e b ad).1,λi ag=>?_,aC⟩
   rw[<-aq i ag]
   unfold aB
   rw[(e b ad).2]
mutual
theorem fL.cL{F G:Nat->Prop}{h g:ab}(e:∀b,F b->G b/\g.get b=h.get b):∀(t:aZ) (v:I),fL F h t v->fL G g t v
 |.mk k nm ns xs rt,v,J=>by
  obtain⟨r,bZ,bf,dL,vs,b2,aY,up,aa,ad,aq,aC,bC,dd,fm⟩:=J
  exact⟨r,bZ,bf,dL,vs,b2,aY,up,aa,(e r ad).1,(e r ad).2.trans aq,aC.cL e,bC.cL e,eQ.cL e xs vs dd,ob.cL e rt dL fm⟩
theorem eQ.cL{F G:Nat->Prop}{h g:ab}(e:∀b,F b->G b/\g.get b=h.get b):∀(cu:List aZ) (vs:List I),eQ F h cu vs->eQ G g cu vs
 |[],vs,J=>J
 |t::cu,vs,J=>by
  obtain⟨v,ws,aa,ad,aq⟩:=J
  exact⟨v,ws,aa,fL.cL e t v ad,eQ.cL e cu ws aq⟩
theorem ob.cL{F G:Nat->Prop}{h g:ab}(e:∀b,F b->G b/\g.get b=h.get b):∀(t:Option aZ) (v:I),ob F h t v->ob G g t v
 |none,v,J=>J
 |some t,v,J=>fL.cL e t v J
end
mutual
theorem fL.at{F:Nat->Prop}{B:Nat}{h:ab}(e:∀b,F b->b<B):∀(t:aZ) (v:I),fL F h t v->fE B h t v
 |.mk k nm ns xs rt,v,J=>by
  obtain⟨r,bZ,bf,dL,vs,b2,aY,up,aa,ad,aq,aC,bC,dd,fm⟩:=J
  have im:∀{v:I} {vs:List I},oa F h v vs->ep B h v vs:=by
   intro v vs hs
   rcases hs with hs|⟨b,off,cp,aa,ad,aq,aC⟩
   · exact .inl hs
   · exact .inr ⟨b,off,cp,aa,e b ad,aq,aC.1,aC.2.1⟩
  exact⟨r,bZ,bf,dL,vs,b2,aY,up,aa,e r ad,aq,im aC,im bC,eQ.at e xs vs dd,ob.at e rt dL fm⟩
theorem eQ.at{F:Nat->Prop}{B:Nat}{h:ab}(e:∀b,F b->b<B):∀(cu:List aZ) (vs:List I),eQ F h cu vs->fv B h cu vs
 |[],vs,J=>J
 |t::cu,vs,J=>by
  obtain⟨v,ws,aa,ad,aq⟩:=J
  exact⟨v,ws,aa,fL.at e t v ad,eQ.at e cu ws aq⟩
theorem ob.at{F:Nat->Prop}{B:Nat}{h:ab}(e:∀b,F b->b<B):∀(t:Option aZ) (v:I),ob F h t v->ht B h t v
 |none,v,J=>J
 |some t,v,J=>fL.at e t v J
end
abbrev T3(r:Nat):List I:=[.ptr r 0]
theorem T4:kd Tryd.prog T3 1 33 41 where
 hu:=by kernel_rfl
 fb:=by kernel_rfl
 info:=by
  obtain⟨i,ag⟩:=Option.isSome_iff_exists.1 (show(Tryd.prog.info? 33).isSome=true by kernel_rfl)
  refine⟨i,ag,?_,?_⟩
  · have:(Tryd.prog.info? 33).map (·.size)=some 1:=by kernel_rfl
    rw[ag] at this;simpa using this
  · have:(Tryd.prog.info? 33).map (λi=>Nat.ble i.bytes 1000)=some true:=by kernel_rfl
    rw[ag] at this
    exact Nat.le_of_ble_eq_true (by simpa using this)
 zero:=⟨.br,by kernel_rfl,rfl⟩
 size:=by kernel_rfl
 len:=λ_=>rfl
 cell:=λ_=>rfl
 pos:=by decide
theorem kZ{D:Type}(enc:D->I):∀ds:List D,dS (λd=>[enc d]) ds=ds.map enc
 |[]=>rfl
 |d::l=>by
  show[enc d]++dS _ l=enc d::l.map enc
  rw[kZ enc l];rfl
theorem J0{D:Type}{enc:D->I}{el B:Nat}{F:Nat->Prop}{h:ab}{v:I}{ds:List D}(aQ:cH (λd=>[enc d]) 1 el B h v ds)(e6:∀b n cp,v=.slice b 0 n cp->F b):oa F h v (ds.map enc):=by
 rcases aQ with⟨rfl,rfl⟩|⟨b,rfl,ad,aq,aC,bC⟩
 · exact .inl ⟨rfl,rfl⟩
 · refine .inr ⟨b,0,.aS 1,by rw[List.length_map],e6 b _ _ rfl,λi ag=>?_,by rw[List.length_map];exact ad,by simp,rfl⟩
   have e:=kZ enc ds
   rw[e] at aq
   exact mb aq (by rw[List.getElem?_eq_getElem (by simpa using ag)];simp)
theorem z1{D:Type}{P:Program}{enc:D->List I}{w:Nat}{el sT:TypeId}(T:kd P enc w el sT){B:Nat}{h:ab}{v src:I}{ds:List D}{d:D}(aQ:cH enc w el B h v ds)(c3:B<=h.n)(hs:fF h w src=some (1,enc d))(ar:ds.length+1<=1000000):
  ∃ao,eh P h sT (some sT) v src=some (.slice h.n 0 (ds++[d]).length (.aS w),ao)/\ao.get h.n=some (.cells (dS enc (ds++[d])) el .aS 0 0)/\ao.n=h.n+1/\Ext B h ao/\∀c,c<h.n->(∀n cp,v≠ .slice c 0 n cp)->ao.get c=h.get c:=by
 have c_:fF h w src=some ([d].length,dS enc [d]):=by rw[hs];simp[dS]
 rcases aQ with⟨rfl,rfl⟩|⟨p,rfl,ad,aq,aC,bC⟩
 · rw[List.nil_append]
   exact⟨_,HT T c_ (by simp) (by simp),fI rfl,by simp,Ext.lq c3 (Ext.refl _ _),λc af _=>lp af rfl⟩
 · refine⟨_,by rw[List.length_append];exact HU T aq c_ (by simp) (by simpa using ar),fI (by simp),by simp,?_,λc af hw=>?_⟩
   · exact Ext.lq (by simp;omega) (Ext.hG aC (Ext.refl _ _))
   · exact lp (by simpa using af) (c5 (λe=>hw _ _ (by rw[e])) rfl)
theorem cH.D6{D:Type}{enc:D->List I}{w el B:Nat}{h g:ab}{v:I}{ds:List D}(aQ:cH enc w el B h v ds)(aH:h.n<=g.n)(an:∀d,B<=d->d<h.n->g.get d=h.get d):cH enc w el B g v ds:=by
 rcases aQ with aQ|⟨q,rfl,ad,aq,aC,bC⟩
 · exact .inl aQ
 · exact .inr ⟨q,rfl,ad,(an q aC bC).trans aq,aC,by omega⟩
theorem T5{P:Program}{h:ab}{T E b off n:Nat}{cp:c7}(hu:P.underlying T=some (.slice E))(hs:cY P E=some 1)(h0:0<n)(af:z0 n cp):∃D7 sq,ec P h T (.slice b off n cp) (some (.int .i64 (Int.ofNat 1))) none none=some (.slice b D7 (n-1) sq)/\z0 (n-1) sq/\(0<n-1->D7=off+1*1/\sq≠ .dead):=by
 have cJ:Nat.ble 1 n=true:=by rw[Nat.ble_eq];omega
 cases cp with
 |exact k=>
  have an:n<=k:=af
  have bn:Nat.ble k k=true:=by rw[Nat.ble_eq];omega
  have dr:Nat.ble n k=true:=by rw[Nat.ble_eq];omega
  refine⟨if k=1 then off else off+1*1,.exact (k-1),by simp only[ec,hu,hs,bounds,g3,eb,bn,cJ,dr],by show n-1<=k-1;omega,λaa=>⟨?_,by simp⟩⟩
  rw[if_neg (by omega)]
 |aS e=>
  obtain rfl:e=1:=af
  have bn:Nat.ble n n=true:=by rw[Nat.ble_eq];omega
  by_cases aa:1<n
  · have dr:Nat.blt 1 n=true:=by rw[Nat.blt_eq];omega
    refine⟨off+1*1,.aS 1,?_,rfl,λ_=>⟨rfl,by simp⟩⟩
    simp only[ec,hu,hs,bounds,g3,eb,bn,cJ,dr,if_true]
    rw[if_neg (by decide)]
  · have dr:¬Nat.blt 1 n=true:=by rw[Nat.blt_eq];omega
    obtain rfl:n=1:=by omega
    exact⟨off,.dead,by simp only[ec,hu,hs,bounds,g3,eb];rfl,rfl,λh=>absurd h (by omega)⟩
 |dead=>have:n=0:=af;omega
def z2(B:Nat)(h:ab)(v:I)(s:a5):Prop:=(v=.bd/\s=[])\/∃b off cp,v=.slice b off s.length cp/\b<B/\z0 s.length cp/\∀i (ag:i<s.length),aB h b (off+i*1)=some (.int .u8 (Int.ofNat s[i].toNat))
theorem D8(n:Nat)(aH:n<256)(h:ab):e8 Tryd.prog 5 3 (.int .u8 (Int.ofNat n)) h=.val (.int .i64 (Int.ofNat n)) h:=CJ (ka:=.u8) (by kernel_rfl) (by kernel_rfl) (oz n (by omega))
theorem T6{h g:ab}{b off:Nat}(e:g.get b=h.get b):aB g b off=aB h b off:=by unfold aB;rw[e]
abbrev xa(a b:Nat)(d:Nat):Prop:=a<=d/\d<b
theorem eQ.len{F:Nat->Prop}{h:ab}:∀{cu:List aZ} {vs:List I},eQ F h cu vs->vs.length=cu.length
 |[],vs,J=>by have e:vs=[]:=J;rw[e];rfl
 |t::cu,vs,J=>by
  obtain⟨v,ws,rfl,_,ad⟩:=J
  rw[List.length_cons,List.length_cons,eQ.len ad]
theorem eQ.get{F:Nat->Prop}{h:ab}:∀{cu:List aZ} {vs:List I},eQ F h cu vs->∀i (aa:i<vs.length) (ad:i<cu.length),fL F h cu[i] vs[i]
 |[],_,_,_,_,ad=>by cases ad
 |t::cu,_,J,0,_,_=>by obtain⟨v,ws,rfl,aq,_⟩:=J;exact aq
 |t::cu,_,J,i+1,aa,ad=>by
  obtain⟨v,ws,rfl,_,aq⟩:=J
  exact eQ.get aq i (by simpa using aa) (by simpa using ad)
theorem fL.ptr{F:Nat->Prop}{h:ab}:∀{t:aZ} {v:I},fL F h t v->∃r,v=.ptr r 0
 |.mk _ _ _ _ _,_,J=>by obtain⟨r,_,_,_,_,_,_,_,aa,_⟩:=J;exact⟨r,aa⟩
theorem eQ.app{F:Nat->Prop}{h:ab}{us:List aZ}{ws:List I}(hu:eQ F h us ws):∀{cu:List aZ} {vs:List I},eQ F h cu vs->eQ F h (cu++us) (vs++ws)
 |[],vs,J=>by have e:vs=[]:=J;rw[e];exact hu
 |t::cu,_,J=>by
  obtain⟨v,ys,rfl,aa,ad⟩:=J
  exact⟨v,ys++ws,rfl,aa,eQ.app hu ad⟩
theorem D9{k N M:Nat}{s:a5}{o:Bool}(h:o4 k s N M o=true)(fm:k≠7):N=0:=by
 unfold o4 at h
 simp only[Bool.and_eq_true] at h
 have:=h.1.1.2
 simp only[Bool.not_eq_true',Bool.and_eq_false_iff,decide_eq_false_iff_not] at this
 rcases this with h|h
 · omega
 · exact absurd fm (by simpa using h)
mutual
theorem J1:∀t:aZ,fD t=true->jT t<=sz t
 |.mk k nm ns xs rt,h=>by
  rw[qw] at h
  simp only[Bool.and_eq_true] at h
  obtain⟨_,aL,J,an⟩:=h
  have aa:=J2 xs J
  have ad:m3 rt<=ev rt:=by
   cases rt with
   |none=>rw[m3];exact Nat.zero_le _
   |some u=>
    have q0:k=8:=by
     unfold o4 at aL
     simp only[Bool.and_eq_true] at aL
     have:=aL.2
     simpa using this
    subst q0
    have hu:fD u=true:=by simpa[gH,km] using an
    rw[m3,ev]
    exact J1 u hu
  have aq:ns.length<=xs.length:=by
   by_cases fm:k=7
   · subst fm
     have:ns.length=xs.length/\kW none ns=true:=by simpa[gH] using an
     omega
   · have:=D9 aL fm;omega
  have aC:=qu xs
  have bC:=D_ xs J
  rw[jT,sz]
  omega
theorem J2:∀l:List aZ,ja l=true->m2 l<=eo l
 |[],_=>by rw[m2];exact Nat.zero_le _
 |t::l,h=>by
  rw[ja,Bool.and_eq_true] at h
  have aa:=J1 t h.1
  have ad:=J2 l h.2
  rw[m2,eo];omega
theorem D_:∀l:List aZ,ja l=true->m2 l+l.length<=eo l
 |[],_=>by rw[m2,eo];simp
 |t::l,h=>by
  rw[ja,Bool.and_eq_true] at h
  have aa:=Ea t h.1
  have ad:=D_ l h.2
  rw[m2,eo,List.length_cons];omega
theorem Ea:∀t:aZ,fD t=true->jT t+1<=sz t
 |.mk k nm ns xs rt,h=>by
  rw[qw] at h
  simp only[Bool.and_eq_true] at h
  obtain⟨_,aL,J,an⟩:=h
  have aa:=D_ xs J
  have ad:m3 rt<=ev rt:=by
   cases rt with
   |none=>rw[m3];exact Nat.zero_le _
   |some u=>
    have q0:k=8:=by
     unfold o4 at aL
     simp only[Bool.and_eq_true] at aL
     have:=aL.2
     simpa using this
    subst q0
    have hu:fD u=true:=by simpa[gH,km] using an
    have:=Ea u hu
    rw[m3,ev];omega
  have aq:ns.length<=xs.length:=by
   by_cases fm:k=7
   · subst fm
     have:ns.length=xs.length/\kW none ns=true:=by simpa[gH] using an
     omega
   · have:=D9 aL fm;omega
  rw[jT,sz]
  omega
end
theorem J3{t:aZ}(h:hY (some t)=0):sz t<=60/\jT t<=60:=by
 obtain⟨aa,ad⟩:=uw.1 h
 have:=Ea t ad
 exact⟨aa,by omega⟩
theorem cH.T7{D:Type}{P:Program}{e:D->I}{el sT:TypeId}(T:kd P (λd=>[e d]) 1 el sT){B:Nat}{h:ab}{v:I}{ds:List D}(aQ:cH (λd=>[e d]) 1 el B h v ds){k:Nat}(an:k<=ds.length):∃v',ec P h sT v none (some (.int .i64 (Int.ofNat k))) none=some v'/\∀g,(∀p,v=.slice p 0 ds.length (.aS 1)->g.get p=h.get p)->fF g 1 v'=some ((ds.take k).length,dS (λd=>[e d]) (ds.take k)):=by
 rcases aQ with⟨rfl,rfl⟩|⟨p,rfl,ad,aq,aC,bC⟩
 · obtain rfl:k=0:=by simpa using an
   refine⟨.bd,?_,λg _=>by rw[List.take_zero];rfl⟩
   simp only[ec,T.hu,T.size,bounds,g3,eb]
 · refine⟨_,zG T.hu T.size an,λg aj=>?_⟩
   have hlen:(ds.take k).length=k:=by rw[List.length_take];omega
   by_cases h0:k=0
   · subst h0
     have e:a8.loadCells g p 0 (0*1)=some []:=oW ((aj p rfl).trans aq) rfl
     simp only[fF,e,List.take_zero];rfl
   · have:=ep.src (B:=B) (h:=g) (b:=p) (off:=0) (cp:=.aS 1) (vs:=(ds.take k).map e) (λi ag=>by
       rw[List.length_map] at ag
       refine mb ((aj p rfl).trans aq) ?_
       rw[kZ,List.getElem?_map,Nat.zero_add,Nat.mul_one,List.getElem?_eq_getElem (by omega)]
       simp) (by rw[List.length_map];omega) (by simp)
     rw[List.length_map,hlen] at this
     rw[this,hlen,kZ]
theorem cH.T8{D:Type}{P:Program}{e:D->I}{el sT:TypeId}(T:kd P (λd=>[e d]) 1 el sT){B:Nat}{h:ab}{v:I}{ds:List D}(aQ:cH (λd=>[e d]) 1 el B h v ds){k:Nat}(an:k<=ds.length)(g:ab)(aj:∀p,v=.slice p 0 ds.length (.aS 1)->g.get p=h.get p):∃v',ec P g sT v (some (.int .i64 (Int.ofNat k))) none none=some v'/\fF g 1 v'=some ((ds.drop k).length,dS (λd=>[e d]) (ds.drop k)):=by
 rcases aQ with⟨rfl,rfl⟩|⟨p,rfl,ad,aq,aC,bC⟩
 · obtain rfl:k=0:=by simpa using an
   refine⟨.bd,?_,rfl⟩
   simp only[ec,T.hu,T.size,bounds,g3,eb]
 · have hlen:(ds.drop k).length=ds.length-k:=by rw[List.length_drop]
   have rd:∀(o:Nat) (c:c7),c≠ .dead->o=0+k*1->0<ds.length-k->fF g 1 (.slice p o (ds.length-k) c)=some (ds.length-k,(ds.drop k).map e):=λo c af aQ h0=>by
    have:=ep.src (B:=B) (h:=g) (b:=p) (off:=o) (cp:=c) (vs:=(ds.drop k).map e) (λi ag=>by
     rw[List.length_map,hlen] at ag
     refine mb ((aj p rfl).trans aq) ?_
     rw[kZ,List.getElem?_map,List.getElem?_eq_getElem (by omega)]
     simp[aQ]) (by rw[List.length_map];omega) af
    rw[List.length_map,hlen] at this
    exact this
   by_cases h0:k=0
   · subst h0
     have bn:Nat.ble ds.length ds.length=true:=by rw[Nat.ble_eq];omega
     have cJ:Nat.ble 0 ds.length=true:=by rw[Nat.ble_eq];omega
     refine⟨.slice p 0 ds.length (.aS 1),by simp only[ec,T.hu,T.size,bounds,g3,eb,bn,cJ,if_true],?_⟩
     have:=rd 0 (.aS 1) (by simp) rfl (by omega)
     rw[kZ,hlen]
     exact this
   · by_cases dd:k<ds.length
     · refine⟨_,wT T.hu T.size (by omega) dd,?_⟩
       rw[rd _ _ (by simp) rfl (by omega),kZ,hlen]
     · obtain rfl:k=ds.length:=by omega
       have bn:Nat.ble ds.length ds.length=true:=by rw[Nat.ble_eq];omega
       have dr:¬Nat.blt ds.length ds.length=true:=by rw[Nat.blt_eq];omega
       refine⟨.slice p 0 0 .dead,by simp only[ec,T.hu,T.size,bounds,g3,eb,bn,if_true,if_neg h0,if_neg dr],?_⟩
       rw[List.drop_length];rfl
theorem cH.len{D:Type}{P:Program}{enc:D->List I}{w el sT B:Nat}(hu:P.underlying sT=some (.slice el)){h:ab}{v:I}{ds:List D}(aQ:cH enc w el B h v ds)(g:ab):cr P g sT v=some (.int .i64 (Int.ofNat ds.length)):=by
 rcases aQ with⟨rfl,rfl⟩|⟨p,rfl,_⟩<;>simp only[cr,hu]<;>rfl
theorem grow{D:Type}{P:Program}{e:D->I}{el sT:TypeId}(T:kd P (λd=>[e d]) 1 el sT){B:Nat}{h:ab}{v:I}{ds:List D}(aQ:cH (λd=>[e d]) 1 el B h v ds)(d:D)(tc:TypeId){k:Nat}(an:k<=ds.length)(ar:ds.length<=1000):
  ∃eE v4 aU,ec P h sT v none (some (.int .i64 (Int.ofNat k))) none=some eE/\eh P h sT (some sT) .bd eE=some (v4,aU)/\Ext h.n h aU/\
  ∃jc bB,eh P (aU.push (.cells [e d] tc .own 0 0)) sT (some sT) v4 (.slice aU.n 0 1 (.exact 1))=some (jc,bB)/\Ext h.n h bB/\
  ∃n7 o_ bO,ec P bB sT v (some (.int .i64 (Int.ofNat k))) none none=some n7/\eh P bB sT (some sT) jc n7=some (o_,bO)/\Ext h.n h bO/\cH (λd=>[e d]) 1 el h.n bO o_ (ds.take k++d::ds.drop k):=by
 obtain⟨eE,bq,cq⟩:=cH.T7 T aQ an
 have eW:(ds.take k).length<=ds.length:=by rw[List.length_take];omega
 obtain⟨v4,aU,dD,J4,eO,_⟩:=CL T (B:=h.n) (h:=h) (v:=.bd) (ds:=[]) (es:=ds.take k) (.inl ⟨rfl,rfl⟩) (Nat.le_refl _) (cq h λ_ _=>rfl) (by simp;omega)
 rw[List.nil_append] at J4
 have T9:cH (λd=>[e d]) 1 el h.n (aU.push (.cells [e d] tc .own 0 0)) v4 (ds.take k):=J4.mono (Ext.push (Nat.le_refl _) _) (Nat.le_refl _)
 have J5:Ext h.n h (aU.push (.cells [e d] tc .own 0 0)):=Ext.lq eO.n eO
 obtain⟨jc,bB,iR,T_,nZ,_⟩:=CL T (B:=h.n) (es:=[d]) T9 J5.n (wh T aU tc d) (by rw[List.length_singleton];omega)
 have z3:=J5.trans (Nat.le_refl _) nZ
 obtain⟨n7,iA,dn⟩:=cH.T8 T aQ an bB (λp aL=>by
  rcases aQ with⟨rfl,_⟩|⟨q,rfl,_,_,_,bC⟩
  · cases aL
  · cases aL;exact z3.get _ bC)
 have Yv:(ds.drop k).length<=ds.length:=by rw[List.length_drop];omega
 obtain⟨o_,bO,j5,Ua,Ub,_⟩:=CL T (B:=h.n) (es:=ds.drop k) T_ z3.n dn (by rw[List.length_append,List.length_singleton];omega)
 refine⟨eE,v4,aU,bq,dD,eO,jc,bB,iR,z3,n7,o_,bO,iA,j5,z3.trans (Nat.le_refl _) Ub,?_⟩
 have jD:ds.take k++d::ds.drop k=ds.take k++[d]++ds.drop k:=by simp
 rw[jD];exact Ua
abbrev xb(p:Nat):I:=.ptr p 0
abbrev z4(B:Nat)(h:ab)(v:I)(ps:List Nat):Prop:=cH (λd=>[xb d]) 1 33 B h v ps
abbrev na(B:Nat)(h:ab)(v:I)(ck:List a5):Prop:=cH (λd=>[I.str d]) 1 9 B h v ck
theorem J6:kd Tryd.prog (λd=>[xb d]) 1 33 41:=T4
theorem cH.J7{D:Type}{enc:D->List I}{w el B aY:Nat}{h:ab}{v:I}{ds:List D}(aQ:cH enc w el B h v ds)(jF:aY<=B):∀b n cp,v=.slice b 0 n cp->xa aY h.n b:=by
 intro b n cp e
 rcases aQ with⟨rfl,_⟩|⟨p,rfl,_,_,aC,bC⟩
 · cases e
 · cases e;exact⟨by omega,bC⟩
theorem eQ.nil{F:Nat->Prop}{h:ab}:eQ F h [] []:=rfl
theorem eQ.cons{F:Nat->Prop}{h:ab}{t:aZ}{v:I}{cu:List aZ}{vs:List I}(bm:fL F h t v)(hs:eQ F h cu vs):eQ F h (t::cu) (v::vs):=⟨v,vs,rfl,bm,hs⟩
end Go.Proofs.hJ
