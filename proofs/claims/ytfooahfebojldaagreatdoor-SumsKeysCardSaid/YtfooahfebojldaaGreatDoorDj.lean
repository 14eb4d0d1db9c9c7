/-
  PROVED HERE: contracts of functions (Dj). No condition beside each statement's own.
-/
import Derived.Test.YtfooahfebojldaaGreatDoorDi
import Derived.Test.YtfooahfebojldaaGreatDoorDh
import Derived.Test.YtfooahfebojldaaGreatDoorTx
import Derived.Test.YtfooahfebojldaaGreatDoorSxb
set_option linter.unusedVariables false
set_option linter.unusedSimpArgs false
namespace Go.Proofs.dQ
open Go aB Go.Proofs df Go.Proofs.cD
set_option maxRecDepth 100000
set_option maxHeartbeats 1000000
end Go.Proofs.dQ
namespace Go.Proofs.dQ
open Go aB Go.Proofs df Go.Proofs.cD
open Go.Proofs.dg (cV rn pP)
open Go.Proofs.gI (ct j5 oP rk pO)
set_option maxRecDepth 100000
set_option maxHeartbeats 1000000
abbrev Q:=j5×Nat
abbrev Acc:=Q×(List aO×List a6)
end Go.Proofs.dQ
namespace Go.Proofs.dQ
open Go aB Go.Proofs df Go.Proofs.cD
open Go.Proofs.dg (cV rn pP)
open Go.Proofs.gI (ct j5 oP rk pO)
set_option maxRecDepth 100000
set_option maxHeartbeats 1000000
def rq(F:Nat->Prop)(h:J)(v:I)(vs:List I):Prop:=(v=.bf/\vs=[])\/∃b off aH,v=.slice b off vs.length aH/\F b/\(∀i (ae:i<vs.length),au h b (off+i*1)=some vs[i])/\0<vs.length/\aH≠ .dead
mutual
def kZ(F:Nat->Prop)(h:J):a6->I->Prop
 |.mk k bK aJ xs rt,v=>∃r c5 bZ cG vs bV bk up,v=.ptr r 0/\F r/\h.get r=some (.cells [.int .i64 (Int.ofNat k),.str bK,c5,bZ,cG] 51 bV bk up)/\rq F h c5 (aJ.map .str)/\rq F h bZ vs/\m9 F h xs vs/\h_ F h rt cG
def m9(F:Nat->Prop)(h:J):List a6->List I->Prop
 |[],vs=>vs=[]
 |t::bJ,vs=>∃v ws,vs=v::ws/\kZ F h t v/\m9 F h bJ ws
def h_(F:Nat->Prop)(h:J):Option a6->I->Prop
 |none,v=>v=.bm
 |some t,v=>kZ F h t v
end
theorem rq.b6{F G:Nat->Prop}{h g:J}{v:I}{vs:List I}(e:∀b,F b->G b/\g.get b=h.get b)(hs:rq F h v vs):rq G g v vs:=by
 rcases hs with hs|⟨b,off,aH,aa,ad,aw,aQ⟩
 · exact .inl hs
 · refine .inr ⟨b,off,aH,aa,(e b ad).1,λi ae=>?_,aQ⟩
   rw[<-aw i ae]
   unfold au
   rw[(e b ad).2]
mutual
theorem kZ.b6{F G:Nat->Prop}{h g:J}(e:∀b,F b->G b/\g.get b=h.get b):∀(t:a6) (v:I),kZ F h t v->kZ G g t v
 |.mk k bK aJ xs rt,v,ab=>by
  obtain⟨r,c5,bZ,cG,vs,bV,bk,up,aa,ad,aw,aQ,bS,dm,eG⟩:=ab
  exact⟨r,c5,bZ,cG,vs,bV,bk,up,aa,(e r ad).1,(e r ad).2.trans aw,aQ.b6 e,bS.b6 e,m9.b6 e xs vs dm,h_.b6 e rt cG eG⟩
theorem m9.b6{F G:Nat->Prop}{h g:J}(e:∀b,F b->G b/\g.get b=h.get b):∀(bJ:List a6) (vs:List I),m9 F h bJ vs->m9 G g bJ vs
 |[],vs,ab=>ab
 |t::bJ,vs,ab=>by
  obtain⟨v,ws,aa,ad,aw⟩:=ab
  exact⟨v,ws,aa,kZ.b6 e t v ad,m9.b6 e bJ ws aw⟩
theorem h_.b6{F G:Nat->Prop}{h g:J}(e:∀b,F b->G b/\g.get b=h.get b):∀(t:Option a6) (v:I),h_ F h t v->h_ G g t v
 |none,v,ab=>ab
 |some t,v,ab=>kZ.b6 e t v ab
end
mutual
theorem kZ.at{F:Nat->Prop}{B:Nat}{h:J}(e:∀b,F b->b<B):∀(t:a6) (v:I),kZ F h t v->cW B h t v
 |.mk k bK aJ xs rt,v,ab=>by
  obtain⟨r,c5,bZ,cG,vs,bV,bk,up,aa,ad,aw,aQ,bS,dm,eG⟩:=ab
  have fL:∀{v:I} {vs:List I},rq F h v vs->c7 B h v vs:=by
   intro v vs hs
   rcases hs with hs|⟨b,off,aH,aa,ad,aw,aQ⟩
   · exact .inl hs
   · exact .inr ⟨b,off,aH,aa,e b ad,aw,aQ⟩
  exact⟨r,c5,bZ,cG,vs,bV,bk,up,aa,e r ad,aw,fL aQ,fL bS,m9.at e xs vs dm,h_.at e rt cG eG⟩
theorem m9.at{F:Nat->Prop}{B:Nat}{h:J}(e:∀b,F b->b<B):∀(bJ:List a6) (vs:List I),m9 F h bJ vs->dq B h bJ vs
 |[],vs,ab=>ab
 |t::bJ,vs,ab=>by
  obtain⟨v,ws,aa,ad,aw⟩:=ab
  exact⟨v,ws,aa,kZ.at e t v ad,m9.at e bJ ws aw⟩
theorem h_.at{F:Nat->Prop}{B:Nat}{h:J}(e:∀b,F b->b<B):∀(t:Option a6) (v:I),h_ F h t v->dE B h t v
 |none,v,ab=>ab
 |some t,v,ab=>kZ.at e t v ab
end
end Go.Proofs.dQ
namespace Go.Proofs.dQ
open Go aB Go.Proofs df Go.Proofs.cD
open Go.Proofs.dg (cV rn pP)
open Go.Proofs.gI (ct j5 oP rk pO)
set_option maxRecDepth 100000
set_option maxHeartbeats 1000000
theorem Kz{D:Type}{P:Program}{enc:D->List I}{w:Nat}{el sT:TypeId}(T:su P enc w el sT){B:Nat}{h:J}{v src:I}{aW:List D}{d:D}(a7:ki enc w el B h v aW)(bI:B<=h.n)(hs:hW h w src=some (1,enc d))(aq:aW.length+1<=1000000):
  ∃an,gx P h sT (some sT) v src=some (.slice h.n 0 (aW++[d]).length (.aS w),an)/\an.get h.n=some (.cells (fk enc (aW++[d])) el .aS 0 0)/\an.n=h.n+1/\Ext B h an/\∀c,c<h.n->(∀n aH,v≠ .slice c 0 n aH)->an.get c=h.get c:=by
 have dD:hW h w src=some ([d].length,fk enc [d]):=by rw[hs];simp[fk]
 rcases a7 with⟨rfl,rfl⟩|⟨p,rfl,ad,aw,aQ,bS⟩
 · rw[List.nil_append]
   exact⟨_,PQ T dD (by simp) (by simp),gf rfl,by simp,Ext.po bI (Ext.refl _ _),λc ag _=>zt ag rfl⟩
 · refine⟨_,by rw[List.length_append];exact PR T aw dD (by simp) (by simpa using aq),gf (by simp),by simp,?_,λc ag hw=>?_⟩
   · exact Ext.po (by simp;omega) (Ext.hg aQ (Ext.refl _ _))
   · exact zt (by simpa using ag) (pn (λe=>hw _ _ (by rw[e])) rfl)
end Go.Proofs.dQ
namespace Go.Proofs.dQ
open Go aB Go.Proofs df Go.Proofs.cD
open Go.Proofs.dg (cV rn pP)
open Go.Proofs.gI (ct j5 oP rk pO)
set_option maxRecDepth 100000
set_option maxHeartbeats 1000000
end Go.Proofs.dQ
namespace Go.Proofs.dQ
open Go aB Go.Proofs df Go.Proofs.cD
open Go.Proofs.dg (cV rn pP)
open Go.Proofs.gI (ct j5 oP rk pO)
set_option maxRecDepth 100000
set_option maxHeartbeats 1000000
end Go.Proofs.dQ
namespace Go.Proofs.dQ
open Go aB Go.Proofs df Go.Proofs.cD
open Go.Proofs.dg (cV rn pP)
open Go.Proofs.gI (ct j5 oP rk pO)
set_option maxRecDepth 100000
set_option maxHeartbeats 1000000
end Go.Proofs.dQ
