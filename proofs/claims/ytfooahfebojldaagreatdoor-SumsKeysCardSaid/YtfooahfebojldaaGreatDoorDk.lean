/-
  PROVED HERE: contracts of functions (Dk). No condition beside each statement's own.
-/
import Derived.Test.YtfooahfebojldaaGreatDoorDj
set_option linter.unusedVariables false
set_option linter.unusedSimpArgs false
namespace Go.Proofs.dQ
open Go aB Go.Proofs df Go.Proofs.cD
open Go.Proofs.dg (cV rn pP)
open Go.Proofs.gI (ct j5 oP rk pO)
set_option maxRecDepth 100000
set_option maxHeartbeats 1000000
end Go.Proofs.dQ
namespace Go.Proofs.dQ
open Go aB Go.Proofs df Go.Proofs.cD
open Go.Proofs.dg (cV rn pP)
open Go.Proofs.gI (ct j5 oP rk pO)
set_option maxRecDepth 100000
set_option maxHeartbeats 1000000
abbrev Wh(d:aO×Nat):List I:=[.str d.1,.ptr d.2 0]
theorem u3:su Tryz.prog Wh 2 53 22 where
 hu:=by kernel_rfl
 gk:=by kernel_rfl
 info:=by
  obtain⟨i,ae⟩:=Option.isSome_iff_exists.1 (show(Tryz.prog.info? 53).isSome=true by kernel_rfl)
  refine⟨i,ae,?_,?_⟩
  · have:(Tryz.prog.info? 53).map (·.size)=some 2:=by kernel_rfl
    rw[ae] at this;simpa using this
  · have:(Tryz.prog.info? 53).map (λi=>Nat.ble i.bytes 1000)=some true:=by kernel_rfl
    rw[ae] at this
    exact Nat.le_of_ble_eq_true (by simpa using this)
 zero:=⟨.agg [.str [],.bm],by kernel_rfl,rfl⟩
 size:=by kernel_rfl
 len:=λ_=>rfl
 cell:=λ_=>rfl
 pos:=by decide
def gT(F:Nat->Prop)(h:J)(v:I)(l:List gJ):Prop:=(v=.bf/\l=[])\/∃b off aH,v=.slice b off l.length aH/\F b/\(∀i (ae:i<l.length),∃w,aB.loadCells h b (off+i*2) 2=some [.str l[i].1,w]/\h_ F h l[i].2 w)/\0<l.length/\aH≠ .dead
theorem gT.b6{F G:Nat->Prop}{h g:J}{v:I}{l:List gJ}(e:∀b,F b->G b/\g.get b=h.get b)(ai:gT F h v l):gT G g v l:=by
 rcases ai with ai|⟨b,off,aH,aa,ad,aQ,bS⟩
 · exact .inl ai
 · refine .inr ⟨b,off,aH,aa,(e b ad).1,λi ae=>?_,bS⟩
   obtain⟨w,dw,cT⟩:=aQ i ae
   refine⟨w,?_,h_.b6 e _ _ cT⟩
   rw[<-dw]
   unfold aB.loadCells
   rw[(e b ad).2]
theorem gT.at{F:Nat->Prop}{B:Nat}{h:J}{v:I}{l:List gJ}(e:∀b,F b->b<B)(ai:gT F h v l):jj B h v l:=by
 rcases ai with ai|⟨b,off,aH,aa,ad,aQ,bS⟩
 · exact .inl ai
 · refine .inr ⟨b,off,aH,aa,e b ad,λi ae=>?_,bS⟩
   obtain⟨w,dw,cT⟩:=aQ i ae
   exact⟨w,dw,h_.at e _ _ cT⟩
theorem gT.cell{F:Nat->Prop}{h:J}{v:I}{l:List gJ}(ai:gT F h v l):v.b0=true:=by rcases ai with⟨rfl,_⟩|⟨b,off,aH,rfl,_⟩<;>rfl
end Go.Proofs.dQ
