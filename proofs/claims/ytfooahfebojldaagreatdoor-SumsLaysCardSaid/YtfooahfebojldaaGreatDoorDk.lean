/-
  PROVED HERE: contracts of functions (Dk). No condition beside each statement's own.
-/
import Derived.Test.YtfooahfebojldaaGreatDoorDj
set_option linter.unusedVariables false
set_option linter.unusedSimpArgs false
namespace Go.Proofs.eN
open Go aD Go.Proofs dE Go.Proofs.cR
open Go.Proofs.ej (ev rJ qj)
open Go.Proofs.hy (df kn pe rG qi)
set_option maxRecDepth 100000
set_option maxHeartbeats 1000000
end Go.Proofs.eN
namespace Go.Proofs.eN
open Go aD Go.Proofs dE Go.Proofs.cR
open Go.Proofs.ej (ev rJ qj)
open Go.Proofs.hy (df kn pe rG qi)
set_option maxRecDepth 100000
set_option maxHeartbeats 1000000
abbrev YE(d:aU×Nat):List I:=[.str d.1,.ptr d.2 0]
theorem vq:uA Tryz.prog YE 2 53 22 where
 hu:=by kernel_rfl
 gQ:=by kernel_rfl
 info:=by
  obtain⟨i,ae⟩:=Option.isSome_iff_exists.1 (show(Tryz.prog.info? 53).isSome=true by kernel_rfl)
  refine⟨i,ae,?_,?_⟩
  · have:(Tryz.prog.info? 53).map (·.size)=some 2:=by kernel_rfl
    rw[ae] at this;simpa using this
  · have:(Tryz.prog.info? 53).map (λi=>Nat.ble i.bytes 1000)=some true:=by kernel_rfl
    rw[ae] at this
    exact Nat.le_of_ble_eq_true (by simpa using this)
 zero:=⟨.agg [.str [],.aR],by kernel_rfl,rfl⟩
 size:=by kernel_rfl
 len:=λ_=>rfl
 cell:=λ_=>rfl
 pos:=by decide
def gY(F:Nat->Prop)(h:J)(v:I)(l:List f_):Prop:=(v=.a_/\l=[])\/∃b off aB,v=.slice b off l.length aB/\F b/\(∀i (ae:i<l.length),∃w,aD.loadCells h b (off+i*2) 2=some [.str l[i].1,w]/\ix F h l[i].2 w)/\0<l.length/\aB≠ .dead
theorem gY.bH{F G:Nat->Prop}{h g:J}{v:I}{l:List f_}(e:∀b,F b->G b/\g.get b=h.get b)(ai:gY F h v l):gY G g v l:=by
 rcases ai with ai|⟨b,off,aB,aa,ad,aO,bZ⟩
 · exact .inl ai
 · refine .inr ⟨b,off,aB,aa,(e b ad).1,λi ae=>?_,bZ⟩
   obtain⟨w,dI,c9⟩:=aO i ae
   refine⟨w,?_,ix.bH e _ _ c9⟩
   rw[<-dI]
   unfold aD.loadCells
   rw[(e b ad).2]
theorem gY.at{F:Nat->Prop}{B:Nat}{h:J}{v:I}{l:List f_}(e:∀b,F b->b<B)(ai:gY F h v l):h_ B h v l:=by
 rcases ai with ai|⟨b,off,aB,aa,ad,aO,bZ⟩
 · exact .inl ai
 · refine .inr ⟨b,off,aB,aa,e b ad,λi ae=>?_,bZ⟩
   obtain⟨w,dI,c9⟩:=aO i ae
   exact⟨w,dI,ix.at e _ _ c9⟩
theorem gY.cell{F:Nat->Prop}{h:J}{v:I}{l:List f_}(ai:gY F h v l):v.bY=true:=by rcases ai with⟨rfl,_⟩|⟨b,off,aB,rfl,_⟩<;>rfl
end Go.Proofs.eN
