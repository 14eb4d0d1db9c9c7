/-
  PROVED HERE: contracts of functions (Dk). No condition beside each statement's own.
-/
import Derived.Test.YtfooahfebojldaaGreatDoorDj
set_option linter.unusedVariables false
set_option linter.unusedSimpArgs false
namespace Go.Proofs.cn
open Go aw Go.Proofs cu Go.Proofs.b0
open Go.Proofs.cT (cS nm mu)
open Go.Proofs.dV (b_ ea dC eM fS)
set_option maxRecDepth 100000
set_option maxHeartbeats 1000000
end Go.Proofs.cn
namespace Go.Proofs.cn
open Go aw Go.Proofs cu Go.Proofs.b0
open Go.Proofs.cT (cS nm mu)
open Go.Proofs.dV (b_ ea dC eM fS)
set_option maxRecDepth 100000
set_option maxHeartbeats 1000000
abbrev U6(d:aJ×Nat):List I:=[.str d.1,.ptr d.2 0]
theorem uM:se Tryz.prog U6 2 53 22 where
 hu:=by kernel_rfl
 fM:=by kernel_rfl
 info:=by
  obtain⟨i,ae⟩:=Option.isSome_iff_exists.1 (show(Tryz.prog.info? 53).isSome=true by kernel_rfl)
  refine⟨i,ae,?_,?_⟩
  · have:(Tryz.prog.info? 53).map (·.size)=some 2:=by kernel_rfl
    rw[ae] at this;simpa using this
  · have:(Tryz.prog.info? 53).map (λi=>Nat.ble i.bytes 1000)=some true:=by kernel_rfl
    rw[ae] at this
    exact Nat.le_of_ble_eq_true (by simpa using this)
 zero:=⟨.agg [.str [],.bd],by kernel_rfl,rfl⟩
 size:=by kernel_rfl
 len:=λ_=>rfl
 cell:=λ_=>rfl
 pos:=by decide
def D1(f:Q->Option (aZ×Q))(x:ea×List ez):Option (ea×List ez):=(f ((eM x.1).2,0)).map λr=>(r.2.1,x.2++[((eM x.1).1,some r.1)])
def z3(a9:Nat)(st:ea):Option (ea×List ez):=k4 (λs=>s.1.isSome) (D1 (pD a9 61)) (dC st).1 ((dC st).2,[])
def gl(F:Nat->Prop)(h:J)(v:I)(l:List ez):Prop:=(v=.a0/\l=[])\/∃b off aE,v=.slice b off l.length aE/\F b/\(∀i (ae:i<l.length),∃w,aw.loadCells h b (off+i*2) 2=some [.str l[i].1,w]/\hH F h l[i].2 w)/\0<l.length/\aE≠ .dead
theorem gl.bZ{F G:Nat->Prop}{h g:J}{v:I}{l:List ez}(e:∀b,F b->G b/\g.get b=h.get b)(ai:gl F h v l):gl G g v l:=by
 rcases ai with ai|⟨b,off,aE,aa,ad,aM,bS⟩
 · exact .inl ai
 · refine .inr ⟨b,off,aE,aa,(e b ad).1,λi ae=>?_,bS⟩
   obtain⟨w,dp,cC⟩:=aM i ae
   refine⟨w,?_,hH.bZ e _ _ cC⟩
   rw[<-dp]
   unfold aw.loadCells
   rw[(e b ad).2]
theorem gl.at{F:Nat->Prop}{B:Nat}{h:J}{v:I}{l:List ez}(e:∀b,F b->b<B)(ai:gl F h v l):iH B h v l:=by
 rcases ai with ai|⟨b,off,aE,aa,ad,aM,bS⟩
 · exact .inl ai
 · refine .inr ⟨b,off,aE,aa,e b ad,λi ae=>?_,bS⟩
   obtain⟨w,dp,cC⟩:=aM i ae
   exact⟨w,dp,hH.at e _ _ cC⟩
theorem gl.cell{F:Nat->Prop}{h:J}{v:I}{l:List ez}(ai:gl F h v l):v.bC=true:=by rcases ai with⟨rfl,_⟩|⟨b,off,aE,rfl,_⟩<;>rfl
end Go.Proofs.cn
