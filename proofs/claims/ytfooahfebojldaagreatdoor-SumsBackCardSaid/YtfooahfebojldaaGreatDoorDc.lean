/-
  PROVED HERE: contracts of functions (Dc). No condition beside each statement's own.
-/
import Derived.Test.YtfooahfebojldaaGreatDoorDb
import Derived.Test.YtfooahfebojldaaGreatDoorTx
set_option linter.unusedVariables false
set_option linter.unusedSimpArgs false
namespace Go.Proofs.cf
open Go ay Go.Proofs cS
set_option maxRecDepth 100000
set_option maxHeartbeats 1000000
end Go.Proofs.cf
namespace Go.Proofs.cf
open Go ay Go.Proofs cS
set_option maxRecDepth 100000
set_option maxHeartbeats 1000000
end Go.Proofs.cf
namespace Go.Proofs.cf
open Go ay Go.Proofs cS
set_option maxRecDepth 100000
set_option maxHeartbeats 1000000
theorem e4.kind{B:Nat}{h:aa}:∀{t:a3} {v:J},e4 B h t v->∃M,v=.ptr M 0/\∀x,Ext B h x->aA x M (0+0)=some (.int .i64 (Int.ofNat t.k))
 |.mk ds eu jj pL wo,v,a2=>by
  obtain⟨M,_,_,_,_,_,_,_,aE,aC,bu,_⟩:=a2
  exact⟨M,aE,λx iZ=>aB ((iZ.get M aC).trans bu) rfl⟩
theorem WO(p:Option aL)(k:Nat)(iW:List Nat)(w:aL)(ws:List aL):uD p (k::iW) (w::ws)=((decide (k≠9)&&decide (k≠1))&&(qS p w&&uD (some w) iW ws)):=by rw[uD]
end Go.Proofs.cf
namespace Go.Proofs.cf
open Go ay Go.Proofs cS
set_option maxRecDepth 100000
set_option maxHeartbeats 1000000
end Go.Proofs.cf
namespace Go.Proofs.cf
open Go ay Go.Proofs cS
set_option maxRecDepth 100000
set_option maxHeartbeats 1000000
end Go.Proofs.cf
namespace Go.Proofs.cf
open Go ay Go.Proofs cS
set_option maxRecDepth 100000
set_option maxHeartbeats 1000000
def mS:Option a3->Nat
 |none=>1
 |some t=>if 60<sz t then 3 else if g7 t=true then 0 else 2
end Go.Proofs.cf
