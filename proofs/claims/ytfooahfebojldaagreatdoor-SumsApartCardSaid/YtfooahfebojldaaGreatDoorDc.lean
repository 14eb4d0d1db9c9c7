/-
  PROVED HERE: contracts of functions (Dc). No condition beside each statement's own.
-/
import Derived.Test.YtfooahfebojldaaGreatDoorDb
import Derived.Test.YtfooahfebojldaaGreatDoorTx
set_option linter.unusedVariables false
set_option linter.unusedSimpArgs false
namespace Go.Proofs.b0
open Go aw Go.Proofs cu
set_option maxRecDepth 100000
set_option maxHeartbeats 1000000
end Go.Proofs.b0
namespace Go.Proofs.b0
open Go aw Go.Proofs cu
set_option maxRecDepth 100000
set_option maxHeartbeats 1000000
end Go.Proofs.b0
namespace Go.Proofs.b0
open Go aw Go.Proofs cu
set_option maxRecDepth 100000
set_option maxHeartbeats 1000000
theorem ef.kind{B:Nat}{h:J}:∀{t:aZ} {v:I},ef B h t v->∃M,v=.ptr M 0/\∀x,Ext B h x->ay x M (0+0)=some (.int .i64 (Int.ofNat t.k))
 |.mk cY dr h2 m5 pa,v,aQ=>by
  obtain⟨M,_,_,_,_,_,_,_,aC,ax,bp,_⟩:=aQ
  exact⟨M,aC,λx jx=>ba ((jx.get M ax).trans bp) rfl⟩
theorem Rw(p:Option aJ)(k:Nat)(hE:List Nat)(w:aJ)(ws:List aJ):sK p (k::hE) (w::ws)=((decide (k≠9)&&decide (k≠1))&&(pj p w&&sK (some w) hE ws)):=by rw[sK]
end Go.Proofs.b0
namespace Go.Proofs.b0
open Go aw Go.Proofs cu
set_option maxRecDepth 100000
set_option maxHeartbeats 1000000
end Go.Proofs.b0
namespace Go.Proofs.b0
open Go aw Go.Proofs cu
set_option maxRecDepth 100000
set_option maxHeartbeats 1000000
end Go.Proofs.b0
namespace Go.Proofs.b0
open Go aw Go.Proofs cu
set_option maxRecDepth 100000
set_option maxHeartbeats 1000000
def lF:Option aZ->Nat
 |none=>1
 |some t=>if 60<sz t then 3 else if fQ t=true then 0 else 2
end Go.Proofs.b0
