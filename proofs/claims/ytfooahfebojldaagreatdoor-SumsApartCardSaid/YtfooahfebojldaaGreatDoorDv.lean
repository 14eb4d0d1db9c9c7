/-
  PROVED HERE: contracts of functions (Dv). No condition beside each statement's own.
-/
import Derived.Test.YtfooahfebojldaaGreatDoorDk
import Derived.Test.YtfooahfebojldaaGreatDoorSxb
import Derived.Test.YtfooahfebojldaaGreatDoorTx
set_option linter.unusedVariables false
set_option linter.unusedSimpArgs false
namespace Go.Proofs.cn
open Go aw Go.Proofs cu Go.Proofs.b0
open Go.Proofs.cT (cS nm mu)
open Go.Proofs.dV (b_ ea dC eM fS)
set_option maxRecDepth 100000
set_option maxHeartbeats 1000000
end Go.Proofs.cn
namespace Go.Proofs.cn
open Go aw Go.Proofs cu Go.Proofs.b0
open Go.Proofs.cT (cS nm mu lK)
open Go.Proofs.dV (b_ ea dC eM fS)
set_option maxRecDepth 100000
set_option maxHeartbeats 1000000
theorem oR(call:aP->List I->J->av)(a b:Nat)(h:J):
  aV Tryz.prog Tryz.f21 none call [] (ao.mk [(0,.ptr a 0),(1,.ptr b 0)] [] .none h) (.nrm)
   (ao.mk [(0,.ptr a 0),(1,.ptr b 0)] [] .none h):=
 bY [0,1] (hs:=[.v (.bool !true),.b false]) (by kernel_rfl)<| .cons (by kernel_rfl:dX Tryz.prog h BinOp.neq 20 (Operand.tmp 4) (Operand.const Value.nilIface) I.dW I.dW=some (I.bool !true))<| .cons (by kernel_rfl:(!true)=false)<| .nil
def JY(a9:Nat)(path:aJ)(st:ea):Option (hY×ea):=(z3 a9 st).bind λr=>(z3 a9 r.1).map λr2=>(⟨path,false,r.2,r2.2⟩,r2.1)
def JZ(a9:Nat)(s:aJ):Option (hY×ea):=
 if(dC (eM (some s)).2).2.isSome=true/\(dC (eM (some s)).2).1<=1 then
  if(dC (eM (some s)).2).1=1 then some (⟨(eM (some s)).1,true,[],[]⟩,(dC (eM (some s)).2).2) else JY a9 (eM (some s)).1 (dC (eM (some s)).2).2
 else none
end Go.Proofs.cn
namespace Go.Proofs.cn
open Go aw Go.Proofs cu Go.Proofs.b0
open Go.Proofs.cT (cS nm mu lK)
open Go.Proofs.dV (b_ ea dC eM fS)
set_option maxRecDepth 100000
set_option maxHeartbeats 1000000
end Go.Proofs.cn
