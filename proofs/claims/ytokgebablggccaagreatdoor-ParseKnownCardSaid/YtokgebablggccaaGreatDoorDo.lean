/-
  PROVED HERE: contracts of functions (Do). No condition beside each statement's own.
-/
import Derived.Test.YtokgebablggccaaGreatDoorDn
set_option linter.unusedVariables false
set_option linter.unusedSimpArgs false
namespace Go.Proofs.Lx
open Go AEv Go.Proofs Lexp
set_option maxRecDepth 100000
set_option maxHeartbeats 1000000

/-! ### ParseKnown -/
theorem pknown_run (els : Nat → Nat) (el : Nat) (fz : Nat × Nat) : okT (callN Tryz.prog Ik 300 (.fn 6) [] (heapE els [] el fz)) = true := by kernel_rfl
end Go.Proofs.Lx
