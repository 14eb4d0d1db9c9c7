/-
  PROVED HERE: contracts of functions (Dmc). No condition beside each statement's own.
-/
import Derived.Test.YtokgebablggccaaGreatDoorDm
set_option linter.unusedVariables false
set_option linter.unusedSimpArgs false
namespace Go.Proofs.Lx
open Go AEv Go.Proofs Lexp
set_option maxRecDepth 100000
set_option maxHeartbeats 1000000
theorem pair_6_0 (els : Nat → Nat) (el : Nat) (fz : Nat × Nat) : pairB Cb (heapE els [] el fz) 6 0 = true := by kernel_rfl
theorem pair_6_1 (els : Nat → Nat) (el : Nat) (fz : Nat × Nat) : pairB Cb (heapE els [] el fz) 6 1 = true := by kernel_rfl
theorem pair_6_2 (els : Nat → Nat) (el : Nat) (fz : Nat × Nat) : pairB Cb (heapE els [] el fz) 6 2 = true := by kernel_rfl
theorem pair_6_3 (els : Nat → Nat) (el : Nat) (fz : Nat × Nat) : pairB Cb (heapE els [] el fz) 6 3 = true := by kernel_rfl
theorem pair_6_4 (els : Nat → Nat) (el : Nat) (fz : Nat × Nat) : pairB Cb (heapE els [] el fz) 6 4 = true := by kernel_rfl
theorem pair_6_5 (els : Nat → Nat) (el : Nat) (fz : Nat × Nat) : pairB Cb (heapE els [] el fz) 6 5 = true := by kernel_rfl
theorem pair_6_6 (els : Nat → Nat) (el : Nat) (fz : Nat × Nat) : pairB Cb (heapE els [] el fz) 6 6 = true := by kernel_rfl
theorem pair_6_7 (els : Nat → Nat) (el : Nat) (fz : Nat × Nat) : pairB Cb (heapE els [] el fz) 6 7 = true := by kernel_rfl
theorem pair_6_8 (els : Nat → Nat) (el : Nat) (fz : Nat × Nat) : pairB Cb (heapE els [] el fz) 6 8 = true := by kernel_rfl
theorem pairs_6 (els : Nat → Nat) (el : Nat) (fz : Nat × Nat) : ∀ k, k < 9 → pairB Cb (heapE els [] el fz) 6 k = true
  | 0, _ => pair_6_0 els el fz
  | 1, _ => pair_6_1 els el fz
  | 2, _ => pair_6_2 els el fz
  | 3, _ => pair_6_3 els el fz
  | 4, _ => pair_6_4 els el fz
  | 5, _ => pair_6_5 els el fz
  | 6, _ => pair_6_6 els el fz
  | 7, _ => pair_6_7 els el fz
  | 8, _ => pair_6_8 els el fz
  | n + 9, h => absurd h (by omega)
theorem pair_7_0 (els : Nat → Nat) (el : Nat) (fz : Nat × Nat) : pairB Cb (heapE els [] el fz) 7 0 = true := by kernel_rfl
theorem pair_7_1 (els : Nat → Nat) (el : Nat) (fz : Nat × Nat) : pairB Cb (heapE els [] el fz) 7 1 = true := by kernel_rfl
theorem pair_7_2 (els : Nat → Nat) (el : Nat) (fz : Nat × Nat) : pairB Cb (heapE els [] el fz) 7 2 = true := by kernel_rfl
theorem pair_7_3 (els : Nat → Nat) (el : Nat) (fz : Nat × Nat) : pairB Cb (heapE els [] el fz) 7 3 = true := by kernel_rfl
theorem pair_7_4 (els : Nat → Nat) (el : Nat) (fz : Nat × Nat) : pairB Cb (heapE els [] el fz) 7 4 = true := by kernel_rfl
theorem pair_7_5 (els : Nat → Nat) (el : Nat) (fz : Nat × Nat) : pairB Cb (heapE els [] el fz) 7 5 = true := by kernel_rfl
theorem pair_7_6 (els : Nat → Nat) (el : Nat) (fz : Nat × Nat) : pairB Cb (heapE els [] el fz) 7 6 = true := by kernel_rfl
theorem pair_7_7 (els : Nat → Nat) (el : Nat) (fz : Nat × Nat) : pairB Cb (heapE els [] el fz) 7 7 = true := by kernel_rfl
theorem pair_7_8 (els : Nat → Nat) (el : Nat) (fz : Nat × Nat) : pairB Cb (heapE els [] el fz) 7 8 = true := by kernel_rfl
theorem pairs_7 (els : Nat → Nat) (el : Nat) (fz : Nat × Nat) : ∀ k, k < 9 → pairB Cb (heapE els [] el fz) 7 k = true
  | 0, _ => pair_7_0 els el fz
  | 1, _ => pair_7_1 els el fz
  | 2, _ => pair_7_2 els el fz
  | 3, _ => pair_7_3 els el fz
  | 4, _ => pair_7_4 els el fz
  | 5, _ => pair_7_5 els el fz
  | 6, _ => pair_7_6 els el fz
  | 7, _ => pair_7_7 els el fz
  | 8, _ => pair_7_8 els el fz
  | n + 9, h => absurd h (by omega)
theorem pair_8_0 (els : Nat → Nat) (el : Nat) (fz : Nat × Nat) : pairB Cb (heapE els [] el fz) 8 0 = true := by kernel_rfl
theorem pair_8_1 (els : Nat → Nat) (el : Nat) (fz : Nat × Nat) : pairB Cb (heapE els [] el fz) 8 1 = true := by kernel_rfl
theorem pair_8_2 (els : Nat → Nat) (el : Nat) (fz : Nat × Nat) : pairB Cb (heapE els [] el fz) 8 2 = true := by kernel_rfl
theorem pair_8_3 (els : Nat → Nat) (el : Nat) (fz : Nat × Nat) : pairB Cb (heapE els [] el fz) 8 3 = true := by kernel_rfl
theorem pair_8_4 (els : Nat → Nat) (el : Nat) (fz : Nat × Nat) : pairB Cb (heapE els [] el fz) 8 4 = true := by kernel_rfl
theorem pair_8_5 (els : Nat → Nat) (el : Nat) (fz : Nat × Nat) : pairB Cb (heapE els [] el fz) 8 5 = true := by kernel_rfl
theorem pair_8_6 (els : Nat → Nat) (el : Nat) (fz : Nat × Nat) : pairB Cb (heapE els [] el fz) 8 6 = true := by kernel_rfl
theorem pair_8_7 (els : Nat → Nat) (el : Nat) (fz : Nat × Nat) : pairB Cb (heapE els [] el fz) 8 7 = true := by kernel_rfl
theorem pair_8_8 (els : Nat → Nat) (el : Nat) (fz : Nat × Nat) : pairB Cb (heapE els [] el fz) 8 8 = true := by kernel_rfl
theorem pairs_8 (els : Nat → Nat) (el : Nat) (fz : Nat × Nat) : ∀ k, k < 9 → pairB Cb (heapE els [] el fz) 8 k = true
  | 0, _ => pair_8_0 els el fz
  | 1, _ => pair_8_1 els el fz
  | 2, _ => pair_8_2 els el fz
  | 3, _ => pair_8_3 els el fz
  | 4, _ => pair_8_4 els el fz
  | 5, _ => pair_8_5 els el fz
  | 6, _ => pair_8_6 els el fz
  | 7, _ => pair_8_7 els el fz
  | 8, _ => pair_8_8 els el fz
  | n + 9, h => absurd h (by omega)
end Go.Proofs.Lx
