/-
  PROVED HERE: contracts of functions (Dmb). No condition beside each statement's own.
-/
import Derived.Test.YtokgebablggccaaGreatDoorDm
set_option linter.unusedVariables false
set_option linter.unusedSimpArgs false
namespace Go.Proofs.Lx
open Go AEv Go.Proofs Lexp
set_option maxRecDepth 100000
set_option maxHeartbeats 1000000
theorem pair_3_0 (els : Nat → Nat) (el : Nat) (fz : Nat × Nat) : pairB Cb (heapE els [] el fz) 3 0 = true := by kernel_rfl
theorem pair_3_1 (els : Nat → Nat) (el : Nat) (fz : Nat × Nat) : pairB Cb (heapE els [] el fz) 3 1 = true := by kernel_rfl
theorem pair_3_2 (els : Nat → Nat) (el : Nat) (fz : Nat × Nat) : pairB Cb (heapE els [] el fz) 3 2 = true := by kernel_rfl
theorem pair_3_3 (els : Nat → Nat) (el : Nat) (fz : Nat × Nat) : pairB Cb (heapE els [] el fz) 3 3 = true := by kernel_rfl
theorem pair_3_4 (els : Nat → Nat) (el : Nat) (fz : Nat × Nat) : pairB Cb (heapE els [] el fz) 3 4 = true := by kernel_rfl
theorem pair_3_5 (els : Nat → Nat) (el : Nat) (fz : Nat × Nat) : pairB Cb (heapE els [] el fz) 3 5 = true := by kernel_rfl
theorem pair_3_6 (els : Nat → Nat) (el : Nat) (fz : Nat × Nat) : pairB Cb (heapE els [] el fz) 3 6 = true := by kernel_rfl
theorem pair_3_7 (els : Nat → Nat) (el : Nat) (fz : Nat × Nat) : pairB Cb (heapE els [] el fz) 3 7 = true := by kernel_rfl
theorem pair_3_8 (els : Nat → Nat) (el : Nat) (fz : Nat × Nat) : pairB Cb (heapE els [] el fz) 3 8 = true := by kernel_rfl
theorem pairs_3 (els : Nat → Nat) (el : Nat) (fz : Nat × Nat) : ∀ k, k < 9 → pairB Cb (heapE els [] el fz) 3 k = true
  | 0, _ => pair_3_0 els el fz
  | 1, _ => pair_3_1 els el fz
  | 2, _ => pair_3_2 els el fz
  | 3, _ => pair_3_3 els el fz
  | 4, _ => pair_3_4 els el fz
  | 5, _ => pair_3_5 els el fz
  | 6, _ => pair_3_6 els el fz
  | 7, _ => pair_3_7 els el fz
  | 8, _ => pair_3_8 els el fz
  | n + 9, h => absurd h (by omega)
theorem pair_4_0 (els : Nat → Nat) (el : Nat) (fz : Nat × Nat) : pairB Cb (heapE els [] el fz) 4 0 = true := by kernel_rfl
theorem pair_4_1 (els : Nat → Nat) (el : Nat) (fz : Nat × Nat) : pairB Cb (heapE els [] el fz) 4 1 = true := by kernel_rfl
theorem pair_4_2 (els : Nat → Nat) (el : Nat) (fz : Nat × Nat) : pairB Cb (heapE els [] el fz) 4 2 = true := by kernel_rfl
theorem pair_4_3 (els : Nat → Nat) (el : Nat) (fz : Nat × Nat) : pairB Cb (heapE els [] el fz) 4 3 = true := by kernel_rfl
theorem pair_4_4 (els : Nat → Nat) (el : Nat) (fz : Nat × Nat) : pairB Cb (heapE els [] el fz) 4 4 = true := by kernel_rfl
theorem pair_4_5 (els : Nat → Nat) (el : Nat) (fz : Nat × Nat) : pairB Cb (heapE els [] el fz) 4 5 = true := by kernel_rfl
theorem pair_4_6 (els : Nat → Nat) (el : Nat) (fz : Nat × Nat) : pairB Cb (heapE els [] el fz) 4 6 = true := by kernel_rfl
theorem pair_4_7 (els : Nat → Nat) (el : Nat) (fz : Nat × Nat) : pairB Cb (heapE els [] el fz) 4 7 = true := by kernel_rfl
theorem pair_4_8 (els : Nat → Nat) (el : Nat) (fz : Nat × Nat) : pairB Cb (heapE els [] el fz) 4 8 = true := by kernel_rfl
theorem pairs_4 (els : Nat → Nat) (el : Nat) (fz : Nat × Nat) : ∀ k, k < 9 → pairB Cb (heapE els [] el fz) 4 k = true
  | 0, _ => pair_4_0 els el fz
  | 1, _ => pair_4_1 els el fz
  | 2, _ => pair_4_2 els el fz
  | 3, _ => pair_4_3 els el fz
  | 4, _ => pair_4_4 els el fz
  | 5, _ => pair_4_5 els el fz
  | 6, _ => pair_4_6 els el fz
  | 7, _ => pair_4_7 els el fz
  | 8, _ => pair_4_8 els el fz
  | n + 9, h => absurd h (by omega)
theorem pair_5_0 (els : Nat → Nat) (el : Nat) (fz : Nat × Nat) : pairB Cb (heapE els [] el fz) 5 0 = true := by kernel_rfl
theorem pair_5_1 (els : Nat → Nat) (el : Nat) (fz : Nat × Nat) : pairB Cb (heapE els [] el fz) 5 1 = true := by kernel_rfl
theorem pair_5_2 (els : Nat → Nat) (el : Nat) (fz : Nat × Nat) : pairB Cb (heapE els [] el fz) 5 2 = true := by kernel_rfl
theorem pair_5_3 (els : Nat → Nat) (el : Nat) (fz : Nat × Nat) : pairB Cb (heapE els [] el fz) 5 3 = true := by kernel_rfl
theorem pair_5_4 (els : Nat → Nat) (el : Nat) (fz : Nat × Nat) : pairB Cb (heapE els [] el fz) 5 4 = true := by kernel_rfl
theorem pair_5_5 (els : Nat → Nat) (el : Nat) (fz : Nat × Nat) : pairB Cb (heapE els [] el fz) 5 5 = true := by kernel_rfl
theorem pair_5_6 (els : Nat → Nat) (el : Nat) (fz : Nat × Nat) : pairB Cb (heapE els [] el fz) 5 6 = true := by kernel_rfl
theorem pair_5_7 (els : Nat → Nat) (el : Nat) (fz : Nat × Nat) : pairB Cb (heapE els [] el fz) 5 7 = true := by kernel_rfl
theorem pair_5_8 (els : Nat → Nat) (el : Nat) (fz : Nat × Nat) : pairB Cb (heapE els [] el fz) 5 8 = true := by kernel_rfl
theorem pairs_5 (els : Nat → Nat) (el : Nat) (fz : Nat × Nat) : ∀ k, k < 9 → pairB Cb (heapE els [] el fz) 5 k = true
  | 0, _ => pair_5_0 els el fz
  | 1, _ => pair_5_1 els el fz
  | 2, _ => pair_5_2 els el fz
  | 3, _ => pair_5_3 els el fz
  | 4, _ => pair_5_4 els el fz
  | 5, _ => pair_5_5 els el fz
  | 6, _ => pair_5_6 els el fz
  | 7, _ => pair_5_7 els el fz
  | 8, _ => pair_5_8 els el fz
  | n + 9, h => absurd h (by omega)
end Go.Proofs.Lx
