/-
  PROVED HERE: contracts of functions (Dma). No condition beside each statement's own.
-/
import Derived.Test.YtokgebablggccaaGreatDoorDm
set_option linter.unusedVariables false
set_option linter.unusedSimpArgs false
namespace Go.Proofs.Lx
open Go AEv Go.Proofs Lexp
set_option maxRecDepth 100000
set_option maxHeartbeats 1000000
theorem pair_0_0 (els : Nat → Nat) (el : Nat) (fz : Nat × Nat) : pairB Cb (heapE els [] el fz) 0 0 = true := by kernel_rfl
theorem pair_0_1 (els : Nat → Nat) (el : Nat) (fz : Nat × Nat) : pairB Cb (heapE els [] el fz) 0 1 = true := by kernel_rfl
theorem pair_0_2 (els : Nat → Nat) (el : Nat) (fz : Nat × Nat) : pairB Cb (heapE els [] el fz) 0 2 = true := by kernel_rfl
theorem pair_0_3 (els : Nat → Nat) (el : Nat) (fz : Nat × Nat) : pairB Cb (heapE els [] el fz) 0 3 = true := by kernel_rfl
theorem pair_0_4 (els : Nat → Nat) (el : Nat) (fz : Nat × Nat) : pairB Cb (heapE els [] el fz) 0 4 = true := by kernel_rfl
theorem pair_0_5 (els : Nat → Nat) (el : Nat) (fz : Nat × Nat) : pairB Cb (heapE els [] el fz) 0 5 = true := by kernel_rfl
theorem pair_0_6 (els : Nat → Nat) (el : Nat) (fz : Nat × Nat) : pairB Cb (heapE els [] el fz) 0 6 = true := by kernel_rfl
theorem pair_0_7 (els : Nat → Nat) (el : Nat) (fz : Nat × Nat) : pairB Cb (heapE els [] el fz) 0 7 = true := by kernel_rfl
theorem pair_0_8 (els : Nat → Nat) (el : Nat) (fz : Nat × Nat) : pairB Cb (heapE els [] el fz) 0 8 = true := by kernel_rfl
theorem pairs_0 (els : Nat → Nat) (el : Nat) (fz : Nat × Nat) : ∀ k, k < 9 → pairB Cb (heapE els [] el fz) 0 k = true
  | 0, _ => pair_0_0 els el fz
  | 1, _ => pair_0_1 els el fz
  | 2, _ => pair_0_2 els el fz
  | 3, _ => pair_0_3 els el fz
  | 4, _ => pair_0_4 els el fz
  | 5, _ => pair_0_5 els el fz
  | 6, _ => pair_0_6 els el fz
  | 7, _ => pair_0_7 els el fz
  | 8, _ => pair_0_8 els el fz
  | n + 9, h => absurd h (by omega)
theorem pair_1_0 (els : Nat → Nat) (el : Nat) (fz : Nat × Nat) : pairB Cb (heapE els [] el fz) 1 0 = true := by kernel_rfl
theorem pair_1_1 (els : Nat → Nat) (el : Nat) (fz : Nat × Nat) : pairB Cb (heapE els [] el fz) 1 1 = true := by kernel_rfl
theorem pair_1_2 (els : Nat → Nat) (el : Nat) (fz : Nat × Nat) : pairB Cb (heapE els [] el fz) 1 2 = true := by kernel_rfl
theorem pair_1_3 (els : Nat → Nat) (el : Nat) (fz : Nat × Nat) : pairB Cb (heapE els [] el fz) 1 3 = true := by kernel_rfl
theorem pair_1_4 (els : Nat → Nat) (el : Nat) (fz : Nat × Nat) : pairB Cb (heapE els [] el fz) 1 4 = true := by kernel_rfl
theorem pair_1_5 (els : Nat → Nat) (el : Nat) (fz : Nat × Nat) : pairB Cb (heapE els [] el fz) 1 5 = true := by kernel_rfl
theorem pair_1_6 (els : Nat → Nat) (el : Nat) (fz : Nat × Nat) : pairB Cb (heapE els [] el fz) 1 6 = true := by kernel_rfl
theorem pair_1_7 (els : Nat → Nat) (el : Nat) (fz : Nat × Nat) : pairB Cb (heapE els [] el fz) 1 7 = true := by kernel_rfl
theorem pair_1_8 (els : Nat → Nat) (el : Nat) (fz : Nat × Nat) : pairB Cb (heapE els [] el fz) 1 8 = true := by kernel_rfl
theorem pairs_1 (els : Nat → Nat) (el : Nat) (fz : Nat × Nat) : ∀ k, k < 9 → pairB Cb (heapE els [] el fz) 1 k = true
  | 0, _ => pair_1_0 els el fz
  | 1, _ => pair_1_1 els el fz
  | 2, _ => pair_1_2 els el fz
  | 3, _ => pair_1_3 els el fz
  | 4, _ => pair_1_4 els el fz
  | 5, _ => pair_1_5 els el fz
  | 6, _ => pair_1_6 els el fz
  | 7, _ => pair_1_7 els el fz
  | 8, _ => pair_1_8 els el fz
  | n + 9, h => absurd h (by omega)
theorem pair_2_0 (els : Nat → Nat) (el : Nat) (fz : Nat × Nat) : pairB Cb (heapE els [] el fz) 2 0 = true := by kernel_rfl
theorem pair_2_1 (els : Nat → Nat) (el : Nat) (fz : Nat × Nat) : pairB Cb (heapE els [] el fz) 2 1 = true := by kernel_rfl
theorem pair_2_2 (els : Nat → Nat) (el : Nat) (fz : Nat × Nat) : pairB Cb (heapE els [] el fz) 2 2 = true := by kernel_rfl
theorem pair_2_3 (els : Nat → Nat) (el : Nat) (fz : Nat × Nat) : pairB Cb (heapE els [] el fz) 2 3 = true := by kernel_rfl
theorem pair_2_4 (els : Nat → Nat) (el : Nat) (fz : Nat × Nat) : pairB Cb (heapE els [] el fz) 2 4 = true := by kernel_rfl
theorem pair_2_5 (els : Nat → Nat) (el : Nat) (fz : Nat × Nat) : pairB Cb (heapE els [] el fz) 2 5 = true := by kernel_rfl
theorem pair_2_6 (els : Nat → Nat) (el : Nat) (fz : Nat × Nat) : pairB Cb (heapE els [] el fz) 2 6 = true := by kernel_rfl
theorem pair_2_7 (els : Nat → Nat) (el : Nat) (fz : Nat × Nat) : pairB Cb (heapE els [] el fz) 2 7 = true := by kernel_rfl
theorem pair_2_8 (els : Nat → Nat) (el : Nat) (fz : Nat × Nat) : pairB Cb (heapE els [] el fz) 2 8 = true := by kernel_rfl
theorem pairs_2 (els : Nat → Nat) (el : Nat) (fz : Nat × Nat) : ∀ k, k < 9 → pairB Cb (heapE els [] el fz) 2 k = true
  | 0, _ => pair_2_0 els el fz
  | 1, _ => pair_2_1 els el fz
  | 2, _ => pair_2_2 els el fz
  | 3, _ => pair_2_3 els el fz
  | 4, _ => pair_2_4 els el fz
  | 5, _ => pair_2_5 els el fz
  | 6, _ => pair_2_6 els el fz
  | 7, _ => pair_2_7 els el fz
  | 8, _ => pair_2_8 els el fz
  | n + 9, h => absurd h (by omega)
end Go.Proofs.Lx
