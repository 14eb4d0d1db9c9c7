/-
  PROVED HERE: contracts of functions (Dn). No condition beside each statement's own.
-/
import Derived.Test.YtokgebablggccaaGreatDoorDm
set_option linter.unusedVariables false
set_option linter.unusedSimpArgs false
namespace Go.Proofs.Lx
open Go AEv Go.Proofs Lexp
set_option maxRecDepth 100000
set_option maxHeartbeats 1000000
theorem pairs (els : Nat → Nat) (el : Nat) (fz : Nat × Nat) : ∀ i, i < 9 → ∀ k, k < 9 → pairB Cb (heapE els [] el fz) i k = true
  | 0, _ => pairs_0 els el fz
  | 1, _ => pairs_1 els el fz
  | 2, _ => pairs_2 els el fz
  | 3, _ => pairs_3 els el fz
  | 4, _ => pairs_4 els el fz
  | 5, _ => pairs_5 els el fz
  | 6, _ => pairs_6 els el fz
  | 7, _ => pairs_7 els el fz
  | 8, _ => pairs_8 els el fz
  | n + 9, h => absurd h (by omega)
theorem binds_c (els : Nat → Nat) (el : Nat) (fz : Nat × Nat) (a b : Nat) : ∃ g, callN Tryz.prog Ib 201 (.fn 4) [.int .u8 (Int.ofNat a), .int .u8 (Int.ofNat b)] (heapE els [] el fz) = .ret (.bool true) g := by
  obtain ⟨g, r⟩ := pair_run Cb (heapE els [] el fz) a b (pairs els el fz (a % 9) (by omega) (b % 9) (by omega))
  exact ⟨g, fn_runF (intr := Ib) (n := 200) (args := [.int .u8 (Int.ofNat a), .int .u8 (Int.ofNat b)]) Tryz.func4 (by kernel_rfl) (by kernel_rfl) (by kernel_rfl) r (.inl rfl) (by kernel_rfl)⟩
end Go.Proofs.Lx
