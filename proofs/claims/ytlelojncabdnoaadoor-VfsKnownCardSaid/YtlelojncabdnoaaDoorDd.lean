/-
  PROVED HERE: contracts of functions (Dd). No condition beside each statement's own.
-/
import Derived.Test.YtlelojncabdnoaaDoorSxa
import Derived.Test.YtlelojncabdnoaaDoorProg
import Derived.Test.YtlelojncabdnoaaDoorDc
import Derived.Test.YtlelojncabdnoaaDoorDa
set_option linter.unusedVariables false
set_option linter.unusedSimpArgs false
namespace Go.Proofs.Vf
open Go AEv Go.Proofs
set_option maxRecDepth 100000
set_option maxHeartbeats 1000000
noncomputable def clT0 : List Ent := [⟨45, [.str [97, 47, 98]], .tup [.str [97, 47, 98], .int .i64 (0)]⟩, ⟨45, [.str [99]], .tup [.str [99], .int .i64 (0)]⟩, ⟨45, [.str [100]], .tup [.str [100], .int .i64 (0)]⟩, ⟨45, [.str [101]], .tup [.str [101], .int .i64 (0)]⟩, ⟨45, [.str [47, 101, 47]], .tup [.str [101], .int .i64 (0)]⟩, ⟨45, [.str [46, 46]], .tup [.str [], .int .i64 (6)]⟩, ⟨45, [.str [122, 122]], .tup [.str [122, 122], .int .i64 (0)]⟩, ⟨45, [.str [121]], .tup [.str [121], .int .i64 (0)]⟩, ⟨45, [.str [97]], .tup [.str [97], .int .i64 (0)]⟩, ⟨45, [.str [100, 47, 97, 97]], .tup [.str [100, 47, 97, 97], .int .i64 (0)]⟩, ⟨45, [.str [100, 47, 98, 97]], .tup [.str [100, 47, 98, 97], .int .i64 (0)]⟩, ⟨45, [.str [100, 47, 99, 97]], .tup [.str [100, 47, 99, 97], .int .i64 (0)]⟩, ⟨45, [.str [100, 47, 100, 97]], .tup [.str [100, 47, 100, 97], .int .i64 (0)]⟩, ⟨45, [.str [100, 47, 101, 97]], .tup [.str [100, 47, 101, 97], .int .i64 (0)]⟩, ⟨45, [.str [100, 47, 102, 97]], .tup [.str [100, 47, 102, 97], .int .i64 (0)]⟩, ⟨45, [.str [100, 47, 103, 97]], .tup [.str [100, 47, 103, 97], .int .i64 (0)]⟩, ⟨45, [.str [100, 47, 104, 97]], .tup [.str [100, 47, 104, 97], .int .i64 (0)]⟩, ⟨45, [.str [100, 47, 105, 97]], .tup [.str [100, 47, 105, 97], .int .i64 (0)]⟩]
theorem clT0_all : clT0.all (entB Tryd.prog (fun _ _ _ => none) 60) = true := by kernel_rfl
theorem clT0_ok : ∀ e ∈ clT0, EntOK Tryd.prog e := fun e he => ⟨_, 60, intr_none _, List.all_eq_true.1 clT0_all e he⟩
end Go.Proofs.Vf

namespace Go.Proofs.Vf
open Go AEv Go.Proofs
set_option maxRecDepth 100000
set_option maxHeartbeats 1000000
noncomputable def clT1 : List Ent := [⟨45, [.str [100, 47, 106, 97]], .tup [.str [100, 47, 106, 97], .int .i64 (0)]⟩, ⟨45, [.str [100, 47, 107, 97]], .tup [.str [100, 47, 107, 97], .int .i64 (0)]⟩, ⟨45, [.str [100, 47, 108, 97]], .tup [.str [100, 47, 108, 97], .int .i64 (0)]⟩, ⟨45, [.str [100, 47, 109, 97]], .tup [.str [100, 47, 109, 97], .int .i64 (0)]⟩, ⟨45, [.str [100, 47, 110, 97]], .tup [.str [100, 47, 110, 97], .int .i64 (0)]⟩, ⟨45, [.str [100, 47, 111, 97]], .tup [.str [100, 47, 111, 97], .int .i64 (0)]⟩, ⟨45, [.str [100, 47, 112, 97]], .tup [.str [100, 47, 112, 97], .int .i64 (0)]⟩, ⟨45, [.str [100, 47, 113, 97]], .tup [.str [100, 47, 113, 97], .int .i64 (0)]⟩, ⟨45, [.str [100, 47, 114, 97]], .tup [.str [100, 47, 114, 97], .int .i64 (0)]⟩, ⟨45, [.str [100, 47, 115, 97]], .tup [.str [100, 47, 115, 97], .int .i64 (0)]⟩, ⟨45, [.str [100, 47, 116, 97]], .tup [.str [100, 47, 116, 97], .int .i64 (0)]⟩, ⟨45, [.str [100, 47, 117, 97]], .tup [.str [100, 47, 117, 97], .int .i64 (0)]⟩, ⟨45, [.str [100, 47, 118, 97]], .tup [.str [100, 47, 118, 97], .int .i64 (0)]⟩, ⟨45, [.str [100, 47, 119, 97]], .tup [.str [100, 47, 119, 97], .int .i64 (0)]⟩, ⟨45, [.str [100, 47, 120, 97]], .tup [.str [100, 47, 120, 97], .int .i64 (0)]⟩, ⟨45, [.str [100, 47, 121, 97]], .tup [.str [100, 47, 121, 97], .int .i64 (0)]⟩, ⟨45, [.str [100, 47, 122, 97]], .tup [.str [100, 47, 122, 97], .int .i64 (0)]⟩, ⟨45, [.str [100, 47, 97, 98]], .tup [.str [100, 47, 97, 98], .int .i64 (0)]⟩]
theorem clT1_all : clT1.all (entB Tryd.prog (fun _ _ _ => none) 60) = true := by kernel_rfl
theorem clT1_ok : ∀ e ∈ clT1, EntOK Tryd.prog e := fun e he => ⟨_, 60, intr_none _, List.all_eq_true.1 clT1_all e he⟩
end Go.Proofs.Vf

namespace Go.Proofs.Vf
open Go AEv Go.Proofs
set_option maxRecDepth 100000
set_option maxHeartbeats 1000000
noncomputable def clT2 : List Ent := [⟨45, [.str [100, 47, 98, 98]], .tup [.str [100, 47, 98, 98], .int .i64 (0)]⟩, ⟨45, [.str [100, 47, 99, 98]], .tup [.str [100, 47, 99, 98], .int .i64 (0)]⟩, ⟨45, [.str [100, 47, 100, 98]], .tup [.str [100, 47, 100, 98], .int .i64 (0)]⟩, ⟨45, [.str [100, 47, 101, 98]], .tup [.str [100, 47, 101, 98], .int .i64 (0)]⟩, ⟨45, [.str [100, 47, 102, 98]], .tup [.str [100, 47, 102, 98], .int .i64 (0)]⟩, ⟨45, [.str [100, 47, 103, 98]], .tup [.str [100, 47, 103, 98], .int .i64 (0)]⟩, ⟨45, [.str [100, 47, 104, 98]], .tup [.str [100, 47, 104, 98], .int .i64 (0)]⟩, ⟨45, [.str [100, 47, 105, 98]], .tup [.str [100, 47, 105, 98], .int .i64 (0)]⟩, ⟨45, [.str [100, 47, 106, 98]], .tup [.str [100, 47, 106, 98], .int .i64 (0)]⟩, ⟨45, [.str [100, 47, 107, 98]], .tup [.str [100, 47, 107, 98], .int .i64 (0)]⟩, ⟨45, [.str [100, 47, 108, 98]], .tup [.str [100, 47, 108, 98], .int .i64 (0)]⟩, ⟨45, [.str [100, 47, 109, 98]], .tup [.str [100, 47, 109, 98], .int .i64 (0)]⟩, ⟨45, [.str [100, 47, 110, 98]], .tup [.str [100, 47, 110, 98], .int .i64 (0)]⟩, ⟨45, [.str [100, 47, 111, 98]], .tup [.str [100, 47, 111, 98], .int .i64 (0)]⟩, ⟨45, [.str [100, 47, 112, 98]], .tup [.str [100, 47, 112, 98], .int .i64 (0)]⟩, ⟨45, [.str [100, 47, 113, 98]], .tup [.str [100, 47, 113, 98], .int .i64 (0)]⟩, ⟨45, [.str [100, 47, 114, 98]], .tup [.str [100, 47, 114, 98], .int .i64 (0)]⟩, ⟨45, [.str [100, 47, 115, 98]], .tup [.str [100, 47, 115, 98], .int .i64 (0)]⟩]
theorem clT2_all : clT2.all (entB Tryd.prog (fun _ _ _ => none) 60) = true := by kernel_rfl
theorem clT2_ok : ∀ e ∈ clT2, EntOK Tryd.prog e := fun e he => ⟨_, 60, intr_none _, List.all_eq_true.1 clT2_all e he⟩
end Go.Proofs.Vf

namespace Go.Proofs.Vf
open Go AEv Go.Proofs
set_option maxRecDepth 100000
set_option maxHeartbeats 1000000
noncomputable def clT3 : List Ent := [⟨45, [.str [100, 47, 116, 98]], .tup [.str [100, 47, 116, 98], .int .i64 (0)]⟩, ⟨45, [.str [100, 47, 117, 98]], .tup [.str [100, 47, 117, 98], .int .i64 (0)]⟩, ⟨45, [.str [100, 47, 118, 98]], .tup [.str [100, 47, 118, 98], .int .i64 (0)]⟩, ⟨45, [.str [100, 47, 119, 98]], .tup [.str [100, 47, 119, 98], .int .i64 (0)]⟩, ⟨45, [.str [100, 47, 120, 98]], .tup [.str [100, 47, 120, 98], .int .i64 (0)]⟩, ⟨45, [.str [100, 47, 121, 98]], .tup [.str [100, 47, 121, 98], .int .i64 (0)]⟩, ⟨45, [.str [100, 47, 122, 98]], .tup [.str [100, 47, 122, 98], .int .i64 (0)]⟩, ⟨45, [.str [100, 47, 97, 99]], .tup [.str [100, 47, 97, 99], .int .i64 (0)]⟩, ⟨45, [.str [100, 47, 98, 99]], .tup [.str [100, 47, 98, 99], .int .i64 (0)]⟩, ⟨45, [.str [100, 47, 99, 99]], .tup [.str [100, 47, 99, 99], .int .i64 (0)]⟩, ⟨45, [.str [100, 47, 100, 99]], .tup [.str [100, 47, 100, 99], .int .i64 (0)]⟩, ⟨45, [.str [100, 47, 101, 99]], .tup [.str [100, 47, 101, 99], .int .i64 (0)]⟩, ⟨45, [.str [100, 47, 102, 99]], .tup [.str [100, 47, 102, 99], .int .i64 (0)]⟩, ⟨45, [.str [100, 47, 103, 99]], .tup [.str [100, 47, 103, 99], .int .i64 (0)]⟩, ⟨45, [.str [100, 47, 104, 99]], .tup [.str [100, 47, 104, 99], .int .i64 (0)]⟩, ⟨45, [.str [100, 47, 105, 99]], .tup [.str [100, 47, 105, 99], .int .i64 (0)]⟩, ⟨45, [.str [100, 47, 106, 99]], .tup [.str [100, 47, 106, 99], .int .i64 (0)]⟩, ⟨45, [.str [100, 47, 107, 99]], .tup [.str [100, 47, 107, 99], .int .i64 (0)]⟩]
theorem clT3_all : clT3.all (entB Tryd.prog (fun _ _ _ => none) 60) = true := by kernel_rfl
theorem clT3_ok : ∀ e ∈ clT3, EntOK Tryd.prog e := fun e he => ⟨_, 60, intr_none _, List.all_eq_true.1 clT3_all e he⟩
end Go.Proofs.Vf

namespace Go.Proofs.Vf
open Go AEv Go.Proofs
set_option maxRecDepth 100000
set_option maxHeartbeats 1000000
noncomputable def clT4 : List Ent := [⟨45, [.str [122]], .tup [.str [122], .int .i64 (0)]⟩, ⟨45, [.str [47, 97, 47, 46, 47, 98]], .tup [.str [97, 47, 98], .int .i64 (0)]⟩, ⟨45, [.str [97, 47, 47, 98]], .tup [.str [97, 47, 98], .int .i64 (0)]⟩]
theorem clT4_all : clT4.all (entB Tryd.prog (fun _ _ _ => none) 60) = true := by kernel_rfl
theorem clT4_ok : ∀ e ∈ clT4, EntOK Tryd.prog e := fun e he => ⟨_, 60, intr_none _, List.all_eq_true.1 clT4_all e he⟩
end Go.Proofs.Vf

namespace Go.Proofs.Vf
open Go AEv Go.Proofs
set_option maxRecDepth 100000
set_option maxHeartbeats 1000000

/-! ### VfsKnown -/
noncomputable def clT : List Ent := clT0 ++ (clT1 ++ (clT2 ++ (clT3 ++ clT4)))
theorem clT_ok : ∀ e ∈ clT, EntOK Tryd.prog e := fun e he => by
  unfold clT at he
  simp only [List.mem_append] at he
  rcases he with h | h | h | h | h
  · exact clT0_ok e h
  · exact clT1_ok e h
  · exact clT2_ok e h
  · exact clT3_ok e h
  · exact clT4_ok e h
noncomputable def Iv : Nat → List AV → AHeap → Option (AV × AHeap) := orE listI (tabIntr clT)
theorem Iv_ok (hf : Fit Tryd.prog) : IntrOK Tryd.prog Iv := orE_ok (list_ok hf) (tab_ok hf clT_ok)
theorem vknown_run (els : Nat → Nat) : okT (callN Tryd.prog Iv 200 (.fn 5) [] (heapT Tryd.prog.globals.size els [] [])) = true := by kernel_rfl
end Go.Proofs.Vf
