/-
  PROVED HERE: contracts of functions (Dq). No condition beside each statement's own.
-/
import Derived.Test.YtlcnhahfgpnanaaGreatDoorDi
import Derived.Test.YtlcnhahfgpnanaaGreatDoorDj
import Derived.Test.YtlcnhahfgpnanaaGreatDoorDk
import Derived.Test.YtlcnhahfgpnanaaGreatDoorDl
import Derived.Test.YtlcnhahfgpnanaaGreatDoorDm
import Derived.Test.YtlcnhahfgpnanaaGreatDoorDn
import Derived.Test.YtlcnhahfgpnanaaGreatDoorDo
import Derived.Test.YtlcnhahfgpnanaaGreatDoorDp
set_option linter.unusedVariables false
set_option linter.unusedSimpArgs false
namespace Go.Proofs.Lx
open Go AEv Go.Proofs Lexp
set_option maxRecDepth 100000
set_option maxHeartbeats 1000000
def Wi : List Ent := [ei0, ei1, ei2, ei3, ei4, ei5, ei6, ei7, ei8, ei9, ei10, ei11, ei12, ei13, ei14, ei15, ei16, ei17, ei18]
theorem Wi_ok (hf : Fit Tryz.prog) : ∀ e ∈ Wi, EntT Tryz.prog tabs e := fun e he => by
  simp only [Wi, List.mem_cons, List.not_mem_nil, or_false] at he
  rcases he with rfl | rfl | rfl | rfl | rfl | rfl | rfl | rfl | rfl | rfl | rfl | rfl | rfl | rfl | rfl | rfl | rfl | rfl | rfl
  · exact ei0_ok hf
  · exact ei1_ok hf
  · exact ei2_ok hf
  · exact ei3_ok hf
  · exact ei4_ok hf
  · exact ei5_ok hf
  · exact ei6_ok hf
  · exact ei7_ok hf
  · exact ei8_ok hf
  · exact ei9_ok hf
  · exact ei10_ok hf
  · exact ei11_ok hf
  · exact ei12_ok hf
  · exact ei13_ok hf
  · exact ei14_ok hf
  · exact ei15_ok hf
  · exact ei16_ok hf
  · exact ei17_ok hf
  · exact ei18_ok hf
noncomputable def Wf : List EntF := [fg0, fg1, fg2, fg3, fg4, fg5, fg6, fg7, fg8, fg9, fg10, fg11, fg12, fg13, fg14, fg15, fg16, fg17, fg18, fg19, fg20, fg21]
theorem Wf_ok (hf : Fit Tryz.prog) : ∀ e ∈ Wf, EntGOK Tryz.prog tabs pow10 e := fun e he => by
  simp only [Wf, List.mem_cons, List.not_mem_nil, or_false] at he
  rcases he with rfl | rfl | rfl | rfl | rfl | rfl | rfl | rfl | rfl | rfl | rfl | rfl | rfl | rfl | rfl | rfl | rfl | rfl | rfl | rfl | rfl | rfl
  · exact fg0_ok hf
  · exact fg1_ok hf
  · exact fg2_ok hf
  · exact fg3_ok hf
  · exact fg4_ok hf
  · exact fg5_ok hf
  · exact fg6_ok hf
  · exact fg7_ok hf
  · exact fg8_ok hf
  · exact fg9_ok hf
  · exact fg10_ok hf
  · exact fg11_ok hf
  · exact fg12_ok hf
  · exact fg13_ok hf
  · exact fg14_ok hf
  · exact fg15_ok hf
  · exact fg16_ok hf
  · exact fg17_ok hf
  · exact fg18_ok hf
  · exact fg19_ok hf
  · exact fg20_ok hf
  · exact fg21_ok hf
/-- What the law's own run is told. -/
noncomputable def Ir : Nat → List AV → AHeap → Option (AV × AHeap) := orE (tabIntrT tabs Wi) (orE (intrG tabs pow10 Wf) Iq)
theorem Ir_ok (hf : Fit Tryz.prog) : IntrOK Tryz.prog Ir := orE_ok (tabT_ok hf tabs_lt (Wi_ok hf)) (orE_ok (intrG_ok hf tabs_lt pow10_lt (Wf_ok hf)) (Iq_ok hf))
end Go.Proofs.Lx

namespace Go.Proofs.Lx
open Go AEv Go.Proofs Lexp
set_option maxRecDepth 100000
set_option maxHeartbeats 1000000

/-! ### PrintKnown -/
theorem prknown_run (els : Nat → Nat) : okT (callN Tryz.prog Ir 300 (.fn 7) [] (heapP els)) = true := by kernel_rfl
end Go.Proofs.Lx
