/-
  PROVED HERE: lodger/lodgerlaw26.DiagKnown answers true, by a run of the abstract evaluator that the kernel carries out. Conditions: none beside the row's own.
-/
import Derived.Test.YtdjlbpokclodhaaAed
import Derived.Test.YtdjlbpokclodhaaRows
import Derived.ProofKit
import Derived.OpenShut
import Derived.LaidMore
import Derived.Lay
import Derived.SevenTiedAt
import Derived.Stop.Joined
namespace Go.Proofs.Ytdjlbpokclodhaa
open Go.ChangeShapes Go.WideShapes Go.ChangeAt Go.RowKit AEv
set_option maxRecDepth 100000

theorem known_own : ownKnob Try.prog.godebug = none := by kernel_rfl
theorem known_laidOut : laidOutB Try.prog = true := by kernel_rfl
theorem known_fit : Fit Try.prog := fit_of (by kernel_rfl) (by kernel_rfl) (by kernel_rfl)
theorem known_shape : shapeB Try.prog = true := by kernel_rfl
theorem known_run : okT (callN Try.prog (fun _ _ _ => none) 200 (.fn 7) [] (emptyHeap Try.prog.globals.size)) = true := by kernel_rfl
theorem known_calls {W : World} (hs : W.ShapedOpen Try.prog) : Calls Try.prog 7 #[] W fun e W' => e = .returned (.bool true) ∧ Below W.heap.size W W' :=
  law_closed known_fit Try.func7 rfl known_run (globals_in hs known_shape)

theorem known_lifted (os : Os) (started : os.Started) (H : Type) (enc : TypeId × Value → H) :
    ReturnsInHanded {} Try.checked os 7 .any (Rows.diagKnownSpec.pre6 enc Try.prog Try.f7 Rows.diagKnownRow.domain false) (Rows.diagKnownSpec.post enc Try.prog Try.f7 false true false false) := by
  refine handed_plain (C := Try.checked) known_own started (by kernel_rfl) Try.func7
    (ChangeSpec.witness6 (enc := enc) (C := Try.checked) false ⟨#[], #[], []⟩ 8 (by kernel_rfl) (by kernel_rfl) (by kernel_rfl) (by kernel_rfl)) ?_
  intro W base args ds gs before hval0 hW _ hS
  have hW' := hW
  obtain ⟨p, q, hA0, hV, rfl, _, _⟩ := hW
  have hA : DataW.TrodAll enc Try.prog W 0 (fun _ => true) true Try.f7.params.toList args.toList ds p := hA0
  rw [Try.params7] at hA
  obtain ⟨rfl, rfl, rfl⟩ := trodAll_none hA
  refine (known_calls hS).mono fun e W' ⟨he, hw⟩ => ?_
  subst he
  exact ⟨_, rfl, post_law known_laidOut (fun t ht => by rw [Try.params7] at ht; cases ht) (by kernel_rfl) Try.underlying4 rfl hW' rfl hw⟩

theorem known_said : Rows.DiagKnownSaid :=
  OpenClaim.holds_of_wide 7 Try.f7 rfl rfl rfl rfl rfl rfl rfl ⟨rfl, rfl, rfl, rfl, rfl⟩ rfl rfl rfl rfl rfl (by kernel_rfl) Try.func7 (by kernel_rfl)
    (of_decide_eq_true (by kernel_rfl)) (by unfold Func.isWrapper; first | (rw [if_pos (by decide +kernel)]; kernel_rfl) | (rw [if_neg (by decide +kernel)]; exact ⟨rfl, rfl⟩))
    (fun os started H enc _ => known_lifted os started H enc)
#print axioms known_said
end Go.Proofs.Ytdjlbpokclodhaa
