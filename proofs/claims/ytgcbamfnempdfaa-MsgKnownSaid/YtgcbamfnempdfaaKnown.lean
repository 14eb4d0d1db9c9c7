/-
  PROVED HERE: lodger/lodgerlaw27.MsgKnown answers true, by a run of the abstract evaluator that the kernel carries out, some calls told from a table. Conditions: none beside the row's own.
-/
import Derived.Test.YtgcbamfnempdfaaKnownT
namespace Go.Proofs.Ytgcbamfnempdfaa
open Go.ChangeShapes Go.WideShapes Go.ChangeAt Go.RowKit AEv
set_option maxRecDepth 100000

theorem known_run : okT (callN Try.prog (tabIntr known_tab) 400 (.fn 8) [] (emptyHeap Try.prog.globals.size)) = true := by kernel_rfl
theorem known_calls {W : World} (hs : W.ShapedOpen Try.prog) : Calls Try.prog 8 #[] W fun e W' => e = .returned (.bool true) ∧ Below W.heap.size W W' :=
  law_tab known_fit known_all.ok Try.func8 rfl known_run (globals_in hs known_shape)

theorem known_lifted (os : Os) (started : os.Started) (H : Type) (enc : TypeId × Value → H) :
    ReturnsInHanded {} Try.checked os 8 .any (Rows.msgKnownSpec.pre6 enc Try.prog Try.f8 Rows.msgKnownRow.domain false) (Rows.msgKnownSpec.post enc Try.prog Try.f8 false true false false) := by
  refine handed_plain (C := Try.checked) known_own started (by kernel_rfl) Try.func8
    (ChangeSpec.witness6 (enc := enc) (C := Try.checked) false ⟨#[], #[], []⟩ 8 (by kernel_rfl) (by kernel_rfl) (by kernel_rfl) (by kernel_rfl)) ?_
  intro W base args ds gs before hval0 hW _ hS
  have hW' := hW
  obtain ⟨p, q, hA0, hV, rfl, _, _⟩ := hW
  have hA : DataW.TrodAll enc Try.prog W 0 (fun _ => true) true Try.f8.params.toList args.toList ds p := hA0
  rw [Try.params8] at hA
  obtain ⟨rfl, rfl, rfl⟩ := trodAll_none hA
  refine (known_calls hS).mono fun e W' ⟨he, hw⟩ => ?_
  subst he
  exact ⟨_, rfl, post_law known_laidOut (fun t ht => by rw [Try.params8] at ht; cases ht) (by kernel_rfl) Try.underlying4 rfl hW' rfl hw⟩

theorem known_said : Rows.MsgKnownSaid :=
  OpenClaim.holds_of_wide 8 Try.f8 rfl rfl rfl rfl rfl rfl rfl ⟨rfl, rfl, rfl, rfl, rfl⟩ rfl rfl rfl rfl rfl (by kernel_rfl) Try.func8 (by kernel_rfl)
    (of_decide_eq_true (by kernel_rfl)) (by unfold Func.isWrapper; first | (rw [if_pos (by decide +kernel)]; kernel_rfl) | (rw [if_neg (by decide +kernel)]; exact ⟨rfl, rfl⟩))
    (fun os started H enc _ => known_lifted os started H enc)
#print axioms known_said
end Go.Proofs.Ytgcbamfnempdfaa
