/-
  PROVED HERE: lodger/lodgerlaw27.MsgAnswers answers true for every input. Conditions: none beside the row's own.
-/
import Derived.Test.YtbndinilpflomaaDj
import Derived.Test.YtbndinilpflomaaRows
import Derived.ProofKit
import Derived.OpenShut
import Derived.LaidMore
import Derived.Lay
import Derived.SevenTiedAt
import Derived.Stop.Joined
import Derived.ChangeMaps5
import Derived.SliceStrings
namespace Go.Proofs.Ytbndinilpflomaa
open Go.ChangeShapes Go.WideShapes Go.ChangeAt Go.RowKit Go.ChangeMaps AEv
set_option maxRecDepth 100000

theorem law_own : ownKnob Try.prog.godebug = none := by kernel_rfl
theorem law_laidOut : laidOutB Try.prog = true := by kernel_rfl
theorem law_fit : Fit Try.prog := fit_of (by kernel_rfl) (by kernel_rfl) (by kernel_rfl)
theorem law_shape : shapeB Try.prog = true := by kernel_rfl
theorem law_works : ∀ e ∈ Wire.Wk, EntOK Try.prog e := AllE.ok (T := Wire.Wk) ⟨entOK_of law_fit (T := []) trivial (n := 60) (by kernel_rfl), entOK_of law_fit (T := []) trivial (n := 60) (by kernel_rfl), entOK_of law_fit (T := []) trivial (n := 9) (by kernel_rfl), entOK_of law_fit (T := []) trivial (n := 9) (by kernel_rfl), entOK_of law_fit (T := []) trivial (n := 9) (by kernel_rfl), entOK_of law_fit (T := []) trivial (n := 9) (by kernel_rfl), entOK_of law_fit (T := []) trivial (n := 9) (by kernel_rfl), entOK_of law_fit (T := []) trivial (n := 9) (by kernel_rfl), entOK_of law_fit (T := []) trivial (n := 9) (by kernel_rfl), entOK_of law_fit (T := []) trivial (n := 9) (by kernel_rfl), entOK_of law_fit (T := []) trivial (n := 9) (by kernel_rfl), entOK_of law_fit (T := []) trivial (n := 9) (by kernel_rfl), entOK_of law_fit (T := []) trivial (n := 9) (by kernel_rfl), trivial⟩
theorem law_types : ∀ t ∈ (#[54] : Array TypeId).toList, Try.prog.readableRec t = true ∧ t < Try.prog.types.size := fun t ht => by
  simp at ht; subst ht; exact ⟨by kernel_rfl, of_decide_eq_true (by kernel_rfl)⟩
theorem law_open {H : Type} {enc : TypeId × Value → H} {W : World} {base : Nat} {args : Array Value} {ds : List (DataW H)} {p : List MemPlace} (hA : DataW.TrodAll enc Try.prog W 0 (fun _ => true) true (#[54] : Array TypeId).toList args.toList ds p)
    (hval : ∀ (j : Nat) t v, (#[54] : Array TypeId)[j]? = some t → args[j]? = some v → Value.okWide Try.prog W .any base t v) (hS : W.ShapedOpen Try.prog) :
    (∃ d, ds = [d]) ∧ Calls Try.prog 10 args W fun e W' => e = .returned (.bool true) ∧ Below W.heap.size W W' := by
  obtain ⟨v, d, rfl, rfl, h1⟩ := trodAll_one hA
  obtain ⟨fuel, hf⟩ := h1
  obtain ⟨cd, nm, t, ps, l, rows, hnm, hr, hx⟩ := Wire.open_rsp (hval 0 54 v rfl rfl) hf
  obtain ⟨r1, r2, r3⟩ := start_rows (P := Try.prog) (globals_in hS law_shape) rows hr
  obtain ⟨w, x, q1, q2, q3⟩ := hx _ _ _ Wire.rowsAt_start
  obtain ⟨h', e⟩ := Wire.answers_c cd nm hnm t ps l w x _ q1 q2
  have hI := Wire.Ii_ok law_fit law_works
  exact ⟨⟨d, rfl⟩, law_of_run (intr := Wire.Ii) (n := 8) law_fit hI Try.func10 rfl (congrArg okT e) r1 r3 r2 ⟨v, [], rfl, q3, rfl⟩⟩

theorem law_lifted (os : Os) (started : os.Started) (H : Type) (enc : TypeId × Value → H) :
    ReturnsInHanded {} Try.checked os 10 .any (Rows.msgAnswersSpec.pre6 enc Try.prog Try.f10 Rows.msgAnswersRow.domain false) (Rows.msgAnswersSpec.post enc Try.prog Try.f10 false true false false) := by
  refine handed_plain (C := Try.checked) law_own started (by kernel_rfl) Try.func10
    (ChangeSpec.witness6 (enc := enc) (C := Try.checked) false ⟨#[], #[.agg #[.int .i64 0, .string ⟨#[]⟩, .slice none 0 0, .slice none 0 0, .int .u64 0]], []⟩ 8 (by kernel_rfl) (by kernel_rfl) (by kernel_rfl) (by kernel_rfl)) ?_
  intro W base args ds gs before hval0 hW _ hS
  have hW' := hW
  obtain ⟨p, q, hA0, hV, rfl, _, _⟩ := hW
  have hA : DataW.TrodAll enc Try.prog W 0 (fun _ => true) true Try.f10.params.toList args.toList ds p := hA0
  rw [Try.params10] at hA
  have hval := hval0
  rw [Try.params10] at hval
  obtain ⟨hspec, hcalls⟩ := law_open hA hval hS
  refine hcalls.mono fun e W' ⟨he, hw⟩ => ?_
  subst he
  exact ⟨_, rfl, post_law law_laidOut (fun t ht => by rw [Try.params10] at ht; exact law_types t ht) (by kernel_rfl) Try.underlying4 rfl hW' (by obtain ⟨d, rfl⟩ := hspec; rfl) hw⟩

theorem law_said : Rows.MsgAnswersSaid :=
  OpenClaim.holds_of_wide 10 Try.f10 rfl rfl rfl rfl rfl rfl rfl ⟨rfl, rfl, rfl, rfl, rfl⟩ rfl rfl rfl rfl rfl (by kernel_rfl) Try.func10 (by kernel_rfl)
    (of_decide_eq_true (by kernel_rfl)) (by unfold Func.isWrapper; first | (rw [if_pos (by decide +kernel)]; kernel_rfl) | (rw [if_neg (by decide +kernel)]; exact ⟨rfl, rfl⟩))
    (fun os started H enc _ => law_lifted os started H enc)
#print axioms law_said
end Go.Proofs.Ytbndinilpflomaa
