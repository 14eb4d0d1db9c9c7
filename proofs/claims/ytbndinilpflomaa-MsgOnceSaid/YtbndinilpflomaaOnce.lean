/-
  PROVED HERE: lodger/lodgerlaw27.MsgOnce answers true for every input. Conditions: none beside the row's own.
-/
import Derived.Test.YtbndinilpflomaaDi
import Derived.Test.YtbndinilpflomaaRows
import Derived.ProofKit
import Derived.OpenShut
import Derived.LaidMore
import Derived.Lay
import Derived.SevenTiedAt
import Derived.Stop.Joined
import Derived.ChangeMaps5
import Derived.SliceStrings
namespace Go.Proofs.Ytbndinilpflomaa
open Go.ChangeShapes Go.WideShapes Go.ChangeAt Go.RowKit Go.ChangeMaps AEv
set_option maxRecDepth 100000

theorem law_own : ownKnob Try.prog.godebug = none := by kernel_rfl
theorem law_laidOut : laidOutB Try.prog = true := by kernel_rfl
theorem law_fit : Fit Try.prog := fit_of (by kernel_rfl) (by kernel_rfl) (by kernel_rfl)
theorem law_shape : shapeB Try.prog = true := by kernel_rfl
theorem law_works : ∀ e ∈ Wire.Wk, EntOK Try.prog e := AllE.ok (T := Wire.Wk) ⟨entOK_of law_fit (T := []) trivial (n := 60) (by kernel_rfl), entOK_of law_fit (T := []) trivial (n := 60) (by kernel_rfl), entOK_of law_fit (T := []) trivial (n := 9) (by kernel_rfl), entOK_of law_fit (T := []) trivial (n := 9) (by kernel_rfl), entOK_of law_fit (T := []) trivial (n := 9) (by kernel_rfl), entOK_of law_fit (T := []) trivial (n := 9) (by kernel_rfl), entOK_of law_fit (T := []) trivial (n := 9) (by kernel_rfl), entOK_of law_fit (T := []) trivial (n := 9) (by kernel_rfl), entOK_of law_fit (T := []) trivial (n := 9) (by kernel_rfl), entOK_of law_fit (T := []) trivial (n := 9) (by kernel_rfl), entOK_of law_fit (T := []) trivial (n := 9) (by kernel_rfl), entOK_of law_fit (T := []) trivial (n := 9) (by kernel_rfl), entOK_of law_fit (T := []) trivial (n := 9) (by kernel_rfl), trivial⟩
theorem law_types : ∀ t ∈ (#[9] : Array TypeId).toList, Try.prog.readableRec t = true ∧ t < Try.prog.types.size := fun t ht => by
  simp at ht; subst ht; exact ⟨by kernel_rfl, of_decide_eq_true (by kernel_rfl)⟩
theorem law_open {H : Type} {enc : TypeId × Value → H} {W : World} {base : Nat} {args : Array Value} {ds : List (DataW H)} {p : List MemPlace} (hA : DataW.TrodAll enc Try.prog W 0 (fun _ => true) true (#[9] : Array TypeId).toList args.toList ds p)
    (hval : ∀ (j : Nat) t v, (#[9] : Array TypeId)[j]? = some t → args[j]? = some v → Value.okWide Try.prog W .any base t v) (hS : W.ShapedOpen Try.prog) :
    (∃ d, ds = [d]) ∧ Calls Try.prog 12 args W fun e W' => e = .returned (.bool true) ∧ Below W.heap.size W W' := by
  obtain ⟨v, d, rfl, rfl, h1⟩ := trodAll_one hA
  obtain ⟨s, rfl, _, _, _⟩ := open_string Wire.strt (hval 0 9 v rfl rfl) h1
  obtain ⟨h2, h3, h4⟩ := start_rel (P := Try.prog) (globals_in hS law_shape)
  obtain ⟨h', e⟩ := Wire.once_c s.data.toList (emptyHeap Try.prog.globals.size)
  have hI := Wire.Ii_ok law_fit law_works
  exact ⟨⟨d, rfl⟩, law_of_run (intr := Wire.Ii) (n := 9) law_fit hI Try.func12 rfl (congrArg okT e) h2 h4 h3 ⟨.string s, [], rfl, ⟨s, rfl, rfl⟩, rfl⟩⟩

theorem law_lifted (os : Os) (started : os.Started) (H : Type) (enc : TypeId × Value → H) :
    ReturnsInHanded {} Try.checked os 12 .any (Rows.msgOnceSpec.pre6 enc Try.prog Try.f12 Rows.msgOnceRow.domain false) (Rows.msgOnceSpec.post enc Try.prog Try.f12 false true false false) := by
  refine handed_plain (C := Try.checked) law_own started (by kernel_rfl) Try.func12
    (ChangeSpec.witness6 (enc := enc) (C := Try.checked) false ⟨#[], #[.string ⟨#[]⟩], []⟩ 8 (by kernel_rfl) (by kernel_rfl) (by kernel_rfl) (by kernel_rfl)) ?_
  intro W base args ds gs before hval0 hW _ hS
  have hW' := hW
  obtain ⟨p, q, hA0, hV, rfl, _, _⟩ := hW
  have hA : DataW.TrodAll enc Try.prog W 0 (fun _ => true) true Try.f12.params.toList args.toList ds p := hA0
  rw [Try.params12] at hA
  have hval := hval0
  rw [Try.params12] at hval
  obtain ⟨hspec, hcalls⟩ := law_open hA hval hS
  refine hcalls.mono fun e W' ⟨he, hw⟩ => ?_
  subst he
  exact ⟨_, rfl, post_law law_laidOut (fun t ht => by rw [Try.params12] at ht; exact law_types t ht) (by kernel_rfl) Try.underlying4 rfl hW' (by obtain ⟨d, rfl⟩ := hspec; rfl) hw⟩

theorem law_said : Rows.MsgOnceSaid :=
  OpenClaim.holds_of_wide 12 Try.f12 rfl rfl rfl rfl rfl rfl rfl ⟨rfl, rfl, rfl, rfl, rfl⟩ rfl rfl rfl rfl rfl (by kernel_rfl) Try.func12 (by kernel_rfl)
    (of_decide_eq_true (by kernel_rfl)) (by unfold Func.isWrapper; first | (rw [if_pos (by decide +kernel)]; kernel_rfl) | (rw [if_neg (by decide +kernel)]; exact ⟨rfl, rfl⟩))
    (fun os started H enc _ => law_lifted os started H enc)
#print axioms law_said
end Go.Proofs.Ytbndinilpflomaa
