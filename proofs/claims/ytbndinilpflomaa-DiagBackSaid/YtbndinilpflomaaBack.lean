/-
  PROVED HERE: lodger/lodgerlaw26.DiagBack answers true for every input. Conditions: none beside the row's own.
-/
import Derived.Test.YtbndinilpflomaaDg
import Derived.Test.YtbndinilpflomaaRows
import Derived.ProofKit
import Derived.OpenShut
import Derived.LaidMore
import Derived.Lay
import Derived.SevenTiedAt
import Derived.Stop.Joined
import Derived.ChangeMaps5
import Derived.SliceStrings
namespace Go.Proofs.Ytbndinilpflomaa
open Go.ChangeShapes Go.WideShapes Go.ChangeAt Go.RowKit Go.ChangeMaps AEv
set_option maxRecDepth 100000

theorem law_own : ownKnob Try.prog.godebug = none := by kernel_rfl
theorem law_laidOut : laidOutB Try.prog = true := by kernel_rfl
theorem law_fit : Fit Try.prog := fit_of (by kernel_rfl) (by kernel_rfl) (by kernel_rfl)
theorem law_shape : shapeB Try.prog = true := by kernel_rfl
-- two
theorem law_works : ∀ e ∈ Wire.Wk, EntOK Try.prog e := AllE.ok (T := Wire.Wk) ⟨entOK_of law_fit (T := []) trivial (n := 60) (by kernel_rfl), entOK_of law_fit (T := []) trivial (n := 60) (by kernel_rfl), entOK_of law_fit (T := []) trivial (n := 9) (by kernel_rfl), entOK_of law_fit (T := []) trivial (n := 9) (by kernel_rfl), entOK_of law_fit (T := []) trivial (n := 9) (by kernel_rfl), entOK_of law_fit (T := []) trivial (n := 9) (by kernel_rfl), entOK_of law_fit (T := []) trivial (n := 9) (by kernel_rfl), entOK_of law_fit (T := []) trivial (n := 9) (by kernel_rfl), entOK_of law_fit (T := []) trivial (n := 9) (by kernel_rfl), entOK_of law_fit (T := []) trivial (n := 9) (by kernel_rfl), entOK_of law_fit (T := []) trivial (n := 9) (by kernel_rfl), entOK_of law_fit (T := []) trivial (n := 9) (by kernel_rfl), entOK_of law_fit (T := []) trivial (n := 9) (by kernel_rfl), trivial⟩
theorem law_types : ∀ t ∈ (#[22, 9] : Array TypeId).toList, Try.prog.readableRec t = true ∧ t < Try.prog.types.size := fun t ht => by
  simp at ht
  rcases ht with rfl | rfl
  · exact ⟨by kernel_rfl, of_decide_eq_true (by kernel_rfl)⟩
  · exact ⟨by kernel_rfl, of_decide_eq_true (by kernel_rfl)⟩
theorem law_open {H : Type} {enc : TypeId × Value → H} {W : World} {base : Nat} {args : Array Value} {ds : List (DataW H)} {p : List MemPlace} (hA : DataW.TrodAll enc Try.prog W 0 (fun _ => true) true (#[22, 9] : Array TypeId).toList args.toList ds p)
    (hval : ∀ (j : Nat) t v, (#[22, 9] : Array TypeId)[j]? = some t → args[j]? = some v → Value.okWide Try.prog W .any base t v) (hS : W.ShapedOpen Try.prog) :
    (∃ d1 d2, ds = [d1, d2]) ∧ Calls Try.prog 5 args W fun e W' => e = .returned (.bool true) ∧ Below W.heap.size W W' := by
  obtain ⟨v, v', d, d', _, _, rfl, rfl, _, h1, _⟩ := trodAll_two hA
  refine ⟨⟨d, d', rfl⟩, ?_⟩
  obtain ⟨a0, len, cap, rfl⟩ := okWide_slice Wire.dgst (hval 0 22 v rfl rfl)
  obtain ⟨z, rfl⟩ := okWide_string Wire.strt (hval 1 9 v' rfl rfl)
  obtain ⟨fuel, hf⟩ := h1
  have hf' : DataW.trod enc Try.prog W 0 (fun _ => true) true fuel 22 [.slice a0 len cap] = some (d, _) := hf
  have hG := globals_in hS law_shape
  obtain ⟨h2, h3, h4⟩ := start_rel (P := Try.prog) hG
  have hI := Wire.Ii_ok law_fit law_works
  rcases Wire.open_diags hf' with ⟨rfl, rfl, rfl⟩ | ⟨a, rfl, hle, l, hl, hcell⟩
  · obtain ⟨h', e⟩ := Wire.back26_nil z.data.toList (emptyHeap Try.prog.globals.size)
    exact law_of_run (intr := Wire.Ii) (n := 8) law_fit hI Try.func5 rfl (congrArg okT e) h2 h4 h3 ⟨_, _, rfl, rfl, _, _, rfl, ⟨z, rfl, rfl⟩, rfl⟩
  · by_cases h0 : len = 0
    · subst h0
      obtain ⟨h', e⟩ := Wire.back26_dead z.data.toList (emptyHeap (Try.prog.globals.size + 1)) (Nat.succ_pos _)
      obtain ⟨r1, r2, r3, i, r4⟩ := Wire.start_dead (P := Try.prog) hG (Wire.slice_blk Wire.dgst (hval 0 22 _ rfl rfl))
      exact law_of_run (intr := Wire.Ii) (n := 8) law_fit hI Try.func5 rfl (congrArg okT e) r1 r3 r2 ⟨_, _, rfl, ⟨i, r4, rfl, a, cap, rfl⟩, _, _, rfl, ⟨z, rfl, rfl⟩, rfl⟩
    · obtain ⟨μ, el, r1, r2, r3, r4⟩ := Wire.start_diags hG (cap := cap) (by omega) hcell
      obtain ⟨h', e⟩ := Wire.back26_c z.data.toList l Try.prog.globals.size cap el 0 0 .ro [] _ (by rw [heap1_get, if_pos rfl, List.append_nil]) (Nat.lt_succ_self _) (by omega)
      rw [hl] at e r4
      exact law_of_run (intr := Wire.Ii) (n := 8) law_fit hI Try.func5 rfl (congrArg okT e) r1 r3 r2 ⟨_, _, rfl, r4, _, _, rfl, ⟨z, rfl, rfl⟩, rfl⟩

theorem law_lifted (os : Os) (started : os.Started) (H : Type) (enc : TypeId × Value → H) :
    ReturnsInHanded {} Try.checked os 5 .any (Rows.diagBackSpec.pre6 enc Try.prog Try.f5 Rows.diagBackRow.domain false) (Rows.diagBackSpec.post enc Try.prog Try.f5 false true false false) := by
  refine handed_plain (C := Try.checked) law_own started (by kernel_rfl) Try.func5
    (ChangeSpec.witness6 (enc := enc) (C := Try.checked) false ⟨#[], #[.slice none 0 0, .string ⟨#[]⟩], []⟩ 8 (by kernel_rfl) (by kernel_rfl) (by kernel_rfl) (by kernel_rfl)) ?_
  intro W base args ds gs before hval0 hW _ hS
  have hW' := hW
  obtain ⟨p, q, hA0, hV, rfl, _, _⟩ := hW
  have hA : DataW.TrodAll enc Try.prog W 0 (fun _ => true) true Try.f5.params.toList args.toList ds p := hA0
  rw [Try.params5] at hA
  have hval := hval0
  rw [Try.params5] at hval
  obtain ⟨hspec, hcalls⟩ := law_open hA hval hS
  refine hcalls.mono fun e W' ⟨he, hw⟩ => ?_
  subst he
  exact ⟨_, rfl, post_law law_laidOut (fun t ht => by rw [Try.params5] at ht; exact law_types t ht) (by kernel_rfl) Try.underlying4 rfl hW' (by obtain ⟨d1, d2, rfl⟩ := hspec; rfl) hw⟩

theorem law_said : Rows.DiagBackSaid :=
  OpenClaim.holds_of_wide 5 Try.f5 rfl rfl rfl rfl rfl rfl rfl ⟨rfl, rfl, rfl, rfl, rfl⟩ rfl rfl rfl rfl rfl (by kernel_rfl) Try.func5 (by kernel_rfl)
    (of_decide_eq_true (by kernel_rfl)) (by unfold Func.isWrapper; first | (rw [if_pos (by decide +kernel)]; kernel_rfl) | (rw [if_neg (by decide +kernel)]; exact ⟨rfl, rfl⟩))
    (fun os started H enc _ => law_lifted os started H enc)
#print axioms law_said
end Go.Proofs.Ytbndinilpflomaa
