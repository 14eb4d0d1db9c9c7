/-
  PROVED HERE: lodger/lodgerlaw27.MsgBack answers true for every input. Conditions: none beside the row's own.
-/
import Derived.Test.YtbndinilpflomaaDk
import Derived.Test.YtbndinilpflomaaRows
import Derived.ProofKit
import Derived.OpenShut
import Derived.LaidMore
import Derived.Lay
import Derived.SevenTiedAt
import Derived.Stop.Joined
import Derived.ChangeMaps5
import Derived.SliceStrings
namespace Go.Proofs.Ytbndinilpflomaa
open Go.ChangeShapes Go.WideShapes Go.ChangeAt Go.RowKit Go.ChangeMaps AEv
set_option maxRecDepth 100000

theorem law_own : ownKnob Try.prog.godebug = none := by kernel_rfl
theorem law_laidOut : laidOutB Try.prog = true := by kernel_rfl
theorem law_fit : Fit Try.prog := fit_of (by kernel_rfl) (by kernel_rfl) (by kernel_rfl)
theorem law_shape : shapeB Try.prog = true := by kernel_rfl
-- three
theorem law_works : ∀ e ∈ Wire.Wk, EntOK Try.prog e := AllE.ok (T := Wire.Wk) ⟨entOK_of law_fit (T := []) trivial (n := 60) (by kernel_rfl), entOK_of law_fit (T := []) trivial (n := 60) (by kernel_rfl), entOK_of law_fit (T := []) trivial (n := 9) (by kernel_rfl), entOK_of law_fit (T := []) trivial (n := 9) (by kernel_rfl), entOK_of law_fit (T := []) trivial (n := 9) (by kernel_rfl), entOK_of law_fit (T := []) trivial (n := 9) (by kernel_rfl), entOK_of law_fit (T := []) trivial (n := 9) (by kernel_rfl), entOK_of law_fit (T := []) trivial (n := 9) (by kernel_rfl), entOK_of law_fit (T := []) trivial (n := 9) (by kernel_rfl), entOK_of law_fit (T := []) trivial (n := 9) (by kernel_rfl), entOK_of law_fit (T := []) trivial (n := 9) (by kernel_rfl), entOK_of law_fit (T := []) trivial (n := 9) (by kernel_rfl), entOK_of law_fit (T := []) trivial (n := 9) (by kernel_rfl), trivial⟩
theorem law_types : ∀ t ∈ (#[42, 42, 54] : Array TypeId).toList, Try.prog.readableRec t = true ∧ t < Try.prog.types.size := fun t ht => by
  simp at ht
  rcases ht with rfl | rfl
  · exact ⟨by kernel_rfl, of_decide_eq_true (by kernel_rfl)⟩
  · exact ⟨by kernel_rfl, of_decide_eq_true (by kernel_rfl)⟩
theorem law_cells42 : Try.prog.cellTypes Try.prog.depth 42 = some [3, 9, 9, 9] := by kernel_rfl
theorem law_u9 : Try.prog.underlying 9 = some .string := by kernel_rfl
theorem law_u3 : Try.prog.underlying 3 = some (.int .i64) := by kernel_rfl
theorem law_cells4 {cs : List Value} (h : cs.length = 4) : ∃ c0 c1 c2 c3, cs = [c0, c1, c2, c3] := by
  match cs, h with
  | [c0, c1, c2, c3], _ => exact ⟨c0, c1, c2, c3, rfl⟩
theorem law_rq {W : World} {base : Nat} {v : Value} (h : Value.okWide Try.prog W .any base 42 v) : ∃ (k : Int) (a b c : ByteArray), v = .agg ⟨[.int .i64 k, .string a, .string b, .string c]⟩ := by
  obtain ⟨cs, rfl, hl, hc⟩ := okWide_cells (ts := [3, 9, 9, 9]) (by kernel_rfl) law_cells42 (by kernel_rfl) h
  obtain ⟨c0, c1, c2, c3, rfl⟩ := law_cells4 hl
  obtain ⟨k, rfl, _⟩ := cell_int law_u3 (hc 0 c0 3 rfl rfl)
  obtain ⟨a, rfl⟩ := cell_string law_u9 (hc 1 c1 9 rfl rfl)
  obtain ⟨b, rfl⟩ := cell_string law_u9 (hc 2 c2 9 rfl rfl)
  obtain ⟨c, rfl⟩ := cell_string law_u9 (hc 3 c3 9 rfl rfl)
  exact ⟨k, a, b, c, rfl⟩
theorem law_open {H : Type} {enc : TypeId × Value → H} {W : World} {base : Nat} {args : Array Value} {ds : List (DataW H)} {p : List MemPlace} (hA : DataW.TrodAll enc Try.prog W 0 (fun _ => true) true (#[42, 42, 54] : Array TypeId).toList args.toList ds p)
    (hval : ∀ (j : Nat) t v, (#[42, 42, 54] : Array TypeId)[j]? = some t → args[j]? = some v → Value.okWide Try.prog W .any base t v) (hS : W.ShapedOpen Try.prog) :
    (∃ d1 d2 d3, ds = [d1, d2, d3]) ∧ Calls Try.prog 11 args W fun e W' => e = .returned (.bool true) ∧ Below W.heap.size W W' := by
  obtain ⟨v, v', v'', d, d', d'', _, _, _, rfl, rfl, _, _, _, h1⟩ := trodAll_three hA
  obtain ⟨fuel, hf⟩ := h1
  obtain ⟨k1, a1, b1, c1, rfl⟩ := law_rq (hval 0 42 v rfl rfl)
  obtain ⟨k2, a2, b2, c2, rfl⟩ := law_rq (hval 1 42 v' rfl rfl)
  obtain ⟨cd, nm, t, ps, l, rows, hnm, hr, hx⟩ := Wire.open_rsp (hval 2 54 v'' rfl rfl) hf
  obtain ⟨r1, r2, r3⟩ := start_rows (P := Try.prog) (globals_in hS law_shape) rows hr
  obtain ⟨w, x, q1, q2, q3⟩ := hx _ _ _ Wire.rowsAt_start
  obtain ⟨h', e⟩ := Wire.back_c k1 a1.data.toList b1.data.toList c1.data.toList k2 a2.data.toList b2.data.toList c2.data.toList cd nm hnm t ps l w x _ q1 q2
  have hI := Wire.Ii_ok law_fit law_works
  refine ⟨⟨d, d', d'', rfl⟩, law_of_run (intr := Wire.Ii) (n := 9) law_fit hI Try.func11 rfl (congrArg okT e) r1 r3 r2 ?_⟩
  exact ⟨_, _, rfl, ⟨_, rfl, _, _, rfl, rfl, _, _, rfl, ⟨a1, rfl, rfl⟩, _, _, rfl, ⟨b1, rfl, rfl⟩, _, _, rfl, ⟨c1, rfl, rfl⟩, rfl⟩, _, _, rfl, ⟨_, rfl, _, _, rfl, rfl, _, _, rfl, ⟨a2, rfl, rfl⟩, _, _, rfl, ⟨b2, rfl, rfl⟩, _, _, rfl, ⟨c2, rfl, rfl⟩, rfl⟩, _, _, rfl, q3, rfl⟩

theorem law_lifted (os : Os) (started : os.Started) (H : Type) (enc : TypeId × Value → H) :
    ReturnsInHanded {} Try.checked os 11 .any (Rows.msgBackSpec.pre6 enc Try.prog Try.f11 Rows.msgBackRow.domain false) (Rows.msgBackSpec.post enc Try.prog Try.f11 false true false false) := by
  refine handed_plain (C := Try.checked) law_own started (by kernel_rfl) Try.func11
    (ChangeSpec.witness6 (enc := enc) (C := Try.checked) false ⟨#[], #[.agg #[.int .i64 0, .string ⟨#[]⟩, .string ⟨#[]⟩, .string ⟨#[]⟩], .agg #[.int .i64 0, .string ⟨#[]⟩, .string ⟨#[]⟩, .string ⟨#[]⟩], .agg #[.int .i64 0, .string ⟨#[]⟩, .slice none 0 0, .slice none 0 0, .int .u64 0]], []⟩ 8 (by kernel_rfl) (by kernel_rfl) (by kernel_rfl) (by kernel_rfl)) ?_
  intro W base args ds gs before hval0 hW _ hS
  have hW' := hW
  obtain ⟨p, q, hA0, hV, rfl, _, _⟩ := hW
  have hA : DataW.TrodAll enc Try.prog W 0 (fun _ => true) true Try.f11.params.toList args.toList ds p := hA0
  rw [Try.params11] at hA
  have hval := hval0
  rw [Try.params11] at hval
  obtain ⟨hspec, hcalls⟩ := law_open hA hval hS
  refine hcalls.mono fun e W' ⟨he, hw⟩ => ?_
  subst he
  exact ⟨_, rfl, post_law law_laidOut (fun t ht => by rw [Try.params11] at ht; exact law_types t ht) (by kernel_rfl) Try.underlying4 rfl hW' (by obtain ⟨d1, d2, d3, rfl⟩ := hspec; rfl) hw⟩

theorem law_said : Rows.MsgBackSaid :=
  OpenClaim.holds_of_wide 11 Try.f11 rfl rfl rfl rfl rfl rfl rfl ⟨rfl, rfl, rfl, rfl, rfl⟩ rfl rfl rfl rfl rfl (by kernel_rfl) Try.func11 (by kernel_rfl)
    (of_decide_eq_true (by kernel_rfl)) (by unfold Func.isWrapper; first | (rw [if_pos (by decide +kernel)]; kernel_rfl) | (rw [if_neg (by decide +kernel)]; exact ⟨rfl, rfl⟩))
    (fun os started H enc _ => law_lifted os started H enc)
#print axioms law_said
end Go.Proofs.Ytbndinilpflomaa
