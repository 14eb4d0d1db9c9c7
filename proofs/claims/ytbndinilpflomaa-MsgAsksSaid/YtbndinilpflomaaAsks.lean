/-
  PROVED HERE: lodger/lodgerlaw27.MsgAsks answers true for every input. Conditions: none beside the row's own.
-/
import Derived.Test.YtbndinilpflomaaPb
import Derived.Test.YtbndinilpflomaaRows
import Derived.ProofKit
import Derived.OpenShut
import Derived.LaidMore
import Derived.Lay
import Derived.SevenTiedAt
import Derived.Stop.Joined
import Derived.ChangeMaps5
import Derived.SliceStrings
namespace Go.Proofs.Ytbndinilpflomaa
open Go.ChangeShapes Go.WideShapes Go.ChangeAt Go.RowKit Go.ChangeMaps AEv
set_option maxRecDepth 100000

theorem law_own : ownKnob Try.prog.godebug = none := by kernel_rfl
theorem law_laidOut : laidOutB Try.prog = true := by kernel_rfl
theorem law_fit : Fit Try.prog := fit_of (by kernel_rfl) (by kernel_rfl) (by kernel_rfl)
theorem law_shape : shapeB Try.prog = true := by kernel_rfl
-- two
theorem law_works : ∀ e ∈ Wire.Wk, EntOK Try.prog e := AllE.ok (T := Wire.Wk) ⟨entOK_of law_fit (T := []) trivial (n := 60) (by kernel_rfl), entOK_of law_fit (T := []) trivial (n := 60) (by kernel_rfl), entOK_of law_fit (T := []) trivial (n := 9) (by kernel_rfl), entOK_of law_fit (T := []) trivial (n := 9) (by kernel_rfl), entOK_of law_fit (T := []) trivial (n := 9) (by kernel_rfl), entOK_of law_fit (T := []) trivial (n := 9) (by kernel_rfl), entOK_of law_fit (T := []) trivial (n := 9) (by kernel_rfl), entOK_of law_fit (T := []) trivial (n := 9) (by kernel_rfl), entOK_of law_fit (T := []) trivial (n := 9) (by kernel_rfl), entOK_of law_fit (T := []) trivial (n := 9) (by kernel_rfl), entOK_of law_fit (T := []) trivial (n := 9) (by kernel_rfl), entOK_of law_fit (T := []) trivial (n := 9) (by kernel_rfl), entOK_of law_fit (T := []) trivial (n := 9) (by kernel_rfl), trivial⟩
theorem law_types : ∀ t ∈ (#[42, 44] : Array TypeId).toList, Try.prog.readableRec t = true ∧ t < Try.prog.types.size := fun t ht => by
  simp at ht
  rcases ht with rfl | rfl
  · exact ⟨by kernel_rfl, of_decide_eq_true (by kernel_rfl)⟩
  · exact ⟨by kernel_rfl, of_decide_eq_true (by kernel_rfl)⟩
theorem law_cells42 : Try.prog.cellTypes Try.prog.depth 42 = some [3, 9, 9, 9] := by kernel_rfl
theorem law_cells44 : Try.prog.cellTypes Try.prog.depth 44 = some [43, 43, 43] := by kernel_rfl
theorem law_u9 : Try.prog.underlying 9 = some .string := by kernel_rfl
theorem law_u3 : Try.prog.underlying 3 = some (.int .i64) := by kernel_rfl
theorem law_u43 : Try.prog.underlying 43 = some (.int .u16) := by kernel_rfl
theorem law_u16 {n : Int} (h : IntKind.u16.has n) : ∃ x : Nat, n = Int.ofNat x ∧ x < 65536 := by
  obtain ⟨h1, h2⟩ := h
  have e1 : IntKind.u16.min = 0 := rfl
  have e2 : IntKind.u16.max = 65535 := rfl
  rw [e1] at h1; rw [e2] at h2
  exact ⟨n.toNat, by show n = (n.toNat : Int); omega, by omega⟩
theorem law_cells4 {cs : List Value} (h : cs.length = 4) : ∃ c0 c1 c2 c3, cs = [c0, c1, c2, c3] := by
  match cs, h with
  | [c0, c1, c2, c3], _ => exact ⟨c0, c1, c2, c3, rfl⟩
theorem law_cells3 {cs : List Value} (h : cs.length = 3) : ∃ c0 c1 c2, cs = [c0, c1, c2] := by
  match cs, h with
  | [c0, c1, c2], _ => exact ⟨c0, c1, c2, rfl⟩
theorem law_open {H : Type} {enc : TypeId × Value → H} {W : World} {base : Nat} {args : Array Value} {ds : List (DataW H)} {p : List MemPlace} (hA : DataW.TrodAll enc Try.prog W 0 (fun _ => true) true (#[42, 44] : Array TypeId).toList args.toList ds p)
    (hval : ∀ (j : Nat) t v, (#[42, 44] : Array TypeId)[j]? = some t → args[j]? = some v → Value.okWide Try.prog W .any base t v) (hS : W.ShapedOpen Try.prog) :
    (∃ d1 d2, ds = [d1, d2]) ∧ Calls Try.prog 8 args W fun e W' => e = .returned (.bool true) ∧ Below W.heap.size W W' := by
  obtain ⟨v, v', d, d', _, _, rfl, rfl, _, _, _⟩ := trodAll_two hA
  obtain ⟨cs, rfl, hl, hc⟩ := okWide_cells (ts := [3, 9, 9, 9]) (by kernel_rfl) law_cells42 (by kernel_rfl) (hval 0 42 v rfl rfl)
  obtain ⟨cs', rfl, hl', hc'⟩ := okWide_cells (ts := [43, 43, 43]) (by kernel_rfl) law_cells44 (by kernel_rfl) (hval 1 44 v' rfl rfl)
  obtain ⟨c0, c1, c2, c3, rfl⟩ := law_cells4 hl
  obtain ⟨x0, x1, x2, rfl⟩ := law_cells3 hl'
  obtain ⟨k, rfl, _⟩ := cell_int law_u3 (hc 0 c0 3 rfl rfl)
  obtain ⟨a, rfl⟩ := cell_string law_u9 (hc 1 c1 9 rfl rfl)
  obtain ⟨b, rfl⟩ := cell_string law_u9 (hc 2 c2 9 rfl rfl)
  obtain ⟨c, rfl⟩ := cell_string law_u9 (hc 3 c3 9 rfl rfl)
  obtain ⟨n0, rfl, q0⟩ := cell_int law_u43 (hc' 0 x0 43 rfl rfl)
  obtain ⟨n1, rfl, q1⟩ := cell_int law_u43 (hc' 1 x1 43 rfl rfl)
  obtain ⟨n2, rfl, q2⟩ := cell_int law_u43 (hc' 2 x2 43 rfl rfl)
  obtain ⟨x, rfl, hx⟩ := law_u16 q0
  obtain ⟨y, rfl, hy⟩ := law_u16 q1
  obtain ⟨z, rfl, hz⟩ := law_u16 q2
  obtain ⟨h2, h3, h4⟩ := start_rel (P := Try.prog) (globals_in hS law_shape)
  obtain ⟨h', e⟩ := Wire.asks_c k x y z a.data.toList b.data.toList c.data.toList (emptyHeap Try.prog.globals.size) hx hy hz
  refine ⟨⟨d, d', rfl⟩, law_of_run (intr := tabIntr Wire.Wk) (n := 7) law_fit (tab_ok law_fit law_works) Try.func8 rfl (congrArg okT e) h2 h4 h3 ?_⟩
  exact ⟨_, _, rfl, ⟨_, rfl, _, _, rfl, rfl, _, _, rfl, ⟨a, rfl, rfl⟩, _, _, rfl, ⟨b, rfl, rfl⟩, _, _, rfl, ⟨c, rfl, rfl⟩, rfl⟩, _, _, rfl, ⟨_, rfl, _, _, rfl, rfl, _, _, rfl, rfl, _, _, rfl, rfl, rfl⟩, rfl⟩

theorem law_lifted (os : Os) (started : os.Started) (H : Type) (enc : TypeId × Value → H) :
    ReturnsInHanded {} Try.checked os 8 .any (Rows.msgAsksSpec.pre6 enc Try.prog Try.f8 Rows.msgAsksRow.domain false) (Rows.msgAsksSpec.post enc Try.prog Try.f8 false true false false) := by
  refine handed_plain (C := Try.checked) law_own started (by kernel_rfl) Try.func8
    (ChangeSpec.witness6 (enc := enc) (C := Try.checked) false ⟨#[], #[.agg #[.int .i64 0, .string ByteArray.empty, .string ByteArray.empty, .string ByteArray.empty], .agg #[.int .u16 0, .int .u16 0, .int .u16 0]], []⟩ 8 (by kernel_rfl) (by kernel_rfl) (by kernel_rfl) (by kernel_rfl)) ?_
  intro W base args ds gs before hval0 hW _ hS
  have hW' := hW
  obtain ⟨p, q, hA0, hV, rfl, _, _⟩ := hW
  have hA : DataW.TrodAll enc Try.prog W 0 (fun _ => true) true Try.f8.params.toList args.toList ds p := hA0
  rw [Try.params8] at hA
  have hval := hval0
  rw [Try.params8] at hval
  obtain ⟨hspec, hcalls⟩ := law_open hA hval hS
  refine hcalls.mono fun e W' ⟨he, hw⟩ => ?_
  subst he
  exact ⟨_, rfl, post_law law_laidOut (fun t ht => by rw [Try.params8] at ht; exact law_types t ht) (by kernel_rfl) Try.underlying4 rfl hW' (by obtain ⟨d1, d2, rfl⟩ := hspec; rfl) hw⟩

theorem law_said : Rows.MsgAsksSaid :=
  OpenClaim.holds_of_wide 8 Try.f8 rfl rfl rfl rfl rfl rfl rfl ⟨rfl, rfl, rfl, rfl, rfl⟩ rfl rfl rfl rfl rfl (by kernel_rfl) Try.func8 (by kernel_rfl)
    (of_decide_eq_true (by kernel_rfl)) (by unfold Func.isWrapper; first | (rw [if_pos (by decide +kernel)]; kernel_rfl) | (rw [if_neg (by decide +kernel)]; exact ⟨rfl, rfl⟩))
    (fun os started H enc _ => law_lifted os started H enc)
#print axioms law_said
end Go.Proofs.Ytbndinilpflomaa
