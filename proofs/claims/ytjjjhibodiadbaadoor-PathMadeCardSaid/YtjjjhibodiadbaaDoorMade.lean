/-
  PROVED HERE: lodger/lodgerlaw05.PathMade answers true for every input. Conditions: none beside the row's own.
-/
import Derived.Test.YtjjjhibodiadbaaDoorP5b
import Derived.Test.YtjjjhibodiadbaaDoorCards
import Derived.Test.YtjjjhibodiadbaaDoorTie
import Derived.ProofKit
import Derived.OpenShut
import Derived.LaidMore
import Derived.Lay
import Derived.SevenTiedAt
import Derived.Stop.Joined
import Derived.ChangeMaps5
import Derived.SliceStrings
namespace Go.Proofs.YtjjjhibodiadbaaDoor
open Go.ChangeShapes Go.WideShapes Go.ChangeAt Go.RowKit Go.ChangeMaps AEv
set_option maxRecDepth 100000

theorem law_own : ownKnob Tryd.prog.godebug = none := by kernel_rfl
theorem law_laidOut : laidOutB Tryd.prog = true := by kernel_rfl
theorem law_fit : Fit Tryd.prog := fit_of (by kernel_rfl) (by kernel_rfl) (by kernel_rfl)
theorem law_shape : shapeB Tryd.prog = true := by kernel_rfl
theorem law_works : ∀ e ∈ P05.Wk, EntOK Tryd.prog e := AllE.ok (T := P05.Wk) ⟨entOK_of law_fit (T := []) trivial (n := 60) (by kernel_rfl), trivial⟩
theorem law_types : ∀ t ∈ (#[27] : Array TypeId).toList, Tryd.prog.readableRec t = true ∧ t < Tryd.prog.types.size := fun t ht => by
  simp at ht; subst ht; exact ⟨by kernel_rfl, of_decide_eq_true (by kernel_rfl)⟩
theorem law_card27 : Tryd.prog.wantsStandIn 27 = false := by kernel_rfl
theorem law_card : ∀ (j : Nat) t, (#[27] : Array TypeId)[j]? = some t → Tryd.prog.wantsStandIn t = false := fun j t ht => by
  have hm : t ∈ [27] := by
    have := List.mem_of_getElem? (l := [27]) (i := j) (by simpa using ht)
    exact this
  obtain rfl : t = 27 := by simpa using hm
  exact law_card27
theorem law_cells9 : Tryd.prog.cellsOf 9 = 1 := by kernel_rfl
theorem law_globals : 0 < Tryd.prog.globals.size := of_decide_eq_true (by kernel_rfl)
theorem law_open {H : Type} {enc : TypeId × Value → H} {W : World} {base : Nat} {args : Array Value} {ds : List (DataW H)} {p : List MemPlace} (hA : DataW.TrodAll enc Tryd.prog W 0 (fun _ => true) true (#[27] : Array TypeId).toList args.toList ds p)
    (hval : ∀ (j : Nat) t v, (#[27] : Array TypeId)[j]? = some t → args[j]? = some v → Value.okWide Tryd.prog W .any base t v) (hS : W.ShapedOpen Tryd.prog) :
    (∃ d, ds = [d]) ∧ Calls Tryd.prog 4 args W fun e W' => e = .returned (.bool true) ∧ Below W.heap.size W W' := by
  obtain ⟨v, d, rfl, rfl, h1⟩ := trodAll_one hA
  refine ⟨⟨d, rfl⟩, ?_⟩
  obtain ⟨a0, len, cap, rfl⟩ := okWide_slice Tryd.underlying27 (hval 0 27 v rfl rfl)
  obtain ⟨fuel, hf⟩ := h1
  have hG := globals_in hS law_shape
  obtain ⟨h2, h3, h4⟩ := start_rel (P := Tryd.prog) hG
  rcases open_strings Tryd.underlying27 Tryd.underlying9 law_cells9 hf with ⟨hcs, hx⟩ | ⟨a, len', cap', ss, hcs, _, hl, hm, hz, hx, hcell, hws⟩
  · simp [Value.cells] at hcs
    obtain ⟨rfl, rfl, rfl⟩ := hcs
    obtain ⟨h', e⟩ := P05.law2_nil (emptyHeap Tryd.prog.globals.size)
    exact law_of_run (intr := tabIntr P05.Wk) (n := 9) law_fit (tab_ok law_fit law_works) Tryd.func4 rfl (congrArg okT e) h2 h4 h3 ⟨_, [], rfl, rfl, rfl⟩
  · simp [Value.cells] at hcs
    obtain ⟨rfl, rfl, rfl⟩ := hcs
    by_cases h0 : len = 0
    · subst h0
      obtain ⟨h', e⟩ := P05.law2_none 0 (emptyHeap Tryd.prog.globals.size)
      exact law_of_run (intr := tabIntr P05.Wk) (n := 9) law_fit (tab_ok law_fit law_works) Tryd.func4 rfl (congrArg okT e) h2 h4 h3 ⟨_, [], rfl, ⟨⟨0, 0, 0⟩, if_pos law_globals, rfl, a, cap, rfl⟩, rfl⟩
    · have hlen : len ≤ ss.length := by
        rw [hz]; simpa using hl
      obtain ⟨μ, el, xs, r1, r2, r3, r4, r5⟩ := start_strs (P := Tryd.prog) (cap := cap) hG (by omega) hlen hcell
      obtain ⟨h', e⟩ := P05.law2_c xs Tryd.prog.globals.size el 0 0 .ro (.exact cap) _ (by rw [heap1_get, if_pos rfl])
      rw [r4] at e
      exact law_of_run (intr := tabIntr P05.Wk) (n := 9) law_fit (tab_ok law_fit law_works) Tryd.func4 rfl (congrArg okT e) r1 r3 r2 r5

theorem law_lifted (os : Os) (started : os.Started) (H : Type) (enc : TypeId × Value → H) :
    ReturnsInHanded {} Tryd.checked os 4 .any (fun w args => (Rows.pathMadeSpec.pre enc Tryd.prog Tryd.f4 Rows.pathMadeRow.domain false w args ∧ laidMetH Tryd.prog Rows.pathMadeRow.laid w) ∧ sizedMet enc Tryd.prog Tryd.f4 (OpenSpec.ofChange Rows.pathMadeSpec) false w args)
      (Rows.pathMadeSpec.post enc Tryd.prog Tryd.f4 false true false false) := by
  refine handed_both (C := Tryd.checked) (X := fun w _ => laidMetH Tryd.prog Rows.pathMadeRow.laid w) (fun _ _ _ hh h => h.of_heap hh) law_own started (by kernel_rfl) Tryd.func4
    (ChangeSpec.witness_shaped (enc := enc) (C := Tryd.checked) (os := os) (X := fun w _ => laidMetH Tryd.prog Rows.pathMadeRow.laid w) false (World.laidAll Tryd.prog os Rows.pathMadeRow.laid) #[.slice none 0 0] 8 (World.laidAll_os _ _ _)
      (World.shaped_of_ZipB (by kernel_rfl) (by kernel_rfl)) (by kernel_rfl) (by kernel_rfl) (by kernel_rfl)
      (by rw [MakeChecks.laidMetH_plain _ _ _ (by kernel_rfl)]; exact laidMet_laidAll _ (by kernel_rfl) (by kernel_rfl))) ?_
  intro W base args ds gs before hval0 hW _ hL hS
  have hW' := hW
  obtain ⟨p, q, hA0, hV, rfl, _, _⟩ := hW
  have hA : DataW.TrodAll enc Tryd.prog W 0 (fun _ => true) true Tryd.f4.params.toList args.toList ds p := hA0
  rw [Tryd.params4] at hA
  have hval := hval0
  rw [Tryd.params4] at hval
  obtain ⟨hspec, hcalls⟩ := law_open hA hval hS
  refine hcalls.mono fun e W' ⟨he, hw⟩ => ?_
  subst he
  exact ⟨_, rfl, post_law law_laidOut (fun t ht => by rw [Tryd.params4] at ht; exact law_types t ht) (by kernel_rfl) Tryd.underlying4 rfl hW' (by obtain ⟨d, rfl⟩ := hspec; rfl) hw⟩

theorem law_said : Rows.PathMadeSaid :=
  OpenClaim.holds_of_wide 4 Tryd.f4 rfl rfl rfl rfl rfl rfl rfl ⟨rfl, rfl, rfl, rfl, rfl⟩ rfl rfl rfl rfl rfl (by kernel_rfl) Tryd.func4 (by kernel_rfl)
    (of_decide_eq_true (by kernel_rfl)) (by unfold Func.isWrapper; first | (rw [if_pos (by decide +kernel)]; kernel_rfl) | (rw [if_neg (by decide +kernel)]; exact ⟨rfl, rfl⟩))
    (fun os started H enc _ => law_lifted os started H enc)
theorem law_holds : Rows.PathMadeCardSaid :=
  Claim7.holds_tied_plain_at .later [] [.data, .pinned] true (true, "45d2f5be674768749e738d7d3d972b9f885badf9e1adc4639f57094677be46ac") true law_said (fun _ h => by cases h) (by kernel_rfl) (fun _ h => by cases h) pathMade_row_tie rfl ⟨rfl, rfl⟩ (by kernel_rfl) rfl
    (fun f fn hf hfn => by
      obtain rfl : f = 4 := Option.some.inj ((show Tryd.prog.funcNamed "lodger/lodgerlaw05.PathMade" = some 4 by kernel_rfl).symm.trans hf) |>.symm
      obtain rfl : fn = Tryd.f4 := (Option.some.inj (Tryd.func4.symm.trans hfn)).symm
      exact ⟨by kernel_rfl, fun j t ht => by
        rw [Tryd.params4] at ht
        have := law_card j t ht
        exact this⟩)
    (by kernel_rfl)
#print axioms law_holds
end Go.Proofs.YtjjjhibodiadbaaDoor
