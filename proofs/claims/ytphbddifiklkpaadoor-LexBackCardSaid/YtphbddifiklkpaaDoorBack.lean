/-
  PROVED HERE: lodger/lodgerlaw09.LexBack answers true for every input. Conditions: none beside the row's own.
-/
import Derived.Test.YtphbddifiklkpaaDoorDh
import Derived.Test.YtphbddifiklkpaaDoorCards
import Derived.Test.YtphbddifiklkpaaDoorTie
import Derived.ProofKit
import Derived.OpenShut
import Derived.LaidMore
import Derived.Lay
import Derived.SevenTiedAt
import Derived.Stop.Joined
import Derived.ChangeMaps5
import Derived.SliceStrings
namespace Go.Proofs.YtphbddifiklkpaaDoor
open Go.ChangeShapes Go.WideShapes Go.ChangeAt Go.RowKit Go.ChangeMaps AEv
set_option maxRecDepth 100000

theorem law_own : ownKnob Tryd.prog.godebug = none := by kernel_rfl
theorem law_laidOut : laidOutB Tryd.prog = true := by kernel_rfl
theorem law_fit : Fit Tryd.prog := fit_of (by kernel_rfl) (by kernel_rfl) (by kernel_rfl)
theorem law_shape : shapeB Tryd.prog = true := by kernel_rfl
-- two -- laid
theorem law_types : ∀ t ∈ (#[9, 31] : Array TypeId).toList, Tryd.prog.readableRec t = true ∧ t < Tryd.prog.types.size := fun t ht => by
  simp at ht
  rcases ht with rfl | rfl
  · exact ⟨by kernel_rfl, of_decide_eq_true (by kernel_rfl)⟩
  · exact ⟨by kernel_rfl, of_decide_eq_true (by kernel_rfl)⟩
theorem law_card9 : Tryd.prog.wantsStandIn 9 = false := by kernel_rfl
theorem law_card31 : Tryd.prog.wantsStandIn 31 = false := by kernel_rfl
theorem law_card : ∀ (j : Nat) t, (#[9, 31] : Array TypeId)[j]? = some t → Tryd.prog.wantsStandIn t = false := fun j t ht => by
  have hm : t ∈ [9, 31] := by
    have := List.mem_of_getElem? (l := [9, 31]) (i := j) (by simpa using ht)
    exact this
  simp only [List.mem_cons, List.not_mem_nil, or_false] at hm
  rcases hm with rfl | rfl
  · exact law_card9
  · exact law_card31
theorem law_cell31 {W : World} {base : Nat} {v : Value} (h : Value.okWide Tryd.prog W .any base 31 v) : Cell.okWide Tryd.prog W .any base 31 v := by
  simp only [Value.okWide, Lx.bytest] at h
  exact h
theorem law_open {H : Type} {enc : TypeId × Value → H} {W : World} {base : Nat} {args : Array Value} {ds : List (DataW H)} {p : List MemPlace} (hA : DataW.TrodAll enc Tryd.prog W 0 (fun _ => true) true (#[9, 31] : Array TypeId).toList args.toList ds p)
    (hval : ∀ (j : Nat) t v, (#[9, 31] : Array TypeId)[j]? = some t → args[j]? = some v → Value.okWide Tryd.prog W .any base t v) (hS : W.ShapedOpen Tryd.prog) (hL : laidMetH Tryd.prog Rows.lexBackRow.laid W) :
    (∃ d1 d2, ds = [d1, d2]) ∧ Calls Tryd.prog 5 args W fun e W' => e = .returned (.bool true) ∧ Below W.heap.size W W' := by
  obtain ⟨v, v', d, d', _, _, rfl, rfl, _, h0, h1⟩ := trodAll_two hA
  obtain ⟨s, rfl, _, _, _⟩ := open_string Lx.strt (hval 0 9 v rfl rfl) h0
  obtain ⟨a0, len, cap, rfl⟩ := okWide_slice Lx.bytest (hval 1 31 v' rfl rfl)
  obtain ⟨fuel, hf⟩ := h1
  have hf' : DataW.trod enc Tryd.prog W 0 (fun _ => true) true fuel 31 [.slice a0 len cap] = some (d', _) := hf
  obtain ⟨bt, rows, hr, hx⟩ := Lx.row_bt hf' (law_cell31 (hval 1 31 _ rfl rfl))
  rw [MakeChecks.laidMetH_plain _ _ _ (by kernel_rfl)] at hL
  obtain ⟨ps, hlv, _, _⟩ := hL
  obtain ⟨g0, t0, cs0, f0, p0, q0, hg0, ht0, hv0, hd0, ⟨_, _, _, _, _, _, _, _, _, _, ⟨g1, t1, cs1, f1, p1, q1, hg1, ht1, hv1, hd1, ⟨g3, t3, cs3, f3, p3, q3, hg3, ht3, hv3, hd3, _, _⟩, _⟩, _⟩, _⟩ := hlv
  have hta := Lx.tabs_at hg0 ht0 hv0 hd0 (by kernel_rfl) hg1 ht1 hv1 hd1 (by kernel_rfl) hg3 ht3 hv3 hd3 (by kernel_rfl)
  obtain ⟨h2, h3, h4⟩ := start_tabs (P := Tryd.prog) (globals_in hS law_shape) (elsW W) Lx.tabs hta rows hr
  obtain ⟨t1, t2⟩ := Lx.start_in (elsW W) (rows.map (·.2))
  obtain ⟨z, hz, hzr⟩ := hx _ _ _ (Lx.rowsT_start (sz := szW W) (els := elsW W) Lx.tabs_lt rows)
  obtain ⟨h', e⟩ := Lx.back_c 0 s.data.toList bt z _ t1 t2 hz
  exact ⟨⟨d, d', rfl⟩, law_of_run (intr := Lx.Il) (n := 21) law_fit (Lx.Il_ok law_fit) Tryd.func5 rfl (congrArg okT e) h2 h4 h3 ⟨.string s, _, rfl, ⟨s, rfl, rfl⟩, _, _, rfl, hzr, rfl⟩⟩

theorem law_lifted (os : Os) (started : os.Started) (H : Type) (enc : TypeId × Value → H) :
    ReturnsInHanded {} Tryd.checked os 5 .any (fun w args => (Rows.lexBackSpec.pre enc Tryd.prog Tryd.f5 Rows.lexBackRow.domain false w args ∧ laidMetH Tryd.prog Rows.lexBackRow.laid w) ∧ sizedMet enc Tryd.prog Tryd.f5 (OpenSpec.ofChange Rows.lexBackSpec) false w args)
      (Rows.lexBackSpec.post enc Tryd.prog Tryd.f5 false true false false) := by
  refine handed_both (C := Tryd.checked) (X := fun w _ => laidMetH Tryd.prog Rows.lexBackRow.laid w) (fun _ _ _ hh h => h.of_heap hh) law_own started (by kernel_rfl) Tryd.func5
    (ChangeSpec.witness_shaped (enc := enc) (C := Tryd.checked) (os := os) (X := fun w _ => laidMetH Tryd.prog Rows.lexBackRow.laid w) false (World.laidAll Tryd.prog os Rows.lexBackRow.laid) #[.string ⟨#[]⟩, .slice none 0 0] 8 (World.laidAll_os _ _ _)
      (World.shaped_of_ZipB (by kernel_rfl) (by kernel_rfl)) (by kernel_rfl) (by kernel_rfl) (by kernel_rfl)
      (by rw [MakeChecks.laidMetH_plain _ _ _ (by kernel_rfl)]; exact laidMet_laidAll _ (by kernel_rfl) (by kernel_rfl))) ?_
  intro W base args ds gs before hval0 hW _ hL hS
  have hW' := hW
  obtain ⟨p, q, hA0, hV, rfl, _, _⟩ := hW
  have hA : DataW.TrodAll enc Tryd.prog W 0 (fun _ => true) true Tryd.f5.params.toList args.toList ds p := hA0
  rw [Tryd.params5] at hA
  have hval := hval0
  rw [Tryd.params5] at hval
  obtain ⟨hspec, hcalls⟩ := law_open hA hval hS hL
  refine hcalls.mono fun e W' ⟨he, hw⟩ => ?_
  subst he
  exact ⟨_, rfl, post_law law_laidOut (fun t ht => by rw [Tryd.params5] at ht; exact law_types t ht) (by kernel_rfl) Tryd.underlying4 rfl hW' (by obtain ⟨d1, d2, rfl⟩ := hspec; rfl) hw⟩

theorem law_said : Rows.LexBackSaid :=
  OpenClaim.holds_of_wide 5 Tryd.f5 rfl rfl rfl rfl rfl rfl rfl ⟨rfl, rfl, rfl, rfl, rfl⟩ rfl rfl rfl rfl rfl (by kernel_rfl) Tryd.func5 (by kernel_rfl)
    (of_decide_eq_true (by kernel_rfl)) (by unfold Func.isWrapper; first | (rw [if_pos (by decide +kernel)]; kernel_rfl) | (rw [if_neg (by decide +kernel)]; exact ⟨rfl, rfl⟩))
    (fun os started H enc _ => law_lifted os started H enc)
theorem law_holds : Rows.LexBackCardSaid :=
  Claim7.holds_tied_plain_at .later [] [.data, .listed, .data, .pinned] true (true, "bd8840a5323e62d2260a87979eed4733de69a78bfc3a2033a45f95ea019670ed") true law_said (fun _ h => by cases h) (by kernel_rfl) (fun _ h => by cases h) lexBack_row_tie rfl ⟨rfl, rfl⟩ (by kernel_rfl) rfl
    (fun f fn hf hfn => by
      obtain rfl : f = 5 := Option.some.inj ((show Tryd.prog.funcNamed "lodger/lodgerlaw09.LexBack" = some 5 by kernel_rfl).symm.trans hf) |>.symm
      obtain rfl : fn = Tryd.f5 := (Option.some.inj (Tryd.func5.symm.trans hfn)).symm
      exact ⟨by kernel_rfl, fun j t ht => by
        rw [Tryd.params5] at ht
        have := law_card j t ht
        exact this⟩)
    (by kernel_rfl)
#print axioms law_holds
end Go.Proofs.YtphbddifiklkpaaDoor
