/-
  PROVED HERE: lodger/lodgerlaw05.PathCleans answers true for every input. Conditions: none beside the row's own.
-/
import Derived.Test.YtjjjhibodiadbaaDoorP5b
import Derived.Test.YtjjjhibodiadbaaDoorCards
import Derived.Test.YtjjjhibodiadbaaDoorTie
import Derived.ProofKit
import Derived.OpenShut
import Derived.LaidMore
import Derived.Lay
import Derived.SevenTiedAt
import Derived.Stop.Joined
import Derived.ChangeMaps5
import Derived.SliceStrings
namespace Go.Proofs.YtjjjhibodiadbaaDoor
open Go.ChangeShapes Go.WideShapes Go.ChangeAt Go.RowKit Go.ChangeMaps AEv
set_option maxRecDepth 100000

theorem law_own : ownKnob Tryd.prog.godebug = none := by kernel_rfl
theorem law_laidOut : laidOutB Tryd.prog = true := by kernel_rfl
theorem law_fit : Fit Tryd.prog := fit_of (by kernel_rfl) (by kernel_rfl) (by kernel_rfl)
theorem law_shape : shapeB Tryd.prog = true := by kernel_rfl
theorem law_works : ∀ e ∈ P05.Wk, EntOK Tryd.prog e := AllE.ok (T := P05.Wk) ⟨entOK_of law_fit (T := []) trivial (n := 60) (by kernel_rfl), trivial⟩
theorem law_types : ∀ t ∈ (#[9] : Array TypeId).toList, Tryd.prog.readableRec t = true ∧ t < Tryd.prog.types.size := fun t ht => by
  simp at ht; subst ht; exact ⟨by kernel_rfl, of_decide_eq_true (by kernel_rfl)⟩
theorem law_card9 : Tryd.prog.wantsStandIn 9 = false := by kernel_rfl
theorem law_card : ∀ (j : Nat) t, (#[9] : Array TypeId)[j]? = some t → Tryd.prog.wantsStandIn t = false := fun j t ht => by
  have hm : t ∈ [9] := by
    have := List.mem_of_getElem? (l := [9]) (i := j) (by simpa using ht)
    exact this
  obtain rfl : t = 9 := by simpa using hm
  exact law_card9
theorem law_open {H : Type} {enc : TypeId × Value → H} {W : World} {base : Nat} {args : Array Value} {ds : List (DataW H)} {p : List MemPlace} (hA : DataW.TrodAll enc Tryd.prog W 0 (fun _ => true) true (#[9] : Array TypeId).toList args.toList ds p)
    (hval : ∀ (j : Nat) t v, (#[9] : Array TypeId)[j]? = some t → args[j]? = some v → Value.okWide Tryd.prog W .any base t v) (hS : W.ShapedOpen Tryd.prog) :
    (∃ d, ds = [d]) ∧ Calls Tryd.prog 3 args W fun e W' => e = .returned (.bool true) ∧ Below W.heap.size W W' := by
  obtain ⟨v, d, rfl, rfl, h1⟩ := trodAll_one hA
  obtain ⟨s, rfl, _, _, _⟩ := open_string Tryd.underlying9 (hval 0 9 v rfl rfl) h1
  obtain ⟨h2, h3, h4⟩ := start_rel (P := Tryd.prog) (globals_in hS law_shape)
  obtain ⟨h', e⟩ := P05.law1_c s.data.toList (emptyHeap Tryd.prog.globals.size)
  exact ⟨⟨d, rfl⟩, law_of_run (intr := tabIntr P05.Wk) (n := 9) law_fit (tab_ok law_fit law_works) Tryd.func3 rfl (congrArg okT e) h2 h4 h3 ⟨.string s, [], rfl, ⟨s, rfl, rfl⟩, rfl⟩⟩

theorem law_lifted (os : Os) (started : os.Started) (H : Type) (enc : TypeId × Value → H) :
    ReturnsInHanded {} Tryd.checked os 3 .any (fun w args => (Rows.pathCleansSpec.pre enc Tryd.prog Tryd.f3 Rows.pathCleansRow.domain false w args ∧ laidMetH Tryd.prog Rows.pathCleansRow.laid w) ∧ sizedMet enc Tryd.prog Tryd.f3 (OpenSpec.ofChange Rows.pathCleansSpec) false w args)
      (Rows.pathCleansSpec.post enc Tryd.prog Tryd.f3 false true false false) := by
  refine handed_both (C := Tryd.checked) (X := fun w _ => laidMetH Tryd.prog Rows.pathCleansRow.laid w) (fun _ _ _ hh h => h.of_heap hh) law_own started (by kernel_rfl) Tryd.func3
    (ChangeSpec.witness_shaped (enc := enc) (C := Tryd.checked) (os := os) (X := fun w _ => laidMetH Tryd.prog Rows.pathCleansRow.laid w) false (World.laidAll Tryd.prog os Rows.pathCleansRow.laid) #[.string ByteArray.empty] 8 (World.laidAll_os _ _ _)
      (World.shaped_of_ZipB (by kernel_rfl) (by kernel_rfl)) (by kernel_rfl) (by kernel_rfl) (by kernel_rfl)
      (by rw [MakeChecks.laidMetH_plain _ _ _ (by kernel_rfl)]; exact laidMet_laidAll _ (by kernel_rfl) (by kernel_rfl))) ?_
  intro W base args ds gs before hval0 hW _ hL hS
  have hW' := hW
  obtain ⟨p, q, hA0, hV, rfl, _, _⟩ := hW
  have hA : DataW.TrodAll enc Tryd.prog W 0 (fun _ => true) true Tryd.f3.params.toList args.toList ds p := hA0
  rw [Tryd.params3] at hA
  have hval := hval0
  rw [Tryd.params3] at hval
  obtain ⟨hspec, hcalls⟩ := law_open hA hval hS
  refine hcalls.mono fun e W' ⟨he, hw⟩ => ?_
  subst he
  exact ⟨_, rfl, post_law law_laidOut (fun t ht => by rw [Tryd.params3] at ht; exact law_types t ht) (by kernel_rfl) Tryd.underlying4 rfl hW' (by obtain ⟨d, rfl⟩ := hspec; rfl) hw⟩

theorem law_said : Rows.PathCleansSaid :=
  OpenClaim.holds_of_wide 3 Tryd.f3 rfl rfl rfl rfl rfl rfl rfl ⟨rfl, rfl, rfl, rfl, rfl⟩ rfl rfl rfl rfl rfl (by kernel_rfl) Tryd.func3 (by kernel_rfl)
    (of_decide_eq_true (by kernel_rfl)) (by unfold Func.isWrapper; first | (rw [if_pos (by decide +kernel)]; kernel_rfl) | (rw [if_neg (by decide +kernel)]; exact ⟨rfl, rfl⟩))
    (fun os started H enc _ => law_lifted os started H enc)
theorem law_holds : Rows.PathCleansCardSaid :=
  Claim7.holds_tied_plain_at .later [] [.data, .pinned] true (true, "45d2f5be674768749e738d7d3d972b9f885badf9e1adc4639f57094677be46ac") true law_said (fun _ h => by cases h) (by kernel_rfl) (fun _ h => by cases h) pathCleans_row_tie rfl ⟨rfl, rfl⟩ (by kernel_rfl) rfl
    (fun f fn hf hfn => by
      obtain rfl : f = 3 := Option.some.inj ((show Tryd.prog.funcNamed "lodger/lodgerlaw05.PathCleans" = some 3 by kernel_rfl).symm.trans hf) |>.symm
      obtain rfl : fn = Tryd.f3 := (Option.some.inj (Tryd.func3.symm.trans hfn)).symm
      exact ⟨by kernel_rfl, fun j t ht => by
        rw [Tryd.params3] at ht
        have := law_card j t ht
        exact this⟩)
    (by kernel_rfl)
#print axioms law_holds
end Go.Proofs.YtjjjhibodiadbaaDoor
