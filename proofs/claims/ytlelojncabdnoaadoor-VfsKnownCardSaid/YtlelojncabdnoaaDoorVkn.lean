/-
  PROVED HERE: lodger/lodgerlaw07.VfsKnown answers true for every input. Conditions: none beside the row's own.
-/
import Derived.Test.YtlelojncabdnoaaDoorDd
import Derived.Test.YtlelojncabdnoaaDoorCards
import Derived.Test.YtlelojncabdnoaaDoorTie
import Derived.ProofKit
import Derived.OpenShut
import Derived.LaidMore
import Derived.Lay
import Derived.SevenTiedAt
import Derived.Stop.Joined
import Derived.ChangeMaps5
import Derived.SliceStrings
namespace Go.Proofs.YtlelojncabdnoaaDoor
open Go.ChangeShapes Go.WideShapes Go.ChangeAt Go.RowKit Go.ChangeMaps AEv
set_option maxRecDepth 100000

theorem law_own : ownKnob Tryd.prog.godebug = none := by kernel_rfl
theorem law_laidOut : laidOutB Tryd.prog = true := by kernel_rfl
theorem law_fit : Fit Tryd.prog := fit_of (by kernel_rfl) (by kernel_rfl) (by kernel_rfl)
theorem law_shape : shapeB Tryd.prog = true := by kernel_rfl
-- none -- laid
theorem law_types : ∀ t ∈ (#[] : Array TypeId).toList, Tryd.prog.readableRec t = true ∧ t < Tryd.prog.types.size := fun t ht => by simp at ht
theorem law_card : ∀ (j : Nat) t, (#[] : Array TypeId)[j]? = some t → Tryd.prog.wantsStandIn t = false := fun j t ht => by simp at ht
theorem law_open {H : Type} {enc : TypeId × Value → H} {W : World} {base : Nat} {args : Array Value} {ds : List (DataW H)} {p : List MemPlace} (hA : DataW.TrodAll enc Tryd.prog W 0 (fun _ => true) true (#[] : Array TypeId).toList args.toList ds p)
    (hval : ∀ (j : Nat) t v, (#[] : Array TypeId)[j]? = some t → args[j]? = some v → Value.okWide Tryd.prog W .any base t v) (hS : W.ShapedOpen Tryd.prog) (hL : laidMetH Tryd.prog Rows.vfsKnownRow.laid W) :
    ds = [] ∧ Calls Tryd.prog 5 args W fun e W' => e = .returned (.bool true) ∧ Below W.heap.size W W' := by
  obtain ⟨rfl, rfl⟩ : args = #[] ∧ ds = [] := by
    obtain ⟨l⟩ := args
    cases l with
    | nil => cases ds with
      | nil => exact ⟨rfl, rfl⟩
      | cons _ _ => exact absurd hA (by intro h; cases h)
    | cons _ _ => exact absurd hA (by intro h; cases h)
  obtain ⟨h2, h3, h4⟩ := start_tabs (P := Tryd.prog) (globals_in hS law_shape) (fun _ => 0) [] (fun t ht => by cases ht) [] (by simp)
  exact ⟨rfl, law_of_run (intr := Vf.Iv) (n := 200) law_fit (Vf.Iv_ok law_fit) Tryd.func5 rfl (Vf.vknown_run (fun _ => 0)) h2 h4 h3 rfl⟩

theorem law_lifted (os : Os) (started : os.Started) (H : Type) (enc : TypeId × Value → H) :
    ReturnsInHanded {} Tryd.checked os 5 .any (fun w args => (Rows.vfsKnownSpec.pre enc Tryd.prog Tryd.f5 Rows.vfsKnownRow.domain false w args ∧ laidMetH Tryd.prog Rows.vfsKnownRow.laid w) ∧ sizedMet enc Tryd.prog Tryd.f5 (OpenSpec.ofChange Rows.vfsKnownSpec) false w args)
      (Rows.vfsKnownSpec.post enc Tryd.prog Tryd.f5 false true false false) := by
  refine handed_both (C := Tryd.checked) (X := fun w _ => laidMetH Tryd.prog Rows.vfsKnownRow.laid w) (fun _ _ _ hh h => h.of_heap hh) law_own started (by kernel_rfl) Tryd.func5
    (ChangeSpec.witness_shaped (enc := enc) (C := Tryd.checked) (os := os) (X := fun w _ => laidMetH Tryd.prog Rows.vfsKnownRow.laid w) false (World.laidAll Tryd.prog os Rows.vfsKnownRow.laid) #[] 8 (World.laidAll_os _ _ _)
      (World.shaped_of_ZipB (by kernel_rfl) (by kernel_rfl)) (by kernel_rfl) (by kernel_rfl) (by kernel_rfl)
      (by rw [MakeChecks.laidMetH_plain _ _ _ (by kernel_rfl)]; exact laidMet_laidAll _ (by kernel_rfl) (by kernel_rfl))) ?_
  intro W base args ds gs before hval0 hW _ hL hS
  have hW' := hW
  obtain ⟨p, q, hA0, hV, rfl, _, _⟩ := hW
  have hA : DataW.TrodAll enc Tryd.prog W 0 (fun _ => true) true Tryd.f5.params.toList args.toList ds p := hA0
  rw [Tryd.params5] at hA
  have hval := hval0
  rw [Tryd.params5] at hval
  obtain ⟨hspec, hcalls⟩ := law_open hA hval hS hL
  refine hcalls.mono fun e W' ⟨he, hw⟩ => ?_
  subst he
  exact ⟨_, rfl, post_law law_laidOut (fun t ht => by rw [Tryd.params5] at ht; exact law_types t ht) (by kernel_rfl) Tryd.underlying4 rfl hW' (by obtain rfl := hspec; rfl) hw⟩

theorem law_said : Rows.VfsKnownSaid :=
  OpenClaim.holds_of_wide 5 Tryd.f5 rfl rfl rfl rfl rfl rfl rfl ⟨rfl, rfl, rfl, rfl, rfl⟩ rfl rfl rfl rfl rfl (by kernel_rfl) Tryd.func5 (by kernel_rfl)
    (of_decide_eq_true (by kernel_rfl)) (by unfold Func.isWrapper; first | (rw [if_pos (by decide +kernel)]; kernel_rfl) | (rw [if_neg (by decide +kernel)]; exact ⟨rfl, rfl⟩))
    (fun os started H enc _ => law_lifted os started H enc)
theorem law_holds : Rows.VfsKnownCardSaid :=
  Claim7.holds_tied_plain_at .later [] [.data, .pinned] true (true, "dae1913e748e28fcac2054cb47c076656b715ccc66b6921e12ea90f1ad0967c7") true law_said (fun _ h => by cases h) (by kernel_rfl) (fun _ h => by cases h) vfsKnown_row_tie rfl ⟨rfl, rfl⟩ (by kernel_rfl) rfl
    (fun f fn hf hfn => by
      obtain rfl : f = 5 := Option.some.inj ((show Tryd.prog.funcNamed "lodger/lodgerlaw07.VfsKnown" = some 5 by kernel_rfl).symm.trans hf) |>.symm
      obtain rfl : fn = Tryd.f5 := (Option.some.inj (Tryd.func5.symm.trans hfn)).symm
      exact ⟨by kernel_rfl, fun j t ht => by
        rw [Tryd.params5] at ht
        have := law_card j t ht
        exact this⟩)
    (by kernel_rfl)
#print axioms law_holds
end Go.Proofs.YtlelojncabdnoaaDoor
