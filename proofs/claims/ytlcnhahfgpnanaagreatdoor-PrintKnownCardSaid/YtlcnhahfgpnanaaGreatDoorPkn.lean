/-
  PROVED HERE: lodger/lodgerlaw11.PrintKnown answers true for every input. Conditions: none beside the row's own.
-/
import Derived.Test.YtlcnhahfgpnanaaGreatDoorDq
import Derived.Test.YtlcnhahfgpnanaaGreatDoorCards
import Derived.Test.YtlcnhahfgpnanaaGreatDoorTie
import Derived.ProofKit
import Derived.OpenShut
import Derived.LaidMore
import Derived.Lay
import Derived.SevenTiedAt
import Derived.Stop.Joined
import Derived.ChangeMaps5
import Derived.SliceStrings
namespace Go.Proofs.YtlcnhahfgpnanaaGreatDoor
open Go.ChangeShapes Go.WideShapes Go.ChangeAt Go.RowKit Go.ChangeMaps AEv
set_option maxRecDepth 100000

theorem law_own : ownKnob Tryz.prog.godebug = none := by kernel_rfl
theorem law_laidOut : laidOutB Tryz.prog = true := by kernel_rfl
theorem law_fit : Fit Tryz.prog := fit_of (by kernel_rfl) (by kernel_rfl) (by kernel_rfl)
theorem law_shape : shapeB Tryz.prog = true := by kernel_rfl
-- none -- laid
theorem law_types : ∀ t ∈ (#[] : Array TypeId).toList, Tryz.prog.readableRec t = true ∧ t < Tryz.prog.types.size := fun t ht => by simp at ht
theorem law_card : ∀ (j : Nat) t, (#[] : Array TypeId)[j]? = some t → Tryz.prog.wantsStandIn t = false := fun j t ht => by simp at ht
theorem law_open {H : Type} {enc : TypeId × Value → H} {W : World} {base : Nat} {args : Array Value} {ds : List (DataW H)} {p : List MemPlace} (hA : DataW.TrodAll enc Tryz.prog W 0 (fun _ => true) true (#[] : Array TypeId).toList args.toList ds p)
    (hval : ∀ (j : Nat) t v, (#[] : Array TypeId)[j]? = some t → args[j]? = some v → Value.okWide Tryz.prog W .any base t v) (hS : W.ShapedOpen Tryz.prog) (hL : laidMetH Tryz.prog Rows.printKnownRow.laid W) :
    ds = [] ∧ Calls Tryz.prog 7 args W fun e W' => e = .returned (.bool true) ∧ Below W.heap.size W W' := by
  obtain ⟨rfl, rfl⟩ : args = #[] ∧ ds = [] := by
    obtain ⟨l⟩ := args
    cases l with
    | nil => cases ds with
      | nil => exact ⟨rfl, rfl⟩
      | cons _ _ => exact absurd hA (by intro h; cases h)
    | cons _ _ => exact absurd hA (by intro h; cases h)
  rw [MakeChecks.laidMetH_plain _ _ _ (by kernel_rfl)] at hL
  obtain ⟨ps, hlv, _, _⟩ := hL
  obtain ⟨_, _, _, _, _, _, _, _, _, _, ⟨_, _, _, _, _, _, _, _, _, _, ⟨gk, tk, csk, fk, pk, qk, hgk, htk, hvk, hdk, ⟨g0, t0, cs0, f0, p0, q0, hg0, ht0, hv0, hd0, ⟨_, _, _, _, _, _, _, _, _, _, ⟨g1, t1, cs1, f1, p1, q1, hg1, ht1, hv1, hd1, ⟨g3, t3, cs3, f3, p3, q3, hg3, ht3, hv3, hd3, _, _⟩, _⟩, _⟩, _⟩, _⟩, _⟩, _⟩ := hlv
  have hta := Lx.tabs_at hg0 ht0 hv0 hd0 (by kernel_rfl) hg1 ht1 hv1 hd1 (by kernel_rfl) hg3 ht3 hv3 hd3 (by kernel_rfl)
  have htk := Lx.pow10_at hgk htk hvk hdk (by kernel_rfl)
  obtain ⟨h2, h3, h4⟩ := Lx.start_p (globals_in hS law_shape) hta htk
  exact ⟨rfl, law_of_run (intr := Lx.Ir) (n := 300) law_fit (Lx.Ir_ok law_fit) Tryz.func7 rfl (Lx.prknown_run (elsW W)) h2 h4 h3 rfl⟩

theorem law_lifted (os : Os) (started : os.Started) (H : Type) (enc : TypeId × Value → H) :
    ReturnsInHanded {} Tryz.checked os 7 .any (fun w args => (Rows.printKnownSpec.pre enc Tryz.prog Tryz.f7 Rows.printKnownRow.domain false w args ∧ laidMetH Tryz.prog Rows.printKnownRow.laid w) ∧ sizedMet enc Tryz.prog Tryz.f7 (OpenSpec.ofChange Rows.printKnownSpec) false w args)
      (Rows.printKnownSpec.post enc Tryz.prog Tryz.f7 false true false false) := by
  refine handed_both (C := Tryz.checked) (X := fun w _ => laidMetH Tryz.prog Rows.printKnownRow.laid w) (fun _ _ _ hh h => h.of_heap hh) law_own started (by kernel_rfl) Tryz.func7
    (ChangeSpec.witness_shaped (enc := enc) (C := Tryz.checked) (os := os) (X := fun w _ => laidMetH Tryz.prog Rows.printKnownRow.laid w) false (World.laidAll Tryz.prog os Rows.printKnownRow.laid) #[] 8 (World.laidAll_os _ _ _)
      (World.shaped_of_ZipB (by kernel_rfl) (by kernel_rfl)) (by kernel_rfl) (by kernel_rfl) (by kernel_rfl)
      (by rw [MakeChecks.laidMetH_plain _ _ _ (by kernel_rfl)]; exact laidMet_laidAll _ (by kernel_rfl) (by kernel_rfl))) ?_
  intro W base args ds gs before hval0 hW _ hL hS
  have hW' := hW
  obtain ⟨p, q, hA0, hV, rfl, _, _⟩ := hW
  have hA : DataW.TrodAll enc Tryz.prog W 0 (fun _ => true) true Tryz.f7.params.toList args.toList ds p := hA0
  rw [Tryz.params7] at hA
  have hval := hval0
  rw [Tryz.params7] at hval
  obtain ⟨hspec, hcalls⟩ := law_open hA hval hS hL
  refine hcalls.mono fun e W' ⟨he, hw⟩ => ?_
  subst he
  exact ⟨_, rfl, post_law law_laidOut (fun t ht => by rw [Tryz.params7] at ht; exact law_types t ht) (by kernel_rfl) Tryz.underlying4 rfl hW' (by obtain rfl := hspec; rfl) hw⟩

theorem law_said : Rows.PrintKnownSaid :=
  OpenClaim.holds_of_wide 7 Tryz.f7 rfl rfl rfl rfl rfl rfl rfl ⟨rfl, rfl, rfl, rfl, rfl⟩ rfl rfl rfl rfl rfl (by kernel_rfl) Tryz.func7 (by kernel_rfl)
    (of_decide_eq_true (by kernel_rfl)) (by unfold Func.isWrapper; first | (rw [if_pos (by decide +kernel)]; kernel_rfl) | (rw [if_neg (by decide +kernel)]; exact ⟨rfl, rfl⟩))
    (fun os started H enc _ => law_lifted os started H enc)
theorem law_holds : Rows.PrintKnownCardSaid :=
  Claim7.holds_tied_plain_at .later [] [.data, .data, .data, .data, .listed, .data, .pinned] true (true, "cc43bd4d7f01e7c69bf44f6a8a24184cc7b1448ff16de56ee00fc2d83627114f") true law_said (fun _ h => by cases h) (by kernel_rfl) (fun _ h => by cases h) printKnown_row_tie rfl ⟨rfl, rfl⟩ (by kernel_rfl) rfl
    (fun f fn hf hfn => by
      obtain rfl : f = 7 := Option.some.inj ((show Tryz.prog.funcNamed "lodger/lodgerlaw11.PrintKnown" = some 7 by kernel_rfl).symm.trans hf) |>.symm
      obtain rfl : fn = Tryz.f7 := (Option.some.inj (Tryz.func7.symm.trans hfn)).symm
      exact ⟨by kernel_rfl, fun j t ht => by
        rw [Tryz.params7] at ht
        have := law_card j t ht
        exact this⟩)
    (by kernel_rfl)
#print axioms law_holds
end Go.Proofs.YtlcnhahfgpnanaaGreatDoor
