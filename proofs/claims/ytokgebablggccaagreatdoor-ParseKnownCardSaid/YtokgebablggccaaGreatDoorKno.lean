/-
  PROVED HERE: lodger/lodgerlaw10.ParseKnown answers true for every input. Conditions: none beside the row's own.
-/
import Derived.Test.YtokgebablggccaaGreatDoorDo
import Derived.Test.YtokgebablggccaaGreatDoorCards
import Derived.Test.YtokgebablggccaaGreatDoorTie
import Derived.ProofKit
import Derived.OpenShut
import Derived.LaidMore
import Derived.Lay
import Derived.SevenTiedAt
import Derived.Stop.Joined
import Derived.ChangeMaps5
import Derived.SliceStrings
import Derived.LaidHandle
namespace Go.Proofs.YtokgebablggccaaGreatDoor
open Go.ChangeShapes Go.WideShapes Go.ChangeAt Go.RowKit Go.ChangeMaps AEv
set_option maxRecDepth 100000

theorem law_own : ownKnob Tryz.prog.godebug = none := by kernel_rfl
theorem law_laidOut : laidOutB Tryz.prog = true := by kernel_rfl
theorem law_fit : Fit Tryz.prog := fit_of (by kernel_rfl) (by kernel_rfl) (by kernel_rfl)
theorem law_shape : shapeB Tryz.prog = true := by kernel_rfl
-- none -- laid -- handle
theorem law_types : ∀ t ∈ (#[] : Array TypeId).toList, Tryz.prog.readableRec t = true ∧ t < Tryz.prog.types.size := fun t ht => by simp at ht
theorem law_card : ∀ (j : Nat) t, (#[] : Array TypeId)[j]? = some t → Tryz.prog.wantsStandIn t = false := fun j t ht => by simp at ht
def laidL : List (String × DataW Unit) := [("unicode/utf8.acceptRanges", Rows.laid_unicode_utf8_acceptRanges), ("unicode.White_Space", Rows.laid_unicode_White_Space), ("strings.asciiSpace", Rows.laid_strings_asciiSpace), ("unicode/utf8.first", Rows.laid_unicode_utf8_first)]
theorem law_parts {W : World} (hL : laidMetH Tryz.prog Rows.parseKnownRow.laid W) : laidMet Tryz.prog laidL W ∧ handlesMet Tryz.prog [("errors.errorType", Lx.erData)] W := hL
noncomputable def laidW (os : Os) : World := (Lx.erW os).layVars Tryz.prog laidL
theorem laidW_os (os : Os) : (laidW os).os = os := World.layVars_os _ _ _
theorem laidW_met (os : Os) (args : Array Value) : laidMetH Tryz.prog Rows.parseKnownRow.laid ((laidW os).forCall (fun _ _ => 0) ⟨#[], args, []⟩).memory :=
  laidMetH_of_parts (laidMet_layAny (laid := laidL) args (by kernel_rfl) (by kernel_rfl)) (by kernel_rfl)
theorem law_open {H : Type} {enc : TypeId × Value → H} {W : World} {base : Nat} {args : Array Value} {ds : List (DataW H)} {p : List MemPlace} (hA : DataW.TrodAll enc Tryz.prog W 0 (fun _ => true) true (#[] : Array TypeId).toList args.toList ds p)
    (hval : ∀ (j : Nat) t v, (#[] : Array TypeId)[j]? = some t → args[j]? = some v → Value.okWide Tryz.prog W .any base t v) (hS : W.ShapedOpen Tryz.prog) (hL : laidMetH Tryz.prog Rows.parseKnownRow.laid W) :
    ds = [] ∧ Calls Tryz.prog 6 args W fun e W' => e = .returned (.bool true) ∧ Below W.heap.size W W' := by
  obtain ⟨rfl, rfl⟩ : args = #[] ∧ ds = [] := by
    obtain ⟨l⟩ := args
    cases l with
    | nil => cases ds with
      | nil => exact ⟨rfl, rfl⟩
      | cons _ _ => exact absurd hA (by intro h; cases h)
    | cons _ _ => exact absurd hA (by intro h; cases h)
  obtain ⟨hL1, hL2⟩ := law_parts hL
  obtain ⟨ps, hlv, _, _⟩ := hL1
  obtain ⟨g0, t0, cs0, f0, p0, q0, hg0, ht0, hv0, hd0, ⟨_, _, _, _, _, _, _, _, _, _, ⟨g1, t1, cs1, f1, p1, q1, hg1, ht1, hv1, hd1, ⟨g3, t3, cs3, f3, p3, q3, hg3, ht3, hv3, hd3, _, _⟩, _⟩, _⟩, _⟩ := hlv
  have hta := Lx.tabs_at hg0 ht0 hv0 hd0 (by kernel_rfl) hg1 ht1 hv1 hd1 (by kernel_rfl) hg3 ht3 hv3 hd3 (by kernel_rfl)
  obtain ⟨el, fz, he⟩ := Lx.handle_of hL2
  obtain ⟨h2, h3, h4⟩ := Lx.start_er (globals_in hS law_shape) hta he [] (by simp)
  exact ⟨rfl, law_of_run (intr := Lx.Ik) (n := 300) law_fit (Lx.Ik_ok law_fit) Tryz.func6 rfl (Lx.pknown_run (elsW W) el fz) h2 h4 h3 rfl⟩

theorem law_lifted (os : Os) (started : os.Started) (H : Type) (enc : TypeId × Value → H) :
    ReturnsInHanded {} Tryz.checked os 6 .any (fun w args => (Rows.parseKnownSpec.pre enc Tryz.prog Tryz.f6 Rows.parseKnownRow.domain false w args ∧ laidMetH Tryz.prog Rows.parseKnownRow.laid w) ∧ sizedMet enc Tryz.prog Tryz.f6 (OpenSpec.ofChange Rows.parseKnownSpec) false w args)
      (Rows.parseKnownSpec.post enc Tryz.prog Tryz.f6 false true false false) := by
  refine handed_both (C := Tryz.checked) (X := fun w _ => laidMetH Tryz.prog Rows.parseKnownRow.laid w) (fun _ _ _ hh h => h.of_heap hh) law_own started (by kernel_rfl) Tryz.func6
    (ChangeSpec.witness_shaped (enc := enc) (C := Tryz.checked) (os := os) (X := fun w _ => laidMetH Tryz.prog Rows.parseKnownRow.laid w) false (laidW os) #[] 8 (laidW_os _)
      (World.shaped_of_ZipB (by kernel_rfl) (by kernel_rfl)) (by kernel_rfl) (by kernel_rfl) (by kernel_rfl)
      (laidW_met _ _)) ?_
  intro W base args ds gs before hval0 hW _ hL hS
  have hW' := hW
  obtain ⟨p, q, hA0, hV, rfl, _, _⟩ := hW
  have hA : DataW.TrodAll enc Tryz.prog W 0 (fun _ => true) true Tryz.f6.params.toList args.toList ds p := hA0
  rw [Tryz.params6] at hA
  have hval := hval0
  rw [Tryz.params6] at hval
  obtain ⟨hspec, hcalls⟩ := law_open hA hval hS hL
  refine hcalls.mono fun e W' ⟨he, hw⟩ => ?_
  subst he
  exact ⟨_, rfl, post_law law_laidOut (fun t ht => by rw [Tryz.params6] at ht; exact law_types t ht) (by kernel_rfl) Tryz.underlying4 rfl hW' (by obtain rfl := hspec; rfl) hw⟩

theorem law_said : Rows.ParseKnownSaid :=
  OpenClaim.holds_of_wide 6 Tryz.f6 rfl rfl rfl rfl rfl rfl rfl ⟨rfl, rfl, rfl, rfl, rfl⟩ rfl rfl rfl rfl rfl (by kernel_rfl) Tryz.func6 (by kernel_rfl)
    (of_decide_eq_true (by kernel_rfl)) (by unfold Func.isWrapper; first | (rw [if_pos (by decide +kernel)]; kernel_rfl) | (rw [if_neg (by decide +kernel)]; exact ⟨rfl, rfl⟩))
    (fun os started H enc _ => law_lifted os started H enc)
theorem law_holds : Rows.ParseKnownCardSaid :=
  Claim7.holds_tied_plain_at .later [] [.data, .handle, .listed, .data, .pinned] true (true, "d858d45b6da1a514e926a579971b6b8fe00da9fab98f4e301e87a26e0501630c") true law_said (fun _ h => by cases h) (by kernel_rfl) (fun _ h => by cases h) parseKnown_row_tie rfl ⟨rfl, rfl⟩ (by kernel_rfl) rfl
    (fun f fn hf hfn => by
      obtain rfl : f = 6 := Option.some.inj ((show Tryz.prog.funcNamed "lodger/lodgerlaw10.ParseKnown" = some 6 by kernel_rfl).symm.trans hf) |>.symm
      obtain rfl : fn = Tryz.f6 := (Option.some.inj (Tryz.func6.symm.trans hfn)).symm
      exact ⟨by kernel_rfl, fun j t ht => by
        rw [Tryz.params6] at ht
        have := law_card j t ht
        exact this⟩)
    (by kernel_rfl)
#print axioms law_holds
end Go.Proofs.YtokgebablggccaaGreatDoor
