/-
  PROVED HERE: lodger/lodgerlaw10.ParseBinds answers true for every input. Conditions: none beside the row's own.
-/
import Derived.Test.YtokgebablggccaaGreatDoorDn
import Derived.Test.YtokgebablggccaaGreatDoorCards
import Derived.Test.YtokgebablggccaaGreatDoorTie
import Derived.ProofKit
import Derived.OpenShut
import Derived.LaidMore
import Derived.Lay
import Derived.SevenTiedAt
import Derived.Stop.Joined
import Derived.ChangeMaps5
import Derived.SliceStrings
import Derived.LaidHandle
namespace Go.Proofs.YtokgebablggccaaGreatDoor
open Go.ChangeShapes Go.WideShapes Go.ChangeAt Go.RowKit Go.ChangeMaps AEv
set_option maxRecDepth 100000

theorem law_own : ownKnob Tryz.prog.godebug = none := by kernel_rfl
theorem law_laidOut : laidOutB Tryz.prog = true := by kernel_rfl
theorem law_fit : Fit Tryz.prog := fit_of (by kernel_rfl) (by kernel_rfl) (by kernel_rfl)
theorem law_shape : shapeB Tryz.prog = true := by kernel_rfl
-- two -- laid -- handle
theorem law_types : ∀ t ∈ (#[5, 5] : Array TypeId).toList, Tryz.prog.readableRec t = true ∧ t < Tryz.prog.types.size := fun t ht => by
  simp at ht
  subst ht
  exact ⟨by kernel_rfl, of_decide_eq_true (by kernel_rfl)⟩
theorem law_card5 : Tryz.prog.wantsStandIn 5 = false := by kernel_rfl
theorem law_card : ∀ (j : Nat) t, (#[5, 5] : Array TypeId)[j]? = some t → Tryz.prog.wantsStandIn t = false := fun j t ht => by
  have hm : t ∈ [5, 5] := by
    have := List.mem_of_getElem? (l := [5, 5]) (i := j) (by simpa using ht)
    exact this
  obtain rfl : t = 5 := by simpa using hm
  exact law_card5
theorem law_u5 : Tryz.prog.underlying 5 = some (.int .u8) := by kernel_rfl
theorem law_u8 {n : Int} (h : IntKind.u8.has n) : ∃ x : Nat, n = Int.ofNat x ∧ x < 256 := by
  obtain ⟨h1, h2⟩ := h
  have e1 : IntKind.u8.min = 0 := rfl
  have e2 : IntKind.u8.max = 255 := rfl
  rw [e1] at h1; rw [e2] at h2
  exact ⟨n.toNat, by show n = (n.toNat : Int); omega, by omega⟩
def laidL : List (String × DataW Unit) := [("unicode/utf8.acceptRanges", Rows.laid_unicode_utf8_acceptRanges), ("unicode.White_Space", Rows.laid_unicode_White_Space), ("strings.asciiSpace", Rows.laid_strings_asciiSpace), ("unicode/utf8.first", Rows.laid_unicode_utf8_first)]
theorem law_parts {W : World} (hL : laidMetH Tryz.prog Rows.parseBindsRow.laid W) : laidMet Tryz.prog laidL W ∧ handlesMet Tryz.prog [("errors.errorType", Lx.erData)] W := hL
noncomputable def laidW (os : Os) : World := (Lx.erW os).layVars Tryz.prog laidL
theorem laidW_os (os : Os) : (laidW os).os = os := World.layVars_os _ _ _
theorem laidW_met (os : Os) (args : Array Value) : laidMetH Tryz.prog Rows.parseBindsRow.laid ((laidW os).forCall (fun _ _ => 0) ⟨#[], args, []⟩).memory :=
  laidMetH_of_parts (laidMet_layAny (laid := laidL) args (by kernel_rfl) (by kernel_rfl)) (by kernel_rfl)
theorem law_open {H : Type} {enc : TypeId × Value → H} {W : World} {base : Nat} {args : Array Value} {ds : List (DataW H)} {p : List MemPlace} (hA : DataW.TrodAll enc Tryz.prog W 0 (fun _ => true) true (#[5, 5] : Array TypeId).toList args.toList ds p)
    (hval : ∀ (j : Nat) t v, (#[5, 5] : Array TypeId)[j]? = some t → args[j]? = some v → Value.okWide Tryz.prog W .any base t v) (hS : W.ShapedOpen Tryz.prog) (hL : laidMetH Tryz.prog Rows.parseBindsRow.laid W) :
    (∃ d1 d2, ds = [d1, d2]) ∧ Calls Tryz.prog 4 args W fun e W' => e = .returned (.bool true) ∧ Below W.heap.size W W' := by
  obtain ⟨v, v', d, d', _, _, rfl, rfl, _, _, _⟩ := trodAll_two hA
  refine ⟨⟨d, d', rfl⟩, ?_⟩
  have hc : Cell.okWide Tryz.prog W .any base 5 v := by
    have h := hval 0 5 v rfl rfl
    simp only [Value.okWide, law_u5] at h
    exact h
  have hc' : Cell.okWide Tryz.prog W .any base 5 v' := by
    have h := hval 1 5 v' rfl rfl
    simp only [Value.okWide, law_u5] at h
    exact h
  obtain ⟨n, rfl, hn⟩ := cell_int law_u5 hc
  obtain ⟨u, rfl, hu⟩ := law_u8 hn
  obtain ⟨n', rfl, hn'⟩ := cell_int law_u5 hc'
  obtain ⟨u', rfl, hu'⟩ := law_u8 hn'
  obtain ⟨hL1, hL2⟩ := law_parts hL
  obtain ⟨ps, hlv, _, _⟩ := hL1
  obtain ⟨g0, t0, cs0, f0, p0, q0, hg0, ht0, hv0, hd0, ⟨_, _, _, _, _, _, _, _, _, _, ⟨g1, t1, cs1, f1, p1, q1, hg1, ht1, hv1, hd1, ⟨g3, t3, cs3, f3, p3, q3, hg3, ht3, hv3, hd3, _, _⟩, _⟩, _⟩, _⟩ := hlv
  have hta := Lx.tabs_at hg0 ht0 hv0 hd0 (by kernel_rfl) hg1 ht1 hv1 hd1 (by kernel_rfl) hg3 ht3 hv3 hd3 (by kernel_rfl)
  obtain ⟨el, fz, he⟩ := Lx.handle_of hL2
  obtain ⟨h2, h3, h4⟩ := Lx.start_er (globals_in hS law_shape) hta he [] (by simp)
  obtain ⟨h', e⟩ := Lx.binds_c (elsW W) el fz u u'
  exact law_of_run (intr := Lx.Ib) (n := 201) law_fit (Lx.Ib_ok law_fit) Tryz.func4 rfl (congrArg okT e) h2 h4 h3 ⟨_, _, rfl, rfl, _, _, rfl, rfl, rfl⟩

theorem law_lifted (os : Os) (started : os.Started) (H : Type) (enc : TypeId × Value → H) :
    ReturnsInHanded {} Tryz.checked os 4 .any (fun w args => (Rows.parseBindsSpec.pre enc Tryz.prog Tryz.f4 Rows.parseBindsRow.domain false w args ∧ laidMetH Tryz.prog Rows.parseBindsRow.laid w) ∧ sizedMet enc Tryz.prog Tryz.f4 (OpenSpec.ofChange Rows.parseBindsSpec) false w args)
      (Rows.parseBindsSpec.post enc Tryz.prog Tryz.f4 false true false false) := by
  refine handed_both (C := Tryz.checked) (X := fun w _ => laidMetH Tryz.prog Rows.parseBindsRow.laid w) (fun _ _ _ hh h => h.of_heap hh) law_own started (by kernel_rfl) Tryz.func4
    (ChangeSpec.witness_shaped (enc := enc) (C := Tryz.checked) (os := os) (X := fun w _ => laidMetH Tryz.prog Rows.parseBindsRow.laid w) false (laidW os) #[.int .u8 0, .int .u8 0] 8 (laidW_os _)
      (World.shaped_of_ZipB (by kernel_rfl) (by kernel_rfl)) (by kernel_rfl) (by kernel_rfl) (by kernel_rfl)
      (laidW_met _ _)) ?_
  intro W base args ds gs before hval0 hW _ hL hS
  have hW' := hW
  obtain ⟨p, q, hA0, hV, rfl, _, _⟩ := hW
  have hA : DataW.TrodAll enc Tryz.prog W 0 (fun _ => true) true Tryz.f4.params.toList args.toList ds p := hA0
  rw [Tryz.params4] at hA
  have hval := hval0
  rw [Tryz.params4] at hval
  obtain ⟨hspec, hcalls⟩ := law_open hA hval hS hL
  refine hcalls.mono fun e W' ⟨he, hw⟩ => ?_
  subst he
  exact ⟨_, rfl, post_law law_laidOut (fun t ht => by rw [Tryz.params4] at ht; exact law_types t ht) (by kernel_rfl) Tryz.underlying4 rfl hW' (by obtain ⟨d1, d2, rfl⟩ := hspec; rfl) hw⟩

theorem law_said : Rows.ParseBindsSaid :=
  OpenClaim.holds_of_wide 4 Tryz.f4 rfl rfl rfl rfl rfl rfl rfl ⟨rfl, rfl, rfl, rfl, rfl⟩ rfl rfl rfl rfl rfl (by kernel_rfl) Tryz.func4 (by kernel_rfl)
    (of_decide_eq_true (by kernel_rfl)) (by unfold Func.isWrapper; first | (rw [if_pos (by decide +kernel)]; kernel_rfl) | (rw [if_neg (by decide +kernel)]; exact ⟨rfl, rfl⟩))
    (fun os started H enc _ => law_lifted os started H enc)
theorem law_holds : Rows.ParseBindsCardSaid :=
  Claim7.holds_tied_plain_at .later [] [.data, .handle, .listed, .data, .pinned] true (true, "d858d45b6da1a514e926a579971b6b8fe00da9fab98f4e301e87a26e0501630c") true law_said (fun _ h => by cases h) (by kernel_rfl) (fun _ h => by cases h) parseBinds_row_tie rfl ⟨rfl, rfl⟩ (by kernel_rfl) rfl
    (fun f fn hf hfn => by
      obtain rfl : f = 4 := Option.some.inj ((show Tryz.prog.funcNamed "lodger/lodgerlaw10.ParseBinds" = some 4 by kernel_rfl).symm.trans hf) |>.symm
      obtain rfl : fn = Tryz.f4 := (Option.some.inj (Tryz.func4.symm.trans hfn)).symm
      exact ⟨by kernel_rfl, fun j t ht => by
        rw [Tryz.params4] at ht
        have := law_card j t ht
        exact this⟩)
    (by kernel_rfl)
#print axioms law_holds
end Go.Proofs.YtokgebablggccaaGreatDoor
