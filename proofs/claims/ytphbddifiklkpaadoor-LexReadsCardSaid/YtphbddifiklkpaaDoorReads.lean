/-
  PROVED HERE: lodger/lodgerlaw09.LexReads answers true for every input. Conditions: none beside the row's own.
-/
import Derived.Test.YtphbddifiklkpaaDoorDj
import Derived.Test.YtphbddifiklkpaaDoorCards
import Derived.Test.YtphbddifiklkpaaDoorTie
import Derived.ProofKit
import Derived.OpenShut
import Derived.LaidMore
import Derived.Lay
import Derived.SevenTiedAt
import Derived.Stop.Joined
import Derived.ChangeMaps5
import Derived.SliceStrings
import Derived.LaidHandle
namespace Go.Proofs.YtphbddifiklkpaaDoor
open Go.ChangeShapes Go.WideShapes Go.ChangeAt Go.RowKit Go.ChangeMaps AEv
set_option maxRecDepth 100000

theorem law_own : ownKnob Tryd.prog.godebug = none := by kernel_rfl
theorem law_laidOut : laidOutB Tryd.prog = true := by kernel_rfl
theorem law_fit : Fit Tryd.prog := fit_of (by kernel_rfl) (by kernel_rfl) (by kernel_rfl)
theorem law_shape : shapeB Tryd.prog = true := by kernel_rfl
-- laid -- handle
theorem law_types : ∀ t ∈ (#[9] : Array TypeId).toList, Tryd.prog.readableRec t = true ∧ t < Tryd.prog.types.size := fun t ht => by
  simp at ht; subst ht; exact ⟨by kernel_rfl, of_decide_eq_true (by kernel_rfl)⟩
theorem law_card9 : Tryd.prog.wantsStandIn 9 = false := by kernel_rfl
theorem law_card : ∀ (j : Nat) t, (#[9] : Array TypeId)[j]? = some t → Tryd.prog.wantsStandIn t = false := fun j t ht => by
  have hm : t ∈ [9] := by
    have := List.mem_of_getElem? (l := [9]) (i := j) (by simpa using ht)
    exact this
  obtain rfl : t = 9 := by simpa using hm
  exact law_card9
def laidL : List (String × DataW Unit) := [("unicode/utf8.acceptRanges", Rows.laid_unicode_utf8_acceptRanges), ("unicode.White_Space", Rows.laid_unicode_White_Space), ("strings.asciiSpace", Rows.laid_strings_asciiSpace), ("unicode/utf8.first", Rows.laid_unicode_utf8_first)]
theorem law_parts {W : World} (hL : laidMetH Tryd.prog Rows.lexReadsRow.laid W) : laidMet Tryd.prog laidL W ∧ handlesMet Tryd.prog [("errors.errorType", Lx.erData)] W := hL
noncomputable def laidW (os : Os) : World := (Lx.erW os).layVars Tryd.prog laidL
theorem laidW_os (os : Os) : (laidW os).os = os := World.layVars_os _ _ _
theorem laidW_met (os : Os) (args : Array Value) : laidMetH Tryd.prog Rows.lexReadsRow.laid ((laidW os).forCall (fun _ _ => 0) ⟨#[], args, []⟩).memory :=
  laidMetH_of_parts (laidMet_layAny (laid := laidL) args (by kernel_rfl) (by kernel_rfl)) (by kernel_rfl)
theorem law_open {H : Type} {enc : TypeId × Value → H} {W : World} {base : Nat} {args : Array Value} {ds : List (DataW H)} {p : List MemPlace} (hA : DataW.TrodAll enc Tryd.prog W 0 (fun _ => true) true (#[9] : Array TypeId).toList args.toList ds p)
    (hval : ∀ (j : Nat) t v, (#[9] : Array TypeId)[j]? = some t → args[j]? = some v → Value.okWide Tryd.prog W .any base t v) (hS : W.ShapedOpen Tryd.prog) (hL : laidMetH Tryd.prog Rows.lexReadsRow.laid W) :
    (∃ d, ds = [d]) ∧ Calls Tryd.prog 7 args W fun e W' => e = .returned (.bool true) ∧ Below W.heap.size W W' := by
  obtain ⟨v, d, rfl, rfl, h1⟩ := trodAll_one hA
  obtain ⟨s, rfl, _, _, _⟩ := open_string Lx.strt (hval 0 9 v rfl rfl) h1
  obtain ⟨hL1, hL2⟩ := law_parts hL
  obtain ⟨ps, hlv, _, _⟩ := hL1
  obtain ⟨g0, t0, cs0, f0, p0, q0, hg0, ht0, hv0, hd0, ⟨_, _, _, _, _, _, _, _, _, _, ⟨g1, t1, cs1, f1, p1, q1, hg1, ht1, hv1, hd1, ⟨g3, t3, cs3, f3, p3, q3, hg3, ht3, hv3, hd3, _, _⟩, _⟩, _⟩, _⟩ := hlv
  have hta := Lx.tabs_at hg0 ht0 hv0 hd0 (by kernel_rfl) hg1 ht1 hv1 hd1 (by kernel_rfl) hg3 ht3 hv3 hd3 (by kernel_rfl)
  obtain ⟨el, fz, he⟩ := Lx.handle_of hL2
  obtain ⟨h2, h3, h4⟩ := Lx.start_er (globals_in hS law_shape) hta he [] (by simp)
  obtain ⟨h', e⟩ := Lx.reads_c 0 s.data.toList _ (Lx.heapE_mem (elsW W) [] el fz)
  exact ⟨⟨d, rfl⟩, law_of_run (intr := Lx.Il) (n := 10) law_fit (Lx.Il_ok law_fit) Tryd.func7 rfl (congrArg okT e) h2 h4 h3 ⟨.string s, [], rfl, ⟨s, rfl, rfl⟩, rfl⟩⟩

theorem law_lifted (os : Os) (started : os.Started) (H : Type) (enc : TypeId × Value → H) :
    ReturnsInHanded {} Tryd.checked os 7 .any (fun w args => (Rows.lexReadsSpec.pre enc Tryd.prog Tryd.f7 Rows.lexReadsRow.domain false w args ∧ laidMetH Tryd.prog Rows.lexReadsRow.laid w) ∧ sizedMet enc Tryd.prog Tryd.f7 (OpenSpec.ofChange Rows.lexReadsSpec) false w args)
      (Rows.lexReadsSpec.post enc Tryd.prog Tryd.f7 false true false false) := by
  refine handed_both (C := Tryd.checked) (X := fun w _ => laidMetH Tryd.prog Rows.lexReadsRow.laid w) (fun _ _ _ hh h => h.of_heap hh) law_own started (by kernel_rfl) Tryd.func7
    (ChangeSpec.witness_shaped (enc := enc) (C := Tryd.checked) (os := os) (X := fun w _ => laidMetH Tryd.prog Rows.lexReadsRow.laid w) false (laidW os) #[.string ⟨#[]⟩] 8 (laidW_os _)
      (World.shaped_of_ZipB (by kernel_rfl) (by kernel_rfl)) (by kernel_rfl) (by kernel_rfl) (by kernel_rfl)
      (laidW_met _ _)) ?_
  intro W base args ds gs before hval0 hW _ hL hS
  have hW' := hW
  obtain ⟨p, q, hA0, hV, rfl, _, _⟩ := hW
  have hA : DataW.TrodAll enc Tryd.prog W 0 (fun _ => true) true Tryd.f7.params.toList args.toList ds p := hA0
  rw [Tryd.params7] at hA
  have hval := hval0
  rw [Tryd.params7] at hval
  obtain ⟨hspec, hcalls⟩ := law_open hA hval hS hL
  refine hcalls.mono fun e W' ⟨he, hw⟩ => ?_
  subst he
  exact ⟨_, rfl, post_law law_laidOut (fun t ht => by rw [Tryd.params7] at ht; exact law_types t ht) (by kernel_rfl) Tryd.underlying4 rfl hW' (by obtain ⟨d, rfl⟩ := hspec; rfl) hw⟩

theorem law_said : Rows.LexReadsSaid :=
  OpenClaim.holds_of_wide 7 Tryd.f7 rfl rfl rfl rfl rfl rfl rfl ⟨rfl, rfl, rfl, rfl, rfl⟩ rfl rfl rfl rfl rfl (by kernel_rfl) Tryd.func7 (by kernel_rfl)
    (of_decide_eq_true (by kernel_rfl)) (by unfold Func.isWrapper; first | (rw [if_pos (by decide +kernel)]; kernel_rfl) | (rw [if_neg (by decide +kernel)]; exact ⟨rfl, rfl⟩))
    (fun os started H enc _ => law_lifted os started H enc)
theorem law_holds : Rows.LexReadsCardSaid :=
  Claim7.holds_tied_plain_at .later [] [.data, .handle, .listed, .data, .pinned] true (true, "bd8840a5323e62d2260a87979eed4733de69a78bfc3a2033a45f95ea019670ed") true law_said (fun _ h => by cases h) (by kernel_rfl) (fun _ h => by cases h) lexReads_row_tie rfl ⟨rfl, rfl⟩ (by kernel_rfl) rfl
    (fun f fn hf hfn => by
      obtain rfl : f = 7 := Option.some.inj ((show Tryd.prog.funcNamed "lodger/lodgerlaw09.LexReads" = some 7 by kernel_rfl).symm.trans hf) |>.symm
      obtain rfl : fn = Tryd.f7 := (Option.some.inj (Tryd.func7.symm.trans hfn)).symm
      exact ⟨by kernel_rfl, fun j t ht => by
        rw [Tryd.params7] at ht
        have := law_card j t ht
        exact this⟩)
    (by kernel_rfl)
#print axioms law_holds
end Go.Proofs.YtphbddifiklkpaaDoor
