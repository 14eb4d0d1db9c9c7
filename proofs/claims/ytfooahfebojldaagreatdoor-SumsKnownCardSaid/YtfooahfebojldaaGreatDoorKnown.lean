/-
  PROVED HERE: lodger/lodgerlaw19.SumsKnown answers true, by a run of the abstract evaluator that the kernel carries out, some calls told from a table. Conditions: none beside the row's own.
-/
import Derived.Test.YtfooahfebojldaaGreatDoorKnownT
namespace Go.Proofs.YtfooahfebojldaaGreatDoor
open Go.ChangeShapes Go.WideShapes Go.ChangeAt Go.RowKit AEv
set_option maxRecDepth 100000

theorem known_run : okT (callN Tryz.prog (tabIntr known_tab) 400 (.fn 8) [] (emptyHeap Tryz.prog.globals.size)) = true := by kernel_rfl
theorem known_calls {W : World} (hs : W.ShapedOpen Tryz.prog) : Calls Tryz.prog 8 #[] W fun e W' => e = .returned (.bool true) ∧ Below W.heap.size W W' :=
  law_tab known_fit known_all.ok Tryz.func8 rfl known_run (globals_in hs known_shape)

theorem known_lifted (os : Os) (started : os.Started) (H : Type) (enc : TypeId × Value → H) :
    ReturnsInHanded {} Tryz.checked os 8 .any (fun w args => (Rows.sumsKnownSpec.pre enc Tryz.prog Tryz.f8 Rows.sumsKnownRow.domain false w args ∧ laidMetH Tryz.prog Rows.sumsKnownRow.laid w) ∧ sizedMet enc Tryz.prog Tryz.f8 (OpenSpec.ofChange Rows.sumsKnownSpec) false w args)
      (Rows.sumsKnownSpec.post enc Tryz.prog Tryz.f8 false true false false) := by
  refine handed_both (C := Tryz.checked) (X := fun w _ => laidMetH Tryz.prog Rows.sumsKnownRow.laid w) (fun _ _ _ hh h => h.of_heap hh) known_own started (by kernel_rfl) Tryz.func8
    (ChangeSpec.witness_shaped (enc := enc) (C := Tryz.checked) (os := os) (X := fun w _ => laidMetH Tryz.prog Rows.sumsKnownRow.laid w) false (World.laidAll Tryz.prog os Rows.sumsKnownRow.laid) #[] 8 (World.laidAll_os _ _ _)
      (World.shaped_of_ZipB (by kernel_rfl) (by kernel_rfl)) (by kernel_rfl) (by kernel_rfl) (by kernel_rfl)
      (by rw [MakeChecks.laidMetH_plain _ _ _ (by kernel_rfl)]; exact laidMet_laidAll _ (by kernel_rfl) (by kernel_rfl))) ?_
  intro W base args ds gs before hval0 hW _ hL hS
  have hW' := hW
  obtain ⟨p, q, hA0, hV, rfl, _, _⟩ := hW
  have hA : DataW.TrodAll enc Tryz.prog W 0 (fun _ => true) true Tryz.f8.params.toList args.toList ds p := hA0
  rw [Tryz.params8] at hA
  obtain ⟨rfl, rfl, rfl⟩ := trodAll_none hA
  refine (known_calls hS).mono fun e W' ⟨he, hw⟩ => ?_
  subst he
  exact ⟨_, rfl, post_law known_laidOut (fun t ht => by rw [Tryz.params8] at ht; cases ht) (by kernel_rfl) Tryz.underlying4 rfl hW' rfl hw⟩

theorem known_said : Rows.SumsKnownSaid :=
  OpenClaim.holds_of_wide 8 Tryz.f8 rfl rfl rfl rfl rfl rfl rfl ⟨rfl, rfl, rfl, rfl, rfl⟩ rfl rfl rfl rfl rfl (by kernel_rfl) Tryz.func8 (by kernel_rfl)
    (of_decide_eq_true (by kernel_rfl)) (by unfold Func.isWrapper; first | (rw [if_pos (by decide +kernel)]; kernel_rfl) | (rw [if_neg (by decide +kernel)]; exact ⟨rfl, rfl⟩))
    (fun os started H enc _ => known_lifted os started H enc)
theorem known_holds : Rows.SumsKnownCardSaid :=
  Claim7.holds_tied_plain_at .later [] [.data, .pinned] true (true, "c0573774f6049cb0526f7cf2d328633f841b19acab48d8170e88c3ef1576b465") true known_said (fun _ h => by cases h) (by kernel_rfl) (fun _ h => by cases h) sumsKnown_row_tie rfl ⟨rfl, rfl⟩ (by kernel_rfl) rfl
    (fun f fn hf hfn => by
      obtain rfl : f = 8 := Option.some.inj ((show Tryz.prog.funcNamed "lodger/lodgerlaw19.SumsKnown" = some 8 by kernel_rfl).symm.trans hf) |>.symm
      obtain rfl : fn = Tryz.f8 := (Option.some.inj (Tryz.func8.symm.trans hfn)).symm
      exact ⟨by kernel_rfl, fun j t ht => by
        rw [Tryz.params8] at ht
        simp at ht⟩)
    (by kernel_rfl)
#print axioms known_holds
end Go.Proofs.YtfooahfebojldaaGreatDoor
