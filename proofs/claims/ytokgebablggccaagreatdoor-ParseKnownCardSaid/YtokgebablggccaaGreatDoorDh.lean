/-
  PROVED HERE: contracts of functions (Dh). No condition beside each statement's own.
-/
import Derived.Test.YtokgebablggccaaGreatDoorDa
import Derived.Test.YtokgebablggccaaGreatDoorDe
import Derived.Test.YtokgebablggccaaGreatDoorDc
import Derived.Test.YtokgebablggccaaGreatDoorDg
set_option linter.unusedVariables false
set_option linter.unusedSimpArgs false
namespace Go.Proofs.Lx
open Go AEv Go.Proofs Lexp
set_option maxRecDepth 100000
set_option maxHeartbeats 1000000

/-! ### lex.Lex as an intrinsic: what its contract says -/
theorem start_in0 (els : Nat → Nat) : tabsIn (heapT Tryz.prog.globals.size els tabs []) tabs = true ∧ 7 ≤ (heapT Tryz.prog.globals.size els tabs []).n ∧ (heapT Tryz.prog.globals.size els tabs []).n = Tryz.prog.globals.size := by
  have h1 : Nat.ble 7 Tryz.prog.globals.size = true := by kernel_rfl
  have h2 := Nat.le_of_ble_eq_true h1
  have h3 := (heapT_n Tryz.prog.globals.size els tabs [] tabs_lt).1
  refine ⟨heapT_in tabs_lt (by decide), ?_, ?_⟩
  · rw [h3]; omega
  · rw [h3]; simp
theorem Il0_ok (hf : Fit Tryz.prog) : IntrOK Tryz.prog Il := orE_ok (orE_ok (tabT_ok hf tabs_lt fun e he => by simp [Wl] at he) (intrR_ok hf tabs_lt (Rl_ok hf))) (orE_ok (asI_ok er_ok) (isI_ok er_ok))
def lexI (f : Nat) (args : List AV) (h : AHeap) : Option (AV × AHeap) := match Nat.beq f 18 with
  | false => none
  | true => match args with
    | [.str s] => match Nat.ble s.length 80000 with
      | false => none
      | true => match tabsIn h tabs with
        | false => none
        | true => match lexS s with
          | .ok [] => none
          | .ok (t :: l) => some (.tup [.slice h.n 0 (t :: l).length (.opn 4), .nilI], h.push (.cells (rowL encT (t :: l)) 76 .opn 0 0))
          | .error a => some (.tup [.nilS, .iface 68 (.ptr h.n 0)], h.push (FaultO a))
    | _ => none
theorem rowT_free : ∀ l : List Tk, refFrees (rowL encT l) = true
  | [] => rfl
  | t :: l => by
    rw [rowL_cons]
    show refFrees ([.int .i64 (Int.ofNat t.k), .str t.t, .int .i64 (Int.ofNat t.v), .int .i64 (Int.ofNat t.at')] ++ rowL encT l) = true
    simp only [List.cons_append, List.nil_append, refFrees, refFree, rowT_free l, Bool.and_self]
theorem lexI_ok (hf : Fit Tryz.prog) : IntrOK Tryz.prog lexI := by
  intro f args H v H' hx μ w vs hh hg hv
  unfold lexI at hx
  split at hx
  · cases hx
  · rename_i hfe
    have hfe' : f = 18 := Nat.eq_of_beq_eq_true hfe
    subst hfe'
    split at hx
    · rename_i s
      split at hx
      · cases hx
      · rename_i hs
        have hs' : s.length ≤ 80000 := Nat.le_of_ble_eq_true hs
        split at hx
        · cases hx
        · rename_i hin
          split at hx
          · cases hx
          · rename_i t l ho
            cases hx
            refine one_ok hf tabs_lt (Il0_ok hf) (n := 9) (args := [.str s]) rfl (fun c => .tup [.slice c 0 (t :: l).length (.opn 4), .nilI]) (rowT_free _) ?_ ?_ hin hh hg hv
            · rintro μ1 μ' c d u hd ⟨us, rfl, u1, us1, rfl, ⟨i, hi, q⟩, hr⟩
              exact ⟨_, rfl, _, _, rfl, ⟨i, by rw [hd]; exact hi, q⟩, hr⟩
            · intro els
              obtain ⟨a1, a2, a3⟩ := start_in0 els
              obtain ⟨v, h', c1, hO, x⟩ := (Lex_c 0 s _ a1 a2 hs').1 _ ho
              rcases hO with ⟨_, h0⟩ | ⟨p, rfl, _, hg', hp, _⟩
              · cases h0
              · exact ⟨p, h', c1, hg', by omega⟩
          · rename_i a ho
            cases hx
            refine one_ok hf tabs_lt (Il0_ok hf) (n := 9) (args := [.str s]) rfl (fun c => .tup [.nilS, .iface 68 (.ptr c 0)]) (by rfl) ?_ ?_ hin hh hg hv
            · rintro μ1 μ' c d u hd ⟨us, rfl, u1, us1, rfl, hn, u2, us2, rfl, ⟨y, rfl, i, hi, rfl⟩, hr⟩
              exact ⟨_, rfl, _, _, rfl, hn, _, _, rfl, ⟨_, rfl, i, by rw [hd]; exact hi, rfl⟩, hr⟩
            · intro els
              obtain ⟨a1, a2, a3⟩ := start_in0 els
              obtain ⟨e, h', c1, hg', he, _, _⟩ := (Lex_c 0 s _ a1 a2 hs').2 _ ho
              exact ⟨e, h', c1, hg', by omega⟩
    · cases hx
end Go.Proofs.Lx
