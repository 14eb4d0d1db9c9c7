/-
  PROVED HERE: contracts of functions (Dh). No condition beside each statement's own.
-/
import Derived.Test.YtlcnhahfgpnanaaGreatDoorDa
import Derived.Test.YtlcnhahfgpnanaaGreatDoorDe
import Derived.Test.YtlcnhahfgpnanaaGreatDoorDc
set_option linter.unusedVariables false
set_option linter.unusedSimpArgs false
namespace Go.Proofs.Lx
open Go AEv Go.Proofs Lexp
set_option maxRecDepth 100000
set_option maxHeartbeats 1000000

/-! ### lex.Lex as an intrinsic: what its contract says -/
theorem start_in0 (els : Nat → Nat) : tabsIn (heapT Tryz.prog.globals.size els tabs []) tabs = true ∧ 9 ≤ (heapT Tryz.prog.globals.size els tabs []).n ∧ (heapT Tryz.prog.globals.size els tabs []).n = Tryz.prog.globals.size := by
  have h1 : Nat.ble 9 Tryz.prog.globals.size = true := by kernel_rfl
  have h2 := Nat.le_of_ble_eq_true h1
  have h3 := (heapT_n Tryz.prog.globals.size els tabs [] tabs_lt).1
  refine ⟨heapT_in tabs_lt (by decide), ?_, ?_⟩
  · rw [h3]; omega
  · rw [h3]; simp
theorem Il0_ok (hf : Fit Tryz.prog) : IntrOK Tryz.prog Il := orE_ok (tabT_ok hf tabs_lt fun e he => by simp [Wl] at he) (intrR_ok hf tabs_lt (Rl_ok hf))
def lexI (f : Nat) (args : List AV) (h : AHeap) : Option (AV × AHeap) := match Nat.beq f 37 with
  | false => none
  | true => match args with
    | [.str s] => match Nat.ble s.length 80000 with
      | false => none
      | true => match tabsIn h tabs with
        | false => none
        | true => match lexS s with
          | .ok [] => none
          | .ok (t :: l) => some (.tup [.slice h.n 0 (t :: l).length (.opn 4), .nilI], h.push (.cells (rowL encT (t :: l)) 64 .opn 0 0))
          | .error a => some (.tup [.nilS, .iface 93 (.ptr h.n 0)], h.push (FaultO a))
    | _ => none
theorem rowT_free : ∀ l : List Tk, refFrees (rowL encT l) = true
  | [] => rfl
  | t :: l => by
    rw [rowL_cons]
    show refFrees ([.int .i64 (Int.ofNat t.k), .str t.t, .int .i64 (Int.ofNat t.v), .int .i64 (Int.ofNat t.at')] ++ rowL encT l) = true
    simp only [List.cons_append, List.nil_append, refFrees, refFree, rowT_free l, Bool.and_self]
theorem lexI_ok (hf : Fit Tryz.prog) : IntrOK Tryz.prog lexI := by
  intro f args H v H' hx μ w vs hh hg hv
  unfold lexI at hx
  split at hx
  · cases hx
  · rename_i hfe
    have hfe' : f = 37 := Nat.eq_of_beq_eq_true hfe
    subst hfe'
    split at hx
    · rename_i s
      split at hx
      · cases hx
      · rename_i hs
        have hs' : s.length ≤ 80000 := Nat.le_of_ble_eq_true hs
        split at hx
        · cases hx
        · rename_i hin
          split at hx
          · cases hx
          · rename_i t l ho
            cases hx
            refine one_ok hf tabs_lt (Il0_ok hf) (n := 9) (args := [.str s]) rfl (fun c => .tup [.slice c 0 (t :: l).length (.opn 4), .nilI]) (rowT_free _) ?_ ?_ hin hh hg hv
            · rintro μ1 μ' c d u hd ⟨us, rfl, u1, us1, rfl, ⟨i, hi, q⟩, hr⟩
              exact ⟨_, rfl, _, _, rfl, ⟨i, by rw [hd]; exact hi, q⟩, hr⟩
            · intro els
              obtain ⟨a1, a2, a3⟩ := start_in0 els
              obtain ⟨v, h', c1, hO, x⟩ := (Lex_c 0 s _ a1 a2 hs').1 _ ho
              rcases hO with ⟨_, h0⟩ | ⟨p, rfl, _, hg', hp, _⟩
              · cases h0
              · exact ⟨p, h', c1, hg', by omega⟩
          · rename_i a ho
            cases hx
            refine one_ok hf tabs_lt (Il0_ok hf) (n := 9) (args := [.str s]) rfl (fun c => .tup [.nilS, .iface 93 (.ptr c 0)]) (by rfl) ?_ ?_ hin hh hg hv
            · rintro μ1 μ' c d u hd ⟨us, rfl, u1, us1, rfl, hn, u2, us2, rfl, ⟨y, rfl, i, hi, rfl⟩, hr⟩
              exact ⟨_, rfl, _, _, rfl, hn, _, _, rfl, ⟨_, rfl, i, by rw [hd]; exact hi, rfl⟩, hr⟩
            · intro els
              obtain ⟨a1, a2, a3⟩ := start_in0 els
              obtain ⟨e, h', c1, hg', he, _, _⟩ := (Lex_c 0 s _ a1 a2 hs').2 _ ho
              exact ⟨e, h', c1, hg', by omega⟩
    · cases hx
end Go.Proofs.Lx

namespace Go.Proofs.Lx
open Go AEv Go.Proofs Lexp
set_option maxRecDepth 100000
set_option maxHeartbeats 1000000

/-! ### sync/atomic's functions, the race detector's marks -/
def atN : AtN := ⟨183, 201, 216, 221⟩
theorem at_ok : AtOK Tryz.prog atN := ⟨⟨⟨Tryz.f183, Tryz.func183, by kernel_rfl, by kernel_rfl, by kernel_rfl, by kernel_rfl⟩⟩,
  ⟨⟨Tryz.f201, Tryz.func201, by kernel_rfl, by kernel_rfl, by kernel_rfl, by kernel_rfl⟩⟩,
  ⟨⟨Tryz.f216, Tryz.func216, by kernel_rfl, by kernel_rfl, by kernel_rfl, by kernel_rfl⟩⟩,
  ⟨⟨Tryz.f221, Tryz.func221, by kernel_rfl, by kernel_rfl, by kernel_rfl, by kernel_rfl⟩⟩⟩
def rcN : RcN := ⟨215, 217, 218, 220⟩
theorem rc_ok : RcOK Tryz.prog rcN := ⟨⟨⟨Tryz.f215, Tryz.func215, by kernel_rfl, by kernel_rfl, by kernel_rfl, by kernel_rfl⟩⟩,
  ⟨⟨Tryz.f217, Tryz.func217, by kernel_rfl, by kernel_rfl, by kernel_rfl, by kernel_rfl⟩⟩,
  ⟨⟨Tryz.f218, Tryz.func218, by kernel_rfl, by kernel_rfl, by kernel_rfl, by kernel_rfl⟩⟩,
  ⟨⟨Tryz.f220, Tryz.func220, by kernel_rfl, by kernel_rfl, by kernel_rfl, by kernel_rfl⟩⟩⟩
/-- What is told within any run. -/
def Iq : Nat → List AV → AHeap → Option (AV × AHeap) := orE lexI (orE (atI atN) (rcI rcN))
theorem Iq_ok (hf : Fit Tryz.prog) : IntrOK Tryz.prog Iq := orE_ok (lexI_ok hf) (orE_ok (atI_ok at_ok) (rcI_ok rc_ok))
end Go.Proofs.Lx

namespace Go.Proofs.Lx
open Go AEv Go.Proofs Lexp
set_option maxRecDepth 100000
set_option maxHeartbeats 1000000
def pow10 : List TabK := [⟨5, .u64, [1, 10, 100, 1000, 10000, 100000, 1000000, 10000000, 100000000, 1000000000, 10000000000, 100000000000, 1000000000000, 10000000000000, 100000000000000, 1000000000000000, 10000000000000000, 100000000000000000, 1000000000000000000, 10000000000000000000]⟩]
theorem pow10_lt : ∀ t ∈ pow10, t.g < Tryz.prog.globals.size := fun t ht => by obtain rfl := List.mem_singleton.1 ht; exact of_decide_eq_true (by kernel_rfl)
noncomputable def heapP (els : Nat → Nat) : AHeap := heapK els pow10 (heapT Tryz.prog.globals.size els tabs [])
theorem pow10_at {W : World} {g t f : Nat} {cs : Array Value} {p : List MemPlace} {d : DataW Unit}
    (hg : Tryz.prog.globalNamed "internal/strconv.uint64pow10" = some g) (ht : (Tryz.prog.globals[g]?).map (·.type) = some t) (hv : W.var? Tryz.prog "internal/strconv.uint64pow10" = some cs) (hd : DataW.trod (fun _ => ()) Tryz.prog W 0 (fun _ => true) false f t cs.toList = some (d, p)) (hx : d = .agg ([1, 10, 100, 1000, 10000, 100000, 1000000, 10000000, 100000000, 1000000000, 10000000000, 100000000000, 1000000000000, 10000000000000, 100000000000000, 1000000000000000, 10000000000000000, 100000000000000000, 1000000000000000000, 10000000000000000000].map fun x => .lit (.int .u64 (Int.ofNat x)))) :
    ∀ t ∈ pow10, t.g < Tryz.prog.globals.size ∧ TabKAt W (elsW W) t := fun t' ht' => by
  have e0 : g = 5 := Option.some.inj (hg.symm.trans (by kernel_rfl))
  subst e0
  have u0 : (Tryz.prog.globals[5]?).map (·.type) = some 287 := by kernel_rfl
  have u0 : t = 287 := Option.some.inj (ht.symm.trans u0)
  subst u0
  have h1 := pow10_lt t' ht'
  refine ⟨h1, ?_⟩
  obtain rfl := List.mem_singleton.1 ht'
  exact tabK_laid (N := 20) (e := 269) (by kernel_rfl) (by kernel_rfl) (by kernel_rfl) hg hv hd _ hx
theorem start_p {W : World} (hG : Tryz.prog.globals.size ≤ W.heap.size) (hta : ∀ t ∈ tabs, t.g < Tryz.prog.globals.size ∧ TabAt W (elsW W) t) (htk : ∀ t ∈ pow10, t.g < Tryz.prog.globals.size ∧ TabKAt W (elsW W) t) :
    HRel (muT Tryz.prog.globals.size (szW W) []) (heapP (elsW W)) W ∧ GRel Tryz.prog (muT Tryz.prog.globals.size (szW W) []) ∧ Roed (heapP (elsW W)) := by
  obtain ⟨h2, h3, h4⟩ := start_tabs (P := Tryz.prog) hG (elsW W) tabs hta [] (by simp)
  obtain ⟨h5, h6⟩ := heapK_start (P := Tryz.prog) pow10 _ htk h2 h4
  exact ⟨h5, h3, h6⟩
end Go.Proofs.Lx
