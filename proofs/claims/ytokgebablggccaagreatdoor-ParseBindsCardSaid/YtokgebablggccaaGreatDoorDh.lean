/-
  PROVED HERE: contracts of functions (Dh). No condition beside each statement's own.
-/
import Derived.Test.YtokgebablggccaaGreatDoorDa
import Derived.Test.YtokgebablggccaaGreatDoorDe
import Derived.Test.YtokgebablggccaaGreatDoorDc
import Derived.Test.YtokgebablggccaaGreatDoorDg
set_option linter.unusedVariables false
set_option linter.unusedSimpArgs false
namespace Go.Proofs.Lx
open Go AEv Go.Proofs Lexp
set_option maxRecDepth 100000
set_option maxHeartbeats 1000000

/-! ### lex.Lex as an intrinsic: what its contract says -/
theorem start_in0 (els : Nat → Nat) : tabsIn (heapT Tryz.prog.globals.size els tabs []) tabs = true ∧ 7 ≤ (heapT Tryz.prog.globals.size els tabs []).n ∧ (heapT Tryz.prog.globals.size els tabs []).n = Tryz.prog.globals.size := by
  have h1 : Nat.ble 7 Tryz.prog.globals.size = true := by kernel_rfl
  have h2 := Nat.le_of_ble_eq_true h1
  have h3 := (heapT_n Tryz.prog.globals.size els tabs [] tabs_lt).1
  refine ⟨heapT_in tabs_lt (by decide), ?_, ?_⟩
  · rw [h3]; omega
  · rw [h3]; simp
theorem Il0_ok (hf : Fit Tryz.prog) : IntrOK Tryz.prog Il := orE_ok (orE_ok (tabT_ok hf tabs_lt fun e he => by simp [Wl] at he) (intrR_ok hf tabs_lt (Rl_ok hf))) (orE_ok (asI_ok er_ok) (isI_ok er_ok))
def lexI (f : Nat) (args : List AV) (h : AHeap) : Option (AV × AHeap) := match Nat.beq f 18 with
  | false => none
  | true => match args with
    | [.str s] => match Nat.ble s.length 80000 with
      | false => none
      | true => match tabsIn h tabs with
        | false => none
        | true => match lexS s with
          | .ok [] => none
          | .ok (t :: l) => some (.tup [.slice h.n 0 (t :: l).length (.opn 4), .nilI], h.push (.cells (rowL encT (t :: l)) 76 .opn 0 0))
          | .error a => some (.tup [.nilS, .iface 68 (.ptr h.n 0)], h.push (FaultO a))
    | _ => none
theorem rowT_free : ∀ l : List Tk, refFrees (rowL encT l) = true
  | [] => rfl
  | t :: l => by
    rw [rowL_cons]
    show refFrees ([.int .i64 (Int.ofNat t.k), .str t.t, .int .i64 (Int.ofNat t.v), .int .i64 (Int.ofNat t.at')] ++ rowL encT l) = true
    simp only [List.cons_append, List.nil_append, refFrees, refFree, rowT_free l, Bool.and_self]
theorem lexI_ok (hf : Fit Tryz.prog) : IntrOK Tryz.prog lexI := by
  intro f args H v H' hx μ w vs hh hg hv
  unfold lexI at hx
  split at hx
  · cases hx
  · rename_i hfe
    have hfe' : f = 18 := Nat.eq_of_beq_eq_true hfe
    subst hfe'
    split at hx
    · rename_i s
      split at hx
      · cases hx
      · rename_i hs
        have hs' : s.length ≤ 80000 := Nat.le_of_ble_eq_true hs
        split at hx
        · cases hx
        · rename_i hin
          split at hx
          · cases hx
          · rename_i t l ho
            cases hx
            refine one_ok hf tabs_lt (Il0_ok hf) (n := 9) (args := [.str s]) rfl (fun c => .tup [.slice c 0 (t :: l).length (.opn 4), .nilI]) (rowT_free _) ?_ ?_ hin hh hg hv
            · rintro μ1 μ' c d u hd ⟨us, rfl, u1, us1, rfl, ⟨i, hi, q⟩, hr⟩
              exact ⟨_, rfl, _, _, rfl, ⟨i, by rw [hd]; exact hi, q⟩, hr⟩
            · intro els
              obtain ⟨a1, a2, a3⟩ := start_in0 els
              obtain ⟨v, h', c1, hO, x⟩ := (Lex_c 0 s _ a1 a2 hs').1 _ ho
              rcases hO with ⟨_, h0⟩ | ⟨p, rfl, _, hg', hp, _⟩
              · cases h0
              · exact ⟨p, h', c1, hg', by omega⟩
          · rename_i a ho
            cases hx
            refine one_ok hf tabs_lt (Il0_ok hf) (n := 9) (args := [.str s]) rfl (fun c => .tup [.nilS, .iface 68 (.ptr c 0)]) (by rfl) ?_ ?_ hin hh hg hv
            · rintro μ1 μ' c d u hd ⟨us, rfl, u1, us1, rfl, hn, u2, us2, rfl, ⟨y, rfl, i, hi, rfl⟩, hr⟩
              exact ⟨_, rfl, _, _, rfl, hn, _, _, rfl, ⟨_, rfl, i, by rw [hd]; exact hi, rfl⟩, hr⟩
            · intro els
              obtain ⟨a1, a2, a3⟩ := start_in0 els
              obtain ⟨e, h', c1, hg', he, _, _⟩ := (Lex_c 0 s _ a1 a2 hs').2 _ ho
              exact ⟨e, h', c1, hg', by omega⟩
    · cases hx
end Go.Proofs.Lx

namespace Go.Proofs.Lx
open Go AEv Go.Proofs Lexp
set_option maxRecDepth 100000
set_option maxHeartbeats 1000000
/- lodger/lodgerlaw10.value '1 + 2 * y.z(3)' -/
noncomputable def ePw_0 : EntR := ⟨14, [.str [49, 32, 43, 32, 50, 32, 42, 32, 121, 46, 122, 40, 51, 41]], .ret (.tup [.ptr 363 0, .nilI]) (mkH 1159 [(260, .cells [.int .i64 (1), .int .i64 (8), .int .i64 (1), .str [], .nilP, .nilP, .nilP, .nilP, .nilS, .nilS, .nilS] 61 .own 0 0), (363, .cells [.int .i64 (13), .int .i64 (10), .int .i64 (0), .str [43], .ptr 260 0, .ptr 495 0, .nilP, .nilP, .nilS, .nilS, .nilS] 61 .own 0 0), (418, .cells [.int .i64 (1), .int .i64 (12), .int .i64 (2), .str [], .nilP, .nilP, .nilP, .nilP, .nilS, .nilS, .nilS] 61 .own 0 0), (495, .cells [.int .i64 (13), .int .i64 (14), .int .i64 (0), .str [42], .ptr 418 0, .ptr 975 0, .nilP, .nilP, .nilS, .nilS, .nilS] 61 .own 0 0), (544, .cells [.int .i64 (6), .int .i64 (16), .int .i64 (0), .str [121], .nilP, .nilP, .nilP, .nilP, .nilS, .nilS, .nilS] 61 .own 0 0), (585, .cells [.int .i64 (7), .int .i64 (17), .int .i64 (0), .str [122], .ptr 544 0, .nilP, .nilP, .nilP, .nilS, .nilS, .nilS] 61 .own 0 0), (774, .cells [.int .i64 (1), .int .i64 (20), .int .i64 (3), .str [], .nilP, .nilP, .nilP, .nilP, .nilS, .nilS, .nilS] 61 .own 0 0), (946, .cells [.ptr 774 0] 40 .opn 0 0), (975, .cells [.int .i64 (9), .int .i64 (19), .int .i64 (0), .str [], .ptr 585 0, .nilP, .nilP, .nilP, .nilS, .nilS, .slice 946 0 1 (.opn 1)] 61 .own 0 0)])⟩
theorem ePw_0_ok (hf : Fit Tryz.prog) : EntSOK Tryz.prog tabs ePw_0 := ⟨lexI, 200, lexI_ok hf, rfl, fun els => by kernel_rfl⟩
/- lodger/parse.Parse 'fun f(a: int, b) = fn(c) => c' -/
noncomputable def ePw_1 : EntR := ⟨9, [.str [102, 117, 110, 32, 102, 40, 97, 58, 32, 105, 110, 116, 44, 32, 98, 41, 32, 61, 32, 102, 110, 40, 99, 41, 32, 61, 62, 32, 99]], .ret (.tup [.slice 834 0 1 (.opn 1), .nilI]) (mkH 847 [(41, .cells [.int .i64 (4), .int .i64 (0), .str [102], .str [], .nilP, .ptr 377 0, .slice 290 0 2 (.opn 1), .slice 306 0 2 (.opn 1)] 51 .own 0 0), (204, .cells [.int .i64 (1), .int .i64 (9), .str [], .str [], .nilS, .nilS, .nilP] 58 .own 0 0), (290, .cells [.str [97], .str [98]] 9 .opn 0 0), (306, .cells [.ptr 204 0, .nilP] 47 .opn 0 0), (377, .cells [.int .i64 (10), .int .i64 (19), .int .i64 (0), .str [], .ptr 663 0, .nilP, .nilP, .nilP, .slice 470 0 1 (.opn 1), .slice 486 0 1 (.opn 1), .nilS] 61 .own 0 0), (470, .cells [.str [99]] 9 .opn 0 0), (486, .cells [.nilP] 47 .opn 0 0), (663, .cells [.int .i64 (6), .int .i64 (28), .int .i64 (0), .str [99], .nilP, .nilP, .nilP, .nilP, .nilS, .nilS, .nilS] 61 .own 0 0), (834, .cells [.ptr 41 0] 52 .opn 0 0)])⟩
theorem ePw_1_ok (hf : Fit Tryz.prog) : EntSOK Tryz.prog tabs ePw_1 := ⟨lexI, 200, lexI_ok hf, rfl, fun els => by kernel_rfl⟩
/- lodger/parse.Parse 'let x 1' -/
noncomputable def ePw_2 : EntR := ⟨9, [.str [108, 101, 116, 32, 120, 32, 49]], .ret (.tup [.nilS, .iface 68 (.ptr 138 0)]) (mkH 145 [(138, .cells [.int .i64 (10), .int .i64 (6)] 31 .own 0 0)])⟩
theorem ePw_2_ok (hf : Fit Tryz.prog) : EntSOK Tryz.prog tabs ePw_2 := ⟨lexI, 200, lexI_ok hf, rfl, fun els => by kernel_rfl⟩
end Go.Proofs.Lx

namespace Go.Proofs.Lx
open Go AEv Go.Proofs Lexp
set_option maxRecDepth 100000
set_option maxHeartbeats 1000000

/-! ### works(), told where errors.errorType is known -/
noncomputable def Lw3 : List EntR := [ePw_0, ePw_1, ePw_2]
noncomputable def Iw : Nat → List AV → AHeap → Option (AV × AHeap) := orE (intrR Tryz.prog.globals.size tabs Lw3) (orE (asI erN) (isI erN))
theorem Lw3_ok (hf : Fit Tryz.prog) : ∀ e ∈ Lw3, EntSOK Tryz.prog tabs e := fun e he => by
  simp only [Lw3, List.mem_cons, List.not_mem_nil, or_false] at he
  rcases he with rfl | rfl | rfl
  · exact ePw_0_ok hf
  · exact ePw_1_ok hf
  · exact ePw_2_ok hf
theorem Iw_ok (hf : Fit Tryz.prog) : IntrOK Tryz.prog Iw := orE_ok (intrS_ok hf tabs_lt (Lw3_ok hf)) (orE_ok (asI_ok er_ok) (isI_ok er_ok))
def eWorks : Ent := ⟨13, [], .bool true⟩
theorem works_e (hf : Fit Tryz.prog) : EntE Tryz.prog tabs erN eWorks := ⟨Iw, 200, Iw_ok hf, fun els el fz => by kernel_rfl⟩
end Go.Proofs.Lx
