/-
  PROVED HERE: contracts of functions (Db). No condition beside each statement's own.
-/
import Derived.Test.YtbndinilpflomaaSxa
import Derived.Sort.Statements
import Derived.Shelf.SlSortCmp.Insertion
import Derived.Test.YtbndinilpflomaaProg
import Derived.Test.YtbndinilpflomaaDa
set_option linter.unusedVariables false
set_option linter.unusedSimpArgs false
namespace Go.Proofs.Enc
open Go AEv

/-- The low bytes of a number, the high ones first, ahead of others. -/
def hiL : Nat → Nat → List UInt8 → List UInt8
  | _, 0, acc => acc
  | n, k + 1, acc => hiL (n / 256) k (UInt8.ofNat (n % 256) :: acc)
theorem hiL_len : ∀ (k n : Nat) (acc : List UInt8), (hiL n k acc).length = k + acc.length
  | 0, n, acc => by simp [hiL]
  | k + 1, n, acc => by rw [hiL, hiL_len k]; simp; omega
/-- How many bytes a great number takes: from so many on. -/
def szF (n : Nat) : Nat → Nat → Nat
  | 0, m => m
  | k + 1, m => if n < 256 ^ m then m else szF n k (m + 1)
theorem szF_le (n : Nat) : ∀ (k m : Nat), m ≤ szF n k m ∧ szF n k m ≤ m + k
  | 0, m => by simp [szF]
  | k + 1, m => by
    have := szF_le n k (m + 1)
    simp only [szF]; split <;> omega
theorem szF_lt (n : Nat) : ∀ (k m : Nat), n < 256 ^ (m + k) → n < 256 ^ (szF n k m)
  | 0, m, h => by simpa [szF] using h
  | k + 1, m, h => by
    simp only [szF]
    split
    · assumption
    · exact szF_lt n k (m + 1) (by have e : m + 1 + k = m + (k + 1) := by omega
                                   rw [e]; exact h)
def szN (n : Nat) : Nat := szF n 5 3
/-- A number's bytes. -/
def numL (n : Nat) : List UInt8 :=
  if n ≤ 240 then hiL n 1 [] else if n ≤ 2287 then hiL (241 + (n - 240) / 256) 1 [] ++ hiL ((n - 240) % 256) 1 []
  else if n ≤ 67823 then hiL 249 1 [] ++ hiL (n - 2288) 2 [] else hiL (247 + szN n) 1 [] ++ hiL n (szN n) []
/-- The sort of a number: from, to, the first byte, the size. -/
def sortN (n : Nat) : Nat × Nat × Nat × Nat :=
  if n ≤ 240 then (0, 240, 0, 0) else if n ≤ 2287 then (240, 2287, 241, 1) else if n ≤ 67823 then (2288, 67823, 249, 2)
  else (0, 256 ^ szN n - 1, 247 + szN n, szN n)
/-- A number's bytes, by its sort. -/
def rowN (n : Nat) : List UInt8 := UInt8.ofNat (((sortN n).2.2.1 + (n - (sortN n).1) / 256 ^ (sortN n).2.2.2) % 256) :: hiL (n - (sortN n).1) (sortN n).2.2.2 []
theorem rowN_eq (n : Nat) (h : n < 18446744073709551616) : rowN n = numL n := by
  unfold rowN numL sortN
  by_cases h1 : n ≤ 240
  · simp only [if_pos h1, hiL, Nat.sub_zero, Nat.pow_zero, Nat.div_one, Nat.zero_add]
  · by_cases h2 : n ≤ 2287
    · simp only [if_neg h1, if_pos h2, hiL, Nat.pow_one, List.singleton_append, List.cons_append, List.nil_append]
      rw [Nat.mod_mod]
    · by_cases h3 : n ≤ 67823
      · have e : (n - 2288) / 256 ^ 2 = 0 := Nat.div_eq_of_lt (by omega)
        simp only [if_neg h1, if_neg h2, if_pos h3, e, Nat.add_zero]
        rfl
      · have hs : n < 256 ^ szN n := szF_lt n 5 3 (by simpa using h)
        have e : n / 256 ^ szN n = 0 := Nat.div_eq_of_lt hs
        simp only [if_neg h1, if_neg h2, if_neg h3, Nat.sub_zero, e, Nat.add_zero]
        rfl
theorem sort_le (n : Nat) (h : n < 18446744073709551616) : (sortN n).1 ≤ n ∧ (sortN n).2.2.2 ≤ 8 ∧ n ≤ (sortN n).2.1 := by
  unfold sortN
  by_cases h1 : n ≤ 240
  · simp [h1]
  · by_cases h2 : n ≤ 2287
    · simp only [if_neg h1, if_pos h2]; omega
    · by_cases h3 : n ≤ 67823
      · simp only [if_neg h1, if_neg h2, if_pos h3]; omega
      · have hs : n < 256 ^ szN n := szF_lt n 5 3 (by simpa using h)
        have := szF_le n 5 3
        simp only [if_neg h1, if_neg h2, if_neg h3]
        unfold szN at hs ⊢
        omega
end Go.Proofs.Enc

namespace Go.Proofs.Enc
open Go AEv Go.Sort

/-! ### The order of diagnostics -/
theorem ltB_cons (x y : UInt8) (a b : List UInt8) : ltBytes (x :: a) (y :: b) = if x.toNat = y.toNat then ltBytes a b else decide (x.toNat < y.toNat) := by
  by_cases h : x.toNat = y.toNat
  · rw [if_pos h]; simp only [ltBytes, h, Nat.beq_refl]
  · rw [if_neg h]
    have hb : Nat.beq x.toNat y.toNat = false := by
      cases hb : Nat.beq x.toNat y.toNat with
      | false => rfl
      | true => exact absurd (Nat.eq_of_beq_eq_true hb) h
    simp only [ltBytes, hb]
    exact Bool.eq_iff_iff.2 (by rw [Nat.blt_eq]; simp)
theorem ltB_irrefl : ∀ a : List UInt8, ltBytes a a = false
  | [] => rfl
  | x :: a => by rw [ltB_cons, if_pos rfl]; exact ltB_irrefl a
theorem ltB_trans : ∀ a b c : List UInt8, ltBytes a b = true → ltBytes b c = true → ltBytes a c = true
  | [], [], _, h, _ => by cases h
  | _ :: _, [], _, h, _ => by cases h
  | [], _ :: _, [], _, h => by cases h
  | _ :: _, _ :: _, [], _, h => by cases h
  | [], _ :: _, _ :: _, _, _ => rfl
  | x :: a, y :: b, z :: c, h1, h2 => by
    rw [ltB_cons] at h1 h2 ⊢
    by_cases e1 : x.toNat = y.toNat
    · rw [if_pos e1] at h1
      by_cases e2 : y.toNat = z.toNat
      · rw [if_pos e2] at h2; rw [if_pos (e1.trans e2)]; exact ltB_trans a b c h1 h2
      · rw [if_neg e2] at h2; rw [if_neg (by omega)]; simp at h2 ⊢; omega
    · rw [if_neg e1] at h1
      by_cases e2 : y.toNat = z.toNat
      · rw [if_neg (by omega)]; simp at h1 ⊢; omega
      · rw [if_neg e2] at h2; simp at h1 h2; rw [if_neg (by omega)]; simp; omega
theorem ltB_tot : ∀ a b : List UInt8, ltBytes a b = false → ltBytes b a = false → a = b
  | [], [], _, _ => rfl
  | [], _ :: _, h, _ => by cases h
  | _ :: _, [], _, h => by cases h
  | x :: a, y :: b, h1, h2 => by
    rw [ltB_cons] at h1 h2
    by_cases e1 : x.toNat = y.toNat
    · rw [if_pos e1] at h1; rw [if_pos e1.symm] at h2
      rw [UInt8.toNat_inj.1 e1, ltB_tot a b h1 h2]
    · rw [if_neg e1] at h1; rw [if_neg (fun e => e1 e.symm)] at h2
      simp at h1 h2; omega
abbrev Dg := List UInt8 × Int × Int
/-- By path, offset, code. -/
def ltD (x y : Dg) : Prop := ltBytes x.1 y.1 = true ∨ (x.1 = y.1 ∧ (x.2.1 < y.2.1 ∨ (x.2.1 = y.2.1 ∧ x.2.2 < y.2.2)))
theorem ltD_irrefl (x : Dg) : ¬ ltD x x := by
  rintro (h | ⟨_, h | ⟨_, h⟩⟩)
  · rw [ltB_irrefl] at h; cases h
  · omega
  · omega
theorem ltD_trans {x y z : Dg} (h1 : ltD x y) (h2 : ltD y z) : ltD x z := by
  rcases h1 with h1 | ⟨e1, h1⟩
  · rcases h2 with h2 | ⟨e2, _⟩
    · exact .inl (ltB_trans _ _ _ h1 h2)
    · exact .inl (by rw [← e2]; exact h1)
  · rcases h2 with h2 | ⟨e2, h2⟩
    · exact .inl (by rw [e1]; exact h2)
    · refine .inr ⟨e1.trans e2, ?_⟩; omega
theorem ltD_tot {x y : Dg} (h1 : ¬ ltD x y) (h2 : ¬ ltD y x) : x = y := by
  obtain ⟨a, i, j⟩ := x; obtain ⟨b, k, l⟩ := y
  unfold ltD at h1 h2
  simp only [not_or, not_and] at h1 h2
  have e : a = b := ltB_tot a b (by simpa using h1.1) (by simpa using h2.1)
  obtain ⟨p1, p2⟩ := h1.2 e
  obtain ⟨q1, q2⟩ := h2.2 e.symm
  have e2 : i = k := by omega
  have := p2 e2
  have := q2 e2.symm
  rw [e, e2, show j = l by omega]
theorem ltD_ntrans {x y z : Dg} (h1 : ¬ ltD x y) (h2 : ¬ ltD y z) : ¬ ltD x z := fun h => by
  by_cases h3 : ltD z y
  · exact h1 (ltD_trans h h3)
  · rw [ltD_tot h2 h3] at h1; exact h1 h
instance (x y : Dg) : Decidable (ltD x y) := by unfold ltD; infer_instance
def ltDb (x y : Dg) : Bool := decide (ltD x y)
theorem ltDb_swo : SWO ltDb where
  irrefl x := by simp [ltDb, ltD_irrefl]
  trans x y z h1 h2 := by simp [ltDb] at *; exact ltD_trans h1 h2
  ntrans x y z h1 h2 := by simp [ltDb] at *; exact ltD_ntrans h1 h2
end Go.Proofs.Enc

namespace Go.Proofs.Wire
open Go AEv Go.Proofs Go.Proofs.Enc Go.Sort
set_option maxRecDepth 100000
set_option maxHeartbeats 400000

theorem nns (call : CallT → List AV → AHeap → FRes) (a : List UInt8) (h : AHeap) :
    RunF Try.prog Try.f102 none call [] (SSt.mk [(0, .str a)] [] .none h) (.ret)
      (SSt.mk [(2, .bool !beqBytes a a)] [] .none h) :=
  sxF_run [2] (hs := []) (by kernel_rfl) <| .nil
theorem nni (call : CallT → List AV → AHeap → FRes) (a : Int) (h : AHeap) :
    RunF Try.prog Try.f103 none call [] (SSt.mk [(0, .int .i64 a)] [] .none h) (.ret)
      (SSt.mk [(2, .bool !eqI a a)] [] .none h) :=
  sxF_run [2] (hs := []) (by kernel_rfl) <| .nil
theorem cms_1 (call : CallT → List AV → AHeap → FRes) (a b : List UInt8) (h : AHeap)
    (H1 : call (.fn 102) [.str a] h = FRes.ret (.bool false) h)
    (H2 : call (.fn 102) [.str b] h = FRes.ret (.bool false) h)
    (H3 : ltBytes a b = true) :
    RunF Try.prog Try.f81 none call [] (SSt.mk [(0, .str a), (1, .str b)] [] .none h) (.ret)
      (SSt.mk [(4, .int .i64 (.negSucc 0))] [] .none h) :=
  sxF_run [4] (hs := [.c (.bool false) h, .c (.bool false) h, .b false, .b false, .b true]) (by kernel_rfl) <| .cons H1 <| .cons H2 <| .cons (by kernel_rfl : false = false) <| .cons (by kernel_rfl : false = false) <| .cons H3 <| .nil
theorem cms_2 (call : CallT → List AV → AHeap → FRes) (a b : List UInt8) (h : AHeap)
    (H1 : call (.fn 102) [.str a] h = FRes.ret (.bool false) h)
    (H2 : call (.fn 102) [.str b] h = FRes.ret (.bool false) h)
    (H3 : ltBytes a b = false)
    (H4 : ltBytes b a = true) :
    RunF Try.prog Try.f81 none call [] (SSt.mk [(0, .str a), (1, .str b)] [] .none h) (.ret)
      (SSt.mk [(4, .int .i64 (.ofNat 1))] [] .none h) :=
  sxF_run [4] (hs := [.c (.bool false) h, .c (.bool false) h, .b false, .b false, .b false, .b true]) (by kernel_rfl) <| .cons H1 <| .cons H2 <| .cons (by kernel_rfl : false = false) <| .cons (by kernel_rfl : false = false) <| .cons H3 <| .cons H4 <| .nil
theorem cms_3 (call : CallT → List AV → AHeap → FRes) (a b : List UInt8) (h : AHeap)
    (H1 : call (.fn 102) [.str a] h = FRes.ret (.bool false) h)
    (H2 : call (.fn 102) [.str b] h = FRes.ret (.bool false) h)
    (H3 : ltBytes a b = false)
    (H4 : ltBytes b a = false) :
    RunF Try.prog Try.f81 none call [] (SSt.mk [(0, .str a), (1, .str b)] [] .none h) (.ret)
      (SSt.mk [(4, .int .i64 (.ofNat 0))] [] .none h) :=
  sxF_run [4] (hs := [.c (.bool false) h, .c (.bool false) h, .b false, .b false, .b false, .b false]) (by kernel_rfl) <| .cons H1 <| .cons H2 <| .cons (by kernel_rfl : false = false) <| .cons (by kernel_rfl : false = false) <| .cons H3 <| .cons H4 <| .nil
theorem cmi_1 (call : CallT → List AV → AHeap → FRes) (a b : Int) (h : AHeap)
    (H1 : call (.fn 103) [.int .i64 a] h = FRes.ret (.bool false) h)
    (H2 : call (.fn 103) [.int .i64 b] h = FRes.ret (.bool false) h)
    (H3 : ltI a b = true) :
    RunF Try.prog Try.f83 none call [] (SSt.mk [(0, .int .i64 a), (1, .int .i64 b)] [] .none h) (.ret)
      (SSt.mk [(4, .int .i64 (.negSucc 0))] [] .none h) :=
  sxF_run [4] (hs := [.c (.bool false) h, .c (.bool false) h, .b false, .b false, .b true]) (by kernel_rfl) <| .cons H1 <| .cons H2 <| .cons (by kernel_rfl : false = false) <| .cons (by kernel_rfl : false = false) <| .cons H3 <| .nil
theorem cmi_2 (call : CallT → List AV → AHeap → FRes) (a b : Int) (h : AHeap)
    (H1 : call (.fn 103) [.int .i64 a] h = FRes.ret (.bool false) h)
    (H2 : call (.fn 103) [.int .i64 b] h = FRes.ret (.bool false) h)
    (H3 : ltI a b = false)
    (H4 : ltI b a = true) :
    RunF Try.prog Try.f83 none call [] (SSt.mk [(0, .int .i64 a), (1, .int .i64 b)] [] .none h) (.ret)
      (SSt.mk [(4, .int .i64 (.ofNat 1))] [] .none h) :=
  sxF_run [4] (hs := [.c (.bool false) h, .c (.bool false) h, .b false, .b false, .b false, .b true]) (by kernel_rfl) <| .cons H1 <| .cons H2 <| .cons (by kernel_rfl : false = false) <| .cons (by kernel_rfl : false = false) <| .cons H3 <| .cons H4 <| .nil
theorem cmi_3 (call : CallT → List AV → AHeap → FRes) (a b : Int) (h : AHeap)
    (H1 : call (.fn 103) [.int .i64 a] h = FRes.ret (.bool false) h)
    (H2 : call (.fn 103) [.int .i64 b] h = FRes.ret (.bool false) h)
    (H3 : ltI a b = false)
    (H4 : ltI b a = false) :
    RunF Try.prog Try.f83 none call [] (SSt.mk [(0, .int .i64 a), (1, .int .i64 b)] [] .none h) (.ret)
      (SSt.mk [(4, .int .i64 (.ofNat 0))] [] .none h) :=
  sxF_run [4] (hs := [.c (.bool false) h, .c (.bool false) h, .b false, .b false, .b false, .b false]) (by kernel_rfl) <| .cons H1 <| .cons H2 <| .cons (by kernel_rfl : false = false) <| .cons (by kernel_rfl : false = false) <| .cons H3 <| .cons H4 <| .nil
theorem or1 (call : CallT → List AV → AHeap → FRes) (p q : Nat) (a b : List UInt8) (z : Int) (h : AHeap)
    (H1 : load1 h p (0 + 0) = some (.str a))
    (H2 : load1 h q (0 + 0) = some (.str b))
    (H3 : call (.fn 81) [.str a, .str b] h = FRes.ret (.int .i64 z) h) :
    RunF Try.prog Try.f80 none call [] (SSt.mk [(0, .ptr p 0), (1, .ptr q 0)] [] .none h) (.ret)
      (SSt.mk [(2, .int .i64 z)] [] .none h) :=
  sxF_run [2] (hs := [.v (.str a), .v (.str b), .c (.int .i64 z) h]) (by kernel_rfl) <| .cons H1 <| .cons H2 <| .cons H3 <| .nil
theorem or2 (call : CallT → List AV → AHeap → FRes) (p q : Nat) (a b z : Int) (h : AHeap)
    (H1 : load1 h p (0 + 1) = some (.int .i64 a))
    (H2 : load1 h q (0 + 1) = some (.int .i64 b))
    (H3 : call (.fn 83) [.int .i64 a, .int .i64 b] h = FRes.ret (.int .i64 z) h) :
    RunF Try.prog Try.f82 none call [] (SSt.mk [(0, .ptr p 0), (1, .ptr q 0)] [] .none h) (.ret)
      (SSt.mk [(2, .int .i64 z)] [] .none h) :=
  sxF_run [2] (hs := [.v (.int .i64 a), .v (.int .i64 b), .c (.int .i64 z) h]) (by kernel_rfl) <| .cons H1 <| .cons H2 <| .cons H3 <| .nil
theorem or3 (call : CallT → List AV → AHeap → FRes) (p q : Nat) (a b z : Int) (h : AHeap)
    (H1 : load1 h p (0 + 2) = some (.int .i64 a))
    (H2 : load1 h q (0 + 2) = some (.int .i64 b))
    (H3 : call (.fn 83) [.int .i64 a, .int .i64 b] h = FRes.ret (.int .i64 z) h) :
    RunF Try.prog Try.f84 none call [] (SSt.mk [(0, .ptr p 0), (1, .ptr q 0)] [] .none h) (.ret)
      (SSt.mk [(2, .int .i64 z)] [] .none h) :=
  sxF_run [2] (hs := [.v (.int .i64 a), .v (.int .i64 b), .c (.int .i64 z) h]) (by kernel_rfl) <| .cons H1 <| .cons H2 <| .cons H3 <| .nil
theorem dfa_1 (call : CallT → List AV → AHeap → FRes) (b p q i : Nat) (z : Int) (h : AHeap)
    (H1 : ltI (.ofNat i) (.ofNat 3) = true)
    (H2 : Nat.le (Nat.succ i) 3)
    (H3 : load1 h b (0 + i * 1) = some (.fn 80 [] [.ptr p 0, .ptr q 0]))
    (H4 : call (.fn 80) [.ptr p 0, .ptr q 0] h = FRes.ret (.int .i64 z) h)
    (H5 : (!eqI z (.ofNat 0)) = true) :
    RunF Try.prog Try.f79 none call [1, 0, 1, 0, 0] (SSt.mk [(6, .slice b 0 3 (.exact 3)), (7, .int .i64 (.ofNat 3)), (8, .int .i64 (.ofNat i))] [] .none h) (.ret)
      (SSt.mk [(2, .int .i64 z), (6, .slice b 0 3 (.exact 3)), (7, .int .i64 (.ofNat 3)), (8, .int .i64 (.ofNat i))] [] .none h) :=
  sxF_run [2, 6, 7, 8] (hs := [.b true, .v (.ptr b (0 + i * 1)), .v (.fn 80 [] [.ptr p 0, .ptr q 0]), .c (.int .i64 z) h, .b true]) (by kernel_rfl) <| .cons H1 <| .cons (⟨H2, rfl⟩ : Nat.le (Nat.succ i) 3 ∧ AV.ptr b (0 + i * 1) = AV.ptr b (0 + i * 1)) <| .cons H3 <| .cons H4 <| .cons H5 <| .nil
theorem dfa_2 (call : CallT → List AV → AHeap → FRes) (b p q i : Nat) (z : Int) (h : AHeap) (n_1 : Nat)
    (H1 : ltI (.ofNat i) (.ofNat 3) = true)
    (H2 : Nat.le (Nat.succ i) 3)
    (H3 : load1 h b (0 + i * 1) = some (.fn 80 [] [.ptr p 0, .ptr q 0]))
    (H4 : call (.fn 80) [.ptr p 0, .ptr q 0] h = FRes.ret (.int .i64 z) h)
    (H5 : (!eqI z (.ofNat 0)) = false)
    (H6 : arith .add .i64 (.ofNat i) (.ofNat 1) = some (.int .i64 (.ofNat n_1))) :
    RunF Try.prog Try.f79 none call [1, 0, 1, 0, 0] (SSt.mk [(6, .slice b 0 3 (.exact 3)), (7, .int .i64 (.ofNat 3)), (8, .int .i64 (.ofNat i))] [] .none h) (.nrm)
      (SSt.mk [(6, .slice b 0 3 (.exact 3)), (7, .int .i64 (.ofNat 3)), (8, .int .i64 (.ofNat n_1))] [] .none h) :=
  sxF_run [2, 6, 7, 8] (hs := [.b true, .v (.ptr b (0 + i * 1)), .v (.fn 80 [] [.ptr p 0, .ptr q 0]), .c (.int .i64 z) h, .b false, .v (.int .i64 (.ofNat n_1))]) (by kernel_rfl) <| .cons H1 <| .cons (⟨H2, rfl⟩ : Nat.le (Nat.succ i) 3 ∧ AV.ptr b (0 + i * 1) = AV.ptr b (0 + i * 1)) <| .cons H3 <| .cons H4 <| .cons H5 <| .cons H6 <| .nil
theorem dfb_1 (call : CallT → List AV → AHeap → FRes) (b p q i : Nat) (z : Int) (h : AHeap)
    (H1 : ltI (.ofNat i) (.ofNat 3) = true)
    (H2 : Nat.le (Nat.succ i) 3)
    (H3 : load1 h b (0 + i * 1) = some (.fn 82 [] [.ptr p 0, .ptr q 0]))
    (H4 : call (.fn 82) [.ptr p 0, .ptr q 0] h = FRes.ret (.int .i64 z) h)
    (H5 : (!eqI z (.ofNat 0)) = true) :
    RunF Try.prog Try.f79 none call [1, 0, 1, 0, 0] (SSt.mk [(6, .slice b 0 3 (.exact 3)), (7, .int .i64 (.ofNat 3)), (8, .int .i64 (.ofNat i))] [] .none h) (.ret)
      (SSt.mk [(2, .int .i64 z), (6, .slice b 0 3 (.exact 3)), (7, .int .i64 (.ofNat 3)), (8, .int .i64 (.ofNat i))] [] .none h) :=
  sxF_run [2, 6, 7, 8] (hs := [.b true, .v (.ptr b (0 + i * 1)), .v (.fn 82 [] [.ptr p 0, .ptr q 0]), .c (.int .i64 z) h, .b true]) (by kernel_rfl) <| .cons H1 <| .cons (⟨H2, rfl⟩ : Nat.le (Nat.succ i) 3 ∧ AV.ptr b (0 + i * 1) = AV.ptr b (0 + i * 1)) <| .cons H3 <| .cons H4 <| .cons H5 <| .nil
theorem dfb_2 (call : CallT → List AV → AHeap → FRes) (b p q i : Nat) (z : Int) (h : AHeap) (n_1 : Nat)
    (H1 : ltI (.ofNat i) (.ofNat 3) = true)
    (H2 : Nat.le (Nat.succ i) 3)
    (H3 : load1 h b (0 + i * 1) = some (.fn 82 [] [.ptr p 0, .ptr q 0]))
    (H4 : call (.fn 82) [.ptr p 0, .ptr q 0] h = FRes.ret (.int .i64 z) h)
    (H5 : (!eqI z (.ofNat 0)) = false)
    (H6 : arith .add .i64 (.ofNat i) (.ofNat 1) = some (.int .i64 (.ofNat n_1))) :
    RunF Try.prog Try.f79 none call [1, 0, 1, 0, 0] (SSt.mk [(6, .slice b 0 3 (.exact 3)), (7, .int .i64 (.ofNat 3)), (8, .int .i64 (.ofNat i))] [] .none h) (.nrm)
      (SSt.mk [(6, .slice b 0 3 (.exact 3)), (7, .int .i64 (.ofNat 3)), (8, .int .i64 (.ofNat n_1))] [] .none h) :=
  sxF_run [2, 6, 7, 8] (hs := [.b true, .v (.ptr b (0 + i * 1)), .v (.fn 82 [] [.ptr p 0, .ptr q 0]), .c (.int .i64 z) h, .b false, .v (.int .i64 (.ofNat n_1))]) (by kernel_rfl) <| .cons H1 <| .cons (⟨H2, rfl⟩ : Nat.le (Nat.succ i) 3 ∧ AV.ptr b (0 + i * 1) = AV.ptr b (0 + i * 1)) <| .cons H3 <| .cons H4 <| .cons H5 <| .cons H6 <| .nil
theorem dfc_1 (call : CallT → List AV → AHeap → FRes) (b p q i : Nat) (z : Int) (h : AHeap)
    (H1 : ltI (.ofNat i) (.ofNat 3) = true)
    (H2 : Nat.le (Nat.succ i) 3)
    (H3 : load1 h b (0 + i * 1) = some (.fn 84 [] [.ptr p 0, .ptr q 0]))
    (H4 : call (.fn 84) [.ptr p 0, .ptr q 0] h = FRes.ret (.int .i64 z) h)
    (H5 : (!eqI z (.ofNat 0)) = true) :
    RunF Try.prog Try.f79 none call [1, 0, 1, 0, 0] (SSt.mk [(6, .slice b 0 3 (.exact 3)), (7, .int .i64 (.ofNat 3)), (8, .int .i64 (.ofNat i))] [] .none h) (.ret)
      (SSt.mk [(2, .int .i64 z), (6, .slice b 0 3 (.exact 3)), (7, .int .i64 (.ofNat 3)), (8, .int .i64 (.ofNat i))] [] .none h) :=
  sxF_run [2, 6, 7, 8] (hs := [.b true, .v (.ptr b (0 + i * 1)), .v (.fn 84 [] [.ptr p 0, .ptr q 0]), .c (.int .i64 z) h, .b true]) (by kernel_rfl) <| .cons H1 <| .cons (⟨H2, rfl⟩ : Nat.le (Nat.succ i) 3 ∧ AV.ptr b (0 + i * 1) = AV.ptr b (0 + i * 1)) <| .cons H3 <| .cons H4 <| .cons H5 <| .nil
theorem dfc_2 (call : CallT → List AV → AHeap → FRes) (b p q i : Nat) (z : Int) (h : AHeap) (n_1 : Nat)
    (H1 : ltI (.ofNat i) (.ofNat 3) = true)
    (H2 : Nat.le (Nat.succ i) 3)
    (H3 : load1 h b (0 + i * 1) = some (.fn 84 [] [.ptr p 0, .ptr q 0]))
    (H4 : call (.fn 84) [.ptr p 0, .ptr q 0] h = FRes.ret (.int .i64 z) h)
    (H5 : (!eqI z (.ofNat 0)) = false)
    (H6 : arith .add .i64 (.ofNat i) (.ofNat 1) = some (.int .i64 (.ofNat n_1))) :
    RunF Try.prog Try.f79 none call [1, 0, 1, 0, 0] (SSt.mk [(6, .slice b 0 3 (.exact 3)), (7, .int .i64 (.ofNat 3)), (8, .int .i64 (.ofNat i))] [] .none h) (.nrm)
      (SSt.mk [(6, .slice b 0 3 (.exact 3)), (7, .int .i64 (.ofNat 3)), (8, .int .i64 (.ofNat n_1))] [] .none h) :=
  sxF_run [2, 6, 7, 8] (hs := [.b true, .v (.ptr b (0 + i * 1)), .v (.fn 84 [] [.ptr p 0, .ptr q 0]), .c (.int .i64 z) h, .b false, .v (.int .i64 (.ofNat n_1))]) (by kernel_rfl) <| .cons H1 <| .cons (⟨H2, rfl⟩ : Nat.le (Nat.succ i) 3 ∧ AV.ptr b (0 + i * 1) = AV.ptr b (0 + i * 1)) <| .cons H3 <| .cons H4 <| .cons H5 <| .cons H6 <| .nil
theorem dfc_3 (call : CallT → List AV → AHeap → FRes) (b p q i : Nat) (z : Int) (h : AHeap)
    (H1 : ltI (.ofNat i) (.ofNat 3) = false) :
    RunF Try.prog Try.f79 none call [1, 0, 1, 0, 0] (SSt.mk [(6, .slice b 0 3 (.exact 3)), (7, .int .i64 (.ofNat 3)), (8, .int .i64 (.ofNat i))] [] .none h) (.exit 0)
      (SSt.mk [(6, .slice b 0 3 (.exact 3)), (7, .int .i64 (.ofNat 3)), (8, .int .i64 (.ofNat i))] [] .none h) :=
  sxF_run [2, 6, 7, 8] (hs := [.b false]) (by kernel_rfl) <| .cons H1 <| .nil
theorem dfe (call : CallT → List AV → AHeap → FRes) (b : Nat) (h h2 : AHeap)
    (H1 : RunF Try.prog Try.f79 none call [1, 0, 1, 0] (SSt.mk [(8, .int .i64 (.ofNat 0)), (7, .int .i64 (.ofNat 3)), (6, .slice b 0 3 (.exact 3)), (2, .int .i64 (.ofNat 0)), (0, .slice b 0 3 (.exact 3))] [] .none h) (.exit 0) (SSt.mk [] [] .none h2)) :
    RunF Try.prog Try.f79 none call [] (SSt.mk [(0, .slice b 0 3 (.exact 3))] [] .none h) (.ret)
      (SSt.mk [(2, .int .i64 (.ofNat 0))] [] .none h2) :=
  sxF_run [2] (hs := [Hint.loop (AEx.exit 0) (SSt.mk [] [] Rc.none h2)]) (by kernel_rfl) <| .cons H1 <| .nil
theorem dfr (call : CallT → List AV → AHeap → FRes) (b : Nat) (z : Int) (h h2 : AHeap)
    (H1 : RunF Try.prog Try.f79 none call [1, 0, 1, 0] (SSt.mk [(8, .int .i64 (.ofNat 0)), (7, .int .i64 (.ofNat 3)), (6, .slice b 0 3 (.exact 3)), (2, .int .i64 (.ofNat 0)), (0, .slice b 0 3 (.exact 3))] [] .none h) (.ret) (SSt.mk [(2, .int .i64 z)] [] .none h2)) :
    RunF Try.prog Try.f79 none call [] (SSt.mk [(0, .slice b 0 3 (.exact 3))] [] .none h) (.ret)
      (SSt.mk [(2, .int .i64 z)] [] .none h2) :=
  sxF_run [2] (hs := [Hint.loop AEx.ret (SSt.mk [(2, AV.int IntKind.i64 z)] [] Rc.none h2)]) (by kernel_rfl) <| .cons H1 <| .nil
theorem ord (call : CallT → List AV → AHeap → FRes) (a b : List UInt8) (x x2 y y2 z : Int) (h g : AHeap)
    (H1 : call (.fn 79) [.slice (AHeap.n (AHeap.push (AHeap.push h (.cells [.str a, .int .i64 x, .int .i64 x2] 35 .own 0 0)) (.cells [.str b, .int .i64 y, .int .i64 y2] 35 .own 0 0))) 0 3 (.exact 3)] (AHeap.push (AHeap.push (AHeap.push h (.cells [.str a, .int .i64 x, .int .i64 x2] 35 .own 0 0)) (.cells [.str b, .int .i64 y, .int .i64 y2] 35 .own 0 0)) (.cells [.fn 80 [] [.ptr (AHeap.n h) 0, .ptr (AHeap.n (AHeap.push h (.cells [.str a, .int .i64 x, .int .i64 x2] 35 .own 0 0))) 0], .fn 82 [] [.ptr (AHeap.n h) 0, .ptr (AHeap.n (AHeap.push h (.cells [.str a, .int .i64 x, .int .i64 x2] 35 .own 0 0))) 0], .fn 84 [] [.ptr (AHeap.n h) 0, .ptr (AHeap.n (AHeap.push h (.cells [.str a, .int .i64 x, .int .i64 x2] 35 .own 0 0))) 0]] 102 .own 0 0)) = FRes.ret (.int .i64 z) g) :
    RunF Try.prog Try.f47 none call [] (SSt.mk [(0, .agg [.str a, .int .i64 x, .int .i64 x2]), (1, .agg [.str b, .int .i64 y, .int .i64 y2])] [] .none h) (.ret)
      (SSt.mk [(4, .int .i64 z)] [] .none g) :=
  sxF_run [4] (hs := [.c (.int .i64 z) g]) (by kernel_rfl) <| .cons H1 <| .nil

/-! ### diag.order -/
def encD (d : Dg) : List AV := [.str d.1, .int .i64 d.2.1, .int .i64 d.2.2]
noncomputable def K (n : Nat) : CallT → List AV → AHeap → FRes := callN Try.prog (fun _ _ _ => none) n
def cmpB (a b : List UInt8) : Int := if ltBytes a b then Int.negSucc 0 else if ltBytes b a then Int.ofNat 1 else Int.ofNat 0
def cmpZ (a b : Int) : Int := if ltI a b then Int.negSucc 0 else if ltI b a then Int.ofNat 1 else Int.ofNat 0
def cfD (x y : Dg) : Int := if !eqI (cmpB x.1 y.1) (Int.ofNat 0) then cmpB x.1 y.1 else if !eqI (cmpZ x.2.1 y.2.1) (Int.ofNat 0) then cmpZ x.2.1 y.2.1 else if !eqI (cmpZ x.2.2 y.2.2) (Int.ofNat 0) then cmpZ x.2.2 y.2.2 else Int.ofNat 0

theorem nns_c (m : Nat) (a : List UInt8) (h : AHeap) : K (m + 1) (.fn 102) [.str a] h = .ret (.bool false) h := by
  have := fn_runF (intr := fun _ _ _ => none) (n := m) (args := [.str a]) Try.func102 (by kernel_rfl) rfl (by kernel_rfl) (nns (K m) a h) (.inl rfl) (v := .bool (!beqBytes a a)) (by kernel_rfl)
  rwa [bbr] at this
theorem nni_c (m : Nat) (a : Int) (h : AHeap) : K (m + 1) (.fn 103) [.int .i64 a] h = .ret (.bool false) h := by
  have := fn_runF (intr := fun _ _ _ => none) (n := m) (args := [.int .i64 a]) Try.func103 (by kernel_rfl) rfl (by kernel_rfl) (nni (K m) a h) (.inl rfl) (v := .bool (!eqI a a)) (by kernel_rfl)
  rwa [show eqI a a = true by simp [eqI]] at this
theorem cms_c (m : Nat) (a b : List UInt8) (h : AHeap) : K (m + 2) (.fn 81) [.str a, .str b] h = .ret (.int .i64 (cmpB a b)) h := by
  unfold cmpB
  cases h1 : ltBytes a b with
  | true => exact fn_runF (intr := fun _ _ _ => none) (n := m + 1) (args := [.str a, .str b]) Try.func81 (by kernel_rfl) rfl (by kernel_rfl) (cms_1 _ _ _ _ (nns_c m a h) (nns_c m b h) (h1)) (.inl rfl) (by kernel_rfl)
  | false =>
    cases h2 : ltBytes b a with
    | true => exact fn_runF (intr := fun _ _ _ => none) (n := m + 1) (args := [.str a, .str b]) Try.func81 (by kernel_rfl) rfl (by kernel_rfl) (cms_2 _ _ _ _ (nns_c m a h) (nns_c m b h) (h1) (h2)) (.inl rfl) (by kernel_rfl)
    | false => exact fn_runF (intr := fun _ _ _ => none) (n := m + 1) (args := [.str a, .str b]) Try.func81 (by kernel_rfl) rfl (by kernel_rfl) (cms_3 _ _ _ _ (nns_c m a h) (nns_c m b h) (h1) (h2)) (.inl rfl) (by kernel_rfl)
theorem cmi_c (m : Nat) (a b : Int) (h : AHeap) : K (m + 2) (.fn 83) [.int .i64 a, .int .i64 b] h = .ret (.int .i64 (cmpZ a b)) h := by
  unfold cmpZ
  cases h1 : ltI a b with
  | true => exact fn_runF (intr := fun _ _ _ => none) (n := m + 1) (args := [.int .i64 a, .int .i64 b]) Try.func83 (by kernel_rfl) rfl (by kernel_rfl) (cmi_1 _ _ _ _ (nni_c m a h) (nni_c m b h) (h1)) (.inl rfl) (by kernel_rfl)
  | false =>
    cases h2 : ltI b a with
    | true => exact fn_runF (intr := fun _ _ _ => none) (n := m + 1) (args := [.int .i64 a, .int .i64 b]) Try.func83 (by kernel_rfl) rfl (by kernel_rfl) (cmi_2 _ _ _ _ (nni_c m a h) (nni_c m b h) (h1) (h2)) (.inl rfl) (by kernel_rfl)
    | false => exact fn_runF (intr := fun _ _ _ => none) (n := m + 1) (args := [.int .i64 a, .int .i64 b]) Try.func83 (by kernel_rfl) rfl (by kernel_rfl) (cmi_3 _ _ _ _ (nni_c m a h) (nni_c m b h) (h1) (h2)) (.inl rfl) (by kernel_rfl)
theorem dfirst_c (m : Nat) (x y : Dg) (s p q t u w : Nat) (h : AHeap) (hs : h.get s = some (.cells [.fn 80 [] [.ptr p 0, .ptr q 0], .fn 82 [] [.ptr p 0, .ptr q 0], .fn 84 [] [.ptr p 0, .ptr q 0]] w .own 0 0))
    (hp : h.get p = some (.cells (encD x) t .own 0 0)) (hq : h.get q = some (.cells (encD y) u .own 0 0)) :
    K (m + 4) (.fn 79) [.slice s 0 3 (.exact 3)] h = .ret (.int .i64 (cfD x y)) h := by
  have v1 : K (m + 3) (.fn 80) [.ptr p 0, .ptr q 0] h = .ret (.int .i64 (cmpB x.1 y.1)) h :=
    fn_runF (intr := fun _ _ _ => none) (n := m + 2) (args := [.ptr p 0, .ptr q 0]) Try.func80 (by kernel_rfl) rfl (by kernel_rfl) (or1 _ _ _ _ _ _ _ (ld1A rfl) (ld1A rfl) (cms_c m x.1 y.1 h)) (.inl rfl) (by kernel_rfl)
  have v2 : K (m + 3) (.fn 82) [.ptr p 0, .ptr q 0] h = .ret (.int .i64 (cmpZ x.2.1 y.2.1)) h :=
    fn_runF (intr := fun _ _ _ => none) (n := m + 2) (args := [.ptr p 0, .ptr q 0]) Try.func82 (by kernel_rfl) rfl (by kernel_rfl) (or2 _ _ _ _ _ _ _ (ld1A rfl) (ld1A rfl) (cmi_c m x.2.1 y.2.1 h)) (.inl rfl) (by kernel_rfl)
  have v3 : K (m + 3) (.fn 84) [.ptr p 0, .ptr q 0] h = .ret (.int .i64 (cmpZ x.2.2 y.2.2)) h :=
    fn_runF (intr := fun _ _ _ => none) (n := m + 2) (args := [.ptr p 0, .ptr q 0]) Try.func84 (by kernel_rfl) rfl (by kernel_rfl) (or3 _ _ _ _ _ _ _ (ld1A rfl) (ld1A rfl) (cmi_c m x.2.2 y.2.2 h)) (.inl rfl) (by kernel_rfl)
  have fr : ∀ {z : Int} {j : Nat}, j ≤ 10 → LoopF Try.prog Try.f79 none (K (m + 3)) [1, 0, 1, 0] j ⟨[(6, .slice s 0 3 (.exact 3)), (7, .int .i64 (Int.ofNat 3)), (8, .int .i64 (Int.ofNat 0))], [], .none, h⟩ .ret ⟨[(2, .int .i64 z)], [], .none, h⟩ → K (m + 4) (.fn 79) [.slice s 0 3 (.exact 3)] h = .ret (.int .i64 z) h := fun {z j} hj l =>
    fn_runF (intr := fun _ _ _ => none) (n := m + 3) (args := [.slice s 0 3 (.exact 3)]) Try.func79 (by kernel_rfl) rfl (by kernel_rfl) (dfr (K (m + 3)) s z h h (RunP.pre (LoopF.run (p := [1, 0, 1, 0]) (by kernel_rfl) l (by omega)) ⟨rfl, rfl, rfl, trivial⟩ rfl rfl rfl)) (.inl rfl) (by kernel_rfl)
  unfold cfD
  cases e1 : !eqI (cmpB x.1 y.1) (Int.ofNat 0) with
  | true => exact fr (j := 1) (by omega) (LoopF.exit (n := 0) (RunP.post (dfa_1 _ _ _ _ _ _ _ (lt_t (by omega)) (by show (_ : Nat) ≤ _; omega) (ld1A rfl) (v1) (e1)) ⟨rfl, trivial⟩) (by simp))
  | false =>
    have s1 : RunF Try.prog Try.f79 none (K (m + 3)) [1, 0, 1, 0, 0] ⟨[(6, .slice s 0 3 (.exact 3)), (7, .int .i64 (Int.ofNat 3)), (8, .int .i64 (Int.ofNat 0))], [], .none, h⟩ .nrm ⟨[(6, .slice s 0 3 (.exact 3)), (7, .int .i64 (Int.ofNat 3)), (8, .int .i64 (Int.ofNat 1))], [], .none, h⟩ := (dfa_2 _ _ _ _ _ _ _ _ (lt_t (by omega)) (by show (_ : Nat) ≤ _; omega) (ld1A rfl) (v1) (e1) (add_n (by omega)))
    cases e2 : !eqI (cmpZ x.2.1 y.2.1) (Int.ofNat 0) with
    | true => exact fr (j := 2) (by omega) (LoopF.step s1 (LoopF.exit (n := 0) (RunP.post (dfb_1 _ _ _ _ _ _ _ (lt_t (by omega)) (by show (_ : Nat) ≤ _; omega) (ld1A rfl) (v2) (e2)) ⟨rfl, trivial⟩) (by simp)))
    | false =>
      have s2 : RunF Try.prog Try.f79 none (K (m + 3)) [1, 0, 1, 0, 0] ⟨[(6, .slice s 0 3 (.exact 3)), (7, .int .i64 (Int.ofNat 3)), (8, .int .i64 (Int.ofNat 1))], [], .none, h⟩ .nrm ⟨[(6, .slice s 0 3 (.exact 3)), (7, .int .i64 (Int.ofNat 3)), (8, .int .i64 (Int.ofNat 2))], [], .none, h⟩ := (dfb_2 _ _ _ _ _ _ _ _ (lt_t (by omega)) (by show (_ : Nat) ≤ _; omega) (ld1A rfl) (v2) (e2) (add_n (by omega)))
      cases e3 : !eqI (cmpZ x.2.2 y.2.2) (Int.ofNat 0) with
      | true => exact fr (j := 3) (by omega) (LoopF.step s1 (LoopF.step s2 (LoopF.exit (n := 0) (RunP.post (dfc_1 _ _ _ _ _ _ _ (lt_t (by omega)) (by show (_ : Nat) ≤ _; omega) (ld1A rfl) (v3) (e3)) ⟨rfl, trivial⟩) (by simp))))
      | false =>
        have s3 : RunF Try.prog Try.f79 none (K (m + 3)) [1, 0, 1, 0, 0] ⟨[(6, .slice s 0 3 (.exact 3)), (7, .int .i64 (Int.ofNat 3)), (8, .int .i64 (Int.ofNat 2))], [], .none, h⟩ .nrm ⟨[(6, .slice s 0 3 (.exact 3)), (7, .int .i64 (Int.ofNat 3)), (8, .int .i64 (Int.ofNat 3))], [], .none, h⟩ := (dfc_2 _ _ _ _ _ _ _ _ (lt_t (by omega)) (by show (_ : Nat) ≤ _; omega) (ld1A rfl) (v3) (e3) (add_n (by omega)))
        have s4 : RunF Try.prog Try.f79 none (K (m + 3)) [1, 0, 1, 0, 0] ⟨[(6, .slice s 0 3 (.exact 3)), (7, .int .i64 (Int.ofNat 3)), (8, .int .i64 (Int.ofNat 3))], [], .none, h⟩ (.exit 0) ⟨[], [], .none, h⟩ := RunP.post (dfc_3 _ _ (p) (q) _ (0) _ (lt_f (by omega))) trivial
        have l := LoopF.run (p := [1, 0, 1, 0]) (by kernel_rfl) (LoopF.step s1 (LoopF.step s2 (LoopF.step s3 (LoopF.exit (n := 0) s4 (by simp))))) (by omega)
        exact fn_runF (intr := fun _ _ _ => none) (n := m + 3) (args := [.slice s 0 3 (.exact 3)]) Try.func79 (by kernel_rfl) rfl (by kernel_rfl) (dfe (K (m + 3)) s h h (RunP.pre l ⟨rfl, rfl, rfl, trivial⟩ rfl rfl rfl)) (.inl rfl) (by kernel_rfl)
theorem order_c (m : Nat) (x y : Dg) (h : AHeap) : ∃ h', K (m + 5) (.fn 47) [.agg (encD x), .agg (encD y)] h = .ret (.int .i64 (cfD x y)) h' := by
  obtain ⟨g, hg⟩ : ∃ g, g = (((h.push (.cells (encD x) 35 .own 0 0)).push (.cells (encD y) 35 .own 0 0)).push (.cells [.fn 80 [] [.ptr h.n 0, .ptr (h.n + 1) 0], .fn 82 [] [.ptr h.n 0, .ptr (h.n + 1) 0], .fn 84 [] [.ptr h.n 0, .ptr (h.n + 1) 0]] 102 .own 0 0)) := ⟨_, rfl⟩
  have v := dfirst_c m x y (h.n + 2) h.n (h.n + 1) 35 35 102 g (by rw [hg]; exact hgA) (by rw [hg]; exact hgA) (by rw [hg]; exact hgA)
  rw [hg] at v
  exact ⟨_, fn_runF (intr := fun _ _ _ => none) (n := m + 4) (args := [.agg (encD x), .agg (encD y)]) Try.func47 (by kernel_rfl) rfl (by kernel_rfl) (ord _ _ _ _ _ _ _ _ _ _ (v)) (.inl rfl) (by kernel_rfl)⟩

theorem cmpB_lt (a b : List UInt8) : (cmpB a b < 0 ↔ ltBytes a b = true) ∧ (cmpB a b = 0 ↔ a = b) := by
  unfold cmpB
  cases h1 : ltBytes a b with
  | true =>
    refine ⟨by simp, ?_⟩
    simp only [if_true]
    constructor
    · intro h; cases h
    · intro h; subst h; rw [ltB_irrefl] at h1; cases h1
  | false =>
    cases h2 : ltBytes b a with
    | true =>
      refine ⟨by simp, ?_⟩
      simp only [Bool.false_eq_true, if_false, if_true]
      constructor
      · intro h; cases h
      · intro h; subst h; rw [ltB_irrefl] at h2; cases h2
    | false =>
      have := ltB_tot a b h1 h2
      subst this
      exact ⟨by simp, by simp⟩
theorem cmpZ_lt (a b : Int) : (cmpZ a b < 0 ↔ a < b) ∧ (cmpZ a b = 0 ↔ a = b) := by
  unfold cmpZ
  by_cases h1 : a < b
  · rw [if_pos (by simp [ltI]; omega)]
    exact ⟨by simp [h1], by constructor <;> intro h <;> first | omega | cases h⟩
  · rw [if_neg (by simp [ltI]; omega)]
    by_cases h2 : b < a
    · rw [if_pos (by simp [ltI]; omega)]
      exact ⟨by simp; omega, by constructor <;> intro h <;> first | omega | cases h⟩
    · rw [if_neg (by simp [ltI]; omega)]
      exact ⟨by simp; omega, by simp; omega⟩
theorem neq0 (z : Int) : (!eqI z (Int.ofNat 0)) = true ↔ ¬ z = 0 := by
  simp [eqI]
theorem ltOf_cfD (x y : Dg) : ltOf cfD x y = ltDb x y := by
  have hB := cmpB_lt x.1 y.1
  have h1 := cmpZ_lt x.2.1 y.2.1
  have h2 := cmpZ_lt x.2.2 y.2.2
  unfold ltOf ltDb cfD ltD
  apply decide_eq_decide.2
  by_cases e1 : cmpB x.1 y.1 = 0
  · rw [if_neg (by rw [neq0]; simpa using e1)]
    have e1' := hB.2.1 e1
    have hl : ¬ ltBytes x.1 y.1 = true := by rw [e1', ltB_irrefl]; simp
    by_cases e2 : cmpZ x.2.1 y.2.1 = 0
    · rw [if_neg (by rw [neq0]; simpa using e2)]
      have e2' := h1.2.1 e2
      by_cases e3 : cmpZ x.2.2 y.2.2 = 0
      · rw [if_neg (by rw [neq0]; simpa using e3)]
        have e3' := h2.2.1 e3
        simp [ltB_irrefl, e1', e2', e3']
      · rw [if_pos (by rw [neq0]; exact e3), h2.1]
        simp [ltB_irrefl, e1', e2']
    · rw [if_pos (by rw [neq0]; exact e2), h1.1]
      have e2' : ¬ x.2.1 = y.2.1 := fun h => e2 (h1.2.2 h)
      simp [ltB_irrefl, e1', e2']
  · rw [if_pos (by rw [neq0]; exact e1), hB.1]
    have e1' : ¬ x.1 = y.1 := fun h => e1 (hB.2.2 h)
    simp [e1']
end Go.Proofs.Wire

namespace Go.Proofs.Wire
open Go AEv Go.Proofs Go.Proofs.Enc
set_option maxRecDepth 100000

theorem hi (call : CallT → List AV → AHeap → FRes) (n z : Nat) (s : List UInt8) (h h2 : AHeap)
    (H1 : RunF Try.prog Try.f87 none call [1, 1, 0, 1, 0] (SSt.mk [(6, .int .i64 (.ofNat 0)), (5, .str []), (4, .str []), (0, .int .u64 (.ofNat n)), (1, .int .i64 (.ofNat z))] [] .none h) (.exit 0) (SSt.mk [(5, .str s)] [] .none h2)) :
    RunF Try.prog Try.f87 none call [] (SSt.mk [(0, .int .u64 (.ofNat n)), (1, .int .i64 (.ofNat z))] [] .none h) (.ret)
      (SSt.mk [(4, .str s)] [] .none h2) :=
  sxF_run [4] (hs := [Hint.loop (AEx.exit 0) (SSt.mk [(5, AV.str s)] [] Rc.none h2)]) (by kernel_rfl) <| .cons H1 <| .nil
theorem pn (call : CallT → List AV → AHeap → FRes) (n fr to fi z b m : Nat) (s : List UInt8) (h g1 g2 g3 g4 g_1 : AHeap) (n_1 n_2 n_3 n_4 n_5 n_6 n_7 n_8 : Nat) (g_2 : AHeap) (t_1 t_2 : List UInt8)
    (H1 : call (.fn 86) [.int .u64 (.ofNat n)] h = FRes.ret (.agg [.int .u64 (.ofNat fr), .int .u64 (.ofNat to), .int .u8 (.ofNat fi), .int .i64 (.ofNat z)]) g1)
    (H2 : AEv.storeCells (AHeap.push g1 (.cells [.int .u64 (.ofNat 0), .int .u64 (.ofNat 0), .int .u8 (.ofNat 0), .int .i64 (.ofNat 0)] 106 .own 0 0)) (AHeap.n g1) 0 [.int .u64 (.ofNat fr), .int .u64 (.ofNat to), .int .u8 (.ofNat fi), .int .i64 (.ofNat z)] = some g_1)
    (H3 : load1 g_1 (AHeap.n g1) (0 + 0) = some (.int .u64 (.ofNat n_1)))
    (H4 : arith .sub .u64 (.ofNat n) (.ofNat n_1) = some (.int .u64 (.ofNat n_2)))
    (H5 : load1 g_1 (AHeap.n g1) (0 + 3) = some (.int .i64 (.ofNat n_3)))
    (H6 : arith .add .i64 (.ofNat 1) (.ofNat n_3) = some (.int .i64 (.ofNat n_4)))
    (H7 : msA Try.prog g_1 39 (AV.int IntKind.i64 (Int.ofNat n_4)) (AV.int IntKind.i64 (Int.ofNat n_4)) = some (AV.slice b 0 (z + 1) (Cap.exact (z + 1)), g3))
    (H8 : load1 g3 (AHeap.n g1) (0 + 3) = some (.int .i64 (.ofNat n_5)))
    (H9 : RunF Try.prog Try.f51 none call [1, 1, 1, 1, 0, 1, 0] (SSt.mk [(7, .int .i64 (.ofNat n_5)), (6, .slice b 0 (z + 1) (.exact (z + 1))), (1, .int .u64 (.ofNat n_2)), (5, .ptr (AHeap.n g1) 0), (4, .str []), (0, .str s)] [] .none g3) (.exit 0) (SSt.mk [(0, .str s), (1, .int .u64 (.ofNat m)), (5, .ptr (AHeap.n g1) 0), (6, .slice b 0 (z + 1) (.exact (z + 1)))] [] .none g4))
    (H10 : load1 g4 (AHeap.n g1) (0 + 2) = some (.int .u8 (.ofNat n_6)))
    (H11 : evConvert Try.prog 52 5 (AV.int IntKind.u64 (Int.ofNat m)) g4 = OpRes.val (AV.int IntKind.u8 (Int.ofNat n_7)) g4)
    (H12 : arith .add .u8 (.ofNat n_6) (.ofNat n_7) = some (.int .u8 (.ofNat n_8)))
    (H13 : Nat.le 1 (z + 1))
    (H14 : AEv.storeCells g4 b (0 + 0 * 1) [.int .u8 (.ofNat n_8)] = some g_2)
    (H15 : evConvert Try.prog 39 9 (AV.slice b 0 (z + 1) (Cap.exact (z + 1))) g_2 = OpRes.val (AV.str t_1) g_2)
    (H16 : strOp .add s t_1 = some (.str t_2)) :
    RunF Try.prog Try.f51 none call [] (SSt.mk [(0, .str s), (1, .int .u64 (.ofNat n))] [] .none h) (.ret)
      (SSt.mk [(4, .str t_2)] [] .none g_2) :=
  sxF_run [4] (hs := [Hint.c (AV.agg [AV.int IntKind.u64 (Int.ofNat fr), AV.int IntKind.u64 (Int.ofNat to), AV.int IntKind.u8 (Int.ofNat fi), AV.int IntKind.i64 (Int.ofNat z)]) g1, Hint.vh (AV.tup []) g_1, Hint.v (AV.int IntKind.u64 (Int.ofNat n_1)), Hint.v (AV.int IntKind.u64 (Int.ofNat n_2)), Hint.v (AV.int IntKind.i64 (Int.ofNat n_3)), Hint.v (AV.int IntKind.i64 (Int.ofNat n_4)), Hint.vh (AV.slice b 0 (z + 1) (Cap.exact (z + 1))) g3, Hint.v (AV.int IntKind.i64 (Int.ofNat n_5)), Hint.loop (AEx.exit 0) (SSt.mk [(0, AV.str s), (1, AV.int IntKind.u64 (Int.ofNat m)), (5, AV.ptr (AHeap.n g1) 0), (6, AV.slice b 0 (z + 1) (Cap.exact (z + 1)))] [] Rc.none g4), Hint.v (AV.int IntKind.u8 (Int.ofNat n_6)), Hint.v (AV.int IntKind.u8 (Int.ofNat n_7)), Hint.v (AV.int IntKind.u8 (Int.ofNat n_8)), Hint.v (AV.ptr b (0 + 0 * 1)), Hint.vh (AV.tup []) g_2, Hint.v (AV.str t_1), Hint.v (AV.str t_2)]) (by kernel_rfl) <| .cons H1 <| .cons (⟨by kernel_rfl, H2, rfl⟩ : some 4 = some 4 ∧ AEv.storeCells (AHeap.push g1 (AObj.cells [AV.int IntKind.u64 (Int.ofNat 0), AV.int IntKind.u64 (Int.ofNat 0), AV.int IntKind.u8 (Int.ofNat 0), AV.int IntKind.i64 (Int.ofNat 0)] 106 BK.own 0 0)) (AHeap.n g1) 0 [AV.int IntKind.u64 (Int.ofNat fr), AV.int IntKind.u64 (Int.ofNat to), AV.int IntKind.u8 (Int.ofNat fi), AV.int IntKind.i64 (Int.ofNat z)] = some g_1 ∧ AV.tup [] = AV.tup []) <| .cons H3 <| .cons H4 <| .cons H5 <| .cons H6 <| .cons H7 <| .cons H8 <| .cons H9 <| .cons H10 <| .cons H11 <| .cons H12 <| .cons (⟨H13, rfl⟩ : Nat.le 1 (z + 1) ∧ AV.ptr b (0 + 0 * 1) = AV.ptr b (0 + 0 * 1)) <| .cons (⟨by kernel_rfl, H14, rfl⟩ : some 1 = some 1 ∧ AEv.storeCells g4 b (0 + 0 * 1) [AV.int IntKind.u8 (Int.ofNat n_8)] = some g_2 ∧ AV.tup [] = AV.tup []) <| .cons H15 <| .cons H16 <| .nil
theorem pnl_1 (call : CallT → List AV → AHeap → FRes) (n i z b : Nat) (s : List UInt8) (h : AHeap) (p : AV) (n_1 : Nat) (g_1 : AHeap) (n_2 n_3 : Nat)
    (H1 : ltI (.ofNat 0) (.ofNat i) = true)
    (H2 : evConvert Try.prog 52 5 (AV.int IntKind.u64 (Int.ofNat n)) h = OpRes.val (AV.int IntKind.u8 (Int.ofNat n_1)) h)
    (H3 : Nat.le (Nat.succ i) (z + 1))
    (H4 : AEv.storeCells h b (0 + i * 1) [.int .u8 (.ofNat n_1)] = some g_1)
    (H5 : shiftA .shr .u64 (.ofNat n) (.ofNat 8) = some (.int .u64 (.ofNat n_2)))
    (H6 : arith .sub .i64 (.ofNat i) (.ofNat 1) = some (.int .i64 (.ofNat n_3))) :
    RunF Try.prog Try.f51 none call [1, 1, 1, 1, 0, 1, 0, 0] (SSt.mk [(0, .str s), (1, .int .u64 (.ofNat n)), (5, p), (6, .slice b 0 (z + 1) (.exact (z + 1))), (7, .int .i64 (.ofNat i))] [] .none h) (.nrm)
      (SSt.mk [(0, .str s), (1, .int .u64 (.ofNat n_2)), (5, p), (6, .slice b 0 (z + 1) (.exact (z + 1))), (7, .int .i64 (.ofNat n_3))] [] .none g_1) :=
  sxF_run [0, 1, 5, 6, 7] (hs := [.b true, .v (.int .u8 (.ofNat n_1)), .v (.ptr b (0 + i * 1)), .vh (.tup []) g_1, .v (.int .u64 (.ofNat n_2)), .v (.int .i64 (.ofNat n_3))]) (by kernel_rfl) <| .cons H1 <| .cons H2 <| .cons (⟨H3, rfl⟩ : Nat.le (Nat.succ i) (z + 1) ∧ AV.ptr b (0 + i * 1) = AV.ptr b (0 + i * 1)) <| .cons (⟨by kernel_rfl, H4, rfl⟩ : some 1 = some 1 ∧ AEv.storeCells h b (0 + i * 1) [AV.int IntKind.u8 (Int.ofNat n_1)] = some g_1 ∧ AV.tup [] = AV.tup []) <| .cons H5 <| .cons H6 <| .nil
theorem pnl_2 (call : CallT → List AV → AHeap → FRes) (n i z b : Nat) (s : List UInt8) (h : AHeap) (p : AV)
    (H1 : ltI (.ofNat 0) (.ofNat i) = false) :
    RunF Try.prog Try.f51 none call [1, 1, 1, 1, 0, 1, 0, 0] (SSt.mk [(0, .str s), (1, .int .u64 (.ofNat n)), (5, p), (6, .slice b 0 (z + 1) (.exact (z + 1))), (7, .int .i64 (.ofNat i))] [] .none h) (.exit 0)
      (SSt.mk [(0, .str s), (1, .int .u64 (.ofNat n)), (5, p), (6, .slice b 0 (z + 1) (.exact (z + 1))), (7, .int .i64 (.ofNat i))] [] .none h) :=
  sxF_run [0, 1, 5, 6, 7] (hs := [.b false]) (by kernel_rfl) <| .cons H1 <| .nil
theorem pt (call : CallT → List AV → AHeap → FRes) (s t : List UInt8) (h : AHeap) (n_1 : Nat) (t_1 : List UInt8) (g_1 : AHeap) (t_2 : List UInt8)
    (H1 : evConvert Try.prog 3 52 (AV.int IntKind.i64 (Int.ofNat (List.length t))) h = OpRes.val (AV.int IntKind.u64 (Int.ofNat n_1)) h)
    (H2 : call (.fn 51) [.str s, .int .u64 (.ofNat n_1)] h = FRes.ret (.str t_1) g_1)
    (H3 : strOp .add t_1 t = some (.str t_2)) :
    RunF Try.prog Try.f52 none call [] (SSt.mk [(0, .str s), (1, .str t)] [] .none h) (.ret)
      (SSt.mk [(4, .str t_2)] [] .none g_1) :=
  sxF_run [4] (hs := [.v (.int .u64 (.ofNat n_1)), .c (.str t_1) g_1, .v (.str t_2)]) (by kernel_rfl) <| .cons H1 <| .cons H2 <| .cons H3 <| .nil
theorem srt (call : CallT → List AV → AHeap → FRes) (h : AHeap) :
    RunF Try.prog Try.f104 none call [] (SSt.mk [] [] .none h) (.ret)
      (SSt.mk [(0, .fn 110 [] [])] [] .none h) :=
  sxF_run [0] (hs := []) (by kernel_rfl) <| .nil
theorem it_1 (call : CallT → List AV → AHeap → FRes) (l : Nat) (e : AEx) (h h2 : AHeap) (b_1 : Bool) (g_1 : AHeap)
    (H1 : call (.yld l) [.agg [.int .u64 (.ofNat 0), .int .u64 (.ofNat 240), .int .u8 (.ofNat 0), .int .i64 (.ofNat 0)]] h = FRes.ret (.bool b_1) g_1)
    (H2 : (!b_1) = true) :
    RunF Try.prog Try.f110 none call [0] (SSt.mk [(0, .yld l)] [] .none h) (.ret)
      (SSt.mk [(0, .yld l)] [] .none g_1) :=
  sxF_run [0] (hs := [.c (.bool b_1) g_1, .b true, .b true, .b true, .b true, .b true, .b true, .b true, .b true, .b true, .b true, .b true]) (by kernel_rfl) <| .cons H1 <| .cons H2 <| .cons H2 <| .cons H2 <| .cons H2 <| .cons H2 <| .cons (by kernel_rfl : true = true) <| .cons (by kernel_rfl : true = true) <| .cons (by kernel_rfl : true = true) <| .cons (by kernel_rfl : true = true) <| .cons (by kernel_rfl : true = true) <| .cons (by kernel_rfl : true = true) <| .nil
theorem it_2 (call : CallT → List AV → AHeap → FRes) (l : Nat) (e : AEx) (h h2 : AHeap) (b_1 : Bool) (g_1 : AHeap) (b_2 : Bool) (g_2 : AHeap)
    (H1 : call (.yld l) [.agg [.int .u64 (.ofNat 0), .int .u64 (.ofNat 240), .int .u8 (.ofNat 0), .int .i64 (.ofNat 0)]] h = FRes.ret (.bool b_1) g_1)
    (H2 : (!b_1) = false)
    (H3 : call (.yld l) [.agg [.int .u64 (.ofNat 240), .int .u64 (.ofNat 2287), .int .u8 (.ofNat 241), .int .i64 (.ofNat 1)]] g_1 = FRes.ret (.bool b_2) g_2)
    (H4 : (!b_2) = true) :
    RunF Try.prog Try.f110 none call [0] (SSt.mk [(0, .yld l)] [] .none h) (.ret)
      (SSt.mk [(0, .yld l)] [] .none g_2) :=
  sxF_run [0] (hs := [.c (.bool b_1) g_1, .b false, .b false, .b false, .c (.bool b_2) g_2, .b false, .b false, .b true, .b true, .b true, .b true, .b true, .b true]) (by kernel_rfl) <| .cons H1 <| .cons H2 <| .cons H2 <| .cons H2 <| .cons H3 <| .cons H2 <| .cons H2 <| .cons H4 <| .cons H4 <| .cons H4 <| .cons H4 <| .cons H4 <| .cons (by kernel_rfl : true = true) <| .nil
theorem it_3 (call : CallT → List AV → AHeap → FRes) (l : Nat) (e : AEx) (h h2 : AHeap) (b_1 : Bool) (g_1 : AHeap) (b_2 : Bool) (g_2 : AHeap) (b_3 : Bool) (g_3 : AHeap)
    (H1 : call (.yld l) [.agg [.int .u64 (.ofNat 0), .int .u64 (.ofNat 240), .int .u8 (.ofNat 0), .int .i64 (.ofNat 0)]] h = FRes.ret (.bool b_1) g_1)
    (H2 : (!b_1) = false)
    (H3 : call (.yld l) [.agg [.int .u64 (.ofNat 240), .int .u64 (.ofNat 2287), .int .u8 (.ofNat 241), .int .i64 (.ofNat 1)]] g_1 = FRes.ret (.bool b_2) g_2)
    (H4 : (!b_2) = false)
    (H5 : call (.yld l) [.agg [.int .u64 (.ofNat 2288), .int .u64 (.ofNat 67823), .int .u8 (.ofNat 249), .int .i64 (.ofNat 2)]] g_2 = FRes.ret (.bool b_3) g_3)
    (H6 : (!b_3) = true) :
    RunF Try.prog Try.f110 none call [0] (SSt.mk [(0, .yld l)] [] .none h) (.ret)
      (SSt.mk [(0, .yld l)] [] .none g_3) :=
  sxF_run [0] (hs := [.c (.bool b_1) g_1, .b false, .b false, .b false, .c (.bool b_2) g_2, .b false, .b false, .b false, .b false, .b false, .c (.bool b_3) g_3, .b false, .b false, .b true]) (by kernel_rfl) <| .cons H1 <| .cons H2 <| .cons H2 <| .cons H2 <| .cons H3 <| .cons H2 <| .cons H2 <| .cons H4 <| .cons H4 <| .cons H4 <| .cons H5 <| .cons H4 <| .cons H4 <| .cons H6 <| .nil
theorem it_4 (call : CallT → List AV → AHeap → FRes) (l : Nat) (e : AEx) (h h2 : AHeap) (b_1 : Bool) (g_1 : AHeap) (b_2 : Bool) (g_2 : AHeap) (b_3 : Bool) (g_3 : AHeap)
    (H1 : call (.yld l) [.agg [.int .u64 (.ofNat 0), .int .u64 (.ofNat 240), .int .u8 (.ofNat 0), .int .i64 (.ofNat 0)]] h = FRes.ret (.bool b_1) g_1)
    (H2 : (!b_1) = false)
    (H3 : call (.yld l) [.agg [.int .u64 (.ofNat 240), .int .u64 (.ofNat 2287), .int .u8 (.ofNat 241), .int .i64 (.ofNat 1)]] g_1 = FRes.ret (.bool b_2) g_2)
    (H4 : (!b_2) = false)
    (H5 : call (.yld l) [.agg [.int .u64 (.ofNat 2288), .int .u64 (.ofNat 67823), .int .u8 (.ofNat 249), .int .i64 (.ofNat 2)]] g_2 = FRes.ret (.bool b_3) g_3)
    (H6 : (!b_3) = false) :
    RunF Try.prog Try.f110 none call [0] (SSt.mk [(0, .yld l)] [] .none h) (.nrm)
      (SSt.mk [(0, .yld l)] [] .none g_3) :=
  sxF_run [0] (hs := [.c (.bool b_1) g_1, .b false, .b false, .b false, .c (.bool b_2) g_2, .b false, .b false, .b false, .b false, .b false, .c (.bool b_3) g_3, .b false, .b false, .b false]) (by kernel_rfl) <| .cons H1 <| .cons H2 <| .cons H2 <| .cons H2 <| .cons H3 <| .cons H2 <| .cons H2 <| .cons H4 <| .cons H4 <| .cons H4 <| .cons H5 <| .cons H4 <| .cons H4 <| .cons H6 <| .nil
theorem it0 (call : CallT → List AV → AHeap → FRes) (l : Nat) (h : AHeap) :
    RunF Try.prog Try.f110 none call [1, 0] (SSt.mk [(0, .yld l)] [] .none h) (.nrm)
      (SSt.mk [(0, .yld l), (2, .int .i64 (.ofNat 3))] [] .none h) :=
  sxF_run [0, 2] (hs := []) (by kernel_rfl) <| .nil
theorem itl_1 (call : CallT → List AV → AHeap → FRes) (l i : Nat) (h : AHeap) (n_1 n_2 n_3 n_4 n_5 : Nat) (b_1 : Bool) (g_1 : AHeap)
    (H1 : leI (.ofNat i) (.ofNat 8) = true)
    (H2 : arith .sub .i64 (.ofNat 8) (.ofNat i) = some (.int .i64 (.ofNat n_1)))
    (H3 : arith .mul .i64 (.ofNat 8) (.ofNat n_1) = some (.int .i64 (.ofNat n_2)))
    (H4 : shiftA .shr .u64 (.ofNat 18446744073709551615) (.ofNat n_2) = some (.int .u64 (.ofNat n_3)))
    (H5 : arith .add .i64 (.ofNat 247) (.ofNat i) = some (.int .i64 (.ofNat n_4)))
    (H6 : evConvert Try.prog 3 5 (AV.int IntKind.i64 (Int.ofNat n_4)) h = OpRes.val (AV.int IntKind.u8 (Int.ofNat n_5)) h)
    (H7 : call (.yld l) [.agg [.int .u64 (.ofNat 0), .int .u64 (.ofNat n_3), .int .u8 (.ofNat n_5), .int .i64 (.ofNat i)]] h = FRes.ret (.bool b_1) g_1)
    (H8 : (!b_1) = true) :
    RunF Try.prog Try.f110 none call [1, 1, 0, 0] (SSt.mk [(0, .yld l), (2, .int .i64 (.ofNat i))] [] .none h) (.ret)
      (SSt.mk [(0, .yld l), (2, .int .i64 (.ofNat i))] [] .none g_1) :=
  sxF_run [0, 2] (hs := [.b true, .v (.int .i64 (.ofNat n_1)), .v (.int .i64 (.ofNat n_2)), .v (.int .u64 (.ofNat n_3)), .v (.int .i64 (.ofNat n_4)), .v (.int .u8 (.ofNat n_5)), .c (.bool b_1) g_1, .b true]) (by kernel_rfl) <| .cons H1 <| .cons H2 <| .cons H3 <| .cons H4 <| .cons H5 <| .cons H6 <| .cons H7 <| .cons H8 <| .nil
theorem itl_2 (call : CallT → List AV → AHeap → FRes) (l i : Nat) (h : AHeap) (n_1 n_2 n_3 n_4 n_5 : Nat) (b_1 : Bool) (g_1 : AHeap) (n_6 : Nat)
    (H1 : leI (.ofNat i) (.ofNat 8) = true)
    (H2 : arith .sub .i64 (.ofNat 8) (.ofNat i) = some (.int .i64 (.ofNat n_1)))
    (H3 : arith .mul .i64 (.ofNat 8) (.ofNat n_1) = some (.int .i64 (.ofNat n_2)))
    (H4 : shiftA .shr .u64 (.ofNat 18446744073709551615) (.ofNat n_2) = some (.int .u64 (.ofNat n_3)))
    (H5 : arith .add .i64 (.ofNat 247) (.ofNat i) = some (.int .i64 (.ofNat n_4)))
    (H6 : evConvert Try.prog 3 5 (AV.int IntKind.i64 (Int.ofNat n_4)) h = OpRes.val (AV.int IntKind.u8 (Int.ofNat n_5)) h)
    (H7 : call (.yld l) [.agg [.int .u64 (.ofNat 0), .int .u64 (.ofNat n_3), .int .u8 (.ofNat n_5), .int .i64 (.ofNat i)]] h = FRes.ret (.bool b_1) g_1)
    (H8 : (!b_1) = false)
    (H9 : arith .add .i64 (.ofNat i) (.ofNat 1) = some (.int .i64 (.ofNat n_6))) :
    RunF Try.prog Try.f110 none call [1, 1, 0, 0] (SSt.mk [(0, .yld l), (2, .int .i64 (.ofNat i))] [] .none h) (.nrm)
      (SSt.mk [(0, .yld l), (2, .int .i64 (.ofNat n_6))] [] .none g_1) :=
  sxF_run [0, 2] (hs := [.b true, .v (.int .i64 (.ofNat n_1)), .v (.int .i64 (.ofNat n_2)), .v (.int .u64 (.ofNat n_3)), .v (.int .i64 (.ofNat n_4)), .v (.int .u8 (.ofNat n_5)), .c (.bool b_1) g_1, .b false, .v (.int .i64 (.ofNat n_6))]) (by kernel_rfl) <| .cons H1 <| .cons H2 <| .cons H3 <| .cons H4 <| .cons H5 <| .cons H6 <| .cons H7 <| .cons H8 <| .cons H9 <| .nil
theorem itl_3 (call : CallT → List AV → AHeap → FRes) (l i : Nat) (h : AHeap)
    (H1 : leI (.ofNat i) (.ofNat 8) = false) :
    RunF Try.prog Try.f110 none call [1, 1, 0, 0] (SSt.mk [(0, .yld l), (2, .int .i64 (.ofNat i))] [] .none h) (.exit 0)
      (SSt.mk [(0, .yld l), (2, .int .i64 (.ofNat i))] [] .none h) :=
  sxF_run [0, 2] (hs := [.b false]) (by kernel_rfl) <| .cons H1 <| .nil
theorem of_0 (call : CallT → List AV → AHeap → FRes) (n : Nat) (h : AHeap) :
    RunF Try.prog Try.f86 none call [0] (SSt.mk [(0, .int .u64 (.ofNat n))] [] .none h) (.nrm)
      (SSt.mk [(1, .ptr (AHeap.n h) 0), (2, .ptr (AHeap.n (AHeap.push h (.cells [.int .u64 (.ofNat n)] 52 .own 0 0))) 0)] [] .none (AHeap.push (AHeap.push h (.cells [.int .u64 (.ofNat n)] 52 .own 0 0)) (.cells [.int .u64 (.ofNat 0), .int .u64 (.ofNat 0), .int .u8 (.ofNat 0), .int .i64 (.ofNat 0)] 106 .own 0 0))) :=
  sxF_run [1, 2] (hs := []) (by kernel_rfl) <| .nil
theorem of_1 (call : CallT → List AV → AHeap → FRes) (a b : Nat) (h : AHeap) (v_1 : AV) (g_1 : AHeap)
    (H1 : call (.fn 104) [] h = FRes.ret v_1 g_1) :
    RunF Try.prog Try.f86 none call [1, 0, 0] (SSt.mk [(1, .ptr a 0), (2, .ptr b 0)] [] .none h) (.nrm)
      (SSt.mk [(1, .ptr a 0), (2, .ptr b 0), (4, v_1)] [] .none g_1) :=
  sxF_run [1, 2, 4] (hs := [.c v_1 g_1]) (by kernel_rfl) <| .cons H1 <| .nil
theorem of_as (call : CallT → List AV → AHeap → FRes) (l a b : Nat) (x : List AV) (h g_1 : AHeap)
    (H1 : some 4 = some (List.length x) ∧ AEv.storeCells (AHeap.push h (AObj.cells [AV.int IntKind.u64 (Int.ofNat 0), AV.int IntKind.u64 (Int.ofNat 0), AV.int IntKind.u8 (Int.ofNat 0), AV.int IntKind.i64 (Int.ofNat 0)] 106 BK.own 0 0)) (AHeap.n h) 0 x = some g_1 ∧ AV.tup [] = AV.tup []) :
    RunF Try.prog Try.f86 (some l) call [1, 0, 1, 0, 0] (SSt.mk [(5, .agg x), (1, .ptr a 0), (2, .ptr b 0)] [] .none h) (.nrm)
      (SSt.mk [(1, .ptr a 0), (2, .ptr b 0), (3, .ptr (AHeap.n h) 0)] [] .none g_1) :=
  sxF_run [1, 2, 3] (hs := [.vh (.tup []) g_1]) (by kernel_rfl) <| .cons H1 <| .nil
theorem of_rd_1 (call : CallT → List AV → AHeap → FRes) (l a b c : Nat) (h : AHeap) (n_1 n_2 n_3 n_4 : Nat) (g_1 : AHeap) (n_5 n_6 : Nat)
    (H1 : AEv.loadCells h c 0 4 = some [.int .u64 (.ofNat n_1), .int .u64 (.ofNat n_2), .int .u8 (.ofNat n_3), .int .i64 (.ofNat n_4)])
    (H2 : AEv.storeCells h b 0 [.int .u64 (.ofNat n_1), .int .u64 (.ofNat n_2), .int .u8 (.ofNat n_3), .int .i64 (.ofNat n_4)] = some g_1)
    (H3 : load1 g_1 a 0 = some (.int .u64 (.ofNat n_5)))
    (H4 : load1 g_1 c (0 + 1) = some (.int .u64 (.ofNat n_6)))
    (H5 : leI (.ofNat n_5) (.ofNat n_6) = true) :
    RunF Try.prog Try.f86 (some l) call [1, 0, 1, 0, 1] (SSt.mk [(1, .ptr a 0), (2, .ptr b 0), (3, .ptr c 0)] [] .none h) (.exit 0)
      (SSt.mk [] [] .none g_1) :=
  sxF_run [] (hs := [.v (.agg [.int .u64 (.ofNat n_1), .int .u64 (.ofNat n_2), .int .u8 (.ofNat n_3), .int .i64 (.ofNat n_4)]), .vh (.tup []) g_1, .v (.int .u64 (.ofNat n_5)), .v (.int .u64 (.ofNat n_6)), .b true]) (by kernel_rfl) <| .cons H1 <| .cons (⟨by kernel_rfl, H2, rfl⟩ : some 4 = some 4 ∧ AEv.storeCells h b 0 [AV.int IntKind.u64 (Int.ofNat n_1), AV.int IntKind.u64 (Int.ofNat n_2), AV.int IntKind.u8 (Int.ofNat n_3), AV.int IntKind.i64 (Int.ofNat n_4)] = some g_1 ∧ AV.tup [] = AV.tup []) <| .cons H3 <| .cons H4 <| .cons H5 <| .nil
theorem of_rd_2 (call : CallT → List AV → AHeap → FRes) (l a b c : Nat) (h : AHeap) (n_1 n_2 n_3 n_4 : Nat) (g_1 : AHeap) (n_5 n_6 : Nat)
    (H1 : AEv.loadCells h c 0 4 = some [.int .u64 (.ofNat n_1), .int .u64 (.ofNat n_2), .int .u8 (.ofNat n_3), .int .i64 (.ofNat n_4)])
    (H2 : AEv.storeCells h b 0 [.int .u64 (.ofNat n_1), .int .u64 (.ofNat n_2), .int .u8 (.ofNat n_3), .int .i64 (.ofNat n_4)] = some g_1)
    (H3 : load1 g_1 a 0 = some (.int .u64 (.ofNat n_5)))
    (H4 : load1 g_1 c (0 + 1) = some (.int .u64 (.ofNat n_6)))
    (H5 : leI (.ofNat n_5) (.ofNat n_6) = false) :
    RunF Try.prog Try.f86 (some l) call [1, 0, 1, 0, 1] (SSt.mk [(1, .ptr a 0), (2, .ptr b 0), (3, .ptr c 0)] [] .none h) (.nrm)
      (SSt.mk [] [] .none g_1) :=
  sxF_run [] (hs := [.v (.agg [.int .u64 (.ofNat n_1), .int .u64 (.ofNat n_2), .int .u8 (.ofNat n_3), .int .i64 (.ofNat n_4)]), .vh (.tup []) g_1, .v (.int .u64 (.ofNat n_5)), .v (.int .u64 (.ofNat n_6)), .b false]) (by kernel_rfl) <| .cons H1 <| .cons (⟨by kernel_rfl, H2, rfl⟩ : some 4 = some 4 ∧ AEv.storeCells h b 0 [AV.int IntKind.u64 (Int.ofNat n_1), AV.int IntKind.u64 (Int.ofNat n_2), AV.int IntKind.u8 (Int.ofNat n_3), AV.int IntKind.i64 (Int.ofNat n_4)] = some g_1 ∧ AV.tup [] = AV.tup []) <| .cons H3 <| .cons H4 <| .cons H5 <| .nil
theorem of_end (call : CallT → List AV → AHeap → FRes) (b : Nat) (d : List ADef) (h : AHeap) (n_1 n_2 n_3 n_4 : Nat) (g_1 : AHeap)
    (H1 : AEv.loadCells h b 0 4 = some [.int .u64 (.ofNat n_1), .int .u64 (.ofNat n_2), .int .u8 (.ofNat n_3), .int .i64 (.ofNat n_4)])
    (H2 : AEv.storeCells h b 0 [.int .u64 (.ofNat n_1), .int .u64 (.ofNat n_2), .int .u8 (.ofNat n_3), .int .i64 (.ofNat n_4)] = some g_1) :
    RunF Try.prog Try.f86 none call [1, 1] (SSt.mk [(2, .ptr b 0)] d .none h) (.ret)
      (SSt.mk [(2, .ptr b 0)] d .none g_1) :=
  sxF_run [2] (hs := [.v (.agg [.int .u64 (.ofNat n_1), .int .u64 (.ofNat n_2), .int .u8 (.ofNat n_3), .int .i64 (.ofNat n_4)]), .vh (.tup []) g_1]) (by kernel_rfl) <| .cons H1 <| .cons (⟨by kernel_rfl, H2, rfl⟩ : some 4 = some 4 ∧ AEv.storeCells h b 0 [AV.int IntKind.u64 (Int.ofNat n_1), AV.int IntKind.u64 (Int.ofNat n_2), AV.int IntKind.u8 (Int.ofNat n_3), AV.int IntKind.i64 (Int.ofNat n_4)] = some g_1 ∧ AV.tup [] = AV.tup []) <| .nil

/-! ### The wire: what numbers and texts are laid as -/
def Wk : List Ent := [⟨21, [], .bool true⟩, ⟨32, [], .bool true⟩] ++ [⟨71, [], .agg [.bool false, .bool false, .bool true, .bool true, .bool false, .bool false, .bool true, .bool true, .bool true, .bool true, .bool true, .bool false, .bool true, .bool true, .bool true, .bool true, .bool true, .bool false, .bool true, .bool false, .bool false, .bool true, .bool false, .bool false, .bool true, .bool true, .bool true]⟩, ⟨67, [], .agg [.int .i64 64, .int .i64 200, .int .i64 5000]⟩, ⟨74, [.int .i64 1], .tup [.bool false, .bool false, .bool true]⟩, ⟨74, [.int .i64 2], .tup [.bool true, .bool false, .bool false]⟩, ⟨74, [.int .i64 3], .tup [.bool true, .bool true, .bool true]⟩, ⟨74, [.int .i64 4], .tup [.bool true, .bool true, .bool false]⟩, ⟨74, [.int .i64 5], .tup [.bool true, .bool true, .bool true]⟩, ⟨74, [.int .i64 6], .tup [.bool true, .bool true, .bool false]⟩, ⟨74, [.int .i64 7], .tup [.bool true, .bool false, .bool false]⟩, ⟨74, [.int .i64 8], .tup [.bool true, .bool false, .bool false]⟩, ⟨74, [.int .i64 9], .tup [.bool true, .bool true, .bool true]⟩]
/-- Sorted. -/
def srtD (l : List Dg) : List Dg := l.mergeSort fun x y => !(ltDb y x)
/-- What is known of itself: the table, and slices.SortFunc. -/
noncomputable def Ii : Nat → List AV → AHeap → Option (AV × AHeap) := orI (tabIntr Wk) (orI (sort0I 46) (sortI encD srtD 46 47))
noncomputable def C (n : Nat) : CallT → List AV → AHeap → FRes := callN Try.prog Ii n
theorem tab_c {m f : Nat} {args : List AV} {v : AV} {h : AHeap} (ht : Ii f args h = some (v, h)) : C (m + 1) (.fn f) args h = .ret v h := by simp only [C, callN, ht]
theorem tab_c' {m f : Nat} {args : List AV} {v : AV} {h h' : AHeap} (ht : Ii f args h = some (v, h')) : C (m + 1) (.fn f) args h = .ret v h' := by simp only [C, callN, ht]
theorem u64t : Try.prog.underlying 52 = some (.int .u64) := by kernel_rfl
theorem u8t : Try.prog.underlying 5 = some (.int .u8) := by kernel_rfl
theorem intt : Try.prog.underlying 3 = some (.int .i64) := by kernel_rfl
theorem bytest : Try.prog.underlying 39 = some (.slice 5) := by kernel_rfl
theorem strt : Try.prog.underlying 9 = some .string := by kernel_rfl
theorem conv_u8 (n : Nat) (h : AHeap) : evConvert Try.prog 52 5 (.int .u64 (Int.ofNat n)) h = .val (.int .u8 (Int.ofNat (n % 256))) h := conv_int u64t u8t (wrap_u8 n)
theorem conv_iu8 (n : Nat) (h : AHeap) : evConvert Try.prog 3 5 (.int .i64 (Int.ofNat n)) h = .val (.int .u8 (Int.ofNat (n % 256))) h := conv_int intt u8t (wrap_u8 n)
theorem conv_u64 (n : Nat) (hn : n < 9223372036854775808) (h : AHeap) : evConvert Try.prog 3 52 (.int .i64 (Int.ofNat n)) h = .val (.int .u64 (Int.ofNat n)) h := conv_int intt u64t (wrap_u64 n (by omega))
theorem toNat_of (n : Nat) : (UInt8.ofNat n).toNat = n % 256 := by simp

theorem numL_len (n : Nat) : (numL n).length ≤ 9 := by
  have := szF_le n 5 3
  unfold numL
  split
  · rw [hiL_len]; simp
  · split
    · rw [List.length_append, hiL_len, hiL_len]; simp
    · split
      · rw [List.length_append, hiL_len, hiL_len]; simp
      · rw [List.length_append, hiL_len, hiL_len]; unfold szN; simp; omega
/-- A text's bytes. -/
def textL (t : List UInt8) : List UInt8 := numL t.length ++ t
end Go.Proofs.Wire

namespace Go.Proofs.Wire
open Go AEv Go.Proofs Go.Proofs.Enc
set_option maxRecDepth 100000

/-! ### wire.sorts, wire.of -/
def srtV (s : Nat × Nat × Nat × Nat) : List AV := [.int .u64 (Int.ofNat s.1), .int .u64 (Int.ofNat s.2.1), .int .u8 (Int.ofNat s.2.2.1), .int .i64 (Int.ofNat s.2.2.2)]
theorem max_shr (i : Nat) (h1 : 3 ≤ i) (h2 : i ≤ 8) : 18446744073709551615 / 2 ^ (8 * (8 - i)) = 256 ^ i - 1 := by
  have : i = 3 ∨ i = 4 ∨ i = 5 ∨ i = 6 ∨ i = 7 ∨ i = 8 := by omega
  rcases this with rfl | rfl | rfl | rfl | rfl | rfl <;> rfl
section
variable (m l n : Nat) (I : AHeap → Prop) (Q : Nat × Nat × Nat × Nat → AHeap → Prop)
  (hy : ∀ s x, I x → (n ≤ s.2.1 → ∃ x', C m (.yld l) [.agg (srtV s)] x = .ret (.bool false) x' ∧ Q s x') ∧ (¬ n ≤ s.2.1 → ∃ x', C m (.yld l) [.agg (srtV s)] x = .ret (.bool true) x' ∧ I x'))
include hy
theorem its_loop (hn : n < 18446744073709551616) : ∀ (k i : Nat) (x : AHeap), 8 - i = k → 3 ≤ i → i ≤ 8 → I x →
    ∃ x', LoopF Try.prog Try.f110 none (C m) [1, 1, 0] (k + 1) ⟨[(0, .yld l), (2, .int .i64 (Int.ofNat i))], [], .none, x⟩ .ret ⟨[], [], .none, x'⟩ ∧ Q (0, 256 ^ szF n k i - 1, 247 + szF n k i, szF n k i) x'
  | k, i, x, hk, h3, h8, hx => by
    have hs := max_shr i h3 h8
    have hp : 0 < 256 ^ i := Nat.pow_pos (by omega)
    have hcv := conv_iu8 (247 + i) x
    rw [Nat.mod_eq_of_lt (by omega)] at hcv
    have hsh := shr_k .u64 (i := 18446744073709551615) (j := 8 * (8 - i)) (by show 8 * (8 - i) ≤ 64; omega)
    rw [hs] at hsh
    obtain ⟨y1, y2⟩ := hy (0, 256 ^ i - 1, 247 + i, i) x hx
    by_cases hle : n ≤ 256 ^ i - 1
    · obtain ⟨x', c1, c2⟩ := y1 hle
      refine ⟨x', .exit (RunP.post (itl_1 (C m) l i x _ _ _ _ _ false x' (le_t h8) (sub_n h8 (by omega)) (mul_n (by omega)) hsh (add_n (by omega)) hcv c1 rfl) trivial) (by simp), ?_⟩
      have : szF n k i = i := by
        cases k with
        | zero => rfl
        | succ k => simp only [szF]; rw [if_pos (by omega)]
      rw [this]; exact c2
    · obtain ⟨x', c1, c2⟩ := y2 hle
      cases k with
      | zero =>
        have : i = 8 := by omega
        subst this
        exact absurd (by omega : n ≤ 256 ^ 8 - 1) hle
      | succ k =>
        obtain ⟨x2, l1, l2⟩ := its_loop hn k (i + 1) x' (by omega) (by omega) (by omega) c2
        refine ⟨x2, .step (itl_2 (C m) l i x _ _ _ _ _ true x' _ (le_t h8) (sub_n h8 (by omega)) (mul_n (by omega)) hsh (add_n (by omega)) hcv c1 rfl (add_n (by omega))) l1, ?_⟩
        simp only [szF]; rw [if_neg (by omega)]; exact l2
theorem its_c (hn : n < 18446744073709551616) (x : AHeap) (hx : I x) : ∃ x', C (m + 1) (.fn 110) [.yld l] x = .ret (.tup []) x' ∧ Q (sortN n) x' := by
  have fin : ∀ {Γ : Env} {x' : AHeap}, RunF Try.prog Try.f110 none (C m) [] ⟨[(0, .yld l)], [], .none, x⟩ .ret ⟨Γ, [], .none, x'⟩ → C (m + 1) (.fn 110) [.yld l] x = .ret (.tup []) x' := fun hr =>
    fn_runF (intr := Ii) (n := m) (args := [.yld l]) Try.func110 (by kernel_rfl) rfl (by kernel_rfl) hr (.inl rfl) (by kernel_rfl)
  obtain ⟨a1, a2⟩ := hy (0, 240, 0, 0) x hx
  by_cases h1 : n ≤ 240
  · obtain ⟨x1, c1, q1⟩ := a1 h1
    have : sortN n = (0, 240, 0, 0) := by simp [sortN, h1]
    rw [this]
    exact ⟨x1, fin (RunF.seqx (p := []) (by kernel_rfl) (it_1 (C m) l .nrm x x false x1 c1 rfl) (by simp)), q1⟩
  · obtain ⟨x1, c1, i1⟩ := a2 h1
    obtain ⟨b1, b2⟩ := hy (240, 2287, 241, 1) x1 i1
    by_cases h2 : n ≤ 2287
    · obtain ⟨x2, c2, q2⟩ := b1 h2
      have : sortN n = (240, 2287, 241, 1) := by simp [sortN, h1, h2]
      rw [this]
      exact ⟨x2, fin (RunF.seqx (p := []) (by kernel_rfl) (it_2 (C m) l .nrm x x true x1 false x2 c1 rfl c2 rfl) (by simp)), q2⟩
    · obtain ⟨x2, c2, i2⟩ := b2 h2
      obtain ⟨d1, d2⟩ := hy (2288, 67823, 249, 2) x2 i2
      by_cases h3 : n ≤ 67823
      · obtain ⟨x3, c3, q3⟩ := d1 h3
        have : sortN n = (2288, 67823, 249, 2) := by simp [sortN, h1, h2, h3]
        rw [this]
        exact ⟨x3, fin (RunF.seqx (p := []) (by kernel_rfl) (it_3 (C m) l .nrm x x true x1 true x2 false x3 c1 rfl c2 rfl c3 rfl) (by simp)), q3⟩
      · obtain ⟨x3, c3, i3⟩ := d2 h3
        obtain ⟨x4, l1, l2⟩ := its_loop m l n I Q hy hn 5 3 x3 rfl (by omega) (by omega) i3
        have loop := RunF.blockx (p := [1, 1]) (id := 0) (by kernel_rfl) (LoopF.run (p := [1, 1, 0]) (by kernel_rfl) l1 (by omega)) (by simp)
        have : sortN n = (0, 256 ^ szF n 5 3 - 1, 247 + szF n 5 3, szF n 5 3) := by simp [sortN, h1, h2, h3, szN]
        rw [this]
        exact ⟨x4, fin (RunF.seq (p := []) (by kernel_rfl) (it_4 (C m) l .nrm x x true x1 true x2 true x3 c1 rfl c2 rfl c3 rfl) (RunF.seq (p := [1]) (by kernel_rfl) (it0 (C m) l x3) loop)), l2⟩
end

noncomputable def ofAs : Code := sub (bodyOf Try.f86) [1, 0, 1, 0, 0]
noncomputable def ofBd : Code := sub (bodyOf Try.f86) [1, 0, 1, 0, 1]
structure OfI (n N : Nat) (h : AHeap) (r : Tr) (x : AHeap) : Prop where
  num : x.get N = some (.cells [.int .u64 (Int.ofNat n)] 52 .own 0 0)
  out : ∃ a b c d, x.get (N + 1) = some (.cells [a, b, c, d] 106 .own 0 0)
  dfr : x.get (N + 2) = some (.defrd (some []))
  lop : x.get (N + 3) = some (.loop .ready none (needFn Try.f86) r [5] ofAs ofBd (N + 2))
  ext : Ext N h x
  big : N + 4 ≤ x.n
structure OfQ (N : Nat) (h : AHeap) (r : Tr) (s : Nat × Nat × Nat × Nat) (x : AHeap) : Prop where
  out : x.get (N + 1) = some (.cells (srtV s) 106 .own 0 0)
  dfr : x.get (N + 2) = some (.defrd (some []))
  lop : x.get (N + 3) = some (.loop .done (some (.exit 0)) (needFn Try.f86) r [5] ofAs ofBd (N + 2))
  ext : Ext N h x
theorem load4 {h : AHeap} {b t : Nat} {x : List AV} (hx : x.length = 4) (hg : h.get b = some (.cells x t .own 0 0)) : AEv.loadCells h b 0 4 = some x := by
  have := load_row (xs := x) (rest := []) (by simpa using hg)
  rwa [hx] at this
theorem store4 {h : AHeap} {b t : Nat} {a1 a2 a3 a4 c1 c2 c3 c4 : AV} (h1 : c1.isCell = true) (h2 : c2.isCell = true) (h3 : c3.isCell = true) (h4 : c4.isCell = true) (hg : h.get b = some (.cells [a1, a2, a3, a4] t .own 0 0)) : AEv.storeCells h b 0 [c1, c2, c3, c4] = some (h.set b (some (.cells [c1, c2, c3, c4] t .own 0 0))) := by
  have hw : writable .own 0 0 0 [c1, c2, c3, c4].length = true := rfl
  simp only [AEv.storeCells, hg, hw, putCells, h1, h2, h3, h4]
theorem of_round (m n N : Nat) (h : AHeap) (r : Tr) (hm : AEv.Mod r [(1, .ptr N 0), (2, .ptr (N + 1) 0)]) (s : Nat × Nat × Nat × Nat) (x : AHeap) (hi : OfI n N h r x) :
    (n ≤ s.2.1 → ∃ x', C (m + 1) (.yld (N + 3)) [.agg (srtV s)] x = .ret (.bool false) x' ∧ OfQ N h r s x') ∧ (¬ n ≤ s.2.1 → ∃ x', C (m + 1) (.yld (N + 3)) [.agg (srtV s)] x = .ret (.bool true) x' ∧ OfI n N h r x') := by
  obtain ⟨hnum, ⟨a, b, c, d, hout⟩, hdfr, hlop, hext, hbig⟩ := hi
  have hy : C (m + 1) (.yld (N + 3)) [.agg (srtV s)] x = evRound Try.prog (C m) (N + 3) [.agg (srtV s)] x := rfl
  let x1 := (x.push (.cells [.int .u64 (Int.ofNat 0), .int .u64 (Int.ofNat 0), .int .u8 (Int.ofNat 0), .int .i64 (Int.ofNat 0)] 106 .own 0 0)).set x.n (some (.cells (srtV s) 106 .own 0 0))
  have s1 := store4 (c1 := .int .u64 (Int.ofNat s.1)) (c2 := .int .u64 (Int.ofNat s.2.1)) (c3 := .int .u8 (Int.ofNat s.2.2.1)) (c4 := .int .i64 (Int.ofNat s.2.2.2)) rfl rfl rfl rfl (by rw [AHeap.get_push, if_pos rfl] : (x.push (.cells [.int .u64 (Int.ofNat 0), .int .u64 (Int.ofNat 0), .int .u8 (Int.ofNat 0), .int .i64 (Int.ofNat 0)] 106 .own 0 0)).get x.n = _)
  have o1 : ∀ j, j < x.n → x1.get j = x.get j := fun j hj => by simp only [x1]; rw [AHeap.get_set, if_neg (by omega), AHeap.get_push, if_neg (by omega)]
  have has : RunP Try.prog (needFn Try.f86) (some (N + 3)) (C m) ofAs ⟨put 5 (.agg (srtV s)) [(1, .ptr N 0), (2, .ptr (N + 1) 0)], [], .none, x⟩ .nrm ⟨[(1, .ptr N 0), (2, .ptr (N + 1) 0), (3, .ptr x.n 0)], [], .none, x1⟩ :=
    RunP.pre (st1 := ⟨put 5 (.agg (srtV s)) [(1, .ptr N 0), (2, .ptr (N + 1) 0)], [], .none, x⟩) (of_as (C m) (N + 3) N (N + 1) (srtV s) x x1 ⟨rfl, s1, rfl⟩) ⟨rfl, rfl, rfl, trivial⟩ rfl rfl rfl
  have l1 : x1.get (N + 3) = some (.loop .ready none (needFn Try.f86) r [5] ofAs ofBd (N + 2)) := (o1 _ (by omega)).trans hlop
  let x2 := x1.set (N + 3) (some (.loop .busy none (needFn Try.f86) r [5] ofAs ofBd (N + 2)))
  have gc : x2.get x.n = some (.cells (srtV s) 106 .own 0 0) := by simp only [x2, x1]; rw [AHeap.get_set, if_neg (by omega), AHeap.get_set, if_pos rfl]
  have gb : x2.get (N + 1) = some (.cells [a, b, c, d] 106 .own 0 0) := by simp only [x2]; rw [AHeap.get_set, if_neg (by omega), o1 _ (by omega)]; exact hout
  have s2 := store4 (c1 := .int .u64 (Int.ofNat s.1)) (c2 := .int .u64 (Int.ofNat s.2.1)) (c3 := .int .u8 (Int.ofNat s.2.2.1)) (c4 := .int .i64 (Int.ofNat s.2.2.2)) rfl rfl rfl rfl gb
  let x3 := x2.set (N + 1) (some (.cells (srtV s) 106 .own 0 0))
  have ga : x3.get N = some (.cells [.int .u64 (Int.ofNat n)] 52 .own 0 0) := by simp only [x3, x2]; rw [AHeap.get_set, if_neg (by omega), AHeap.get_set, if_neg (by omega), o1 _ (by omega)]; exact hnum
  have gc3 : x3.get x.n = some (.cells (srtV s) 106 .own 0 0) := by simp only [x3]; rw [AHeap.get_set, if_neg (by omega)]; exact gc
  have hto : load1 x3 x.n (0 + 1) = some (.int .u64 (Int.ofNat s.2.1)) := by simp only [load1, gc3]; rfl
  have hk : x3.get (N + 3) = some (.loop .busy none (needFn Try.f86) r [5] ofAs ofBd (N + 2)) := by simp only [x3, x2]; rw [AHeap.get_set, if_neg (by omega), AHeap.get_set, if_pos rfl]
  have ex : Ext N h x3 := ((((hext.trans (Nat.le_refl _) (Ext.push (by omega) _)).trans (Nat.le_refl _) (Ext.set (by omega) _)).trans (Nat.le_refl _) (Ext.set (by omega) _)).trans (Nat.le_refl _) (Ext.set (by omega) _))
  have gd : x3.get (N + 2) = some (.defrd (some [])) := by simp only [x3, x2]; rw [AHeap.get_set, if_neg (by omega), AHeap.get_set, if_neg (by omega), o1 _ (by omega)]; exact hdfr
  have go : x3.get (N + 1) = some (.cells (srtV s) 106 .own 0 0) := by simp only [x3]; rw [AHeap.get_set, if_pos rfl]
  have hn3 : x3.n = x.n + 1 := rfl
  refine ⟨fun hle => ?_, fun hle => ?_⟩
  · have hb := of_rd_1 (C m) (N + 3) N (N + 1) x.n x2 s.1 s.2.1 s.2.2.1 s.2.2.2 x3 n s.2.1 (load4 rfl gc) s2 (cell_load ga) hto (le_t hle)
    have rr := roundG hlop hm has l1 (RunP.pre (st1 := ⟨[(1, .ptr N 0), (2, .ptr (N + 1) 0), (3, .ptr x.n 0)], [], .none, x2⟩) hb ⟨rfl, rfl, rfl, trivial⟩ rfl rfl rfl) hk
    refine ⟨_, hy.trans rr, ⟨?_, ?_, ?_, ex.trans (Nat.le_refl _) (Ext.set (by omega) _)⟩⟩
    · rw [AHeap.get_set, if_neg (by omega)]; exact go
    · rw [AHeap.get_set, if_neg (by omega)]; exact gd
    · rw [AHeap.get_set, if_pos rfl]
  · have hb := of_rd_2 (C m) (N + 3) N (N + 1) x.n x2 s.1 s.2.1 s.2.2.1 s.2.2.2 x3 n s.2.1 (load4 rfl gc) s2 (cell_load ga) hto (le_f hle)
    have rr := roundG hlop hm has l1 (RunP.pre (st1 := ⟨[(1, .ptr N 0), (2, .ptr (N + 1) 0), (3, .ptr x.n 0)], [], .none, x2⟩) hb ⟨rfl, rfl, rfl, trivial⟩ rfl rfl rfl) hk
    refine ⟨_, hy.trans rr, ⟨?_, ⟨.int .u64 (Int.ofNat s.1), .int .u64 (Int.ofNat s.2.1), .int .u8 (Int.ofNat s.2.2.1), .int .i64 (Int.ofNat s.2.2.2), ?_⟩, ?_, ?_, ex.trans (Nat.le_refl _) (Ext.set (by omega) _), by simp [hn3]; omega⟩⟩
    · rw [AHeap.get_set, if_neg (by omega)]; exact ga
    · rw [AHeap.get_set, if_neg (by omega)]; exact go
    · rw [AHeap.get_set, if_neg (by omega)]; exact gd
    · rw [AHeap.get_set, if_pos rfl]

theorem srt_c (n : Nat) (h : AHeap) : C (n + 1) (.fn 104) [] h = .ret (.fn 110 [] []) h :=
  fn_runF (intr := Ii) (n := n) (args := []) Try.func104 (by kernel_rfl) rfl (by kernel_rfl) (srt (C n) h) (.inl rfl) (by kernel_rfl)
/-- wire.of. -/
theorem of_c (m n : Nat) (h : AHeap) (hn : n < 18446744073709551616) : ∃ h', C (m + 3) (.fn 86) [.int .u64 (Int.ofNat n)] h = .ret (.agg (srtV (sortN n))) h' ∧ Ext h.n h h' := by
  let h1 := (h.push (.cells [.int .u64 (Int.ofNat n)] 52 .own 0 0)).push (.cells [.int .u64 (Int.ofNat 0), .int .u64 (Int.ofNat 0), .int .u8 (Int.ofNat 0), .int .i64 (Int.ofNat 0)] 106 .own 0 0)
  have w : WF Try.prog Try.f86 none (C (m + 2)) [] (fun e r d q h' => ∃ h'', leaveA Try.prog (C (m + 2)) Try.f86 (.ok e r d q h') = .ret (.agg (srtV (sortN n))) h'' ∧ Ext h.n h h'') (initRegs 0 [.int .u64 (Int.ofNat n)] .leaf) [] .none h := by
    refine WF.seq (p := []) (by kernel_rfl) (W.of (of_0 (C (m + 2)) n h) (args_mod [.int .u64 (Int.ofNat n)]) fun r1 m1 => .inl ⟨rfl, ?_⟩)
    refine WF.seq (p := [1]) (by kernel_rfl) ?_
    refine WF.seq (p := [1, 0]) (by kernel_rfl) (W.of (of_1 (C (m + 2)) h.n (h.n + 1) h1 _ h1 (srt_c (m + 1) h1)) m1 fun r2 m2 => .inl ⟨rfl, ?_⟩)
    refine WF.block (p := [1, 0, 1]) (id := 0) (by kernel_rfl) ?_
    refine WF.range (p := [1, 0, 1, 0]) (t := 4) (ps := [5]) (by kernel_rfl) (by kernel_rfl) (hf := rfl) (hm := m2) ?_
    let x0 := (h1.push (.defrd (some []))).push (.loop .ready none (needFn Try.f86) r2 [5] ofAs ofBd (h.n + 2))
    have i0 : OfI n h.n h r2 x0 := by
      refine ⟨?_, ⟨.int .u64 (Int.ofNat 0), .int .u64 (Int.ofNat 0), .int .u8 (Int.ofNat 0), .int .i64 (Int.ofNat 0), ?_⟩, ?_, ?_, ?_, ?_⟩
      · simp only [x0, h1, AHeap.get_push, AHeap.n_push]; grind
      · simp only [x0, h1, AHeap.get_push, AHeap.n_push]; rw [if_neg (by omega), if_neg (by omega)]; simp
      · simp only [x0, h1, AHeap.get_push, AHeap.n_push]; grind
      · simp only [x0, h1, AHeap.get_push, AHeap.n_push]; grind
      · exact (((Ext.push (Nat.le_refl _) _).trans (Nat.le_refl _) (Ext.push (by simp) _)).trans (Nat.le_refl _) (Ext.push (by simp [h1]; omega) _)).trans (Nat.le_refl _) (Ext.push (by simp [h1]; omega) _)
      · simp [x0, h1]
    have m2' : AEv.Mod r2 [(1, .ptr h.n 0), (2, .ptr (h.n + 1) 0)] := m2.sub ⟨rfl, rfl, trivial⟩
    obtain ⟨x, z1, z2⟩ := its_c (m + 1) (h.n + 3) n (OfI n h.n h r2) (OfQ h.n h r2) (fun s x hx => of_round m n h.n h r2 m2' s x hx) hn x0 i0
    have hend : rangeEnd (h.n + 3) r2 [.collected (h.n + 2)] .none (.ret (.tup []) x) = .ok (.exit 0) r2 [.collected (h.n + 2)] .none (x.set (h.n + 3) (some (.loop .exhausted (some (.exit 0)) (needFn Try.f86) r2 [5] ofAs ofBd (h.n + 2)))) := by
      simp only [rangeEnd, z2.lop]
    refine ⟨.exit 0, _, (congrArg (rangeEnd (h.n + 3) r2 [.collected (h.n + 2)] .none) z1).trans hend, .inl ⟨rfl, .inl ⟨rfl, ?_⟩⟩⟩
    have go : (x.set (h.n + 3) (some (.loop .exhausted (some (.exit 0)) (needFn Try.f86) r2 [5] ofAs ofBd (h.n + 2)))).get (h.n + 1) = some (.cells (srtV (sortN n)) 106 .own 0 0) := by rw [AHeap.get_set, if_neg (by omega)]; exact z2.out
    have gd : (x.set (h.n + 3) (some (.loop .exhausted (some (.exit 0)) (needFn Try.f86) r2 [5] ofAs ofBd (h.n + 2)))).get (h.n + 2) = some (.defrd (some [])) := by rw [AHeap.get_set, if_neg (by omega)]; exact z2.dfr
    have ex : Ext h.n h (x.set (h.n + 3) (some (.loop .exhausted (some (.exit 0)) (needFn Try.f86) r2 [5] ofAs ofBd (h.n + 2)))) := z2.ext.trans (Nat.le_refl _) (Ext.set (by omega) _)
    generalize x.set (h.n + 3) (some (.loop .exhausted (some (.exit 0)) (needFn Try.f86) r2 [5] ofAs ofBd (h.n + 2))) = y at go gd ex
    have hst := store4 (c1 := .int .u64 (Int.ofNat (sortN n).1)) (c2 := .int .u64 (Int.ofNat (sortN n).2.1)) (c3 := .int .u8 (Int.ofNat (sortN n).2.2.1)) (c4 := .int .i64 (Int.ofNat (sortN n).2.2.2)) rfl rfl rfl rfl go
    refine W.of (of_end (C (m + 2)) (h.n + 1) [.collected (h.n + 2)] y _ _ _ _ _ (load4 rfl go) hst) (m2'.sub ⟨rfl, trivial⟩) fun r3 m3 => ?_
    let y1 := (y.set (h.n + 1) (some (.cells (srtV (sortN n)) 106 .own 0 0)))
    have gd1 : y1.get (h.n + 2) = some (.defrd (some [])) := by simp only [y1]; rw [AHeap.get_set, if_neg (by omega)]; exact gd
    have go1 : (y1.set (h.n + 2) (some (.defrd none))).get (h.n + 1) = some (.cells (srtV (sortN n)) 106 .own 0 0) := by simp only [y1]; rw [AHeap.get_set, if_neg (by omega), AHeap.get_set, if_pos rfl]
    have hres : resultsA Try.prog (needFn Try.f86) Try.f86 r3 (y1.set (h.n + 2) (some (.defrd none))) = some (.agg (srtV (sortN n))) := by
      refine resS_ok m3 ?_
      have e1 : Try.f86.results.toList = [.cell 2 106] := by kernel_rfl
      have e2 : Nat.testBit (needFn Try.f86) 2 = true := by kernel_rfl
      have e3 : isAggT Try.prog 106 = some true := by kernel_rfl
      have e4 : sizeT Try.prog 106 = some 4 := by kernel_rfl
      have e5 : lk 2 [(2, AV.ptr (h.n + 1) 0)] = some (.ptr (h.n + 1) 0) := rfl
      simp only [resS, e1, allA, oneS, e2, e3, e4, e5, load4 rfl go1]
    refine ⟨y1.set (h.n + 2) (some (.defrd none)), ?_, (ex.trans (Nat.le_refl _) (Ext.set (by omega) _)).trans (Nat.le_refl _) (Ext.set (by omega) _)⟩
    show leaveA Try.prog (C (m + 2)) Try.f86 (.ok .ret r3 [.collected (h.n + 2)] .none y1) = _
    simp only [leaveA, evDefers, gd1, List.nil_append, hres]
  obtain ⟨e, r, d, q, h', w1, h'', w2, w3⟩ := w
  exact ⟨h'', fn_W (intr := Ii) (n := m + 2) (args := [.int .u64 (Int.ofNat n)]) Try.func86 (by kernel_rfl) rfl (by kernel_rfl) ⟨e, r, d, q, h', w1, w2⟩, w3⟩
end Go.Proofs.Wire

namespace Go.Proofs.Wire
open Go AEv Go.Proofs Go.Proofs.Enc
set_option maxRecDepth 100000

/-! ### wire.PutNum, PutText -/
abbrev z8 : AV := .int .u8 (Int.ofNat 0)
theorem byte_cell (n : Nat) (acc : List UInt8) : (AV.int .u8 (Int.ofNat (n % 256))) :: byteCells acc = byteCells (UInt8.ofNat (n % 256) :: acc) := by
  simp only [byteCells, toNat_of, Nat.mod_mod]
theorem pn_loop (call : CallT → List AV → AHeap → FRes) (s : List UInt8) (z b : Nat) (p : AV) : ∀ (i m : Nat) (acc : List UInt8) (x : AHeap), i ≤ z → z ≤ 8 → x.get b = some (.cells (List.replicate (i + 1) z8 ++ byteCells acc) 5 .own 0 0) →
    ∃ x', LoopF Try.prog Try.f51 none call [1, 1, 1, 1, 0, 1, 0] (i + 1) ⟨[(0, .str s), (1, .int .u64 (Int.ofNat m)), (5, p), (6, .slice b 0 (z + 1) (.exact (z + 1))), (7, .int .i64 (Int.ofNat i))], [], .none, x⟩ (.exit 0) ⟨[(0, .str s), (1, .int .u64 (Int.ofNat (m / 256 ^ i))), (5, p), (6, .slice b 0 (z + 1) (.exact (z + 1)))], [], .none, x'⟩ ∧
      x'.get b = some (.cells (z8 :: byteCells (hiL m i acc)) 5 .own 0 0) ∧ ExtX b x.n x x'
  | 0, m, acc, x, hi, hz, hg => by
    refine ⟨x, .exit (RunP.post (pnl_2 _ _ _ _ _ _ _ _ (lt_f (by omega))) ⟨rfl, by simp [lk], rfl, rfl, trivial⟩) (by simp), hg, ExtX.refl _ _ _⟩
  | i + 1, m, acc, x, hi, hz, hg => by
    have e : List.replicate (i + 1 + 1) z8 ++ byteCells acc = List.replicate (i + 1) z8 ++ z8 :: byteCells acc := by rw [List.replicate_succ', List.append_assoc]; rfl
    rw [e] at hg
    have st := cells_store (.inl rfl) hg (off := 0 + (i + 1) * 1) (x := .int .u8 (Int.ofNat (m % 256))) (by simp) rfl
    rw [byte_cell] at st
    have sh := shr_k .u64 (i := m) (j := 8) (by decide)
    obtain ⟨x', l1, l2, l3⟩ := pn_loop call s z b p i (m / 2 ^ 8) (UInt8.ofNat (m % 256) :: acc) (x.set b (some (.cells (List.replicate (i + 1) z8 ++ byteCells (UInt8.ofNat (m % 256) :: acc)) 5 .own 0 0))) (by omega) hz (by rw [AHeap.get_set, if_pos rfl])
    have em : m / 2 ^ 8 / 256 ^ i = m / 256 ^ (i + 1) := by rw [show (2 : Nat) ^ 8 = 256 from rfl, Nat.div_div_eq_div_mul, Nat.pow_succ, Nat.mul_comm]
    rw [em] at l1
    refine ⟨x', .step ?_ l1, l2, (ExtX.set _).trans (Nat.le_refl _) l3⟩
    exact (pnl_1 _ _ _ _ _ _ _ _ _ _ _ _ (lt_t (by omega)) (conv_u8 m x) (by show (_ : Nat) ≤ _; omega) (st) (sh) (sub_n (by omega) (by omega)))
/-- wire.PutNum. -/
theorem putnum_c (m n : Nat) (s : List UInt8) (h : AHeap) (hn : n < 18446744073709551616) (hs : s.length ≤ 1000000000) : ∃ h', C (m + 4) (.fn 51) [.str s, .int .u64 (Int.ofNat n)] h = .ret (.str (s ++ numL n)) h' ∧ Ext h.n h h' := by
  obtain ⟨g1, c1, x1⟩ := of_c m n h hn
  obtain ⟨hfr, hz, _⟩ := sort_le n hn
  have hrow := rowN_eq n hn
  have hlen := numL_len n
  rw [← hrow] at hlen ⊢
  generalize hσ : sortN n = σ at c1 hfr hz
  obtain ⟨fr, to, fi, z⟩ := σ
  simp only at hfr hz
  let g2 := (g1.push (.cells [.int .u64 (Int.ofNat 0), .int .u64 (Int.ofNat 0), .int .u8 (Int.ofNat 0), .int .i64 (Int.ofNat 0)] 106 .own 0 0)).set g1.n (some (.cells (srtV (fr, to, fi, z)) 106 .own 0 0))
  have s2 := store4 (c1 := .int .u64 (Int.ofNat fr)) (c2 := .int .u64 (Int.ofNat to)) (c3 := .int .u8 (Int.ofNat fi)) (c4 := .int .i64 (Int.ofNat z)) rfl rfl rfl rfl (by rw [AHeap.get_push, if_pos rfl] : (g1.push (.cells [.int .u64 (Int.ofNat 0), .int .u64 (Int.ofNat 0), .int .u8 (Int.ofNat 0), .int .i64 (Int.ofNat 0)] 106 .own 0 0)).get g1.n = _)
  have gg2 : g2.get g1.n = some (.cells (srtV (fr, to, fi, z)) 106 .own 0 0) := by simp only [g2]; rw [AHeap.get_set, if_pos rfl]
  have n2 : g2.n = g1.n + 1 := rfl
  let g3 := g2.push (.cells (List.replicate (z + 1) z8) 5 .own 0 0)
  have gg3 : g3.get g1.n = some (.cells (srtV (fr, to, fi, z)) 106 .own 0 0) := by simp only [g3]; rw [AHeap.get_push, if_neg (by omega)]; exact gg2
  have gb3 : g3.get g2.n = some (.cells (List.replicate (z + 1) z8 ++ byteCells []) 5 .own 0 0) := by simp only [g3]; rw [AHeap.get_push, if_pos rfl]; simp [byteCells]
  have mk : msA Try.prog g2 39 (.int .i64 (Int.ofNat (1 + z))) (.int .i64 (Int.ofNat (1 + z))) = some (.slice g2.n 0 (z + 1) (.exact (z + 1)), g3) := by
    rw [Nat.add_comm 1 z]
    exact make_bytes (i := ((Try.prog.info? 5).getD default)) bytest (by kernel_rfl) (by kernel_rfl) (by kernel_rfl) (by kernel_rfl) (by omega) (by omega)
  obtain ⟨g4, l1, l2, l3⟩ := pn_loop (C (m + 3)) s z g2.n (.ptr g1.n 0) z (n - fr) [] g3 (Nat.le_refl _) hz gb3
  have loop := LoopF.run (p := [1, 1, 1, 1, 0, 1, 0]) (by kernel_rfl) l1 (by omega)
  have gg4 : g4.get g1.n = some (.cells (srtV (fr, to, fi, z)) 106 .own 0 0) := (l3.get _ (by simp [g3, n2]; omega) (by omega)).trans gg3
  have e1 : (fi + (n - fr) / 256 ^ z % 256) % 256 = (fi + (n - fr) / 256 ^ z) % 256 := by omega
  have hr2 : byteCells (rowN n) = .int .u8 (Int.ofNat ((fi + (n - fr) / 256 ^ z) % 256)) :: byteCells (hiL (n - fr) z []) := by
    rw [byte_cell]; simp only [rowN, hσ]
  have hrl : (rowN n).length = z + 1 := by
    have := congrArg List.length hr2
    simp only [byteCells_len, List.length_cons, hiL_len] at this
    simpa using this
  let g5 := g4.set g2.n (some (.cells (byteCells (rowN n)) 5 .own 0 0))
  have st5 : AEv.storeCells g4 g2.n (0 + 0 * 1) [.int .u8 (Int.ofNat ((fi + (n - fr) / 256 ^ z % 256) % 256))] = some g5 := by
    have := cells_store (l := []) (k := .own) (.inl rfl) l2 (off := 0 + 0 * 1) (x := .int .u8 (Int.ofNat ((fi + (n - fr) / 256 ^ z % 256) % 256))) (by simp) rfl
    rw [this]; simp only [g5, hr2, e1, List.nil_append]
  have g5b : g5.get g2.n = some (.cells (byteCells (rowN n) ++ []) 5 .own 0 0) := by simp only [g5]; rw [AHeap.get_set, if_pos rfl]; simp
  have cv := conv_row (P := Try.prog) (a := 39) (b := 9) (cap := .exact (rowN n).length) bytest u8t strt (.inl rfl) g5b
  rw [hrl] at cv
  refine ⟨g5, ?_, ?_⟩
  · exact fn_runF (intr := Ii) (n := m + 3) (args := [.str s, .int .u64 (Int.ofNat n)]) Try.func51 (by kernel_rfl) rfl (by kernel_rfl)
      (pn (C (m + 3)) n fr to fi z g2.n ((n - fr) / 256 ^ z) s h g1 g2 g3 g4 g2 fr (n - fr) z (1 + z) z fi ((n - fr) / 256 ^ z % 256) ((fi + (n - fr) / 256 ^ z % 256) % 256) g5 (rowN n) (s ++ rowN n)
        c1 s2 (by simp only [load1, gg2]; rfl) (subU (by omega) hn) (by simp only [load1, gg2]; rfl) (add_n (by omega)) mk (by simp only [load1, gg3]; rfl) (RunP.pre loop ⟨rfl, rfl, rfl, rfl, rfl, trivial⟩ rfl rfl rfl)
        (by simp only [load1, gg4]; rfl) (conv_u8 _ g4) add_u8 (by show 1 ≤ z + 1; omega) st5 cv (str_add (by omega))) (.inl rfl) (by kernel_rfl)
  · have a1 : Ext h.n h g2 := (x1.trans (Nat.le_refl _) (Ext.push x1.n _)).trans (Nat.le_refl _) (Ext.set x1.n _)
    have hb : h.n ≤ g2.n := by have := x1.n; omega
    have a2 : Ext h.n h g3 := a1.trans (Nat.le_refl _) (Ext.push hb _)
    exact (a2.trans (Nat.le_refl _) ((l3.le (by have := a2.n; omega)).toExt hb)).trans (Nat.le_refl _) (Ext.set hb _)
theorem textL_len (t : List UInt8) : (textL t).length ≤ 9 + t.length := by
  have := numL_len t.length
  unfold textL; rw [List.length_append]; omega
/-- wire.PutText. -/
theorem puttext_c (m : Nat) (s t : List UInt8) (h : AHeap) (hs : s.length ≤ 100000000) (ht : t.length ≤ 100000000) : ∃ h', C (m + 5) (.fn 52) [.str s, .str t] h = .ret (.str (s ++ textL t)) h' ∧ Ext h.n h h' := by
  obtain ⟨g, c1, x1⟩ := putnum_c m t.length s h (by omega) (by omega)
  have hl := numL_len t.length
  refine ⟨g, ?_, x1⟩
  rw [textL, ← List.append_assoc]
  exact fn_runF (intr := Ii) (n := m + 4) (args := [.str s, .str t]) Try.func52 (by kernel_rfl) rfl (by kernel_rfl) (pt (C (m + 4)) s t h _ _ g _ (conv_u64 _ (by omega) h) c1 (str_add (by simp; omega))) (.inl rfl) (by kernel_rfl)
end Go.Proofs.Wire
