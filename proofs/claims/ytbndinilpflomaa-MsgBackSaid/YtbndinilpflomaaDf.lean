/-
  PROVED HERE: contracts of functions (Df). No condition beside each statement's own.
-/
import Derived.Test.YtbndinilpflomaaDb
set_option linter.unusedVariables false
set_option linter.unusedSimpArgs false
namespace Go.Proofs.Enc
open Go AEv

/-! ### Numbers and texts that are read -/
def szOf (b : Nat) : Nat := if b ≤ 240 then 0 else if b ≤ 248 then 1 else if b = 249 then 2 else b - 247
def lowN : Nat → List UInt8 → Nat
  | a, [] => a
  | a, c :: t => lowN (a * 256 + c.toNat) t
def vlOf (b : Nat) (t : List UInt8) : Nat := if b ≤ 240 then b else if b ≤ 248 then 240 + 256 * (b - 241) + lowN 0 t else if b = 249 then 2288 + lowN 0 t else lowN 0 t
/-- The number that stands ahead, and what is behind it. -/
def rdNum : List UInt8 → Option (Nat × List UInt8)
  | [] => none
  | b :: t => if t.length < szOf b.toNat then none else if numL (vlOf b.toNat (t.take (szOf b.toNat))) = b :: t.take (szOf b.toNat) then some (vlOf b.toNat (t.take (szOf b.toNat)), t.drop (szOf b.toNat)) else none
theorem lowN_hiL : ∀ (k n a : Nat) (acc : List UInt8), lowN a (hiL n k acc) = lowN (a * 256 ^ k + n % 256 ^ k) acc
  | 0, n, a, acc => by simp [hiL, Nat.mod_one]
  | k + 1, n, a, acc => by
    rw [hiL, lowN_hiL k (n / 256) a, lowN]
    have e : (UInt8.ofNat (n % 256)).toNat = n % 256 := by simp
    have e2 : n % 256 ^ (k + 1) = n % 256 + 256 * (n / 256 % 256 ^ k) := by rw [Nat.pow_succ, Nat.mul_comm (256 ^ k) 256, Nat.mod_mul]
    have e3 : a * 256 ^ (k + 1) = a * 256 ^ k * 256 := by rw [Nat.pow_succ, Nat.mul_assoc]
    rw [e, e2, e3]
    generalize a * 256 ^ k = x
    generalize n / 256 % 256 ^ k = y
    have e4 : (x + y) * 256 + n % 256 = x * 256 + (n % 256 + 256 * y) := by omega
    rw [e4]
theorem lowN_lt : ∀ (t : List UInt8) (a : Nat), lowN a t < (a + 1) * 256 ^ t.length
  | [], a => by simp [lowN]
  | c :: t, a => by
    have h := lowN_lt t (a * 256 + c.toNat)
    have hc := c.toNat_lt
    have h2 : (a * 256 + c.toNat + 1) * 256 ^ t.length ≤ ((a + 1) * 256) * 256 ^ t.length := Nat.mul_le_mul_right _ (by omega)
    rw [lowN, List.length_cons, Nat.pow_succ, Nat.mul_comm (256 ^ t.length) 256, ← Nat.mul_assoc]
    omega
theorem szOf_le (b : Nat) (h : b < 256) : szOf b ≤ 8 := by unfold szOf; split <;> (try split) <;> (try split) <;> omega
theorem low_0 (t : List UInt8) : lowN 0 t < 256 ^ t.length := by have := lowN_lt t 0; simpa using this
theorem vlOf_lt (b : Nat) (t : List UInt8) (h : b < 256) (ht : t.length = szOf b) : vlOf b t < 18446744073709551616 := by
  have hl := low_0 t
  rw [ht] at hl
  unfold vlOf
  unfold szOf at hl
  by_cases h1 : b ≤ 240
  · rw [if_pos h1]; omega
  · by_cases h2 : b ≤ 248
    · rw [if_neg h1, if_pos h2] at *; omega
    · by_cases h3 : b = 249
      · rw [if_neg h1, if_neg h2, if_pos h3] at *; omega
      · rw [if_neg h1, if_neg h2, if_neg h3] at *
        have : 256 ^ (b - 247) ≤ 256 ^ 8 := Nat.pow_le_pow_right (by omega) (by omega)
        omega
theorem numL_head (n : Nat) (h : n < 18446744073709551616) : ∃ b t, numL n = b :: t ∧ t.length = szOf b.toNat ∧ vlOf b.toNat t = n := by
  have tn : ∀ k : Nat, (UInt8.ofNat (k % 256)).toNat = k % 256 := fun k => by simp
  unfold numL
  by_cases h1 : n ≤ 240
  · rw [if_pos h1]
    refine ⟨UInt8.ofNat (n % 256), [], rfl, ?_, ?_⟩
    · rw [tn, Nat.mod_eq_of_lt (by omega)]; simp [szOf, h1]
    · rw [tn, Nat.mod_eq_of_lt (by omega)]; simp [vlOf, h1]
  · by_cases h2 : n ≤ 2287
    · rw [if_neg h1, if_pos h2]
      have hb : (241 + (n - 240) / 256) % 256 = 241 + (n - 240) / 256 := Nat.mod_eq_of_lt (by omega)
      refine ⟨UInt8.ofNat ((241 + (n - 240) / 256) % 256), hiL ((n - 240) % 256) 1 [], rfl, ?_, ?_⟩
      · rw [tn, hb, hiL_len]
        unfold szOf; rw [if_neg (by omega), if_pos (by omega)]; rfl
      · rw [tn, hb]
        unfold vlOf; rw [if_neg (by omega), if_pos (by omega), lowN_hiL, lowN, Nat.pow_one]; omega
    · by_cases h3 : n ≤ 67823
      · rw [if_neg h1, if_neg h2, if_pos h3]
        refine ⟨UInt8.ofNat (249 % 256), hiL (n - 2288) 2 [], rfl, ?_, ?_⟩
        · rw [tn, hiL_len]; rfl
        · rw [tn]
          show 2288 + lowN 0 (hiL (n - 2288) 2 []) = n
          rw [lowN_hiL, lowN, Nat.mod_eq_of_lt (by omega)]; omega
      · rw [if_neg h1, if_neg h2, if_neg h3]
        have hs : n < 256 ^ szN n := szF_lt n 5 3 (by simpa using h)
        have hz := szF_le n 5 3
        have hz' : 3 ≤ szN n ∧ szN n ≤ 8 := hz
        refine ⟨UInt8.ofNat ((247 + szN n) % 256), hiL n (szN n) [], rfl, ?_, ?_⟩
        · rw [tn, Nat.mod_eq_of_lt (by omega), hiL_len]
          unfold szOf; rw [if_neg (by omega), if_neg (by omega), if_neg (by omega)]; simp
        · rw [tn, Nat.mod_eq_of_lt (by omega)]
          unfold vlOf; rw [if_neg (by omega), if_neg (by omega), if_neg (by omega), lowN_hiL, lowN, Nat.mod_eq_of_lt hs]; omega
theorem rdNum_num (n : Nat) (r : List UInt8) (h : n < 18446744073709551616) : rdNum (numL n ++ r) = some (n, r) := by
  obtain ⟨b, t, h1, h2, h3⟩ := numL_head n h
  have e1 : (t ++ r).take (szOf b.toNat) = t := by rw [← h2, List.take_left]
  have e2 : (t ++ r).drop (szOf b.toNat) = r := by rw [← h2, List.drop_left]
  rw [h1, List.cons_append]
  simp only [rdNum]
  rw [if_neg (by rw [List.length_append]; omega), e1, e2, h3, if_pos h1]
theorem rdNum_some {s r : List UInt8} {n : Nat} (h : rdNum s = some (n, r)) : s = numL n ++ r ∧ n < 18446744073709551616 := by
  match s with
  | [] => cases h
  | b :: t =>
    simp only [rdNum] at h
    split at h
    · cases h
    · rename_i hl
      split at h
      · rename_i he
        have hb := b.toNat_lt
        have hv := vlOf_lt b.toNat (t.take (szOf b.toNat)) (by omega) (by rw [List.length_take]; omega)
        obtain ⟨rfl, rfl⟩ : vlOf b.toNat (t.take (szOf b.toNat)) = n ∧ t.drop (szOf b.toNat) = r := by simpa using h
        exact ⟨by rw [he, List.cons_append, List.take_append_drop], hv⟩
      · cases h
theorem numL_pos (n : Nat) (h : n < 18446744073709551616) : 0 < (numL n).length := by
  obtain ⟨b, t, h1, _, _⟩ := numL_head n h
  rw [h1]; simp

/-- A reader: what is ahead; spent: none. -/
abbrev RdS := Option (List UInt8)
def numS : RdS → Nat × RdS
  | none => (0, none)
  | some s => match rdNum s with
    | none => (0, none)
    | some (n, r) => (n, some r)
def cutS (n : Nat) : RdS → List UInt8 × RdS
  | none => ([], none)
  | some s => if n ≤ s.length then (s.take n, some (s.drop n)) else ([], none)
def textS (st : RdS) : List UInt8 × RdS := cutS (numS st).1 (numS st).2
def left : RdS → List UInt8
  | none => []
  | some s => s
theorem numS_n {s : List UInt8} (h : rdNum s = none) : numS (some s) = (0, none) := by simp only [numS, h]
theorem numS_s {s r : List UInt8} {n : Nat} (h : rdNum s = some (n, r)) : numS (some s) = (n, some r) := by simp only [numS, h]
theorem numS_cases (s : List UInt8) : numS (some s) = (0, none) ∨ ∃ n r, numS (some s) = (n, some r) ∧ s = numL n ++ r ∧ n < 18446744073709551616 := by
  cases h : rdNum s with
  | none => exact .inl (numS_n h)
  | some x => obtain ⟨n, r⟩ := x; exact .inr ⟨n, r, numS_s h, rdNum_some h⟩
theorem numS_len (st : RdS) : (left (numS st).2).length ≤ (left st).length := by
  cases st with
  | none => exact Nat.le_refl _
  | some s =>
    rcases numS_cases s with e | ⟨n, r, e, h1, _⟩
    · rw [e]; exact Nat.zero_le _
    · rw [e]; show r.length ≤ s.length; rw [h1, List.length_append]; omega
theorem numS_lt (st : RdS) : (numS st).1 < 18446744073709551616 := by
  cases st with
  | none => show 0 < _; omega
  | some s =>
    rcases numS_cases s with e | ⟨n, r, e, _, h2⟩
    · rw [e]; show 0 < _; omega
    · rw [e]; exact h2
theorem numS_less (s : List UInt8) : (left (numS (some s)).2).length < s.length ∨ (numS (some s)).2 = none := by
  rcases numS_cases s with e | ⟨n, r, e, h1, h2⟩
  · rw [e]; exact .inr rfl
  · rw [e]
    have := numL_pos n h2
    refine .inl ?_
    show r.length < s.length
    rw [h1, List.length_append]; omega
theorem cutS_t {n : Nat} {s : List UInt8} (h : n ≤ s.length) : cutS n (some s) = (s.take n, some (s.drop n)) := by simp only [cutS, if_pos h]
theorem cutS_f {n : Nat} {s : List UInt8} (h : ¬ n ≤ s.length) : cutS n (some s) = ([], none) := by simp only [cutS, if_neg h]
theorem cutS_len (n : Nat) (st : RdS) : (left (cutS n st).2).length ≤ (left st).length ∧ (cutS n st).1.length ≤ (left st).length := by
  cases st with
  | none => exact ⟨Nat.le_refl _, Nat.le_refl _⟩
  | some s =>
    by_cases h : n ≤ s.length
    · rw [cutS_t h]
      exact ⟨by show (s.drop n).length ≤ s.length; rw [List.length_drop]; omega, by show (s.take n).length ≤ s.length; rw [List.length_take]; omega⟩
    · rw [cutS_f h]; exact ⟨Nat.zero_le _, Nat.zero_le _⟩
theorem textS_len (st : RdS) : (left (textS st).2).length ≤ (left st).length ∧ (textS st).1.length ≤ (left st).length := by
  have h1 := numS_len st
  have h2 := cutS_len (numS st).1 (numS st).2
  exact ⟨by unfold textS; omega, by unfold textS; omega⟩
theorem numS_num (n : Nat) (r : List UInt8) (h : n < 18446744073709551616) : numS (some (numL n ++ r)) = (n, some r) := by simp [numS, rdNum_num n r h]
end Go.Proofs.Enc

namespace Go.Proofs.Wire
open Go AEv Go.Proofs Go.Proofs.Enc
set_option maxRecDepth 100000
set_option maxHeartbeats 1000000

theorem nr (call : CallT → List AV → AHeap → FRes) (s : List UInt8) (h : AHeap) (n_1 n_2 n_3 : Nat) (c_1 : Cap) (g_1 : AHeap)
    (H1 : evConvert Try.prog 9 39 (AV.str s) h = OpRes.val (AV.slice n_1 n_2 n_3 c_1) g_1) :
    RunF Try.prog Try.f55 none call [] (SSt.mk [(0, .str s)] [] .none h) (.ret)
      (SSt.mk [(2, .ptr (AHeap.n g_1) 0)] [] .none (AHeap.push g_1 (.cells [.slice n_1 n_2 n_3 c_1, .bool false] 110 .own 0 0))) :=
  sxF_run [2] (hs := [.vh (.slice n_1 n_2 n_3 c_1) g_1]) (by kernel_rfl) <| .cons H1 <| .nil
theorem ct_1 (call : CallT → List AV → AHeap → FRes) (p k : Nat) (h : AHeap) (n_1 n_2 n_3 : Nat) (c_1 : Cap) (n_4 : Nat) (g_1 g_2 : AHeap)
    (H1 : load1 h p (0 + 0) = some (.slice n_1 n_2 n_3 c_1))
    (H2 : evConvert Try.prog 3 52 (AV.int IntKind.i64 (Int.ofNat n_3)) h = OpRes.val (AV.int IntKind.u64 (Int.ofNat n_4)) h)
    (H3 : ltI (.ofNat n_4) (.ofNat k) = true)
    (H4 : AEv.storeCells h p (0 + 0) [.nilS] = some g_1)
    (H5 : AEv.storeCells g_1 p (0 + 1) [.bool true] = some g_2) :
    RunF Try.prog Try.f89 none call [] (SSt.mk [(0, .ptr p 0), (1, .int .u64 (.ofNat k))] [] .none h) (.ret)
      (SSt.mk [(4, .nilS), (5, .bool false)] [] .none g_2) :=
  sxF_run [4, 5] (hs := [.v (.slice n_1 n_2 n_3 c_1), .v (.int .u64 (.ofNat n_4)), .b true, .vh (.tup []) g_1, .vh (.tup []) g_2]) (by kernel_rfl) <| .cons H1 <| .cons H2 <| .cons H3 <| .cons (⟨by kernel_rfl, H4, rfl⟩ : some 1 = some 1 ∧ AEv.storeCells h p (0 + 0) [AV.nilS] = some g_1 ∧ AV.tup [] = AV.tup []) <| .cons (⟨by kernel_rfl, H5, rfl⟩ : some 1 = some 1 ∧ AEv.storeCells g_1 p (0 + 1) [AV.bool true] = some g_2 ∧ AV.tup [] = AV.tup []) <| .nil
theorem ct_2 (call : CallT → List AV → AHeap → FRes) (p k : Nat) (h : AHeap) (n_1 n_2 n_3 : Nat) (c_1 : Cap) (n_4 n_5 n_6 n_7 : Nat) (c_2 : Cap) (n_8 n_9 n_10 : Nat) (c_3 : Cap) (g_1 : AHeap)
    (H1 : load1 h p (0 + 0) = some (.slice n_1 n_2 n_3 c_1))
    (H2 : evConvert Try.prog 3 52 (AV.int IntKind.i64 (Int.ofNat n_3)) h = OpRes.val (AV.int IntKind.u64 (Int.ofNat n_4)) h)
    (H3 : ltI (.ofNat n_4) (.ofNat k) = false)
    (H4 : sliceA Try.prog h 39 (AV.slice n_1 n_2 n_3 c_1) none (some (AV.int IntKind.u64 (Int.ofNat k))) (some (AV.int IntKind.u64 (Int.ofNat k))) = some (AV.slice n_5 n_6 n_7 c_2))
    (H5 : sliceA Try.prog h 39 (AV.slice n_1 n_2 n_3 c_1) (some (AV.int IntKind.u64 (Int.ofNat k))) none none = some (AV.slice n_8 n_9 n_10 c_3))
    (H6 : AEv.storeCells h p (0 + 0) [.slice n_8 n_9 n_10 c_3] = some g_1) :
    RunF Try.prog Try.f89 none call [] (SSt.mk [(0, .ptr p 0), (1, .int .u64 (.ofNat k))] [] .none h) (.ret)
      (SSt.mk [(4, .slice n_5 n_6 n_7 c_2), (5, .bool true)] [] .none g_1) :=
  sxF_run [4, 5] (hs := [.v (.slice n_1 n_2 n_3 c_1), .v (.int .u64 (.ofNat n_4)), .b false, .v (.slice n_1 n_2 n_3 c_1), .v (.slice n_5 n_6 n_7 c_2), .v (.slice n_1 n_2 n_3 c_1), .v (.slice n_8 n_9 n_10 c_3), .vh (.tup []) g_1]) (by kernel_rfl) <| .cons H1 <| .cons H2 <| .cons H3 <| .cons H1 <| .cons H4 <| .cons H1 <| .cons H5 <| .cons (⟨by kernel_rfl, H6, rfl⟩ : some 1 = some 1 ∧ AEv.storeCells h p (0 + 0) [AV.slice n_8 n_9 n_10 c_3] = some g_1 ∧ AV.tup [] = AV.tup []) <| .nil
theorem ctn_1 (call : CallT → List AV → AHeap → FRes) (p k : Nat) (h g_1 g_2 : AHeap)
    (H1 : load1 h p (0 + 0) = some .nilS)
    (H2 : ltI (.ofNat 0) (.ofNat k) = true)
    (H3 : AEv.storeCells h p (0 + 0) [.nilS] = some g_1)
    (H4 : AEv.storeCells g_1 p (0 + 1) [.bool true] = some g_2) :
    RunF Try.prog Try.f89 none call [] (SSt.mk [(0, .ptr p 0), (1, .int .u64 (.ofNat k))] [] .none h) (.ret)
      (SSt.mk [(4, .nilS), (5, .bool false)] [] .none g_2) :=
  sxF_run [4, 5] (hs := [.v .nilS, .v (.int .u64 (.ofNat 0)), .b true, .vh (.tup []) g_1, .vh (.tup []) g_2]) (by kernel_rfl) <| .cons H1 <| .cons (by kernel_rfl : evConvert Try.prog 3 52 (AV.int IntKind.i64 (Int.ofNat 0)) h = OpRes.val (AV.int IntKind.u64 (Int.ofNat 0)) h) <| .cons H2 <| .cons (⟨by kernel_rfl, H3, rfl⟩ : some 1 = some 1 ∧ AEv.storeCells h p (0 + 0) [AV.nilS] = some g_1 ∧ AV.tup [] = AV.tup []) <| .cons (⟨by kernel_rfl, H4, rfl⟩ : some 1 = some 1 ∧ AEv.storeCells g_1 p (0 + 1) [AV.bool true] = some g_2 ∧ AV.tup [] = AV.tup []) <| .nil
theorem ctz (call : CallT → List AV → AHeap → FRes) (p : Nat) (h g_1 : AHeap)
    (H1 : load1 h p (0 + 0) = some .nilS)
    (H2 : sliceA Try.prog h 39 AV.nilS none (some (AV.int IntKind.u64 (Int.ofNat 0))) (some (AV.int IntKind.u64 (Int.ofNat 0))) = some AV.nilS)
    (H3 : sliceA Try.prog h 39 AV.nilS (some (AV.int IntKind.u64 (Int.ofNat 0))) none none = some AV.nilS)
    (H4 : AEv.storeCells h p (0 + 0) [.nilS] = some g_1) :
    RunF Try.prog Try.f89 none call [] (SSt.mk [(0, .ptr p 0), (1, .int .u64 (.ofNat 0))] [] .none h) (.ret)
      (SSt.mk [(4, .nilS), (5, .bool true)] [] .none g_1) :=
  sxF_run [4, 5] (hs := [.v .nilS, .v (.int .u64 (.ofNat 0)), .b false, .v .nilS, .v .nilS, .v .nilS, .v .nilS, .vh (.tup []) g_1]) (by kernel_rfl) <| .cons H1 <| .cons (by kernel_rfl : evConvert Try.prog 3 52 (AV.int IntKind.i64 (Int.ofNat 0)) h = OpRes.val (AV.int IntKind.u64 (Int.ofNat 0)) h) <| .cons (by kernel_rfl : ltI (Int.ofNat 0) (Int.ofNat 0) = false) <| .cons H1 <| .cons H2 <| .cons H1 <| .cons H3 <| .cons (⟨by kernel_rfl, H4, rfl⟩ : some 1 = some 1 ∧ AEv.storeCells h p (0 + 0) [AV.nilS] = some g_1 ∧ AV.tup [] = AV.tup []) <| .nil
theorem nu1_1 (call : CallT → List AV → AHeap → FRes) (p n : Nat) (s : List UInt8) (t : Bool) (h g : AHeap) (n_1 : Nat) (t_1 : List UInt8) (b_1 : Bool) (g_1 : AHeap)
    (H1 : call (.fn 88) [.fn 89 [.ptr p 0] []] h = FRes.ret (.tup [.int .u64 (.ofNat n_1), .str t_1, .bool b_1]) g_1)
    (H2 : (!b_1) = true) :
    RunF Try.prog Try.f56 none call [] (SSt.mk [(0, .ptr p 0)] [] .none h) (.ret)
      (SSt.mk [(2, .int .u64 (.ofNat 0))] [] .none g_1) :=
  sxF_run [2] (hs := [.v (.bool false), .b false, .c (.tup [.int .u64 (.ofNat n_1), .str t_1, .bool b_1]) g_1, .b true]) (by kernel_rfl) <| .cons (by kernel_rfl : binA Try.prog h BinOp.eql 72 (Operand.tmp 6) (Operand.const (Value.pointer none)) (AV.ptr p 0) AV.nilP = some (AV.bool false)) <| .cons (by kernel_rfl : false = false) <| .cons H1 <| .cons H2 <| .nil
theorem nu1_2 (call : CallT → List AV → AHeap → FRes) (p n : Nat) (s : List UInt8) (t : Bool) (h g : AHeap) (n_1 : Nat) (t_1 : List UInt8) (b_1 : Bool) (g_1 : AHeap) (t_2 : List UInt8) (g_2 g_3 g_4 : AHeap)
    (H1 : call (.fn 88) [.fn 89 [.ptr p 0] []] h = FRes.ret (.tup [.int .u64 (.ofNat n_1), .str t_1, .bool b_1]) g_1)
    (H2 : (!b_1) = false)
    (H3 : call (.fn 51) [.str [], .int .u64 (.ofNat n_1)] g_1 = FRes.ret (.str t_2) g_2)
    (H4 : (!beqBytes t_2 t_1) = true)
    (H5 : AEv.storeCells g_2 p (0 + 0) [.nilS] = some g_3)
    (H6 : AEv.storeCells g_3 p (0 + 1) [.bool true] = some g_4) :
    RunF Try.prog Try.f56 none call [] (SSt.mk [(0, .ptr p 0)] [] .none h) (.ret)
      (SSt.mk [(2, .int .u64 (.ofNat 0))] [] .none g_4) :=
  sxF_run [2] (hs := [.v (.bool false), .b false, .c (.tup [.int .u64 (.ofNat n_1), .str t_1, .bool b_1]) g_1, .b false, .c (.str t_2) g_2, .b true, .vh (.tup []) g_3, .vh (.tup []) g_4]) (by kernel_rfl) <| .cons (by kernel_rfl : binA Try.prog h BinOp.eql 72 (Operand.tmp 6) (Operand.const (Value.pointer none)) (AV.ptr p 0) AV.nilP = some (AV.bool false)) <| .cons (by kernel_rfl : false = false) <| .cons H1 <| .cons H2 <| .cons H3 <| .cons H4 <| .cons (⟨by kernel_rfl, H5, rfl⟩ : some 1 = some 1 ∧ AEv.storeCells g_2 p (0 + 0) [AV.nilS] = some g_3 ∧ AV.tup [] = AV.tup []) <| .cons (⟨by kernel_rfl, H6, rfl⟩ : some 1 = some 1 ∧ AEv.storeCells g_3 p (0 + 1) [AV.bool true] = some g_4 ∧ AV.tup [] = AV.tup []) <| .nil
theorem nu1_3 (call : CallT → List AV → AHeap → FRes) (p n : Nat) (s : List UInt8) (t : Bool) (h g : AHeap) (n_1 : Nat) (t_1 : List UInt8) (b_1 : Bool) (g_1 : AHeap) (t_2 : List UInt8) (g_2 : AHeap)
    (H1 : call (.fn 88) [.fn 89 [.ptr p 0] []] h = FRes.ret (.tup [.int .u64 (.ofNat n_1), .str t_1, .bool b_1]) g_1)
    (H2 : (!b_1) = false)
    (H3 : call (.fn 51) [.str [], .int .u64 (.ofNat n_1)] g_1 = FRes.ret (.str t_2) g_2)
    (H4 : (!beqBytes t_2 t_1) = false) :
    RunF Try.prog Try.f56 none call [] (SSt.mk [(0, .ptr p 0)] [] .none h) (.ret)
      (SSt.mk [(2, .int .u64 (.ofNat n_1))] [] .none g_2) :=
  sxF_run [2] (hs := [.v (.bool false), .b false, .c (.tup [.int .u64 (.ofNat n_1), .str t_1, .bool b_1]) g_1, .b false, .c (.str t_2) g_2, .b false]) (by kernel_rfl) <| .cons (by kernel_rfl : binA Try.prog h BinOp.eql 72 (Operand.tmp 6) (Operand.const (Value.pointer none)) (AV.ptr p 0) AV.nilP = some (AV.bool false)) <| .cons (by kernel_rfl : false = false) <| .cons H1 <| .cons H2 <| .cons H3 <| .cons H4 <| .nil
theorem tx1 (call : CallT → List AV → AHeap → FRes) (p n b o m : Nat) (cp : Cap) (s : List UInt8) (t : Bool) (h g g1 : AHeap)
    (H1 : call (.fn 56) [.ptr p 0] h = FRes.ret (.int .u64 (.ofNat n)) g)
    (H2 : call (.fn 89) [.ptr p 0, .int .u64 (.ofNat n)] g = FRes.ret (.tup [.slice b o m cp, .bool t]) g1)
    (H3 : evConvert Try.prog 39 9 (AV.slice b o m cp) g1 = OpRes.val (AV.str s) g1) :
    RunF Try.prog Try.f58 none call [] (SSt.mk [(0, .ptr p 0)] [] .none h) (.ret)
      (SSt.mk [(2, .str s)] [] .none g1) :=
  sxF_run [2] (hs := [.c (.int .u64 (.ofNat n)) g, .v (.bool false), .b false, .c (.tup [.slice b o m cp, .bool t]) g1, .v (.str s)]) (by kernel_rfl) <| .cons H1 <| .cons (by kernel_rfl : binA Try.prog g BinOp.eql 72 (Operand.tmp 8) (Operand.const (Value.pointer none)) (AV.ptr p 0) AV.nilP = some (AV.bool false)) <| .cons (by kernel_rfl : false = false) <| .cons H2 <| .cons H3 <| .nil
theorem tx1n (call : CallT → List AV → AHeap → FRes) (p n : Nat) (s : List UInt8) (t : Bool) (h g g1 : AHeap)
    (H1 : call (.fn 56) [.ptr p 0] h = FRes.ret (.int .u64 (.ofNat n)) g)
    (H2 : call (.fn 89) [.ptr p 0, .int .u64 (.ofNat n)] g = FRes.ret (.tup [.nilS, .bool t]) g1) :
    RunF Try.prog Try.f58 none call [] (SSt.mk [(0, .ptr p 0)] [] .none h) (.ret)
      (SSt.mk [(2, .str [])] [] .none g1) :=
  sxF_run [2] (hs := [.c (.int .u64 (.ofNat n)) g, .v (.bool false), .b false, .c (.tup [.nilS, .bool t]) g1, .v (.str [])]) (by kernel_rfl) <| .cons H1 <| .cons (by kernel_rfl : binA Try.prog g BinOp.eql 72 (Operand.tmp 8) (Operand.const (Value.pointer none)) (AV.ptr p 0) AV.nilP = some (AV.bool false)) <| .cons (by kernel_rfl : false = false) <| .cons H2 <| .cons (by kernel_rfl : evConvert Try.prog 39 9 AV.nilS g1 = OpRes.val (AV.str []) g1) <| .nil
theorem ok1 (call : CallT → List AV → AHeap → FRes) (p : Nat) (h : AHeap) (b_1 : Bool)
    (H1 : load1 h p (0 + 1) = some (.bool b_1)) :
    RunF Try.prog Try.f57 none call [] (SSt.mk [(0, .ptr p 0)] [] .none h) (.ret)
      (SSt.mk [(2, .bool !b_1)] [] .none h) :=
  sxF_run [2] (hs := [.v (.bool !false), .b true, .b true, .b true, .b true, .v (.bool b_1), .b true, .b true]) (by kernel_rfl) <| .cons (by kernel_rfl : binA Try.prog h BinOp.neq 72 (Operand.tmp 3) (Operand.const (Value.pointer none)) (AV.ptr p 0) AV.nilP = some (AV.bool !false)) <| .cons (by kernel_rfl : (!false) = true) <| .cons (by kernel_rfl : (!false) = true) <| .cons (by kernel_rfl : (!false) = true) <| .cons (by kernel_rfl : (!false) = true) <| .cons H1 <| .cons (by kernel_rfl : (!false) = true) <| .cons (by kernel_rfl : (!false) = true) <| .nil
theorem en1_1 (call : CallT → List AV → AHeap → FRes) (p : Nat) (h : AHeap) (b_1 : Bool) (g_1 : AHeap) (n_1 n_2 n_3 : Nat) (c_1 : Cap)
    (H1 : call (.fn 57) [.ptr p 0] h = FRes.ret (.bool b_1) g_1)
    (H2 : b_1 = true)
    (H3 : load1 g_1 p (0 + 0) = some (.slice n_1 n_2 n_3 c_1)) :
    RunF Try.prog Try.f59 none call [] (SSt.mk [(0, .ptr p 0)] [] .none h) (.ret)
      (SSt.mk [(2, .bool (eqI (.ofNat n_3) (.ofNat 0)))] [] .none g_1) :=
  sxF_run [2] (hs := [.c (.bool b_1) g_1, .b true, .b true, .b true, .b true, .v (.slice n_1 n_2 n_3 c_1), .b true, .b true, .b true]) (by kernel_rfl) <| .cons H1 <| .cons H2 <| .cons H2 <| .cons H2 <| .cons H2 <| .cons H3 <| .cons H2 <| .cons H2 <| .cons H2 <| .nil
theorem en1_2 (call : CallT → List AV → AHeap → FRes) (p : Nat) (h : AHeap) (b_1 : Bool) (g_1 : AHeap)
    (H1 : call (.fn 57) [.ptr p 0] h = FRes.ret (.bool b_1) g_1)
    (H2 : b_1 = false) :
    RunF Try.prog Try.f59 none call [] (SSt.mk [(0, .ptr p 0)] [] .none h) (.ret)
      (SSt.mk [(2, .bool false)] [] .none g_1) :=
  sxF_run [2] (hs := [.c (.bool b_1) g_1, .b false, .b false, .b false, .b false, .b false, .b false, .b false]) (by kernel_rfl) <| .cons H1 <| .cons H2 <| .cons H2 <| .cons H2 <| .cons H2 <| .cons H2 <| .cons H2 <| .cons H2 <| .nil
theorem sy0 (call : CallT → List AV → AHeap → FRes) (f : AV) (h : AHeap) :
    RunF Try.prog Try.f88 none call [0] (SSt.mk [(0, f)] [] .none h) (.nrm)
      (SSt.mk [(0, f)] [] .none h) :=
  sxF_run [0] (hs := []) (by kernel_rfl) <| .nil
theorem sy1 (call : CallT → List AV → AHeap → FRes) (p b o m : Nat) (cp : Cap) (t : Bool) (h g g_1 : AHeap)
    (H1 : call (.fn 89) [.ptr p 0, .int .u64 (.ofNat 1)] h = FRes.ret (.tup [.slice b o m cp, .bool t]) g)
    (H2 : AEv.storeCells (AHeap.push g (.cells [.nilS] 39 .own 0 0)) (AHeap.n g) 0 [.slice b o m cp] = some g_1) :
    RunF Try.prog Try.f88 none call [1, 0] (SSt.mk [(0, .fn 89 [.ptr p 0] [])] [] .none h) (.nrm)
      (SSt.mk [(0, .fn 89 [.ptr p 0] []), (4, .bool t), (5, .ptr (AHeap.n g) 0)] [] .none g_1) :=
  sxF_run [0, 4, 5] (hs := [.c (.tup [.slice b o m cp, .bool t]) g, .vh (.tup []) g_1]) (by kernel_rfl) <| .cons H1 <| .cons (⟨by kernel_rfl, H2, rfl⟩ : some 1 = some 1 ∧ AEv.storeCells (AHeap.push g (AObj.cells [AV.nilS] 39 BK.own 0 0)) (AHeap.n g) 0 [AV.slice b o m cp] = some g_1 ∧ AV.tup [] = AV.tup []) <| .nil
theorem sy1n (call : CallT → List AV → AHeap → FRes) (p : Nat) (t : Bool) (h g g_1 : AHeap)
    (H1 : call (.fn 89) [.ptr p 0, .int .u64 (.ofNat 1)] h = FRes.ret (.tup [.nilS, .bool t]) g)
    (H2 : AEv.storeCells (AHeap.push g (.cells [.nilS] 39 .own 0 0)) (AHeap.n g) 0 [.nilS] = some g_1) :
    RunF Try.prog Try.f88 none call [1, 0] (SSt.mk [(0, .fn 89 [.ptr p 0] [])] [] .none h) (.nrm)
      (SSt.mk [(0, .fn 89 [.ptr p 0] []), (4, .bool t), (5, .ptr (AHeap.n g) 0)] [] .none g_1) :=
  sxF_run [0, 4, 5] (hs := [.c (.tup [.nilS, .bool t]) g, .vh (.tup []) g_1]) (by kernel_rfl) <| .cons H1 <| .cons (⟨by kernel_rfl, H2, rfl⟩ : some 1 = some 1 ∧ AEv.storeCells (AHeap.push g (AObj.cells [AV.nilS] 39 BK.own 0 0)) (AHeap.n g) 0 [AV.nilS] = some g_1 ∧ AV.tup [] = AV.tup []) <| .nil
theorem sy2_1 (call : CallT → List AV → AHeap → FRes) (f a : AV) (t : Bool) (h : AHeap)
    (H1 : (!t) = true) :
    RunF Try.prog Try.f88 none call [1, 1, 0] (SSt.mk [(0, f), (4, .bool t), (5, a)] [] .none h) (.ret)
      (SSt.mk [(0, f), (2, .int .u64 (.ofNat 0)), (3, .str []), (4, .bool false), (5, a)] [] .none h) :=
  sxF_run [0, 2, 3, 4, 5] (hs := [.b true]) (by kernel_rfl) <| .cons H1 <| .nil
theorem sy2_2 (call : CallT → List AV → AHeap → FRes) (f a : AV) (t : Bool) (h : AHeap)
    (H1 : (!t) = false) :
    RunF Try.prog Try.f88 none call [1, 1, 0] (SSt.mk [(0, f), (4, .bool t), (5, a)] [] .none h) (.nrm)
      (SSt.mk [(0, f), (4, .bool t), (5, a)] [] .none h) :=
  sxF_run [0, 2, 3, 4, 5] (hs := [.b false]) (by kernel_rfl) <| .cons H1 <| .nil
theorem sy3 (call : CallT → List AV → AHeap → FRes) (f a : AV) (h g_1 : AHeap)
    (H1 : AEv.storeCells (AHeap.push h (.cells [.int .u64 (.ofNat 0), .int .u64 (.ofNat 0), .int .u8 (.ofNat 0), .int .i64 (.ofNat 0)] 106 .own 0 0)) (AHeap.n h) 0 [.int .u64 (.ofNat 0), .int .u64 (.ofNat 0), .int .u8 (.ofNat 0), .int .i64 (.ofNat 0)] = some g_1) :
    RunF Try.prog Try.f88 none call [1, 1, 1, 0] (SSt.mk [(0, f), (5, a)] [] .none h) (.nrm)
      (SSt.mk [(0, f), (5, a), (6, .ptr (AHeap.n h) 0)] [] .none g_1) :=
  sxF_run [0, 5, 6] (hs := [.vh (.tup []) g_1]) (by kernel_rfl) <| .cons (⟨by kernel_rfl, H1, rfl⟩ : some 4 = some 4 ∧ AEv.storeCells (AHeap.push h (AObj.cells [AV.int IntKind.u64 (Int.ofNat 0), AV.int IntKind.u64 (Int.ofNat 0), AV.int IntKind.u8 (Int.ofNat 0), AV.int IntKind.i64 (Int.ofNat 0)] 106 BK.own 0 0)) (AHeap.n h) 0 [AV.int IntKind.u64 (Int.ofNat 0), AV.int IntKind.u64 (Int.ofNat 0), AV.int IntKind.u8 (Int.ofNat 0), AV.int IntKind.i64 (Int.ofNat 0)] = some g_1 ∧ AV.tup [] = AV.tup []) <| .nil
theorem sy4 (call : CallT → List AV → AHeap → FRes) (f a b : AV) (h : AHeap) (v_1 : AV) (g_1 : AHeap)
    (H1 : call (.fn 104) [] h = FRes.ret v_1 g_1) :
    RunF Try.prog Try.f88 none call [1, 1, 1, 1, 0, 0] (SSt.mk [(0, f), (5, a), (6, b)] [] .none h) (.nrm)
      (SSt.mk [(0, f), (5, a), (6, b), (19, v_1)] [] .none g_1) :=
  sxF_run [0, 5, 6, 19] (hs := [.c v_1 g_1]) (by kernel_rfl) <| .cons H1 <| .nil
theorem syA (call : CallT → List AV → AHeap → FRes) (l a b : Nat) (x : List AV) (h g_1 : AHeap)
    (H1 : some 4 = some (List.length x) ∧ AEv.storeCells (AHeap.push h (AObj.cells [AV.int IntKind.u64 (Int.ofNat 0), AV.int IntKind.u64 (Int.ofNat 0), AV.int IntKind.u8 (Int.ofNat 0), AV.int IntKind.i64 (Int.ofNat 0)] 106 BK.own 0 0)) (AHeap.n h) 0 x = some g_1 ∧ AV.tup [] = AV.tup []) :
    RunF Try.prog Try.f88 (some l) call [1, 1, 1, 1, 0, 1, 0, 0] (SSt.mk [(20, .agg x), (5, .ptr a 0), (6, .ptr b 0)] [] .none h) (.nrm)
      (SSt.mk [(5, .ptr a 0), (6, .ptr b 0), (7, .ptr (AHeap.n h) 0)] [] .none g_1) :=
  sxF_run [5, 6, 7] (hs := [.vh (.tup []) g_1]) (by kernel_rfl) <| .cons H1 <| .nil
theorem syB_1 (call : CallT → List AV → AHeap → FRes) (l a b c p o n : Nat) (cp : Cap) (h : AHeap) (n_1 n_2 : Nat)
    (H1 : load1 (AHeap.room h 6) c (0 + 2) = some (.int .u8 (.ofNat n_1)))
    (H2 : load1 (AHeap.room h 6) a 0 = some (.slice p o n cp))
    (H3 : Nat.le 1 n)
    (H4 : load1 (AHeap.room h 6) p (o + 0 * 1) = some (.int .u8 (.ofNat n_2)))
    (H5 : ltI (.ofNat n_2) (.ofNat n_1) = true) :
    RunF Try.prog Try.f88 (some l) call [1, 1, 1, 1, 0, 1, 0, 1] (SSt.mk [(5, .ptr a 0), (6, .ptr b 0), (7, .ptr c 0)] [] .none h) (.exit 0)
      (SSt.mk [] [] .none (AHeap.room h 6)) :=
  sxF_run [] (hs := [.v (.int .u8 (.ofNat n_1)), .v (.slice p o n cp), .v (.ptr p (o + 0 * 1)), .v (.int .u8 (.ofNat n_2)), .b true]) (by kernel_rfl) <| .cons H1 <| .cons H2 <| .cons (⟨H3, rfl⟩ : Nat.le 1 n ∧ AV.ptr p (o + 0 * 1) = AV.ptr p (o + 0 * 1)) <| .cons H4 <| .cons (by kernel_rfl : AV.sound (AV.ptr c (0 + 2)) = true) <| .cons (by kernel_rfl : AV.ptr c (0 + 2) = AV.ptr c (0 + 2)) <| .cons (by kernel_rfl : AV.sound (AV.int IntKind.u8 (Int.ofNat n_1)) = true) <| .cons H1 <| .cons (by kernel_rfl : AV.sound (AV.slice p o n cp) = true) <| .cons H2 <| .cons (by kernel_rfl : AV.sound (AV.ptr p (o + 0 * 1)) = true) <| .cons (⟨H3, rfl⟩ : Nat.le 1 n ∧ AV.ptr p (o + 0 * 1) = AV.ptr p (o + 0 * 1)) <| .cons (by kernel_rfl : AV.sound (AV.int IntKind.u8 (Int.ofNat n_2)) = true) <| .cons H4 <| .cons (by kernel_rfl : AV.sound (AV.bool (ltI (Int.ofNat n_2) (Int.ofNat n_1))) = true) <| .cons (by kernel_rfl : AV.bool (ltI (Int.ofNat n_2) (Int.ofNat n_1)) = AV.bool (ltI (Int.ofNat n_2) (Int.ofNat n_1))) <| .cons H5 <| .nil
theorem syB_2 (call : CallT → List AV → AHeap → FRes) (l a b c p o n : Nat) (cp : Cap) (h : AHeap) (n_1 n_2 n_3 n_4 n_5 n_6 : Nat) (g_1 : AHeap)
    (H1 : load1 (AHeap.room h 6) c (0 + 2) = some (.int .u8 (.ofNat n_1)))
    (H2 : load1 (AHeap.room h 6) a 0 = some (.slice p o n cp))
    (H3 : Nat.le 1 n)
    (H4 : load1 (AHeap.room h 6) p (o + 0 * 1) = some (.int .u8 (.ofNat n_2)))
    (H5 : ltI (.ofNat n_2) (.ofNat n_1) = false)
    (H6 : AEv.loadCells (AHeap.room h 6) c 0 4 = some [.int .u64 (.ofNat n_3), .int .u64 (.ofNat n_4), .int .u8 (.ofNat n_5), .int .i64 (.ofNat n_6)])
    (H7 : AEv.storeCells (AHeap.room h 6) b 0 [.int .u64 (.ofNat n_3), .int .u64 (.ofNat n_4), .int .u8 (.ofNat n_5), .int .i64 (.ofNat n_6)] = some g_1) :
    RunF Try.prog Try.f88 (some l) call [1, 1, 1, 1, 0, 1, 0, 1] (SSt.mk [(5, .ptr a 0), (6, .ptr b 0), (7, .ptr c 0)] [] .none h) (.nrm)
      (SSt.mk [] [] .none g_1) :=
  sxF_run [] (hs := [.v (.int .u8 (.ofNat n_1)), .v (.slice p o n cp), .v (.ptr p (o + 0 * 1)), .v (.int .u8 (.ofNat n_2)), .b false, .v (.agg [.int .u64 (.ofNat n_3), .int .u64 (.ofNat n_4), .int .u8 (.ofNat n_5), .int .i64 (.ofNat n_6)]), .vh (.tup []) g_1]) (by kernel_rfl) <| .cons H1 <| .cons H2 <| .cons (⟨H3, rfl⟩ : Nat.le 1 n ∧ AV.ptr p (o + 0 * 1) = AV.ptr p (o + 0 * 1)) <| .cons H4 <| .cons (by kernel_rfl : AV.sound (AV.ptr c (0 + 2)) = true) <| .cons (by kernel_rfl : AV.ptr c (0 + 2) = AV.ptr c (0 + 2)) <| .cons (by kernel_rfl : AV.sound (AV.int IntKind.u8 (Int.ofNat n_1)) = true) <| .cons H1 <| .cons (by kernel_rfl : AV.sound (AV.slice p o n cp) = true) <| .cons H2 <| .cons (by kernel_rfl : AV.sound (AV.ptr p (o + 0 * 1)) = true) <| .cons (⟨H3, rfl⟩ : Nat.le 1 n ∧ AV.ptr p (o + 0 * 1) = AV.ptr p (o + 0 * 1)) <| .cons (by kernel_rfl : AV.sound (AV.int IntKind.u8 (Int.ofNat n_2)) = true) <| .cons H4 <| .cons (by kernel_rfl : AV.sound (AV.bool (ltI (Int.ofNat n_2) (Int.ofNat n_1))) = true) <| .cons (by kernel_rfl : AV.bool (ltI (Int.ofNat n_2) (Int.ofNat n_1)) = AV.bool (ltI (Int.ofNat n_2) (Int.ofNat n_1))) <| .cons H5 <| .cons H6 <| .cons (⟨by kernel_rfl, H7, rfl⟩ : some 4 = some 4 ∧ AEv.storeCells (AHeap.room h 6) b 0 [AV.int IntKind.u64 (Int.ofNat n_3), AV.int IntKind.u64 (Int.ofNat n_4), AV.int IntKind.u8 (Int.ofNat n_5), AV.int IntKind.i64 (Int.ofNat n_6)] = some g_1 ∧ AV.tup [] = AV.tup []) <| .nil
theorem sy5 (call : CallT → List AV → AHeap → FRes) (p a b : Nat) (w : AV) (t : Bool) (d : List ADef) (h g : AHeap) (n_1 n_2 : Nat)
    (H1 : load1 h b (0 + 3) = some (.int .i64 (.ofNat n_1)))
    (H2 : evConvert Try.prog 3 52 (AV.int IntKind.i64 (Int.ofNat n_1)) h = OpRes.val (AV.int IntKind.u64 (Int.ofNat n_2)) h)
    (H3 : call (.fn 89) [.ptr p 0, .int .u64 (.ofNat n_2)] h = FRes.ret (.tup [w, .bool t]) g) :
    RunF Try.prog Try.f88 none call [1, 1, 1, 1, 1, 0] (SSt.mk [(0, .fn 89 [.ptr p 0] []), (5, .ptr a 0), (6, .ptr b 0)] d .none h) (.nrm)
      (SSt.mk [(4, .bool t), (5, .ptr a 0), (6, .ptr b 0), (8, w)] d .none g) :=
  sxF_run [4, 5, 6, 8] (hs := [.v (.int .i64 (.ofNat n_1)), .v (.int .u64 (.ofNat n_2)), .c (.tup [w, .bool t]) g]) (by kernel_rfl) <| .cons H1 <| .cons H2 <| .cons H3 <| .nil
theorem sy6_1 (call : CallT → List AV → AHeap → FRes) (a b w : AV) (t : Bool) (d : List ADef) (h : AHeap)
    (H1 : (!t) = true) :
    RunF Try.prog Try.f88 none call [1, 1, 1, 1, 1, 1, 0] (SSt.mk [(4, .bool t), (5, a), (6, b), (8, w)] d .none h) (.ret)
      (SSt.mk [(2, .int .u64 (.ofNat 0)), (3, .str []), (4, .bool false), (5, a), (6, b), (8, w)] d .none h) :=
  sxF_run [2, 3, 4, 5, 6, 8] (hs := [.b true]) (by kernel_rfl) <| .cons H1 <| .nil
theorem sy6_2 (call : CallT → List AV → AHeap → FRes) (a b w : AV) (t : Bool) (d : List ADef) (h : AHeap)
    (H1 : (!t) = false) :
    RunF Try.prog Try.f88 none call [1, 1, 1, 1, 1, 1, 0] (SSt.mk [(4, .bool t), (5, a), (6, b), (8, w)] d .none h) (.nrm)
      (SSt.mk [(4, .bool t), (5, a), (6, b), (8, w)] d .none h) :=
  sxF_run [2, 3, 4, 5, 6, 8] (hs := [.b false]) (by kernel_rfl) <| .cons H1 <| .nil
theorem sy7 (call : CallT → List AV → AHeap → FRes) (a b : Nat) (w : AV) (d : List ADef) (h : AHeap) (n_1 n_2 n_3 : Nat) (c_1 : Cap) (n_4 n_5 n_6 n_7 : Nat)
    (H1 : load1 (AHeap.room h 8) a 0 = some (.slice n_1 n_2 n_3 c_1))
    (H2 : Nat.le 1 n_3)
    (H3 : load1 (AHeap.room h 8) n_1 (n_2 + 0 * 1) = some (.int .u8 (.ofNat n_4)))
    (H4 : load1 (AHeap.room h 8) b (0 + 2) = some (.int .u8 (.ofNat n_5)))
    (H5 : arith .sub .u8 (.ofNat n_4) (.ofNat n_5) = some (.int .u8 (.ofNat n_6)))
    (H6 : evConvert Try.prog 5 52 (AV.int IntKind.u8 (Int.ofNat n_6)) (AHeap.room h 8) = OpRes.val (AV.int IntKind.u64 (Int.ofNat n_7)) (AHeap.room h 8)) :
    RunF Try.prog Try.f88 none call [1, 1, 1, 1, 1, 1, 1, 0] (SSt.mk [(5, .ptr a 0), (6, .ptr b 0), (8, w)] d .none h) (.nrm)
      (SSt.mk [(2, .int .u64 (.ofNat n_7)), (5, .ptr a 0), (6, .ptr b 0), (8, w)] d .none (AHeap.room h 8)) :=
  sxF_run [2, 5, 6, 8] (hs := [.v (.slice n_1 n_2 n_3 c_1), .v (.ptr n_1 (n_2 + 0 * 1)), .v (.int .u8 (.ofNat n_4)), .v (.int .u8 (.ofNat n_5)), .v (.int .u8 (.ofNat n_6)), .v (.int .u64 (.ofNat n_7))]) (by kernel_rfl) <| .cons H1 <| .cons (⟨H2, rfl⟩ : Nat.le 1 n_3 ∧ AV.ptr n_1 (n_2 + 0 * 1) = AV.ptr n_1 (n_2 + 0 * 1)) <| .cons H3 <| .cons H4 <| .cons H5 <| .cons H6 <| .cons (by kernel_rfl : AV.sound (AV.slice n_1 n_2 n_3 c_1) = true) <| .cons H1 <| .cons (by kernel_rfl : AV.sound (AV.ptr n_1 (n_2 + 0 * 1)) = true) <| .cons (⟨H2, rfl⟩ : Nat.le 1 n_3 ∧ AV.ptr n_1 (n_2 + 0 * 1) = AV.ptr n_1 (n_2 + 0 * 1)) <| .cons (by kernel_rfl : AV.sound (AV.int IntKind.u8 (Int.ofNat n_4)) = true) <| .cons H3 <| .cons (by kernel_rfl : AV.sound (AV.ptr b (0 + 2)) = true) <| .cons (by kernel_rfl : AV.ptr b (0 + 2) = AV.ptr b (0 + 2)) <| .cons (by kernel_rfl : AV.sound (AV.int IntKind.u8 (Int.ofNat n_5)) = true) <| .cons H4 <| .cons (by kernel_rfl : AV.sound (AV.int IntKind.u8 (Int.ofNat n_6)) = true) <| .cons H5 <| .cons (by kernel_rfl : AV.sound (AV.int IntKind.u64 (Int.ofNat n_7)) = true) <| .cons H6 <| .cons (by kernel_rfl : AV.sound (AV.int IntKind.u64 (Int.ofNat n_7)) = true) <| .cons (by kernel_rfl : AV.int IntKind.u64 (Int.ofNat n_7) = AV.int IntKind.u64 (Int.ofNat n_7)) <| .nil
theorem sy8 (call : CallT → List AV → AHeap → FRes) (a b : AV) (k c o n : Nat) (cp : Cap) (d : List ADef) (h : AHeap) :
    RunF Try.prog Try.f88 none call [1, 1, 1, 1, 1, 1, 1, 1, 0, 0] (SSt.mk [(2, .int .u64 (.ofNat k)), (5, a), (6, b), (8, .slice c o n cp)] d .none h) (.nrm)
      (SSt.mk [(2, .int .u64 (.ofNat k)), (5, a), (6, b), (8, .slice c o n cp), (45, .slice c o n cp), (46, .int .i64 (.ofNat n)), (47, .int .i64 (.ofNat 0))] d .none h) :=
  sxF_run [2, 5, 6, 8, 45, 46, 47] (hs := []) (by kernel_rfl) <| .nil
theorem syl_1 (call : CallT → List AV → AHeap → FRes) (a b w : AV) (k c o n i : Nat) (cp : Cap) (d : List ADef) (h : AHeap) (n_1 n_2 n_3 n_4 n_5 : Nat)
    (H1 : ltI (.ofNat i) (.ofNat n) = true)
    (H2 : Nat.le (Nat.succ i) n)
    (H3 : load1 h c (o + i * 1) = some (.int .u8 (.ofNat n_1)))
    (H4 : shiftA .shl .u64 (.ofNat k) (.ofNat 8) = some (.int .u64 (.ofNat n_2)))
    (H5 : evConvert Try.prog 5 52 (AV.int IntKind.u8 (Int.ofNat n_1)) h = OpRes.val (AV.int IntKind.u64 (Int.ofNat n_3)) h)
    (H6 : arith .or .u64 (.ofNat n_2) (.ofNat n_3) = some (.int .u64 (.ofNat n_4)))
    (H7 : arith .add .i64 (.ofNat i) (.ofNat 1) = some (.int .i64 (.ofNat n_5))) :
    RunF Try.prog Try.f88 none call [1, 1, 1, 1, 1, 1, 1, 1, 0, 1, 0, 0] (SSt.mk [(2, .int .u64 (.ofNat k)), (5, a), (6, b), (8, w), (45, .slice c o n cp), (46, .int .i64 (.ofNat n)), (47, .int .i64 (.ofNat i))] d .none h) (.nrm)
      (SSt.mk [(2, .int .u64 (.ofNat n_4)), (5, a), (6, b), (8, w), (45, .slice c o n cp), (46, .int .i64 (.ofNat n)), (47, .int .i64 (.ofNat n_5))] d .none h) :=
  sxF_run [2, 5, 6, 8, 45, 46, 47] (hs := [.b true, .v (.ptr c (o + i * 1)), .v (.int .u8 (.ofNat n_1)), .v (.int .u64 (.ofNat n_2)), .v (.int .u64 (.ofNat n_3)), .v (.int .u64 (.ofNat n_4)), .v (.int .i64 (.ofNat n_5))]) (by kernel_rfl) <| .cons H1 <| .cons (⟨H2, rfl⟩ : Nat.le (Nat.succ i) n ∧ AV.ptr c (o + i * 1) = AV.ptr c (o + i * 1)) <| .cons H3 <| .cons H4 <| .cons H5 <| .cons H6 <| .cons H7 <| .nil
theorem syl_2 (call : CallT → List AV → AHeap → FRes) (a b w : AV) (k c o n i : Nat) (cp : Cap) (d : List ADef) (h : AHeap)
    (H1 : ltI (.ofNat i) (.ofNat n) = false) :
    RunF Try.prog Try.f88 none call [1, 1, 1, 1, 1, 1, 1, 1, 0, 1, 0, 0] (SSt.mk [(2, .int .u64 (.ofNat k)), (5, a), (6, b), (8, w), (45, .slice c o n cp), (46, .int .i64 (.ofNat n)), (47, .int .i64 (.ofNat i))] d .none h) (.exit 2)
      (SSt.mk [(2, .int .u64 (.ofNat k)), (5, a), (6, b), (8, w), (45, .slice c o n cp), (46, .int .i64 (.ofNat n)), (47, .int .i64 (.ofNat i))] d .none h) :=
  sxF_run [2, 5, 6, 8, 45, 46, 47] (hs := [.b false]) (by kernel_rfl) <| .cons H1 <| .nil
theorem sy9 (call : CallT → List AV → AHeap → FRes) (a b k f c o n c2 o2 n2 : Nat) (cp cp2 : Cap) (s t : List UInt8) (d : List ADef) (h : AHeap) (n_1 : Nat) (t_1 : List UInt8)
    (H1 : load1 (AHeap.room h 12) b (0 + 0) = some (.int .u64 (.ofNat f)))
    (H2 : arith .add .u64 (.ofNat k) (.ofNat f) = some (.int .u64 (.ofNat n_1)))
    (H3 : load1 (AHeap.room h 12) a 0 = some (.slice c2 o2 n2 cp2))
    (H4 : evConvert Try.prog 39 9 (AV.slice c2 o2 n2 cp2) (AHeap.room h 12) = OpRes.val (AV.str s) (AHeap.room h 12))
    (H5 : evConvert Try.prog 39 9 (AV.slice c o n cp) (AHeap.room h 12) = OpRes.val (AV.str t) (AHeap.room h 12))
    (H6 : strOp .add s t = some (.str t_1)) :
    RunF Try.prog Try.f88 none call [1, 1, 1, 1, 1, 1, 1, 1, 1] (SSt.mk [(2, .int .u64 (.ofNat k)), (5, .ptr a 0), (6, .ptr b 0), (8, .slice c o n cp)] d .none h) (.ret)
      (SSt.mk [(2, .int .u64 (.ofNat n_1)), (3, .str t_1), (4, .bool true)] d .none (AHeap.room h 12)) :=
  sxF_run [2, 3, 4] (hs := [.v (.int .u64 (.ofNat f)), .v (.int .u64 (.ofNat n_1)), .v (.slice c2 o2 n2 cp2), .v (.str s), .v (.str t), .v (.str t_1)]) (by kernel_rfl) <| .cons H1 <| .cons H2 <| .cons H3 <| .cons H4 <| .cons H5 <| .cons H6 <| .cons (by kernel_rfl : AV.sound (AV.int IntKind.u64 (Int.ofNat k)) = true) <| .cons (by kernel_rfl : AV.int IntKind.u64 (Int.ofNat k) = AV.int IntKind.u64 (Int.ofNat k)) <| .cons (by kernel_rfl : AV.sound (AV.ptr b (0 + 0)) = true) <| .cons (by kernel_rfl : AV.ptr b (0 + 0) = AV.ptr b (0 + 0)) <| .cons (by kernel_rfl : AV.sound (AV.int IntKind.u64 (Int.ofNat f)) = true) <| .cons H1 <| .cons (by kernel_rfl : AV.sound (AV.int IntKind.u64 (Int.ofNat n_1)) = true) <| .cons H2 <| .cons (by kernel_rfl : AV.sound (AV.slice c2 o2 n2 cp2) = true) <| .cons H3 <| .cons (by kernel_rfl : AV.sound (AV.str s) = true) <| .cons H4 <| .cons (by kernel_rfl : AV.sound (AV.slice c o n cp) = true) <| .cons (by kernel_rfl : AV.slice c o n cp = AV.slice c o n cp) <| .cons (by kernel_rfl : AV.sound (AV.str t) = true) <| .cons H5 <| .cons (by kernel_rfl : AV.sound (AV.str t_1) = true) <| .cons H6 <| .cons (by kernel_rfl : AV.sound (AV.int IntKind.u64 (Int.ofNat n_1)) = true) <| .cons (by kernel_rfl : AV.int IntKind.u64 (Int.ofNat n_1) = AV.int IntKind.u64 (Int.ofNat n_1)) <| .cons (by kernel_rfl : AV.sound (AV.str t_1) = true) <| .cons (by kernel_rfl : AV.str t_1 = AV.str t_1) <| .cons (by kernel_rfl : AV.sound (AV.bool true) = true) <| .cons (by kernel_rfl : AV.bool true = AV.bool true) <| .nil

/-! ### Numbers -/
theorem shl8 {n : Nat} (h : n * 256 < 18446744073709551616) : shiftA BinOp.shl IntKind.u64 (Int.ofNat n) (Int.ofNat 8) = some (AV.int IntKind.u64 (Int.ofNat (n * 256))) := by
  have h := wrap_u64 (n * 256) h
  have e1 : (Int.ofNat 8).toNat = 8 := rfl
  have e2 : min 8 IntKind.u64.bits = 8 := rfl
  have e3 : Int.ofNat n * 2 ^ 8 = ((n * 256 : Nat) : Int) := rfl
  have hn : ¬ (Int.ofNat 8 < 0) := by have : Int.ofNat 8 = 8 := rfl; omega
  simp only [shiftA, if_neg hn, e1, e2, e3, h]; rfl
theorem or_u64 {n c : Nat} (hc : c < 256) (h : n * 256 + c < 18446744073709551616) : arith BinOp.or IntKind.u64 (Int.ofNat (n * 256)) (Int.ofNat c) = some (AV.int IntKind.u64 (Int.ofNat (n * 256 + c))) := by
  have hw := wrap_u64 (n * 256 + c) h
  have e0 : IntKind.u64.bits = 64 := rfl
  have key : (BitVec.ofInt 64 (Int.ofNat (n * 256)) ||| BitVec.ofInt 64 (Int.ofNat c)).toNat = n * 256 + c := by
    have e1 : ∀ k : Nat, k < 18446744073709551616 → (BitVec.ofInt 64 (Int.ofNat k)).toNat = k := fun k hk => by
      have : BitVec.ofInt 64 (Int.ofNat k) = BitVec.ofNat 64 k := BitVec.ofInt_natCast 64 k
      rw [this, BitVec.toNat_ofNat]; exact Nat.mod_eq_of_lt hk
    rw [BitVec.toNat_or, e1 _ (by omega), e1 _ (by omega)]
    have := Nat.shiftLeft_add_eq_or_of_lt (i := 8) (b := c) (by simpa using hc) n
    rw [Nat.shiftLeft_eq] at this
    exact this.symm
  show some (AV.int .u64 (IntKind.wrap .u64 (((BitVec.ofInt 64 (Int.ofNat (n * 256)) ||| BitVec.ofInt 64 (Int.ofNat c)).toNat : Nat) : Int))) = _
  rw [key, hw]; rfl
theorem conv_8_64 (n : Nat) (hn : n < 256) (h : AHeap) : evConvert Try.prog 5 52 (.int .u8 (Int.ofNat n)) h = .val (.int .u64 (Int.ofNat n)) h := conv_int u8t u64t (wrap_u64 n (by omega))
theorem u8size : sizeT Try.prog 5 = some 1 := by kernel_rfl
theorem nth_bytes : ∀ (l : List UInt8) (j : Nat) (h : j < l.length), nth j (byteCells l) = some (.int .u8 (Int.ofNat (l[j]).toNat))
  | [], j, h => by simp at h
  | x :: l, 0, h => rfl
  | x :: l, j + 1, h => by
    have := nth_bytes l j (by simpa using h)
    simpa [byteCells, nth] using this

/-! ### The document's reader -/
def endS : RdS → Bool
  | none => false
  | some s => s.isEmpty
end Go.Proofs.Wire

namespace Go.Proofs.Wire
open Go AEv Go.Proofs Go.Proofs.Enc
set_option maxRecDepth 100000
set_option maxHeartbeats 1000000

/-! ### wire.Reader -/
/-- The bytes ahead. -/
def RdV (h : AHeap) (p : Nat) (v : AV) (s : List UInt8) : Prop :=
  (s = [] ∧ ∃ b o, v = .slice b o 0 .dead) ∨ ∃ b pre, v = .slice b pre.length s.length (.opn 1) ∧ b < h.n ∧ b ≠ p ∧ h.get b = some (.cells (byteCells (pre ++ s)) 5 .opn 0 0)
def Rd (h : AHeap) (p : Nat) : RdS → Prop
  | none => p < h.n ∧ h.get p = some (.cells [.nilS, .bool true] 110 .own 0 0)
  | some s => p < h.n ∧ s.length ≤ 1000000 ∧ ∃ v, h.get p = some (.cells [v, .bool false] 110 .own 0 0) ∧ RdV h p v s
theorem Rd.lt {h : AHeap} {p : Nat} {st : RdS} (hr : Rd h p st) : p < h.n := by
  cases st with
  | none => exact hr.1
  | some s => exact hr.1
theorem Rd.mono {B p : Nat} {h h' : AHeap} {st : RdS} (hr : Rd h p st) (e : Ext B h h') (hB : h.n ≤ B) : Rd h' p st := by
  have hp := hr.lt
  cases st with
  | none => exact ⟨Nat.lt_of_lt_of_le hp e.n, (e.get p (by omega)).trans hr.2⟩
  | some s =>
    obtain ⟨h1, h2, v, h3, h4⟩ := hr
    refine ⟨Nat.lt_of_lt_of_le hp e.n, h2, v, (e.get p (by omega)).trans h3, ?_⟩
    rcases h4 with h4 | ⟨b, pre, q1, q2, q3, q4⟩
    · exact .inl h4
    · exact .inr ⟨b, pre, q1, Nat.lt_of_lt_of_le q2 e.n, q3, (e.get b (by omega)).trans q4⟩
/-- Bytes that were cut off. -/
def ByV (h : AHeap) (p : Nat) (w : AV) (t : List UInt8) : Prop :=
  ∃ b o cp, w = .slice b o t.length cp ∧ ((t = [] ∧ cp = .dead) ∨ ((∃ k, cp = .exact k) ∧ b < h.n ∧ b ≠ p ∧ ∃ pre rest el, o = pre.length ∧ h.get b = some (.cells (byteCells (pre ++ (t ++ rest))) el .opn 0 0)))
theorem ByV.monoX {B p : Nat} {h h' : AHeap} {w : AV} {t : List UInt8} (hr : ByV h p w t) (e : ExtX p B h h') (hB : h.n ≤ B) : ByV h' p w t := by
  obtain ⟨b, o, cp, h1, h2⟩ := hr
  refine ⟨b, o, cp, h1, ?_⟩
  rcases h2 with h2 | ⟨h2, h3, h4, pre, rest, el, h5, h6⟩
  · exact .inl h2
  · exact .inr ⟨h2, Nat.lt_of_lt_of_le h3 e.n, h4, pre, rest, el, h5, (e.get b (by omega) h4).trans h6⟩
theorem bc_cut {h : AHeap} {b el lo up : Nat} {k : BK} {pre t rest : List UInt8} (hg : h.get b = some (.cells (byteCells (pre ++ (t ++ rest))) el k lo up)) : AEv.loadCells h b pre.length t.length = some (byteCells t) := by
  have e : byteCells (pre ++ (t ++ rest)) = byteCells pre ++ (byteCells t ++ byteCells rest) := by rw [byteCells_app, byteCells_app]
  simp only [AEv.loadCells, hg, e]
  have h1 := dropN_app (byteCells pre) (byteCells t ++ byteCells rest)
  rw [byteCells_len] at h1
  rw [h1]
  exact takeN_app' _ _ _ (byteCells_len t)
theorem bc_load {h : AHeap} {b el lo up : Nat} {k : BK} {pre t rest : List UInt8} (hg : h.get b = some (.cells (byteCells (pre ++ (t ++ rest))) el k lo up)) {i off : Nat} (hi : i < t.length) (ho : off = pre.length + i) : load1 h b off = some (.int .u8 (Int.ofNat (t[i]).toNat)) := by
  have hl : pre.length + i < (pre ++ (t ++ rest)).length := by simp; omega
  have := nth_bytes (pre ++ (t ++ rest)) (pre.length + i) hl
  have e : (pre ++ (t ++ rest))[pre.length + i] = t[i] := by
    rw [List.getElem_append_right (by omega)]
    simp only [Nat.add_sub_cancel_left]
    rw [List.getElem_append_left hi]
  rw [e] at this
  simp only [load1, hg, ho, this]
theorem ByV.conv {h : AHeap} {p : Nat} {w : AV} {t : List UInt8} (hb : ByV h p w t) : evConvert Try.prog 39 9 w h = .val (.str t) h := by
  obtain ⟨b, o, cp, rfl, hc⟩ := hb
  rcases hc with ⟨rfl, rfl⟩ | ⟨⟨k, rfl⟩, _, _, pre, rest, el, rfl, hg⟩
  · simp only [evConvert, bytest, strt, u8t]; rfl
  · simp only [evConvert, bytest, strt, u8t, bc_cut hg, cellBytes_of]
def cutOK : Nat → RdS → Bool
  | k, none => decide (k = 0)
  | k, some s => decide (k ≤ s.length)
theorem sl3 {g : AHeap} {b o n k : Nat} (hk : k ≤ n) : sliceA Try.prog g 39 (.slice b o n (.opn 1)) none (some (.int .u64 (Int.ofNat k))) (some (.int .u64 (Int.ofNat k))) = some (.slice b o k (.exact k)) := by
  have hb1 : Nat.ble k n = true := by simpa using hk
  have hb2 : Nat.ble k k = true := by simp
  have hb3 : Nat.ble 0 k = true := by simp
  simp only [sliceA, bytest, u8size, bounds, optN, asN, hb1, hb2, hb3]
  simp
theorem slf {g : AHeap} {b o n k : Nat} (hk : k ≤ n) : sliceA Try.prog g 39 (.slice b o n (.opn 1)) (some (.int .u64 (Int.ofNat k))) none none = some (if k < n ∨ k = 0 then .slice b (o + k) (n - k) (.opn 1) else .slice b o 0 .dead) := by
  have hb1 : Nat.ble n n = true := by simp
  have hb2 : Nat.ble k n = true := by simpa using hk
  simp only [sliceA, bytest, u8size, bounds, optN, asN, hb1, hb2]
  by_cases h0 : k = 0
  · subst h0; simp
  · by_cases h1 : k < n
    · have hb3 : Nat.blt k n = true := by simpa [Nat.blt_eq] using h1
      simp [h0, h1, hb3]
    · have hb3 : Nat.blt k n = false := by
        cases hx : Nat.blt k n with
        | false => rfl
        | true => rw [Nat.blt_eq] at hx; omega
      simp [h0, h1, hb3]
theorem RdV.from {g : AHeap} {p k : Nat} {b : Nat} {pre s : List UInt8} (hk : k ≤ s.length) (h1 : b < g.n) (h2 : b ≠ p) (hg : g.get b = some (.cells (byteCells (pre ++ s)) 5 .opn 0 0)) : RdV g p (if k < s.length ∨ k = 0 then .slice b (pre.length + k) (s.length - k) (.opn 1) else .slice b pre.length 0 .dead) (s.drop k) := by
  by_cases h : k < s.length ∨ k = 0
  · rw [if_pos h]
    refine .inr ⟨b, pre ++ s.take k, by rw [List.length_append, List.length_take, List.length_drop, Nat.min_eq_left hk], h1, h2, ?_⟩
    rw [List.append_assoc, List.take_append_drop]; exact hg
  · rw [if_neg h]
    exact .inl ⟨List.drop_eq_nil_of_le (by omega), b, pre.length, rfl⟩
theorem cut_c (m p k : Nat) (st : RdS) (h : AHeap) (hr : Rd h p st) (hk : k < 18446744073709551616) :
    ∃ w h', C (m + 1) (.fn 89) [.ptr p 0, .int .u64 (Int.ofNat k)] h = .ret (.tup [w, .bool (cutOK k st)]) h' ∧ ExtX p h.n h h' ∧ Rd h' p (cutS k st).2 ∧ ((w = .nilS ∧ (cutS k st).1 = [] ∧ (st = none ∨ cutOK k st = false)) ∨ ByV h' p w (cutS k st).1) := by
  cases st with
  | none =>
    obtain ⟨h1, h2⟩ := hr
    by_cases h0 : k = 0
    · subst h0
      have sn1 : sliceA Try.prog h 39 .nilS none (some (.int .u64 (Int.ofNat 0))) (some (.int .u64 (Int.ofNat 0))) = some .nilS := by simp only [sliceA, bytest, u8size]; rfl
      have sn2 : sliceA Try.prog h 39 .nilS (some (.int .u64 (Int.ofNat 0))) none none = some .nilS := by simp only [sliceA, bytest, u8size]; rfl
      exact ⟨.nilS, _, fn_runF (intr := Ii) (n := m) (args := [.ptr p 0, .int .u64 (Int.ofNat 0)]) Try.func89 (by kernel_rfl) rfl (by kernel_rfl) (ctz _ _ _ _ (ld1A rfl) (sn1) (sn2) (stcA rfl rfl)) (.inl rfl) (by kernel_rfl), exxA, ⟨by simpa using h1, gsame rfl⟩, .inl ⟨rfl, rfl, .inl rfl⟩⟩
    · rw [show cutOK k none = false by simp [cutOK, h0]]
      exact ⟨.nilS, _, fn_runF (intr := Ii) (n := m) (args := [.ptr p 0, .int .u64 (Int.ofNat k)]) Try.func89 (by kernel_rfl) rfl (by kernel_rfl) (ctn_1 _ _ _ _ _ _ (ld1A rfl) (lt_t (by omega)) (stcA rfl rfl) (stcA rfl rfl)) (.inl rfl) (by kernel_rfl), exxA, ⟨by simpa using h1, gsame rfl⟩, .inl ⟨rfl, rfl, .inl rfl⟩⟩
  | some s =>
    obtain ⟨h1, h2, v, h3, h4⟩ := hr
    by_cases hle : k ≤ s.length
    · rw [show cutOK k (some s) = true by simp [cutOK, hle], cutS_t hle]
      rcases h4 with ⟨rfl, b, o, rfl⟩ | ⟨b, pre, rfl, q2, q3, q4⟩
      · obtain rfl : k = 0 := by simpa using hle
        have sd1 : sliceA Try.prog h 39 (.slice b o 0 .dead) none (some (.int .u64 (Int.ofNat 0))) (some (.int .u64 (Int.ofNat 0))) = some (.slice b o 0 .dead) := by simp only [sliceA, bytest, u8size]; rfl
        have sd2 : sliceA Try.prog h 39 (.slice b o 0 .dead) (some (.int .u64 (Int.ofNat 0))) none none = some (.slice b o 0 .dead) := by simp only [sliceA, bytest, u8size]; rfl
        exact ⟨.slice b o 0 .dead, _, fn_runF (intr := Ii) (n := m) (args := [.ptr p 0, .int .u64 (Int.ofNat 0)]) Try.func89 (by kernel_rfl) rfl (by kernel_rfl) (ct_2 _ _ _ _ _ _ _ _ _ _ _ _ _ _ _ _ _ _ (ld1A rfl) (conv_u64 0 (by omega) h) (lt_f (by omega)) (sd1) (sd2) (stcA rfl rfl)) (.inl rfl) (by kernel_rfl), exxA, ⟨by simpa using h1, by simp, _, gsame rfl, .inl ⟨rfl, b, o, rfl⟩⟩, .inr ⟨b, o, .dead, rfl, .inl ⟨rfl, rfl⟩⟩⟩
      · have s1 := sl3 (g := h) (b := b) (o := pre.length) hle
        have s2 := slf (g := h) (b := b) (o := pre.length) hle
        have hlt : (s.take k).length = k := by rw [List.length_take]; omega
        have body : ∀ b2 o2 n2 c2, AV.slice b2 o2 n2 c2 = (if k < s.length ∨ k = 0 then .slice b (pre.length + k) (s.length - k) (.opn 1) else .slice b pre.length 0 .dead) → ∃ w h', C (m + 1) (.fn 89) [.ptr p 0, .int .u64 (Int.ofNat k)] h = .ret (.tup [w, .bool true]) h' ∧ ExtX p h.n h h' ∧ Rd h' p (some (s.drop k)) ∧ ((w = .nilS ∧ s.take k = [] ∧ (some s = none ∨ true = false)) ∨ ByV h' p w (s.take k)) := by
          intro b2 o2 n2 c2 e
          rw [← e] at s2
          have gb : (h.set p (some (.cells [.slice b2 o2 n2 c2, .bool false] 110 .own 0 0))).get b = some (.cells (byteCells (pre ++ s)) 5 .opn 0 0) := gother q3 q4
          refine ⟨.slice b pre.length k (.exact k), _, fn_runF (intr := Ii) (n := m) (args := [.ptr p 0, .int .u64 (Int.ofNat k)]) Try.func89 (by kernel_rfl) rfl (by kernel_rfl) (ct_2 _ _ _ _ _ _ _ _ _ _ _ _ _ _ _ _ _ _ (ld1A rfl) (conv_u64 _ (by omega) h) (lt_f (by omega)) (s1) (s2) (stcA rfl rfl)) (.inl rfl) (by kernel_rfl), exxA, ⟨by simpa using h1, by rw [List.length_drop]; omega, _, gsame rfl, ?_⟩, .inr ⟨b, pre.length, .exact k, by rw [hlt], .inr ⟨⟨k, rfl⟩, by simpa using q2, q3, pre, s.drop k, _, rfl, by rw [List.take_append_drop]; exact gb⟩⟩⟩
          have rv := RdV.from hle (by simpa using q2) q3 gb
          rw [← e] at rv
          exact rv
        by_cases hc : k < s.length ∨ k = 0
        · exact body _ _ _ _ (by rw [if_pos hc])
        · exact body _ _ _ _ (by rw [if_neg hc])
    · rw [show cutOK k (some s) = false by simp [cutOK, hle], cutS_f hle]
      have fin : ∀ b o c, v = .slice b o s.length c → ∃ w h', C (m + 1) (.fn 89) [.ptr p 0, .int .u64 (Int.ofNat k)] h = .ret (.tup [w, .bool false]) h' ∧ ExtX p h.n h h' ∧ Rd h' p none ∧ ((w = .nilS ∧ ([] : List UInt8) = [] ∧ (some s = none ∨ false = false)) ∨ ByV h' p w []) := by
        rintro b o c rfl
        exact ⟨.nilS, _, fn_runF (intr := Ii) (n := m) (args := [.ptr p 0, .int .u64 (Int.ofNat k)]) Try.func89 (by kernel_rfl) rfl (by kernel_rfl) (ct_1 _ _ _ _ _ _ _ _ _ _ _ (ld1 h3 rfl) (conv_u64 _ (by omega) h) (lt_t (by omega)) (stcA rfl rfl) (stcA rfl rfl)) (.inl rfl) (by kernel_rfl), exxA, ⟨by simpa using h1, gsame rfl⟩, .inl ⟨rfl, rfl, .inr rfl⟩⟩
      rcases h4 with ⟨rfl, b, o, rfl⟩ | ⟨b, pre, rfl, q2, q3, q4⟩
      · exact fin b o .dead rfl
      · exact fin b pre.length (.opn 1) rfl
theorem newr_c (m : Nat) (s : List UInt8) (h : AHeap) (hs : s.length ≤ 1000000) : ∃ p h', C (m + 1) (.fn 55) [.str s] h = .ret (.ptr p 0) h' ∧ Ext h.n h h' ∧ h.n ≤ p ∧ Rd h' p (some s) := by
  have cv : evConvert Try.prog 9 39 (.str s) h = .val (.slice h.n 0 s.length (.opn 1)) (h.push (.cells (byteCells s) 5 .opn 0 0)) := by simp only [evConvert, strt, bytest, u8t]
  refine ⟨h.n + 1, _, fn_runF (intr := Ii) (n := m) (args := [.str s]) Try.func55 (by kernel_rfl) rfl (by kernel_rfl) (nr _ _ _ _ _ _ _ _ (cv)) (.inl rfl) (by kernel_rfl), exA, by omega, ⟨by simp, hs, _, gtop (by simp), .inr ⟨h.n, [], rfl, by simp; omega, by omega, ?_⟩⟩⟩
  exact gold (by simp) (gtop rfl)
theorem ok_c (m p : Nat) (st : RdS) (h : AHeap) (hr : Rd h p st) : C (m + 1) (.fn 57) [.ptr p 0] h = .ret (.bool (!st.isNone)) h := by
  cases st with
  | none => obtain ⟨h1, h2⟩ := hr; exact fn_runF (intr := Ii) (n := m) (args := [.ptr p 0]) Try.func57 (by kernel_rfl) rfl (by kernel_rfl) (ok1 _ _ _ _ (ld1A rfl)) (.inl rfl) (by kernel_rfl)
  | some s => obtain ⟨h1, h2, v, h3, h4⟩ := hr; exact fn_runF (intr := Ii) (n := m) (args := [.ptr p 0]) Try.func57 (by kernel_rfl) rfl (by kernel_rfl) (ok1 _ _ _ _ (ld1A rfl)) (.inl rfl) (by kernel_rfl)
theorem end_c (m p : Nat) (st : RdS) (h : AHeap) (hr : Rd h p st) : C (m + 2) (.fn 59) [.ptr p 0] h = .ret (.bool (endS st)) h := by
  have hk := ok_c m p st h hr
  cases st with
  | none => exact fn_runF (intr := Ii) (n := m + 1) (args := [.ptr p 0]) Try.func59 (by kernel_rfl) rfl (by kernel_rfl) (en1_2 _ _ _ _ _ (hk) rfl) (.inl rfl) (by kernel_rfl)
  | some s =>
    obtain ⟨h1, h2, v, h3, h4⟩ := hr
    have e : endS (some s) = eqI (Int.ofNat s.length) (Int.ofNat 0) := by
      cases s with
      | nil => rfl
      | cons a l => show false = _; rw [eqI_f (by simp)]
    rw [e]
    rcases h4 with ⟨rfl, b, o, rfl⟩ | ⟨b, pre, rfl, q2, q3, q4⟩
    · exact fn_runF (intr := Ii) (n := m + 1) (args := [.ptr p 0]) Try.func59 (by kernel_rfl) rfl (by kernel_rfl) (en1_1 _ _ _ _ _ _ _ _ _ (hk) rfl (ld1A rfl)) (.inl rfl) (by kernel_rfl)
    · exact fn_runF (intr := Ii) (n := m + 1) (args := [.ptr p 0]) Try.func59 (by kernel_rfl) rfl (by kernel_rfl) (en1_1 _ _ _ _ _ _ _ _ _ (hk) rfl (ld1A rfl)) (.inl rfl) (by kernel_rfl)
end Go.Proofs.Wire

namespace Go.Proofs.Wire
open Go AEv Go.Proofs Go.Proofs.Enc
set_option maxRecDepth 100000
set_option maxHeartbeats 1000000

/-! ### wire.says, Num, Text -/
def srtK : Nat → Nat × Nat × Nat × Nat
  | 0 => (0, 240, 0, 0)
  | 1 => (240, 2287, 241, 1)
  | 2 => (2288, 67823, 249, 2)
  | k => (0, 256 ^ k - 1, 247 + k, k)
def fstK : Nat → Nat
  | 0 => 0
  | 1 => 241
  | 2 => 249
  | k => 247 + k
theorem srtK_3 (i : Nat) (h : 3 ≤ i) : srtK i = (0, 256 ^ i - 1, 247 + i, i) := by
  match i, h with
  | k + 3, _ => rfl
theorem fstK_3 (i : Nat) (h : 3 ≤ i) : fstK i = 247 + i := by
  match i, h with
  | k + 3, _ => rfl
theorem srtK_f : ∀ k, (srtK k).2.2.1 = fstK k
  | 0 => rfl
  | 1 => rfl
  | 2 => rfl
  | _ + 3 => rfl
def kOf (b : Nat) : Nat := if b ≤ 240 then 0 else if b ≤ 248 then 1 else b - 247
theorem lowN_add (a : Nat) : ∀ t : List UInt8, lowN a t = a * 256 ^ t.length + lowN 0 t
  | [] => by simp [lowN]
  | c :: t => by
    rw [lowN, lowN_add (a * 256 + c.toNat) t, lowN, lowN_add (0 * 256 + c.toNat) t, List.length_cons, Nat.pow_succ]
    simp only [Nat.zero_mul, Nat.zero_add, Nat.add_mul]
    rw [Nat.mul_assoc, Nat.mul_comm 256, Nat.add_assoc]
theorem kOf_spec (b : Nat) (hb : b < 256) : fstK (kOf b) ≤ b ∧ (srtK (kOf b)).2.2.2 = szOf b ∧ (srtK (kOf b)).1 ≤ 2288 ∧ (∀ u : List UInt8, u.length = szOf b → lowN (b - fstK (kOf b)) u + (srtK (kOf b)).1 = vlOf b u) ∧ (b - fstK (kOf b) + 1) * 256 ^ szOf b ≤ 18446744073709551616 := by
  unfold kOf szOf
  by_cases h1 : b ≤ 240
  · simp only [if_pos h1]
    refine ⟨Nat.zero_le _, rfl, by simp [srtK], fun u hu => ?_, ?_⟩
    · have : u = [] := List.eq_nil_of_length_eq_zero hu
      subst this
      simp [lowN, vlOf, h1, fstK, srtK]
    · simp [fstK]; omega
  · by_cases h2 : b ≤ 248
    · simp only [if_neg h1, if_pos h2]
      refine ⟨by simp [fstK]; omega, rfl, by simp [srtK], fun u hu => ?_, ?_⟩
      · rw [lowN_add, hu]
        simp only [vlOf, if_neg h1, if_pos h2, fstK, srtK]; omega
      · simp only [fstK]; omega
    · by_cases h3 : b = 249
      · subst h3
        refine ⟨by decide, rfl, by decide, fun u hu => ?_, by decide⟩
        show lowN 0 u + 2288 = 2288 + lowN 0 u
        omega
      · simp only [if_neg h1, if_neg h2, if_neg h3]
        have hk : 3 ≤ b - 247 := by omega
        have hp : 256 ^ (b - 247) ≤ 256 ^ 8 := Nat.pow_le_pow_right (by omega) (by omega)
        rw [srtK_3 _ hk, fstK_3 _ hk]
        have e : b - (247 + (b - 247)) = 0 := by omega
        rw [e]
        refine ⟨by omega, rfl, by simp, fun u hu => ?_, by omega⟩
        simp only [vlOf, if_neg h1, if_neg h2, if_neg h3]; rfl
theorem kOf_at (b k : Nat) (hb : b < 256) (hk : k < 9) (h1 : fstK k ≤ b) (h2 : k < 8 → b < fstK (k + 1)) : k = kOf b := by
  unfold kOf
  have : k = 0 ∨ k = 1 ∨ k = 2 ∨ k = 3 ∨ k = 4 ∨ k = 5 ∨ k = 6 ∨ k = 7 ∨ k = 8 := by omega
  rcases this with rfl | rfl | rfl | rfl | rfl | rfl | rfl | rfl | rfl <;> simp only [fstK] at h1 h2 <;> (try have h2 := h2 (by omega)) <;> (repeat' split) <;> omega

section
variable (m l : Nat) (I : Nat → AHeap → Prop) (Q : AHeap → Prop)
  (hy : ∀ k x, k < 9 → I k x → (∃ x', C m (.yld l) [.agg (srtV (srtK k))] x = .ret (.bool true) x' ∧ I (k + 1) x') ∨ (∃ x', C m (.yld l) [.agg (srtV (srtK k))] x = .ret (.bool false) x' ∧ Q x'))
include hy
theorem its2_loop : ∀ (k i : Nat) (x : AHeap), 9 - i = k → 3 ≤ i → i ≤ 9 → I i x →
    ∃ e x', (e = .ret ∨ e = .exit 0) ∧ LoopF Try.prog Try.f110 none (C m) [1, 1, 0] (k + 1) ⟨[(0, .yld l), (2, .int .i64 (Int.ofNat i))], [], .none, x⟩ e ⟨[], [], .none, x'⟩ ∧ (I 9 x' ∨ Q x')
  | k, i, x, hk, h3, h9, hx => by
    by_cases h8 : i ≤ 8
    · have hs := max_shr i h3 h8
      have hp : 0 < 256 ^ i := Nat.pow_pos (by omega)
      have hcv := conv_iu8 (247 + i) x
      rw [Nat.mod_eq_of_lt (by omega)] at hcv
      have hsh := shr_k .u64 (i := 18446744073709551615) (j := 8 * (8 - i)) (by show 8 * (8 - i) ≤ 64; omega)
      rw [hs] at hsh
      have hz := hy i x (by omega) hx
      rw [srtK_3 i h3] at hz
      rcases hz with ⟨x', c1, c2⟩ | ⟨x', c1, c2⟩
      · obtain ⟨k, rfl⟩ : ∃ j, k = j + 1 := ⟨k - 1, by omega⟩
        obtain ⟨e, x2, he, l1, l2⟩ := its2_loop k (i + 1) x' (by omega) (by omega) (by omega) c2
        exact ⟨e, x2, he, .step (itl_2 (C m) l i x _ _ _ _ _ true x' _ (le_t h8) (sub_n h8 (by omega)) (mul_n (by omega)) hsh (add_n (by omega)) hcv c1 rfl (add_n (by omega))) l1, l2⟩
      · exact ⟨.ret, x', .inl rfl, .exit (RunP.post (itl_1 (C m) l i x _ _ _ _ _ false x' (le_t h8) (sub_n h8 (by omega)) (mul_n (by omega)) hsh (add_n (by omega)) hcv c1 rfl) trivial) (by simp), .inr c2⟩
    · obtain rfl : i = 9 := by omega
      exact ⟨.exit 0, x, .inr rfl, .exit (RunP.post (itl_3 (C m) l 9 x (le_f h8)) trivial) (by simp), .inl hx⟩
theorem its2_c (x : AHeap) (hx : I 0 x) : ∃ x', C (m + 1) (.fn 110) [.yld l] x = .ret (.tup []) x' ∧ (I 9 x' ∨ Q x') := by
  have fin : ∀ {e : AEx} {Γ : Env} {x' : AHeap}, (e = .ret ∨ e = .nrm) → RunF Try.prog Try.f110 none (C m) [] ⟨[(0, .yld l)], [], .none, x⟩ e ⟨Γ, [], .none, x'⟩ → C (m + 1) (.fn 110) [.yld l] x = .ret (.tup []) x' := fun he hr =>
    fn_runF (intr := Ii) (n := m) (args := [.yld l]) Try.func110 (by kernel_rfl) rfl (by kernel_rfl) hr he (by kernel_rfl)
  rcases hy 0 x (by omega) hx with ⟨x1, c1, i1⟩ | ⟨x1, c1, q1⟩
  · rcases hy 1 x1 (by omega) i1 with ⟨x2, c2, i2⟩ | ⟨x2, c2, q2⟩
    · rcases hy 2 x2 (by omega) i2 with ⟨x3, c3, i3⟩ | ⟨x3, c3, q3⟩
      · obtain ⟨e, x4, he, l1, l2⟩ := its2_loop m l I Q hy 6 3 x3 rfl (by omega) (by omega) i3
        have s1 := it_4 (C m) l .nrm x x true x1 true x2 true x3 c1 rfl c2 rfl c3 rfl
        have lp := LoopF.run (p := [1, 1, 0]) (by kernel_rfl) l1 (by omega)
        refine ⟨x4, ?_, l2⟩
        rcases he with rfl | rfl
        · exact fin (.inl rfl) (RunF.seq (p := []) (by kernel_rfl) s1 (RunF.seq (p := [1]) (by kernel_rfl) (it0 (C m) l x3) (RunF.blockx (p := [1, 1]) (id := 0) (by kernel_rfl) lp (by simp))))
        · exact fin (.inr rfl) (RunF.seq (p := []) (by kernel_rfl) s1 (RunF.seq (p := [1]) (by kernel_rfl) (it0 (C m) l x3) (RunF.block (p := [1, 1]) (id := 0) (by kernel_rfl) lp)))
      · exact ⟨x3, fin (.inl rfl) (RunF.seqx (p := []) (by kernel_rfl) (it_3 (C m) l .nrm x x true x1 true x2 false x3 c1 rfl c2 rfl c3 rfl) (by simp)), .inr q3⟩
    · exact ⟨x2, fin (.inl rfl) (RunF.seqx (p := []) (by kernel_rfl) (it_2 (C m) l .nrm x x true x1 false x2 c1 rfl c2 rfl) (by simp)), .inr q2⟩
  · exact ⟨x1, fin (.inl rfl) (RunF.seqx (p := []) (by kernel_rfl) (it_1 (C m) l .nrm x x false x1 c1 rfl) (by simp)), .inr q1⟩
end

noncomputable def syAs : Code := sub (bodyOf Try.f88) [1, 1, 1, 1, 0, 1, 0, 0]
noncomputable def syBd : Code := sub (bodyOf Try.f88) [1, 1, 1, 1, 0, 1, 0, 1]
def prevC : Nat → List AV
  | 0 => [.int .u64 (Int.ofNat 0), .int .u64 (Int.ofNat 0), .int .u8 (Int.ofNat 0), .int .i64 (Int.ofNat 0)]
  | k + 1 => srtV (srtK k)
/-- In the rounds: k sorts were seen. -/
structure SyI (B N c0 o0 : Nat) (cp0 : Cap) (h : AHeap) (r : Tr) (k : Nat) (x : AHeap) : Prop where
  row : x.get N = some (.cells [.slice c0 o0 1 cp0] 39 .own 0 0)
  out : x.get (N + 1) = some (.cells (prevC k) 106 .own 0 0)
  dfr : x.get (N + 2) = some (.defrd (some []))
  lop : x.get (N + 3) = some (.loop .ready none (needFn Try.f88) r [20] syAs syBd (N + 2))
  ext : Ext N h x
  big : N + 4 ≤ x.n
  all : ∀ j, j < k → fstK j ≤ B
structure SyQ (B N c0 o0 : Nat) (cp0 : Cap) (h : AHeap) (r : Tr) (x : AHeap) : Prop where
  row : x.get N = some (.cells [.slice c0 o0 1 cp0] 39 .own 0 0)
  out : ∃ k, k < 8 ∧ fstK k ≤ B ∧ B < fstK (k + 1) ∧ x.get (N + 1) = some (.cells (srtV (srtK k)) 106 .own 0 0)
  dfr : x.get (N + 2) = some (.defrd (some []))
  lop : x.get (N + 3) = some (.loop .done (some (.exit 0)) (needFn Try.f88) r [20] syAs syBd (N + 2))
  ext : Ext N h x
  big : N + 4 ≤ x.n
theorem prevC_cells (k : Nat) : ∃ a b c d, prevC k = [a, b, c, d] := by
  cases k with
  | zero => exact ⟨_, _, _, _, rfl⟩
  | succ k => exact ⟨_, _, _, _, rfl⟩
theorem says_round (m B N c0 o0 : Nat) (cp0 : Cap) (h : AHeap) (r : Tr) (hm : AEv.Mod r [(5, .ptr N 0), (6, .ptr (N + 1) 0)]) (hld : ∀ x : AHeap, Ext N h x → load1 x c0 (o0 + 0 * 1) = some (.int .u8 (Int.ofNat B))) (k : Nat) (x : AHeap) (hk : k < 9) (hi : SyI B N c0 o0 cp0 h r k x) :
    (∃ x', C (m + 1) (.yld (N + 3)) [.agg (srtV (srtK k))] x = .ret (.bool true) x' ∧ SyI B N c0 o0 cp0 h r (k + 1) x') ∨ (∃ x', C (m + 1) (.yld (N + 3)) [.agg (srtV (srtK k))] x = .ret (.bool false) x' ∧ SyQ B N c0 o0 cp0 h r x') := by
  obtain ⟨hrow, hout, hdfr, hlop, hext, hbig, hall⟩ := hi
  have hy : C (m + 1) (.yld (N + 3)) [.agg (srtV (srtK k))] x = evRound Try.prog (C m) (N + 3) [.agg (srtV (srtK k))] x := rfl
  obtain ⟨a1, a2, a3, a4, hpc⟩ := prevC_cells k
  let x1 := (x.push (.cells [.int .u64 (Int.ofNat 0), .int .u64 (Int.ofNat 0), .int .u8 (Int.ofNat 0), .int .i64 (Int.ofNat 0)] 106 .own 0 0)).set x.n (some (.cells (srtV (srtK k)) 106 .own 0 0))
  have s1 := store4 (c1 := .int .u64 (Int.ofNat (srtK k).1)) (c2 := .int .u64 (Int.ofNat (srtK k).2.1)) (c3 := .int .u8 (Int.ofNat (srtK k).2.2.1)) (c4 := .int .i64 (Int.ofNat (srtK k).2.2.2)) rfl rfl rfl rfl (by rw [AHeap.get_push, if_pos rfl] : (x.push (.cells [.int .u64 (Int.ofNat 0), .int .u64 (Int.ofNat 0), .int .u8 (Int.ofNat 0), .int .i64 (Int.ofNat 0)] 106 .own 0 0)).get x.n = _)
  have o1 : ∀ j, j < x.n → x1.get j = x.get j := fun j hj => by simp only [x1]; rw [AHeap.get_set, if_neg (by omega), AHeap.get_push, if_neg (by omega)]
  have has : RunP Try.prog (needFn Try.f88) (some (N + 3)) (C m) syAs ⟨put 20 (.agg (srtV (srtK k))) [(5, .ptr N 0), (6, .ptr (N + 1) 0)], [], .none, x⟩ .nrm ⟨[(5, .ptr N 0), (6, .ptr (N + 1) 0), (7, .ptr x.n 0)], [], .none, x1⟩ :=
    RunP.pre (st1 := ⟨put 20 (.agg (srtV (srtK k))) [(5, .ptr N 0), (6, .ptr (N + 1) 0)], [], .none, x⟩) (syA (C m) (N + 3) N (N + 1) (srtV (srtK k)) x x1 ⟨rfl, s1, rfl⟩) ⟨rfl, rfl, rfl, trivial⟩ rfl rfl rfl
  have l1 : x1.get (N + 3) = some (.loop .ready none (needFn Try.f88) r [20] syAs syBd (N + 2)) := (o1 _ (by omega)).trans hlop
  let x2 := x1.set (N + 3) (some (.loop .busy none (needFn Try.f88) r [20] syAs syBd (N + 2)))
  have gc : x2.get x.n = some (.cells (srtV (srtK k)) 106 .own 0 0) := by simp only [x2, x1]; rw [AHeap.get_set, if_neg (by omega), AHeap.get_set, if_pos rfl]
  have gb : x2.get (N + 1) = some (.cells [a1, a2, a3, a4] 106 .own 0 0) := by simp only [x2]; rw [AHeap.get_set, if_neg (by omega), o1 _ (by omega), ← hpc]; exact hout
  have ga : x2.get N = some (.cells [.slice c0 o0 1 cp0] 39 .own 0 0) := by simp only [x2]; rw [AHeap.get_set, if_neg (by omega), o1 _ (by omega)]; exact hrow
  have gd : x2.get (N + 2) = some (.defrd (some [])) := by simp only [x2]; rw [AHeap.get_set, if_neg (by omega), o1 _ (by omega)]; exact hdfr
  have gl : x2.get (N + 3) = some (.loop .busy none (needFn Try.f88) r [20] syAs syBd (N + 2)) := by simp only [x2]; rw [AHeap.get_set, if_pos rfl]
  have ex : Ext N h x2 := (((hext.trans (Nat.le_refl _) (Ext.push (by omega) _)).trans (Nat.le_refl _) (Ext.set (by omega) _)).trans (Nat.le_refl _) (Ext.set (by omega) _))
  have hn2 : x2.n = x.n + 1 := rfl
  have hf : load1 (x2.room 6) x.n (0 + 2) = some (.int .u8 (Int.ofNat (fstK k))) := by rw [← srtK_f]; exact ld1 (groom gc) rfl
  have hr : load1 (x2.room 6) N 0 = some (.slice c0 o0 1 cp0) := ld1 (groom ga) rfl
  have hb : load1 (x2.room 6) c0 (o0 + 0 * 1) = some (.int .u8 (Int.ofNat B)) := hld _ (Ext.roomR ex)
  by_cases hlt : B < fstK k
  · right
    have hk0 : k ≠ 0 := fun e => by subst e; simp [fstK] at hlt
    have bd := syB_1 (C m) (N + 3) N (N + 1) x.n c0 o0 1 cp0 x2 (fstK k) B hf hr (Nat.le_refl _) hb (lt_t hlt)
    have rr := roundG hlop hm has l1 (RunP.pre (st1 := ⟨[(5, .ptr N 0), (6, .ptr (N + 1) 0), (7, .ptr x.n 0)], [], .none, x2⟩) bd ⟨rfl, rfl, rfl, trivial⟩ rfl rfl rfl) (groom gl)
    obtain ⟨j, rfl⟩ : ∃ j, k = j + 1 := ⟨k - 1, by omega⟩
    refine ⟨_, hy.trans rr, ⟨?_, ⟨j, by omega, hall j (by omega), hlt, ?_⟩, ?_, ?_, (Ext.roomR ex).trans (Nat.le_refl _) (Ext.set (by omega) _), by simp [hn2]; omega⟩⟩
    · rw [AHeap.get_set, if_neg (by omega)]; exact groom ga
    · rw [AHeap.get_set, if_neg (by omega), show srtV (srtK j) = prevC (j + 1) from rfl, hpc]; exact groom gb
    · rw [AHeap.get_set, if_neg (by omega)]; exact groom gd
    · rw [AHeap.get_set, if_pos rfl]
  · left
    have s2 := store4 (c1 := .int .u64 (Int.ofNat (srtK k).1)) (c2 := .int .u64 (Int.ofNat (srtK k).2.1)) (c3 := .int .u8 (Int.ofNat (srtK k).2.2.1)) (c4 := .int .i64 (Int.ofNat (srtK k).2.2.2)) rfl rfl rfl rfl (groom (k := 6) gb)
    have bd := syB_2 (C m) (N + 3) N (N + 1) x.n c0 o0 1 cp0 x2 (fstK k) B (srtK k).1 (srtK k).2.1 (srtK k).2.2.1 (srtK k).2.2.2 _ hf hr (Nat.le_refl _) hb (lt_f hlt) (load4 rfl (groom gc)) s2
    have gk : ((x2.room 6).set (N + 1) (some (.cells (srtV (srtK k)) 106 .own 0 0))).get (N + 3) = some (.loop .busy none (needFn Try.f88) r [20] syAs syBd (N + 2)) := by rw [AHeap.get_set, if_neg (by omega)]; exact groom gl
    have rr := roundG hlop hm has l1 (RunP.pre (st1 := ⟨[(5, .ptr N 0), (6, .ptr (N + 1) 0), (7, .ptr x.n 0)], [], .none, x2⟩) bd ⟨rfl, rfl, rfl, trivial⟩ rfl rfl rfl) gk
    refine ⟨_, hy.trans rr, ⟨?_, ?_, ?_, ?_, ((Ext.roomR ex).trans (Nat.le_refl _) (Ext.set (by omega) _)).trans (Nat.le_refl _) (Ext.set (by omega) _), by simp [hn2]; omega, fun j hj => ?_⟩⟩
    · rw [AHeap.get_set, if_neg (by omega), AHeap.get_set, if_neg (by omega)]; exact groom ga
    · rw [AHeap.get_set, if_neg (by omega), AHeap.get_set, if_pos rfl]; rfl
    · rw [AHeap.get_set, if_neg (by omega), AHeap.get_set, if_neg (by omega)]; exact groom gd
    · rw [AHeap.get_set, if_pos rfl]
    · by_cases e : j = k
      · subst e; omega
      · exact hall j (by omega)
theorem sy_loop (call : CallT → List AV → AHeap → FRes) (a b w : AV) (c o : Nat) (cp : Cap) (u : List UInt8) (K : Nat) (hK : K * 256 ^ u.length ≤ 18446744073709551616) (hu : u.length ≤ 8) (d : List ADef) (h : AHeap) (hl : ∀ i (hi : i < u.length), load1 h c (o + i * 1) = some (.int .u8 (Int.ofNat (u[i]).toNat))) : ∀ (q i n : Nat), u.length - i = q → i ≤ u.length → n < K * 256 ^ i →
    LoopF Try.prog Try.f88 none call [1, 1, 1, 1, 1, 1, 1, 1, 0, 1, 0] (q + 1) ⟨[(2, .int .u64 (Int.ofNat n)), (5, a), (6, b), (8, w), (45, .slice c o u.length cp), (46, .int .i64 (Int.ofNat u.length)), (47, .int .i64 (Int.ofNat i))], d, .none, h⟩ (.exit 2) ⟨[(2, .int .u64 (Int.ofNat (lowN n (u.drop i)))), (5, a), (6, b), (8, w)], d, .none, h⟩
  | 0, i, n, hq, hi, hn => by
    have hd : u.drop i = [] := List.drop_eq_nil_of_le (by omega)
    rw [hd]
    exact .exit (RunP.post (syl_2 _ _ _ _ _ _ _ _ _ _ _ _ (lt_f (by omega))) ⟨rfl, rfl, rfl, rfl, trivial⟩) (by simp)
  | q + 1, i, n, hq, hi, hn => by
    have hi' : i < u.length := by omega
    have hc := (u[i]).toNat_lt
    have hp2 : K * 256 ^ (i + 1) = K * 256 ^ i * 256 := by rw [Nat.pow_succ, Nat.mul_assoc]
    have hb : n * 256 + (u[i]).toNat < K * 256 ^ (i + 1) := by omega
    have hle : K * 256 ^ (i + 1) ≤ K * 256 ^ u.length := Nat.mul_le_mul_left _ (Nat.pow_le_pow_right (by omega) (by omega))
    rw [List.drop_eq_getElem_cons hi', lowN]
    exact .step (syl_1 _ _ _ _ _ _ _ _ _ _ _ _ _ _ _ _ _ (lt_t (by omega)) (by show (_ : Nat) ≤ _; omega) (hl i hi') (shl8 (by omega)) (conv_8_64 _ (by omega) h) (or_u64 (by omega) (by omega)) (add_n (by omega))) (sy_loop call a b w c o cp u K hK hu d h hl q (i + 1) _ (by omega) (by omega) hb)
theorem sub_u8 {i j : Nat} (hj : j ≤ i) (h : i < 256) : arith BinOp.sub IntKind.u8 (Int.ofNat i) (Int.ofNat j) = some (AV.int IntKind.u8 (Int.ofNat (i - j))) := by
  have h := wrap_u8 (i - j)
  rw [Nat.mod_eq_of_lt (by omega)] at h
  have e : Int.ofNat i - Int.ofNat j = ((i - j : Nat) : Int) := by
    have e1 : Int.ofNat i = (i : Int) := rfl
    have e2 : Int.ofNat j = (j : Int) := rfl
    rw [e1, e2]; omega
  simp only [arith, e, h]; rfl
def saysS : RdS → Nat × List UInt8 × Bool
  | some (b :: t) => if t.length < szOf b.toNat then (0, [], false) else (vlOf b.toNat (t.take (szOf b.toNat)), b :: t.take (szOf b.toNat), true)
  | _ => (0, [], false)
def saysR : RdS → RdS
  | some (b :: t) => if t.length < szOf b.toNat then none else some (t.drop (szOf b.toNat))
  | _ => none
end Go.Proofs.Wire

namespace Go.Proofs.Wire
open Go AEv Go.Proofs Go.Proofs.Enc
set_option maxRecDepth 100000
set_option maxHeartbeats 1000000

/-! ### wire.says, Num, Text: joined -/
theorem leave1 {P : Program} {call : CallT → List AV → AHeap → FRes} {fn : Func} {r : Tr} {D : Nat} {q : Rc} {y : AHeap} {v : AV} (gd : y.get D = some (.defrd (some []))) (hres : resultsA P (needFn fn) fn r (y.set D (some (.defrd none))) = some v) : leaveA P call fn (.ok .ret r [.collected D] q y) = .ret v (y.set D (some (.defrd none))) := by
  simp only [leaveA, evDefers, gd, List.nil_append, hres]
theorem Rd.set {h : AHeap} {p D : Nat} {st : RdS} {o : Option AObj} {x : Option (List ADef)} (hr : Rd h p st) (hD : h.get D = some (.defrd x)) : Rd (h.set D o) p st := by
  have ne : ∀ {b : Nat} {cs : List AV} {el lo up : Nat} {k : BK}, h.get b = some (.cells cs el k lo up) → ¬ b = D := fun hb e => by subst e; rw [hb] at hD; cases hD
  cases st with
  | none => obtain ⟨h1, h2⟩ := hr; exact ⟨by simpa using h1, gother (ne h2) h2⟩
  | some s =>
    obtain ⟨h1, h2, v, h3, h4⟩ := hr
    refine ⟨by simpa using h1, h2, v, gother (ne h3) h3, ?_⟩
    rcases h4 with h4 | ⟨b, pre, q1, q2, q3, q4⟩
    · exact .inl h4
    · exact .inr ⟨b, pre, q1, by simpa using q2, q3, gother (ne q4) q4⟩
theorem ByV.load {h : AHeap} {p b o : Nat} {cp : Cap} {t : List UInt8} {n : Nat} (hb : ByV h p (.slice b o n cp) t) : n = t.length ∧ ∀ i (hi : i < t.length), load1 h b (o + i * 1) = some (.int .u8 (Int.ofNat (t[i]).toNat)) := by
  obtain ⟨b', o', cp', e, hc⟩ := hb
  cases e
  refine ⟨rfl, fun i hi => ?_⟩
  rcases hc with ⟨rfl, _⟩ | ⟨_, _, _, pre, rest, el, rfl, hg⟩
  · simp at hi
  · exact bc_load hg hi (by omega)
theorem says_c (m p : Nat) (st : RdS) (h : AHeap) (hr : Rd h p st) : ∃ h', C (m + 4) (.fn 88) [.fn 89 [.ptr p 0] []] h = .ret (.tup [.int .u64 (Int.ofNat (saysS st).1), .str (saysS st).2.1, .bool (saysS st).2.2]) h' ∧ ExtX p h.n h h' ∧ Rd h' p (saysR st) := by
  obtain ⟨w, g, c1, x1, rd1, wv⟩ := cut_c (m + 2) p 1 st h hr (by omega)
  have hpg : p < g.n := rd1.lt
  have hp0 : p < h.n := hr.lt
  obtain ⟨G, hG⟩ : ∃ G, G = (g.push (.cells [.nilS] 39 .own 0 0)).set g.n (some (.cells [w] 39 .own 0 0)) := ⟨_, rfl⟩
  have xG : Ext g.n g G := by rw [hG]; exact Ext.setR (Nat.le_refl _) (Ext.pushR (Nat.le_refl _) (Ext.refl _ _))
  have nG : G.n = g.n + 1 := by rw [hG]; rfl
  have s1 : RunF Try.prog Try.f88 none (C (m + 3)) [1, 0] ⟨[(0, .fn 89 [.ptr p 0] [])], [], .none, h⟩ .nrm ⟨[(0, .fn 89 [.ptr p 0] []), (4, .bool (cutOK 1 st)), (5, .ptr g.n 0)], [], .none, G⟩ := by
    rw [hG]
    rcases wv with ⟨rfl, _⟩ | ⟨b, o, cp, rfl, _⟩
    · exact (sy1n _ _ _ _ _ _ (c1) (stcA rfl rfl))
    · exact (sy1 _ _ _ _ _ _ _ _ _ _ (c1) (stcA rfl rfl))
  have fail : saysS st = (0, [], false) → saysR st = none → cutOK 1 st = false → (cutS 1 st).2 = none → ∃ h', C (m + 4) (.fn 88) [.fn 89 [.ptr p 0] []] h = .ret (.tup [.int .u64 (Int.ofNat (saysS st).1), .str (saysS st).2.1, .bool (saysS st).2.2]) h' ∧ ExtX p h.n h h' ∧ Rd h' p (saysR st) := by
    intro e1 e2 e3 e4
    rw [e1, e2]
    rw [e3] at s1
    rw [e4] at rd1
    exact ⟨G, fn_runF (intr := Ii) (n := m + 3) (args := [.fn 89 [.ptr p 0] []]) Try.func88 (by kernel_rfl) rfl (by kernel_rfl) (RunF.seq (p := []) (by kernel_rfl) (sy0 (C (m + 3)) _ h) (RunF.seq (p := [1]) (by kernel_rfl) s1 (RunF.seqx (p := [1, 1]) (by kernel_rfl) (sy2_1 (C (m + 3)) _ (.ptr g.n 0) false G rfl) (by simp)))) (.inl rfl) (by kernel_rfl), x1.trans x1.n (xG.toX p), rd1.mono xG (Nat.le_refl _)⟩
  cases st with
  | none => exact fail rfl rfl rfl rfl
  | some s =>
    cases s with
    | nil => exact fail rfl rfl rfl rfl
    | cons B t =>
      have hb := B.toNat_lt
      have hcs : cutS 1 (some (B :: t)) = ([B], some t) := cutS_t (by simp)
      have hco : cutOK 1 (some (B :: t)) = true := by simp [cutOK]
      rw [hcs] at rd1 wv
      have rd1 : Rd g p (some t) := rd1
      have wv : (w = .nilS ∧ [B] = [] ∧ ((some (B :: t) : RdS) = none ∨ cutOK 1 (some (B :: t)) = false)) ∨ ByV g p w [B] := wv
      rw [hco] at s1
      rcases wv with ⟨_, h0, _⟩ | bw
      · cases h0
      · have bw0 := bw
        obtain ⟨c0, o0, cp0, rfl, hc⟩ := bw
        have hld : ∀ x : AHeap, Ext g.n g x → load1 x c0 (o0 + 0 * 1) = some (.int .u8 (Int.ofNat B.toNat)) := fun x e => ((bw0.monoX (e.toX p) (Nat.le_refl _)).load).2 0 (by simp)
        obtain ⟨k1, k2, k3, k4, k5⟩ := kOf_spec B.toNat (by omega)
        have hz := szOf_le B.toNat (by omega)
        have s2 := sy2_2 (C (m + 3)) (.fn 89 [.ptr p 0] []) (.ptr g.n 0) true G rfl
        let H0 := (G.push (.cells [.int .u64 (Int.ofNat 0), .int .u64 (Int.ofNat 0), .int .u8 (Int.ofNat 0), .int .i64 (Int.ofNat 0)] 106 .own 0 0)).set G.n (some (.cells [.int .u64 (Int.ofNat 0), .int .u64 (Int.ofNat 0), .int .u8 (Int.ofNat 0), .int .i64 (Int.ofNat 0)] 106 .own 0 0))
        have nH : H0.n = g.n + 2 := by simp [H0, nG]
        have s3 : RunF Try.prog Try.f88 none (C (m + 3)) [1, 1, 1, 0] ⟨[(0, .fn 89 [.ptr p 0] []), (5, .ptr g.n 0)], [], .none, G⟩ .nrm ⟨[(0, .fn 89 [.ptr p 0] []), (5, .ptr g.n 0), (6, .ptr G.n 0)], [], .none, H0⟩ := (sy3 _ _ _ _ _ (stcA rfl rfl))
        obtain ⟨V, hV⟩ : ∃ V, V = AV.tup [.int .u64 (Int.ofNat (saysS (some (B :: t))).1), .str (saysS (some (B :: t))).2.1, .bool (saysS (some (B :: t))).2.2] := ⟨_, rfl⟩
        have wf : WF Try.prog Try.f88 none (C (m + 3)) [] (fun e r d q h' => ∃ h'', leaveA Try.prog (C (m + 3)) Try.f88 (.ok e r d q h') = .ret V h'' ∧ ExtX p h.n h h'' ∧ Rd h'' p (saysR (some (B :: t)))) (initRegs 0 [.fn 89 [.ptr p 0] []] .leaf) [] .none h := by
          refine WF.seq (p := []) (by kernel_rfl) (W.of (sy0 (C (m + 3)) _ h) (args_mod [.fn 89 [.ptr p 0] []]) fun r1 m1 => .inl ⟨rfl, ?_⟩)
          refine WF.seq (p := [1]) (by kernel_rfl) (W.of s1 m1 fun r2 m2 => .inl ⟨rfl, ?_⟩)
          refine WF.seq (p := [1, 1]) (by kernel_rfl) (W.of s2 m2 fun r3 m3 => .inl ⟨rfl, ?_⟩)
          refine WF.seq (p := [1, 1, 1]) (by kernel_rfl) (W.of (st := ⟨[(0, .fn 89 [.ptr p 0] []), (5, .ptr g.n 0)], [], .none, G⟩) s3 (m3.sub ⟨rfl, rfl, trivial⟩) fun r4 m4 => .inl ⟨rfl, ?_⟩)
          refine WF.seq (p := [1, 1, 1, 1]) (by kernel_rfl) ?_
          refine WF.seq (p := [1, 1, 1, 1, 0]) (by kernel_rfl) (W.of (sy4 (C (m + 3)) _ _ _ H0 _ H0 (srt_c (m + 2) H0)) m4 fun r5 m5 => .inl ⟨rfl, ?_⟩)
          refine WF.block (p := [1, 1, 1, 1, 0, 1]) (id := 0) (by kernel_rfl) ?_
          refine WF.range (p := [1, 1, 1, 1, 0, 1, 0]) (t := 19) (ps := [20]) (by kernel_rfl) (by kernel_rfl) (hf := rfl) (hm := m5) ?_
          let X0 := (H0.push (.defrd (some []))).push (.loop .ready none (needFn Try.f88) r5 [20] syAs syBd (g.n + 2))
          rw [nG] at m5
          have m5' : AEv.Mod r5 [(5, .ptr g.n 0), (6, .ptr (g.n + 1) 0)] := m5.sub ⟨rfl, rfl, trivial⟩
          have i0 : SyI B.toNat g.n c0 o0 cp0 g r5 0 X0 := by
            refine ⟨?_, ?_, ?_, ?_, ?_, by simp only [X0, AHeap.n_push, nH]; omega, fun j hj => by omega⟩
            · simp only [X0, H0]; exact gold (by simp only [AHeap.n_set, AHeap.n_push, nG]; omega) (gold (by simp only [AHeap.n_set, AHeap.n_push, nG]; omega) (gother (by simp only [AHeap.n_set, AHeap.n_push, nG]; omega) (gold (by simp only [AHeap.n_set, AHeap.n_push, nG]; omega) (by rw [hG]; exact gsame rfl))))
            · simp only [X0, H0]; exact gold (by simp only [AHeap.n_set, AHeap.n_push, nG]; omega) (gold (by simp only [AHeap.n_set, AHeap.n_push, nG]; omega) (by rw [← nG]; exact gsame rfl))
            · simp only [X0]; exact gold (by simp [nH]) (gtop (by rw [nH]))
            · simp only [X0]; exact gtop (by simp [nH])
            · simp only [X0, H0]; exact Ext.pushR (by simp only [AHeap.n_set, AHeap.n_push, nG]; omega) (Ext.pushR (by simp only [AHeap.n_set, AHeap.n_push, nG]; omega) (Ext.setR (by simp only [AHeap.n_set, AHeap.n_push, nG]; omega) (Ext.pushR (by simp only [AHeap.n_set, AHeap.n_push, nG]; omega) xG)))
          obtain ⟨x, z1, z2⟩ := its2_c (m + 2) (g.n + 3) (SyI B.toNat g.n c0 o0 cp0 g r5) (SyQ B.toNat g.n c0 o0 cp0 g r5) (fun k x hk hx => says_round (m + 1) B.toNat g.n c0 o0 cp0 g r5 m5' hld k x hk hx) X0 i0
          -- what is left behind the loop
          have cont : ∀ y : AHeap, y.get g.n = some (.cells [.slice c0 o0 1 cp0] 39 .own 0 0) → y.get (g.n + 1) = some (.cells (srtV (srtK (kOf B.toNat))) 106 .own 0 0) → y.get (g.n + 2) = some (.defrd (some [])) → Ext g.n g y → g.n + 4 ≤ y.n →
              WF Try.prog Try.f88 none (C (m + 3)) [1, 1, 1, 1, 1] (fun e r d q h' => ∃ h'', leaveA Try.prog (C (m + 3)) Try.f88 (.ok e r d q h') = .ret V h'' ∧ ExtX p h.n h h'' ∧ Rd h'' p (saysR (some (B :: t)))) r5 [.collected (g.n + 2)] .none y := by
            intro y yr yo yd yx yn
            obtain ⟨w2, y2, c2, x2, r2, wv2⟩ := cut_c (m + 2) p (szOf B.toNat) (some t) y (rd1.mono yx (Nat.le_refl _)) (by omega)
            have yr2 : y2.get g.n = some (.cells [.slice c0 o0 1 cp0] 39 .own 0 0) := (x2.get g.n (by omega) (by omega)).trans yr
            have yo2 : y2.get (g.n + 1) = some (.cells (srtV (srtK (kOf B.toNat))) 106 .own 0 0) := (x2.get (g.n + 1) (by omega) (by omega)).trans yo
            have yd2 : y2.get (g.n + 2) = some (.defrd (some [])) := (x2.get (g.n + 2) (by omega) (by omega)).trans yd
            have hx2 : ExtX p h.n h y2 := (x1.trans x1.n (yx.toX p)).trans (Nat.le_trans x1.n yx.n) x2
            have hx2' : ExtX p g.n g y2 := (yx.toX p).trans yx.n x2
            have ld3 : load1 y (g.n + 1) (0 + 3) = some (.int .i64 (Int.ofNat (szOf B.toNat))) := by rw [← k2]; exact ld1 yo rfl
            refine WF.seq (p := [1, 1, 1, 1, 1]) (by kernel_rfl) (W.of (sy5 (C (m + 3)) p g.n (g.n + 1) w2 (cutOK (szOf B.toNat) (some t)) [.collected (g.n + 2)] y y2 _ _ ld3 (conv_u64 _ (by omega) y) c2) (m5.sub ⟨rfl, rfl, rfl, trivial⟩) fun r6 m6 => .inl ⟨rfl, ?_⟩)
            have en : h.n ≤ g.n + 2 := by have := x1.n; omega
            by_cases hlen : t.length < szOf B.toNat
            · have e1 : saysS (some (B :: t)) = (0, [], false) := by simp only [saysS, if_pos hlen]
              have e2 : saysR (some (B :: t)) = none := by simp only [saysR, if_pos hlen]
              rw [e1] at hV
              rw [show cutOK (szOf B.toNat) (some t) = false by simp [cutOK]; omega] at m6
              rw [cutS_f (by omega)] at r2
              refine WF.seq (p := [1, 1, 1, 1, 1, 1]) (by kernel_rfl) (W.of (st := ⟨[(4, .bool false), (5, .ptr g.n 0), (6, .ptr (g.n + 1) 0), (8, w2)], [.collected (g.n + 2)], .none, y2⟩) (sy6_1 (C (m + 3)) (.ptr g.n 0) (.ptr (g.n + 1) 0) w2 false [.collected (g.n + 2)] y2 rfl) m6 fun r7 m7 => .inr ⟨by simp, ?_⟩)
              refine ⟨y2.set (g.n + 2) (some (.defrd none)), leave1 yd2 (resS_ok m7 (by rw [hV]; kernel_rfl)), ExtX.setR en hx2, ?_⟩
              rw [e2]
              exact r2.set yd2
            · obtain ⟨u, hu⟩ : ∃ u, u = t.take (szOf B.toNat) := ⟨_, rfl⟩
              have hul : u.length = szOf B.toNat := by rw [hu, List.length_take]; omega
              have e1 : saysS (some (B :: t)) = (vlOf B.toNat u, B :: u, true) := by simp only [saysS, if_neg hlen, ← hu]
              have e2 : saysR (some (B :: t)) = some (t.drop (szOf B.toNat)) := by simp only [saysR, if_neg hlen]
              rw [e1] at hV
              rw [show cutOK (szOf B.toNat) (some t) = true by simp [cutOK]; omega] at m6
              rw [cutS_t (by omega), ← hu] at wv2
              rw [cutS_t (by omega)] at r2
              have bw2 : ByV y2 p w2 u := by
                rcases wv2 with ⟨_, _, h1 | h1⟩ | h1
                · cases h1
                · simp [cutOK] at h1; omega
                · exact h1
              refine WF.seq (p := [1, 1, 1, 1, 1, 1]) (by kernel_rfl) (W.of (st := ⟨[(4, .bool true), (5, .ptr g.n 0), (6, .ptr (g.n + 1) 0), (8, w2)], [.collected (g.n + 2)], .none, y2⟩) (sy6_2 (C (m + 3)) (.ptr g.n 0) (.ptr (g.n + 1) 0) w2 true [.collected (g.n + 2)] y2 rfl) m6 fun r7 m7 => .inl ⟨rfl, ?_⟩)
              have room : ∀ k, Ext y2.n y2 (y2.room k) := fun k => Ext.roomR (Ext.refl _ _)
              have hld2 : load1 (y2.room 8) c0 (o0 + 0 * 1) = some (.int .u8 (Int.ofNat B.toNat)) := ((bw0.monoX (hx2'.trans hx2'.n ((room 8).toX p)) (Nat.le_refl _)).load).2 0 (by simp)
              have lf : load1 (y2.room 8) (g.n + 1) (0 + 2) = some (.int .u8 (Int.ofNat (fstK (kOf B.toNat)))) := by rw [← srtK_f]; exact ld1 (groom yo2) rfl
              have lr : load1 (y2.room 8) g.n 0 = some (.slice c0 o0 1 cp0) := ld1 (groom yr2) rfl
              refine WF.seq (p := [1, 1, 1, 1, 1, 1, 1]) (by kernel_rfl) (W.of (st := ⟨[(5, .ptr g.n 0), (6, .ptr (g.n + 1) 0), (8, w2)], [.collected (g.n + 2)], .none, y2⟩) (sy7 (C (m + 3)) g.n (g.n + 1) w2 [.collected (g.n + 2)] y2 _ _ _ _ _ _ _ _ lr (Nat.le_refl _) hld2 lf (sub_u8 k1 (by omega)) (conv_8_64 _ (by omega) _)) (m7.sub ⟨rfl, rfl, rfl, trivial⟩) fun r8 m8 => .inl ⟨rfl, ?_⟩)
              have bw3 := bw2
              obtain ⟨c2', o2, cp2, rfl, _⟩ := bw3
              refine WF.seq (p := [1, 1, 1, 1, 1, 1, 1, 1]) (by kernel_rfl) ?_
              refine WF.seq (p := [1, 1, 1, 1, 1, 1, 1, 1, 0]) (by kernel_rfl) (W.of (sy8 (C (m + 3)) (.ptr g.n 0) (.ptr (g.n + 1) 0) _ c2' o2 u.length cp2 [.collected (g.n + 2)] (y2.room 8)) m8 fun r9 m9 => .inl ⟨rfl, ?_⟩)
              have lp := sy_loop (C (m + 3)) (.ptr g.n 0) (.ptr (g.n + 1) 0) (.slice c2' o2 u.length cp2) c2' o2 cp2 u (B.toNat - fstK (kOf B.toNat) + 1) (by rw [hul]; exact k5) (by omega) [.collected (g.n + 2)] (y2.room 8) (fun i hi => (bw2.load).2 i hi) u.length 0 (B.toNat - fstK (kOf B.toNat)) rfl (by omega) (by simp)
              have lp2 := RunF.block (id := 2) (p := [1, 1, 1, 1, 1, 1, 1, 1, 0, 1]) (by kernel_rfl) (LoopF.run (p := [1, 1, 1, 1, 1, 1, 1, 1, 0, 1, 0]) (by kernel_rfl) lp (by omega))
              refine W.of lp2 m9 fun r10 m10 => .inl ⟨rfl, ?_⟩
              rw [List.drop_zero] at m10
              have hv := vlOf_lt B.toNat u (by omega) hul
              have k4' := k4 u hul
              have cv1 : evConvert Try.prog 39 9 (.slice c0 o0 [B].length cp0) ((y2.room 8).room 12) = .val (.str [B]) ((y2.room 8).room 12) := (bw0.monoX (hx2'.trans hx2'.n ((Ext.roomR (room 8)).toX p)) (Nat.le_refl _)).conv
              have cv2 : evConvert Try.prog 39 9 (.slice c2' o2 u.length cp2) ((y2.room 8).room 12) = .val (.str u) ((y2.room 8).room 12) := (bw2.monoX ((Ext.roomR (room 8)).toX p) (Nat.le_refl _)).conv
              have fin := sy9 (C (m + 3)) g.n (g.n + 1) (lowN (B.toNat - fstK (kOf B.toNat)) u) (srtK (kOf B.toNat)).1 c2' o2 u.length c0 o0 1 cp2 cp0 [B] u [.collected (g.n + 2)] (y2.room 8) _ _ (ld1 (groom (groom yo2)) rfl) (addU (by omega)) (ld1 (groom (groom yr2)) rfl) cv1 cv2 (str_add (by simp; omega))
              refine W.of fin m10 fun r11 m11 => ?_
              have yd3 : ((y2.room 8).room 12).get (g.n + 2) = some (.defrd (some [])) := groom (groom yd2)
              refine ⟨((y2.room 8).room 12).set (g.n + 2) (some (.defrd none)), leave1 yd3 (resS_ok m11 (by rw [hV, ← k4']; kernel_rfl)), ExtX.setR en (hx2.trans hx2.n ((Ext.roomR (room 8)).toX p)), ?_⟩
              rw [e2]
              exact (r2.mono (Ext.roomR (room 8)) (Nat.le_refl _)).set yd3
          have xd : ∀ {y : AHeap} {o : Option AObj}, Ext g.n g y → Ext g.n g (y.set (g.n + 3) o) := fun e => Ext.setR (by omega) e
          rcases z2 with z2 | z2
          · obtain ⟨q1, q2, q3, q4, q5, q6, q7⟩ := z2
            have h8 := q7 8 (by omega)
            have ek : 8 = kOf B.toNat := kOf_at B.toNat 8 (by omega) (by omega) h8 (fun h => by omega)
            have hend : rangeEnd (g.n + 3) r5 [.collected (g.n + 2)] .none (.ret (.tup []) x) = .ok .nrm r5 [.collected (g.n + 2)] .none (x.set (g.n + 3) (some (.loop .exhausted none (needFn Try.f88) r5 [20] syAs syBd (g.n + 2)))) := by
              simp only [rangeEnd, q4]
            have e3 : H0.n + 1 = g.n + 3 := by rw [nH]
            rw [nH]
            refine ⟨.nrm, _, (congrArg (rangeEnd (g.n + 3) r5 [.collected (g.n + 2)] .none) z1).trans hend, .inr ⟨by simp, .inl ⟨rfl, ?_⟩⟩⟩
            refine cont _ (gother (by omega) q1) (gother (by omega) ?_) (gother (by omega) q3) (xd q5) (by simpa using q6)
            rw [← ek]; exact q2
          · obtain ⟨q1, ⟨k, qk1, qk2, qk3, q2⟩, q3, q4, q5, q6⟩ := z2
            have ek : k = kOf B.toNat := kOf_at B.toNat k (by omega) (by omega) qk2 (fun _ => qk3)
            have hend : rangeEnd (g.n + 3) r5 [.collected (g.n + 2)] .none (.ret (.tup []) x) = .ok (.exit 0) r5 [.collected (g.n + 2)] .none (x.set (g.n + 3) (some (.loop .exhausted (some (.exit 0)) (needFn Try.f88) r5 [20] syAs syBd (g.n + 2)))) := by
              simp only [rangeEnd, q4]
            rw [nH]
            refine ⟨.exit 0, _, (congrArg (rangeEnd (g.n + 3) r5 [.collected (g.n + 2)] .none) z1).trans hend, .inl ⟨rfl, .inl ⟨rfl, ?_⟩⟩⟩
            refine cont _ (gother (by omega) q1) (gother (by omega) ?_) (gother (by omega) q3) (xd q5) (by simpa using q6)
            rw [← ek]; exact q2
        obtain ⟨e, r, d, q, h', w1, h'', w2, w3⟩ := wf
        rw [← hV]
        exact ⟨h'', fn_W (intr := Ii) (n := m + 3) (args := [.fn 89 [.ptr p 0] []]) Try.func88 (by kernel_rfl) rfl (by kernel_rfl) ⟨e, r, d, q, h', w1, w2⟩, w3⟩
end Go.Proofs.Wire

namespace Go.Proofs.Wire
open Go AEv Go.Proofs Go.Proofs.Enc
set_option maxRecDepth 100000
set_option maxHeartbeats 1000000

/-! ### wire.Reader: Num, Text -/
theorem bne_f {a b : List UInt8} (h : ¬ a = b) : beqBytes a b = false := by
  cases hq : beqBytes a b with
  | false => rfl
  | true => rw [beqBytes_eq] at hq; exact absurd (by simpa using hq) h
theorem num_c (m p : Nat) (st : RdS) (h : AHeap) (hr : Rd h p st) : ∃ h', C (m + 5) (.fn 56) [.ptr p 0] h = .ret (.int .u64 (Int.ofNat (numS st).1)) h' ∧ ExtX p h.n h h' ∧ Rd h' p (numS st).2 := by
  obtain ⟨g, c, x, r⟩ := says_c m p st h hr
  have fin : ∀ {Γ : Env} {h' : AHeap} {v : AV}, RunF Try.prog Try.f56 none (C (m + 4)) [] ⟨[(0, .ptr p 0)], [], .none, h⟩ .ret ⟨Γ, [], .none, h'⟩ → resS Try.prog (needFn Try.f56) Try.f56 Γ h' = some v → C (m + 5) (.fn 56) [.ptr p 0] h = .ret v h' := fun hx hres =>
    fn_runF (intr := Ii) (n := m + 4) (args := [.ptr p 0]) Try.func56 (by kernel_rfl) rfl (by kernel_rfl) hx (.inl rfl) hres
  have bad : saysS st = (0, [], false) → saysR st = none → numS st = (0, none) → ∃ h', C (m + 5) (.fn 56) [.ptr p 0] h = .ret (.int .u64 (Int.ofNat (numS st).1)) h' ∧ ExtX p h.n h h' ∧ Rd h' p (numS st).2 := fun e1 e2 e3 => by
    rw [e1] at c
    rw [e2] at r
    rw [e3]
    exact ⟨g, fin (nu1_1 _ _ (0) ([]) (true) _ ((emptyHeap 0)) _ _ _ _ (c) rfl) (by kernel_rfl), x, r⟩
  cases st with
  | none => exact bad rfl rfl rfl
  | some s =>
    cases s with
    | nil => exact bad rfl rfl rfl
    | cons b t =>
      have hb := b.toNat_lt
      by_cases hlen : t.length < szOf b.toNat
      · exact bad (by simp only [saysS, if_pos hlen]) (by simp only [saysR, if_pos hlen]) (numS_n (by simp only [rdNum, if_pos hlen]))
      · obtain ⟨u, hu⟩ : ∃ u, u = t.take (szOf b.toNat) := ⟨_, rfl⟩
        have hul : u.length = szOf b.toNat := by rw [hu, List.length_take]; omega
        have hv := vlOf_lt b.toNat u (by omega) hul
        rw [show saysS (some (b :: t)) = (vlOf b.toNat u, b :: u, true) by simp only [saysS, if_neg hlen, ← hu]] at c
        rw [show saysR (some (b :: t)) = some (t.drop (szOf b.toNat)) by simp only [saysR, if_neg hlen]] at r
        obtain ⟨g2, c2, x2⟩ := putnum_c m (vlOf b.toNat u) [] g hv (by simp)
        rw [List.nil_append] at c2
        have r2 := r.mono x2 (Nat.le_refl _)
        have xx : ExtX p h.n h g2 := x.trans x.n (x2.toX p)
        by_cases heq : numL (vlOf b.toNat u) = b :: u
        · rw [show numS (some (b :: t)) = (vlOf b.toNat u, some (t.drop (szOf b.toNat))) from numS_s (by simp only [rdNum, if_neg hlen, ← hu, if_pos heq])]
          exact ⟨g2, fin (nu1_3 _ _ (0) ([]) (true) _ ((emptyHeap 0)) _ _ _ _ _ _ (c) (rfl) (c2) ((by rw [heq, bbr]; rfl))) (by kernel_rfl), xx, r2⟩
        · rw [show numS (some (b :: t)) = (0, none) from numS_n (by simp only [rdNum, if_neg hlen, ← hu, if_neg heq])]
          obtain ⟨h1, h2, v, h3, h4⟩ := r2
          exact ⟨_, fin (nu1_2 _ _ (0) ([]) (true) _ ((emptyHeap 0)) _ _ _ _ _ _ _ _ (c) (rfl) (c2) ((by rw [bne_f heq]; rfl)) (stcA rfl rfl) (stcA rfl rfl)) (by kernel_rfl), ExtX.setP (ExtX.setP xx), by simpa using h1, gsame rfl⟩
theorem text_c (m p : Nat) (st : RdS) (h : AHeap) (hr : Rd h p st) : ∃ h', C (m + 6) (.fn 58) [.ptr p 0] h = .ret (.str (textS st).1) h' ∧ ExtX p h.n h h' ∧ Rd h' p (textS st).2 := by
  obtain ⟨g, c, x, r⟩ := num_c m p st h hr
  obtain ⟨w, g2, c2, x2, r2, wv⟩ := cut_c (m + 4) p (numS st).1 (numS st).2 g r (numS_lt st)
  refine ⟨g2, ?_, x.trans x.n x2, r2⟩
  rcases wv with ⟨rfl, e, _⟩ | bw
  · rw [show (textS st).1 = [] from e]
    exact fn_runF (intr := Ii) (n := m + 5) (args := [.ptr p 0]) Try.func58 (by kernel_rfl) rfl (by kernel_rfl) (tx1n _ _ _ ([]) _ _ _ _ (c) (c2)) (.inl rfl) (by kernel_rfl)
  · have cv := bw.conv
    obtain ⟨b, o, cp, rfl, _⟩ := bw
    exact fn_runF (intr := Ii) (n := m + 5) (args := [.ptr p 0]) Try.func58 (by kernel_rfl) rfl (by kernel_rfl) (tx1 _ _ _ _ _ _ _ _ _ _ _ _ (c) (c2) (cv)) (.inl rfl) (by kernel_rfl)
end Go.Proofs.Wire
