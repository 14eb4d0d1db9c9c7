/-
  PROVED HERE: contracts of functions (Db). No condition beside each statement's own.
-/
import Derived.Test.YtlcnhahfgpnanaaGreatDoorSxa
set_option linter.unusedVariables false
set_option linter.unusedSimpArgs false
namespace Lexp
open Go AEv

/-! ### Characters in UTF-8, in plain words -/
def cont : List UInt8 → Bool
  | b :: _ => b.toNat / 64 == 2
  | [] => false
def hd (l : List UInt8) : Nat := match l with
  | b :: _ => b.toNat
  | [] => 0
def vld (c : Nat) : Bool := Utf8.valid (c : Int)
/-- The first character's number and how many bytes it has (65533 and 1: there is none). -/
def decP : List UInt8 → Nat × Nat
  | [] => (65533, 1)
  | b :: t =>
    let b0 := b.toNat
    if b0 < 128 then (b0, 1)
    else if b0 / 32 == 6 && cont t then
      let c := (b0 % 32) * 64 + hd t % 64
      if c ≥ 128 then (c, 2) else (65533, 1)
    else if b0 / 16 == 14 && cont t && cont (t.drop 1) then
      let c := (b0 % 16) * 4096 + (hd t % 64) * 64 + hd (t.drop 1) % 64
      if c ≥ 2048 && vld c then (c, 3) else (65533, 1)
    else if b0 / 8 == 30 && cont t && cont (t.drop 1) && cont (t.drop 2) then
      let c := (b0 % 8) * 262144 + (hd t % 64) * 4096 + (hd (t.drop 1) % 64) * 64 + hd (t.drop 2) % 64
      if c ≥ 65536 && vld c then (c, 4) else (65533, 1)
    else (65533, 1)
theorem at_get (l : List UInt8) (k : Nat) : ((⟨l.toArray⟩ : ByteArray).get! (0 + k)).toNat = hd (l.drop k) := by
  show (l.toArray[0 + k]!).toNat = _
  rw [Nat.zero_add, getElem!_def, List.getElem?_toArray]
  cases h : l[k]? with
  | none =>
    have := List.getElem?_eq_none_iff.1 h
    rw [List.drop_eq_nil_of_le this]; rfl
  | some x =>
    obtain ⟨h1, h2⟩ := List.getElem?_eq_some_iff.1 h
    rw [List.drop_eq_getElem_cons h1, h2]; rfl
theorem lt_cont (l : List UInt8) (k : Nat) : (decide (0 + k < (⟨l.toArray⟩ : ByteArray).size) && (((⟨l.toArray⟩ : ByteArray).get! (0 + k)).toNat / 64 == 2)) = cont (l.drop k) := by
  rw [at_get]
  have hs : (⟨l.toArray⟩ : ByteArray).size = l.length := by show l.toArray.size = _; simp
  rw [hs, Nat.zero_add]
  by_cases h : k < l.length
  · rw [List.drop_eq_getElem_cons h]; simp [h, hd, cont]
  · rw [List.drop_eq_nil_of_le (by omega)]; simp [h, cont]
theorem decode_P (b : UInt8) (t : List UInt8) : decodeL (b :: t) = decP (b :: t) := by
  unfold decodeL
  rw [decode_eq]
  simp only [decodeW, lt_cont]
  simp only [at_get]
  unfold decP
  rfl
theorem u8lt (b : UInt8) : b.toNat < 256 := b.toNat_lt

/-- From where to where the second byte may be, and how many bytes there are. -/
def second (c : Nat) : Nat × Nat × Nat :=
  if 194 ≤ c ∧ c ≤ 223 then (128, 191, 2)
  else if c = 224 then (160, 191, 3)
  else if c = 237 then (128, 159, 3)
  else if 224 < c ∧ c ≤ 239 then (128, 191, 3)
  else if c = 240 then (144, 191, 4)
  else if 240 < c ∧ c ≤ 243 then (128, 191, 4)
  else if c = 244 then (128, 143, 4)
  else (0, 0, 0)
def win (l : List UInt8) (lo hi : Nat) : Bool := match l with
  | b :: _ => decide (lo ≤ b.toNat) && decide (b.toNat ≤ hi)
  | [] => false
/-- How many bytes the first character has; 0: there is none. -/
def chr : List UInt8 → Nat
  | [] => 0
  | b :: t => if b.toNat < 128 then 1 else
    match second b.toNat with
    | (lo, hi, 2) => if win t lo hi then 2 else 0
    | (lo, hi, 3) => if win t lo hi && win (t.drop 1) 128 191 then 3 else 0
    | (lo, hi, 4) => if win t lo hi && win (t.drop 1) 128 191 && win (t.drop 2) 128 191 then 4 else 0
    | _ => 0
theorem win_cont (l : List UInt8) : win l 128 191 = cont l := by
  cases l with
  | nil => rfl
  | cons b l =>
    have := u8lt b
    simp only [win, cont]
    rw [Bool.eq_iff_iff]; simp; omega
theorem chr_le (s : List UInt8) : chr s ≤ s.length := by
  cases s with
  | nil => exact Nat.le_refl _
  | cons b t =>
    have hw : ∀ (l : List UInt8) lo hi, win l lo hi = true → 0 < l.length := fun l lo hi h => by
      cases l with
      | nil => cases h
      | cons _ _ => simp
    show (if b.toNat < 128 then 1 else
      match second b.toNat with
      | (lo, hi, 2) => if win t lo hi then 2 else 0
      | (lo, hi, 3) => if win t lo hi && win (t.drop 1) 128 191 then 3 else 0
      | (lo, hi, 4) => if win t lo hi && win (t.drop 1) 128 191 && win (t.drop 2) 128 191 then 4 else 0
      | _ => 0) ≤ t.length + 1
    by_cases h0 : b.toNat < 128
    · rw [if_pos h0]; omega
    · rw [if_neg h0]
      generalize second b.toNat = x
      obtain ⟨lo, hi, n⟩ := x
      have h2 : (if win t lo hi then 2 else 0) ≤ t.length + 1 := by
        split
        · rename_i h; have := hw _ _ _ h; omega
        · omega
      have h3 : (if win t lo hi && win (t.drop 1) 128 191 then 3 else 0) ≤ t.length + 1 := by
        split
        · rename_i h
          simp only [Bool.and_eq_true] at h
          have := hw _ _ _ h.2
          rw [List.length_drop] at this
          omega
        · omega
      have h4 : (if win t lo hi && win (t.drop 1) 128 191 && win (t.drop 2) 128 191 then 4 else 0) ≤ t.length + 1 := by
        split
        · rename_i h
          simp only [Bool.and_eq_true] at h
          have := hw _ _ _ h.2
          rw [List.length_drop] at this
          omega
        · omega
      match n with
      | 0 => exact Nat.zero_le _
      | 1 => exact Nat.zero_le _
      | 2 => exact h2
      | 3 => exact h3
      | 4 => exact h4
      | n + 5 => exact Nat.zero_le _
/-- The bytes of a number. -/
def encP (c : Nat) : List UInt8 :=
  if c < 128 then [UInt8.ofNat c]
  else if c < 2048 then [UInt8.ofNat (192 + c / 64), UInt8.ofNat (128 + c % 64)]
  else if c < 65536 then [UInt8.ofNat (224 + c / 4096), UInt8.ofNat (128 + c / 64 % 64), UInt8.ofNat (128 + c % 64)]
  else [UInt8.ofNat (240 + c / 262144), UInt8.ofNat (128 + c / 4096 % 64), UInt8.ofNat (128 + c / 64 % 64), UInt8.ofNat (128 + c % 64)]
theorem of_nat_eq {b : UInt8} {n : Nat} (h : n = b.toNat) : UInt8.ofNat n = b := by subst h; simp
theorem valid_iff (c : Nat) : vld c = true ↔ (c ≤ 1114111 ∧ ¬ (55296 ≤ c ∧ c ≤ 57343)) := by
  unfold vld Utf8.valid; simp; omega
theorem second_cases (x : Nat) : (194 ≤ x ∧ x ≤ 223 ∧ second x = (128, 191, 2)) ∨ (x = 224 ∧ second x = (160, 191, 3)) ∨ (x = 237 ∧ second x = (128, 159, 3)) ∨ (224 < x ∧ x ≤ 239 ∧ x ≠ 237 ∧ second x = (128, 191, 3)) ∨
    (x = 240 ∧ second x = (144, 191, 4)) ∨ (240 < x ∧ x ≤ 243 ∧ second x = (128, 191, 4)) ∨ (x = 244 ∧ second x = (128, 143, 4)) ∨ ((x < 194 ∨ 244 < x) ∧ second x = (0, 0, 0)) := by
  by_cases h1 : 194 ≤ x ∧ x ≤ 223
  · exact .inl ⟨h1.1, h1.2, by simp [second, h1]⟩
  by_cases h2 : x = 224
  · subst h2; exact .inr (.inl ⟨rfl, rfl⟩)
  by_cases h3 : x = 237
  · subst h3; exact .inr (.inr (.inl ⟨rfl, rfl⟩))
  by_cases h4 : 224 < x ∧ x ≤ 239
  · exact .inr (.inr (.inr (.inl ⟨h4.1, h4.2, h3, by simp only [second, if_neg h1, if_neg h2, if_neg h3, if_pos h4]⟩)))
  by_cases h5 : x = 240
  · subst h5; exact .inr (.inr (.inr (.inr (.inl ⟨rfl, rfl⟩))))
  by_cases h6 : 240 < x ∧ x ≤ 243
  · exact .inr (.inr (.inr (.inr (.inr (.inl ⟨h6.1, h6.2, by simp only [second, if_neg h1, if_neg h2, if_neg h3, if_neg h4, if_neg h5, if_pos h6]⟩)))))
  by_cases h7 : x = 244
  · subst h7; exact .inr (.inr (.inr (.inr (.inr (.inr (.inl ⟨rfl, rfl⟩))))))
  · exact .inr (.inr (.inr (.inr (.inr (.inr (.inr ⟨by omega, by simp only [second, if_neg h1, if_neg h2, if_neg h3, if_neg h4, if_neg h5, if_neg h6, if_neg h7]⟩))))))
/-- What is so of the first character. -/
def ChrIs (s : List UInt8) : Prop :=
  (chr s = 0 ∧ decP s = (65533, 1)) ∨ (chr s = 1 ∧ ∃ b t, s = b :: t ∧ b.toNat < 128 ∧ decP s = (b.toNat, 1)) ∨
    (2 ≤ chr s ∧ ∃ c, decP s = (c, chr s) ∧ 128 ≤ c ∧ c ≤ 1114111 ∧ vld c = true ∧ encP c = s.take (chr s))
theorem ch2 {x y : Nat} (hx : 194 ≤ x ∧ x ≤ 223) (hy : y / 64 = 2) : 128 ≤ (x % 32) * 64 + y % 64 ∧ (x % 32) * 64 + y % 64 < 2048 ∧ 192 + ((x % 32) * 64 + y % 64) / 64 = x ∧ 128 + ((x % 32) * 64 + y % 64) % 64 = y := by omega
theorem ch3 {x y z : Nat} (hx : 224 ≤ x ∧ x ≤ 239) (hy : y / 64 = 2) (hz : z / 64 = 2) :
    (x % 16) * 4096 + (y % 64) * 64 + z % 64 < 65536 ∧ 224 + ((x % 16) * 4096 + (y % 64) * 64 + z % 64) / 4096 = x ∧ 128 + ((x % 16) * 4096 + (y % 64) * 64 + z % 64) / 64 % 64 = y ∧ 128 + ((x % 16) * 4096 + (y % 64) * 64 + z % 64) % 64 = z := by omega
theorem ch4 {x y z w : Nat} (hx : 240 ≤ x ∧ x ≤ 244) (hy : y / 64 = 2) (hz : z / 64 = 2) (hw : w / 64 = 2) :
    240 + ((x % 8) * 262144 + (y % 64) * 4096 + (z % 64) * 64 + w % 64) / 262144 = x ∧ 128 + ((x % 8) * 262144 + (y % 64) * 4096 + (z % 64) * 64 + w % 64) / 4096 % 64 = y ∧ 128 + ((x % 8) * 262144 + (y % 64) * 4096 + (z % 64) * 64 + w % 64) / 64 % 64 = z ∧ 128 + ((x % 8) * 262144 + (y % 64) * 4096 + (z % 64) * 64 + w % 64) % 64 = w := by omega
theorem cont_cons {t : List UInt8} (h : cont t = true) : ∃ y r, t = y :: r ∧ y.toNat / 64 = 2 := by
  cases t with
  | nil => cases h
  | cons y r => exact ⟨y, r, rfl, by simpa [cont] using h⟩
theorem win_cons {t : List UInt8} {lo hi : Nat} (h : win t lo hi = true) : ∃ y r, t = y :: r ∧ lo ≤ y.toNat ∧ y.toNat ≤ hi := by
  cases t with
  | nil => cases h
  | cons y r => exact ⟨y, r, rfl, by simpa [win] using h⟩
theorem ff {b : Bool} (h : ¬ b = true) : b = false := by simpa using h
theorem chr3 {b : UInt8} {t : List UInt8} {lo hi : Nat} (hx : 224 ≤ b.toNat ∧ b.toNat ≤ 239) (he : second b.toNat = (lo, hi, 3)) (h1 : 128 ≤ lo) (h2 : hi ≤ 191)
    (hk : ∀ y z : Nat, y / 64 = 2 → z / 64 = 2 → (lo ≤ y ∧ y ≤ hi ↔ (b.toNat % 16) * 4096 + (y % 64) * 64 + z % 64 ≥ 2048 ∧ vld ((b.toNat % 16) * 4096 + (y % 64) * 64 + z % 64) = true)) : ChrIs (b :: t) := by
  have e0 : ¬ b.toNat < 128 := by omega
  have e1 : (b.toNat / 32 == 6) = false := by simp; omega
  have e2 : (b.toNat / 16 == 14) = true := by simp; omega
  have e3 : (b.toNat / 8 == 30) = false := by simp; omega
  by_cases h : (win t lo hi && win (t.drop 1) 128 191) = true
  · have hh := h
    simp only [Bool.and_eq_true] at h
    obtain ⟨y, r, rfl, y1, y2⟩ := win_cons h.1
    rw [List.drop_succ_cons, List.drop_zero, win_cont] at h
    obtain ⟨z, r', rfl, z1⟩ := cont_cons h.2
    have y3 : y.toNat / 64 = 2 := by omega
    have hc : chr (b :: y :: z :: r') = 3 := by simp only [chr, if_neg e0, he, hh, if_true]
    obtain ⟨k1, k2⟩ := (hk y.toNat z.toNat y3 z1).1 ⟨y1, y2⟩
    obtain ⟨q1, q2, q3, q4⟩ := ch3 hx y3 z1
    have hv := (valid_iff _).1 k2
    refine .inr (.inr ⟨by omega, (b.toNat % 16) * 4096 + (y.toNat % 64) * 64 + z.toNat % 64, ?_, by omega, hv.1, k2, ?_⟩)
    · have hcy : cont (y :: z :: r') = true := by simp [cont, y3]
      have hcz : cont (z :: r') = true := by simp [cont, z1]
      simp only [hc, decP, if_neg e0, e1, e2, hcy, List.drop_succ_cons, List.drop_zero, hcz, hd, Bool.and_true, Bool.false_and, Bool.false_eq_true, if_false, if_true, k2, decide_eq_true k1]
    · rw [hc]
      simp only [encP, if_neg (show ¬ (b.toNat % 16) * 4096 + (y.toNat % 64) * 64 + z.toNat % 64 < 128 by omega), if_neg (show ¬ (b.toNat % 16) * 4096 + (y.toNat % 64) * 64 + z.toNat % 64 < 2048 by omega), if_pos q1, of_nat_eq q2, of_nat_eq q3, of_nat_eq q4]
      rfl
  · have hh := ff h
    refine .inl ⟨by simp only [chr, if_neg e0, he, hh, Bool.false_eq_true, if_false], ?_⟩
    have : (b.toNat / 16 == 14 && cont t && cont (t.drop 1)) = true → ¬ (decide ((b.toNat % 16) * 4096 + (hd t % 64) * 64 + hd (t.drop 1) % 64 ≥ 2048) && vld ((b.toNat % 16) * 4096 + (hd t % 64) * 64 + hd (t.drop 1) % 64)) = true := by
      intro hx hc
      simp only [Bool.and_eq_true, decide_eq_true_eq] at hx hc
      obtain ⟨y, r, rfl, y1⟩ := cont_cons hx.1.2
      have hz := hx.2
      rw [List.drop_succ_cons, List.drop_zero] at hz hc
      obtain ⟨z, r', rfl, z1⟩ := cont_cons hz
      have := (hk y.toNat z.toNat y1 z1).2 hc
      apply h
      simp only [win, List.drop_succ_cons, List.drop_zero, Bool.and_eq_true, decide_eq_true_eq]
      omega
    simp only [decP, if_neg e0, e1, e3, Bool.false_and, Bool.false_eq_true, if_false]
    split
    · rename_i hx
      rw [if_neg (this hx)]
    · rfl
theorem chr4 {b : UInt8} {t : List UInt8} {lo hi : Nat} (hx : 240 ≤ b.toNat ∧ b.toNat ≤ 244) (he : second b.toNat = (lo, hi, 4)) (h1 : 128 ≤ lo) (h2 : hi ≤ 191)
    (hk : ∀ y z w : Nat, y / 64 = 2 → z / 64 = 2 → w / 64 = 2 → (lo ≤ y ∧ y ≤ hi ↔ (b.toNat % 8) * 262144 + (y % 64) * 4096 + (z % 64) * 64 + w % 64 ≥ 65536 ∧ vld ((b.toNat % 8) * 262144 + (y % 64) * 4096 + (z % 64) * 64 + w % 64) = true)) : ChrIs (b :: t) := by
  have e0 : ¬ b.toNat < 128 := by omega
  have e1 : (b.toNat / 32 == 6) = false := by simp; omega
  have e2 : (b.toNat / 16 == 14) = false := by simp; omega
  have e3 : (b.toNat / 8 == 30) = true := by simp; omega
  by_cases h : (win t lo hi && win (t.drop 1) 128 191 && win (t.drop 2) 128 191) = true
  · have hh := h
    simp only [Bool.and_eq_true] at h
    obtain ⟨y, r, rfl, y1, y2⟩ := win_cons h.1.1
    simp only [List.drop_succ_cons, List.drop_zero, win_cont] at h
    obtain ⟨z, r', rfl, z1⟩ := cont_cons h.1.2
    simp only [List.drop_succ_cons, List.drop_zero] at h
    obtain ⟨w, r'', rfl, w1⟩ := cont_cons h.2
    have y3 : y.toNat / 64 = 2 := by omega
    have hc : chr (b :: y :: z :: w :: r'') = 4 := by simp only [chr, if_neg e0, he, hh, if_true]
    obtain ⟨k1, k2⟩ := (hk y.toNat z.toNat w.toNat y3 z1 w1).1 ⟨y1, y2⟩
    obtain ⟨q2, q3, q4, q5⟩ := ch4 hx y3 z1 w1
    have hv := (valid_iff _).1 k2
    refine .inr (.inr ⟨by omega, (b.toNat % 8) * 262144 + (y.toNat % 64) * 4096 + (z.toNat % 64) * 64 + w.toNat % 64, ?_, by omega, hv.1, k2, ?_⟩)
    · have hcy : cont (y :: z :: w :: r'') = true := by simp [cont, y3]
      have hcz : cont (z :: w :: r'') = true := by simp [cont, z1]
      have hcw : cont (w :: r'') = true := by simp [cont, w1]
      simp only [hc, decP, if_neg e0, e1, e2, e3, hcy, List.drop_succ_cons, List.drop_zero, hcz, hcw, hd, Bool.and_true, Bool.false_and, Bool.false_eq_true, if_false, if_true, k2, decide_eq_true k1]
    · rw [hc]
      simp only [encP, if_neg (show ¬ (b.toNat % 8) * 262144 + (y.toNat % 64) * 4096 + (z.toNat % 64) * 64 + w.toNat % 64 < 128 by omega), if_neg (show ¬ (b.toNat % 8) * 262144 + (y.toNat % 64) * 4096 + (z.toNat % 64) * 64 + w.toNat % 64 < 2048 by omega), if_neg (show ¬ (b.toNat % 8) * 262144 + (y.toNat % 64) * 4096 + (z.toNat % 64) * 64 + w.toNat % 64 < 65536 by omega), of_nat_eq q2, of_nat_eq q3, of_nat_eq q4, of_nat_eq q5]
      rfl
  · have hh := ff h
    refine .inl ⟨by simp only [chr, if_neg e0, he, hh, Bool.false_eq_true, if_false], ?_⟩
    have : (b.toNat / 8 == 30 && cont t && cont (t.drop 1) && cont (t.drop 2)) = true → ¬ (decide ((b.toNat % 8) * 262144 + (hd t % 64) * 4096 + (hd (t.drop 1) % 64) * 64 + hd (t.drop 2) % 64 ≥ 65536) && vld ((b.toNat % 8) * 262144 + (hd t % 64) * 4096 + (hd (t.drop 1) % 64) * 64 + hd (t.drop 2) % 64)) = true := by
      intro hx hc
      simp only [Bool.and_eq_true, decide_eq_true_eq] at hx hc
      obtain ⟨y, r, rfl, y1⟩ := cont_cons hx.1.1.2
      have hz := hx.1.2
      have hw := hx.2
      simp only [List.drop_succ_cons, List.drop_zero] at hz hw hc
      obtain ⟨z, r', rfl, z1⟩ := cont_cons hz
      simp only [List.drop_succ_cons, List.drop_zero] at hw hc
      obtain ⟨w, r'', rfl, w1⟩ := cont_cons hw
      have := (hk y.toNat z.toNat w.toNat y1 z1 w1).2 hc
      apply h
      simp only [win, List.drop_succ_cons, List.drop_zero, Bool.and_eq_true, decide_eq_true_eq]
      omega
    simp only [decP, if_neg e0, e1, e2, Bool.false_and, Bool.false_eq_true, if_false]
    split
    · rename_i hx
      rw [if_neg (this hx)]
    · rfl
theorem chr_is : ∀ s, ChrIs s
  | [] => .inl ⟨rfl, rfl⟩
  | b :: t => by
    have hb := u8lt b
    rcases second_cases b.toNat with ⟨h1, h2, he⟩ | ⟨h1, he⟩ | ⟨h1, he⟩ | ⟨h1, h2, h3, he⟩ | ⟨h1, he⟩ | ⟨h1, h2, he⟩ | ⟨h1, he⟩ | ⟨h1, he⟩
    · have e0 : ¬ b.toNat < 128 := by omega
      have e1 : (b.toNat / 32 == 6) = true := by simp; omega
      have e2 : (b.toNat / 16 == 14) = false := by simp; omega
      have e3 : (b.toNat / 8 == 30) = false := by simp; omega
      by_cases h : cont t = true
      · obtain ⟨y, r, rfl, y1⟩ := cont_cons h
        have hc : chr (b :: y :: r) = 2 := by simp only [chr, if_neg e0, he, win_cont, h, if_true]
        obtain ⟨q1, q2, q3, q4⟩ := ch2 ⟨h1, h2⟩ y1
        refine .inr (.inr ⟨by omega, (b.toNat % 32) * 64 + y.toNat % 64, ?_, q1, by omega, (valid_iff _).2 (by omega), ?_⟩)
        · rw [hc]
          unfold decP
          simp only [if_neg e0, e1, h, Bool.and_true, if_true]
          exact if_pos q1
        · rw [hc]
          simp only [encP, if_neg (show ¬ (b.toNat % 32) * 64 + y.toNat % 64 < 128 by omega), if_pos q2, of_nat_eq q3, of_nat_eq q4]
          rfl
      · have hh := ff h
        exact .inl ⟨by simp only [chr, if_neg e0, he, win_cont, hh, Bool.false_eq_true, if_false], by simp only [decP, if_neg e0, e1, e2, e3, hh, Bool.and_false, Bool.false_and, Bool.false_eq_true, if_false]⟩
    · exact chr3 (by omega) he (by omega) (by omega) fun y z hy hz => by rw [valid_iff]; omega
    · exact chr3 (by omega) he (by omega) (by omega) fun y z hy hz => by rw [valid_iff]; omega
    · exact chr3 (by omega) he (by omega) (by omega) fun y z hy hz => by rw [valid_iff]; omega
    · exact chr4 (by omega) he (by omega) (by omega) fun y z w hy hz hw => by rw [valid_iff]; omega
    · exact chr4 (by omega) he (by omega) (by omega) fun y z w hy hz hw => by rw [valid_iff]; omega
    · exact chr4 (by omega) he (by omega) (by omega) fun y z w hy hz hw => by rw [valid_iff]; omega
    · by_cases h0 : b.toNat < 128
      · exact .inr (.inl ⟨by simp only [chr, if_pos h0], b, t, rfl, h0, by unfold decP; exact if_pos h0⟩)
      · refine .inl ⟨by simp only [chr, if_neg h0, he], ?_⟩
        have k1 : (b.toNat / 32 == 6 && cont t) = true → ¬ ((b.toNat % 32) * 64 + hd t % 64 ≥ 128) := fun hx hc => by
          simp only [Bool.and_eq_true, beq_iff_eq] at hx; omega
        have k2 : (b.toNat / 16 == 14) = false := by simp; omega
        have k3 : (b.toNat / 8 == 30 && cont t && cont (t.drop 1) && cont (t.drop 2)) = true → ¬ (decide ((b.toNat % 8) * 262144 + (hd t % 64) * 4096 + (hd (t.drop 1) % 64) * 64 + hd (t.drop 2) % 64 ≥ 65536) && vld ((b.toNat % 8) * 262144 + (hd t % 64) * 4096 + (hd (t.drop 1) % 64) * 64 + hd (t.drop 2) % 64)) = true := fun hx hc => by
          simp only [Bool.and_eq_true, beq_iff_eq, valid_iff] at hx hc; omega
        simp only [decP, if_neg h0, k2, Bool.false_and, Bool.false_eq_true, if_false]
        split
        · rename_i hx; rw [if_neg (k1 hx)]
        · split
          · rename_i hx; rw [if_neg (k3 hx)]
          · rfl
end Lexp

namespace Lexp
open Go AEv

/-! ### A source as tokens, in plain words -/
def letterB (b : UInt8) : Bool := (decide (97 ≤ b.toNat) && decide (b.toNat ≤ 122)) || (decide (65 ≤ b.toNat) && decide (b.toNat ≤ 90)) || b.toNat == 95
def digitB (b : UInt8) : Bool := decide (48 ≤ b.toNat) && decide (b.toNat ≤ 57)
def blankB (b : UInt8) : Bool := b.toNat == 32 || b.toNat == 9 || b.toNat == 10 || b.toNat == 13
def words : List (List UInt8) := [[105, 109, 112, 111, 114, 116], [97, 115], [116, 121, 112, 101], [108, 101, 116], [102, 117, 110], [102, 110], [105, 102], [116, 104, 101, 110], [101, 108, 115, 101], [105, 110], [97, 110, 100], [111, 114], [110, 111, 116], [114, 111, 108, 108], [117, 110, 114, 111, 108, 108], [116, 114, 117, 101], [102, 97, 108, 115, 101], [110, 105, 108], [105, 110, 116], [98, 111, 111, 108], [115, 116, 114], [97, 110, 121]]
def inW (s : List UInt8) : Bool := words.any fun w => beqBytes w s
/-- The signs, longer ones ahead of their beginnings. -/
def signs : List (List UInt8) := [[45, 62], [61, 62], [61, 61], [46, 46], [61], [58], [46], [44], [40], [41], [123], [125], [124], [60], [43], [45], [42]]
def sgn (s : List UInt8) : Option (List UInt8) := signs.find? fun g => g.isPrefixOf s
/-- A remark: to the line's end, or where there is no character. -/
def remk : Nat → List UInt8 → Nat → Bool × Nat
  | 0, _, off => (true, off)
  | f + 1, s, off => match s with
    | [] => (true, off)
    | b :: t => if b.toNat = 10 then (true, off) else match chr (b :: t) with
      | 0 => (false, off)
      | n + 1 => remk f (t.drop n) (off + (n + 1))
inductive TR where
  | ok (out : List UInt8) (off : Nat)
  | bad (off : Nat)
/-- A text in quotes, behind the first one, which stands at 0. -/
def txt : Nat → List UInt8 → Nat → List UInt8 → TR
  | 0, _, _, _ => .bad 0
  | f + 1, s, off, out => match s with
    | [] => .bad 0
    | b :: t => if b.toNat = 10 then .bad 0
      else if b.toNat = 34 then .ok out (off + 1)
      else if b.toNat = 92 then match t with
        | [] => .bad off
        | e :: t' => if e.toNat = 34 ∨ e.toNat = 92 then txt f t' (off + 2) (out ++ [e])
          else if e.toNat = 110 then txt f t' (off + 2) (out ++ [10])
          else .bad off
      else match chr (b :: t) with
        | 0 => .bad off
        | n + 1 => txt f (t.drop n) (off + (n + 1)) (out ++ b :: t.take n)
/-- The number that digits tell; none: it is too great. -/
def numV : List UInt8 → Nat → Option Nat
  | [], n => some n
  | b :: t, n => let d := b.toNat - 48
    if n > (9223372036854775807 - d) / 10 then none else numV t (10 * n + d)
inductive El where
  | skip (n : Nat)
  | tok (k : Nat) (t : List UInt8) (v n : Nat)
  | bad (off : Nat)
/-- What stands first in a source that is not empty. -/
def el (s : List UInt8) : El := match s with
  | [] => .bad 0
  | c :: r =>
    if blankB c then .skip 1
    else if c.toNat = 35 then match remk s.length s 0 with
      | (true, n) => .skip n
      | (false, n) => .bad n
    else if letterB c then
      let w := s.takeWhile fun b => letterB b || digitB b
      if w.length > 24 then .bad 0 else .tok (if inW w then 2 else 1) w 0 w.length
    else if digitB c then
      let w := s.takeWhile digitB
      match numV w 0 with
      | none => .bad 0
      | some v => .tok 3 [] v w.length
    else if c.toNat = 34 then match txt s.length r 1 [] with
      | .ok t n => .tok 4 t 0 n
      | .bad n => .bad n
    else match sgn s with
      | none => .bad 0
      | some g => .tok 5 g 0 g.length
structure Tk where
  k : Nat
  t : List UInt8
  v : Nat
  at' : Nat
def lexL : Nat → List UInt8 → Nat → List Tk → Except Nat (List Tk)
  | 0, _, at', out => .ok (out ++ [⟨0, [], 0, at'⟩])
  | f + 1, s, at', out => match s with
    | [] => .ok (out ++ [⟨0, [], 0, at'⟩])
    | b :: t => match el (b :: t) with
      | .skip n => lexL f ((b :: t).drop n) (at' + n) out
      | .bad n => .error (at' + n)
      | .tok k x v n => lexL f ((b :: t).drop n) (at' + n) (out ++ [⟨k, x, v, at'⟩])
def lexS (s : List UInt8) : Except Nat (List Tk) := lexL s.length s 0 []

/-! ### Each element has bytes, and lies in the source -/
theorem remk_le : ∀ (f : Nat) (s : List UInt8) (off : Nat), off ≤ (remk f s off).2 ∧ (remk f s off).2 ≤ off + s.length
  | 0, s, off => by simp [remk]
  | f + 1, [], off => by simp [remk]
  | f + 1, b :: t, off => by
    unfold remk
    simp only
    split
    · simp
    · cases h : chr (b :: t) with
      | zero => simp
      | succ n =>
        have h1 := chr_le (b :: t)
        have ih := remk_le f (t.drop n) (off + (n + 1))
        rw [h] at h1
        simp only [List.length_cons, List.length_drop] at h1 ih ⊢
        omega
theorem remk_first {f : Nat} {b : UInt8} {t : List UInt8} (h : b.toNat = 35) : 1 ≤ (remk (f + 1) (b :: t) 0).2 := by
  have hc : chr (b :: t) = 1 := by simp only [chr]; rw [if_pos (by omega)]
  unfold remk
  simp only [hc]
  rw [if_neg (by omega)]
  exact (remk_le f (t.drop 0) (0 + (0 + 1))).1
def TR.In (a b : Nat) : TR → Prop
  | .ok _ n => a ≤ n ∧ n ≤ b
  | .bad n => n ≤ b
theorem TR.In.mono {a b a' b' : Nat} {r : TR} (h : r.In a b) (ha : a' ≤ a) (hb : b ≤ b') : r.In a' b' := by
  cases r with
  | ok _ n => exact ⟨Nat.le_trans ha h.1, Nat.le_trans h.2 hb⟩
  | bad n => exact Nat.le_trans h hb
theorem txt_le : ∀ (f : Nat) (s : List UInt8) (off : Nat) (out : List UInt8), (txt f s off out).In off (off + s.length)
  | 0, s, off, out => Nat.zero_le _
  | f + 1, [], off, out => Nat.zero_le _
  | f + 1, b :: t, off, out => by
    unfold txt
    simp only
    by_cases h1 : b.toNat = 10
    · rw [if_pos h1]; exact Nat.zero_le _
    rw [if_neg h1]
    by_cases h2 : b.toNat = 34
    · rw [if_pos h2]; exact ⟨by omega, by simp⟩
    rw [if_neg h2]
    by_cases h3 : b.toNat = 92
    · rw [if_pos h3]
      cases t with
      | nil => exact Nat.le_add_right _ _
      | cons e t' =>
        simp only
        by_cases h4 : e.toNat = 34 ∨ e.toNat = 92
        · rw [if_pos h4]; exact (txt_le f t' (off + 2) _).mono (by omega) (by simp; omega)
        rw [if_neg h4]
        by_cases h5 : e.toNat = 110
        · rw [if_pos h5]; exact (txt_le f t' (off + 2) _).mono (by omega) (by simp; omega)
        · rw [if_neg h5]; exact Nat.le_add_right _ _
    · rw [if_neg h3]
      cases h : chr (b :: t) with
      | zero => exact Nat.le_add_right _ _
      | succ n =>
        have h1 := chr_le (b :: t)
        rw [h, List.length_cons] at h1
        exact (txt_le f (t.drop n) (off + (n + 1)) _).mono (by omega) (by simp; omega)
theorem sgn_mem {s g : List UInt8} (h : sgn s = some g) : g ∈ signs ∧ g.isPrefixOf s = true := ⟨List.mem_of_find?_eq_some h, List.find?_some (p := fun g => List.isPrefixOf g s) h⟩
theorem signs_pos : ∀ g ∈ signs, 1 ≤ g.length ∧ g.length ≤ 2 := by decide
theorem tw_len (p : UInt8 → Bool) : ∀ l : List UInt8, (l.takeWhile p).length ≤ l.length
  | [] => by simp
  | b :: l => by
    rw [List.takeWhile_cons]
    split
    · simp; exact tw_len p l
    · simp
def El.In (b : Nat) : El → Prop
  | .skip n => 1 ≤ n ∧ n ≤ b
  | .tok _ _ _ n => 1 ≤ n ∧ n ≤ b
  | .bad n => n ≤ b
theorem el_len (b : UInt8) (t : List UInt8) : (el (b :: t)).In (t.length + 1) := by
  unfold el
  simp only
  by_cases h1 : blankB b = true
  · rw [if_pos h1]; exact ⟨Nat.le_refl _, by omega⟩
  rw [if_neg h1]
  by_cases h2 : b.toNat = 35
  · rw [if_pos h2]
    have h1 := remk_first (f := t.length) (t := t) h2
    have h3 := (remk_le (t.length + 1) (b :: t) 0).2
    rw [List.length_cons] at h3 ⊢
    cases hx : remk (t.length + 1) (b :: t) 0 with
    | mk ok n =>
      rw [hx] at h1 h3
      cases ok
      · show n ≤ _; simp only at h3; omega
      · show 1 ≤ n ∧ n ≤ _; simp only at h1 h3; omega
  rw [if_neg h2]
  by_cases h3 : letterB b = true
  · rw [if_pos h3]
    have h1 := tw_len (fun b => letterB b || digitB b) t
    have h2 : ((b :: t).takeWhile fun b => letterB b || digitB b) = b :: t.takeWhile fun b => letterB b || digitB b := by rw [List.takeWhile_cons, if_pos (by simp [h3])]
    rw [h2]
    split
    · exact Nat.zero_le _
    · exact ⟨by simp, by simp; omega⟩
  rw [if_neg h3]
  by_cases h4 : digitB b = true
  · rw [if_pos h4]
    have h1 := tw_len digitB t
    have h2 : ((b :: t).takeWhile digitB) = b :: t.takeWhile digitB := by rw [List.takeWhile_cons, if_pos h4]
    rw [h2]
    cases numV (b :: t.takeWhile digitB) 0 with
    | none => exact Nat.zero_le _
    | some v => exact ⟨by simp, by simp; omega⟩
  rw [if_neg h4]
  by_cases h5 : b.toNat = 34
  · rw [if_pos h5]
    have h1 := txt_le (b :: t).length t 1 []
    cases hx : txt (b :: t).length t 1 [] with
    | ok o n => rw [hx] at h1; exact ⟨h1.1, by have := h1.2; omega⟩
    | bad n => rw [hx] at h1; show n ≤ _; have : n ≤ 1 + t.length := h1; omega
  rw [if_neg h5]
  cases hx : sgn (b :: t) with
  | none => exact Nat.zero_le _
  | some g =>
    obtain ⟨h1, h2⟩ := sgn_mem hx
    have := signs_pos g h1
    have h3 := (List.isPrefixOf_iff_prefix.1 h2).length_le
    rw [List.length_cons] at h3
    exact ⟨this.1, h3⟩
end Lexp

namespace Lexp
open Go AEv

/-! ### Characters do not go over a line's end -/
def nlB (b : UInt8) : Bool := !(b.toNat == 10)
def line (u : List UInt8) : List UInt8 := u.takeWhile nlB
theorem line_cont (t : List UInt8) : cont (line t) = cont t ∧ (cont t = true → hd (line t) = hd t ∧ (line t).drop 1 = line (t.drop 1)) := by
  cases t with
  | nil => exact ⟨rfl, fun h => by cases h⟩
  | cons b t =>
    cases hb : nlB b with
    | true =>
      have e : line (b :: t) = b :: line t := by unfold line; rw [List.takeWhile_cons, if_pos hb]
      rw [e]
      exact ⟨rfl, fun _ => ⟨rfl, rfl⟩⟩
    | false =>
      have e : line (b :: t) = [] := by unfold line; rw [List.takeWhile_cons, if_neg (by rw [hb]; simp)]
      have h10 : b.toNat = 10 := by simpa [nlB] using hb
      rw [e]
      have : cont (b :: t) = false := by simp [cont, h10]
      rw [this]
      exact ⟨rfl, fun h => by cases h⟩
theorem line_win (t : List UInt8) {lo hi : Nat} (hl : 11 ≤ lo) : win (line t) lo hi = win t lo hi ∧ (win t lo hi = true → (line t).drop 1 = line (t.drop 1)) := by
  cases t with
  | nil => exact ⟨rfl, fun h => by cases h⟩
  | cons b t =>
    cases hb : nlB b with
    | true =>
      have e : line (b :: t) = b :: line t := by unfold line; rw [List.takeWhile_cons, if_pos hb]
      rw [e]
      exact ⟨rfl, fun _ => rfl⟩
    | false =>
      have e : line (b :: t) = [] := by unfold line; rw [List.takeWhile_cons, if_neg (by rw [hb]; simp)]
      have h10 : b.toNat = 10 := by simpa [nlB] using hb
      rw [e]
      have : win (b :: t) lo hi = false := by simp only [win, h10, Bool.and_eq_false_iff, decide_eq_false_iff_not]; omega
      rw [this]
      exact ⟨rfl, fun h => by cases h⟩
theorem drop2 (t : List UInt8) : t.drop 2 = (t.drop 1).drop 1 := by rw [List.drop_drop]
theorem dec_line (b : UInt8) (t : List UInt8) : decP (b :: line t) = decP (b :: t) := by
  obtain ⟨a1, a2⟩ := line_cont t
  unfold decP
  simp only [a1, drop2]
  by_cases h1 : cont t = true
  · obtain ⟨k1, k2⟩ := a2 h1
    obtain ⟨b1, b2⟩ := line_cont (t.drop 1)
    simp only [k1, k2, b1]
    by_cases h2 : cont (t.drop 1) = true
    · obtain ⟨k3, k4⟩ := b2 h2
      obtain ⟨c1, c2⟩ := line_cont ((t.drop 1).drop 1)
      simp only [k3, k4, c1]
      by_cases h3 : cont ((t.drop 1).drop 1) = true
      · rw [(c2 h3).1]
      · simp only [ff h3, Bool.and_false, Bool.false_eq_true, if_false]
    · simp only [ff h2, Bool.and_false, Bool.false_and, Bool.false_eq_true, if_false]
  · simp only [ff h1, Bool.and_false, Bool.false_and, Bool.false_eq_true, if_false]
theorem chr_line (b : UInt8) (t : List UInt8) : chr (b :: line t) = chr (b :: t) := by
  have key : ∀ lo hi, 11 ≤ lo → win (line t) lo hi = win t lo hi ∧ (win (line t) lo hi && win ((line t).drop 1) 128 191) = (win t lo hi && win (t.drop 1) 128 191) ∧
      (win (line t) lo hi && win ((line t).drop 1) 128 191 && win ((line t).drop 2) 128 191) = (win t lo hi && win (t.drop 1) 128 191 && win (t.drop 2) 128 191) := by
    intro lo hi hl
    obtain ⟨a1, a2⟩ := line_win t (hi := hi) hl
    rw [a1, drop2, drop2]
    by_cases h1 : win t lo hi = true
    · rw [a2 h1, h1]
      obtain ⟨b1, b2⟩ := line_win (t.drop 1) (lo := 128) (hi := 191) (by omega)
      rw [b1]
      refine ⟨rfl, rfl, ?_⟩
      by_cases h2 : win (t.drop 1) 128 191 = true
      · rw [b2 h2, (line_win ((t.drop 1).drop 1) (lo := 128) (hi := 191) (by omega)).1]
      · rw [ff h2]; rfl
    · rw [ff h1]; exact ⟨rfl, rfl, rfl⟩
  show (if b.toNat < 128 then 1 else
      match second b.toNat with
      | (lo, hi, 2) => if win (line t) lo hi then 2 else 0
      | (lo, hi, 3) => if win (line t) lo hi && win ((line t).drop 1) 128 191 then 3 else 0
      | (lo, hi, 4) => if win (line t) lo hi && win ((line t).drop 1) 128 191 && win ((line t).drop 2) 128 191 then 4 else 0
      | _ => 0) = (if b.toNat < 128 then 1 else
      match second b.toNat with
      | (lo, hi, 2) => if win t lo hi then 2 else 0
      | (lo, hi, 3) => if win t lo hi && win (t.drop 1) 128 191 then 3 else 0
      | (lo, hi, 4) => if win t lo hi && win (t.drop 1) 128 191 && win (t.drop 2) 128 191 then 4 else 0
      | _ => 0)
  by_cases h0 : b.toNat < 128
  · rw [if_pos h0, if_pos h0]
  · rw [if_neg h0, if_neg h0]
    rcases second_cases b.toNat with ⟨_, _, he⟩ | ⟨_, he⟩ | ⟨_, he⟩ | ⟨_, _, _, he⟩ | ⟨_, he⟩ | ⟨_, _, he⟩ | ⟨_, he⟩ | ⟨_, he⟩ <;> rw [he] <;> simp only
    · rw [(key 128 191 (by omega)).1]
    · rw [(key 160 191 (by omega)).2.1]
    · rw [(key 128 159 (by omega)).2.1]
    · rw [(key 128 191 (by omega)).2.1]
    · rw [(key 144 191 (by omega)).2.2]
    · rw [(key 128 191 (by omega)).2.2]
    · rw [(key 128 143 (by omega)).2.2]
theorem line_nl {b : UInt8} (h : b.toNat = 10) (t : List UInt8) : line (b :: t) = [] := by unfold line; rw [List.takeWhile_cons, if_neg (by simp [nlB, h])]
theorem line_cons {b : UInt8} (h : ¬ b.toNat = 10) (t : List UInt8) : line (b :: t) = b :: line t := by unfold line; rw [List.takeWhile_cons, if_pos (by simp [nlB, h])]
theorem line_drop : ∀ (n : Nat) (u : List UInt8), n ≤ (line u).length → (line u).drop n = line (u.drop n)
  | 0, u, _ => rfl
  | n + 1, [], h => by simp [line] at h
  | n + 1, b :: u, h => by
    by_cases hb : b.toNat = 10
    · rw [line_nl hb] at h; simp at h
    · rw [line_cons hb] at h ⊢
      rw [List.drop_succ_cons, List.drop_succ_cons]
      exact line_drop n u (by simpa using h)
/-- The first character lies in the line. -/
theorem chr_in {b : UInt8} {t : List UInt8} (hb : ¬ b.toNat = 10) : chr (b :: t) ≤ (line (b :: t)).length := by
  rw [line_cons hb, ← chr_line]; exact chr_le _
theorem remk_cons {f : Nat} {b : UInt8} {t : List UInt8} {off : Nat} (hb : ¬ b.toNat = 10) : remk (f + 1) (b :: t) off = match chr (b :: t) with
    | 0 => (false, off)
    | n + 1 => remk f ((b :: t).drop (n + 1)) (off + (n + 1)) := by
  conv => lhs; unfold remk
  simp only [if_neg hb, List.drop_succ_cons]
  all_goals (cases chr (b :: t) <;> rfl)
theorem remk_line : ∀ (f : Nat) (u : List UInt8) (off : Nat), line u = [] → remk f u off = (true, off)
  | 0, u, off, _ => rfl
  | f + 1, [], off, _ => rfl
  | f + 1, b :: t, off, h => by
    by_cases hb : b.toNat = 10
    · unfold remk; simp only [if_pos hb]
    · rw [line_cons hb] at h; cases h
theorem remk_end : ∀ (f : Nat) (u : List UInt8) (off : Nat), (line u).length ≤ f → (remk f u off).1 = true → (remk f u off).2 = off + (line u).length
  | 0, u, off, h, _ => by
    have : line u = [] := List.eq_nil_of_length_eq_zero (by omega)
    rw [remk_line 0 u off this, this]; rfl
  | f + 1, [], off, h, _ => rfl
  | f + 1, b :: t, off, h, hr => by
    by_cases hb : b.toNat = 10
    · rw [remk_line _ _ _ (line_nl hb t), line_nl hb]; rfl
    · rw [remk_cons hb] at hr ⊢
      cases hc : chr (b :: t) with
      | zero => rw [hc] at hr; cases hr
      | succ n =>
        rw [hc] at hr
        have hin := chr_in (t := t) hb
        rw [hc] at hin
        have hd := line_drop (n + 1) (b :: t) hin
        have hl : (line ((b :: t).drop (n + 1))).length = (line (b :: t)).length - (n + 1) := by rw [← hd, List.length_drop]
        have := remk_end f _ (off + (n + 1)) (by rw [hl]; omega) hr
        simp only at this ⊢
        rw [this, hl]; omega
theorem txt_cons {f : Nat} {b : UInt8} {t : List UInt8} {off : Nat} {out : List UInt8} (h1 : ¬ b.toNat = 10) (h2 : ¬ b.toNat = 34) (h3 : ¬ b.toNat = 92) : txt (f + 1) (b :: t) off out = match chr (b :: t) with
    | 0 => .bad off
    | n + 1 => txt f ((b :: t).drop (n + 1)) (off + (n + 1)) (out ++ (b :: t).take (n + 1)) := by
  conv => lhs; unfold txt
  simp only [if_neg h1, if_neg h2, if_neg h3, List.drop_succ_cons, List.take_succ_cons]
  all_goals (cases chr (b :: t) <;> rfl)
theorem txt_q {f : Nat} {b : UInt8} {t : List UInt8} {off : Nat} {out : List UInt8} (h2 : b.toNat = 34) : txt (f + 1) (b :: t) off out = .ok out (off + 1) := by
  conv => lhs; unfold txt
  simp only [if_neg (show ¬ b.toNat = 10 by omega), if_pos h2]
theorem txt_esc {f : Nat} {b : UInt8} {t : List UInt8} {off : Nat} {out : List UInt8} (h2 : b.toNat = 92) : txt (f + 1) (b :: t) off out = match t with
    | [] => .bad off
    | e :: t' => if e.toNat = 34 ∨ e.toNat = 92 then txt f t' (off + 2) (out ++ [e])
      else if e.toNat = 110 then txt f t' (off + 2) (out ++ [10])
      else .bad off := by
  conv => lhs; unfold txt
  simp only [if_neg (show ¬ b.toNat = 10 by omega), if_neg (show ¬ b.toNat = 34 by omega), if_pos h2]
  all_goals (cases t <;> rfl)
theorem txt_line : ∀ (f : Nat) (u : List UInt8) (off : Nat) (out : List UInt8), line u = [] → txt f u off out = .bad 0
  | 0, u, off, out, _ => rfl
  | f + 1, [], off, out, _ => rfl
  | f + 1, b :: t, off, out, h => by
    by_cases hb : b.toNat = 10
    · unfold txt; simp only [if_pos hb]
    · rw [line_cons hb] at h; cases h
end Lexp

namespace Lexp
open Go AEv

/-! ### What characters are, by their bytes -/
theorem dec2 {b y : UInt8} {r : List UInt8} (hx : 194 ≤ b.toNat ∧ b.toNat ≤ 223) (hy : y.toNat / 64 = 2) : decP (b :: y :: r) = ((b.toNat % 32) * 64 + y.toNat % 64, 2) := by
  have e0 : ¬ b.toNat < 128 := by omega
  have e1 : (b.toNat / 32 == 6) = true := by simp; omega
  have hc : cont (y :: r) = true := by simp [cont, hy]
  unfold decP
  simp only [if_neg e0, e1, hc, Bool.and_true, if_true]
  exact if_pos (by simp only [hd]; omega)
theorem dec3 {b y z : UInt8} {r : List UInt8} (hx : 224 ≤ b.toNat ∧ b.toNat ≤ 239) (hy : y.toNat / 64 = 2) (hz : z.toNat / 64 = 2) (hc : chr (b :: y :: z :: r) = 3) : decP (b :: y :: z :: r) = ((b.toNat % 16) * 4096 + (y.toNat % 64) * 64 + z.toNat % 64, 3) := by
  have e0 : ¬ b.toNat < 128 := by omega
  have e1 : (b.toNat / 32 == 6) = false := by simp; omega
  have e2 : (b.toNat / 16 == 14) = true := by simp; omega
  have hcy : cont (y :: z :: r) = true := by simp [cont, hy]
  have hcz : cont (z :: r) = true := by simp [cont, hz]
  have hf : decP (b :: y :: z :: r) = if ((b.toNat % 16) * 4096 + (y.toNat % 64) * 64 + z.toNat % 64 ≥ 2048 && vld ((b.toNat % 16) * 4096 + (y.toNat % 64) * 64 + z.toNat % 64)) then ((b.toNat % 16) * 4096 + (y.toNat % 64) * 64 + z.toNat % 64, 3) else (65533, 1) := by
    conv => lhs; unfold decP
    simp only [if_neg e0, e1, e2, hcy, List.drop_succ_cons, List.drop_zero, hcz, hd, Bool.and_true, Bool.false_and, Bool.false_eq_true, if_false, if_true]
  rcases chr_is (b :: y :: z :: r) with ⟨h, _⟩ | ⟨h, _⟩ | ⟨_, c, h, _⟩
  · rw [hc] at h; cases h
  · rw [hc] at h; cases h
  · rw [hc, hf] at h
    rw [hf]
    split
    · rfl
    · rename_i hn; rw [if_neg hn] at h; cases h
theorem dec4 {b y z w : UInt8} {r : List UInt8} (hx : 240 ≤ b.toNat ∧ b.toNat ≤ 244) (hy : y.toNat / 64 = 2) (hz : z.toNat / 64 = 2) (hw : w.toNat / 64 = 2) (hc : chr (b :: y :: z :: w :: r) = 4) : decP (b :: y :: z :: w :: r) = ((b.toNat % 8) * 262144 + (y.toNat % 64) * 4096 + (z.toNat % 64) * 64 + w.toNat % 64, 4) := by
  have e0 : ¬ b.toNat < 128 := by omega
  have e1 : (b.toNat / 32 == 6) = false := by simp; omega
  have e2 : (b.toNat / 16 == 14) = false := by simp; omega
  have e3 : (b.toNat / 8 == 30) = true := by simp; omega
  have hcy : cont (y :: z :: w :: r) = true := by simp [cont, hy]
  have hcz : cont (z :: w :: r) = true := by simp [cont, hz]
  have hcw : cont (w :: r) = true := by simp [cont, hw]
  have hf : decP (b :: y :: z :: w :: r) = if ((b.toNat % 8) * 262144 + (y.toNat % 64) * 4096 + (z.toNat % 64) * 64 + w.toNat % 64 ≥ 65536 && vld ((b.toNat % 8) * 262144 + (y.toNat % 64) * 4096 + (z.toNat % 64) * 64 + w.toNat % 64)) then ((b.toNat % 8) * 262144 + (y.toNat % 64) * 4096 + (z.toNat % 64) * 64 + w.toNat % 64, 4) else (65533, 1) := by
    conv => lhs; unfold decP
    simp only [if_neg e0, e1, e2, e3, hcy, List.drop_succ_cons, List.drop_zero, hcz, hcw, hd, Bool.and_true, Bool.false_and, Bool.false_eq_true, if_false, if_true]
  rcases chr_is (b :: y :: z :: w :: r) with ⟨h, _⟩ | ⟨h, _⟩ | ⟨_, c, h, _⟩
  · rw [hc] at h; cases h
  · rw [hc] at h; cases h
  · rw [hc, hf] at h
    rw [hf]
    split
    · rfl
    · rename_i hn; rw [if_neg hn] at h; cases h
theorem dec0 {u : List UInt8} (h : chr u = 0) : decP u = (65533, 1) := by
  rcases chr_is u with ⟨_, h1⟩ | ⟨h1, _⟩ | ⟨h1, _⟩
  · exact h1
  · omega
  · omega
theorem dec_lt (u : List UInt8) : (decP u).1 ≤ 1114111 ∧ (decP u).2 ≤ 4 ∧ 1 ≤ (decP u).2 := by
  have h4 : chr u ≤ 4 := by
    cases u with
    | nil => exact Nat.zero_le _
    | cons b t =>
      show (if b.toNat < 128 then 1 else
        match second b.toNat with
        | (lo, hi, 2) => if win t lo hi then 2 else 0
        | (lo, hi, 3) => if win t lo hi && win (t.drop 1) 128 191 then 3 else 0
        | (lo, hi, 4) => if win t lo hi && win (t.drop 1) 128 191 && win (t.drop 2) 128 191 then 4 else 0
        | _ => 0) ≤ 4
      split
      · omega
      · split <;> (try split) <;> omega
  rcases chr_is u with ⟨_, h1⟩ | ⟨_, b, t, rfl, h1, h2⟩ | ⟨h1, c, h2, h3, h5, _⟩
  · rw [h1]; decide
  · rw [h2]; simp only; omega
  · rw [h2]; simp only; omega
/-- A first byte of more than one. -/
structure Lead (b lo hi sz x idx : Nat) : Prop where
  he : second b = (lo, hi, sz)
  hlo : 128 ≤ lo
  hhi : hi ≤ 191
  hsz : (sz = 2 ∧ 194 ≤ b ∧ b ≤ 223) ∨ (sz = 3 ∧ 224 ≤ b ∧ b ≤ 239) ∨ (sz = 4 ∧ 240 ≤ b ∧ b ≤ 244)
  hx : x % 8 = sz ∧ x / 16 = idx ∧ x < 240 ∧ idx < 16
theorem lead_or {b : Nat} (hb : 128 ≤ b) (h2 : b < 256) : ((b < 194 ∨ 244 < b) ∧ second b = (0, 0, 0)) ∨ ∃ lo hi sz x idx, Lead b lo hi sz x idx ∧ ((x, idx, lo, hi) = (2, 0, 128, 191) ∧ 194 ≤ b ∧ b ≤ 223 ∨ (x, idx, lo, hi) = (19, 1, 160, 191) ∧ b = 224 ∨ (x, idx, lo, hi) = (35, 2, 128, 159) ∧ b = 237 ∨ (x, idx, lo, hi) = (3, 0, 128, 191) ∧ 224 < b ∧ b ≤ 239 ∧ b ≠ 237 ∨
    (x, idx, lo, hi) = (52, 3, 144, 191) ∧ b = 240 ∨ (x, idx, lo, hi) = (4, 0, 128, 191) ∧ 240 < b ∧ b ≤ 243 ∨ (x, idx, lo, hi) = (68, 4, 128, 143) ∧ b = 244) := by
  rcases second_cases b with ⟨h1, h2, he⟩ | ⟨h1, he⟩ | ⟨h1, he⟩ | ⟨h1, h2, h3, he⟩ | ⟨h1, he⟩ | ⟨h1, h2, he⟩ | ⟨h1, he⟩ | ⟨h1, he⟩
  · exact .inr ⟨_, _, _, 2, 0, ⟨he, by omega, by omega, .inl ⟨rfl, h1, h2⟩, by decide⟩, .inl ⟨rfl, h1, h2⟩⟩
  · exact .inr ⟨_, _, _, 19, 1, ⟨he, by omega, by omega, .inr (.inl ⟨rfl, by omega, by omega⟩), by decide⟩, .inr (.inl ⟨rfl, h1⟩)⟩
  · exact .inr ⟨_, _, _, 35, 2, ⟨he, by omega, by omega, .inr (.inl ⟨rfl, by omega, by omega⟩), by decide⟩, .inr (.inr (.inl ⟨rfl, h1⟩))⟩
  · exact .inr ⟨_, _, _, 3, 0, ⟨he, by omega, by omega, .inr (.inl ⟨rfl, by omega, by omega⟩), by decide⟩, .inr (.inr (.inr (.inl ⟨rfl, h1, h2, h3⟩)))⟩
  · exact .inr ⟨_, _, _, 52, 3, ⟨he, by omega, by omega, .inr (.inr ⟨rfl, by omega, by omega⟩), by decide⟩, .inr (.inr (.inr (.inr (.inl ⟨rfl, h1⟩))))⟩
  · exact .inr ⟨_, _, _, 4, 0, ⟨he, by omega, by omega, .inr (.inr ⟨rfl, by omega, by omega⟩), by decide⟩, .inr (.inr (.inr (.inr (.inr (.inl ⟨rfl, h1, h2⟩)))))⟩
  · exact .inr ⟨_, _, _, 68, 4, ⟨he, by omega, by omega, .inr (.inr ⟨rfl, by omega, by omega⟩), by decide⟩, .inr (.inr (.inr (.inr (.inr (.inr ⟨rfl, h1⟩)))))⟩
  · exact .inl ⟨h1, he⟩
theorem chr_lead2 {b : UInt8} {t : List UInt8} {lo hi : Nat} (h0 : ¬ b.toNat < 128) (he : second b.toNat = (lo, hi, 2)) : chr (b :: t) = if win t lo hi then 2 else 0 := by
  simp only [chr, if_neg h0, he]
theorem chr_lead3 {b : UInt8} {t : List UInt8} {lo hi : Nat} (h0 : ¬ b.toNat < 128) (he : second b.toNat = (lo, hi, 3)) : chr (b :: t) = if win t lo hi && win (t.drop 1) 128 191 then 3 else 0 := by
  simp only [chr, if_neg h0, he]
theorem chr_lead4 {b : UInt8} {t : List UInt8} {lo hi : Nat} (h0 : ¬ b.toNat < 128) (he : second b.toNat = (lo, hi, 4)) : chr (b :: t) = if win t lo hi && win (t.drop 1) 128 191 && win (t.drop 2) 128 191 then 4 else 0 := by
  simp only [chr, if_neg h0, he]
theorem chr_lead0 {b : UInt8} {t : List UInt8} (h0 : ¬ b.toNat < 128) (he : second b.toNat = (0, 0, 0)) : chr (b :: t) = 0 := by
  simp only [chr, if_neg h0, he]
end Lexp
