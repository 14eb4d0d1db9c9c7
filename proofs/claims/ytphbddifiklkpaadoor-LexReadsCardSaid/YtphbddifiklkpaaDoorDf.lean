/-
  PROVED HERE: contracts of functions (Df). No condition beside each statement's own.
-/
import Derived.Test.YtphbddifiklkpaaDoorDb
set_option linter.unusedVariables false
set_option linter.unusedSimpArgs false
namespace Lexp
open Go AEv

/-! ### What a token tells -/
theorem lexL_fuel : ∀ (f g : Nat) (s : List UInt8) (a : Nat) (out : List Tk), s.length ≤ f → s.length ≤ g → lexL f s a out = lexL g s a out
  | f, g, [], a, out, _, _ => by cases f <;> cases g <;> rfl
  | 0, g, b :: t, a, out, h, _ => by simp at h
  | f + 1, 0, b :: t, a, out, _, h => by simp at h
  | f + 1, g + 1, b :: t, a, out, hf, hg => by
    have hl := el_len b t
    unfold lexL
    simp only
    simp only [List.length_cons] at hf hg
    cases he : el (b :: t) with
    | skip n => rw [he] at hl; simp only; exact lexL_fuel f g _ _ _ (by have := hl.1; simp; omega) (by have := hl.1; simp; omega)
    | bad n => rfl
    | tok k x v n => rw [he] at hl; simp only; exact lexL_fuel f g _ _ _ (by have := hl.1; simp; omega) (by have := hl.1; simp; omega)
def wordB (b : UInt8) : Bool := letterB b || digitB b
inductive TokC : Nat → List UInt8 → Nat → List UInt8 → Nat → Prop
  | word {c : UInt8} {r : List UInt8} : letterB c = true → ((c :: r).takeWhile wordB).length ≤ 24 → TokC (if inW ((c :: r).takeWhile wordB) then 2 else 1) ((c :: r).takeWhile wordB) 0 (c :: r) ((c :: r).takeWhile wordB).length
  | int {c : UInt8} {r : List UInt8} {v : Nat} : digitB c = true → numV ((c :: r).takeWhile digitB) 0 = some v → TokC 3 [] v (c :: r) ((c :: r).takeWhile digitB).length
  | text {c : UInt8} {r : List UInt8} {t : List UInt8} {n : Nat} : c.toNat = 34 → txt (c :: r).length r 1 [] = .ok t n → TokC 4 t 0 (c :: r) n
  | sign {c : UInt8} {r : List UInt8} {g : List UInt8} : sgn (c :: r) = some g → TokC 5 g 0 (c :: r) g.length
theorem el_tok {u : List UInt8} {k v n : Nat} {t : List UInt8} (h : el u = .tok k t v n) : TokC k t v u n := by
  cases u with
  | nil => cases h
  | cons c r =>
    unfold el at h
    simp only at h
    by_cases h1 : blankB c = true
    · rw [if_pos h1] at h; cases h
    rw [if_neg h1] at h
    by_cases h2 : c.toNat = 35
    · rw [if_pos h2] at h
      split at h <;> cases h
    rw [if_neg h2] at h
    by_cases h3 : letterB c = true
    · rw [if_pos h3] at h
      split at h
      · cases h
      · rename_i hl
        cases h
        exact .word h3 (by have e : (wordB : UInt8 → Bool) = (fun b => letterB b || digitB b) := rfl
                           rw [e]; omega)
    rw [if_neg h3] at h
    by_cases h4 : digitB c = true
    · rw [if_pos h4] at h
      split at h
      · cases h
      · rename_i v' hv
        cases h
        exact .int h4 hv
    rw [if_neg h4] at h
    by_cases h5 : c.toNat = 34
    · rw [if_pos h5] at h
      split at h
      · rename_i t' n' ht
        cases h
        exact .text h5 ht
      · cases h
    rw [if_neg h5] at h
    split at h
    · cases h
    · rename_i g hg
      cases h
      exact .sign hg

/-! ### What is written for a token -/
def escB (b : UInt8) : List UInt8 := if b.toNat = 34 ∨ b.toNat = 92 then [92, b] else if b.toNat = 10 then [92, 110] else [b]
def esc (t : List UInt8) : List UInt8 := t.flatMap escB
theorem esc_app (a b : List UInt8) : esc (a ++ b) = esc a ++ esc b := List.flatMap_append
theorem escB_len (b : UInt8) : (escB b).length ≤ 2 := by unfold escB; split <;> (try split) <;> simp
theorem esc_len : ∀ t : List UInt8, (esc t).length ≤ 2 * t.length
  | [] => Nat.le_refl _
  | b :: t => by
    have := esc_len t
    have := escB_len b
    show (escB b ++ esc t).length ≤ _
    rw [List.length_append, List.length_cons]; omega
def dig (n : Nat) : List UInt8 := if n < 10 then [UInt8.ofNat (48 + n)] else dig (n / 10) ++ [UInt8.ofNat (48 + n % 10)]
def wr (t : Tk) : List UInt8 := if t.k = 3 then dig t.v else if t.k = 4 then 34 :: esc t.t ++ [34] else t.t

/-! ### Characters -/
def Chunk (c : List UInt8) : Prop := (∃ b : UInt8, c = [b] ∧ b.toNat < 128) ∨ (2 ≤ c.length ∧ (∀ x ∈ c, 128 ≤ x.toNat) ∧ ∀ r, chr (c ++ r) = c.length)
def Chars (t : List UInt8) : Prop := ∃ l : List (List UInt8), t = l.flatten ∧ ∀ c ∈ l, Chunk c
theorem Chars.nil : Chars [] := ⟨[], rfl, fun _ h => by cases h⟩
theorem Chars.snoc {t c : List UInt8} : Chars t → Chunk c → Chars (t ++ c)
  | ⟨l, e, h⟩, hc => ⟨l ++ [c], by simp [e], fun x hx => by
    rcases List.mem_append.1 hx with h1 | h1
    · exact h x h1
    · rw [List.mem_singleton.1 h1]; exact hc⟩
theorem chunk_of {b : UInt8} {t : List UInt8} {n : Nat} (h : chr (b :: t) = n + 1) : Chunk (b :: t.take n) := by
  by_cases h0 : b.toNat < 128
  · have : chr (b :: t) = 1 := by simp only [chr, if_pos h0]
    obtain rfl : n = 0 := by omega
    exact .inl ⟨b, rfl, h0⟩
  · right
    have h0' : 128 ≤ b.toNat := by omega
    have key : ∀ {lo hi : Nat}, 128 ≤ lo → second b.toNat = (lo, hi, 2) ∨ second b.toNat = (lo, hi, 3) ∨ second b.toNat = (lo, hi, 4) → 2 ≤ (b :: t.take n).length ∧ (∀ x ∈ b :: t.take n, 128 ≤ x.toNat) ∧ ∀ r, chr (b :: t.take n ++ r) = (b :: t.take n).length := by
      intro lo hi hlo hs
      rcases hs with hs | hs | hs
      · rw [chr_lead2 h0 hs] at h
        split at h
        · rename_i hw
          obtain rfl : n = 1 := by omega
          obtain ⟨y, r, rfl, y1, y2⟩ := win_cons hw
          refine ⟨by simp, fun x hx => ?_, fun r' => ?_⟩
          · simp at hx; rcases hx with rfl | rfl <;> omega
          · show chr (b :: y :: r') = 2
            rw [chr_lead2 h0 hs, if_pos (by simpa [win] using ⟨y1, y2⟩)]
        · cases h
      · rw [chr_lead3 h0 hs] at h
        split at h
        · rename_i hw
          obtain rfl : n = 2 := by omega
          rw [Bool.and_eq_true] at hw
          obtain ⟨y, r, rfl, y1, y2⟩ := win_cons hw.1
          have hw2 := hw.2
          rw [List.drop_succ_cons, List.drop_zero] at hw2
          obtain ⟨z, r2, rfl, z1, z2⟩ := win_cons hw2
          refine ⟨by simp, fun x hx => ?_, fun r' => ?_⟩
          · simp at hx; rcases hx with rfl | rfl | rfl <;> omega
          · show chr (b :: y :: z :: r') = 3
            rw [chr_lead3 h0 hs, if_pos (by simp [win, y1, y2, z1, z2])]
        · cases h
      · rw [chr_lead4 h0 hs] at h
        split at h
        · rename_i hw
          obtain rfl : n = 3 := by omega
          simp only [Bool.and_eq_true] at hw
          obtain ⟨y, r, rfl, y1, y2⟩ := win_cons hw.1.1
          have hw2 := hw.1.2
          have hw3 := hw.2
          rw [List.drop_succ_cons, List.drop_zero] at hw2
          obtain ⟨z, r2, rfl, z1, z2⟩ := win_cons hw2
          simp only [List.drop_succ_cons, List.drop_zero] at hw3
          obtain ⟨w, r3, rfl, w1, w2⟩ := win_cons hw3
          refine ⟨by simp, fun x hx => ?_, fun r' => ?_⟩
          · simp at hx; rcases hx with rfl | rfl | rfl | rfl <;> omega
          · show chr (b :: y :: z :: w :: r') = 4
            rw [chr_lead4 h0 hs, if_pos (by simp [win, y1, y2, z1, z2, w1, w2])]
        · cases h
    rcases second_cases b.toNat with ⟨_, _, he⟩ | ⟨_, he⟩ | ⟨_, he⟩ | ⟨_, _, _, he⟩ | ⟨_, he⟩ | ⟨_, _, he⟩ | ⟨_, he⟩ | ⟨_, he⟩
    · exact key (by omega) (.inl he)
    · exact key (by omega) (.inr (.inl he))
    · exact key (by omega) (.inr (.inl he))
    · exact key (by omega) (.inr (.inl he))
    · exact key (by omega) (.inr (.inr he))
    · exact key (by omega) (.inr (.inr he))
    · exact key (by omega) (.inr (.inr he))
    · rw [chr_lead0 h0 he] at h; cases h
/-! ### A text that is written -/
theorem txt_fuel : ∀ (f g : Nat) (s : List UInt8) (off : Nat) (out : List UInt8), s.length ≤ f → s.length ≤ g → txt f s off out = txt g s off out
  | f, g, [], off, out, _, _ => by cases f <;> cases g <;> rfl
  | 0, g, b :: t, off, out, h, _ => by simp at h
  | f + 1, 0, b :: t, off, out, _, h => by simp at h
  | f + 1, g + 1, b :: t, off, out, hf, hg => by
    simp only [List.length_cons] at hf hg
    unfold txt
    simp only
    split
    · rfl
    split
    · rfl
    split
    · cases t with
      | nil => rfl
      | cons e t' =>
        simp only [List.length_cons] at hf hg
        simp only
        split
        · exact txt_fuel f g _ _ _ (by omega) (by omega)
        split
        · exact txt_fuel f g _ _ _ (by omega) (by omega)
        · rfl
    · cases chr (b :: t) with
      | zero => rfl
      | succ n => simp only; exact txt_fuel f g _ _ _ (by simp; omega) (by simp; omega)
theorem u8eq {b : UInt8} {n : Nat} (h : b.toNat = n) : b = UInt8.ofNat n := (of_nat_eq h.symm).symm
theorem esc_hi : ∀ (c : List UInt8), (∀ x ∈ c, 128 ≤ x.toNat) → esc c = c
  | [], _ => rfl
  | b :: t, h => by
    have hb := h b (by simp)
    show escB b ++ esc t = _
    rw [esc_hi t (fun x hx => h x (by simp [hx]))]
    unfold escB
    rw [if_neg (by omega), if_neg (by omega)]; rfl
theorem txt_chunk {c : List UInt8} (hc : Chunk c) (r : List UInt8) (off : Nat) (out : List UInt8) (f : Nat) (hf : (esc c ++ r).length ≤ f) : txt f (esc c ++ r) off out = txt r.length r (off + (esc c).length) (out ++ c) := by
  rcases hc with ⟨b, rfl, hb⟩ | ⟨h2, hh, hr⟩
  · have e : esc [b] = escB b := by simp [esc]
    rw [e] at hf ⊢
    by_cases h1 : b.toNat = 34 ∨ b.toNat = 92
    · have e2 : escB b = [92, b] := by unfold escB; rw [if_pos h1]
      rw [e2] at hf ⊢
      obtain ⟨g, rfl⟩ : ∃ g, f = g + 1 := ⟨f - 1, by simp at hf; omega⟩
      show txt (g + 1) (92 :: b :: r) off out = _
      rw [txt_esc (by decide)]
      simp only [if_pos h1]
      exact txt_fuel _ _ _ _ _ (by simp at hf; omega) (Nat.le_refl _)
    by_cases h3 : b.toNat = 10
    · have e2 : escB b = [92, 110] := by unfold escB; rw [if_neg h1, if_pos h3]
      rw [e2] at hf ⊢
      obtain ⟨g, rfl⟩ : ∃ g, f = g + 1 := ⟨f - 1, by simp at hf; omega⟩
      show txt (g + 1) (92 :: 110 :: r) off out = _
      rw [txt_esc (by decide), u8eq h3]
      simp only [show ¬ ((110 : UInt8).toNat = 34 ∨ (110 : UInt8).toNat = 92) by decide, if_false, show (110 : UInt8).toNat = 110 from rfl, if_true]
      exact txt_fuel _ _ _ _ _ (by simp at hf; omega) (Nat.le_refl _)
    · have e2 : escB b = [b] := by unfold escB; rw [if_neg h1, if_neg h3]
      rw [e2] at hf ⊢
      obtain ⟨g, rfl⟩ : ∃ g, f = g + 1 := ⟨f - 1, by simp at hf; omega⟩
      show txt (g + 1) (b :: r) off out = _
      rw [txt_cons h3 (by omega) (by omega), show chr (b :: r) = 0 + 1 by simp only [chr, if_pos hb]]
      simp only [Nat.zero_add, List.drop_succ_cons, List.drop_zero, List.take_succ_cons, List.take_zero]
      exact txt_fuel _ _ _ _ _ (by simp at hf; omega) (Nat.le_refl _)
  · rw [esc_hi c hh] at hf ⊢
    cases c with
    | nil => simp at h2
    | cons b t =>
      have hb := hh b (by simp)
      obtain ⟨g, rfl⟩ : ∃ g, f = g + 1 := ⟨f - 1, by simp at hf; omega⟩
      have hr' := hr r
      rw [List.cons_append] at hr' ⊢
      rw [txt_cons (by omega) (by omega) (by omega), hr', List.length_cons]
      simp only [List.drop_succ_cons, List.take_succ_cons]
      rw [List.drop_left, List.take_left]
      exact txt_fuel _ _ _ _ _ (by simp at hf; omega) (Nat.le_refl _)
theorem txt_run : ∀ (l : List (List UInt8)), (∀ c ∈ l, Chunk c) → ∀ (r : List UInt8) (off : Nat) (out : List UInt8) (f : Nat), (esc l.flatten ++ r).length ≤ f → txt f (esc l.flatten ++ r) off out = txt r.length r (off + (esc l.flatten).length) (out ++ l.flatten)
  | [], _, r, off, out, f, hf => by
    simp only [List.flatten_nil, List.append_nil]
    exact txt_fuel _ _ _ _ _ (by simpa [esc] using hf) (Nat.le_refl _)
  | c :: l, h, r, off, out, f, hf => by
    have e : esc (c :: l).flatten ++ r = esc c ++ (esc l.flatten ++ r) := by rw [List.flatten_cons, esc_app, List.append_assoc]
    rw [e] at hf ⊢
    rw [txt_chunk (h c (by simp)) _ off out f hf, txt_run l (fun x hx => h x (by simp [hx])) r _ _ _ (Nat.le_refl _), List.flatten_cons, esc_app, List.length_append, List.append_assoc, Nat.add_assoc]
theorem txt_back {t : List UInt8} (ht : Chars t) (r : List UInt8) (f : Nat) (hf : (esc t ++ 34 :: r).length ≤ f) : txt f (esc t ++ 34 :: r) 1 [] = .ok t ((esc t).length + 2) := by
  obtain ⟨l, rfl, h⟩ := ht
  rw [txt_run l h (34 :: r) 1 [] f hf, List.length_cons, txt_q (by decide)]
  simp only [List.nil_append]
  congr 1; omega
theorem txt_chars : ∀ (f : Nat) (s : List UInt8) (off : Nat) (out t : List UInt8) (n : Nat), txt f s off out = .ok t n → Chars out → Chars t ∧ t.length + off + 1 ≤ n + out.length
  | 0, s, off, out, t, n, h, _ => by cases h
  | f + 1, [], off, out, t, n, h, _ => by cases h
  | f + 1, b :: r, off, out, t, n, h, ho => by
    by_cases h1 : b.toNat = 10
    · unfold txt at h; simp only [if_pos h1] at h; cases h
    by_cases h2 : b.toNat = 34
    · rw [txt_q h2] at h; cases h; exact ⟨ho, by omega⟩
    by_cases h3 : b.toNat = 92
    · rw [txt_esc h3] at h
      cases r with
      | nil => cases h
      | cons e t' =>
        simp only at h
        split at h
        · rename_i he
          have := txt_chars f _ _ _ _ _ h (ho.snoc (.inl ⟨e, rfl, by omega⟩))
          exact ⟨this.1, by have := this.2; simp at this; omega⟩
        split at h
        · have := txt_chars f _ _ _ _ _ h (ho.snoc (.inl ⟨10, rfl, by decide⟩))
          exact ⟨this.1, by have := this.2; simp at this; omega⟩
        · cases h
    · rw [txt_cons h1 h2 h3] at h
      cases hc : chr (b :: r) with
      | zero => rw [hc] at h; cases h
      | succ m =>
        rw [hc] at h
        simp only at h
        have := txt_chars f _ _ _ _ _ h (ho.snoc (chunk_of hc))
        refine ⟨this.1, ?_⟩
        have h5 := this.2
        simp only [List.length_append, List.length_cons, List.length_take] at h5
        omega
end Lexp

namespace Lexp
open Go AEv
set_option maxRecDepth 20000

/-! ### Numbers -/
theorem numV_step {b : UInt8} {l : List UInt8} {n v : Nat} (h : numV (b :: l) n = some v) : n ≤ (9223372036854775807 - (b.toNat - 48)) / 10 ∧ numV l (10 * n + (b.toNat - 48)) = some v := by
  unfold numV at h
  simp only at h
  split at h
  · cases h
  · exact ⟨by omega, h⟩
theorem numV_pow : ∀ (l : List UInt8) (n v : Nat), numV l n = some v → (∀ b ∈ l, digitB b = true) → v + 1 ≤ (n + 1) * 10 ^ l.length
  | [], n, v, h, _ => by cases h; simp
  | b :: l, n, v, h, hd => by
    obtain ⟨h1, h2⟩ := numV_step h
    have hb := hd b (by simp)
    simp [digitB] at hb
    have ih := numV_pow l _ v h2 fun x hx => hd x (by simp [hx])
    rw [List.length_cons, Nat.pow_succ]
    refine Nat.le_trans ih ?_
    have e : (n + 1) * (10 ^ l.length * 10) = (10 * n + 10) * 10 ^ l.length := by
      rw [Nat.mul_comm (10 ^ l.length) 10, ← Nat.mul_assoc]; congr 1; omega
    rw [e]
    exact Nat.mul_le_mul_right _ (by omega)
theorem dig_len : ∀ (k v : Nat), v < 10 ^ (k + 1) → (dig v).length ≤ k + 1
  | 0, v, h => by unfold dig; rw [if_pos (by simpa using h)]; simp
  | k + 1, v, h => by
    unfold dig
    split
    · simp
    · have := dig_len k (v / 10) (by rw [Nat.pow_succ] at h; omega)
      simp; omega
theorem dig_ok : ∀ (v : Nat), (∃ b l, dig v = b :: l) ∧ (∀ b ∈ dig v, digitB b = true) := by
  intro v
  induction v using Nat.strongRecOn with
  | _ v ih =>
    have hd : ∀ d, d < 10 → digitB (UInt8.ofNat (48 + d)) = true := by decide
    unfold dig
    split
    · exact ⟨⟨_, _, rfl⟩, fun b hb => by rw [List.mem_singleton.1 hb]; exact hd v (by omega)⟩
    · obtain ⟨⟨b, l, e⟩, h⟩ := ih (v / 10) (by omega)
      refine ⟨⟨b, l ++ [UInt8.ofNat (48 + v % 10)], by rw [e]; rfl⟩, fun x hx => ?_⟩
      rcases List.mem_append.1 hx with h1 | h1
      · exact h x h1
      · rw [List.mem_singleton.1 h1]; exact hd _ (by omega)
theorem numV_snoc : ∀ (l : List UInt8) (b : UInt8) (n m : Nat), numV l n = some m → m ≤ (9223372036854775807 - (b.toNat - 48)) / 10 → numV (l ++ [b]) n = some (10 * m + (b.toNat - 48))
  | [], b, n, m, h, hm => by
    cases h
    show numV [b] n = _
    unfold numV
    simp only
    rw [if_neg (by omega)]; rfl
  | c :: l, b, n, m, h, hm => by
    obtain ⟨h1, h2⟩ := numV_step h
    have := numV_snoc l b _ m h2 hm
    show numV (c :: (l ++ [b])) n = _
    unfold numV
    simp only
    rw [if_neg (by omega)]; exact this
theorem dig_val (d : Nat) (h : d < 10) : (UInt8.ofNat (48 + d)).toNat - 48 = d := by
  have : ∀ d, d < 10 → (UInt8.ofNat (48 + d)).toNat - 48 = d := by decide
  exact this d h
theorem numV_dig (v : Nat) (hv : v < 9223372036854775808) : numV (dig v) 0 = some v := by
  induction v using Nat.strongRecOn with
  | _ v ih =>
    unfold dig
    split
    · rename_i h
      have := numV_snoc [] (UInt8.ofNat (48 + v)) 0 0 rfl (Nat.zero_le _)
      rw [dig_val v h] at this
      simpa using this
    · have h1 := ih (v / 10) (by omega) (by omega)
      have := numV_snoc _ (UInt8.ofNat (48 + v % 10)) 0 _ h1 (by rw [dig_val _ (by omega)]; omega)
      rw [this, dig_val _ (by omega)]
      congr 1; omega

/-! ### What a source's tokens are -/
theorem tw_mem {p : UInt8 → Bool} {l : List UInt8} {b : UInt8} (h : b ∈ l.takeWhile p) : p b = true := by
  induction l with
  | nil => cases h
  | cons c l ih =>
    rw [List.takeWhile_cons] at h
    split at h
    · rename_i hc
      rcases List.mem_cons.1 h with rfl | h1
      · exact hc
      · exact ih h1
    · cases h
theorem tw_cons {p : UInt8 → Bool} {c : UInt8} {r : List UInt8} (h : p c = true) : (c :: r).takeWhile p = c :: r.takeWhile p := by rw [List.takeWhile_cons, if_pos h]
theorem wr_other {k v a : Nat} {t : List UInt8} (h3 : k ≠ 3) (h4 : k ≠ 4) : wr ⟨k, t, v, a⟩ = t := by unfold wr; rw [if_neg h3, if_neg h4]
theorem wr_len {k v n a : Nat} {t u : List UInt8} (h : TokC k t v u n) : (wr ⟨k, t, v, a⟩).length ≤ 2 * n := by
  cases h with
  | @word c r h1 h2 =>
    have e : wr ⟨if inW ((c :: r).takeWhile wordB) then 2 else 1, (c :: r).takeWhile wordB, 0, a⟩ = (c :: r).takeWhile wordB := by
      exact wr_other (by split <;> decide) (by split <;> decide)
    rw [e]; omega
  | @int c r v h1 h2 =>
    show (dig v).length ≤ _
    have h3 := numV_pow _ _ _ h2 fun b hb => tw_mem hb
    rw [tw_cons h1] at h3 ⊢
    rw [List.length_cons] at h3 ⊢
    have := dig_len (r.takeWhile digitB).length v (by omega)
    omega
  | @text c r t n h1 h2 =>
    have := (txt_chars _ _ _ _ _ _ h2 Chars.nil).2
    have h3 := esc_len t
    show (34 :: esc t ++ [34]).length ≤ _
    simp at this ⊢; omega
  | @sign c r g h1 => show t.length ≤ _; omega
structure Toks (s : List UInt8) (a : Nat) (out : List Tk) : Prop where
  each : ∀ t ∈ out, t.at' < a ∧ ∃ n, TokC t.k t.t t.v (s.drop t.at') n
  inc : out.Pairwise fun x y => x.at' < y.at'
  sum : (out.map fun t => (wr t).length).sum ≤ 2 * a
  len : out.length ≤ a
theorem Toks.mono {s : List UInt8} {a a' : Nat} {out : List Tk} (h : Toks s a out) (ha : a ≤ a') : Toks s a' out :=
  ⟨fun t ht => ⟨Nat.lt_of_lt_of_le (h.each t ht).1 ha, (h.each t ht).2⟩, h.inc, by have := h.sum; omega, by have := h.len; omega⟩
theorem Toks.put {s : List UInt8} {a n k v : Nat} {t : List UInt8} {out : List Tk} (h : Toks s a out) (hn : 1 ≤ n) (ht : TokC k t v (s.drop a) n) : Toks s (a + n) (out ++ [⟨k, t, v, a⟩]) := by
  refine ⟨fun x hx => ?_, ?_, ?_, ?_⟩
  · rcases List.mem_append.1 hx with h1 | h1
    · exact ⟨by have := (h.each x h1).1; omega, (h.each x h1).2⟩
    · rw [List.mem_singleton.1 h1]; exact ⟨by show a < a + n; omega, n, ht⟩
  · rw [List.pairwise_append]
    refine ⟨h.inc, by simp, fun x hx y hy => ?_⟩
    rw [List.mem_singleton.1 hy]; exact (h.each x hx).1
  · rw [List.map_append, List.sum_append]
    have := h.sum
    have := wr_len (a := a) ht
    simp; omega
  · have := h.len; simp; omega
theorem lexL_toks : ∀ (f a : Nat) (s : List UInt8) (out res : List Tk), s.length - a ≤ f → a ≤ s.length → lexL f (s.drop a) a out = .ok res → Toks s a out → ∃ out', res = out' ++ [⟨0, [], 0, s.length⟩] ∧ Toks s s.length out'
  | 0, a, s, out, res, hf, ha, h, ht => by
    obtain rfl : a = s.length := by omega
    cases h
    exact ⟨out, rfl, ht⟩
  | f + 1, a, s, out, res, hf, ha, h, ht => by
    rcases Nat.lt_or_ge a s.length with hlt | hge
    · have hd := List.drop_eq_getElem_cons hlt
      have hll : (s.drop a).length = s.length - a := List.length_drop
      have hel := el_len s[a] (s.drop (a + 1))
      rw [← hd, show (s.drop (a + 1)).length + 1 = (s.drop a).length by rw [hd]; rfl, hll] at hel
      unfold lexL at h
      rw [hd] at h
      simp only at h
      rw [← hd] at h
      cases he : el (s.drop a) with
      | skip n =>
        rw [he] at h hel
        simp only at h
        rw [List.drop_drop] at h
        exact lexL_toks f (a + n) s out res (by have := hel.1; omega) (by have := hel.2; omega) h (ht.mono (by omega))
      | bad n => rw [he] at h; cases h
      | tok k t v n =>
        rw [he] at h hel
        simp only at h
        rw [List.drop_drop] at h
        exact lexL_toks f (a + n) s _ res (by have := hel.1; omega) (by have := hel.2; omega) h (ht.put hel.1 (el_tok he))
    · obtain rfl : a = s.length := by omega
      unfold lexL at h
      rw [List.drop_length] at h
      cases h
      exact ⟨out, rfl, ht⟩
theorem lexS_toks {s : List UInt8} {res : List Tk} (h : lexS s = .ok res) : ∃ out, res = out ++ [⟨0, [], 0, s.length⟩] ∧ Toks s s.length out :=
  lexL_toks s.length 0 s [] res (by omega) (Nat.zero_le _) (by rw [List.drop_zero]; exact h) ⟨fun _ h => (by cases h), .nil, (by simp), (by simp)⟩

/-! ### Tokens that are written anew -/
def gaps : List (List UInt8) := [[32], [10], [9, 32, 13, 10], [32, 35, 32, 97, 32, 114, 101, 109, 97, 114, 107, 44, 32, 34, 115, 111, 10], [35, 10]]
def gapc : List UInt8 := [32, 10, 9, 35]
def Canon (t : Tk) : Prop :=
  (∃ b l, t.t = b :: l ∧ letterB b = true ∧ (∀ x ∈ t.t, wordB x = true) ∧ t.t.length ≤ 24 ∧ t.k = (if inW t.t then 2 else 1) ∧ t.v = 0) ∨ (t.k = 3 ∧ t.t = [] ∧ t.v < 9223372036854775808) ∨ (t.k = 4 ∧ t.v = 0 ∧ Chars t.t) ∨ (t.k = 5 ∧ t.v = 0 ∧ t.t ∈ signs)
theorem letter_not {b : UInt8} (h : letterB b = true) : blankB b = false ∧ ¬ b.toNat = 35 := by
  simp [letterB] at h
  simp [blankB]; omega
theorem digit_not {b : UInt8} (h : digitB b = true) : blankB b = false ∧ ¬ b.toNat = 35 ∧ letterB b = false := by
  simp [digitB] at h
  simp [blankB, letterB]; omega
theorem gapc_not : ∀ c ∈ gapc, wordB c = false ∧ digitB c = false := by decide
theorem el_sign (r : List UInt8) : ∀ g ∈ signs, ∀ c ∈ gapc, el (g ++ c :: r) = .tok 5 g 0 g.length := by
  intro g hg c hc
  simp only [signs, List.mem_cons, List.not_mem_nil, or_false] at hg
  simp only [gapc, List.mem_cons, List.not_mem_nil, or_false] at hc
  rcases hg with rfl | rfl | rfl | rfl | rfl | rfl | rfl | rfl | rfl | rfl | rfl | rfl | rfl | rfl | rfl | rfl | rfl <;> rcases hc with rfl | rfl | rfl | rfl <;> rfl
theorem el_text {t : List UInt8} (ht : Chars t) (r : List UInt8) : el (34 :: (esc t ++ 34 :: r)) = .tok 4 t 0 ((esc t).length + 2) := by
  have e : ∀ u : List UInt8, el (34 :: u) = match txt (34 :: u).length u 1 [] with | .ok t n => .tok 4 t 0 n | .bad n => .bad n := fun u => rfl
  rw [e, txt_back ht r _ (by simp)]
theorem el_canon {t : Tk} (h : Canon t) {c : UInt8} (hc : c ∈ gapc) (r : List UInt8) : el (wr t ++ c :: r) = .tok t.k t.t t.v (wr t).length := by
  obtain ⟨k, w, v, p⟩ := t
  rcases h with ⟨b, l, h1, h2, h3, h4, h5, h6⟩ | ⟨h1, h2, h3⟩ | ⟨h1, h2, h3⟩ | ⟨h1, h2, h3⟩
  · simp only at h1 h2 h3 h4 h5 h6
    have hw : wr ⟨k, w, v, p⟩ = w := by
      exact wr_other (by rw [h5]; split <;> decide) (by rw [h5]; split <;> decide)
    rw [hw]
    have ht : (w ++ c :: r).takeWhile wordB = w := by
      rw [List.takeWhile_append_of_pos h3, List.takeWhile_cons, if_neg (by simp [(gapc_not c hc).1]), List.append_nil]
    have hx : w ++ c :: r = b :: (l ++ c :: r) := by rw [h1]; rfl
    rw [hx] at ht ⊢
    unfold el
    simp only [(letter_not h2).1, (letter_not h2).2, h2, Bool.false_eq_true, if_false, if_true]
    have e : (fun b => letterB b || digitB b) = wordB := rfl
    rw [e, ht, if_neg (by omega), h5, h6]
  · simp only at h1 h2 h3
    subst h1 h2
    show el (dig v ++ c :: r) = .tok 3 [] v (dig v).length
    obtain ⟨⟨b, l, e⟩, hd⟩ := dig_ok v
    have ht : (dig v ++ c :: r).takeWhile digitB = dig v := by
      rw [List.takeWhile_append_of_pos hd, List.takeWhile_cons, if_neg (by simp [(gapc_not c hc).2]), List.append_nil]
    have hb := digit_not (hd b (by rw [e]; simp))
    have hb2 : digitB b = true := hd b (by rw [e]; simp)
    have hn := numV_dig v h3
    rw [e] at ht hn ⊢
    rw [List.cons_append] at ht ⊢
    unfold el
    simp only [hb.1, hb.2.1, hb.2.2, hb2, Bool.false_eq_true, if_false, if_true]
    rw [ht, hn]
  · simp only at h1 h2 h3
    subst h1 h2
    show el (34 :: esc w ++ [34] ++ c :: r) = .tok 4 w 0 (34 :: esc w ++ [34]).length
    have := el_text h3 (c :: r)
    simp at this ⊢
    exact this
  · simp only at h1 h2 h3
    subst h1 h2
    exact el_sign r w h3 c hc
theorem lexL_tok {u : List UInt8} {k v n : Nat} {t : List UInt8} (h : el u = .tok k t v n) (f a : Nat) (out : List Tk) (hf : u.length ≤ f) : lexL f u a out = lexL (u.drop n).length (u.drop n) (a + n) (out ++ [⟨k, t, v, a⟩]) := by
  cases u with
  | nil => cases h
  | cons b r =>
    have hl := el_len b r
    rw [h] at hl
    obtain ⟨g, rfl⟩ : ∃ g, f = g + 1 := ⟨f - 1, by simp at hf; omega⟩
    rw [lexL]
    simp only [h]
    exact lexL_fuel _ _ _ _ _ (by have := hl.1; simp at hf ⊢; omega) (Nat.le_refl _)
theorem lexL_skip {u : List UInt8} {n : Nat} (h : el u = .skip n) (f a : Nat) (out : List Tk) (hf : u.length ≤ f) : lexL f u a out = lexL (u.drop n).length (u.drop n) (a + n) out := by
  cases u with
  | nil => cases h
  | cons b r =>
    have hl := el_len b r
    rw [h] at hl
    obtain ⟨g, rfl⟩ : ∃ g, f = g + 1 := ⟨f - 1, by simp at hf; omega⟩
    rw [lexL]
    simp only [h]
    exact lexL_fuel _ _ _ _ _ (by have := hl.1; simp at hf ⊢; omega) (Nat.le_refl _)
theorem el_blank {b : UInt8} (r : List UInt8) (h : blankB b = true) : el (b :: r) = .skip 1 := by unfold el; simp only; rw [if_pos h]
theorem gap_skip (r : List UInt8) : ∀ g ∈ gaps, ∀ (f a : Nat) (out : List Tk), (g ++ r).length ≤ f → lexL f (g ++ r) a out = lexL r.length r (a + g.length) out := by
  intro g hg f a out hf
  have e1 : ∀ (b : UInt8) (u : List UInt8) (f a : Nat), blankB b = true → (b :: u).length ≤ f → lexL f (b :: u) a out = lexL u.length u (a + 1) out := fun b u f a hb hf => lexL_skip (el_blank u hb) f a out hf
  simp only [gaps, List.mem_cons, List.not_mem_nil, or_false] at hg
  rcases hg with rfl | rfl | rfl | rfl | rfl
  · exact e1 32 r f a (by decide) hf
  · exact e1 10 r f a (by decide) hf
  · exact (e1 9 (32 :: 13 :: 10 :: r) f a (by decide) hf).trans ((e1 32 (13 :: 10 :: r) _ _ (by decide) (Nat.le_refl _)).trans ((e1 13 (10 :: r) _ _ (by decide) (Nat.le_refl _)).trans (e1 10 r _ _ (by decide) (Nat.le_refl _))))
  · have he : el (35 :: 32 :: 97 :: 32 :: 114 :: 101 :: 109 :: 97 :: 114 :: 107 :: 44 :: 32 :: 34 :: 115 :: 111 :: 10 :: r) = .skip 15 := rfl
    exact (e1 32 (35 :: 32 :: 97 :: 32 :: 114 :: 101 :: 109 :: 97 :: 114 :: 107 :: 44 :: 32 :: 34 :: 115 :: 111 :: 10 :: r) f a (by decide) hf).trans ((lexL_skip he _ _ _ (Nat.le_refl _)).trans (e1 10 r _ _ (by decide) (Nat.le_refl _)))
  · have he : el (35 :: 10 :: r) = .skip 1 := rfl
    exact (lexL_skip he f a out hf).trans (e1 10 r _ _ (by decide) (Nat.le_refl _))
def cat : List (List UInt8 × Tk) → List UInt8
  | [] => []
  | x :: l => x.1 ++ (wr x.2 ++ cat l)
def redo : Nat → List (List UInt8 × Tk) → List Tk
  | _, [] => []
  | a, x :: l => { x.2 with at' := a + x.1.length } :: redo (a + x.1.length + (wr x.2).length) l
theorem gaps_c : ∀ g ∈ gaps, ∃ c r, g = c :: r ∧ c ∈ gapc := by
  intro g hg
  simp only [gaps, List.mem_cons, List.not_mem_nil, or_false] at hg
  rcases hg with rfl | rfl | rfl | rfl | rfl <;> exact ⟨_, _, rfl, by decide⟩
theorem back : ∀ (l : List (List UInt8 × Tk)) (a : Nat) (out : List Tk) (f : Nat) (g0 : List UInt8), (∀ x ∈ l, x.1 ∈ gaps ∧ Canon x.2) → g0 ∈ gaps → (cat l ++ g0).length ≤ f →
    lexL f (cat l ++ g0) a out = .ok (out ++ redo a l ++ [⟨0, [], 0, a + (cat l ++ g0).length⟩])
  | [], a, out, f, g0, _, hg, hf => by
    have := gap_skip [] g0 hg f a out (by simpa [cat] using hf)
    rw [List.append_nil] at this
    show lexL f g0 a out = _
    rw [this]
    show _ = Except.ok (out ++ [] ++ [⟨0, [], 0, a + g0.length⟩])
    rw [List.append_nil]; rfl
  | x :: l, a, out, f, g0, h, hg, hf => by
    obtain ⟨hx, hc⟩ := h x (by simp)
    have e : cat (x :: l) ++ g0 = x.1 ++ (wr x.2 ++ (cat l ++ g0)) := by
      show x.1 ++ (wr x.2 ++ cat l) ++ g0 = _
      simp
    obtain ⟨c, r, h1, h2⟩ : ∃ c r, cat l ++ g0 = c :: r ∧ c ∈ gapc := by
      cases l with
      | nil => exact gaps_c g0 hg
      | cons y l =>
        obtain ⟨c, r, e1, e2⟩ := gaps_c y.1 (h y (by simp)).1
        exact ⟨c, r ++ (wr y.2 ++ cat l) ++ g0, by show y.1 ++ _ ++ g0 = _; rw [e1]; simp, e2⟩
    rw [e] at hf ⊢
    rw [gap_skip _ x.1 hx f a out hf]
    have he := el_canon hc h2 r
    rw [← h1] at he
    rw [lexL_tok he _ _ _ (Nat.le_refl _), List.drop_left, back l _ _ _ g0 (fun y hy => h y (by simp [hy])) hg (Nat.le_refl _)]
    show _ = Except.ok (out ++ ({ x.2 with at' := a + x.1.length } :: redo _ l) ++ _)
    simp
    omega
/-- What is between, at a place. -/
def gp (bt : List UInt8) (i : Nat) : List UInt8 := if h : 0 < bt.length then gaps.getD ((bt[i % bt.length]'(Nat.mod_lt _ h)).toNat % 5) [] else [32]
end Lexp
