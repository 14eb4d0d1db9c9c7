/-
  PROVED HERE: contracts of functions (Dd). No condition beside each statement's own.
-/
import Derived.Test.YtlcnhahfgpnanaaGreatDoorDc
import Derived.Test.YtlcnhahfgpnanaaGreatDoorSxb
set_option linter.unusedVariables false
set_option linter.unusedSimpArgs false
namespace Go.Proofs.Lx
open Go AEv Go.Proofs Lexp
set_option maxRecDepth 100000
set_option maxHeartbeats 1000000

/-! ### Builder.WriteRune -/
theorem wru_c (m b B r : Nat) (h : AHeap) (w : List UInt8) (hb : BldX B b h w) (hl : w.length + 4 ≤ 1000000000) (hr : r ≤ 1114111) (hv : vld r = true) : ∃ k h', C (m + 4) (.fn 147) [.ptr b 0, .int .i32 (Int.ofNat r)] h = .ret (.tup [.int .i64 (Int.ofNat k), .nilI]) h' ∧ BldX B b h' (w ++ encP r) ∧ ExtX b B h h' := by
  obtain ⟨h1, v, c1, g1, b1, n1, o1⟩ := chk_b (m + 1) b B h w hb
  obtain ⟨_, _, _, _, _, hbB, hBn, _⟩ := hb
  obtain ⟨c, h2, a1, a2, a3⟩ := ar_c (m + 1) r B v w h1 (by omega) b1 hl hr hv
  obtain ⟨g2, hB, hE⟩ := bld_put hbB hBn g1 n1 o1 a3 a2 (by simp [(enc_lt r).2])
  have h4 := (enc_lt r).1
  refine ⟨(encP r).length, _, ?_, hB, hE⟩
  have fin : ∀ {k : Nat}, RunF Tryz.prog Tryz.f147 none (C (m + 3)) [] ⟨[(0, .ptr b 0), (1, .int .i32 (Int.ofNat r))], [], .none, h⟩ .ret ⟨[(4, .int .i64 (Int.ofNat k)), (5, .nilI)], [], .none, h2.set b (some (.cells [.ptr b 0, .slice c 0 (w.length + (encP r).length) (.opn 1)] 76 .own 0 0))⟩ → C (m + 4) (.fn 147) [.ptr b 0, .int .i32 (Int.ofNat r)] h = .ret (.tup [.int .i64 (Int.ofNat k), .nilI]) (h2.set b (some (.cells [.ptr b 0, .slice c 0 (w.length + (encP r).length) (.opn 1)] 76 .own 0 0))) := fun hr =>
    fn_runF (intr := Il) (n := m + 3) (args := [.ptr b 0, .int .i32 (Int.ofNat r)]) Tryz.func147 (by kernel_rfl) rfl (by kernel_rfl) hr (.inl rfl) (by kernel_rfl)
  have st : AEv.storeCells h2 b (0 + 1) [.slice c 0 (w.length + (encP r).length) (.opn 1)] = some (h2.set b (some (.cells [.ptr b 0, .slice c 0 (w.length + (encP r).length) (.opn 1)] 76 .own 0 0))) := stc g2 rfl rfl
  have ld : load1 (h2.set b (some (.cells [.ptr b 0, .slice c 0 (w.length + (encP r).length) (.opn 1)] 76 .own 0 0))) b (0 + 1) = some (.slice c 0 (w.length + (encP r).length) (.opn 1)) := ld1 (gsame rfl) rfl
  rcases b1 with ⟨rfl, rfl⟩ | ⟨c2, rest, rfl, _⟩
  · have sb : arith BinOp.sub IntKind.i64 (Int.ofNat (([] : List UInt8).length + (encP r).length)) (Int.ofNat 0) = some (.int .i64 (Int.ofNat (encP r).length)) := by
      have := sub_n (i := ([] : List UInt8).length + (encP r).length) (j := 0) (by omega) (by simp; omega)
      rw [this]; simp
    exact fin (bwrn (C (m + 3)) b c _ r h h2 h1 _ _ _ _ _ _ c1 (ld1 g1 rfl) a1 st ld sb)
  · have sb : arith BinOp.sub IntKind.i64 (Int.ofNat (w.length + (encP r).length)) (Int.ofNat w.length) = some (.int .i64 (Int.ofNat (encP r).length)) := by
      have := sub_n (i := w.length + (encP r).length) (j := w.length) (by omega) (by omega)
      rw [this, Nat.add_sub_cancel_left]
    exact fin (bwrs (C (m + 3)) b c _ c2 _ r h h2 h1 _ _ _ _ _ _ c1 (ld1 g1 rfl) a1 st ld sb)
/-! ### strings.IndexRune, of an escaped sign -/
theorem next_nil {h : AHeap} {it pos : Nat} (hg : h.get it = some (.strIter [] pos)) : nextA h (.ptr it 0) true = some (.tup [.bool false], h) := by simp only [nextA, hg]
theorem next_cons {h : AHeap} {it pos : Nat} {b : UInt8} {t : List UInt8} (hg : h.get it = some (.strIter (b :: t) pos)) : nextA h (.ptr it 0) true = some (.tup [.bool true, .int .i64 (Int.ofNat pos), .int .i32 (Int.ofNat (decP (b :: t)).1)], h.set it (some (.strIter ((b :: t).drop (decP (b :: t)).2) (pos + (decP (b :: t)).2)))) := by
  simp only [nextA, hg, decode_P, dropN_eq]
theorem vr_c (m r : Nat) (h : AHeap) (hv : vld r = true) : C (m + 1) (.fn 176) [.int .i32 (Int.ofNat r)] h = .ret (.bool true) h := by
  have hvi := (valid_iff r).1 hv
  by_cases h1 : r < 55296
  · exact fn_runF (intr := Il) (n := m) (args := [.int .i32 (Int.ofNat r)]) Tryz.func176 (by kernel_rfl) rfl (by kernel_rfl) (vru_1 (C m) r h (lt_t h1)) (.inl rfl) (by kernel_rfl)
  · exact fn_runF (intr := Il) (n := m) (args := [.int .i32 (Int.ofNat r)]) Tryz.func176 (by kernel_rfl) rfl (by kernel_rfl) (vru_2 (C m) r h (lt_f h1) (lt_t (by omega)) (le_t (by omega))) (.inl rfl) (by kernel_rfl)
theorem enc_eq {r : Nat} (hv : vld r = true) : (Utf8.encode (Int.ofNat r)).data.toList = encP r := by
  have hv' : Utf8.valid (Int.ofNat r) = true := hv
  have e : (if Utf8.valid (Int.ofNat r) = true then (Int.ofNat r).toNat else Utf8.runeError) = r := by rw [if_pos hv']; rfl
  unfold Utf8.encode
  rw [e]
  unfold encP
  by_cases h1 : r < 128
  · simp only [if_pos h1]
  · by_cases h2 : r < 2048
    · simp only [if_neg h1, if_pos h2]
    · by_cases h3 : r < 65536
      · simp only [if_neg h1, if_neg h2, if_pos h3]
      · simp only [if_neg h1, if_neg h2, if_neg h3]
def escK (r : Nat) : Int := if r = 34 then 0 else if r = 92 then 1 else if r = 110 then 2 else -1
theorem idx_esc (r : Nat) : idxByte r [34, 92, 110] 0 = escK r := by
  have beq (a : Nat) : Nat.beq a r = decide (r = a) := by
    cases hx : Nat.beq a r with
    | true => simp [Nat.eq_of_beq_eq_true hx]
    | false =>
      have : ¬ r = a := fun e => by subst e; rw [Nat.beq_refl] at hx; cases hx
      simp [this]
  have e1 : (34 : UInt8).toNat = 34 := rfl
  have e2 : (92 : UInt8).toNat = 92 := rfl
  have e3 : (110 : UInt8).toNat = 110 := rfl
  simp only [idxByte, e1, e2, e3, beq, escK]
  by_cases h1 : r = 34
  · simp [h1]
  · by_cases h2 : r = 92
    · simp [h2]
    · by_cases h3 : r = 110
      · simp [h3]
      · simp [h1, h2, h3]
theorem ixr_c (m r : Nat) (h : AHeap) (hr : r ≤ 1114111) (hv : vld r = true) : ∃ h', C (m + 4) (.fn 146) [.str [34, 92, 110], .int .i32 (Int.ofNat r)] h = .ret (.int .i64 (escK r)) h' ∧ Ext h.n h h' := by
  have fin : ∀ {h' : AHeap} {x : Int}, RunF Tryz.prog Tryz.f146 none (C (m + 3)) [] ⟨[(0, .str [34, 92, 110]), (1, .int .i32 (Int.ofNat r))], [], .none, h⟩ .ret ⟨[(4, .int .i64 x)], [], .none, h'⟩ → C (m + 4) (.fn 146) [.str [34, 92, 110], .int .i32 (Int.ofNat r)] h = .ret (.int .i64 x) h' := fun hr =>
    fn_runF (intr := Il) (n := m + 3) (args := [.str [34, 92, 110], .int .i32 (Int.ofNat r)]) Tryz.func146 (by kernel_rfl) rfl (by kernel_rfl) hr (.inl rfl) (by kernel_rfl)
  by_cases h1 : r < 128
  · have := ib_c m [34, 92, 110] (r % 256) h (by omega)
    rw [Nat.mod_eq_of_lt (show r < 256 by omega), idx_esc] at this
    have cv := cv_i32_u8 (P := Tryz.prog) (n := r) (h := h) i32t u8t
    rw [Nat.mod_eq_of_lt (show r < 256 by omega)] at cv
    exact ⟨h, fin (ixa (C (m + 3)) [34, 92, 110] r r _ h h (lt_t h1) cv this), Ext.refl _ _⟩
  have ek : escK r = -1 := by unfold escK; rw [if_neg (by omega), if_neg (by omega), if_neg (by omega)]
  rw [ek]
  by_cases h2 : r = 65533
  · subst h2
    obtain ⟨H, hH⟩ : ∃ H, H = h.push (.strIter [34, 92, 110] 0) := ⟨_, rfl⟩
    have g0 : H.get h.n = some (.strIter [34, 92, 110] 0) := by rw [hH]; exact gtop rfl
    have d1 : decP [34, 92, 110] = (34, 1) := by decide
    have d2 : decP [92, 110] = (92, 1) := by decide
    have d3 : decP [110] = (110, 1) := by decide
    have n1 := next_cons g0
    have n2 := next_cons (h := H.set h.n (some (.strIter [92, 110] 1))) (it := h.n) (pos := 1) (b := 92) (t := [110]) (gsame rfl)
    have n3 := next_cons (h := (H.set h.n (some (.strIter [92, 110] 1))).set h.n (some (.strIter [110] 2))) (it := h.n) (pos := 2) (b := 110) (t := []) (gsame rfl)
    have n4 := next_nil (h := ((H.set h.n (some (.strIter [92, 110] 1))).set h.n (some (.strIter [110] 2))).set h.n (some (.strIter [] 3))) (it := h.n) (pos := 3) (gsame rfl)
    rw [d1] at n1; rw [d2] at n2; rw [d3] at n3
    have s1 := ixel (C (m + 3)) [] h.n 0 34 H _ n1 (eqI_f (by decide))
    have s2 := ixel (C (m + 3)) [] h.n 1 92 _ _ n2 (eqI_f (by decide))
    have s3 := ixel (C (m + 3)) [] h.n 2 110 _ _ n3 (eqI_f (by decide))
    have s4 := ixex (C (m + 3)) [] h.n _ _ n4
    have lp := LoopF.run (p := [1, 0, 1, 1, 1, 0, 0, 1, 0]) (by kernel_rfl) (LoopF.step s1 (LoopF.step s2 (LoopF.step s3 (LoopF.exit (n := 0) s4 (by simp))))) (by omega)
    rw [hH] at lp
    exact ⟨_, fin (ixe (C (m + 3)) [34, 92, 110] 65533 h _ (lt_f (by omega)) (eqI_t rfl) (RunP.pre (RunP.post (Γ2 := []) lp trivial) ⟨rfl, trivial⟩ rfl rfl rfl)), exA⟩
  · have hsc : ∀ {g : AHeap}, RunF Tryz.prog Tryz.f146 none (C (m + 3)) [1, 0, 1, 1, 1, 1, 1, 1] ⟨[(0, .str [34, 92, 110]), (1, .int .i32 (Int.ofNat r)), (183, .bool false)], [], .none, h⟩ .ret ⟨[(4, .int .i64 (-1))], [], .none, g⟩ → RunF Tryz.prog Tryz.f146 none (C (m + 3)) [] ⟨[(0, .str [34, 92, 110]), (1, .int .i32 (Int.ofNat r))], [], .none, h⟩ .ret ⟨[(4, .int .i64 (-1))], [], .none, g⟩ := fun {g} hx => by
      have p1 := ixP1 (C (m + 3)) [34, 92, 110] r h
      rw [lt_f (show ¬ r < 128 from h1)] at p1
      have p2 := ixP2 (C (m + 3)) [34, 92, 110] r h
      rw [eqI_f h2] at p2
      have p3 := ixP3 (C (m + 3)) [34, 92, 110] r h h (vr_c (m + 2) r h hv)
      have c3 := RunF.cond (p := [1, 0, 1, 1, 1, 1, 1]) (t := 183) (x := false) (by kernel_rfl) (by kernel_rfl) rfl hx
      have q3 := RunF.seq (p := [1, 0, 1, 1, 1, 1]) (by kernel_rfl) p3 c3
      have c2 := RunF.cond (p := [1, 0, 1, 1, 1]) (t := 171) (x := false) (by kernel_rfl) (by kernel_rfl) rfl (RunP.pre (st1 := ⟨[(0, .str [34, 92, 110]), (1, .int .i32 (Int.ofNat r)), (171, .bool false)], [], .none, h⟩) q3 ⟨rfl, rfl, trivial⟩ rfl rfl rfl)
      have q2 := RunF.seq (p := [1, 0, 1, 1]) (by kernel_rfl) p2 c2
      have c1 := RunF.cond (p := [1, 0, 1]) (t := 160) (x := false) (by kernel_rfl) (by kernel_rfl) rfl (RunP.pre (st1 := ⟨[(0, .str [34, 92, 110]), (1, .int .i32 (Int.ofNat r)), (160, .bool false)], [], .none, h⟩) q2 ⟨rfl, rfl, trivial⟩ rfl rfl rfl)
      have q1 := RunF.seq (p := [1, 0]) (by kernel_rfl) p1 c1
      exact RunF.seq (p := []) (by kernel_rfl) (ixP0 (C (m + 3)) [34, 92, 110] r h) (RunF.blockx (p := [1]) (id := 0) (by kernel_rfl) q1 (by simp))
    have cvs : ∀ l, encP r = l → evConvert Tryz.prog 21 9 (.int .i32 (Int.ofNat r)) h = .val (.str l) h := fun l e => by
      rw [conv_rune i32t strt, enc_eq hv, e]
    have ib : ∀ (l : List UInt8) (x : Nat), x < 256 → (∀ b ∈ l, b.toNat < 128) → 128 ≤ x → ∀ g, C (m + 3) (.fn 175) [.str l, .int .u8 (Int.ofNat x)] g = .ret (.int .i64 (-1)) g := fun l x hx hl h128 g => by
      have := ib_c m l x g hx
      have e : ∀ (l : List UInt8) (i : Nat), (∀ b ∈ l, b.toNat < 128) → idxByte x l i = -1 := by
        intro l
        induction l with
        | nil => intro i _; rfl
        | cons b l ih =>
          intro i hl
          have hb : Nat.beq b.toNat x = false := by
            cases hq : Nat.beq b.toNat x with
            | false => rfl
            | true => have := Nat.eq_of_beq_eq_true hq; have := hl b (by simp); omega
          simp only [idxByte, hb]
          exact ih (i + 1) fun c hc => hl c (by simp [hc])
      rw [e l 0 hl] at this
      exact this
    have neq : ∀ (x y : Nat), x ≠ y → (!eqI (Int.ofNat x) (Int.ofNat y)) = true := fun x y hxy => by rw [eqI_f hxy]; rfl
    have join : ∀ {t : List UInt8} {k : Nat} {g : AHeap}, RunF Tryz.prog Tryz.f146 none (C (m + 3)) [1, 0, 1, 1, 1, 1, 1, 1, 0, 0] ⟨[(0, .str [34, 92, 110]), (1, .int .i32 (Int.ofNat r))], [], .none, h⟩ .nrm ⟨[(0, .str [34, 92, 110]), (7, .str t)], [], .none, h⟩ →
        RunF Tryz.prog Tryz.f146 none (C (m + 3)) [1, 0, 1, 1, 1, 1, 1, 1, 0, 1, 0] ⟨[(0, .str [34, 92, 110]), (7, .str t)], [], .none, h⟩ .nrm ⟨[(0, .str [34, 92, 110]), (7, .str t), (8, .int .i64 (Int.ofNat k))], [], .none, h⟩ →
        RunF Tryz.prog Tryz.f146 none (C (m + 3)) [1, 0, 1, 1, 1, 1, 1, 1, 0, 1, 1, 1, 1] ⟨[(0, .str [34, 92, 110]), (7, .str t), (8, .int .i64 (Int.ofNat k)), (9, .int .i64 (Int.ofNat k)), (10, .int .i64 (Int.ofNat 0))], [], .none, h⟩ .ret ⟨[(4, .int .i64 (-1))], [], .none, g⟩ →
        RunF Tryz.prog Tryz.f146 none (C (m + 3)) [] ⟨[(0, .str [34, 92, 110]), (1, .int .i32 (Int.ofNat r))], [], .none, h⟩ .ret ⟨[(4, .int .i64 (-1))], [], .none, g⟩ := fun {t k g} a b c => by
      refine hsc (RunF.scope (p := [1, 0, 1, 1, 1, 1, 1, 1]) (by kernel_rfl) (RunF.seq (p := [1, 0, 1, 1, 1, 1, 1, 1, 0]) (by kernel_rfl) (RunP.pre a ⟨rfl, rfl, trivial⟩ rfl rfl rfl) ?_))
      exact RunF.seq (p := [1, 0, 1, 1, 1, 1, 1, 1, 0, 1]) (by kernel_rfl) b (RunF.seq (p := [1, 0, 1, 1, 1, 1, 1, 1, 0, 1, 1]) (by kernel_rfl) (ixE (C (m + 3)) [34, 92, 110] t k h) (RunF.seq (p := [1, 0, 1, 1, 1, 1, 1, 1, 0, 1, 1, 1]) (by kernel_rfl) (ixF (C (m + 3)) [34, 92, 110] t k h) c))
    have lpr : ∀ {t : List UInt8} {k : Nat} {g : AHeap} {Γ : Env}, RunF Tryz.prog Tryz.f146 none (C (m + 3)) [1, 0, 1, 1, 1, 1, 1, 1, 0, 1, 1, 1, 1, 0, 0, 0] ⟨[(0, .str [34, 92, 110]), (7, .str t), (8, .int .i64 (Int.ofNat k)), (9, .int .i64 (Int.ofNat k)), (10, .int .i64 (Int.ofNat 0))], [], .none, h⟩ .ret ⟨Γ, [], .none, g⟩ → lk 4 Γ = some (.int .i64 (-1)) →
        RunF Tryz.prog Tryz.f146 none (C (m + 3)) [1, 0, 1, 1, 1, 1, 1, 1, 0, 1, 1, 1, 1] ⟨[(0, .str [34, 92, 110]), (7, .str t), (8, .int .i64 (Int.ofNat k)), (9, .int .i64 (Int.ofNat k)), (10, .int .i64 (Int.ofNat 0))], [], .none, h⟩ .ret ⟨[(4, .int .i64 (-1))], [], .none, g⟩ := fun {t k g Γ} hx hl =>
      RunP.post (RunF.seqx (p := [1, 0, 1, 1, 1, 1, 1, 1, 0, 1, 1, 1, 1]) (by kernel_rfl) (RunF.blockx (p := [1, 0, 1, 1, 1, 1, 1, 1, 0, 1, 1, 1, 1, 0]) (id := 1) (by kernel_rfl) (LoopF.run (p := [1, 0, 1, 1, 1, 1, 1, 1, 0, 1, 1, 1, 1, 0, 0]) (by kernel_rfl) (LoopF.exit (n := 0) hx (by simp)) (by omega)) (by simp)) (by simp)) ⟨hl, trivial⟩
    have r1 : 128 ≤ r := by omega
    by_cases h3 : r < 2048
    · have e : encP r = [UInt8.ofNat (192 + r / 64), UInt8.ofNat (128 + r % 64)] := by unfold encP; rw [if_neg h1, if_pos h3]
      have e2 : (UInt8.ofNat (128 + r % 64)).toNat = 128 + r % 64 := of_u8 (by omega)
      have c2 := ixC2 (C (m + 3)) 0 (UInt8.ofNat (192 + r / 64)) (UInt8.ofNat (128 + r % 64)) h _ 92 _ [110] rfl (idx1 _ _ _) (neq _ _ (by rw [e2]; omega)) (sl_from (s := [34, 92, 110]) (k := 2) (by decide)) (ib _ _ (u8lt _) (by decide) (by rw [e2]; omega) _)
      exact ⟨_, fin (join (ixA2 (C (m + 3)) r _ _ h (cvs _ e)) (ixB2 (C (m + 3)) r _ _ h) (lpr c2 rfl)), exA⟩
    · by_cases h4 : r < 65536
      · have e : encP r = [UInt8.ofNat (224 + r / 4096), UInt8.ofNat (128 + r / 64 % 64), UInt8.ofNat (128 + r % 64)] := by unfold encP; rw [if_neg h1, if_neg h3, if_pos h4]
        have e2 : (UInt8.ofNat (128 + r % 64)).toNat = 128 + r % 64 := of_u8 (by omega)
        have c2 := ixC3 (C (m + 3)) 0 (UInt8.ofNat (224 + r / 4096)) (UInt8.ofNat (128 + r / 64 % 64)) (UInt8.ofNat (128 + r % 64)) h _ 110 _ [] rfl (idx2 _ _ _ _) (neq _ _ (by rw [e2]; omega)) (sl_from (s := [34, 92, 110]) (k := 3) (by decide)) (ib _ _ (u8lt _) (by simp) (by rw [e2]; omega) _)
        exact ⟨_, fin (join (ixA3 (C (m + 3)) r _ _ _ h (cvs _ e)) (ixB3 (C (m + 3)) r _ _ _ h) (lpr c2 rfl)), exA⟩
      · have e : encP r = [UInt8.ofNat (240 + r / 262144), UInt8.ofNat (128 + r / 4096 % 64), UInt8.ofNat (128 + r / 64 % 64), UInt8.ofNat (128 + r % 64)] := by unfold encP; rw [if_neg h1, if_neg h3, if_neg h4]
        have c4 := ixC4 (C (m + 3)) 0 (UInt8.ofNat (240 + r / 262144)) (UInt8.ofNat (128 + r / 4096 % 64)) (UInt8.ofNat (128 + r / 64 % 64)) (UInt8.ofNat (128 + r % 64)) h h
        have lp := RunF.block (p := [1, 0, 1, 1, 1, 1, 1, 1, 0, 1, 1, 1, 1, 0]) (id := 1) (by kernel_rfl) (LoopF.run (p := [1, 0, 1, 1, 1, 1, 1, 1, 0, 1, 1, 1, 1, 0, 0]) (by kernel_rfl) (LoopF.exit (n := 0) c4 (by simp)) (by omega))
        exact ⟨_, fin (join (ixA4 (C (m + 3)) r _ _ _ _ h (cvs _ e)) (ixB4 (C (m + 3)) r _ _ _ _ h) (RunF.seq (p := [1, 0, 1, 1, 1, 1, 1, 1, 0, 1, 1, 1, 1]) (by kernel_rfl) (RunP.post (Γ2 := []) lp trivial) (ixD (C (m + 3)) h))), Ext.refl _ _⟩
end Go.Proofs.Lx

namespace Go.Proofs.Lx
open Go AEv Go.Proofs Lexp
set_option maxRecDepth 100000
set_option maxHeartbeats 1000000

/-! ### letters, digits, rows of them -/
theorem eqI_beq (a b : Nat) : eqI (Int.ofNat a) (Int.ofNat b) = (a == b) := by
  by_cases h : a = b
  · rw [eqI_t h, h]; simp
  · rw [eqI_f h]; simp [h]
theorem nth_bytes : ∀ (l : List UInt8) (j : Nat) (h : j < l.length), nth j (byteCells l) = some (.int .u8 (Int.ofNat (l[j]).toNat))
  | [], j, h => by simp at h
  | b :: l, 0, h => rfl
  | b :: l, j + 1, h => by
    have := nth_bytes l j (by simpa using h)
    simpa [byteCells, nth] using this
theorem letter_c (m : Nat) (b : UInt8) (h : AHeap) : C (m + 1) (.fn 102) [.int .u8 (Int.ofNat b.toNat)] h = .ret (.bool (letterB b)) h := by
  have fin : ∀ {x : Bool}, RunF Tryz.prog Tryz.f102 none (C m) [] ⟨[(0, .int .u8 (Int.ofNat b.toNat))], [], .none, h⟩ .ret ⟨[(2, .bool x)], [], .none, h⟩ → C (m + 1) (.fn 102) [.int .u8 (Int.ofNat b.toNat)] h = .ret (.bool x) h := fun hr =>
    fn_runF (intr := Il) (n := m) (args := [.int .u8 (Int.ofNat b.toNat)]) Tryz.func102 (by kernel_rfl) rfl (by kernel_rfl) hr (.inl rfl) (by kernel_rfl)
  have e95 := eqI_beq b.toNat 95
  by_cases h1 : 97 ≤ b.toNat
  · by_cases h2 : b.toNat ≤ 122
    · have e : letterB b = true := by simp [letterB, h1, h2]
      rw [e]; exact fin (ltr_1 (C m) b.toNat h (le_t h1) (le_t h2))
    · have e : letterB b = (b.toNat == 95) := by
        have h3 : ¬ b.toNat ≤ 90 := by omega
        simp [letterB, h1, h2, h3]
      rw [e, ← e95]; exact fin (ltr_3 (C m) b.toNat h (le_t h1) (le_f h2) (le_t (by omega)) (le_f (by omega)))
  · by_cases h2 : 65 ≤ b.toNat
    · by_cases h3 : b.toNat ≤ 90
      · have e : letterB b = true := by simp [letterB, h1, h2, h3]
        rw [e]; exact fin (ltr_5 (C m) b.toNat h (le_f h1) (le_t h2) (le_t h3))
      · have e : letterB b = (b.toNat == 95) := by simp [letterB, h1, h3]
        rw [e, ← e95]; exact fin (ltr_6 (C m) b.toNat h (le_f h1) (le_t h2) (le_f h3))
    · have e : letterB b = (b.toNat == 95) := by simp [letterB, h1, h2]
      rw [e, ← e95]; exact fin (ltr_7 (C m) b.toNat h (le_f h1) (le_f h2))
theorem digit_c (m : Nat) (b : UInt8) (h : AHeap) : C (m + 1) (.fn 105) [.int .u8 (Int.ofNat b.toNat)] h = .ret (.bool (digitB b)) h := by
  have fin : ∀ {x : Bool}, RunF Tryz.prog Tryz.f105 none (C m) [] ⟨[(0, .int .u8 (Int.ofNat b.toNat))], [], .none, h⟩ .ret ⟨[(2, .bool x)], [], .none, h⟩ → C (m + 1) (.fn 105) [.int .u8 (Int.ofNat b.toNat)] h = .ret (.bool x) h := fun hr =>
    fn_runF (intr := Il) (n := m) (args := [.int .u8 (Int.ofNat b.toNat)]) Tryz.func105 (by kernel_rfl) rfl (by kernel_rfl) hr (.inl rfl) (by kernel_rfl)
  by_cases h1 : 48 ≤ b.toNat
  · have hr := dgt_1 (C m) b.toNat h (le_t h1)
    by_cases h2 : b.toNat ≤ 57
    · rw [le_t h2] at hr
      have e : digitB b = true := by simp [digitB, h1, h2]
      rw [e]; exact fin hr
    · rw [le_f h2] at hr
      have e : digitB b = false := by simp [digitB, h2]
      rw [e]; exact fin hr
  · have e : digitB b = false := by simp [digitB, h1]
    rw [e]; exact fin (dgt_2 (C m) b.toNat h (le_f h1))
def wordB (b : UInt8) : Bool := letterB b || digitB b
theorem word_c (m : Nat) (b : UInt8) (h : AHeap) : C (m + 2) (.fn 104) [.int .u8 (Int.ofNat b.toNat)] h = .ret (.bool (wordB b)) h := by
  have fin : ∀ {x : Bool}, RunF Tryz.prog Tryz.f104 none (C (m + 1)) [] ⟨[(0, .int .u8 (Int.ofNat b.toNat))], [], .none, h⟩ .ret ⟨[(2, .bool x)], [], .none, h⟩ → C (m + 2) (.fn 104) [.int .u8 (Int.ofNat b.toNat)] h = .ret (.bool x) h := fun hr =>
    fn_runF (intr := Il) (n := m + 1) (args := [.int .u8 (Int.ofNat b.toNat)]) Tryz.func104 (by kernel_rfl) rfl (by kernel_rfl) hr (.inl rfl) (by kernel_rfl)
  have c1 := letter_c m b h
  have c2 := digit_c m b h
  cases hl : letterB b with
  | true =>
    rw [hl] at c1
    have e : wordB b = true := by simp [wordB, hl]
    rw [e]; exact fin (tk1_1 (C (m + 1)) b.toNat h true h c1 rfl)
  | false =>
    rw [hl] at c1
    have e : wordB b = digitB b := by simp [wordB, hl]
    rw [e]; exact fin (tk1_2 (C (m + 1)) b.toNat h false h _ h c1 rfl c2)

/-- A lexer, at a place. -/
abbrev LxO (s : List UInt8) (a : Nat) (w sg o : AV) : AObj := .cells [.str s, .int .i64 (Int.ofNat a), w, sg, o] 131 .own 0 0
theorem tw_take (q : UInt8 → Bool) (l : List UInt8) : l.take (l.takeWhile q).length = l.takeWhile q :=
  (List.prefix_iff_eq_take.1 (List.takeWhile_prefix q)).symm
theorem rowA_lp (m p a : Nat) (s : List UInt8) (w sg o : AV) (h : AHeap) (hg : h.get p = some (LxO s a w sg o)) (hs : s.length ≤ 90000) : ∀ (k e : Nat), ((s.drop e).takeWhile digitB).length = k → e ≤ s.length →
    LoopF Tryz.prog Tryz.f103 none (C (m + 2)) [1, 1, 0, 0] (k + 1) ⟨[(0, .ptr p 0), (1, .fn 105 [] []), (5, .int .i64 (Int.ofNat e))], [], .none, h⟩ (.exit 0) ⟨[(0, .ptr p 0), (1, .fn 105 [] []), (5, .int .i64 (Int.ofNat (e + k)))], [], .none, h⟩
  | 0, e, hk, he => by
    by_cases hl : e < s.length
    · have hq : digitB s[e] = false := by
        cases hx : digitB s[e] with
        | false => rfl
        | true => rw [List.drop_eq_getElem_cons hl, List.takeWhile_cons, if_pos hx] at hk; simp at hk
      have c1 := digit_c (m + 1) s[e] h
      rw [hq] at c1
      exact .exit (rwlA_2 (C (m + 2)) p e h s _ false h (ld1 hg rfl) (lt_t hl) (idx_t hl) c1 rfl) (by simp)
    · exact .exit (rwlA_3 (C (m + 2)) p e h s (ld1 hg rfl) (lt_f hl)) (by simp)
  | k + 1, e, hk, he => by
    by_cases hl : e < s.length
    · cases hq : digitB s[e] with
      | false => rw [List.drop_eq_getElem_cons hl, List.takeWhile_cons, if_neg (by rw [hq]; simp)] at hk; simp at hk
      | true =>
        rw [List.drop_eq_getElem_cons hl, List.takeWhile_cons, if_pos hq] at hk
        have c1 := digit_c (m + 1) s[e] h
        rw [hq] at c1
        have ih := rowA_lp m p a s w sg o h hg hs k (e + 1) (by simpa using hk) (by omega)
        rw [show e + 1 + k = e + (k + 1) by omega] at ih
        exact .step (rwlA_1 (C (m + 2)) p e h s _ true h _ (ld1 hg rfl) (lt_t hl) (idx_t hl) c1 rfl (add_n (by omega))) ih
    · rw [List.drop_eq_nil_of_le (by omega)] at hk; simp at hk
theorem rowA_c (m p a : Nat) (s : List UInt8) (w sg o : AV) (h : AHeap) (hg : h.get p = some (LxO s a w sg o)) (hs : s.length ≤ 90000) (ha : a ≤ s.length) (hp : p < h.n) :
    ∃ h', C (m + 3) (.fn 103) [.ptr p 0, .fn 105 [] []] h = .ret (.str ((s.drop a).takeWhile digitB)) h' ∧ h'.get p = some (LxO s (a + ((s.drop a).takeWhile digitB).length) w sg o) ∧ ExtX p h.n h h' := by
  obtain ⟨k, hk⟩ : ∃ k, ((s.drop a).takeWhile digitB).length = k := ⟨_, rfl⟩
  have hle : k ≤ s.length - a := by
    have := (List.takeWhile_prefix (l := s.drop a) digitB).length_le
    rw [hk, List.length_drop] at this; exact this
  have lp := LoopF.run (p := [1, 1, 0, 0]) (by kernel_rfl) (rowA_lp m p a s w sg o h hg hs k a hk ha) (by omega)
  have hsl := slice_str (P := Tryz.prog) (h := h.room 11) (s := s) (lo := a) (hi := a + k) (k := .i64) (k' := .i64) strt (by omega) (by omega)
  rw [Nat.add_sub_cancel_left, ← hk, tw_take, hk] at hsl
  have hg' : (h.room 11).get p = some (LxO s a w sg o) := hg
  have hr := rw (C (m + 2)) p 105 (a + k) h h _ s _ _ _ (ld1 hg rfl) (RunP.pre (RunP.post lp ⟨rfl, rfl, trivial⟩) ⟨rfl, rfl, rfl, trivial⟩ rfl rfl rfl) (ld1 hg' rfl) (ld1 hg' rfl) hsl (stc hg' rfl rfl)
  rw [hk]
  refine ⟨_, fn_runF (intr := Il) (n := m + 2) (args := [.ptr p 0, .fn 105 [] []]) Tryz.func103 (by kernel_rfl) rfl (by kernel_rfl) hr (.inl rfl) (by kernel_rfl), gsame rfl, ⟨by simp, fun b hb hbp => gother hbp rfl⟩⟩
theorem rowB_lp (m p a : Nat) (s : List UInt8) (w sg o : AV) (h : AHeap) (hg : h.get p = some (LxO s a w sg o)) (hs : s.length ≤ 90000) : ∀ (k e : Nat), ((s.drop e).takeWhile wordB).length = k → e ≤ s.length →
    LoopF Tryz.prog Tryz.f103 none (C (m + 2)) [1, 1, 0, 0] (k + 1) ⟨[(0, .ptr p 0), (1, .fn 104 [] []), (5, .int .i64 (Int.ofNat e))], [], .none, h⟩ (.exit 0) ⟨[(0, .ptr p 0), (1, .fn 104 [] []), (5, .int .i64 (Int.ofNat (e + k)))], [], .none, h⟩
  | 0, e, hk, he => by
    by_cases hl : e < s.length
    · have hq : wordB s[e] = false := by
        cases hx : wordB s[e] with
        | false => rfl
        | true => rw [List.drop_eq_getElem_cons hl, List.takeWhile_cons, if_pos hx] at hk; simp at hk
      have c1 := word_c m s[e] h
      rw [hq] at c1
      exact .exit (rwlB_2 (C (m + 2)) p e h s _ false h (ld1 hg rfl) (lt_t hl) (idx_t hl) c1 rfl) (by simp)
    · exact .exit (rwlB_3 (C (m + 2)) p e h s (ld1 hg rfl) (lt_f hl)) (by simp)
  | k + 1, e, hk, he => by
    by_cases hl : e < s.length
    · cases hq : wordB s[e] with
      | false => rw [List.drop_eq_getElem_cons hl, List.takeWhile_cons, if_neg (by rw [hq]; simp)] at hk; simp at hk
      | true =>
        rw [List.drop_eq_getElem_cons hl, List.takeWhile_cons, if_pos hq] at hk
        have c1 := word_c m s[e] h
        rw [hq] at c1
        have ih := rowB_lp m p a s w sg o h hg hs k (e + 1) (by simpa using hk) (by omega)
        rw [show e + 1 + k = e + (k + 1) by omega] at ih
        exact .step (rwlB_1 (C (m + 2)) p e h s _ true h _ (ld1 hg rfl) (lt_t hl) (idx_t hl) c1 rfl (add_n (by omega))) ih
    · rw [List.drop_eq_nil_of_le (by omega)] at hk; simp at hk
theorem rowB_c (m p a : Nat) (s : List UInt8) (w sg o : AV) (h : AHeap) (hg : h.get p = some (LxO s a w sg o)) (hs : s.length ≤ 90000) (ha : a ≤ s.length) (hp : p < h.n) :
    ∃ h', C (m + 3) (.fn 103) [.ptr p 0, .fn 104 [] []] h = .ret (.str ((s.drop a).takeWhile wordB)) h' ∧ h'.get p = some (LxO s (a + ((s.drop a).takeWhile wordB).length) w sg o) ∧ ExtX p h.n h h' := by
  obtain ⟨k, hk⟩ : ∃ k, ((s.drop a).takeWhile wordB).length = k := ⟨_, rfl⟩
  have hle : k ≤ s.length - a := by
    have := (List.takeWhile_prefix (l := s.drop a) wordB).length_le
    rw [hk, List.length_drop] at this; exact this
  have lp := LoopF.run (p := [1, 1, 0, 0]) (by kernel_rfl) (rowB_lp m p a s w sg o h hg hs k a hk ha) (by omega)
  have hsl := slice_str (P := Tryz.prog) (h := h.room 11) (s := s) (lo := a) (hi := a + k) (k := .i64) (k' := .i64) strt (by omega) (by omega)
  rw [Nat.add_sub_cancel_left, ← hk, tw_take, hk] at hsl
  have hg' : (h.room 11).get p = some (LxO s a w sg o) := hg
  have hr := rw (C (m + 2)) p 104 (a + k) h h _ s _ _ _ (ld1 hg rfl) (RunP.pre (RunP.post lp ⟨rfl, rfl, trivial⟩) ⟨rfl, rfl, rfl, trivial⟩ rfl rfl rfl) (ld1 hg' rfl) (ld1 hg' rfl) hsl (stc hg' rfl rfl)
  rw [hk]
  refine ⟨_, fn_runF (intr := Il) (n := m + 2) (args := [.ptr p 0, .fn 104 [] []]) Tryz.func103 (by kernel_rfl) rfl (by kernel_rfl) hr (.inl rfl) (by kernel_rfl), gsame rfl, ⟨by simp, fun b hb hbp => gother hbp rfl⟩⟩
/-! ### giving up; lines; characters -/
abbrev FaultO (a : Nat) : AObj := .cells [.int .i64 (Int.ofNat 10), .int .i64 (Int.ofNat a)] 26 .own 0 0
def PanV (v : AV) (a : Nat) (h h' : AHeap) : Prop := ∃ e, v = .iface 93 (.ptr e 0) ∧ h'.get e = some (FaultO a) ∧ h.n ≤ e ∧ e < h'.n
theorem wrong_c (m a : Nat) (h : AHeap) : C (m + 1) (.fn 106) [.int .i64 (Int.ofNat a)] h = .pan (.iface 93 (.ptr h.n 0)) (h.push (FaultO a)) :=
  fn_panF (intr := Il) (n := m) (args := [.int .i64 (Int.ofNat a)]) Tryz.func106 (by kernel_rfl) rfl (by kernel_rfl) (wrg (C m) a h)
theorem wrong_v {a : Nat} {h0 h : AHeap} (hn : h0.n ≤ h.n) : PanV (.iface 93 (.ptr h.n 0)) a h0 (h.push (FaultO a)) := ⟨h.n, rfl, gtop rfl, hn, by simp⟩
theorem line_c (m p a : Nat) (s : List UInt8) (w sg o : AV) (h : AHeap) (hg : h.get p = some (LxO s a w sg o)) (hs : s.length ≤ 90000) (ha : a ≤ s.length) :
    ∃ h', C (m + 6) (.fn 100) [.ptr p 0] h = .ret (.str (line (s.drop a))) h' ∧ Ext h.n h h' := by
  have hg' : (h.room 17).get p = some (LxO s a w sg o) := hg
  obtain ⟨r, b, g, c1, x1⟩ := scut_c m (s.drop a) (h.room 17) (by rw [List.length_drop]; omega)
  exact ⟨g, fn_runF (intr := Il) (n := m + 5) (args := [.ptr p 0]) Tryz.func100 (by kernel_rfl) rfl (by kernel_rfl) (lin (C (m + 5)) p h s a _ _ _ _ _ (ld1 hg' rfl) (ld1 hg' rfl) (sl_from ha) c1) (.inl rfl) (by kernel_rfl), (Ext.room h.n h 17).trans (by simp) x1⟩
/-- A character of a source: it is one, or the lexer gives up. -/
theorem char_c (m p a at' : Nat) (s : List UInt8) (w sg o : AV) (h : AHeap) (ht : tabsIn h tabs = true) (hg : h.get p = some (LxO s a w sg o)) (hs : s.length ≤ 90000) (ha : at' < s.length) :
    (chr (s.drop at') ≠ 0 → ∃ h', C (m + 3) (.fn 101) [.ptr p 0, .int .i64 (Int.ofNat at'), .int .i32 (Int.ofNat (decP (s.drop at')).1)] h = .ret (.tup []) h' ∧ Ext h.n h h') ∧
    (chr (s.drop at') = 0 → ∃ v h', C (m + 3) (.fn 101) [.ptr p 0, .int .i64 (Int.ofNat at'), .int .i32 (Int.ofNat (decP (s.drop at')).1)] h = .pan v h' ∧ PanV v at' h h' ∧ Ext h.n h h') := by
  have hd := List.drop_eq_getElem_cons ha
  obtain ⟨g, c1, x1⟩ := rune_c m s[at'] (s.drop (at' + 1)) h ht
  rw [← hd] at c1
  have sl := sl_from (h := h) (s := s) (k := at') (by omega)
  have ld : load1 h p (0 + 0) = some (.str s) := ld1 hg rfl
  refine ⟨fun hc => ?_, fun hc => ?_⟩
  · by_cases e1 : (decP (s.drop at')).1 = 65533
    · have e2 : ¬ (decP (s.drop at')).2 = 1 := by
        rcases chr_is (s.drop at') with ⟨h1, _⟩ | ⟨h1, b, t, h2, h3, h4⟩ | ⟨h1, c, h2, _⟩
        · exact absurd h1 hc
        · rw [h4] at e1; simp only at e1; omega
        · rw [h2]; simp only; omega
      exact ⟨g, fn_runF (intr := Il) (n := m + 2) (args := [.ptr p 0, .int .i64 (Int.ofNat at'), .int .i32 (Int.ofNat (decP (s.drop at')).1)]) Tryz.func101 (by kernel_rfl) rfl (by kernel_rfl) (cha_2 (C (m + 2)) p at' _ 0 0 h h s _ _ _ g ld sl c1 (eqI_t e1) (eqI_f e2)) (.inr rfl) (by kernel_rfl), x1⟩
    · exact ⟨g, fn_runF (intr := Il) (n := m + 2) (args := [.ptr p 0, .int .i64 (Int.ofNat at'), .int .i32 (Int.ofNat (decP (s.drop at')).1)]) Tryz.func101 (by kernel_rfl) rfl (by kernel_rfl) (cha_3 (C (m + 2)) p at' _ 0 0 h h s _ _ _ g ld sl c1 (eqI_f e1)) (.inr rfl) (by kernel_rfl), x1⟩
  · have e := dec0 hc
    have cw := wrong_c (m + 1) at' g
    rw [e] at c1 ⊢
    exact ⟨_, _, fn_panF (intr := Il) (n := m + 2) (args := [.ptr p 0, .int .i64 (Int.ofNat at'), .int .i32 (Int.ofNat 65533)]) Tryz.func101 (by kernel_rfl) rfl (by kernel_rfl) (cha_1 (C (m + 2)) p at' 65533 0 0 h h s _ _ _ g _ _ ld sl c1 (eqI_t rfl) (eqI_t rfl) cw), wrong_v x1.n, x1.trans x1.n (Ext.push (Nat.le_refl _) _)⟩

/-! ### numbers -/
theorem sub_u8 {i j : Nat} (hj : j ≤ i) (hi : i < 256) : arith BinOp.sub IntKind.u8 (Int.ofNat i) (Int.ofNat j) = some (AV.int IntKind.u8 (Int.ofNat (i - j))) := by
  have h := wrap_u8 (i - j)
  rw [Nat.mod_eq_of_lt (show i - j < 256 by omega)] at h
  have e : Int.ofNat i - Int.ofNat j = ((i - j : Nat) : Int) := by
    have e1 : Int.ofNat i = (i : Int) := rfl
    have e2 : Int.ofNat j = (j : Int) := rfl
    rw [e1, e2]; omega
  simp only [arith, e, h]; rfl
theorem i64b : Tryz.prog.underlying 2 = some (.int .i64) := by kernel_rfl
theorem num_lp (m p a b : Nat) (w : List UInt8) (h : AHeap) (hg : h.get b = some (.cells (byteCells w) 5 .opn 0 0)) (hw : w.length ≤ 90000) (hd : ∀ x ∈ w, digitB x = true) : ∀ (k i n : Nat), w.length - i = k → i ≤ w.length → n ≤ 9223372036854775807 →
    (∀ v, numV (w.drop i) n = some v → LoopF Tryz.prog Tryz.f107 none (C (m + 1)) [1, 1, 0, 1, 0] (k + 1) ⟨[(0, .ptr p 0), (3, .int .i64 (Int.ofNat a)), (4, .int .i64 (Int.ofNat n)), (14, .slice b 0 w.length (.opn 1)), (15, .int .i64 (Int.ofNat w.length)), (16, .int .i64 (Int.ofNat i))], [], .none, h⟩ (.exit 0) ⟨[(4, .int .i64 (Int.ofNat v))], [], .none, h⟩) ∧
    (numV (w.drop i) n = none → LoopF Tryz.prog Tryz.f107 none (C (m + 1)) [1, 1, 0, 1, 0] (k + 1) ⟨[(0, .ptr p 0), (3, .int .i64 (Int.ofNat a)), (4, .int .i64 (Int.ofNat n)), (14, .slice b 0 w.length (.opn 1)), (15, .int .i64 (Int.ofNat w.length)), (16, .int .i64 (Int.ofNat i))], [], .none, h⟩ (.pan (.iface 93 (.ptr h.n 0))) ⟨[], [], .none, h.push (FaultO a)⟩)
  | 0, i, n, hk, hi, hn => by
    obtain rfl : i = w.length := by omega
    rw [List.drop_length]
    refine ⟨fun v hv => ?_, fun hv => by cases hv⟩
    cases hv
    exact .exit (RunP.post (nml_3 (C (m + 1)) p a n b w.length w.length 0 (.opn 1) h (lt_f (by omega))) ⟨rfl, trivial⟩) (by simp)
  | k + 1, i, n, hk, hi, hn => by
    have hl : i < w.length := by omega
    rw [List.drop_eq_getElem_cons hl]
    have hdi := hd w[i] (List.getElem_mem hl)
    simp only [digitB, Bool.and_eq_true, decide_eq_true_eq] at hdi
    have ld : load1 h b (0 + i * 1) = some (.int .u8 (Int.ofNat (w[i]).toNat)) := ld1 hg (by
      have e : 0 + i * 1 = i := by omega
      rw [e]; exact nth_bytes w i hl)
    have s1 := sub_u8 (i := w[i].toNat) (j := 48) hdi.1 (by omega)
    have cv : evConvert Tryz.prog 5 2 (.int .u8 (Int.ofNat (w[i].toNat - 48))) h = .val (.int .i64 (Int.ofNat (w[i].toNat - 48))) h := cv_u8_i64 u8t i64b (by omega)
    have s2 := sub_n (i := 9223372036854775807) (j := w[i].toNat - 48) (by omega) (by omega)
    have s3 := quo_n (i := 9223372036854775807 - (w[i].toNat - 48)) (j := 10) (by omega) (by omega)
    by_cases hgt : n > (9223372036854775807 - (w[i].toNat - 48)) / 10
    · have e : numV (w[i] :: w.drop (i + 1)) n = none := by simp only [numV]; rw [if_pos hgt]
      rw [e]
      refine ⟨fun v hv => (by cases hv), fun _ => ?_⟩
      exact .exit (RunP.post (nml_1 (C (m + 1)) p a n b w.length i 0 (.opn 1) h _ _ _ _ _ _ _ (lt_t hl) hl ld s1 cv s2 s3 (lt_t hgt) (wrong_c m a h)) trivial) (by simp)
    · have e : numV (w[i] :: w.drop (i + 1)) n = numV (w.drop (i + 1)) (10 * n + (w[i].toNat - 48)) := by
        conv => lhs; unfold numV
        simp only [if_neg hgt]
      rw [e]
      have s4 := mul_n (i := 10) (j := n) (by omega)
      have s5 := add_n (i := 10 * n) (j := w[i].toNat - 48) (by omega)
      have st := nml_2 (C (m + 1)) p a n b w.length i 0 (.opn 1) h _ _ _ _ _ _ _ _ (lt_t hl) hl ld s1 cv s2 s3 (lt_f (by omega)) s4 s5 (add_n (i := i) (j := 1) (by omega))
      obtain ⟨i1, i2⟩ := num_lp m p a b w h hg hw hd k (i + 1) (10 * n + (w[i].toNat - 48)) (by omega) (by omega) (by omega)
      exact ⟨fun v hv => .step st (i1 v hv), fun hv => .step st (i2 hv)⟩
theorem number_c (m p a : Nat) (s : List UInt8) (w sg o : AV) (h : AHeap) (hg : h.get p = some (LxO s a w sg o)) (hs : s.length ≤ 90000) (ha : a ≤ s.length) (hp : p < h.n) :
    (∀ v, numV ((s.drop a).takeWhile digitB) 0 = some v → ∃ h', C (m + 4) (.fn 107) [.ptr p 0] h = .ret (.int .i64 (Int.ofNat v)) h' ∧ h'.get p = some (LxO s (a + ((s.drop a).takeWhile digitB).length) w sg o) ∧ ExtX p h.n h h') ∧
    (numV ((s.drop a).takeWhile digitB) 0 = none → ∃ v h', C (m + 4) (.fn 107) [.ptr p 0] h = .pan v h' ∧ PanV v a h h' ∧ ExtX p h.n h h') := by
  obtain ⟨g, c1, g1, x1⟩ := rowA_c m p a s w sg o h hg hs ha hp
  obtain ⟨W, hW⟩ : ∃ W, (s.drop a).takeWhile digitB = W := ⟨_, rfl⟩
  rw [hW] at c1 g1 ⊢
  have hWl : W.length ≤ 90000 := by
    have := (List.takeWhile_prefix (l := s.drop a) digitB).length_le
    rw [hW, List.length_drop] at this; omega
  have hWd : ∀ x ∈ W, digitB x = true := fun x hx => by
    rw [← hW] at hx; exact (List.all_takeWhile (p := digitB) (l := s.drop a) |> List.all_eq_true.1) x hx
  have cv : evConvert Tryz.prog 9 22 (.str W) g = .val (.slice g.n 0 W.length (.opn 1)) (g.push (.cells (byteCells W) 5 .opn 0 0)) := by simp only [evConvert, strt, bytest, u8t]
  obtain ⟨l1, l2⟩ := num_lp (m + 2) p a g.n W (g.push (.cells (byteCells W) 5 .opn 0 0)) (gtop rfl) hWl hWd W.length 0 0 rfl (Nat.zero_le _) (by omega)
  have s0 := nm0 (C (m + 3)) p 0 h a (ld1 hg rfl)
  have s1 := nm1 (C (m + 3)) p a 0 g.n W.length (.opn 1) W h g _ c1 cv
  have sz : RunF Tryz.prog Tryz.f107 none (C (m + 3)) [0] ⟨[(0, .ptr p 0)], [], .none, h⟩ .nrm ⟨[(0, .ptr p 0)], [], .none, h⟩ := nmz (C (m + 3)) p h
  have gp : (g.push (.cells (byteCells W) 5 .opn 0 0)).get p = some (LxO s (a + W.length) w sg o) := gold (by have := x1.n; omega) g1
  have xg : ExtX p h.n h (g.push (.cells (byteCells W) 5 .opn 0 0)) := x1.trans x1.n (ExtX.push (Nat.le_refl _) _)
  rw [List.drop_zero] at l1 l2
  refine ⟨fun v hv => ?_, fun hv => ?_⟩
  · have lp := LoopF.run (p := [1, 1, 0, 1, 0]) (by kernel_rfl) (l1 v hv) (by omega)
    have hr := RunF.seq (p := []) (by kernel_rfl) sz (RunF.seq (p := [1]) (by kernel_rfl) s0 (RunF.seq (p := [1, 1]) (by kernel_rfl) (RunF.seq (p := [1, 1, 0]) (by kernel_rfl) s1 (RunF.block (p := [1, 1, 0, 1]) (id := 0) (by kernel_rfl) lp)) (nme (C (m + 3)) v _)))
    exact ⟨_, fn_runF (intr := Il) (n := m + 3) (args := [.ptr p 0]) Tryz.func107 (by kernel_rfl) rfl (by kernel_rfl) hr (.inl rfl) (by kernel_rfl), gp, xg⟩
  · have lp := LoopF.run (p := [1, 1, 0, 1, 0]) (by kernel_rfl) (l2 hv) (by omega)
    have hr := RunF.seq (p := []) (by kernel_rfl) sz (RunF.seq (p := [1]) (by kernel_rfl) s0 (RunF.seqx (p := [1, 1]) (by kernel_rfl) (RunF.seq (p := [1, 1, 0]) (by kernel_rfl) s1 (RunF.blockx (p := [1, 1, 0, 1]) (id := 0) (by kernel_rfl) lp (by simp))) (by simp)))
    exact ⟨_, _, fn_panF (intr := Il) (n := m + 3) (args := [.ptr p 0]) Tryz.func107 (by kernel_rfl) rfl (by kernel_rfl) hr, wrong_v xg.n, xg.trans xg.n (ExtX.push (Nat.le_refl _) _)⟩
end Go.Proofs.Lx

namespace Go.Proofs.Lx
open Go AEv Go.Proofs Lexp
set_option maxRecDepth 100000
set_option maxHeartbeats 1000000

theorem qtx (call : CallT → List AV → AHeap → FRes) (p b it : Nat) (e : Bool) (s : List UInt8) (h g : AHeap)
    (H1 : nextA h (AV.ptr it 0) true = some (AV.tup [AV.bool false], g)) :
    RunF Tryz.prog Tryz.f108 none call [1, 1, 1, 0, 1, 0, 0] (SSt.mk [(0, .ptr p 0), (3, .ptr b 0), (4, .str s), (5, .bool e), (13, .ptr it 0)] [] .none h) (.exit 0)
      (SSt.mk [(0, .ptr p 0), (3, .ptr b 0), (4, .str s), (5, .bool e), (13, .ptr it 0)] [] .none g) :=
  sxF_run [0, 3, 4, 5, 13] (hs := [.vh (.tup [.bool false]) g, .b false]) (by kernel_rfl) <| .cons H1 <| .cons (by kernel_rfl : false = false) <| .nil
theorem qtl_1 (call : CallT → List AV → AHeap → FRes) (p b it i c : Nat) (s : List UInt8) (h g : AHeap) (n_1 n_2 : Nat)
    (H1 : nextA h (AV.ptr it 0) true = some (AV.tup [AV.bool true, AV.int IntKind.i64 (Int.ofNat i), AV.int IntKind.i32 (Int.ofNat c)], g))
    (H2 : load1 g p (0 + 1) = some (.int .i64 (.ofNat n_1)))
    (H3 : arith .add .i64 (.ofNat n_1) (.ofNat i) = some (.int .i64 (.ofNat n_2)))
    (H4 : eqI (.ofNat i) (.ofNat 0) = true) :
    RunF Tryz.prog Tryz.f108 none call [1, 1, 1, 0, 1, 0, 0] (SSt.mk [(0, .ptr p 0), (3, .ptr b 0), (4, .str s), (5, .bool false), (13, .ptr it 0)] [] .none h) (.nrm)
      (SSt.mk [(0, .ptr p 0), (3, .ptr b 0), (4, .str s), (5, .bool false), (13, .ptr it 0)] [] .none g) :=
  sxF_run [0, 2, 3, 4, 5, 13] (hs := [.vh (.tup [.bool true, .int .i64 (.ofNat i), .int .i32 (.ofNat c)]) g, .b true, .v (.int .i64 (.ofNat n_1)), .v (.int .i64 (.ofNat n_2)), .b true]) (by kernel_rfl) <| .cons H1 <| .cons (by kernel_rfl : true = true) <| .cons H2 <| .cons H3 <| .cons H4 <| .nil
theorem qtl_2 (call : CallT → List AV → AHeap → FRes) (p b it i c : Nat) (s : List UInt8) (h g : AHeap) (n_1 n_2 : Nat)
    (H1 : nextA h (AV.ptr it 0) true = some (AV.tup [AV.bool true, AV.int IntKind.i64 (Int.ofNat i), AV.int IntKind.i32 (Int.ofNat c)], g))
    (H2 : load1 g p (0 + 1) = some (.int .i64 (.ofNat n_1)))
    (H3 : arith .add .i64 (.ofNat n_1) (.ofNat i) = some (.int .i64 (.ofNat n_2)))
    (H4 : eqI (.ofNat i) (.ofNat 0) = false)
    (H5 : eqI (.ofNat c) (.ofNat 92) = true) :
    RunF Tryz.prog Tryz.f108 none call [1, 1, 1, 0, 1, 0, 0] (SSt.mk [(0, .ptr p 0), (3, .ptr b 0), (4, .str s), (5, .bool false), (13, .ptr it 0)] [] .none h) (.nrm)
      (SSt.mk [(0, .ptr p 0), (3, .ptr b 0), (4, .str s), (5, .bool true), (13, .ptr it 0)] [] .none g) :=
  sxF_run [0, 2, 3, 4, 5, 13] (hs := [.vh (.tup [.bool true, .int .i64 (.ofNat i), .int .i32 (.ofNat c)]) g, .b true, .v (.int .i64 (.ofNat n_1)), .v (.int .i64 (.ofNat n_2)), .b false, .b false, .b true]) (by kernel_rfl) <| .cons H1 <| .cons (by kernel_rfl : true = true) <| .cons H2 <| .cons H3 <| .cons H4 <| .cons (by kernel_rfl : false = false) <| .cons H5 <| .nil
theorem qtl_3 (call : CallT → List AV → AHeap → FRes) (p b it i c : Nat) (s : List UInt8) (h g : AHeap) (n_1 n_2 n_3 : Nat) (g_1 : AHeap) (t_1 : List UInt8) (g_2 : AHeap)
    (H1 : nextA h (AV.ptr it 0) true = some (AV.tup [AV.bool true, AV.int IntKind.i64 (Int.ofNat i), AV.int IntKind.i32 (Int.ofNat c)], g))
    (H2 : load1 g p (0 + 1) = some (.int .i64 (.ofNat n_1)))
    (H3 : arith .add .i64 (.ofNat n_1) (.ofNat i) = some (.int .i64 (.ofNat n_2)))
    (H4 : eqI (.ofNat i) (.ofNat 0) = false)
    (H5 : eqI (.ofNat c) (.ofNat 92) = false)
    (H6 : eqI (.ofNat c) (.ofNat 34) = true)
    (H7 : arith .add .i64 (.ofNat n_2) (.ofNat 1) = some (.int .i64 (.ofNat n_3)))
    (H8 : AEv.storeCells g p (0 + 1) [.int .i64 (.ofNat n_3)] = some g_1)
    (H9 : call (.fn 25) [.ptr b 0] g_1 = FRes.ret (.str t_1) g_2) :
    RunF Tryz.prog Tryz.f108 none call [1, 1, 1, 0, 1, 0, 0] (SSt.mk [(0, .ptr p 0), (3, .ptr b 0), (4, .str s), (5, .bool false), (13, .ptr it 0)] [] .none h) (.ret)
      (SSt.mk [(0, .ptr p 0), (2, .str t_1), (3, .ptr b 0), (4, .str s), (5, .bool false), (13, .ptr it 0)] [] .none g_2) :=
  sxF_run [0, 2, 3, 4, 5, 13] (hs := [.vh (.tup [.bool true, .int .i64 (.ofNat i), .int .i32 (.ofNat c)]) g, .b true, .v (.int .i64 (.ofNat n_1)), .v (.int .i64 (.ofNat n_2)), .b false, .b false, .b false, .b true, .v (.int .i64 (.ofNat n_3)), .vh (.tup []) g_1, .c (.str t_1) g_2]) (by kernel_rfl) <| .cons H1 <| .cons (by kernel_rfl : true = true) <| .cons H2 <| .cons H3 <| .cons H4 <| .cons (by kernel_rfl : false = false) <| .cons H5 <| .cons H6 <| .cons H7 <| .cons (⟨by kernel_rfl, H8, rfl⟩ : some 1 = some 1 ∧ AEv.storeCells g p (0 + 1) [AV.int IntKind.i64 (Int.ofNat n_3)] = some g_1 ∧ AV.tup [] = AV.tup []) <| .cons H9 <| .nil
theorem qtl_4 (call : CallT → List AV → AHeap → FRes) (p b it i c : Nat) (s : List UInt8) (h g : AHeap) (n_1 n_2 : Nat) (g_1 : AHeap) (n_3 : Nat) (v_1 : AV) (g_2 : AHeap)
    (H1 : nextA h (AV.ptr it 0) true = some (AV.tup [AV.bool true, AV.int IntKind.i64 (Int.ofNat i), AV.int IntKind.i32 (Int.ofNat c)], g))
    (H2 : load1 g p (0 + 1) = some (.int .i64 (.ofNat n_1)))
    (H3 : arith .add .i64 (.ofNat n_1) (.ofNat i) = some (.int .i64 (.ofNat n_2)))
    (H4 : eqI (.ofNat i) (.ofNat 0) = false)
    (H5 : eqI (.ofNat c) (.ofNat 92) = false)
    (H6 : eqI (.ofNat c) (.ofNat 34) = false)
    (H7 : call (.fn 101) [.ptr p 0, .int .i64 (.ofNat n_2), .int .i32 (.ofNat c)] g = FRes.ret (.tup []) g_1)
    (H8 : call (.fn 147) [.ptr b 0, .int .i32 (.ofNat c)] g_1 = FRes.ret (.tup [.int .i64 (.ofNat n_3), v_1]) g_2) :
    RunF Tryz.prog Tryz.f108 none call [1, 1, 1, 0, 1, 0, 0] (SSt.mk [(0, .ptr p 0), (3, .ptr b 0), (4, .str s), (5, .bool false), (13, .ptr it 0)] [] .none h) (.nrm)
      (SSt.mk [(0, .ptr p 0), (3, .ptr b 0), (4, .str s), (5, .bool false), (13, .ptr it 0)] [] .none g_2) :=
  sxF_run [0, 2, 3, 4, 5, 13] (hs := [.vh (.tup [.bool true, .int .i64 (.ofNat i), .int .i32 (.ofNat c)]) g, .b true, .v (.int .i64 (.ofNat n_1)), .v (.int .i64 (.ofNat n_2)), .b false, .b false, .b false, .b false, .c (.tup []) g_1, .c (.tup [.int .i64 (.ofNat n_3), v_1]) g_2]) (by kernel_rfl) <| .cons H1 <| .cons (by kernel_rfl : true = true) <| .cons H2 <| .cons H3 <| .cons H4 <| .cons (by kernel_rfl : false = false) <| .cons H5 <| .cons H6 <| .cons H7 <| .cons H8 <| .nil
theorem qtp (call : CallT → List AV → AHeap → FRes) (p b it i c a a2 : Nat) (v : AV) (s : List UInt8) (h g g1 : AHeap) (n_1 n_2 : Nat)
    (H1 : nextA h (AV.ptr it 0) true = some (AV.tup [AV.bool true, AV.int IntKind.i64 (Int.ofNat i), AV.int IntKind.i32 (Int.ofNat c)], g))
    (H2 : load1 g p (0 + 1) = some (.int .i64 (.ofNat n_1)))
    (H3 : arith .add .i64 (.ofNat n_1) (.ofNat i) = some (.int .i64 (.ofNat n_2)))
    (H4 : eqI (.ofNat i) (.ofNat 0) = false)
    (H5 : eqI (.ofNat c) (.ofNat 92) = false)
    (H6 : eqI (.ofNat c) (.ofNat 34) = false)
    (H7 : call (.fn 101) [.ptr p 0, .int .i64 (.ofNat n_2), .int .i32 (.ofNat c)] g = FRes.pan v g1) :
    RunF Tryz.prog Tryz.f108 none call [1, 1, 1, 0, 1, 0, 0] (SSt.mk [(0, .ptr p 0), (3, .ptr b 0), (4, .str s), (5, .bool false), (13, .ptr it 0)] [] .none h) (.pan v)
      (SSt.mk [(0, .ptr p 0), (3, .ptr b 0), (4, .str s), (5, .bool false), (13, .ptr it 0)] [] .none g1) :=
  sxF_run [0, 2, 3, 4, 5, 13] (hs := [.vh (.tup [.bool true, .int .i64 (.ofNat i), .int .i32 (.ofNat c)]) g, .b true, .v (.int .i64 (.ofNat n_1)), .v (.int .i64 (.ofNat n_2)), .b false, .b false, .b false, .b false, .p v g1]) (by kernel_rfl) <| .cons H1 <| .cons (by kernel_rfl : true = true) <| .cons H2 <| .cons H3 <| .cons H4 <| .cons (by kernel_rfl : false = false) <| .cons H5 <| .cons H6 <| .cons H7 <| .nil
theorem qte (call : CallT → List AV → AHeap → FRes) (p b it i c k : Nat) (s t : List UInt8) (h g g1 : AHeap) (n_1 n_2 : Nat) (t_1 : List UInt8) (n_3 : Nat) (v_1 : AV) (g_1 : AHeap)
    (H1 : nextA h (AV.ptr it 0) true = some (AV.tup [AV.bool true, AV.int IntKind.i64 (Int.ofNat i), AV.int IntKind.i32 (Int.ofNat c)], g))
    (H2 : load1 g p (0 + 1) = some (.int .i64 (.ofNat n_1)))
    (H3 : arith .add .i64 (.ofNat n_1) (.ofNat i) = some (.int .i64 (.ofNat n_2)))
    (H4 : eqI (.ofNat i) (.ofNat 0) = false)
    (H5 : call (.fn 146) [.str [34, 92, 110], .int .i32 (.ofNat c)] g = FRes.ret (.int .i64 (.ofNat k)) g1)
    (H6 : Nat.le (Nat.succ k) 3)
    (H7 : load1 (AHeap.push g1 (.cells [.str [34], .str [92], .str [10]] 9 .own 0 0)) (AHeap.n g1) (0 + k * 1) = some (.str t_1))
    (H8 : call (.fn 61) [.ptr b 0, .str t_1] (AHeap.push g1 (.cells [.str [34], .str [92], .str [10]] 9 .own 0 0)) = FRes.ret (.tup [.int .i64 (.ofNat n_3), v_1]) g_1) :
    RunF Tryz.prog Tryz.f108 none call [1, 1, 1, 0, 1, 0, 0] (SSt.mk [(0, .ptr p 0), (3, .ptr b 0), (4, .str s), (5, .bool true), (13, .ptr it 0)] [] .none h) (.nrm)
      (SSt.mk [(0, .ptr p 0), (3, .ptr b 0), (4, .str s), (5, .bool false), (13, .ptr it 0)] [] .none g_1) :=
  sxF_run [0, 2, 3, 4, 5, 13] (hs := [.vh (.tup [.bool true, .int .i64 (.ofNat i), .int .i32 (.ofNat c)]) g, .b true, .v (.int .i64 (.ofNat n_1)), .v (.int .i64 (.ofNat n_2)), .b false, .b true, .c (.int .i64 (.ofNat k)) g1, .b false, .v (.ptr (AHeap.n g1) (0 + k * 1)), .v (.str t_1), .c (.tup [.int .i64 (.ofNat n_3), v_1]) g_1]) (by kernel_rfl) <| .cons H1 <| .cons (by kernel_rfl : true = true) <| .cons H2 <| .cons H3 <| .cons H4 <| .cons (by kernel_rfl : true = true) <| .cons H5 <| .cons (by kernel_rfl : ltI (Int.ofNat k) (Int.ofNat 0) = false) <| .cons (⟨H6, rfl⟩ : Nat.le (Nat.succ k) 3 ∧ AV.ptr (AHeap.n g1) (0 + k * 1) = AV.ptr (AHeap.n g1) (0 + k * 1)) <| .cons H7 <| .cons H8 <| .nil
theorem qtn (call : CallT → List AV → AHeap → FRes) (p b it i c : Nat) (s : List UInt8) (h g g1 : AHeap) (n_1 n_2 n_3 : Nat) (v_1 : AV) (g_1 : AHeap)
    (H1 : nextA h (AV.ptr it 0) true = some (AV.tup [AV.bool true, AV.int IntKind.i64 (Int.ofNat i), AV.int IntKind.i32 (Int.ofNat c)], g))
    (H2 : load1 g p (0 + 1) = some (.int .i64 (.ofNat n_1)))
    (H3 : arith .add .i64 (.ofNat n_1) (.ofNat i) = some (.int .i64 (.ofNat n_2)))
    (H4 : eqI (.ofNat i) (.ofNat 0) = false)
    (H5 : call (.fn 146) [.str [34, 92, 110], .int .i32 (.ofNat c)] g = FRes.ret (.int .i64 (.negSucc 0)) g1)
    (H6 : arith .sub .i64 (.ofNat n_2) (.ofNat 1) = some (.int .i64 (.ofNat n_3)))
    (H7 : call (.fn 106) [.int .i64 (.ofNat n_3)] g1 = FRes.pan v_1 g_1) :
    RunF Tryz.prog Tryz.f108 none call [1, 1, 1, 0, 1, 0, 0] (SSt.mk [(0, .ptr p 0), (3, .ptr b 0), (4, .str s), (5, .bool true), (13, .ptr it 0)] [] .none h) (.pan v_1)
      (SSt.mk [(0, .ptr p 0), (3, .ptr b 0), (4, .str s), (5, .bool true), (13, .ptr it 0)] [] .none g_1) :=
  sxF_run [0, 2, 3, 4, 5, 13] (hs := [.vh (.tup [.bool true, .int .i64 (.ofNat i), .int .i32 (.ofNat c)]) g, .b true, .v (.int .i64 (.ofNat n_1)), .v (.int .i64 (.ofNat n_2)), .b false, .b true, .c (.int .i64 (-1)) g1, .b true, .v (.int .i64 (.ofNat n_3)), .p v_1 g_1]) (by kernel_rfl) <| .cons H1 <| .cons (by kernel_rfl : true = true) <| .cons H2 <| .cons H3 <| .cons H4 <| .cons (by kernel_rfl : true = true) <| .cons H5 <| .cons (by kernel_rfl : ltI (Int.negSucc 0) (Int.ofNat 0) = true) <| .cons H6 <| .cons H7 <| .nil
theorem qtR (call : CallT → List AV → AHeap → FRes) (p : Nat) (s t : List UInt8) (h g g1 : AHeap)
    (H1 : call (.fn 100) [.ptr p 0] (AHeap.push h (.cells [.nilP, .nilS] 76 .own 0 0)) = FRes.ret (.str s) g)
    (H2 : RunF Tryz.prog Tryz.f108 none call [1, 1, 1, 0, 1, 0] (SSt.mk [(13, .ptr (AHeap.n g) 0), (5, .bool false), (4, .str s), (3, .ptr (AHeap.n h) 0), (2, .str []), (0, .ptr p 0)] [] .none (AHeap.push g (.strIter s 0))) (.ret) (SSt.mk [(2, .str t)] [] .none g1)) :
    RunF Tryz.prog Tryz.f108 none call [] (SSt.mk [(0, .ptr p 0)] [] .none h) (.ret)
      (SSt.mk [(2, .str t)] [] .none g1) :=
  sxF_run [2] (hs := [Hint.c (AV.str s) g, Hint.loop AEx.ret (SSt.mk [(2, AV.str t)] [] Rc.none g1)]) (by kernel_rfl) <| .cons H1 <| .cons H2 <| .nil
theorem qtP (call : CallT → List AV → AHeap → FRes) (p : Nat) (v : AV) (s t : List UInt8) (h g g1 : AHeap)
    (H1 : call (.fn 100) [.ptr p 0] (AHeap.push h (.cells [.nilP, .nilS] 76 .own 0 0)) = FRes.ret (.str s) g)
    (H2 : RunF Tryz.prog Tryz.f108 none call [1, 1, 1, 0, 1, 0] (SSt.mk [(13, .ptr (AHeap.n g) 0), (5, .bool false), (4, .str s), (3, .ptr (AHeap.n h) 0), (2, .str []), (0, .ptr p 0)] [] .none (AHeap.push g (.strIter s 0))) (.pan v) (SSt.mk [] [] .none g1)) :
    RunF Tryz.prog Tryz.f108 none call [] (SSt.mk [(0, .ptr p 0)] [] .none h) (.pan v)
      (SSt.mk [] [] .none g1) :=
  sxF_run [2] (hs := [Hint.c (AV.str s) g, Hint.loop (AEx.pan v) (SSt.mk [] [] Rc.none g1)]) (by kernel_rfl) <| .cons H1 <| .cons H2 <| .nil
theorem qtX_1 (call : CallT → List AV → AHeap → FRes) (p : Nat) (e : Bool) (s t : List UInt8) (h g g1 : AHeap) (n_1 n_2 n_3 : Nat) (v_1 : AV) (g_1 : AHeap)
    (H1 : call (.fn 100) [.ptr p 0] (AHeap.push h (.cells [.nilP, .nilS] 76 .own 0 0)) = FRes.ret (.str s) g)
    (H2 : RunF Tryz.prog Tryz.f108 none call [1, 1, 1, 0, 1, 0] (SSt.mk [(13, .ptr (AHeap.n g) 0), (5, .bool false), (4, .str s), (3, .ptr (AHeap.n h) 0), (2, .str []), (0, .ptr p 0)] [] .none (AHeap.push g (.strIter s 0))) (.exit 0) (SSt.mk [(0, .ptr p 0), (4, .str s), (5, .bool e)] [] .none g1))
    (H3 : e = true)
    (H4 : load1 g1 p (0 + 1) = some (.int .i64 (.ofNat n_1)))
    (H5 : arith .add .i64 (.ofNat n_1) (.ofNat (List.length s)) = some (.int .i64 (.ofNat n_2)))
    (H6 : arith .sub .i64 (.ofNat n_2) (.ofNat 1) = some (.int .i64 (.ofNat n_3)))
    (H7 : call (.fn 106) [.int .i64 (.ofNat n_3)] g1 = FRes.pan v_1 g_1) :
    RunF Tryz.prog Tryz.f108 none call [] (SSt.mk [(0, .ptr p 0)] [] .none h) (.pan v_1)
      (SSt.mk [] [] .none g_1) :=
  sxF_run [2] (hs := [Hint.c (AV.str s) g, Hint.loop (AEx.exit 0) (SSt.mk [(0, AV.ptr p 0), (4, AV.str s), (5, AV.bool e)] [] Rc.none g1), Hint.b true, Hint.v (AV.int IntKind.i64 (Int.ofNat n_1)), Hint.v (AV.int IntKind.i64 (Int.ofNat n_2)), Hint.v (AV.int IntKind.i64 (Int.ofNat n_3)), Hint.p v_1 g_1]) (by kernel_rfl) <| .cons H1 <| .cons H2 <| .cons H3 <| .cons H4 <| .cons H5 <| .cons H6 <| .cons H7 <| .nil
theorem qtX_2 (call : CallT → List AV → AHeap → FRes) (p : Nat) (e : Bool) (s t : List UInt8) (h g g1 : AHeap) (n_1 : Nat) (v_1 : AV) (g_1 : AHeap)
    (H1 : call (.fn 100) [.ptr p 0] (AHeap.push h (.cells [.nilP, .nilS] 76 .own 0 0)) = FRes.ret (.str s) g)
    (H2 : RunF Tryz.prog Tryz.f108 none call [1, 1, 1, 0, 1, 0] (SSt.mk [(13, .ptr (AHeap.n g) 0), (5, .bool false), (4, .str s), (3, .ptr (AHeap.n h) 0), (2, .str []), (0, .ptr p 0)] [] .none (AHeap.push g (.strIter s 0))) (.exit 0) (SSt.mk [(0, .ptr p 0), (4, .str s), (5, .bool e)] [] .none g1))
    (H3 : e = false)
    (H4 : load1 g1 p (0 + 1) = some (.int .i64 (.ofNat n_1)))
    (H5 : call (.fn 106) [.int .i64 (.ofNat n_1)] g1 = FRes.pan v_1 g_1) :
    RunF Tryz.prog Tryz.f108 none call [] (SSt.mk [(0, .ptr p 0)] [] .none h) (.pan v_1)
      (SSt.mk [] [] .none g_1) :=
  sxF_run [2] (hs := [Hint.c (AV.str s) g, Hint.loop (AEx.exit 0) (SSt.mk [(0, AV.ptr p 0), (4, AV.str s), (5, AV.bool e)] [] Rc.none g1), Hint.b false, Hint.v (AV.int IntKind.i64 (Int.ofNat n_1)), Hint.p v_1 g_1]) (by kernel_rfl) <| .cons H1 <| .cons H2 <| .cons H3 <| .cons H4 <| .cons H5 <| .nil
theorem tk_0 (call : CallT → List AV → AHeap → FRes) (p : Nat) (h : AHeap) :
    RunF Tryz.prog Tryz.f72 none call [0] (SSt.mk [(0, .ptr p 0)] [] .none h) (.nrm)
      (SSt.mk [(1, .ptr (AHeap.n h) 0)] [] .none (AHeap.push h (.cells [.ptr p 0] 126 .own 0 0))) :=
  sxF_run [1] (hs := []) (by kernel_rfl) <| .nil
theorem tk_1 (call : CallT → List AV → AHeap → FRes) (q : Nat) (h : AHeap) (n_1 n_2 n_3 : Nat) (g_1 : AHeap)
    (H1 : load1 h q 0 = some (.ptr n_1 n_2))
    (H2 : load1 h n_1 (n_2 + 1) = some (.int .i64 (.ofNat n_3)))
    (H3 : AEv.storeCells (AHeap.push h (.cells [.int .i64 (.ofNat 0), .str [], .int .i64 (.ofNat 0), .int .i64 (.ofNat 0)] 64 .own 0 0)) (AHeap.n h) 0 [.int .i64 (.ofNat 0), .str [], .int .i64 (.ofNat 0), .int .i64 (.ofNat n_3)] = some g_1) :
    RunF Tryz.prog Tryz.f72 none call [1, 0] (SSt.mk [(1, .ptr q 0)] [] .none h) (.nrm)
      (SSt.mk [(1, .ptr q 0), (2, .ptr (AHeap.n h) 0)] [] .none g_1) :=
  sxF_run [1, 2] (hs := [.v (.ptr n_1 n_2), .v (.int .i64 (.ofNat n_3)), .vh (.tup []) g_1]) (by kernel_rfl) <| .cons H1 <| .cons H2 <| .cons (⟨by kernel_rfl, H3, rfl⟩ : some 4 = some 4 ∧ AEv.storeCells (AHeap.push h (AObj.cells [AV.int IntKind.i64 (Int.ofNat 0), AV.str [], AV.int IntKind.i64 (Int.ofNat 0), AV.int IntKind.i64 (Int.ofNat 0)] 64 BK.own 0 0)) (AHeap.n h) 0 [AV.int IntKind.i64 (Int.ofNat 0), AV.str [], AV.int IntKind.i64 (Int.ofNat 0), AV.int IntKind.i64 (Int.ofNat n_3)] = some g_1 ∧ AV.tup [] = AV.tup []) <| .nil
theorem tk_2 (call : CallT → List AV → AHeap → FRes) (q r : Nat) (h : AHeap) (n_1 n_2 : Nat) (t_1 : List UInt8) (n_3 n_4 : Nat)
    (H1 : load1 (AHeap.room h 10) q 0 = some (.ptr n_1 n_2))
    (H2 : load1 (AHeap.room h 10) n_1 (n_2 + 0) = some (.str t_1))
    (H3 : load1 (AHeap.room h 10) n_1 (n_2 + 1) = some (.int .i64 (.ofNat n_3)))
    (H4 : idxS n_3 t_1 = some (.int .u8 (.ofNat n_4))) :
    RunF Tryz.prog Tryz.f72 none call [1, 1, 0, 0] (SSt.mk [(1, .ptr q 0), (2, .ptr r 0)] [] .none h) (.nrm)
      (SSt.mk [(1, .ptr q 0), (2, .ptr r 0), (3, .int .u8 (.ofNat n_4))] [] .none (AHeap.room h 10)) :=
  sxF_run [1, 2, 3] (hs := [.v (.ptr n_1 n_2), .v (.str t_1), .v (.ptr n_1 n_2), .v (.int .i64 (.ofNat n_3)), .v (.int .u8 (.ofNat n_4))]) (by kernel_rfl) <| .cons H1 <| .cons H2 <| .cons H1 <| .cons H3 <| .cons H4 <| .cons (by kernel_rfl : AV.sound (AV.ptr n_1 n_2) = true) <| .cons H1 <| .cons (by kernel_rfl : AV.sound (AV.ptr n_1 n_2) = true) <| .cons (by kernel_rfl : AV.ptr n_1 n_2 = AV.ptr n_1 n_2) <| .cons (by kernel_rfl : AV.sound (AV.ptr n_1 (n_2 + 0)) = true) <| .cons (by kernel_rfl : AV.ptr n_1 (n_2 + 0) = AV.ptr n_1 (n_2 + 0)) <| .cons (by kernel_rfl : AV.sound (AV.str t_1) = true) <| .cons H2 <| .cons (by kernel_rfl : AV.sound (AV.ptr n_1 n_2) = true) <| .cons H1 <| .cons (by kernel_rfl : AV.sound (AV.ptr n_1 n_2) = true) <| .cons (by kernel_rfl : AV.ptr n_1 n_2 = AV.ptr n_1 n_2) <| .cons (by kernel_rfl : AV.sound (AV.ptr n_1 (n_2 + 1)) = true) <| .cons (by kernel_rfl : AV.ptr n_1 (n_2 + 1) = AV.ptr n_1 (n_2 + 1)) <| .cons (by kernel_rfl : AV.sound (AV.int IntKind.i64 (Int.ofNat n_3)) = true) <| .cons H3 <| .cons (by kernel_rfl : AV.sound (AV.int IntKind.u8 (Int.ofNat n_4)) = true) <| .cons H4 <| .cons (by kernel_rfl : AV.sound (AV.int IntKind.u8 (Int.ofNat n_4)) = true) <| .cons (by kernel_rfl : AV.int IntKind.u8 (Int.ofNat n_4) = AV.int IntKind.u8 (Int.ofNat n_4)) <| .nil
theorem tk_3_1 (call : CallT → List AV → AHeap → FRes) (q r c : Nat) (h : AHeap) (b_1 : Bool) (g_1 : AHeap) (n_1 n_2 : Nat) (t_1 : List UInt8) (g_2 g_3 g_4 : AHeap) (n_3 n_4 n_5 : Nat) (t_2 : List UInt8) (b_2 : Bool) (g_5 : AHeap) (t_3 : List UInt8) (n_6 : Nat) (v_1 : AV) (g_6 : AHeap)
    (H1 : call (.fn 102) [.int .u8 (.ofNat c)] h = FRes.ret (.bool b_1) g_1)
    (H2 : b_1 = true)
    (H3 : load1 g_1 q 0 = some (.ptr n_1 n_2))
    (H4 : call (.fn 103) [.ptr n_1 n_2, .fn 104 [] []] g_1 = FRes.ret (.str t_1) g_2)
    (H5 : AEv.storeCells g_2 r (0 + 0) [.int .i64 (.ofNat 1)] = some g_3)
    (H6 : AEv.storeCells g_3 r (0 + 1) [.str t_1] = some g_4)
    (H7 : load1 (AHeap.room g_4 7) q 0 = some (.ptr n_3 n_4))
    (H8 : load1 (AHeap.room g_4 7) n_3 (n_4 + 2) = some (.map n_5))
    (H9 : load1 (AHeap.room g_4 7) r (0 + 1) = some (.str t_2))
    (H10 : lookupA Tryz.prog (AHeap.room g_4 7) 127 (AV.map n_5) (AV.str t_2) false = some (AV.bool b_2))
    (H11 : b_2 = true)
    (H12 : AEv.storeCells (AHeap.room g_4 7) r (0 + 0) [.int .i64 (.ofNat 2)] = some g_5)
    (H13 : load1 g_5 r (0 + 1) = some (.str t_3))
    (H14 : ltI (.ofNat 24) (.ofNat (List.length t_3)) = true)
    (H15 : load1 g_5 r (0 + 3) = some (.int .i64 (.ofNat n_6)))
    (H16 : call (.fn 106) [.int .i64 (.ofNat n_6)] g_5 = FRes.pan v_1 g_6) :
    RunF Tryz.prog Tryz.f72 none call [1, 1, 0, 1] (SSt.mk [(1, .ptr q 0), (2, .ptr r 0), (3, .int .u8 (.ofNat c))] [] .none h) (.pan v_1)
      (SSt.mk [(1, .ptr q 0), (2, .ptr r 0)] [] .none g_6) :=
  sxF_run [1, 2] (hs := [.c (.bool b_1) g_1, .b true, .v (.ptr n_1 n_2), .c (.str t_1) g_2, .vh (.tup []) g_3, .vh (.tup []) g_4, .v (.ptr n_3 n_4), .v (.map n_5), .v (.str t_2), .v (.bool b_2), .b true, .vh (.tup []) g_5, .v (.str t_3), .b true, .v (.int .i64 (.ofNat n_6)), .p v_1 g_6]) (by kernel_rfl) <| .cons H1 <| .cons H2 <| .cons H3 <| .cons H4 <| .cons (⟨by kernel_rfl, H5, rfl⟩ : some 1 = some 1 ∧ AEv.storeCells g_2 r (0 + 0) [AV.int IntKind.i64 (Int.ofNat 1)] = some g_3 ∧ AV.tup [] = AV.tup []) <| .cons (⟨by kernel_rfl, H6, rfl⟩ : some 1 = some 1 ∧ AEv.storeCells g_3 r (0 + 1) [AV.str t_1] = some g_4 ∧ AV.tup [] = AV.tup []) <| .cons H7 <| .cons H8 <| .cons H9 <| .cons H10 <| .cons (by kernel_rfl : AV.sound (AV.ptr n_3 n_4) = true) <| .cons H7 <| .cons (by kernel_rfl : AV.sound (AV.ptr n_3 n_4) = true) <| .cons (by kernel_rfl : AV.ptr n_3 n_4 = AV.ptr n_3 n_4) <| .cons (by kernel_rfl : AV.sound (AV.ptr n_3 (n_4 + 2)) = true) <| .cons (by kernel_rfl : AV.ptr n_3 (n_4 + 2) = AV.ptr n_3 (n_4 + 2)) <| .cons (by kernel_rfl : AV.sound (AV.map n_5) = true) <| .cons H8 <| .cons (by kernel_rfl : AV.sound (AV.ptr r (0 + 1)) = true) <| .cons (by kernel_rfl : AV.ptr r (0 + 1) = AV.ptr r (0 + 1)) <| .cons (by kernel_rfl : AV.sound (AV.str t_2) = true) <| .cons H9 <| .cons (by kernel_rfl : AV.sound (AV.bool b_2) = true) <| .cons H10 <| .cons H11 <| .cons (⟨by kernel_rfl, H12, rfl⟩ : some 1 = some 1 ∧ AEv.storeCells (AHeap.room g_4 7) r (0 + 0) [AV.int IntKind.i64 (Int.ofNat 2)] = some g_5 ∧ AV.tup [] = AV.tup []) <| .cons H13 <| .cons H14 <| .cons H15 <| .cons H16 <| .nil
theorem tk_3_2 (call : CallT → List AV → AHeap → FRes) (q r c : Nat) (h : AHeap) (b_1 : Bool) (g_1 : AHeap) (n_1 n_2 : Nat) (t_1 : List UInt8) (g_2 g_3 g_4 : AHeap) (n_3 n_4 n_5 : Nat) (t_2 : List UInt8) (b_2 : Bool) (g_5 : AHeap) (t_3 : List UInt8)
    (H1 : call (.fn 102) [.int .u8 (.ofNat c)] h = FRes.ret (.bool b_1) g_1)
    (H2 : b_1 = true)
    (H3 : load1 g_1 q 0 = some (.ptr n_1 n_2))
    (H4 : call (.fn 103) [.ptr n_1 n_2, .fn 104 [] []] g_1 = FRes.ret (.str t_1) g_2)
    (H5 : AEv.storeCells g_2 r (0 + 0) [.int .i64 (.ofNat 1)] = some g_3)
    (H6 : AEv.storeCells g_3 r (0 + 1) [.str t_1] = some g_4)
    (H7 : load1 (AHeap.room g_4 7) q 0 = some (.ptr n_3 n_4))
    (H8 : load1 (AHeap.room g_4 7) n_3 (n_4 + 2) = some (.map n_5))
    (H9 : load1 (AHeap.room g_4 7) r (0 + 1) = some (.str t_2))
    (H10 : lookupA Tryz.prog (AHeap.room g_4 7) 127 (AV.map n_5) (AV.str t_2) false = some (AV.bool b_2))
    (H11 : b_2 = true)
    (H12 : AEv.storeCells (AHeap.room g_4 7) r (0 + 0) [.int .i64 (.ofNat 2)] = some g_5)
    (H13 : load1 g_5 r (0 + 1) = some (.str t_3))
    (H14 : ltI (.ofNat 24) (.ofNat (List.length t_3)) = false) :
    RunF Tryz.prog Tryz.f72 none call [1, 1, 0, 1] (SSt.mk [(1, .ptr q 0), (2, .ptr r 0), (3, .int .u8 (.ofNat c))] [] .none h) (.nrm)
      (SSt.mk [(1, .ptr q 0), (2, .ptr r 0)] [] .none g_5) :=
  sxF_run [1, 2] (hs := [.c (.bool b_1) g_1, .b true, .v (.ptr n_1 n_2), .c (.str t_1) g_2, .vh (.tup []) g_3, .vh (.tup []) g_4, .v (.ptr n_3 n_4), .v (.map n_5), .v (.str t_2), .v (.bool b_2), .b true, .vh (.tup []) g_5, .v (.str t_3), .b false]) (by kernel_rfl) <| .cons H1 <| .cons H2 <| .cons H3 <| .cons H4 <| .cons (⟨by kernel_rfl, H5, rfl⟩ : some 1 = some 1 ∧ AEv.storeCells g_2 r (0 + 0) [AV.int IntKind.i64 (Int.ofNat 1)] = some g_3 ∧ AV.tup [] = AV.tup []) <| .cons (⟨by kernel_rfl, H6, rfl⟩ : some 1 = some 1 ∧ AEv.storeCells g_3 r (0 + 1) [AV.str t_1] = some g_4 ∧ AV.tup [] = AV.tup []) <| .cons H7 <| .cons H8 <| .cons H9 <| .cons H10 <| .cons (by kernel_rfl : AV.sound (AV.ptr n_3 n_4) = true) <| .cons H7 <| .cons (by kernel_rfl : AV.sound (AV.ptr n_3 n_4) = true) <| .cons (by kernel_rfl : AV.ptr n_3 n_4 = AV.ptr n_3 n_4) <| .cons (by kernel_rfl : AV.sound (AV.ptr n_3 (n_4 + 2)) = true) <| .cons (by kernel_rfl : AV.ptr n_3 (n_4 + 2) = AV.ptr n_3 (n_4 + 2)) <| .cons (by kernel_rfl : AV.sound (AV.map n_5) = true) <| .cons H8 <| .cons (by kernel_rfl : AV.sound (AV.ptr r (0 + 1)) = true) <| .cons (by kernel_rfl : AV.ptr r (0 + 1) = AV.ptr r (0 + 1)) <| .cons (by kernel_rfl : AV.sound (AV.str t_2) = true) <| .cons H9 <| .cons (by kernel_rfl : AV.sound (AV.bool b_2) = true) <| .cons H10 <| .cons H11 <| .cons (⟨by kernel_rfl, H12, rfl⟩ : some 1 = some 1 ∧ AEv.storeCells (AHeap.room g_4 7) r (0 + 0) [AV.int IntKind.i64 (Int.ofNat 2)] = some g_5 ∧ AV.tup [] = AV.tup []) <| .cons H13 <| .cons H14 <| .nil
theorem tk_3_3 (call : CallT → List AV → AHeap → FRes) (q r c : Nat) (h : AHeap) (b_1 : Bool) (g_1 : AHeap) (n_1 n_2 : Nat) (t_1 : List UInt8) (g_2 g_3 g_4 : AHeap) (n_3 n_4 n_5 : Nat) (t_2 : List UInt8) (b_2 : Bool) (n_6 : Nat) (v_1 : AV) (g_5 : AHeap)
    (H1 : call (.fn 102) [.int .u8 (.ofNat c)] h = FRes.ret (.bool b_1) g_1)
    (H2 : b_1 = true)
    (H3 : load1 g_1 q 0 = some (.ptr n_1 n_2))
    (H4 : call (.fn 103) [.ptr n_1 n_2, .fn 104 [] []] g_1 = FRes.ret (.str t_1) g_2)
    (H5 : AEv.storeCells g_2 r (0 + 0) [.int .i64 (.ofNat 1)] = some g_3)
    (H6 : AEv.storeCells g_3 r (0 + 1) [.str t_1] = some g_4)
    (H7 : load1 (AHeap.room g_4 7) q 0 = some (.ptr n_3 n_4))
    (H8 : load1 (AHeap.room g_4 7) n_3 (n_4 + 2) = some (.map n_5))
    (H9 : load1 (AHeap.room g_4 7) r (0 + 1) = some (.str t_2))
    (H10 : lookupA Tryz.prog (AHeap.room g_4 7) 127 (AV.map n_5) (AV.str t_2) false = some (AV.bool b_2))
    (H11 : b_2 = false)
    (H12 : ltI (.ofNat 24) (.ofNat (List.length t_2)) = true)
    (H13 : load1 (AHeap.room g_4 7) r (0 + 3) = some (.int .i64 (.ofNat n_6)))
    (H14 : call (.fn 106) [.int .i64 (.ofNat n_6)] (AHeap.room g_4 7) = FRes.pan v_1 g_5) :
    RunF Tryz.prog Tryz.f72 none call [1, 1, 0, 1] (SSt.mk [(1, .ptr q 0), (2, .ptr r 0), (3, .int .u8 (.ofNat c))] [] .none h) (.pan v_1)
      (SSt.mk [(1, .ptr q 0), (2, .ptr r 0)] [] .none g_5) :=
  sxF_run [1, 2] (hs := [.c (.bool b_1) g_1, .b true, .v (.ptr n_1 n_2), .c (.str t_1) g_2, .vh (.tup []) g_3, .vh (.tup []) g_4, .v (.ptr n_3 n_4), .v (.map n_5), .v (.str t_2), .v (.bool b_2), .b false, .v (.str t_2), .b true, .v (.int .i64 (.ofNat n_6)), .p v_1 g_5]) (by kernel_rfl) <| .cons H1 <| .cons H2 <| .cons H3 <| .cons H4 <| .cons (⟨by kernel_rfl, H5, rfl⟩ : some 1 = some 1 ∧ AEv.storeCells g_2 r (0 + 0) [AV.int IntKind.i64 (Int.ofNat 1)] = some g_3 ∧ AV.tup [] = AV.tup []) <| .cons (⟨by kernel_rfl, H6, rfl⟩ : some 1 = some 1 ∧ AEv.storeCells g_3 r (0 + 1) [AV.str t_1] = some g_4 ∧ AV.tup [] = AV.tup []) <| .cons H7 <| .cons H8 <| .cons H9 <| .cons H10 <| .cons (by kernel_rfl : AV.sound (AV.ptr n_3 n_4) = true) <| .cons H7 <| .cons (by kernel_rfl : AV.sound (AV.ptr n_3 n_4) = true) <| .cons (by kernel_rfl : AV.ptr n_3 n_4 = AV.ptr n_3 n_4) <| .cons (by kernel_rfl : AV.sound (AV.ptr n_3 (n_4 + 2)) = true) <| .cons (by kernel_rfl : AV.ptr n_3 (n_4 + 2) = AV.ptr n_3 (n_4 + 2)) <| .cons (by kernel_rfl : AV.sound (AV.map n_5) = true) <| .cons H8 <| .cons (by kernel_rfl : AV.sound (AV.ptr r (0 + 1)) = true) <| .cons (by kernel_rfl : AV.ptr r (0 + 1) = AV.ptr r (0 + 1)) <| .cons (by kernel_rfl : AV.sound (AV.str t_2) = true) <| .cons H9 <| .cons (by kernel_rfl : AV.sound (AV.bool b_2) = true) <| .cons H10 <| .cons H11 <| .cons H9 <| .cons H12 <| .cons H13 <| .cons H14 <| .nil
theorem tk_3_4 (call : CallT → List AV → AHeap → FRes) (q r c : Nat) (h : AHeap) (b_1 : Bool) (g_1 : AHeap) (n_1 n_2 : Nat) (t_1 : List UInt8) (g_2 g_3 g_4 : AHeap) (n_3 n_4 n_5 : Nat) (t_2 : List UInt8) (b_2 : Bool)
    (H1 : call (.fn 102) [.int .u8 (.ofNat c)] h = FRes.ret (.bool b_1) g_1)
    (H2 : b_1 = true)
    (H3 : load1 g_1 q 0 = some (.ptr n_1 n_2))
    (H4 : call (.fn 103) [.ptr n_1 n_2, .fn 104 [] []] g_1 = FRes.ret (.str t_1) g_2)
    (H5 : AEv.storeCells g_2 r (0 + 0) [.int .i64 (.ofNat 1)] = some g_3)
    (H6 : AEv.storeCells g_3 r (0 + 1) [.str t_1] = some g_4)
    (H7 : load1 (AHeap.room g_4 7) q 0 = some (.ptr n_3 n_4))
    (H8 : load1 (AHeap.room g_4 7) n_3 (n_4 + 2) = some (.map n_5))
    (H9 : load1 (AHeap.room g_4 7) r (0 + 1) = some (.str t_2))
    (H10 : lookupA Tryz.prog (AHeap.room g_4 7) 127 (AV.map n_5) (AV.str t_2) false = some (AV.bool b_2))
    (H11 : b_2 = false)
    (H12 : ltI (.ofNat 24) (.ofNat (List.length t_2)) = false) :
    RunF Tryz.prog Tryz.f72 none call [1, 1, 0, 1] (SSt.mk [(1, .ptr q 0), (2, .ptr r 0), (3, .int .u8 (.ofNat c))] [] .none h) (.nrm)
      (SSt.mk [(1, .ptr q 0), (2, .ptr r 0)] [] .none (AHeap.room g_4 7)) :=
  sxF_run [1, 2] (hs := [.c (.bool b_1) g_1, .b true, .v (.ptr n_1 n_2), .c (.str t_1) g_2, .vh (.tup []) g_3, .vh (.tup []) g_4, .v (.ptr n_3 n_4), .v (.map n_5), .v (.str t_2), .v (.bool b_2), .b false, .v (.str t_2), .b false]) (by kernel_rfl) <| .cons H1 <| .cons H2 <| .cons H3 <| .cons H4 <| .cons (⟨by kernel_rfl, H5, rfl⟩ : some 1 = some 1 ∧ AEv.storeCells g_2 r (0 + 0) [AV.int IntKind.i64 (Int.ofNat 1)] = some g_3 ∧ AV.tup [] = AV.tup []) <| .cons (⟨by kernel_rfl, H6, rfl⟩ : some 1 = some 1 ∧ AEv.storeCells g_3 r (0 + 1) [AV.str t_1] = some g_4 ∧ AV.tup [] = AV.tup []) <| .cons H7 <| .cons H8 <| .cons H9 <| .cons H10 <| .cons (by kernel_rfl : AV.sound (AV.ptr n_3 n_4) = true) <| .cons H7 <| .cons (by kernel_rfl : AV.sound (AV.ptr n_3 n_4) = true) <| .cons (by kernel_rfl : AV.ptr n_3 n_4 = AV.ptr n_3 n_4) <| .cons (by kernel_rfl : AV.sound (AV.ptr n_3 (n_4 + 2)) = true) <| .cons (by kernel_rfl : AV.ptr n_3 (n_4 + 2) = AV.ptr n_3 (n_4 + 2)) <| .cons (by kernel_rfl : AV.sound (AV.map n_5) = true) <| .cons H8 <| .cons (by kernel_rfl : AV.sound (AV.ptr r (0 + 1)) = true) <| .cons (by kernel_rfl : AV.ptr r (0 + 1) = AV.ptr r (0 + 1)) <| .cons (by kernel_rfl : AV.sound (AV.str t_2) = true) <| .cons H9 <| .cons (by kernel_rfl : AV.sound (AV.bool b_2) = true) <| .cons H10 <| .cons H11 <| .cons H9 <| .cons H12 <| .nil
theorem tk_3_5 (call : CallT → List AV → AHeap → FRes) (q r c : Nat) (h : AHeap) (b_1 : Bool) (g_1 : AHeap) (b_2 : Bool) (g_2 : AHeap) (n_1 n_2 n_3 : Nat) (g_3 g_4 g_5 : AHeap)
    (H1 : call (.fn 102) [.int .u8 (.ofNat c)] h = FRes.ret (.bool b_1) g_1)
    (H2 : b_1 = false)
    (H3 : call (.fn 105) [.int .u8 (.ofNat c)] g_1 = FRes.ret (.bool b_2) g_2)
    (H4 : b_2 = true)
    (H5 : load1 g_2 q 0 = some (.ptr n_1 n_2))
    (H6 : call (.fn 107) [.ptr n_1 n_2] g_2 = FRes.ret (.int .i64 (.ofNat n_3)) g_3)
    (H7 : AEv.storeCells g_3 r (0 + 0) [.int .i64 (.ofNat 3)] = some g_4)
    (H8 : AEv.storeCells g_4 r (0 + 2) [.int .i64 (.ofNat n_3)] = some g_5) :
    RunF Tryz.prog Tryz.f72 none call [1, 1, 0, 1] (SSt.mk [(1, .ptr q 0), (2, .ptr r 0), (3, .int .u8 (.ofNat c))] [] .none h) (.nrm)
      (SSt.mk [(1, .ptr q 0), (2, .ptr r 0)] [] .none g_5) :=
  sxF_run [1, 2] (hs := [.c (.bool b_1) g_1, .b false, .c (.bool b_2) g_2, .b true, .v (.ptr n_1 n_2), .c (.int .i64 (.ofNat n_3)) g_3, .vh (.tup []) g_4, .vh (.tup []) g_5]) (by kernel_rfl) <| .cons H1 <| .cons H2 <| .cons H3 <| .cons H4 <| .cons H5 <| .cons H6 <| .cons (⟨by kernel_rfl, H7, rfl⟩ : some 1 = some 1 ∧ AEv.storeCells g_3 r (0 + 0) [AV.int IntKind.i64 (Int.ofNat 3)] = some g_4 ∧ AV.tup [] = AV.tup []) <| .cons (⟨by kernel_rfl, H8, rfl⟩ : some 1 = some 1 ∧ AEv.storeCells g_4 r (0 + 2) [AV.int IntKind.i64 (Int.ofNat n_3)] = some g_5 ∧ AV.tup [] = AV.tup []) <| .nil
theorem tk_3_6 (call : CallT → List AV → AHeap → FRes) (q r c : Nat) (h : AHeap) (b_1 : Bool) (g_1 : AHeap) (b_2 : Bool) (g_2 : AHeap) (n_1 n_2 : Nat) (t_1 : List UInt8) (g_3 g_4 g_5 : AHeap)
    (H1 : call (.fn 102) [.int .u8 (.ofNat c)] h = FRes.ret (.bool b_1) g_1)
    (H2 : b_1 = false)
    (H3 : call (.fn 105) [.int .u8 (.ofNat c)] g_1 = FRes.ret (.bool b_2) g_2)
    (H4 : b_2 = false)
    (H5 : eqI (.ofNat c) (.ofNat 34) = true)
    (H6 : load1 g_2 q 0 = some (.ptr n_1 n_2))
    (H7 : call (.fn 108) [.ptr n_1 n_2] g_2 = FRes.ret (.str t_1) g_3)
    (H8 : AEv.storeCells g_3 r (0 + 0) [.int .i64 (.ofNat 4)] = some g_4)
    (H9 : AEv.storeCells g_4 r (0 + 1) [.str t_1] = some g_5) :
    RunF Tryz.prog Tryz.f72 none call [1, 1, 0, 1] (SSt.mk [(1, .ptr q 0), (2, .ptr r 0), (3, .int .u8 (.ofNat c))] [] .none h) (.nrm)
      (SSt.mk [(1, .ptr q 0), (2, .ptr r 0)] [] .none g_5) :=
  sxF_run [1, 2] (hs := [.c (.bool b_1) g_1, .b false, .c (.bool b_2) g_2, .b false, .b true, .v (.ptr n_1 n_2), .c (.str t_1) g_3, .vh (.tup []) g_4, .vh (.tup []) g_5]) (by kernel_rfl) <| .cons H1 <| .cons H2 <| .cons H3 <| .cons H4 <| .cons H5 <| .cons H6 <| .cons H7 <| .cons (⟨by kernel_rfl, H8, rfl⟩ : some 1 = some 1 ∧ AEv.storeCells g_3 r (0 + 0) [AV.int IntKind.i64 (Int.ofNat 4)] = some g_4 ∧ AV.tup [] = AV.tup []) <| .cons (⟨by kernel_rfl, H9, rfl⟩ : some 1 = some 1 ∧ AEv.storeCells g_4 r (0 + 1) [AV.str t_1] = some g_5 ∧ AV.tup [] = AV.tup []) <| .nil
theorem tk_3_7 (call : CallT → List AV → AHeap → FRes) (q r c : Nat) (h : AHeap) (b_1 : Bool) (g_1 : AHeap) (b_2 : Bool) (g_2 : AHeap) (n_1 n_2 n_3 n_4 n_5 : Nat) (c_1 : Cap) (n_6 : Nat) (g_3 : AHeap) (n_7 n_8 n_9 n_10 n_11 : Nat) (c_2 : Cap) (t_1 : List UInt8) (g_4 g_5 : AHeap) (n_12 n_13 n_14 : Nat) (t_2 : List UInt8) (n_15 : Nat) (g_6 : AHeap)
    (H1 : call (.fn 102) [.int .u8 (.ofNat c)] h = FRes.ret (.bool b_1) g_1)
    (H2 : b_1 = false)
    (H3 : call (.fn 105) [.int .u8 (.ofNat c)] g_1 = FRes.ret (.bool b_2) g_2)
    (H4 : b_2 = false)
    (H5 : eqI (.ofNat c) (.ofNat 34) = false)
    (H6 : load1 g_2 q 0 = some (.ptr n_1 n_2))
    (H7 : load1 g_2 n_1 (n_2 + 3) = some (.slice n_3 n_4 n_5 c_1))
    (H8 : call (.fn 109) [.slice n_3 n_4 n_5 c_1, .fn 110 [] [.ptr q 0]] g_2 = FRes.ret (.int .i64 (.ofNat n_6)) g_3)
    (H9 : load1 (AHeap.room g_3 11) q 0 = some (.ptr n_7 n_8))
    (H10 : load1 (AHeap.room g_3 11) n_7 (n_8 + 3) = some (.slice n_9 n_10 n_11 c_2))
    (H11 : Nat.le (Nat.succ n_6) n_11)
    (H12 : load1 (AHeap.room g_3 11) n_9 (n_10 + n_6 * 1) = some (.str t_1))
    (H13 : AEv.storeCells (AHeap.room g_3 11) r (0 + 0) [.int .i64 (.ofNat 5)] = some g_4)
    (H14 : AEv.storeCells g_4 r (0 + 1) [.str t_1] = some g_5)
    (H15 : load1 g_4 q 0 = some (.ptr n_7 n_8))
    (H16 : load1 g_4 n_7 (n_8 + 3) = some (.slice n_9 n_10 n_11 c_2))
    (H17 : load1 g_4 n_9 (n_10 + n_6 * 1) = some (.str t_1))
    (H18 : load1 (AHeap.room g_5 11) q 0 = some (.ptr n_12 n_13))
    (H19 : load1 (AHeap.room g_5 11) n_12 (n_13 + 1) = some (.int .i64 (.ofNat n_14)))
    (H20 : load1 (AHeap.room g_5 11) r (0 + 1) = some (.str t_2))
    (H21 : arith .add .i64 (.ofNat n_14) (.ofNat (List.length t_2)) = some (.int .i64 (.ofNat n_15)))
    (H22 : AEv.storeCells (AHeap.room g_5 11) n_12 (n_13 + 1) [.int .i64 (.ofNat n_15)] = some g_6) :
    RunF Tryz.prog Tryz.f72 none call [1, 1, 0, 1] (SSt.mk [(1, .ptr q 0), (2, .ptr r 0), (3, .int .u8 (.ofNat c))] [] .none h) (.nrm)
      (SSt.mk [(1, .ptr q 0), (2, .ptr r 0)] [] .none g_6) :=
  sxF_run [1, 2] (hs := [.c (.bool b_1) g_1, .b false, .c (.bool b_2) g_2, .b false, .b false, .v (.ptr n_1 n_2), .v (.slice n_3 n_4 n_5 c_1), .c (.int .i64 (.ofNat n_6)) g_3, .b false, .v (.ptr n_7 n_8), .v (.slice n_9 n_10 n_11 c_2), .v (.ptr n_9 (n_10 + n_6 * 1)), .v (.str t_1), .vh (.tup []) g_4, .vh (.tup []) g_5, .v (.ptr n_12 n_13), .v (.int .i64 (.ofNat n_14)), .v (.str t_2), .v (.int .i64 (.ofNat n_15)), .vh (.tup []) g_6]) (by kernel_rfl) <| .cons H1 <| .cons H2 <| .cons H3 <| .cons H4 <| .cons H5 <| .cons H6 <| .cons H7 <| .cons H8 <| .cons (by kernel_rfl : ltI (Int.ofNat n_6) (Int.ofNat 0) = false) <| .cons H9 <| .cons H10 <| .cons (⟨H11, rfl⟩ : Nat.le (Nat.succ n_6) n_11 ∧ AV.ptr n_9 (n_10 + n_6 * 1) = AV.ptr n_9 (n_10 + n_6 * 1)) <| .cons H12 <| .cons (⟨by kernel_rfl, H13, rfl⟩ : some 1 = some 1 ∧ AEv.storeCells (AHeap.room g_3 11) r (0 + 0) [AV.int IntKind.i64 (Int.ofNat 5)] = some g_4 ∧ AV.tup [] = AV.tup []) <| .cons (⟨by kernel_rfl, H14, rfl⟩ : some 1 = some 1 ∧ AEv.storeCells g_4 r (0 + 1) [AV.str t_1] = some g_5 ∧ AV.tup [] = AV.tup []) <| .cons (by kernel_rfl : AV.sound (AV.ptr n_7 n_8) = true) <| .cons H15 <| .cons (by kernel_rfl : AV.sound (AV.ptr n_7 n_8) = true) <| .cons H9 <| .cons (by kernel_rfl : AV.sound (AV.ptr n_7 n_8) = true) <| .cons (by kernel_rfl : AV.ptr n_7 n_8 = AV.ptr n_7 n_8) <| .cons (by kernel_rfl : AV.sound (AV.ptr n_7 n_8) = true) <| .cons (by kernel_rfl : AV.ptr n_7 n_8 = AV.ptr n_7 n_8) <| .cons (by kernel_rfl : AV.sound (AV.ptr n_7 (n_8 + 3)) = true) <| .cons (by kernel_rfl : AV.ptr n_7 (n_8 + 3) = AV.ptr n_7 (n_8 + 3)) <| .cons (by kernel_rfl : AV.sound (AV.ptr n_7 (n_8 + 3)) = true) <| .cons (by kernel_rfl : AV.ptr n_7 (n_8 + 3) = AV.ptr n_7 (n_8 + 3)) <| .cons (by kernel_rfl : AV.sound (AV.slice n_9 n_10 n_11 c_2) = true) <| .cons H16 <| .cons (by kernel_rfl : AV.sound (AV.slice n_9 n_10 n_11 c_2) = true) <| .cons H10 <| .cons (by kernel_rfl : AV.sound (AV.int IntKind.i64 (Int.ofNat n_6)) = true) <| .cons (by kernel_rfl : AV.int IntKind.i64 (Int.ofNat n_6) = AV.int IntKind.i64 (Int.ofNat n_6)) <| .cons (by kernel_rfl : AV.sound (AV.int IntKind.i64 (Int.ofNat n_6)) = true) <| .cons (by kernel_rfl : AV.int IntKind.i64 (Int.ofNat n_6) = AV.int IntKind.i64 (Int.ofNat n_6)) <| .cons (by kernel_rfl : AV.sound (AV.ptr n_9 (n_10 + n_6 * 1)) = true) <| .cons (⟨H11, rfl⟩ : Nat.le (Nat.succ n_6) n_11 ∧ AV.ptr n_9 (n_10 + n_6 * 1) = AV.ptr n_9 (n_10 + n_6 * 1)) <| .cons (by kernel_rfl : AV.sound (AV.ptr n_9 (n_10 + n_6 * 1)) = true) <| .cons (⟨H11, rfl⟩ : Nat.le (Nat.succ n_6) n_11 ∧ AV.ptr n_9 (n_10 + n_6 * 1) = AV.ptr n_9 (n_10 + n_6 * 1)) <| .cons (by kernel_rfl : AV.sound (AV.str t_1) = true) <| .cons H17 <| .cons (by kernel_rfl : AV.sound (AV.str t_1) = true) <| .cons H12 <| .cons (by kernel_rfl : AV.sound (AV.ptr r (0 + 0)) = true) <| .cons (by kernel_rfl : AV.ptr r (0 + 0) = AV.ptr r (0 + 0)) <| .cons (by kernel_rfl : AV.sound (AV.ptr r (0 + 1)) = true) <| .cons (by kernel_rfl : AV.ptr r (0 + 1) = AV.ptr r (0 + 1)) <| .cons H18 <| .cons H19 <| .cons H20 <| .cons H21 <| .cons (⟨by kernel_rfl, H22, rfl⟩ : some 1 = some 1 ∧ AEv.storeCells (AHeap.room g_5 11) n_12 (n_13 + 1) [AV.int IntKind.i64 (Int.ofNat n_15)] = some g_6 ∧ AV.tup [] = AV.tup []) <| .cons (by kernel_rfl : AV.sound (AV.ptr n_12 n_13) = true) <| .cons H18 <| .cons (by kernel_rfl : AV.sound (AV.ptr n_12 n_13) = true) <| .cons (by kernel_rfl : AV.ptr n_12 n_13 = AV.ptr n_12 n_13) <| .cons (by kernel_rfl : AV.sound (AV.ptr n_12 (n_13 + 1)) = true) <| .cons (by kernel_rfl : AV.ptr n_12 (n_13 + 1) = AV.ptr n_12 (n_13 + 1)) <| .cons (by kernel_rfl : AV.sound (AV.int IntKind.i64 (Int.ofNat n_14)) = true) <| .cons H19 <| .cons (by kernel_rfl : AV.sound (AV.ptr r (0 + 1)) = true) <| .cons (by kernel_rfl : AV.ptr r (0 + 1) = AV.ptr r (0 + 1)) <| .cons (by kernel_rfl : AV.sound (AV.str t_2) = true) <| .cons H20 <| .cons (by kernel_rfl : AV.sound (AV.int IntKind.i64 (Int.ofNat (List.length t_2))) = true) <| .cons (by kernel_rfl : AV.int IntKind.i64 (Int.ofNat (List.length t_2)) = AV.int IntKind.i64 (Int.ofNat (List.length t_2))) <| .cons (by kernel_rfl : AV.sound (AV.int IntKind.i64 (Int.ofNat n_15)) = true) <| .cons H21 <| .cons (by kernel_rfl : AV.sound (AV.ptr n_12 n_13) = true) <| .cons (by kernel_rfl : AV.ptr n_12 n_13 = AV.ptr n_12 n_13) <| .cons (by kernel_rfl : AV.sound (AV.ptr n_12 (n_13 + 1)) = true) <| .cons (by kernel_rfl : AV.ptr n_12 (n_13 + 1) = AV.ptr n_12 (n_13 + 1)) <| .nil
theorem tk_4 (call : CallT → List AV → AHeap → FRes) (q r p b n k x y : Nat) (t : List UInt8) (v : AV) (h g g_1 : AHeap)
    (H1 : load1 (AHeap.room h 11) q 0 = some (.ptr p 0))
    (H2 : load1 (AHeap.room h 11) p (0 + 4) = some v)
    (H3 : AEv.loadCells (AHeap.room h 11) r 0 4 = some [.int .i64 (.ofNat k), .str t, .int .i64 (.ofNat x), .int .i64 (.ofNat y)])
    (H4 : appendA Tryz.prog (AHeap.mk (HT.setN (AHeap.n h + 6 + 1) h.1 (AHeap.n h + 6) (some (AObj.cells [AV.int IntKind.i64 (Int.ofNat k), AV.str t, AV.int IntKind.i64 (Int.ofNat x), AV.int IntKind.i64 (Int.ofNat y)] 64 BK.own 0 0))) (AHeap.n (AHeap.room h 11))) 57 (some 57) v (AV.slice (AHeap.n h + 6) 0 1 (Cap.exact 1)) = some (AV.slice b 0 n (Cap.opn 4), g))
    (H5 : AEv.storeCells g p (0 + 4) [.slice b 0 n (.opn 4)] = some g_1)
    (H6 : load1 g q 0 = some (.ptr p 0))
    (H7 : load1 (AHeap.mk (HT.setN (AHeap.n h + 6 + 1) h.1 (AHeap.n h + 6) (some (.cells [.int .i64 (.ofNat k), .str t, .int .i64 (.ofNat x), .int .i64 (.ofNat y)] 64 .own 0 0))) (AHeap.n (AHeap.room h 11))) q 0 = some (.ptr p 0))
    (H8 : AV.sound v = true)
    (H9 : load1 (AHeap.mk (HT.setN (AHeap.n h + 6 + 1) h.1 (AHeap.n h + 6) (some (.cells [.int .i64 (.ofNat k), .str t, .int .i64 (.ofNat x), .int .i64 (.ofNat y)] 64 .own 0 0))) (AHeap.n (AHeap.room h 11))) p (0 + 4) = some v)
    (H10 : AEv.loadCells (AHeap.mk (HT.setN (AHeap.n h + 6 + 1) h.1 (AHeap.n h + 6) (some (.cells [.int .i64 (.ofNat k), .str t, .int .i64 (.ofNat x), .int .i64 (.ofNat y)] 64 .own 0 0))) (AHeap.n (AHeap.room h 11))) r 0 4 = some [.int .i64 (.ofNat k), .str t, .int .i64 (.ofNat x), .int .i64 (.ofNat y)]) :
    RunF Tryz.prog Tryz.f72 none call [1, 1, 1] (SSt.mk [(1, .ptr q 0), (2, .ptr r 0)] [] .none h) (.nrm)
      (SSt.mk [] [] .none g_1) :=
  sxF_run [] (hs := [.v (.ptr p 0), .v (.ptr p 0), .v v, .v (.agg [.int .i64 (.ofNat k), .str t, .int .i64 (.ofNat x), .int .i64 (.ofNat y)]), .vh (.slice b 0 n (.opn 4)) g, .vh (.tup []) g_1]) (by kernel_rfl) <| .cons H1 <| .cons H1 <| .cons H2 <| .cons H3 <| .cons H4 <| .cons (⟨by kernel_rfl, H5, rfl⟩ : some 1 = some 1 ∧ AEv.storeCells g p (0 + 4) [AV.slice b 0 n (Cap.opn 4)] = some g_1 ∧ AV.tup [] = AV.tup []) <| .cons (by kernel_rfl : AV.sound (AV.ptr p 0) = true) <| .cons H6 <| .cons (by kernel_rfl : AV.sound (AV.ptr p 0) = true) <| .cons H7 <| .cons (by kernel_rfl : AV.sound (AV.ptr p 0) = true) <| .cons H7 <| .cons (by kernel_rfl : AV.sound (AV.ptr p 0) = true) <| .cons (by kernel_rfl : AV.ptr p 0 = AV.ptr p 0) <| .cons (by kernel_rfl : AV.sound (AV.ptr p (0 + 4)) = true) <| .cons (by kernel_rfl : AV.ptr p (0 + 4) = AV.ptr p (0 + 4)) <| .cons H8 <| .cons H9 <| .cons (by kernel_rfl : AV.sound (AV.agg [AV.int IntKind.i64 (Int.ofNat k), AV.str t, AV.int IntKind.i64 (Int.ofNat x), AV.int IntKind.i64 (Int.ofNat y)]) = true) <| .cons H10 <| .cons (by kernel_rfl : AV.sound (AV.ptr p 0) = true) <| .cons (by kernel_rfl : AV.ptr p 0 = AV.ptr p 0) <| .cons (by kernel_rfl : AV.sound (AV.ptr p (0 + 4)) = true) <| .cons (by kernel_rfl : AV.ptr p (0 + 4) = AV.ptr p (0 + 4)) <| .nil
theorem tkN (call : CallT → List AV → AHeap → FRes) (q r c p b n : Nat) (cp : Cap) (v : AV) (h g g1 g2 : AHeap) (n_1 n_2 : Nat)
    (H1 : call (.fn 102) [.int .u8 (.ofNat c)] h = FRes.ret (.bool false) g)
    (H2 : call (.fn 105) [.int .u8 (.ofNat c)] g = FRes.ret (.bool true) g1)
    (H3 : load1 g1 q 0 = some (.ptr n_1 n_2))
    (H4 : call (.fn 107) [.ptr n_1 n_2] g1 = FRes.pan v g2) :
    RunF Tryz.prog Tryz.f72 none call [1, 1, 0, 1] (SSt.mk [(1, .ptr q 0), (2, .ptr r 0), (3, .int .u8 (.ofNat c))] [] .none h) (.pan v)
      (SSt.mk [] [] .none g2) :=
  sxF_run [] (hs := [.c (.bool false) g, .b false, .c (.bool true) g1, .b true, .v (.ptr n_1 n_2), .p v g2]) (by kernel_rfl) <| .cons H1 <| .cons (by kernel_rfl : false = false) <| .cons H2 <| .cons (by kernel_rfl : true = true) <| .cons H3 <| .cons H4 <| .nil
theorem tkQ (call : CallT → List AV → AHeap → FRes) (q r c p b n : Nat) (cp : Cap) (v : AV) (h g g1 g2 : AHeap) (n_1 n_2 : Nat)
    (H1 : call (.fn 102) [.int .u8 (.ofNat c)] h = FRes.ret (.bool false) g)
    (H2 : call (.fn 105) [.int .u8 (.ofNat c)] g = FRes.ret (.bool false) g1)
    (H3 : eqI (.ofNat c) (.ofNat 34) = true)
    (H4 : load1 g1 q 0 = some (.ptr n_1 n_2))
    (H5 : call (.fn 108) [.ptr n_1 n_2] g1 = FRes.pan v g2) :
    RunF Tryz.prog Tryz.f72 none call [1, 1, 0, 1] (SSt.mk [(1, .ptr q 0), (2, .ptr r 0), (3, .int .u8 (.ofNat c))] [] .none h) (.pan v)
      (SSt.mk [] [] .none g2) :=
  sxF_run [] (hs := [.c (.bool false) g, .b false, .c (.bool false) g1, .b false, .b true, .v (.ptr n_1 n_2), .p v g2]) (by kernel_rfl) <| .cons H1 <| .cons (by kernel_rfl : false = false) <| .cons H2 <| .cons (by kernel_rfl : false = false) <| .cons H3 <| .cons H4 <| .cons H5 <| .nil
theorem tkS (call : CallT → List AV → AHeap → FRes) (q r c p b n : Nat) (cp : Cap) (v : AV) (h g g1 g2 : AHeap) (n_1 n_2 n_3 : Nat) (v_1 : AV) (g_1 : AHeap)
    (H1 : call (.fn 102) [.int .u8 (.ofNat c)] h = FRes.ret (.bool false) g)
    (H2 : call (.fn 105) [.int .u8 (.ofNat c)] g = FRes.ret (.bool false) g1)
    (H3 : eqI (.ofNat c) (.ofNat 34) = false)
    (H4 : load1 g1 q 0 = some (.ptr p 0))
    (H5 : load1 g1 p (0 + 3) = some (.slice b 0 n cp))
    (H6 : call (.fn 109) [.slice b 0 n cp, .fn 110 [] [.ptr q 0]] g1 = FRes.ret (.int .i64 (.negSucc 0)) g2)
    (H7 : load1 g2 q 0 = some (.ptr n_1 n_2))
    (H8 : load1 g2 n_1 (n_2 + 1) = some (.int .i64 (.ofNat n_3)))
    (H9 : call (.fn 106) [.int .i64 (.ofNat n_3)] g2 = FRes.pan v_1 g_1) :
    RunF Tryz.prog Tryz.f72 none call [1, 1, 0, 1] (SSt.mk [(1, .ptr q 0), (2, .ptr r 0), (3, .int .u8 (.ofNat c))] [] .none h) (.pan v_1)
      (SSt.mk [] [] .none g_1) :=
  sxF_run [] (hs := [.c (.bool false) g, .b false, .c (.bool false) g1, .b false, .b false, .v (.ptr p 0), .v (.slice b 0 n cp), .c (.int .i64 (-1)) g2, .b true, .v (.ptr n_1 n_2), .v (.int .i64 (.ofNat n_3)), .p v_1 g_1]) (by kernel_rfl) <| .cons H1 <| .cons (by kernel_rfl : false = false) <| .cons H2 <| .cons (by kernel_rfl : false = false) <| .cons H3 <| .cons H4 <| .cons H5 <| .cons H6 <| .cons (by kernel_rfl : ltI (Int.negSucc 0) (Int.ofNat 0) = true) <| .cons H7 <| .cons H8 <| .cons H9 <| .nil
theorem hp1 (call : CallT → List AV → AHeap → FRes) (s t : List UInt8) (h : AHeap) (b_1 : Bool) (g_1 : AHeap)
    (H1 : call (.fn 148) [.str s, .str t] h = FRes.ret (.bool b_1) g_1) :
    RunF Tryz.prog Tryz.f111 none call [] (SSt.mk [(0, .str s), (1, .str t)] [] .none h) (.ret)
      (SSt.mk [(4, .bool b_1)] [] .none g_1) :=
  sxF_run [4] (hs := [.c (.bool b_1) g_1]) (by kernel_rfl) <| .cons H1 <| .nil
theorem hp2_1 (call : CallT → List AV → AHeap → FRes) (s t : List UInt8) (h : AHeap) (t_1 : List UInt8)
    (H1 : leI (.ofNat (List.length t)) (.ofNat (List.length s)) = true)
    (H2 : sliceA Tryz.prog h 9 (AV.str s) none (some (AV.int IntKind.i64 (Int.ofNat (List.length t)))) none = some (AV.str t_1)) :
    RunF Tryz.prog Tryz.f148 none call [] (SSt.mk [(0, .str s), (1, .str t)] [] .none h) (.ret)
      (SSt.mk [(4, .bool (beqBytes t_1 t))] [] .none h) :=
  sxF_run [4] (hs := [.b true, .b true, .b true, .b true, .v (.str t_1), .b true, .b true, .b true]) (by kernel_rfl) <| .cons H1 <| .cons H1 <| .cons H1 <| .cons H1 <| .cons H2 <| .cons H1 <| .cons H1 <| .cons H1 <| .nil
theorem hp2_2 (call : CallT → List AV → AHeap → FRes) (s t : List UInt8) (h : AHeap)
    (H1 : leI (.ofNat (List.length t)) (.ofNat (List.length s)) = false) :
    RunF Tryz.prog Tryz.f148 none call [] (SSt.mk [(0, .str s), (1, .str t)] [] .none h) (.ret)
      (SSt.mk [(4, .bool false)] [] .none h) :=
  sxF_run [4] (hs := [.b false, .b false, .b false, .b false, .b false, .b false, .b false]) (by kernel_rfl) <| .cons H1 <| .cons H1 <| .cons H1 <| .cons H1 <| .cons H1 <| .cons H1 <| .cons H1 <| .nil
theorem tk2 (call : CallT → List AV → AHeap → FRes) (q : Nat) (t : List UInt8) (h : AHeap) (n_1 n_2 : Nat) (t_1 : List UInt8) (n_3 : Nat) (t_2 : List UInt8) (b_1 : Bool) (g_1 : AHeap)
    (H1 : load1 (AHeap.room h 12) q 0 = some (.ptr n_1 n_2))
    (H2 : load1 (AHeap.room h 12) n_1 (n_2 + 0) = some (.str t_1))
    (H3 : load1 (AHeap.room h 12) n_1 (n_2 + 1) = some (.int .i64 (.ofNat n_3)))
    (H4 : sliceA Tryz.prog (AHeap.room h 12) 9 (AV.str t_1) (some (AV.int IntKind.i64 (Int.ofNat n_3))) none none = some (AV.str t_2))
    (H5 : call (.fn 111) [.str t_2, .str t] (AHeap.room h 12) = FRes.ret (.bool b_1) g_1) :
    RunF Tryz.prog Tryz.f110 none call [] (SSt.mk [(0, .str t), (1, .ptr q 0)] [] .none h) (.ret)
      (SSt.mk [(3, .bool b_1)] [] .none g_1) :=
  sxF_run [3] (hs := [.v (.ptr n_1 n_2), .v (.str t_1), .v (.ptr n_1 n_2), .v (.int .i64 (.ofNat n_3)), .v (.str t_2), .c (.bool b_1) g_1]) (by kernel_rfl) <| .cons H1 <| .cons H2 <| .cons H1 <| .cons H3 <| .cons H4 <| .cons H5 <| .cons (by kernel_rfl : AV.sound (AV.ptr n_1 n_2) = true) <| .cons H1 <| .cons (by kernel_rfl : AV.sound (AV.ptr n_1 n_2) = true) <| .cons (by kernel_rfl : AV.ptr n_1 n_2 = AV.ptr n_1 n_2) <| .cons (by kernel_rfl : AV.sound (AV.ptr n_1 (n_2 + 0)) = true) <| .cons (by kernel_rfl : AV.ptr n_1 (n_2 + 0) = AV.ptr n_1 (n_2 + 0)) <| .cons (by kernel_rfl : AV.sound (AV.str t_1) = true) <| .cons H2 <| .cons (by kernel_rfl : AV.sound (AV.ptr n_1 n_2) = true) <| .cons H1 <| .cons (by kernel_rfl : AV.sound (AV.ptr n_1 n_2) = true) <| .cons (by kernel_rfl : AV.ptr n_1 n_2 = AV.ptr n_1 n_2) <| .cons (by kernel_rfl : AV.sound (AV.ptr n_1 (n_2 + 1)) = true) <| .cons (by kernel_rfl : AV.ptr n_1 (n_2 + 1) = AV.ptr n_1 (n_2 + 1)) <| .cons (by kernel_rfl : AV.sound (AV.int IntKind.i64 (Int.ofNat n_3)) = true) <| .cons H3 <| .cons (by kernel_rfl : AV.sound (AV.str t_2) = true) <| .cons H4 <| .cons (by kernel_rfl : AV.sound (AV.str t) = true) <| .cons (by kernel_rfl : AV.str t = AV.str t) <| .cons (by kernel_rfl : AV.sound (AV.bool b_1) = true) <| .cons (by kernel_rfl : AV.bool b_1 = AV.bool b_1) <| .nil
theorem ifl_1 (call : CallT → List AV → AHeap → FRes) (q b n i : Nat) (cp : Cap) (h : AHeap) (t_1 : List UInt8) (b_1 : Bool) (g_1 : AHeap)
    (H1 : ltI (.ofNat i) (.ofNat n) = true)
    (H2 : Nat.le (Nat.succ i) n)
    (H3 : load1 h b (0 + i * 1) = some (.str t_1))
    (H4 : call (.fn 110) [.str t_1, .ptr q 0] h = FRes.ret (.bool b_1) g_1)
    (H5 : b_1 = true) :
    RunF Tryz.prog Tryz.f109 none call [1, 0, 1, 0, 0] (SSt.mk [(0, .slice b 0 n cp), (1, .fn 110 [] [.ptr q 0]), (7, .int .i64 (.ofNat n)), (8, .int .i64 (.ofNat i))] [] .none h) (.ret)
      (SSt.mk [(0, .slice b 0 n cp), (1, .fn 110 [] [.ptr q 0]), (4, .int .i64 (.ofNat i)), (7, .int .i64 (.ofNat n)), (8, .int .i64 (.ofNat i))] [] .none g_1) :=
  sxF_run [0, 1, 4, 7, 8] (hs := [.b true, .v (.ptr b (0 + i * 1)), .v (.str t_1), .c (.bool b_1) g_1, .b true]) (by kernel_rfl) <| .cons H1 <| .cons (⟨H2, rfl⟩ : Nat.le (Nat.succ i) n ∧ AV.ptr b (0 + i * 1) = AV.ptr b (0 + i * 1)) <| .cons H3 <| .cons H4 <| .cons H5 <| .nil
theorem ifl_2 (call : CallT → List AV → AHeap → FRes) (q b n i : Nat) (cp : Cap) (h : AHeap) (t_1 : List UInt8) (b_1 : Bool) (g_1 : AHeap) (n_1 : Nat)
    (H1 : ltI (.ofNat i) (.ofNat n) = true)
    (H2 : Nat.le (Nat.succ i) n)
    (H3 : load1 h b (0 + i * 1) = some (.str t_1))
    (H4 : call (.fn 110) [.str t_1, .ptr q 0] h = FRes.ret (.bool b_1) g_1)
    (H5 : b_1 = false)
    (H6 : arith .add .i64 (.ofNat i) (.ofNat 1) = some (.int .i64 (.ofNat n_1))) :
    RunF Tryz.prog Tryz.f109 none call [1, 0, 1, 0, 0] (SSt.mk [(0, .slice b 0 n cp), (1, .fn 110 [] [.ptr q 0]), (7, .int .i64 (.ofNat n)), (8, .int .i64 (.ofNat i))] [] .none h) (.nrm)
      (SSt.mk [(0, .slice b 0 n cp), (1, .fn 110 [] [.ptr q 0]), (7, .int .i64 (.ofNat n)), (8, .int .i64 (.ofNat n_1))] [] .none g_1) :=
  sxF_run [0, 1, 4, 7, 8] (hs := [.b true, .v (.ptr b (0 + i * 1)), .v (.str t_1), .c (.bool b_1) g_1, .b false, .v (.int .i64 (.ofNat n_1))]) (by kernel_rfl) <| .cons H1 <| .cons (⟨H2, rfl⟩ : Nat.le (Nat.succ i) n ∧ AV.ptr b (0 + i * 1) = AV.ptr b (0 + i * 1)) <| .cons H3 <| .cons H4 <| .cons H5 <| .cons H6 <| .nil
theorem ifl_3 (call : CallT → List AV → AHeap → FRes) (q b n i : Nat) (cp : Cap) (h : AHeap)
    (H1 : ltI (.ofNat i) (.ofNat n) = false) :
    RunF Tryz.prog Tryz.f109 none call [1, 0, 1, 0, 0] (SSt.mk [(0, .slice b 0 n cp), (1, .fn 110 [] [.ptr q 0]), (7, .int .i64 (.ofNat n)), (8, .int .i64 (.ofNat i))] [] .none h) (.exit 0)
      (SSt.mk [(0, .slice b 0 n cp), (1, .fn 110 [] [.ptr q 0]), (7, .int .i64 (.ofNat n)), (8, .int .i64 (.ofNat i))] [] .none h) :=
  sxF_run [0, 1, 4, 7, 8] (hs := [.b false]) (by kernel_rfl) <| .cons H1 <| .nil
theorem if0 (call : CallT → List AV → AHeap → FRes) (q b n : Nat) (cp : Cap) (h g : AHeap) (i : Nat)
    (H1 : RunF Tryz.prog Tryz.f109 none call [1, 0, 1, 0] (SSt.mk [(8, .int .i64 (.ofNat 0)), (7, .int .i64 (.ofNat n)), (4, .int .i64 (.ofNat 0)), (0, .slice b 0 n cp), (1, .fn 110 [] [.ptr q 0])] [] .none h) (.ret) (SSt.mk [(4, .int .i64 (.ofNat i))] [] .none g)) :
    RunF Tryz.prog Tryz.f109 none call [] (SSt.mk [(0, .slice b 0 n cp), (1, .fn 110 [] [.ptr q 0])] [] .none h) (.ret)
      (SSt.mk [(4, .int .i64 (.ofNat i))] [] .none g) :=
  sxF_run [4] (hs := [Hint.loop AEx.ret (SSt.mk [(4, AV.int IntKind.i64 (Int.ofNat i))] [] Rc.none g)]) (by kernel_rfl) <| .cons H1 <| .nil
theorem if1 (call : CallT → List AV → AHeap → FRes) (q b n : Nat) (cp : Cap) (h g : AHeap)
    (H1 : RunF Tryz.prog Tryz.f109 none call [1, 0, 1, 0] (SSt.mk [(8, .int .i64 (.ofNat 0)), (7, .int .i64 (.ofNat n)), (4, .int .i64 (.ofNat 0)), (0, .slice b 0 n cp), (1, .fn 110 [] [.ptr q 0])] [] .none h) (.exit 0) (SSt.mk [] [] .none g)) :
    RunF Tryz.prog Tryz.f109 none call [] (SSt.mk [(0, .slice b 0 n cp), (1, .fn 110 [] [.ptr q 0])] [] .none h) (.ret)
      (SSt.mk [(4, .int .i64 (.negSucc 0))] [] .none g) :=
  sxF_run [4] (hs := [Hint.loop (AEx.exit 0) (SSt.mk [] [] Rc.none g)]) (by kernel_rfl) <| .cons H1 <| .nil
theorem lx_0 (call : CallT → List AV → AHeap → FRes) (s : List UInt8) (h : AHeap) :
    RunF Tryz.prog Tryz.f37 none call [0] (SSt.mk [(0, .str s)] [] .none h) (.nrm)
      (SSt.mk [(0, .str s), (2, .ptr (AHeap.n h) 0), (3, .ptr (AHeap.n (AHeap.push h (.cells [.nilS] 57 .own 0 0))) 0)] [] .none (AHeap.push (AHeap.push h (.cells [.nilS] 57 .own 0 0)) (.cells [.nilI] 37 .own 0 0))) :=
  sxF_run [0, 2, 3] (hs := []) (by kernel_rfl) <| .nil
theorem lx_1 (call : CallT → List AV → AHeap → FRes) (s : List UInt8) (a b m c n : Nat) (cp : Cap) (h g g1 : AHeap)
    (H1 : call (.fn 68) [] h = FRes.ret (.map m) g)
    (H2 : call (.fn 69) [] g = FRes.ret (.slice c 0 n cp) g1) :
    RunF Tryz.prog Tryz.f37 none call [1, 0] (SSt.mk [(0, .str s), (2, .ptr a 0), (3, .ptr b 0)] [] .none h) (.nrm)
      (SSt.mk [(0, .str s), (2, .ptr a 0), (3, .ptr b 0), (4, .ptr (AHeap.n g1) 0)] [] .none (AHeap.push g1 (.cells [.str s, .int .i64 (.ofNat 0), .map m, .slice c 0 n cp, .nilS] 131 .own 0 0))) :=
  sxF_run [0, 2, 3, 4] (hs := [.c (.map m) g, .c (.slice c 0 n cp) g1]) (by kernel_rfl) <| .cons H1 <| .cons H2 <| .nil
theorem lx_2 (call : CallT → List AV → AHeap → FRes) (s : List UInt8) (a b p : Nat) (h : AHeap) :
    RunF Tryz.prog Tryz.f37 none call [1, 1, 0] (SSt.mk [(0, .str s), (2, .ptr a 0), (3, .ptr b 0), (4, .ptr p 0)] [] .none h) (.nrm)
      (SSt.mk [(0, .str s), (2, .ptr a 0), (3, .ptr b 0), (4, .ptr p 0)] [.call 70 [.ptr a 0, .ptr b 0]] .none h) :=
  sxF_run [0, 2, 3, 4] (hs := []) (by kernel_rfl) <| .nil
theorem lx_l_1 (call : CallT → List AV → AHeap → FRes) (s : List UInt8) (a b p : Nat) (d : List ADef) (h : AHeap) (n_1 n_2 n_3 : Nat) (g_1 : AHeap)
    (H1 : load1 h p (0 + 1) = some (.int .i64 (.ofNat n_1)))
    (H2 : ltI (.ofNat n_1) (.ofNat (List.length s)) = true)
    (H3 : idxS n_1 s = some (.int .u8 (.ofNat n_2)))
    (H4 : eqI (.ofNat n_2) (.ofNat 32) = true)
    (H5 : arith .add .i64 (.ofNat n_1) (.ofNat 1) = some (.int .i64 (.ofNat n_3)))
    (H6 : AEv.storeCells h p (0 + 1) [.int .i64 (.ofNat n_3)] = some g_1) :
    RunF Tryz.prog Tryz.f37 none call [1, 1, 1, 0, 0, 0] (SSt.mk [(0, .str s), (2, .ptr a 0), (3, .ptr b 0), (4, .ptr p 0)] d .none h) (.nrm)
      (SSt.mk [(0, .str s), (2, .ptr a 0), (3, .ptr b 0), (4, .ptr p 0)] d .none g_1) :=
  sxF_run [0, 2, 3, 4] (hs := [.v (.int .i64 (.ofNat n_1)), .b true, .v (.int .i64 (.ofNat n_1)), .v (.int .u8 (.ofNat n_2)), .b true, .b true, .v (.int .i64 (.ofNat n_1)), .v (.int .i64 (.ofNat n_3)), .vh (.tup []) g_1]) (by kernel_rfl) <| .cons H1 <| .cons H2 <| .cons H1 <| .cons H3 <| .cons H4 <| .cons H4 <| .cons H1 <| .cons H5 <| .cons (⟨by kernel_rfl, H6, rfl⟩ : some 1 = some 1 ∧ AEv.storeCells h p (0 + 1) [AV.int IntKind.i64 (Int.ofNat n_3)] = some g_1 ∧ AV.tup [] = AV.tup []) <| .nil
theorem lx_l_2 (call : CallT → List AV → AHeap → FRes) (s : List UInt8) (a b p : Nat) (d : List ADef) (h : AHeap) (n_1 n_2 n_3 : Nat) (g_1 : AHeap)
    (H1 : load1 h p (0 + 1) = some (.int .i64 (.ofNat n_1)))
    (H2 : ltI (.ofNat n_1) (.ofNat (List.length s)) = true)
    (H3 : idxS n_1 s = some (.int .u8 (.ofNat n_2)))
    (H4 : eqI (.ofNat n_2) (.ofNat 32) = false)
    (H5 : eqI (.ofNat n_2) (.ofNat 9) = true)
    (H6 : arith .add .i64 (.ofNat n_1) (.ofNat 1) = some (.int .i64 (.ofNat n_3)))
    (H7 : AEv.storeCells h p (0 + 1) [.int .i64 (.ofNat n_3)] = some g_1) :
    RunF Tryz.prog Tryz.f37 none call [1, 1, 1, 0, 0, 0] (SSt.mk [(0, .str s), (2, .ptr a 0), (3, .ptr b 0), (4, .ptr p 0)] d .none h) (.nrm)
      (SSt.mk [(0, .str s), (2, .ptr a 0), (3, .ptr b 0), (4, .ptr p 0)] d .none g_1) :=
  sxF_run [0, 2, 3, 4] (hs := [.v (.int .i64 (.ofNat n_1)), .b true, .v (.int .i64 (.ofNat n_1)), .v (.int .u8 (.ofNat n_2)), .b false, .b true, .b true, .v (.int .i64 (.ofNat n_1)), .v (.int .i64 (.ofNat n_3)), .vh (.tup []) g_1]) (by kernel_rfl) <| .cons H1 <| .cons H2 <| .cons H1 <| .cons H3 <| .cons H4 <| .cons H5 <| .cons H5 <| .cons H1 <| .cons H6 <| .cons (⟨by kernel_rfl, H7, rfl⟩ : some 1 = some 1 ∧ AEv.storeCells h p (0 + 1) [AV.int IntKind.i64 (Int.ofNat n_3)] = some g_1 ∧ AV.tup [] = AV.tup []) <| .nil
theorem lx_l_3 (call : CallT → List AV → AHeap → FRes) (s : List UInt8) (a b p : Nat) (d : List ADef) (h : AHeap) (n_1 n_2 n_3 : Nat) (g_1 : AHeap)
    (H1 : load1 h p (0 + 1) = some (.int .i64 (.ofNat n_1)))
    (H2 : ltI (.ofNat n_1) (.ofNat (List.length s)) = true)
    (H3 : idxS n_1 s = some (.int .u8 (.ofNat n_2)))
    (H4 : eqI (.ofNat n_2) (.ofNat 32) = false)
    (H5 : eqI (.ofNat n_2) (.ofNat 9) = false)
    (H6 : eqI (.ofNat n_2) (.ofNat 10) = true)
    (H7 : arith .add .i64 (.ofNat n_1) (.ofNat 1) = some (.int .i64 (.ofNat n_3)))
    (H8 : AEv.storeCells h p (0 + 1) [.int .i64 (.ofNat n_3)] = some g_1) :
    RunF Tryz.prog Tryz.f37 none call [1, 1, 1, 0, 0, 0] (SSt.mk [(0, .str s), (2, .ptr a 0), (3, .ptr b 0), (4, .ptr p 0)] d .none h) (.nrm)
      (SSt.mk [(0, .str s), (2, .ptr a 0), (3, .ptr b 0), (4, .ptr p 0)] d .none g_1) :=
  sxF_run [0, 2, 3, 4] (hs := [.v (.int .i64 (.ofNat n_1)), .b true, .v (.int .i64 (.ofNat n_1)), .v (.int .u8 (.ofNat n_2)), .b false, .b false, .b true, .b true, .v (.int .i64 (.ofNat n_1)), .v (.int .i64 (.ofNat n_3)), .vh (.tup []) g_1]) (by kernel_rfl) <| .cons H1 <| .cons H2 <| .cons H1 <| .cons H3 <| .cons H4 <| .cons H5 <| .cons H6 <| .cons H6 <| .cons H1 <| .cons H7 <| .cons (⟨by kernel_rfl, H8, rfl⟩ : some 1 = some 1 ∧ AEv.storeCells h p (0 + 1) [AV.int IntKind.i64 (Int.ofNat n_3)] = some g_1 ∧ AV.tup [] = AV.tup []) <| .nil
theorem lx_l_4 (call : CallT → List AV → AHeap → FRes) (s : List UInt8) (a b p : Nat) (d : List ADef) (h : AHeap) (n_1 n_2 n_3 : Nat) (g_1 : AHeap)
    (H1 : load1 h p (0 + 1) = some (.int .i64 (.ofNat n_1)))
    (H2 : ltI (.ofNat n_1) (.ofNat (List.length s)) = true)
    (H3 : idxS n_1 s = some (.int .u8 (.ofNat n_2)))
    (H4 : eqI (.ofNat n_2) (.ofNat 32) = false)
    (H5 : eqI (.ofNat n_2) (.ofNat 9) = false)
    (H6 : eqI (.ofNat n_2) (.ofNat 10) = false)
    (H7 : eqI (.ofNat n_2) (.ofNat 13) = true)
    (H8 : arith .add .i64 (.ofNat n_1) (.ofNat 1) = some (.int .i64 (.ofNat n_3)))
    (H9 : AEv.storeCells h p (0 + 1) [.int .i64 (.ofNat n_3)] = some g_1) :
    RunF Tryz.prog Tryz.f37 none call [1, 1, 1, 0, 0, 0] (SSt.mk [(0, .str s), (2, .ptr a 0), (3, .ptr b 0), (4, .ptr p 0)] d .none h) (.nrm)
      (SSt.mk [(0, .str s), (2, .ptr a 0), (3, .ptr b 0), (4, .ptr p 0)] d .none g_1) :=
  sxF_run [0, 2, 3, 4] (hs := [.v (.int .i64 (.ofNat n_1)), .b true, .v (.int .i64 (.ofNat n_1)), .v (.int .u8 (.ofNat n_2)), .b false, .b false, .b false, .b true, .v (.int .i64 (.ofNat n_1)), .v (.int .i64 (.ofNat n_3)), .vh (.tup []) g_1]) (by kernel_rfl) <| .cons H1 <| .cons H2 <| .cons H1 <| .cons H3 <| .cons H4 <| .cons H5 <| .cons H6 <| .cons H7 <| .cons H1 <| .cons H8 <| .cons (⟨by kernel_rfl, H9, rfl⟩ : some 1 = some 1 ∧ AEv.storeCells h p (0 + 1) [AV.int IntKind.i64 (Int.ofNat n_3)] = some g_1 ∧ AV.tup [] = AV.tup []) <| .nil
theorem lx_l_5 (call : CallT → List AV → AHeap → FRes) (s : List UInt8) (a b p : Nat) (d : List ADef) (h : AHeap) (n_1 n_2 : Nat) (g_1 : AHeap)
    (H1 : load1 h p (0 + 1) = some (.int .i64 (.ofNat n_1)))
    (H2 : ltI (.ofNat n_1) (.ofNat (List.length s)) = true)
    (H3 : idxS n_1 s = some (.int .u8 (.ofNat n_2)))
    (H4 : eqI (.ofNat n_2) (.ofNat 32) = false)
    (H5 : eqI (.ofNat n_2) (.ofNat 9) = false)
    (H6 : eqI (.ofNat n_2) (.ofNat 10) = false)
    (H7 : eqI (.ofNat n_2) (.ofNat 13) = false)
    (H8 : eqI (.ofNat n_2) (.ofNat 35) = true)
    (H9 : call (.fn 71) [.ptr p 0] h = FRes.ret (.tup []) g_1) :
    RunF Tryz.prog Tryz.f37 none call [1, 1, 1, 0, 0, 0] (SSt.mk [(0, .str s), (2, .ptr a 0), (3, .ptr b 0), (4, .ptr p 0)] d .none h) (.nrm)
      (SSt.mk [(0, .str s), (2, .ptr a 0), (3, .ptr b 0), (4, .ptr p 0)] d .none g_1) :=
  sxF_run [0, 2, 3, 4] (hs := [.v (.int .i64 (.ofNat n_1)), .b true, .v (.int .i64 (.ofNat n_1)), .v (.int .u8 (.ofNat n_2)), .b false, .b false, .b false, .b false, .b true, .c (.tup []) g_1]) (by kernel_rfl) <| .cons H1 <| .cons H2 <| .cons H1 <| .cons H3 <| .cons H4 <| .cons H5 <| .cons H6 <| .cons H7 <| .cons H8 <| .cons H9 <| .nil
theorem lx_l_6 (call : CallT → List AV → AHeap → FRes) (s : List UInt8) (a b p : Nat) (d : List ADef) (h : AHeap) (n_1 n_2 : Nat) (g_1 : AHeap)
    (H1 : load1 h p (0 + 1) = some (.int .i64 (.ofNat n_1)))
    (H2 : ltI (.ofNat n_1) (.ofNat (List.length s)) = true)
    (H3 : idxS n_1 s = some (.int .u8 (.ofNat n_2)))
    (H4 : eqI (.ofNat n_2) (.ofNat 32) = false)
    (H5 : eqI (.ofNat n_2) (.ofNat 9) = false)
    (H6 : eqI (.ofNat n_2) (.ofNat 10) = false)
    (H7 : eqI (.ofNat n_2) (.ofNat 13) = false)
    (H8 : eqI (.ofNat n_2) (.ofNat 35) = false)
    (H9 : call (.fn 72) [.ptr p 0] h = FRes.ret (.tup []) g_1) :
    RunF Tryz.prog Tryz.f37 none call [1, 1, 1, 0, 0, 0] (SSt.mk [(0, .str s), (2, .ptr a 0), (3, .ptr b 0), (4, .ptr p 0)] d .none h) (.nrm)
      (SSt.mk [(0, .str s), (2, .ptr a 0), (3, .ptr b 0), (4, .ptr p 0)] d .none g_1) :=
  sxF_run [0, 2, 3, 4] (hs := [.v (.int .i64 (.ofNat n_1)), .b true, .v (.int .i64 (.ofNat n_1)), .v (.int .u8 (.ofNat n_2)), .b false, .b false, .b false, .b false, .b false, .c (.tup []) g_1]) (by kernel_rfl) <| .cons H1 <| .cons H2 <| .cons H1 <| .cons H3 <| .cons H4 <| .cons H5 <| .cons H6 <| .cons H7 <| .cons H8 <| .cons H9 <| .nil
theorem lx_l_7 (call : CallT → List AV → AHeap → FRes) (s : List UInt8) (a b p : Nat) (d : List ADef) (h : AHeap) (n_1 : Nat)
    (H1 : load1 h p (0 + 1) = some (.int .i64 (.ofNat n_1)))
    (H2 : ltI (.ofNat n_1) (.ofNat (List.length s)) = false) :
    RunF Tryz.prog Tryz.f37 none call [1, 1, 1, 0, 0, 0] (SSt.mk [(0, .str s), (2, .ptr a 0), (3, .ptr b 0), (4, .ptr p 0)] d .none h) (.exit 0)
      (SSt.mk [(0, .str s), (2, .ptr a 0), (3, .ptr b 0), (4, .ptr p 0)] d .none h) :=
  sxF_run [0, 2, 3, 4] (hs := [.v (.int .i64 (.ofNat n_1)), .b false]) (by kernel_rfl) <| .cons H1 <| .cons H2 <| .nil
theorem lx_r (call : CallT → List AV → AHeap → FRes) (s : List UInt8) (a b p : Nat) (v : AV) (d : List ADef) (h g : AHeap) (n_1 n_2 : Nat)
    (H1 : load1 h p (0 + 1) = some (.int .i64 (.ofNat n_1)))
    (H2 : ltI (.ofNat n_1) (.ofNat (List.length s)) = true)
    (H3 : idxS n_1 s = some (.int .u8 (.ofNat n_2)))
    (H4 : eqI (.ofNat n_2) (.ofNat 32) = false)
    (H5 : eqI (.ofNat n_2) (.ofNat 9) = false)
    (H6 : eqI (.ofNat n_2) (.ofNat 10) = false)
    (H7 : eqI (.ofNat n_2) (.ofNat 13) = false)
    (H8 : eqI (.ofNat n_2) (.ofNat 35) = true)
    (H9 : call (.fn 71) [.ptr p 0] h = FRes.pan v g) :
    RunF Tryz.prog Tryz.f37 none call [1, 1, 1, 0, 0, 0] (SSt.mk [(0, .str s), (2, .ptr a 0), (3, .ptr b 0), (4, .ptr p 0)] d .none h) (.pan v)
      (SSt.mk [(0, .str s), (2, .ptr a 0), (3, .ptr b 0), (4, .ptr p 0)] d .none g) :=
  sxF_run [0, 2, 3, 4] (hs := [.v (.int .i64 (.ofNat n_1)), .b true, .v (.int .i64 (.ofNat n_1)), .v (.int .u8 (.ofNat n_2)), .b false, .b false, .b false, .b false, .b true, .p v g]) (by kernel_rfl) <| .cons H1 <| .cons H2 <| .cons H1 <| .cons H3 <| .cons H4 <| .cons H5 <| .cons H6 <| .cons H7 <| .cons H8 <| .cons H9 <| .nil
theorem lx_t (call : CallT → List AV → AHeap → FRes) (s : List UInt8) (a b p : Nat) (v : AV) (d : List ADef) (h g : AHeap) (n_1 n_2 : Nat)
    (H1 : load1 h p (0 + 1) = some (.int .i64 (.ofNat n_1)))
    (H2 : ltI (.ofNat n_1) (.ofNat (List.length s)) = true)
    (H3 : idxS n_1 s = some (.int .u8 (.ofNat n_2)))
    (H4 : eqI (.ofNat n_2) (.ofNat 32) = false)
    (H5 : eqI (.ofNat n_2) (.ofNat 9) = false)
    (H6 : eqI (.ofNat n_2) (.ofNat 10) = false)
    (H7 : eqI (.ofNat n_2) (.ofNat 13) = false)
    (H8 : eqI (.ofNat n_2) (.ofNat 35) = false)
    (H9 : call (.fn 72) [.ptr p 0] h = FRes.pan v g) :
    RunF Tryz.prog Tryz.f37 none call [1, 1, 1, 0, 0, 0] (SSt.mk [(0, .str s), (2, .ptr a 0), (3, .ptr b 0), (4, .ptr p 0)] d .none h) (.pan v)
      (SSt.mk [(0, .str s), (2, .ptr a 0), (3, .ptr b 0), (4, .ptr p 0)] d .none g) :=
  sxF_run [0, 2, 3, 4] (hs := [.v (.int .i64 (.ofNat n_1)), .b true, .v (.int .i64 (.ofNat n_1)), .v (.int .u8 (.ofNat n_2)), .b false, .b false, .b false, .b false, .b false, .p v g]) (by kernel_rfl) <| .cons H1 <| .cons H2 <| .cons H1 <| .cons H3 <| .cons H4 <| .cons H5 <| .cons H6 <| .cons H7 <| .cons H8 <| .cons H9 <| .nil
theorem lx_e (call : CallT → List AV → AHeap → FRes) (s : List UInt8) (a b p c n i : Nat) (v : AV) (d : List ADef) (h g g_1 g_2 : AHeap)
    (H1 : load1 (AHeap.room h 13) p (0 + 4) = some v)
    (H2 : load1 (AHeap.room h 13) p (0 + 1) = some (.int .i64 (.ofNat i)))
    (H3 : appendA Tryz.prog (AHeap.mk (HT.setN (AHeap.n h + 9 + 1) h.1 (AHeap.n h + 9) (some (AObj.cells [AV.int IntKind.i64 (Int.ofNat 0), AV.str [], AV.int IntKind.i64 (Int.ofNat 0), AV.int IntKind.i64 (Int.ofNat i)] 64 BK.own 0 0))) (AHeap.n (AHeap.room h 13))) 57 (some 57) v (AV.slice (AHeap.n h + 9) 0 1 (Cap.exact 1)) = some (AV.slice c 0 n (Cap.opn 4), g))
    (H4 : AEv.storeCells g a 0 [.slice c 0 n (.opn 4)] = some g_1)
    (H5 : AEv.storeCells g_1 b 0 [.nilI] = some g_2)
    (H6 : AV.sound v = true)
    (H7 : load1 (AHeap.mk (HT.setN (AHeap.n h + 9 + 1) h.1 (AHeap.n h + 9) (some (.cells [.int .i64 (.ofNat 0), .str [], .int .i64 (.ofNat 0), .int .i64 (.ofNat i)] 64 .own 0 0))) (AHeap.n (AHeap.room h 13))) p (0 + 4) = some v)
    (H8 : load1 (AHeap.mk (HT.setN (AHeap.n h + 9 + 1) h.1 (AHeap.n h + 9) (some (.cells [.int .i64 (.ofNat 0), .str [], .int .i64 (.ofNat 0), .int .i64 (.ofNat i)] 64 .own 0 0))) (AHeap.n (AHeap.room h 13))) p (0 + 1) = some (.int .i64 (.ofNat i))) :
    RunF Tryz.prog Tryz.f37 none call [1, 1, 1, 1] (SSt.mk [(0, .str s), (2, .ptr a 0), (3, .ptr b 0), (4, .ptr p 0)] d .none h) (.ret)
      (SSt.mk [(2, .ptr a 0), (3, .ptr b 0)] d .none g_2) :=
  sxF_run [2, 3] (hs := [.v v, .v (.int .i64 (.ofNat i)), .vh (.slice c 0 n (.opn 4)) g, .vh (.tup []) g_1, .vh (.tup []) g_2]) (by kernel_rfl) <| .cons H1 <| .cons H2 <| .cons H3 <| .cons (⟨by kernel_rfl, H4, rfl⟩ : some 1 = some 1 ∧ AEv.storeCells g a 0 [AV.slice c 0 n (Cap.opn 4)] = some g_1 ∧ AV.tup [] = AV.tup []) <| .cons (⟨by kernel_rfl, H5, rfl⟩ : some 1 = some 1 ∧ AEv.storeCells g_1 b 0 [AV.nilI] = some g_2 ∧ AV.tup [] = AV.tup []) <| .cons (by kernel_rfl : AV.sound (AV.ptr p 0) = true) <| .cons (by kernel_rfl : AV.ptr p 0 = AV.ptr p 0) <| .cons (by kernel_rfl : AV.sound (AV.ptr p 0) = true) <| .cons (by kernel_rfl : AV.ptr p 0 = AV.ptr p 0) <| .cons (by kernel_rfl : AV.sound (AV.ptr p (0 + 4)) = true) <| .cons (by kernel_rfl : AV.ptr p (0 + 4) = AV.ptr p (0 + 4)) <| .cons H6 <| .cons H7 <| .cons (by kernel_rfl : AV.sound (AV.ptr p 0) = true) <| .cons (by kernel_rfl : AV.ptr p 0 = AV.ptr p 0) <| .cons (by kernel_rfl : AV.sound (AV.ptr p 0) = true) <| .cons (by kernel_rfl : AV.ptr p 0 = AV.ptr p 0) <| .cons (by kernel_rfl : AV.sound (AV.ptr p (0 + 1)) = true) <| .cons (by kernel_rfl : AV.ptr p (0 + 1) = AV.ptr p (0 + 1)) <| .cons (by kernel_rfl : AV.sound (AV.int IntKind.i64 (Int.ofNat i)) = true) <| .cons H8 <| .cons (by kernel_rfl : AV.sound (AV.agg [AV.int IntKind.i64 (Int.ofNat 0), AV.str [], AV.int IntKind.i64 (Int.ofNat 0), AV.int IntKind.i64 (Int.ofNat i)]) = true) <| .cons (by kernel_rfl : AV.agg [AV.int IntKind.i64 (Int.ofNat 0), AV.str [], AV.int IntKind.i64 (Int.ofNat 0), AV.int IntKind.i64 (Int.ofNat i)] = AV.agg [AV.int IntKind.i64 (Int.ofNat 0), AV.str [], AV.int IntKind.i64 (Int.ofNat 0), AV.int IntKind.i64 (Int.ofNat i)]) <| .nil
theorem lx_d (call : CallT → List AV → AHeap → FRes) (a b p : Nat) (h g_1 g_2 : AHeap)
    (H1 : AEv.storeCells (AHeap.room h 5) a 0 [.nilS] = some g_1)
    (H2 : AEv.storeCells g_1 b 0 [AV.iface 93 (AV.ptr p 0)] = some g_2) :
    RunF Tryz.prog Tryz.f70 none call [] (SSt.mk [(0, .ptr a 0), (1, .ptr b 0)] [] (.act (.iface 93 (.ptr p 0))) h) (.nrm)
      (SSt.mk [] [] (.done (.iface 93 (.ptr p 0))) g_2) :=
  sxF_run [] (hs := [.v (.bool !false), .b true, .vh (.tup []) g_1, .vh (.tup []) g_2]) (by kernel_rfl) <| .cons (by kernel_rfl : binA Tryz.prog h BinOp.neq 20 (Operand.tmp 4) (Operand.const Value.nilIface) (AV.iface 93 (AV.ptr p 0)) AV.nilI = some (AV.bool !false)) <| .cons (by kernel_rfl : (!false) = true) <| .cons (⟨by kernel_rfl, H1, rfl⟩ : some 1 = some 1 ∧ AEv.storeCells (AHeap.room h 5) a 0 [AV.nilS] = some g_1 ∧ AV.tup [] = AV.tup []) <| .cons (⟨by kernel_rfl, H2, rfl⟩ : some 1 = some 1 ∧ AEv.storeCells g_1 b 0 [AV.iface 93 (AV.ptr p 0)] = some g_2 ∧ AV.tup [] = AV.tup []) <| .cons (by kernel_rfl : AV.sound (AV.iface 93 (AV.ptr p 0)) = true) <| .cons (by kernel_rfl : AV.iface 93 (AV.ptr p 0) = AV.iface 93 (AV.ptr p 0)) <| .cons (by kernel_rfl : AV.sound (AV.iface 93 (AV.ptr p 0)) = true) <| .cons (by kernel_rfl : AV.iface 93 (AV.ptr p 0) = AV.iface 93 (AV.ptr p 0)) <| .cons (by kernel_rfl : AV.sound (AV.ptr p 0) = true) <| .cons (by kernel_rfl : AV.ptr p 0 = AV.ptr p 0) <| .cons (by kernel_rfl : AV.sound (AV.ptr p 0) = true) <| .cons (by kernel_rfl : AV.ptr p 0 = AV.ptr p 0) <| .cons (by kernel_rfl : AV.sound (AV.iface 93 (AV.ptr p 0)) = true) <| .cons (by kernel_rfl : AV.iface 93 (AV.ptr p 0) = AV.iface 93 (AV.ptr p 0)) <| .cons (by kernel_rfl : AV.sound (AV.iface 93 (AV.ptr p 0)) = true) <| .cons (by kernel_rfl : AV.iface 93 (AV.ptr p 0) = AV.iface 93 (AV.ptr p 0)) <| .nil
theorem lx_n (call : CallT → List AV → AHeap → FRes) (a b : Nat) (h : AHeap) :
    RunF Tryz.prog Tryz.f70 none call [] (SSt.mk [(0, .ptr a 0), (1, .ptr b 0)] [] .none h) (.nrm)
      (SSt.mk [] [] .none h) :=
  sxF_run [] (hs := [.v (.bool !true), .b false]) (by kernel_rfl) <| .cons (by kernel_rfl : binA Tryz.prog h BinOp.neq 20 (Operand.tmp 4) (Operand.const Value.nilIface) AV.nilI AV.nilI = some (AV.bool !true)) <| .cons (by kernel_rfl : (!true) = false) <| .nil

theorem dec_snd {u : List UInt8} (h : chr u ≠ 0) : (decP u).2 = chr u := by
  rcases chr_is u with ⟨h1, _⟩ | ⟨h1, b, t, _, _, h4⟩ | ⟨_, c, h2, _⟩
  · exact absurd h1 h
  · rw [h4, h1]
  · rw [h2]
theorem dec_vld (u : List UInt8) : vld (decP u).1 = true := by
  rcases chr_is u with ⟨_, h1⟩ | ⟨_, b, t, _, h3, h4⟩ | ⟨_, c, h2, _, _, h5, _⟩
  · rw [h1]; decide
  · rw [h4, valid_iff]; simp only; omega
  · rw [h2]; exact h5

/-! ### remarks -/
theorem rem_lp (m p it a : Nat) (s L : List UInt8) (w sg o : AV) (hs : s.length ≤ 90000) (hp : 9 ≤ p) (hit : p < it) : ∀ (f i : Nat) (x : AHeap), (line (s.drop (a + i))).length ≤ f → a + i ≤ s.length → x.get p = some (LxO s a w sg o) → x.get it = some (.strIter (line (s.drop (a + i))) i) → tabsIn x tabs = true → it < x.n →
    ((remk f (s.drop (a + i)) i).1 = true → ∃ k x', k ≤ (line (s.drop (a + i))).length + 1 ∧ LoopF Tryz.prog Tryz.f71 none (C (m + 3)) [1, 0, 1, 0] k ⟨[(0, .ptr p 0), (2, .str L), (8, .ptr it 0)], [], .none, x⟩ (.exit 0) ⟨[(0, .ptr p 0), (2, .str L), (8, .ptr it 0)], [], .none, x'⟩ ∧ ExtX it x.n x x') ∧
    ((remk f (s.drop (a + i)) i).1 = false → ∃ k v x', k ≤ (line (s.drop (a + i))).length + 1 ∧ LoopF Tryz.prog Tryz.f71 none (C (m + 3)) [1, 0, 1, 0] k ⟨[(0, .ptr p 0), (2, .str L), (8, .ptr it 0)], [], .none, x⟩ (.pan v) ⟨[], [], .none, x'⟩ ∧ PanV v (a + (remk f (s.drop (a + i)) i).2) x x' ∧ ExtX it x.n x x') := by
  intro f
  induction f with
  | zero =>
    intro i x hf hi hgp hgi ht hn
    have hl : line (s.drop (a + i)) = [] := List.eq_nil_of_length_eq_zero (by omega)
    rw [remk_line _ _ _ hl, hl]
    rw [hl] at hgi
    exact ⟨fun _ => ⟨1, x, by simp, .exit (rmx (C (m + 3)) p it L x x (next_nil hgi)) (by simp), ExtX.refl _ _ _⟩, fun h => (by cases h)⟩
  | succ f ih =>
    intro i x hf hi hgp hgi ht hn
    by_cases hl : line (s.drop (a + i)) = []
    · rw [remk_line _ _ _ hl, hl]
      rw [hl] at hgi
      exact ⟨fun _ => ⟨1, x, by simp, .exit (rmx (C (m + 3)) p it L x x (next_nil hgi)) (by simp), ExtX.refl _ _ _⟩, fun h => (by cases h)⟩
    · obtain ⟨U, hU⟩ : ∃ U, s.drop (a + i) = U := ⟨_, rfl⟩
      have hlt : a + i < s.length := by
        rcases Nat.lt_or_ge (a + i) s.length with h | h
        · exact h
        · rw [List.drop_eq_nil_of_le h] at hl; exact absurd rfl hl
      obtain ⟨c1, c2⟩ := char_c m p a (a + i) s w sg o (x.set it (some (.strIter ((line (s.drop (a + i))).drop (decP (s.drop (a + i))).2) (i + (decP (s.drop (a + i))).2))))
        (tabs_keep ht fun b hb => gother (by omega) rfl) (gother (by omega) hgp) hs hlt
      rw [hU] at hl hgi hf c1 c2 ⊢
      cases U with
      | nil => exact absurd rfl hl
      | cons b t =>
        have hb : ¬ b.toNat = 10 := fun e => hl (line_nl e t)
        rw [remk_cons hb]
        have hnx := next_cons (b := b) (t := line t) (by rw [← line_cons hb]; exact hgi)
        rw [dec_line, ← line_cons hb] at hnx
        have ld : load1 (x.set it (some (.strIter ((line (b :: t)).drop (decP (b :: t)).2) (i + (decP (b :: t)).2)))) p (0 + 1) = some (.int .i64 (Int.ofNat a)) := ld1 (gother (by omega) hgp) rfl
        have ad := add_n (i := a) (j := i) (by omega)
        have xs : ExtX it x.n x (x.set it (some (.strIter ((line (b :: t)).drop (decP (b :: t)).2) (i + (decP (b :: t)).2)))) := ExtX.set _
        cases hc : chr (b :: t) with
        | zero =>
          obtain ⟨v, g, k1, k2, k3⟩ := c2 hc
          refine ⟨fun h => (by cases h), fun _ => ⟨1, v, g, by omega, ?_, k2, xs.trans (Nat.le_refl _) (k3.toX it)⟩⟩
          exact .exit (RunP.post (rmp (C (m + 3)) p it i _ 0 0 L v x _ g _ _ hnx ld ad k1) trivial) (by simp)
        | succ n =>
          obtain ⟨g, k1, k3⟩ := c1 (by rw [hc]; omega)
          have h2 := dec_snd (u := b :: t) (by rw [hc]; omega)
          rw [hc] at h2
          have hin := chr_in (t := t) hb
          rw [hc] at hin
          have hld := line_drop (n + 1) (b :: t) hin
          have hdd : (b :: t).drop (n + 1) = s.drop (a + (i + (n + 1))) := by rw [← hU, List.drop_drop, Nat.add_assoc]
          have hgi' : g.get it = some (.strIter (line (s.drop (a + (i + (n + 1))))) (i + (n + 1))) := by
            rw [k3.get it (by simpa using hn), ← hdd, ← hld, h2]
            exact gsame rfl
          have hgp' : g.get p = some (LxO s a w sg o) := (k3.get p (by simp; omega)).trans (gother (by omega) hgp)
          have ht' : tabsIn g tabs = true := tabs_keep ht fun b hb => (k3.get b (by simp; omega)).trans (gother (by omega) rfl)
          have hn' : x.n ≤ g.n := k3.n
          have hlen : (line (s.drop (a + (i + (n + 1))))).length + (n + 1) = (line (b :: t)).length := by
            rw [← hdd, ← hld, List.length_drop]; omega
          have hsl : a + (i + (n + 1)) ≤ s.length := by
            have h5 : (line (b :: t)).length ≤ (b :: t).length := (List.takeWhile_prefix (l := b :: t) nlB).length_le
            have h6 : (b :: t).length = s.length - (a + i) := by rw [← hU, List.length_drop]
            omega
          obtain ⟨i1, i2⟩ := ih (i + (n + 1)) g (by omega) hsl hgp' hgi' ht' (by omega)
          have st := rml (C (m + 3)) p it i _ L x _ _ _ g hnx ld ad k1
          have xg : ExtX it x.n x g := xs.trans (Nat.le_refl _) (k3.toX it)
          simp only
          rw [hdd]
          refine ⟨fun h => ?_, fun h => ?_⟩
          · obtain ⟨k, x', q1, q2, q3⟩ := i1 h
            exact ⟨k + 1, x', by omega, .step st q2, xg.trans hn' q3⟩
          · obtain ⟨k, v, x', q1, q2, ⟨e, q4, q5, q6, q7⟩, q3⟩ := i2 h
            exact ⟨k + 1, v, x', by omega, .step st q2, ⟨e, q4, q5, by omega, q7⟩, xg.trans hn' q3⟩
theorem remark_c (m p a : Nat) (s : List UInt8) (w sg o : AV) (h : AHeap) (ht : tabsIn h tabs = true) (hg : h.get p = some (LxO s a w sg o)) (hs : s.length ≤ 80000) (ha : a ≤ s.length) (hp : 9 ≤ p ∧ p < h.n) (f : Nat) (hf : (line (s.drop a)).length ≤ f) :
    ((remk f (s.drop a) 0).1 = true → ∃ h', C (m + 7) (.fn 71) [.ptr p 0] h = .ret (.tup []) h' ∧ h'.get p = some (LxO s (a + (remk f (s.drop a) 0).2) w sg o) ∧ ExtX p h.n h h') ∧
    ((remk f (s.drop a) 0).1 = false → ∃ v h', C (m + 7) (.fn 71) [.ptr p 0] h = .pan v h' ∧ PanV v (a + (remk f (s.drop a) 0).2) h h' ∧ ExtX p h.n h h') := by
  obtain ⟨g, c1, x1⟩ := line_c m p a s w sg o h hg (by omega) ha
  have gg : g.get p = some (LxO s a w sg o) := (x1.get p hp.2).trans hg
  have hn := x1.n
  obtain ⟨H, hH⟩ : ∃ H, H = g.push (.strIter (line (s.drop a)) 0) := ⟨_, rfl⟩
  have gH : H.get p = some (LxO s a w sg o) := by rw [hH]; exact gold (by omega) gg
  have gi : H.get g.n = some (.strIter (line (s.drop (a + 0))) 0) := by rw [hH]; exact gtop rfl
  have tH : tabsIn H tabs = true := by rw [hH]; exact tabs_keep ht fun b hb => gold (by omega) (x1.get b (by omega))
  have nH : H.n = g.n + 1 := by rw [hH]; rfl
  obtain ⟨l1, l2⟩ := rem_lp (m + 3) p g.n a s (line (s.drop a)) w sg o (by omega) hp.1 (by omega) f 0 H hf ha gH gi tH (by omega)
  have hll : (line (s.drop a)).length ≤ s.length := by
    have h5 : (line (s.drop a)).length ≤ (s.drop a).length := (List.takeWhile_prefix (l := s.drop a) nlB).length_le
    rw [List.length_drop] at h5; omega
  have s0 : RunF Tryz.prog Tryz.f71 none (C (m + 6)) [0] ⟨[(0, .ptr p 0)], [], .none, h⟩ .nrm ⟨[(0, .ptr p 0), (2, .str (line (s.drop a)))], [], .none, g⟩ := rma (C (m + 6)) p _ h g c1
  have s1 := rmb (C (m + 6)) p (line (s.drop a)) g
  have xH : Ext h.n h H := by rw [hH]; exact Ext.pushR hn x1
  rw [← hH] at s1
  refine ⟨fun hr => ?_, fun hr => ?_⟩
  · obtain ⟨k, x', q1, q2, q3⟩ := l1 hr
    have lp := LoopF.run (p := [1, 0, 1, 0]) (by kernel_rfl) q2 (by simp only [Nat.add_zero] at q1; omega)
    have gx : x'.get p = some (LxO s a w sg o) := (q3.get p (by omega) (by omega)).trans gH
    have he := remk_end f (s.drop a) 0 hf hr
    have s2 := rme (C (m + 6)) p (line (s.drop a)) x' a _ _ (ld1 gx rfl) (add_n (i := a) (j := (line (s.drop a)).length) (by omega)) (stc gx rfl rfl)
    have hrun := RunF.seq (p := []) (by kernel_rfl) s0 (RunF.seq (p := [1]) (by kernel_rfl) (RunF.seq (p := [1, 0]) (by kernel_rfl) s1 (RunF.block (p := [1, 0, 1]) (id := 0) (by kernel_rfl) lp)) (RunP.pre s2 ⟨rfl, rfl, trivial⟩ rfl rfl rfl))
    rw [he, Nat.zero_add]
    refine ⟨_, fn_runF (intr := Il) (n := m + 6) (args := [.ptr p 0]) Tryz.func71 (by kernel_rfl) rfl (by kernel_rfl) hrun (.inr rfl) (by kernel_rfl), gsame rfl, ⟨by have := q3.n; simp; omega, fun b hb hbp => gother hbp ((q3.get b (by omega) (by omega)).trans (xH.get b hb))⟩⟩
  · obtain ⟨k, v, x', q1, q2, ⟨e, q4, q5, q6, q7⟩, q3⟩ := l2 hr
    have lp := LoopF.run (p := [1, 0, 1, 0]) (by kernel_rfl) q2 (by simp only [Nat.add_zero] at q1; omega)
    have hrun := RunF.seq (p := []) (by kernel_rfl) s0 (RunF.seqx (p := [1]) (by kernel_rfl) (RunF.seq (p := [1, 0]) (by kernel_rfl) s1 (RunF.blockx (p := [1, 0, 1]) (id := 0) (by kernel_rfl) lp (by simp))) (by simp))
    exact ⟨v, x', fn_panF (intr := Il) (n := m + 6) (args := [.ptr p 0]) Tryz.func71 (by kernel_rfl) rfl (by kernel_rfl) hrun, ⟨e, q4, q5, by omega, q7⟩, ⟨by have := q3.n; omega, fun b hb hbp => (q3.get b (by omega) (by omega)).trans (xH.get b hb)⟩⟩

/-! ### texts in quotes -/
theorem BldX.ext {B b : Nat} {h h' : AHeap} {w : List UInt8} (hb : BldX B b h w) (hn : h.n ≤ h'.n) (hk : ∀ c, c < h.n → (c = b ∨ B ≤ c) → h'.get c = h.get c) : BldX B b h' w := by
  obtain ⟨a, v, h1, h2, h3, h4, h5, h6⟩ := hb
  exact ⟨a, v, (hk b (by omega) (.inl rfl)).trans h1, h2, h3.ext hn fun c hc hcn => hk c hcn (.inr hc), h4, by omega, h6⟩
/-- What a quoted text's loop leaves alone. -/
structure QFr (p b it B : Nat) (x x' : AHeap) : Prop where
  n : x.n ≤ x'.n
  get : ∀ c, c < B → c ≠ p → c ≠ b → c ≠ it → x'.get c = x.get c
theorem QFr.refl (p b it B : Nat) (x : AHeap) : QFr p b it B x x := ⟨Nat.le_refl _, fun _ _ _ _ _ => rfl⟩
theorem QFr.trans {p b it B : Nat} {x y z : AHeap} (h1 : QFr p b it B x y) (h2 : QFr p b it B y z) : QFr p b it B x z := ⟨Nat.le_trans h1.n h2.n, fun c hc h3 h4 h5 => (h2.get c hc h3 h4 h5).trans (h1.get c hc h3 h4 h5)⟩
/-- How the loop ends. -/
def QEnd (m p b it B a : Nat) (s L : List UInt8) (w sg o : AV) (e0 : Bool) (K : Nat) (x : AHeap) : TR → Prop
  | .ok t n => ∃ k x', k ≤ K ∧ LoopF Tryz.prog Tryz.f108 none (C (m + 6)) [1, 1, 1, 0, 1, 0] k ⟨[(0, .ptr p 0), (3, .ptr b 0), (4, .str L), (5, .bool e0), (13, .ptr it 0)], [], .none, x⟩ .ret ⟨[(2, .str t)], [], .none, x'⟩ ∧ x'.get p = some (LxO s (a + n) w sg o) ∧ QFr p b it B x x'
  | .bad n => (∃ k v x', k ≤ K ∧ LoopF Tryz.prog Tryz.f108 none (C (m + 6)) [1, 1, 1, 0, 1, 0] k ⟨[(0, .ptr p 0), (3, .ptr b 0), (4, .str L), (5, .bool e0), (13, .ptr it 0)], [], .none, x⟩ (.pan v) ⟨[], [], .none, x'⟩ ∧ PanV v (a + n) x x' ∧ QFr p b it B x x') ∨
      (∃ k e x', k ≤ K ∧ LoopF Tryz.prog Tryz.f108 none (C (m + 6)) [1, 1, 1, 0, 1, 0] k ⟨[(0, .ptr p 0), (3, .ptr b 0), (4, .str L), (5, .bool e0), (13, .ptr it 0)], [], .none, x⟩ (.exit 0) ⟨[(0, .ptr p 0), (4, .str L), (5, .bool e)], [], .none, x'⟩ ∧ (if e then n + 1 = L.length else n = 0) ∧ x'.get p = some (LxO s a w sg o) ∧ QFr p b it B x x')
theorem QEnd.step {m p b it B a : Nat} {s L : List UInt8} {w sg o : AV} {e0 e1 : Bool} {K : Nat} {x y : AHeap} {r : TR}
    (st : RunF Tryz.prog Tryz.f108 none (C (m + 6)) [1, 1, 1, 0, 1, 0, 0] ⟨[(0, .ptr p 0), (3, .ptr b 0), (4, .str L), (5, .bool e0), (13, .ptr it 0)], [], .none, x⟩ .nrm ⟨[(0, .ptr p 0), (3, .ptr b 0), (4, .str L), (5, .bool e1), (13, .ptr it 0)], [], .none, y⟩) (fr : QFr p b it B x y)
    (h : QEnd m p b it B a s L w sg o e1 K y r) : QEnd m p b it B a s L w sg o e0 (K + 1) x r := by
  cases r with
  | ok t n =>
    obtain ⟨k, x', h1, h2, h3, h4⟩ := h
    exact ⟨k + 1, x', by omega, .step st h2, h3, fr.trans h4⟩
  | bad n =>
    rcases h with ⟨k, v, x', h1, h2, ⟨e, q4, q5, q6, q7⟩, h4⟩ | ⟨k, e, x', h1, h2, h3, h4, h5⟩
    · exact .inl ⟨k + 1, v, x', by omega, .step st h2, ⟨e, q4, q5, by have := fr.n; omega, q7⟩, fr.trans h4⟩
    · exact .inr ⟨k + 1, e, x', by omega, .step st h2, h3, h4, fr.trans h5⟩
/-- What stands at a place of the loop. -/
structure QSt (p b it B a i : Nat) (s out : List UInt8) (w sg o : AV) (x : AHeap) : Prop where
  gp : x.get p = some (LxO s a w sg o)
  gi : x.get it = some (.strIter (line (s.drop (a + i))) i)
  tb : tabsIn x tabs = true
  bl : BldX B b x out
  nx : B ≤ x.n
theorem QSt.setIt {p b it B a i j : Nat} {s out : List UInt8} {w sg o : AV} {x : AHeap} (h : QSt p b it B a i s out w sg o x) (hp : 9 ≤ p) (h1 : p < b) (h2 : b < it) (h3 : it < B) {l : List UInt8} (hl : l = line (s.drop (a + j))) : QSt p b it B a j s out w sg o (x.set it (some (.strIter l j))) ∧ QFr p b it B x (x.set it (some (.strIter l j))) := by
  refine ⟨⟨gother (by omega) h.gp, by rw [hl]; exact gsame rfl, tabs_keep h.tb fun c hc => gother (by omega) rfl, h.bl.ext (by simp) fun c _ hc => gother (by omega) rfl, by simpa using h.nx⟩, ⟨by simp, fun c _ _ _ hc => gother hc rfl⟩⟩
theorem QSt.ext {p b it B a i : Nat} {s out : List UInt8} {w sg o : AV} {x y : AHeap} (h : QSt p b it B a i s out w sg o x) (hp : 9 ≤ p) (h1 : p < b) (h2 : b < it) (h3 : it < B) (e : Ext x.n x y) : QSt p b it B a i s out w sg o y ∧ QFr p b it B x y := by
  have hn := h.nx
  have hn2 := e.n
  exact ⟨⟨(e.get p (by omega)).trans h.gp, (e.get it (by omega)).trans h.gi, tabs_keep h.tb fun c hc => e.get c (by omega), h.bl.ext e.n fun c hc _ => e.get c hc, by omega⟩, ⟨e.n, fun c hc _ _ _ => e.get c (by omega)⟩⟩
theorem QSt.wr {p b it B a i : Nat} {s out out' : List UInt8} {w sg o : AV} {x y : AHeap} (h : QSt p b it B a i s out w sg o x) (hp : 9 ≤ p) (h1 : p < b) (h2 : b < it) (h3 : it < B) (hb : BldX B b y out') (e : ExtX b B x y) : QSt p b it B a i s out' w sg o y ∧ QFr p b it B x y := by
  have hn := h.nx
  have hn2 := e.n
  exact ⟨⟨(e.get p (by omega) (by omega)).trans h.gp, (e.get it (by omega) (by omega)).trans h.gi, tabs_keep h.tb fun c hc => e.get c (by omega) (by omega), hb, by omega⟩, ⟨e.n, fun c hc _ hcb _ => e.get c hc hcb⟩⟩
theorem dec_byte {e : UInt8} {t : List UInt8} : (e.toNat < 128 → decP (e :: t) = (e.toNat, 1)) ∧ (¬ e.toNat < 128 → 128 ≤ (decP (e :: t)).1) := by
  refine ⟨fun h => by unfold decP; exact if_pos h, fun h => ?_⟩
  rcases chr_is (e :: t) with ⟨_, h1⟩ | ⟨_, b, t', h2, h3, _⟩ | ⟨_, c, h2, h3, _⟩
  · rw [h1]; decide
  · cases h2; exact absurd h3 h
  · rw [h2]; exact h3
theorem pan_from {v : AV} {a : Nat} {x y x' : AHeap} (hn : x.n ≤ y.n) (h : PanV v a y x') : PanV v a x x' := by
  obtain ⟨e, q4, q5, q6, q7⟩ := h
  exact ⟨e, q4, q5, by omega, q7⟩
theorem qt_lp (m p b it B a : Nat) (s L : List UInt8) (w sg o : AV) (hs : s.length ≤ 80000) (hp : 9 ≤ p) (hpb : p < b) (hbi : b < it) (hiB : it < B) : ∀ (f i : Nat) (x : AHeap) (out : List UInt8), (line (s.drop (a + i))).length ≤ f → 1 ≤ i → a + i ≤ s.length → L.length = i + (line (s.drop (a + i))).length → out.length ≤ i → QSt p b it B a i s out w sg o x →
    QEnd m p b it B a s L w sg o false ((line (s.drop (a + i))).length + 1) x (txt f (s.drop (a + i)) i out) := by
  intro f
  induction f using Nat.strongRecOn with
  | _ f ih =>
    intro i x out hf h1i hi hL ho hst
    by_cases hl : line (s.drop (a + i)) = []
    · rw [txt_line _ _ _ _ hl]
      have hgi := hst.gi
      rw [hl] at hgi
      exact .inr ⟨1, false, x, by omega, .exit (RunP.post (qtx (C (m + 6)) p b it false L x x (next_nil hgi)) ⟨rfl, rfl, rfl, trivial⟩) (by simp), rfl, hst.gp, QFr.refl _ _ _ _ _⟩
    · obtain ⟨U, hU⟩ : ∃ U, s.drop (a + i) = U := ⟨_, rfl⟩
      have hlt : a + i < s.length := by
        rcases Nat.lt_or_ge (a + i) s.length with h | h
        · exact h
        · rw [List.drop_eq_nil_of_le h] at hl; exact absurd rfl hl
      have hchar := char_c (m + 3) p a (a + i) s w sg o
      rw [hU] at hl hf hL hchar ⊢
      have hgi := hst.gi
      rw [hU] at hgi
      obtain ⟨f, rfl⟩ : ∃ f', f = f' + 1 := ⟨f - 1, by
        have : 0 < (line U).length := List.length_pos_iff.2 hl
        omega⟩
      cases U with
      | nil => exact absurd rfl hl
      | cons b0 t =>
        have hb : ¬ b0.toNat = 10 := fun e => hl (line_nl e t)
        have hlc := line_cons hb t
        have hlen : (line (b0 :: t)).length = (line t).length + 1 := by rw [hlc]; rfl
        have hdt : t = s.drop (a + (i + 1)) := by
          have : s.drop (a + (i + 1)) = (s.drop (a + i)).drop 1 := by rw [List.drop_drop, Nat.add_assoc]
          rw [this, hU]; rfl
        have hnx := next_cons (b := b0) (t := line t) (by rw [← hlc]; exact hgi)
        rw [dec_line, ← hlc] at hnx
        have i0 : eqI (Int.ofNat i) (Int.ofNat 0) = false := eqI_f (by omega)
        have ad := add_n (i := a) (j := i) (by omega)
        have hin := chr_in (t := t) hb
        -- the state behind a character of n bytes
        have nxt : ∀ n, n ≤ (line (b0 :: t)).length → QSt p b it B a (i + n) s out w sg o (x.set it (some (.strIter ((line (b0 :: t)).drop n) (i + n)))) ∧ QFr p b it B x (x.set it (some (.strIter ((line (b0 :: t)).drop n) (i + n)))) := fun n hn =>
          hst.setIt hp hpb hbi hiB (by rw [line_drop n _ hn, ← hU, List.drop_drop, Nat.add_assoc])
        by_cases h34 : b0.toNat = 34
        · rw [txt_q h34]
          have hd := (dec_byte (e := b0) (t := t)).1 (by omega)
          rw [hd] at hnx
          obtain ⟨q1, q2⟩ := nxt 1 (by omega)
          have ld := ld1 (off := 0 + 1) q1.gp rfl
          have a2 := add_n (i := a + i) (j := 1) (by omega)
          obtain ⟨g2, hg2⟩ : ∃ g2, g2 = (x.set it (some (.strIter ((line (b0 :: t)).drop 1) (i + 1)))).set p (some (LxO s (a + i + 1) w sg o)) := ⟨_, rfl⟩
          have st2 : AEv.storeCells (x.set it (some (.strIter ((line (b0 :: t)).drop 1) (i + 1)))) p (0 + 1) [.int .i64 (Int.ofNat (a + i + 1))] = some g2 := by rw [hg2]; exact stc q1.gp rfl rfl
          have b2 : BldX B b g2 out := by rw [hg2]; exact q1.bl.ext (by simp) fun c _ hc => gother (by have := hst.nx; rcases hc with rfl | hc <;> omega) rfl
          obtain ⟨g3, c3, x3⟩ := bst_c (m + 5) b B g2 out b2 (by omega)
          have n2 : g2.n = x.n := by rw [hg2]; rfl
          have hr := qtl_3 (C (m + 6)) p b it i _ L x _ _ _ _ g2 out g3 hnx ld ad i0 (eqI_f (by omega)) (eqI_t h34) a2 st2 c3
          refine ⟨1, g3, by omega, .exit (RunP.post hr ⟨rfl, trivial⟩) (by simp), ?_, ⟨by have := x3.n; omega, fun c hc e1 e2 e3 => ?_⟩⟩
          · rw [x3.get p (by omega), hg2, Nat.add_assoc]; exact gsame rfl
          · rw [x3.get c hc, hg2, gother e1 rfl]; exact gother e3 rfl
        · by_cases h92 : b0.toNat = 92
          · rw [txt_esc h92]
            have hd := (dec_byte (e := b0) (t := t)).1 (by omega)
            rw [hd] at hnx
            obtain ⟨q1, q2⟩ := nxt 1 (by omega)
            have ld := ld1 (off := 0 + 1) q1.gp rfl
            have st1 := qtl_2 (C (m + 6)) p b it i _ L x _ _ _ hnx ld ad i0 (eqI_t h92)
            rw [hlen]
            refine QEnd.step st1 q2 ?_
            obtain ⟨Y, hY⟩ : ∃ Y, Y = x.set it (some (.strIter ((line (b0 :: t)).drop 1) (i + 1))) := ⟨_, rfl⟩
            rw [← hY] at q1 q2 ⊢
            have hgy := q1.gi
            rw [← hdt] at hgy
            have ldy : load1 Y p (0 + 1) = some (.int .i64 (Int.ofNat a)) := ld1 q1.gp rfl
            by_cases hlt2 : line t = []
            · have hdone : QEnd m p b it B a s L w sg o true ((line t).length + 1) Y (.bad i) := by
                rw [hlt2] at hgy
                refine .inr ⟨1, true, Y, by omega, .exit (RunP.post (qtx (C (m + 6)) p b it true L Y Y (next_nil hgy)) ⟨rfl, rfl, rfl, trivial⟩) (by simp), ?_, q1.gp, QFr.refl _ _ _ _ _⟩
                rw [if_pos rfl, hL, hlen, hlt2]; rfl
              cases t with
              | nil => exact hdone
              | cons e t' =>
                have h10 : e.toNat = 10 := by
                  by_cases hx : e.toNat = 10
                  · exact hx
                  · rw [line_cons hx] at hlt2; cases hlt2
                simp only
                rw [if_neg (by omega), if_neg (by omega)]
                exact hdone
            · cases t with
              | nil => exact absurd rfl hlt2
              | cons e t' =>
                have he10 : ¬ e.toNat = 10 := fun hx => hlt2 (line_nl hx t')
                have hlc2 := line_cons he10 t'
                have hlen2 : (line (e :: t')).length = (line t').length + 1 := by rw [hlc2]; rfl
                have hny := next_cons (b := e) (t := line t') (by rw [← hlc2]; exact hgy)
                rw [dec_line, ← hlc2] at hny
                have ady := add_n (i := a) (j := i + 1) (by omega)
                have i1 : eqI (Int.ofNat (i + 1)) (Int.ofNat 0) = false := eqI_f (by omega)
                obtain ⟨cr, hcr⟩ : ∃ cr, (decP (e :: t')).1 = cr := ⟨_, rfl⟩
                have hcl := (dec_lt (e :: t')).1
                have hcv := dec_vld (e :: t')
                have hn2 : (decP (e :: t')).2 ≤ (line (e :: t')).length := by
                  by_cases h0 : chr (e :: t') = 0
                  · rw [dec0 h0]; simp only; omega
                  · rw [dec_snd h0]; exact chr_in he10
                have hl2 : ∀ n, n ≤ (line (e :: t')).length → (line (e :: t')).drop n = line (s.drop (a + (i + 1 + n))) := fun n hn => by
                  rw [line_drop n _ hn, hdt, List.drop_drop, Nat.add_assoc]
                obtain ⟨z1, z2⟩ := q1.setIt (j := i + 1 + (decP (e :: t')).2) hp hpb hbi hiB (l := (line (e :: t')).drop (decP (e :: t')).2) (hl2 _ hn2)
                obtain ⟨Z, hZ⟩ : ∃ Z, Z = Y.set it (some (.strIter ((line (e :: t')).drop (decP (e :: t')).2) (i + 1 + (decP (e :: t')).2))) := ⟨_, rfl⟩
                rw [← hZ] at z1 z2 hny
                have ldz : load1 Z p (0 + 1) = some (.int .i64 (Int.ofNat a)) := ld1 z1.gp rfl
                obtain ⟨g, c1, x1⟩ := ixr_c (m + 2) cr Z (by rw [← hcr]; exact hcl) (by rw [← hcr]; exact hcv)
                obtain ⟨y1, y2⟩ := z1.ext hp hpb hbi hiB x1
                rw [hcr] at hny
                have fin : ∀ (k : Nat) (c : UInt8) (out' : UInt8), decP (e :: t') = (e.toNat, 1) → escK cr = Int.ofNat k → Nat.le (Nat.succ k) 3 → nth (0 + k * 1) [AV.str [34], AV.str [92], AV.str [10]] = some (.str [out']) → QEnd m p b it B a s L w sg o true ((line (e :: t')).length + 1) Y (txt f t' (i + 2) (out ++ [out'])) := by
                  intro k c out' hd2 hk hk3 hnth
                  rw [hk] at c1
                  rw [hd2] at y1
                  obtain ⟨G, hG⟩ : ∃ G, G = g.push (.cells [.str [34], .str [92], .str [10]] 9 .own 0 0) := ⟨_, rfl⟩
                  have xG : Ext g.n g G := by rw [hG]; exact Ext.push (Nat.le_refl _) _
                  obtain ⟨w1, w2⟩ := y1.ext hp hpb hbi hiB xG
                  obtain ⟨g4, c4, b4, x4⟩ := wr_c (m + 3) b B G out [out'] w1.bl (by simp; omega) (by simp)
                  obtain ⟨v1, v2⟩ := w1.wr hp hpb hbi hiB b4 x4
                  rw [hG] at c4
                  have ld3 : load1 (g.push (.cells [.str [34], .str [92], .str [10]] 9 .own 0 0)) g.n (0 + k * 1) = some (.str [out']) := ld1 (gtop rfl) hnth
                  have st2 := qte (C (m + 6)) p b it (i + 1) cr k L [] Y Z g _ _ _ _ _ g4 hny ldz ady i1 c1 hk3 ld3 c4
                  have hle2 : (line t').length ≤ f := by rw [hlen, hlen2] at hf; omega
                  have hdt' : t' = s.drop (a + (i + 2)) := by
                    have : s.drop (a + (i + 2)) = (s.drop (a + (i + 1))).drop 1 := by rw [List.drop_drop]; exact congrArg (fun k => s.drop k) (by omega)
                    rw [this, ← hdt]; rfl
                  rw [hlen2]
                  refine QEnd.step st2 (z2.trans (y2.trans (w2.trans v2))) ?_
                  have hres := ih f (by omega) (i + 2) g4 (out ++ [out']) (by rw [← hdt']; exact hle2) (by omega) (by
                      have h5 : (e :: t').length = s.length - (a + (i + 1)) := by rw [hdt, List.length_drop]
                      simp only [List.length_cons] at h5; omega) (by rw [← hdt', hL, hlen, hlen2]; omega) (by simp; omega) v1
                  rw [← hdt'] at hres
                  exact hres
                have give : escK cr = -1 → ¬ (e.toNat = 34 ∨ e.toNat = 92) → ¬ e.toNat = 110 → QEnd m p b it B a s L w sg o true ((line (e :: t')).length + 1) Y (if e.toNat = 34 ∨ e.toNat = 92 then txt f t' (i + 2) (out ++ [e]) else if e.toNat = 110 then txt f t' (i + 2) (out ++ [10]) else .bad i) := by
                  intro hk n1 n2
                  rw [if_neg n1, if_neg n2]
                  rw [hk] at c1
                  have sb := sub_n (i := a + (i + 1)) (j := 1) (by omega) (by omega)
                  rw [show a + (i + 1) - 1 = a + i by omega] at sb
                  have hr := qtn (C (m + 6)) p b it (i + 1) cr L Y Z g _ _ _ _ _ hny ldz ady i1 c1 sb (wrong_c (m + 5) (a + i) g)
                  obtain ⟨u1, u2⟩ := y1.ext hp hpb hbi hiB (Ext.push (Nat.le_refl _) (FaultO (a + i)))
                  exact .inl ⟨1, _, _, by omega, .exit (RunP.post hr trivial) (by simp), wrong_v (Nat.le_trans z2.n y2.n), z2.trans (y2.trans u2)⟩
                simp only
                by_cases he : e.toNat < 128
                · have hd2 := (dec_byte (e := e) (t := t')).1 he
                  have hcr' : cr = e.toNat := by rw [← hcr, hd2]
                  by_cases e34 : e.toNat = 34
                  · rw [if_pos (.inl e34)]
                    exact fin 0 e e hd2 (by rw [hcr']; unfold escK; rw [if_pos e34]; rfl) (by show (_ : Nat) ≤ _; omega) (by
                      have : e = 34 := UInt8.toNat_inj.1 e34
                      rw [this]; rfl)
                  · by_cases e92 : e.toNat = 92
                    · rw [if_pos (.inr e92)]
                      exact fin 1 e e hd2 (by rw [hcr']; unfold escK; rw [if_neg e34, if_pos e92]; rfl) (by show (_ : Nat) ≤ _; omega) (by
                        have : e = 92 := UInt8.toNat_inj.1 e92
                        rw [this]; rfl)
                    · by_cases e110 : e.toNat = 110
                      · rw [if_neg (by omega), if_pos e110]
                        exact fin 2 e 10 hd2 (by rw [hcr']; unfold escK; rw [if_neg e34, if_neg e92, if_pos e110]; rfl) (by show (_ : Nat) ≤ _; omega) rfl
                      · exact give (by rw [hcr']; unfold escK; rw [if_neg e34, if_neg e92, if_neg e110]) (by omega) e110
                · have hge := (dec_byte (e := e) (t := t')).2 he
                  rw [hcr] at hge
                  exact give (by unfold escK; rw [if_neg (by omega), if_neg (by omega), if_neg (by omega)]) (by omega) (by omega)
          · rw [txt_cons hb h34 h92]
            have hc92 : ¬ (decP (b0 :: t)).1 = 92 ∧ ¬ (decP (b0 :: t)).1 = 34 := by
              by_cases he : b0.toNat < 128
              · rw [(dec_byte (e := b0) (t := t)).1 he]; exact ⟨h92, h34⟩
              · have := (dec_byte (e := b0) (t := t)).2 he
                omega
            cases hc : chr (b0 :: t) with
            | zero =>
              rw [dec0 hc] at hnx hc92
              obtain ⟨q1, q2⟩ := nxt 1 (by omega)
              have ld := ld1 (off := 0 + 1) q1.gp rfl
              obtain ⟨v, g, k1, k2, k3⟩ := (hchar _ q1.tb q1.gp (by omega) hlt).2 hc
              rw [dec0 hc] at k1
              have hr := qtp (C (m + 6)) p b it i _ 0 0 v L x _ g _ _ hnx ld ad i0 (eqI_f hc92.1) (eqI_f hc92.2) k1
              obtain ⟨_, y2⟩ := q1.ext hp hpb hbi hiB k3
              exact .inl ⟨1, v, g, by omega, .exit (RunP.post hr trivial) (by simp), pan_from q2.n k2, q2.trans y2⟩
            | succ n =>
              have h2 := dec_snd (u := b0 :: t) (by rw [hc]; omega)
              rw [hc] at h2 hin
              rw [h2] at hnx
              obtain ⟨q1, q2⟩ := nxt (n + 1) hin
              have ld := ld1 (off := 0 + 1) q1.gp rfl
              obtain ⟨g, k1, k3⟩ := (hchar _ q1.tb q1.gp (by omega) hlt).1 (by rw [hc]; omega)
              obtain ⟨y1, y2⟩ := q1.ext hp hpb hbi hiB k3
              have henc : encP (decP (b0 :: t)).1 = (b0 :: t).take (n + 1) := by
                rcases chr_is (b0 :: t) with ⟨h1, _⟩ | ⟨h1, b', t', h3, h4, h5⟩ | ⟨h1, c, h3, _, _, _, h5⟩
                · rw [hc] at h1; cases h1
                · rw [hc] at h1
                  obtain rfl : n = 0 := by omega
                  cases h3
                  rw [h5]
                  unfold encP
                  rw [if_pos h4]
                  simp
                · rw [h3, ← hc]; exact h5
              have hn4 : n + 1 ≤ 4 := by
                have := (dec_lt (b0 :: t)).2.1
                omega
              obtain ⟨k, g4, c4, b4, x4⟩ := wru_c (m + 2) b B (decP (b0 :: t)).1 g out y1.bl (by omega) (dec_lt (b0 :: t)).1 (dec_vld (b0 :: t))
              rw [henc] at b4
              obtain ⟨v1, v2⟩ := y1.wr hp hpb hbi hiB b4 x4
              have st := qtl_4 (C (m + 6)) p b it i _ L x _ _ _ g _ _ g4 hnx ld ad i0 (eqI_f hc92.1) (eqI_f hc92.2) k1 c4
              have hdd : (b0 :: t).drop (n + 1) = s.drop (a + (i + (n + 1))) := by rw [← hU, List.drop_drop, Nat.add_assoc]
              have hlen3 : (line (s.drop (a + (i + (n + 1))))).length + (n + 1) = (line (b0 :: t)).length := by
                rw [← hdd, ← line_drop _ _ hin, List.length_drop]; omega
              have hsl : a + (i + (n + 1)) ≤ s.length := by
                have h5 : (line (b0 :: t)).length ≤ (b0 :: t).length := (List.takeWhile_prefix (l := b0 :: t) nlB).length_le
                have h6 : (b0 :: t).length = s.length - (a + i) := by rw [← hU, List.length_drop]
                omega
              have hres := ih f (by omega) (i + (n + 1)) g4 (out ++ (b0 :: t).take (n + 1)) (by omega) (by omega) hsl (by omega) (by simp; omega) v1
              rw [hlen, ← hdd] at *
              have hmono : QEnd m p b it B a s L w sg o false (line t).length.succ g4 (txt f ((b0 :: t).drop (n + 1)) (i + (n + 1)) (out ++ (b0 :: t).take (n + 1))) := by
                revert hres
                generalize txt f ((b0 :: t).drop (n + 1)) (i + (n + 1)) (out ++ (b0 :: t).take (n + 1)) = r
                intro hres
                cases r with
                | ok t0 n0 => obtain ⟨k, x', r1, r2⟩ := hres; exact ⟨k, x', by omega, r2⟩
                | bad n0 =>
                  rcases hres with ⟨k, v, x', r1, r2⟩ | ⟨k, v, x', r1, r2⟩
                  · exact .inl ⟨k, v, x', by omega, r2⟩
                  · exact .inr ⟨k, v, x', by omega, r2⟩
              exact QEnd.step st (q2.trans (y2.trans v2)) hmono
end Go.Proofs.Lx
