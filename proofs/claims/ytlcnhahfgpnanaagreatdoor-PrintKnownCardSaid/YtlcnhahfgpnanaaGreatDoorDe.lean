/-
  PROVED HERE: contracts of functions (De). No condition beside each statement's own.
-/
import Derived.Test.YtlcnhahfgpnanaaGreatDoorDd
set_option linter.unusedVariables false
set_option linter.unusedSimpArgs false
namespace Go.Proofs.Lx
open Go AEv Go.Proofs Lexp
set_option maxRecDepth 100000
set_option maxHeartbeats 1000000

/-! ### a text in quotes, whole -/
theorem quoted_c (m p a : Nat) (s : List UInt8) (w sg o : AV) (h : AHeap) (ht : tabsIn h tabs = true) (hg : h.get p = some (LxO s a w sg o)) (hs : s.length ≤ 80000) (hp : 9 ≤ p ∧ p < h.n) {c : UInt8} {r : List UInt8} (hd : s.drop a = c :: r) (hc : c.toNat = 34) (f : Nat) (hf : (line r).length ≤ f) :
    (∀ t n, txt f r 1 [] = .ok t n → ∃ h', C (m + 7) (.fn 108) [.ptr p 0] h = .ret (.str t) h' ∧ h'.get p = some (LxO s (a + n) w sg o) ∧ ExtX p h.n h h') ∧
    (∀ n, txt f r 1 [] = .bad n → ∃ v h', C (m + 7) (.fn 108) [.ptr p 0] h = .pan v h' ∧ PanV v (a + n) h h' ∧ ExtX p h.n h h') := by
  have hal : a < s.length := by
    rcases Nat.lt_or_ge a s.length with h1 | h1
    · exact h1
    · rw [List.drop_eq_nil_of_le h1] at hd; cases hd
  have hrl : r.length = s.length - a - 1 := by
    have := congrArg List.length hd
    rw [List.length_drop, List.length_cons] at this; omega
  have hlr : (line r).length ≤ r.length := (List.takeWhile_prefix (l := r) nlB).length_le
  obtain ⟨h1, hh1⟩ : ∃ h1, h1 = h.push (.cells [.nilP, .nilS] 76 .own 0 0) := ⟨_, rfl⟩
  have n1 : h1.n = h.n + 1 := by rw [hh1]; rfl
  have p1 : h1.get p = some (LxO s a w sg o) := by rw [hh1]; exact gold hp.2 hg
  have b1 : h1.get h.n = some (.cells [.nilP, .nilS] 76 .own 0 0) := by rw [hh1]; exact gtop rfl
  obtain ⟨g, c1, x1⟩ := line_c m p a s w sg o h1 p1 (by omega) (by omega)
  rw [hd, line_cons (by omega)] at c1
  have xn := x1.n
  obtain ⟨x0, hx0⟩ : ∃ x0, x0 = g.push (.strIter (c :: line r) 0) := ⟨_, rfl⟩
  have n0 : x0.n = g.n + 1 := by rw [hx0]; rfl
  have e0 : ∀ b, b < h.n → x0.get b = h.get b := fun b hb => by
    rw [hx0]
    exact gold (by omega) ((x1.get b (by omega)).trans (by rw [hh1]; exact gold hb rfl))
  have p0 : x0.get p = some (LxO s a w sg o) := (e0 p hp.2).trans hg
  have i0 : x0.get g.n = some (.strIter (c :: line r) 0) := by rw [hx0]; exact gtop rfl
  have b0 : x0.get h.n = some (.cells [.nilP, .nilS] 76 .own 0 0) := by rw [hx0]; exact gold (by omega) ((x1.get h.n (by omega)).trans b1)
  have hnx := next_cons i0
  have hdd := (dec_byte (e := c) (t := line r)).1 (by omega)
  rw [hdd] at hnx
  obtain ⟨x2, hx2⟩ : ∃ x2, x2 = x0.set g.n (some (.strIter ((c :: line r).drop 1) (0 + 1))) := ⟨_, rfl⟩
  rw [← hx2] at hnx
  have hdr : r = s.drop (a + 1) := by
    have : s.drop (a + 1) = (s.drop a).drop 1 := by rw [List.drop_drop]
    rw [this, hd]; rfl
  have q2 : QSt p h.n g.n (g.n + 1) a 1 s [] w sg o x2 := by
    rw [hx2]
    refine ⟨gother (by omega) p0, ?_, tabs_keep ht fun b hb => gother (by omega) (e0 b (by omega)), ⟨.nilP, .nilS, gother (by omega) b0, .inl rfl, .inl ⟨rfl, rfl⟩, by omega, by simp; omega, fun _ => rfl⟩, by simp; omega⟩
    rw [← hdr]; exact gsame rfl
  have fr0 : QFr p h.n g.n (g.n + 1) x0 x2 := ⟨by rw [hx2]; simp, fun b _ _ _ hb => by rw [hx2]; exact gother hb rfl⟩
  have ld : load1 x2 p (0 + 1) = some (.int .i64 (Int.ofNat a)) := ld1 q2.gp rfl
  have st := qtl_1 (C (m + 6)) p h.n g.n 0 c.toNat (c :: line r) x0 x2 _ _ hnx ld (add_n (i := a) (j := 0) (by omega)) (eqI_t rfl)
  have lp := qt_lp m p h.n g.n (g.n + 1) a s (c :: line r) w sg o hs hp.1 hp.2 (by omega) (by omega) f 1 x2 [] (by rw [← hdr]; exact hf) (Nat.le_refl _) (by omega) (by rw [← hdr, List.length_cons]; omega) (Nat.zero_le _) q2
  rw [← hdr] at lp
  have lp0 := QEnd.step st fr0 lp
  have ext : ∀ {x'}, QFr p h.n g.n (g.n + 1) x0 x' → ExtX p h.n h x' := fun {x'} fr => ⟨by have := fr.n; omega, fun b hb hbp => (fr.get b (by omega) hbp (by omega) (by omega)).trans (e0 b hb)⟩
  rw [hh1] at c1
  have hpre : ∀ {e : AEx} {st' : SSt}, RunF Tryz.prog Tryz.f108 none (C (m + 6)) [1, 1, 1, 0, 1, 0] ⟨[(0, .ptr p 0), (3, .ptr h.n 0), (4, .str (c :: line r)), (5, .bool false), (13, .ptr g.n 0)], [], .none, x0⟩ e st' →
      RunF Tryz.prog Tryz.f108 none (C (m + 6)) [1, 1, 1, 0, 1, 0] ⟨[(13, .ptr g.n 0), (5, .bool false), (4, .str (c :: line r)), (3, .ptr h.n 0), (2, .str []), (0, .ptr p 0)], [], .none, g.push (.strIter (c :: line r) 0)⟩ e st' := fun hr => by
    rw [← hx0]; exact RunP.pre hr ⟨rfl, rfl, rfl, rfl, rfl, trivial⟩ rfl rfl rfl
  refine ⟨fun t n hr => ?_, fun n hr => ?_⟩
  · rw [hr] at lp0
    obtain ⟨k, x', k1, k2, k3, k4⟩ := lp0
    have l2 := hpre (LoopF.run (p := [1, 1, 1, 0, 1, 0]) (by kernel_rfl) k2 (by omega))
    exact ⟨x', fn_runF (intr := Il) (n := m + 6) (args := [.ptr p 0]) Tryz.func108 (by kernel_rfl) rfl (by kernel_rfl) (qtR (C (m + 6)) p _ t h g x' c1 l2) (.inl rfl) (by kernel_rfl), k3, ext k4⟩
  · rw [hr] at lp0
    rcases lp0 with ⟨k, v, x', k1, k2, k3, k4⟩ | ⟨k, e, x', k1, k2, k3, k4, k5⟩
    · have l2 := hpre (LoopF.run (p := [1, 1, 1, 0, 1, 0]) (by kernel_rfl) k2 (by omega))
      exact ⟨v, x', fn_panF (intr := Il) (n := m + 6) (args := [.ptr p 0]) Tryz.func108 (by kernel_rfl) rfl (by kernel_rfl) (qtP (C (m + 6)) p v _ [] h g x' c1 l2), pan_from (by omega) k3, ext k4⟩
    · have l2 := hpre (LoopF.run (p := [1, 1, 1, 0, 1, 0]) (by kernel_rfl) k2 (by omega))
      have ldx : load1 x' p (0 + 1) = some (.int .i64 (Int.ofNat a)) := ld1 k4 rfl
      have hxn := (ext k5).n
      have ex2 : ∀ a', ExtX p h.n h (x'.push (FaultO a')) := fun a' => (ext k5).trans hxn (ExtX.push (Nat.le_refl _) _)
      cases e with
      | true =>
        rw [if_pos rfl] at k3
        have sb := sub_n (i := a + (c :: line r).length) (j := 1) (by rw [List.length_cons]; omega) (by rw [List.length_cons]; omega)
        rw [show a + (c :: line r).length - 1 = a + n by omega] at sb
        exact ⟨_, _, fn_panF (intr := Il) (n := m + 6) (args := [.ptr p 0]) Tryz.func108 (by kernel_rfl) rfl (by kernel_rfl) (qtX_1 (C (m + 6)) p true _ [] h g x' _ _ _ _ _ c1 l2 rfl ldx (add_n (i := a) (j := (c :: line r).length) (by simp; omega)) sb (wrong_c (m + 5) (a + n) x')), wrong_v hxn, ex2 _⟩
      | false =>
        obtain rfl : n = 0 := by simpa using k3
        exact ⟨_, _, fn_panF (intr := Il) (n := m + 6) (args := [.ptr p 0]) Tryz.func108 (by kernel_rfl) rfl (by kernel_rfl) (qtX_2 (C (m + 6)) p false _ [] h g x' _ _ _ c1 l2 rfl ldx (wrong_c (m + 5) a x')), wrong_v hxn, ex2 _⟩

/-! ### signs -/
theorem pre_eq (t s : List UInt8) : t.isPrefixOf s = if t.length ≤ s.length then beqBytes (s.take t.length) t else false := by
  by_cases h : t.length ≤ s.length
  · rw [if_pos h, beqBytes_eq, Bool.eq_iff_iff, List.isPrefixOf_iff_prefix, List.prefix_iff_eq_take, beq_iff_eq]
    exact eq_comm
  · rw [if_neg h]
    cases hx : t.isPrefixOf s with
    | false => rfl
    | true => exact absurd (List.isPrefixOf_iff_prefix.1 hx).length_le h
theorem hp_c (m : Nat) (s t : List UInt8) (h : AHeap) : C (m + 2) (.fn 111) [.str s, .str t] h = .ret (.bool (t.isPrefixOf s)) h := by
  have key : C (m + 1) (.fn 148) [.str s, .str t] h = .ret (.bool (t.isPrefixOf s)) h := by
    rw [pre_eq]
    by_cases hl : t.length ≤ s.length
    · rw [if_pos hl]
      exact fn_runF (intr := Il) (n := m) (args := [.str s, .str t]) Tryz.func148 (by kernel_rfl) rfl (by kernel_rfl) (hp2_1 (C m) s t h _ (le_t hl) (sl_to hl)) (.inl rfl) (by kernel_rfl)
    · rw [if_neg hl]
      exact fn_runF (intr := Il) (n := m) (args := [.str s, .str t]) Tryz.func148 (by kernel_rfl) rfl (by kernel_rfl) (hp2_2 (C m) s t h (le_f hl)) (.inl rfl) (by kernel_rfl)
  exact fn_runF (intr := Il) (n := m + 1) (args := [.str s, .str t]) Tryz.func111 (by kernel_rfl) rfl (by kernel_rfl) (hp1 (C (m + 1)) s t h _ h key) (.inl rfl) (by kernel_rfl)
abbrev PtrO (p : Nat) : AObj := .cells [.ptr p 0] 126 .own 0 0
theorem tk2_c (m p q a : Nat) (s t : List UInt8) (w sg o : AV) (h : AHeap) (hq : h.get q = some (PtrO p)) (hg : h.get p = some (LxO s a w sg o)) (ha : a ≤ s.length) : C (m + 3) (.fn 110) [.str t, .ptr q 0] h = .ret (.bool (t.isPrefixOf (s.drop a))) (h.room 12) := by
  have hq' : (h.room 12).get q = some (PtrO p) := hq
  have hg' : (h.room 12).get p = some (LxO s a w sg o) := hg
  exact fn_runF (intr := Il) (n := m + 2) (args := [.str t, .ptr q 0]) Tryz.func110 (by kernel_rfl) rfl (by kernel_rfl) (tk2 (C (m + 2)) q t h p 0 s a _ _ _ (ld1 hq' rfl) (ld1 hg' rfl) (ld1 hg' rfl) (sl_from ha) (hp_c m (s.drop a) t (h.room 12))) (.inl rfl) (by kernel_rfl)
theorem ix_lp (m p q a sb : Nat) (s : List UInt8) (w sg o : AV) (ha : a ≤ s.length) : ∀ (k i : Nat) (h : AHeap), 17 - i = k → i ≤ 17 → h.get q = some (PtrO p) → h.get p = some (LxO s a w sg o) → SignsAt h sb →
    (∀ g, (signs.drop i).find? (fun g => g.isPrefixOf (s.drop a)) = some g → ∃ j h', ∃ hj : j < signs.length, signs[j] = g ∧ LoopF Tryz.prog Tryz.f109 none (C (m + 3)) [1, 0, 1, 0] (k + 1) ⟨[(0, .slice sb 0 17 (.exact 17)), (1, .fn 110 [] [.ptr q 0]), (7, .int .i64 (Int.ofNat 17)), (8, .int .i64 (Int.ofNat i))], [], .none, h⟩ .ret ⟨[(4, .int .i64 (Int.ofNat j))], [], .none, h'⟩ ∧ h'.n ≥ h.n ∧ ∀ b, h'.get b = h.get b) ∧
    ((signs.drop i).find? (fun g => g.isPrefixOf (s.drop a)) = none → ∃ h', LoopF Tryz.prog Tryz.f109 none (C (m + 3)) [1, 0, 1, 0] (k + 1) ⟨[(0, .slice sb 0 17 (.exact 17)), (1, .fn 110 [] [.ptr q 0]), (7, .int .i64 (Int.ofNat 17)), (8, .int .i64 (Int.ofNat i))], [], .none, h⟩ (.exit 0) ⟨[], [], .none, h'⟩ ∧ h'.n ≥ h.n ∧ ∀ b, h'.get b = h.get b)
  | 0, i, h, hk, hi, hq, hg, hs => by
    obtain rfl : i = 17 := by omega
    refine ⟨fun g hx => (by cases hx), fun _ => ⟨h, .exit (RunP.post (ifl_3 (C (m + 3)) q sb 17 17 (.exact 17) h (lt_f (by omega))) trivial) (by simp), Nat.le_refl _, fun _ => rfl⟩⟩
  | k + 1, i, h, hk, hi, hq, hg, hs => by
    have hil : i < 17 := by omega
    have hil' : i < signs.length := hil
    have hsa := hs
    obtain ⟨el, kk, lo, up, hsg⟩ := hs
    have ld : load1 h sb (0 + i * 1) = some (.str signs[i]) := ld1 hsg (by
      have e : 0 + i * 1 = i := by omega
      rw [e, nth_eq, List.getElem?_map, List.getElem?_eq_getElem hil']; rfl)
    have c1 := tk2_c m p q a s signs[i] w sg o h hq hg ha
    rw [List.drop_eq_getElem_cons hil', List.find?_cons]
    cases hx : signs[i].isPrefixOf (s.drop a) with
    | true =>
      rw [hx] at c1
      refine ⟨fun g hgx => ?_, fun hgx => (by cases hgx)⟩
      simp only [Option.some.injEq] at hgx
      exact ⟨i, _, hil', hgx, .exit (RunP.post (ifl_1 (C (m + 3)) q sb 17 i (.exact 17) h _ true _ (lt_t hil) hil ld c1 rfl) ⟨rfl, trivial⟩) (by simp), by simp, fun _ => rfl⟩
    | false =>
      rw [hx] at c1
      have st := ifl_2 (C (m + 3)) q sb 17 i (.exact 17) h _ false _ _ (lt_t hil) hil ld c1 rfl (add_n (i := i) (j := 1) (by omega))
      obtain ⟨i1, i2⟩ := ix_lp m p q a sb s w sg o ha k (i + 1) (h.room 12) (by omega) (by omega) hq hg hsa
      refine ⟨fun g hgx => ?_, fun hgx => ?_⟩
      · obtain ⟨j, h', hj, r1, r2, r3, r4⟩ := i1 g hgx
        exact ⟨j, h', hj, r1, .step st r2, by simp at r3; omega, r4⟩
      · obtain ⟨h', r2, r3, r4⟩ := i2 hgx
        exact ⟨h', .step st r2, by simp at r3; omega, r4⟩
theorem ixf_c (m p q a sb : Nat) (s : List UInt8) (w sg o : AV) (h : AHeap) (ha : a ≤ s.length) (hq : h.get q = some (PtrO p)) (hg : h.get p = some (LxO s a w sg o)) (hs : SignsAt h sb) :
    (∀ g, sgn (s.drop a) = some g → ∃ j h', ∃ hj : j < signs.length, signs[j] = g ∧ C (m + 4) (.fn 109) [.slice sb 0 17 (.exact 17), .fn 110 [] [.ptr q 0]] h = .ret (.int .i64 (Int.ofNat j)) h' ∧ h.n ≤ h'.n ∧ ∀ b, h'.get b = h.get b) ∧
    (sgn (s.drop a) = none → ∃ h', C (m + 4) (.fn 109) [.slice sb 0 17 (.exact 17), .fn 110 [] [.ptr q 0]] h = .ret (.int .i64 (-1)) h' ∧ h.n ≤ h'.n ∧ ∀ b, h'.get b = h.get b) := by
  obtain ⟨i1, i2⟩ := ix_lp m p q a sb s w sg o ha 17 0 h rfl (by omega) hq hg hs
  refine ⟨fun g hx => ?_, fun hx => ?_⟩
  · obtain ⟨j, h', hj, r1, r2, r3, r4⟩ := i1 g hx
    have lp := LoopF.run (p := [1, 0, 1, 0]) (by kernel_rfl) r2 (by omega)
    exact ⟨j, h', hj, r1, fn_runF (intr := Il) (n := m + 3) (args := [.slice sb 0 17 (.exact 17), .fn 110 [] [.ptr q 0]]) Tryz.func109 (by kernel_rfl) rfl (by kernel_rfl) (if0 (C (m + 3)) q sb 17 (.exact 17) h h' j (RunP.pre lp ⟨rfl, rfl, rfl, rfl, trivial⟩ rfl rfl rfl)) (.inl rfl) (by kernel_rfl), r3, r4⟩
  · obtain ⟨h', r2, r3, r4⟩ := i2 hx
    have lp := LoopF.run (p := [1, 0, 1, 0]) (by kernel_rfl) r2 (by omega)
    exact ⟨h', fn_runF (intr := Il) (n := m + 3) (args := [.slice sb 0 17 (.exact 17), .fn 110 [] [.ptr q 0]]) Tryz.func109 (by kernel_rfl) rfl (by kernel_rfl) (if1 (C (m + 3)) q sb 17 (.exact 17) h h' (RunP.pre lp ⟨rfl, rfl, rfl, rfl, trivial⟩ rfl rfl rfl)) (.inl rfl) (by kernel_rfl), r3, r4⟩

/-! ### a token -/
def encT (t : Tk) : List AV := [.int .i64 (Int.ofNat t.k), .str t.t, .int .i64 (Int.ofNat t.v), .int .i64 (Int.ofNat t.at')]
theorem tokRow : RowTy Tryz.prog encT 4 64 57 where
  hu := by kernel_rfl
  hsrc := by kernel_rfl
  info := by
    have hi : (Tryz.prog.info? 64).map (fun i => (i.size, Nat.ble i.bytes 1000)) = some (4, true) := by kernel_rfl
    cases hii : Tryz.prog.info? 64 with
    | none => rw [hii] at hi; cases hi
    | some i =>
      rw [hii] at hi
      simp only [Option.map_some, Option.some.injEq, Prod.mk.injEq] at hi
      exact ⟨i, rfl, hi.1, Nat.le_of_ble_eq_true hi.2⟩
  zero := ⟨.agg [.int .i64 (Int.ofNat 0), .str [], .int .i64 (Int.ofNat 0), .int .i64 (Int.ofNat 0)], by kernel_rfl, rfl⟩
  size := by kernel_rfl
  len := fun _ => rfl
  cell := fun _ => rfl
  pos := by decide
theorem lookW {g : AHeap} {r : Nat} (s : List UInt8) (hw : WordsAt g r) : lookupA Tryz.prog g 127 (.map r) (.str s) false = some (.bool (inW s)) := by
  obtain ⟨es, c, hg, hk⟩ := hw
  have hu : Tryz.prog.underlying 127 = some (.map 9 4) := by kernel_rfl
  have hkt : ∀ s : List UInt8, keyT Tryz.prog 9 (.str s) = true := fun s => by kernel_rfl
  have hz : lookFin Tryz.prog 4 false none = some (.bool false) := by kernel_rfl
  unfold lookupA
  rw [hu]
  simp only [hkt, hg]
  rcases find_keys s es words 0 hk with ⟨h1, h2⟩ | ⟨⟨j, h1⟩, h2⟩
  · rw [h1]; simp only [hz]; unfold inW; rw [h2]
  · rw [h1]; unfold inW; rw [h2]; rfl
theorem WordsAt.of {g h : AHeap} {r : Nat} (hw : WordsAt h r) (e : g.get r = h.get r) : WordsAt g r := by
  obtain ⟨es, c, hg, hk⟩ := hw
  exact ⟨es, c, e.trans hg, hk⟩
theorem SignsAt.of {g h : AHeap} {r : Nat} (hw : SignsAt h r) (e : g.get r = h.get r) : SignsAt g r := by
  obtain ⟨a, b, c, d, hg⟩ := hw
  exact ⟨a, b, c, d, e.trans hg⟩
/-- A lexer that works: where it is, and what it has found. -/
structure LI (p r sb : Nat) (s : List UInt8) (a : Nat) (out : List Tk) (h : AHeap) : Prop where
  g : ∃ o, h.get p = some (LxO s a (.map r) (.slice sb 0 17 (.exact 17)) o) ∧ OutG encT 4 64 (p + 1) h o out
  w : WordsAt h r
  sg : SignsAt h sb
  tb : tabsIn h tabs = true
  lt : 9 ≤ p ∧ r < p ∧ sb < p ∧ p < h.n
/-- One element, that lies in a block. -/
theorem oneG' {g : AHeap} {b t lo up : Nat} {k : BK} {d : Tk} (hg : g.get b = some (.cells (encT d) t k lo up)) : srcCells g 4 (.slice b 0 1 (.exact 1)) = some ([d].length, rowL encT [d]) := by
  have : AEv.loadCells g b 0 (1 * 4) = some (encT d) := ldc hg rfl
  simp only [srcCells, this]
  simp [rowL]
/-- A token is put behind the others. -/
theorem put_tok {B : Nat} {G H : AHeap} {o : AV} {out : List Tk} {d : Tk} {b : Nat} (ho : OutG encT 4 64 B G o out) (hB : B ≤ G.n) (hG : G.n ≤ b) (hn : b < H.n) (hH : ∀ c, c < G.n → H.get c = G.get c) (hb : H.get b = some (.cells (encT d) 64 .own 0 0)) (hl : out.length + 1 ≤ 1000000) :
    ∃ c n h', appendA Tryz.prog H 57 (some 57) o (.slice b 0 1 (.exact 1)) = some (.slice c 0 n (.opn 4), h') ∧ OutG encT 4 64 B h' (.slice c 0 n (.opn 4)) (out ++ [d]) ∧ Ext B H h' ∧ H.n ≤ h'.n ∧ ∀ x, x < H.n → (∀ n cp, o ≠ .slice x 0 n cp) → h'.get x = H.get x := by
  have hoH : OutG encT 4 64 B H o out := ho.keep (by omega) fun p _ hp => hH p hp
  obtain ⟨v', h', a1, a2, a3, a4, a5⟩ := appG tokRow (es := [d]) hoH (by omega) (oneG' hb) (by simpa using hl)
  rcases a2 with ⟨_, he⟩ | ⟨c, rfl, b2⟩
  · simp at he
  · exact ⟨c, _, h', a1, .inr ⟨c, rfl, b2⟩, a3, a4, a5⟩
theorem tok_c (m p r sb a : Nat) (s : List UInt8) (out : List Tk) (h : AHeap) (hi : LI p r sb s a out h) (hs : s.length ≤ 80000) (ha : a < s.length) (hol : out.length ≤ 80000) (hb : blankB s[a] = false) (h35 : ¬ s[a].toNat = 35) :
    (∀ k t v n, el (s.drop a) = .tok k t v n → ∃ h', C (m + 8) (.fn 72) [.ptr p 0] h = .ret (.tup []) h' ∧ LI p r sb s (a + n) (out ++ [⟨k, t, v, a⟩]) h' ∧ ExtX p (p + 1) h h') ∧
    (∀ n, el (s.drop a) = .bad n → ∃ v h', C (m + 8) (.fn 72) [.ptr p 0] h = .pan v h' ∧ PanV v (a + n) h h' ∧ ExtX p (p + 1) h h') := by
  obtain ⟨⟨o, gp, ho⟩, hw, hsg, htb, hp5, hrp, hsp, hpn⟩ := hi
  obtain ⟨h3, hh3⟩ : ∃ h3, h3 = (((h.push (PtrO p)).push (.cells [.int .i64 (Int.ofNat 0), .str [], .int .i64 (Int.ofNat 0), .int .i64 (Int.ofNat 0)] 64 .own 0 0)).set (h.n + 1) (some (.cells [.int .i64 (Int.ofNat 0), .str [], .int .i64 (Int.ofNat 0), .int .i64 (Int.ofNat a)] 64 .own 0 0))) := ⟨_, rfl⟩
  have n3 : h3.n = h.n + 2 := by rw [hh3]; rfl
  have old3 : ∀ b, b < h.n → h3.get b = h.get b := fun b hb => by rw [hh3]; exact gother (by omega) (gold (by simp; omega) (gold hb rfl))
  have q3 : h3.get h.n = some (PtrO p) := by rw [hh3]; exact gother (by omega) (gold (by simp) (gtop rfl))
  have r3 : h3.get (h.n + 1) = some (.cells [.int .i64 (Int.ofNat 0), .str [], .int .i64 (Int.ofNat 0), .int .i64 (Int.ofNat a)] 64 .own 0 0) := by rw [hh3]; exact gsame rfl
  have p3 : h3.get p = some (LxO s a (.map r) (.slice sb 0 17 (.exact 17)) o) := (old3 p hpn).trans gp
  have p1 : (h.push (PtrO p)).get p = some (LxO s a (.map r) (.slice sb 0 17 (.exact 17)) o) := gold hpn gp
  have t3 : tabsIn h3 tabs = true := tabs_keep htb fun b hb => old3 b (by omega)
  have w3 : WordsAt h3 r := hw.of (old3 r (by omega))
  have s3 : SignsAt h3 sb := hsg.of (old3 sb (by omega))
  have s0 := tk_0 (C (m + 7)) p h
  have s1 : RunF Tryz.prog Tryz.f72 none (C (m + 7)) [1, 0] ⟨[(1, .ptr h.n 0)], [], .none, h.push (PtrO p)⟩ .nrm ⟨[(1, .ptr h.n 0), (2, .ptr (h.n + 1) 0)], [], .none, h3⟩ := by
    rw [hh3]
    exact tk_1 (C (m + 7)) h.n (h.push (PtrO p)) p 0 a _ (ld1 (gtop rfl) rfl) (ld1 p1 rfl) (stc (gtop rfl) rfl rfl)
  have q3' : (h3.room 10).get h.n = some (PtrO p) := q3
  have p3' : (h3.room 10).get p = some (LxO s a (.map r) (.slice sb 0 17 (.exact 17)) o) := p3
  have s2 := tk_2 (C (m + 7)) h.n (h.n + 1) h3 p 0 s a _ (ld1 q3' rfl) (ld1 p3' rfl) (ld1 p3' rfl) (idx_t ha)
  obtain ⟨K, hK⟩ : ∃ K, K = h3.room 10 := ⟨_, rfl⟩
  have nK : K.n = h.n + 12 := by rw [hK]; show h3.n + 10 = _; omega
  have gK : ∀ b, K.get b = h3.get b := fun b => by rw [hK]; rfl
  have oldK : ∀ b, b < h.n → K.get b = h.get b := fun b hb => (gK b).trans (old3 b hb)
  have qK : K.get h.n = some (PtrO p) := (gK _).trans q3
  have rK : K.get (h.n + 1) = some (.cells [.int .i64 (Int.ofNat 0), .str [], .int .i64 (Int.ofNat 0), .int .i64 (Int.ofNat a)] 64 .own 0 0) := (gK _).trans r3
  have pK : K.get p = some (LxO s a (.map r) (.slice sb 0 17 (.exact 17)) o) := (gK _).trans p3
  have tK : tabsIn K tabs = true := tabs_keep t3 fun b _ => gK b
  have wK : WordsAt K r := w3.of (gK _)
  have sK : SignsAt K sb := s3.of (gK _)
  rw [← hK] at s2
  have hone := ho.ne gp (.inl (by simp))
  -- where the token is made
  have fin_ok : ∀ {k v n : Nat} {t : List UInt8} {G : AHeap}, RunF Tryz.prog Tryz.f72 none (C (m + 7)) [1, 1, 0, 1] ⟨[(1, .ptr h.n 0), (2, .ptr (h.n + 1) 0), (3, .int .u8 (Int.ofNat s[a].toNat))], [], .none, K⟩ .nrm ⟨[(1, .ptr h.n 0), (2, .ptr (h.n + 1) 0)], [], .none, G⟩ →
      K.n ≤ G.n → (∀ b, b < h.n → b ≠ p → G.get b = h.get b) → G.get h.n = some (PtrO p) → G.get (h.n + 1) = some (.cells (encT ⟨k, t, v, a⟩) 64 .own 0 0) → G.get p = some (LxO s (a + n) (.map r) (.slice sb 0 17 (.exact 17)) o) →
      ∃ h', C (m + 8) (.fn 72) [.ptr p 0] h = .ret (.tup []) h' ∧ LI p r sb s (a + n) (out ++ [⟨k, t, v, a⟩]) h' ∧ ExtX p (p + 1) h h' := by
    intro k v n t G hrun hnG oldG qG rG pG
    obtain ⟨H, hH⟩ : ∃ H, H = (G.room 11).set (G.n + 6) (some (.cells (encT ⟨k, t, v, a⟩) 64 .own 0 0)) := ⟨_, rfl⟩
    have nH : H.n = G.n + 11 := by rw [hH]; rfl
    have gH : ∀ c, c < G.n → H.get c = G.get c := fun c hc => by rw [hH]; exact gother (by omega) rfl
    have ho2 : OutG encT 4 64 (p + 1) G o out := ho.keep (by omega) fun x hx hxn => oldG x hxn (fun e => hone _ _ (hx.trans (congrArg (fun z => AV.slice z 0 out.length (.opn 4)) e)))
    obtain ⟨c, N, h', a1, a2, a3, a4, a5⟩ := put_tok (d := ⟨k, t, v, a⟩) (b := G.n + 6) ho2 (by omega) (by omega) (by omega) gH (by rw [hH]; exact gsame rfl) (by omega)
    have pH : H.get p = some (LxO s (a + n) (.map r) (.slice sb 0 17 (.exact 17)) o) := (gH p (by omega)).trans pG
    have ph' : h'.get p = some (LxO s (a + n) (.map r) (.slice sb 0 17 (.exact 17)) o) := (a3.get p (by omega)).trans pH
    have hneq : ∀ N cp, o ≠ .slice h.n 0 N cp := fun N cp e => by
      rcases ho2 with ⟨e2, _⟩ | ⟨x, e2, _, hx, _⟩
      · rw [e2] at e; cases e
      · rw [e2] at e; cases e; rw [qG] at hx; injection (Option.some.inj hx) with _ e9; exact absurd e9 (by decide)
    have qh' : h'.get h.n = some (PtrO p) := (a5 h.n (by omega) hneq).trans ((gH h.n (by omega)).trans qG)
    rw [hH] at a1
    have qG' : (G.room 11).get h.n = some (PtrO p) := qG
    have pG' : (G.room 11).get p = some (LxO s (a + n) (.map r) (.slice sb 0 17 (.exact 17)) o) := pG
    have rG' : (G.room 11).get (h.n + 1) = some (.cells (encT ⟨k, t, v, a⟩) 64 .own 0 0) := rG
    have qH := (gH h.n (by omega)).trans qG
    have rH := (gH (h.n + 1) (by omega)).trans rG
    rw [hH] at qH pH rH
    have s4 := tk_4 (C (m + 7)) h.n (h.n + 1) p c N k v a t o G h' _ (ld1 qG' rfl) (ld1 pG' rfl) (ldc rG' rfl) a1 (stc ph' rfl rfl) (ld1 qh' rfl) (ld1 qH rfl) ho2.sound (ld1 pH rfl) (ldc rH rfl)
    have hr := RunF.seq (p := []) (by kernel_rfl) s0 (RunF.seq (p := [1]) (by kernel_rfl) s1 (RunF.seq (p := [1, 1]) (by kernel_rfl) (RunF.seq (p := [1, 1, 0]) (by kernel_rfl) s2 hrun) s4))
    have old' : ∀ b, b < p + 1 → b ≠ p → (h'.set p (some (LxO s (a + n) (.map r) (.slice sb 0 17 (.exact 17)) (.slice c 0 N (.opn 4))))).get b = h.get b := fun b hb hbp => gother hbp ((a3.get b hb).trans ((gH b (by omega)).trans (oldG b (by omega) hbp)))
    refine ⟨_, fn_runF (intr := Il) (n := m + 7) (args := [.ptr p 0]) Tryz.func72 (by kernel_rfl) rfl (by kernel_rfl) hr (.inr rfl) (by kernel_rfl), ⟨⟨_, gsame rfl, a2.setOwn ph'⟩, hw.of (old' r (by omega) (by omega)), hsg.of (old' sb (by omega) (by omega)), tabs_keep htb fun b hb => old' b (by omega) (by omega), hp5, hrp, hsp, by simp; omega⟩, ⟨by simp; omega, old'⟩⟩
  have fin_pan : ∀ {v : AV} {n : Nat} {G : AHeap}, RunF Tryz.prog Tryz.f72 none (C (m + 7)) [1, 1, 0, 1] ⟨[(1, .ptr h.n 0), (2, .ptr (h.n + 1) 0), (3, .int .u8 (Int.ofNat s[a].toNat))], [], .none, K⟩ (.pan v) ⟨[], [], .none, G⟩ →
      K.n ≤ G.n → (∀ b, b < h.n → b ≠ p → G.get b = h.get b) → PanV v (a + n) K G → ∃ v h', C (m + 8) (.fn 72) [.ptr p 0] h = .pan v h' ∧ PanV v (a + n) h h' ∧ ExtX p (p + 1) h h' := by
    intro v n G hrun hnG oldG hv
    have hr := RunF.seq (p := []) (by kernel_rfl) s0 (RunF.seq (p := [1]) (by kernel_rfl) s1 (RunF.seqx (p := [1, 1]) (by kernel_rfl) (RunF.seq (p := [1, 1, 0]) (by kernel_rfl) s2 hrun) (by simp)))
    exact ⟨v, G, fn_panF (intr := Il) (n := m + 7) (args := [.ptr p 0]) Tryz.func72 (by kernel_rfl) rfl (by kernel_rfl) hr, pan_from (by omega) hv, ⟨by omega, fun b hb hbp => oldG b (by omega) hbp⟩⟩
  have hd := List.drop_eq_getElem_cons ha
  have ldq : load1 K h.n 0 = some (.ptr p 0) := ld1 qK rfl
  have cl := letter_c (m + 6) s[a] K
  have cd := digit_c (m + 6) s[a] K
  have hel : el (s.drop a) = if letterB s[a] then (if ((s.drop a).takeWhile wordB).length > 24 then .bad 0 else .tok (if inW ((s.drop a).takeWhile wordB) then 2 else 1) ((s.drop a).takeWhile wordB) 0 ((s.drop a).takeWhile wordB).length)
      else if digitB s[a] then (match numV ((s.drop a).takeWhile digitB) 0 with | none => .bad 0 | some v => .tok 3 [] v ((s.drop a).takeWhile digitB).length)
      else if s[a].toNat = 34 then (match txt (s.drop a).length (s.drop (a + 1)) 1 [] with | .ok t n => .tok 4 t 0 n | .bad n => .bad n)
      else (match sgn (s.drop a) with | none => .bad 0 | some g => .tok 5 g 0 g.length) := by
    rw [hd]
    conv => lhs; unfold el
    simp only [hb, Bool.false_eq_true, if_false, if_neg h35]
    rfl
  rw [hel]
  -- the frame of what is called
  have fr : ∀ {G : AHeap}, ExtX p K.n K G → (∀ b, b < h.n → b ≠ p → G.get b = h.get b) ∧ G.get h.n = some (PtrO p) ∧ G.get (h.n + 1) = some (.cells [.int .i64 (Int.ofNat 0), .str [], .int .i64 (Int.ofNat 0), .int .i64 (Int.ofNat a)] 64 .own 0 0) ∧ K.n ≤ G.n := fun {G} x =>
    ⟨fun b hb hbp => (x.get b (by omega) hbp).trans (oldK b hb), (x.get h.n (by omega) (by omega)).trans qK, (x.get (h.n + 1) (by omega) (by omega)).trans rK, x.n⟩
  cases hL : letterB s[a] with
  | true =>
    rw [hL] at cl
    rw [if_pos rfl]
    obtain ⟨G, c1, g1, x1⟩ := rowB_c (m + 4) p a s (.map r) (.slice sb 0 17 (.exact 17)) o K pK (by omega) (by omega) (by omega)
    obtain ⟨W, hW⟩ : ∃ W, (s.drop a).takeWhile wordB = W := ⟨_, rfl⟩
    rw [hW] at c1 g1 ⊢
    obtain ⟨oG, qG, rG, nG⟩ := fr x1
    obtain ⟨G2, hG2⟩ : ∃ G2, G2 = (G.set (h.n + 1) (some (.cells [.int .i64 (Int.ofNat 1), .str [], .int .i64 (Int.ofNat 0), .int .i64 (Int.ofNat a)] 64 .own 0 0))).set (h.n + 1) (some (.cells (encT ⟨1, W, 0, a⟩) 64 .own 0 0)) := ⟨_, rfl⟩
    have st1 : AEv.storeCells G (h.n + 1) (0 + 0) [.int .i64 (Int.ofNat 1)] = some (G.set (h.n + 1) (some (.cells [.int .i64 (Int.ofNat 1), .str [], .int .i64 (Int.ofNat 0), .int .i64 (Int.ofNat a)] 64 .own 0 0))) := stc rG rfl rfl
    have st2 : AEv.storeCells (G.set (h.n + 1) (some (.cells [.int .i64 (Int.ofNat 1), .str [], .int .i64 (Int.ofNat 0), .int .i64 (Int.ofNat a)] 64 .own 0 0))) (h.n + 1) (0 + 1) [.str W] = some G2 := by rw [hG2]; exact stc (gsame rfl) rfl rfl
    have o2 : ∀ b, b ≠ h.n + 1 → G2.get b = G.get b := fun b hb => by rw [hG2]; exact gother hb (gother hb rfl)
    have q2 : (G2.room 7).get h.n = some (PtrO p) := (o2 h.n (by omega)).trans qG
    have p2 : (G2.room 7).get p = some (LxO s (a + W.length) (.map r) (.slice sb 0 17 (.exact 17)) o) := (o2 p (by omega)).trans g1
    have r2 : (G2.room 7).get (h.n + 1) = some (.cells (encT ⟨1, W, 0, a⟩) 64 .own 0 0) := by
      show G2.get _ = _
      rw [hG2]; exact gsame rfl
    have w2 : WordsAt (G2.room 7) r := hw.of ((o2 r (by omega)).trans (oG r (by omega) (by omega)))
    have n2 : K.n ≤ (G2.room 7).n := by
      have : G2.n = G.n := by rw [hG2]; rfl
      simp; omega
    have old2 : ∀ b, b < h.n → b ≠ p → (G2.room 7).get b = h.get b := fun b hb hbp => (o2 b (by omega)).trans (oG b hb hbp)
    have lk2 := lookW W w2
    have ldt : load1 (G2.room 7) (h.n + 1) (0 + 1) = some (.str W) := ld1 r2 rfl
    have lda : load1 (G2.room 7) (h.n + 1) (0 + 3) = some (.int .i64 (Int.ofNat a)) := ld1 r2 rfl
    cases hin : inW W with
    | true =>
      rw [hin] at lk2
      obtain ⟨G3, hG3⟩ : ∃ G3, G3 = (G2.room 7).set (h.n + 1) (some (.cells (encT ⟨2, W, 0, a⟩) 64 .own 0 0)) := ⟨_, rfl⟩
      have st3 : AEv.storeCells (G2.room 7) (h.n + 1) (0 + 0) [.int .i64 (Int.ofNat 2)] = some G3 := by rw [hG3]; exact stc r2 rfl rfl
      have r4 : G3.get (h.n + 1) = some (.cells (encT ⟨2, W, 0, a⟩) 64 .own 0 0) := by rw [hG3]; exact gsame rfl
      have o3 : ∀ b, b ≠ h.n + 1 → G3.get b = (G2.room 7).get b := fun b hb => by rw [hG3]; exact gother hb rfl
      have n4 : K.n ≤ G3.n := by rw [hG3]; exact n2
      by_cases hlen : W.length > 24
      · rw [if_pos hlen]
        refine ⟨fun k t v n hx => (by cases hx), fun n hx => ?_⟩
        cases hx
        exact fin_pan (n := 0) (RunP.post (tk_3_1 (C (m + 7)) h.n (h.n + 1) s[a].toNat K true K p 0 W _ _ G2 p 0 r W true G3 W a _ _ cl rfl ldq c1 st1 st2 (ld1 q2 rfl) (ld1 p2 rfl) ldt lk2 rfl st3 (ld1 r4 rfl) (lt_t hlen) (ld1 r4 rfl) (wrong_c (m + 6) a G3)) trivial) (by simp; omega) (fun b hb hbp => gold (by omega) ((o3 b (by omega)).trans (old2 b hb hbp))) (wrong_v n4)
      · rw [if_neg hlen]
        refine ⟨fun k t v n hx => ?_, fun n hx => (by cases hx)⟩
        cases hx
        exact fin_ok (tk_3_2 (C (m + 7)) h.n (h.n + 1) s[a].toNat K true K p 0 W _ _ G2 p 0 r W true G3 W cl rfl ldq c1 st1 st2 (ld1 q2 rfl) (ld1 p2 rfl) ldt lk2 rfl st3 (ld1 r4 rfl) (lt_f hlen)) n4 (fun b hb hbp => (o3 b (by omega)).trans (old2 b hb hbp)) ((o3 h.n (by omega)).trans q2) r4 ((o3 p (by omega)).trans p2)
    | false =>
      rw [hin] at lk2
      by_cases hlen : W.length > 24
      · rw [if_pos hlen]
        refine ⟨fun k t v n hx => (by cases hx), fun n hx => ?_⟩
        cases hx
        exact fin_pan (n := 0) (RunP.post (tk_3_3 (C (m + 7)) h.n (h.n + 1) s[a].toNat K true K p 0 W _ _ G2 p 0 r W false a _ _ cl rfl ldq c1 st1 st2 (ld1 q2 rfl) (ld1 p2 rfl) ldt lk2 rfl (lt_t hlen) lda (wrong_c (m + 6) a (G2.room 7))) trivial) (by simp; simp at n2; omega) (fun b hb hbp => gold (by omega) (old2 b hb hbp)) (wrong_v n2)
      · rw [if_neg hlen]
        refine ⟨fun k t v n hx => ?_, fun n hx => (by cases hx)⟩
        cases hx
        exact fin_ok (tk_3_4 (C (m + 7)) h.n (h.n + 1) s[a].toNat K true K p 0 W _ _ G2 p 0 r W false cl rfl ldq c1 st1 st2 (ld1 q2 rfl) (ld1 p2 rfl) ldt lk2 rfl (lt_f hlen)) n2 old2 q2 r2 p2
  | false =>
    rw [hL] at cl
    rw [if_neg (by simp)]
    cases hD : digitB s[a] with
    | true =>
      rw [hD] at cd
      rw [if_pos rfl]
      obtain ⟨n1, n2⟩ := number_c (m + 3) p a s (.map r) (.slice sb 0 17 (.exact 17)) o K pK (by omega) (by omega) (by omega)
      cases hv : numV ((s.drop a).takeWhile digitB) 0 with
      | some v =>
        refine ⟨fun k t v' n hx => ?_, fun n hx => (by cases hx)⟩
        cases hx
        obtain ⟨G, c1, g1, x1⟩ := n1 v hv
        obtain ⟨oG, qG, rG, nG⟩ := fr x1
        obtain ⟨G2, hG2⟩ : ∃ G2, G2 = (G.set (h.n + 1) (some (.cells [.int .i64 (Int.ofNat 3), .str [], .int .i64 (Int.ofNat 0), .int .i64 (Int.ofNat a)] 64 .own 0 0))).set (h.n + 1) (some (.cells (encT ⟨3, [], v, a⟩) 64 .own 0 0)) := ⟨_, rfl⟩
        have st1 : AEv.storeCells G (h.n + 1) (0 + 0) [.int .i64 (Int.ofNat 3)] = some (G.set (h.n + 1) (some (.cells [.int .i64 (Int.ofNat 3), .str [], .int .i64 (Int.ofNat 0), .int .i64 (Int.ofNat a)] 64 .own 0 0))) := stc rG rfl rfl
        have st2 : AEv.storeCells (G.set (h.n + 1) (some (.cells [.int .i64 (Int.ofNat 3), .str [], .int .i64 (Int.ofNat 0), .int .i64 (Int.ofNat a)] 64 .own 0 0))) (h.n + 1) (0 + 2) [.int .i64 (Int.ofNat v)] = some G2 := by rw [hG2]; exact stc (gsame rfl) rfl rfl
        have o2 : ∀ b, b ≠ h.n + 1 → G2.get b = G.get b := fun b hb => by rw [hG2]; exact gother hb (gother hb rfl)
        exact fin_ok (tk_3_5 (C (m + 7)) h.n (h.n + 1) s[a].toNat K false K true K p 0 v G _ G2 cl rfl cd rfl ldq c1 st1 st2) (by rw [hG2]; exact nG) (fun b hb hbp => (o2 b (by omega)).trans (oG b hb hbp)) ((o2 h.n (by omega)).trans qG) (by rw [hG2]; exact gsame rfl) ((o2 p (by omega)).trans g1)
      | none =>
        refine ⟨fun k t v' n hx => (by cases hx), fun n hx => ?_⟩
        cases hx
        obtain ⟨v, G, c1, g1, x1⟩ := n2 hv
        obtain ⟨oG, qG, rG, nG⟩ := fr x1
        exact fin_pan (n := 0) (tkN (C (m + 7)) h.n (h.n + 1) s[a].toNat 0 0 0 .dead v K K K G p 0 cl cd ldq c1) nG oG g1
    | false =>
      rw [hD] at cd
      rw [if_neg (by simp)]
      by_cases h34 : s[a].toNat = 34
      · rw [if_pos h34]
        have hlr : (line (s.drop (a + 1))).length ≤ (s.drop a).length := by
          have h5 : (line (s.drop (a + 1))).length ≤ (s.drop (a + 1)).length := (List.takeWhile_prefix (l := s.drop (a + 1)) nlB).length_le
          rw [List.length_drop] at h5 ⊢; omega
        obtain ⟨n1, n2⟩ := quoted_c m p a s (.map r) (.slice sb 0 17 (.exact 17)) o K tK pK hs ⟨hp5, by omega⟩ hd h34 (s.drop a).length hlr
        cases hv : txt (s.drop a).length (s.drop (a + 1)) 1 [] with
        | ok t n0 =>
          refine ⟨fun k t v' n hx => ?_, fun n hx => (by cases hx)⟩
          cases hx
          obtain ⟨G, c1, g1, x1⟩ := n1 t n0 hv
          obtain ⟨oG, qG, rG, nG⟩ := fr x1
          obtain ⟨G2, hG2⟩ : ∃ G2, G2 = (G.set (h.n + 1) (some (.cells [.int .i64 (Int.ofNat 4), .str [], .int .i64 (Int.ofNat 0), .int .i64 (Int.ofNat a)] 64 .own 0 0))).set (h.n + 1) (some (.cells (encT ⟨4, t, 0, a⟩) 64 .own 0 0)) := ⟨_, rfl⟩
          have st1 : AEv.storeCells G (h.n + 1) (0 + 0) [.int .i64 (Int.ofNat 4)] = some (G.set (h.n + 1) (some (.cells [.int .i64 (Int.ofNat 4), .str [], .int .i64 (Int.ofNat 0), .int .i64 (Int.ofNat a)] 64 .own 0 0))) := stc rG rfl rfl
          have st2 : AEv.storeCells (G.set (h.n + 1) (some (.cells [.int .i64 (Int.ofNat 4), .str [], .int .i64 (Int.ofNat 0), .int .i64 (Int.ofNat a)] 64 .own 0 0))) (h.n + 1) (0 + 1) [.str t] = some G2 := by rw [hG2]; exact stc (gsame rfl) rfl rfl
          have o2 : ∀ b, b ≠ h.n + 1 → G2.get b = G.get b := fun b hb => by rw [hG2]; exact gother hb (gother hb rfl)
          exact fin_ok (tk_3_6 (C (m + 7)) h.n (h.n + 1) s[a].toNat K false K false K p 0 t G _ G2 cl rfl cd rfl (eqI_t h34) ldq c1 st1 st2) (by rw [hG2]; exact nG) (fun b hb hbp => (o2 b (by omega)).trans (oG b hb hbp)) ((o2 h.n (by omega)).trans qG) (by rw [hG2]; exact gsame rfl) ((o2 p (by omega)).trans g1)
        | bad n0 =>
          refine ⟨fun k t v' n hx => (by cases hx), fun n hx => ?_⟩
          cases hx
          obtain ⟨v, G, c1, g1, x1⟩ := n2 n0 hv
          obtain ⟨oG, qG, rG, nG⟩ := fr x1
          exact fin_pan (tkQ (C (m + 7)) h.n (h.n + 1) s[a].toNat 0 0 0 .dead v K K K G p 0 cl cd (eqI_t h34) ldq c1) nG oG g1
      · rw [if_neg h34]
        obtain ⟨i1, i2⟩ := ixf_c (m + 3) p h.n a sb s (.map r) (.slice sb 0 17 (.exact 17)) o K (by omega) qK pK sK
        have ldp : load1 K p (0 + 3) = some (.slice sb 0 17 (.exact 17)) := ld1 pK rfl
        cases hv : sgn (s.drop a) with
        | none =>
          refine ⟨fun k t v' n hx => (by cases hx), fun n hx => ?_⟩
          cases hx
          obtain ⟨G, c1, nG, oG⟩ := i2 hv
          have qG := (oG h.n).trans qK
          have pG := (oG p).trans pK
          exact fin_pan (n := 0) (tkS (C (m + 7)) h.n (h.n + 1) s[a].toNat p sb 17 (.exact 17) .nilI K K K G p 0 a _ _ cl cd (eqI_f h34) ldq ldp c1 (ld1 qG rfl) (ld1 pG rfl) (wrong_c (m + 6) a G)) (by simp; omega) (fun b hb hbp => gold (by omega) ((oG b).trans (oldK b hb))) (wrong_v nG)
        | some t =>
          refine ⟨fun k t' v' n hx => ?_, fun n hx => (by cases hx)⟩
          cases hx
          obtain ⟨j, G, hj, hjt, c1, nG, oG⟩ := i1 t hv
          have qG : (G.room 11).get h.n = some (PtrO p) := (oG h.n).trans qK
          have pG : (G.room 11).get p = some (LxO s a (.map r) (.slice sb 0 17 (.exact 17)) o) := (oG p).trans pK
          have rG : (G.room 11).get (h.n + 1) = some (.cells [.int .i64 (Int.ofNat 0), .str [], .int .i64 (Int.ofNat 0), .int .i64 (Int.ofNat a)] 64 .own 0 0) := (oG (h.n + 1)).trans rK
          have sG : SignsAt (G.room 11) sb := sK.of (oG sb)
          have hj17 : j < 17 := hj
          have ldsg : ∀ X : AHeap, SignsAt X sb → load1 X sb (0 + j * 1) = some (.str t) := fun X hX => by
            obtain ⟨el', kk, lo, up, hX⟩ := hX
            refine ld1 hX ?_
            have e : 0 + j * 1 = j := by omega
            rw [e, nth_eq, List.getElem?_map, List.getElem?_eq_getElem hj, hjt]; rfl
          obtain ⟨A1, hA1⟩ : ∃ A1, A1 = (G.room 11).set (h.n + 1) (some (.cells [.int .i64 (Int.ofNat 5), .str [], .int .i64 (Int.ofNat 0), .int .i64 (Int.ofNat a)] 64 .own 0 0)) := ⟨_, rfl⟩
          obtain ⟨A2, hA2⟩ : ∃ A2, A2 = A1.set (h.n + 1) (some (.cells (encT ⟨5, t, 0, a⟩) 64 .own 0 0)) := ⟨_, rfl⟩
          have st1 : AEv.storeCells (G.room 11) (h.n + 1) (0 + 0) [.int .i64 (Int.ofNat 5)] = some A1 := by rw [hA1]; exact stc rG rfl rfl
          have r1 : A1.get (h.n + 1) = some (.cells [.int .i64 (Int.ofNat 5), .str [], .int .i64 (Int.ofNat 0), .int .i64 (Int.ofNat a)] 64 .own 0 0) := by rw [hA1]; exact gsame rfl
          have st2 : AEv.storeCells A1 (h.n + 1) (0 + 1) [.str t] = some A2 := by rw [hA2]; exact stc r1 rfl rfl
          have o1 : ∀ b, b ≠ h.n + 1 → A1.get b = G.get b := fun b hb => by rw [hA1]; exact gother hb rfl
          have o2 : ∀ b, b ≠ h.n + 1 → A2.get b = G.get b := fun b hb => by rw [hA2]; exact gother hb (o1 b hb)
          have q1 : A1.get h.n = some (PtrO p) := (o1 h.n (by omega)).trans ((oG h.n).trans qK)
          have p1' : A1.get p = some (LxO s a (.map r) (.slice sb 0 17 (.exact 17)) o) := (o1 p (by omega)).trans ((oG p).trans pK)
          have sg1 : SignsAt A1 sb := sK.of ((o1 sb (by omega)).trans (oG sb))
          have q2 : (A2.room 11).get h.n = some (PtrO p) := (o2 h.n (by omega)).trans ((oG h.n).trans qK)
          have p2 : (A2.room 11).get p = some (LxO s a (.map r) (.slice sb 0 17 (.exact 17)) o) := (o2 p (by omega)).trans ((oG p).trans pK)
          have r2 : (A2.room 11).get (h.n + 1) = some (.cells (encT ⟨5, t, 0, a⟩) 64 .own 0 0) := by
            show A2.get _ = _
            rw [hA2]; exact gsame rfl
          have htl : t.length ≤ 2 := by
            have := (signs_pos t (sgn_mem hv).1).2
            omega
          have hjn : Nat.le (Nat.succ j) 17 := hj17
          have nA : A2.n = G.n + 11 := by rw [hA2, hA1]; rfl
          exact fin_ok (tk_3_7 (C (m + 7)) h.n (h.n + 1) s[a].toNat K false K false K p 0 sb 0 17 (.exact 17) j G p 0 sb 0 17 (.exact 17) t A1 A2 p 0 a t _ _ cl rfl cd rfl (eqI_f h34) ldq ldp c1 (ld1 qG rfl) (ld1 pG rfl) hjn (ldsg _ sG) st1 st2 (ld1 q1 rfl) (ld1 p1' rfl) (ldsg _ sg1) (ld1 q2 rfl) (ld1 p2 rfl) (ld1 r2 rfl) (add_n (i := a) (j := t.length) (by omega)) (stc p2 rfl rfl))
            (by simp; omega) (fun b hb hbp => gother hbp ((o2 b (by omega)).trans ((oG b).trans (oldK b hb)))) (gother (by omega) q2) (gother (by omega) r2) (gsame rfl)
end Go.Proofs.Lx

namespace Go.Proofs.Lx
open Go AEv Go.Proofs Lexp
set_option maxRecDepth 100000
set_option maxHeartbeats 1000000

/-! ### Lex, whole -/
theorem LI.adv {p r sb : Nat} {s : List UInt8} {a : Nat} {out : List Tk} {h : AHeap} (hi : LI p r sb s a out h) : ∃ o, h.get p = some (LxO s a (.map r) (.slice sb 0 17 (.exact 17)) o) ∧ ∀ n h', h'.get p = some (LxO s n (.map r) (.slice sb 0 17 (.exact 17)) o) → ExtX p h.n h h' → LI p r sb s n out h' := by
  obtain ⟨⟨o, gp, ho⟩, hw, hsg, htb, hp5, hrp, hsp, hpn⟩ := hi
  have hone := ho.ne gp (.inl (by simp))
  refine ⟨o, gp, fun n h' g x => ⟨⟨o, g, ho.keep x.n fun q hq hqn => x.get q hqn fun e => hone _ _ (hq.trans (congrArg (fun z => AV.slice z 0 out.length (.opn 4)) e))⟩, hw.of (x.get r (by omega) (by omega)), hsg.of (x.get sb (by omega) (by omega)), tabs_keep htb fun b hb => x.get b (by omega) (by omega), hp5, hrp, hsp, by have := x.n; omega⟩⟩
abbrev lxS (s : List UInt8) (q1 q2 p : Nat) (d : List ADef) (h : AHeap) : SSt := ⟨[(0, .str s), (2, .ptr q1 0), (3, .ptr q2 0), (4, .ptr p 0)], d, .none, h⟩
def LEnd (m p r sb q1 q2 : Nat) (s : List UInt8) (d : List ADef) (f : Nat) (h : AHeap) : Except Nat (List Tk) → Prop
  | .ok res => ∃ k h' out, k ≤ f + 1 ∧ LoopF Tryz.prog Tryz.f37 none (C (m + 8)) [1, 1, 1, 0, 0] k (lxS s q1 q2 p d h) (.exit 0) (lxS s q1 q2 p d h') ∧ res = out ++ [⟨0, [], 0, s.length⟩] ∧ out.length ≤ s.length ∧ LI p r sb s s.length out h' ∧ ExtX p (p + 1) h h'
  | .error e => ∃ k v h', k ≤ f + 1 ∧ LoopF Tryz.prog Tryz.f37 none (C (m + 8)) [1, 1, 1, 0, 0] k (lxS s q1 q2 p d h) (.pan v) (lxS s q1 q2 p d h') ∧ PanV v e h h' ∧ ExtX p (p + 1) h h'
theorem LEnd.step {m p r sb q1 q2 : Nat} {s : List UInt8} {d : List ADef} {f : Nat} {h g : AHeap} (hr : RunF Tryz.prog Tryz.f37 none (C (m + 8)) [1, 1, 1, 0, 0, 0] (lxS s q1 q2 p d h) .nrm (lxS s q1 q2 p d g)) (hx : ExtX p (p + 1) h g) : ∀ {x : Except Nat (List Tk)}, LEnd m p r sb q1 q2 s d f g x → LEnd m p r sb q1 q2 s d (f + 1) h x
  | .ok res, ⟨k, h', out, h1, h2, h3, h4, h5, h6⟩ => ⟨k + 1, h', out, by omega, .step hr h2, h3, h4, h5, hx.trans (Nat.le_refl _) h6⟩
  | .error e, ⟨k, v, h', h1, h2, h3, h4⟩ => ⟨k + 1, v, h', by omega, .step hr h2, pan_from hx.n h3, hx.trans (Nat.le_refl _) h4⟩
theorem el_noskip {c : UInt8} {r : List UInt8} (hb : blankB c = false) (h35 : ¬ c.toNat = 35) (n : Nat) : el (c :: r) ≠ .skip n := by
  unfold el
  simp only [hb, Bool.false_eq_true, if_false, if_neg h35]
  intro h
  split at h
  · split at h <;> cases h
  split at h
  · split at h <;> cases h
  split at h
  · split at h <;> cases h
  split at h <;> cases h
theorem lex_lp (m p r sb q1 q2 : Nat) (s : List UInt8) (d : List ADef) (hs : s.length ≤ 80000) : ∀ (f a : Nat) (out : List Tk) (h : AHeap), s.length - a ≤ f → a ≤ s.length → out.length ≤ a → LI p r sb s a out h → LEnd m p r sb q1 q2 s d f h (lexL f (s.drop a) a out)
  | 0, a, out, h, hf, ha, hol, hi => by
    obtain rfl : a = s.length := by omega
    obtain ⟨o, gp, _⟩ := hi.adv
    exact ⟨1, h, out, by omega, .exit (lx_l_7 (C (m + 8)) s q1 q2 p d h s.length (ld1 gp rfl) (lt_f (by omega))) (by simp), rfl, hol, hi, .refl _ _ _⟩
  | f + 1, a, out, h, hf, ha, hol, hi => by
    obtain ⟨o, gp, adv⟩ := hi.adv
    have hpn := hi.lt.2.2.2
    have hp5 := hi.lt.1
    have ldi : load1 h p (0 + 1) = some (.int .i64 (Int.ofNat a)) := ld1 gp rfl
    rcases Nat.lt_or_ge a s.length with hlt | hge
    · have hd := List.drop_eq_getElem_cons hlt
      have hll : (s.drop a).length = s.length - a := List.length_drop
      have hel := el_len s[a] (s.drop (a + 1))
      rw [← hd, show (s.drop (a + 1)).length + 1 = (s.drop a).length by rw [hd]; rfl, hll] at hel
      unfold lexL
      rw [hd]
      simp only
      rw [← hd]
      have i1 := lt_t hlt
      have i2 : idxS a s = some (.int .u8 (Int.ofNat s[a].toNat)) := idx_t hlt
      by_cases hb : blankB s[a] = true
      · have he : el (s.drop a) = .skip 1 := by rw [hd]; unfold el; simp only; rw [if_pos hb]
        rw [he]
        simp only
        rw [List.drop_drop]
        have ad : arith BinOp.add IntKind.i64 (Int.ofNat a) (Int.ofNat 1) = some (.int .i64 (Int.ofNat (a + 1))) := add_n (by omega)
        have sc : AEv.storeCells h p (0 + 1) [.int .i64 (Int.ofNat (a + 1))] = some (h.set p (some (LxO s (a + 1) (.map r) (.slice sb 0 17 (.exact 17)) o))) := stc gp rfl rfl
        refine LEnd.step ?_ (ExtX.set _) (lex_lp m p r sb q1 q2 s d hs f (a + 1) out _ (by omega) (by omega) (by omega) (adv (a + 1) _ (gsame rfl) (ExtX.set _)))
        by_cases e1 : s[a].toNat = 32
        · exact lx_l_1 (C (m + 8)) s q1 q2 p d h _ _ _ _ ldi i1 i2 (eqI_t e1) ad sc
        by_cases e2 : s[a].toNat = 9
        · exact lx_l_2 (C (m + 8)) s q1 q2 p d h _ _ _ _ ldi i1 i2 (eqI_f e1) (eqI_t e2) ad sc
        by_cases e3 : s[a].toNat = 10
        · exact lx_l_3 (C (m + 8)) s q1 q2 p d h _ _ _ _ ldi i1 i2 (eqI_f e1) (eqI_f e2) (eqI_t e3) ad sc
        have e4 : s[a].toNat = 13 := by
          simp [blankB, e1, e2, e3] at hb; exact hb
        exact lx_l_4 (C (m + 8)) s q1 q2 p d h _ _ _ _ ldi i1 i2 (eqI_f e1) (eqI_f e2) (eqI_f e3) (eqI_t e4) ad sc
      · have hb' : blankB s[a] = false := by simpa using hb
        have e1 : ¬ s[a].toNat = 32 := fun e => hb (by simp [blankB, e])
        have e2 : ¬ s[a].toNat = 9 := fun e => hb (by simp [blankB, e])
        have e3 : ¬ s[a].toNat = 10 := fun e => hb (by simp [blankB, e])
        have e4 : ¬ s[a].toNat = 13 := fun e => hb (by simp [blankB, e])
        by_cases h35 : s[a].toNat = 35
        · obtain ⟨r1, r2⟩ := remark_c (m + 1) p a s (.map r) (.slice sb 0 17 (.exact 17)) o h hi.tb gp hs ha ⟨hp5, hpn⟩ (s.drop a).length (List.takeWhile_prefix (l := s.drop a) nlB).length_le
          have he : el (s.drop a) = (match remk (s.drop a).length (s.drop a) 0 with | (true, n) => .skip n | (false, n) => .bad n) := by
            rw [hd]
            conv => lhs; unfold el
            simp only [hb', Bool.false_eq_true, if_false, if_pos h35]
            rfl
          cases hr : remk (s.drop a).length (s.drop a) 0 with
          | mk bb n =>
            rw [hr] at r1 r2 he
            cases bb with
            | true =>
              simp only at he
              rw [he] at hel ⊢
              simp only
              obtain ⟨g, c1, g1, x1⟩ := r1 rfl
              rw [List.drop_drop]
              exact LEnd.step (lx_l_5 (C (m + 8)) s q1 q2 p d h _ _ _ ldi i1 i2 (eqI_f e1) (eqI_f e2) (eqI_f e3) (eqI_f e4) (eqI_t h35) c1) (x1.le (by omega)) (lex_lp m p r sb q1 q2 s d hs f (a + n) out _ (by have := hel.1; omega) (by have := hel.2; omega) (by omega) (adv (a + n) _ g1 x1))
            | false =>
              simp only at he
              rw [he]
              obtain ⟨v, g, c1, v1, x1⟩ := r2 rfl
              exact ⟨1, v, g, by omega, .exit (lx_r (C (m + 8)) s q1 q2 p v d h g _ _ ldi i1 i2 (eqI_f e1) (eqI_f e2) (eqI_f e3) (eqI_f e4) (eqI_t h35) c1) (by simp), v1, x1.le (by omega)⟩
        · obtain ⟨t1, t2⟩ := tok_c m p r sb a s out h hi hs hlt (by omega) hb' h35
          cases he : el (s.drop a) with
          | skip n => rw [hd] at he; exact absurd he (el_noskip hb' h35 n)
          | tok k t v n =>
            rw [he] at hel
            simp only
            obtain ⟨g, c1, i3, x1⟩ := t1 k t v n he
            rw [List.drop_drop]
            exact LEnd.step (lx_l_6 (C (m + 8)) s q1 q2 p d h _ _ _ ldi i1 i2 (eqI_f e1) (eqI_f e2) (eqI_f e3) (eqI_f e4) (eqI_f h35) c1) x1 (lex_lp m p r sb q1 q2 s d hs f (a + n) _ _ (by have := hel.1; omega) (by have := hel.2; omega) (by have := hel.1; simp; omega) i3)
          | bad n =>
            obtain ⟨v, g, c1, v1, x1⟩ := t2 n he
            exact ⟨1, v, g, by omega, .exit (lx_t (C (m + 8)) s q1 q2 p v d h g _ _ ldi i1 i2 (eqI_f e1) (eqI_f e2) (eqI_f e3) (eqI_f e4) (eqI_f h35) c1) (by simp), v1, x1⟩
    · obtain rfl : a = s.length := by omega
      unfold lexL
      rw [List.drop_length]
      exact ⟨1, h, out, by omega, .exit (lx_l_7 (C (m + 8)) s q1 q2 p d h s.length ldi (lt_f (by omega))) (by simp), rfl, hol, hi, .refl _ _ _⟩
theorem res_lx {Γ : Env} {y : AHeap} {a b : Nat} {v w : AV} (lda : load1 y a 0 = some v) (ldb : load1 y b 0 = some w) (h2 : lk 2 Γ = some (.ptr a 0) := by kernel_rfl) (h3 : lk 3 Γ = some (.ptr b 0) := by kernel_rfl) : resS Tryz.prog (needFn Tryz.f37) Tryz.f37 Γ y = some (.tup [v, w]) := by
  have e : (Tryz.f37).results.toList = [.cell 2 57, .cell 3 37] := by kernel_rfl
  have b2 : Nat.testBit (needFn Tryz.f37) 2 = true := by kernel_rfl
  have b3 : Nat.testBit (needFn Tryz.f37) 3 = true := by kernel_rfl
  have g2 : isAggT Tryz.prog 57 = some false := by kernel_rfl
  have g3 : isAggT Tryz.prog 37 = some false := by kernel_rfl
  have z2 : sizeT Tryz.prog 57 = some 1 := by kernel_rfl
  have z3 : sizeT Tryz.prog 37 = some 1 := by kernel_rfl
  unfold resS
  rw [e]
  simp only [allA, oneS, b2, b3, h2, h3, g2, g3, z2, z3, lda, ldb]
abbrev noTok : AObj := .cells [.nilS] 57 .own 0 0
abbrev noErr : AObj := .cells [.nilI] 37 .own 0 0
theorem Lex_c (m : Nat) (s : List UInt8) (h : AHeap) (ht : tabsIn h tabs = true) (hn : 9 ≤ h.n) (hs : s.length ≤ 80000) :
    (∀ out, lexS s = .ok out → ∃ v h', C (m + 9) (.fn 37) [.str s] h = .ret (.tup [v, .nilI]) h' ∧ OutG encT 4 64 h.n h' v out ∧ Ext h.n h h') ∧
    (∀ a, lexS s = .error a → ∃ e h', C (m + 9) (.fn 37) [.str s] h = .ret (.tup [.nilS, .iface 93 (.ptr e 0)]) h' ∧ h'.get e = some (FaultO a) ∧ h.n ≤ e ∧ e < h'.n ∧ Ext h.n h h') := by
  have s0 := lx_0 (C (m + 8)) s h
  obtain ⟨h2, hh2⟩ : ∃ h2, h2 = (h.push noTok).push noErr := ⟨_, rfl⟩
  have n2 : h2.n = h.n + 2 := by rw [hh2]; rfl
  have o2 : ∀ b, b < h.n → h2.get b = h.get b := fun b hb => by rw [hh2]; exact gold (by simp; omega) (gold hb rfl)
  have a2 : h2.get h.n = some noTok := by rw [hh2]; exact gold (by simp) (gtop rfl)
  have b2 : h2.get (h.n + 1) = some noErr := by rw [hh2]; exact gtop rfl
  have t2 : tabsIn h2 tabs = true := tabs_keep ht fun b hb => o2 b (by omega)
  obtain ⟨r, g, c1, w1, x1, hr1, hr2⟩ := reserved_c (m + 7) h2 t2
  have xn1 := x1.n
  have t3 : tabsIn g tabs = true := tabs_keep t2 fun b hb => x1.get b (by omega)
  obtain ⟨sb, g1, c2, w2, x2, hs1, hs2⟩ := signs_c (m + 7) g t3
  have xn2 := x2.n
  obtain ⟨h3, hh3⟩ : ∃ h3, h3 = g1.push (LxO s 0 (.map r) (.slice sb 0 17 (.exact 17)) .nilS) := ⟨_, rfl⟩
  have n3 : h3.n = g1.n + 1 := by rw [hh3]; rfl
  have o3 : ∀ b, b < g1.n → h3.get b = g1.get b := fun b hb => by rw [hh3]; exact gold hb rfl
  have o3' : ∀ b, b < h2.n → h3.get b = h2.get b := fun b hb => (o3 b (by omega)).trans ((x2.get b (by omega)).trans (x1.get b hb))
  have a3 : h3.get h.n = some noTok := (o3' _ (by omega)).trans a2
  have b3 : h3.get (h.n + 1) = some noErr := (o3' _ (by omega)).trans b2
  have hi : LI g1.n r sb s 0 [] h3 := ⟨⟨.nilS, by rw [hh3]; exact gtop rfl, .inl ⟨rfl, rfl⟩⟩, w1.of ((o3 r (by omega)).trans (x2.get r hr2)), w2.of (o3 sb hs2), tabs_keep t2 fun b hb => o3' b (by omega), by omega, by omega, hs2, by omega⟩
  have s1 := lx_1 (C (m + 8)) s h.n (h.n + 1) r sb 17 (.exact 17) h2 g g1 c1 c2
  have s2 := lx_2 (C (m + 8)) s h.n (h.n + 1) g1.n h3
  rw [hh2] at s1
  rw [hh3] at s2
  have lp := lex_lp m g1.n r sb h.n (h.n + 1) s [.call 70 [.ptr h.n 0, .ptr (h.n + 1) 0]] hs s.length 0 [] h3 (by omega) (by omega) (by simp) hi
  rw [List.drop_zero] at lp
  have ext0 : ∀ {x}, ExtX g1.n (g1.n + 1) h3 x → Ext h.n h x := fun {x} e => ⟨by have := e.n; omega, fun b hb => (e.get b (by omega) (by omega)).trans ((o3' b (by omega)).trans (o2 b hb))⟩
  refine ⟨fun out ho => ?_, fun a ho => ?_⟩
  · rw [show lexL s.length s 0 [] = .ok out from ho] at lp
    obtain ⟨k, x, out', k1, k2, rfl, k3, k4, k5⟩ := lp
    have l1 := LoopF.run (p := [1, 1, 1, 0, 0]) (by kernel_rfl) k2 (by omega)
    have l2 := RunF.block (p := [1, 1, 1, 0]) (id := 0) (by kernel_rfl) l1
    obtain ⟨⟨o, gp, hO⟩, _, _, _, _, _, _, _⟩ := k4
    have kn := k5.n
    have xa : x.get h.n = some noTok := (k5.get h.n (by omega) (by omega)).trans a3
    have xb : x.get (h.n + 1) = some noErr := (k5.get (h.n + 1) (by omega) (by omega)).trans b3
    obtain ⟨H, hH⟩ : ∃ H, H = (x.room 13).set (x.n + 9) (some (.cells (encT ⟨0, [], 0, s.length⟩) 64 .own 0 0)) := ⟨_, rfl⟩
    have nH : H.n = x.n + 13 := by rw [hH]; rfl
    have gH : ∀ c, c < x.n → H.get c = x.get c := fun c hc => by rw [hH]; exact gother (by omega) rfl
    obtain ⟨c, N, h', p1, p2, p3, p4, p5⟩ := put_tok (d := ⟨0, [], 0, s.length⟩) (b := x.n + 9) hO (by omega) (by omega) (by omega) gH (by rw [hH]; exact gsame rfl) (by omega)
    have gx : (x.room 13).get g1.n = some (LxO s s.length (.map r) (.slice sb 0 17 (.exact 17)) o) := gp
    have gHp := (gH g1.n (by omega)).trans gp
    have ha' : h'.get h.n = some noTok := (p3.get h.n (by omega)).trans ((gH _ (by omega)).trans xa)
    have hb' : h'.get (h.n + 1) = some noErr := (p3.get (h.n + 1) (by omega)).trans ((gH _ (by omega)).trans xb)
    rw [hH] at p1 gHp
    obtain ⟨y, hy⟩ : ∃ y, y = (h'.set h.n (some (.cells [.slice c 0 N (.opn 4)] 57 .own 0 0))).set (h.n + 1) (some noErr) := ⟨_, rfl⟩
    have st1 : AEv.storeCells h' h.n 0 [.slice c 0 N (.opn 4)] = some (h'.set h.n (some (.cells [.slice c 0 N (.opn 4)] 57 .own 0 0))) := stc ha' rfl rfl
    have hb2 : (h'.set h.n (some (.cells [.slice c 0 N (.opn 4)] 57 .own 0 0))).get (h.n + 1) = some noErr := gother (by omega) hb'
    have st2 : AEv.storeCells (h'.set h.n (some (.cells [.slice c 0 N (.opn 4)] 57 .own 0 0))) (h.n + 1) 0 [.nilI] = some y := by rw [hy]; exact stc hb2 rfl rfl
    have s3 := lx_e (C (m + 8)) s h.n (h.n + 1) g1.n c N s.length o [.call 70 [.ptr h.n 0, .ptr (h.n + 1) 0]] x h' _ y (ld1 gx rfl) (ld1 gx rfl) p1 st1 st2 hO.sound (ld1 gHp rfl) (ld1 gHp rfl)
    have hr := RunF.seq (p := []) (by kernel_rfl) s0 (RunF.seq (p := [1]) (by kernel_rfl) s1 (RunF.seq (p := [1, 1]) (by kernel_rfl) s2 (RunF.seq (p := [1, 1, 1]) (by kernel_rfl) (hh3 ▸ l2) s3)))
    have s4 := lx_n (C (m + 8)) h.n (h.n + 1) y
    have ya : y.get h.n = some (.cells [.slice c 0 N (.opn 4)] 57 .own 0 0) := by rw [hy]; exact gother (by omega) (gsame rfl)
    have yb : y.get (h.n + 1) = some noErr := by rw [hy]; exact gsame rfl
    have lda : load1 y h.n 0 = some (.slice c 0 N (.opn 4)) := ld1 ya rfl
    have ldb : load1 y (h.n + 1) 0 = some .nilI := ld1 yb rfl
    refine ⟨.slice c 0 N (.opn 4), y, fn_dfr (intr := Il) (n := m + 8) (args := [.str s]) (gargs := [.ptr h.n 0, .ptr (h.n + 1) 0]) Tryz.func37 (by kernel_rfl) rfl (by kernel_rfl) hr (.inl rfl) Tryz.func70 (by kernel_rfl) (by kernel_rfl) s4 (.inr rfl) (w := .tup []) (by kernel_rfl) rfl (res_lx lda ldb), ?_, ?_⟩
    · rw [hy]
      have q1 := p2.setOwn (o := some (.cells [.slice c 0 N (.opn 4)] 57 .own 0 0)) ha'
      have q2 := q1.setOwn (o := some noErr) hb2
      exact q2.le (by omega)
    · rw [hy]
      refine Ext.setR (by omega) (Ext.setR (Nat.le_refl _) ⟨by omega, fun b hb => (p3.get b (by omega)).trans ((gH b (by omega)).trans ((ext0 k5).get b hb))⟩)
  · rw [show lexL s.length s 0 [] = .error a from ho] at lp
    obtain ⟨k, v, x, k1, k2, ⟨e, rfl, v1, v2, v3⟩, k5⟩ := lp
    have l1 := LoopF.run (p := [1, 1, 1, 0, 0]) (by kernel_rfl) k2 (by omega)
    have l2 := RunF.blockx (p := [1, 1, 1, 0]) (id := 0) (by kernel_rfl) l1 (by simp)
    have kn := k5.n
    have xa : (x.room 5).get h.n = some noTok := (k5.get h.n (by omega) (by omega)).trans a3
    have xb : (x.room 5).get (h.n + 1) = some noErr := (k5.get (h.n + 1) (by omega) (by omega)).trans b3
    have hr := RunF.seq (p := []) (by kernel_rfl) s0 (RunF.seq (p := [1]) (by kernel_rfl) s1 (RunF.seq (p := [1, 1]) (by kernel_rfl) s2 (RunF.seqx (p := [1, 1, 1]) (by kernel_rfl) (hh3 ▸ l2) (by simp))))
    obtain ⟨y, hy⟩ : ∃ y, y = ((x.room 5).set h.n (some noTok)).set (h.n + 1) (some (.cells [.iface 93 (.ptr e 0)] 37 .own 0 0)) := ⟨_, rfl⟩
    have st1 : AEv.storeCells (x.room 5) h.n 0 [.nilS] = some ((x.room 5).set h.n (some noTok)) := stc xa rfl rfl
    have hb2 : ((x.room 5).set h.n (some noTok)).get (h.n + 1) = some noErr := gother (by omega) xb
    have st2 : AEv.storeCells ((x.room 5).set h.n (some noTok)) (h.n + 1) 0 [.iface 93 (.ptr e 0)] = some y := by rw [hy]; exact stc hb2 rfl rfl
    have s4 := lx_d (C (m + 8)) h.n (h.n + 1) e x _ y st1 st2
    have ya : y.get h.n = some noTok := by rw [hy]; exact gother (by omega) (gsame rfl)
    have yb : y.get (h.n + 1) = some (.cells [.iface 93 (.ptr e 0)] 37 .own 0 0) := by rw [hy]; exact gsame rfl
    have lda : load1 y h.n 0 = some .nilS := ld1 ya rfl
    have ldb : load1 y (h.n + 1) 0 = some (.iface 93 (.ptr e 0)) := ld1 yb rfl
    refine ⟨e, y, fn_dfr (intr := Il) (n := m + 8) (args := [.str s]) (gargs := [.ptr h.n 0, .ptr (h.n + 1) 0]) Tryz.func37 (by kernel_rfl) rfl (by kernel_rfl) hr (.inr (.inr ⟨_, rfl⟩)) Tryz.func70 (by kernel_rfl) (by kernel_rfl) s4 (.inr rfl) (w := .tup []) (by kernel_rfl) rfl (res_lx lda ldb), ?_, by omega, by rw [hy]; simp; omega, ?_⟩
    · rw [hy]; exact gother (by omega) (gother (by omega) v1)
    · rw [hy]
      exact Ext.setR (by omega) (Ext.setR (Nat.le_refl _) ⟨by simp; omega, fun b hb => (ext0 k5).get b hb⟩)
end Go.Proofs.Lx
