/-
  PROVED HERE: contracts of functions (Dg). No condition beside each statement's own.
-/
import Derived.Test.YtbndinilpflomaaDf
import Derived.Test.YtbndinilpflomaaDe
import Derived.Test.YtbndinilpflomaaDd
set_option linter.unusedVariables false
set_option linter.unusedSimpArgs false
namespace Go.Proofs.Wire
open Go AEv Go.Proofs Go.Proofs.Enc
set_option maxRecDepth 100000
set_option maxHeartbeats 1000000

/-! ### Diagnostics that are read: what stands in bytes -/
abbrev Itm := List UInt8 × Nat × Nat
def itmT (x : Itm) : List UInt8 := textL x.1 ++ (numL x.2.1 ++ numL x.2.2)
def itmS (st : RdS) : Itm × RdS := (((textS st).1, (numS (textS st).2).1, (numS (numS (textS st).2).2).1), (numS (numS (textS st).2).2).2)
inductive Reads : Nat → RdS → List Itm → RdS → Prop
  | nil (st : RdS) : Reads 0 st [] st
  | bad (n : Nat) : Reads (n + 1) none [] none
  | cons {n : Nat} {s : List UInt8} {l : List Itm} {st : RdS} (h : Reads n (itmS (some s)).2 l st) : Reads (n + 1) (some s) ((itmS (some s)).1 :: l) st
def vld (x : Itm) : Prop := x.1.length < 18446744073709551616 ∧ x.2.1 < 18446744073709551616 ∧ x.2.2 < 18446744073709551616
theorem textS_text (t r : List UInt8) (h : t.length < 18446744073709551616) : textS (some (textL t ++ r)) = (t, some r) := by
  unfold textS textL
  rw [List.append_assoc, numS_num _ _ h]
  show cutS t.length (some (t ++ r)) = _
  rw [cutS_t (by simp), List.take_left, List.drop_left]
theorem itmS_itm (x : Itm) (r : List UInt8) (h : vld x) : itmS (some (itmT x ++ r)) = (x, some r) := by
  obtain ⟨a, b, c⟩ := x
  obtain ⟨h1, h2, h3⟩ := h
  unfold itmS itmT
  simp only [List.append_assoc]
  rw [textS_text a _ h1]
  simp only
  rw [numS_num b _ h2]
  simp only
  rw [numS_num c _ h3]
theorem reads_all : ∀ (its : List Itm) (r : List UInt8) (its' : List Itm) (st' : RdS), (∀ x ∈ its, vld x) → Reads its.length (some (its.flatMap itmT ++ r)) its' st' → its' = its ∧ st' = some r
  | [], r, its', st', hv, h => by
    cases h
    exact ⟨rfl, by simp⟩
  | x :: its, r, its', st', hv, h => by
    have e := itmS_itm x (its.flatMap itmT ++ r) (hv x (by simp))
    rw [List.flatMap_cons, List.append_assoc] at h
    cases h with
    | cons h =>
      rw [e] at h ⊢
      obtain ⟨h1, h2⟩ := reads_all its r _ _ (fun y hy => hv y (by simp [hy])) h
      exact ⟨by rw [h1], h2⟩
theorem itmS_len (st : RdS) : (left (itmS st).2).length ≤ (left st).length ∧ (itmS st).1.1.length ≤ (left st).length ∧ (itmS st).1.2.1 < 18446744073709551616 ∧ (itmS st).1.2.2 < 18446744073709551616 := by
  have h1 := textS_len st
  have h2 := numS_len (textS st).2
  have h3 := numS_len (numS (textS st).2).2
  exact ⟨by show (left (numS (numS (textS st).2).2).2).length ≤ _; omega, h1.2, numS_lt _, numS_lt _⟩
theorem itmS_less (s : List UInt8) : (left (itmS (some s)).2).length < s.length ∨ (itmS (some s)).2 = none := by
  have h1 := cutS_len (numS (some s)).1 (numS (some s)).2
  have h2 := numS_len (textS (some s)).2
  have h3 := numS_len (numS (textS (some s)).2).2
  rcases numS_less s with h | h
  · refine .inl ?_
    show (left (numS (numS (textS (some s)).2).2).2).length < _
    have : (left (textS (some s)).2).length ≤ (left (numS (some s)).2).length := h1.1
    omega
  · refine .inr ?_
    show (numS (numS (textS (some s)).2).2).2 = none
    have : (textS (some s)).2 = none := by
      show (cutS (numS (some s)).1 (numS (some s)).2).2 = none
      rw [h]; rfl
    rw [this]; rfl
/-- Bytes of a list. -/
def Good (s : List UInt8) (l : List Dg) : Prop := l = sortedL l ∧ encT l = s
def clp (x : Itm) : Dg := (x.1, Int.ofNat (min x.2.1 2147483648), Int.ofNat (min x.2.2 14))
def raw (x : Itm) : Dg := (x.1, Int.ofNat x.2.1, Int.ofNat x.2.2)
def okR (x : Itm) : Prop := x.2.1 < 2147483648 ∧ x.2.2 ≤ 100
def itm (d : Dg) : Itm := (d.1, d.2.1.toNat, d.2.2.toNat)
theorem itm_may {d : Dg} (h : mayB d = true) : raw (itm d) = d ∧ clp (itm d) = d ∧ vld (itm d) ∧ okR (itm d) := by
  obtain ⟨a, x, x2, rfl, h1, h2, h3⟩ := mayB_nat h
  have e : itm (a, Int.ofNat x, Int.ofNat x2) = (a, x, x2) := rfl
  rw [e]
  refine ⟨rfl, ?_, ⟨by show a.length < _; omega, by show x < _; omega, by show x2 < _; omega⟩, by show x < _; omega, by show x2 ≤ _; omega⟩
  unfold clp
  simp only
  rw [Nat.min_eq_left (by omega), Nat.min_eq_left (by omega)]
theorem dgT_itm (d : Dg) : dgT d = itmT (itm d) := rfl
theorem flat_itm (l : List Dg) : l.flatMap dgT = (l.map itm).flatMap itmT := by
  induction l with
  | nil => rfl
  | cons d l ih => rw [List.flatMap_cons, List.map_cons, List.flatMap_cons, ih, dgT_itm]
theorem map_id {f : Itm → Dg} {l : List Dg} (h : ∀ d ∈ l, f (itm d) = d) : (l.map itm).map f = l := by
  induction l with
  | nil => rfl
  | cons d l ih => rw [List.map_cons, List.map_cons, h d (by simp), ih (fun x hx => h x (by simp [hx]))]
theorem good_all {s : List UInt8} {l : List Dg} (hg : Good s l) : (∀ x ∈ l.map itm, vld x) ∧ (∀ x ∈ l.map itm, okR x) ∧ (l.map itm).map raw = l ∧ (l.map itm).map clp = l := by
  have hm : ∀ d ∈ l, mayB d = true := fun d hd => by rw [hg.1] at hd; exact (mem_sortedL.1 hd).2
  refine ⟨fun x hx => ?_, fun x hx => ?_, map_id fun d hd => (itm_may (hm d hd)).1, map_id fun d hd => (itm_may (hm d hd)).2.1⟩
  · obtain ⟨d, hd, rfl⟩ := List.mem_map.1 hx; exact (itm_may (hm d hd)).2.2.1
  · obtain ⟨d, hd, rfl⟩ := List.mem_map.1 hx; exact (itm_may (hm d hd)).2.2.2
theorem flat_len (l : List Dg) : l.length ≤ (l.flatMap dgT).length := by
  induction l with
  | nil => simp
  | cons d l ih =>
    have : 0 < (dgT d).length := by
      unfold dgT textL
      have := hiL_len
      have h0 : 0 < (numL d.1.length).length := by
        unfold numL
        split
        · rw [hiL_len]; simp
        · split
          · rw [List.length_append, hiL_len]; simp; omega
          · split
            · rw [List.length_append, hiL_len]; simp; omega
            · rw [List.length_append, hiL_len]; simp; omega
      rw [List.length_append, List.length_append]; omega
    rw [List.flatMap_cons, List.length_append, List.length_cons]; omega
theorem good_num {s : List UInt8} {l : List Dg} (hs : s.length ≤ 1000000) (hg : Good s l) : numS (some s) = (l.length, some ((l.map itm).flatMap itmT)) := by
  have h := hg.2
  have hl := flat_len l
  unfold encT at h
  have h2 : (numL l.length).length + (l.flatMap dgT).length = s.length := by rw [← h, List.length_append]
  rw [← h, numS_num _ _ (by omega), flat_itm]
theorem good_reads {s : List UInt8} {l : List Dg} (hs : s.length ≤ 1000000) (hg : Good s l) {its : List Itm} {st' : RdS} (hr : Reads (numS (some s)).1 (numS (some s)).2 its st') : its.map raw = l ∧ its.map clp = l ∧ st' = some [] := by
  rw [good_num hs hg] at hr
  obtain ⟨h1, h2, h3, h4⟩ := good_all hg
  have e : some ((l.map itm).flatMap itmT) = (some ((l.map itm).flatMap itmT ++ []) : RdS) := by rw [List.append_nil]
  have hr' : Reads (l.map itm).length (some ((l.map itm).flatMap itmT ++ [])) its st' := by rw [List.length_map, ← e]; exact hr
  obtain ⟨q1, q2⟩ := reads_all _ _ _ _ h1 hr'
  rw [q1]
  exact ⟨h3, h4, q2⟩
theorem endS_iff (st : RdS) : endS st = true ↔ st = some [] := by
  cases st with
  | none => simp [endS]
  | some s => simp [endS, List.isEmpty_iff]
end Go.Proofs.Wire

namespace Go.Proofs.Wire
open Go AEv Go.Proofs Go.Proofs.Enc
set_option maxRecDepth 100000
set_option maxHeartbeats 1000000

theorem dd_1 (call : CallT → List AV → AHeap → FRes) (s : List UInt8) (p : Nat) (w : AV) (h g g2 : AHeap) (n_1 : Nat) (g_1 : AHeap) (b_1 : Bool) (g_2 : AHeap)
    (H1 : call (.fn 55) [.str s] h = FRes.ret (.ptr p 0) g)
    (H2 : call (.fn 56) [.ptr p 0] g = FRes.ret (.int .u64 (.ofNat n_1)) g_1)
    (H3 : RunF Try.prog Try.f22 none call [1, 1, 1, 0, 1, 0] (SSt.mk [(6, .int .u64 (.ofNat n_1)), (5, .nilS), (4, .ptr p 0), (3, .int .i64 (.ofNat 0)), (2, .nilS), (0, .str s)] [] .none g_1) (.exit 0) (SSt.mk [(0, .str s), (4, .ptr p 0), (5, w)] [] .none g2))
    (H4 : call (.fn 59) [.ptr p 0] g2 = FRes.ret (.bool b_1) g_2)
    (H5 : (!b_1) = true) :
    RunF Try.prog Try.f22 none call [] (SSt.mk [(0, .str s)] [] .none h) (.ret)
      (SSt.mk [(2, .nilS), (3, .int .i64 (.ofNat 4))] [] .none g_2) :=
  sxF_run [2, 3] (hs := [Hint.c (AV.ptr p 0) g, Hint.c (AV.int IntKind.u64 (Int.ofNat n_1)) g_1, Hint.loop (AEx.exit 0) (SSt.mk [(0, AV.str s), (4, AV.ptr p 0), (5, w)] [] Rc.none g2), Hint.c (AV.bool b_1) g_2, Hint.b true, Hint.b true, Hint.b true, Hint.b true, Hint.b true, Hint.b true]) (by kernel_rfl) <| .cons H1 <| .cons H2 <| .cons H3 <| .cons H4 <| .cons H5 <| .cons H5 <| .cons H5 <| .cons H5 <| .cons H5 <| .cons (by kernel_rfl : true = true) <| .nil
theorem dd_2 (call : CallT → List AV → AHeap → FRes) (s : List UInt8) (p : Nat) (w : AV) (h g g2 : AHeap) (n_1 : Nat) (g_1 : AHeap) (b_1 : Bool) (g_2 : AHeap) (t_1 : List UInt8) (g_3 : AHeap)
    (H1 : call (.fn 55) [.str s] h = FRes.ret (.ptr p 0) g)
    (H2 : call (.fn 56) [.ptr p 0] g = FRes.ret (.int .u64 (.ofNat n_1)) g_1)
    (H3 : RunF Try.prog Try.f22 none call [1, 1, 1, 0, 1, 0] (SSt.mk [(6, .int .u64 (.ofNat n_1)), (5, .nilS), (4, .ptr p 0), (3, .int .i64 (.ofNat 0)), (2, .nilS), (0, .str s)] [] .none g_1) (.exit 0) (SSt.mk [(0, .str s), (4, .ptr p 0), (5, w)] [] .none g2))
    (H4 : call (.fn 59) [.ptr p 0] g2 = FRes.ret (.bool b_1) g_2)
    (H5 : (!b_1) = false)
    (H6 : call (.fn 17) [w] g_2 = FRes.ret (.str t_1) g_3)
    (H7 : (!beqBytes t_1 s) = true) :
    RunF Try.prog Try.f22 none call [] (SSt.mk [(0, .str s)] [] .none h) (.ret)
      (SSt.mk [(2, .nilS), (3, .int .i64 (.ofNat 4))] [] .none g_3) :=
  sxF_run [2, 3] (hs := [Hint.c (AV.ptr p 0) g, Hint.c (AV.int IntKind.u64 (Int.ofNat n_1)) g_1, Hint.loop (AEx.exit 0) (SSt.mk [(0, AV.str s), (4, AV.ptr p 0), (5, w)] [] Rc.none g2), Hint.c (AV.bool b_1) g_2, Hint.b false, Hint.b false, Hint.c (AV.str t_1) g_3, Hint.b false, Hint.b false, Hint.b false, Hint.b true]) (by kernel_rfl) <| .cons H1 <| .cons H2 <| .cons H3 <| .cons H4 <| .cons H5 <| .cons H5 <| .cons H6 <| .cons H5 <| .cons H5 <| .cons H5 <| .cons H7 <| .nil
theorem dd_3 (call : CallT → List AV → AHeap → FRes) (s : List UInt8) (p : Nat) (w : AV) (h g g2 : AHeap) (n_1 : Nat) (g_1 : AHeap) (b_1 : Bool) (g_2 : AHeap) (t_1 : List UInt8) (g_3 : AHeap)
    (H1 : call (.fn 55) [.str s] h = FRes.ret (.ptr p 0) g)
    (H2 : call (.fn 56) [.ptr p 0] g = FRes.ret (.int .u64 (.ofNat n_1)) g_1)
    (H3 : RunF Try.prog Try.f22 none call [1, 1, 1, 0, 1, 0] (SSt.mk [(6, .int .u64 (.ofNat n_1)), (5, .nilS), (4, .ptr p 0), (3, .int .i64 (.ofNat 0)), (2, .nilS), (0, .str s)] [] .none g_1) (.exit 0) (SSt.mk [(0, .str s), (4, .ptr p 0), (5, w)] [] .none g2))
    (H4 : call (.fn 59) [.ptr p 0] g2 = FRes.ret (.bool b_1) g_2)
    (H5 : (!b_1) = false)
    (H6 : call (.fn 17) [w] g_2 = FRes.ret (.str t_1) g_3)
    (H7 : (!beqBytes t_1 s) = false) :
    RunF Try.prog Try.f22 none call [] (SSt.mk [(0, .str s)] [] .none h) (.ret)
      (SSt.mk [(2, w), (3, .int .i64 (.ofNat 0))] [] .none g_3) :=
  sxF_run [2, 3] (hs := [Hint.c (AV.ptr p 0) g, Hint.c (AV.int IntKind.u64 (Int.ofNat n_1)) g_1, Hint.loop (AEx.exit 0) (SSt.mk [(0, AV.str s), (4, AV.ptr p 0), (5, w)] [] Rc.none g2), Hint.c (AV.bool b_1) g_2, Hint.b false, Hint.b false, Hint.c (AV.str t_1) g_3, Hint.b false, Hint.b false, Hint.b false, Hint.b false]) (by kernel_rfl) <| .cons H1 <| .cons H2 <| .cons H3 <| .cons H4 <| .cons H5 <| .cons H5 <| .cons H6 <| .cons H5 <| .cons H5 <| .cons H5 <| .cons H7 <| .nil
theorem ddl_1 (call : CallT → List AV → AHeap → FRes) (s : List UInt8) (p n : Nat) (w w2 : AV) (h g2 : AHeap) (b_1 : Bool) (g_1 : AHeap) (t_1 : List UInt8) (g_2 : AHeap) (n_1 : Nat) (g_3 : AHeap) (n_2 : Nat) (g_4 : AHeap) (n_3 n_4 n_5 n_6 n_7 : Nat)
    (H1 : ltI (.ofNat 0) (.ofNat n) = true)
    (H2 : call (.fn 57) [.ptr p 0] h = FRes.ret (.bool b_1) g_1)
    (H3 : b_1 = true)
    (H4 : call (.fn 58) [.ptr p 0] g_1 = FRes.ret (.str t_1) g_2)
    (H5 : call (.fn 56) [.ptr p 0] g_2 = FRes.ret (.int .u64 (.ofNat n_1)) g_3)
    (H6 : call (.fn 56) [.ptr p 0] g_3 = FRes.ret (.int .u64 (.ofNat n_2)) g_4)
    (H7 : foldA minA (AV.int IntKind.u64 (Int.ofNat n_1)) [AV.int IntKind.u64 (Int.ofNat 2147483648)] = some (AV.int IntKind.u64 (Int.ofNat n_3)))
    (H8 : evConvert Try.prog 52 3 (AV.int IntKind.u64 (Int.ofNat n_3)) g_4 = OpRes.val (AV.int IntKind.i64 (Int.ofNat n_4)) g_4)
    (H9 : foldA minA (AV.int IntKind.u64 (Int.ofNat n_2)) [AV.int IntKind.u64 (Int.ofNat 14)] = some (AV.int IntKind.u64 (Int.ofNat n_5)))
    (H10 : evConvert Try.prog 52 3 (AV.int IntKind.u64 (Int.ofNat n_5)) g_4 = OpRes.val (AV.int IntKind.i64 (Int.ofNat n_6)) g_4)
    (H11 : appendA Try.prog (AHeap.push g_4 (AObj.cells [AV.str t_1, AV.int IntKind.i64 (Int.ofNat n_4), AV.int IntKind.i64 (Int.ofNat n_6)] 35 BK.own 0 0)) 22 (some 22) w (AV.slice (AHeap.n g_4) 0 1 (Cap.exact 1)) = some (w2, g2))
    (H12 : arith .sub .u64 (.ofNat n) (.ofNat 1) = some (.int .u64 (.ofNat n_7))) :
    RunF Try.prog Try.f22 none call [1, 1, 1, 0, 1, 0, 0] (SSt.mk [(0, .str s), (4, .ptr p 0), (5, w), (6, .int .u64 (.ofNat n))] [] .none h) (.nrm)
      (SSt.mk [(0, .str s), (4, .ptr p 0), (5, w2), (6, .int .u64 (.ofNat n_7))] [] .none g2) :=
  sxF_run [0, 4, 5, 6] (hs := [.b true, .b true, .c (.bool b_1) g_1, .b true, .b true, .c (.str t_1) g_2, .c (.int .u64 (.ofNat n_1)) g_3, .c (.int .u64 (.ofNat n_2)) g_4, .v (.int .u64 (.ofNat n_3)), .v (.int .i64 (.ofNat n_4)), .v (.int .u64 (.ofNat n_5)), .v (.int .i64 (.ofNat n_6)), .vh w2 g2, .v (.int .u64 (.ofNat n_7))]) (by kernel_rfl) <| .cons H1 <| .cons H1 <| .cons H2 <| .cons H1 <| .cons H3 <| .cons H4 <| .cons H5 <| .cons H6 <| .cons H7 <| .cons H8 <| .cons H9 <| .cons H10 <| .cons H11 <| .cons H12 <| .nil
theorem ddl_2 (call : CallT → List AV → AHeap → FRes) (s : List UInt8) (p n : Nat) (w w2 : AV) (h g2 : AHeap) (b_1 : Bool) (g_1 : AHeap)
    (H1 : ltI (.ofNat 0) (.ofNat n) = true)
    (H2 : call (.fn 57) [.ptr p 0] h = FRes.ret (.bool b_1) g_1)
    (H3 : b_1 = false) :
    RunF Try.prog Try.f22 none call [1, 1, 1, 0, 1, 0, 0] (SSt.mk [(0, .str s), (4, .ptr p 0), (5, w), (6, .int .u64 (.ofNat n))] [] .none h) (.exit 0)
      (SSt.mk [(0, .str s), (4, .ptr p 0), (5, w), (6, .int .u64 (.ofNat n))] [] .none g_1) :=
  sxF_run [0, 4, 5, 6] (hs := [.b true, .b true, .c (.bool b_1) g_1, .b true, .b false]) (by kernel_rfl) <| .cons H1 <| .cons H1 <| .cons H2 <| .cons H1 <| .cons H3 <| .nil
theorem ddl_3 (call : CallT → List AV → AHeap → FRes) (s : List UInt8) (p n : Nat) (w w2 : AV) (h g2 : AHeap)
    (H1 : ltI (.ofNat 0) (.ofNat n) = false) :
    RunF Try.prog Try.f22 none call [1, 1, 1, 0, 1, 0, 0] (SSt.mk [(0, .str s), (4, .ptr p 0), (5, w), (6, .int .u64 (.ofNat n))] [] .none h) (.exit 0)
      (SSt.mk [(0, .str s), (4, .ptr p 0), (5, w), (6, .int .u64 (.ofNat n))] [] .none h) :=
  sxF_run [0, 4, 5, 6] (hs := [.b false, .b false, .b false, .b false]) (by kernel_rfl) <| .cons H1 <| .cons H1 <| .cons H1 <| .cons (by kernel_rfl : false = false) <| .nil
/-! ### diag.Decode, and the document's -/
theorem app_fr {B : Nat} {h : AHeap} {w src : AV} {ds es : List Dg} (ho : OutR B h w ds) (hB : B ≤ h.n) (hs : srcCells h 3 src = some (es.length, rowL encD es)) (h0 : 0 < es.length) (hl : ds.length + es.length ≤ 1000000) :
    ∃ w' h', appendA Try.prog h 22 (some 22) w src = some (w', h') ∧ OutR B h' w' (ds ++ es) ∧ Ext B h h' ∧ h.n ≤ h'.n ∧ ∀ c, c < h.n → (∀ n cp, w ≠ .slice c 0 n cp) → h'.get c = h.get c := by
  rcases ho with ⟨rfl, rfl⟩ | ⟨p, rfl, h2, h3, h4, h5⟩
  · rw [List.nil_append]
    exact ⟨_, _, app_new hs (by omega) (by simp at hl; omega), .inr ⟨h.n, rfl, by omega, gtop rfl, hB, by simp⟩, exA, by simp, fun c hc _ => gold hc rfl⟩
  · refine ⟨_, _, app_more h3 hs (by omega) hl, .inr ⟨h.n, by rw [List.length_append], by rw [List.length_append]; omega, by exact gtop (by simp), hB, by simp⟩, ?_, by simp, fun c hc hw => ?_⟩
    · exact Ext.pushR (by simp; omega) (Ext.setR h4 (Ext.refl _ _))
    · exact gold (by simpa using hc) (gother (fun e => hw _ _ (by rw [e])) rfl)
theorem Rd.cells {h : AHeap} {p : Nat} {st : RdS} (hr : Rd h p st) : ∃ cs, h.get p = some (.cells cs 110 .own 0 0) := by
  cases st with
  | none => exact ⟨_, hr.2⟩
  | some s => obtain ⟨_, _, v, h3, _⟩ := hr; exact ⟨_, h3⟩
theorem OutR.ne {B : Nat} {h : AHeap} {w : AV} {ds : List Dg} (ho : OutR B h w ds) {c : Nat} {cs : List AV} {el lo up : Nat} {k : BK} (hg : h.get c = some (.cells cs el k lo up)) (hk : k ≠ .opn ∨ el ≠ 35) : ∀ n cp, w ≠ .slice c 0 n cp := by
  intro n cp e
  rcases ho with ⟨rfl, _⟩ | ⟨p, rfl, h2, h3, h4, h5⟩
  · cases e
  · cases e
    rw [hg] at h3
    cases h3
    rcases hk with h | h <;> exact h rfl
theorem OutR.monoX {B B' p : Nat} {h h' : AHeap} {w : AV} {ds : List Dg} (ho : OutR B h w ds) {cs : List AV} {el : Nat} (hp : h.get p = some (.cells cs el .own 0 0)) (e : ExtX p B' h h') (hB : h.n ≤ B') : OutR B h' w ds := by
  have hne := ho.ne hp (.inl (by simp))
  rcases ho with ho | ⟨q, rfl, h2, h3, h4, h5⟩
  · exact .inl ho
  · refine .inr ⟨q, rfl, h2, (e.get q (by omega) (fun e => hne _ _ (by rw [e]))).trans h3, h4, Nat.lt_of_lt_of_le h5 e.n⟩
theorem Rd.app {B p : Nat} {h h' : AHeap} {w : AV} {ds : List Dg} {st : RdS} (hr : Rd h p st) (ho : OutR B h w ds) (hn : h.n ≤ h'.n) (hk : ∀ c, c < h.n → (∀ n cp, w ≠ .slice c 0 n cp) → h'.get c = h.get c) : Rd h' p st := by
  cases st with
  | none => obtain ⟨h1, h2⟩ := hr; exact ⟨by omega, (hk p h1 (ho.ne h2 (.inl (by simp)))).trans h2⟩
  | some s =>
    obtain ⟨h1, h2, v, h3, h4⟩ := hr
    refine ⟨by omega, h2, v, (hk p h1 (ho.ne h3 (.inl (by simp)))).trans h3, ?_⟩
    rcases h4 with h4 | ⟨b, pre, q1, q2, q3, q4⟩
    · exact .inl h4
    · exact .inr ⟨b, pre, q1, by omega, q3, (hk b q2 (ho.ne q4 (.inr (by decide)))).trans q4⟩
theorem one_src (g : AHeap) (d : Dg) : srcCells (g.push (.cells (encD d) 35 .own 0 0)) 3 (.slice g.n 0 1 (.exact 1)) = some ([d].length, rowL encD [d]) := by
  have : AEv.loadCells (g.push (.cells (encD d) 35 .own 0 0)) g.n 0 (1 * 3) = some (encD d) := ldc (gtop rfl) rfl
  simp only [srcCells, this]
  rfl
theorem min_u (a b : Nat) : foldA minA (.int .u64 (Int.ofNat a)) [.int .u64 (Int.ofNat b)] = some (.int .u64 (Int.ofNat (min a b))) := by
  simp only [foldA, minA, if_true]
  by_cases h : b < a
  · rw [if_pos (lt_t h), Nat.min_eq_right (by omega)]
  · rw [if_neg (by rw [lt_f h]; simp), Nat.min_eq_left (by omega)]
theorem conv_ui (n : Nat) (hn : n < 9223372036854775808) (h : AHeap) : evConvert Try.prog 52 3 (.int .u64 (Int.ofNat n)) h = .val (.int .i64 (Int.ofNat n)) h := conv_int u64t intt (wrap_nat n hn)
def msr : RdS → Nat
  | none => 1
  | some u => u.length + 2
theorem itmS_msr (u : List UInt8) : msr (itmS (some u)).2 + 1 ≤ msr (some u) := by
  rcases itmS_less u with e | e
  · cases hx : (itmS (some u)).2 with
    | none => show 1 + 1 ≤ u.length + 2; omega
    | some v => rw [hx] at e; show v.length + 2 + 1 ≤ u.length + 2; have : v.length < u.length := e; omega
  · rw [e]; show 1 + 1 ≤ u.length + 2; omega
theorem msr_pos (st : RdS) : 1 ≤ msr st := by
  cases st with
  | none => exact Nat.le_refl _
  | some u => show 1 ≤ u.length + 2; omega
theorem dd_loop (m p B : Nat) (s : List UInt8) : ∀ (q n : Nat) (st : RdS) (w : AV) (ds : List Dg) (h : AHeap), msr st ≤ q → q + ds.length ≤ 90001 → n < 18446744073709551616 → Rd h p st → OutR B h w ds → B ≤ p → B ≤ h.n →
    ∃ its st' w' h', Reads n st its st' ∧ Rd h' p st' ∧ OutR B h' w' (ds ++ its.map clp) ∧ Ext B h h' ∧ its.length ≤ q ∧ LoopF Try.prog Try.f22 none (C (m + 6)) [1, 1, 1, 0, 1, 0] (q + 1) ⟨[(0, .str s), (4, .ptr p 0), (5, w), (6, .int .u64 (Int.ofNat n))], [], .none, h⟩ (.exit 0) ⟨[(0, .str s), (4, .ptr p 0), (5, w')], [], .none, h'⟩
  | 0, n, st, w, ds, h, hq, hds, hn, hr, ho, hB, hBh => by have := msr_pos st; omega
  | q + 1, n, st, w, ds, h, hq, hds, hn, hr, ho, hB, hBh => by
    have hp := hr.lt
    by_cases h0 : n = 0
    · subst h0
      exact ⟨[], st, w, h, .nil st, hr, by simpa using ho, Ext.refl _ _, by simp, .exit (RunP.post (ddl_3 _ _ _ _ _ (.nilS) _ ((emptyHeap 0)) (lt_f (by omega))) ⟨rfl, rfl, rfl, trivial⟩) (by simp)⟩
    · obtain ⟨n, rfl⟩ : ∃ k, n = k + 1 := ⟨n - 1, by omega⟩
      have hk := ok_c (m + 5) p st h hr
      cases st with
      | none => exact ⟨[], none, w, h, .bad n, hr, by simpa using ho, Ext.refl _ _, by simp, .exit (RunP.post (ddl_2 _ _ _ _ _ (.nilS) _ ((emptyHeap 0)) _ _ (lt_t (by omega)) (hk) (rfl)) ⟨rfl, rfl, rfl, trivial⟩) (by simp)⟩
      | some u =>
        have hl := itmS_len (some u)
        obtain ⟨l1, l2, l3, l4⟩ := hl
        have hu : u.length ≤ 1000000 := hr.2.1
        obtain ⟨cs0, hcs0⟩ := hr.cells
        obtain ⟨g1, c1, x1, r1⟩ := text_c m p (some u) h hr
        obtain ⟨g2, c2, x2, r2⟩ := num_c (m + 1) p _ g1 r1
        obtain ⟨g3, c3, x3, r3⟩ := num_c (m + 1) p _ g2 r2
        have x13 : ExtX p h.n h g3 := (x1.trans x1.n x2).trans (Nat.le_trans x1.n x2.n) x3
        have o3 := ho.monoX hcs0 x13 (Nat.le_refl _)
        have o4 := o3.mono (B' := g3.n) (h' := g3.push (.cells (encD (clp (itmS (some u)).1)) 35 .own 0 0)) exA (Nat.le_refl _)
        have r4 := r3.mono (B := g3.n) (h' := g3.push (.cells (encD (clp (itmS (some u)).1)) 35 .own 0 0)) exA (Nat.le_refl _)
        have hBn : B ≤ g3.n := by have := x13.n; omega
        obtain ⟨w2, g4, a4, o5, x5, n5, k5⟩ := app_fr (es := [clp (itmS (some u)).1]) o4 (by simp; omega) (one_src g3 _) (by simp) (by simp; omega)
        have r5 := r4.app o4 n5 k5
        have st1 : RunF Try.prog Try.f22 none (C (m + 6)) [1, 1, 1, 0, 1, 0, 0] ⟨[(0, .str s), (4, .ptr p 0), (5, w), (6, .int .u64 (Int.ofNat (n + 1)))], [], .none, h⟩ .nrm ⟨[(0, .str s), (4, .ptr p 0), (5, w2), (6, .int .u64 (Int.ofNat n))], [], .none, g4⟩ :=
          (ddl_1 _ _ _ _ _ _ _ _ _ _ _ _ _ _ _ _ _ _ _ _ _ (lt_t (by omega)) (hk) (rfl) (c1) (c2) (c3) (min_u _ _) (conv_ui _ (by omega) g3) (min_u _ _) (conv_ui _ (by omega) g3) (a4) ((subU (i := n + 1) (j := 1) (by omega) hn)))
        have hlt : msr (numS (numS (textS (some u)).2).2).2 + 1 ≤ msr (some u) := itmS_msr u
        obtain ⟨its, st', w', h', q1, q2, q3, q4, q5, q6⟩ := dd_loop m p B s q n _ w2 _ g4 (by omega) (by simp; omega) (by omega) r5 o5 hB (Nat.le_trans hBn (Nat.le_trans (by simp) n5))
        have xe : Ext B h g4 := by
          have y : Ext B g3 (g3.push (.cells (encD (clp (itmS (some u)).1)) 35 .own 0 0)) := Ext.pushR hBn (Ext.refl _ _)
          have x0 : Ext B h g3 := by
            refine ⟨x13.n, fun b hb => x13.get b ?_ (by omega)⟩
            omega
          exact (x0.trans (Nat.le_refl _) y).trans (Nat.le_refl _) x5
        refine ⟨_, st', w', h', .cons q1, q2, ?_, xe.trans (Nat.le_refl _) q4, by simp; omega, .step st1 q6⟩
        rw [List.map_cons]
        simpa using q3
/-- What Decode answers: the list, if there is one; else a fault. -/
def DecQ (B : Nat) (h : AHeap) (s : List UInt8) (w : AV) (e : Nat) : Prop := (∃ l, Good s l ∧ OutR B h w l ∧ e = 0 ∧ l.length < 80000) ∨ ((∀ l, ¬ Good s l) ∧ w = .nilS ∧ e = 4)
theorem reads_len {n : Nat} {st st' : RdS} {its : List Itm} (h : Reads n st its st') : its.length + 1 ≤ msr st := by
  induction h with
  | nil st => exact msr_pos st
  | bad n => exact Nat.le_refl _
  | cons h ih => have := itmS_msr; rename_i n s l st; have := this s; rw [List.length_cons]; omega
theorem good_self {s : List UInt8} {its : List Itm} {st' : RdS} (hs : s.length ≤ 1000000) (f : Itm → Dg) (hf : f = clp ∨ f = raw) (hr : Reads (numS (some s)).1 (numS (some s)).2 its st') (he : encT (sortedL (its.map f)) = s) : Good s (its.map f) := by
  have hg : Good s (sortedL (its.map f)) := ⟨(sortedL_again _).symm, he⟩
  obtain ⟨h1, h2, h3⟩ := good_reads hs hg hr
  have e : its.map f = sortedL (its.map f) := by
    rcases hf with rfl | rfl
    · exact h2
    · exact h1
  exact ⟨e, by rw [e]; exact he⟩
theorem decode_c (m : Nat) (s : List UInt8) (h : AHeap) (hs : s.length ≤ 70000) : ∃ w e h', C (m + 7) (.fn 22) [.str s] h = .ret (.tup [w, .int .i64 (Int.ofNat e)]) h' ∧ Ext h.n h h' ∧ DecQ h.n h' s w e := by
  obtain ⟨p, g, c1, x1, hp, r1⟩ := newr_c (m + 5) s h (by omega)
  obtain ⟨g1, c2, x2, r2⟩ := num_c (m + 1) p (some s) g r1
  have x12 : Ext h.n h g1 := x1.trans (Nat.le_refl _) ((x2.le x1.n).toExt hp)
  have hm : msr (numS (some s)).2 ≤ s.length + 2 := by
    have := numS_len (some s)
    cases hx : (numS (some s)).2 with
    | none => show 1 ≤ _; omega
    | some v => rw [hx] at this; show v.length + 2 ≤ _; have : v.length ≤ s.length := this; omega
  obtain ⟨its, st', w, g2, q1, q2, q3, q4, q5, q6⟩ := dd_loop m p h.n s (s.length + 2) (numS (some s)).1 (numS (some s)).2 .nilS [] g1 hm (by simp; omega) (numS_lt _) r2 (.inl ⟨rfl, rfl⟩) hp x12.n
  have loop := RunP.pre (st1 := ⟨[(6, .int .u64 (Int.ofNat (numS (some s)).1)), (5, .nilS), (4, .ptr p 0), (3, .int .i64 (Int.ofNat 0)), (2, .nilS), (0, .str s)], [], .none, g1⟩) (LoopF.run (p := [1, 1, 1, 0, 1, 0]) (by kernel_rfl) q6 (by omega)) ⟨rfl, rfl, rfl, rfl, trivial⟩ rfl rfl rfl
  have x13 : Ext h.n h g2 := x12.trans (Nat.le_refl _) q4
  have ce := end_c (m + 4) p st' g2 q2
  rw [List.nil_append] at q3
  by_cases he : endS st' = true
  · rw [he] at ce
    have hlen := reads_len q1
    obtain ⟨g3, c4, x4⟩ := dencode_c m w (its.map clp) g2 (by
      rcases q3 with ⟨rfl, e⟩ | ⟨P, h1, h2, h3, h4, h5⟩
      · exact .inl ⟨rfl, e⟩
      · refine .inr ⟨P, 0, _, h1, h5, fun h' e => ?_⟩
        have := row_cut (h := h') (rest := []) (by rw [List.append_nil]; exact e.trans h3) (o := 0) (len := (its.map clp).length) (by omega)
        rw [List.drop_zero, List.take_length, Nat.zero_mul] at this
        rw [h1]
        simp only [srcCells, this]) (by rw [List.length_map]; omega)
    have x14 : Ext h.n h g3 := x13.trans x13.n x4
    by_cases heq : encT (sortedL (its.map clp)) = s
    · refine ⟨w, 0, g3, fn_runF (intr := Ii) (n := m + 6) (args := [.str s]) Try.func22 (by kernel_rfl) rfl (by kernel_rfl) (dd_3 _ _ _ _ _ _ _ _ _ _ _ _ _ (c1) (c2) (loop) (ce) (rfl) (c4) ((by rw [heq, bbr]; rfl))) (.inl rfl) (by kernel_rfl), x14, .inl ⟨its.map clp, good_self (by omega) clp (.inl rfl) q1 heq, ?_, rfl, by rw [List.length_map]; omega⟩⟩
      rcases q3 with q3 | ⟨P, h1, h2, h3, h4, h5⟩
      · exact .inl q3
      · exact .inr ⟨P, h1, h2, (x4.get P h5).trans h3, h4, Nat.lt_of_lt_of_le h5 x4.n⟩
    · refine ⟨.nilS, 4, g3, fn_runF (intr := Ii) (n := m + 6) (args := [.str s]) Try.func22 (by kernel_rfl) rfl (by kernel_rfl) (dd_2 _ _ _ _ _ _ _ _ _ _ _ _ _ (c1) (c2) (loop) (ce) (rfl) (c4) ((by rw [bne_f heq]; rfl))) (.inl rfl) (by kernel_rfl), x14, .inr ⟨fun l hg => heq ?_, rfl, rfl⟩⟩
      obtain ⟨k1, k2, k3⟩ := good_reads (by omega) hg q1
      rw [k2, ← hg.1, hg.2]
  · have he' : endS st' = false := by simpa using he
    rw [he'] at ce
    refine ⟨.nilS, 4, g2, fn_runF (intr := Ii) (n := m + 6) (args := [.str s]) Try.func22 (by kernel_rfl) rfl (by kernel_rfl) (dd_1 _ _ _ _ _ _ _ _ _ _ _ (c1) (c2) (loop) (ce) (rfl)) (.inl rfl) (by kernel_rfl), x13, .inr ⟨fun l hg => he ?_, rfl, rfl⟩⟩
    exact (endS_iff _).2 (good_reads (by omega) hg q1).2.2
end Go.Proofs.Wire

namespace Go.Proofs.Wire
open Go AEv Go.Proofs Go.Proofs.Enc
set_option maxRecDepth 100000
set_option maxHeartbeats 1000000

theorem k1 (call : CallT → List AV → AHeap → FRes) (v : AV) (s : List UInt8) (h : AHeap) :
    RunF Try.prog Try.f5 none call [0] (SSt.mk [(0, v), (1, .str s)] [] .none h) (.nrm)
      (SSt.mk [(0, v), (1, .str s)] [] .none h) :=
  sxF_run [0, 1] (hs := []) (by kernel_rfl) <| .nil
theorem k2 (call : CallT → List AV → AHeap → FRes) (v : AV) (s : List UInt8) (h : AHeap)
    (H1 : call (.fn 21) [] h = FRes.ret (.bool true) h) :
    RunF Try.prog Try.f5 none call [1, 0] (SSt.mk [(0, v), (1, .str s)] [] .none h) (.nrm)
      (SSt.mk [(0, v), (1, .str s)] [] .none h) :=
  sxF_run [0, 1] (hs := [.c (.bool true) h, .b false]) (by kernel_rfl) <| .cons H1 <| .cons (by kernel_rfl : (!true) = false) <| .nil
theorem k3 (call : CallT → List AV → AHeap → FRes) (b o n m : Nat) (s : List UInt8) (c c2 : Cap) (h : AHeap)
    (H1 : foldA minA (AV.int IntKind.i64 (Int.ofNat n)) [AV.int IntKind.i64 (Int.ofNat 300)] = some (AV.int IntKind.i64 (Int.ofNat m)))
    (H2 : sliceA Try.prog h 22 (AV.slice b o n c) none (some (AV.int IntKind.i64 (Int.ofNat m))) none = some (AV.slice b o m c2)) :
    RunF Try.prog Try.f5 none call [1, 1, 0] (SSt.mk [(0, .slice b o n c), (1, .str s)] [] .none h) (.nrm)
      (SSt.mk [(0, .slice b o m c2), (1, .str s)] [] .none h) :=
  sxF_run [0, 1] (hs := [.v (.int .i64 (.ofNat m)), .v (.slice b o m c2)]) (by kernel_rfl) <| .cons H1 <| .cons H2 <| .nil
theorem k4 (call : CallT → List AV → AHeap → FRes) (v w : AV) (s t : List UInt8) (h g g2 : AHeap)
    (H1 : call (.fn 17) [v] h = FRes.ret (.str t) g)
    (H2 : call (.fn 22) [.str t] g = FRes.ret (.tup [w, .int .i64 (.ofNat 0)]) g2) :
    RunF Try.prog Try.f5 none call [1, 1, 1, 0] (SSt.mk [(0, v), (1, .str s)] [] .none h) (.nrm)
      (SSt.mk [(0, v), (1, .str s), (5, w), (6, .int .i64 (.ofNat 0))] [] .none g2) :=
  sxF_run [0, 1, 5, 6] (hs := [.c (.str t) g, .c (.tup [w, .int .i64 (.ofNat 0)]) g2]) (by kernel_rfl) <| .cons H1 <| .cons H2 <| .nil
theorem k5 (call : CallT → List AV → AHeap → FRes) (v w w2 : AV) (s : List UInt8) (h g g2 : AHeap)
    (H1 : call (.fn 15) [v] h = FRes.ret w2 g)
    (H2 : call (.fn 24) [w, w2] g = FRes.ret (.bool true) g2) :
    RunF Try.prog Try.f5 none call [1, 1, 1, 1, 0] (SSt.mk [(0, v), (1, .str s), (5, w), (6, .int .i64 (.ofNat 0))] [] .none h) (.nrm)
      (SSt.mk [(1, .str s)] [] .none g2) :=
  sxF_run [1] (hs := [.b false, .b false, .b false, .c w2 g, .b false, .c (.bool true) g2, .b false, .b false, .b false]) (by kernel_rfl) <| .cons (by kernel_rfl : (!eqI (Int.ofNat 0) (Int.ofNat 0)) = false) <| .cons (by kernel_rfl : (!eqI (Int.ofNat 0) (Int.ofNat 0)) = false) <| .cons (by kernel_rfl : (!eqI (Int.ofNat 0) (Int.ofNat 0)) = false) <| .cons H1 <| .cons (by kernel_rfl : (!eqI (Int.ofNat 0) (Int.ofNat 0)) = false) <| .cons H2 <| .cons (by kernel_rfl : (!eqI (Int.ofNat 0) (Int.ofNat 0)) = false) <| .cons (by kernel_rfl : (!eqI (Int.ofNat 0) (Int.ofNat 0)) = false) <| .cons (by kernel_rfl : (!true) = false) <| .nil
theorem k6 (call : CallT → List AV → AHeap → FRes) (w : AV) (e : Nat) (s : List UInt8) (h g : AHeap) (n_1 : Nat) (t_1 : List UInt8)
    (H1 : foldA minA (AV.int IntKind.i64 (Int.ofNat (List.length s))) [AV.int IntKind.i64 (Int.ofNat 4000)] = some (AV.int IntKind.i64 (Int.ofNat n_1)))
    (H2 : sliceA Try.prog h 9 (AV.str s) none (some (AV.int IntKind.i64 (Int.ofNat n_1))) none = some (AV.str t_1))
    (H3 : call (.fn 22) [.str t_1] h = FRes.ret (.tup [w, .int .i64 (.ofNat e)]) g) :
    RunF Try.prog Try.f5 none call [1, 1, 1, 1, 1, 0] (SSt.mk [(1, .str s)] [] .none h) (.nrm)
      (SSt.mk [(1, .str s), (7, w), (8, .int .i64 (.ofNat e))] [] .none g) :=
  sxF_run [1, 7, 8] (hs := [.v (.int .i64 (.ofNat n_1)), .v (.str t_1), .c (.tup [w, .int .i64 (.ofNat e)]) g]) (by kernel_rfl) <| .cons H1 <| .cons H2 <| .cons H3 <| .nil
/-! ### DiagReads, DiagBack -/
theorem reads_mk : ∀ (its : List Itm) (r : List UInt8), (∀ x ∈ its, vld x) → Reads its.length (some (its.flatMap itmT ++ r)) its (some r)
  | [], r, hv => .nil _
  | x :: its, r, hv => by
    have e := itmS_itm x (its.flatMap itmT ++ r) (hv x (by simp))
    rw [List.flatMap_cons, List.append_assoc, List.length_cons]
    have h := reads_mk its r fun y hy => hv y (by simp [hy])
    have q := Reads.cons (n := its.length) (s := itmT x ++ (its.flatMap itmT ++ r)) (l := its) (st := some r) (by rw [e]; exact h)
    rw [e] at q
    exact q
theorem good_uniq {s : List UInt8} {l l' : List Dg} (hs : s.length ≤ 1000000) (h : Good s l) (h' : Good s l') : l = l' := by
  obtain ⟨v1, _, v3, _⟩ := good_all h
  have r := reads_mk (l.map itm) [] v1
  rw [List.append_nil, List.length_map] at r
  have e := good_num hs h
  have q := good_reads hs h' (its := l.map itm) (st' := some []) (by rw [e]; exact r)
  rw [← q.1, v3]
theorem encT_len (l : List Dg) (h : ∀ d ∈ l, mayB d = true) : (encT l).length ≤ 9 + 227 * l.length := by
  have key : (l.flatMap dgT).length ≤ 227 * l.length := by
    induction l with
    | nil => simp
    | cons d l ih =>
      obtain ⟨a, x, x2, rfl, _, _, ha⟩ := mayB_nat (h d (by simp))
      have h1 := textL_len a
      have h2 := numL_len x
      have h3 := numL_len x2
      have e : dgT (a, Int.ofNat x, Int.ofNat x2) = textL a ++ (numL x ++ numL x2) := rfl
      have := ih fun y hy => h y (by simp [hy])
      rw [List.flatMap_cons, List.length_append, e, List.length_append, List.length_append, List.length_cons]; omega
  have h1 := numL_len l.length
  unfold encT
  rw [List.length_append]; omega
end Go.Proofs.Wire
