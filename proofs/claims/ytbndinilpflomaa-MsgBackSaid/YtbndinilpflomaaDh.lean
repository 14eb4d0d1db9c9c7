/-
  PROVED HERE: contracts of functions (Dh). No condition beside each statement's own.
-/
import Derived.Test.YtbndinilpflomaaDg
import Derived.Test.YtbndinilpflomaaDp
import Derived.Test.YtbndinilpflomaaDa
set_option linter.unusedVariables false
set_option linter.unusedSimpArgs false
namespace Go.Proofs.Wire
open Go AEv Go.Proofs Go.Proofs.Enc
set_option maxRecDepth 100000
set_option maxHeartbeats 1000000

theorem md_1 (call : CallT → List AV → AHeap → FRes) (s : List UInt8) (p : Nat) (h g : AHeap) (n_1 : Nat) (g_1 : AHeap) (n_2 n_3 : Nat) (t_1 : List UInt8) (g_2 : AHeap) (t_2 : List UInt8) (g_3 : AHeap) (t_3 : List UInt8) (g_4 g_5 : AHeap) (b_1 : Bool) (g_6 g_7 : AHeap)
    (H1 : call (.fn 55) [.str s] (AHeap.push h (.cells [.int .i64 (.ofNat 0), .str [], .str [], .str []] 42 .own 0 0)) = FRes.ret (.ptr p 0) g)
    (H2 : call (.fn 56) [.ptr p 0] g = FRes.ret (.int .u64 (.ofNat n_1)) g_1)
    (H3 : foldA minA (AV.int IntKind.u64 (Int.ofNat n_1)) [AV.int IntKind.u64 (Int.ofNat 10)] = some (AV.int IntKind.u64 (Int.ofNat n_2)))
    (H4 : evConvert Try.prog 52 3 (AV.int IntKind.u64 (Int.ofNat n_2)) g_1 = OpRes.val (AV.int IntKind.i64 (Int.ofNat n_3)) g_1)
    (H5 : call (.fn 58) [.ptr p 0] g_1 = FRes.ret (.str t_1) g_2)
    (H6 : call (.fn 58) [.ptr p 0] g_2 = FRes.ret (.str t_2) g_3)
    (H7 : call (.fn 58) [.ptr p 0] g_3 = FRes.ret (.str t_3) g_4)
    (H8 : AEv.storeCells (AHeap.push g_4 (.cells [.int .i64 (.ofNat 0), .str [], .str [], .str []] 42 .own 0 0)) (AHeap.n g_4) 0 [.int .i64 (.ofNat n_3), .str t_1, .str t_2, .str t_3] = some g_5)
    (H9 : call (.fn 59) [.ptr p 0] g_5 = FRes.ret (.bool b_1) g_6)
    (H10 : (!b_1) = true)
    (H11 : AEv.storeCells g_6 (AHeap.n h) 0 [.int .i64 (.ofNat 0), .str [], .str [], .str []] = some g_7) :
    RunF Try.prog Try.f33 none call [] (SSt.mk [(0, .str s)] [] .none h) (.ret)
      (SSt.mk [(2, .ptr (AHeap.n h) 0), (3, .int .i64 (.ofNat 4))] [] .none g_7) :=
  sxF_run [2, 3] (hs := [.c (.ptr p 0) g, .c (.int .u64 (.ofNat n_1)) g_1, .v (.int .u64 (.ofNat n_2)), .v (.int .i64 (.ofNat n_3)), .c (.str t_1) g_2, .c (.str t_2) g_3, .c (.str t_3) g_4, .vh (.tup []) g_5, .c (.bool b_1) g_6, .b true, .b true, .b true, .b true, .b true, .vh (.tup []) g_7]) (by kernel_rfl) <| .cons H1 <| .cons H2 <| .cons H3 <| .cons H4 <| .cons H5 <| .cons H6 <| .cons H7 <| .cons (⟨by kernel_rfl, H8, rfl⟩ : some 4 = some 4 ∧ AEv.storeCells (AHeap.push g_4 (AObj.cells [AV.int IntKind.i64 (Int.ofNat 0), AV.str [], AV.str [], AV.str []] 42 BK.own 0 0)) (AHeap.n g_4) 0 [AV.int IntKind.i64 (Int.ofNat n_3), AV.str t_1, AV.str t_2, AV.str t_3] = some g_5 ∧ AV.tup [] = AV.tup []) <| .cons H9 <| .cons H10 <| .cons H10 <| .cons H10 <| .cons H10 <| .cons (by kernel_rfl : true = true) <| .cons (⟨by kernel_rfl, H11, rfl⟩ : some 4 = some 4 ∧ AEv.storeCells g_6 (AHeap.n h) 0 [AV.int IntKind.i64 (Int.ofNat 0), AV.str [], AV.str [], AV.str []] = some g_7 ∧ AV.tup [] = AV.tup []) <| .nil
theorem md_2 (call : CallT → List AV → AHeap → FRes) (s : List UInt8) (p : Nat) (h g : AHeap) (n_1 : Nat) (g_1 : AHeap) (n_2 n_3 : Nat) (t_1 : List UInt8) (g_2 : AHeap) (t_2 : List UInt8) (g_3 : AHeap) (t_3 : List UInt8) (g_4 g_5 : AHeap) (b_1 : Bool) (g_6 : AHeap) (n_4 : Nat) (t_4 t_5 t_6 : List UInt8) (n_5 : Nat) (g_7 g_8 : AHeap)
    (H1 : call (.fn 55) [.str s] (AHeap.push h (.cells [.int .i64 (.ofNat 0), .str [], .str [], .str []] 42 .own 0 0)) = FRes.ret (.ptr p 0) g)
    (H2 : call (.fn 56) [.ptr p 0] g = FRes.ret (.int .u64 (.ofNat n_1)) g_1)
    (H3 : foldA minA (AV.int IntKind.u64 (Int.ofNat n_1)) [AV.int IntKind.u64 (Int.ofNat 10)] = some (AV.int IntKind.u64 (Int.ofNat n_2)))
    (H4 : evConvert Try.prog 52 3 (AV.int IntKind.u64 (Int.ofNat n_2)) g_1 = OpRes.val (AV.int IntKind.i64 (Int.ofNat n_3)) g_1)
    (H5 : call (.fn 58) [.ptr p 0] g_1 = FRes.ret (.str t_1) g_2)
    (H6 : call (.fn 58) [.ptr p 0] g_2 = FRes.ret (.str t_2) g_3)
    (H7 : call (.fn 58) [.ptr p 0] g_3 = FRes.ret (.str t_3) g_4)
    (H8 : AEv.storeCells (AHeap.push g_4 (.cells [.int .i64 (.ofNat 0), .str [], .str [], .str []] 42 .own 0 0)) (AHeap.n g_4) 0 [.int .i64 (.ofNat n_3), .str t_1, .str t_2, .str t_3] = some g_5)
    (H9 : call (.fn 59) [.ptr p 0] g_5 = FRes.ret (.bool b_1) g_6)
    (H10 : (!b_1) = false)
    (H11 : AEv.loadCells g_6 (AHeap.n g_4) 0 4 = some [.int .i64 (.ofNat n_4), .str t_4, .str t_5, .str t_6])
    (H12 : call (.fn 30) [.agg [.int .i64 (.ofNat n_4), .str t_4, .str t_5, .str t_6]] g_6 = FRes.ret (.int .i64 (.ofNat n_5)) g_7)
    (H13 : (!eqI (.ofNat n_5) (.ofNat 0)) = true)
    (H14 : AEv.storeCells g_7 (AHeap.n h) 0 [.int .i64 (.ofNat 0), .str [], .str [], .str []] = some g_8) :
    RunF Try.prog Try.f33 none call [] (SSt.mk [(0, .str s)] [] .none h) (.ret)
      (SSt.mk [(2, .ptr (AHeap.n h) 0), (3, .int .i64 (.ofNat 4))] [] .none g_8) :=
  sxF_run [2, 3] (hs := [.c (.ptr p 0) g, .c (.int .u64 (.ofNat n_1)) g_1, .v (.int .u64 (.ofNat n_2)), .v (.int .i64 (.ofNat n_3)), .c (.str t_1) g_2, .c (.str t_2) g_3, .c (.str t_3) g_4, .vh (.tup []) g_5, .c (.bool b_1) g_6, .b false, .v (.agg [.int .i64 (.ofNat n_4), .str t_4, .str t_5, .str t_6]), .b false, .c (.int .i64 (.ofNat n_5)) g_7, .b false, .b false, .b true, .vh (.tup []) g_8]) (by kernel_rfl) <| .cons H1 <| .cons H2 <| .cons H3 <| .cons H4 <| .cons H5 <| .cons H6 <| .cons H7 <| .cons (⟨by kernel_rfl, H8, rfl⟩ : some 4 = some 4 ∧ AEv.storeCells (AHeap.push g_4 (AObj.cells [AV.int IntKind.i64 (Int.ofNat 0), AV.str [], AV.str [], AV.str []] 42 BK.own 0 0)) (AHeap.n g_4) 0 [AV.int IntKind.i64 (Int.ofNat n_3), AV.str t_1, AV.str t_2, AV.str t_3] = some g_5 ∧ AV.tup [] = AV.tup []) <| .cons H9 <| .cons H10 <| .cons H11 <| .cons H10 <| .cons H12 <| .cons H10 <| .cons H10 <| .cons H13 <| .cons (⟨by kernel_rfl, H14, rfl⟩ : some 4 = some 4 ∧ AEv.storeCells g_7 (AHeap.n h) 0 [AV.int IntKind.i64 (Int.ofNat 0), AV.str [], AV.str [], AV.str []] = some g_8 ∧ AV.tup [] = AV.tup []) <| .nil
theorem md_3 (call : CallT → List AV → AHeap → FRes) (s : List UInt8) (p : Nat) (h g : AHeap) (n_1 : Nat) (g_1 : AHeap) (n_2 n_3 : Nat) (t_1 : List UInt8) (g_2 : AHeap) (t_2 : List UInt8) (g_3 : AHeap) (t_3 : List UInt8) (g_4 g_5 : AHeap) (b_1 : Bool) (g_6 : AHeap) (n_4 : Nat) (t_4 t_5 t_6 : List UInt8) (n_5 : Nat) (g_7 : AHeap) (n_6 : Nat) (t_7 t_8 t_9 : List UInt8) (g_8 : AHeap)
    (H1 : call (.fn 55) [.str s] (AHeap.push h (.cells [.int .i64 (.ofNat 0), .str [], .str [], .str []] 42 .own 0 0)) = FRes.ret (.ptr p 0) g)
    (H2 : call (.fn 56) [.ptr p 0] g = FRes.ret (.int .u64 (.ofNat n_1)) g_1)
    (H3 : foldA minA (AV.int IntKind.u64 (Int.ofNat n_1)) [AV.int IntKind.u64 (Int.ofNat 10)] = some (AV.int IntKind.u64 (Int.ofNat n_2)))
    (H4 : evConvert Try.prog 52 3 (AV.int IntKind.u64 (Int.ofNat n_2)) g_1 = OpRes.val (AV.int IntKind.i64 (Int.ofNat n_3)) g_1)
    (H5 : call (.fn 58) [.ptr p 0] g_1 = FRes.ret (.str t_1) g_2)
    (H6 : call (.fn 58) [.ptr p 0] g_2 = FRes.ret (.str t_2) g_3)
    (H7 : call (.fn 58) [.ptr p 0] g_3 = FRes.ret (.str t_3) g_4)
    (H8 : AEv.storeCells (AHeap.push g_4 (.cells [.int .i64 (.ofNat 0), .str [], .str [], .str []] 42 .own 0 0)) (AHeap.n g_4) 0 [.int .i64 (.ofNat n_3), .str t_1, .str t_2, .str t_3] = some g_5)
    (H9 : call (.fn 59) [.ptr p 0] g_5 = FRes.ret (.bool b_1) g_6)
    (H10 : (!b_1) = false)
    (H11 : AEv.loadCells g_6 (AHeap.n g_4) 0 4 = some [.int .i64 (.ofNat n_4), .str t_4, .str t_5, .str t_6])
    (H12 : call (.fn 30) [.agg [.int .i64 (.ofNat n_4), .str t_4, .str t_5, .str t_6]] g_6 = FRes.ret (.int .i64 (.ofNat n_5)) g_7)
    (H13 : (!eqI (.ofNat n_5) (.ofNat 0)) = false)
    (H14 : AEv.loadCells g_7 (AHeap.n g_4) 0 4 = some [.int .i64 (.ofNat n_6), .str t_7, .str t_8, .str t_9])
    (H15 : AEv.storeCells g_7 (AHeap.n h) 0 [.int .i64 (.ofNat n_6), .str t_7, .str t_8, .str t_9] = some g_8) :
    RunF Try.prog Try.f33 none call [] (SSt.mk [(0, .str s)] [] .none h) (.ret)
      (SSt.mk [(2, .ptr (AHeap.n h) 0), (3, .int .i64 (.ofNat 0))] [] .none g_8) :=
  sxF_run [2, 3] (hs := [.c (.ptr p 0) g, .c (.int .u64 (.ofNat n_1)) g_1, .v (.int .u64 (.ofNat n_2)), .v (.int .i64 (.ofNat n_3)), .c (.str t_1) g_2, .c (.str t_2) g_3, .c (.str t_3) g_4, .vh (.tup []) g_5, .c (.bool b_1) g_6, .b false, .v (.agg [.int .i64 (.ofNat n_4), .str t_4, .str t_5, .str t_6]), .b false, .c (.int .i64 (.ofNat n_5)) g_7, .b false, .b false, .b false, .v (.agg [.int .i64 (.ofNat n_6), .str t_7, .str t_8, .str t_9]), .vh (.tup []) g_8]) (by kernel_rfl) <| .cons H1 <| .cons H2 <| .cons H3 <| .cons H4 <| .cons H5 <| .cons H6 <| .cons H7 <| .cons (⟨by kernel_rfl, H8, rfl⟩ : some 4 = some 4 ∧ AEv.storeCells (AHeap.push g_4 (AObj.cells [AV.int IntKind.i64 (Int.ofNat 0), AV.str [], AV.str [], AV.str []] 42 BK.own 0 0)) (AHeap.n g_4) 0 [AV.int IntKind.i64 (Int.ofNat n_3), AV.str t_1, AV.str t_2, AV.str t_3] = some g_5 ∧ AV.tup [] = AV.tup []) <| .cons H9 <| .cons H10 <| .cons H11 <| .cons H10 <| .cons H12 <| .cons H10 <| .cons H10 <| .cons H13 <| .cons H14 <| .cons (⟨by kernel_rfl, H15, rfl⟩ : some 4 = some 4 ∧ AEv.storeCells g_7 (AHeap.n h) 0 [AV.int IntKind.i64 (Int.ofNat n_6), AV.str t_7, AV.str t_8, AV.str t_9] = some g_8 ∧ AV.tup [] = AV.tup []) <| .nil
/-! ### msg.Decode, and the document's -/
theorem resS_ct {P : Program} {need : Nat} {fn : Func} {Γ : Env} {h : AHeap} {t u ty p n : Nat} {vs : List AV} {x : AV} (e1 : fn.results.toList = [.cell t ty, .tmp u]) (e2 : Nat.testBit need t = true) (e2' : Nat.testBit need u = true) (e3 : isAggT P ty = some true) (e4 : sizeT P ty = some n)
    (e5 : lk t Γ = some (.ptr p 0)) (e6 : lk u Γ = some x) (hl : AEv.loadCells h p 0 n = some vs) : resS P need fn Γ h = some (.tup [.agg vs, x]) := by
  simp only [resS, e1, allA, oneS, e2, e2', e3, e4, e5, e6, hl]
def mdA (s : List UInt8) : Nat := (numS (some s)).1
def mdS1 (s : List UInt8) : RdS := (numS (some s)).2
def mdS2 (s : List UInt8) : RdS := (textS (mdS1 s)).2
def mdS3 (s : List UInt8) : RdS := (textS (mdS2 s)).2
def mdS4 (s : List UInt8) : RdS := (textS (mdS3 s)).2
def mdT1 (s : List UInt8) : List UInt8 := (textS (mdS1 s)).1
def mdT2 (s : List UInt8) : List UInt8 := (textS (mdS2 s)).1
def mdT3 (s : List UInt8) : List UInt8 := (textS (mdS3 s)).1
def mdC (s : List UInt8) : Nat := chkN (Int.ofNat (mdA s)) (mdT1 s) (mdT2 s) (mdT3 s)
def mdOK (s : List UInt8) : Prop := endS (mdS4 s) = true ∧ mdC s = 0
instance (s : List UInt8) : Decidable (mdOK s) := by unfold mdOK; exact inferInstance
def mdV (s : List UInt8) : List AV := if mdOK s then rqV (Int.ofNat (mdA s)) (mdT1 s) (mdT2 s) (mdT3 s) else rqV (Int.ofNat 0) [] [] []
def mdE (s : List UInt8) : Nat := if mdOK s then 0 else 4
theorem chkN_min (n k : Nat) (hk : 10 ≤ k) (a b c : List UInt8) : chkN (Int.ofNat (min n k)) a b c = chkN (Int.ofNat n) a b c := by
  by_cases h : n ≤ k
  · rw [Nat.min_eq_left h]
  · rw [Nat.min_eq_right (by omega)]
    have h1 : ¬ (1 ≤ Int.ofNat k ∧ Int.ofNat k ≤ 9) := by
      have : Int.ofNat k = (k : Int) := rfl
      omega
    have h2 : ¬ (1 ≤ Int.ofNat n ∧ Int.ofNat n ≤ 9) := by
      have : Int.ofNat n = (n : Int) := rfl
      omega
    unfold chkN
    rw [if_neg h1, if_neg h2]
theorem mdOK_le {s : List UInt8} (h : mdOK s) : mdA s ≤ 9 := by
  obtain ⟨n, h1, h2, h3⟩ := chkN_0 h.2
  have : mdA s = n := Int.ofNat.inj h1
  omega
theorem mdecode_c (m : Nat) (s : List UInt8) (h : AHeap) (hs : s.length ≤ 70000) : ∃ h', C (m + 7) (.fn 33) [.str s] h = .ret (.tup [.agg (mdV s), .int .i64 (Int.ofNat (mdE s))]) h' ∧ Ext h.n h h' := by
  obtain ⟨H, hH⟩ : ∃ H, H = h.push (.cells (rqV (Int.ofNat 0) [] [] []) 42 .own 0 0) := ⟨_, rfl⟩
  have xH : Ext h.n h H := by rw [hH]; exact exA
  have nH : H.n = h.n + 1 := by rw [hH]; rfl
  have gH : H.get h.n = some (.cells (rqV (Int.ofNat 0) [] [] []) 42 .own 0 0) := by rw [hH]; exact gtop rfl
  obtain ⟨p, g, c1, x1, hp, r1⟩ := newr_c (m + 5) s H (by omega)
  obtain ⟨g1, c2, x2, r2⟩ := num_c (m + 1) p (some s) g r1
  obtain ⟨g2, c3, x3, r3⟩ := text_c m p _ g1 r2
  obtain ⟨g3, c4, x4, r4⟩ := text_c m p _ g2 r3
  obtain ⟨g4, c5, x5, r5⟩ := text_c m p _ g3 r4
  have hlt := numS_lt (some s)
  rw [show (numS (some s)).1 = mdA s from rfl] at c2 hlt
  rw [show (textS (numS (some s)).2).1 = mdT1 s from rfl] at c3
  rw [show (textS (textS (numS (some s)).2).2).1 = mdT2 s from rfl] at c4
  rw [show (textS (textS (textS (numS (some s)).2).2).2).1 = mdT3 s from rfl] at c5
  rw [show (textS (textS (textS (numS (some s)).2).2).2).2 = mdS4 s from rfl] at r5
  have xg : Ext h.n h g := xH.trans xH.n x1
  have x14 : ExtX p g.n g g4 := ((x2.trans x2.n x3).trans (Nat.le_trans x2.n x3.n) x4).trans (Nat.le_trans x2.n (Nat.le_trans x3.n x4.n)) x5
  have x04 : Ext h.n h g4 := xg.trans (Nat.le_refl _) ((x14.le xg.n).toExt (by omega))
  have n4 : h.n < g4.n := by have := x14.n; have := x1.n; omega
  have q4 : g4.get h.n = some (.cells (rqV (Int.ofNat 0) [] [] []) 42 .own 0 0) := (x14.get h.n (by have := x1.n; omega) (by omega)).trans ((x1.get h.n (by omega)).trans gH)
  obtain ⟨k, hk⟩ : ∃ k, k = min (mdA s) 10 := ⟨_, rfl⟩
  have hmin := min_u (mdA s) 10
  rw [← hk] at hmin
  obtain ⟨g5, hg5⟩ : ∃ g5, g5 = (g4.push (.cells (rqV (Int.ofNat 0) [] [] []) 42 .own 0 0)).set g4.n (some (.cells (rqV (Int.ofNat k) (mdT1 s) (mdT2 s) (mdT3 s)) 42 .own 0 0)) := ⟨_, rfl⟩
  have st5 : AEv.storeCells (g4.push (.cells (rqV (Int.ofNat 0) [] [] []) 42 .own 0 0)) g4.n 0 (rqV (Int.ofNat k) (mdT1 s) (mdT2 s) (mdT3 s)) = some g5 := by rw [hg5]; exact stc (gtop rfl) rfl rfl
  have x5' : Ext g4.n g4 g5 := by rw [hg5]; exact exA
  have n5 : g5.n = g4.n + 1 := by rw [hg5]; rfl
  have q5 : g5.get g4.n = some (.cells (rqV (Int.ofNat k) (mdT1 s) (mdT2 s) (mdT3 s)) 42 .own 0 0) := by rw [hg5]; exact gsame rfl
  have q5' : g5.get h.n = some (.cells (rqV (Int.ofNat 0) [] [] []) 42 .own 0 0) := (x5'.get h.n n4).trans q4
  have x05 : Ext h.n h g5 := x04.trans x04.n x5'
  have ce := end_c (m + 4) p (mdS4 s) g5 (r5.mono x5' (Nat.le_refl _))
  rw [hH] at c1
  obtain ⟨g6, c6, x6⟩ := chk_c (m + 2) (Int.ofNat k) (mdT1 s) (mdT2 s) (mdT3 s) g5
  have hck : chkN (Int.ofNat k) (mdT1 s) (mdT2 s) (mdT3 s) = mdC s := by rw [hk]; exact chkN_min _ 10 (Nat.le_refl _) _ _ _
  rw [hck] at c6
  have q6 : g6.get h.n = some (.cells (rqV (Int.ofNat 0) [] [] []) 42 .own 0 0) := (x6.get h.n (by omega)).trans q5'
  have q6' : g6.get g4.n = some (.cells (rqV (Int.ofNat k) (mdT1 s) (mdT2 s) (mdT3 s)) 42 .own 0 0) := (x6.get g4.n (by omega)).trans q5
  have x06 : Ext h.n h g6 := x05.trans x05.n x6
  have fin : ∀ {Γ : Env} {h' : AHeap} {v : AV}, RunF Try.prog Try.f33 none (C (m + 6)) [] ⟨[(0, .str s)], [], .none, h⟩ .ret ⟨Γ, [], .none, h'⟩ → resS Try.prog (needFn Try.f33) Try.f33 Γ h' = some v → C (m + 7) (.fn 33) [.str s] h = .ret v h' := fun hr hres =>
    fn_runF (intr := Ii) (n := m + 6) (args := [.str s]) Try.func33 (by kernel_rfl) rfl (by kernel_rfl) hr (.inl rfl) hres
  have res : ∀ {vs : List AV} {e : Nat} {h' : AHeap}, h'.get h.n = some (.cells vs 42 .own 0 0) → vs.length = 4 → resS Try.prog (needFn Try.f33) Try.f33 [(2, .ptr h.n 0), (3, .int .i64 (Int.ofNat e))] h' = some (.tup [.agg vs, .int .i64 (Int.ofNat e)]) := fun {vs e h'} hg hl =>
    resS_ct (t := 2) (u := 3) (by kernel_rfl) (by kernel_rfl) (by kernel_rfl) (by kernel_rfl) (by kernel_rfl : sizeT Try.prog 42 = some 4) rfl rfl (load4 hl hg)
  by_cases he : endS (mdS4 s) = true
  · rw [he] at ce
    by_cases hc : mdC s = 0
    · have hok : mdOK s := ⟨he, hc⟩
      have hle := mdOK_le hok
      have e1 : mdV s = rqV (Int.ofNat k) (mdT1 s) (mdT2 s) (mdT3 s) := by unfold mdV; rw [if_pos hok, hk, Nat.min_eq_left (by omega)]
      have e2 : mdE s = 0 := by unfold mdE; rw [if_pos hok]
      rw [e1, e2]
      refine ⟨_, fin (md_3 _ _ _ _ _ _ _ _ _ _ _ _ _ _ _ _ _ _ _ _ _ _ _ _ _ _ _ _ _ (c1) (c2) (hmin) (conv_ui _ (by omega) g1) (c3) (c4) (c5) (st5) (ce) (rfl) (ldc q5 rfl) (c6) ((by rw [hc]; rfl)) (ldc q6' rfl) (stc q6 rfl rfl)) (res (gsame rfl) rfl), ?_⟩
      exact Ext.setR (Nat.le_refl _) x06
    · have hok : ¬ mdOK s := fun h => hc h.2
      have e1 : mdV s = rqV (Int.ofNat 0) [] [] [] := by unfold mdV; rw [if_neg hok]
      have e2 : mdE s = 4 := by unfold mdE; rw [if_neg hok]
      rw [e1, e2]
      refine ⟨_, fin (md_2 _ _ _ _ _ _ _ _ _ _ _ _ _ _ _ _ _ _ _ _ _ _ _ _ _ (c1) (c2) (hmin) (conv_ui _ (by omega) g1) (c3) (c4) (c5) (st5) (ce) (rfl) (ldc q5 rfl) (c6) ((by rw [eqI_f hc]; rfl)) (stc q6 rfl rfl)) (res (gsame rfl) rfl), ?_⟩
      exact Ext.setR (Nat.le_refl _) x06
  · have hok : ¬ mdOK s := fun h => he h.1
    have he' : endS (mdS4 s) = false := by simpa using he
    rw [he'] at ce
    have e1 : mdV s = rqV (Int.ofNat 0) [] [] [] := by unfold mdV; rw [if_neg hok]
    have e2 : mdE s = 4 := by unfold mdE; rw [if_neg hok]
    rw [e1, e2]
    refine ⟨_, fin (md_1 _ _ _ _ _ _ _ _ _ _ _ _ _ _ _ _ _ _ _ (c1) (c2) (hmin) (conv_ui _ (by omega) g1) (c3) (c4) (c5) (st5) (ce) (rfl) (stc q5' rfl rfl)) (res (gsame rfl) rfl), ?_⟩
    exact Ext.setR (Nat.le_refl _) x05
end Go.Proofs.Wire

namespace Go.Proofs.Wire
open Go AEv Go.Proofs Go.Proofs.Enc
set_option maxRecDepth 100000
set_option maxHeartbeats 1000000

theorem cpp (call : CallT → List AV → AHeap → FRes) (b o n : Nat) (c c2 : Cap) (h : AHeap)
    (H1 : sliceA Try.prog h 38 (AV.slice b o n c) none (some (AV.int IntKind.i64 (Int.ofNat n))) (some (AV.int IntKind.i64 (Int.ofNat n))) = some (AV.slice b o n c2)) :
    RunF Try.prog Try.f75 none call [] (SSt.mk [(0, .slice b o n c)] [] .none h) (.ret)
      (SSt.mk [(2, .slice b o n c2)] [] .none h) :=
  sxF_run [2] (hs := [.v (.slice b o n c2)]) (by kernel_rfl) <| .cons H1 <| .nil
theorem cppn (call : CallT → List AV → AHeap → FRes) (h : AHeap)
    (H1 : sliceA Try.prog h 38 AV.nilS none (some (AV.int IntKind.i64 (Int.ofNat 0))) (some (AV.int IntKind.i64 (Int.ofNat 0))) = some AV.nilS) :
    RunF Try.prog Try.f75 none call [] (SSt.mk [(0, .nilS)] [] .none h) (.ret)
      (SSt.mk [(2, .nilS)] [] .none h) :=
  sxF_run [2] (hs := [.v .nilS]) (by kernel_rfl) <| .cons H1 <| .nil
theorem a0 (call : CallT → List AV → AHeap → FRes) (s : List UInt8) (h : AHeap) :
    RunF Try.prog Try.f35 none call [0] (SSt.mk [(0, .str s)] [] .none h) (.nrm)
      (SSt.mk [(0, .str s), (2, .ptr (AHeap.n h) 0)] [] .none (AHeap.push h (.cells [.int .i64 (.ofNat 0), .str [], .nilS, .nilS, .int .u64 (.ofNat 0)] 54 .own 0 0))) :=
  sxF_run [0, 2] (hs := []) (by kernel_rfl) <| .nil
theorem a1 (call : CallT → List AV → AHeap → FRes) (s : List UInt8) (a p : Nat) (h g : AHeap)
    (H1 : call (.fn 55) [.str s] h = FRes.ret (.ptr p 0) g) :
    RunF Try.prog Try.f35 none call [1, 0] (SSt.mk [(0, .str s), (2, .ptr a 0)] [] .none h) (.nrm)
      (SSt.mk [(2, .ptr a 0), (4, .ptr p 0)] [] .none g) :=
  sxF_run [2, 4] (hs := [.c (.ptr p 0) g]) (by kernel_rfl) <| .cons H1 <| .nil
theorem a2 (call : CallT → List AV → AHeap → FRes) (a p : Nat) (h : AHeap) (n_1 : Nat) (g_1 : AHeap) (t_1 : List UInt8) (g_2 g_3 : AHeap)
    (H1 : call (.fn 56) [.ptr p 0] h = FRes.ret (.int .u64 (.ofNat n_1)) g_1)
    (H2 : call (.fn 58) [.ptr p 0] g_1 = FRes.ret (.str t_1) g_2)
    (H3 : AEv.storeCells (AHeap.push g_2 (.cells [.int .u64 (.ofNat 0), .str [], .int .u64 (.ofNat 0)] 94 .own 0 0)) (AHeap.n g_2) 0 [.int .u64 (.ofNat n_1), .str t_1, .int .u64 (.ofNat 0)] = some g_3) :
    RunF Try.prog Try.f35 none call [1, 1, 0] (SSt.mk [(2, .ptr a 0), (4, .ptr p 0)] [] .none h) (.nrm)
      (SSt.mk [(2, .ptr a 0), (4, .ptr p 0), (5, .ptr (AHeap.n g_2) 0)] [] .none g_3) :=
  sxF_run [2, 4, 5] (hs := [.c (.int .u64 (.ofNat n_1)) g_1, .c (.str t_1) g_2, .vh (.tup []) g_3]) (by kernel_rfl) <| .cons H1 <| .cons H2 <| .cons (⟨by kernel_rfl, H3, rfl⟩ : some 3 = some 3 ∧ AEv.storeCells (AHeap.push g_2 (AObj.cells [AV.int IntKind.u64 (Int.ofNat 0), AV.str [], AV.int IntKind.u64 (Int.ofNat 0)] 94 BK.own 0 0)) (AHeap.n g_2) 0 [AV.int IntKind.u64 (Int.ofNat n_1), AV.str t_1, AV.int IntKind.u64 (Int.ofNat 0)] = some g_3 ∧ AV.tup [] = AV.tup []) <| .nil
theorem a3 (call : CallT → List AV → AHeap → FRes) (a p q : Nat) (h : AHeap) :
    RunF Try.prog Try.f35 none call [1, 1, 1, 0] (SSt.mk [(2, .ptr a 0), (4, .ptr p 0), (5, .ptr q 0)] [] .none h) (.nrm)
      (SSt.mk [(2, .ptr a 0), (4, .ptr p 0), (5, .ptr q 0), (6, .nilS)] [] .none h) :=
  sxF_run [2, 4, 5, 6] (hs := []) (by kernel_rfl) <| .nil
theorem a4 (call : CallT → List AV → AHeap → FRes) (a p q : Nat) (w : AV) (h g : AHeap) (n_1 : Nat) (g_1 : AHeap)
    (H1 : call (.fn 56) [.ptr p 0] h = FRes.ret (.int .u64 (.ofNat n_1)) g_1)
    (H2 : RunF Try.prog Try.f35 none call [1, 1, 1, 1, 0, 1, 0] (SSt.mk [(7, .int .u64 (.ofNat n_1)), (2, .ptr a 0), (4, .ptr p 0), (5, .ptr q 0), (6, .nilS)] [] .none g_1) (.exit 0) (SSt.mk [(2, .ptr a 0), (4, .ptr p 0), (5, .ptr q 0), (6, w)] [] .none g)) :
    RunF Try.prog Try.f35 none call [1, 1, 1, 1, 0] (SSt.mk [(2, .ptr a 0), (4, .ptr p 0), (5, .ptr q 0), (6, .nilS)] [] .none h) (.nrm)
      (SSt.mk [(2, .ptr a 0), (4, .ptr p 0), (5, .ptr q 0), (6, w)] [] .none g) :=
  sxF_run [2, 4, 5, 6] (hs := [Hint.c (AV.int IntKind.u64 (Int.ofNat n_1)) g_1, Hint.loop (AEx.exit 0) (SSt.mk [(2, AV.ptr a 0), (4, AV.ptr p 0), (5, AV.ptr q 0), (6, w)] [] Rc.none g)]) (by kernel_rfl) <| .cons H1 <| .cons H2 <| .nil
theorem al_1 (call : CallT → List AV → AHeap → FRes) (a p q n : Nat) (w w2 : AV) (h g2 : AHeap) (b_1 : Bool) (g_1 : AHeap) (t_1 : List UInt8) (g_2 : AHeap) (n_1 : Nat)
    (H1 : ltI (.ofNat 0) (.ofNat n) = true)
    (H2 : call (.fn 57) [.ptr p 0] h = FRes.ret (.bool b_1) g_1)
    (H3 : b_1 = true)
    (H4 : call (.fn 58) [.ptr p 0] g_1 = FRes.ret (.str t_1) g_2)
    (H5 : appendA Try.prog (AHeap.push g_2 (AObj.cells [AV.str t_1] 9 BK.own 0 0)) 38 (some 38) w (AV.slice (AHeap.n g_2) 0 1 (Cap.exact 1)) = some (w2, g2))
    (H6 : arith .sub .u64 (.ofNat n) (.ofNat 1) = some (.int .u64 (.ofNat n_1))) :
    RunF Try.prog Try.f35 none call [1, 1, 1, 1, 0, 1, 0, 0] (SSt.mk [(2, .ptr a 0), (4, .ptr p 0), (5, .ptr q 0), (6, w), (7, .int .u64 (.ofNat n))] [] .none h) (.nrm)
      (SSt.mk [(2, .ptr a 0), (4, .ptr p 0), (5, .ptr q 0), (6, w2), (7, .int .u64 (.ofNat n_1))] [] .none g2) :=
  sxF_run [2, 4, 5, 6, 7] (hs := [.b true, .b true, .c (.bool b_1) g_1, .b true, .b true, .c (.str t_1) g_2, .vh w2 g2, .v (.int .u64 (.ofNat n_1))]) (by kernel_rfl) <| .cons H1 <| .cons H1 <| .cons H2 <| .cons H1 <| .cons H3 <| .cons H4 <| .cons H5 <| .cons H6 <| .nil
theorem al_2 (call : CallT → List AV → AHeap → FRes) (a p q n : Nat) (w w2 : AV) (h g2 : AHeap) (b_1 : Bool) (g_1 : AHeap)
    (H1 : ltI (.ofNat 0) (.ofNat n) = true)
    (H2 : call (.fn 57) [.ptr p 0] h = FRes.ret (.bool b_1) g_1)
    (H3 : b_1 = false) :
    RunF Try.prog Try.f35 none call [1, 1, 1, 1, 0, 1, 0, 0] (SSt.mk [(2, .ptr a 0), (4, .ptr p 0), (5, .ptr q 0), (6, w), (7, .int .u64 (.ofNat n))] [] .none h) (.exit 0)
      (SSt.mk [(2, .ptr a 0), (4, .ptr p 0), (5, .ptr q 0), (6, w), (7, .int .u64 (.ofNat n))] [] .none g_1) :=
  sxF_run [2, 4, 5, 6, 7] (hs := [.b true, .b true, .c (.bool b_1) g_1, .b true, .b false]) (by kernel_rfl) <| .cons H1 <| .cons H1 <| .cons H2 <| .cons H1 <| .cons H3 <| .nil
theorem al_3 (call : CallT → List AV → AHeap → FRes) (a p q n : Nat) (w w2 : AV) (h g2 : AHeap)
    (H1 : ltI (.ofNat 0) (.ofNat n) = false) :
    RunF Try.prog Try.f35 none call [1, 1, 1, 1, 0, 1, 0, 0] (SSt.mk [(2, .ptr a 0), (4, .ptr p 0), (5, .ptr q 0), (6, w), (7, .int .u64 (.ofNat n))] [] .none h) (.exit 0)
      (SSt.mk [(2, .ptr a 0), (4, .ptr p 0), (5, .ptr q 0), (6, w), (7, .int .u64 (.ofNat n))] [] .none h) :=
  sxF_run [2, 4, 5, 6, 7] (hs := [.b false, .b false, .b false, .b false]) (by kernel_rfl) <| .cons H1 <| .cons H1 <| .cons H1 <| .cons (by kernel_rfl : false = false) <| .nil
theorem a5 (call : CallT → List AV → AHeap → FRes) (a p q e : Nat) (w wd : AV) (h g : AHeap) (t_1 : List UInt8) (g_1 : AHeap)
    (H1 : call (.fn 58) [.ptr p 0] h = FRes.ret (.str t_1) g_1)
    (H2 : call (.fn 22) [.str t_1] g_1 = FRes.ret (.tup [wd, .int .i64 (.ofNat e)]) g) :
    RunF Try.prog Try.f35 none call [1, 1, 1, 1, 1, 0] (SSt.mk [(2, .ptr a 0), (4, .ptr p 0), (5, .ptr q 0), (6, w)] [] .none h) (.nrm)
      (SSt.mk [(2, .ptr a 0), (4, .ptr p 0), (5, .ptr q 0), (6, w), (8, wd), (9, .int .i64 (.ofNat e))] [] .none g) :=
  sxF_run [2, 4, 5, 6, 8, 9] (hs := [.c (.str t_1) g_1, .c (.tup [wd, .int .i64 (.ofNat e)]) g]) (by kernel_rfl) <| .cons H1 <| .cons H2 <| .nil
theorem a6 (call : CallT → List AV → AHeap → FRes) (a p q e : Nat) (w wd : AV) (h : AHeap) (n_1 : Nat) (g_1 g_2 : AHeap)
    (H1 : call (.fn 56) [.ptr p 0] h = FRes.ret (.int .u64 (.ofNat n_1)) g_1)
    (H2 : AEv.storeCells g_1 q (0 + 2) [.int .u64 (.ofNat n_1)] = some g_2) :
    RunF Try.prog Try.f35 none call [1, 1, 1, 1, 1, 1, 0] (SSt.mk [(2, .ptr a 0), (4, .ptr p 0), (5, .ptr q 0), (6, w), (8, wd), (9, .int .i64 (.ofNat e))] [] .none h) (.nrm)
      (SSt.mk [(2, .ptr a 0), (4, .ptr p 0), (5, .ptr q 0), (6, w), (8, wd), (9, .int .i64 (.ofNat e))] [] .none g_2) :=
  sxF_run [2, 4, 5, 6, 8, 9] (hs := [.c (.int .u64 (.ofNat n_1)) g_1, .vh (.tup []) g_2]) (by kernel_rfl) <| .cons H1 <| .cons (⟨by kernel_rfl, H2, rfl⟩ : some 1 = some 1 ∧ AEv.storeCells g_1 q (0 + 2) [AV.int IntKind.u64 (Int.ofNat n_1)] = some g_2 ∧ AV.tup [] = AV.tup []) <| .nil
theorem a7_1 (call : CallT → List AV → AHeap → FRes) (a p q e : Nat) (w wd : AV) (h g_1 : AHeap)
    (H1 : (!eqI (.ofNat e) (.ofNat 0)) = true)
    (H2 : AEv.storeCells h a 0 [.int .i64 (.ofNat 0), .str [], .nilS, .nilS, .int .u64 (.ofNat 0)] = some g_1) :
    RunF Try.prog Try.f35 none call [1, 1, 1, 1, 1, 1, 1, 0] (SSt.mk [(2, .ptr a 0), (4, .ptr p 0), (5, .ptr q 0), (6, w), (8, wd), (9, .int .i64 (.ofNat e))] [] .none h) (.ret)
      (SSt.mk [(2, .ptr a 0), (3, .int .i64 (.ofNat 4)), (5, .ptr q 0), (6, w), (8, wd)] [] .none g_1) :=
  sxF_run [2, 3, 5, 6, 8] (hs := [.b true, .b true, .b true, .b true, .b true, .b true, .b true, .b true, .b true, .vh (.tup []) g_1]) (by kernel_rfl) <| .cons H1 <| .cons H1 <| .cons H1 <| .cons H1 <| .cons (by kernel_rfl : true = true) <| .cons (by kernel_rfl : true = true) <| .cons (by kernel_rfl : true = true) <| .cons (by kernel_rfl : true = true) <| .cons (by kernel_rfl : true = true) <| .cons (⟨by kernel_rfl, H2, rfl⟩ : some 5 = some 5 ∧ AEv.storeCells h a 0 [AV.int IntKind.i64 (Int.ofNat 0), AV.str [], AV.nilS, AV.nilS, AV.int IntKind.u64 (Int.ofNat 0)] = some g_1 ∧ AV.tup [] = AV.tup []) <| .nil
theorem a7_2 (call : CallT → List AV → AHeap → FRes) (a p q e : Nat) (w wd : AV) (h : AHeap) (b_1 : Bool) (g_1 g_2 : AHeap)
    (H1 : (!eqI (.ofNat e) (.ofNat 0)) = false)
    (H2 : call (.fn 59) [.ptr p 0] h = FRes.ret (.bool b_1) g_1)
    (H3 : (!b_1) = true)
    (H4 : AEv.storeCells g_1 a 0 [.int .i64 (.ofNat 0), .str [], .nilS, .nilS, .int .u64 (.ofNat 0)] = some g_2) :
    RunF Try.prog Try.f35 none call [1, 1, 1, 1, 1, 1, 1, 0] (SSt.mk [(2, .ptr a 0), (4, .ptr p 0), (5, .ptr q 0), (6, w), (8, wd), (9, .int .i64 (.ofNat e))] [] .none h) (.ret)
      (SSt.mk [(2, .ptr a 0), (3, .int .i64 (.ofNat 4)), (5, .ptr q 0), (6, w), (8, wd)] [] .none g_2) :=
  sxF_run [2, 3, 5, 6, 8] (hs := [.b false, .b false, .c (.bool b_1) g_1, .b false, .b false, .b true, .b true, .b true, .b true, .b true, .vh (.tup []) g_2]) (by kernel_rfl) <| .cons H1 <| .cons H1 <| .cons H2 <| .cons H1 <| .cons H1 <| .cons H3 <| .cons H3 <| .cons H3 <| .cons H3 <| .cons (by kernel_rfl : true = true) <| .cons (⟨by kernel_rfl, H4, rfl⟩ : some 5 = some 5 ∧ AEv.storeCells g_1 a 0 [AV.int IntKind.i64 (Int.ofNat 0), AV.str [], AV.nilS, AV.nilS, AV.int IntKind.u64 (Int.ofNat 0)] = some g_2 ∧ AV.tup [] = AV.tup []) <| .nil
theorem a7_3 (call : CallT → List AV → AHeap → FRes) (a p q e : Nat) (w wd : AV) (h : AHeap) (b_1 : Bool) (g_1 : AHeap) (n_1 : Nat) (g_2 : AHeap)
    (H1 : (!eqI (.ofNat e) (.ofNat 0)) = false)
    (H2 : call (.fn 59) [.ptr p 0] h = FRes.ret (.bool b_1) g_1)
    (H3 : (!b_1) = false)
    (H4 : load1 g_1 q (0 + 0) = some (.int .u64 (.ofNat n_1)))
    (H5 : ltI (.ofNat 14) (.ofNat n_1) = true)
    (H6 : AEv.storeCells g_1 a 0 [.int .i64 (.ofNat 0), .str [], .nilS, .nilS, .int .u64 (.ofNat 0)] = some g_2) :
    RunF Try.prog Try.f35 none call [1, 1, 1, 1, 1, 1, 1, 0] (SSt.mk [(2, .ptr a 0), (4, .ptr p 0), (5, .ptr q 0), (6, w), (8, wd), (9, .int .i64 (.ofNat e))] [] .none h) (.ret)
      (SSt.mk [(2, .ptr a 0), (3, .int .i64 (.ofNat 4)), (5, .ptr q 0), (6, w), (8, wd)] [] .none g_2) :=
  sxF_run [2, 3, 5, 6, 8] (hs := [.b false, .b false, .c (.bool b_1) g_1, .b false, .b false, .b false, .b false, .v (.int .u64 (.ofNat n_1)), .b false, .b false, .b true, .vh (.tup []) g_2]) (by kernel_rfl) <| .cons H1 <| .cons H1 <| .cons H2 <| .cons H1 <| .cons H1 <| .cons H3 <| .cons H3 <| .cons H4 <| .cons H3 <| .cons H3 <| .cons H5 <| .cons (⟨by kernel_rfl, H6, rfl⟩ : some 5 = some 5 ∧ AEv.storeCells g_1 a 0 [AV.int IntKind.i64 (Int.ofNat 0), AV.str [], AV.nilS, AV.nilS, AV.int IntKind.u64 (Int.ofNat 0)] = some g_2 ∧ AV.tup [] = AV.tup []) <| .nil
theorem a7_4 (call : CallT → List AV → AHeap → FRes) (a p q e : Nat) (w wd : AV) (h : AHeap) (b_1 : Bool) (g_1 : AHeap) (n_1 : Nat)
    (H1 : (!eqI (.ofNat e) (.ofNat 0)) = false)
    (H2 : call (.fn 59) [.ptr p 0] h = FRes.ret (.bool b_1) g_1)
    (H3 : (!b_1) = false)
    (H4 : load1 g_1 q (0 + 0) = some (.int .u64 (.ofNat n_1)))
    (H5 : ltI (.ofNat 14) (.ofNat n_1) = false) :
    RunF Try.prog Try.f35 none call [1, 1, 1, 1, 1, 1, 1, 0] (SSt.mk [(2, .ptr a 0), (4, .ptr p 0), (5, .ptr q 0), (6, w), (8, wd), (9, .int .i64 (.ofNat e))] [] .none h) (.nrm)
      (SSt.mk [(2, .ptr a 0), (5, .ptr q 0), (6, w), (8, wd)] [] .none g_1) :=
  sxF_run [2, 3, 5, 6, 8] (hs := [.b false, .b false, .c (.bool b_1) g_1, .b false, .b false, .b false, .b false, .v (.int .u64 (.ofNat n_1)), .b false, .b false, .b false]) (by kernel_rfl) <| .cons H1 <| .cons H1 <| .cons H2 <| .cons H1 <| .cons H1 <| .cons H3 <| .cons H3 <| .cons H4 <| .cons H3 <| .cons H3 <| .cons H5 <| .nil
theorem a8ss (call : CallT → List AV → AHeap → FRes) (a q b1 n1 : Nat) (k1 k3 : Cap) (b2 n2 : Nat) (k2 : Cap) (h g : AHeap) (n_1 n_2 : Nat) (t_1 : List UInt8) (n_3 : Nat) (g_1 : AHeap)
    (H1 : load1 (AHeap.room h 13) q (0 + 0) = some (.int .u64 (.ofNat n_1)))
    (H2 : evConvert Try.prog 52 29 (AV.int IntKind.u64 (Int.ofNat n_1)) (AHeap.room h 13) = OpRes.val (AV.int IntKind.i64 (Int.ofNat n_2)) (AHeap.room h 13))
    (H3 : load1 (AHeap.room h 13) q (0 + 1) = some (.str t_1))
    (H4 : call (.fn 75) [.slice b1 0 n1 k1] (AHeap.room h 13) = FRes.ret (.slice b1 0 n1 k3) g)
    (H5 : load1 g q (0 + 2) = some (.int .u64 (.ofNat n_3)))
    (H6 : AEv.storeCells g a 0 [.int .i64 (.ofNat n_2), .str t_1, .slice b1 0 n1 k3, .slice b2 0 n2 k2, .int .u64 (.ofNat n_3)] = some g_1)
    (H7 : load1 g q (0 + 0) = some (.int .u64 (.ofNat n_1)))
    (H8 : evConvert Try.prog 52 29 (AV.int IntKind.u64 (Int.ofNat n_1)) g = OpRes.val (AV.int IntKind.i64 (Int.ofNat n_2)) g)
    (H9 : load1 g q (0 + 1) = some (.str t_1))
    (H10 : load1 (AHeap.room h 13) q (0 + 2) = some (.int .u64 (.ofNat n_3))) :
    RunF Try.prog Try.f35 none call [1, 1, 1, 1, 1, 1, 1, 1] (SSt.mk [(2, .ptr a 0), (5, .ptr q 0), (6, .slice b1 0 n1 k1), (8, .slice b2 0 n2 k2)] [] .none h) (.ret)
      (SSt.mk [(2, .ptr a 0), (3, .int .i64 (.ofNat 0))] [] .none g_1) :=
  sxF_run [2, 3] (hs := [.v (.int .u64 (.ofNat n_1)), .v (.int .i64 (.ofNat n_2)), .v (.str t_1), .c (.slice b1 0 n1 k3) g, .v (.int .u64 (.ofNat n_3)), .vh (.tup []) g_1]) (by kernel_rfl) <| .cons H1 <| .cons H2 <| .cons H3 <| .cons H4 <| .cons H5 <| .cons (⟨by kernel_rfl, H6, rfl⟩ : some 5 = some 5 ∧ AEv.storeCells g a 0 [AV.int IntKind.i64 (Int.ofNat n_2), AV.str t_1, AV.slice b1 0 n1 k3, AV.slice b2 0 n2 k2, AV.int IntKind.u64 (Int.ofNat n_3)] = some g_1 ∧ AV.tup [] = AV.tup []) <| .cons (by kernel_rfl : AV.sound (AV.ptr q (0 + 0)) = true) <| .cons (by kernel_rfl : AV.ptr q (0 + 0) = AV.ptr q (0 + 0)) <| .cons (by kernel_rfl : AV.sound (AV.ptr q (0 + 0)) = true) <| .cons (by kernel_rfl : AV.ptr q (0 + 0) = AV.ptr q (0 + 0)) <| .cons (by kernel_rfl : AV.sound (AV.int IntKind.u64 (Int.ofNat n_1)) = true) <| .cons H7 <| .cons (by kernel_rfl : AV.sound (AV.int IntKind.u64 (Int.ofNat n_1)) = true) <| .cons H1 <| .cons (by kernel_rfl : AV.sound (AV.int IntKind.i64 (Int.ofNat n_2)) = true) <| .cons H8 <| .cons (by kernel_rfl : AV.sound (AV.int IntKind.i64 (Int.ofNat n_2)) = true) <| .cons H2 <| .cons (by kernel_rfl : AV.sound (AV.ptr q (0 + 1)) = true) <| .cons (by kernel_rfl : AV.ptr q (0 + 1) = AV.ptr q (0 + 1)) <| .cons (by kernel_rfl : AV.sound (AV.ptr q (0 + 1)) = true) <| .cons (by kernel_rfl : AV.ptr q (0 + 1) = AV.ptr q (0 + 1)) <| .cons (by kernel_rfl : AV.sound (AV.str t_1) = true) <| .cons H9 <| .cons (by kernel_rfl : AV.sound (AV.str t_1) = true) <| .cons H3 <| .cons (by kernel_rfl : AV.sound (AV.slice b1 0 n1 k1) = true) <| .cons (by kernel_rfl : AV.slice b1 0 n1 k1 = AV.slice b1 0 n1 k1) <| .cons (by kernel_rfl : AV.sound (AV.slice b2 0 n2 k2) = true) <| .cons (by kernel_rfl : AV.slice b2 0 n2 k2 = AV.slice b2 0 n2 k2) <| .cons (by kernel_rfl : AV.sound (AV.slice b2 0 n2 k2) = true) <| .cons (by kernel_rfl : AV.slice b2 0 n2 k2 = AV.slice b2 0 n2 k2) <| .cons (by kernel_rfl : AV.sound (AV.ptr q (0 + 2)) = true) <| .cons (by kernel_rfl : AV.ptr q (0 + 2) = AV.ptr q (0 + 2)) <| .cons (by kernel_rfl : AV.sound (AV.ptr q (0 + 2)) = true) <| .cons (by kernel_rfl : AV.ptr q (0 + 2) = AV.ptr q (0 + 2)) <| .cons (by kernel_rfl : AV.sound (AV.int IntKind.u64 (Int.ofNat n_3)) = true) <| .cons H5 <| .cons (by kernel_rfl : AV.sound (AV.int IntKind.u64 (Int.ofNat n_3)) = true) <| .cons H10 <| .cons (by kernel_rfl : AV.sound (AV.agg [AV.int IntKind.i64 (Int.ofNat n_2), AV.str t_1, AV.slice b1 0 n1 k3, AV.slice b2 0 n2 k2, AV.int IntKind.u64 (Int.ofNat n_3)]) = true) <| .cons (by kernel_rfl : AV.agg [AV.int IntKind.i64 (Int.ofNat n_2), AV.str t_1, AV.slice b1 0 n1 k3, AV.slice b2 0 n2 k2, AV.int IntKind.u64 (Int.ofNat n_3)] = AV.agg [AV.int IntKind.i64 (Int.ofNat n_2), AV.str t_1, AV.slice b1 0 n1 k3, AV.slice b2 0 n2 k2, AV.int IntKind.u64 (Int.ofNat n_3)]) <| .cons (by kernel_rfl : AV.sound (AV.int IntKind.i64 (Int.ofNat 0)) = true) <| .cons (by kernel_rfl : AV.int IntKind.i64 (Int.ofNat 0) = AV.int IntKind.i64 (Int.ofNat 0)) <| .nil
theorem a8sn (call : CallT → List AV → AHeap → FRes) (a q b1 n1 : Nat) (k1 k3 : Cap) (h g : AHeap) (n_1 n_2 : Nat) (t_1 : List UInt8) (n_3 : Nat) (g_1 : AHeap)
    (H1 : load1 (AHeap.room h 13) q (0 + 0) = some (.int .u64 (.ofNat n_1)))
    (H2 : evConvert Try.prog 52 29 (AV.int IntKind.u64 (Int.ofNat n_1)) (AHeap.room h 13) = OpRes.val (AV.int IntKind.i64 (Int.ofNat n_2)) (AHeap.room h 13))
    (H3 : load1 (AHeap.room h 13) q (0 + 1) = some (.str t_1))
    (H4 : call (.fn 75) [.slice b1 0 n1 k1] (AHeap.room h 13) = FRes.ret (.slice b1 0 n1 k3) g)
    (H5 : load1 g q (0 + 2) = some (.int .u64 (.ofNat n_3)))
    (H6 : AEv.storeCells g a 0 [.int .i64 (.ofNat n_2), .str t_1, .slice b1 0 n1 k3, .nilS, .int .u64 (.ofNat n_3)] = some g_1)
    (H7 : load1 g q (0 + 0) = some (.int .u64 (.ofNat n_1)))
    (H8 : evConvert Try.prog 52 29 (AV.int IntKind.u64 (Int.ofNat n_1)) g = OpRes.val (AV.int IntKind.i64 (Int.ofNat n_2)) g)
    (H9 : load1 g q (0 + 1) = some (.str t_1))
    (H10 : load1 (AHeap.room h 13) q (0 + 2) = some (.int .u64 (.ofNat n_3))) :
    RunF Try.prog Try.f35 none call [1, 1, 1, 1, 1, 1, 1, 1] (SSt.mk [(2, .ptr a 0), (5, .ptr q 0), (6, .slice b1 0 n1 k1), (8, .nilS)] [] .none h) (.ret)
      (SSt.mk [(2, .ptr a 0), (3, .int .i64 (.ofNat 0))] [] .none g_1) :=
  sxF_run [2, 3] (hs := [.v (.int .u64 (.ofNat n_1)), .v (.int .i64 (.ofNat n_2)), .v (.str t_1), .c (.slice b1 0 n1 k3) g, .v (.int .u64 (.ofNat n_3)), .vh (.tup []) g_1]) (by kernel_rfl) <| .cons H1 <| .cons H2 <| .cons H3 <| .cons H4 <| .cons H5 <| .cons (⟨by kernel_rfl, H6, rfl⟩ : some 5 = some 5 ∧ AEv.storeCells g a 0 [AV.int IntKind.i64 (Int.ofNat n_2), AV.str t_1, AV.slice b1 0 n1 k3, AV.nilS, AV.int IntKind.u64 (Int.ofNat n_3)] = some g_1 ∧ AV.tup [] = AV.tup []) <| .cons (by kernel_rfl : AV.sound (AV.ptr q (0 + 0)) = true) <| .cons (by kernel_rfl : AV.ptr q (0 + 0) = AV.ptr q (0 + 0)) <| .cons (by kernel_rfl : AV.sound (AV.ptr q (0 + 0)) = true) <| .cons (by kernel_rfl : AV.ptr q (0 + 0) = AV.ptr q (0 + 0)) <| .cons (by kernel_rfl : AV.sound (AV.int IntKind.u64 (Int.ofNat n_1)) = true) <| .cons H7 <| .cons (by kernel_rfl : AV.sound (AV.int IntKind.u64 (Int.ofNat n_1)) = true) <| .cons H1 <| .cons (by kernel_rfl : AV.sound (AV.int IntKind.i64 (Int.ofNat n_2)) = true) <| .cons H8 <| .cons (by kernel_rfl : AV.sound (AV.int IntKind.i64 (Int.ofNat n_2)) = true) <| .cons H2 <| .cons (by kernel_rfl : AV.sound (AV.ptr q (0 + 1)) = true) <| .cons (by kernel_rfl : AV.ptr q (0 + 1) = AV.ptr q (0 + 1)) <| .cons (by kernel_rfl : AV.sound (AV.ptr q (0 + 1)) = true) <| .cons (by kernel_rfl : AV.ptr q (0 + 1) = AV.ptr q (0 + 1)) <| .cons (by kernel_rfl : AV.sound (AV.str t_1) = true) <| .cons H9 <| .cons (by kernel_rfl : AV.sound (AV.str t_1) = true) <| .cons H3 <| .cons (by kernel_rfl : AV.sound (AV.slice b1 0 n1 k1) = true) <| .cons (by kernel_rfl : AV.slice b1 0 n1 k1 = AV.slice b1 0 n1 k1) <| .cons (by kernel_rfl : AV.sound AV.nilS = true) <| .cons (by kernel_rfl : AV.nilS = AV.nilS) <| .cons (by kernel_rfl : AV.sound AV.nilS = true) <| .cons (by kernel_rfl : AV.nilS = AV.nilS) <| .cons (by kernel_rfl : AV.sound (AV.ptr q (0 + 2)) = true) <| .cons (by kernel_rfl : AV.ptr q (0 + 2) = AV.ptr q (0 + 2)) <| .cons (by kernel_rfl : AV.sound (AV.ptr q (0 + 2)) = true) <| .cons (by kernel_rfl : AV.ptr q (0 + 2) = AV.ptr q (0 + 2)) <| .cons (by kernel_rfl : AV.sound (AV.int IntKind.u64 (Int.ofNat n_3)) = true) <| .cons H5 <| .cons (by kernel_rfl : AV.sound (AV.int IntKind.u64 (Int.ofNat n_3)) = true) <| .cons H10 <| .cons (by kernel_rfl : AV.sound (AV.agg [AV.int IntKind.i64 (Int.ofNat n_2), AV.str t_1, AV.slice b1 0 n1 k3, AV.nilS, AV.int IntKind.u64 (Int.ofNat n_3)]) = true) <| .cons (by kernel_rfl : AV.agg [AV.int IntKind.i64 (Int.ofNat n_2), AV.str t_1, AV.slice b1 0 n1 k3, AV.nilS, AV.int IntKind.u64 (Int.ofNat n_3)] = AV.agg [AV.int IntKind.i64 (Int.ofNat n_2), AV.str t_1, AV.slice b1 0 n1 k3, AV.nilS, AV.int IntKind.u64 (Int.ofNat n_3)]) <| .cons (by kernel_rfl : AV.sound (AV.int IntKind.i64 (Int.ofNat 0)) = true) <| .cons (by kernel_rfl : AV.int IntKind.i64 (Int.ofNat 0) = AV.int IntKind.i64 (Int.ofNat 0)) <| .nil
theorem a8ns (call : CallT → List AV → AHeap → FRes) (a q b2 n2 : Nat) (k2 : Cap) (h g : AHeap) (n_1 n_2 : Nat) (t_1 : List UInt8) (n_3 : Nat) (g_1 : AHeap)
    (H1 : load1 (AHeap.room h 13) q (0 + 0) = some (.int .u64 (.ofNat n_1)))
    (H2 : evConvert Try.prog 52 29 (AV.int IntKind.u64 (Int.ofNat n_1)) (AHeap.room h 13) = OpRes.val (AV.int IntKind.i64 (Int.ofNat n_2)) (AHeap.room h 13))
    (H3 : load1 (AHeap.room h 13) q (0 + 1) = some (.str t_1))
    (H4 : call (.fn 75) [.nilS] (AHeap.room h 13) = FRes.ret .nilS g)
    (H5 : load1 g q (0 + 2) = some (.int .u64 (.ofNat n_3)))
    (H6 : AEv.storeCells g a 0 [.int .i64 (.ofNat n_2), .str t_1, .nilS, .slice b2 0 n2 k2, .int .u64 (.ofNat n_3)] = some g_1)
    (H7 : load1 g q (0 + 0) = some (.int .u64 (.ofNat n_1)))
    (H8 : evConvert Try.prog 52 29 (AV.int IntKind.u64 (Int.ofNat n_1)) g = OpRes.val (AV.int IntKind.i64 (Int.ofNat n_2)) g)
    (H9 : load1 g q (0 + 1) = some (.str t_1))
    (H10 : load1 (AHeap.room h 13) q (0 + 2) = some (.int .u64 (.ofNat n_3))) :
    RunF Try.prog Try.f35 none call [1, 1, 1, 1, 1, 1, 1, 1] (SSt.mk [(2, .ptr a 0), (5, .ptr q 0), (6, .nilS), (8, .slice b2 0 n2 k2)] [] .none h) (.ret)
      (SSt.mk [(2, .ptr a 0), (3, .int .i64 (.ofNat 0))] [] .none g_1) :=
  sxF_run [2, 3] (hs := [.v (.int .u64 (.ofNat n_1)), .v (.int .i64 (.ofNat n_2)), .v (.str t_1), .c .nilS g, .v (.int .u64 (.ofNat n_3)), .vh (.tup []) g_1]) (by kernel_rfl) <| .cons H1 <| .cons H2 <| .cons H3 <| .cons H4 <| .cons H5 <| .cons (⟨by kernel_rfl, H6, rfl⟩ : some 5 = some 5 ∧ AEv.storeCells g a 0 [AV.int IntKind.i64 (Int.ofNat n_2), AV.str t_1, AV.nilS, AV.slice b2 0 n2 k2, AV.int IntKind.u64 (Int.ofNat n_3)] = some g_1 ∧ AV.tup [] = AV.tup []) <| .cons (by kernel_rfl : AV.sound (AV.ptr q (0 + 0)) = true) <| .cons (by kernel_rfl : AV.ptr q (0 + 0) = AV.ptr q (0 + 0)) <| .cons (by kernel_rfl : AV.sound (AV.ptr q (0 + 0)) = true) <| .cons (by kernel_rfl : AV.ptr q (0 + 0) = AV.ptr q (0 + 0)) <| .cons (by kernel_rfl : AV.sound (AV.int IntKind.u64 (Int.ofNat n_1)) = true) <| .cons H7 <| .cons (by kernel_rfl : AV.sound (AV.int IntKind.u64 (Int.ofNat n_1)) = true) <| .cons H1 <| .cons (by kernel_rfl : AV.sound (AV.int IntKind.i64 (Int.ofNat n_2)) = true) <| .cons H8 <| .cons (by kernel_rfl : AV.sound (AV.int IntKind.i64 (Int.ofNat n_2)) = true) <| .cons H2 <| .cons (by kernel_rfl : AV.sound (AV.ptr q (0 + 1)) = true) <| .cons (by kernel_rfl : AV.ptr q (0 + 1) = AV.ptr q (0 + 1)) <| .cons (by kernel_rfl : AV.sound (AV.ptr q (0 + 1)) = true) <| .cons (by kernel_rfl : AV.ptr q (0 + 1) = AV.ptr q (0 + 1)) <| .cons (by kernel_rfl : AV.sound (AV.str t_1) = true) <| .cons H9 <| .cons (by kernel_rfl : AV.sound (AV.str t_1) = true) <| .cons H3 <| .cons (by kernel_rfl : AV.sound AV.nilS = true) <| .cons (by kernel_rfl : AV.nilS = AV.nilS) <| .cons (by kernel_rfl : AV.sound (AV.slice b2 0 n2 k2) = true) <| .cons (by kernel_rfl : AV.slice b2 0 n2 k2 = AV.slice b2 0 n2 k2) <| .cons (by kernel_rfl : AV.sound (AV.slice b2 0 n2 k2) = true) <| .cons (by kernel_rfl : AV.slice b2 0 n2 k2 = AV.slice b2 0 n2 k2) <| .cons (by kernel_rfl : AV.sound (AV.ptr q (0 + 2)) = true) <| .cons (by kernel_rfl : AV.ptr q (0 + 2) = AV.ptr q (0 + 2)) <| .cons (by kernel_rfl : AV.sound (AV.ptr q (0 + 2)) = true) <| .cons (by kernel_rfl : AV.ptr q (0 + 2) = AV.ptr q (0 + 2)) <| .cons (by kernel_rfl : AV.sound (AV.int IntKind.u64 (Int.ofNat n_3)) = true) <| .cons H5 <| .cons (by kernel_rfl : AV.sound (AV.int IntKind.u64 (Int.ofNat n_3)) = true) <| .cons H10 <| .cons (by kernel_rfl : AV.sound (AV.agg [AV.int IntKind.i64 (Int.ofNat n_2), AV.str t_1, AV.nilS, AV.slice b2 0 n2 k2, AV.int IntKind.u64 (Int.ofNat n_3)]) = true) <| .cons (by kernel_rfl : AV.agg [AV.int IntKind.i64 (Int.ofNat n_2), AV.str t_1, AV.nilS, AV.slice b2 0 n2 k2, AV.int IntKind.u64 (Int.ofNat n_3)] = AV.agg [AV.int IntKind.i64 (Int.ofNat n_2), AV.str t_1, AV.nilS, AV.slice b2 0 n2 k2, AV.int IntKind.u64 (Int.ofNat n_3)]) <| .cons (by kernel_rfl : AV.sound (AV.int IntKind.i64 (Int.ofNat 0)) = true) <| .cons (by kernel_rfl : AV.int IntKind.i64 (Int.ofNat 0) = AV.int IntKind.i64 (Int.ofNat 0)) <| .nil
theorem a8nn (call : CallT → List AV → AHeap → FRes) (a q : Nat) (h g : AHeap) (n_1 n_2 : Nat) (t_1 : List UInt8) (n_3 : Nat) (g_1 : AHeap)
    (H1 : load1 (AHeap.room h 13) q (0 + 0) = some (.int .u64 (.ofNat n_1)))
    (H2 : evConvert Try.prog 52 29 (AV.int IntKind.u64 (Int.ofNat n_1)) (AHeap.room h 13) = OpRes.val (AV.int IntKind.i64 (Int.ofNat n_2)) (AHeap.room h 13))
    (H3 : load1 (AHeap.room h 13) q (0 + 1) = some (.str t_1))
    (H4 : call (.fn 75) [.nilS] (AHeap.room h 13) = FRes.ret .nilS g)
    (H5 : load1 g q (0 + 2) = some (.int .u64 (.ofNat n_3)))
    (H6 : AEv.storeCells g a 0 [.int .i64 (.ofNat n_2), .str t_1, .nilS, .nilS, .int .u64 (.ofNat n_3)] = some g_1)
    (H7 : load1 g q (0 + 0) = some (.int .u64 (.ofNat n_1)))
    (H8 : evConvert Try.prog 52 29 (AV.int IntKind.u64 (Int.ofNat n_1)) g = OpRes.val (AV.int IntKind.i64 (Int.ofNat n_2)) g)
    (H9 : load1 g q (0 + 1) = some (.str t_1))
    (H10 : load1 (AHeap.room h 13) q (0 + 2) = some (.int .u64 (.ofNat n_3))) :
    RunF Try.prog Try.f35 none call [1, 1, 1, 1, 1, 1, 1, 1] (SSt.mk [(2, .ptr a 0), (5, .ptr q 0), (6, .nilS), (8, .nilS)] [] .none h) (.ret)
      (SSt.mk [(2, .ptr a 0), (3, .int .i64 (.ofNat 0))] [] .none g_1) :=
  sxF_run [2, 3] (hs := [.v (.int .u64 (.ofNat n_1)), .v (.int .i64 (.ofNat n_2)), .v (.str t_1), .c .nilS g, .v (.int .u64 (.ofNat n_3)), .vh (.tup []) g_1]) (by kernel_rfl) <| .cons H1 <| .cons H2 <| .cons H3 <| .cons H4 <| .cons H5 <| .cons (⟨by kernel_rfl, H6, rfl⟩ : some 5 = some 5 ∧ AEv.storeCells g a 0 [AV.int IntKind.i64 (Int.ofNat n_2), AV.str t_1, AV.nilS, AV.nilS, AV.int IntKind.u64 (Int.ofNat n_3)] = some g_1 ∧ AV.tup [] = AV.tup []) <| .cons (by kernel_rfl : AV.sound (AV.ptr q (0 + 0)) = true) <| .cons (by kernel_rfl : AV.ptr q (0 + 0) = AV.ptr q (0 + 0)) <| .cons (by kernel_rfl : AV.sound (AV.ptr q (0 + 0)) = true) <| .cons (by kernel_rfl : AV.ptr q (0 + 0) = AV.ptr q (0 + 0)) <| .cons (by kernel_rfl : AV.sound (AV.int IntKind.u64 (Int.ofNat n_1)) = true) <| .cons H7 <| .cons (by kernel_rfl : AV.sound (AV.int IntKind.u64 (Int.ofNat n_1)) = true) <| .cons H1 <| .cons (by kernel_rfl : AV.sound (AV.int IntKind.i64 (Int.ofNat n_2)) = true) <| .cons H8 <| .cons (by kernel_rfl : AV.sound (AV.int IntKind.i64 (Int.ofNat n_2)) = true) <| .cons H2 <| .cons (by kernel_rfl : AV.sound (AV.ptr q (0 + 1)) = true) <| .cons (by kernel_rfl : AV.ptr q (0 + 1) = AV.ptr q (0 + 1)) <| .cons (by kernel_rfl : AV.sound (AV.ptr q (0 + 1)) = true) <| .cons (by kernel_rfl : AV.ptr q (0 + 1) = AV.ptr q (0 + 1)) <| .cons (by kernel_rfl : AV.sound (AV.str t_1) = true) <| .cons H9 <| .cons (by kernel_rfl : AV.sound (AV.str t_1) = true) <| .cons H3 <| .cons (by kernel_rfl : AV.sound AV.nilS = true) <| .cons (by kernel_rfl : AV.nilS = AV.nilS) <| .cons (by kernel_rfl : AV.sound AV.nilS = true) <| .cons (by kernel_rfl : AV.nilS = AV.nilS) <| .cons (by kernel_rfl : AV.sound AV.nilS = true) <| .cons (by kernel_rfl : AV.nilS = AV.nilS) <| .cons (by kernel_rfl : AV.sound (AV.ptr q (0 + 2)) = true) <| .cons (by kernel_rfl : AV.ptr q (0 + 2) = AV.ptr q (0 + 2)) <| .cons (by kernel_rfl : AV.sound (AV.ptr q (0 + 2)) = true) <| .cons (by kernel_rfl : AV.ptr q (0 + 2) = AV.ptr q (0 + 2)) <| .cons (by kernel_rfl : AV.sound (AV.int IntKind.u64 (Int.ofNat n_3)) = true) <| .cons H5 <| .cons (by kernel_rfl : AV.sound (AV.int IntKind.u64 (Int.ofNat n_3)) = true) <| .cons H10 <| .cons (by kernel_rfl : AV.sound (AV.agg [AV.int IntKind.i64 (Int.ofNat n_2), AV.str t_1, AV.nilS, AV.nilS, AV.int IntKind.u64 (Int.ofNat n_3)]) = true) <| .cons (by kernel_rfl : AV.agg [AV.int IntKind.i64 (Int.ofNat n_2), AV.str t_1, AV.nilS, AV.nilS, AV.int IntKind.u64 (Int.ofNat n_3)] = AV.agg [AV.int IntKind.i64 (Int.ofNat n_2), AV.str t_1, AV.nilS, AV.nilS, AV.int IntKind.u64 (Int.ofNat n_3)]) <| .cons (by kernel_rfl : AV.sound (AV.int IntKind.i64 (Int.ofNat 0)) = true) <| .cons (by kernel_rfl : AV.int IntKind.i64 (Int.ofNat 0) = AV.int IntKind.i64 (Int.ofNat 0)) <| .nil
theorem b0 (call : CallT → List AV → AHeap → FRes) (s : List UInt8) (h : AHeap) :
    RunF Try.prog Try.f36 none call [0] (SSt.mk [(0, .str s)] [] .none h) (.nrm)
      (SSt.mk [(0, .str s), (2, .ptr (AHeap.n h) 0)] [] .none (AHeap.push h (.cells [.int .i64 (.ofNat 0), .str [], .nilS, .nilS, .int .u64 (.ofNat 0)] 54 .own 0 0))) :=
  sxF_run [0, 2] (hs := []) (by kernel_rfl) <| .nil
theorem b1 (call : CallT → List AV → AHeap → FRes) (s : List UInt8) (a : Nat) (h : AHeap) :
    RunF Try.prog Try.f36 none call [1, 0] (SSt.mk [(0, .str s), (2, .ptr a 0)] [] .none h) (.nrm)
      (SSt.mk [(2, .ptr a 0), (4, .ptr (AHeap.n h) 0)] [] .none (AHeap.push h (.cells [.str s, .bool false] 78 .own 0 0))) :=
  sxF_run [2, 4] (hs := []) (by kernel_rfl) <| .nil
theorem b2 (call : CallT → List AV → AHeap → FRes) (a p : Nat) (h : AHeap) (n_1 : Nat) (g_1 : AHeap) (n_2 n_3 : Nat) (t_1 : List UInt8) (g_2 g_3 : AHeap)
    (H1 : call (.fn 60) [.ptr p 0] h = FRes.ret (.int .u64 (.ofNat n_1)) g_1)
    (H2 : foldA minA (AV.int IntKind.u64 (Int.ofNat n_1)) [AV.int IntKind.u64 (Int.ofNat 100)] = some (AV.int IntKind.u64 (Int.ofNat n_2)))
    (H3 : evConvert Try.prog 52 29 (AV.int IntKind.u64 (Int.ofNat n_2)) g_1 = OpRes.val (AV.int IntKind.i64 (Int.ofNat n_3)) g_1)
    (H4 : call (.fn 62) [.ptr p 0] g_1 = FRes.ret (.str t_1) g_2)
    (H5 : AEv.storeCells (AHeap.push g_2 (.cells [.int .i64 (.ofNat 0), .str [], .nilS, .nilS, .int .u64 (.ofNat 0)] 54 .own 0 0)) (AHeap.n g_2) 0 [.int .i64 (.ofNat n_3), .str t_1, .nilS, .nilS, .int .u64 (.ofNat 0)] = some g_3) :
    RunF Try.prog Try.f36 none call [1, 1, 0] (SSt.mk [(2, .ptr a 0), (4, .ptr p 0)] [] .none h) (.nrm)
      (SSt.mk [(2, .ptr a 0), (4, .ptr p 0), (5, .ptr (AHeap.n g_2) 0)] [] .none g_3) :=
  sxF_run [2, 4, 5] (hs := [.c (.int .u64 (.ofNat n_1)) g_1, .v (.int .u64 (.ofNat n_2)), .v (.int .i64 (.ofNat n_3)), .c (.str t_1) g_2, .vh (.tup []) g_3]) (by kernel_rfl) <| .cons H1 <| .cons H2 <| .cons H3 <| .cons H4 <| .cons (⟨by kernel_rfl, H5, rfl⟩ : some 5 = some 5 ∧ AEv.storeCells (AHeap.push g_2 (AObj.cells [AV.int IntKind.i64 (Int.ofNat 0), AV.str [], AV.nilS, AV.nilS, AV.int IntKind.u64 (Int.ofNat 0)] 54 BK.own 0 0)) (AHeap.n g_2) 0 [AV.int IntKind.i64 (Int.ofNat n_3), AV.str t_1, AV.nilS, AV.nilS, AV.int IntKind.u64 (Int.ofNat 0)] = some g_3 ∧ AV.tup [] = AV.tup []) <| .nil
theorem b3 (call : CallT → List AV → AHeap → FRes) (a p q : Nat) (h : AHeap) (n_1 : Nat) (g_1 : AHeap)
    (H1 : call (.fn 60) [.ptr p 0] h = FRes.ret (.int .u64 (.ofNat n_1)) g_1) :
    RunF Try.prog Try.f36 none call [1, 1, 1, 0] (SSt.mk [(2, .ptr a 0), (4, .ptr p 0), (5, .ptr q 0)] [] .none h) (.nrm)
      (SSt.mk [(2, .ptr a 0), (4, .ptr p 0), (5, .ptr q 0), (6, .int .u64 (.ofNat n_1))] [] .none g_1) :=
  sxF_run [2, 4, 5, 6] (hs := [.c (.int .u64 (.ofNat n_1)) g_1]) (by kernel_rfl) <| .cons H1 <| .nil
theorem b4 (call : CallT → List AV → AHeap → FRes) (a p q n : Nat) (h g : AHeap)
    (H1 : RunF Try.prog Try.f36 none call [1, 1, 1, 1, 0, 1, 0] (SSt.mk [(7, .int .u64 (.ofNat 0)), (2, .ptr a 0), (4, .ptr p 0), (5, .ptr q 0), (6, .int .u64 (.ofNat n))] [] .none h) (.exit 0) (SSt.mk [(2, .ptr a 0), (4, .ptr p 0), (5, .ptr q 0)] [] .none g)) :
    RunF Try.prog Try.f36 none call [1, 1, 1, 1, 0] (SSt.mk [(2, .ptr a 0), (4, .ptr p 0), (5, .ptr q 0), (6, .int .u64 (.ofNat n))] [] .none h) (.nrm)
      (SSt.mk [(2, .ptr a 0), (4, .ptr p 0), (5, .ptr q 0)] [] .none g) :=
  sxF_run [2, 4, 5] (hs := [Hint.loop (AEx.exit 0) (SSt.mk [(2, AV.ptr a 0), (4, AV.ptr p 0), (5, AV.ptr q 0)] [] Rc.none g)]) (by kernel_rfl) <| .cons H1 <| .nil
/-! ### msg.Answered -/
abbrev encS (s : List UInt8) : List AV := [.str s]
theorem strRow : RowTy Try.prog encS 1 9 38 where
  hu := by kernel_rfl
  hsrc := by kernel_rfl
  info := by
    obtain ⟨i, hi⟩ := Option.isSome_iff_exists.1 (show (Try.prog.info? 9).isSome = true by kernel_rfl)
    refine ⟨i, hi, ?_, ?_⟩
    · have : (Try.prog.info? 9).map (·.size) = some 1 := by kernel_rfl
      rw [hi] at this; simpa using this
    · have : (Try.prog.info? 9).map (fun i => Nat.ble i.bytes 1000) = some true := by kernel_rfl
      rw [hi] at this
      exact Nat.le_of_ble_eq_true (by simpa using this)
  zero := ⟨.str [], by kernel_rfl, rfl⟩
  size := by kernel_rfl
  len := fun _ => rfl
  cell := fun _ => rfl
  pos := by decide
/-- Own blocks are kept, but for one. -/
def OwnK (p : Nat) (h h' : AHeap) : Prop := h.n ≤ h'.n ∧ ∀ c cs el, c < h.n → c ≠ p → h.get c = some (.cells cs el .own 0 0) → h'.get c = some (.cells cs el .own 0 0)
theorem OwnK.refl (p : Nat) (h : AHeap) : OwnK p h h := ⟨Nat.le_refl _, fun _ _ _ _ _ h => h⟩
theorem OwnK.trans {p : Nat} {h h1 h2 : AHeap} (e : OwnK p h h1) (e' : OwnK p h1 h2) : OwnK p h h2 := ⟨Nat.le_trans e.1 e'.1, fun c cs el hc hp hg => e'.2 c cs el (Nat.lt_of_lt_of_le hc e.1) hp (e.2 c cs el hc hp hg)⟩
theorem OwnK.ofX {p : Nat} {h h' : AHeap} (e : ExtX p h.n h h') : OwnK p h h' := ⟨e.n, fun c cs el hc hp hg => (e.get c hc hp).trans hg⟩
theorem OwnK.of {p : Nat} {h h' : AHeap} (e : Ext h.n h h') : OwnK p h h' := OwnK.ofX (e.toX p)
section
variable {D : Type} {enc : D → List AV} {w : Nat} {el : TypeId}
theorem OwnK.app {B p : Nat} {h h' : AHeap} {v : AV} {ds : List D} (ho : OutG enc w el B h v ds) (hn : h.n ≤ h'.n) (hk : ∀ c, c < h.n → (∀ n cp, v ≠ .slice c 0 n cp) → h'.get c = h.get c) : OwnK p h h' :=
  ⟨hn, fun c cs el' hc _ hg => (hk c hc (ho.ne hg (.inl (by simp)))).trans hg⟩
theorem Rd.appG {B p : Nat} {h h' : AHeap} {v : AV} {ds : List D} {st : RdS} (hr : Rd h p st) (ho : OutG enc w el B h v ds) (hel : 5 ≠ el) (hn : h.n ≤ h'.n) (hk : ∀ c, c < h.n → (∀ n cp, v ≠ .slice c 0 n cp) → h'.get c = h.get c) : Rd h' p st := by
  cases st with
  | none => obtain ⟨h1, h2⟩ := hr; exact ⟨by omega, (hk p h1 (ho.ne h2 (.inl (by simp)))).trans h2⟩
  | some s =>
    obtain ⟨h1, h2, x, h3, h4⟩ := hr
    refine ⟨by omega, h2, x, (hk p h1 (ho.ne h3 (.inl (by simp)))).trans h3, ?_⟩
    rcases h4 with h4 | ⟨b, pre, q1, q2, q3, q4⟩
    · exact .inl h4
    · exact .inr ⟨b, pre, q1, by omega, q3, (hk b q2 (ho.ne q4 (.inr hel))).trans q4⟩
/-- A row of any capacity. -/
def RowK (enc : D → List AV) (w : Nat) (el : TypeId) (B : Nat) (h : AHeap) (v : AV) (ds : List D) : Prop :=
  (v = .nilS ∧ ds = []) ∨ ∃ p c, v = .slice p 0 ds.length c ∧ (0 < ds.length ∧ c ≠ .dead) ∧ h.get p = some (.cells (rowL enc ds) el .opn 0 0) ∧ B ≤ p ∧ p < h.n
theorem OutG.rowK {B : Nat} {h : AHeap} {v : AV} {ds : List D} (ho : OutG enc w el B h v ds) : RowK enc w el B h v ds := by
  rcases ho with ho | ⟨p, h1, h2, h3, h4, h5⟩
  · exact .inl ho
  · exact .inr ⟨p, _, h1, ⟨h2, by simp⟩, h3, h4, h5⟩
theorem RowK.setOwn {B : Nat} {h : AHeap} {v : AV} {ds : List D} (ho : RowK enc w el B h v ds) {c : Nat} {cs : List AV} {el' : Nat} {o : Option AObj} (hc : h.get c = some (.cells cs el' .own 0 0)) : RowK enc w el B (h.set c o) v ds := by
  rcases ho with ho | ⟨p, k, h1, h2, h3, h4, h5⟩
  · exact .inl ho
  · exact .inr ⟨p, k, h1, h2, gother (fun e => by subst e; rw [hc] at h3; cases h3) h3, h4, by simpa using h5⟩
theorem RowK.mono {B B' : Nat} {h h' : AHeap} {v : AV} {ds : List D} (ho : RowK enc w el B h v ds) (e : Ext B' h h') (hB : h.n ≤ B') : RowK enc w el B h' v ds := by
  rcases ho with ho | ⟨p, k, h1, h2, h3, h4, h5⟩
  · exact .inl ho
  · exact .inr ⟨p, k, h1, h2, (e.get p (by omega)).trans h3, h4, Nat.lt_of_lt_of_le h5 e.n⟩
theorem RowK.monoX {B B' p : Nat} {h h' : AHeap} {v : AV} {ds : List D} (ho : RowK enc w el B h v ds) {cs : List AV} {el' : Nat} (hp : h.get p = some (.cells cs el' .own 0 0)) (e : ExtX p B' h h') (hB : h.n ≤ B') : RowK enc w el B h' v ds := by
  rcases ho with ho | ⟨q, k, h1, h2, h3, h4, h5⟩
  · exact .inl ho
  · exact .inr ⟨q, k, h1, h2, (e.get q (by omega) (fun e => by subst e; rw [hp] at h3; cases h3)).trans h3, h4, Nat.lt_of_lt_of_le h5 e.n⟩
end
inductive ReadsT : Nat → RdS → List (List UInt8) → RdS → Prop
  | nil (st : RdS) : ReadsT 0 st [] st
  | bad (n : Nat) : ReadsT (n + 1) none [] none
  | cons {n : Nat} {s : List UInt8} {l : List (List UInt8)} {st : RdS} (h : ReadsT n (textS (some s)).2 l st) : ReadsT (n + 1) (some s) ((textS (some s)).1 :: l) st
theorem readsT_uniq : ∀ {n : Nat} {st st1 st2 : RdS} {l1 l2 : List (List UInt8)}, ReadsT n st l1 st1 → ReadsT n st l2 st2 → l1 = l2 ∧ st1 = st2 := by
  intro n st st1 st2 l1 l2 h
  induction h generalizing l2 st2 with
  | nil st => intro h2; cases h2; exact ⟨rfl, rfl⟩
  | bad n => intro h2; cases h2; exact ⟨rfl, rfl⟩
  | cons h ih =>
    intro h2
    cases h2 with
    | cons h2 =>
      obtain ⟨h3, h4⟩ := ih h2
      exact ⟨by rw [h3], h4⟩
theorem textS_msr (u : List UInt8) : msr (textS (some u)).2 + 1 ≤ msr (some u) := by
  have h1 := cutS_len (numS (some u)).1 (numS (some u)).2
  rcases numS_less u with h | h
  · cases hx : (textS (some u)).2 with
    | none => show 1 + 1 ≤ u.length + 2; omega
    | some v =>
      have h2 : (left (textS (some u)).2).length ≤ (left (numS (some u)).2).length := h1.1
      rw [hx] at h2
      have h3 : v.length ≤ (left (numS (some u)).2).length := h2
      show v.length + 2 + 1 ≤ u.length + 2
      omega
  · have : (textS (some u)).2 = none := by
      show (cutS (numS (some u)).1 (numS (some u)).2).2 = none
      rw [h]; rfl
    rw [this]; show 1 + 1 ≤ u.length + 2; omega
theorem readsT_len {n : Nat} {st st' : RdS} {l : List (List UInt8)} (h : ReadsT n st l st') : l.length + 1 ≤ msr st := by
  induction h with
  | nil st => exact msr_pos st
  | bad n => exact Nat.le_refl _
  | cons h ih => rename_i n s l st; have := textS_msr s; rw [List.length_cons]; omega
theorem al_loop (m p a q B : Nat) : ∀ (k n : Nat) (st : RdS) (w : AV) (ps : List (List UInt8)) (h : AHeap), msr st ≤ k → k + ps.length ≤ 90001 → n < 18446744073709551616 → Rd h p st → OutG encS 1 9 B h w ps → B ≤ p → B ≤ h.n →
    ∃ ps' st' w' h', ReadsT n st ps' st' ∧ Rd h' p st' ∧ OutG encS 1 9 B h' w' (ps ++ ps') ∧ Ext B h h' ∧ OwnK p h h' ∧ LoopF Try.prog Try.f35 none (C (m + 7)) [1, 1, 1, 1, 0, 1, 0] (k + 1) ⟨[(2, .ptr a 0), (4, .ptr p 0), (5, .ptr q 0), (6, w), (7, .int .u64 (Int.ofNat n))], [], .none, h⟩ (.exit 0) ⟨[(2, .ptr a 0), (4, .ptr p 0), (5, .ptr q 0), (6, w')], [], .none, h'⟩
  | 0, n, st, w, ps, h, hq, hds, hn, hr, ho, hB, hBh => by have := msr_pos st; omega
  | k + 1, n, st, w, ps, h, hq, hds, hn, hr, ho, hB, hBh => by
    by_cases h0 : n = 0
    · subst h0
      exact ⟨[], st, w, h, .nil st, hr, by simpa using ho, Ext.refl _ _, OwnK.refl _ _, .exit (RunP.post (al_3 _ _ _ _ _ _ (.nilS) _ ((emptyHeap 0)) (lt_f (by omega))) ⟨rfl, rfl, rfl, rfl, trivial⟩) (by simp)⟩
    · obtain ⟨n, rfl⟩ : ∃ j, n = j + 1 := ⟨n - 1, by omega⟩
      have hk := ok_c (m + 6) p st h hr
      cases st with
      | none => exact ⟨[], none, w, h, .bad n, hr, by simpa using ho, Ext.refl _ _, OwnK.refl _ _, .exit (RunP.post (al_2 _ _ _ _ _ _ (.nilS) _ ((emptyHeap 0)) _ _ (lt_t (by omega)) (hk) (rfl)) ⟨rfl, rfl, rfl, rfl, trivial⟩) (by simp)⟩
      | some u =>
        obtain ⟨cs0, hcs0⟩ := hr.cells
        obtain ⟨g1, c1, x1, r1⟩ := text_c (m + 1) p (some u) h hr
        have o3 := ho.monoX hcs0 x1 (Nat.le_refl _)
        have y : Ext g1.n g1 (g1.push (.cells (encS (textS (some u)).1) 9 .own 0 0)) := exA
        have o4 := o3.mono y (Nat.le_refl _)
        have r4 := r1.mono y (Nat.le_refl _)
        have hBn : B ≤ g1.n := by have := x1.n; omega
        obtain ⟨w2, g4, a4, o5, x5, n5, k5⟩ := appG strRow (es := [(textS (some u)).1]) o4 (by simp; omega) (oneG strRow g1 9 _) (by simp; omega)
        have r5 := r4.appG o4 (by decide) n5 k5
        have ow : OwnK p h g4 := ((OwnK.ofX x1).trans (OwnK.of y)).trans (OwnK.app o4 n5 k5)
        have hlt := textS_msr u
        obtain ⟨ps', st', w', h', q1, q2, q3, q4, q5, q6⟩ := al_loop m p a q B k n _ w2 _ g4 (by omega) (by simp; omega) (by omega) r5 o5 hB (Nat.le_trans hBn (Nat.le_trans (by simp) n5))
        have st1 : RunF Try.prog Try.f35 none (C (m + 7)) [1, 1, 1, 1, 0, 1, 0, 0] ⟨[(2, .ptr a 0), (4, .ptr p 0), (5, .ptr q 0), (6, w), (7, .int .u64 (Int.ofNat (n + 1)))], [], .none, h⟩ .nrm ⟨[(2, .ptr a 0), (4, .ptr p 0), (5, .ptr q 0), (6, w2), (7, .int .u64 (Int.ofNat n))], [], .none, g4⟩ :=
          (al_1 _ _ _ _ _ _ _ _ _ _ _ _ _ _ (lt_t (by omega)) (hk) (rfl) (c1) (a4) ((subU (i := n + 1) (j := 1) (by omega) hn)))
        have xe : Ext B h g4 := by
          have x0 : Ext B h g1 := ⟨x1.n, fun b hb => x1.get b (by omega) (by omega)⟩
          exact (x0.trans hBn y).trans (Nat.le_refl _) x5
        refine ⟨_, st', w', h', .cons q1, q2, by simpa using q3, xe.trans (Nat.le_refl _) q4, ow.trans q5, .step st1 q6⟩
theorem clip_c (m B : Nat) (v : AV) (ps : List (List UInt8)) (h : AHeap) (ho : OutG encS 1 9 B h v ps) : ∃ v', C (m + 1) (.fn 75) [v] h = .ret v' h ∧ RowK encS 1 9 B h v' ps ∧ ((v = .nilS ∧ v' = .nilS) ∨ ∃ p n c c', v = .slice p 0 n c ∧ v' = .slice p 0 n c') := by
  have hu : Try.prog.underlying 38 = some (.slice 9) := by kernel_rfl
  have hs : sizeT Try.prog 9 = some 1 := by kernel_rfl
  rcases ho with ⟨rfl, rfl⟩ | ⟨p, rfl, h2, h3, h4, h5⟩
  · exact ⟨.nilS, fn_runF (intr := Ii) (n := m) (args := [.nilS]) Try.func75 (by kernel_rfl) rfl (by kernel_rfl) (cppn _ _ ((by simp only [sliceA, hu, hs]; rfl))) (.inl rfl) (by kernel_rfl), .inl ⟨rfl, rfl⟩, .inl ⟨rfl, rfl⟩⟩
  · have hb1 : Nat.ble ps.length ps.length = true := by simp
    have hb2 : Nat.ble 0 ps.length = true := by simp
    exact ⟨.slice p 0 ps.length (.exact ps.length), fn_runF (intr := Ii) (n := m) (args := [.slice p 0 ps.length (.opn 1)]) Try.func75 (by kernel_rfl) rfl (by kernel_rfl) (cpp _ _ _ _ _ (.exact ps.length) _ ((by simp only [sliceA, hu, hs, bounds, optN, asN, hb1, hb2]; simp))) (.inl rfl) (by kernel_rfl), .inr ⟨p, _, rfl, ⟨h2, by simp⟩, h3, h4, h5⟩, .inr ⟨p, _, _, _, rfl, rfl⟩⟩
theorem a8_any (m a q : Nat) (wp wp' wd : AV) (c num : Nat) (t : List UInt8) (h : AHeap) (hp : (wp = .nilS ∧ wp' = .nilS) ∨ ∃ p n c c', wp = .slice p 0 n c ∧ wp' = .slice p 0 n c') (hd : wd = .nilS ∨ ∃ p n c, wd = .slice p 0 n c) (hc : c ≤ 14)
    (hq : h.get q = some (.cells [.int .u64 (Int.ofNat c), .str t, .int .u64 (Int.ofNat num)] 94 .own 0 0)) (ha : h.get a = some (.cells [.int .i64 (Int.ofNat 0), .str [], .nilS, .nilS, .int .u64 (Int.ofNat 0)] 54 .own 0 0)) (cc : C (m + 7) (.fn 75) [wp] (h.room 13) = .ret wp' (h.room 13)) :
    RunF Try.prog Try.f35 none (C (m + 7)) [1, 1, 1, 1, 1, 1, 1, 1] ⟨[(2, .ptr a 0), (5, .ptr q 0), (6, wp), (8, wd)], [], .none, h⟩ .ret ⟨[(2, .ptr a 0), (3, .int .i64 (Int.ofNat 0))], [], .none, (h.room 13).set a (some (.cells [.int .i64 (Int.ofNat c), .str t, wp', wd, .int .u64 (Int.ofNat num)] 54 .own 0 0))⟩ := by
  have cv : ∀ g : AHeap, evConvert Try.prog 52 29 (.int .u64 (Int.ofNat c)) g = .val (.int .i64 (Int.ofNat c)) g := fun g => conv_int u64t (by kernel_rfl) (wrap_nat c (by omega))
  rcases hp with ⟨rfl, rfl⟩ | ⟨p1, n1, c1, c1', rfl, rfl⟩ <;> rcases hd with rfl | ⟨p2, n2, c2, rfl⟩
  · exact (a8nn _ _ _ _ _ _ _ _ _ _ (ld1A rfl) (cv _) (ld1A rfl) (cc) (ld1A rfl) (stcA rfl rfl) (ld1A rfl) (cv _) (ld1A rfl) (ld1A rfl))
  · exact (a8ns _ _ _ _ _ _ _ _ _ _ _ _ _ (ld1A rfl) (cv _) (ld1A rfl) (cc) (ld1A rfl) (stcA rfl rfl) (ld1A rfl) (cv _) (ld1A rfl) (ld1A rfl))
  · exact (a8sn _ _ _ _ _ _ _ _ _ _ _ _ _ _ (ld1A rfl) (cv _) (ld1A rfl) (cc) (ld1A rfl) (stcA rfl rfl) (ld1A rfl) (cv _) (ld1A rfl) (ld1A rfl))
  · exact (a8ss _ _ _ _ _ _ _ _ _ _ _ _ _ _ _ _ _ (ld1A rfl) (cv _) (ld1A rfl) (cc) (ld1A rfl) (stcA rfl rfl) (ld1A rfl) (cv _) (ld1A rfl) (ld1A rfl))
def anCode (s : List UInt8) : Nat := (numS (some s)).1
def anText (s : List UInt8) : List UInt8 := (textS (numS (some s)).2).1
def anS2 (s : List UInt8) : RdS := (textS (numS (some s)).2).2
def anN (s : List UInt8) : Nat := (numS (anS2 s)).1
def anS3 (s : List UInt8) : RdS := (numS (anS2 s)).2
def anOK (s : List UInt8) (st4 : RdS) : Prop := (∃ l, Good (textS st4).1 l) ∧ endS (numS (textS st4).2).2 = true ∧ anCode s ≤ 14
/-- What is answered about bytes. -/
def RspQ (B : Nat) (h : AHeap) (s : List UInt8) (vs : List AV) (e : Nat) : Prop := ∃ ps st4, ReadsT (anN s) (anS3 s) ps st4 ∧
  ((∃ l wp wd, Good (textS st4).1 l ∧ endS (numS (textS st4).2).2 = true ∧ anCode s ≤ 14 ∧ e = 0 ∧ vs = [.int .i64 (Int.ofNat (anCode s)), .str (anText s), wp, wd, .int .u64 (Int.ofNat (numS (textS st4).2).1)] ∧ RowK encS 1 9 B h wp ps ∧ RowK encD 3 35 B h wd l ∧ l.length < 80000 ∧ ps.length < 80000)
  ∨ (¬ anOK s st4 ∧ e = 4 ∧ vs = [.int .i64 (Int.ofNat 0), .str [], .nilS, .nilS, .int .u64 (Int.ofNat 0)]))
end Go.Proofs.Wire
