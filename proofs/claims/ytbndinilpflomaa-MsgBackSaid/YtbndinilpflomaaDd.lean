/-
  PROVED HERE: contracts of functions (Dd). No condition beside each statement's own.
-/
import Derived.Test.YtbndinilpflomaaDc
import Derived.Test.YtbndinilpflomaaAed
import Derived.Deep.Strs
import Derived.DataReads
set_option linter.unusedVariables false
set_option linter.unusedSimpArgs false
namespace Go.Proofs.Wire
open Go AEv Go.Proofs Go.Proofs.Enc
set_option maxRecDepth 100000
set_option maxHeartbeats 400000

theorem hs (call : CallT → List AV → AHeap → FRes) (v : AV) (a : List UInt8) (x x2 : Int) (t : Bool) (h g : AHeap)
    (H1 : RunF Try.prog Try.f25 none call [1, 0, 1, 0] (SSt.mk [(5, .int .i64 (.ofNat 0)), (4, .bool false), (3, .ptr (AHeap.n h) 0), (0, v), (1, .agg [.str a, .int .i64 x, .int .i64 x2])] [] .none (AHeap.push h (.cells [.str a, .int .i64 x, .int .i64 x2] 35 .own 0 0))) (.exit 0) (SSt.mk [] [] .none g)) :
    RunF Try.prog Try.f25 none call [] (SSt.mk [(0, v), (1, .agg [.str a, .int .i64 x, .int .i64 x2])] [] .none h) (.ret)
      (SSt.mk [(4, .bool false)] [] .none g) :=
  sxF_run [4] (hs := [Hint.loop (AEx.exit 0) (SSt.mk [] [] Rc.none g)]) (by kernel_rfl) <| .cons H1 <| .nil
theorem hsz (call : CallT → List AV → AHeap → FRes) (h : AHeap) :
    RunF Try.prog Try.f25 none call [1, 0, 1, 0, 0] (SSt.mk [(0, .nilS), (5, .int .i64 (.ofNat 0))] [] .none h) (.exit 0)
      (SSt.mk [] [] .none h) :=
  sxF_run [] (hs := [.b false]) (by kernel_rfl) <| .cons (by kernel_rfl : ltI (Int.ofNat 0) (Int.ofNat 0) = false) <| .nil
theorem m2 (call : CallT → List AV → AHeap → FRes) (v : AV) (u : Nat) (h : AHeap)
    (H1 : call (.fn 21) [] h = FRes.ret (.bool true) h) :
    RunF Try.prog Try.f6 none call [1, 0] (SSt.mk [(0, v), (1, .int .u8 (.ofNat u))] [] .none h) (.nrm)
      (SSt.mk [(0, v), (1, .int .u8 (.ofNat u))] [] .none h) :=
  sxF_run [0, 1] (hs := [.c (.bool true) h, .b false]) (by kernel_rfl) <| .cons H1 <| .cons (by kernel_rfl : (!true) = false) <| .nil
theorem m3 (call : CallT → List AV → AHeap → FRes) (b o n u m : Nat) (c c2 : Cap) (h : AHeap)
    (H1 : foldA minA (AV.int IntKind.i64 (Int.ofNat n)) [AV.int IntKind.i64 (Int.ofNat 200)] = some (AV.int IntKind.i64 (Int.ofNat m)))
    (H2 : sliceA Try.prog h 22 (AV.slice b o n c) none (some (AV.int IntKind.i64 (Int.ofNat m))) none = some (AV.slice b o m c2)) :
    RunF Try.prog Try.f6 none call [1, 1, 0] (SSt.mk [(0, .slice b o n c), (1, .int .u8 (.ofNat u))] [] .none h) (.nrm)
      (SSt.mk [(0, .slice b o m c2), (1, .int .u8 (.ofNat u))] [] .none h) :=
  sxF_run [0, 1] (hs := [.v (.int .i64 (.ofNat m)), .v (.slice b o m c2)]) (by kernel_rfl) <| .cons H1 <| .cons H2 <| .nil
theorem m4 (call : CallT → List AV → AHeap → FRes) (v w : AV) (u : Nat) (h g : AHeap)
    (H1 : call (.fn 15) [v] h = FRes.ret w g) :
    RunF Try.prog Try.f6 none call [1, 1, 1, 0] (SSt.mk [(0, v), (1, .int .u8 (.ofNat u))] [] .none h) (.nrm)
      (SSt.mk [(0, v), (1, .int .u8 (.ofNat u)), (5, w)] [] .none g) :=
  sxF_run [0, 1, 5] (hs := [.c w g]) (by kernel_rfl) <| .cons H1 <| .nil
theorem m5 (call : CallT → List AV → AHeap → FRes) (v w : AV) (u : Nat) (h g : AHeap)
    (H1 : RunF Try.prog Try.f6 none call [1, 1, 1, 1, 0, 1, 0] (SSt.mk [(6, .int .i64 (.ofNat 0)), (0, v), (1, .int .u8 (.ofNat u)), (5, w)] [] .none h) (.exit 0) (SSt.mk [(0, v), (1, .int .u8 (.ofNat u)), (5, w)] [] .none g)) :
    RunF Try.prog Try.f6 none call [1, 1, 1, 1, 0] (SSt.mk [(0, v), (1, .int .u8 (.ofNat u)), (5, w)] [] .none h) (.nrm)
      (SSt.mk [(0, v), (1, .int .u8 (.ofNat u)), (5, w)] [] .none g) :=
  sxF_run [0, 1, 5] (hs := [Hint.loop (AEx.exit 0) (SSt.mk [(0, v), (1, AV.int IntKind.u8 (Int.ofNat u)), (5, w)] [] Rc.none g)]) (by kernel_rfl) <| .cons H1 <| .nil
theorem m6 (call : CallT → List AV → AHeap → FRes) (v w : AV) (u : Nat) (h g : AHeap)
    (H1 : RunF Try.prog Try.f6 none call [1, 1, 1, 1, 1, 0, 1, 0] (SSt.mk [(9, .int .i64 (.ofNat 0)), (0, v), (1, .int .u8 (.ofNat u)), (5, w)] [] .none h) (.exit 2) (SSt.mk [(0, v), (1, .int .u8 (.ofNat u)), (5, w)] [] .none g)) :
    RunF Try.prog Try.f6 none call [1, 1, 1, 1, 1, 0] (SSt.mk [(0, v), (1, .int .u8 (.ofNat u)), (5, w)] [] .none h) (.nrm)
      (SSt.mk [(0, v), (1, .int .u8 (.ofNat u)), (5, w)] [] .none g) :=
  sxF_run [0, 1, 5] (hs := [Hint.loop (AEx.exit 2) (SSt.mk [(0, v), (1, AV.int IntKind.u8 (Int.ofNat u)), (5, w)] [] Rc.none g)]) (by kernel_rfl) <| .cons H1 <| .nil
theorem m7 (call : CallT → List AV → AHeap → FRes) (v w : AV) (u : Nat) (h : AHeap) :
    RunF Try.prog Try.f6 none call [1, 1, 1, 1, 1, 1, 0] (SSt.mk [(0, v), (1, .int .u8 (.ofNat u)), (5, w)] [] .none h) (.nrm)
      (SSt.mk [(0, v), (1, .int .u8 (.ofNat u)), (5, w), (11, .int .i64 (.ofNat 0))] [] .none h) :=
  sxF_run [0, 1, 5, 11] (hs := []) (by kernel_rfl) <| .nil
theorem m9 (call : CallT → List AV → AHeap → FRes) (b o n k n2 o2 : Nat) (c c2 : Cap) (w v1 v2 w1 w2 : AV) (s : List UInt8) (h h1 h2 g1 g2 g3 g4 g5 g6 : AHeap)
    (H1 : sliceA Try.prog h 22 (AV.slice b o n c) (some (AV.int IntKind.i64 (Int.ofNat k))) none none = some (AV.slice b o2 n2 c2))
    (H2 : appendA Try.prog h 22 (some 22) AV.nilS (AV.slice b o2 n2 c2) = some (v1, h1))
    (H3 : appendA Try.prog h1 22 (some 22) v1 (AV.slice b o n c) = some (v2, h2))
    (H4 : call (.fn 15) [v2] h2 = FRes.ret w1 g1)
    (H5 : call (.fn 24) [w1, w] g1 = FRes.ret (.bool true) g2)
    (H6 : call (.fn 15) [w] g2 = FRes.ret w2 g3)
    (H7 : call (.fn 24) [w2, w] g3 = FRes.ret (.bool true) g4)
    (H8 : call (.fn 17) [v2] g4 = FRes.ret (.str s) g5)
    (H9 : call (.fn 17) [.slice b o n c] g5 = FRes.ret (.str s) g6) :
    RunF Try.prog Try.f6 none call [1, 1, 1, 1, 1, 1, 1, 1] (SSt.mk [(0, .slice b o n c), (5, w), (11, .int .i64 (.ofNat k))] [] .none h) (.ret)
      (SSt.mk [(4, .bool (beqBytes s s))] [] .none g6) :=
  sxF_run [4] (hs := [.v (.slice b o2 n2 c2), .vh v1 h1, .vh v2 h2, .c w1 g1, .c (.bool true) g2, .b true, .b true, .c w2 g3, .b true, .b true, .c (.bool true) g4, .b true, .b true, .b true, .c (.str s) g5, .b true, .b true, .c (.str s) g6, .b true, .b true]) (by kernel_rfl) <| .cons H1 <| .cons H2 <| .cons H3 <| .cons H4 <| .cons H5 <| .cons (by kernel_rfl : true = true) <| .cons (by kernel_rfl : true = true) <| .cons H6 <| .cons (by kernel_rfl : true = true) <| .cons (by kernel_rfl : true = true) <| .cons H7 <| .cons (by kernel_rfl : true = true) <| .cons (by kernel_rfl : true = true) <| .cons (by kernel_rfl : true = true) <| .cons H8 <| .cons (by kernel_rfl : true = true) <| .cons (by kernel_rfl : true = true) <| .cons H9 <| .cons (by kernel_rfl : true = true) <| .cons (by kernel_rfl : true = true) <| .nil
theorem m1 (call : CallT → List AV → AHeap → FRes) (v : AV) (u : Nat) (h : AHeap) :
    RunF Try.prog Try.f6 none call [0] (SSt.mk [(0, v), (1, .int .u8 (.ofNat u))] [] .none h) (.nrm)
      (SSt.mk [(0, v), (1, .int .u8 (.ofNat u))] [] .none h) :=
  sxF_run [0, 1] (hs := []) (by kernel_rfl) <| .nil

/-! ### Lists that are read -/
def RowR (h : AHeap) (v : AV) (ds : List Dg) : Prop :=
  (v = .nilS ∧ ds = []) ∨ ∃ b c, v = .slice b 0 ds.length c ∧ (0 < ds.length → b < h.n) ∧ ∀ i (hi : i < ds.length), AEv.loadCells h b (0 + i * 3) 3 = some (encD ds[i])
theorem RowIn.mono {B : Nat} {h h' : AHeap} {v : AV} {ds : List Dg} (hr : RowIn h v ds) (e : Ext B h h') (hB : h.n ≤ B) : RowIn h' v ds := by
  rcases hr with hr | ⟨b, off, c, hv, hb, hs⟩
  · exact .inl hr
  · exact .inr ⟨b, off, c, hv, Nat.lt_of_lt_of_le hb e.n, fun h2 h3 => hs h2 (h3.trans (e.get b (by omega)))⟩

end Go.Proofs.Wire

namespace Go.Proofs.Wire
open Go AEv Go.Proofs Go.Proofs.Enc
set_option maxRecDepth 100000
set_option maxHeartbeats 3000000

/-! ### DiagOrder: its loops -/
end Go.Proofs.Wire

namespace Go.Proofs.Wire
open Go AEv Go.Proofs Go.Proofs.Enc
set_option maxRecDepth 100000
set_option maxHeartbeats 1000000

/-! ### Appending lists -/
theorem dg_info : ∃ i, Try.prog.info? 35 = some i ∧ i.size = 3 ∧ i.bytes = 32 := by
  obtain ⟨i, hi⟩ := Option.isSome_iff_exists.1 (show (Try.prog.info? 35).isSome = true by kernel_rfl)
  refine ⟨i, hi, ?_, ?_⟩
  · have : (Try.prog.info? 35).map (·.size) = some 3 := by kernel_rfl
    rw [hi] at this; simpa using this
  · have : (Try.prog.info? 35).map (·.bytes) = some 32 := by kernel_rfl
    rw [hi] at this; simpa using this
theorem dg_zero : ∃ z, zeroT Try.prog 35 = some z ∧ z.cells.length = 3 := by
  obtain ⟨z, hz⟩ := Option.isSome_iff_exists.1 (show (zeroT Try.prog 35).isSome = true by kernel_rfl)
  refine ⟨z, hz, ?_⟩
  have : (zeroT Try.prog 35).map (fun z => z.cells.length) = some 3 := by kernel_rfl
  rw [hz] at this; simpa using this
theorem dg_src : srcOK Try.prog (some 22) = true := by kernel_rfl
theorem app_new {h : AHeap} {src : AV} {es : List Dg} (hs : srcCells h 3 src = some (es.length, rowL encD es)) (h0 : 0 < es.length) (hl : es.length ≤ 1000000) : appendA Try.prog h 22 (some 22) .nilS src = some (.slice h.n 0 es.length (.opn 3), h.push (.cells (rowL encD es) 35 .opn 0 0)) := by
  obtain ⟨i, hi, hsz, hby⟩ := dg_info
  obtain ⟨z, hz, hzc⟩ := dg_zero
  obtain ⟨k, hk⟩ : ∃ k, es.length = k + 1 := ⟨es.length - 1, by omega⟩
  have hgr : growA h 35 32 3 (k + 1) z (rowL encD es) 0 = some (.slice h.n 0 (k + 1) (.opn 3), h.push (.cells (rowL encD es) 35 .opn 0 0)) :=
    growA_ok (by unfold roomOK; simp; omega) (by rw [hzc]; rfl) (row_cells encD_cell es)
  rw [hk] at hs ⊢
  simp only [appendA, dgst, dg_src, hi, hz, hsz, hby, hs, hgr]
theorem app_more {h : AHeap} {src : AV} {p : Nat} {ds es : List Dg} (hg : h.get p = some (.cells (rowL encD ds) 35 .opn 0 0)) (hs : srcCells h 3 src = some (es.length, rowL encD es)) (h0 : 0 < es.length) (hl : ds.length + es.length ≤ 1000000) :
    appendA Try.prog h 22 (some 22) (.slice p 0 ds.length (.opn 3)) src = some (.slice h.n 0 (ds.length + es.length) (.opn 3), (h.set p none).push (.cells (rowL encD (ds ++ es)) 35 .opn 0 0)) := by
  obtain ⟨i, hi, hsz, hby⟩ := dg_info
  obtain ⟨z, hz, hzc⟩ := dg_zero
  obtain ⟨k, hk⟩ : ∃ k, es.length = k + 1 := ⟨es.length - 1, by omega⟩
  have hgr : growA (h.set p none) 35 32 3 (ds.length + (k + 1)) z (rowL encD ds ++ rowL encD es) (0 - 0) = some (.slice (h.set p none).n 0 (ds.length + (k + 1)) (.opn 3), (h.set p none).push (.cells (rowL encD ds ++ rowL encD es) 35 .opn 0 0)) :=
    growA_ok (by unfold roomOK; simp; omega) (by rw [hzc]; rfl) (by rw [List.all_append, row_cells encD_cell, row_cells encD_cell]; rfl)
  have hb1 : (Nat.beq 3 3 && Nat.blt 0 3) = true := rfl
  have hlen := rowL_len encD_len ds
  have hble : Nat.ble (0 + (ds.length + (k + 1)) * 3) (rowL encD ds).length = false := by
    cases hx : Nat.ble (0 + (ds.length + (k + 1)) * 3) (rowL encD ds).length with
    | false => rfl
    | true => have := Nat.le_of_ble_eq_true hx; rw [hlen] at this; omega
  have hcond : (Nat.ble 0 (0 + ds.length * 3) && Nat.beq 35 35) = true := by simp
  have hld : AEv.loadCells h p 0 (ds.length * 3) = some (rowL encD ds) := by
    have := load_row (h := h) (xs := rowL encD ds) (rest := []) (by rw [List.append_nil]; exact hg)
    rwa [hlen] at this
  rw [hk] at hs ⊢
  rw [rowL_app]
  simp only [appendA, dgst, dg_src, hi, hz, hsz, hby, hs, hb1, hg, hble, hcond, hld, hgr]
  rfl
/-- A piece of a row. -/
theorem row_cut {h : AHeap} {b el lo up : Nat} {k : BK} {ds : List Dg} {rest : List AV} (hg : h.get b = some (.cells (rowL encD ds ++ rest) el k lo up)) {o len : Nat} (ho : o + len ≤ ds.length) : AEv.loadCells h b (o * 3) (len * 3) = some (rowL encD ((ds.drop o).take len)) := by
  have e : rowL encD ds ++ rest = rowL encD (ds.take o) ++ (rowL encD ((ds.drop o).take len) ++ (rowL encD ((ds.drop o).drop len) ++ rest)) := by
    rw [← List.append_assoc (rowL encD ((ds.drop o).take len)), ← rowL_app, List.take_append_drop, ← List.append_assoc, ← rowL_app, List.take_append_drop]
  have hl : (rowL encD (ds.take o)).length = o * 3 := by rw [rowL_len encD_len, List.length_take, Nat.min_eq_left (by omega)]
  have hl2 : (rowL encD ((ds.drop o).take len)).length = len * 3 := by rw [rowL_len encD_len, List.length_take, List.length_drop, Nat.min_eq_left (by omega)]
  simp only [AEv.loadCells, hg, e]
  rw [← hl, dropN_app]
  exact takeN_app' _ _ _ hl2

/-! ### DiagOrder -/
end Go.Proofs.Wire

namespace Go.Proofs.Wire
open Go AEv Go.Proofs Go.Proofs.Enc Go.Sort Go.Shelf
set_option maxRecDepth 100000

/-! ### What is known of itself is so -/
def sortRen : Go.Shelf.Ren := ⟨fun | 6 => 46 | 14 => 77 | 15 => 78 | 20 => 92 | 21 => 93 | 22 => 94 | 23 => 95 | 24 => 96 | 25 => 97 | 26 => 98 | 27 => 99 | 28 => 100 | 29 => 101 | 46 => 105 | 47 => 106 | 48 => 107 | 49 => 108 | 50 => 109 | 57 => 111 | n => n, fun | 0 => 0 | 3 => 3 | 4 => 4 | 5 => 5 | 9 => 9 | 22 => 22 | 24 => 35 | 25 => 66 | 39 => 99 | 45 => 118 | 46 => 119 | 50 => 123 | 53 => 126 | 55 => 52 | 66 => 133 | 70 => 136 | 76 => 139 | 77 => 140 | n => n, fun n => n⟩
theorem sortLays : SlLaysF0.n6 Try.prog sortRen where
  mixed := by kernel_rfl
  f6 := ⟨Try.f46.name, by decide, Try.func46.trans (congrArg some (by kernel_rfl))⟩
  f14 := ⟨Try.f77.name, by decide, Try.func77.trans (congrArg some (by kernel_rfl))⟩
  f15 := Try.func78.trans (congrArg some (by kernel_rfl))
  f20 := ⟨Try.f92.name, by decide, Try.func92.trans (congrArg some (by kernel_rfl))⟩
  f21 := ⟨Try.f93.name, by decide, Try.func93.trans (congrArg some (by kernel_rfl))⟩
  f22 := ⟨Try.f94.name, by decide, Try.func94.trans (congrArg some (by kernel_rfl))⟩
  f23 := ⟨Try.f95.name, by decide, Try.func95.trans (congrArg some (by kernel_rfl))⟩
  f24 := ⟨Try.f96.name, by decide, Try.func96.trans (congrArg some (by kernel_rfl))⟩
  f25 := ⟨Try.f97.name, by decide, Try.func97.trans (congrArg some (by kernel_rfl))⟩
  f26 := ⟨Try.f98.name, by decide, Try.func98.trans (congrArg some (by kernel_rfl))⟩
  f27 := ⟨Try.f99.name, by decide, Try.func99.trans (congrArg some (by kernel_rfl))⟩
  f28 := Try.func100.trans (congrArg some (by kernel_rfl))
  f29 := Try.func101.trans (congrArg some (by kernel_rfl))
  f46 := ⟨Try.f105.name, by decide, Try.func105.trans (congrArg some (by kernel_rfl))⟩
  f47 := Try.func106.trans (congrArg some (by kernel_rfl))
  f48 := Try.func107.trans (congrArg some (by kernel_rfl))
  f49 := ⟨Try.f108.name, by decide, Try.func108.trans (congrArg some (by kernel_rfl))⟩
  f50 := ⟨Try.f109.name, by decide, Try.func109.trans (congrArg some (by kernel_rfl))⟩
  f57 := ⟨Try.f111.name, by decide, Try.func111.trans (congrArg some (by kernel_rfl))⟩
  t0 := Try.underlying0
  a0 := Try.isAgg0
  z0 := Try.sizeOf0
  v0 := Try.zeroValue0
  t3 := Try.underlying3
  a3 := Try.isAgg3
  z3 := Try.sizeOf3
  v3 := Try.zeroValue3
  t4 := Try.underlying4
  a4 := Try.isAgg4
  z4 := Try.sizeOf4
  v4 := Try.zeroValue4
  t5 := Try.underlying5
  a5 := Try.isAgg5
  z5 := Try.sizeOf5
  v5 := Try.zeroValue5
  t9 := Try.underlying9
  a9 := Try.isAgg9
  z9 := Try.sizeOf9
  v9 := Try.zeroValue9
  t22 := Try.underlying22
  a22 := Try.isAgg22
  z22 := Try.sizeOf22
  v22 := Try.zeroValue22
  t25 := Try.underlying66
  a25 := Try.isAgg66
  z25 := Try.sizeOf66
  v25 := Try.zeroValue66
  t39 := Try.underlying99
  a39 := Try.isAgg99
  z39 := Try.sizeOf99
  v39 := Try.zeroValue99
  t45 := Try.underlying118
  a45 := Try.isAgg118
  z45 := Try.sizeOf118
  v45 := Try.zeroValue118
  t46 := Try.underlying119
  a46 := Try.isAgg119
  z46 := Try.sizeOf119
  v46 := Try.zeroValue119
  t50 := Try.underlying123
  a50 := Try.isAgg123
  z50 := Try.sizeOf123
  v50 := Try.zeroValue123
  t53 := Try.underlying126
  a53 := Try.isAgg126
  z53 := Try.sizeOf126
  v53 := Try.zeroValue126
  t55 := Try.underlying52
  a55 := Try.isAgg52
  z55 := Try.sizeOf52
  v55 := Try.zeroValue52
  t66 := Try.underlying133
  a66 := Try.isAgg133
  z66 := Try.sizeOf133
  v66 := Try.zeroValue133
  t70 := Try.underlying136
  a70 := Try.isAgg136
  z70 := Try.sizeOf136
  v70 := Try.zeroValue136
  t76 := Try.underlying139
  a76 := Try.isAgg139
  z76 := Try.sizeOf139
  v76 := Try.zeroValue139
  t77 := Try.underlying140
  a77 := Try.isAgg140
  z77 := Try.sizeOf140
  v77 := Try.zeroValue140

def encV (d : Dg) : List Value := [.string ⟨d.1.toArray⟩, .int .i64 d.2.1, .int .i64 d.2.2]
theorem dgAgg : isAggT Try.prog 35 = some true := by kernel_rfl
theorem dgSize : sizeT Try.prog 35 = some 3 := by kernel_rfl
theorem encV_rel1 (μ : Mu) (d : Dg) (t : Nat) (a : AV) (u : Value) (h : (encD d)[t]? = some a) (hr : VRel μ a u) : (encV d)[t]? = some u := by
  rcases t with _ | _ | _ | t
  · have e : a = .str d.1 := by simpa [encD] using h.symm
    subst e
    obtain ⟨s, rfl, hs⟩ := hr
    have : s = ⟨d.1.toArray⟩ := by
      cases s with
      | mk data => simp only [← hs]
    simp [encV, this]
  · have e : a = .int .i64 d.2.1 := by simpa [encD] using h.symm
    subst e
    have : u = .int .i64 d.2.1 := hr
    simp [encV, this]
  · have e : a = .int .i64 d.2.2 := by simpa [encD] using h.symm
    subst e
    have : u = .int .i64 d.2.2 := hr
    simp [encV, this]
  · simp [encD] at h
theorem encV_rel2 (μ : Mu) (d : Dg) (t : Nat) (a : AV) (u : Value) (h : (encD d)[t]? = some a) (hu : (encV d)[t]? = some u) : VRel μ a u := by
  rcases t with _ | _ | _ | t
  · have e : a = .str d.1 := by simpa [encD] using h.symm
    have e2 : u = .string ⟨d.1.toArray⟩ := by simpa [encV] using hu.symm
    subst e; subst e2
    exact ⟨_, rfl, by simp⟩
  · have e : a = .int .i64 d.2.1 := by simpa [encD] using h.symm
    have e2 : u = .int .i64 d.2.1 := by simpa [encV] using hu.symm
    subst e; subst e2; rfl
  · have e : a = .int .i64 d.2.2 := by simpa [encD] using h.symm
    have e2 : u = .int .i64 d.2.2 := by simpa [encV] using hu.symm
    subst e; subst e2; rfl
  · simp [encD] at h
theorem ord_fun : Try.prog.funcs[47]? = some Try.f47 := Try.func47
theorem Ii_ok (hf : Fit Try.prog) (hT : ∀ e ∈ Wk, EntOK Try.prog e) : IntrOK Try.prog Ii := by
  obtain ⟨c, hc⟩ := Option.isSome_iff_exists.1 (show Try.f47.body.isSome = true by kernel_rfl)
  have hcf : ltOf cfD = ltDb := funext fun x => funext fun y => ltOf_cfD x y
  have key := sortI_ok (P := Try.prog) (ρ := sortRen) hf sortLays (w := 3) (by omega) (fun W => AEv.run_isAgg dgAgg) (fun W => AEv.run_sizeOf dgSize) (encA := encD) (encV := encV) encD_len (fun _ => rfl) encV_rel1 encV_rel2
    (fun d v hv => by simp [encV] at hv; rcases hv with rfl | rfl | rfl <;> rfl) cfD (by rw [hcf]; exact ltDb_swo) (fun x y h1 h2 => by
      rw [hcf] at h1 h2
      exact ltD_tot (by simpa [ltDb] using h1) (by simpa [ltDb] using h2)) (g := 47) ord_fun hc (intr_none Try.prog) (fun x y => by
      obtain ⟨h', e⟩ := order_c 0 x y (emptyHeap Try.prog.globals.size)
      exact ⟨5, h', e⟩)
  rw [hcf] at key
  exact orI_ok (tab_ok hf hT) (orI_ok (sort0I_ok sortLays) key)
end Go.Proofs.Wire

namespace Go.Proofs.Wire
open Go AEv Go.Proofs Go.Proofs.Enc Go.ChangeShapes
set_option maxRecDepth 100000
set_option maxHeartbeats 1000000

/-! ### DiagOrder: a list of no element; a list that is handed in -/
theorem cell_add {W : World} {a : Addr} {m j : Nat} {v : Value} (h : W.cell? ((a.add m).add j) = some v) : ∃ c el fz, W.heap[a.block]? = some (.cells c el fz) ∧ c[a.off + m + j]? = some v ∧ (m = 0 → j = 0 → a.spot = none) := by
  have hb : ((a.add m).add j).block = a.block := by
    unfold Addr.add
    split <;> split <;> rfl
  have ho : ((a.add m).add j).off = a.off + m + j := by
    unfold Addr.add
    split <;> split <;> simp_all
  unfold World.cell? at h
  rw [hb, ho] at h
  split at h
  · rename_i c el fz hx
    split at h
    · cases h
    · rename_i hs
      refine ⟨c, el, fz, hx, h, fun h1 h2 => ?_⟩
      subst h1; subst h2
      simpa [Addr.add] using hs
  · cases h
theorem dg_fields : ∃ f0 f1 f2 : Field, Try.prog.underlying 35 = some (.struct #[f0, f1, f2]) ∧ f0.type = 9 ∧ f1.type = 3 ∧ f2.type = 3 ∧ f0.offset = 0 ∧ f1.offset = 1 ∧ f2.offset = 2 := by
  obtain ⟨fs, hfs⟩ : ∃ fs, Try.prog.underlying 35 = some (.struct fs) := by
    have : (match Try.prog.underlying 35 with | some (.struct _) => true | _ => false) = true := by kernel_rfl
    revert this
    cases Try.prog.underlying 35 with
    | none => intro h; cases h
    | some d => cases d <;> intro h <;> first | exact ⟨_, rfl⟩ | cases h
  have k : (match Try.prog.underlying 35 with | some (.struct fs) => fs.toList.map fun f => (f.type, f.offset) | _ => []) = [(9, 0), (3, 1), (3, 2)] := by kernel_rfl
  rw [hfs] at k
  simp only at k
  obtain ⟨l⟩ := fs
  match l, k with
  | [f0, f1, f2], k =>
    simp only [List.map_cons, List.map_nil, List.cons.injEq, Prod.mk.injEq] at k
    exact ⟨f0, f1, f2, hfs, k.1.1, k.2.1.1, k.2.2.1.1, k.1.2, k.2.1.2, k.2.2.1.2⟩
theorem open_diags {H : Type} {enc : TypeId × Value → H} {W : World} {sp : Nat → Bool} {held : Bool} {fuel : Nat} {a0 : Option Addr} {len cap : Nat} {x : DataW H × List MemPlace} (h : DataW.trod enc Try.prog W 0 sp held fuel 22 [.slice a0 len cap] = some x) :
    (a0 = none ∧ len = 0 ∧ cap = 0) ∨ ∃ a, a0 = some a ∧ len ≤ cap ∧ ∃ ds : List Dg, ds.length = len ∧ ∀ i (hi : i < ds.length) (j : Nat) (v : Value), (encV ds[i])[j]? = some v → W.cell? ((a.add (i * 3)).add j) = some v := by
  have hc3 : Try.prog.cellsOf 35 = 3 := by kernel_rfl
  have hc9 : Try.prog.cellsOf 9 = 1 := by kernel_rfl
  have hci : Try.prog.cellsOf 3 = 1 := by kernel_rfl
  rcases DataW.trod_slice dgst h with ⟨h0, _⟩ | ⟨a, len', cap', elems, rest, n, _, h0, _, hb, hl, hm, hlen, hel, _, _⟩
  · cases h0; exact .inl ⟨rfl, rfl, rfl⟩
  · cases h0
    right
    refine ⟨a, rfl, hl, ?_⟩
    have each : ∀ i, i < len → ∃ d : Dg, W.cells? 0 (a.add (i * 3)) 3 = some (encV d) := by
      intro i hi
      have he := hel i hi
      rw [List.getElem?_eq_getElem (by omega), hc3, Option.bind_eq_some_iff] at he
      obtain ⟨cs, hcs, hy⟩ := he
      obtain ⟨f0, f1, f2, hs, t0, t1, t2, o0, o1, o2⟩ := dg_fields
      obtain ⟨y0, y1, y2, k, _, hcl, k0, k1, k2⟩ := Go.Deep.trod_struct3 hs hy
      rw [hc3] at hcl
      obtain ⟨v0, v1, v2, rfl⟩ : ∃ v0 v1 v2, cs = [v0, v1, v2] := by
        match cs, hcl with
        | [v0, v1, v2], _ => exact ⟨v0, v1, v2, rfl⟩
      rw [t0, o0, hc9] at k0
      rw [t1, o1, hci] at k1
      rw [t2, o2, hci] at k2
      obtain ⟨s, e0, _, _⟩ := DataW.trod_string strt k0
      obtain ⟨z1, e1, _, _⟩ := DataW.trod_int intt k1
      obtain ⟨z2, e2, _, _⟩ := DataW.trod_int intt k2
      have e0' : v0 = .string s := by simpa using e0
      have e1' : v1 = .int .i64 z1 := by simpa using e1
      have e2' : v2 = .int .i64 z2 := by simpa using e2
      refine ⟨(s.data.toList, z1, z2), ?_⟩
      rw [hcs, e0', e1', e2']
      rfl
    let f : Nat → Dg := fun i => if hi : i < len then (each i hi).choose else ([], 0, 0)
    refine ⟨(List.range len).map f, by simp, fun i hi j v hv => ?_⟩
    have hi' : i < len := by simpa using hi
    have hf : ((List.range len).map f)[i] = (each i hi').choose := by simp [f, hi']
    rw [hf] at hv
    have hcs := (each i hi').choose_spec
    have hj : j < 3 := by
      have := (List.getElem?_eq_some_iff.1 hv).1
      simpa [encV] using this
    have := World.cells?_some hcs
    exact (this.2.2 j hj).trans hv
end Go.Proofs.Wire
