/-
  PROVED HERE: contracts of functions (Di). No condition beside each statement's own.
-/
import Derived.Test.YtbndinilpflomaaDh
set_option linter.unusedVariables false
set_option linter.unusedSimpArgs false
namespace Go.Proofs.Wire
open Go AEv Go.Proofs Go.Proofs.Enc
set_option maxRecDepth 100000
set_option maxHeartbeats 1000000

/-! ### msg.Answered, joined; the document's -/
theorem load5 {h : AHeap} {b t : Nat} {x : List AV} (hx : x.length = 5) (hg : h.get b = some (.cells x t .own 0 0)) : AEv.loadCells h b 0 5 = some x := by
  have := load_row (xs := x) (rest := []) (by simpa using hg)
  rwa [hx] at this
abbrev rsp0 : List AV := [.int .i64 (Int.ofNat 0), .str [], .nilS, .nilS, .int .u64 (Int.ofNat 0)]
theorem rowK_shape {D : Type} {enc : D → List AV} {w : Nat} {el : TypeId} {B : Nat} {h : AHeap} {v : AV} {ds : List D} (ho : RowK enc w el B h v ds) : v = .nilS ∨ ∃ p n c, v = .slice p 0 n c := by
  rcases ho with ⟨rfl, _⟩ | ⟨p, c, rfl, _⟩
  · exact .inl rfl
  · exact .inr ⟨_, _, _, rfl⟩
/-! ### the document's -/
end Go.Proofs.Wire

namespace Go.Proofs.Wire
open Go AEv Go.Proofs Go.Proofs.Enc
set_option maxRecDepth 100000
set_option maxHeartbeats 1000000

/-! ### The document's Answered -/
end Go.Proofs.Wire

namespace Go.Proofs.Wire
open Go AEv Go.Proofs Go.Proofs.Enc
set_option maxRecDepth 100000
set_option maxHeartbeats 1000000

/-! ### Are two responses alike? MsgReads -/
theorem nth_strs : ∀ (ps : List (List UInt8)) (i : Nat) (hi : i < ps.length), nth i (rowL encS ps) = some (.str ps[i])
  | [], i, hi => by simp at hi
  | x :: l, 0, hi => rfl
  | x :: l, i + 1, hi => by
    have := nth_strs l i (by simpa using hi)
    rw [rowL_cons]
    simpa [nth] using this
theorem str_at {h : AHeap} {b el lo up : Nat} {k : BK} {ps : List (List UInt8)} (hg : h.get b = some (.cells (rowL encS ps) el k lo up)) {i : Nat} (hi : i < ps.length) : load1 h b (0 + i * 1) = some (.str ps[i]) := by
  have e : 0 + i * 1 = i := by omega
  simp only [load1, hg, e, nth_strs ps i hi]
end Go.Proofs.Wire

namespace Go.Proofs.Wire
open Go AEv Go.Proofs Go.Proofs.Enc
set_option maxRecDepth 100000
set_option maxHeartbeats 1000000

/-! ### MsgReads -/
end Go.Proofs.Wire

namespace Go.Proofs.Wire
open Go AEv Go.Proofs Go.Proofs.Enc
set_option maxRecDepth 100000
set_option maxHeartbeats 1000000

theorem an0ss (call : CallT → List AV → AHeap → FRes) (c n : Int) (t : List UInt8) (b1 n1 : Nat) (k1 : Cap) (b2 n2 : Nat) (k2 : Cap) (h : AHeap) :
    RunF Try.prog Try.f39 none call [0] (SSt.mk [(0, .agg [.int .i64 c, .str t, .slice b1 0 n1 k1, .slice b2 0 n2 k2, .int .u64 n])] [] .none h) (.nrm)
      (SSt.mk [(1, .ptr (AHeap.n h) 0)] [] .none (AHeap.push h (.cells [.int .i64 c, .str t, .slice b1 0 n1 k1, .slice b2 0 n2 k2, .int .u64 n] 54 .own 0 0))) :=
  sxF_run [1] (hs := []) (by kernel_rfl) <| .nil
theorem an0sn (call : CallT → List AV → AHeap → FRes) (c n : Int) (t : List UInt8) (b1 n1 : Nat) (k1 : Cap) (h : AHeap) :
    RunF Try.prog Try.f39 none call [0] (SSt.mk [(0, .agg [.int .i64 c, .str t, .slice b1 0 n1 k1, .nilS, .int .u64 n])] [] .none h) (.nrm)
      (SSt.mk [(1, .ptr (AHeap.n h) 0)] [] .none (AHeap.push h (.cells [.int .i64 c, .str t, .slice b1 0 n1 k1, .nilS, .int .u64 n] 54 .own 0 0))) :=
  sxF_run [1] (hs := []) (by kernel_rfl) <| .nil
theorem an0ns (call : CallT → List AV → AHeap → FRes) (c n : Int) (t : List UInt8) (b2 n2 : Nat) (k2 : Cap) (h : AHeap) :
    RunF Try.prog Try.f39 none call [0] (SSt.mk [(0, .agg [.int .i64 c, .str t, .nilS, .slice b2 0 n2 k2, .int .u64 n])] [] .none h) (.nrm)
      (SSt.mk [(1, .ptr (AHeap.n h) 0)] [] .none (AHeap.push h (.cells [.int .i64 c, .str t, .nilS, .slice b2 0 n2 k2, .int .u64 n] 54 .own 0 0))) :=
  sxF_run [1] (hs := []) (by kernel_rfl) <| .nil
theorem an0nn (call : CallT → List AV → AHeap → FRes) (c n : Int) (t : List UInt8) (h : AHeap) :
    RunF Try.prog Try.f39 none call [0] (SSt.mk [(0, .agg [.int .i64 c, .str t, .nilS, .nilS, .int .u64 n])] [] .none h) (.nrm)
      (SSt.mk [(1, .ptr (AHeap.n h) 0)] [] .none (AHeap.push h (.cells [.int .i64 c, .str t, .nilS, .nilS, .int .u64 n] 54 .own 0 0))) :=
  sxF_run [1] (hs := []) (by kernel_rfl) <| .nil
theorem an1_1 (call : CallT → List AV → AHeap → FRes) (p : Nat) (c : Int) (h : AHeap)
    (H1 : load1 h p (0 + 0) = some (.int .i64 c))
    (H2 : ltI c (.ofNat 0) = true) :
    RunF Try.prog Try.f39 none call [1, 0] (SSt.mk [(1, .ptr p 0)] [] .none h) (.ret)
      (SSt.mk [(1, .ptr p 0), (2, .str [])] [] .none h) :=
  sxF_run [1, 2] (hs := [.v (.int .i64 c), .b true, .b true, .b true, .b true, .b true]) (by kernel_rfl) <| .cons H1 <| .cons H2 <| .cons H2 <| .cons H2 <| .cons H2 <| .cons (by kernel_rfl : true = true) <| .nil
theorem an1_2 (call : CallT → List AV → AHeap → FRes) (p : Nat) (c : Int) (h : AHeap)
    (H1 : load1 h p (0 + 0) = some (.int .i64 c))
    (H2 : ltI c (.ofNat 0) = false)
    (H3 : ltI (.ofNat 14) c = true) :
    RunF Try.prog Try.f39 none call [1, 0] (SSt.mk [(1, .ptr p 0)] [] .none h) (.ret)
      (SSt.mk [(1, .ptr p 0), (2, .str [])] [] .none h) :=
  sxF_run [1, 2] (hs := [.v (.int .i64 c), .b false, .b false, .v (.int .i64 c), .b false, .b false, .b true]) (by kernel_rfl) <| .cons H1 <| .cons H2 <| .cons H2 <| .cons H1 <| .cons H2 <| .cons H2 <| .cons H3 <| .nil
theorem an1_3 (call : CallT → List AV → AHeap → FRes) (p : Nat) (c : Int) (h : AHeap)
    (H1 : load1 h p (0 + 0) = some (.int .i64 c))
    (H2 : ltI c (.ofNat 0) = false)
    (H3 : ltI (.ofNat 14) c = false) :
    RunF Try.prog Try.f39 none call [1, 0] (SSt.mk [(1, .ptr p 0)] [] .none h) (.nrm)
      (SSt.mk [(1, .ptr p 0)] [] .none h) :=
  sxF_run [1, 2] (hs := [.v (.int .i64 c), .b false, .b false, .v (.int .i64 c), .b false, .b false, .b false]) (by kernel_rfl) <| .cons H1 <| .cons H2 <| .cons H2 <| .cons H1 <| .cons H2 <| .cons H2 <| .cons H3 <| .nil
theorem an2s (call : CallT → List AV → AHeap → FRes) (p b1 n1 : Nat) (k1 : Cap) (h : AHeap) (n_1 n_2 : Nat) (t_1 : List UInt8) (g_1 : AHeap) (t_2 t_3 : List UInt8) (g_2 : AHeap) (n_3 : Nat) (t_4 : List UInt8) (g_3 : AHeap)
    (H1 : load1 (AHeap.room h 13) p (0 + 0) = some (.int .i64 (.ofNat n_1)))
    (H2 : evConvert Try.prog 29 52 (AV.int IntKind.i64 (Int.ofNat n_1)) (AHeap.room h 13) = OpRes.val (AV.int IntKind.u64 (Int.ofNat n_2)) (AHeap.room h 13))
    (H3 : call (.fn 51) [.str [], .int .u64 (.ofNat n_2)] (AHeap.room h 13) = FRes.ret (.str t_1) g_1)
    (H4 : load1 g_1 p (0 + 1) = some (.str t_2))
    (H5 : call (.fn 52) [.str t_1, .str t_2] g_1 = FRes.ret (.str t_3) g_2)
    (H6 : load1 g_2 p (0 + 2) = some (.slice b1 0 n1 k1))
    (H7 : evConvert Try.prog 3 52 (AV.int IntKind.i64 (Int.ofNat n1)) g_2 = OpRes.val (AV.int IntKind.u64 (Int.ofNat n_3)) g_2)
    (H8 : call (.fn 51) [.str t_3, .int .u64 (.ofNat n_3)] g_2 = FRes.ret (.str t_4) g_3)
    (H9 : load1 (AHeap.room h 13) p (0 + 1) = some (.str t_2))
    (H10 : load1 g_1 p (0 + 2) = some (.slice b1 0 n1 k1))
    (H11 : load1 (AHeap.room h 13) p (0 + 2) = some (.slice b1 0 n1 k1))
    (H12 : evConvert Try.prog 3 52 (AV.int IntKind.i64 (Int.ofNat n1)) g_1 = OpRes.val (AV.int IntKind.u64 (Int.ofNat n_3)) g_1)
    (H13 : evConvert Try.prog 3 52 (AV.int IntKind.i64 (Int.ofNat n1)) (AHeap.room h 13) = OpRes.val (AV.int IntKind.u64 (Int.ofNat n_3)) (AHeap.room h 13)) :
    RunF Try.prog Try.f39 none call [1, 1, 0] (SSt.mk [(1, .ptr p 0)] [] .none h) (.nrm)
      (SSt.mk [(1, .ptr p 0), (3, .str t_4)] [] .none g_3) :=
  sxF_run [1, 3] (hs := [.v (.int .i64 (.ofNat n_1)), .v (.int .u64 (.ofNat n_2)), .c (.str t_1) g_1, .v (.str t_2), .c (.str t_3) g_2, .v (.slice b1 0 n1 k1), .v (.int .u64 (.ofNat n_3)), .c (.str t_4) g_3]) (by kernel_rfl) <| .cons H1 <| .cons H2 <| .cons H3 <| .cons H4 <| .cons H5 <| .cons H6 <| .cons H7 <| .cons H8 <| .cons (by kernel_rfl : AV.sound (AV.ptr p (0 + 0)) = true) <| .cons (by kernel_rfl : AV.ptr p (0 + 0) = AV.ptr p (0 + 0)) <| .cons (by kernel_rfl : AV.sound (AV.int IntKind.i64 (Int.ofNat n_1)) = true) <| .cons H1 <| .cons (by kernel_rfl : AV.sound (AV.int IntKind.u64 (Int.ofNat n_2)) = true) <| .cons H2 <| .cons (by kernel_rfl : AV.sound (AV.ptr p (0 + 1)) = true) <| .cons (by kernel_rfl : AV.ptr p (0 + 1) = AV.ptr p (0 + 1)) <| .cons (by kernel_rfl : AV.sound (AV.ptr p (0 + 1)) = true) <| .cons (by kernel_rfl : AV.ptr p (0 + 1) = AV.ptr p (0 + 1)) <| .cons (by kernel_rfl : AV.sound (AV.str t_2) = true) <| .cons H4 <| .cons (by kernel_rfl : AV.sound (AV.str t_2) = true) <| .cons H9 <| .cons (by kernel_rfl : AV.sound (AV.ptr p (0 + 2)) = true) <| .cons (by kernel_rfl : AV.ptr p (0 + 2) = AV.ptr p (0 + 2)) <| .cons (by kernel_rfl : AV.sound (AV.ptr p (0 + 2)) = true) <| .cons (by kernel_rfl : AV.ptr p (0 + 2) = AV.ptr p (0 + 2)) <| .cons (by kernel_rfl : AV.sound (AV.ptr p (0 + 2)) = true) <| .cons (by kernel_rfl : AV.ptr p (0 + 2) = AV.ptr p (0 + 2)) <| .cons (by kernel_rfl : AV.sound (AV.slice b1 0 n1 k1) = true) <| .cons H6 <| .cons (by kernel_rfl : AV.sound (AV.slice b1 0 n1 k1) = true) <| .cons H10 <| .cons (by kernel_rfl : AV.sound (AV.slice b1 0 n1 k1) = true) <| .cons H11 <| .cons (by kernel_rfl : AV.sound (AV.int IntKind.i64 (Int.ofNat n1)) = true) <| .cons (by kernel_rfl : AV.int IntKind.i64 (Int.ofNat n1) = AV.int IntKind.i64 (Int.ofNat n1)) <| .cons (by kernel_rfl : AV.sound (AV.int IntKind.i64 (Int.ofNat n1)) = true) <| .cons (by kernel_rfl : AV.int IntKind.i64 (Int.ofNat n1) = AV.int IntKind.i64 (Int.ofNat n1)) <| .cons (by kernel_rfl : AV.sound (AV.int IntKind.i64 (Int.ofNat n1)) = true) <| .cons (by kernel_rfl : AV.int IntKind.i64 (Int.ofNat n1) = AV.int IntKind.i64 (Int.ofNat n1)) <| .cons (by kernel_rfl : AV.sound (AV.int IntKind.u64 (Int.ofNat n_3)) = true) <| .cons H7 <| .cons (by kernel_rfl : AV.sound (AV.int IntKind.u64 (Int.ofNat n_3)) = true) <| .cons H12 <| .cons (by kernel_rfl : AV.sound (AV.int IntKind.u64 (Int.ofNat n_3)) = true) <| .cons H13 <| .cons (by kernel_rfl : AV.sound (AV.str t_4) = true) <| .cons (by kernel_rfl : AV.str t_4 = AV.str t_4) <| .nil
theorem an2n (call : CallT → List AV → AHeap → FRes) (p : Nat) (h : AHeap) (n_1 n_2 : Nat) (t_1 : List UInt8) (g_1 : AHeap) (t_2 t_3 : List UInt8) (g_2 : AHeap) (t_4 : List UInt8) (g_3 : AHeap)
    (H1 : load1 (AHeap.room h 13) p (0 + 0) = some (.int .i64 (.ofNat n_1)))
    (H2 : evConvert Try.prog 29 52 (AV.int IntKind.i64 (Int.ofNat n_1)) (AHeap.room h 13) = OpRes.val (AV.int IntKind.u64 (Int.ofNat n_2)) (AHeap.room h 13))
    (H3 : call (.fn 51) [.str [], .int .u64 (.ofNat n_2)] (AHeap.room h 13) = FRes.ret (.str t_1) g_1)
    (H4 : load1 g_1 p (0 + 1) = some (.str t_2))
    (H5 : call (.fn 52) [.str t_1, .str t_2] g_1 = FRes.ret (.str t_3) g_2)
    (H6 : load1 g_2 p (0 + 2) = some .nilS)
    (H7 : call (.fn 51) [.str t_3, .int .u64 (.ofNat 0)] g_2 = FRes.ret (.str t_4) g_3)
    (H8 : load1 (AHeap.room h 13) p (0 + 1) = some (.str t_2))
    (H9 : load1 g_1 p (0 + 2) = some .nilS)
    (H10 : load1 (AHeap.room h 13) p (0 + 2) = some .nilS) :
    RunF Try.prog Try.f39 none call [1, 1, 0] (SSt.mk [(1, .ptr p 0)] [] .none h) (.nrm)
      (SSt.mk [(1, .ptr p 0), (3, .str t_4)] [] .none g_3) :=
  sxF_run [1, 3] (hs := [.v (.int .i64 (.ofNat n_1)), .v (.int .u64 (.ofNat n_2)), .c (.str t_1) g_1, .v (.str t_2), .c (.str t_3) g_2, .v .nilS, .v (.int .u64 (.ofNat 0)), .c (.str t_4) g_3]) (by kernel_rfl) <| .cons H1 <| .cons H2 <| .cons H3 <| .cons H4 <| .cons H5 <| .cons H6 <| .cons (by kernel_rfl : evConvert Try.prog 3 52 (AV.int IntKind.i64 (Int.ofNat 0)) g_2 = OpRes.val (AV.int IntKind.u64 (Int.ofNat 0)) g_2) <| .cons H7 <| .cons (by kernel_rfl : AV.sound (AV.ptr p (0 + 0)) = true) <| .cons (by kernel_rfl : AV.ptr p (0 + 0) = AV.ptr p (0 + 0)) <| .cons (by kernel_rfl : AV.sound (AV.int IntKind.i64 (Int.ofNat n_1)) = true) <| .cons H1 <| .cons (by kernel_rfl : AV.sound (AV.int IntKind.u64 (Int.ofNat n_2)) = true) <| .cons H2 <| .cons (by kernel_rfl : AV.sound (AV.ptr p (0 + 1)) = true) <| .cons (by kernel_rfl : AV.ptr p (0 + 1) = AV.ptr p (0 + 1)) <| .cons (by kernel_rfl : AV.sound (AV.ptr p (0 + 1)) = true) <| .cons (by kernel_rfl : AV.ptr p (0 + 1) = AV.ptr p (0 + 1)) <| .cons (by kernel_rfl : AV.sound (AV.str t_2) = true) <| .cons H4 <| .cons (by kernel_rfl : AV.sound (AV.str t_2) = true) <| .cons H8 <| .cons (by kernel_rfl : AV.sound (AV.ptr p (0 + 2)) = true) <| .cons (by kernel_rfl : AV.ptr p (0 + 2) = AV.ptr p (0 + 2)) <| .cons (by kernel_rfl : AV.sound (AV.ptr p (0 + 2)) = true) <| .cons (by kernel_rfl : AV.ptr p (0 + 2) = AV.ptr p (0 + 2)) <| .cons (by kernel_rfl : AV.sound (AV.ptr p (0 + 2)) = true) <| .cons (by kernel_rfl : AV.ptr p (0 + 2) = AV.ptr p (0 + 2)) <| .cons (by kernel_rfl : AV.sound AV.nilS = true) <| .cons H6 <| .cons (by kernel_rfl : AV.sound AV.nilS = true) <| .cons H9 <| .cons (by kernel_rfl : AV.sound AV.nilS = true) <| .cons H10 <| .cons (by kernel_rfl : AV.sound (AV.int IntKind.i64 (Int.ofNat 0)) = true) <| .cons (by kernel_rfl : AV.int IntKind.i64 (Int.ofNat 0) = AV.int IntKind.i64 (Int.ofNat 0)) <| .cons (by kernel_rfl : AV.sound (AV.int IntKind.i64 (Int.ofNat 0)) = true) <| .cons (by kernel_rfl : AV.int IntKind.i64 (Int.ofNat 0) = AV.int IntKind.i64 (Int.ofNat 0)) <| .cons (by kernel_rfl : AV.sound (AV.int IntKind.i64 (Int.ofNat 0)) = true) <| .cons (by kernel_rfl : AV.int IntKind.i64 (Int.ofNat 0) = AV.int IntKind.i64 (Int.ofNat 0)) <| .cons (by kernel_rfl : AV.sound (AV.int IntKind.u64 (Int.ofNat 0)) = true) <| .cons (by kernel_rfl : evConvert Try.prog 3 52 (AV.int IntKind.i64 (Int.ofNat 0)) g_2 = OpRes.val (AV.int IntKind.u64 (Int.ofNat 0)) g_2) <| .cons (by kernel_rfl : AV.sound (AV.int IntKind.u64 (Int.ofNat 0)) = true) <| .cons (by kernel_rfl : evConvert Try.prog 3 52 (AV.int IntKind.i64 (Int.ofNat 0)) g_1 = OpRes.val (AV.int IntKind.u64 (Int.ofNat 0)) g_1) <| .cons (by kernel_rfl : AV.sound (AV.int IntKind.u64 (Int.ofNat 0)) = true) <| .cons (by kernel_rfl : evConvert Try.prog 3 52 (AV.int IntKind.i64 (Int.ofNat 0)) (AHeap.room h 13) = OpRes.val (AV.int IntKind.u64 (Int.ofNat 0)) (AHeap.room h 13)) <| .cons (by kernel_rfl : AV.sound (AV.str t_4) = true) <| .cons (by kernel_rfl : AV.str t_4 = AV.str t_4) <| .nil
theorem an3s (call : CallT → List AV → AHeap → FRes) (p b1 n1 : Nat) (k1 : Cap) (s t : List UInt8) (h g : AHeap)
    (H1 : load1 h p (0 + 2) = some (.slice b1 0 n1 k1))
    (H2 : RunF Try.prog Try.f39 none call [1, 1, 1, 0, 1, 0] (SSt.mk [(29, .int .i64 (.ofNat 0)), (28, .int .i64 (.ofNat n1)), (27, .slice b1 0 n1 k1), (1, .ptr p 0), (3, .str s)] [] .none h) (.exit 0) (SSt.mk [(1, .ptr p 0), (3, .str t)] [] .none g)) :
    RunF Try.prog Try.f39 none call [1, 1, 1, 0] (SSt.mk [(1, .ptr p 0), (3, .str s)] [] .none h) (.nrm)
      (SSt.mk [(1, .ptr p 0), (3, .str t)] [] .none g) :=
  sxF_run [1, 3] (hs := [Hint.v (AV.slice b1 0 n1 k1), Hint.loop (AEx.exit 0) (SSt.mk [(1, AV.ptr p 0), (3, AV.str t)] [] Rc.none g)]) (by kernel_rfl) <| .cons H1 <| .cons H2 <| .nil
theorem an3n (call : CallT → List AV → AHeap → FRes) (p : Nat) (s t : List UInt8) (h g : AHeap)
    (H1 : load1 h p (0 + 2) = some .nilS)
    (H2 : RunF Try.prog Try.f39 none call [1, 1, 1, 0, 1, 0] (SSt.mk [(29, .int .i64 (.ofNat 0)), (28, .int .i64 (.ofNat 0)), (27, .nilS), (1, .ptr p 0), (3, .str s)] [] .none h) (.exit 0) (SSt.mk [(1, .ptr p 0), (3, .str t)] [] .none g)) :
    RunF Try.prog Try.f39 none call [1, 1, 1, 0] (SSt.mk [(1, .ptr p 0), (3, .str s)] [] .none h) (.nrm)
      (SSt.mk [(1, .ptr p 0), (3, .str t)] [] .none g) :=
  sxF_run [1, 3] (hs := [Hint.v AV.nilS, Hint.loop (AEx.exit 0) (SSt.mk [(1, AV.ptr p 0), (3, AV.str t)] [] Rc.none g)]) (by kernel_rfl) <| .cons H1 <| .cons H2 <| .nil
theorem anl_1 (call : CallT → List AV → AHeap → FRes) (p b1 n1 i : Nat) (k1 : Cap) (s : List UInt8) (h : AHeap) (t_1 t_2 : List UInt8) (g_1 : AHeap) (n_1 : Nat)
    (H1 : ltI (.ofNat i) (.ofNat n1) = true)
    (H2 : Nat.le (Nat.succ i) n1)
    (H3 : load1 h b1 (0 + i * 1) = some (.str t_1))
    (H4 : call (.fn 52) [.str s, .str t_1] h = FRes.ret (.str t_2) g_1)
    (H5 : arith .add .i64 (.ofNat i) (.ofNat 1) = some (.int .i64 (.ofNat n_1))) :
    RunF Try.prog Try.f39 none call [1, 1, 1, 0, 1, 0, 0] (SSt.mk [(1, .ptr p 0), (3, .str s), (27, .slice b1 0 n1 k1), (28, .int .i64 (.ofNat n1)), (29, .int .i64 (.ofNat i))] [] .none h) (.nrm)
      (SSt.mk [(1, .ptr p 0), (3, .str t_2), (27, .slice b1 0 n1 k1), (28, .int .i64 (.ofNat n1)), (29, .int .i64 (.ofNat n_1))] [] .none g_1) :=
  sxF_run [1, 3, 27, 28, 29] (hs := [.b true, .v (.ptr b1 (0 + i * 1)), .v (.str t_1), .c (.str t_2) g_1, .v (.int .i64 (.ofNat n_1))]) (by kernel_rfl) <| .cons H1 <| .cons (⟨H2, rfl⟩ : Nat.le (Nat.succ i) n1 ∧ AV.ptr b1 (0 + i * 1) = AV.ptr b1 (0 + i * 1)) <| .cons H3 <| .cons H4 <| .cons H5 <| .nil
theorem anl_2 (call : CallT → List AV → AHeap → FRes) (p b1 n1 i : Nat) (k1 : Cap) (s : List UInt8) (h : AHeap)
    (H1 : ltI (.ofNat i) (.ofNat n1) = false) :
    RunF Try.prog Try.f39 none call [1, 1, 1, 0, 1, 0, 0] (SSt.mk [(1, .ptr p 0), (3, .str s), (27, .slice b1 0 n1 k1), (28, .int .i64 (.ofNat n1)), (29, .int .i64 (.ofNat i))] [] .none h) (.exit 0)
      (SSt.mk [(1, .ptr p 0), (3, .str s), (27, .slice b1 0 n1 k1), (28, .int .i64 (.ofNat n1)), (29, .int .i64 (.ofNat i))] [] .none h) :=
  sxF_run [1, 3, 27, 28, 29] (hs := [.b false]) (by kernel_rfl) <| .cons H1 <| .nil
theorem anlz (call : CallT → List AV → AHeap → FRes) (p : Nat) (s : List UInt8) (h : AHeap) :
    RunF Try.prog Try.f39 none call [1, 1, 1, 0, 1, 0, 0] (SSt.mk [(1, .ptr p 0), (3, .str s), (27, .nilS), (28, .int .i64 (.ofNat 0)), (29, .int .i64 (.ofNat 0))] [] .none h) (.exit 0)
      (SSt.mk [(1, .ptr p 0), (3, .str s)] [] .none h) :=
  sxF_run [1, 3] (hs := [.b false]) (by kernel_rfl) <| .cons (by kernel_rfl : ltI (Int.ofNat 0) (Int.ofNat 0) = false) <| .nil
theorem an4 (call : CallT → List AV → AHeap → FRes) (p : Nat) (s : List UInt8) (wd : AV) (h : AHeap) (t_1 : List UInt8) (g_1 : AHeap) (t_2 : List UInt8) (g_2 : AHeap) (n_1 : Nat) (t_3 : List UInt8) (g_3 : AHeap)
    (H1 : load1 (AHeap.room h 9) p (0 + 3) = some wd)
    (H2 : call (.fn 17) [wd] (AHeap.room h 9) = FRes.ret (.str t_1) g_1)
    (H3 : call (.fn 52) [.str s, .str t_1] g_1 = FRes.ret (.str t_2) g_2)
    (H4 : load1 g_2 p (0 + 4) = some (.int .u64 (.ofNat n_1)))
    (H5 : call (.fn 51) [.str t_2, .int .u64 (.ofNat n_1)] g_2 = FRes.ret (.str t_3) g_3)
    (H6 : AV.sound wd = true)
    (H7 : load1 g_1 p (0 + 4) = some (.int .u64 (.ofNat n_1)))
    (H8 : load1 (AHeap.room h 9) p (0 + 4) = some (.int .u64 (.ofNat n_1))) :
    RunF Try.prog Try.f39 none call [1, 1, 1, 1] (SSt.mk [(1, .ptr p 0), (3, .str s)] [] .none h) (.ret)
      (SSt.mk [(2, .str t_3)] [] .none g_3) :=
  sxF_run [2] (hs := [.v wd, .c (.str t_1) g_1, .c (.str t_2) g_2, .v (.int .u64 (.ofNat n_1)), .c (.str t_3) g_3]) (by kernel_rfl) <| .cons H1 <| .cons H2 <| .cons H3 <| .cons H4 <| .cons H5 <| .cons (by kernel_rfl : AV.sound (AV.str s) = true) <| .cons (by kernel_rfl : AV.str s = AV.str s) <| .cons (by kernel_rfl : AV.sound (AV.str s) = true) <| .cons (by kernel_rfl : AV.str s = AV.str s) <| .cons (by kernel_rfl : AV.sound (AV.ptr p (0 + 3)) = true) <| .cons (by kernel_rfl : AV.ptr p (0 + 3) = AV.ptr p (0 + 3)) <| .cons H6 <| .cons H1 <| .cons (by kernel_rfl : AV.sound (AV.ptr p (0 + 4)) = true) <| .cons (by kernel_rfl : AV.ptr p (0 + 4) = AV.ptr p (0 + 4)) <| .cons (by kernel_rfl : AV.sound (AV.ptr p (0 + 4)) = true) <| .cons (by kernel_rfl : AV.ptr p (0 + 4) = AV.ptr p (0 + 4)) <| .cons (by kernel_rfl : AV.sound (AV.ptr p (0 + 4)) = true) <| .cons (by kernel_rfl : AV.ptr p (0 + 4) = AV.ptr p (0 + 4)) <| .cons (by kernel_rfl : AV.sound (AV.int IntKind.u64 (Int.ofNat n_1)) = true) <| .cons H4 <| .cons (by kernel_rfl : AV.sound (AV.int IntKind.u64 (Int.ofNat n_1)) = true) <| .cons H7 <| .cons (by kernel_rfl : AV.sound (AV.int IntKind.u64 (Int.ofNat n_1)) = true) <| .cons H8 <| .cons (by kernel_rfl : AV.sound (AV.str t_3) = true) <| .cons (by kernel_rfl : AV.str t_3 = AV.str t_3) <| .nil
/-! ### What was read whole -/
/-- A response's bytes. -/
def ansB (cd : Nat) (t : List UInt8) (ps : List (List UInt8)) (dt : List UInt8) (nm : Nat) : List UInt8 := numL cd ++ (textL t ++ (numL ps.length ++ (ps.flatMap textL ++ (textL dt ++ numL nm))))
end Go.Proofs.Wire

namespace Go.Proofs.Wire
open Go AEv Go.Proofs Go.Proofs.Enc
set_option maxRecDepth 100000
set_option maxHeartbeats 1000000

/-! ### msg.Answer -/
theorem RowK.rowIn {B : Nat} {h : AHeap} {v : AV} {l : List Dg} (ho : RowK encD 3 35 B h v l) : RowIn h v l := by
  rcases ho with ⟨rfl, e⟩ | ⟨P, c, h1, h2, h3, h4, h5⟩
  · exact .inl ⟨rfl, e⟩
  · refine .inr ⟨P, 0, _, h1, h5, fun h' e => ?_⟩
    have := row_cut (h := h') (rest := []) (by rw [List.append_nil]; exact e.trans h3) (o := 0) (len := l.length) (by omega)
    rw [List.drop_zero, List.take_length, Nat.zero_mul] at this
    rw [h1]
    cases c with
    | exact k => simp only [srcCells, this]
    | opn k => simp only [srcCells, this]
    | dead => exact absurd rfl h2.2
theorem flat_le {ps : List (List UInt8)} {M : Nat} (h : ∀ x ∈ ps, x.length ≤ M) : (ps.flatMap textL).length ≤ ps.length * (M + 9) := by
  induction ps with
  | nil => simp
  | cons x l ih =>
    have h1 := textL_len x
    have h2 := h x (by simp)
    have := ih fun y hy => h y (by simp [hy])
    rw [List.flatMap_cons, List.length_append, List.length_cons, Nat.add_mul]; omega
theorem anl_loop (m p b1 : Nat) (k1 : Cap) (ps : List (List UInt8)) (hpb : ps.length ≤ 10000) (hpl : ∀ x ∈ ps, x.length ≤ 1000) : ∀ (k i : Nat) (s : List UInt8) (h : AHeap), ps.length - i = k → i ≤ ps.length → s.length ≤ 1000000 + i * 1009 → b1 < h.n → (∀ i (hi : i < ps.length), load1 h b1 (0 + i * 1) = some (.str ps[i])) →
    ∃ h', Ext h.n h h' ∧ LoopF Try.prog Try.f39 none (C (m + 5)) [1, 1, 1, 0, 1, 0] (k + 1) ⟨[(1, .ptr p 0), (3, .str s), (27, .slice b1 0 ps.length k1), (28, .int .i64 (Int.ofNat ps.length)), (29, .int .i64 (Int.ofNat i))], [], .none, h⟩ (.exit 0) ⟨[(1, .ptr p 0), (3, .str (s ++ (ps.drop i).flatMap textL))], [], .none, h'⟩
  | 0, i, s, h, hk, hi, hs, hb, hl => by
    obtain rfl : i = ps.length := by omega
    have hd : ps.drop ps.length = [] := List.drop_eq_nil_of_le (by omega)
    rw [hd]
    exact ⟨h, Ext.refl _ _, .exit (RunP.post (anl_2 _ _ _ _ _ _ _ _ (lt_f (by omega))) ⟨rfl, by simp [lk], trivial⟩) (by simp)⟩
  | k + 1, i, s, h, hk, hi, hs, hb, hl => by
    have hii : i < ps.length := by omega
    have hx := hpl ps[i] (List.getElem_mem hii)
    have ht := textL_len ps[i]
    rw [List.drop_eq_getElem_cons hii, List.flatMap_cons]
    obtain ⟨g, c, x⟩ := puttext_c m s ps[i] h (by omega) (by omega)
    obtain ⟨h', y, l⟩ := anl_loop m p b1 k1 ps hpb hpl k (i + 1) (s ++ textL ps[i]) g (by omega) (by omega) (by rw [List.length_append]; omega) (Nat.lt_of_lt_of_le hb x.n) (fun j hj => by have := hl j hj; simp only [load1] at this ⊢; rw [x.get b1 hb]; exact this)
    rw [List.append_assoc] at l
    exact ⟨h', x.trans x.n y, .step (anl_1 _ _ _ _ _ _ _ _ _ _ _ _ (lt_t (by omega)) (by show (_ : Nat) ≤ _; omega) (hl i hii) (c) (add_n (by omega))) l⟩
theorem answer_c (m B1 B2 : Nat) (cd nm : Nat) (t : List UInt8) (ps : List (List UInt8)) (l : List Dg) (w d : AV) (h : AHeap) (hcd : cd ≤ 14) (hnm : nm < 18446744073709551616) (ht : t.length ≤ 100000) (h1 : RowK encS 1 9 B1 h w ps) (h2 : RowK encD 3 35 B2 h d l) (hpb : ps.length ≤ 10000) (hpl : ∀ x ∈ ps, x.length ≤ 1000) (hlb : l.length < 80000) :
    ∃ h', C (m + 7) (.fn 39) [.agg [.int .i64 (Int.ofNat cd), .str t, w, d, .int .u64 (Int.ofNat nm)]] h = .ret (.str (ansB cd t ps (encT (sortedL l)) nm)) h' ∧ Ext h.n h h' := by
  obtain ⟨H, hH⟩ : ∃ H, H = h.push (.cells [.int .i64 (Int.ofNat cd), .str t, w, d, .int .u64 (Int.ofNat nm)] 54 .own 0 0) := ⟨_, rfl⟩
  have xH : Ext h.n h H := by rw [hH]; exact exA
  have nH : H.n = h.n + 1 := by rw [hH]; rfl
  have gp : H.get h.n = some (.cells [.int .i64 (Int.ofNat cd), .str t, w, d, .int .u64 (Int.ofNat nm)] 54 .own 0 0) := by rw [hH]; exact gtop rfl
  have s0 : RunF Try.prog Try.f39 none (C (m + 6)) [0] ⟨[(0, .agg [.int .i64 (Int.ofNat cd), .str t, w, d, .int .u64 (Int.ofNat nm)])], [], .none, h⟩ .nrm ⟨[(1, .ptr h.n 0)], [], .none, H⟩ := by
    rw [hH]
    rcases rowK_shape h1 with rfl | ⟨b1, n1, k1, rfl⟩ <;> rcases rowK_shape h2 with rfl | ⟨b2, n2, k2, rfl⟩
    · exact an0nn (C (m + 6)) _ _ t h
    · by_cases hb : b2 < 0
      · omega
      · rcases h2 with ⟨e, _⟩ | ⟨P, c, e, _⟩
        · cases e
        · cases e; exact an0ns (C (m + 6)) _ _ t b2 l.length k2 h
    · rcases h1 with ⟨e, _⟩ | ⟨P, c, e, _⟩
      · cases e
      · cases e; exact an0sn (C (m + 6)) _ _ t b1 ps.length k1 h
    · rcases h1 with ⟨e, _⟩ | ⟨P, c, e, _⟩
      · cases e
      · cases e
        rcases h2 with ⟨e, _⟩ | ⟨P, c, e, _⟩
        · cases e
        · cases e; exact an0ss (C (m + 6)) _ _ t b1 ps.length k1 b2 l.length k2 h
  have s1 : RunF Try.prog Try.f39 none (C (m + 6)) [1, 0] ⟨[(1, .ptr h.n 0)], [], .none, H⟩ .nrm ⟨[(1, .ptr h.n 0)], [], .none, H⟩ :=
    an1_3 (C (m + 6)) h.n (Int.ofNat cd) H (ld1 gp rfl) (lt_f (by omega)) (lt_f (by omega))
  have x8 : Ext H.n H (H.room 13) := Ext.roomR (Ext.refl _ _)
  have cvc : ∀ g : AHeap, evConvert Try.prog 29 52 (.int .i64 (Int.ofNat cd)) g = .val (.int .u64 (Int.ofNat cd)) g := fun g => conv_int (ka := .i64) (by kernel_rfl) u64t (wrap_u64 cd (by omega))
  obtain ⟨g1, c1, x1⟩ := putnum_c (m + 2) cd [] (H.room 13) (by omega) (by simp)
  rw [List.nil_append] at c1
  have l1 := numL_len cd
  have l2 := textL_len t
  have l3 := numL_len ps.length
  obtain ⟨g2, c2, x2⟩ := puttext_c (m + 1) (numL cd) t g1 (by omega) (by omega)
  obtain ⟨g3, c3, x3⟩ := putnum_c (m + 2) ps.length (numL cd ++ textL t) g2 (by omega) (by rw [List.length_append]; omega)
  have y1 : Ext H.n H g1 := x8.trans x8.n x1
  have y2 : Ext H.n H g2 := y1.trans y1.n x2
  have y3 : Ext H.n H g3 := y2.trans y2.n x3
  have gp1 := (y1.get h.n (by omega)).trans gp
  have gp2 := (y2.get h.n (by omega)).trans gp
  have gp3 := (y3.get h.n (by omega)).trans gp
  have s2 : RunF Try.prog Try.f39 none (C (m + 6)) [1, 1, 0] ⟨[(1, .ptr h.n 0)], [], .none, H⟩ .nrm ⟨[(1, .ptr h.n 0), (3, .str (numL cd ++ textL t ++ numL ps.length))], [], .none, g3⟩ := by
    rcases h1 with ⟨rfl, rfl⟩ | ⟨P, c, rfl, _⟩
    · exact (an2n _ _ _ _ _ _ _ _ _ _ _ _ (ld1 (groom gp) rfl) (cvc _) (c1) (ld1 gp1 rfl) (c2) (ld1 gp2 rfl) (c3) (ld1 (groom gp) rfl) (ld1 gp1 rfl) (ld1 (groom gp) rfl))
    · exact (an2s _ _ _ _ _ _ _ _ _ _ _ _ _ _ _ _ (ld1 (groom gp) rfl) (cvc _) (c1) (ld1 gp1 rfl) (c2) (ld1 gp2 rfl) (conv_u64 _ (by omega) g2) (c3) (ld1 (groom gp) rfl) (ld1 gp1 rfl) (ld1 (groom gp) rfl) (conv_u64 _ (by omega) _) (conv_u64 _ (by omega) _))
  obtain ⟨S, hS⟩ : ∃ S, S = numL cd ++ textL t ++ numL ps.length := ⟨_, rfl⟩
  have hSl : S.length ≤ 1000000 := by rw [hS, List.length_append, List.length_append]; omega
  rw [← hS] at s2
  have z3 : Ext h.n h g3 := xH.trans xH.n y3
  have lp : ∃ g4, Ext g3.n g3 g4 ∧ RunF Try.prog Try.f39 none (C (m + 6)) [1, 1, 1, 0] ⟨[(1, .ptr h.n 0), (3, .str S)], [], .none, g3⟩ .nrm ⟨[(1, .ptr h.n 0), (3, .str (S ++ ps.flatMap textL))], [], .none, g4⟩ := by
    rcases h1 with ⟨rfl, rfl⟩ | ⟨P, c, rfl, _, g, _, n⟩
    · have lp := LoopF.run (p := [1, 1, 1, 0, 1, 0]) (by kernel_rfl) (LoopF.exit (n := 0) (anlz (C (m + 6)) h.n S g3) (by simp)) (by omega)
      refine ⟨g3, Ext.refl _ _, ?_⟩
      rw [show S ++ ([] : List (List UInt8)).flatMap textL = S by simp]
      exact an3n (C (m + 6)) h.n S S g3 g3 (ld1 gp3 rfl) (RunP.pre lp ⟨rfl, rfl, rfl, rfl, rfl, trivial⟩ rfl rfl rfl)
    · obtain ⟨g4, x4, lp⟩ := anl_loop (m + 1) h.n P c ps hpb hpl ps.length 0 S g3 rfl (by omega) (by omega) (by have := z3.n; omega) (fun i hi => str_at ((z3.get P n).trans g) hi)
      rw [List.drop_zero] at lp
      exact ⟨g4, x4, an3s (C (m + 6)) h.n P ps.length c S _ g3 g4 (ld1 gp3 rfl) (RunP.pre (LoopF.run (p := [1, 1, 1, 0, 1, 0]) (by kernel_rfl) lp (by omega)) ⟨rfl, rfl, rfl, rfl, rfl, trivial⟩ rfl rfl rfl)⟩
  obtain ⟨g4, x4, s3⟩ := lp
  have y4 : Ext H.n H g4 := y3.trans y3.n x4
  have z4 : Ext h.n h g4 := xH.trans xH.n y4
  have gp4 := (y4.get h.n (by omega)).trans gp
  have hfl := flat_le hpl
  have hsl := sortedL_len l
  have hel := encT_len (sortedL l) (fun d hd => (mem_sortedL.1 hd).2)
  have x9 : Ext g4.n g4 (g4.room 9) := Ext.roomR (Ext.refl _ _)
  have z4' : Ext h.n h (g4.room 9) := z4.trans z4.n x9
  obtain ⟨g5, c5, x5⟩ := dencode_c m d l (g4.room 9) (h2.rowIn.mono z4' (Nat.le_refl _)) (by omega)
  have tl5 := textL_len (encT (sortedL l))
  have hmul : ps.length * (1000 + 9) ≤ 10000 * 1009 := Nat.mul_le_mul hpb (Nat.le_refl _)
  obtain ⟨g6, c6, x6⟩ := puttext_c (m + 1) (S ++ ps.flatMap textL) (encT (sortedL l)) g5 (by rw [List.length_append]; omega) (by omega)
  obtain ⟨g7, c7, x7⟩ := putnum_c (m + 2) nm (S ++ ps.flatMap textL ++ textL (encT (sortedL l))) g6 hnm (by rw [List.length_append, List.length_append]; omega)
  have y5 : Ext H.n H g5 := (y4.trans y4.n x9).trans (Nat.le_trans y4.n x9.n) x5
  have y6 : Ext H.n H g6 := y5.trans y5.n x6
  have gp5 := (y5.get h.n (by omega)).trans gp
  have gp6 := (y6.get h.n (by omega)).trans gp
  have hsd : AV.sound d = true := by rcases rowK_shape h2 with rfl | ⟨_, _, _, rfl⟩ <;> rfl
  have s4 := an4 (C (m + 6)) h.n (S ++ ps.flatMap textL) d g4 _ g5 _ g6 nm _ g7 (ld1 (groom gp4) rfl) c5 c6 (ld1 gp6 rfl) c7 hsd (ld1 gp5 rfl) (ld1 (groom gp4) rfl)
  have er : S ++ ps.flatMap textL ++ textL (encT (sortedL l)) ++ numL nm = ansB cd t ps (encT (sortedL l)) nm := by rw [hS]; simp only [ansB, List.append_assoc]
  rw [er] at s4
  refine ⟨g7, fn_runF (intr := Ii) (n := m + 6) (args := [.agg [.int .i64 (Int.ofNat cd), .str t, w, d, .int .u64 (Int.ofNat nm)]]) Try.func39 (by kernel_rfl) rfl (by kernel_rfl)
    (RunF.seq (p := []) (by kernel_rfl) s0 (RunF.seq (p := [1]) (by kernel_rfl) s1 (RunF.seq (p := [1, 1]) (by kernel_rfl) s2 (RunF.seq (p := [1, 1, 1]) (by kernel_rfl) s3 s4)))) (.inl rfl) (by kernel_rfl), xH.trans xH.n (y6.trans y6.n x7)⟩
end Go.Proofs.Wire

namespace Go.Proofs.Wire
open Go AEv Go.Proofs Go.Proofs.Enc
set_option maxRecDepth 100000
set_option maxHeartbeats 1000000

/-! ### MsgOnce -/
end Go.Proofs.Wire
