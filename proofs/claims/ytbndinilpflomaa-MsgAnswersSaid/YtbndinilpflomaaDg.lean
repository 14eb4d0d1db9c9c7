/-
  PROVED HERE: contracts of functions (Dg). No condition beside each statement's own.
-/
import Derived.Test.YtbndinilpflomaaDf
import Derived.Test.YtbndinilpflomaaDe
import Derived.Test.YtbndinilpflomaaDd
set_option linter.unusedVariables false
set_option linter.unusedSimpArgs false
namespace Go.Proofs.Wire
open Go AEv Go.Proofs Go.Proofs.Enc
set_option maxRecDepth 100000
set_option maxHeartbeats 1000000

/-! ### Diagnostics that are read: what stands in bytes -/
end Go.Proofs.Wire

namespace Go.Proofs.Wire
open Go AEv Go.Proofs Go.Proofs.Enc
set_option maxRecDepth 100000
set_option maxHeartbeats 1000000

/-! ### diag.Decode, and the document's -/
end Go.Proofs.Wire

namespace Go.Proofs.Wire
open Go AEv Go.Proofs Go.Proofs.Enc
set_option maxRecDepth 100000
set_option maxHeartbeats 1000000

theorem k1 (call : CallT → List AV → AHeap → FRes) (v : AV) (s : List UInt8) (h : AHeap) :
    RunF Try.prog Try.f5 none call [0] (SSt.mk [(0, v), (1, .str s)] [] .none h) (.nrm)
      (SSt.mk [(0, v), (1, .str s)] [] .none h) :=
  sxF_run [0, 1] (hs := []) (by kernel_rfl) <| .nil
theorem k2 (call : CallT → List AV → AHeap → FRes) (v : AV) (s : List UInt8) (h : AHeap)
    (H1 : call (.fn 21) [] h = FRes.ret (.bool true) h) :
    RunF Try.prog Try.f5 none call [1, 0] (SSt.mk [(0, v), (1, .str s)] [] .none h) (.nrm)
      (SSt.mk [(0, v), (1, .str s)] [] .none h) :=
  sxF_run [0, 1] (hs := [.c (.bool true) h, .b false]) (by kernel_rfl) <| .cons H1 <| .cons (by kernel_rfl : (!true) = false) <| .nil
theorem k3 (call : CallT → List AV → AHeap → FRes) (b o n m : Nat) (s : List UInt8) (c c2 : Cap) (h : AHeap)
    (H1 : foldA minA (AV.int IntKind.i64 (Int.ofNat n)) [AV.int IntKind.i64 (Int.ofNat 300)] = some (AV.int IntKind.i64 (Int.ofNat m)))
    (H2 : sliceA Try.prog h 22 (AV.slice b o n c) none (some (AV.int IntKind.i64 (Int.ofNat m))) none = some (AV.slice b o m c2)) :
    RunF Try.prog Try.f5 none call [1, 1, 0] (SSt.mk [(0, .slice b o n c), (1, .str s)] [] .none h) (.nrm)
      (SSt.mk [(0, .slice b o m c2), (1, .str s)] [] .none h) :=
  sxF_run [0, 1] (hs := [.v (.int .i64 (.ofNat m)), .v (.slice b o m c2)]) (by kernel_rfl) <| .cons H1 <| .cons H2 <| .nil
theorem k4 (call : CallT → List AV → AHeap → FRes) (v w : AV) (s t : List UInt8) (h g g2 : AHeap)
    (H1 : call (.fn 17) [v] h = FRes.ret (.str t) g)
    (H2 : call (.fn 22) [.str t] g = FRes.ret (.tup [w, .int .i64 (.ofNat 0)]) g2) :
    RunF Try.prog Try.f5 none call [1, 1, 1, 0] (SSt.mk [(0, v), (1, .str s)] [] .none h) (.nrm)
      (SSt.mk [(0, v), (1, .str s), (5, w), (6, .int .i64 (.ofNat 0))] [] .none g2) :=
  sxF_run [0, 1, 5, 6] (hs := [.c (.str t) g, .c (.tup [w, .int .i64 (.ofNat 0)]) g2]) (by kernel_rfl) <| .cons H1 <| .cons H2 <| .nil
theorem k5 (call : CallT → List AV → AHeap → FRes) (v w w2 : AV) (s : List UInt8) (h g g2 : AHeap)
    (H1 : call (.fn 15) [v] h = FRes.ret w2 g)
    (H2 : call (.fn 24) [w, w2] g = FRes.ret (.bool true) g2) :
    RunF Try.prog Try.f5 none call [1, 1, 1, 1, 0] (SSt.mk [(0, v), (1, .str s), (5, w), (6, .int .i64 (.ofNat 0))] [] .none h) (.nrm)
      (SSt.mk [(1, .str s)] [] .none g2) :=
  sxF_run [1] (hs := [.b false, .b false, .b false, .c w2 g, .b false, .c (.bool true) g2, .b false, .b false, .b false]) (by kernel_rfl) <| .cons (by kernel_rfl : (!eqI (Int.ofNat 0) (Int.ofNat 0)) = false) <| .cons (by kernel_rfl : (!eqI (Int.ofNat 0) (Int.ofNat 0)) = false) <| .cons (by kernel_rfl : (!eqI (Int.ofNat 0) (Int.ofNat 0)) = false) <| .cons H1 <| .cons (by kernel_rfl : (!eqI (Int.ofNat 0) (Int.ofNat 0)) = false) <| .cons H2 <| .cons (by kernel_rfl : (!eqI (Int.ofNat 0) (Int.ofNat 0)) = false) <| .cons (by kernel_rfl : (!eqI (Int.ofNat 0) (Int.ofNat 0)) = false) <| .cons (by kernel_rfl : (!true) = false) <| .nil
theorem k6 (call : CallT → List AV → AHeap → FRes) (w : AV) (e : Nat) (s : List UInt8) (h g : AHeap) (n_1 : Nat) (t_1 : List UInt8)
    (H1 : foldA minA (AV.int IntKind.i64 (Int.ofNat (List.length s))) [AV.int IntKind.i64 (Int.ofNat 4000)] = some (AV.int IntKind.i64 (Int.ofNat n_1)))
    (H2 : sliceA Try.prog h 9 (AV.str s) none (some (AV.int IntKind.i64 (Int.ofNat n_1))) none = some (AV.str t_1))
    (H3 : call (.fn 22) [.str t_1] h = FRes.ret (.tup [w, .int .i64 (.ofNat e)]) g) :
    RunF Try.prog Try.f5 none call [1, 1, 1, 1, 1, 0] (SSt.mk [(1, .str s)] [] .none h) (.nrm)
      (SSt.mk [(1, .str s), (7, w), (8, .int .i64 (.ofNat e))] [] .none g) :=
  sxF_run [1, 7, 8] (hs := [.v (.int .i64 (.ofNat n_1)), .v (.str t_1), .c (.tup [w, .int .i64 (.ofNat e)]) g]) (by kernel_rfl) <| .cons H1 <| .cons H2 <| .cons H3 <| .nil
/-! ### DiagReads, DiagBack -/
theorem encT_len (l : List Dg) (h : ∀ d ∈ l, mayB d = true) : (encT l).length ≤ 9 + 227 * l.length := by
  have key : (l.flatMap dgT).length ≤ 227 * l.length := by
    induction l with
    | nil => simp
    | cons d l ih =>
      obtain ⟨a, x, x2, rfl, _, _, ha⟩ := mayB_nat (h d (by simp))
      have h1 := textL_len a
      have h2 := numL_len x
      have h3 := numL_len x2
      have e : dgT (a, Int.ofNat x, Int.ofNat x2) = textL a ++ (numL x ++ numL x2) := rfl
      have := ih fun y hy => h y (by simp [hy])
      rw [List.flatMap_cons, List.length_append, e, List.length_append, List.length_append, List.length_cons]; omega
  have h1 := numL_len l.length
  unfold encT
  rw [List.length_append]; omega
end Go.Proofs.Wire
