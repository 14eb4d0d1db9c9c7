/-
  PROVED HERE: contracts of functions (De). No condition beside each statement's own.
-/
import Derived.Test.YtbndinilpflomaaDd
set_option linter.unusedVariables false
set_option linter.unusedSimpArgs false
namespace Go.Proofs.Wire
open Go AEv Go.Proofs Go.Proofs.Enc
set_option maxRecDepth 100000
set_option maxHeartbeats 1000000

theorem rso (call : CallT → List AV → AHeap → FRes) (v w : AV) (h g : AHeap)
    (H1 : RunF Try.prog Try.f16 none call [1, 1, 0, 1, 0] (SSt.mk [(4, .int .i64 (.ofNat 0)), (3, .nilS), (2, .nilS), (0, v)] [] .none h) (.exit 0) (SSt.mk [(3, w)] [] .none g)) :
    RunF Try.prog Try.f16 none call [] (SSt.mk [(0, v)] [] .none h) (.ret)
      (SSt.mk [(2, w)] [] .none g) :=
  sxF_run [2] (hs := [Hint.loop (AEx.exit 0) (SSt.mk [(3, w)] [] Rc.none g)]) (by kernel_rfl) <| .cons H1 <| .nil
theorem rsh_1 (call : CallT → List AV → AHeap → FRes) (b n i : Nat) (c : Cap) (w : AV) (h : AHeap)
    (H1 : ltI (.ofNat i) (.ofNat n) = true) :
    RunF Try.prog Try.f16 none call [1, 1, 0, 1, 0, 0, 0] (SSt.mk [(0, .slice b 0 n c), (3, w), (4, .int .i64 (.ofNat i))] [] .none h) (.nrm)
      (SSt.mk [(0, .slice b 0 n c), (3, w), (4, .int .i64 (.ofNat i))] [] .none h) :=
  sxF_run [0, 3, 4] (hs := [.b true]) (by kernel_rfl) <| .cons H1 <| .nil
theorem rsh_2 (call : CallT → List AV → AHeap → FRes) (b n i : Nat) (c : Cap) (w : AV) (h : AHeap)
    (H1 : ltI (.ofNat i) (.ofNat n) = false) :
    RunF Try.prog Try.f16 none call [1, 1, 0, 1, 0, 0, 0] (SSt.mk [(0, .slice b 0 n c), (3, w), (4, .int .i64 (.ofNat i))] [] .none h) (.exit 0)
      (SSt.mk [(0, .slice b 0 n c), (3, w), (4, .int .i64 (.ofNat i))] [] .none h) :=
  sxF_run [0, 3, 4] (hs := [.b false]) (by kernel_rfl) <| .cons H1 <| .nil
theorem rsz (call : CallT → List AV → AHeap → FRes) (w : AV) (h : AHeap) :
    RunF Try.prog Try.f16 none call [1, 1, 0, 1, 0, 0, 0] (SSt.mk [(0, .nilS), (3, w), (4, .int .i64 (.ofNat 0))] [] .none h) (.exit 0)
      (SSt.mk [(3, w)] [] .none h) :=
  sxF_run [3] (hs := [.b false]) (by kernel_rfl) <| .cons (by kernel_rfl : ltI (Int.ofNat 0) (Int.ofNat 0) = false) <| .nil
theorem rsk_1 (call : CallT → List AV → AHeap → FRes) (b n i : Nat) (c : Cap) (w : AV) (a1 : List UInt8) (x1 x2 : Int) (t : Bool) (h g : AHeap)
    (H1 : Nat.le (Nat.succ i) n)
    (H2 : AEv.loadCells h b (0 + i * 3) 3 = some [.str a1, .int .i64 x1, .int .i64 x2])
    (H3 : call (.fn 49) [.agg [.str a1, .int .i64 x1, .int .i64 x2]] h = FRes.ret (.bool t) g)
    (H4 : (!t) = true) :
    RunF Try.prog Try.f16 none call [1, 1, 0, 1, 0, 0, 1, 0, 0, 0] (SSt.mk [(0, .slice b 0 n c), (3, w), (4, .int .i64 (.ofNat i))] [] .none h) (.exit 1)
      (SSt.mk [(0, .slice b 0 n c), (3, w), (4, .int .i64 (.ofNat i))] [] .none g) :=
  sxF_run [0, 3, 4] (hs := [.v (.ptr b (0 + i * 3)), .v (.agg [.str a1, .int .i64 x1, .int .i64 x2]), .c (.bool t) g, .b true]) (by kernel_rfl) <| .cons (⟨H1, rfl⟩ : Nat.le (Nat.succ i) n ∧ AV.ptr b (0 + i * 3) = AV.ptr b (0 + i * 3)) <| .cons H2 <| .cons H3 <| .cons H4 <| .nil
theorem rsk_2 (call : CallT → List AV → AHeap → FRes) (b n i : Nat) (c : Cap) (w : AV) (a1 : List UInt8) (x1 x2 : Int) (t : Bool) (h g : AHeap)
    (H1 : Nat.le (Nat.succ i) n)
    (H2 : AEv.loadCells h b (0 + i * 3) 3 = some [.str a1, .int .i64 x1, .int .i64 x2])
    (H3 : call (.fn 49) [.agg [.str a1, .int .i64 x1, .int .i64 x2]] h = FRes.ret (.bool t) g)
    (H4 : (!t) = false) :
    RunF Try.prog Try.f16 none call [1, 1, 0, 1, 0, 0, 1, 0, 0, 0] (SSt.mk [(0, .slice b 0 n c), (3, w), (4, .int .i64 (.ofNat i))] [] .none h) (.nrm)
      (SSt.mk [(0, .slice b 0 n c), (3, w), (4, .int .i64 (.ofNat i))] [] .none g) :=
  sxF_run [0, 3, 4] (hs := [.v (.ptr b (0 + i * 3)), .v (.agg [.str a1, .int .i64 x1, .int .i64 x2]), .c (.bool t) g, .b false]) (by kernel_rfl) <| .cons (⟨H1, rfl⟩ : Nat.le (Nat.succ i) n ∧ AV.ptr b (0 + i * 3) = AV.ptr b (0 + i * 3)) <| .cons H2 <| .cons H3 <| .cons H4 <| .nil
theorem rsf (call : CallT → List AV → AHeap → FRes) (v w : AV) (i : Nat) (h : AHeap) :
    RunF Try.prog Try.f16 none call [1, 1, 0, 1, 0, 0, 1, 0, 0, 1, 0] (SSt.mk [(0, v), (3, w), (4, .int .i64 (.ofNat i))] [] .none h) (.nrm)
      (SSt.mk [(0, v), (3, w), (4, .int .i64 (.ofNat i)), (5, .int .i64 (.ofNat 0))] [] .none h) :=
  sxF_run [0, 3, 4, 5] (hs := []) (by kernel_rfl) <| .nil
theorem rsi_1 (call : CallT → List AV → AHeap → FRes) (b n i p q a : Nat) (c c2 : Cap) (a1 b1 : List UInt8) (x1 x2 y1 y2 : Int) (t : Bool) (h g : AHeap) (n_1 : Nat)
    (H1 : ltI (.ofNat a) (.ofNat q) = true)
    (H2 : Nat.le (Nat.succ a) q)
    (H3 : AEv.loadCells (AHeap.room h 15) p (0 + a * 3) 3 = some [.str a1, .int .i64 x1, .int .i64 x2])
    (H4 : Nat.le (Nat.succ i) n)
    (H5 : AEv.loadCells (AHeap.room h 15) b (0 + i * 3) 3 = some [.str b1, .int .i64 y1, .int .i64 y2])
    (H6 : call (.fn 50) [.agg [.str a1, .int .i64 x1, .int .i64 x2], .agg [.str b1, .int .i64 y1, .int .i64 y2]] (AHeap.room h 15) = FRes.ret (.bool t) g)
    (H7 : (bif ltI (Int.ofNat a) (Int.ofNat q) then AV.bool t else AV.bool false) = AV.bool t)
    (H8 : t = true)
    (H9 : arith .add .i64 (.ofNat a) (.ofNat 1) = some (.int .i64 (.ofNat n_1))) :
    RunF Try.prog Try.f16 none call [1, 1, 0, 1, 0, 0, 1, 0, 0, 1, 1, 0, 0, 0] (SSt.mk [(0, .slice b 0 n c), (3, .slice p 0 q c2), (4, .int .i64 (.ofNat i)), (5, .int .i64 (.ofNat a))] [] .none h) (.nrm)
      (SSt.mk [(0, .slice b 0 n c), (3, .slice p 0 q c2), (4, .int .i64 (.ofNat i)), (5, .int .i64 (.ofNat n_1))] [] .none g) :=
  sxF_run [0, 3, 4, 5] (hs := [.b true, .b true, .b true, .v (.ptr p (0 + a * 3)), .b true, .v (.agg [.str a1, .int .i64 x1, .int .i64 x2]), .b true, .b true, .b true, .v (.ptr b (0 + i * 3)), .b true, .v (.agg [.str b1, .int .i64 y1, .int .i64 y2]), .b true, .c (.bool t) g, .b true, .b true, .v (.int .i64 (.ofNat n_1))]) (by kernel_rfl) <| .cons H1 <| .cons H1 <| .cons H1 <| .cons (⟨H2, rfl⟩ : Nat.le (Nat.succ a) q ∧ AV.ptr p (0 + a * 3) = AV.ptr p (0 + a * 3)) <| .cons H1 <| .cons H3 <| .cons H1 <| .cons H1 <| .cons H1 <| .cons (⟨H4, rfl⟩ : Nat.le (Nat.succ i) n ∧ AV.ptr b (0 + i * 3) = AV.ptr b (0 + i * 3)) <| .cons H1 <| .cons H5 <| .cons H1 <| .cons H6 <| .cons H1 <| .cons (by kernel_rfl : AV.sound (AV.int IntKind.i64 (Int.ofNat a)) = true) <| .cons (by kernel_rfl : AV.int IntKind.i64 (Int.ofNat a) = AV.int IntKind.i64 (Int.ofNat a)) <| .cons (by kernel_rfl : AV.sound (AV.slice p 0 q c2) = true) <| .cons (by kernel_rfl : AV.slice p 0 q c2 = AV.slice p 0 q c2) <| .cons (by kernel_rfl : AV.sound (AV.int IntKind.i64 (Int.ofNat q)) = true) <| .cons (by kernel_rfl : AV.int IntKind.i64 (Int.ofNat q) = AV.int IntKind.i64 (Int.ofNat q)) <| .cons (by kernel_rfl : AV.sound (AV.bool (ltI (Int.ofNat a) (Int.ofNat q))) = true) <| .cons (by kernel_rfl : AV.bool (ltI (Int.ofNat a) (Int.ofNat q)) = AV.bool (ltI (Int.ofNat a) (Int.ofNat q))) <| .cons (by kernel_rfl : AV.sound (AV.bool (ltI (Int.ofNat a) (Int.ofNat q))) = true) <| .cons (by kernel_rfl : AV.bool (ltI (Int.ofNat a) (Int.ofNat q)) = AV.bool (ltI (Int.ofNat a) (Int.ofNat q))) <| .cons (by kernel_rfl : AV.sound (AV.slice p 0 q c2) = true) <| .cons (by kernel_rfl : AV.slice p 0 q c2 = AV.slice p 0 q c2) <| .cons (by kernel_rfl : AV.sound (AV.int IntKind.i64 (Int.ofNat a)) = true) <| .cons (by kernel_rfl : AV.int IntKind.i64 (Int.ofNat a) = AV.int IntKind.i64 (Int.ofNat a)) <| .cons (by kernel_rfl : AV.sound (AV.ptr p (0 + a * 3)) = true) <| .cons (⟨H2, rfl⟩ : Nat.le (Nat.succ a) q ∧ AV.ptr p (0 + a * 3) = AV.ptr p (0 + a * 3)) <| .cons (by kernel_rfl : AV.sound (AV.agg [AV.str a1, AV.int IntKind.i64 x1, AV.int IntKind.i64 x2]) = true) <| .cons H3 <| .cons (by kernel_rfl : AV.sound (AV.slice b 0 n c) = true) <| .cons (by kernel_rfl : AV.slice b 0 n c = AV.slice b 0 n c) <| .cons (by kernel_rfl : AV.sound (AV.int IntKind.i64 (Int.ofNat i)) = true) <| .cons (by kernel_rfl : AV.int IntKind.i64 (Int.ofNat i) = AV.int IntKind.i64 (Int.ofNat i)) <| .cons (by kernel_rfl : AV.sound (AV.ptr b (0 + i * 3)) = true) <| .cons (⟨H4, rfl⟩ : Nat.le (Nat.succ i) n ∧ AV.ptr b (0 + i * 3) = AV.ptr b (0 + i * 3)) <| .cons (by kernel_rfl : AV.sound (AV.agg [AV.str b1, AV.int IntKind.i64 y1, AV.int IntKind.i64 y2]) = true) <| .cons H5 <| .cons (by kernel_rfl : AV.sound (AV.bool t) = true) <| .cons H7 <| .cons H8 <| .cons H9 <| .nil
theorem rsi_2 (call : CallT → List AV → AHeap → FRes) (b n i p q a : Nat) (c c2 : Cap) (a1 b1 : List UInt8) (x1 x2 y1 y2 : Int) (t : Bool) (h g : AHeap)
    (H1 : ltI (.ofNat a) (.ofNat q) = true)
    (H2 : Nat.le (Nat.succ a) q)
    (H3 : AEv.loadCells (AHeap.room h 15) p (0 + a * 3) 3 = some [.str a1, .int .i64 x1, .int .i64 x2])
    (H4 : Nat.le (Nat.succ i) n)
    (H5 : AEv.loadCells (AHeap.room h 15) b (0 + i * 3) 3 = some [.str b1, .int .i64 y1, .int .i64 y2])
    (H6 : call (.fn 50) [.agg [.str a1, .int .i64 x1, .int .i64 x2], .agg [.str b1, .int .i64 y1, .int .i64 y2]] (AHeap.room h 15) = FRes.ret (.bool t) g)
    (H7 : (bif ltI (Int.ofNat a) (Int.ofNat q) then AV.bool t else AV.bool false) = AV.bool t)
    (H8 : t = false) :
    RunF Try.prog Try.f16 none call [1, 1, 0, 1, 0, 0, 1, 0, 0, 1, 1, 0, 0, 0] (SSt.mk [(0, .slice b 0 n c), (3, .slice p 0 q c2), (4, .int .i64 (.ofNat i)), (5, .int .i64 (.ofNat a))] [] .none h) (.exit 2)
      (SSt.mk [(0, .slice b 0 n c), (3, .slice p 0 q c2), (4, .int .i64 (.ofNat i)), (5, .int .i64 (.ofNat a))] [] .none g) :=
  sxF_run [0, 3, 4, 5] (hs := [.b true, .b true, .b true, .v (.ptr p (0 + a * 3)), .b true, .v (.agg [.str a1, .int .i64 x1, .int .i64 x2]), .b true, .b true, .b true, .v (.ptr b (0 + i * 3)), .b true, .v (.agg [.str b1, .int .i64 y1, .int .i64 y2]), .b true, .c (.bool t) g, .b true, .b false]) (by kernel_rfl) <| .cons H1 <| .cons H1 <| .cons H1 <| .cons (⟨H2, rfl⟩ : Nat.le (Nat.succ a) q ∧ AV.ptr p (0 + a * 3) = AV.ptr p (0 + a * 3)) <| .cons H1 <| .cons H3 <| .cons H1 <| .cons H1 <| .cons H1 <| .cons (⟨H4, rfl⟩ : Nat.le (Nat.succ i) n ∧ AV.ptr b (0 + i * 3) = AV.ptr b (0 + i * 3)) <| .cons H1 <| .cons H5 <| .cons H1 <| .cons H6 <| .cons H1 <| .cons (by kernel_rfl : AV.sound (AV.int IntKind.i64 (Int.ofNat a)) = true) <| .cons (by kernel_rfl : AV.int IntKind.i64 (Int.ofNat a) = AV.int IntKind.i64 (Int.ofNat a)) <| .cons (by kernel_rfl : AV.sound (AV.slice p 0 q c2) = true) <| .cons (by kernel_rfl : AV.slice p 0 q c2 = AV.slice p 0 q c2) <| .cons (by kernel_rfl : AV.sound (AV.int IntKind.i64 (Int.ofNat q)) = true) <| .cons (by kernel_rfl : AV.int IntKind.i64 (Int.ofNat q) = AV.int IntKind.i64 (Int.ofNat q)) <| .cons (by kernel_rfl : AV.sound (AV.bool (ltI (Int.ofNat a) (Int.ofNat q))) = true) <| .cons (by kernel_rfl : AV.bool (ltI (Int.ofNat a) (Int.ofNat q)) = AV.bool (ltI (Int.ofNat a) (Int.ofNat q))) <| .cons (by kernel_rfl : AV.sound (AV.bool (ltI (Int.ofNat a) (Int.ofNat q))) = true) <| .cons (by kernel_rfl : AV.bool (ltI (Int.ofNat a) (Int.ofNat q)) = AV.bool (ltI (Int.ofNat a) (Int.ofNat q))) <| .cons (by kernel_rfl : AV.sound (AV.slice p 0 q c2) = true) <| .cons (by kernel_rfl : AV.slice p 0 q c2 = AV.slice p 0 q c2) <| .cons (by kernel_rfl : AV.sound (AV.int IntKind.i64 (Int.ofNat a)) = true) <| .cons (by kernel_rfl : AV.int IntKind.i64 (Int.ofNat a) = AV.int IntKind.i64 (Int.ofNat a)) <| .cons (by kernel_rfl : AV.sound (AV.ptr p (0 + a * 3)) = true) <| .cons (⟨H2, rfl⟩ : Nat.le (Nat.succ a) q ∧ AV.ptr p (0 + a * 3) = AV.ptr p (0 + a * 3)) <| .cons (by kernel_rfl : AV.sound (AV.agg [AV.str a1, AV.int IntKind.i64 x1, AV.int IntKind.i64 x2]) = true) <| .cons H3 <| .cons (by kernel_rfl : AV.sound (AV.slice b 0 n c) = true) <| .cons (by kernel_rfl : AV.slice b 0 n c = AV.slice b 0 n c) <| .cons (by kernel_rfl : AV.sound (AV.int IntKind.i64 (Int.ofNat i)) = true) <| .cons (by kernel_rfl : AV.int IntKind.i64 (Int.ofNat i) = AV.int IntKind.i64 (Int.ofNat i)) <| .cons (by kernel_rfl : AV.sound (AV.ptr b (0 + i * 3)) = true) <| .cons (⟨H4, rfl⟩ : Nat.le (Nat.succ i) n ∧ AV.ptr b (0 + i * 3) = AV.ptr b (0 + i * 3)) <| .cons (by kernel_rfl : AV.sound (AV.agg [AV.str b1, AV.int IntKind.i64 y1, AV.int IntKind.i64 y2]) = true) <| .cons H5 <| .cons (by kernel_rfl : AV.sound (AV.bool t) = true) <| .cons H7 <| .cons H8 <| .nil
theorem rsi_3 (call : CallT → List AV → AHeap → FRes) (b n i p q a : Nat) (c c2 : Cap) (a1 b1 : List UInt8) (x1 x2 y1 y2 : Int) (t : Bool) (h g : AHeap)
    (H1 : ltI (.ofNat a) (.ofNat q) = false)
    (H2 : Decidable.rec (fun h => (fun x => false) h) (fun h => (fun x => true) h) (instDecidableEqBool (ltI (.ofNat a) (.ofNat q)) true) = false)
    (H3 : (bif ltI (Int.ofNat a) (Int.ofNat q) then AV.tup [] else AV.bool false) = AV.bool false) :
    RunF Try.prog Try.f16 none call [1, 1, 0, 1, 0, 0, 1, 0, 0, 1, 1, 0, 0, 0] (SSt.mk [(0, .slice b 0 n c), (3, .slice p 0 q c2), (4, .int .i64 (.ofNat i)), (5, .int .i64 (.ofNat a))] [] .none h) (.exit 2)
      (SSt.mk [(0, .slice b 0 n c), (3, .slice p 0 q c2), (4, .int .i64 (.ofNat i)), (5, .int .i64 (.ofNat a))] [] .none (AHeap.room h 15)) :=
  sxF_run [0, 3, 4, 5] (hs := [.b false, .b false, .b false, .b false, .b false, .b false, .b false, .b false, .b false, .b false, .b false]) (by kernel_rfl) <| .cons H1 <| .cons H1 <| .cons H1 <| .cons H1 <| .cons H1 <| .cons H1 <| .cons H1 <| .cons H1 <| .cons H1 <| .cons H1 <| .cons (by kernel_rfl : AV.sound (AV.int IntKind.i64 (Int.ofNat a)) = true) <| .cons (by kernel_rfl : AV.int IntKind.i64 (Int.ofNat a) = AV.int IntKind.i64 (Int.ofNat a)) <| .cons (by kernel_rfl : AV.sound (AV.slice p 0 q c2) = true) <| .cons (by kernel_rfl : AV.slice p 0 q c2 = AV.slice p 0 q c2) <| .cons (by kernel_rfl : AV.sound (AV.int IntKind.i64 (Int.ofNat q)) = true) <| .cons (by kernel_rfl : AV.int IntKind.i64 (Int.ofNat q) = AV.int IntKind.i64 (Int.ofNat q)) <| .cons (by kernel_rfl : AV.sound (AV.bool (ltI (Int.ofNat a) (Int.ofNat q))) = true) <| .cons (by kernel_rfl : AV.bool (ltI (Int.ofNat a) (Int.ofNat q)) = AV.bool (ltI (Int.ofNat a) (Int.ofNat q))) <| .cons (by kernel_rfl : AV.sound (AV.bool (ltI (Int.ofNat a) (Int.ofNat q))) = true) <| .cons (by kernel_rfl : AV.bool (ltI (Int.ofNat a) (Int.ofNat q)) = AV.bool (ltI (Int.ofNat a) (Int.ofNat q))) <| .cons H2 <| .cons H2 <| .cons H2 <| .cons H2 <| .cons H2 <| .cons H2 <| .cons H2 <| .cons H2 <| .cons (by kernel_rfl : AV.sound (AV.bool false) = true) <| .cons H3 <| .cons (by kernel_rfl : false = false) <| .nil
theorem rsin (call : CallT → List AV → AHeap → FRes) (v : AV) (i : Nat) (h : AHeap) :
    RunF Try.prog Try.f16 none call [1, 1, 0, 1, 0, 0, 1, 0, 0, 1, 1, 0, 0, 0] (SSt.mk [(0, v), (3, .nilS), (4, .int .i64 (.ofNat i)), (5, .int .i64 (.ofNat 0))] [] .none h) (.exit 2)
      (SSt.mk [(0, v), (3, .nilS), (4, .int .i64 (.ofNat i)), (5, .int .i64 (.ofNat 0))] [] .none (AHeap.room h 15)) :=
  sxF_run [0, 3, 4, 5] (hs := [.b false, .b false, .b false, .b false, .b false, .b false, .b false, .b false, .b false, .b false, .b false]) (by kernel_rfl) <| .cons (by kernel_rfl : ltI (Int.ofNat 0) (Int.ofNat 0) = false) <| .cons (by kernel_rfl : ltI (Int.ofNat 0) (Int.ofNat 0) = false) <| .cons (by kernel_rfl : ltI (Int.ofNat 0) (Int.ofNat 0) = false) <| .cons (by kernel_rfl : ltI (Int.ofNat 0) (Int.ofNat 0) = false) <| .cons (by kernel_rfl : ltI (Int.ofNat 0) (Int.ofNat 0) = false) <| .cons (by kernel_rfl : ltI (Int.ofNat 0) (Int.ofNat 0) = false) <| .cons (by kernel_rfl : ltI (Int.ofNat 0) (Int.ofNat 0) = false) <| .cons (by kernel_rfl : ltI (Int.ofNat 0) (Int.ofNat 0) = false) <| .cons (by kernel_rfl : ltI (Int.ofNat 0) (Int.ofNat 0) = false) <| .cons (by kernel_rfl : ltI (Int.ofNat 0) (Int.ofNat 0) = false) <| .cons (by kernel_rfl : AV.sound (AV.int IntKind.i64 (Int.ofNat 0)) = true) <| .cons (by kernel_rfl : AV.int IntKind.i64 (Int.ofNat 0) = AV.int IntKind.i64 (Int.ofNat 0)) <| .cons (by kernel_rfl : AV.sound AV.nilS = true) <| .cons (by kernel_rfl : AV.nilS = AV.nilS) <| .cons (by kernel_rfl : AV.sound (AV.int IntKind.i64 (Int.ofNat 0)) = true) <| .cons (by kernel_rfl : AV.int IntKind.i64 (Int.ofNat 0) = AV.int IntKind.i64 (Int.ofNat 0)) <| .cons (by kernel_rfl : AV.sound (AV.bool (ltI (Int.ofNat 0) (Int.ofNat 0))) = true) <| .cons (by kernel_rfl : AV.bool (ltI (Int.ofNat 0) (Int.ofNat 0)) = AV.bool (ltI (Int.ofNat 0) (Int.ofNat 0))) <| .cons (by kernel_rfl : AV.sound (AV.bool (ltI (Int.ofNat 0) (Int.ofNat 0))) = true) <| .cons (by kernel_rfl : AV.bool (ltI (Int.ofNat 0) (Int.ofNat 0)) = AV.bool (ltI (Int.ofNat 0) (Int.ofNat 0))) <| .cons (by kernel_rfl : false = false) <| .cons (by kernel_rfl : false = false) <| .cons (by kernel_rfl : false = false) <| .cons (by kernel_rfl : false = false) <| .cons (by kernel_rfl : false = false) <| .cons (by kernel_rfl : false = false) <| .cons (by kernel_rfl : false = false) <| .cons (by kernel_rfl : false = false) <| .cons (by kernel_rfl : AV.sound (AV.bool false) = true) <| .cons (by kernel_rfl : (bif ltI (Int.ofNat 0) (Int.ofNat 0) then AV.tup [] else AV.bool false) = AV.bool false) <| .cons (by kernel_rfl : false = false) <| .nil
theorem rsq_1 (call : CallT → List AV → AHeap → FRes) (b n i p q a : Nat) (c c2 : Cap) (a1 b1 : List UInt8) (x1 x2 y1 y2 : Int) (t : Bool) (h : AHeap)
    (H1 : ltI (.ofNat a) (.ofNat q) = true)
    (H2 : Nat.le (Nat.succ a) q)
    (H3 : AEv.loadCells (AHeap.room h 15) p (0 + a * 3) 3 = some [.str a1, .int .i64 x1, .int .i64 x2])
    (H4 : Nat.le (Nat.succ i) n)
    (H5 : AEv.loadCells (AHeap.room h 15) b (0 + i * 3) 3 = some [.str b1, .int .i64 y1, .int .i64 y2])
    (H6 : binA Try.prog (AHeap.room h 15) BinOp.eql 35 (Operand.tmp 44) (Operand.tmp 48) (AV.agg [AV.str a1, AV.int IntKind.i64 x1, AV.int IntKind.i64 x2]) (AV.agg [AV.str b1, AV.int IntKind.i64 y1, AV.int IntKind.i64 y2]) = some (AV.bool t))
    (H7 : (bif ltI (Int.ofNat a) (Int.ofNat q) then AV.bool t else AV.bool false) = AV.bool t)
    (H8 : t = true) :
    RunF Try.prog Try.f16 none call [1, 1, 0, 1, 0, 0, 1, 0, 0, 1, 1, 1, 0] (SSt.mk [(0, .slice b 0 n c), (3, .slice p 0 q c2), (4, .int .i64 (.ofNat i)), (5, .int .i64 (.ofNat a))] [] .none h) (.exit 1)
      (SSt.mk [(0, .slice b 0 n c), (3, .slice p 0 q c2), (4, .int .i64 (.ofNat i)), (5, .int .i64 (.ofNat a))] [] .none (AHeap.room h 15)) :=
  sxF_run [0, 3, 4, 5] (hs := [.b true, .b true, .b true, .v (.ptr p (0 + a * 3)), .b true, .v (.agg [.str a1, .int .i64 x1, .int .i64 x2]), .b true, .b true, .b true, .v (.ptr b (0 + i * 3)), .b true, .v (.agg [.str b1, .int .i64 y1, .int .i64 y2]), .b true, .v (.bool t), .b true, .b true]) (by kernel_rfl) <| .cons H1 <| .cons H1 <| .cons H1 <| .cons (⟨H2, rfl⟩ : Nat.le (Nat.succ a) q ∧ AV.ptr p (0 + a * 3) = AV.ptr p (0 + a * 3)) <| .cons H1 <| .cons H3 <| .cons H1 <| .cons H1 <| .cons H1 <| .cons (⟨H4, rfl⟩ : Nat.le (Nat.succ i) n ∧ AV.ptr b (0 + i * 3) = AV.ptr b (0 + i * 3)) <| .cons H1 <| .cons H5 <| .cons H1 <| .cons H6 <| .cons H1 <| .cons (by kernel_rfl : AV.sound (AV.int IntKind.i64 (Int.ofNat a)) = true) <| .cons (by kernel_rfl : AV.int IntKind.i64 (Int.ofNat a) = AV.int IntKind.i64 (Int.ofNat a)) <| .cons (by kernel_rfl : AV.sound (AV.slice p 0 q c2) = true) <| .cons (by kernel_rfl : AV.slice p 0 q c2 = AV.slice p 0 q c2) <| .cons (by kernel_rfl : AV.sound (AV.int IntKind.i64 (Int.ofNat q)) = true) <| .cons (by kernel_rfl : AV.int IntKind.i64 (Int.ofNat q) = AV.int IntKind.i64 (Int.ofNat q)) <| .cons (by kernel_rfl : AV.sound (AV.bool (ltI (Int.ofNat a) (Int.ofNat q))) = true) <| .cons (by kernel_rfl : AV.bool (ltI (Int.ofNat a) (Int.ofNat q)) = AV.bool (ltI (Int.ofNat a) (Int.ofNat q))) <| .cons (by kernel_rfl : AV.sound (AV.bool (ltI (Int.ofNat a) (Int.ofNat q))) = true) <| .cons (by kernel_rfl : AV.bool (ltI (Int.ofNat a) (Int.ofNat q)) = AV.bool (ltI (Int.ofNat a) (Int.ofNat q))) <| .cons (by kernel_rfl : AV.sound (AV.slice p 0 q c2) = true) <| .cons (by kernel_rfl : AV.slice p 0 q c2 = AV.slice p 0 q c2) <| .cons (by kernel_rfl : AV.sound (AV.int IntKind.i64 (Int.ofNat a)) = true) <| .cons (by kernel_rfl : AV.int IntKind.i64 (Int.ofNat a) = AV.int IntKind.i64 (Int.ofNat a)) <| .cons (by kernel_rfl : AV.sound (AV.ptr p (0 + a * 3)) = true) <| .cons (⟨H2, rfl⟩ : Nat.le (Nat.succ a) q ∧ AV.ptr p (0 + a * 3) = AV.ptr p (0 + a * 3)) <| .cons (by kernel_rfl : AV.sound (AV.agg [AV.str a1, AV.int IntKind.i64 x1, AV.int IntKind.i64 x2]) = true) <| .cons H3 <| .cons (by kernel_rfl : AV.sound (AV.slice b 0 n c) = true) <| .cons (by kernel_rfl : AV.slice b 0 n c = AV.slice b 0 n c) <| .cons (by kernel_rfl : AV.sound (AV.int IntKind.i64 (Int.ofNat i)) = true) <| .cons (by kernel_rfl : AV.int IntKind.i64 (Int.ofNat i) = AV.int IntKind.i64 (Int.ofNat i)) <| .cons (by kernel_rfl : AV.sound (AV.ptr b (0 + i * 3)) = true) <| .cons (⟨H4, rfl⟩ : Nat.le (Nat.succ i) n ∧ AV.ptr b (0 + i * 3) = AV.ptr b (0 + i * 3)) <| .cons (by kernel_rfl : AV.sound (AV.agg [AV.str b1, AV.int IntKind.i64 y1, AV.int IntKind.i64 y2]) = true) <| .cons H5 <| .cons (by kernel_rfl : AV.sound (AV.bool t) = true) <| .cons H6 <| .cons (by kernel_rfl : AV.sound (AV.bool t) = true) <| .cons H7 <| .cons H8 <| .nil
theorem rsq_2 (call : CallT → List AV → AHeap → FRes) (b n i p q a : Nat) (c c2 : Cap) (a1 b1 : List UInt8) (x1 x2 y1 y2 : Int) (t : Bool) (h : AHeap)
    (H1 : ltI (.ofNat a) (.ofNat q) = true)
    (H2 : Nat.le (Nat.succ a) q)
    (H3 : AEv.loadCells (AHeap.room h 15) p (0 + a * 3) 3 = some [.str a1, .int .i64 x1, .int .i64 x2])
    (H4 : Nat.le (Nat.succ i) n)
    (H5 : AEv.loadCells (AHeap.room h 15) b (0 + i * 3) 3 = some [.str b1, .int .i64 y1, .int .i64 y2])
    (H6 : binA Try.prog (AHeap.room h 15) BinOp.eql 35 (Operand.tmp 44) (Operand.tmp 48) (AV.agg [AV.str a1, AV.int IntKind.i64 x1, AV.int IntKind.i64 x2]) (AV.agg [AV.str b1, AV.int IntKind.i64 y1, AV.int IntKind.i64 y2]) = some (AV.bool t))
    (H7 : (bif ltI (Int.ofNat a) (Int.ofNat q) then AV.bool t else AV.bool false) = AV.bool t)
    (H8 : t = false) :
    RunF Try.prog Try.f16 none call [1, 1, 0, 1, 0, 0, 1, 0, 0, 1, 1, 1, 0] (SSt.mk [(0, .slice b 0 n c), (3, .slice p 0 q c2), (4, .int .i64 (.ofNat i)), (5, .int .i64 (.ofNat a))] [] .none h) (.nrm)
      (SSt.mk [(0, .slice b 0 n c), (3, .slice p 0 q c2), (4, .int .i64 (.ofNat i)), (5, .int .i64 (.ofNat a))] [] .none (AHeap.room h 15)) :=
  sxF_run [0, 3, 4, 5] (hs := [.b true, .b true, .b true, .v (.ptr p (0 + a * 3)), .b true, .v (.agg [.str a1, .int .i64 x1, .int .i64 x2]), .b true, .b true, .b true, .v (.ptr b (0 + i * 3)), .b true, .v (.agg [.str b1, .int .i64 y1, .int .i64 y2]), .b true, .v (.bool t), .b true, .b false]) (by kernel_rfl) <| .cons H1 <| .cons H1 <| .cons H1 <| .cons (⟨H2, rfl⟩ : Nat.le (Nat.succ a) q ∧ AV.ptr p (0 + a * 3) = AV.ptr p (0 + a * 3)) <| .cons H1 <| .cons H3 <| .cons H1 <| .cons H1 <| .cons H1 <| .cons (⟨H4, rfl⟩ : Nat.le (Nat.succ i) n ∧ AV.ptr b (0 + i * 3) = AV.ptr b (0 + i * 3)) <| .cons H1 <| .cons H5 <| .cons H1 <| .cons H6 <| .cons H1 <| .cons (by kernel_rfl : AV.sound (AV.int IntKind.i64 (Int.ofNat a)) = true) <| .cons (by kernel_rfl : AV.int IntKind.i64 (Int.ofNat a) = AV.int IntKind.i64 (Int.ofNat a)) <| .cons (by kernel_rfl : AV.sound (AV.slice p 0 q c2) = true) <| .cons (by kernel_rfl : AV.slice p 0 q c2 = AV.slice p 0 q c2) <| .cons (by kernel_rfl : AV.sound (AV.int IntKind.i64 (Int.ofNat q)) = true) <| .cons (by kernel_rfl : AV.int IntKind.i64 (Int.ofNat q) = AV.int IntKind.i64 (Int.ofNat q)) <| .cons (by kernel_rfl : AV.sound (AV.bool (ltI (Int.ofNat a) (Int.ofNat q))) = true) <| .cons (by kernel_rfl : AV.bool (ltI (Int.ofNat a) (Int.ofNat q)) = AV.bool (ltI (Int.ofNat a) (Int.ofNat q))) <| .cons (by kernel_rfl : AV.sound (AV.bool (ltI (Int.ofNat a) (Int.ofNat q))) = true) <| .cons (by kernel_rfl : AV.bool (ltI (Int.ofNat a) (Int.ofNat q)) = AV.bool (ltI (Int.ofNat a) (Int.ofNat q))) <| .cons (by kernel_rfl : AV.sound (AV.slice p 0 q c2) = true) <| .cons (by kernel_rfl : AV.slice p 0 q c2 = AV.slice p 0 q c2) <| .cons (by kernel_rfl : AV.sound (AV.int IntKind.i64 (Int.ofNat a)) = true) <| .cons (by kernel_rfl : AV.int IntKind.i64 (Int.ofNat a) = AV.int IntKind.i64 (Int.ofNat a)) <| .cons (by kernel_rfl : AV.sound (AV.ptr p (0 + a * 3)) = true) <| .cons (⟨H2, rfl⟩ : Nat.le (Nat.succ a) q ∧ AV.ptr p (0 + a * 3) = AV.ptr p (0 + a * 3)) <| .cons (by kernel_rfl : AV.sound (AV.agg [AV.str a1, AV.int IntKind.i64 x1, AV.int IntKind.i64 x2]) = true) <| .cons H3 <| .cons (by kernel_rfl : AV.sound (AV.slice b 0 n c) = true) <| .cons (by kernel_rfl : AV.slice b 0 n c = AV.slice b 0 n c) <| .cons (by kernel_rfl : AV.sound (AV.int IntKind.i64 (Int.ofNat i)) = true) <| .cons (by kernel_rfl : AV.int IntKind.i64 (Int.ofNat i) = AV.int IntKind.i64 (Int.ofNat i)) <| .cons (by kernel_rfl : AV.sound (AV.ptr b (0 + i * 3)) = true) <| .cons (⟨H4, rfl⟩ : Nat.le (Nat.succ i) n ∧ AV.ptr b (0 + i * 3) = AV.ptr b (0 + i * 3)) <| .cons (by kernel_rfl : AV.sound (AV.agg [AV.str b1, AV.int IntKind.i64 y1, AV.int IntKind.i64 y2]) = true) <| .cons H5 <| .cons (by kernel_rfl : AV.sound (AV.bool t) = true) <| .cons H6 <| .cons (by kernel_rfl : AV.sound (AV.bool t) = true) <| .cons H7 <| .cons H8 <| .nil
theorem rsq_3 (call : CallT → List AV → AHeap → FRes) (b n i p q a : Nat) (c c2 : Cap) (a1 b1 : List UInt8) (x1 x2 y1 y2 : Int) (t : Bool) (h : AHeap)
    (H1 : ltI (.ofNat a) (.ofNat q) = false)
    (H2 : Decidable.rec (fun h => (fun x => false) h) (fun h => (fun x => true) h) (instDecidableEqBool (ltI (.ofNat a) (.ofNat q)) true) = false)
    (H3 : (bif ltI (Int.ofNat a) (Int.ofNat q) then AV.tup [] else AV.bool false) = AV.bool false) :
    RunF Try.prog Try.f16 none call [1, 1, 0, 1, 0, 0, 1, 0, 0, 1, 1, 1, 0] (SSt.mk [(0, .slice b 0 n c), (3, .slice p 0 q c2), (4, .int .i64 (.ofNat i)), (5, .int .i64 (.ofNat a))] [] .none h) (.nrm)
      (SSt.mk [(0, .slice b 0 n c), (3, .slice p 0 q c2), (4, .int .i64 (.ofNat i)), (5, .int .i64 (.ofNat a))] [] .none (AHeap.room h 15)) :=
  sxF_run [0, 3, 4, 5] (hs := [.b false, .b false, .b false, .b false, .b false, .b false, .b false, .b false, .b false, .b false, .b false]) (by kernel_rfl) <| .cons H1 <| .cons H1 <| .cons H1 <| .cons H1 <| .cons H1 <| .cons H1 <| .cons H1 <| .cons H1 <| .cons H1 <| .cons H1 <| .cons (by kernel_rfl : AV.sound (AV.int IntKind.i64 (Int.ofNat a)) = true) <| .cons (by kernel_rfl : AV.int IntKind.i64 (Int.ofNat a) = AV.int IntKind.i64 (Int.ofNat a)) <| .cons (by kernel_rfl : AV.sound (AV.slice p 0 q c2) = true) <| .cons (by kernel_rfl : AV.slice p 0 q c2 = AV.slice p 0 q c2) <| .cons (by kernel_rfl : AV.sound (AV.int IntKind.i64 (Int.ofNat q)) = true) <| .cons (by kernel_rfl : AV.int IntKind.i64 (Int.ofNat q) = AV.int IntKind.i64 (Int.ofNat q)) <| .cons (by kernel_rfl : AV.sound (AV.bool (ltI (Int.ofNat a) (Int.ofNat q))) = true) <| .cons (by kernel_rfl : AV.bool (ltI (Int.ofNat a) (Int.ofNat q)) = AV.bool (ltI (Int.ofNat a) (Int.ofNat q))) <| .cons (by kernel_rfl : AV.sound (AV.bool (ltI (Int.ofNat a) (Int.ofNat q))) = true) <| .cons (by kernel_rfl : AV.bool (ltI (Int.ofNat a) (Int.ofNat q)) = AV.bool (ltI (Int.ofNat a) (Int.ofNat q))) <| .cons H2 <| .cons H2 <| .cons H2 <| .cons H2 <| .cons H2 <| .cons H2 <| .cons H2 <| .cons H2 <| .cons H2 <| .cons (by kernel_rfl : AV.sound (AV.bool false) = true) <| .cons H3 <| .cons (by kernel_rfl : false = false) <| .nil
theorem rsqn (call : CallT → List AV → AHeap → FRes) (v : AV) (i : Nat) (h : AHeap) :
    RunF Try.prog Try.f16 none call [1, 1, 0, 1, 0, 0, 1, 0, 0, 1, 1, 1, 0] (SSt.mk [(0, v), (3, .nilS), (4, .int .i64 (.ofNat i)), (5, .int .i64 (.ofNat 0))] [] .none h) (.nrm)
      (SSt.mk [(0, v), (3, .nilS), (4, .int .i64 (.ofNat i)), (5, .int .i64 (.ofNat 0))] [] .none (AHeap.room h 15)) :=
  sxF_run [0, 3, 4, 5] (hs := [.b false, .b false, .b false, .b false, .b false, .b false, .b false, .b false, .b false, .b false, .b false]) (by kernel_rfl) <| .cons (by kernel_rfl : ltI (Int.ofNat 0) (Int.ofNat 0) = false) <| .cons (by kernel_rfl : ltI (Int.ofNat 0) (Int.ofNat 0) = false) <| .cons (by kernel_rfl : ltI (Int.ofNat 0) (Int.ofNat 0) = false) <| .cons (by kernel_rfl : ltI (Int.ofNat 0) (Int.ofNat 0) = false) <| .cons (by kernel_rfl : ltI (Int.ofNat 0) (Int.ofNat 0) = false) <| .cons (by kernel_rfl : ltI (Int.ofNat 0) (Int.ofNat 0) = false) <| .cons (by kernel_rfl : ltI (Int.ofNat 0) (Int.ofNat 0) = false) <| .cons (by kernel_rfl : ltI (Int.ofNat 0) (Int.ofNat 0) = false) <| .cons (by kernel_rfl : ltI (Int.ofNat 0) (Int.ofNat 0) = false) <| .cons (by kernel_rfl : ltI (Int.ofNat 0) (Int.ofNat 0) = false) <| .cons (by kernel_rfl : AV.sound (AV.int IntKind.i64 (Int.ofNat 0)) = true) <| .cons (by kernel_rfl : AV.int IntKind.i64 (Int.ofNat 0) = AV.int IntKind.i64 (Int.ofNat 0)) <| .cons (by kernel_rfl : AV.sound AV.nilS = true) <| .cons (by kernel_rfl : AV.nilS = AV.nilS) <| .cons (by kernel_rfl : AV.sound (AV.int IntKind.i64 (Int.ofNat 0)) = true) <| .cons (by kernel_rfl : AV.int IntKind.i64 (Int.ofNat 0) = AV.int IntKind.i64 (Int.ofNat 0)) <| .cons (by kernel_rfl : AV.sound (AV.bool (ltI (Int.ofNat 0) (Int.ofNat 0))) = true) <| .cons (by kernel_rfl : AV.bool (ltI (Int.ofNat 0) (Int.ofNat 0)) = AV.bool (ltI (Int.ofNat 0) (Int.ofNat 0))) <| .cons (by kernel_rfl : AV.sound (AV.bool (ltI (Int.ofNat 0) (Int.ofNat 0))) = true) <| .cons (by kernel_rfl : AV.bool (ltI (Int.ofNat 0) (Int.ofNat 0)) = AV.bool (ltI (Int.ofNat 0) (Int.ofNat 0))) <| .cons (by kernel_rfl : false = false) <| .cons (by kernel_rfl : false = false) <| .cons (by kernel_rfl : false = false) <| .cons (by kernel_rfl : false = false) <| .cons (by kernel_rfl : false = false) <| .cons (by kernel_rfl : false = false) <| .cons (by kernel_rfl : false = false) <| .cons (by kernel_rfl : false = false) <| .cons (by kernel_rfl : false = false) <| .cons (by kernel_rfl : AV.sound (AV.bool false) = true) <| .cons (by kernel_rfl : (bif ltI (Int.ofNat 0) (Int.ofNat 0) then AV.tup [] else AV.bool false) = AV.bool false) <| .cons (by kernel_rfl : false = false) <| .nil
theorem rsa (call : CallT → List AV → AHeap → FRes) (b n i a p q : Nat) (c c2 : Cap) (o1 m1 o2 m2 : Nat) (c3 c4 : Cap) (w1 w2 w3 : AV) (a1 : List UInt8) (x1 x2 : Int) (h g1 g2 g3 : AHeap)
    (H1 : sliceA Try.prog h 22 (AV.slice p 0 q c2) none (some (AV.int IntKind.i64 (Int.ofNat a))) none = some (AV.slice p o1 m1 c3))
    (H2 : appendA Try.prog h 22 (some 22) AV.nilS (AV.slice p o1 m1 c3) = some (w1, g1))
    (H3 : Nat.le (Nat.succ i) n)
    (H4 : AEv.loadCells g1 b (0 + i * 3) 3 = some [.str a1, .int .i64 x1, .int .i64 x2])
    (H5 : appendA Try.prog (AHeap.push g1 (AObj.cells [AV.str a1, AV.int IntKind.i64 x1, AV.int IntKind.i64 x2] 35 BK.own 0 0)) 22 (some 22) w1 (AV.slice (AHeap.n g1) 0 1 (Cap.exact 1)) = some (w2, g2))
    (H6 : sliceA Try.prog g2 22 (AV.slice p 0 q c2) (some (AV.int IntKind.i64 (Int.ofNat a))) none none = some (AV.slice p o2 m2 c4))
    (H7 : appendA Try.prog g2 22 (some 22) w2 (AV.slice p o2 m2 c4) = some (w3, g3)) :
    RunF Try.prog Try.f16 none call [1, 1, 0, 1, 0, 0, 1, 0, 0, 1, 1, 1, 1] (SSt.mk [(0, .slice b 0 n c), (3, .slice p 0 q c2), (4, .int .i64 (.ofNat i)), (5, .int .i64 (.ofNat a))] [] .none h) (.nrm)
      (SSt.mk [(0, .slice b 0 n c), (3, w3), (4, .int .i64 (.ofNat i))] [] .none g3) :=
  sxF_run [0, 3, 4] (hs := [.v (.slice p o1 m1 c3), .vh w1 g1, .v (.ptr b (0 + i * 3)), .v (.agg [.str a1, .int .i64 x1, .int .i64 x2]), .vh w2 g2, .v (.slice p o2 m2 c4), .vh w3 g3]) (by kernel_rfl) <| .cons H1 <| .cons H2 <| .cons (⟨H3, rfl⟩ : Nat.le (Nat.succ i) n ∧ AV.ptr b (0 + i * 3) = AV.ptr b (0 + i * 3)) <| .cons H4 <| .cons H5 <| .cons H6 <| .cons H7 <| .nil
theorem rsan (call : CallT → List AV → AHeap → FRes) (b n i : Nat) (c : Cap) (w1 w2 w3 : AV) (a1 : List UInt8) (x1 x2 : Int) (h g1 g2 g3 : AHeap)
    (H1 : sliceA Try.prog h 22 AV.nilS none (some (AV.int IntKind.i64 (Int.ofNat 0))) none = some AV.nilS)
    (H2 : appendA Try.prog h 22 (some 22) .nilS .nilS = some (w1, g1))
    (H3 : Nat.le (Nat.succ i) n)
    (H4 : AEv.loadCells g1 b (0 + i * 3) 3 = some [.str a1, .int .i64 x1, .int .i64 x2])
    (H5 : appendA Try.prog (AHeap.push g1 (AObj.cells [AV.str a1, AV.int IntKind.i64 x1, AV.int IntKind.i64 x2] 35 BK.own 0 0)) 22 (some 22) w1 (AV.slice (AHeap.n g1) 0 1 (Cap.exact 1)) = some (w2, g2))
    (H6 : sliceA Try.prog g2 22 AV.nilS (some (AV.int IntKind.i64 (Int.ofNat 0))) none none = some AV.nilS)
    (H7 : appendA Try.prog g2 22 (some 22) w2 .nilS = some (w3, g3)) :
    RunF Try.prog Try.f16 none call [1, 1, 0, 1, 0, 0, 1, 0, 0, 1, 1, 1, 1] (SSt.mk [(0, .slice b 0 n c), (3, .nilS), (4, .int .i64 (.ofNat i)), (5, .int .i64 (.ofNat 0))] [] .none h) (.nrm)
      (SSt.mk [(0, .slice b 0 n c), (3, w3), (4, .int .i64 (.ofNat i))] [] .none g3) :=
  sxF_run [0, 3, 4] (hs := [.v .nilS, .vh w1 g1, .v (.ptr b (0 + i * 3)), .v (.agg [.str a1, .int .i64 x1, .int .i64 x2]), .vh w2 g2, .v .nilS, .vh w3 g3]) (by kernel_rfl) <| .cons H1 <| .cons H2 <| .cons (⟨H3, rfl⟩ : Nat.le (Nat.succ i) n ∧ AV.ptr b (0 + i * 3) = AV.ptr b (0 + i * 3)) <| .cons H4 <| .cons H5 <| .cons H6 <| .cons H7 <| .nil
theorem rsn (call : CallT → List AV → AHeap → FRes) (v w : AV) (i : Nat) (h : AHeap) (n_1 : Nat)
    (H1 : arith .add .i64 (.ofNat i) (.ofNat 1) = some (.int .i64 (.ofNat n_1))) :
    RunF Try.prog Try.f16 none call [1, 1, 0, 1, 0, 0, 1, 1] (SSt.mk [(0, v), (3, w), (4, .int .i64 (.ofNat i))] [] .none h) (.nrm)
      (SSt.mk [(0, v), (3, w), (4, .int .i64 (.ofNat n_1))] [] .none h) :=
  sxF_run [0, 3, 4] (hs := [.v (.int .i64 (.ofNat n_1))]) (by kernel_rfl) <| .cons H1 <| .nil
theorem d1 (call : CallT → List AV → AHeap → FRes) (v y : AV) (h : AHeap) :
    RunF Try.prog Try.f3 none call [0] (SSt.mk [(0, v), (1, y)] [] .none h) (.nrm)
      (SSt.mk [(0, v), (1, y)] [] .none h) :=
  sxF_run [0, 1] (hs := []) (by kernel_rfl) <| .nil
theorem d2 (call : CallT → List AV → AHeap → FRes) (b o n m : Nat) (y : AV) (c c2 : Cap) (h : AHeap)
    (H1 : foldA minA (AV.int IntKind.i64 (Int.ofNat n)) [AV.int IntKind.i64 (Int.ofNat 300)] = some (AV.int IntKind.i64 (Int.ofNat m)))
    (H2 : sliceA Try.prog h 22 (AV.slice b o n c) none (some (AV.int IntKind.i64 (Int.ofNat m))) none = some (AV.slice b o m c2)) :
    RunF Try.prog Try.f3 none call [1, 0] (SSt.mk [(0, .slice b o n c), (1, y)] [] .none h) (.nrm)
      (SSt.mk [(0, .slice b o m c2), (1, y)] [] .none h) :=
  sxF_run [0, 1] (hs := [.v (.int .i64 (.ofNat m)), .v (.slice b o m c2)]) (by kernel_rfl) <| .cons H1 <| .cons H2 <| .nil
theorem d3 (call : CallT → List AV → AHeap → FRes) (v y : AV) (h : AHeap) :
    RunF Try.prog Try.f3 none call [1, 1, 0] (SSt.mk [(0, v), (1, y)] [] .none h) (.nrm)
      (SSt.mk [(0, v), (1, y), (5, .nilS)] [] .none h) :=
  sxF_run [0, 1, 5] (hs := []) (by kernel_rfl) <| .nil
theorem rL2 (call : CallT → List AV → AHeap → FRes) (a b : List UInt8) (h g : AHeap)
    (H1 : RunF Try.prog Try.f85 none call [1, 0, 1, 0] (SSt.mk [(5, .int .i64 (.ofNat 0)), (4, .bool false), (0, .str a), (1, .str b)] [] .none h) (.exit 0) (SSt.mk [(0, .str a), (1, .str b)] [] .none g)) :
    RunF Try.prog Try.f85 none call [] (SSt.mk [(0, .str a), (1, .str b)] [] .none h) (.ret)
      (SSt.mk [(4, .bool (ltI (.ofNat (List.length a)) (.ofNat (List.length b))))] [] .none g) :=
  sxF_run [4] (hs := [Hint.loop (AEx.exit 0) (SSt.mk [(0, AV.str a), (1, AV.str b)] [] Rc.none g)]) (by kernel_rfl) <| .cons H1 <| .nil
/-! ### The document's order -/
theorem ltB_drop {a b : List UInt8} {i : Nat} (ha : i < a.length) (hb : i < b.length) : ltBytes (a.drop i) (b.drop i) = if (a[i]).toNat = (b[i]).toNat then ltBytes (a.drop (i + 1)) (b.drop (i + 1)) else decide ((a[i]).toNat < (b[i]).toNat) := by
  rw [List.drop_eq_getElem_cons ha, List.drop_eq_getElem_cons hb, ltB_cons]
theorem ltB_end {a b : List UInt8} {i : Nat} (h : i = a.length ∨ i = b.length) (ha : i ≤ a.length) (hb : i ≤ b.length) : ltBytes (a.drop i) (b.drop i) = ltI (Int.ofNat a.length) (Int.ofNat b.length) := by
  by_cases hb' : i = b.length
  · have e : b.drop i = [] := List.drop_eq_nil_of_le (by omega)
    rw [e, lt_f (by omega)]
    cases a.drop i <;> rfl
  · have ha' : i = a.length := by omega
    have e : a.drop i = [] := List.drop_eq_nil_of_le (by omega)
    rw [e, lt_t (by omega), List.drop_eq_getElem_cons (show i < b.length by omega)]
    rfl
theorem rLess_loop (call : CallT → List AV → AHeap → FRes) (a b : List UInt8) (hn : a.length ≤ 100000000) : ∀ (q i : Nat) (h : AHeap), a.length - i = q → i ≤ a.length → i ≤ b.length →
    ∃ h', Ext h.n h h' ∧ ((ltBytes (a.drop i) (b.drop i) = ltI (Int.ofNat a.length) (Int.ofNat b.length) ∧ LoopF Try.prog Try.f85 none call [1, 0, 1, 0] (q + 1) ⟨[(0, .str a), (1, .str b), (5, .int .i64 (Int.ofNat i))], [], .none, h⟩ (.exit 0) ⟨[(0, .str a), (1, .str b)], [], .none, h'⟩)
      ∨ LoopF Try.prog Try.f85 none call [1, 0, 1, 0] (q + 1) ⟨[(0, .str a), (1, .str b), (5, .int .i64 (Int.ofNat i))], [], .none, h⟩ .ret ⟨[(4, .bool (ltBytes (a.drop i) (b.drop i)))], [], .none, h'⟩)
  | 0, i, h, hq, hi, hj => by
    obtain rfl : i = a.length := by omega
    exact ⟨h, Ext.refl _ _, .inl ⟨ltB_end (.inl rfl) hi hj, .exit (RunP.post (rLl_4 _ _ _ _ _ (lt_f (by omega))) ⟨rfl, rfl, trivial⟩) (by simp)⟩⟩
  | q + 1, i, h, hq, hi, hj => by
    have hia : i < a.length := by omega
    by_cases hjb : i < b.length
    · have hd := ltB_drop hia hjb
      by_cases e : (a[i]).toNat = (b[i]).toNat
      · rw [if_pos e] at hd
        obtain ⟨h', x, hh⟩ := rLess_loop call a b hn q (i + 1) (h.room 7) (by omega) (by omega) (by omega)
        have ex : Ext h.n h h' := (Ext.roomR (Ext.refl _ _)).trans (by simp) x
        have stp : RunF Try.prog Try.f85 none call [1, 0, 1, 0, 0] ⟨[(0, .str a), (1, .str b), (5, .int .i64 (Int.ofNat i))], [], .none, h⟩ .nrm ⟨[(0, .str a), (1, .str b), (5, .int .i64 (Int.ofNat (i + 1)))], [], .none, h.room 7⟩ := (rLl_2 _ _ _ _ _ _ _ _ (lt_t (by omega)) (lt_t (by omega)) (idx_t hia) (idx_t hjb) ((by rw [e, eqI_t rfl]; rfl)) (add_n (by omega)))
        refine ⟨h', ex, ?_⟩
        rw [hd]
        rcases hh with ⟨e1, l⟩ | l
        · exact .inl ⟨e1, .step stp l⟩
        · exact .inr (.step stp l)
      · rw [if_neg e] at hd
        refine ⟨(h.room 7).room 8, Ext.roomR (Ext.roomR (Ext.refl _ _)), .inr ?_⟩
        have e2 : ltBytes (a.drop i) (b.drop i) = ltI (Int.ofNat (a[i]).toNat) (Int.ofNat (b[i]).toNat) := by
          rw [hd]
          exact decide_eq_decide.2 ⟨fun h => Int.ofNat_lt.2 h, fun h => Int.ofNat_lt.1 h⟩
        rw [e2]
        exact .exit (RunP.post (rLl_1 _ _ _ _ _ _ _ (lt_t (by omega)) (lt_t (by omega)) (idx_t hia) (idx_t hjb) ((by rw [eqI_f (by omega)]; rfl))) ⟨rfl, trivial⟩) (by simp)
    · exact ⟨h, Ext.refl _ _, .inl ⟨ltB_end (.inr (by omega)) hi hj, .exit (RunP.post (rLl_3 _ _ _ _ _ (lt_t (by omega)) (lt_f (by omega))) ⟨rfl, rfl, trivial⟩) (by simp)⟩⟩
theorem rLess_c (m : Nat) (a b : List UInt8) (h : AHeap) (hn : a.length ≤ 90000) : ∃ h', C (m + 1) (.fn 85) [.str a, .str b] h = .ret (.bool (ltBytes a b)) h' ∧ Ext h.n h h' := by
  obtain ⟨h', x, hh⟩ := rLess_loop (C m) a b (by omega) a.length 0 h rfl (by omega) (by omega)
  refine ⟨h', ?_, x⟩
  rcases hh with ⟨e, l⟩ | l
  · rw [List.drop_zero, List.drop_zero] at e
    have loop := LoopF.run (p := [1, 0, 1, 0]) (by kernel_rfl) l (by omega)
    have r := rL2 (C m) a b h h' (RunP.pre loop ⟨rfl, rfl, rfl, trivial⟩ rfl rfl rfl)
    rw [← e] at r
    exact fn_runF (intr := Ii) (n := m) (args := [.str a, .str b]) Try.func85 (by kernel_rfl) rfl (by kernel_rfl) r (.inl rfl) (by kernel_rfl)
  · rw [List.drop_zero, List.drop_zero] at l
    have loop := LoopF.run (p := [1, 0, 1, 0]) (by kernel_rfl) l (by omega)
    exact fn_runF (intr := Ii) (n := m) (args := [.str a, .str b]) Try.func85 (by kernel_rfl) rfl (by kernel_rfl) (rLr (C m) a b (ltBytes a b) h h' (RunP.pre loop ⟨rfl, rfl, rfl, trivial⟩ rfl rfl rfl)) (.inl rfl) (by kernel_rfl)
theorem rless_c (m : Nat) (a b : List UInt8) (x x2 y y2 : Nat) (h : AHeap) (hn : a.length ≤ 90000) : ∃ h', C (m + 2) (.fn 50) [.agg (encD (a, Int.ofNat x, Int.ofNat x2)), .agg (encD (b, Int.ofNat y, Int.ofNat y2))] h = .ret (.bool (ltDb (a, Int.ofNat x, Int.ofNat x2) (b, Int.ofNat y, Int.ofNat y2))) h' ∧ Ext h.n h h' := by
  obtain ⟨H, hH⟩ : ∃ H, H = (h.push (.cells [.str a, .int .i64 (Int.ofNat x), .int .i64 (Int.ofNat x2)] 35 .own 0 0)).push (.cells [.str b, .int .i64 (Int.ofNat y), .int .i64 (Int.ofNat y2)] 35 .own 0 0) := ⟨_, rfl⟩
  have xH : Ext h.n h H := by rw [hH]; exact exA
  by_cases e : a = b
  · have hb : beqBytes a b = true := by rw [e]; exact bbr b
    by_cases e1 : x = y
    · have hl : ltDb (a, Int.ofNat x, Int.ofNat x2) (b, Int.ofNat y, Int.ofNat y2) = ltI (Int.ofNat x2) (Int.ofNat y2) := by
        unfold ltDb ltD ltI
        refine decide_eq_decide.2 ?_
        simp only [e, e1, ltB_irrefl, Bool.false_eq_true, false_or, true_and, Int.lt_irrefl]
      rw [hl]
      refine ⟨H, ?_, xH⟩
      rw [hH]
      exact fn_runF (intr := Ii) (n := m + 1) (args := [.agg (encD (a, Int.ofNat x, Int.ofNat x2)), .agg (encD (b, Int.ofNat y, Int.ofNat y2))]) Try.func50 (by kernel_rfl) rfl (by kernel_rfl) (rls_3 _ _ _ _ _ _ _ _ _ _ _ _ (ld1A rfl) (ld1A rfl) ((by rw [hb]; rfl)) (ld1A rfl) (ld1A rfl) ((by rw [eqI_t e1]; rfl)) (ld1A rfl) (ld1A rfl)) (.inl rfl) (by kernel_rfl)
    · have hl : ltDb (a, Int.ofNat x, Int.ofNat x2) (b, Int.ofNat y, Int.ofNat y2) = ltI (Int.ofNat x) (Int.ofNat y) := by
        have e1' : ¬ ((x : Int) = (y : Int)) := fun h => e1 (Int.ofNat.inj h)
        unfold ltDb ltD ltI
        refine decide_eq_decide.2 ?_
        have f1 : Int.ofNat x = (x : Int) := rfl
        have f2 : Int.ofNat y = (y : Int) := rfl
        simp only [e, ltB_irrefl, Bool.false_eq_true, false_or, true_and, f1, f2, e1', false_and, or_false]
      rw [hl]
      refine ⟨H, ?_, xH⟩
      rw [hH]
      exact fn_runF (intr := Ii) (n := m + 1) (args := [.agg (encD (a, Int.ofNat x, Int.ofNat x2)), .agg (encD (b, Int.ofNat y, Int.ofNat y2))]) Try.func50 (by kernel_rfl) rfl (by kernel_rfl) (rls_2 _ _ _ _ _ _ _ _ _ _ (ld1A rfl) (ld1A rfl) ((by rw [hb]; rfl)) (ld1A rfl) (ld1A rfl) ((by rw [eqI_f e1]; rfl))) (.inl rfl) (by kernel_rfl)
  · have hb : beqBytes a b = false := by
      cases hx : beqBytes a b with
      | false => rfl
      | true => rw [beqBytes_eq] at hx; exact absurd (by simpa using hx) e
    have hl : ltDb (a, Int.ofNat x, Int.ofNat x2) (b, Int.ofNat y, Int.ofNat y2) = ltBytes a b := by
      unfold ltDb ltD
      simp [e]
    rw [hl]
    obtain ⟨g, v, xg⟩ := rLess_c m a b H hn
    refine ⟨g, ?_, xH.trans xH.n xg⟩
    rw [hH] at v
    exact fn_runF (intr := Ii) (n := m + 1) (args := [.agg (encD (a, Int.ofNat x, Int.ofNat x2)), .agg (encD (b, Int.ofNat y, Int.ofNat y2))]) Try.func50 (by kernel_rfl) rfl (by kernel_rfl) (rls_1 _ _ _ _ _ _ _ _ _ _ (ld1A rfl) (ld1A rfl) ((by rw [hb]; rfl)) (v)) (.inl rfl) (by kernel_rfl)
theorem rmay_c (m : Nat) (d : Dg) (h : AHeap) : ∃ h', C (m + 1) (.fn 49) [.agg (encD d)] h = .ret (.bool (mayB d)) h' ∧ Ext h.n h h' := by
  obtain ⟨a, x, x2⟩ := d
  refine ⟨h.push (.cells (encD (a, x, x2)) 35 .own 0 0), ?_, exA⟩
  unfold mayB
  simp only
  rw [← lt_le_max]
  cases e1 : leI (Int.ofNat 1) x2 with
  | false => exact fn_runF (intr := Ii) (n := m) (args := [.agg (encD (a, x, x2))]) Try.func49 (by kernel_rfl) rfl (by kernel_rfl) (rmy_5 _ _ _ _ _ (ld1A rfl) (e1)) (.inl rfl) (by kernel_rfl)
  | true =>
    cases e2 : leI x2 (Int.ofNat 13) with
    | false => exact fn_runF (intr := Ii) (n := m) (args := [.agg (encD (a, x, x2))]) Try.func49 (by kernel_rfl) rfl (by kernel_rfl) (rmy_4 _ _ _ _ _ (ld1A rfl) (e1) (e2)) (.inl rfl) (by kernel_rfl)
    | true =>
      cases e3 : leI (Int.ofNat 0) x with
      | false => exact fn_runF (intr := Ii) (n := m) (args := [.agg (encD (a, x, x2))]) Try.func49 (by kernel_rfl) rfl (by kernel_rfl) (rmy_3 _ _ _ _ _ (ld1A rfl) (e1) (e2) (ld1A rfl) (e3)) (.inl rfl) (by kernel_rfl)
      | true =>
        cases e4 : ltI x (Int.ofNat 2147483648) with
        | false => exact fn_runF (intr := Ii) (n := m) (args := [.agg (encD (a, x, x2))]) Try.func49 (by kernel_rfl) rfl (by kernel_rfl) (rmy_2 _ _ _ _ _ (ld1A rfl) (e1) (e2) (ld1A rfl) (e3) (e4)) (.inl rfl) (by kernel_rfl)
        | true => exact fn_runF (intr := Ii) (n := m) (args := [.agg (encD (a, x, x2))]) Try.func49 (by kernel_rfl) rfl (by kernel_rfl) (rmy_1 _ _ _ _ _ (ld1A rfl) (e1) (e2) (ld1A rfl) (e3) (e4) (ld1A rfl)) (.inl rfl) (by kernel_rfl)

/-! ### Appending, whatever there is -/
/-- A row of one's own, all of its block. -/
def OutR (B : Nat) (h : AHeap) (w : AV) (ds : List Dg) : Prop :=
  (w = .nilS ∧ ds = []) ∨ ∃ p, w = .slice p 0 ds.length (.opn 3) ∧ 0 < ds.length ∧ h.get p = some (.cells (rowL encD ds) 35 .opn 0 0) ∧ B ≤ p ∧ p < h.n
theorem OutR.le {B B' : Nat} {h : AHeap} {w : AV} {ds : List Dg} (hB : B ≤ B') : OutR B' h w ds → OutR B h w ds
  | .inl h => .inl h
  | .inr ⟨p, h1, h2, h3, h4, h5⟩ => .inr ⟨p, h1, h2, h3, Nat.le_trans hB h4, h5⟩
theorem OutR.mono {B B' : Nat} {h h' : AHeap} {w : AV} {ds : List Dg} (e : Ext B' h h') (hB : h.n ≤ B') : OutR B h w ds → OutR B h' w ds
  | .inl h => .inl h
  | .inr ⟨p, h1, h2, h3, h4, h5⟩ => .inr ⟨p, h1, h2, (e.get p (by omega)).trans h3, h4, Nat.lt_of_lt_of_le h5 e.n⟩
theorem app_any {B : Nat} {h : AHeap} {w src : AV} {ds es : List Dg} (ho : OutR B h w ds) (hB : B ≤ h.n) (hs : srcCells h 3 src = some (es.length, rowL encD es)) (hl : ds.length + es.length ≤ 1000000) :
    ∃ w' h', appendA Try.prog h 22 (some 22) w src = some (w', h') ∧ OutR B h' w' (ds ++ es) ∧ Ext B h h' := by
  obtain ⟨i, hi, hsz, hby⟩ := dg_info
  obtain ⟨z, hz, hzc⟩ := dg_zero
  by_cases h0 : es.length = 0
  · have he : es = [] := List.eq_nil_of_length_eq_zero h0
    subst he
    refine ⟨w, h, ?_, by rw [List.append_nil]; exact ho, Ext.refl _ _⟩
    rcases ho with ⟨rfl, _⟩ | ⟨p, rfl, h2, h3, h4, h5⟩
    · exact app_none hs
    · have hb1 : (Nat.beq 3 3 && Nat.blt 0 3) = true := rfl
      have hs' : srcCells h 3 src = some (0, rowL encD []) := hs
      simp only [appendA, dgst, dg_src, hi, hz, hsz, hby, hs', hb1]
  · rcases ho with ⟨rfl, rfl⟩ | ⟨p, rfl, h2, h3, h4, h5⟩
    · rw [List.nil_append]
      exact ⟨_, _, app_new hs (by omega) (by simp at hl; omega), .inr ⟨h.n, rfl, by omega, gtop rfl, hB, by simp⟩, exA⟩
    · refine ⟨_, _, app_more h3 hs (by omega) hl, .inr ⟨h.n, by rw [List.length_append], by rw [List.length_append]; omega, by exact gtop (by simp), hB, by simp⟩, ?_⟩
      exact Ext.pushR (by simp; omega) (Ext.setR h4 (Ext.refl _ _))
theorem opn_lo {g : AHeap} {p q a : Nat} (ha : a ≤ q) : sliceA Try.prog g 22 (.slice p 0 q (.opn 3)) none (some (.int .i64 (Int.ofNat a))) none = some (.slice p 0 a (.opn 3)) := by
  have hb1 : Nat.ble q q = true := by simp
  have hb2 : Nat.ble a q = true := by simpa using ha
  have hb3 : Nat.ble 0 a = true := by simp
  simp only [sliceA, dgst, dgSize3, bounds, optN, asN, hb1, hb2, hb3]
  simp
theorem opn_hi {g : AHeap} {p a : Nat} {ds : List Dg} (ha : a ≤ ds.length) :
    ∃ o m c, sliceA Try.prog g 22 (.slice p 0 ds.length (.opn 3)) (some (.int .i64 (Int.ofNat a))) none none = some (.slice p o m c) ∧ ∀ g' : AHeap, g'.get p = some (.cells (rowL encD ds) 35 .opn 0 0) → srcCells g' 3 (.slice p o m c) = some ((ds.drop a).length, rowL encD (ds.drop a)) := by
  have hb1 : Nat.ble ds.length ds.length = true := by simp
  have hb2 : Nat.ble a ds.length = true := by simpa using ha
  have hdl : (ds.drop a).length = ds.length - a := List.length_drop
  by_cases h0 : a = 0
  · subst h0
    refine ⟨0, ds.length, .opn 3, by simp only [sliceA, dgst, dgSize3, bounds, optN, asN, hb1, hb2]; simp, fun g' hg => ?_⟩
    have := row_cut (h := g') (rest := []) (by rw [List.append_nil]; exact hg) (o := 0) (len := ds.length) (by omega)
    rw [List.drop_zero, List.take_length, Nat.zero_mul] at this
    simp only [srcCells, this, List.drop_zero]
  · by_cases h1 : a < ds.length
    · have hb3 : Nat.blt a ds.length = true := by simpa [Nat.blt_eq] using h1
      refine ⟨0 + a * 3, ds.length - a, .opn 3, ?_, fun g' hg => ?_⟩
      · simp only [sliceA, dgst, dgSize3, bounds, optN, asN, hb1, hb2, if_pos, if_neg h0, hb3]
      · have := row_cut (h := g') (rest := []) (by rw [List.append_nil]; exact hg) (o := a) (len := ds.length - a) (by omega)
        have e : (ds.drop a).take (ds.length - a) = ds.drop a := List.take_of_length_le (by omega)
        rw [e] at this
        simp only [srcCells, Nat.zero_add, this, hdl]
    · have e : ds.drop a = [] := List.drop_eq_nil_of_le (by omega)
      have hb3 : Nat.blt a ds.length = false := by
        cases hx : Nat.blt a ds.length with
        | false => rfl
        | true => rw [Nat.blt_eq] at hx; omega
      refine ⟨0, 0, .dead, ?_, fun g' hg => ?_⟩
      · simp only [sliceA, dgst, dgSize3, bounds, optN, asN, hb1, hb2, if_pos, if_neg h0, hb3]
        simp
      · rw [e]; rfl
end Go.Proofs.Wire

namespace Go.Proofs.Wire
open Go AEv Go.Proofs Go.Proofs.Enc
set_option maxRecDepth 100000
set_option maxHeartbeats 1000000

/-! ### The document's sorting -/
/-- Put in at its place, a list still rises. -/
theorem rise_ins {ds : List Dg} {d : Dg} {k : Nat} (hr : Rise ds) (hk : k ≤ ds.length) (h1 : ∀ j (hj : j < ds.length), j < k → ltD ds[j] d) (h2 : ∀ hk' : k < ds.length, ltD d ds[k]) : Rise (ds.take k ++ [d] ++ ds.drop k) := by
  have hp : ∀ x ∈ ds.take k, ltD x d := by
    intro x hx
    obtain ⟨j, hj, rfl⟩ := List.mem_iff_getElem.1 hx
    rw [List.length_take] at hj
    rw [List.getElem_take]
    exact h1 j (by omega) (by omega)
  have hq : ∀ x ∈ ds.drop k, ltD d x := by
    intro x hx
    obtain ⟨j, hj, rfl⟩ := List.mem_iff_getElem.1 hx
    rw [List.length_drop] at hj
    rw [List.getElem_drop]
    have h3 := h2 (by omega)
    by_cases h0 : j = 0
    · subst h0; exact h3
    · exact ltD_trans h3 (List.pairwise_iff_getElem.1 hr k (k + j) (by omega) (by omega) (by omega))
  have hs : Rise (ds.take k ++ ds.drop k) := by rw [List.take_append_drop]; exact hr
  obtain ⟨a1, a2, a3⟩ := List.pairwise_append.1 hs
  refine List.pairwise_append.2 ⟨List.pairwise_append.2 ⟨a1, by simp, fun x hx y hy => ?_⟩, a2, fun x hx y hy => ?_⟩
  · obtain rfl : y = d := by simpa using hy
    exact hp x hx
  · rcases List.mem_append.1 hx with hx | hx
    · exact a3 x hx y hy
    · obtain rfl : x = d := by simpa using hx
      exact hq y hy
theorem mem_ins {ds : List Dg} {d x : Dg} {k : Nat} : x ∈ ds.take k ++ [d] ++ ds.drop k ↔ x = d ∨ x ∈ ds := by
  have e : x ∈ ds ↔ x ∈ ds.take k ∨ x ∈ ds.drop k := by rw [← List.mem_append, List.take_append_drop]
  rw [e]
  simp only [List.mem_append, List.mem_singleton]
  constructor
  · rintro ((h | h) | h)
    · exact .inr (.inl h)
    · exact .inl h
    · exact .inr (.inr h)
  · rintro (h | h | h)
    · exact .inl (.inr h)
    · exact .inl (.inl h)
    · exact .inr h
theorem ins_len {ds : List Dg} {d : Dg} {k : Nat} (hk : k ≤ ds.length) : (ds.take k ++ [d] ++ ds.drop k).length = ds.length + 1 := by
  simp only [List.length_append, List.length_take, List.length_drop, List.length_singleton]; omega

/-- The place is sought. -/
theorem find_loop (m b n i : Nat) (c : Cap) (p : Nat) (ds : List Dg) (d : Dg) (hd : mayB d = true) (hall : ∀ x ∈ ds, mayB x = true) (hi : i < n) (hn : n < 90000) (hds : ds.length < 90000) : ∀ (q a : Nat) (h : AHeap), ds.length - a = q → a ≤ ds.length → p < h.n → b < h.n → h.get p = some (.cells (rowL encD ds) 35 .opn 0 0) → AEv.loadCells h b (0 + i * 3) 3 = some (encD d) → (∀ j (hj : j < ds.length), j < a → ltD ds[j] d) →
    ∃ k h', a ≤ k ∧ k ≤ ds.length ∧ (∀ j (hj : j < ds.length), j < k → ltD ds[j] d) ∧ (∀ hk : k < ds.length, ¬ ltD ds[k] d) ∧ Ext h.n h h' ∧ LoopF Try.prog Try.f16 none (C (m + 2)) [1, 1, 0, 1, 0, 0, 1, 0, 0, 1, 1, 0, 0] (q + 1) ⟨[(0, .slice b 0 n c), (3, .slice p 0 ds.length (.opn 3)), (4, .int .i64 (Int.ofNat i)), (5, .int .i64 (Int.ofNat a))], [], .none, h⟩ (.exit 2) ⟨[(0, .slice b 0 n c), (3, .slice p 0 ds.length (.opn 3)), (4, .int .i64 (Int.ofNat i)), (5, .int .i64 (Int.ofNat k))], [], .none, h'⟩
  | 0, a, h, hq, ha, hp, hb, hg, hl, hj => by
    obtain rfl : a = ds.length := by omega
    have e : ltI (Int.ofNat ds.length) (Int.ofNat ds.length) = false := lt_f (by omega)
    exact ⟨ds.length, h.room 15, Nat.le_refl _, Nat.le_refl _, hj, fun hk => by omega, Ext.roomR (Ext.refl _ _), .exit (rsi_3 _ _ _ _ _ _ _ _ _ ([]) ([]) (0) (0) (0) (0) (true) _ (h) (lt_f (by omega)) ((by rw [e]; rfl)) ((by rw [e]; rfl))) (by simp)⟩
  | q + 1, a, h, hq, ha, hp, hb, hg, hl, hj => by
    have haa : a < ds.length := by omega
    obtain ⟨s1, z1, z2, e1, _, _, hs1⟩ := mayB_nat (hall ds[a] (List.getElem_mem haa))
    obtain ⟨s2, z3, z4, e2, _, _, hs2⟩ := mayB_nat hd
    have l1 : AEv.loadCells (h.room 15) p (0 + a * 3) 3 = some (encD ds[a]) := row_load (off := 0 + a * 3) (rest := []) encD_len (by rw [List.append_nil]; exact hg) haa (by omega)
    have l2 : AEv.loadCells (h.room 15) b (0 + i * 3) 3 = some (encD d) := hl
    rw [e1] at l1
    rw [e2] at l2
    obtain ⟨g, v, xg⟩ := rless_c m s1 s2 z1 z2 z3 z4 (h.room 15) (by omega)
    have x1 : Ext h.n h g := (Ext.roomR (Ext.refl _ _)).trans (by simp) xg
    have et : ltI (Int.ofNat a) (Int.ofNat ds.length) = true := lt_t (by omega)
    rw [← e1, ← e2] at v
    cases ht : ltDb ds[a] d with
    | true =>
      rw [ht, e1, e2] at v
      have hlt : ltD ds[a] d := by simpa [ltDb] using ht
      obtain ⟨k, h', k1, k2, k3, k4, x', lp⟩ := find_loop m b n i c p ds d hd hall hi hn hds q (a + 1) g (by omega) (by omega) (Nat.lt_of_lt_of_le hp x1.n) (Nat.lt_of_lt_of_le hb x1.n) ((x1.get p hp).trans hg) (by simp only [AEv.loadCells] at hl ⊢; rw [x1.get b hb]; exact hl) (fun j hj' hja => by
        by_cases e : j = a
        · subst e; exact hlt
        · exact hj j hj' (by omega))
      refine ⟨k, h', by omega, k2, k3, k4, x1.trans x1.n x', .step ?_ lp⟩
      exact (rsi_1 _ _ _ _ _ _ _ _ _ _ _ _ _ _ _ _ _ _ _ (lt_t (by omega)) (by show (_ : Nat) ≤ _; omega) (l1) (by show (_ : Nat) ≤ _; omega) (l2) (v) ((by rw [et]; rfl)) (rfl) (add_n (by omega)))
    | false =>
      rw [ht, e1, e2] at v
      have hlt : ¬ ltD ds[a] d := by simpa [ltDb] using ht
      refine ⟨a, g, Nat.le_refl _, by omega, hj, fun _ => hlt, x1, .exit ?_ (by simp)⟩
      exact (rsi_2 _ _ _ _ _ _ _ _ _ _ _ _ _ _ _ _ _ _ (lt_t (by omega)) (by show (_ : Nat) ≤ _; omega) (l1) (by show (_ : Nat) ≤ _; omega) (l2) (v) ((by rw [et]; rfl)) (rfl))
/-- What is there so far. -/
def SoFar (l ds : List Dg) : Prop := Rise ds ∧ (∀ x, x ∈ ds ↔ x ∈ l ∧ mayB x = true) ∧ ds.length ≤ l.length
theorem SoFar.skip {l ds : List Dg} {d : Dg} (h : SoFar l ds) (hd : mayB d = false ∨ d ∈ ds) : SoFar (l ++ [d]) ds := by
  refine ⟨h.1, fun x => ?_, by rw [List.length_append]; exact Nat.le_trans h.2.2 (by omega)⟩
  rw [h.2.1 x, List.mem_append, List.mem_singleton]
  constructor
  · rintro ⟨h1, h2⟩; exact ⟨.inl h1, h2⟩
  · rintro ⟨h1 | rfl, h2⟩
    · exact ⟨h1, h2⟩
    · rcases hd with hd | hd
      · rw [hd] at h2; cases h2
      · exact (h.2.1 x).1 hd
theorem SoFar.ins {l ds : List Dg} {d : Dg} {k : Nat} (h : SoFar l ds) (hd : mayB d = true) (hk : k ≤ ds.length) (h1 : ∀ j (hj : j < ds.length), j < k → ltD ds[j] d) (h2 : ∀ hk' : k < ds.length, ltD d ds[k]) : SoFar (l ++ [d]) (ds.take k ++ [d] ++ ds.drop k) := by
  refine ⟨rise_ins h.1 hk h1 h2, fun x => ?_, by rw [ins_len hk, List.length_append, List.length_singleton]; have := h.2.2; omega⟩
  rw [mem_ins, h.2.1 x, List.mem_append, List.mem_singleton]
  constructor
  · rintro (rfl | ⟨h3, h4⟩)
    · exact ⟨.inr rfl, hd⟩
    · exact ⟨.inl h3, h4⟩
  · rintro ⟨h3 | rfl, h4⟩
    · exact .inr ⟨h3, h4⟩
    · exact .inl rfl
/-- One is put in. -/
theorem put_in (call : CallT → List AV → AHeap → FRes) (B b n i k : Nat) (c : Cap) (w : AV) (ds : List Dg) (d : Dg) (h : AHeap) (ho : OutR B h w ds) (hB : B ≤ h.n) (hb : b < B) (hi : i < n) (hds : ds.length < 90000) (hk : k ≤ ds.length) (hl : AEv.loadCells h b (0 + i * 3) 3 = some (encD d)) :
    ∃ w' h', OutR B h' w' (ds.take k ++ [d] ++ ds.drop k) ∧ Ext B h h' ∧ RunF Try.prog Try.f16 none call [1, 1, 0, 1, 0, 0, 1, 0, 0, 1, 1, 1, 1] ⟨[(0, .slice b 0 n c), (3, w), (4, .int .i64 (Int.ofNat i)), (5, .int .i64 (Int.ofNat k))], [], .none, h⟩ .nrm ⟨[(0, .slice b 0 n c), (3, w'), (4, .int .i64 (Int.ofNat i))], [], .none, h'⟩ := by
  have keep : ∀ {B' : Nat} {g g' : AHeap}, b < B' → Ext B' g g' → AEv.loadCells g b (0 + i * 3) 3 = some (encD d) → AEv.loadCells g' b (0 + i * 3) 3 = some (encD d) := fun {B' g g'} hb e hl => by
    simp only [AEv.loadCells] at hl ⊢; rw [e.get b hb]; exact hl
  have one : ∀ g : AHeap, srcCells (g.push (.cells (encD d) 35 .own 0 0)) 3 (.slice g.n 0 1 (.exact 1)) = some ([d].length, rowL encD [d]) := fun g => by
    have : AEv.loadCells (g.push (.cells (encD d) 35 .own 0 0)) g.n 0 (1 * 3) = some (encD d) := ldc (gtop rfl) rfl
    simp only [srcCells, this]
    rfl
  have hbh : b < h.n := by omega
  have ld : (ds.take k).length ≤ ds.length := by rw [List.length_take]; omega
  have ld2 : (ds.drop k).length ≤ ds.length := by rw [List.length_drop]; omega
  rcases ho with ⟨rfl, rfl⟩ | ⟨p, rfl, h2, h3, h4, h5⟩
  · obtain rfl : k = 0 := by simpa using hk
    obtain ⟨w2, g2, a2, o2, x2⟩ := app_any (B := h.n) (w := .nilS) (ds := []) (.inl ⟨rfl, rfl⟩) (by simp) (one h) (by simp)
    obtain ⟨w3, g3, a3, o3, x3⟩ := app_any (B := h.n) (src := .nilS) (es := []) o2 (by have := x2.n; simp at this; omega) rfl (by simp)
    have x0 : Ext h.n h (h.push (.cells (encD d) 35 .own 0 0)) := exA
    have xx := (x0.trans (Nat.le_refl _) x2).trans (Nat.le_refl _) x3
    refine ⟨w3, g3, ?_, xx.le hB, ?_⟩
    · have := o3.le hB; simpa using this
    · exact (rsan _ _ _ _ _ _ _ _ _ _ _ _ _ _ _ ((by simp only [sliceA, dgst, dgSize3]; rfl)) ((app_none rfl)) (by show (_ : Nat) ≤ _; omega) (hl) (a2) ((by simp only [sliceA, dgst, dgSize3]; rfl)) (a3))
  · have s1 : srcCells h 3 (.slice p 0 k (.opn 3)) = some ((ds.take k).length, rowL encD (ds.take k)) := by
      have := row_cut (h := h) (rest := []) (by rw [List.append_nil]; exact h3) (o := 0) (len := k) (by omega)
      rw [List.drop_zero, Nat.zero_mul] at this
      simp only [srcCells, this, List.length_take, Nat.min_eq_left hk]
    obtain ⟨w1, g1, a1, o1, x1⟩ := app_any (B := h.n) (w := .nilS) (ds := []) (.inl ⟨rfl, rfl⟩) (Nat.le_refl _) s1 (by simp; omega)
    rw [List.nil_append] at o1
    obtain ⟨G, hG⟩ : ∃ G, G = g1.push (.cells (encD d) 35 .own 0 0) := ⟨_, rfl⟩
    have xG : Ext g1.n g1 G := by rw [hG]; exact exA
    have on := one g1
    rw [← hG] at on
    obtain ⟨w2, g2, a2, o2, x2⟩ := app_any (B := h.n) (o1.mono xG (Nat.le_refl _)) (by have := x1.n; have := xG.n; omega) on (by simp; omega)
    have x02 : Ext h.n h g2 := (x1.trans x1.n xG).trans (Nat.le_refl _) x2
    obtain ⟨o, m, c4, hs, hsrc⟩ := opn_hi (g := g2) (p := p) hk
    obtain ⟨w3, g3, a3, o3, x3⟩ := app_any (B := h.n) o2 (by have := x02.n; omega) (hsrc g2 ((x02.get p h5).trans h3)) (by simp; omega)
    have xx : Ext h.n h g3 := x02.trans (Nat.le_refl _) x3
    rw [hG] at a2
    refine ⟨w3, g3, o3.le hB, xx.le hB, ?_⟩
    exact (rsa _ _ _ _ _ _ _ _ _ _ _ _ _ _ _ _ _ _ _ _ _ _ _ _ _ ((opn_lo hk)) (a1) (by show (_ : Nat) ≤ _; omega) ((keep hbh x1 hl)) (a2) (hs) (a3))
end Go.Proofs.Wire

namespace Go.Proofs.Wire
open Go AEv Go.Proofs Go.Proofs.Enc
set_option maxRecDepth 100000
set_option maxHeartbeats 1000000

/-! ### The document's sorting, whole; its bytes; words -/
theorem sort_round (m B b n i : Nat) (c : Cap) (w : AV) (l ds : List Dg) (hn : l.length = n) (hnB : n < 80000) (hi : i < l.length) (h : AHeap) (ho : OutR B h w ds) (hs : SoFar (l.take i) ds) (hB : B ≤ h.n) (hb : b < B) (hl : ∀ i (hi : i < l.length), AEv.loadCells h b (0 + i * 3) 3 = some (encD l[i])) :
    ∃ w' ds' h', OutR B h' w' ds' ∧ SoFar (l.take (i + 1)) ds' ∧ Ext B h h' ∧ RunF Try.prog Try.f16 none (C (m + 2)) [1, 1, 0, 1, 0, 0] ⟨[(0, .slice b 0 n c), (3, w), (4, .int .i64 (Int.ofNat i))], [], .none, h⟩ .nrm ⟨[(0, .slice b 0 n c), (3, w'), (4, .int .i64 (Int.ofNat (i + 1)))], [], .none, h'⟩ := by
  have ld := hl i hi
  obtain ⟨g, v, xg⟩ := rmay_c (m + 1) l[i] h
  obtain ⟨a1, z1, z2, hd⟩ : ∃ a z1 z2, l[i] = (a, z1, z2) := ⟨_, _, _, rfl⟩
  have tk : l.take (i + 1) = l.take i ++ [l[i]] := by rw [List.take_add_one, List.getElem?_eq_getElem hi]; rfl
  have hdn : ds.length < 80000 := by have := hs.2.2; rw [List.length_take] at this; omega
  have hbn : b < h.n := by omega
  have og := ho.mono xg (Nat.le_refl _)
  have lg : AEv.loadCells g b (0 + i * 3) 3 = some (encD l[i]) := by simp only [AEv.loadCells] at ld ⊢; rw [xg.get b hbn]; exact ld
  have head : RunF Try.prog Try.f16 none (C (m + 2)) [1, 1, 0, 1, 0, 0, 0] ⟨[(0, .slice b 0 n c), (3, w), (4, .int .i64 (Int.ofNat i))], [], .none, h⟩ .nrm ⟨[(0, .slice b 0 n c), (3, w), (4, .int .i64 (Int.ofNat i))], [], .none, h⟩ := (rsh_1 _ _ _ _ _ _ _ (lt_t (by omega)))
  have xBg : Ext B h g := xg.le hB
  -- what the block does
  have blk : ∃ w' ds' h', OutR B h' w' ds' ∧ SoFar (l.take (i + 1)) ds' ∧ Ext B h h' ∧ RunF Try.prog Try.f16 none (C (m + 2)) [1, 1, 0, 1, 0, 0, 1, 0] ⟨[(0, .slice b 0 n c), (3, w), (4, .int .i64 (Int.ofNat i))], [], .none, h⟩ .nrm ⟨[(0, .slice b 0 n c), (3, w'), (4, .int .i64 (Int.ofNat i))], [], .none, h'⟩ := by
    cases hm : mayB l[i] with
    | false =>
      rw [hm, hd] at v
      rw [hd] at ld
      refine ⟨w, ds, g, og, by rw [tk]; exact hs.skip (.inl hm), xBg, ?_⟩
      exact RunF.block (id := 1) (p := [1, 1, 0, 1, 0, 0, 1, 0]) (by kernel_rfl) (RunF.seqx (p := [1, 1, 0, 1, 0, 0, 1, 0, 0]) (by kernel_rfl) (rsk_1 _ _ _ _ _ _ _ _ _ _ _ _ (by show (_ : Nat) ≤ _; omega) (ld) (v) (rfl)) (by simp))
    | true =>
      rw [hm, hd] at v
      rw [hd] at ld
      have s1 : RunF Try.prog Try.f16 none (C (m + 2)) [1, 1, 0, 1, 0, 0, 1, 0, 0, 0] ⟨[(0, .slice b 0 n c), (3, w), (4, .int .i64 (Int.ofNat i))], [], .none, h⟩ .nrm ⟨[(0, .slice b 0 n c), (3, w), (4, .int .i64 (Int.ofNat i))], [], .none, g⟩ := (rsk_2 _ _ _ _ _ _ _ _ _ _ _ _ (by show (_ : Nat) ≤ _; omega) (ld) (v) (rfl))
      have s2 := rsf (C (m + 2)) (.slice b 0 n c) w i g
      have mid : ∃ k g2, k ≤ ds.length ∧ (∀ j (hj : j < ds.length), j < k → ltD ds[j] l[i]) ∧ (∀ hk : k < ds.length, ¬ ltD ds[k] l[i]) ∧ Ext g.n g g2 ∧ RunF Try.prog Try.f16 none (C (m + 2)) [1, 1, 0, 1, 0, 0, 1, 0, 0, 1, 1, 0] ⟨[(0, .slice b 0 n c), (3, w), (4, .int .i64 (Int.ofNat i)), (5, .int .i64 (Int.ofNat 0))], [], .none, g⟩ .nrm ⟨[(0, .slice b 0 n c), (3, w), (4, .int .i64 (Int.ofNat i)), (5, .int .i64 (Int.ofNat k))], [], .none, g2⟩ := by
        rcases og with ⟨rfl, rfl⟩ | ⟨p, rfl, h2, h3, h4, h5⟩
        · exact ⟨0, g.room 15, Nat.le_refl _, fun j hj => by simp at hj, fun hk => by simp at hk, Ext.roomR (Ext.refl _ _), RunF.block (p := [1, 1, 0, 1, 0, 0, 1, 0, 0, 1, 1, 0]) (by kernel_rfl) (LoopF.run (p := [1, 1, 0, 1, 0, 0, 1, 0, 0, 1, 1, 0, 0]) (by kernel_rfl) (LoopF.exit (n := 0) (rsin (C (m + 2)) (.slice b 0 n c) i g) (by simp)) (by omega))⟩
        · obtain ⟨k, g2, _, k2, k3, k4, x2, lp⟩ := find_loop m b n i c p ds l[i] hm (fun x hx => ((hs.2.1 x).1 hx).2) (by omega) (by omega) (by omega) ds.length 0 g rfl (by omega) h5 (by have := xg.n; omega) h3 lg (fun j hj h0 => by omega)
          exact ⟨k, g2, k2, k3, k4, x2, RunF.block (p := [1, 1, 0, 1, 0, 0, 1, 0, 0, 1, 1, 0]) (by kernel_rfl) (LoopF.run (p := [1, 1, 0, 1, 0, 0, 1, 0, 0, 1, 1, 0, 0]) (by kernel_rfl) lp (by omega))⟩
      obtain ⟨k, g2, k2, k3, k4, x2, s3⟩ := mid
      have og2 := og.mono x2 (Nat.le_refl _)
      have x02 : Ext h.n h g2 := xg.trans xg.n x2
      have lg2 : AEv.loadCells g2 b (0 + i * 3) 3 = some (encD l[i]) := by have := hl i hi; simp only [AEv.loadCells] at this ⊢; rw [x02.get b hbn]; exact this
      -- is it there already?
      have ask : ∀ t : Bool, (t = true ↔ ∃ hk : k < ds.length, ds[k] = l[i]) → RunF Try.prog Try.f16 none (C (m + 2)) [1, 1, 0, 1, 0, 0, 1, 0, 0, 1, 1, 1, 0] ⟨[(0, .slice b 0 n c), (3, w), (4, .int .i64 (Int.ofNat i)), (5, .int .i64 (Int.ofNat k))], [], .none, g2⟩ (if t = true then .exit 1 else .nrm) ⟨[(0, .slice b 0 n c), (3, w), (4, .int .i64 (Int.ofNat i)), (5, .int .i64 (Int.ofNat k))], [], .none, g2.room 15⟩ := by
        intro t ht
        rcases og2 with ⟨rfl, rfl⟩ | ⟨p, rfl, h2, h3, h4, h5⟩
        · obtain rfl : k = 0 := by simpa using k2
          have hf : t = false := by
            cases t with
            | false => rfl
            | true => obtain ⟨hk, _⟩ := ht.1 rfl; simp at hk
          subst hf
          exact rsqn (C (m + 2)) (.slice b 0 n c) i g2
        · by_cases hk : k < ds.length
          · have l1 : AEv.loadCells (g2.room 15) p (0 + k * 3) 3 = some (encD ds[k]) := row_load (off := 0 + k * 3) (rest := []) encD_len (by rw [List.append_nil]; exact h3) hk (by omega)
            have l2 : AEv.loadCells (g2.room 15) b (0 + i * 3) 3 = some (encD l[i]) := lg2
            have bq := bin_eq (g2.room 15) (Operand.tmp 44) (Operand.tmp 48) ds[k] l[i]
            have hq : eqB ds[k] l[i] = t := by
              cases t with
              | true => obtain ⟨_, e⟩ := ht.1 rfl; exact (eqB_iff _ _).2 e
              | false =>
                cases hx : eqB ds[k] l[i] with
                | false => rfl
                | true => exact absurd (ht.2 ⟨hk, (eqB_iff _ _).1 hx⟩) (by simp)
            rw [hq] at bq
            obtain ⟨a2, y1, y2, hd2⟩ : ∃ a z1 z2, ds[k] = (a, z1, z2) := ⟨_, _, _, rfl⟩
            rw [hd2] at l1 bq
            rw [hd] at l2 bq
            have et : ltI (Int.ofNat k) (Int.ofNat ds.length) = true := lt_t (by omega)
            cases t with
            | true => exact (rsq_1 _ _ _ _ _ _ _ _ _ _ _ _ _ _ _ _ _ (lt_t (by omega)) (by show (_ : Nat) ≤ _; omega) (l1) (by show (_ : Nat) ≤ _; omega) (l2) (bq) ((by rw [et]; rfl)) (rfl))
            | false => exact (rsq_2 _ _ _ _ _ _ _ _ _ _ _ _ _ _ _ _ _ (lt_t (by omega)) (by show (_ : Nat) ≤ _; omega) (l1) (by show (_ : Nat) ≤ _; omega) (l2) (bq) ((by rw [et]; rfl)) (rfl))
          · have hf : t = false := by
              cases t with
              | false => rfl
              | true => obtain ⟨hk', _⟩ := ht.1 rfl; exact absurd hk' hk
            subst hf
            have e : ltI (Int.ofNat k) (Int.ofNat ds.length) = false := lt_f (by omega)
            exact (rsq_3 _ _ _ _ _ _ _ _ _ ([]) ([]) (0) (0) (0) (0) (true) _ (lt_f (by omega)) ((by rw [e]; rfl)) ((by rw [e]; rfl)))
      have front : ∀ {e : AEx} {S : SSt}, RunF Try.prog Try.f16 none (C (m + 2)) [1, 1, 0, 1, 0, 0, 1, 0, 0, 1, 1, 1] ⟨[(0, .slice b 0 n c), (3, w), (4, .int .i64 (Int.ofNat i)), (5, .int .i64 (Int.ofNat k))], [], .none, g2⟩ e S → RunF Try.prog Try.f16 none (C (m + 2)) [1, 1, 0, 1, 0, 0, 1, 0, 0] ⟨[(0, .slice b 0 n c), (3, w), (4, .int .i64 (Int.ofNat i))], [], .none, h⟩ e S := fun {e S} hr =>
        RunF.seq (p := [1, 1, 0, 1, 0, 0, 1, 0, 0]) (by kernel_rfl) s1 (RunF.seq (p := [1, 1, 0, 1, 0, 0, 1, 0, 0, 1]) (by kernel_rfl) s2 (RunF.seq (p := [1, 1, 0, 1, 0, 0, 1, 0, 0, 1, 1]) (by kernel_rfl) s3 hr))
      have hBg2 : B ≤ g2.n := Nat.le_trans hB x02.n
      by_cases hk : ∃ hk : k < ds.length, ds[k] = l[i]
      · have q := ask true ⟨fun _ => hk, fun _ => rfl⟩
        rw [if_pos rfl] at q
        obtain ⟨hk1, hk2⟩ := hk
        refine ⟨w, ds, g2.room 15, og2.mono (Ext.roomR (Ext.refl _ _)) (Nat.le_refl _), ?_, (x02.le hB).trans (Nat.le_refl _) (Ext.roomR (Ext.refl _ _)), ?_⟩
        · rw [tk]; exact hs.skip (.inr (by rw [← hk2]; exact List.getElem_mem hk1))
        · exact RunF.block (id := 1) (p := [1, 1, 0, 1, 0, 0, 1, 0]) (by kernel_rfl) (RunP.post (Γ2 := [(0, .slice b 0 n c), (3, w), (4, .int .i64 (Int.ofNat i))]) (front (RunF.seqx (p := [1, 1, 0, 1, 0, 0, 1, 0, 0, 1, 1, 1]) (by kernel_rfl) q (by simp))) ⟨rfl, rfl, rfl, trivial⟩)
      · have q := ask false ⟨(fun h => by cases h), (fun h => absurd h hk)⟩
        rw [if_neg (by simp)] at q
        obtain ⟨w', h', o', x', pr⟩ := put_in (C (m + 2)) B b n i k c w ds l[i] (g2.room 15) (og2.mono (Ext.roomR (Ext.refl _ _)) (Nat.le_refl _)) (by simp; omega) hb (by omega) (by omega) k2 lg2
        refine ⟨w', _, h', o', ?_, ((x02.le hB).trans (Nat.le_refl _) (Ext.roomR (Ext.refl _ _))).trans (Nat.le_refl _) x', ?_⟩
        · rw [tk]
          refine hs.ins hm k2 k3 fun hk' => ?_
          have h1 := k4 hk'
          by_cases h2 : ltD l[i] ds[k]
          · exact h2
          · exact absurd ⟨hk', ltD_tot h1 h2⟩ hk
        · exact RunF.blockx (id := 1) (p := [1, 1, 0, 1, 0, 0, 1, 0]) (by kernel_rfl) (front (RunF.seq (p := [1, 1, 0, 1, 0, 0, 1, 0, 0, 1, 1, 1]) (by kernel_rfl) q pr)) (by simp)
  obtain ⟨w', ds', h', o', s', x', br⟩ := blk
  refine ⟨w', ds', h', o', s', x', ?_⟩
  exact RunF.seq (p := [1, 1, 0, 1, 0, 0]) (by kernel_rfl) head (RunF.seq (p := [1, 1, 0, 1, 0, 0, 1]) (by kernel_rfl) br (rsn _ _ _ _ _ _ (add_n (by omega))))
theorem sort_loop (m B b n : Nat) (c : Cap) (l : List Dg) (hn : l.length = n) (hnB : n < 80000) (hb : b < B) : ∀ (q i : Nat) (w : AV) (ds : List Dg) (h : AHeap), n - i = q → i ≤ n → OutR B h w ds → SoFar (l.take i) ds → B ≤ h.n → (∀ i (hi : i < l.length), AEv.loadCells h b (0 + i * 3) 3 = some (encD l[i])) →
    ∃ w' ds' h', OutR B h' w' ds' ∧ SoFar l ds' ∧ Ext B h h' ∧ LoopF Try.prog Try.f16 none (C (m + 2)) [1, 1, 0, 1, 0] (q + 1) ⟨[(0, .slice b 0 n c), (3, w), (4, .int .i64 (Int.ofNat i))], [], .none, h⟩ (.exit 0) ⟨[(3, w')], [], .none, h'⟩
  | 0, i, w, ds, h, hq, hi, ho, hs, hB, hl => by
    obtain rfl : i = n := by omega
    refine ⟨w, ds, h, ho, ?_, Ext.refl _ _, .exit (RunP.post (RunF.seqx (p := [1, 1, 0, 1, 0, 0]) (by kernel_rfl) (rsh_2 _ _ _ _ _ _ _ (lt_f (by omega))) (by simp)) ⟨rfl, trivial⟩) (by simp)⟩
    rwa [List.take_of_length_le (by omega)] at hs
  | q + 1, i, w, ds, h, hq, hi, ho, hs, hB, hl => by
    obtain ⟨w1, ds1, h1, o1, s1, x1, r1⟩ := sort_round m B b n i c w l ds hn hnB (by omega) h ho hs hB hb hl
    obtain ⟨w', ds', h', o', s', x', lp⟩ := sort_loop m B b n c l hn hnB hb q (i + 1) w1 ds1 h1 (by omega) (by omega) o1 s1 (Nat.le_trans hB x1.n) (fun j hj => by
      have := hl j hj; simp only [AEv.loadCells] at this ⊢; rw [x1.get b hb]; exact this)
    exact ⟨w', ds', h', o', s', x1.trans (Nat.le_refl _) x', .step r1 lp⟩
theorem rsort_c (m : Nat) (v : AV) (l : List Dg) (h : AHeap) (hr : RowR h v l) (hb : l.length < 80000) :
    ∃ w h', C (m + 3) (.fn 16) [v] h = .ret w h' ∧ Ext h.n h h' ∧ OutR h.n h' w (sortedL l) := by
  have s0 : SoFar [] [] := ⟨List.Pairwise.nil, fun x => by simp, Nat.le_refl _⟩
  rcases hr with ⟨rfl, rfl⟩ | ⟨b, c, rfl, hbn, hl⟩
  · have loop := LoopF.run (p := [1, 1, 0, 1, 0]) (by kernel_rfl) (LoopF.exit (n := 0) (RunF.seqx (p := [1, 1, 0, 1, 0, 0]) (by kernel_rfl) (rsz (C (m + 2)) .nilS h) (by simp)) (by simp)) (by omega)
    refine ⟨.nilS, h, fn_runF (intr := Ii) (n := m + 2) (args := [.nilS]) Try.func16 (by kernel_rfl) rfl (by kernel_rfl) (rso (C (m + 2)) .nilS .nilS h h (RunP.pre loop ⟨rfl, rfl, rfl, trivial⟩ rfl rfl rfl)) (.inl rfl) (by kernel_rfl), Ext.refl _ _, .inl ⟨rfl, ?_⟩⟩
    exact (sortedL_eq s0.1 s0.2.1).symm
  · by_cases h0 : l.length = 0
    · have hln : l = [] := List.eq_nil_of_length_eq_zero h0
      subst hln
      have loop := LoopF.run (p := [1, 1, 0, 1, 0]) (by kernel_rfl) (LoopF.exit (n := 0) (RunP.post (Γ2 := [(3, .nilS)]) (RunF.seqx (p := [1, 1, 0, 1, 0, 0]) (by kernel_rfl) (rsh_2 (C (m + 2)) b 0 0 c .nilS h rfl) (by simp)) ⟨rfl, trivial⟩) (by simp)) (by omega)
      refine ⟨.nilS, h, fn_runF (intr := Ii) (n := m + 2) (args := [.slice b 0 0 c]) Try.func16 (by kernel_rfl) rfl (by kernel_rfl) (rso (C (m + 2)) (.slice b 0 0 c) .nilS h h (RunP.pre loop ⟨rfl, rfl, rfl, trivial⟩ rfl rfl rfl)) (.inl rfl) (by kernel_rfl), Ext.refl _ _, .inl ⟨rfl, ?_⟩⟩
      exact (sortedL_eq s0.1 s0.2.1).symm
    · obtain ⟨w, ds, h', o, s, x, lp⟩ := sort_loop m h.n b l.length c l rfl hb (hbn (by omega)) l.length 0 .nilS [] h rfl (by omega) (.inl ⟨rfl, rfl⟩) s0 (Nat.le_refl _) hl
      have loop := LoopF.run (p := [1, 1, 0, 1, 0]) (by kernel_rfl) lp (by omega)
      refine ⟨w, h', fn_runF (intr := Ii) (n := m + 2) (args := [.slice b 0 l.length c]) Try.func16 (by kernel_rfl) rfl (by kernel_rfl) (rso (C (m + 2)) (.slice b 0 l.length c) w h h' (RunP.pre loop ⟨rfl, rfl, rfl, trivial⟩ rfl rfl rfl)) (.inl rfl) (by kernel_rfl), x, ?_⟩
      rwa [← sortedL_eq s.1 s.2.1]
end Go.Proofs.Wire

namespace Go.Proofs.Wire
open Go AEv Go.Proofs Go.Proofs.Enc
set_option maxRecDepth 100000
set_option maxHeartbeats 1000000

/-! ### The document's bytes; words; DiagSorts -/
theorem re_loop (m b n : Nat) (c : Cap) (ds : List Dg) (hn : ds.length = n) (hb : n < 90000) (hmay : ∀ d ∈ ds, mayB d = true) : ∀ (q i : Nat) (s : List UInt8) (h : AHeap), n - i = q → i ≤ n → (0 < n → b < h.n) → s.length ≤ 10 + i * 300 → (∀ i (hi : i < ds.length), AEv.loadCells h b (0 + i * 3) 3 = some (encD ds[i])) →
    ∃ h', Ext h.n h h' ∧ LoopF Try.prog Try.f18 none (C (m + 3)) [1, 1, 1, 0, 1, 0] (q + 1) ⟨[(0, .slice b 0 n c), (3, .str s), (4, .int .i64 (Int.ofNat i))], [], .none, h⟩ (.exit 0) ⟨[(3, .str (s ++ (ds.drop i).flatMap dgT))], [], .none, h'⟩
  | 0, i, s, h, hq, hi, hbh, hs, hl => by
    obtain rfl : i = n := by omega
    have hd : ds.drop i = [] := List.drop_eq_nil_of_le (by omega)
    rw [hd]
    exact ⟨h, Ext.refl _ _, .exit (RunP.post (renl_2 _ _ _ _ _ ([]) _ (0) (0) _ (lt_f (by omega))) ⟨by simp [lk], trivial⟩) (by simp)⟩
  | q + 1, i, s, h, hq, hi, hbh, hs, hl => by
    have hii : i < ds.length := by omega
    have hb0 := hbh (by omega)
    have hm := hmay ds[i] (List.getElem_mem hii)
    have hdr : ds.drop i = ds[i] :: ds.drop (i + 1) := List.drop_eq_getElem_cons hii
    have hld := hl i hii
    obtain ⟨a, x, x2, hd, hx, hx2, ha⟩ := mayB_nat hm
    rw [hd] at hld
    have hdg : dgT ds[i] = textL a ++ (numL x ++ numL x2) := by rw [hd]; rfl
    rw [hdr, List.flatMap_cons, hdg]
    obtain ⟨l0, l1, l2⟩ := load_field hld
    have t1 := textL_len a
    have t2 := numL_len x
    have t3 := numL_len x2
    obtain ⟨g1, v1, y1⟩ := rputtext_c m s a h (by omega) (by omega)
    obtain ⟨g2, v2, y2⟩ := rputnum_c (m + 1) x (s ++ textL a) g1 (by omega) (by rw [List.length_append]; omega)
    obtain ⟨g3, v3, y3⟩ := rputnum_c (m + 1) x2 (s ++ textL a ++ numL x) g2 (by omega) (by rw [List.length_append, List.length_append]; omega)
    have z2 : Ext h.n h g2 := y1.trans y1.n y2
    have z3 : Ext h.n h g3 := z2.trans z2.n y3
    have l1' : load1 g1 b (0 + i * 3 + 1) = some (.int .i64 (Int.ofNat x)) := by simp only [load1] at l1 ⊢; rw [y1.get b hb0]; exact l1
    have l2' : load1 g2 b (0 + i * 3 + 2) = some (.int .i64 (Int.ofNat x2)) := by simp only [load1] at l2 ⊢; rw [z2.get b hb0]; exact l2
    obtain ⟨h', z, l⟩ := re_loop m b n c ds hn hb hmay q (i + 1) (s ++ textL a ++ numL x ++ numL x2) g3 (by omega) (by omega) (fun _ => Nat.lt_of_lt_of_le hb0 z3.n) (by rw [List.length_append, List.length_append, List.length_append]; omega) (fun j hj => by have := hl j hj; simp only [AEv.loadCells] at this ⊢; rw [z3.get b hb0]; exact this)
    have e : s ++ textL a ++ numL x ++ numL x2 ++ (ds.drop (i + 1)).flatMap dgT = s ++ (textL a ++ (numL x ++ numL x2) ++ (ds.drop (i + 1)).flatMap dgT) := by simp only [List.append_assoc]
    rw [e] at l
    refine ⟨h', z3.trans z3.n z, .step ?_ l⟩
    exact (renl_1 _ _ _ _ _ ([]) _ (0) (0) _ _ _ _ _ _ _ _ _ _ _ _ _ (lt_t (by omega)) (by show (_ : Nat) ≤ _; omega) (l0) (v1) (l1') (conv_u64 x (by omega) g1) (v2) (l2') (conv_u64 x2 (by omega) g2) (v3) (add_n (by omega)))
theorem rencode_c (m : Nat) (v : AV) (ds : List Dg) (h : AHeap) (hr : RowR h v ds) (hb : ds.length < 80000) :
    ∃ h', C (m + 4) (.fn 18) [v] h = .ret (.str (encT (sortedL ds))) h' ∧ Ext h.n h h' := by
  obtain ⟨w, g1, c1, x1, r1⟩ := rsort_c m v ds h hr hb
  have hlen := sortedL_len ds
  obtain ⟨g2, c2, x2⟩ := rputnum_c (m + 1) (sortedL ds).length [] g1 (by omega) (by simp)
  rw [List.nil_append] at c2
  have hnl := numL_len (sortedL ds).length
  have ex : Ext h.n h g2 := x1.trans x1.n x2
  rcases r1 with ⟨rfl, h0⟩ | ⟨p, rfl, hp0, hg, hBp, hpn⟩
  · rw [h0] at c2 ⊢
    have e : encT [] = numL 0 := by simp [encT]
    rw [e]
    have l0 : LoopF Try.prog Try.f18 none (C (m + 3)) [1, 1, 1, 0, 1, 0] (0 + 1) ⟨[(0, .nilS), (3, .str (numL 0)), (4, .int .i64 (Int.ofNat 0))], [], .none, g2⟩ (.exit 0) ⟨[(3, .str (numL 0))], [], .none, g2⟩ := .exit (rnzl (C (m + 3)) (numL 0) g2) (by simp)
    have loop := LoopF.run (p := [1, 1, 1, 0, 1, 0]) (by kernel_rfl) l0 (by omega)
    exact ⟨g2, fn_runF (intr := Ii) (n := m + 3) (args := [v]) Try.func18 (by kernel_rfl) rfl (by kernel_rfl) (rnz _ _ _ _ _ _ _ _ (c1) (c2) (RunP.pre loop ⟨rfl, rfl, rfl, trivial⟩ rfl rfl rfl)) (.inl rfl) (by kernel_rfl), ex⟩
  · obtain ⟨g3, x3, l3⟩ := re_loop m p (sortedL ds).length (.opn 3) (sortedL ds) rfl (by omega) (fun d hd => (mem_sortedL.1 hd).2) (sortedL ds).length 0 (numL (sortedL ds).length) g2 rfl (by omega) (fun _ => by have := x2.n; omega) (by omega) (fun i hi => row_load (off := 0 + i * 3) (rest := []) encD_len (by rw [List.append_nil]; exact (x2.get p hpn).trans hg) hi (by omega))
    have loop := LoopF.run (p := [1, 1, 1, 0, 1, 0]) (by kernel_rfl) l3 (by omega)
    exact ⟨g3, fn_runF (intr := Ii) (n := m + 3) (args := [v]) Try.func18 (by kernel_rfl) rfl (by kernel_rfl) (ren _ _ _ _ _ _ _ _ _ _ _ _ (c1) (conv_u64 _ (by omega) g1) (c2) (RunP.pre loop ⟨rfl, rfl, rfl, trivial⟩ rfl rfl rfl)) (.inl rfl) (by kernel_rfl), ex.trans ex.n x3⟩

/-! ### DiagSorts -/
end Go.Proofs.Wire
