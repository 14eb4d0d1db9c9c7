/-
  PROVED HERE: contracts of functions (Dj). No condition beside each statement's own.
-/
import Derived.Test.YtphbddifiklkpaaDoorDi
import Derived.Test.YtphbddifiklkpaaDoorDh
set_option linter.unusedVariables false
set_option linter.unusedSimpArgs false
namespace Go.Proofs.Lx
open Go AEv Go.Proofs Lexp
set_option maxRecDepth 100000
set_option maxHeartbeats 1000000

theorem rx0 (call : CallT → List AV → AHeap → FRes) (s : List UInt8) (h : AHeap) :
    RunF Tryd.prog Tryd.f14 none call [0] (SSt.mk [(0, .str s)] [] .none h) (.nrm)
      (SSt.mk [(0, .str s), (2, .nilS), (3, .ptr (AHeap.n h) 0)] [] .none (AHeap.push h (.cells [.int .i64 (.ofNat 0), .int .i64 (.ofNat 0)] 38 .own 0 0))) :=
  sxF_run [0, 2, 3, 4, 5] (hs := []) (by kernel_rfl) <| .nil
theorem rx1 (call : CallT → List AV → AHeap → FRes) (f : Nat) (s : List UInt8) (h : AHeap) :
    RunF Tryd.prog Tryd.f14 none call [1, 0] (SSt.mk [(0, .str s), (3, .ptr f 0)] [] .none h) (.nrm)
      (SSt.mk [(0, .str s), (3, .ptr f 0), (4, .nilS)] [] .none h) :=
  sxF_run [0, 3, 4] (hs := []) (by kernel_rfl) <| .nil
theorem rx2 (call : CallT → List AV → AHeap → FRes) (f : Nat) (v : AV) (s : List UInt8) (h : AHeap) :
    RunF Tryd.prog Tryd.f14 none call [1, 1, 0] (SSt.mk [(0, .str s), (3, .ptr f 0), (4, v)] [] .none h) (.nrm)
      (SSt.mk [(0, .str s), (3, .ptr f 0), (4, v), (5, .int .i64 (.ofNat 0))] [] .none h) :=
  sxF_run [0, 3, 4, 5] (hs := []) (by kernel_rfl) <| .nil
theorem rxe (call : CallT → List AV → AHeap → FRes) (f a : Nat) (v w : AV) (h g3 g_1 : AHeap)
    (H1 : appendA Tryd.prog (AHeap.push h (AObj.cells [AV.int IntKind.i64 (Int.ofNat 0), AV.str [], AV.int IntKind.i64 (Int.ofNat 0), AV.int IntKind.i64 (Int.ofNat a)] 30 BK.own 0 0)) 24 (some 24) v (AV.slice (AHeap.n h) 0 1 (Cap.exact 1)) = some (w, g3))
    (H2 : AEv.storeCells g3 f 0 [.int .i64 (.ofNat 0), .int .i64 (.ofNat 0)] = some g_1) :
    RunF Tryd.prog Tryd.f14 none call [1, 1, 1, 1] (SSt.mk [(3, .ptr f 0), (4, v), (5, .int .i64 (.ofNat a))] [] .none h) (.ret)
      (SSt.mk [(2, w), (3, .ptr f 0)] [] .none g_1) :=
  sxF_run [2, 3] (hs := [.vh w g3, .vh (.tup []) g_1]) (by kernel_rfl) <| .cons H1 <| .cons (⟨by kernel_rfl, H2, rfl⟩ : some 2 = some 2 ∧ AEv.storeCells g3 f 0 [AV.int IntKind.i64 (Int.ofNat 0), AV.int IntKind.i64 (Int.ofNat 0)] = some g_1 ∧ AV.tup [] = AV.tup []) <| .nil
theorem rxx (call : CallT → List AV → AHeap → FRes) (f a n e p k x q : Nat) (b : Bool) (v w : AV) (s t : List UInt8) (h g g1 g2 g3 : AHeap)
    (H1 : ltI (.ofNat a) (.ofNat (List.length s)) = false) :
    RunF Tryd.prog Tryd.f14 none call [1, 1, 1, 0, 0, 0] (SSt.mk [(0, .str s), (3, .ptr f 0), (4, v), (5, .int .i64 (.ofNat a))] [] .none h) (.exit 0)
      (SSt.mk [(0, .str s), (3, .ptr f 0), (4, v), (5, .int .i64 (.ofNat a))] [] .none h) :=
  sxF_run [0, 3, 4, 5] (hs := [.b false]) (by kernel_rfl) <| .cons H1 <| .nil
theorem rxb1 (call : CallT → List AV → AHeap → FRes) (f a n e p k x q : Nat) (b : Bool) (v w : AV) (s t : List UInt8) (h g g1 g2 g3 : AHeap) (n_1 : Nat) (g_1 : AHeap) (n_2 : Nat)
    (H1 : ltI (.ofNat a) (.ofNat (List.length s)) = true)
    (H2 : idxS a s = some (.int .u8 (.ofNat n_1)))
    (H3 : AEv.storeCells (AHeap.push h (.cells [.int .i64 (.ofNat 0), .str [], .int .i64 (.ofNat 0), .int .i64 (.ofNat 0)] 30 .own 0 0)) (AHeap.n h) 0 [.int .i64 (.ofNat 0), .str [], .int .i64 (.ofNat 0), .int .i64 (.ofNat a)] = some g_1)
    (H4 : eqI (.ofNat n_1) (.ofNat 32) = true)
    (H5 : arith .add .i64 (.ofNat a) (.ofNat 1) = some (.int .i64 (.ofNat n_2))) :
    RunF Tryd.prog Tryd.f14 none call [1, 1, 1, 0, 0, 0] (SSt.mk [(0, .str s), (3, .ptr f 0), (4, v), (5, .int .i64 (.ofNat a))] [] .none h) (.nrm)
      (SSt.mk [(0, .str s), (3, .ptr f 0), (4, v), (5, .int .i64 (.ofNat n_2))] [] .none g_1) :=
  sxF_run [0, 3, 4, 5] (hs := [.b true, .v (.int .u8 (.ofNat n_1)), .vh (.tup []) g_1, .b true, .b true, .b true, .b true, .b true, .b true, .b true, .b true, .b true, .b true, .v (.int .i64 (.ofNat n_2))]) (by kernel_rfl) <| .cons H1 <| .cons H2 <| .cons (⟨by kernel_rfl, H3, rfl⟩ : some 4 = some 4 ∧ AEv.storeCells (AHeap.push h (AObj.cells [AV.int IntKind.i64 (Int.ofNat 0), AV.str [], AV.int IntKind.i64 (Int.ofNat 0), AV.int IntKind.i64 (Int.ofNat 0)] 30 BK.own 0 0)) (AHeap.n h) 0 [AV.int IntKind.i64 (Int.ofNat 0), AV.str [], AV.int IntKind.i64 (Int.ofNat 0), AV.int IntKind.i64 (Int.ofNat a)] = some g_1 ∧ AV.tup [] = AV.tup []) <| .cons H4 <| .cons H4 <| .cons H4 <| .cons (by kernel_rfl : true = true) <| .cons (by kernel_rfl : true = true) <| .cons (by kernel_rfl : true = true) <| .cons (by kernel_rfl : true = true) <| .cons (by kernel_rfl : true = true) <| .cons (by kernel_rfl : true = true) <| .cons (by kernel_rfl : true = true) <| .cons H5 <| .nil
theorem rxb2 (call : CallT → List AV → AHeap → FRes) (f a n e p k x q : Nat) (b : Bool) (v w : AV) (s t : List UInt8) (h g g1 g2 g3 : AHeap) (n_1 : Nat) (g_1 : AHeap) (n_2 : Nat)
    (H1 : ltI (.ofNat a) (.ofNat (List.length s)) = true)
    (H2 : idxS a s = some (.int .u8 (.ofNat n_1)))
    (H3 : AEv.storeCells (AHeap.push h (.cells [.int .i64 (.ofNat 0), .str [], .int .i64 (.ofNat 0), .int .i64 (.ofNat 0)] 30 .own 0 0)) (AHeap.n h) 0 [.int .i64 (.ofNat 0), .str [], .int .i64 (.ofNat 0), .int .i64 (.ofNat a)] = some g_1)
    (H4 : eqI (.ofNat n_1) (.ofNat 32) = false)
    (H5 : eqI (.ofNat n_1) (.ofNat 9) = true)
    (H6 : arith .add .i64 (.ofNat a) (.ofNat 1) = some (.int .i64 (.ofNat n_2))) :
    RunF Tryd.prog Tryd.f14 none call [1, 1, 1, 0, 0, 0] (SSt.mk [(0, .str s), (3, .ptr f 0), (4, v), (5, .int .i64 (.ofNat a))] [] .none h) (.nrm)
      (SSt.mk [(0, .str s), (3, .ptr f 0), (4, v), (5, .int .i64 (.ofNat n_2))] [] .none g_1) :=
  sxF_run [0, 3, 4, 5] (hs := [.b true, .v (.int .u8 (.ofNat n_1)), .vh (.tup []) g_1, .b false, .b false, .b false, .b true, .b true, .b true, .b true, .b true, .b true, .b true, .v (.int .i64 (.ofNat n_2))]) (by kernel_rfl) <| .cons H1 <| .cons H2 <| .cons (⟨by kernel_rfl, H3, rfl⟩ : some 4 = some 4 ∧ AEv.storeCells (AHeap.push h (AObj.cells [AV.int IntKind.i64 (Int.ofNat 0), AV.str [], AV.int IntKind.i64 (Int.ofNat 0), AV.int IntKind.i64 (Int.ofNat 0)] 30 BK.own 0 0)) (AHeap.n h) 0 [AV.int IntKind.i64 (Int.ofNat 0), AV.str [], AV.int IntKind.i64 (Int.ofNat 0), AV.int IntKind.i64 (Int.ofNat a)] = some g_1 ∧ AV.tup [] = AV.tup []) <| .cons H4 <| .cons H4 <| .cons H4 <| .cons H5 <| .cons H5 <| .cons H5 <| .cons (by kernel_rfl : true = true) <| .cons (by kernel_rfl : true = true) <| .cons (by kernel_rfl : true = true) <| .cons (by kernel_rfl : true = true) <| .cons H6 <| .nil
theorem rxb3 (call : CallT → List AV → AHeap → FRes) (f a n e p k x q : Nat) (b : Bool) (v w : AV) (s t : List UInt8) (h g g1 g2 g3 : AHeap) (n_1 : Nat) (g_1 : AHeap) (n_2 : Nat)
    (H1 : ltI (.ofNat a) (.ofNat (List.length s)) = true)
    (H2 : idxS a s = some (.int .u8 (.ofNat n_1)))
    (H3 : AEv.storeCells (AHeap.push h (.cells [.int .i64 (.ofNat 0), .str [], .int .i64 (.ofNat 0), .int .i64 (.ofNat 0)] 30 .own 0 0)) (AHeap.n h) 0 [.int .i64 (.ofNat 0), .str [], .int .i64 (.ofNat 0), .int .i64 (.ofNat a)] = some g_1)
    (H4 : eqI (.ofNat n_1) (.ofNat 32) = false)
    (H5 : eqI (.ofNat n_1) (.ofNat 9) = false)
    (H6 : eqI (.ofNat n_1) (.ofNat 10) = true)
    (H7 : arith .add .i64 (.ofNat a) (.ofNat 1) = some (.int .i64 (.ofNat n_2))) :
    RunF Tryd.prog Tryd.f14 none call [1, 1, 1, 0, 0, 0] (SSt.mk [(0, .str s), (3, .ptr f 0), (4, v), (5, .int .i64 (.ofNat a))] [] .none h) (.nrm)
      (SSt.mk [(0, .str s), (3, .ptr f 0), (4, v), (5, .int .i64 (.ofNat n_2))] [] .none g_1) :=
  sxF_run [0, 3, 4, 5] (hs := [.b true, .v (.int .u8 (.ofNat n_1)), .vh (.tup []) g_1, .b false, .b false, .b false, .b false, .b false, .b false, .b true, .b true, .b true, .b true, .v (.int .i64 (.ofNat n_2))]) (by kernel_rfl) <| .cons H1 <| .cons H2 <| .cons (⟨by kernel_rfl, H3, rfl⟩ : some 4 = some 4 ∧ AEv.storeCells (AHeap.push h (AObj.cells [AV.int IntKind.i64 (Int.ofNat 0), AV.str [], AV.int IntKind.i64 (Int.ofNat 0), AV.int IntKind.i64 (Int.ofNat 0)] 30 BK.own 0 0)) (AHeap.n h) 0 [AV.int IntKind.i64 (Int.ofNat 0), AV.str [], AV.int IntKind.i64 (Int.ofNat 0), AV.int IntKind.i64 (Int.ofNat a)] = some g_1 ∧ AV.tup [] = AV.tup []) <| .cons H4 <| .cons H4 <| .cons H4 <| .cons H5 <| .cons H5 <| .cons H5 <| .cons H6 <| .cons H6 <| .cons H6 <| .cons (by kernel_rfl : true = true) <| .cons H7 <| .nil
theorem rxb4 (call : CallT → List AV → AHeap → FRes) (f a n e p k x q : Nat) (b : Bool) (v w : AV) (s t : List UInt8) (h g g1 g2 g3 : AHeap) (n_1 : Nat) (g_1 : AHeap) (n_2 : Nat)
    (H1 : ltI (.ofNat a) (.ofNat (List.length s)) = true)
    (H2 : idxS a s = some (.int .u8 (.ofNat n_1)))
    (H3 : AEv.storeCells (AHeap.push h (.cells [.int .i64 (.ofNat 0), .str [], .int .i64 (.ofNat 0), .int .i64 (.ofNat 0)] 30 .own 0 0)) (AHeap.n h) 0 [.int .i64 (.ofNat 0), .str [], .int .i64 (.ofNat 0), .int .i64 (.ofNat a)] = some g_1)
    (H4 : eqI (.ofNat n_1) (.ofNat 32) = false)
    (H5 : eqI (.ofNat n_1) (.ofNat 9) = false)
    (H6 : eqI (.ofNat n_1) (.ofNat 10) = false)
    (H7 : eqI (.ofNat n_1) (.ofNat 13) = true)
    (H8 : arith .add .i64 (.ofNat a) (.ofNat 1) = some (.int .i64 (.ofNat n_2))) :
    RunF Tryd.prog Tryd.f14 none call [1, 1, 1, 0, 0, 0] (SSt.mk [(0, .str s), (3, .ptr f 0), (4, v), (5, .int .i64 (.ofNat a))] [] .none h) (.nrm)
      (SSt.mk [(0, .str s), (3, .ptr f 0), (4, v), (5, .int .i64 (.ofNat n_2))] [] .none g_1) :=
  sxF_run [0, 3, 4, 5] (hs := [.b true, .v (.int .u8 (.ofNat n_1)), .vh (.tup []) g_1, .b false, .b false, .b false, .b false, .b false, .b false, .b false, .b false, .b false, .b true, .v (.int .i64 (.ofNat n_2))]) (by kernel_rfl) <| .cons H1 <| .cons H2 <| .cons (⟨by kernel_rfl, H3, rfl⟩ : some 4 = some 4 ∧ AEv.storeCells (AHeap.push h (AObj.cells [AV.int IntKind.i64 (Int.ofNat 0), AV.str [], AV.int IntKind.i64 (Int.ofNat 0), AV.int IntKind.i64 (Int.ofNat 0)] 30 BK.own 0 0)) (AHeap.n h) 0 [AV.int IntKind.i64 (Int.ofNat 0), AV.str [], AV.int IntKind.i64 (Int.ofNat 0), AV.int IntKind.i64 (Int.ofNat a)] = some g_1 ∧ AV.tup [] = AV.tup []) <| .cons H4 <| .cons H4 <| .cons H4 <| .cons H5 <| .cons H5 <| .cons H5 <| .cons H6 <| .cons H6 <| .cons H6 <| .cons H7 <| .cons H8 <| .nil
theorem rxr (call : CallT → List AV → AHeap → FRes) (f a n e p k x q : Nat) (b : Bool) (v w : AV) (s t : List UInt8) (h g g1 g2 g3 : AHeap) (n_1 : Nat) (g_1 : AHeap)
    (H1 : ltI (.ofNat a) (.ofNat (List.length s)) = true)
    (H2 : idxS a s = some (.int .u8 (.ofNat n_1)))
    (H3 : AEv.storeCells (AHeap.push h (.cells [.int .i64 (.ofNat 0), .str [], .int .i64 (.ofNat 0), .int .i64 (.ofNat 0)] 30 .own 0 0)) (AHeap.n h) 0 [.int .i64 (.ofNat 0), .str [], .int .i64 (.ofNat 0), .int .i64 (.ofNat a)] = some g_1)
    (H4 : eqI (.ofNat n_1) (.ofNat 32) = false)
    (H5 : eqI (.ofNat n_1) (.ofNat 9) = false)
    (H6 : eqI (.ofNat n_1) (.ofNat 10) = false)
    (H7 : eqI (.ofNat n_1) (.ofNat 13) = false)
    (H8 : eqI (.ofNat n_1) (.ofNat 35) = true)
    (H9 : call (.fn 24) [.str s, .int .i64 (.ofNat a)] g_1 = FRes.ret (.tup [.int .i64 (.ofNat n), .bool true]) g) :
    RunF Tryd.prog Tryd.f14 none call [1, 1, 1, 0, 0, 0] (SSt.mk [(0, .str s), (3, .ptr f 0), (4, v), (5, .int .i64 (.ofNat a))] [] .none h) (.nrm)
      (SSt.mk [(0, .str s), (3, .ptr f 0), (4, v), (5, .int .i64 (.ofNat n))] [] .none g) :=
  sxF_run [0, 3, 4, 5] (hs := [.b true, .v (.int .u8 (.ofNat n_1)), .vh (.tup []) g_1, .b false, .b false, .b false, .b false, .b false, .b false, .b false, .b false, .b false, .b false, .b true, .c (.tup [.int .i64 (.ofNat n), .bool true]) g, .b false]) (by kernel_rfl) <| .cons H1 <| .cons H2 <| .cons (⟨by kernel_rfl, H3, rfl⟩ : some 4 = some 4 ∧ AEv.storeCells (AHeap.push h (AObj.cells [AV.int IntKind.i64 (Int.ofNat 0), AV.str [], AV.int IntKind.i64 (Int.ofNat 0), AV.int IntKind.i64 (Int.ofNat 0)] 30 BK.own 0 0)) (AHeap.n h) 0 [AV.int IntKind.i64 (Int.ofNat 0), AV.str [], AV.int IntKind.i64 (Int.ofNat 0), AV.int IntKind.i64 (Int.ofNat a)] = some g_1 ∧ AV.tup [] = AV.tup []) <| .cons H4 <| .cons H4 <| .cons H4 <| .cons H5 <| .cons H5 <| .cons H5 <| .cons H6 <| .cons H6 <| .cons H6 <| .cons H7 <| .cons H8 <| .cons H9 <| .cons (by kernel_rfl : (!true) = false) <| .nil
theorem rxrb (call : CallT → List AV → AHeap → FRes) (f a n e p k x q : Nat) (b : Bool) (v w : AV) (s t : List UInt8) (h g g1 g2 g3 : AHeap) (n_1 : Nat) (g_1 g_2 : AHeap)
    (H1 : ltI (.ofNat a) (.ofNat (List.length s)) = true)
    (H2 : idxS a s = some (.int .u8 (.ofNat n_1)))
    (H3 : AEv.storeCells (AHeap.push h (.cells [.int .i64 (.ofNat 0), .str [], .int .i64 (.ofNat 0), .int .i64 (.ofNat 0)] 30 .own 0 0)) (AHeap.n h) 0 [.int .i64 (.ofNat 0), .str [], .int .i64 (.ofNat 0), .int .i64 (.ofNat a)] = some g_1)
    (H4 : eqI (.ofNat n_1) (.ofNat 32) = false)
    (H5 : eqI (.ofNat n_1) (.ofNat 9) = false)
    (H6 : eqI (.ofNat n_1) (.ofNat 10) = false)
    (H7 : eqI (.ofNat n_1) (.ofNat 13) = false)
    (H8 : eqI (.ofNat n_1) (.ofNat 35) = true)
    (H9 : call (.fn 24) [.str s, .int .i64 (.ofNat a)] g_1 = FRes.ret (.tup [.int .i64 (.ofNat n), .bool false]) g)
    (H10 : AEv.storeCells g f 0 [.int .i64 (.ofNat 10), .int .i64 (.ofNat n)] = some g_2) :
    RunF Tryd.prog Tryd.f14 none call [1, 1, 1, 0, 0, 0] (SSt.mk [(0, .str s), (3, .ptr f 0), (4, v), (5, .int .i64 (.ofNat a))] [] .none h) (.ret)
      (SSt.mk [(2, .nilS), (3, .ptr f 0)] [] .none g_2) :=
  sxF_run [2, 3] (hs := [.b true, .v (.int .u8 (.ofNat n_1)), .vh (.tup []) g_1, .b false, .b false, .b false, .b false, .b false, .b false, .b false, .b false, .b false, .b false, .b true, .c (.tup [.int .i64 (.ofNat n), .bool false]) g, .b true, .vh (.tup []) g_2]) (by kernel_rfl) <| .cons H1 <| .cons H2 <| .cons (⟨by kernel_rfl, H3, rfl⟩ : some 4 = some 4 ∧ AEv.storeCells (AHeap.push h (AObj.cells [AV.int IntKind.i64 (Int.ofNat 0), AV.str [], AV.int IntKind.i64 (Int.ofNat 0), AV.int IntKind.i64 (Int.ofNat 0)] 30 BK.own 0 0)) (AHeap.n h) 0 [AV.int IntKind.i64 (Int.ofNat 0), AV.str [], AV.int IntKind.i64 (Int.ofNat 0), AV.int IntKind.i64 (Int.ofNat a)] = some g_1 ∧ AV.tup [] = AV.tup []) <| .cons H4 <| .cons H4 <| .cons H4 <| .cons H5 <| .cons H5 <| .cons H5 <| .cons H6 <| .cons H6 <| .cons H6 <| .cons H7 <| .cons H8 <| .cons H9 <| .cons (by kernel_rfl : (!false) = true) <| .cons (⟨by kernel_rfl, H10, rfl⟩ : some 2 = some 2 ∧ AEv.storeCells g f 0 [AV.int IntKind.i64 (Int.ofNat 10), AV.int IntKind.i64 (Int.ofNat n)] = some g_2 ∧ AV.tup [] = AV.tup []) <| .nil
theorem rxw1 (call : CallT → List AV → AHeap → FRes) (f a n e p k x q : Nat) (b : Bool) (v w : AV) (s t : List UInt8) (h g g1 g2 g3 : AHeap) (n_1 : Nat) (g_1 g_2 : AHeap) (t_1 : List UInt8) (g_3 g_4 : AHeap)
    (H1 : ltI (.ofNat a) (.ofNat (List.length s)) = true)
    (H2 : idxS a s = some (.int .u8 (.ofNat n_1)))
    (H3 : AEv.storeCells (AHeap.push h (.cells [.int .i64 (.ofNat 0), .str [], .int .i64 (.ofNat 0), .int .i64 (.ofNat 0)] 30 .own 0 0)) (AHeap.n h) 0 [.int .i64 (.ofNat 0), .str [], .int .i64 (.ofNat 0), .int .i64 (.ofNat a)] = some g_1)
    (H4 : eqI (.ofNat n_1) (.ofNat 32) = false)
    (H5 : eqI (.ofNat n_1) (.ofNat 9) = false)
    (H6 : eqI (.ofNat n_1) (.ofNat 10) = false)
    (H7 : eqI (.ofNat n_1) (.ofNat 13) = false)
    (H8 : eqI (.ofNat n_1) (.ofNat 35) = false)
    (H9 : call (.fn 25) [.int .u8 (.ofNat n_1)] g_1 = FRes.ret (.bool true) g)
    (H10 : RunF Tryd.prog Tryd.f14 none call [1, 1, 1, 0, 0, 0, 1, 0, 1, 1, 1, 0, 0, 1, 1, 1, 1, 1, 0, 0, 0] (SSt.mk [(71, .bool true), (57, .bool (eqI (.ofNat n_1) (.ofNat 35))), (40, .bool (eqI (.ofNat n_1) (.ofNat 13))), (8, .ptr (AHeap.n h) 0), (7, .int .i64 (.ofNat a)), (6, .int .u8 (.ofNat n_1)), (18, .bool (ltI (.ofNat a) (.ofNat (List.length s)))), (0, .str s), (3, .ptr f 0), (4, v), (5, .int .i64 (.ofNat a))] [] .none g) (.exit 3) (SSt.mk [(0, .str s), (3, .ptr f 0), (4, v), (5, .int .i64 (.ofNat a)), (7, .int .i64 (.ofNat e)), (8, .ptr p 0)] [] .none g1))
    (H11 : AEv.storeCells g1 p (0 + 0) [.int .i64 (.ofNat 1)] = some g_2)
    (H12 : sliceA Tryd.prog g_2 9 (AV.str s) (some (AV.int IntKind.i64 (Int.ofNat a))) (some (AV.int IntKind.i64 (Int.ofNat e))) none = some (AV.str t_1))
    (H13 : AEv.storeCells g_2 p (0 + 1) [.str t_1] = some g_3)
    (H14 : load1 g_3 p (0 + 1) = some (.str t))
    (H15 : call (.fn 10) [.str t] g_3 = FRes.ret (.bool true) g2)
    (H16 : AEv.storeCells g2 p (0 + 0) [.int .i64 (.ofNat 2)] = some g_4)
    (H17 : load1 g_4 p (0 + 1) = some (.str t))
    (H18 : ltI (.ofNat 24) (.ofNat (List.length t)) = false)
    (H19 : AEv.loadCells g_4 p 0 4 = some [.int .i64 (.ofNat k), .str t, .int .i64 (.ofNat x), .int .i64 (.ofNat q)])
    (H20 : appendA Tryd.prog (AHeap.push g_4 (AObj.cells [AV.int IntKind.i64 (Int.ofNat k), AV.str t, AV.int IntKind.i64 (Int.ofNat x), AV.int IntKind.i64 (Int.ofNat q)] 30 BK.own 0 0)) 24 (some 24) v (AV.slice (AHeap.n g_4) 0 1 (Cap.exact 1)) = some (w, g3)) :
    RunF Tryd.prog Tryd.f14 none call [1, 1, 1, 0, 0, 0] (SSt.mk [(0, .str s), (3, .ptr f 0), (4, v), (5, .int .i64 (.ofNat a))] [] .none h) (.nrm)
      (SSt.mk [(0, .str s), (3, .ptr f 0), (4, w), (5, .int .i64 (.ofNat e))] [] .none g3) :=
  sxF_run [0, 3, 4, 5] (hs := [Hint.b true, Hint.v (AV.int IntKind.u8 (Int.ofNat n_1)), Hint.vh (AV.tup []) g_1, Hint.b false, Hint.b false, Hint.b false, Hint.b false, Hint.b false, Hint.b false, Hint.b false, Hint.b false, Hint.b false, Hint.b false, Hint.b false, Hint.c (AV.bool true) g, Hint.b true, Hint.loop (AEx.exit 3) (SSt.mk [(0, AV.str s), (3, AV.ptr f 0), (4, v), (5, AV.int IntKind.i64 (Int.ofNat a)), (7, AV.int IntKind.i64 (Int.ofNat e)), (8, AV.ptr p 0)] [] Rc.none g1), Hint.vh (AV.tup []) g_2, Hint.v (AV.str t_1), Hint.vh (AV.tup []) g_3, Hint.v (AV.str t), Hint.c (AV.bool true) g2, Hint.b true, Hint.vh (AV.tup []) g_4, Hint.v (AV.str t), Hint.b false, Hint.v (AV.agg [AV.int IntKind.i64 (Int.ofNat k), AV.str t, AV.int IntKind.i64 (Int.ofNat x), AV.int IntKind.i64 (Int.ofNat q)]), Hint.vh w g3]) (by kernel_rfl) <| .cons H1 <| .cons H2 <| .cons (⟨by kernel_rfl, H3, rfl⟩ : some 4 = some 4 ∧ AEv.storeCells (AHeap.push h (AObj.cells [AV.int IntKind.i64 (Int.ofNat 0), AV.str [], AV.int IntKind.i64 (Int.ofNat 0), AV.int IntKind.i64 (Int.ofNat 0)] 30 BK.own 0 0)) (AHeap.n h) 0 [AV.int IntKind.i64 (Int.ofNat 0), AV.str [], AV.int IntKind.i64 (Int.ofNat 0), AV.int IntKind.i64 (Int.ofNat a)] = some g_1 ∧ AV.tup [] = AV.tup []) <| .cons H4 <| .cons H4 <| .cons H4 <| .cons H5 <| .cons H5 <| .cons H5 <| .cons H6 <| .cons H6 <| .cons H6 <| .cons H7 <| .cons H8 <| .cons H9 <| .cons (by kernel_rfl : true = true) <| .cons H10 <| .cons (⟨by kernel_rfl, H11, rfl⟩ : some 1 = some 1 ∧ AEv.storeCells g1 p (0 + 0) [AV.int IntKind.i64 (Int.ofNat 1)] = some g_2 ∧ AV.tup [] = AV.tup []) <| .cons H12 <| .cons (⟨by kernel_rfl, H13, rfl⟩ : some 1 = some 1 ∧ AEv.storeCells g_2 p (0 + 1) [AV.str t_1] = some g_3 ∧ AV.tup [] = AV.tup []) <| .cons H14 <| .cons H15 <| .cons (by kernel_rfl : true = true) <| .cons (⟨by kernel_rfl, H16, rfl⟩ : some 1 = some 1 ∧ AEv.storeCells g2 p (0 + 0) [AV.int IntKind.i64 (Int.ofNat 2)] = some g_4 ∧ AV.tup [] = AV.tup []) <| .cons H17 <| .cons H18 <| .cons H19 <| .cons H20 <| .nil
theorem rxw2 (call : CallT → List AV → AHeap → FRes) (f a n e p k x q : Nat) (b : Bool) (v w : AV) (s t : List UInt8) (h g g1 g2 g3 : AHeap) (n_1 : Nat) (g_1 g_2 : AHeap) (t_1 : List UInt8) (g_3 : AHeap)
    (H1 : ltI (.ofNat a) (.ofNat (List.length s)) = true)
    (H2 : idxS a s = some (.int .u8 (.ofNat n_1)))
    (H3 : AEv.storeCells (AHeap.push h (.cells [.int .i64 (.ofNat 0), .str [], .int .i64 (.ofNat 0), .int .i64 (.ofNat 0)] 30 .own 0 0)) (AHeap.n h) 0 [.int .i64 (.ofNat 0), .str [], .int .i64 (.ofNat 0), .int .i64 (.ofNat a)] = some g_1)
    (H4 : eqI (.ofNat n_1) (.ofNat 32) = false)
    (H5 : eqI (.ofNat n_1) (.ofNat 9) = false)
    (H6 : eqI (.ofNat n_1) (.ofNat 10) = false)
    (H7 : eqI (.ofNat n_1) (.ofNat 13) = false)
    (H8 : eqI (.ofNat n_1) (.ofNat 35) = false)
    (H9 : call (.fn 25) [.int .u8 (.ofNat n_1)] g_1 = FRes.ret (.bool true) g)
    (H10 : RunF Tryd.prog Tryd.f14 none call [1, 1, 1, 0, 0, 0, 1, 0, 1, 1, 1, 0, 0, 1, 1, 1, 1, 1, 0, 0, 0] (SSt.mk [(71, .bool true), (57, .bool (eqI (.ofNat n_1) (.ofNat 35))), (40, .bool (eqI (.ofNat n_1) (.ofNat 13))), (8, .ptr (AHeap.n h) 0), (7, .int .i64 (.ofNat a)), (6, .int .u8 (.ofNat n_1)), (18, .bool (ltI (.ofNat a) (.ofNat (List.length s)))), (0, .str s), (3, .ptr f 0), (4, v), (5, .int .i64 (.ofNat a))] [] .none g) (.exit 3) (SSt.mk [(0, .str s), (3, .ptr f 0), (4, v), (5, .int .i64 (.ofNat a)), (7, .int .i64 (.ofNat e)), (8, .ptr p 0)] [] .none g1))
    (H11 : AEv.storeCells g1 p (0 + 0) [.int .i64 (.ofNat 1)] = some g_2)
    (H12 : sliceA Tryd.prog g_2 9 (AV.str s) (some (AV.int IntKind.i64 (Int.ofNat a))) (some (AV.int IntKind.i64 (Int.ofNat e))) none = some (AV.str t_1))
    (H13 : AEv.storeCells g_2 p (0 + 1) [.str t_1] = some g_3)
    (H14 : load1 g_3 p (0 + 1) = some (.str t))
    (H15 : call (.fn 10) [.str t] g_3 = FRes.ret (.bool false) g2)
    (H16 : load1 g2 p (0 + 1) = some (.str t))
    (H17 : ltI (.ofNat 24) (.ofNat (List.length t)) = false)
    (H18 : AEv.loadCells g2 p 0 4 = some [.int .i64 (.ofNat k), .str t, .int .i64 (.ofNat x), .int .i64 (.ofNat q)])
    (H19 : appendA Tryd.prog (AHeap.push g2 (AObj.cells [AV.int IntKind.i64 (Int.ofNat k), AV.str t, AV.int IntKind.i64 (Int.ofNat x), AV.int IntKind.i64 (Int.ofNat q)] 30 BK.own 0 0)) 24 (some 24) v (AV.slice (AHeap.n g2) 0 1 (Cap.exact 1)) = some (w, g3)) :
    RunF Tryd.prog Tryd.f14 none call [1, 1, 1, 0, 0, 0] (SSt.mk [(0, .str s), (3, .ptr f 0), (4, v), (5, .int .i64 (.ofNat a))] [] .none h) (.nrm)
      (SSt.mk [(0, .str s), (3, .ptr f 0), (4, w), (5, .int .i64 (.ofNat e))] [] .none g3) :=
  sxF_run [0, 3, 4, 5] (hs := [Hint.b true, Hint.v (AV.int IntKind.u8 (Int.ofNat n_1)), Hint.vh (AV.tup []) g_1, Hint.b false, Hint.b false, Hint.b false, Hint.b false, Hint.b false, Hint.b false, Hint.b false, Hint.b false, Hint.b false, Hint.b false, Hint.b false, Hint.c (AV.bool true) g, Hint.b true, Hint.loop (AEx.exit 3) (SSt.mk [(0, AV.str s), (3, AV.ptr f 0), (4, v), (5, AV.int IntKind.i64 (Int.ofNat a)), (7, AV.int IntKind.i64 (Int.ofNat e)), (8, AV.ptr p 0)] [] Rc.none g1), Hint.vh (AV.tup []) g_2, Hint.v (AV.str t_1), Hint.vh (AV.tup []) g_3, Hint.v (AV.str t), Hint.c (AV.bool false) g2, Hint.b false, Hint.v (AV.str t), Hint.b false, Hint.v (AV.agg [AV.int IntKind.i64 (Int.ofNat k), AV.str t, AV.int IntKind.i64 (Int.ofNat x), AV.int IntKind.i64 (Int.ofNat q)]), Hint.vh w g3]) (by kernel_rfl) <| .cons H1 <| .cons H2 <| .cons (⟨by kernel_rfl, H3, rfl⟩ : some 4 = some 4 ∧ AEv.storeCells (AHeap.push h (AObj.cells [AV.int IntKind.i64 (Int.ofNat 0), AV.str [], AV.int IntKind.i64 (Int.ofNat 0), AV.int IntKind.i64 (Int.ofNat 0)] 30 BK.own 0 0)) (AHeap.n h) 0 [AV.int IntKind.i64 (Int.ofNat 0), AV.str [], AV.int IntKind.i64 (Int.ofNat 0), AV.int IntKind.i64 (Int.ofNat a)] = some g_1 ∧ AV.tup [] = AV.tup []) <| .cons H4 <| .cons H4 <| .cons H4 <| .cons H5 <| .cons H5 <| .cons H5 <| .cons H6 <| .cons H6 <| .cons H6 <| .cons H7 <| .cons H8 <| .cons H9 <| .cons (by kernel_rfl : true = true) <| .cons H10 <| .cons (⟨by kernel_rfl, H11, rfl⟩ : some 1 = some 1 ∧ AEv.storeCells g1 p (0 + 0) [AV.int IntKind.i64 (Int.ofNat 1)] = some g_2 ∧ AV.tup [] = AV.tup []) <| .cons H12 <| .cons (⟨by kernel_rfl, H13, rfl⟩ : some 1 = some 1 ∧ AEv.storeCells g_2 p (0 + 1) [AV.str t_1] = some g_3 ∧ AV.tup [] = AV.tup []) <| .cons H14 <| .cons H15 <| .cons (by kernel_rfl : false = false) <| .cons H16 <| .cons H17 <| .cons H18 <| .cons H19 <| .nil
theorem rxwb2 (call : CallT → List AV → AHeap → FRes) (f a n e p k x q : Nat) (b : Bool) (v w : AV) (s t : List UInt8) (h g g1 g2 g3 : AHeap) (n_1 : Nat) (g_1 g_2 : AHeap) (t_1 : List UInt8) (g_3 g_4 : AHeap)
    (H1 : ltI (.ofNat a) (.ofNat (List.length s)) = true)
    (H2 : idxS a s = some (.int .u8 (.ofNat n_1)))
    (H3 : AEv.storeCells (AHeap.push h (.cells [.int .i64 (.ofNat 0), .str [], .int .i64 (.ofNat 0), .int .i64 (.ofNat 0)] 30 .own 0 0)) (AHeap.n h) 0 [.int .i64 (.ofNat 0), .str [], .int .i64 (.ofNat 0), .int .i64 (.ofNat a)] = some g_1)
    (H4 : eqI (.ofNat n_1) (.ofNat 32) = false)
    (H5 : eqI (.ofNat n_1) (.ofNat 9) = false)
    (H6 : eqI (.ofNat n_1) (.ofNat 10) = false)
    (H7 : eqI (.ofNat n_1) (.ofNat 13) = false)
    (H8 : eqI (.ofNat n_1) (.ofNat 35) = false)
    (H9 : call (.fn 25) [.int .u8 (.ofNat n_1)] g_1 = FRes.ret (.bool true) g)
    (H10 : RunF Tryd.prog Tryd.f14 none call [1, 1, 1, 0, 0, 0, 1, 0, 1, 1, 1, 0, 0, 1, 1, 1, 1, 1, 0, 0, 0] (SSt.mk [(71, .bool true), (57, .bool (eqI (.ofNat n_1) (.ofNat 35))), (40, .bool (eqI (.ofNat n_1) (.ofNat 13))), (8, .ptr (AHeap.n h) 0), (7, .int .i64 (.ofNat a)), (6, .int .u8 (.ofNat n_1)), (18, .bool (ltI (.ofNat a) (.ofNat (List.length s)))), (0, .str s), (3, .ptr f 0), (4, v), (5, .int .i64 (.ofNat a))] [] .none g) (.exit 3) (SSt.mk [(0, .str s), (3, .ptr f 0), (4, v), (5, .int .i64 (.ofNat a)), (7, .int .i64 (.ofNat e)), (8, .ptr p 0)] [] .none g1))
    (H11 : AEv.storeCells g1 p (0 + 0) [.int .i64 (.ofNat 1)] = some g_2)
    (H12 : sliceA Tryd.prog g_2 9 (AV.str s) (some (AV.int IntKind.i64 (Int.ofNat a))) (some (AV.int IntKind.i64 (Int.ofNat e))) none = some (AV.str t_1))
    (H13 : AEv.storeCells g_2 p (0 + 1) [.str t_1] = some g_3)
    (H14 : load1 g_3 p (0 + 1) = some (.str t))
    (H15 : call (.fn 10) [.str t] g_3 = FRes.ret (.bool false) g2)
    (H16 : load1 g2 p (0 + 1) = some (.str t))
    (H17 : ltI (.ofNat 24) (.ofNat (List.length t)) = true)
    (H18 : AEv.storeCells g2 f 0 [.int .i64 (.ofNat 10), .int .i64 (.ofNat a)] = some g_4) :
    RunF Tryd.prog Tryd.f14 none call [1, 1, 1, 0, 0, 0] (SSt.mk [(0, .str s), (3, .ptr f 0), (4, v), (5, .int .i64 (.ofNat a))] [] .none h) (.ret)
      (SSt.mk [(2, .nilS), (3, .ptr f 0)] [] .none g_4) :=
  sxF_run [2, 3] (hs := [Hint.b true, Hint.v (AV.int IntKind.u8 (Int.ofNat n_1)), Hint.vh (AV.tup []) g_1, Hint.b false, Hint.b false, Hint.b false, Hint.b false, Hint.b false, Hint.b false, Hint.b false, Hint.b false, Hint.b false, Hint.b false, Hint.b false, Hint.c (AV.bool true) g, Hint.b true, Hint.loop (AEx.exit 3) (SSt.mk [(0, AV.str s), (3, AV.ptr f 0), (4, v), (5, AV.int IntKind.i64 (Int.ofNat a)), (7, AV.int IntKind.i64 (Int.ofNat e)), (8, AV.ptr p 0)] [] Rc.none g1), Hint.vh (AV.tup []) g_2, Hint.v (AV.str t_1), Hint.vh (AV.tup []) g_3, Hint.v (AV.str t), Hint.c (AV.bool false) g2, Hint.b false, Hint.v (AV.str t), Hint.b true, Hint.vh (AV.tup []) g_4]) (by kernel_rfl) <| .cons H1 <| .cons H2 <| .cons (⟨by kernel_rfl, H3, rfl⟩ : some 4 = some 4 ∧ AEv.storeCells (AHeap.push h (AObj.cells [AV.int IntKind.i64 (Int.ofNat 0), AV.str [], AV.int IntKind.i64 (Int.ofNat 0), AV.int IntKind.i64 (Int.ofNat 0)] 30 BK.own 0 0)) (AHeap.n h) 0 [AV.int IntKind.i64 (Int.ofNat 0), AV.str [], AV.int IntKind.i64 (Int.ofNat 0), AV.int IntKind.i64 (Int.ofNat a)] = some g_1 ∧ AV.tup [] = AV.tup []) <| .cons H4 <| .cons H4 <| .cons H4 <| .cons H5 <| .cons H5 <| .cons H5 <| .cons H6 <| .cons H6 <| .cons H6 <| .cons H7 <| .cons H8 <| .cons H9 <| .cons (by kernel_rfl : true = true) <| .cons H10 <| .cons (⟨by kernel_rfl, H11, rfl⟩ : some 1 = some 1 ∧ AEv.storeCells g1 p (0 + 0) [AV.int IntKind.i64 (Int.ofNat 1)] = some g_2 ∧ AV.tup [] = AV.tup []) <| .cons H12 <| .cons (⟨by kernel_rfl, H13, rfl⟩ : some 1 = some 1 ∧ AEv.storeCells g_2 p (0 + 1) [AV.str t_1] = some g_3 ∧ AV.tup [] = AV.tup []) <| .cons H14 <| .cons H15 <| .cons (by kernel_rfl : false = false) <| .cons H16 <| .cons H17 <| .cons (⟨by kernel_rfl, H18, rfl⟩ : some 2 = some 2 ∧ AEv.storeCells g2 f 0 [AV.int IntKind.i64 (Int.ofNat 10), AV.int IntKind.i64 (Int.ofNat a)] = some g_4 ∧ AV.tup [] = AV.tup []) <| .nil
theorem rxd (call : CallT → List AV → AHeap → FRes) (f a n e p k x q : Nat) (b : Bool) (v w : AV) (s t : List UInt8) (h g g1 g2 g3 : AHeap) (n_1 : Nat) (g_1 g_2 : AHeap)
    (H1 : ltI (.ofNat a) (.ofNat (List.length s)) = true)
    (H2 : idxS a s = some (.int .u8 (.ofNat n_1)))
    (H3 : AEv.storeCells (AHeap.push h (.cells [.int .i64 (.ofNat 0), .str [], .int .i64 (.ofNat 0), .int .i64 (.ofNat 0)] 30 .own 0 0)) (AHeap.n h) 0 [.int .i64 (.ofNat 0), .str [], .int .i64 (.ofNat 0), .int .i64 (.ofNat a)] = some g_1)
    (H4 : eqI (.ofNat n_1) (.ofNat 32) = false)
    (H5 : eqI (.ofNat n_1) (.ofNat 9) = false)
    (H6 : eqI (.ofNat n_1) (.ofNat 10) = false)
    (H7 : eqI (.ofNat n_1) (.ofNat 13) = false)
    (H8 : eqI (.ofNat n_1) (.ofNat 35) = false)
    (H9 : call (.fn 25) [.int .u8 (.ofNat n_1)] g_1 = FRes.ret (.bool false) g)
    (H10 : call (.fn 26) [.int .u8 (.ofNat n_1)] g = FRes.ret (.bool true) g1)
    (H11 : AEv.storeCells g1 (AHeap.n h) (0 + 0) [.int .i64 (.ofNat 3)] = some g_2)
    (H12 : RunF Tryd.prog Tryd.f14 none call [1, 1, 1, 0, 0, 0, 1, 0, 1, 1, 1, 0, 0, 1, 1, 1, 1, 1, 1, 1, 0, 1, 0] (SSt.mk [(108, .bool true), (71, .bool false), (57, .bool (eqI (.ofNat n_1) (.ofNat 35))), (40, .bool (eqI (.ofNat n_1) (.ofNat 13))), (8, .ptr (AHeap.n h) 0), (7, .int .i64 (.ofNat a)), (6, .int .u8 (.ofNat n_1)), (18, .bool (ltI (.ofNat a) (.ofNat (List.length s)))), (0, .str s), (3, .ptr f 0), (4, v), (5, .int .i64 (.ofNat a))] [] .none g_2) (.exit 5) (SSt.mk [(0, .str s), (3, .ptr f 0), (4, v), (5, .int .i64 (.ofNat a)), (7, .int .i64 (.ofNat e)), (8, .ptr p 0)] [] .none g2))
    (H13 : AEv.loadCells g2 p 0 4 = some [.int .i64 (.ofNat k), .str t, .int .i64 (.ofNat x), .int .i64 (.ofNat q)])
    (H14 : appendA Tryd.prog (AHeap.push g2 (AObj.cells [AV.int IntKind.i64 (Int.ofNat k), AV.str t, AV.int IntKind.i64 (Int.ofNat x), AV.int IntKind.i64 (Int.ofNat q)] 30 BK.own 0 0)) 24 (some 24) v (AV.slice (AHeap.n g2) 0 1 (Cap.exact 1)) = some (w, g3)) :
    RunF Tryd.prog Tryd.f14 none call [1, 1, 1, 0, 0, 0] (SSt.mk [(0, .str s), (3, .ptr f 0), (4, v), (5, .int .i64 (.ofNat a))] [] .none h) (.nrm)
      (SSt.mk [(0, .str s), (3, .ptr f 0), (4, w), (5, .int .i64 (.ofNat e))] [] .none g3) :=
  sxF_run [0, 3, 4, 5] (hs := [Hint.b true, Hint.v (AV.int IntKind.u8 (Int.ofNat n_1)), Hint.vh (AV.tup []) g_1, Hint.b false, Hint.b false, Hint.b false, Hint.b false, Hint.b false, Hint.b false, Hint.b false, Hint.b false, Hint.b false, Hint.b false, Hint.b false, Hint.c (AV.bool false) g, Hint.b false, Hint.c (AV.bool true) g1, Hint.b true, Hint.vh (AV.tup []) g_2, Hint.loop (AEx.exit 5) (SSt.mk [(0, AV.str s), (3, AV.ptr f 0), (4, v), (5, AV.int IntKind.i64 (Int.ofNat a)), (7, AV.int IntKind.i64 (Int.ofNat e)), (8, AV.ptr p 0)] [] Rc.none g2), Hint.v (AV.agg [AV.int IntKind.i64 (Int.ofNat k), AV.str t, AV.int IntKind.i64 (Int.ofNat x), AV.int IntKind.i64 (Int.ofNat q)]), Hint.vh w g3]) (by kernel_rfl) <| .cons H1 <| .cons H2 <| .cons (⟨by kernel_rfl, H3, rfl⟩ : some 4 = some 4 ∧ AEv.storeCells (AHeap.push h (AObj.cells [AV.int IntKind.i64 (Int.ofNat 0), AV.str [], AV.int IntKind.i64 (Int.ofNat 0), AV.int IntKind.i64 (Int.ofNat 0)] 30 BK.own 0 0)) (AHeap.n h) 0 [AV.int IntKind.i64 (Int.ofNat 0), AV.str [], AV.int IntKind.i64 (Int.ofNat 0), AV.int IntKind.i64 (Int.ofNat a)] = some g_1 ∧ AV.tup [] = AV.tup []) <| .cons H4 <| .cons H4 <| .cons H4 <| .cons H5 <| .cons H5 <| .cons H5 <| .cons H6 <| .cons H6 <| .cons H6 <| .cons H7 <| .cons H8 <| .cons H9 <| .cons (by kernel_rfl : false = false) <| .cons H10 <| .cons (by kernel_rfl : true = true) <| .cons (⟨by kernel_rfl, H11, rfl⟩ : some 1 = some 1 ∧ AEv.storeCells g1 (AHeap.n h) (0 + 0) [AV.int IntKind.i64 (Int.ofNat 3)] = some g_2 ∧ AV.tup [] = AV.tup []) <| .cons H12 <| .cons H13 <| .cons H14 <| .nil
theorem rxdb (call : CallT → List AV → AHeap → FRes) (f a n e p k x q : Nat) (b : Bool) (v w : AV) (s t : List UInt8) (h g g1 g2 g3 : AHeap) (n_1 : Nat) (g_1 g_2 : AHeap)
    (H1 : ltI (.ofNat a) (.ofNat (List.length s)) = true)
    (H2 : idxS a s = some (.int .u8 (.ofNat n_1)))
    (H3 : AEv.storeCells (AHeap.push h (.cells [.int .i64 (.ofNat 0), .str [], .int .i64 (.ofNat 0), .int .i64 (.ofNat 0)] 30 .own 0 0)) (AHeap.n h) 0 [.int .i64 (.ofNat 0), .str [], .int .i64 (.ofNat 0), .int .i64 (.ofNat a)] = some g_1)
    (H4 : eqI (.ofNat n_1) (.ofNat 32) = false)
    (H5 : eqI (.ofNat n_1) (.ofNat 9) = false)
    (H6 : eqI (.ofNat n_1) (.ofNat 10) = false)
    (H7 : eqI (.ofNat n_1) (.ofNat 13) = false)
    (H8 : eqI (.ofNat n_1) (.ofNat 35) = false)
    (H9 : call (.fn 25) [.int .u8 (.ofNat n_1)] g_1 = FRes.ret (.bool false) g)
    (H10 : call (.fn 26) [.int .u8 (.ofNat n_1)] g = FRes.ret (.bool true) g1)
    (H11 : AEv.storeCells g1 (AHeap.n h) (0 + 0) [.int .i64 (.ofNat 3)] = some g_2)
    (H12 : RunF Tryd.prog Tryd.f14 none call [1, 1, 1, 0, 0, 0, 1, 0, 1, 1, 1, 0, 0, 1, 1, 1, 1, 1, 1, 1, 0, 1, 0] (SSt.mk [(108, .bool true), (71, .bool false), (57, .bool (eqI (.ofNat n_1) (.ofNat 35))), (40, .bool (eqI (.ofNat n_1) (.ofNat 13))), (8, .ptr (AHeap.n h) 0), (7, .int .i64 (.ofNat a)), (6, .int .u8 (.ofNat n_1)), (18, .bool (ltI (.ofNat a) (.ofNat (List.length s)))), (0, .str s), (3, .ptr f 0), (4, v), (5, .int .i64 (.ofNat a))] [] .none g_2) (.ret) (SSt.mk [(2, .nilS), (3, .ptr f 0)] [] .none g2)) :
    RunF Tryd.prog Tryd.f14 none call [1, 1, 1, 0, 0, 0] (SSt.mk [(0, .str s), (3, .ptr f 0), (4, v), (5, .int .i64 (.ofNat a))] [] .none h) (.ret)
      (SSt.mk [(2, .nilS), (3, .ptr f 0)] [] .none g2) :=
  sxF_run [2, 3] (hs := [Hint.b true, Hint.v (AV.int IntKind.u8 (Int.ofNat n_1)), Hint.vh (AV.tup []) g_1, Hint.b false, Hint.b false, Hint.b false, Hint.b false, Hint.b false, Hint.b false, Hint.b false, Hint.b false, Hint.b false, Hint.b false, Hint.b false, Hint.c (AV.bool false) g, Hint.b false, Hint.c (AV.bool true) g1, Hint.b true, Hint.vh (AV.tup []) g_2, Hint.loop AEx.ret (SSt.mk [(2, AV.nilS), (3, AV.ptr f 0)] [] Rc.none g2)]) (by kernel_rfl) <| .cons H1 <| .cons H2 <| .cons (⟨by kernel_rfl, H3, rfl⟩ : some 4 = some 4 ∧ AEv.storeCells (AHeap.push h (AObj.cells [AV.int IntKind.i64 (Int.ofNat 0), AV.str [], AV.int IntKind.i64 (Int.ofNat 0), AV.int IntKind.i64 (Int.ofNat 0)] 30 BK.own 0 0)) (AHeap.n h) 0 [AV.int IntKind.i64 (Int.ofNat 0), AV.str [], AV.int IntKind.i64 (Int.ofNat 0), AV.int IntKind.i64 (Int.ofNat a)] = some g_1 ∧ AV.tup [] = AV.tup []) <| .cons H4 <| .cons H4 <| .cons H4 <| .cons H5 <| .cons H5 <| .cons H5 <| .cons H6 <| .cons H6 <| .cons H6 <| .cons H7 <| .cons H8 <| .cons H9 <| .cons (by kernel_rfl : false = false) <| .cons H10 <| .cons (by kernel_rfl : true = true) <| .cons (⟨by kernel_rfl, H11, rfl⟩ : some 1 = some 1 ∧ AEv.storeCells g1 (AHeap.n h) (0 + 0) [AV.int IntKind.i64 (Int.ofNat 3)] = some g_2 ∧ AV.tup [] = AV.tup []) <| .cons H12 <| .nil
theorem rxq (call : CallT → List AV → AHeap → FRes) (f a n e p k x q : Nat) (b : Bool) (v w : AV) (s t : List UInt8) (h g g1 g2 g3 : AHeap) (n_1 : Nat) (g_1 g_2 g_3 : AHeap)
    (H1 : ltI (.ofNat a) (.ofNat (List.length s)) = true)
    (H2 : idxS a s = some (.int .u8 (.ofNat n_1)))
    (H3 : AEv.storeCells (AHeap.push h (.cells [.int .i64 (.ofNat 0), .str [], .int .i64 (.ofNat 0), .int .i64 (.ofNat 0)] 30 .own 0 0)) (AHeap.n h) 0 [.int .i64 (.ofNat 0), .str [], .int .i64 (.ofNat 0), .int .i64 (.ofNat a)] = some g_1)
    (H4 : eqI (.ofNat n_1) (.ofNat 32) = false)
    (H5 : eqI (.ofNat n_1) (.ofNat 9) = false)
    (H6 : eqI (.ofNat n_1) (.ofNat 10) = false)
    (H7 : eqI (.ofNat n_1) (.ofNat 13) = false)
    (H8 : eqI (.ofNat n_1) (.ofNat 35) = false)
    (H9 : call (.fn 25) [.int .u8 (.ofNat n_1)] g_1 = FRes.ret (.bool false) g)
    (H10 : call (.fn 26) [.int .u8 (.ofNat n_1)] g = FRes.ret (.bool false) g1)
    (H11 : eqI (.ofNat n_1) (.ofNat 34) = true)
    (H12 : call (.fn 27) [.str s, .int .i64 (.ofNat a)] g1 = FRes.ret (.tup [.str t, .int .i64 (.ofNat n), .bool true]) g2)
    (H13 : AEv.storeCells g2 (AHeap.n h) (0 + 0) [.int .i64 (.ofNat 4)] = some g_2)
    (H14 : AEv.storeCells g_2 (AHeap.n h) (0 + 1) [.str t] = some g_3)
    (H15 : AEv.loadCells g_3 (AHeap.n h) 0 4 = some [.int .i64 (.ofNat k), .str t, .int .i64 (.ofNat x), .int .i64 (.ofNat q)])
    (H16 : appendA Tryd.prog (AHeap.push g_3 (AObj.cells [AV.int IntKind.i64 (Int.ofNat k), AV.str t, AV.int IntKind.i64 (Int.ofNat x), AV.int IntKind.i64 (Int.ofNat q)] 30 BK.own 0 0)) 24 (some 24) v (AV.slice (AHeap.n g_3) 0 1 (Cap.exact 1)) = some (w, g3)) :
    RunF Tryd.prog Tryd.f14 none call [1, 1, 1, 0, 0, 0] (SSt.mk [(0, .str s), (3, .ptr f 0), (4, v), (5, .int .i64 (.ofNat a))] [] .none h) (.nrm)
      (SSt.mk [(0, .str s), (3, .ptr f 0), (4, w), (5, .int .i64 (.ofNat n))] [] .none g3) :=
  sxF_run [0, 3, 4, 5] (hs := [.b true, .v (.int .u8 (.ofNat n_1)), .vh (.tup []) g_1, .b false, .b false, .b false, .b false, .b false, .b false, .b false, .b false, .b false, .b false, .b false, .c (.bool false) g, .b false, .c (.bool false) g1, .b false, .b true, .c (.tup [.str t, .int .i64 (.ofNat n), .bool true]) g2, .b false, .vh (.tup []) g_2, .vh (.tup []) g_3, .v (.agg [.int .i64 (.ofNat k), .str t, .int .i64 (.ofNat x), .int .i64 (.ofNat q)]), .vh w g3]) (by kernel_rfl) <| .cons H1 <| .cons H2 <| .cons (⟨by kernel_rfl, H3, rfl⟩ : some 4 = some 4 ∧ AEv.storeCells (AHeap.push h (AObj.cells [AV.int IntKind.i64 (Int.ofNat 0), AV.str [], AV.int IntKind.i64 (Int.ofNat 0), AV.int IntKind.i64 (Int.ofNat 0)] 30 BK.own 0 0)) (AHeap.n h) 0 [AV.int IntKind.i64 (Int.ofNat 0), AV.str [], AV.int IntKind.i64 (Int.ofNat 0), AV.int IntKind.i64 (Int.ofNat a)] = some g_1 ∧ AV.tup [] = AV.tup []) <| .cons H4 <| .cons H4 <| .cons H4 <| .cons H5 <| .cons H5 <| .cons H5 <| .cons H6 <| .cons H6 <| .cons H6 <| .cons H7 <| .cons H8 <| .cons H9 <| .cons (by kernel_rfl : false = false) <| .cons H10 <| .cons (by kernel_rfl : false = false) <| .cons H11 <| .cons H12 <| .cons (by kernel_rfl : (!true) = false) <| .cons (⟨by kernel_rfl, H13, rfl⟩ : some 1 = some 1 ∧ AEv.storeCells g2 (AHeap.n h) (0 + 0) [AV.int IntKind.i64 (Int.ofNat 4)] = some g_2 ∧ AV.tup [] = AV.tup []) <| .cons (⟨by kernel_rfl, H14, rfl⟩ : some 1 = some 1 ∧ AEv.storeCells g_2 (AHeap.n h) (0 + 1) [AV.str t] = some g_3 ∧ AV.tup [] = AV.tup []) <| .cons H15 <| .cons H16 <| .nil
theorem rxqb (call : CallT → List AV → AHeap → FRes) (f a n e p k x q : Nat) (b : Bool) (v w : AV) (s t : List UInt8) (h g g1 g2 g3 : AHeap) (n_1 : Nat) (g_1 g_2 : AHeap)
    (H1 : ltI (.ofNat a) (.ofNat (List.length s)) = true)
    (H2 : idxS a s = some (.int .u8 (.ofNat n_1)))
    (H3 : AEv.storeCells (AHeap.push h (.cells [.int .i64 (.ofNat 0), .str [], .int .i64 (.ofNat 0), .int .i64 (.ofNat 0)] 30 .own 0 0)) (AHeap.n h) 0 [.int .i64 (.ofNat 0), .str [], .int .i64 (.ofNat 0), .int .i64 (.ofNat a)] = some g_1)
    (H4 : eqI (.ofNat n_1) (.ofNat 32) = false)
    (H5 : eqI (.ofNat n_1) (.ofNat 9) = false)
    (H6 : eqI (.ofNat n_1) (.ofNat 10) = false)
    (H7 : eqI (.ofNat n_1) (.ofNat 13) = false)
    (H8 : eqI (.ofNat n_1) (.ofNat 35) = false)
    (H9 : call (.fn 25) [.int .u8 (.ofNat n_1)] g_1 = FRes.ret (.bool false) g)
    (H10 : call (.fn 26) [.int .u8 (.ofNat n_1)] g = FRes.ret (.bool false) g1)
    (H11 : eqI (.ofNat n_1) (.ofNat 34) = true)
    (H12 : call (.fn 27) [.str s, .int .i64 (.ofNat a)] g1 = FRes.ret (.tup [.str t, .int .i64 (.ofNat n), .bool false]) g2)
    (H13 : AEv.storeCells g2 f 0 [.int .i64 (.ofNat 10), .int .i64 (.ofNat n)] = some g_2) :
    RunF Tryd.prog Tryd.f14 none call [1, 1, 1, 0, 0, 0] (SSt.mk [(0, .str s), (3, .ptr f 0), (4, v), (5, .int .i64 (.ofNat a))] [] .none h) (.ret)
      (SSt.mk [(2, .nilS), (3, .ptr f 0)] [] .none g_2) :=
  sxF_run [2, 3] (hs := [.b true, .v (.int .u8 (.ofNat n_1)), .vh (.tup []) g_1, .b false, .b false, .b false, .b false, .b false, .b false, .b false, .b false, .b false, .b false, .b false, .c (.bool false) g, .b false, .c (.bool false) g1, .b false, .b true, .c (.tup [.str t, .int .i64 (.ofNat n), .bool false]) g2, .b true, .vh (.tup []) g_2]) (by kernel_rfl) <| .cons H1 <| .cons H2 <| .cons (⟨by kernel_rfl, H3, rfl⟩ : some 4 = some 4 ∧ AEv.storeCells (AHeap.push h (AObj.cells [AV.int IntKind.i64 (Int.ofNat 0), AV.str [], AV.int IntKind.i64 (Int.ofNat 0), AV.int IntKind.i64 (Int.ofNat 0)] 30 BK.own 0 0)) (AHeap.n h) 0 [AV.int IntKind.i64 (Int.ofNat 0), AV.str [], AV.int IntKind.i64 (Int.ofNat 0), AV.int IntKind.i64 (Int.ofNat a)] = some g_1 ∧ AV.tup [] = AV.tup []) <| .cons H4 <| .cons H4 <| .cons H4 <| .cons H5 <| .cons H5 <| .cons H5 <| .cons H6 <| .cons H6 <| .cons H6 <| .cons H7 <| .cons H8 <| .cons H9 <| .cons (by kernel_rfl : false = false) <| .cons H10 <| .cons (by kernel_rfl : false = false) <| .cons H11 <| .cons H12 <| .cons (by kernel_rfl : (!false) = true) <| .cons (⟨by kernel_rfl, H13, rfl⟩ : some 2 = some 2 ∧ AEv.storeCells g2 f 0 [AV.int IntKind.i64 (Int.ofNat 10), AV.int IntKind.i64 (Int.ofNat n)] = some g_2 ∧ AV.tup [] = AV.tup []) <| .nil
theorem rxs (call : CallT → List AV → AHeap → FRes) (f a n e p k x q : Nat) (b : Bool) (v w : AV) (s t : List UInt8) (h g g1 g2 g3 : AHeap) (n_1 : Nat) (g_1 g_2 g_3 : AHeap) (n_2 : Nat)
    (H1 : ltI (.ofNat a) (.ofNat (List.length s)) = true)
    (H2 : idxS a s = some (.int .u8 (.ofNat n_1)))
    (H3 : AEv.storeCells (AHeap.push h (.cells [.int .i64 (.ofNat 0), .str [], .int .i64 (.ofNat 0), .int .i64 (.ofNat 0)] 30 .own 0 0)) (AHeap.n h) 0 [.int .i64 (.ofNat 0), .str [], .int .i64 (.ofNat 0), .int .i64 (.ofNat a)] = some g_1)
    (H4 : eqI (.ofNat n_1) (.ofNat 32) = false)
    (H5 : eqI (.ofNat n_1) (.ofNat 9) = false)
    (H6 : eqI (.ofNat n_1) (.ofNat 10) = false)
    (H7 : eqI (.ofNat n_1) (.ofNat 13) = false)
    (H8 : eqI (.ofNat n_1) (.ofNat 35) = false)
    (H9 : call (.fn 25) [.int .u8 (.ofNat n_1)] g_1 = FRes.ret (.bool false) g)
    (H10 : call (.fn 26) [.int .u8 (.ofNat n_1)] g = FRes.ret (.bool false) g1)
    (H11 : eqI (.ofNat n_1) (.ofNat 34) = false)
    (H12 : AEv.storeCells g1 (AHeap.n h) (0 + 0) [.int .i64 (.ofNat 5)] = some g_2)
    (H13 : call (.fn 28) [.str s, .int .i64 (.ofNat a)] g_2 = FRes.ret (.str t) g2)
    (H14 : AEv.storeCells g2 (AHeap.n h) (0 + 1) [.str t] = some g_3)
    (H15 : load1 g_3 (AHeap.n h) (0 + 1) = some (.str t))
    (H16 : beqBytes t [] = false)
    (H17 : arith .add .i64 (.ofNat a) (.ofNat (List.length t)) = some (.int .i64 (.ofNat n_2)))
    (H18 : AEv.loadCells g_3 (AHeap.n h) 0 4 = some [.int .i64 (.ofNat k), .str t, .int .i64 (.ofNat x), .int .i64 (.ofNat q)])
    (H19 : appendA Tryd.prog (AHeap.push g_3 (AObj.cells [AV.int IntKind.i64 (Int.ofNat k), AV.str t, AV.int IntKind.i64 (Int.ofNat x), AV.int IntKind.i64 (Int.ofNat q)] 30 BK.own 0 0)) 24 (some 24) v (AV.slice (AHeap.n g_3) 0 1 (Cap.exact 1)) = some (w, g3)) :
    RunF Tryd.prog Tryd.f14 none call [1, 1, 1, 0, 0, 0] (SSt.mk [(0, .str s), (3, .ptr f 0), (4, v), (5, .int .i64 (.ofNat a))] [] .none h) (.nrm)
      (SSt.mk [(0, .str s), (3, .ptr f 0), (4, w), (5, .int .i64 (.ofNat n_2))] [] .none g3) :=
  sxF_run [0, 3, 4, 5] (hs := [.b true, .v (.int .u8 (.ofNat n_1)), .vh (.tup []) g_1, .b false, .b false, .b false, .b false, .b false, .b false, .b false, .b false, .b false, .b false, .b false, .c (.bool false) g, .b false, .c (.bool false) g1, .b false, .b false, .vh (.tup []) g_2, .c (.str t) g2, .vh (.tup []) g_3, .v (.str t), .b false, .v (.str t), .v (.int .i64 (.ofNat n_2)), .v (.agg [.int .i64 (.ofNat k), .str t, .int .i64 (.ofNat x), .int .i64 (.ofNat q)]), .vh w g3]) (by kernel_rfl) <| .cons H1 <| .cons H2 <| .cons (⟨by kernel_rfl, H3, rfl⟩ : some 4 = some 4 ∧ AEv.storeCells (AHeap.push h (AObj.cells [AV.int IntKind.i64 (Int.ofNat 0), AV.str [], AV.int IntKind.i64 (Int.ofNat 0), AV.int IntKind.i64 (Int.ofNat 0)] 30 BK.own 0 0)) (AHeap.n h) 0 [AV.int IntKind.i64 (Int.ofNat 0), AV.str [], AV.int IntKind.i64 (Int.ofNat 0), AV.int IntKind.i64 (Int.ofNat a)] = some g_1 ∧ AV.tup [] = AV.tup []) <| .cons H4 <| .cons H4 <| .cons H4 <| .cons H5 <| .cons H5 <| .cons H5 <| .cons H6 <| .cons H6 <| .cons H6 <| .cons H7 <| .cons H8 <| .cons H9 <| .cons (by kernel_rfl : false = false) <| .cons H10 <| .cons (by kernel_rfl : false = false) <| .cons H11 <| .cons (⟨by kernel_rfl, H12, rfl⟩ : some 1 = some 1 ∧ AEv.storeCells g1 (AHeap.n h) (0 + 0) [AV.int IntKind.i64 (Int.ofNat 5)] = some g_2 ∧ AV.tup [] = AV.tup []) <| .cons H13 <| .cons (⟨by kernel_rfl, H14, rfl⟩ : some 1 = some 1 ∧ AEv.storeCells g2 (AHeap.n h) (0 + 1) [AV.str t] = some g_3 ∧ AV.tup [] = AV.tup []) <| .cons H15 <| .cons H16 <| .cons H15 <| .cons H17 <| .cons H18 <| .cons H19 <| .nil
theorem rxsb (call : CallT → List AV → AHeap → FRes) (f a n e p k x q : Nat) (b : Bool) (v w : AV) (s t : List UInt8) (h g g1 g2 g3 : AHeap) (n_1 : Nat) (g_1 g_2 g_3 g_4 : AHeap)
    (H1 : ltI (.ofNat a) (.ofNat (List.length s)) = true)
    (H2 : idxS a s = some (.int .u8 (.ofNat n_1)))
    (H3 : AEv.storeCells (AHeap.push h (.cells [.int .i64 (.ofNat 0), .str [], .int .i64 (.ofNat 0), .int .i64 (.ofNat 0)] 30 .own 0 0)) (AHeap.n h) 0 [.int .i64 (.ofNat 0), .str [], .int .i64 (.ofNat 0), .int .i64 (.ofNat a)] = some g_1)
    (H4 : eqI (.ofNat n_1) (.ofNat 32) = false)
    (H5 : eqI (.ofNat n_1) (.ofNat 9) = false)
    (H6 : eqI (.ofNat n_1) (.ofNat 10) = false)
    (H7 : eqI (.ofNat n_1) (.ofNat 13) = false)
    (H8 : eqI (.ofNat n_1) (.ofNat 35) = false)
    (H9 : call (.fn 25) [.int .u8 (.ofNat n_1)] g_1 = FRes.ret (.bool false) g)
    (H10 : call (.fn 26) [.int .u8 (.ofNat n_1)] g = FRes.ret (.bool false) g1)
    (H11 : eqI (.ofNat n_1) (.ofNat 34) = false)
    (H12 : AEv.storeCells g1 (AHeap.n h) (0 + 0) [.int .i64 (.ofNat 5)] = some g_2)
    (H13 : call (.fn 28) [.str s, .int .i64 (.ofNat a)] g_2 = FRes.ret (.str t) g2)
    (H14 : AEv.storeCells g2 (AHeap.n h) (0 + 1) [.str t] = some g_3)
    (H15 : load1 g_3 (AHeap.n h) (0 + 1) = some (.str t))
    (H16 : beqBytes t [] = true)
    (H17 : AEv.storeCells g_3 f 0 [.int .i64 (.ofNat 10), .int .i64 (.ofNat a)] = some g_4) :
    RunF Tryd.prog Tryd.f14 none call [1, 1, 1, 0, 0, 0] (SSt.mk [(0, .str s), (3, .ptr f 0), (4, v), (5, .int .i64 (.ofNat a))] [] .none h) (.ret)
      (SSt.mk [(2, .nilS), (3, .ptr f 0)] [] .none g_4) :=
  sxF_run [2, 3] (hs := [.b true, .v (.int .u8 (.ofNat n_1)), .vh (.tup []) g_1, .b false, .b false, .b false, .b false, .b false, .b false, .b false, .b false, .b false, .b false, .b false, .c (.bool false) g, .b false, .c (.bool false) g1, .b false, .b false, .vh (.tup []) g_2, .c (.str t) g2, .vh (.tup []) g_3, .v (.str t), .b true, .vh (.tup []) g_4]) (by kernel_rfl) <| .cons H1 <| .cons H2 <| .cons (⟨by kernel_rfl, H3, rfl⟩ : some 4 = some 4 ∧ AEv.storeCells (AHeap.push h (AObj.cells [AV.int IntKind.i64 (Int.ofNat 0), AV.str [], AV.int IntKind.i64 (Int.ofNat 0), AV.int IntKind.i64 (Int.ofNat 0)] 30 BK.own 0 0)) (AHeap.n h) 0 [AV.int IntKind.i64 (Int.ofNat 0), AV.str [], AV.int IntKind.i64 (Int.ofNat 0), AV.int IntKind.i64 (Int.ofNat a)] = some g_1 ∧ AV.tup [] = AV.tup []) <| .cons H4 <| .cons H4 <| .cons H4 <| .cons H5 <| .cons H5 <| .cons H5 <| .cons H6 <| .cons H6 <| .cons H6 <| .cons H7 <| .cons H8 <| .cons H9 <| .cons (by kernel_rfl : false = false) <| .cons H10 <| .cons (by kernel_rfl : false = false) <| .cons H11 <| .cons (⟨by kernel_rfl, H12, rfl⟩ : some 1 = some 1 ∧ AEv.storeCells g1 (AHeap.n h) (0 + 0) [AV.int IntKind.i64 (Int.ofNat 5)] = some g_2 ∧ AV.tup [] = AV.tup []) <| .cons H13 <| .cons (⟨by kernel_rfl, H14, rfl⟩ : some 1 = some 1 ∧ AEv.storeCells g2 (AHeap.n h) (0 + 1) [AV.str t] = some g_3 ∧ AV.tup [] = AV.tup []) <| .cons H15 <| .cons H16 <| .cons (⟨by kernel_rfl, H17, rfl⟩ : some 2 = some 2 ∧ AEv.storeCells g_3 f 0 [AV.int IntKind.i64 (Int.ofNat 10), AV.int IntKind.i64 (Int.ofNat a)] = some g_4 ∧ AV.tup [] = AV.tup []) <| .nil
theorem rwx (call : CallT → List AV → AHeap → FRes) (f a n e p k x q : Nat) (b : Bool) (v w : AV) (s t : List UInt8) (h g g1 g2 g3 : AHeap)
    (H1 : ltI (.ofNat e) (.ofNat (List.length s)) = false) :
    RunF Tryd.prog Tryd.f14 none call [1, 1, 1, 0, 0, 0, 1, 0, 1, 1, 1, 0, 0, 1, 1, 1, 1, 1, 0, 0, 0, 0] (SSt.mk [(0, .str s), (3, .ptr f 0), (4, v), (5, .int .i64 (.ofNat a)), (7, .int .i64 (.ofNat e)), (8, .ptr p 0)] [] .none h) (.exit 3)
      (SSt.mk [(0, .str s), (3, .ptr f 0), (4, v), (5, .int .i64 (.ofNat a)), (7, .int .i64 (.ofNat e)), (8, .ptr p 0)] [] .none h) :=
  sxF_run [0, 3, 4, 5, 7, 8] (hs := [.b false, .b false, .b false, .b false, .b false, .b false, .b false, .b false]) (by kernel_rfl) <| .cons H1 <| .cons H1 <| .cons H1 <| .cons H1 <| .cons H1 <| .cons H1 <| .cons H1 <| .cons (by kernel_rfl : false = false) <| .nil
theorem rwl (call : CallT → List AV → AHeap → FRes) (f a n e p k x q : Nat) (b : Bool) (v w : AV) (s t : List UInt8) (h g g1 g2 g3 : AHeap) (n_1 n_2 : Nat)
    (H1 : ltI (.ofNat e) (.ofNat (List.length s)) = true)
    (H2 : idxS e s = some (.int .u8 (.ofNat n_1)))
    (H3 : call (.fn 25) [.int .u8 (.ofNat n_1)] h = FRes.ret (.bool true) g)
    (H4 : arith .add .i64 (.ofNat e) (.ofNat 1) = some (.int .i64 (.ofNat n_2))) :
    RunF Tryd.prog Tryd.f14 none call [1, 1, 1, 0, 0, 0, 1, 0, 1, 1, 1, 0, 0, 1, 1, 1, 1, 1, 0, 0, 0, 0] (SSt.mk [(0, .str s), (3, .ptr f 0), (4, v), (5, .int .i64 (.ofNat a)), (7, .int .i64 (.ofNat e)), (8, .ptr p 0)] [] .none h) (.nrm)
      (SSt.mk [(0, .str s), (3, .ptr f 0), (4, v), (5, .int .i64 (.ofNat a)), (7, .int .i64 (.ofNat n_2)), (8, .ptr p 0)] [] .none g) :=
  sxF_run [0, 3, 4, 5, 7, 8] (hs := [.b true, .b true, .b true, .v (.int .u8 (.ofNat n_1)), .b true, .c (.bool true) g, .b true, .b true, .b true, .b true, .b true, .b true, .b true, .b true, .b true, .v (.int .i64 (.ofNat n_2))]) (by kernel_rfl) <| .cons H1 <| .cons H1 <| .cons H1 <| .cons H2 <| .cons H1 <| .cons H3 <| .cons H1 <| .cons (by kernel_rfl : true = true) <| .cons (by kernel_rfl : true = true) <| .cons (by kernel_rfl : true = true) <| .cons (by kernel_rfl : true = true) <| .cons H1 <| .cons (by kernel_rfl : true = true) <| .cons H1 <| .cons (by kernel_rfl : true = true) <| .cons H4 <| .nil
theorem rwd (call : CallT → List AV → AHeap → FRes) (f a n e p k x q : Nat) (b : Bool) (v w : AV) (s t : List UInt8) (h g g1 g2 g3 : AHeap) (n_1 n_2 : Nat)
    (H1 : ltI (.ofNat e) (.ofNat (List.length s)) = true)
    (H2 : idxS e s = some (.int .u8 (.ofNat n_1)))
    (H3 : call (.fn 25) [.int .u8 (.ofNat n_1)] h = FRes.ret (.bool false) g)
    (H4 : call (.fn 26) [.int .u8 (.ofNat n_1)] g = FRes.ret (.bool true) g1)
    (H5 : arith .add .i64 (.ofNat e) (.ofNat 1) = some (.int .i64 (.ofNat n_2))) :
    RunF Tryd.prog Tryd.f14 none call [1, 1, 1, 0, 0, 0, 1, 0, 1, 1, 1, 0, 0, 1, 1, 1, 1, 1, 0, 0, 0, 0] (SSt.mk [(0, .str s), (3, .ptr f 0), (4, v), (5, .int .i64 (.ofNat a)), (7, .int .i64 (.ofNat e)), (8, .ptr p 0)] [] .none h) (.nrm)
      (SSt.mk [(0, .str s), (3, .ptr f 0), (4, v), (5, .int .i64 (.ofNat a)), (7, .int .i64 (.ofNat n_2)), (8, .ptr p 0)] [] .none g1) :=
  sxF_run [0, 3, 4, 5, 7, 8] (hs := [.b true, .b true, .b true, .v (.int .u8 (.ofNat n_1)), .b true, .c (.bool false) g, .b true, .b false, .b false, .b false, .v (.int .u8 (.ofNat n_1)), .b false, .c (.bool true) g1, .b true, .b false, .b true, .b true, .v (.int .i64 (.ofNat n_2))]) (by kernel_rfl) <| .cons H1 <| .cons H1 <| .cons H1 <| .cons H2 <| .cons H1 <| .cons H3 <| .cons H1 <| .cons (by kernel_rfl : false = false) <| .cons (by kernel_rfl : false = false) <| .cons (by kernel_rfl : false = false) <| .cons H2 <| .cons (by kernel_rfl : false = false) <| .cons H4 <| .cons H1 <| .cons (by kernel_rfl : false = false) <| .cons H1 <| .cons (by kernel_rfl : true = true) <| .cons H5 <| .nil
theorem rwn (call : CallT → List AV → AHeap → FRes) (f a n e p k x q : Nat) (b : Bool) (v w : AV) (s t : List UInt8) (h g g1 g2 g3 : AHeap) (n_1 : Nat)
    (H1 : ltI (.ofNat e) (.ofNat (List.length s)) = true)
    (H2 : idxS e s = some (.int .u8 (.ofNat n_1)))
    (H3 : call (.fn 25) [.int .u8 (.ofNat n_1)] h = FRes.ret (.bool false) g)
    (H4 : call (.fn 26) [.int .u8 (.ofNat n_1)] g = FRes.ret (.bool false) g1) :
    RunF Tryd.prog Tryd.f14 none call [1, 1, 1, 0, 0, 0, 1, 0, 1, 1, 1, 0, 0, 1, 1, 1, 1, 1, 0, 0, 0, 0] (SSt.mk [(0, .str s), (3, .ptr f 0), (4, v), (5, .int .i64 (.ofNat a)), (7, .int .i64 (.ofNat e)), (8, .ptr p 0)] [] .none h) (.exit 3)
      (SSt.mk [(0, .str s), (3, .ptr f 0), (4, v), (5, .int .i64 (.ofNat a)), (7, .int .i64 (.ofNat e)), (8, .ptr p 0)] [] .none g1) :=
  sxF_run [0, 3, 4, 5, 7, 8] (hs := [.b true, .b true, .b true, .v (.int .u8 (.ofNat n_1)), .b true, .c (.bool false) g, .b true, .b false, .b false, .b false, .v (.int .u8 (.ofNat n_1)), .b false, .c (.bool false) g1, .b true, .b false, .b true, .b false]) (by kernel_rfl) <| .cons H1 <| .cons H1 <| .cons H1 <| .cons H2 <| .cons H1 <| .cons H3 <| .cons H1 <| .cons (by kernel_rfl : false = false) <| .cons (by kernel_rfl : false = false) <| .cons (by kernel_rfl : false = false) <| .cons H2 <| .cons (by kernel_rfl : false = false) <| .cons H4 <| .cons H1 <| .cons (by kernel_rfl : false = false) <| .cons H1 <| .cons (by kernel_rfl : false = false) <| .nil
theorem rdx (call : CallT → List AV → AHeap → FRes) (f a n e p k x q : Nat) (b : Bool) (v w : AV) (s t : List UInt8) (h g g1 g2 g3 : AHeap)
    (H1 : ltI (.ofNat e) (.ofNat (List.length s)) = false) :
    RunF Tryd.prog Tryd.f14 none call [1, 1, 1, 0, 0, 0, 1, 0, 1, 1, 1, 0, 0, 1, 1, 1, 1, 1, 1, 1, 0, 1, 0, 0] (SSt.mk [(0, .str s), (3, .ptr f 0), (4, v), (5, .int .i64 (.ofNat a)), (7, .int .i64 (.ofNat e)), (8, .ptr p 0)] [] .none h) (.exit 5)
      (SSt.mk [(0, .str s), (3, .ptr f 0), (4, v), (5, .int .i64 (.ofNat a)), (7, .int .i64 (.ofNat e)), (8, .ptr p 0)] [] .none h) :=
  sxF_run [0, 3, 4, 5, 7, 8] (hs := [.b false, .b false, .b false, .b false, .b false, .b false]) (by kernel_rfl) <| .cons H1 <| .cons H1 <| .cons H1 <| .cons H1 <| .cons H1 <| .cons (by kernel_rfl : false = false) <| .nil
theorem rdn (call : CallT → List AV → AHeap → FRes) (f a n e p k x q : Nat) (b : Bool) (v w : AV) (s t : List UInt8) (h g g1 g2 g3 : AHeap) (n_1 : Nat)
    (H1 : ltI (.ofNat e) (.ofNat (List.length s)) = true)
    (H2 : idxS e s = some (.int .u8 (.ofNat n_1)))
    (H3 : call (.fn 26) [.int .u8 (.ofNat n_1)] h = FRes.ret (.bool false) g) :
    RunF Tryd.prog Tryd.f14 none call [1, 1, 1, 0, 0, 0, 1, 0, 1, 1, 1, 0, 0, 1, 1, 1, 1, 1, 1, 1, 0, 1, 0, 0] (SSt.mk [(0, .str s), (3, .ptr f 0), (4, v), (5, .int .i64 (.ofNat a)), (7, .int .i64 (.ofNat e)), (8, .ptr p 0)] [] .none h) (.exit 5)
      (SSt.mk [(0, .str s), (3, .ptr f 0), (4, v), (5, .int .i64 (.ofNat a)), (7, .int .i64 (.ofNat e)), (8, .ptr p 0)] [] .none g) :=
  sxF_run [0, 3, 4, 5, 7, 8] (hs := [.b true, .b true, .b true, .v (.int .u8 (.ofNat n_1)), .b true, .c (.bool false) g, .b true, .b false]) (by kernel_rfl) <| .cons H1 <| .cons H1 <| .cons H1 <| .cons H2 <| .cons H1 <| .cons H3 <| .cons H1 <| .cons (by kernel_rfl : false = false) <| .nil
theorem rdd (call : CallT → List AV → AHeap → FRes) (f a n e p k x q : Nat) (b : Bool) (v w : AV) (s t : List UInt8) (h g g1 g2 g3 : AHeap) (n_1 n_2 n_3 n_4 n_5 n_6 n_7 : Nat) (g_1 : AHeap) (n_8 : Nat)
    (H1 : ltI (.ofNat e) (.ofNat (List.length s)) = true)
    (H2 : idxS e s = some (.int .u8 (.ofNat n_1)))
    (H3 : call (.fn 26) [.int .u8 (.ofNat n_1)] h = FRes.ret (.bool true) g)
    (H4 : arith .sub .u8 (.ofNat n_1) (.ofNat 48) = some (.int .u8 (.ofNat n_2)))
    (H5 : evConvert Tryd.prog 5 2 (AV.int IntKind.u8 (Int.ofNat n_2)) g = OpRes.val (AV.int IntKind.i64 (Int.ofNat n_3)) g)
    (H6 : load1 g p (0 + 2) = some (.int .i64 (.ofNat x)))
    (H7 : arith .sub .i64 (.ofNat 9223372036854775807) (.ofNat n_3) = some (.int .i64 (.ofNat n_4)))
    (H8 : arith .quo .i64 (.ofNat n_4) (.ofNat 10) = some (.int .i64 (.ofNat n_5)))
    (H9 : ltI (.ofNat n_5) (.ofNat x) = false)
    (H10 : arith .mul .i64 (.ofNat 10) (.ofNat x) = some (.int .i64 (.ofNat n_6)))
    (H11 : arith .add .i64 (.ofNat n_6) (.ofNat n_3) = some (.int .i64 (.ofNat n_7)))
    (H12 : AEv.storeCells g p (0 + 2) [.int .i64 (.ofNat n_7)] = some g_1)
    (H13 : arith .add .i64 (.ofNat e) (.ofNat 1) = some (.int .i64 (.ofNat n_8))) :
    RunF Tryd.prog Tryd.f14 none call [1, 1, 1, 0, 0, 0, 1, 0, 1, 1, 1, 0, 0, 1, 1, 1, 1, 1, 1, 1, 0, 1, 0, 0] (SSt.mk [(0, .str s), (3, .ptr f 0), (4, v), (5, .int .i64 (.ofNat a)), (7, .int .i64 (.ofNat e)), (8, .ptr p 0)] [] .none h) (.nrm)
      (SSt.mk [(0, .str s), (3, .ptr f 0), (4, v), (5, .int .i64 (.ofNat a)), (7, .int .i64 (.ofNat n_8)), (8, .ptr p 0)] [] .none g_1) :=
  sxF_run [0, 3, 4, 5, 7, 8] (hs := [.b true, .b true, .b true, .v (.int .u8 (.ofNat n_1)), .b true, .c (.bool true) g, .b true, .b true, .v (.int .u8 (.ofNat n_1)), .v (.int .u8 (.ofNat n_2)), .v (.int .i64 (.ofNat n_3)), .v (.int .i64 (.ofNat x)), .v (.int .i64 (.ofNat n_4)), .v (.int .i64 (.ofNat n_5)), .b false, .v (.int .i64 (.ofNat x)), .v (.int .i64 (.ofNat n_6)), .v (.int .i64 (.ofNat n_7)), .vh (.tup []) g_1, .v (.int .i64 (.ofNat n_8))]) (by kernel_rfl) <| .cons H1 <| .cons H1 <| .cons H1 <| .cons H2 <| .cons H1 <| .cons H3 <| .cons H1 <| .cons (by kernel_rfl : true = true) <| .cons H2 <| .cons H4 <| .cons H5 <| .cons H6 <| .cons H7 <| .cons H8 <| .cons H9 <| .cons H6 <| .cons H10 <| .cons H11 <| .cons (⟨by kernel_rfl, H12, rfl⟩ : some 1 = some 1 ∧ AEv.storeCells g p (0 + 2) [AV.int IntKind.i64 (Int.ofNat n_7)] = some g_1 ∧ AV.tup [] = AV.tup []) <| .cons H13 <| .nil
theorem rdo (call : CallT → List AV → AHeap → FRes) (f a n e p k x q : Nat) (b : Bool) (v w : AV) (s t : List UInt8) (h g g1 g2 g3 : AHeap) (n_1 n_2 n_3 n_4 n_5 : Nat) (g_1 : AHeap)
    (H1 : ltI (.ofNat e) (.ofNat (List.length s)) = true)
    (H2 : idxS e s = some (.int .u8 (.ofNat n_1)))
    (H3 : call (.fn 26) [.int .u8 (.ofNat n_1)] h = FRes.ret (.bool true) g)
    (H4 : arith .sub .u8 (.ofNat n_1) (.ofNat 48) = some (.int .u8 (.ofNat n_2)))
    (H5 : evConvert Tryd.prog 5 2 (AV.int IntKind.u8 (Int.ofNat n_2)) g = OpRes.val (AV.int IntKind.i64 (Int.ofNat n_3)) g)
    (H6 : load1 g p (0 + 2) = some (.int .i64 (.ofNat x)))
    (H7 : arith .sub .i64 (.ofNat 9223372036854775807) (.ofNat n_3) = some (.int .i64 (.ofNat n_4)))
    (H8 : arith .quo .i64 (.ofNat n_4) (.ofNat 10) = some (.int .i64 (.ofNat n_5)))
    (H9 : ltI (.ofNat n_5) (.ofNat x) = true)
    (H10 : AEv.storeCells g f 0 [.int .i64 (.ofNat 10), .int .i64 (.ofNat a)] = some g_1) :
    RunF Tryd.prog Tryd.f14 none call [1, 1, 1, 0, 0, 0, 1, 0, 1, 1, 1, 0, 0, 1, 1, 1, 1, 1, 1, 1, 0, 1, 0, 0] (SSt.mk [(0, .str s), (3, .ptr f 0), (4, v), (5, .int .i64 (.ofNat a)), (7, .int .i64 (.ofNat e)), (8, .ptr p 0)] [] .none h) (.ret)
      (SSt.mk [(2, .nilS), (3, .ptr f 0)] [] .none g_1) :=
  sxF_run [2, 3] (hs := [.b true, .b true, .b true, .v (.int .u8 (.ofNat n_1)), .b true, .c (.bool true) g, .b true, .b true, .v (.int .u8 (.ofNat n_1)), .v (.int .u8 (.ofNat n_2)), .v (.int .i64 (.ofNat n_3)), .v (.int .i64 (.ofNat x)), .v (.int .i64 (.ofNat n_4)), .v (.int .i64 (.ofNat n_5)), .b true, .vh (.tup []) g_1]) (by kernel_rfl) <| .cons H1 <| .cons H1 <| .cons H1 <| .cons H2 <| .cons H1 <| .cons H3 <| .cons H1 <| .cons (by kernel_rfl : true = true) <| .cons H2 <| .cons H4 <| .cons H5 <| .cons H6 <| .cons H7 <| .cons H8 <| .cons H9 <| .cons (⟨by kernel_rfl, H10, rfl⟩ : some 2 = some 2 ∧ AEv.storeCells g f 0 [AV.int IntKind.i64 (Int.ofNat 10), AV.int IntKind.i64 (Int.ofNat a)] = some g_1 ∧ AV.tup [] = AV.tup []) <| .nil

/-! ### The document's lexer, whole -/
abbrev FltO (k a : Nat) : AObj := .cells [.int .i64 (Int.ofNat k), .int .i64 (Int.ofNat a)] 38 .own 0 0
abbrev TokB (t : Tk) : AObj := .cells (encT t) 30 .own 0 0
abbrev xS (s : List UInt8) (f : Nat) (v : AV) (a : Nat) (x : AHeap) : SSt := ⟨[(0, .str s), (3, .ptr f 0), (4, v), (5, .int .i64 (Int.ofNat a))], [], .none, x⟩
abbrev xT (s : List UInt8) (f : Nat) (v : AV) (a e p : Nat) (x : AHeap) : SSt := ⟨[(0, .str s), (3, .ptr f 0), (4, v), (5, .int .i64 (Int.ofNat a)), (7, .int .i64 (Int.ofNat e)), (8, .ptr p 0)], [], .none, x⟩
abbrev xR (f : Nat) (x : AHeap) : SSt := ⟨[(2, .nilS), (3, .ptr f 0)], [], .none, x⟩
theorem wd_lp (m f a p : Nat) (v : AV) (s : List UInt8) (x : AHeap) (hs : s.length ≤ 80000) : ∀ (k e : Nat), ((s.drop e).takeWhile Lexp.wordB).length = k → e ≤ s.length →
    LoopF Tryd.prog Tryd.f14 none (C (m + 1)) [1, 1, 1, 0, 0, 0, 1, 0, 1, 1, 1, 0, 0, 1, 1, 1, 1, 1, 0, 0, 0] (k + 1) (xT s f v a e p x) (.exit 3) (xT s f v a (e + k) p x)
  | k, e, hk, he => by
    rcases Nat.lt_or_ge e s.length with hl | hl
    · have hd := List.drop_eq_getElem_cons hl
      have c1 := rletter_c m s[e] x
      have c2 := rdigit_c m s[e] x
      rw [hd] at hk
      cases hw : Lexp.wordB s[e] with
      | false =>
        rw [List.takeWhile_cons, hw] at hk
        obtain rfl : k = 0 := by simpa using hk.symm
        have hw' := hw
        simp only [Lexp.wordB, Bool.or_eq_false_iff] at hw'
        rw [hw'.1] at c1; rw [hw'.2] at c2
        exact .exit (rwn (C (m + 1)) f a 0 e p 0 0 0 false v v s s x x x x x _ (lt_t hl) (idx_t hl) c1 c2) (by simp)
      | true =>
        rw [List.takeWhile_cons, hw] at hk
        obtain ⟨k', rfl⟩ : ∃ k', k = k' + 1 := ⟨((s.drop (e + 1)).takeWhile Lexp.wordB).length, by rw [← hk]; simp⟩
        have ih := wd_lp m f a p v s x hs k' (e + 1) (by simpa using hk) hl
        rw [show e + 1 + k' = e + (k' + 1) by omega] at ih
        cases hlt : letterB s[e] with
        | true =>
          rw [hlt] at c1
          exact .step (rwl (C (m + 1)) f a 0 e p 0 0 0 false v v s s x x x x x _ _ (lt_t hl) (idx_t hl) c1 (add_n (i := e) (j := 1) (by omega))) ih
        | false =>
          have hdg : digitB s[e] = true := by simpa [Lexp.wordB, hlt] using hw
          rw [hlt] at c1; rw [hdg] at c2
          exact .step (rwd (C (m + 1)) f a 0 e p 0 0 0 false v v s s x x x x x _ _ (lt_t hl) (idx_t hl) c1 c2 (add_n (i := e) (j := 1) (by omega))) ih
    · rw [List.drop_eq_nil_of_le hl] at hk
      obtain rfl : k = 0 := by simpa using hk.symm
      exact .exit (rwx (C (m + 1)) f a 0 e p 0 0 0 false v v s s x x x x x (lt_f (by omega))) (by simp)
theorem dg_lp (m f a p : Nat) (v : AV) (s : List UInt8) (hs : s.length ≤ 80000) (hfp : f ≠ p) : ∀ (k e n : Nat) (x : AHeap), ((s.drop e).takeWhile digitB).length = k → e ≤ s.length → n < 9223372036854775808 → x.get p = some (TokB ⟨3, [], n, a⟩) → (∃ b c, x.get f = some (FltO b c)) →
    (∀ r, numV ((s.drop e).takeWhile digitB) n = some r → ∃ x', LoopF Tryd.prog Tryd.f14 none (C (m + 1)) [1, 1, 1, 0, 0, 0, 1, 0, 1, 1, 1, 0, 0, 1, 1, 1, 1, 1, 1, 1, 0, 1, 0] (k + 1) (xT s f v a e p x) (.exit 5) (xT s f v a (e + k) p x') ∧ x'.get p = some (TokB ⟨3, [], r, a⟩) ∧ x'.n = x.n ∧ ∀ b, b ≠ p → x'.get b = x.get b) ∧
    (numV ((s.drop e).takeWhile digitB) n = none → ∃ x', LoopF Tryd.prog Tryd.f14 none (C (m + 1)) [1, 1, 1, 0, 0, 0, 1, 0, 1, 1, 1, 0, 0, 1, 1, 1, 1, 1, 1, 1, 0, 1, 0] (k + 1) (xT s f v a e p x) .ret (xR f x') ∧ x'.get f = some (FltO 10 a) ∧ x'.n = x.n ∧ ∀ b, b ≠ p → b ≠ f → x'.get b = x.get b)
  | k, e, n, x, hk, he, hn, hp, ⟨b0, b1, hf⟩ => by
    rcases Nat.lt_or_ge e s.length with hl | hl
    · have hd := List.drop_eq_getElem_cons hl
      have c2 := rdigit_c m s[e] x
      rw [hd] at hk ⊢
      cases hw : digitB s[e] with
      | false =>
        rw [List.takeWhile_cons, hw] at hk ⊢
        obtain rfl : k = 0 := by simpa using hk.symm
        rw [hw] at c2
        refine ⟨fun r hr => ?_, fun hr => by cases hr⟩
        cases hr
        exact ⟨x, .exit (rdn (C (m + 1)) f a 0 e p 0 0 0 false v v s s x x x x x _ (lt_t hl) (idx_t hl) c2) (by simp), hp, rfl, fun _ _ => rfl⟩
      | true =>
        rw [List.takeWhile_cons, hw] at hk ⊢
        simp only [if_true] at hk ⊢
        obtain ⟨k', rfl⟩ : ∃ k', k = k' + 1 := ⟨((s.drop (e + 1)).takeWhile digitB).length, by rw [← hk]; simp⟩
        rw [hw] at c2
        have hdg := hw
        simp [digitB] at hdg
        have hub := u8lt s[e]
        have s1 : arith BinOp.sub IntKind.u8 (Int.ofNat s[e].toNat) (Int.ofNat 48) = some (AV.int IntKind.u8 (Int.ofNat (s[e].toNat - 48))) := sub_u8 hdg.1 hub
        have s2 : evConvert Tryd.prog 5 2 (.int .u8 (Int.ofNat (s[e].toNat - 48))) x = .val (.int .i64 (Int.ofNat (s[e].toNat - 48))) x := cv_u8_i64 (by kernel_rfl) (by kernel_rfl) (by omega)
        have s3 : load1 x p (0 + 2) = some (.int .i64 (Int.ofNat n)) := ld1 hp rfl
        have s4 : arith BinOp.sub IntKind.i64 (Int.ofNat 9223372036854775807) (Int.ofNat (s[e].toNat - 48)) = some (.int .i64 (Int.ofNat (9223372036854775807 - (s[e].toNat - 48)))) := sub_n (by omega) (by omega)
        have s5 : arith BinOp.quo IntKind.i64 (Int.ofNat (9223372036854775807 - (s[e].toNat - 48))) (Int.ofNat 10) = some (.int .i64 (Int.ofNat ((9223372036854775807 - (s[e].toNat - 48)) / 10))) := quo_n (by omega) (by omega)
        by_cases hgt : n > (9223372036854775807 - (s[e].toNat - 48)) / 10
        · have en : numV (s[e] :: (s.drop (e + 1)).takeWhile digitB) n = none := by simp only [numV]; rw [if_pos hgt]
          rw [en]
          refine ⟨fun r hr => (by cases hr), fun _ => ?_⟩
          have st : AEv.storeCells x f 0 [.int .i64 (Int.ofNat 10), .int .i64 (Int.ofNat a)] = some (x.set f (some (FltO 10 a))) := stc hf rfl rfl
          exact ⟨_, .exit (rdo (C (m + 1)) f a 0 e p 0 n 0 false v v s s x x x x x _ _ _ _ _ _ (lt_t hl) (idx_t hl) c2 s1 s2 s3 s4 s5 (lt_t hgt) st) (by simp), gsame rfl, rfl, fun b hb1 hb2 => gother hb2 rfl⟩
        · have en : numV (s[e] :: (s.drop (e + 1)).takeWhile digitB) n = numV ((s.drop (e + 1)).takeWhile digitB) (10 * n + (s[e].toNat - 48)) := by
            conv => lhs; unfold numV
            simp only
            rw [if_neg hgt]
          rw [en]
          have st : AEv.storeCells x p (0 + 2) [.int .i64 (Int.ofNat (10 * n + (s[e].toNat - 48)))] = some (x.set p (some (TokB ⟨3, [], 10 * n + (s[e].toNat - 48), a⟩))) := stc hp rfl rfl
          have hstep := rdd (C (m + 1)) f a 0 e p 0 n 0 false v v s s x x x x x _ _ _ _ _ _ _ _ _ (lt_t hl) (idx_t hl) c2 s1 s2 s3 s4 s5 (lt_f hgt) (mul_n (i := 10) (j := n) (by omega)) (add_n (by omega)) st (add_n (i := e) (j := 1) (by omega))
          obtain ⟨r1, r2⟩ := dg_lp m f a p v s hs hfp k' (e + 1) (10 * n + (s[e].toNat - 48)) _ (by simpa using hk) hl (by omega) (gsame rfl) ⟨b0, b1, gother hfp hf⟩
          rw [show e + 1 + k' = e + (k' + 1) by omega] at r1
          refine ⟨fun r hr => ?_, fun hr => ?_⟩
          · obtain ⟨x', q1, q2, q3, q4⟩ := r1 r hr
            exact ⟨x', .step hstep q1, q2, q3, fun b hb => (q4 b hb).trans (gother hb rfl)⟩
          · obtain ⟨x', q1, q2, q3, q4⟩ := r2 hr
            exact ⟨x', .step hstep q1, q2, q3, fun b hb1 hb2 => (q4 b hb1 hb2).trans (gother hb1 rfl)⟩
    · rw [List.drop_eq_nil_of_le hl] at hk ⊢
      obtain rfl : k = 0 := by simpa using hk.symm
      refine ⟨fun r hr => ?_, fun hr => (by cases hr)⟩
      cases hr
      exact ⟨x, .exit (rdx (C (m + 1)) f a 0 e p 0 0 0 false v v s s x x x x x (lt_f (by omega))) (by simp), hp, rfl, fun _ _ => rfl⟩
theorem app_tk {B : Nat} {H : AHeap} {v : AV} {out : List Tk} (d : Tk) (ho : OutG encT 4 30 B H v out) (hB : B ≤ H.n) (hl : out.length ≤ 900000) :
    ∃ w h', appendA Tryd.prog (H.push (.cells (encT d) 30 .own 0 0)) 24 (some 24) v (.slice H.n 0 1 (.exact 1)) = some (w, h') ∧ OutG encT 4 30 B h' w (out ++ [d]) ∧ Ext B H h' := by
  have o' : OutG encT 4 30 B (H.push (.cells (encT d) 30 .own 0 0)) v out := ho.keep (by simp) fun p _ hp => gold hp rfl
  obtain ⟨w, y, a1, a2, a3, _, _⟩ := appG tokRow (es := [d]) o' (by simp; omega) (oneG tokRow H 30 d) (by simp; omega)
  exact ⟨w, y, a1, a2, (Ext.push hB _).trans (Nat.le_refl _) a3⟩
theorem reserved_short {w : List UInt8} (h : inW w = true) : w.length ≤ 24 := by
  unfold inW at h
  rw [List.any_eq_true] at h
  obtain ⟨x, hx, hb⟩ := h
  rw [beqBytes_eq, beq_iff_eq] at hb
  have : ∀ x ∈ words, x.length ≤ 24 := by decide
  rw [← hb]; exact this x hx
/-- What stays as it was, but for the fault. -/
structure Fr (f B : Nat) (x x' : AHeap) : Prop where
  n : x.n ≤ x'.n
  get : ∀ b, b < B → b ≠ f → x'.get b = x.get b
theorem Fr.trans {f B : Nat} {x y z : AHeap} (h1 : Fr f B x y) (h2 : Fr f B y z) : Fr f B x z := ⟨Nat.le_trans h1.n h2.n, fun b hb hf => (h2.get b hb hf).trans (h1.get b hb hf)⟩
/-- The loop's invariant. -/
structure RI (f B : Nat) (v : AV) (out : List Tk) (x : AHeap) : Prop where
  g : x.get f = some (FltO 0 0)
  o : OutG encT 4 30 B x v out
  fB : f < B
  Bn : B ≤ x.n
def RStep (n f B : Nat) (s : List UInt8) (a : Nat) (v : AV) (out : List Tk) (x : AHeap) : El → Prop
  | .skip k => ∃ x', RunF Tryd.prog Tryd.f14 none (C n) [1, 1, 1, 0, 0, 0] (xS s f v a x) .nrm (xS s f v (a + k) x') ∧ RI f B v out x' ∧ Fr f B x x'
  | .tok k t u j => ∃ w x', RunF Tryd.prog Tryd.f14 none (C n) [1, 1, 1, 0, 0, 0] (xS s f v a x) .nrm (xS s f w (a + j) x') ∧ RI f B w (out ++ [⟨k, t, u, a⟩]) x' ∧ Fr f B x x'
  | .bad k => ∃ x', RunF Tryd.prog Tryd.f14 none (C n) [1, 1, 1, 0, 0, 0] (xS s f v a x) .ret (xR f x') ∧ x'.get f = some (FltO 10 (a + k)) ∧ Fr f B x x'
end Go.Proofs.Lx

namespace Go.Proofs.Lx
open Go AEv Go.Proofs Lexp
set_option maxRecDepth 100000
set_option maxHeartbeats 1000000

theorem rz0 (call : CallT → List AV → AHeap → FRes) (s : List UInt8) (h : AHeap) :
    RunF Tryd.prog Tryd.f10 none call [0] (SSt.mk [(0, .str s)] [] .none h) (.nrm)
      (SSt.mk [(0, .str s), (2, .bool false)] [] .none h) :=
  sxF_run [0, 2, 3] (hs := []) (by kernel_rfl) <| .nil
theorem rz1 (call : CallT → List AV → AHeap → FRes) (s : List UInt8) (h : AHeap) :
    RunF Tryd.prog Tryd.f10 none call [1, 0] (SSt.mk [(0, .str s)] [] .none h) (.nrm)
      (SSt.mk [(0, .str s), (3, .slice (AHeap.n h) 0 22 (.exact 22))] [] .none (AHeap.push h (.cells [.str [105, 109, 112, 111, 114, 116], .str [97, 115], .str [116, 121, 112, 101], .str [108, 101, 116], .str [102, 117, 110], .str [102, 110], .str [105, 102], .str [116, 104, 101, 110], .str [101, 108, 115, 101], .str [105, 110], .str [97, 110, 100], .str [111, 114], .str [110, 111, 116], .str [114, 111, 108, 108], .str [117, 110, 114, 111, 108, 108], .str [116, 114, 117, 101], .str [102, 97, 108, 115, 101], .str [110, 105, 108], .str [105, 110, 116], .str [98, 111, 111, 108], .str [115, 116, 114], .str [97, 110, 121]] 9 .own 0 0))) :=
  sxF_run [0, 2, 3] (hs := []) (by kernel_rfl) <| .nil
theorem rz2 (call : CallT → List AV → AHeap → FRes) (s : List UInt8) (b : Nat) (c : Cap) (h g : AHeap)
    (H1 : RunF Tryd.prog Tryd.f10 none call [1, 1, 0, 1, 0] (SSt.mk [(4, .int .i64 (.ofNat 0)), (0, .str s), (3, .slice b 0 22 c)] [] .none h) (.exit 0) (SSt.mk [] [] .none g)) :
    RunF Tryd.prog Tryd.f10 none call [1, 1, 0] (SSt.mk [(0, .str s), (3, .slice b 0 22 c)] [] .none h) (.nrm)
      (SSt.mk [] [] .none g) :=
  sxF_run [2] (hs := [Hint.loop (AEx.exit 0) (SSt.mk [] [] Rc.none g)]) (by kernel_rfl) <| .cons H1 <| .nil
theorem rz2t (call : CallT → List AV → AHeap → FRes) (s : List UInt8) (b : Nat) (c : Cap) (h g : AHeap)
    (H1 : RunF Tryd.prog Tryd.f10 none call [1, 1, 0, 1, 0] (SSt.mk [(4, .int .i64 (.ofNat 0)), (0, .str s), (3, .slice b 0 22 c)] [] .none h) (.ret) (SSt.mk [(2, .bool true)] [] .none g)) :
    RunF Tryd.prog Tryd.f10 none call [1, 1, 0] (SSt.mk [(0, .str s), (3, .slice b 0 22 c)] [] .none h) (.ret)
      (SSt.mk [(2, .bool true)] [] .none g) :=
  sxF_run [2] (hs := [Hint.loop AEx.ret (SSt.mk [(2, AV.bool true)] [] Rc.none g)]) (by kernel_rfl) <| .cons H1 <| .nil
theorem rzl_1 (call : CallT → List AV → AHeap → FRes) (s : List UInt8) (b i : Nat) (c : Cap) (h : AHeap) (t_1 : List UInt8)
    (H1 : ltI (.ofNat i) (.ofNat 22) = true)
    (H2 : Nat.le (Nat.succ i) 22)
    (H3 : load1 h b (0 + i * 1) = some (.str t_1))
    (H4 : beqBytes t_1 s = true) :
    RunF Tryd.prog Tryd.f10 none call [1, 1, 0, 1, 0, 0] (SSt.mk [(0, .str s), (3, .slice b 0 22 c), (4, .int .i64 (.ofNat i))] [] .none h) (.ret)
      (SSt.mk [(0, .str s), (2, .bool true), (3, .slice b 0 22 c), (4, .int .i64 (.ofNat i))] [] .none h) :=
  sxF_run [0, 2, 3, 4] (hs := [.b true, .v (.ptr b (0 + i * 1)), .v (.str t_1), .b true]) (by kernel_rfl) <| .cons H1 <| .cons (⟨H2, rfl⟩ : Nat.le (Nat.succ i) 22 ∧ AV.ptr b (0 + i * 1) = AV.ptr b (0 + i * 1)) <| .cons H3 <| .cons H4 <| .nil
theorem rzl_2 (call : CallT → List AV → AHeap → FRes) (s : List UInt8) (b i : Nat) (c : Cap) (h : AHeap) (t_1 : List UInt8) (n_1 : Nat)
    (H1 : ltI (.ofNat i) (.ofNat 22) = true)
    (H2 : Nat.le (Nat.succ i) 22)
    (H3 : load1 h b (0 + i * 1) = some (.str t_1))
    (H4 : beqBytes t_1 s = false)
    (H5 : arith .add .i64 (.ofNat i) (.ofNat 1) = some (.int .i64 (.ofNat n_1))) :
    RunF Tryd.prog Tryd.f10 none call [1, 1, 0, 1, 0, 0] (SSt.mk [(0, .str s), (3, .slice b 0 22 c), (4, .int .i64 (.ofNat i))] [] .none h) (.nrm)
      (SSt.mk [(0, .str s), (3, .slice b 0 22 c), (4, .int .i64 (.ofNat n_1))] [] .none h) :=
  sxF_run [0, 2, 3, 4] (hs := [.b true, .v (.ptr b (0 + i * 1)), .v (.str t_1), .b false, .v (.int .i64 (.ofNat n_1))]) (by kernel_rfl) <| .cons H1 <| .cons (⟨H2, rfl⟩ : Nat.le (Nat.succ i) 22 ∧ AV.ptr b (0 + i * 1) = AV.ptr b (0 + i * 1)) <| .cons H3 <| .cons H4 <| .cons H5 <| .nil
theorem rzl_3 (call : CallT → List AV → AHeap → FRes) (s : List UInt8) (b i : Nat) (c : Cap) (h : AHeap)
    (H1 : ltI (.ofNat i) (.ofNat 22) = false) :
    RunF Tryd.prog Tryd.f10 none call [1, 1, 0, 1, 0, 0] (SSt.mk [(0, .str s), (3, .slice b 0 22 c), (4, .int .i64 (.ofNat i))] [] .none h) (.exit 0)
      (SSt.mk [(0, .str s), (3, .slice b 0 22 c), (4, .int .i64 (.ofNat i))] [] .none h) :=
  sxF_run [0, 2, 3, 4] (hs := [.b false]) (by kernel_rfl) <| .cons H1 <| .nil
theorem rz3 (call : CallT → List AV → AHeap → FRes) (h : AHeap) :
    RunF Tryd.prog Tryd.f10 none call [1, 1, 1] (SSt.mk [] [] .none h) (.ret)
      (SSt.mk [(2, .bool false)] [] .none h) :=
  sxF_run [2] (hs := []) (by kernel_rfl) <| .nil
theorem sm0 (call : CallT → List AV → AHeap → FRes) (h : AHeap)
    (H1 : RunF Tryd.prog Tryd.f15 none call [1, 1, 0, 1, 0] (SSt.mk [(7, .int .i64 (.ofNat 0)), (14, .bool !eqI (.ofNat 0) (.ofNat 0)), (6, .bool false), (0, .nilS), (1, .nilS), (2, .bool true)] [] .none h) (.exit 0) (SSt.mk [] [] .none h)) :
    RunF Tryd.prog Tryd.f15 none call [] (SSt.mk [(0, .nilS), (1, .nilS), (2, .bool true)] [] .none h) (.ret)
      (SSt.mk [(6, .bool true)] [] .none h) :=
  sxF_run [6] (hs := [Hint.b false, Hint.loop (AEx.exit 0) (SSt.mk [] [] Rc.none h)]) (by kernel_rfl) <| .cons (by kernel_rfl : (!eqI (Int.ofNat 0) (Int.ofNat 0)) = false) <| .cons H1 <| .nil
theorem smz (call : CallT → List AV → AHeap → FRes) (h : AHeap) :
    RunF Tryd.prog Tryd.f15 none call [1, 1, 0, 1, 0, 0] (SSt.mk [(0, .nilS), (1, .nilS), (2, .bool true), (7, .int .i64 (.ofNat 0))] [] .none h) (.exit 0)
      (SSt.mk [] [] .none h) :=
  sxF_run [] (hs := [.b false]) (by kernel_rfl) <| .cons (by kernel_rfl : ltI (Int.ofNat 0) (Int.ofNat 0) = false) <| .nil
theorem sm1 (call : CallT → List AV → AHeap → FRes) (c d n i k x q : Nat) (t : List UInt8) (h g : AHeap)
    (H1 : (!eqI (.ofNat n) (.ofNat n)) = false)
    (H2 : RunF Tryd.prog Tryd.f15 none call [1, 1, 0, 1, 0] (SSt.mk [(7, .int .i64 (.ofNat 0)), (14, .bool !eqI (.ofNat n) (.ofNat n)), (6, .bool false), (0, .slice c 0 n (.opn 4)), (1, .slice d 0 n (.opn 4)), (2, .bool true)] [] .none h) (.exit 0) (SSt.mk [] [] .none g)) :
    RunF Tryd.prog Tryd.f15 none call [] (SSt.mk [(0, .slice c 0 n (.opn 4)), (1, .slice d 0 n (.opn 4)), (2, .bool true)] [] .none h) (.ret)
      (SSt.mk [(6, .bool true)] [] .none g) :=
  sxF_run [6] (hs := [Hint.b false, Hint.loop (AEx.exit 0) (SSt.mk [] [] Rc.none g)]) (by kernel_rfl) <| .cons H1 <| .cons H2 <| .nil
theorem smx (call : CallT → List AV → AHeap → FRes) (c d n i k x q : Nat) (t : List UInt8) (h g : AHeap)
    (H1 : ltI (.ofNat i) (.ofNat n) = false) :
    RunF Tryd.prog Tryd.f15 none call [1, 1, 0, 1, 0, 0] (SSt.mk [(0, .slice c 0 n (.opn 4)), (1, .slice d 0 n (.opn 4)), (2, .bool true), (7, .int .i64 (.ofNat i))] [] .none h) (.exit 0)
      (SSt.mk [] [] .none h) :=
  sxF_run [] (hs := [.b false]) (by kernel_rfl) <| .cons H1 <| .nil
theorem sml (call : CallT → List AV → AHeap → FRes) (c d n i k x q : Nat) (t : List UInt8) (h g g_1 g_2 : AHeap) (n_1 : Nat)
    (H1 : ltI (.ofNat i) (.ofNat n) = true)
    (H2 : Nat.le (Nat.succ i) n)
    (H3 : AEv.loadCells (AHeap.room h 12) c (0 + i * 4) 4 = some [.int .i64 (.ofNat k), .str t, .int .i64 (.ofNat x), .int .i64 (.ofNat q)])
    (H4 : Nat.le (Nat.succ i) n)
    (H5 : AEv.loadCells (AHeap.room h 12) d (0 + i * 4) 4 = some [.int .i64 (.ofNat k), .str t, .int .i64 (.ofNat x), .int .i64 (.ofNat q)])
    (H6 : AEv.storeCells (AHeap.mk (HT.setN (AHeap.n h + 9 + 1) (HT.setN (AHeap.n h + 8 + 1) h.1 (AHeap.n h + 8) (some (.cells [.int .i64 (.ofNat 0), .str [], .int .i64 (.ofNat 0), .int .i64 (.ofNat 0)] 30 .own 0 0))) (AHeap.n h + 9) (some (.cells [.int .i64 (.ofNat 0), .str [], .int .i64 (.ofNat 0), .int .i64 (.ofNat 0)] 30 .own 0 0))) (AHeap.n (AHeap.mk (HT.setN (AHeap.n h + 8 + 1) h.1 (AHeap.n h + 8) (some (.cells [.int .i64 (.ofNat 0), .str [], .int .i64 (.ofNat 0), .int .i64 (.ofNat 0)] 30 .own 0 0))) (AHeap.n (AHeap.room h 12))))) (AHeap.n h + 8) 0 [.int .i64 (.ofNat k), .str t, .int .i64 (.ofNat x), .int .i64 (.ofNat q)] = some g_1)
    (H7 : AEv.storeCells g_1 (AHeap.n h + 9) 0 [.int .i64 (.ofNat k), .str t, .int .i64 (.ofNat x), .int .i64 (.ofNat q)] = some g_2)
    (H8 : AEv.loadCells (AHeap.mk (HT.setN (AHeap.n h + 9 + 1) (HT.setN (AHeap.n h + 8 + 1) h.1 (AHeap.n h + 8) (some (.cells [.int .i64 (.ofNat 0), .str [], .int .i64 (.ofNat 0), .int .i64 (.ofNat 0)] 30 .own 0 0))) (AHeap.n h + 9) (some (.cells [.int .i64 (.ofNat 0), .str [], .int .i64 (.ofNat 0), .int .i64 (.ofNat 0)] 30 .own 0 0))) (AHeap.n (AHeap.mk (HT.setN (AHeap.n h + 8 + 1) h.1 (AHeap.n h + 8) (some (.cells [.int .i64 (.ofNat 0), .str [], .int .i64 (.ofNat 0), .int .i64 (.ofNat 0)] 30 .own 0 0))) (AHeap.n (AHeap.room h 12))))) c (0 + i * 4) 4 = some [.int .i64 (.ofNat k), .str t, .int .i64 (.ofNat x), .int .i64 (.ofNat q)])
    (H9 : AEv.loadCells g_1 d (0 + i * 4) 4 = some [.int .i64 (.ofNat k), .str t, .int .i64 (.ofNat x), .int .i64 (.ofNat q)])
    (H10 : AEv.loadCells (AHeap.mk (HT.setN (AHeap.n h + 9 + 1) (HT.setN (AHeap.n h + 8 + 1) h.1 (AHeap.n h + 8) (some (.cells [.int .i64 (.ofNat 0), .str [], .int .i64 (.ofNat 0), .int .i64 (.ofNat 0)] 30 .own 0 0))) (AHeap.n h + 9) (some (.cells [.int .i64 (.ofNat 0), .str [], .int .i64 (.ofNat 0), .int .i64 (.ofNat 0)] 30 .own 0 0))) (AHeap.n (AHeap.mk (HT.setN (AHeap.n h + 8 + 1) h.1 (AHeap.n h + 8) (some (.cells [.int .i64 (.ofNat 0), .str [], .int .i64 (.ofNat 0), .int .i64 (.ofNat 0)] 30 .own 0 0))) (AHeap.n (AHeap.room h 12))))) d (0 + i * 4) 4 = some [.int .i64 (.ofNat k), .str t, .int .i64 (.ofNat x), .int .i64 (.ofNat q)])
    (H11 : AEv.loadCells g_2 (AHeap.n h + 8) 0 4 = some [.int .i64 (.ofNat k), .str t, .int .i64 (.ofNat x), .int .i64 (.ofNat q)])
    (H12 : AEv.loadCells g_2 (AHeap.n h + 9) 0 4 = some [.int .i64 (.ofNat k), .str t, .int .i64 (.ofNat x), .int .i64 (.ofNat q)])
    (H13 : binA Tryd.prog g_2 BinOp.neq 30 (Operand.tmp 34) (Operand.tmp 35) (AV.agg [AV.int IntKind.i64 (Int.ofNat k), AV.str t, AV.int IntKind.i64 (Int.ofNat x), AV.int IntKind.i64 (Int.ofNat q)]) (AV.agg [AV.int IntKind.i64 (Int.ofNat k), AV.str t, AV.int IntKind.i64 (Int.ofNat x), AV.int IntKind.i64 (Int.ofNat q)]) = some (AV.bool false))
    (H14 : arith .add .i64 (.ofNat i) (.ofNat 1) = some (.int .i64 (.ofNat n_1))) :
    RunF Tryd.prog Tryd.f15 none call [1, 1, 0, 1, 0, 0] (SSt.mk [(0, .slice c 0 n (.opn 4)), (1, .slice d 0 n (.opn 4)), (2, .bool true), (7, .int .i64 (.ofNat i))] [] .none h) (.nrm)
      (SSt.mk [(0, .slice c 0 n (.opn 4)), (1, .slice d 0 n (.opn 4)), (2, .bool true), (7, .int .i64 (.ofNat n_1))] [] .none g_2) :=
  sxF_run [0, 1, 2, 7] (hs := [.b true, .v (.ptr c (0 + i * 4)), .v (.agg [.int .i64 (.ofNat k), .str t, .int .i64 (.ofNat x), .int .i64 (.ofNat q)]), .v (.ptr d (0 + i * 4)), .v (.agg [.int .i64 (.ofNat k), .str t, .int .i64 (.ofNat x), .int .i64 (.ofNat q)]), .vh (.tup []) g_1, .vh (.tup []) g_2, .b false, .v (.agg [.int .i64 (.ofNat k), .str t, .int .i64 (.ofNat x), .int .i64 (.ofNat q)]), .v (.agg [.int .i64 (.ofNat k), .str t, .int .i64 (.ofNat x), .int .i64 (.ofNat q)]), .v (.bool false), .b false, .v (.int .i64 (.ofNat n_1))]) (by kernel_rfl) <| .cons H1 <| .cons (⟨H2, rfl⟩ : Nat.le (Nat.succ i) n ∧ AV.ptr c (0 + i * 4) = AV.ptr c (0 + i * 4)) <| .cons H3 <| .cons (⟨H4, rfl⟩ : Nat.le (Nat.succ i) n ∧ AV.ptr d (0 + i * 4) = AV.ptr d (0 + i * 4)) <| .cons H5 <| .cons (⟨by kernel_rfl, H6, rfl⟩ : some 4 = some 4 ∧ AEv.storeCells (AHeap.mk (HT.setN (AHeap.n h + 9 + 1) (HT.setN (AHeap.n h + 8 + 1) h.1 (AHeap.n h + 8) (some (AObj.cells [AV.int IntKind.i64 (Int.ofNat 0), AV.str [], AV.int IntKind.i64 (Int.ofNat 0), AV.int IntKind.i64 (Int.ofNat 0)] 30 BK.own 0 0))) (AHeap.n h + 9) (some (AObj.cells [AV.int IntKind.i64 (Int.ofNat 0), AV.str [], AV.int IntKind.i64 (Int.ofNat 0), AV.int IntKind.i64 (Int.ofNat 0)] 30 BK.own 0 0))) (AHeap.n (AHeap.mk (HT.setN (AHeap.n h + 8 + 1) h.1 (AHeap.n h + 8) (some (AObj.cells [AV.int IntKind.i64 (Int.ofNat 0), AV.str [], AV.int IntKind.i64 (Int.ofNat 0), AV.int IntKind.i64 (Int.ofNat 0)] 30 BK.own 0 0))) (AHeap.n (AHeap.room h 12))))) (AHeap.n h + 8) 0 [AV.int IntKind.i64 (Int.ofNat k), AV.str t, AV.int IntKind.i64 (Int.ofNat x), AV.int IntKind.i64 (Int.ofNat q)] = some g_1 ∧ AV.tup [] = AV.tup []) <| .cons (⟨by kernel_rfl, H7, rfl⟩ : some 4 = some 4 ∧ AEv.storeCells g_1 (AHeap.n h + 9) 0 [AV.int IntKind.i64 (Int.ofNat k), AV.str t, AV.int IntKind.i64 (Int.ofNat x), AV.int IntKind.i64 (Int.ofNat q)] = some g_2 ∧ AV.tup [] = AV.tup []) <| .cons (by kernel_rfl : AV.sound (AV.slice c 0 n (Cap.opn 4)) = true) <| .cons (by kernel_rfl : AV.slice c 0 n (Cap.opn 4) = AV.slice c 0 n (Cap.opn 4)) <| .cons (by kernel_rfl : AV.sound (AV.int IntKind.i64 (Int.ofNat i)) = true) <| .cons (by kernel_rfl : AV.int IntKind.i64 (Int.ofNat i) = AV.int IntKind.i64 (Int.ofNat i)) <| .cons (by kernel_rfl : AV.sound (AV.ptr c (0 + i * 4)) = true) <| .cons (⟨H2, rfl⟩ : Nat.le (Nat.succ i) n ∧ AV.ptr c (0 + i * 4) = AV.ptr c (0 + i * 4)) <| .cons (by kernel_rfl : AV.sound (AV.agg [AV.int IntKind.i64 (Int.ofNat k), AV.str t, AV.int IntKind.i64 (Int.ofNat x), AV.int IntKind.i64 (Int.ofNat q)]) = true) <| .cons H8 <| .cons (by kernel_rfl : AV.sound (AV.slice d 0 n (Cap.opn 4)) = true) <| .cons (by kernel_rfl : AV.slice d 0 n (Cap.opn 4) = AV.slice d 0 n (Cap.opn 4)) <| .cons (by kernel_rfl : AV.sound (AV.slice d 0 n (Cap.opn 4)) = true) <| .cons (by kernel_rfl : AV.slice d 0 n (Cap.opn 4) = AV.slice d 0 n (Cap.opn 4)) <| .cons (by kernel_rfl : AV.sound (AV.int IntKind.i64 (Int.ofNat i)) = true) <| .cons (by kernel_rfl : AV.int IntKind.i64 (Int.ofNat i) = AV.int IntKind.i64 (Int.ofNat i)) <| .cons (by kernel_rfl : AV.sound (AV.int IntKind.i64 (Int.ofNat i)) = true) <| .cons (by kernel_rfl : AV.int IntKind.i64 (Int.ofNat i) = AV.int IntKind.i64 (Int.ofNat i)) <| .cons (by kernel_rfl : AV.sound (AV.ptr d (0 + i * 4)) = true) <| .cons (⟨H4, rfl⟩ : Nat.le (Nat.succ i) n ∧ AV.ptr d (0 + i * 4) = AV.ptr d (0 + i * 4)) <| .cons (by kernel_rfl : AV.sound (AV.ptr d (0 + i * 4)) = true) <| .cons (⟨H4, rfl⟩ : Nat.le (Nat.succ i) n ∧ AV.ptr d (0 + i * 4) = AV.ptr d (0 + i * 4)) <| .cons (by kernel_rfl : AV.sound (AV.agg [AV.int IntKind.i64 (Int.ofNat k), AV.str t, AV.int IntKind.i64 (Int.ofNat x), AV.int IntKind.i64 (Int.ofNat q)]) = true) <| .cons H9 <| .cons (by kernel_rfl : AV.sound (AV.agg [AV.int IntKind.i64 (Int.ofNat k), AV.str t, AV.int IntKind.i64 (Int.ofNat x), AV.int IntKind.i64 (Int.ofNat q)]) = true) <| .cons H10 <| .cons (by kernel_rfl : (!true) = false) <| .cons H11 <| .cons H12 <| .cons H13 <| .cons (by kernel_rfl : false = false) <| .cons H14 <| .nil
theorem lr0 (call : CallT → List AV → AHeap → FRes) (s : List UInt8) (h : AHeap) :
    RunF Tryd.prog Tryd.f7 none call [0] (SSt.mk [(0, .str s)] [] .none h) (.nrm)
      (SSt.mk [(0, .str s)] [] .none h) :=
  sxF_run [0] (hs := []) (by kernel_rfl) <| .nil
theorem lr1 (call : CallT → List AV → AHeap → FRes) (s u : List UInt8) (h : AHeap) (n_1 : Nat)
    (H1 : foldA minA (AV.int IntKind.i64 (Int.ofNat (List.length s))) [AV.int IntKind.i64 (Int.ofNat 5000)] = some (AV.int IntKind.i64 (Int.ofNat n_1)))
    (H2 : sliceA Tryd.prog h 9 (AV.str s) none (some (AV.int IntKind.i64 (Int.ofNat n_1))) none = some (AV.str u)) :
    RunF Tryd.prog Tryd.f7 none call [1, 0] (SSt.mk [(0, .str s)] [] .none h) (.nrm)
      (SSt.mk [(0, .str u)] [] .none h) :=
  sxF_run [0] (hs := [.v (.int .i64 (.ofNat n_1)), .v (.str u)]) (by kernel_rfl) <| .cons H1 <| .cons H2 <| .nil
theorem lr2 (call : CallT → List AV → AHeap → FRes) (s : List UInt8) (v e : AV) (h g : AHeap)
    (H1 : call (.fn 12) [.str s] h = FRes.ret (.tup [v, e]) g) :
    RunF Tryd.prog Tryd.f7 none call [1, 1, 0] (SSt.mk [(0, .str s)] [] .none h) (.nrm)
      (SSt.mk [(0, .str s), (3, v), (4, e)] [] .none g) :=
  sxF_run [0, 3, 4] (hs := [.c (.tup [v, e]) g]) (by kernel_rfl) <| .cons H1 <| .nil
theorem lr3 (call : CallT → List AV → AHeap → FRes) (s : List UInt8) (v e w : AV) (k a : Nat) (h g g_1 : AHeap)
    (H1 : call (.fn 14) [.str s] h = FRes.ret (.tup [w, .agg [.int .i64 (.ofNat k), .int .i64 (.ofNat a)]]) g)
    (H2 : AEv.storeCells (AHeap.push g (.cells [.int .i64 (.ofNat 0), .int .i64 (.ofNat 0)] 38 .own 0 0)) (AHeap.n g) 0 [.int .i64 (.ofNat k), .int .i64 (.ofNat a)] = some g_1) :
    RunF Tryd.prog Tryd.f7 none call [1, 1, 1, 0] (SSt.mk [(0, .str s), (3, v), (4, e)] [] .none h) (.nrm)
      (SSt.mk [(3, v), (4, e), (5, w), (6, .ptr (AHeap.n g) 0)] [] .none g_1) :=
  sxF_run [3, 4, 5, 6] (hs := [.c (.tup [w, .agg [.int .i64 (.ofNat k), .int .i64 (.ofNat a)]]) g, .vh (.tup []) g_1]) (by kernel_rfl) <| .cons H1 <| .cons (⟨by kernel_rfl, H2, rfl⟩ : some 2 = some 2 ∧ AEv.storeCells (AHeap.push g (AObj.cells [AV.int IntKind.i64 (Int.ofNat 0), AV.int IntKind.i64 (Int.ofNat 0)] 38 BK.own 0 0)) (AHeap.n g) 0 [AV.int IntKind.i64 (Int.ofNat k), AV.int IntKind.i64 (Int.ofNat a)] = some g_1 ∧ AV.tup [] = AV.tup []) <| .nil
theorem lr4 (call : CallT → List AV → AHeap → FRes) (v e w : AV) (k a p : Nat) (h g g1 g2 : AHeap)
    (H1 : call (.fn 15) [v, w, .bool true] h = FRes.ret (.bool true) g)
    (H2 : AEv.loadCells g p 0 2 = some [.int .i64 (.ofNat k), .int .i64 (.ofNat a)])
    (H3 : call (.fn 16) [e, .agg [.int .i64 (.ofNat k), .int .i64 (.ofNat a)]] g = FRes.ret (.bool true) g1)
    (H4 : call (.fn 11) [] g1 = FRes.ret (.bool true) g2) :
    RunF Tryd.prog Tryd.f7 none call [1, 1, 1, 1] (SSt.mk [(3, v), (4, e), (5, w), (6, .ptr p 0)] [] .none h) (.ret)
      (SSt.mk [(2, .bool true)] [] .none g2) :=
  sxF_run [2] (hs := [.c (.bool true) g, .b true, .b true, .v (.agg [.int .i64 (.ofNat k), .int .i64 (.ofNat a)]), .b true, .c (.bool true) g1, .b true, .b true, .c (.bool true) g2, .b true]) (by kernel_rfl) <| .cons H1 <| .cons (by kernel_rfl : true = true) <| .cons (by kernel_rfl : true = true) <| .cons H2 <| .cons (by kernel_rfl : true = true) <| .cons H3 <| .cons (by kernel_rfl : true = true) <| .cons (by kernel_rfl : true = true) <| .cons H4 <| .cons (by kernel_rfl : true = true) <| .nil

/-! ### The document's reserved words; one step of its lexer -/
theorem nth_words : ∀ (ws : List (List UInt8)) (i : Nat) (hi : i < ws.length), nth i (ws.map AV.str) = some (.str ws[i])
  | [], i, hi => by simp at hi
  | x :: l, 0, hi => rfl
  | x :: l, i + 1, hi => by
    have := nth_words l i (by simpa using hi)
    simpa [nth] using this
theorem rzloop (call : CallT → List AV → AHeap → FRes) (s : List UInt8) (b : Nat) (c : Cap) (h : AHeap) (hl : ∀ i (hi : i < 22), load1 h b (0 + i * 1) = some (.str words[i])) : ∀ (k i : Nat), 22 - i = k → i ≤ 22 →
    ((words.drop i).any fun w => beqBytes w s) = true ∧ LoopF Tryd.prog Tryd.f10 none call [1, 1, 0, 1, 0] (k + 1) ⟨[(0, .str s), (3, .slice b 0 22 c), (4, .int .i64 (Int.ofNat i))], [], .none, h⟩ .ret ⟨[(2, .bool true)], [], .none, h⟩ ∨
    ((words.drop i).any fun w => beqBytes w s) = false ∧ LoopF Tryd.prog Tryd.f10 none call [1, 1, 0, 1, 0] (k + 1) ⟨[(0, .str s), (3, .slice b 0 22 c), (4, .int .i64 (Int.ofNat i))], [], .none, h⟩ (.exit 0) ⟨[], [], .none, h⟩
  | 0, i, hk, hi => by
    obtain rfl : i = 22 := by omega
    exact .inr ⟨rfl, .exit (RunP.post (rzl_3 call s b 22 c h (lt_f (by omega))) trivial) (by simp)⟩
  | k + 1, i, hk, hi => by
    have hii : i < 22 := by omega
    have hw : i < words.length := hii
    rw [List.drop_eq_getElem_cons hw, List.any_cons]
    cases hx : beqBytes words[i] s with
    | true => exact .inl ⟨rfl, .exit (RunP.post (rzl_1 call s b i c h _ (lt_t hii) hii (hl i hii) hx) ⟨rfl, trivial⟩) (by simp)⟩
    | false =>
      rw [Bool.false_or]
      have st := rzl_2 call s b i c h _ (i + 1) (lt_t hii) hii (hl i hii) hx (add1 hii (by decide))
      rcases rzloop call s b c h hl k (i + 1) (by omega) (by omega) with ⟨h1, h2⟩ | ⟨h1, h2⟩
      · exact .inl ⟨h1, .step st h2⟩
      · exact .inr ⟨h1, .step st h2⟩
theorem rreserved_c (m : Nat) (s : List UInt8) (h : AHeap) : ∃ g, C (m + 1) (.fn 10) [.str s] h = .ret (.bool (inW s)) g ∧ Ext h.n h g := by
  obtain ⟨H, hH⟩ : ∃ H, H = h.push (.cells (words.map AV.str) 9 .own 0 0) := ⟨_, rfl⟩
  have xH : Ext h.n h H := by rw [hH]; exact Ext.pushR (Nat.le_refl _) (Ext.refl _ _)
  have gH : H.get h.n = some (.cells (words.map AV.str) 9 .own 0 0) := by rw [hH]; exact gtop rfl
  have s0 := rz0 (C m) s h
  have s1 : RunF Tryd.prog Tryd.f10 none (C m) [1, 0] ⟨[(0, .str s), (2, .bool false)], [], .none, h⟩ .nrm ⟨[(0, .str s), (3, .slice h.n 0 22 (.exact 22))], [], .none, H⟩ := by
    rw [hH]; exact RunP.pre (rz1 (C m) s h) ⟨rfl, trivial⟩ rfl rfl rfl
  have hl : ∀ i (hi : i < 22), load1 H h.n (0 + i * 1) = some (.str words[i]) := fun i hi => by
    have e : 0 + i * 1 = i := by omega
    simp only [load1, gH, e, nth_words words i hi]
  rcases rzloop (C m) s h.n (.exact 22) H hl 22 0 rfl (by omega) with ⟨h1, h2⟩ | ⟨h1, h2⟩
  · have lp := LoopF.run (p := [1, 1, 0, 1, 0]) (by kernel_rfl) h2 (by omega)
    have s2 := rz2t (C m) s h.n (.exact 22) H H (RunP.pre lp ⟨rfl, rfl, rfl, trivial⟩ rfl rfl rfl)
    have e : inW s = true := h1
    rw [e]
    exact ⟨H, fn_runF (intr := Il) (n := m) (args := [.str s]) Tryd.func10 (by kernel_rfl) rfl (by kernel_rfl) (RunF.seq (p := []) (by kernel_rfl) s0 (RunF.seq (p := [1]) (by kernel_rfl) s1 (RunF.seqx (p := [1, 1]) (by kernel_rfl) s2 (by simp)))) (.inl rfl) (by kernel_rfl), xH⟩
  · have lp := LoopF.run (p := [1, 1, 0, 1, 0]) (by kernel_rfl) h2 (by omega)
    have s2 := rz2 (C m) s h.n (.exact 22) H H (RunP.pre lp ⟨rfl, rfl, rfl, trivial⟩ rfl rfl rfl)
    have e : inW s = false := h1
    rw [e]
    exact ⟨H, fn_runF (intr := Il) (n := m) (args := [.str s]) Tryd.func10 (by kernel_rfl) rfl (by kernel_rfl) (RunF.seq (p := []) (by kernel_rfl) s0 (RunF.seq (p := [1]) (by kernel_rfl) s1 (RunF.seq (p := [1, 1]) (by kernel_rfl) s2 (rz3 (C m) H)))) (.inl rfl) (by kernel_rfl), xH⟩
theorem el_word {c : UInt8} {r : List UInt8} (hb : blankB c = false) (h35 : ¬ c.toNat = 35) (hl : letterB c = true) : el (c :: r) = if ((c :: r).takeWhile Lexp.wordB).length > 24 then .bad 0 else .tok (if inW ((c :: r).takeWhile Lexp.wordB) then 2 else 1) ((c :: r).takeWhile Lexp.wordB) 0 ((c :: r).takeWhile Lexp.wordB).length := by
  unfold el
  simp only [hb, Bool.false_eq_true, if_false, if_neg h35, hl, if_true]
  rfl
theorem el_int {c : UInt8} {r : List UInt8} (hb : blankB c = false) (h35 : ¬ c.toNat = 35) (hl : letterB c = false) (hd : digitB c = true) : el (c :: r) = match numV ((c :: r).takeWhile digitB) 0 with
    | none => .bad 0
    | some v => .tok 3 [] v ((c :: r).takeWhile digitB).length := by
  unfold el
  simp only [hb, Bool.false_eq_true, if_false, if_neg h35, hl, hd, if_true]
  rfl
theorem el_quot {c : UInt8} {r : List UInt8} (hb : blankB c = false) (h35 : ¬ c.toNat = 35) (hl : letterB c = false) (hd : digitB c = false) (h34 : c.toNat = 34) : el (c :: r) = match txt (c :: r).length r 1 [] with
    | .ok t n => .tok 4 t 0 n
    | .bad n => .bad n := by
  unfold el
  simp only [hb, Bool.false_eq_true, if_false, if_neg h35, hl, hd, if_pos h34]
  rfl
theorem el_sgn {c : UInt8} {r : List UInt8} (hb : blankB c = false) (h35 : ¬ c.toNat = 35) (hl : letterB c = false) (hd : digitB c = false) (h34 : ¬ c.toNat = 34) : el (c :: r) = match sgn (c :: r) with
    | none => .bad 0
    | some g => .tok 5 g 0 g.length := by
  unfold el
  simp only [hb, Bool.false_eq_true, if_false, if_neg h35, hl, hd, if_neg h34]
  rfl
theorem el_rem {c : UInt8} {r : List UInt8} (hb : blankB c = false) (h35 : c.toNat = 35) : el (c :: r) = match remk (c :: r).length (c :: r) 0 with
    | (true, n) => .skip n
    | (false, n) => .bad n := by
  conv => lhs; unfold el
  simp only [hb, Bool.false_eq_true, if_false, if_pos h35]
  rfl
theorem rstep (m f B a : Nat) (s : List UInt8) (v : AV) (out : List Tk) (x : AHeap) (hs : s.length ≤ 80000) (hl : a < s.length) (hol : out.length ≤ 80000) (hi : RI f B v out x) : RStep (m + 3) f B s a v out x (el (s.drop a)) := by
  obtain ⟨gf, ho, hfB, hBn⟩ := hi
  have hd := List.drop_eq_getElem_cons hl
  have i1 := lt_t hl
  have i2 : idxS a s = some (.int .u8 (Int.ofNat s[a].toNat)) := idx_t hl
  obtain ⟨y, hy⟩ : ∃ y, y = (x.push (TokB ⟨0, [], 0, 0⟩)).set x.n (some (TokB ⟨0, [], 0, a⟩)) := ⟨_, rfl⟩
  have st : AEv.storeCells (x.push (TokB ⟨0, [], 0, 0⟩)) x.n 0 (encT ⟨0, [], 0, a⟩) = some y := by rw [hy]; exact stc (gtop rfl) rfl rfl
  have yn : y.n = x.n + 1 := by rw [hy]; rfl
  have yp : y.get x.n = some (TokB ⟨0, [], 0, a⟩) := by rw [hy]; exact gsame rfl
  have yo : ∀ b, b < x.n → y.get b = x.get b := fun b hb => by rw [hy]; exact gother (by omega) (gold hb rfl)
  have yf : y.get f = some (FltO 0 0) := (yo f (by omega)).trans gf
  have yO : OutG encT 4 30 B y v out := ho.keep (by omega) fun p _ hp => yo p hp
  have frY : Fr f B x y := ⟨by omega, fun b hb _ => yo b (by omega)⟩
  have riY : RI f B v out y := ⟨yf, yO, hfB, by omega⟩
  have ad1 : arith BinOp.add IntKind.i64 (Int.ofNat a) (Int.ofNat 1) = some (.int .i64 (Int.ofNat (a + 1))) := add_n (by omega)
  -- a heap where the token's block alone is another one
  have later : ∀ (z : AHeap) (d : Tk), y.n ≤ z.n → (∀ b, b < x.n → z.get b = y.get b) → z.get x.n = some (TokB d) → ∃ w z', appendA Tryd.prog (z.push (.cells (encT d) 30 .own 0 0)) 24 (some 24) v (.slice z.n 0 1 (.exact 1)) = some (w, z') ∧ RI f B w (out ++ [d]) z' ∧ Fr f B x z' := by
    intro z d hzn hzo _
    have oz : OutG encT 4 30 B z v out := yO.keep hzn fun p hv hp => by
      rcases Nat.lt_or_ge p x.n with h1 | h1
      · exact hzo p h1
      · have : p = x.n := by omega
        subst this
        exfalso
        rcases ho with ⟨rfl, _⟩ | ⟨q, rfl, _, _, _, hq⟩
        · cases hv
        · injection hv with hv1; omega
    obtain ⟨w, z', a1, a2, a3⟩ := app_tk d oz (by omega) (by omega)
    have n3 := a3.n
    refine ⟨w, z', a1, ⟨(a3.get f hfB).trans ((hzo f (by omega)).trans yf), a2, hfB, by omega⟩, ⟨by omega, fun b hb hbf => (a3.get b hb).trans ((hzo b (by omega)).trans (yo b (by omega)))⟩⟩
  -- a fault
  have fault : ∀ (z : AHeap) (k : Nat), y.n ≤ z.n → (∀ b, b < x.n → z.get b = y.get b) → AEv.storeCells z f 0 [.int .i64 (Int.ofNat 10), .int .i64 (Int.ofNat k)] = some (z.set f (some (FltO 10 k))) ∧ (z.set f (some (FltO 10 k))).get f = some (FltO 10 k) ∧ Fr f B x (z.set f (some (FltO 10 k))) := fun z k hzn hzo =>
    ⟨stc ((hzo f (by omega)).trans yf) rfl rfl, gsame rfl, ⟨by simp; omega, fun b hb hbf => gother hbf ((hzo b (by omega)).trans (yo b (by omega)))⟩⟩
  by_cases hb : blankB s[a] = true
  · have he : el (s.drop a) = .skip 1 := by rw [hd]; unfold el; simp only; rw [if_pos hb]
    rw [he]
    have fin : RunF Tryd.prog Tryd.f14 none (C (m + 3)) [1, 1, 1, 0, 0, 0] (xS s f v a x) .nrm (xS s f v (a + 1) y) → RStep (m + 3) f B s a v out x (.skip 1) := fun hr => ⟨y, hr, riY, frY⟩
    by_cases e1 : s[a].toNat = 32
    · exact fin (rxb1 (C (m + 3)) f a 0 0 0 0 0 0 false v v s s x x x x x _ _ _ i1 i2 st (eqI_t e1) ad1)
    by_cases e2 : s[a].toNat = 9
    · exact fin (rxb2 (C (m + 3)) f a 0 0 0 0 0 0 false v v s s x x x x x _ _ _ i1 i2 st (eqI_f e1) (eqI_t e2) ad1)
    by_cases e3 : s[a].toNat = 10
    · exact fin (rxb3 (C (m + 3)) f a 0 0 0 0 0 0 false v v s s x x x x x _ _ _ i1 i2 st (eqI_f e1) (eqI_f e2) (eqI_t e3) ad1)
    · have e4 : s[a].toNat = 13 := by
        simp [blankB, e1, e2, e3] at hb; exact hb
      exact fin (rxb4 (C (m + 3)) f a 0 0 0 0 0 0 false v v s s x x x x x _ _ _ i1 i2 st (eqI_f e1) (eqI_f e2) (eqI_f e3) (eqI_t e4) ad1)
  have hb' : blankB s[a] = false := by simpa using hb
  have e1 := eqI_f (show ¬ s[a].toNat = 32 from fun e => hb (by simp [blankB, e]))
  have e2 := eqI_f (show ¬ s[a].toNat = 9 from fun e => hb (by simp [blankB, e]))
  have e3 := eqI_f (show ¬ s[a].toNat = 10 from fun e => hb (by simp [blankB, e]))
  have e4 := eqI_f (show ¬ s[a].toNat = 13 from fun e => hb (by simp [blankB, e]))
  by_cases h35 : s[a].toNat = 35
  · have he : el (s.drop a) = match remk (s.drop a).length (s.drop a) 0 with
        | (true, n) => .skip n
        | (false, n) => .bad n := by rw [hd]; exact el_rem hb' h35
    have rc := rremark_c m a s y hs (by omega)
    rw [he]
    cases hr : remk (s.drop a).length (s.drop a) 0 with
    | mk ok n =>
      rw [hr] at rc
      cases ok with
      | true => exact ⟨y, rxr (C (m + 3)) f a _ 0 0 0 0 0 false v v s s x y x x x _ _ i1 i2 st e1 e2 e3 e4 (eqI_t h35) rc, riY, frY⟩
      | false =>
        obtain ⟨q1, q2, q3⟩ := fault y (a + n) (Nat.le_refl _) (fun _ _ => rfl)
        exact ⟨_, rxrb (C (m + 3)) f a _ 0 0 0 0 0 false v v s s x y x x x _ _ _ i1 i2 st e1 e2 e3 e4 (eqI_t h35) rc q1, q2, q3⟩
  have e5 := eqI_f h35
  have cl := rletter_c (m + 2) s[a] y
  cases hlt : letterB s[a] with
  | true =>
    rw [hlt] at cl
    have he : el (s.drop a) = if ((s.drop a).takeWhile Lexp.wordB).length > 24 then .bad 0 else .tok (if inW ((s.drop a).takeWhile Lexp.wordB) then 2 else 1) ((s.drop a).takeWhile Lexp.wordB) 0 ((s.drop a).takeWhile Lexp.wordB).length := by rw [hd]; exact el_word hb' h35 hlt
    obtain ⟨w, hw⟩ : ∃ w, w = (s.drop a).takeWhile Lexp.wordB := ⟨_, rfl⟩
    rw [he, ← hw]
    have hwl : w.length ≤ s.length - a := by
      have := tw_len Lexp.wordB (s.drop a)
      rw [← hw, List.length_drop] at this; exact this
    have lp := wd_lp (m + 2) f a x.n v s y hs w.length a (by rw [hw]) (by omega)
    have lr := LoopF.run (p := [1, 1, 1, 0, 0, 0, 1, 0, 1, 1, 1, 0, 0, 1, 1, 1, 1, 1, 0, 0, 0]) (by kernel_rfl) lp (by omega)
    have sl : ∀ z, sliceA Tryd.prog z 9 (.str s) (some (.int .i64 (Int.ofNat a))) (some (.int .i64 (Int.ofNat (a + w.length)))) none = some (.str w) := fun z => by
      rw [sl_mid (by omega) (by omega), show a + w.length - a = w.length by omega, hw, tw_take]
    obtain ⟨y1, hy1⟩ : ∃ y1, y1 = y.set x.n (some (TokB ⟨1, [], 0, a⟩)) := ⟨_, rfl⟩
    have st1 : AEv.storeCells y x.n (0 + 0) [.int .i64 (Int.ofNat 1)] = some y1 := by rw [hy1]; exact stc yp rfl rfl
    have p1 : y1.get x.n = some (TokB ⟨1, [], 0, a⟩) := by rw [hy1]; exact gsame rfl
    obtain ⟨y2, hy2⟩ : ∃ y2, y2 = y1.set x.n (some (TokB ⟨1, w, 0, a⟩)) := ⟨_, rfl⟩
    have st2 : AEv.storeCells y1 x.n (0 + 1) [.str w] = some y2 := by rw [hy2]; exact stc p1 rfl rfl
    have p2 : y2.get x.n = some (TokB ⟨1, w, 0, a⟩) := by rw [hy2]; exact gsame rfl
    have o2 : ∀ b, b < x.n → y2.get b = y.get b := fun b hb => by rw [hy2, hy1]; exact gother (by omega) (gother (by omega) rfl)
    have n2 : y2.n = y.n := by rw [hy2, hy1]; rfl
    obtain ⟨z, cr, xz⟩ := rreserved_c (m + 2) w y2
    have zn := xz.n
    have zo : ∀ b, b < x.n → z.get b = y.get b := fun b hb => (xz.get b (by omega)).trans (o2 b hb)
    have zp : z.get x.n = some (TokB ⟨1, w, 0, a⟩) := (xz.get x.n (by omega)).trans p2
    cases hin : inW w with
    | true =>
      rw [hin] at cr
      have hsh := reserved_short hin
      rw [if_neg (by omega)]
      obtain ⟨z1, hz1⟩ : ∃ z1, z1 = z.set x.n (some (TokB ⟨2, w, 0, a⟩)) := ⟨_, rfl⟩
      have st3 : AEv.storeCells z x.n (0 + 0) [.int .i64 (Int.ofNat 2)] = some z1 := by rw [hz1]; exact stc zp rfl rfl
      have p3 : z1.get x.n = some (TokB ⟨2, w, 0, a⟩) := by rw [hz1]; exact gsame rfl
      obtain ⟨u, z', a1, a2, a3⟩ := later z1 ⟨2, w, 0, a⟩ (by rw [hz1]; simp; omega) (fun b hb => by rw [hz1]; exact gother (by omega) (zo b hb)) p3
      exact ⟨u, z', rxw1 (C (m + 3)) f a 0 (a + w.length) x.n 2 0 a false v u s w x y y z z' _ y y1 w y2 z1 i1 i2 st e1 e2 e3 e4 e5 cl (RunP.pre lr ⟨rfl, rfl, rfl, rfl, rfl, rfl, trivial⟩ rfl rfl rfl) st1 (sl _) st2 (ld1 p2 rfl) cr st3 (ld1 p3 rfl) (lt_f (by omega)) (ldc p3 rfl) a1, a2, a3⟩
    | false =>
      rw [hin] at cr
      by_cases h24 : w.length > 24
      · rw [if_pos h24]
        obtain ⟨q1, q2, q3⟩ := fault z a (by omega) zo
        exact ⟨_, rxwb2 (C (m + 3)) f a 0 (a + w.length) x.n 0 0 0 false v v s w x y y z x _ y y1 w y2 _ i1 i2 st e1 e2 e3 e4 e5 cl (RunP.pre lr ⟨rfl, rfl, rfl, rfl, rfl, rfl, trivial⟩ rfl rfl rfl) st1 (sl _) st2 (ld1 p2 rfl) cr (ld1 zp rfl) (lt_t h24) q1, q2, q3⟩
      · rw [if_neg h24]
        obtain ⟨u, z', a1, a2, a3⟩ := later z ⟨1, w, 0, a⟩ (by omega) zo zp
        exact ⟨u, z', rxw2 (C (m + 3)) f a 0 (a + w.length) x.n 1 0 a false v u s w x y y z z' _ y y1 w y2 i1 i2 st e1 e2 e3 e4 e5 cl (RunP.pre lr ⟨rfl, rfl, rfl, rfl, rfl, rfl, trivial⟩ rfl rfl rfl) st1 (sl _) st2 (ld1 p2 rfl) cr (ld1 zp rfl) (lt_f (by omega)) (ldc zp rfl) a1, a2, a3⟩
  | false =>
    rw [hlt] at cl
    have cd := rdigit_c (m + 2) s[a] y
    cases hdg : digitB s[a] with
    | true =>
      rw [hdg] at cd
      have he : el (s.drop a) = match numV ((s.drop a).takeWhile digitB) 0 with
          | none => .bad 0
          | some v => .tok 3 [] v ((s.drop a).takeWhile digitB).length := by rw [hd]; exact el_int hb' h35 hlt hdg
      rw [he]
      obtain ⟨y1, hy1⟩ : ∃ y1, y1 = y.set x.n (some (TokB ⟨3, [], 0, a⟩)) := ⟨_, rfl⟩
      have st1 : AEv.storeCells y x.n (0 + 0) [.int .i64 (Int.ofNat 3)] = some y1 := by rw [hy1]; exact stc yp rfl rfl
      have p1 : y1.get x.n = some (TokB ⟨3, [], 0, a⟩) := by rw [hy1]; exact gsame rfl
      have o1 : ∀ b, b < x.n → y1.get b = y.get b := fun b hb => by rw [hy1]; exact gother (by omega) rfl
      have n1 : y1.n = y.n := by rw [hy1]; rfl
      obtain ⟨r1, r2⟩ := dg_lp (m + 2) f a x.n v s hs (by omega) ((s.drop a).takeWhile digitB).length a 0 y1 rfl (by omega) (by omega) p1 ⟨0, 0, (o1 f (by omega)).trans yf⟩
      have hwl : ((s.drop a).takeWhile digitB).length ≤ s.length - a := by
        have := tw_len digitB (s.drop a)
        rw [List.length_drop] at this; exact this
      cases hn : numV ((s.drop a).takeWhile digitB) 0 with
      | none =>
        obtain ⟨z, q1, q2, q3, q4⟩ := r2 hn
        have lr := LoopF.run (p := [1, 1, 1, 0, 0, 0, 1, 0, 1, 1, 1, 0, 0, 1, 1, 1, 1, 1, 1, 1, 0, 1, 0]) (by kernel_rfl) q1 (by omega)
        exact ⟨z, rxdb (C (m + 3)) f a 0 0 0 0 0 0 false v v s s x y y z x _ y y1 i1 i2 st e1 e2 e3 e4 e5 cl cd st1 (RunP.pre lr ⟨rfl, rfl, rfl, rfl, rfl, rfl, trivial⟩ rfl rfl rfl), q2, ⟨by omega, fun b hb hbf => (q4 b (by omega) hbf).trans ((o1 b (by omega)).trans (yo b (by omega)))⟩⟩
      | some r =>
        obtain ⟨z, q1, q2, q3, q4⟩ := r1 r hn
        have lr := LoopF.run (p := [1, 1, 1, 0, 0, 0, 1, 0, 1, 1, 1, 0, 0, 1, 1, 1, 1, 1, 1, 1, 0, 1, 0]) (by kernel_rfl) q1 (by omega)
        obtain ⟨u, z', a1, a2, a3⟩ := later z ⟨3, [], r, a⟩ (by omega) (fun b hb => (q4 b (by omega)).trans (o1 b hb)) q2
        exact ⟨u, z', rxd (C (m + 3)) f a 0 (a + ((s.drop a).takeWhile digitB).length) x.n 3 r a false v u s [] x y y z z' _ y y1 i1 i2 st e1 e2 e3 e4 e5 cl cd st1 (RunP.pre lr ⟨rfl, rfl, rfl, rfl, rfl, rfl, trivial⟩ rfl rfl rfl) (ldc q2 rfl) a1, a2, a3⟩
    | false =>
      rw [hdg] at cd
      by_cases h34 : s[a].toNat = 34
      · have he : el (s.drop a) = match txt (s.drop a).length (s.drop (a + 1)) 1 [] with
            | .ok t n => .tok 4 t 0 n
            | .bad n => .bad n := by rw [hd]; exact el_quot hb' h35 hlt hdg h34
        obtain ⟨t1, t2⟩ := rtext_c m a s y hs hl
        rw [he]
        cases ht : txt (s.drop a).length (s.drop (a + 1)) 1 [] with
        | ok t n =>
          have ct := t1 t n ht
          obtain ⟨y1, hy1⟩ : ∃ y1, y1 = y.set x.n (some (TokB ⟨4, [], 0, a⟩)) := ⟨_, rfl⟩
          have st1 : AEv.storeCells y x.n (0 + 0) [.int .i64 (Int.ofNat 4)] = some y1 := by rw [hy1]; exact stc yp rfl rfl
          have p1 : y1.get x.n = some (TokB ⟨4, [], 0, a⟩) := by rw [hy1]; exact gsame rfl
          obtain ⟨y2, hy2⟩ : ∃ y2, y2 = y1.set x.n (some (TokB ⟨4, t, 0, a⟩)) := ⟨_, rfl⟩
          have st2 : AEv.storeCells y1 x.n (0 + 1) [.str t] = some y2 := by rw [hy2]; exact stc p1 rfl rfl
          have p2 : y2.get x.n = some (TokB ⟨4, t, 0, a⟩) := by rw [hy2]; exact gsame rfl
          obtain ⟨u, z', a1, a2, a3⟩ := later y2 ⟨4, t, 0, a⟩ (by rw [hy2, hy1]; exact Nat.le_refl _) (fun b hb => by rw [hy2, hy1]; exact gother (by omega) (gother (by omega) rfl)) p2
          exact ⟨u, z', rxq (C (m + 3)) f a (a + n) 0 0 4 0 a false v u s t x y y y z' _ y y1 y2 i1 i2 st e1 e2 e3 e4 e5 cl cd (eqI_t h34) ct st1 st2 (ldc p2 rfl) a1, a2, a3⟩
        | bad n =>
          have ct := t2 n ht
          obtain ⟨q1, q2, q3⟩ := fault y (a + n) (Nat.le_refl _) (fun _ _ => rfl)
          exact ⟨_, rxqb (C (m + 3)) f a (a + n) 0 0 0 0 0 false v v s [] x y y y x _ y _ i1 i2 st e1 e2 e3 e4 e5 cl cd (eqI_t h34) ct q1, q2, q3⟩
      · have he : el (s.drop a) = match sgn (s.drop a) with
            | none => .bad 0
            | some g => .tok 5 g 0 g.length := by rw [hd]; exact el_sgn hb' h35 hlt hdg h34
        rw [he]
        obtain ⟨y1, hy1⟩ : ∃ y1, y1 = y.set x.n (some (TokB ⟨5, [], 0, a⟩)) := ⟨_, rfl⟩
        have st1 : AEv.storeCells y x.n (0 + 0) [.int .i64 (Int.ofNat 5)] = some y1 := by rw [hy1]; exact stc yp rfl rfl
        have p1 : y1.get x.n = some (TokB ⟨5, [], 0, a⟩) := by rw [hy1]; exact gsame rfl
        have n1 : y1.n = y.n := by rw [hy1]; rfl
        obtain ⟨z, cs, xz⟩ := rsign_c (m + 2) a s y1 hs (by omega)
        have zn := xz.n
        have zp : z.get x.n = some (TokB ⟨5, [], 0, a⟩) := (xz.get x.n (by omega)).trans p1
        obtain ⟨z1, hz1⟩ : ∃ z1, z1 = z.set x.n (some (TokB ⟨5, (sgn (s.drop a)).getD [], 0, a⟩)) := ⟨_, rfl⟩
        have st2 : AEv.storeCells z x.n (0 + 1) [.str ((sgn (s.drop a)).getD [])] = some z1 := by rw [hz1]; exact stc zp rfl rfl
        have p2 : z1.get x.n = some (TokB ⟨5, (sgn (s.drop a)).getD [], 0, a⟩) := by rw [hz1]; exact gsame rfl
        have o1 : ∀ b, b < x.n → z1.get b = y.get b := fun b hb => by rw [hz1]; exact gother (by omega) ((xz.get b (by omega)).trans (by rw [hy1]; exact gother (by omega) rfl))
        have nz1 : z1.n = z.n := by rw [hz1]; rfl
        cases hsg : sgn (s.drop a) with
        | none =>
          rw [hsg] at cs st2 p2
          obtain ⟨q1, q2, q3⟩ := fault z1 a (by omega) o1
          exact ⟨_, rxsb (C (m + 3)) f a 0 0 0 0 0 0 false v v s [] x y y z x _ y y1 z1 _ i1 i2 st e1 e2 e3 e4 e5 cl cd (eqI_f h34) st1 cs st2 (ld1 p2 rfl) rfl q1, q2, q3⟩
        | some g =>
          rw [hsg] at cs st2 p2
          have hg := signs_pos g (sgn_mem hsg).1
          have hbe : beqBytes g [] = false := by
            rw [beqBytes_eq]
            cases g with
            | nil => simp at hg
            | cons _ _ => rfl
          obtain ⟨u, z', a1, a2, a3⟩ := later z1 ⟨5, g, 0, a⟩ (by omega) o1 p2
          exact ⟨u, z', rxs (C (m + 3)) f a 0 0 0 5 0 a false v u s g x y y z z' _ y y1 z1 _ i1 i2 st e1 e2 e3 e4 e5 cl cd (eqI_f h34) st1 cs st2 (ld1 p2 rfl) hbe (add_n (by omega)) (ldc p2 rfl) a1, a2, a3⟩
end Go.Proofs.Lx

namespace Go.Proofs.Lx
open Go AEv Go.Proofs Lexp
set_option maxRecDepth 100000
set_option maxHeartbeats 1000000

/-! ### The document's lexer, whole; LexReads -/
def REnd (n f B : Nat) (s : List UInt8) (fu : Nat) (v : AV) (a : Nat) (x : AHeap) : Except Nat (List Tk) → Prop
  | .ok res => ∃ k w x' out, k ≤ fu + 1 ∧ LoopF Tryd.prog Tryd.f14 none (C n) [1, 1, 1, 0, 0] k (xS s f v a x) (.exit 0) (xS s f w s.length x') ∧ RI f B w out x' ∧ res = out ++ [⟨0, [], 0, s.length⟩] ∧ out.length ≤ s.length ∧ Fr f B x x'
  | .error e => ∃ k x', k ≤ fu + 1 ∧ LoopF Tryd.prog Tryd.f14 none (C n) [1, 1, 1, 0, 0] k (xS s f v a x) .ret (xR f x') ∧ x'.get f = some (FltO 10 e) ∧ Fr f B x x'
theorem REnd.step {n f B : Nat} {s : List UInt8} {fu a a1 : Nat} {v v1 : AV} {x x1 : AHeap} (hr : RunF Tryd.prog Tryd.f14 none (C n) [1, 1, 1, 0, 0, 0] (xS s f v a x) .nrm (xS s f v1 a1 x1)) (hx : Fr f B x x1) : ∀ {r : Except Nat (List Tk)}, REnd n f B s fu v1 a1 x1 r → REnd n f B s (fu + 1) v a x r
  | .ok res, ⟨k, w, x', out, h1, h2, h3, h4, h5, h6⟩ => ⟨k + 1, w, x', out, by omega, .step hr h2, h3, h4, h5, hx.trans h6⟩
  | .error e, ⟨k, x', h1, h2, h3, h4⟩ => ⟨k + 1, x', by omega, .step hr h2, h3, hx.trans h4⟩
theorem rl_lp (m f B : Nat) (s : List UInt8) (hs : s.length ≤ 80000) : ∀ (fu a : Nat) (v : AV) (out : List Tk) (x : AHeap), s.length - a ≤ fu → a ≤ s.length → out.length ≤ a → RI f B v out x → REnd (m + 3) f B s fu v a x (lexL fu (s.drop a) a out)
  | 0, a, v, out, x, hf, ha, hol, hi => by
    obtain rfl : a = s.length := by omega
    exact ⟨1, v, x, out, by omega, .exit (rxx (C (m + 3)) f s.length 0 0 0 0 0 0 false v v s s x x x x x (lt_f (by omega))) (by simp), hi, rfl, hol, ⟨Nat.le_refl _, fun _ _ _ => rfl⟩⟩
  | fu + 1, a, v, out, x, hf, ha, hol, hi => by
    rcases Nat.lt_or_ge a s.length with hlt | hge
    · have hd := List.drop_eq_getElem_cons hlt
      have hll : (s.drop a).length = s.length - a := List.length_drop
      have hel := el_len s[a] (s.drop (a + 1))
      rw [← hd, show (s.drop (a + 1)).length + 1 = (s.drop a).length by rw [hd]; rfl, hll] at hel
      have rs := rstep m f B a s v out x hs hlt (by omega) hi
      unfold lexL
      rw [hd]
      simp only
      rw [← hd]
      cases he : el (s.drop a) with
      | skip n =>
        rw [he] at rs hel
        obtain ⟨x', r1, r2, r3⟩ := rs
        simp only
        rw [List.drop_drop]
        exact REnd.step r1 r3 (rl_lp m f B s hs fu (a + n) v out x' (by have := hel.1; omega) (by have := hel.2; omega) (by omega) r2)
      | bad n =>
        rw [he] at rs
        obtain ⟨x', r1, r2, r3⟩ := rs
        exact ⟨1, x', by omega, .exit r1 (by simp), r2, r3⟩
      | tok k t u j =>
        rw [he] at rs hel
        obtain ⟨w, x', r1, r2, r3⟩ := rs
        simp only
        rw [List.drop_drop]
        exact REnd.step r1 r3 (rl_lp m f B s hs fu (a + j) w _ x' (by have := hel.1; omega) (by have := hel.2; omega) (by have := hel.1; simp; omega) r2)
    · obtain rfl : a = s.length := by omega
      unfold lexL
      rw [List.drop_length]
      exact ⟨1, v, x, out, by omega, .exit (rxx (C (m + 3)) f s.length 0 0 0 0 0 0 false v v s s x x x x x (lt_f (by omega))) (by simp), hi, rfl, hol, ⟨Nat.le_refl _, fun _ _ _ => rfl⟩⟩
theorem res_rl {Γ : Env} {y : AHeap} {v : AV} {p k a : Nat} (hg : y.get p = some (FltO k a)) (h2 : lk 2 Γ = some v) (h3 : lk 3 Γ = some (.ptr p 0)) : resS Tryd.prog (needFn Tryd.f14) Tryd.f14 Γ y = some (.tup [v, .agg [.int .i64 (Int.ofNat k), .int .i64 (Int.ofNat a)]]) := by
  have e : (Tryd.f14).results.toList = [.tmp 2, .cell 3 38] := by kernel_rfl
  have b2 : Nat.testBit (needFn Tryd.f14) 2 = true := by kernel_rfl
  have b3 : Nat.testBit (needFn Tryd.f14) 3 = true := by kernel_rfl
  have g3 : isAggT Tryd.prog 38 = some true := by kernel_rfl
  have z3 : sizeT Tryd.prog 38 = some 2 := by kernel_rfl
  have hl : AEv.loadCells y p 0 2 = some [.int .i64 (Int.ofNat k), .int .i64 (Int.ofNat a)] := ldc hg rfl
  unfold resS
  rw [e]
  simp only [allA, oneS, b2, b3, h2, h3, g3, z3, hl]
theorem RLex_c (m : Nat) (s : List UInt8) (h : AHeap) (hs : s.length ≤ 80000) :
    (∀ out, lexS s = .ok out → ∃ v h', C (m + 4) (.fn 14) [.str s] h = .ret (.tup [v, .agg [.int .i64 (Int.ofNat 0), .int .i64 (Int.ofNat 0)]]) h' ∧ OutG encT 4 30 h.n h' v out ∧ Ext h.n h h') ∧
    (∀ a, lexS s = .error a → ∃ h', C (m + 4) (.fn 14) [.str s] h = .ret (.tup [.nilS, .agg [.int .i64 (Int.ofNat 10), .int .i64 (Int.ofNat a)]]) h' ∧ Ext h.n h h') := by
  obtain ⟨x, hx⟩ : ∃ x, x = h.push (FltO 0 0) := ⟨_, rfl⟩
  have xn : x.n = h.n + 1 := by rw [hx]; rfl
  have xf : x.get h.n = some (FltO 0 0) := by rw [hx]; exact gtop rfl
  have xo : ∀ b, b < h.n → x.get b = h.get b := fun b hb => by rw [hx]; exact gold hb rfl
  have s0 := rx0 (C (m + 3)) s h
  rw [← hx] at s0
  have s1 := rx1 (C (m + 3)) h.n s x
  have s2 := rx2 (C (m + 3)) h.n .nilS s x
  have lp := rl_lp m h.n (h.n + 1) s hs s.length 0 .nilS [] x (by omega) (Nat.zero_le _) (Nat.le_refl _) ⟨xf, .inl ⟨rfl, rfl⟩, Nat.lt_succ_self _, by omega⟩
  rw [List.drop_zero] at lp
  have ext : ∀ {x'}, Fr h.n (h.n + 1) x x' → Ext h.n h x' := fun {x'} fr => ⟨by have := fr.n; omega, fun b hb => (fr.get b (by omega) (by omega)).trans (xo b hb)⟩
  refine ⟨fun out ho => ?_, fun a ho => ?_⟩
  · rw [show lexL s.length s 0 [] = .ok out from ho] at lp
    obtain ⟨k, w, x', out', k1, k2, k3, rfl, k4, k5⟩ := lp
    have l1 := RunF.block (p := [1, 1, 1, 0]) (id := 0) (by kernel_rfl) (LoopF.run (p := [1, 1, 1, 0, 0]) (by kernel_rfl) k2 (by omega))
    obtain ⟨u, z, a1, a2, a3⟩ := app_tk (B := h.n + 1) ⟨0, [], 0, s.length⟩ k3.o k3.Bn (by omega)
    have zf : z.get h.n = some (FltO 0 0) := (a3.get h.n (Nat.lt_succ_self _)).trans k3.g
    have st : AEv.storeCells z h.n 0 [.int .i64 (Int.ofNat 0), .int .i64 (Int.ofNat 0)] = some (z.set h.n (some (FltO 0 0))) := stc zf rfl rfl
    have s3 := rxe (C (m + 3)) h.n s.length w u x' z _ a1 st
    have l2 := RunP.post l1 (Γ2 := [(3, .ptr h.n 0), (4, w), (5, .int .i64 (Int.ofNat s.length))]) ⟨rfl, rfl, rfl, trivial⟩
    have e1 := ext k5
    refine ⟨u, _, fn_runF (intr := Il) (n := m + 3) (args := [.str s]) Tryd.func14 (by kernel_rfl) rfl (by kernel_rfl) (RunF.seq (p := []) (by kernel_rfl) s0 (RunF.seq (p := [1]) (by kernel_rfl) (RunP.pre s1 ⟨rfl, rfl, trivial⟩ rfl rfl rfl) (RunF.seq (p := [1, 1]) (by kernel_rfl) s2 (RunF.seq (p := [1, 1, 1]) (by kernel_rfl) l2 s3)))) (.inl rfl) (res_rl (gsame rfl) rfl rfl), ?_, ?_⟩
    · exact (a2.le (by omega)).setOwn zf
    · exact Ext.setR (Nat.le_refl _) (e1.trans (Nat.le_refl _) (a3.le (by omega)))
  · rw [show lexL s.length s 0 [] = .error a from ho] at lp
    obtain ⟨k, x', k1, k2, k3, k4⟩ := lp
    have l1 := RunF.blockx (p := [1, 1, 1, 0]) (id := 0) (by kernel_rfl) (LoopF.run (p := [1, 1, 1, 0, 0]) (by kernel_rfl) k2 (by omega)) (by simp)
    exact ⟨x', fn_runF (intr := Il) (n := m + 3) (args := [.str s]) Tryd.func14 (by kernel_rfl) rfl (by kernel_rfl) (RunF.seq (p := []) (by kernel_rfl) s0 (RunF.seq (p := [1]) (by kernel_rfl) (RunP.pre s1 ⟨rfl, rfl, trivial⟩ rfl rfl rfl) (RunF.seq (p := [1, 1]) (by kernel_rfl) s2 (RunF.seqx (p := [1, 1, 1]) (by kernel_rfl) l1 (by simp))))) (.inl rfl) (res_rl k3 rfl rfl), ext k4⟩
theorem bin_tk' (h : AHeap) (x y : Operand) (d : Tk) : binA Tryd.prog h BinOp.neq 30 x y (.agg (encT d)) (.agg (encT d)) = some (.bool false) := by
  have hk : eqOK Tryd.prog 30 x y (.agg (encT d)) (.agg (encT d)) = true := by
    show (!Tryd.prog.eqGuardType Tryd.prog.depth 30) = true
    kernel_rfl
  have he : eqA Tryd.prog h 100 30 (.agg (encT d)) (.agg (encT d)) = some true := by
    have : eqA Tryd.prog h 100 30 (.agg (encT d)) (.agg (encT d)) = (match some (eqI (Int.ofNat d.k) (Int.ofNat d.k)) with
      | some true => (match some (beqBytes d.t d.t) with
        | some true => (match some (eqI (Int.ofNat d.v) (Int.ofNat d.v)) with
          | some true => (match some (eqI (Int.ofNat d.at') (Int.ofNat d.at')) with
            | some true => some true
            | x => x)
          | x => x)
        | x => x)
      | x => x) := by kernel_rfl
    rw [this, eqI_t rfl, eqI_t rfl, eqI_t rfl, bbr]
  simp only [binA, hk, if_true, he]
  rfl
theorem sm_lp (n c d N : Nat) (all : List Tk) (h0 : AHeap) (hN : all.length = N) (hl : N ≤ 90000) (hc : h0.get c = some (.cells (rowL encT all) 30 .opn 0 0)) (hd : h0.get d = some (.cells (rowL encT all) 30 .opn 0 0)) (hcn : c < h0.n) (hdn : d < h0.n) :
    ∀ (k i : Nat) (x : AHeap), N - i = k → i ≤ N → Ext h0.n h0 x →
    ∃ x', LoopF Tryd.prog Tryd.f15 none (C n) [1, 1, 0, 1, 0] (k + 1) ⟨[(0, .slice c 0 N (.opn 4)), (1, .slice d 0 N (.opn 4)), (2, .bool true), (7, .int .i64 (Int.ofNat i))], [], .none, x⟩ (.exit 0) ⟨[], [], .none, x'⟩ ∧ Ext h0.n h0 x'
  | 0, i, x, hk, hi, e => by
    obtain rfl : i = N := by omega
    exact ⟨x, .exit (smx (C n) c d i i 0 0 0 [] x x (lt_f (by omega))) (by simp), e⟩
  | k + 1, i, x, hk, hi, e => by
    have hi' : i < all.length := by omega
    have en := e.n
    have l1 : AEv.loadCells (x.room 12) c (0 + i * 4) 4 = some (encT all[i]) := row_ldc (show (x.room 12).get c = _ from (e.get c hcn).trans hc) hi'
    have l2 : AEv.loadCells (x.room 12) d (0 + i * 4) 4 = some (encT all[i]) := row_ldc (show (x.room 12).get d = _ from (e.get d hdn).trans hd) hi'
    obtain ⟨H, hH⟩ : ∃ H, H = ((x.room 12).set (x.n + 8) (some (TokB ⟨0, [], 0, 0⟩))).set (x.n + 9) (some (TokB ⟨0, [], 0, 0⟩)) := ⟨_, rfl⟩
    have Ho : ∀ b, b < x.n → H.get b = x.get b := fun b hb => by rw [hH]; exact gother (by omega) (gother (by omega) rfl)
    have Hn : H.n = x.n + 12 := by rw [hH]; rfl
    obtain ⟨H1, hH1⟩ : ∃ H1, H1 = H.set (x.n + 8) (some (TokB all[i])) := ⟨_, rfl⟩
    have s1 : AEv.storeCells H (x.n + 8) 0 (encT all[i]) = some H1 := by rw [hH1]; exact stc (by rw [hH]; exact gother (by omega) (gsame rfl)) rfl rfl
    have H1o : ∀ b, b < x.n → H1.get b = x.get b := fun b hb => by rw [hH1]; exact gother (by omega) (Ho b hb)
    obtain ⟨H2, hH2⟩ : ∃ H2, H2 = H1.set (x.n + 9) (some (TokB all[i])) := ⟨_, rfl⟩
    have s2 : AEv.storeCells H1 (x.n + 9) 0 (encT all[i]) = some H2 := by rw [hH2]; exact stc (by rw [hH1]; exact gother (by omega) (by rw [hH]; exact gsame rfl)) rfl rfl
    have H2o : ∀ b, b < x.n → H2.get b = x.get b := fun b hb => by rw [hH2]; exact gother (by omega) (H1o b hb)
    have H2n : H2.n = x.n + 12 := by rw [hH2, hH1]; exact Hn
    have q8 : AEv.loadCells H2 (x.n + 8) 0 4 = some (encT all[i]) := ldc (show H2.get (x.n + 8) = some (TokB all[i]) by rw [hH2, hH1]; exact gother (by omega) (gsame rfl)) rfl
    have q9 : AEv.loadCells H2 (x.n + 9) 0 4 = some (encT all[i]) := ldc (show H2.get (x.n + 9) = some (TokB all[i]) by rw [hH2]; exact gsame rfl) rfl
    have lc : ∀ G : AHeap, (∀ b, b < x.n → G.get b = x.get b) → AEv.loadCells G c (0 + i * 4) 4 = some (encT all[i]) := fun G hG => row_ldc ((hG c (by omega)).trans ((e.get c hcn).trans hc)) hi'
    have ld : ∀ G : AHeap, (∀ b, b < x.n → G.get b = x.get b) → AEv.loadCells G d (0 + i * 4) 4 = some (encT all[i]) := fun G hG => row_ldc ((hG d (by omega)).trans ((e.get d hdn).trans hd)) hi'
    obtain ⟨x', r1, r2⟩ := sm_lp n c d N all h0 hN hl hc hd hcn hdn k (i + 1) H2 (by omega) (by omega) ⟨by omega, fun b hb => (H2o b (by omega)).trans (e.get b hb)⟩
    have cH := lc H Ho
    have dH := ld H Ho
    have dH1 := ld H1 H1o
    rw [hH] at s1 cH dH
    exact ⟨x', .step (sml (C n) c d N i all[i].k all[i].v all[i].at' all[i].t x x H1 H2 (i + 1) (lt_t (by omega)) (show i + 1 ≤ N by omega) l1 (show i + 1 ≤ N by omega) l2 s1 s2 cH dH1 dH q8 q9 (bin_tk' H2 _ _ all[i]) (add_n (i := i) (j := 1) (by omega))) r1, r2⟩
theorem Same_c (m : Nat) (v w : AV) (all : List Tk) (B B' : Nat) (h : AHeap) (hl : all.length ≤ 90000) (hv : OutG encT 4 30 B h v all) (hw : OutG encT 4 30 B' h w all) : ∃ h', C (m + 1) (.fn 15) [v, w, .bool true] h = .ret (.bool true) h' ∧ Ext h.n h h' := by
  rcases hv with ⟨rfl, rfl⟩ | ⟨c, rfl, h0, hc, _, hcn⟩
  · rcases hw with ⟨rfl, _⟩ | ⟨d, _, h0, _⟩
    · have lp := LoopF.run (p := [1, 1, 0, 1, 0]) (by kernel_rfl) (LoopF.exit (p := [1, 1, 0, 1, 0]) (n := 0) (smz (C m) h) (by simp)) (by omega)
      exact ⟨h, fn_runF (intr := Il) (n := m) (args := [.nilS, .nilS, .bool true]) Tryd.func15 (by kernel_rfl) rfl (by kernel_rfl) (sm0 (C m) h (RunP.pre lp ⟨rfl, rfl, rfl, rfl, trivial⟩ rfl rfl rfl)) (.inl rfl) (by kernel_rfl), Ext.refl _ _⟩
    · cases h0
  · rcases hw with ⟨_, rfl⟩ | ⟨d, rfl, _, hd, _, hdn⟩
    · cases h0
    · obtain ⟨x', r1, r2⟩ := sm_lp m c d all.length all h rfl hl hc hd hcn hdn all.length 0 h rfl (Nat.zero_le _) (Ext.refl _ _)
      have lp := LoopF.run (p := [1, 1, 0, 1, 0]) (by kernel_rfl) r1 (by omega)
      exact ⟨x', fn_runF (intr := Il) (n := m) (args := [.slice c 0 all.length (.opn 4), .slice d 0 all.length (.opn 4), .bool true]) Tryd.func15 (by kernel_rfl) rfl (by kernel_rfl) (sm1 (C m) c d all.length 0 0 0 0 [] h x' (by rw [eqI_t rfl]; rfl) (RunP.pre lp ⟨rfl, rfl, rfl, rfl, trivial⟩ rfl rfl rfl)) (.inl rfl) (by kernel_rfl), r2⟩
theorem reads_c (m : Nat) (s : List UInt8) (h : AHeap) (hm : Mem h) : ∃ h', C (m + 10) (.fn 7) [.str s] h = .ret (.bool true) h' := by
  have s0 := lr0 (C (m + 9)) s h
  obtain ⟨u, hu⟩ : ∃ u, u = s.take (min s.length 5000) := ⟨_, rfl⟩
  have hul : u.length ≤ 5000 := by rw [hu, List.length_take]; omega
  have s1 : RunF Tryd.prog Tryd.f7 none (C (m + 9)) [1, 0] ⟨[(0, .str s)], [], .none, h⟩ .nrm ⟨[(0, .str u)], [], .none, h⟩ := by
    exact lr1 (C (m + 9)) s u h _ (min_n _ _) (by rw [hu]; exact sl_to (by omega))
  have fin : ∀ (v e w : AV) (k a : Nat) (g g1 : AHeap), C (m + 9) (.fn 12) [.str u] h = .ret (.tup [v, e]) g → C (m + 9) (.fn 14) [.str u] g = .ret (.tup [w, .agg [.int .i64 (Int.ofNat k), .int .i64 (Int.ofNat a)]]) g1 → Mem g1 →
      (∀ x, Ext g1.n g1 x → ∃ x', C (m + 9) (.fn 15) [v, w, .bool true] x = .ret (.bool true) x' ∧ Ext x.n x x') →
      (∀ x, Ext g1.n g1 x → ∃ x', C (m + 9) (.fn 16) [e, .agg [.int .i64 (Int.ofNat k), .int .i64 (Int.ofNat a)]] x = .ret (.bool true) x' ∧ Ext x.n x x') →
      ∃ h', C (m + 10) (.fn 7) [.str s] h = .ret (.bool true) h' := by
    intro v e w k a g g1 c1 c2 m1 hsame htold
    have s2 := lr2 (C (m + 9)) u v e h g c1
    obtain ⟨y, hy⟩ : ∃ y, y = (g1.push (FltO 0 0)).set g1.n (some (FltO k a)) := ⟨_, rfl⟩
    have st : AEv.storeCells (g1.push (FltO 0 0)) g1.n 0 [.int .i64 (Int.ofNat k), .int .i64 (Int.ofNat a)] = some y := by rw [hy]; exact stc (gtop rfl) rfl rfl
    have yg : y.get g1.n = some (FltO k a) := by rw [hy]; exact gsame rfl
    have yn : y.n = g1.n + 1 := by rw [hy]; rfl
    have ye : Ext g1.n g1 y := ⟨by omega, fun b hb => by rw [hy]; exact gother (by omega) (gold hb rfl)⟩
    have s3 := lr3 (C (m + 9)) u v e w k a g g1 y c2 st
    obtain ⟨x1, r1, x1e⟩ := hsame y ye
    have xe : Ext g1.n g1 x1 := ye.trans (Nat.le_refl _) (x1e.le (by omega))
    obtain ⟨x2, r2, x2e⟩ := htold x1 xe
    have n1 := x1e.n
    have m2 : Mem x2 := (m1.ext xe).ext x2e
    have s4 := lr4 (C (m + 9)) v e w k a g1.n y x1 x2 x2 r1 (ldc ((x1e.get _ (by omega)).trans yg) rfl) r2 (works_c (m + 8) x2 m2.tb)
    exact ⟨x2, fn_runF (intr := Il) (n := m + 9) (args := [.str s]) Tryd.func7 (by kernel_rfl) rfl (by kernel_rfl) (RunF.seq (p := []) (by kernel_rfl) s0 (RunF.seq (p := [1]) (by kernel_rfl) s1 (RunF.seq (p := [1, 1]) (by kernel_rfl) s2 (RunF.seq (p := [1, 1, 1]) (by kernel_rfl) s3 s4)))) (.inl rfl) (by kernel_rfl)⟩
  obtain ⟨L1, L2⟩ := Lex_c m u h hm.tb hm.n (by omega)
  cases hL : lexS u with
  | ok out =>
    obtain ⟨v, g, c1, o1, e1⟩ := L1 out hL
    have mg := hm.ext e1
    obtain ⟨R1, _⟩ := RLex_c (m + 5) u g (by omega)
    obtain ⟨w, g1, c2, o2, e2⟩ := R1 out hL
    have hlen : out.length ≤ 90000 := by
      obtain ⟨out', rfl, tk⟩ := lexS_toks hL
      have := tk.len
      simp; omega
    refine fin v .nilI w 0 0 g g1 c1 c2 (mg.ext e2) (fun x ex => ?_) (fun x ex => ?_)
    · have o1' := (o1.mono e2 (Nat.le_refl _)).mono ex (Nat.le_refl _)
      exact Same_c (m + 8) v w out _ _ x hlen o1' (o2.mono ex (Nat.le_refl _))
    · exact told_nil (m + 8) 0 x
  | error a =>
    obtain ⟨er, g, c1, f1, f2, f3, e1⟩ := L2 a hL
    have mg := hm.ext e1
    obtain ⟨_, R2⟩ := RLex_c (m + 5) u g (by omega)
    obtain ⟨g1, c2, e2⟩ := R2 a hL
    have m1 := mg.ext e2
    refine fin .nilS _ .nilS 10 a g g1 c1 c2 m1 (fun x ex => ?_) (fun x ex => ?_)
    · exact Same_c (m + 8) .nilS .nilS [] 0 0 x (Nat.zero_le _) (.inl ⟨rfl, rfl⟩) (.inl ⟨rfl, rfl⟩)
    · have mx := m1.ext ex
      have n2 := e2.n
      have nx := ex.n
      exact told_c (m + 7) er a x mx.er mx.n ((ex.get er (by omega)).trans ((e2.get er f3).trans f1)) (by omega)
end Go.Proofs.Lx
