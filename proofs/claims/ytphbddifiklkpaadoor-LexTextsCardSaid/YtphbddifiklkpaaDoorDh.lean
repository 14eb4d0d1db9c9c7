/-
  PROVED HERE: contracts of functions (Dh). No condition beside each statement's own.
-/
import Derived.Test.YtphbddifiklkpaaDoorDg
import Derived.Test.YtphbddifiklkpaaDoorDf
import Derived.Test.YtphbddifiklkpaaDoorSxb
set_option linter.unusedVariables false
set_option linter.unusedSimpArgs false
namespace Go.Proofs.Lx
open Go AEv Go.Proofs Lexp
set_option maxRecDepth 100000
set_option maxHeartbeats 1000000

theorem dg1 (call : CallT → List AV → AHeap → FRes) (n : Nat) (h : AHeap) (n_1 n_2 : Nat) (t_1 : List UInt8)
    (H1 : ltI (.ofNat n) (.ofNat 10) = true)
    (H2 : evConvert Tryd.prog 2 5 (AV.int IntKind.i64 (Int.ofNat n)) h = OpRes.val (AV.int IntKind.u8 (Int.ofNat n_1)) h)
    (H3 : arith .add .u8 (.ofNat 48) (.ofNat n_1) = some (.int .u8 (.ofNat n_2)))
    (H4 : evConvert Tryd.prog 31 9 (AV.slice (AHeap.n h) 0 1 (Cap.exact 1)) (AHeap.push h (AObj.cells [AV.int IntKind.u8 (Int.ofNat n_2)] 5 BK.own 0 0)) = OpRes.val (AV.str t_1) (AHeap.push h (AObj.cells [AV.int IntKind.u8 (Int.ofNat n_2)] 5 BK.own 0 0))) :
    RunF Tryd.prog Tryd.f23 none call [] (SSt.mk [(0, .int .i64 (.ofNat n))] [] .none h) (.ret)
      (SSt.mk [(2, .str t_1)] [] .none (AHeap.push h (.cells [.int .u8 (.ofNat n_2)] 5 .own 0 0))) :=
  sxF_run [2] (hs := [.b true, .v (.int .u8 (.ofNat n_1)), .v (.int .u8 (.ofNat n_2)), .v (.str t_1)]) (by kernel_rfl) <| .cons H1 <| .cons H2 <| .cons H3 <| .cons H4 <| .nil
theorem dg2 (call : CallT → List AV → AHeap → FRes) (n a b : Nat) (x y : List UInt8) (h g g1 : AHeap) (t_1 : List UInt8)
    (H1 : ltI (.ofNat n) (.ofNat 10) = false)
    (H2 : arith .quo .i64 (.ofNat n) (.ofNat 10) = some (.int .i64 (.ofNat a)))
    (H3 : call (.fn 23) [.int .i64 (.ofNat a)] h = FRes.ret (.str x) g)
    (H4 : arith .rem .i64 (.ofNat n) (.ofNat 10) = some (.int .i64 (.ofNat b)))
    (H5 : call (.fn 23) [.int .i64 (.ofNat b)] g = FRes.ret (.str y) g1)
    (H6 : strOp .add x y = some (.str t_1)) :
    RunF Tryd.prog Tryd.f23 none call [] (SSt.mk [(0, .int .i64 (.ofNat n))] [] .none h) (.ret)
      (SSt.mk [(2, .str t_1)] [] .none g1) :=
  sxF_run [2] (hs := [.b false, .v (.int .i64 (.ofNat a)), .c (.str x) g, .v (.int .i64 (.ofNat b)), .c (.str y) g1, .v (.str t_1)]) (by kernel_rfl) <| .cons H1 <| .cons H2 <| .cons H3 <| .cons H4 <| .cons H5 <| .cons H6 <| .nil
theorem wt3 (call : CallT → List AV → AHeap → FRes) (v a : Nat) (x y : List UInt8) (h g : AHeap)
    (H1 : load1 (AHeap.push h (.cells [.int .i64 (.ofNat 3), .str x, .int .i64 (.ofNat v), .int .i64 (.ofNat a)] 30 .own 0 0)) (AHeap.n h) (0 + 0) = some (.int .i64 (.ofNat 3)))
    (H2 : load1 (AHeap.push h (.cells [.int .i64 (.ofNat 3), .str x, .int .i64 (.ofNat v), .int .i64 (.ofNat a)] 30 .own 0 0)) (AHeap.n h) (0 + 2) = some (.int .i64 (.ofNat v)))
    (H3 : call (.fn 23) [.int .i64 (.ofNat v)] (AHeap.push h (.cells [.int .i64 (.ofNat 3), .str x, .int .i64 (.ofNat v), .int .i64 (.ofNat a)] 30 .own 0 0)) = FRes.ret (.str y) g) :
    RunF Tryd.prog Tryd.f13 none call [] (SSt.mk [(0, .agg [.int .i64 (.ofNat 3), .str x, .int .i64 (.ofNat v), .int .i64 (.ofNat a)])] [] .none h) (.ret)
      (SSt.mk [(2, .str y)] [] .none g) :=
  sxF_run [2] (hs := [.v (.int .i64 (.ofNat 3)), .b true, .v (.int .i64 (.ofNat v)), .c (.str y) g]) (by kernel_rfl) <| .cons H1 <| .cons (by kernel_rfl : eqI (Int.ofNat 3) (Int.ofNat 3) = true) <| .cons H2 <| .cons H3 <| .nil
theorem wt0 (call : CallT → List AV → AHeap → FRes) (k v a : Nat) (x y : List UInt8) (h g : AHeap)
    (H1 : load1 (AHeap.push h (.cells [.int .i64 (.ofNat k), .str x, .int .i64 (.ofNat v), .int .i64 (.ofNat a)] 30 .own 0 0)) (AHeap.n h) (0 + 0) = some (.int .i64 (.ofNat k)))
    (H2 : eqI (.ofNat k) (.ofNat 3) = false)
    (H3 : eqI (.ofNat k) (.ofNat 4) = false)
    (H4 : load1 (AHeap.push h (.cells [.int .i64 (.ofNat k), .str x, .int .i64 (.ofNat v), .int .i64 (.ofNat a)] 30 .own 0 0)) (AHeap.n h) (0 + 1) = some (.str x)) :
    RunF Tryd.prog Tryd.f13 none call [] (SSt.mk [(0, .agg [.int .i64 (.ofNat k), .str x, .int .i64 (.ofNat v), .int .i64 (.ofNat a)])] [] .none h) (.ret)
      (SSt.mk [(2, .str x)] [] .none (AHeap.push h (.cells [.int .i64 (.ofNat k), .str x, .int .i64 (.ofNat v), .int .i64 (.ofNat a)] 30 .own 0 0))) :=
  sxF_run [2] (hs := [.v (.int .i64 (.ofNat k)), .b false, .b false, .v (.str x)]) (by kernel_rfl) <| .cons H1 <| .cons H2 <| .cons H3 <| .cons H4 <| .nil
theorem wt4 (call : CallT → List AV → AHeap → FRes) (v a c2 n2 p : Nat) (v0 : AV) (x y : List UInt8) (h h2 h3 : AHeap)
    (H1 : load1 (AHeap.push h (.cells [.int .i64 (.ofNat 4), .str x, .int .i64 (.ofNat v), .int .i64 (.ofNat a)] 30 .own 0 0)) (AHeap.n h) (0 + 0) = some (.int .i64 (.ofNat 4)))
    (H2 : RunF Tryd.prog Tryd.f13 none call [1, 0, 1, 0, 1, 1, 1, 0, 1, 0, 1, 0] (SSt.mk [(4, .int .i64 (.ofNat 0)), (3, .slice (AHeap.n (AHeap.push h (.cells [.int .i64 (.ofNat 4), .str x, .int .i64 (.ofNat v), .int .i64 (.ofNat a)] 30 .own 0 0))) 0 1 (.exact 1)), (12, .bool (eqI (.ofNat 4) (.ofNat 4))), (7, .bool (eqI (.ofNat 4) (.ofNat 3))), (6, .int .i64 (.ofNat 4)), (2, .str []), (1, .ptr (AHeap.n h) 0), (0, .agg [.int .i64 (.ofNat 4), .str x, .int .i64 (.ofNat v), .int .i64 (.ofNat a)])] [] .none (AHeap.push (AHeap.push h (.cells [.int .i64 (.ofNat 4), .str x, .int .i64 (.ofNat v), .int .i64 (.ofNat a)] 30 .own 0 0)) (.cells [.int .u8 (.ofNat 34)] 5 .own 0 0))) (.exit 1) (SSt.mk [(1, .ptr p 0), (3, v0)] [] .none h2))
    (H3 : appendA Tryd.prog (AHeap.push h2 (AObj.cells [AV.int IntKind.u8 (Int.ofNat 34)] 5 BK.own 0 0)) 31 (some 31) v0 (AV.slice (AHeap.n h2) 0 1 (Cap.exact 1)) = some (AV.slice c2 0 n2 (Cap.opn 1), h3))
    (H4 : evConvert Tryd.prog 31 9 (AV.slice c2 0 n2 (Cap.opn 1)) h3 = OpRes.val (AV.str y) h3) :
    RunF Tryd.prog Tryd.f13 none call [] (SSt.mk [(0, .agg [.int .i64 (.ofNat 4), .str x, .int .i64 (.ofNat v), .int .i64 (.ofNat a)])] [] .none h) (.ret)
      (SSt.mk [(2, .str y)] [] .none h3) :=
  sxF_run [2] (hs := [Hint.v (AV.int IntKind.i64 (Int.ofNat 4)), Hint.b false, Hint.b true, Hint.loop (AEx.exit 1) (SSt.mk [(1, AV.ptr p 0), (3, v0)] [] Rc.none h2), Hint.vh (AV.slice c2 0 n2 (Cap.opn 1)) h3, Hint.v (AV.str y)]) (by kernel_rfl) <| .cons H1 <| .cons (by kernel_rfl : eqI (Int.ofNat 4) (Int.ofNat 3) = false) <| .cons (by kernel_rfl : eqI (Int.ofNat 4) (Int.ofNat 4) = true) <| .cons H2 <| .cons H3 <| .cons H4 <| .nil
theorem wtl_1 (call : CallT → List AV → AHeap → FRes) (p i c : Nat) (x : List UInt8) (v : AV) (h g : AHeap) (n_1 n_2 n_3 n_4 : Nat) (c_1 : Cap) (g_1 : AHeap) (n_5 : Nat)
    (H1 : load1 h p (0 + 1) = some (.str x))
    (H2 : ltI (.ofNat i) (.ofNat (List.length x)) = true)
    (H3 : idxS i x = some (.int .u8 (.ofNat n_1)))
    (H4 : eqI (.ofNat n_1) (.ofNat 34) = true)
    (H5 : appendA Tryd.prog (AHeap.push h (AObj.cells [AV.int IntKind.u8 (Int.ofNat 92), AV.int IntKind.u8 (Int.ofNat n_1)] 5 BK.own 0 0)) 31 (some 31) v (AV.slice (AHeap.n h) 0 2 (Cap.exact 2)) = some (AV.slice n_2 n_3 n_4 c_1, g_1))
    (H6 : arith .add .i64 (.ofNat i) (.ofNat 1) = some (.int .i64 (.ofNat n_5))) :
    RunF Tryd.prog Tryd.f13 none call [1, 0, 1, 0, 1, 1, 1, 0, 1, 0, 1, 0, 0] (SSt.mk [(1, .ptr p 0), (3, v), (4, .int .i64 (.ofNat i))] [] .none h) (.nrm)
      (SSt.mk [(1, .ptr p 0), (3, .slice n_2 n_3 n_4 c_1), (4, .int .i64 (.ofNat n_5))] [] .none g_1) :=
  sxF_run [1, 3, 4] (hs := [.v (.str x), .b true, .v (.str x), .v (.int .u8 (.ofNat n_1)), .b true, .b true, .v (.str x), .v (.int .u8 (.ofNat n_1)), .vh (.slice n_2 n_3 n_4 c_1) g_1, .v (.int .i64 (.ofNat n_5))]) (by kernel_rfl) <| .cons H1 <| .cons H2 <| .cons H1 <| .cons H3 <| .cons H4 <| .cons H4 <| .cons H1 <| .cons H3 <| .cons H5 <| .cons H6 <| .nil
theorem wtl_2 (call : CallT → List AV → AHeap → FRes) (p i c : Nat) (x : List UInt8) (v : AV) (h g : AHeap) (n_1 n_2 n_3 n_4 : Nat) (c_1 : Cap) (g_1 : AHeap) (n_5 : Nat)
    (H1 : load1 h p (0 + 1) = some (.str x))
    (H2 : ltI (.ofNat i) (.ofNat (List.length x)) = true)
    (H3 : idxS i x = some (.int .u8 (.ofNat n_1)))
    (H4 : eqI (.ofNat n_1) (.ofNat 34) = false)
    (H5 : eqI (.ofNat n_1) (.ofNat 92) = true)
    (H6 : appendA Tryd.prog (AHeap.push h (AObj.cells [AV.int IntKind.u8 (Int.ofNat 92), AV.int IntKind.u8 (Int.ofNat n_1)] 5 BK.own 0 0)) 31 (some 31) v (AV.slice (AHeap.n h) 0 2 (Cap.exact 2)) = some (AV.slice n_2 n_3 n_4 c_1, g_1))
    (H7 : arith .add .i64 (.ofNat i) (.ofNat 1) = some (.int .i64 (.ofNat n_5))) :
    RunF Tryd.prog Tryd.f13 none call [1, 0, 1, 0, 1, 1, 1, 0, 1, 0, 1, 0, 0] (SSt.mk [(1, .ptr p 0), (3, v), (4, .int .i64 (.ofNat i))] [] .none h) (.nrm)
      (SSt.mk [(1, .ptr p 0), (3, .slice n_2 n_3 n_4 c_1), (4, .int .i64 (.ofNat n_5))] [] .none g_1) :=
  sxF_run [1, 3, 4] (hs := [.v (.str x), .b true, .v (.str x), .v (.int .u8 (.ofNat n_1)), .b false, .b true, .v (.str x), .v (.int .u8 (.ofNat n_1)), .vh (.slice n_2 n_3 n_4 c_1) g_1, .v (.int .i64 (.ofNat n_5))]) (by kernel_rfl) <| .cons H1 <| .cons H2 <| .cons H1 <| .cons H3 <| .cons H4 <| .cons H5 <| .cons H1 <| .cons H3 <| .cons H6 <| .cons H7 <| .nil
theorem wtl_3 (call : CallT → List AV → AHeap → FRes) (p i c : Nat) (x : List UInt8) (v : AV) (h g : AHeap) (n_1 n_2 n_3 n_4 : Nat) (c_1 : Cap) (g_1 : AHeap) (n_5 : Nat)
    (H1 : load1 h p (0 + 1) = some (.str x))
    (H2 : ltI (.ofNat i) (.ofNat (List.length x)) = true)
    (H3 : idxS i x = some (.int .u8 (.ofNat n_1)))
    (H4 : eqI (.ofNat n_1) (.ofNat 34) = false)
    (H5 : eqI (.ofNat n_1) (.ofNat 92) = false)
    (H6 : eqI (.ofNat n_1) (.ofNat 10) = true)
    (H7 : appendA Tryd.prog (AHeap.push h (AObj.cells [AV.int IntKind.u8 (Int.ofNat 92), AV.int IntKind.u8 (Int.ofNat 110)] 5 BK.own 0 0)) 31 (some 31) v (AV.slice (AHeap.n h) 0 2 (Cap.exact 2)) = some (AV.slice n_2 n_3 n_4 c_1, g_1))
    (H8 : arith .add .i64 (.ofNat i) (.ofNat 1) = some (.int .i64 (.ofNat n_5))) :
    RunF Tryd.prog Tryd.f13 none call [1, 0, 1, 0, 1, 1, 1, 0, 1, 0, 1, 0, 0] (SSt.mk [(1, .ptr p 0), (3, v), (4, .int .i64 (.ofNat i))] [] .none h) (.nrm)
      (SSt.mk [(1, .ptr p 0), (3, .slice n_2 n_3 n_4 c_1), (4, .int .i64 (.ofNat n_5))] [] .none g_1) :=
  sxF_run [1, 3, 4] (hs := [.v (.str x), .b true, .v (.str x), .v (.int .u8 (.ofNat n_1)), .b false, .b false, .b true, .vh (.slice n_2 n_3 n_4 c_1) g_1, .v (.int .i64 (.ofNat n_5))]) (by kernel_rfl) <| .cons H1 <| .cons H2 <| .cons H1 <| .cons H3 <| .cons H4 <| .cons H5 <| .cons H6 <| .cons H7 <| .cons H8 <| .nil
theorem wtl_4 (call : CallT → List AV → AHeap → FRes) (p i c : Nat) (x : List UInt8) (v : AV) (h g : AHeap) (n_1 n_2 n_3 n_4 : Nat) (c_1 : Cap) (g_1 : AHeap) (n_5 : Nat)
    (H1 : load1 h p (0 + 1) = some (.str x))
    (H2 : ltI (.ofNat i) (.ofNat (List.length x)) = true)
    (H3 : idxS i x = some (.int .u8 (.ofNat n_1)))
    (H4 : eqI (.ofNat n_1) (.ofNat 34) = false)
    (H5 : eqI (.ofNat n_1) (.ofNat 92) = false)
    (H6 : eqI (.ofNat n_1) (.ofNat 10) = false)
    (H7 : appendA Tryd.prog (AHeap.push h (AObj.cells [AV.int IntKind.u8 (Int.ofNat n_1)] 5 BK.own 0 0)) 31 (some 31) v (AV.slice (AHeap.n h) 0 1 (Cap.exact 1)) = some (AV.slice n_2 n_3 n_4 c_1, g_1))
    (H8 : arith .add .i64 (.ofNat i) (.ofNat 1) = some (.int .i64 (.ofNat n_5))) :
    RunF Tryd.prog Tryd.f13 none call [1, 0, 1, 0, 1, 1, 1, 0, 1, 0, 1, 0, 0] (SSt.mk [(1, .ptr p 0), (3, v), (4, .int .i64 (.ofNat i))] [] .none h) (.nrm)
      (SSt.mk [(1, .ptr p 0), (3, .slice n_2 n_3 n_4 c_1), (4, .int .i64 (.ofNat n_5))] [] .none g_1) :=
  sxF_run [1, 3, 4] (hs := [.v (.str x), .b true, .v (.str x), .v (.int .u8 (.ofNat n_1)), .b false, .b false, .b false, .v (.str x), .v (.int .u8 (.ofNat n_1)), .vh (.slice n_2 n_3 n_4 c_1) g_1, .v (.int .i64 (.ofNat n_5))]) (by kernel_rfl) <| .cons H1 <| .cons H2 <| .cons H1 <| .cons H3 <| .cons H4 <| .cons H5 <| .cons H6 <| .cons H1 <| .cons H3 <| .cons H7 <| .cons H8 <| .nil
theorem wtl_5 (call : CallT → List AV → AHeap → FRes) (p i c : Nat) (x : List UInt8) (v : AV) (h g : AHeap)
    (H1 : load1 h p (0 + 1) = some (.str x))
    (H2 : ltI (.ofNat i) (.ofNat (List.length x)) = false) :
    RunF Tryd.prog Tryd.f13 none call [1, 0, 1, 0, 1, 1, 1, 0, 1, 0, 1, 0, 0] (SSt.mk [(1, .ptr p 0), (3, v), (4, .int .i64 (.ofNat i))] [] .none h) (.exit 1)
      (SSt.mk [(1, .ptr p 0), (3, v), (4, .int .i64 (.ofNat i))] [] .none h) :=
  sxF_run [1, 3, 4] (hs := [.v (.str x), .b false]) (by kernel_rfl) <| .cons H1 <| .cons H2 <| .nil
theorem xt_a (call : CallT → List AV → AHeap → FRes) (s : List UInt8) (h : AHeap) :
    RunF Tryd.prog Tryd.f6 none call [0] (SSt.mk [(0, .str s)] [] .none h) (.nrm)
      (SSt.mk [(0, .str s)] [] .none h) :=
  sxF_run [0] (hs := []) (by kernel_rfl) <| .nil
theorem xt_b (call : CallT → List AV → AHeap → FRes) (s : List UInt8) (h : AHeap) (n_1 : Nat) (t_1 : List UInt8)
    (H1 : foldA minA (AV.int IntKind.i64 (Int.ofNat (List.length s))) [AV.int IntKind.i64 (Int.ofNat 500)] = some (AV.int IntKind.i64 (Int.ofNat n_1)))
    (H2 : sliceA Tryd.prog h 9 (AV.str s) none (some (AV.int IntKind.i64 (Int.ofNat n_1))) none = some (AV.str t_1)) :
    RunF Tryd.prog Tryd.f6 none call [1, 0] (SSt.mk [(0, .str s)] [] .none h) (.nrm)
      (SSt.mk [(0, .str t_1)] [] .none h) :=
  sxF_run [0] (hs := [.v (.int .i64 (.ofNat n_1)), .v (.str t_1)]) (by kernel_rfl) <| .cons H1 <| .cons H2 <| .nil
theorem xt_c (call : CallT → List AV → AHeap → FRes) (s : List UInt8) (h : AHeap) :
    RunF Tryd.prog Tryd.f6 none call [1, 1, 0, 0] (SSt.mk [(0, .str s)] [] .none h) (.nrm)
      (SSt.mk [(0, .str s), (14, .ptr (AHeap.n h) 0)] [] .none (AHeap.push h (.strIter s 0))) :=
  sxF_run [0, 14] (hs := []) (by kernel_rfl) <| .nil
theorem xt_l0 (call : CallT → List AV → AHeap → FRes) (s : List UInt8) (it : Nat) (h g : AHeap)
    (H1 : nextA h (AV.ptr it 0) true = some (AV.tup [AV.bool false], g)) :
    RunF Tryd.prog Tryd.f6 none call [1, 1, 0, 1, 0, 0] (SSt.mk [(0, .str s), (14, .ptr it 0)] [] .none h) (.exit 0)
      (SSt.mk [(0, .str s)] [] .none g) :=
  sxF_run [0] (hs := [.vh (.tup [.bool false]) g, .b false]) (by kernel_rfl) <| .cons H1 <| .cons (by kernel_rfl : false = false) <| .nil
theorem xt_l1 (call : CallT → List AV → AHeap → FRes) (s : List UInt8) (it i c : Nat) (h g : AHeap)
    (H1 : nextA h (AV.ptr it 0) true = some (AV.tup [AV.bool true, AV.int IntKind.i64 (Int.ofNat i), AV.int IntKind.i32 (Int.ofNat c)], g))
    (H2 : eqI (.ofNat c) (.ofNat 65533) = false) :
    RunF Tryd.prog Tryd.f6 none call [1, 1, 0, 1, 0, 0] (SSt.mk [(0, .str s), (14, .ptr it 0)] [] .none h) (.nrm)
      (SSt.mk [(0, .str s), (14, .ptr it 0)] [] .none g) :=
  sxF_run [0, 14] (hs := [.vh (.tup [.bool true, .int .i64 (.ofNat i), .int .i32 (.ofNat c)]) g, .b true, .b false]) (by kernel_rfl) <| .cons H1 <| .cons (by kernel_rfl : true = true) <| .cons H2 <| .nil
theorem xt_l2 (call : CallT → List AV → AHeap → FRes) (s : List UInt8) (it i c : Nat) (h g g1 : AHeap)
    (H1 : nextA h (AV.ptr it 0) true = some (AV.tup [AV.bool true, AV.int IntKind.i64 (Int.ofNat i), AV.int IntKind.i32 (Int.ofNat c)], g))
    (H2 : eqI (.ofNat c) (.ofNat 65533) = true)
    (H3 : call (.fn 11) [] g = FRes.ret (.bool true) g1) :
    RunF Tryd.prog Tryd.f6 none call [1, 1, 0, 1, 0, 0] (SSt.mk [(0, .str s), (14, .ptr it 0)] [] .none h) (.ret)
      (SSt.mk [(2, .bool true)] [] .none g1) :=
  sxF_run [2] (hs := [.vh (.tup [.bool true, .int .i64 (.ofNat i), .int .i32 (.ofNat c)]) g, .b true, .b true, .c (.bool true) g1]) (by kernel_rfl) <| .cons H1 <| .cons (by kernel_rfl : true = true) <| .cons H2 <| .cons H3 <| .nil
theorem xt_d (call : CallT → List AV → AHeap → FRes) (s w : List UInt8) (h g : AHeap)
    (H1 : call (.fn 13) [.agg [.int .i64 (.ofNat 4), .str s, .int .i64 (.ofNat 0), .int .i64 (.ofNat 0)]] h = FRes.ret (.str w) g) :
    RunF Tryd.prog Tryd.f6 none call [1, 1, 1, 0] (SSt.mk [(0, .str s)] [] .none h) (.nrm)
      (SSt.mk [(0, .str s), (5, .str w)] [] .none g) :=
  sxF_run [0, 5] (hs := [.c (.str w) g]) (by kernel_rfl) <| .cons H1 <| .nil
theorem xt_e (call : CallT → List AV → AHeap → FRes) (s w : List UInt8) (v e : AV) (h g : AHeap)
    (H1 : call (.fn 12) [.str w] h = FRes.ret (.tup [v, e]) g) :
    RunF Tryd.prog Tryd.f6 none call [1, 1, 1, 1, 0] (SSt.mk [(0, .str s), (5, .str w)] [] .none h) (.nrm)
      (SSt.mk [(0, .str s), (5, .str w), (6, v), (7, e)] [] .none g) :=
  sxF_run [0, 5, 6, 7] (hs := [.c (.tup [v, e]) g]) (by kernel_rfl) <| .cons H1 <| .nil
theorem xt_f (call : CallT → List AV → AHeap → FRes) (s w x : List UInt8) (c a : Nat) (h : AHeap)
    (H1 : Nat.le 1 2)
    (H2 : load1 h c (0 + 0 * 4 + 0) = some (.int .i64 (.ofNat 4)))
    (H3 : load1 h c (0 + 0 * 4 + 1) = some (.str x))
    (H4 : (!beqBytes x s) = false)
    (H5 : Nat.le 2 2)
    (H6 : load1 h c (0 + 1 * 4 + 3) = some (.int .i64 (.ofNat a)))
    (H7 : (!eqI (.ofNat a) (.ofNat (List.length w))) = false) :
    RunF Tryd.prog Tryd.f6 none call [1, 1, 1, 1, 1, 0] (SSt.mk [(0, .str s), (5, .str w), (6, .slice c 0 2 (.opn 4)), (7, .nilI)] [] .none h) (.nrm)
      (SSt.mk [(5, .str w)] [] .none h) :=
  sxF_run [5] (hs := [.v (.bool !true), .b false, .b false, .b false, .b false, .b false, .b false, .v (.ptr c (0 + 0 * 4)), .b false, .b false, .v (.int .i64 (.ofNat 4)), .b false, .b false, .b false, .b false, .v (.ptr c (0 + 0 * 4)), .b false, .b false, .v (.str x), .b false, .b false, .b false, .b false, .b false, .v (.ptr c (0 + 1 * 4)), .b false, .b false, .v (.int .i64 (.ofNat a)), .b false, .b false, .b false, .b false, .b false]) (by kernel_rfl) <| .cons (by kernel_rfl : binA Tryd.prog h BinOp.neq 26 (Operand.tmp 29) (Operand.const Value.nilIface) AV.nilI AV.nilI = some (AV.bool !true)) <| .cons (by kernel_rfl : (!true) = false) <| .cons (by kernel_rfl : (!true) = false) <| .cons (by kernel_rfl : (!true) = false) <| .cons (by kernel_rfl : (!true) = false) <| .cons (by kernel_rfl : (!eqI (Int.ofNat 2) (Int.ofNat 2)) = false) <| .cons (by kernel_rfl : (!eqI (Int.ofNat 2) (Int.ofNat 2)) = false) <| .cons (⟨H1, rfl⟩ : Nat.le 1 2 ∧ AV.ptr c (0 + 0 * 4) = AV.ptr c (0 + 0 * 4)) <| .cons (by kernel_rfl : (!eqI (Int.ofNat 2) (Int.ofNat 2)) = false) <| .cons (by kernel_rfl : (!eqI (Int.ofNat 2) (Int.ofNat 2)) = false) <| .cons H2 <| .cons (by kernel_rfl : (!eqI (Int.ofNat 2) (Int.ofNat 2)) = false) <| .cons (by kernel_rfl : (!eqI (Int.ofNat 2) (Int.ofNat 2)) = false) <| .cons (by kernel_rfl : (!eqI (Int.ofNat 4) (Int.ofNat 4)) = false) <| .cons (by kernel_rfl : (!eqI (Int.ofNat 4) (Int.ofNat 4)) = false) <| .cons (⟨H1, rfl⟩ : Nat.le 1 2 ∧ AV.ptr c (0 + 0 * 4) = AV.ptr c (0 + 0 * 4)) <| .cons (by kernel_rfl : (!eqI (Int.ofNat 4) (Int.ofNat 4)) = false) <| .cons (by kernel_rfl : (!eqI (Int.ofNat 4) (Int.ofNat 4)) = false) <| .cons H3 <| .cons (by kernel_rfl : (!eqI (Int.ofNat 4) (Int.ofNat 4)) = false) <| .cons (by kernel_rfl : (!eqI (Int.ofNat 4) (Int.ofNat 4)) = false) <| .cons (by kernel_rfl : (!eqI (Int.ofNat 4) (Int.ofNat 4)) = false) <| .cons H4 <| .cons H4 <| .cons (⟨H5, rfl⟩ : Nat.le 2 2 ∧ AV.ptr c (0 + 1 * 4) = AV.ptr c (0 + 1 * 4)) <| .cons H4 <| .cons H4 <| .cons H6 <| .cons H4 <| .cons H4 <| .cons H4 <| .cons H4 <| .cons H7 <| .nil
theorem xt_g (call : CallT → List AV → AHeap → FRes) (w x : List UInt8) (v e : AV) (h g : AHeap) (n_1 : Nat)
    (H1 : arith .sub .i64 (.ofNat (List.length w)) (.ofNat 1) = some (.int .i64 (.ofNat n_1)))
    (H2 : sliceA Tryd.prog h 9 (AV.str w) none (some (AV.int IntKind.i64 (Int.ofNat n_1))) none = some (AV.str x))
    (H3 : call (.fn 12) [.str x] h = FRes.ret (.tup [v, e]) g) :
    RunF Tryd.prog Tryd.f6 none call [1, 1, 1, 1, 1, 1, 0] (SSt.mk [(5, .str w)] [] .none h) (.nrm)
      (SSt.mk [(7, e)] [] .none g) :=
  sxF_run [7] (hs := [.v (.int .i64 (.ofNat n_1)), .v (.str x), .c (.tup [v, e]) g]) (by kernel_rfl) <| .cons H1 <| .cons H2 <| .cons H3 <| .nil
theorem xt_h (call : CallT → List AV → AHeap → FRes) (e : Nat) (h g : AHeap)
    (H1 : call (.fn 11) [] h = FRes.ret (.bool true) g) :
    RunF Tryd.prog Tryd.f6 none call [1, 1, 1, 1, 1, 1, 1] (SSt.mk [(7, .iface 52 (.ptr e 0))] [] .none h) (.ret)
      (SSt.mk [(2, .bool true)] [] .none g) :=
  sxF_run [2] (hs := [.v (.bool !false), .b true, .c (.bool true) g, .b true]) (by kernel_rfl) <| .cons (by kernel_rfl : binA Tryd.prog h BinOp.neq 26 (Operand.tmp 69) (Operand.const Value.nilIface) (AV.iface 52 (AV.ptr e 0)) AV.nilI = some (AV.bool !false)) <| .cons (by kernel_rfl : (!false) = true) <| .cons H1 <| .cons (by kernel_rfl : (!false) = true) <| .nil
theorem bk_a (call : CallT → List AV → AHeap → FRes) (s : List UInt8) (z : AV) (h : AHeap) :
    RunF Tryd.prog Tryd.f5 none call [0] (SSt.mk [(0, .str s), (1, z)] [] .none h) (.nrm)
      (SSt.mk [(0, .str s), (1, z)] [] .none h) :=
  sxF_run [0, 1] (hs := []) (by kernel_rfl) <| .nil
theorem bk_b (call : CallT → List AV → AHeap → FRes) (s x : List UInt8) (z v e : AV) (h g : AHeap) (n_1 : Nat)
    (H1 : foldA minA (AV.int IntKind.i64 (Int.ofNat (List.length s))) [AV.int IntKind.i64 (Int.ofNat 3000)] = some (AV.int IntKind.i64 (Int.ofNat n_1)))
    (H2 : sliceA Tryd.prog h 9 (AV.str s) none (some (AV.int IntKind.i64 (Int.ofNat n_1))) none = some (AV.str x))
    (H3 : call (.fn 12) [.str x] h = FRes.ret (.tup [v, e]) g) :
    RunF Tryd.prog Tryd.f5 none call [1, 0] (SSt.mk [(0, .str s), (1, z)] [] .none h) (.nrm)
      (SSt.mk [(1, z), (5, v), (6, e)] [] .none g) :=
  sxF_run [1, 5, 6] (hs := [.v (.int .i64 (.ofNat n_1)), .v (.str x), .c (.tup [v, e]) g]) (by kernel_rfl) <| .cons H1 <| .cons H2 <| .cons H3 <| .nil
theorem bk_c1 (call : CallT → List AV → AHeap → FRes) (z v : AV) (e : Nat) (h g : AHeap)
    (H1 : call (.fn 11) [] h = FRes.ret (.bool true) g) :
    RunF Tryd.prog Tryd.f5 none call [1, 1, 0] (SSt.mk [(1, z), (5, v), (6, .iface 52 (.ptr e 0))] [] .none h) (.ret)
      (SSt.mk [(4, .bool true)] [] .none g) :=
  sxF_run [4] (hs := [.v (.bool !false), .b true, .c (.bool true) g]) (by kernel_rfl) <| .cons (by kernel_rfl : binA Tryd.prog h BinOp.neq 26 (Operand.tmp 24) (Operand.const Value.nilIface) (AV.iface 52 (AV.ptr e 0)) AV.nilI = some (AV.bool !false)) <| .cons (by kernel_rfl : (!false) = true) <| .cons H1 <| .nil
theorem bk_c2 (call : CallT → List AV → AHeap → FRes) (z v : AV) (h g : AHeap) :
    RunF Tryd.prog Tryd.f5 none call [1, 1, 0] (SSt.mk [(1, z), (5, v), (6, .nilI)] [] .none h) (.nrm)
      (SSt.mk [(1, z), (5, v)] [] .none h) :=
  sxF_run [1, 5] (hs := [.v (.bool !true), .b false]) (by kernel_rfl) <| .cons (by kernel_rfl : binA Tryd.prog h BinOp.neq 26 (Operand.tmp 24) (Operand.const Value.nilIface) AV.nilI AV.nilI = some (AV.bool !true)) <| .cons (by kernel_rfl : (!true) = false) <| .nil
theorem bk_d (call : CallT → List AV → AHeap → FRes) (z v : AV) (h : AHeap) :
    RunF Tryd.prog Tryd.f5 none call [1, 1, 1, 0] (SSt.mk [(1, z), (5, v)] [] .none h) (.nrm)
      (SSt.mk [(1, z), (5, v), (7, .slice (AHeap.n h) 0 5 (.exact 5))] [] .none (AHeap.push h (.cells [.str [32], .str [10], .str [9, 32, 13, 10], .str [32, 35, 32, 97, 32, 114, 101, 109, 97, 114, 107, 44, 32, 34, 115, 111, 10], .str [35, 10]] 9 .own 0 0))) :=
  sxF_run [1, 5, 7] (hs := []) (by kernel_rfl) <| .nil
theorem bk_e (call : CallT → List AV → AHeap → FRes) (z v w : AV) (h : AHeap) :
    RunF Tryd.prog Tryd.f5 none call [1, 1, 1, 1, 0] (SSt.mk [(1, z), (5, v), (7, w)] [] .none h) (.nrm)
      (SSt.mk [(1, z), (5, v), (7, w), (8, .str [])] [] .none h) :=
  sxF_run [1, 5, 7, 8] (hs := []) (by kernel_rfl) <| .nil
theorem bk_f (call : CallT → List AV → AHeap → FRes) (z v w o : AV) (h : AHeap) :
    RunF Tryd.prog Tryd.f5 none call [1, 1, 1, 1, 1, 0] (SSt.mk [(1, z), (5, v), (7, w), (8, o)] [] .none h) (.nrm)
      (SSt.mk [(1, z), (5, v), (7, w), (8, o), (9, .nilS)] [] .none h) :=
  sxF_run [1, 5, 7, 8, 9] (hs := []) (by kernel_rfl) <| .nil
theorem bk_g (call : CallT → List AV → AHeap → FRes) (z v w o u : AV) (h : AHeap) :
    RunF Tryd.prog Tryd.f5 none call [1, 1, 1, 1, 1, 1, 0, 0] (SSt.mk [(1, z), (5, v), (7, w), (8, o), (9, u)] [] .none h) (.nrm)
      (SSt.mk [(1, z), (5, v), (7, w), (8, o), (9, u), (10, .int .i64 (.ofNat 0))] [] .none h) :=
  sxF_run [1, 5, 7, 8, 9, 10] (hs := []) (by kernel_rfl) <| .nil
theorem bk_x_1 (call : CallT → List AV → AHeap → FRes) (c n g i : Nat) (z o u : AV) (h : AHeap)
    (H1 : ltI (.ofNat i) (.ofNat n) = true) :
    RunF Tryd.prog Tryd.f5 none call [1, 1, 1, 1, 1, 1, 0, 1, 0, 0, 0] (SSt.mk [(1, z), (5, .slice c 0 n (.opn 4)), (7, .slice g 0 5 (.exact 5)), (8, o), (9, u), (10, .int .i64 (.ofNat i))] [] .none h) (.nrm)
      (SSt.mk [(1, z), (5, .slice c 0 n (.opn 4)), (7, .slice g 0 5 (.exact 5)), (8, o), (9, u), (10, .int .i64 (.ofNat i))] [] .none h) :=
  sxF_run [1, 5, 7, 8, 9, 10] (hs := [.b true]) (by kernel_rfl) <| .cons H1 <| .nil
theorem bk_x_2 (call : CallT → List AV → AHeap → FRes) (c n g i : Nat) (z o u : AV) (h : AHeap)
    (H1 : ltI (.ofNat i) (.ofNat n) = false) :
    RunF Tryd.prog Tryd.f5 none call [1, 1, 1, 1, 1, 1, 0, 1, 0, 0, 0] (SSt.mk [(1, z), (5, .slice c 0 n (.opn 4)), (7, .slice g 0 5 (.exact 5)), (8, o), (9, u), (10, .int .i64 (.ofNat i))] [] .none h) (.exit 0)
      (SSt.mk [(1, z), (5, .slice c 0 n (.opn 4)), (7, .slice g 0 5 (.exact 5)), (8, o), (9, u), (10, .int .i64 (.ofNat i))] [] .none h) :=
  sxF_run [1, 5, 7, 8, 9, 10] (hs := [.b false]) (by kernel_rfl) <| .cons H1 <| .nil
theorem bk_y0 (call : CallT → List AV → AHeap → FRes) (c n g i : Nat) (u : AV) (o : List UInt8) (h : AHeap) :
    RunF Tryd.prog Tryd.f5 none call [1, 1, 1, 1, 1, 1, 0, 1, 0, 0, 1, 0, 0, 0] (SSt.mk [(1, .nilS), (5, .slice c 0 n (.opn 4)), (7, .slice g 0 5 (.exact 5)), (8, .str o), (9, u), (10, .int .i64 (.ofNat i))] [] .none h) (.nrm)
      (SSt.mk [(1, .nilS), (5, .slice c 0 n (.opn 4)), (7, .slice g 0 5 (.exact 5)), (8, .str o), (9, u), (10, .int .i64 (.ofNat i)), (11, .str [32])] [] .none h) :=
  sxF_run [1, 5, 7, 8, 9, 10, 11] (hs := []) (by kernel_rfl) <| .nil
theorem bk_yn (call : CallT → List AV → AHeap → FRes) (c n g i : Nat) (u : AV) (o : List UInt8) (h : AHeap) :
    RunF Tryd.prog Tryd.f5 none call [1, 1, 1, 1, 1, 1, 0, 1, 0, 0, 1, 0, 0, 1, 0] (SSt.mk [(1, .nilS), (11, .str [32]), (5, .slice c 0 n (.opn 4)), (7, .slice g 0 5 (.exact 5)), (8, .str o), (9, u), (10, .int .i64 (.ofNat i))] [] .none h) (.nrm)
      (SSt.mk [(1, .nilS), (5, .slice c 0 n (.opn 4)), (7, .slice g 0 5 (.exact 5)), (8, .str o), (9, u), (10, .int .i64 (.ofNat i)), (11, .str [32])] [] .none h) :=
  sxF_run [1, 5, 7, 8, 9, 10, 11] (hs := [.b false]) (by kernel_rfl) <| .cons (by kernel_rfl : ltI (Int.ofNat 0) (Int.ofNat 0) = false) <| .nil
theorem bk_yd (call : CallT → List AV → AHeap → FRes) (c n g i b f : Nat) (cp : Cap) (u : AV) (o : List UInt8) (h : AHeap) :
    RunF Tryd.prog Tryd.f5 none call [1, 1, 1, 1, 1, 1, 0, 1, 0, 0, 1, 0, 0, 1, 0] (SSt.mk [(1, .slice b f 0 cp), (11, .str [32]), (5, .slice c 0 n (.opn 4)), (7, .slice g 0 5 (.exact 5)), (8, .str o), (9, u), (10, .int .i64 (.ofNat i))] [] .none h) (.nrm)
      (SSt.mk [(1, .slice b f 0 cp), (5, .slice c 0 n (.opn 4)), (7, .slice g 0 5 (.exact 5)), (8, .str o), (9, u), (10, .int .i64 (.ofNat i)), (11, .str [32])] [] .none h) :=
  sxF_run [1, 5, 7, 8, 9, 10, 11] (hs := [.b false]) (by kernel_rfl) <| .cons (by kernel_rfl : ltI (Int.ofNat 0) (Int.ofNat 0) = false) <| .nil
theorem bk_y (call : CallT → List AV → AHeap → FRes) (c n g i b l q y : Nat) (cp : Cap) (u : AV) (o x : List UInt8) (h : AHeap) (n_1 n_2 n_3 : Nat)
    (H1 : ltI (.ofNat 0) (.ofNat l) = true)
    (H2 : arith .rem .i64 (.ofNat i) (.ofNat l) = some (.int .i64 (.ofNat n_1)))
    (H3 : Nat.le (Nat.succ n_1) l)
    (H4 : load1 h b (0 + n_1 * 1) = some (.int .u8 (.ofNat y)))
    (H5 : evConvert Tryd.prog 5 3 (AV.int IntKind.u8 (Int.ofNat y)) h = OpRes.val (AV.int IntKind.i64 (Int.ofNat n_2)) h)
    (H6 : arith .rem .i64 (.ofNat n_2) (.ofNat 5) = some (.int .i64 (.ofNat n_3)))
    (H7 : Nat.le (Nat.succ n_3) 5)
    (H8 : load1 h g (0 + n_3 * 1) = some (.str x)) :
    RunF Tryd.prog Tryd.f5 none call [1, 1, 1, 1, 1, 1, 0, 1, 0, 0, 1, 0, 0, 1, 0] (SSt.mk [(1, .slice b 0 l cp), (11, .str [32]), (5, .slice c 0 n (.opn 4)), (7, .slice g 0 5 (.exact 5)), (8, .str o), (9, u), (10, .int .i64 (.ofNat i))] [] .none h) (.nrm)
      (SSt.mk [(1, .slice b 0 l cp), (5, .slice c 0 n (.opn 4)), (7, .slice g 0 5 (.exact 5)), (8, .str o), (9, u), (10, .int .i64 (.ofNat i)), (11, .str x)] [] .none h) :=
  sxF_run [1, 5, 7, 8, 9, 10, 11] (hs := [.b true, .v (.int .i64 (.ofNat n_1)), .v (.ptr b (0 + n_1 * 1)), .v (.int .u8 (.ofNat y)), .v (.int .i64 (.ofNat n_2)), .v (.int .i64 (.ofNat n_3)), .v (.ptr g (0 + n_3 * 1)), .v (.str x)]) (by kernel_rfl) <| .cons H1 <| .cons H2 <| .cons (⟨H3, rfl⟩ : Nat.le (Nat.succ n_1) l ∧ AV.ptr b (0 + n_1 * 1) = AV.ptr b (0 + n_1 * 1)) <| .cons H4 <| .cons H5 <| .cons H6 <| .cons (⟨H7, rfl⟩ : Nat.le (Nat.succ n_3) 5 ∧ AV.ptr g (0 + n_3 * 1) = AV.ptr g (0 + n_3 * 1)) <| .cons H8 <| .nil
theorem bk_z (call : CallT → List AV → AHeap → FRes) (c n g i k v a : Nat) (z u w : AV) (o x q t y : List UInt8) (h g1 g2 : AHeap) (t_1 : List UInt8)
    (H1 : strOp .add o x = some (.str q))
    (H2 : appendA Tryd.prog (AHeap.push h (AObj.cells [AV.int IntKind.i64 (Int.ofNat (List.length q))] 3 BK.own 0 0)) 33 (some 33) u (AV.slice (AHeap.n h) 0 1 (Cap.exact 1)) = some (w, g1))
    (H3 : Nat.le (Nat.succ i) n)
    (H4 : AEv.loadCells g1 c (0 + i * 4) 4 = some [.int .i64 (.ofNat k), .str y, .int .i64 (.ofNat v), .int .i64 (.ofNat a)])
    (H5 : call (.fn 13) [.agg [.int .i64 (.ofNat k), .str y, .int .i64 (.ofNat v), .int .i64 (.ofNat a)]] g1 = FRes.ret (.str t) g2)
    (H6 : strOp .add q t = some (.str t_1)) :
    RunF Tryd.prog Tryd.f5 none call [1, 1, 1, 1, 1, 1, 0, 1, 0, 0, 1, 0, 0, 1, 1] (SSt.mk [(1, z), (11, .str x), (5, .slice c 0 n (.opn 4)), (7, .slice g 0 5 (.exact 5)), (8, .str o), (9, u), (10, .int .i64 (.ofNat i))] [] .none h) (.nrm)
      (SSt.mk [(1, z), (5, .slice c 0 n (.opn 4)), (7, .slice g 0 5 (.exact 5)), (8, .str t_1), (9, w), (10, .int .i64 (.ofNat i))] [] .none g2) :=
  sxF_run [1, 5, 7, 8, 9, 10] (hs := [.v (.str q), .vh w g1, .v (.ptr c (0 + i * 4)), .v (.agg [.int .i64 (.ofNat k), .str y, .int .i64 (.ofNat v), .int .i64 (.ofNat a)]), .c (.str t) g2, .v (.str t_1)]) (by kernel_rfl) <| .cons H1 <| .cons H2 <| .cons (⟨H3, rfl⟩ : Nat.le (Nat.succ i) n ∧ AV.ptr c (0 + i * 4) = AV.ptr c (0 + i * 4)) <| .cons H4 <| .cons H5 <| .cons H6 <| .nil
theorem bk_n (call : CallT → List AV → AHeap → FRes) (i : Nat) (z v w o u : AV) (h : AHeap) (n_1 : Nat)
    (H1 : arith .add .i64 (.ofNat i) (.ofNat 1) = some (.int .i64 (.ofNat n_1))) :
    RunF Tryd.prog Tryd.f5 none call [1, 1, 1, 1, 1, 1, 0, 1, 0, 0, 1, 1] (SSt.mk [(1, z), (5, v), (7, w), (8, o), (9, u), (10, .int .i64 (.ofNat i))] [] .none h) (.nrm)
      (SSt.mk [(1, z), (5, v), (7, w), (8, o), (9, u), (10, .int .i64 (.ofNat n_1))] [] .none h) :=
  sxF_run [1, 5, 7, 8, 9, 10] (hs := [.v (.int .i64 (.ofNat n_1))]) (by kernel_rfl) <| .cons H1 <| .nil
theorem bk_h (call : CallT → List AV → AHeap → FRes) (o : List UInt8) (l u v e : AV) (h g : AHeap)
    (H1 : call (.fn 12) [.str o] h = FRes.ret (.tup [v, e]) g) :
    RunF Tryd.prog Tryd.f5 none call [1, 1, 1, 1, 1, 1, 1, 0] (SSt.mk [(5, l), (8, .str o), (9, u)] [] .none h) (.nrm)
      (SSt.mk [(5, l), (6, e), (9, u), (12, v)] [] .none g) :=
  sxF_run [5, 6, 9, 12] (hs := [.c (.tup [v, e]) g]) (by kernel_rfl) <| .cons H1 <| .nil
theorem bk_i_1 (call : CallT → List AV → AHeap → FRes) (c n d m : Nat) (u : AV) (h : AHeap)
    (H1 : (!eqI (.ofNat m) (.ofNat n)) = true) :
    RunF Tryd.prog Tryd.f5 none call [1, 1, 1, 1, 1, 1, 1, 1, 0] (SSt.mk [(5, .slice c 0 n (.opn 4)), (6, .nilI), (9, u), (12, .slice d 0 m (.opn 4))] [] .none h) (.ret)
      (SSt.mk [(5, .slice c 0 n (.opn 4)), (9, u), (12, .slice d 0 m (.opn 4))] [] .none h) :=
  sxF_run [5, 9, 12] (hs := [.v (.bool !true), .b false, .b false, .b false, .b false, .b false, .b false, .b true]) (by kernel_rfl) <| .cons (by kernel_rfl : binA Tryd.prog h BinOp.neq 26 (Operand.tmp 71) (Operand.const Value.nilIface) AV.nilI AV.nilI = some (AV.bool !true)) <| .cons (by kernel_rfl : (!true) = false) <| .cons (by kernel_rfl : (!true) = false) <| .cons (by kernel_rfl : (!true) = false) <| .cons (by kernel_rfl : (!true) = false) <| .cons (by kernel_rfl : (!true) = false) <| .cons (by kernel_rfl : (!true) = false) <| .cons H1 <| .nil
theorem bk_i_2 (call : CallT → List AV → AHeap → FRes) (c n d m : Nat) (u : AV) (h : AHeap)
    (H1 : (!eqI (.ofNat m) (.ofNat n)) = false) :
    RunF Tryd.prog Tryd.f5 none call [1, 1, 1, 1, 1, 1, 1, 1, 0] (SSt.mk [(5, .slice c 0 n (.opn 4)), (6, .nilI), (9, u), (12, .slice d 0 m (.opn 4))] [] .none h) (.nrm)
      (SSt.mk [(5, .slice c 0 n (.opn 4)), (9, u), (12, .slice d 0 m (.opn 4))] [] .none h) :=
  sxF_run [5, 9, 12] (hs := [.v (.bool !true), .b false, .b false, .b false, .b false, .b false, .b false, .b false]) (by kernel_rfl) <| .cons (by kernel_rfl : binA Tryd.prog h BinOp.neq 26 (Operand.tmp 71) (Operand.const Value.nilIface) AV.nilI AV.nilI = some (AV.bool !true)) <| .cons (by kernel_rfl : (!true) = false) <| .cons (by kernel_rfl : (!true) = false) <| .cons (by kernel_rfl : (!true) = false) <| .cons (by kernel_rfl : (!true) = false) <| .cons (by kernel_rfl : (!true) = false) <| .cons (by kernel_rfl : (!true) = false) <| .cons H1 <| .nil
theorem bk_j (call : CallT → List AV → AHeap → FRes) (l u v : AV) (h : AHeap) :
    RunF Tryd.prog Tryd.f5 none call [1, 1, 1, 1, 1, 1, 1, 1, 1, 0, 0] (SSt.mk [(5, l), (9, u), (12, v)] [] .none h) (.nrm)
      (SSt.mk [(5, l), (9, u), (12, v), (13, .int .i64 (.ofNat 0))] [] .none h) :=
  sxF_run [5, 9, 12, 13] (hs := []) (by kernel_rfl) <| .nil
theorem bk_l (call : CallT → List AV → AHeap → FRes) (c d e n m i k v a q : Nat) (cp : Cap) (x : List UInt8) (h g_1 g_2 : AHeap) (n_1 : Nat)
    (H1 : ltI (.ofNat i) (.ofNat n) = true)
    (H2 : Nat.le (Nat.succ i) n)
    (H3 : AEv.loadCells h c (0 + i * 4) 4 = some [.int .i64 (.ofNat k), .str x, .int .i64 (.ofNat v), .int .i64 (.ofNat a)])
    (H4 : AEv.storeCells (AHeap.push h (.cells [.int .i64 (.ofNat 0), .str [], .int .i64 (.ofNat 0), .int .i64 (.ofNat 0)] 30 .own 0 0)) (AHeap.n h) 0 [.int .i64 (.ofNat k), .str x, .int .i64 (.ofNat v), .int .i64 (.ofNat a)] = some g_1)
    (H5 : Nat.le (Nat.succ i) m)
    (H6 : load1 g_1 e (0 + i * 1) = some (.int .i64 (.ofNat q)))
    (H7 : AEv.storeCells g_1 (AHeap.n h) (0 + 3) [.int .i64 (.ofNat q)] = some g_2)
    (H8 : Nat.le (Nat.succ i) n)
    (H9 : AEv.loadCells (AHeap.room g_2 6) d (0 + i * 4) 4 = some [.int .i64 (.ofNat k), .str x, .int .i64 (.ofNat v), .int .i64 (.ofNat q)])
    (H10 : AEv.loadCells (AHeap.room g_2 6) (AHeap.n h) 0 4 = some [.int .i64 (.ofNat k), .str x, .int .i64 (.ofNat v), .int .i64 (.ofNat q)])
    (H11 : binA Tryd.prog (AHeap.room g_2 6) BinOp.neq 30 (Operand.tmp 98) (Operand.tmp 99) (AV.agg [AV.int IntKind.i64 (Int.ofNat k), AV.str x, AV.int IntKind.i64 (Int.ofNat v), AV.int IntKind.i64 (Int.ofNat q)]) (AV.agg [AV.int IntKind.i64 (Int.ofNat k), AV.str x, AV.int IntKind.i64 (Int.ofNat v), AV.int IntKind.i64 (Int.ofNat q)]) = some (AV.bool false))
    (H12 : arith .add .i64 (.ofNat i) (.ofNat 1) = some (.int .i64 (.ofNat n_1))) :
    RunF Tryd.prog Tryd.f5 none call [1, 1, 1, 1, 1, 1, 1, 1, 1, 0, 1, 0, 0] (SSt.mk [(5, .slice c 0 n (.opn 4)), (9, .slice e 0 m cp), (12, .slice d 0 n (.opn 4)), (13, .int .i64 (.ofNat i))] [] .none h) (.nrm)
      (SSt.mk [(5, .slice c 0 n (.opn 4)), (9, .slice e 0 m cp), (12, .slice d 0 n (.opn 4)), (13, .int .i64 (.ofNat n_1))] [] .none (AHeap.room g_2 6)) :=
  sxF_run [5, 9, 12, 13] (hs := [.b true, .v (.ptr c (0 + i * 4)), .v (.agg [.int .i64 (.ofNat k), .str x, .int .i64 (.ofNat v), .int .i64 (.ofNat a)]), .vh (.tup []) g_1, .v (.ptr e (0 + i * 1)), .v (.int .i64 (.ofNat q)), .vh (.tup []) g_2, .v (.ptr d (0 + i * 4)), .v (.agg [.int .i64 (.ofNat k), .str x, .int .i64 (.ofNat v), .int .i64 (.ofNat q)]), .v (.agg [.int .i64 (.ofNat k), .str x, .int .i64 (.ofNat v), .int .i64 (.ofNat q)]), .v (.bool false), .b false, .v (.int .i64 (.ofNat n_1))]) (by kernel_rfl) <| .cons H1 <| .cons (⟨H2, rfl⟩ : Nat.le (Nat.succ i) n ∧ AV.ptr c (0 + i * 4) = AV.ptr c (0 + i * 4)) <| .cons H3 <| .cons (⟨by kernel_rfl, H4, rfl⟩ : some 4 = some 4 ∧ AEv.storeCells (AHeap.push h (AObj.cells [AV.int IntKind.i64 (Int.ofNat 0), AV.str [], AV.int IntKind.i64 (Int.ofNat 0), AV.int IntKind.i64 (Int.ofNat 0)] 30 BK.own 0 0)) (AHeap.n h) 0 [AV.int IntKind.i64 (Int.ofNat k), AV.str x, AV.int IntKind.i64 (Int.ofNat v), AV.int IntKind.i64 (Int.ofNat a)] = some g_1 ∧ AV.tup [] = AV.tup []) <| .cons (⟨H5, rfl⟩ : Nat.le (Nat.succ i) m ∧ AV.ptr e (0 + i * 1) = AV.ptr e (0 + i * 1)) <| .cons H6 <| .cons (⟨by kernel_rfl, H7, rfl⟩ : some 1 = some 1 ∧ AEv.storeCells g_1 (AHeap.n h) (0 + 3) [AV.int IntKind.i64 (Int.ofNat q)] = some g_2 ∧ AV.tup [] = AV.tup []) <| .cons (⟨H8, rfl⟩ : Nat.le (Nat.succ i) n ∧ AV.ptr d (0 + i * 4) = AV.ptr d (0 + i * 4)) <| .cons H9 <| .cons H10 <| .cons H11 <| .cons (by kernel_rfl : AV.sound (AV.slice d 0 n (Cap.opn 4)) = true) <| .cons (by kernel_rfl : AV.slice d 0 n (Cap.opn 4) = AV.slice d 0 n (Cap.opn 4)) <| .cons (by kernel_rfl : AV.sound (AV.int IntKind.i64 (Int.ofNat i)) = true) <| .cons (by kernel_rfl : AV.int IntKind.i64 (Int.ofNat i) = AV.int IntKind.i64 (Int.ofNat i)) <| .cons (by kernel_rfl : AV.sound (AV.ptr d (0 + i * 4)) = true) <| .cons (⟨H8, rfl⟩ : Nat.le (Nat.succ i) n ∧ AV.ptr d (0 + i * 4) = AV.ptr d (0 + i * 4)) <| .cons (by kernel_rfl : AV.sound (AV.agg [AV.int IntKind.i64 (Int.ofNat k), AV.str x, AV.int IntKind.i64 (Int.ofNat v), AV.int IntKind.i64 (Int.ofNat q)]) = true) <| .cons H9 <| .cons (by kernel_rfl : AV.sound (AV.agg [AV.int IntKind.i64 (Int.ofNat k), AV.str x, AV.int IntKind.i64 (Int.ofNat v), AV.int IntKind.i64 (Int.ofNat q)]) = true) <| .cons H10 <| .cons (by kernel_rfl : AV.sound (AV.bool false) = true) <| .cons H11 <| .cons (by kernel_rfl : false = false) <| .cons H12 <| .nil
theorem bk_lx (call : CallT → List AV → AHeap → FRes) (c n i : Nat) (u v : AV) (h : AHeap)
    (H1 : ltI (.ofNat i) (.ofNat n) = false) :
    RunF Tryd.prog Tryd.f5 none call [1, 1, 1, 1, 1, 1, 1, 1, 1, 0, 1, 0, 0] (SSt.mk [(5, .slice c 0 n (.opn 4)), (9, u), (12, v), (13, .int .i64 (.ofNat i))] [] .none h) (.exit 2)
      (SSt.mk [(5, .slice c 0 n (.opn 4))] [] .none h) :=
  sxF_run [5] (hs := [.b false]) (by kernel_rfl) <| .cons H1 <| .nil
theorem bk_k (call : CallT → List AV → AHeap → FRes) (h g : AHeap)
    (H1 : call (.fn 11) [] h = FRes.ret (.bool true) g) :
    RunF Tryd.prog Tryd.f5 none call [1, 1, 1, 1, 1, 1, 1, 1, 1, 1] (SSt.mk [] [] .none h) (.ret)
      (SSt.mk [(4, .bool true)] [] .none g) :=
  sxF_run [4] (hs := [.c (.bool true) g]) (by kernel_rfl) <| .cons H1 <| .nil


/-! ### digits, written -/
theorem digits_c : ∀ (k m v : Nat) (h : AHeap), v < 10 ^ (k + 1) → v < 9223372036854775808 → ∃ h', C (m + k + 1) (.fn 23) [.int .i64 (Int.ofNat v)] h = .ret (.str (dig v)) h' ∧ Ext h.n h h' := by
  have one : ∀ (n v : Nat) (h : AHeap), v < 10 → ∃ h', C (n + 1) (.fn 23) [.int .i64 (Int.ofNat v)] h = .ret (.str (dig v)) h' ∧ Ext h.n h h' := by
    intro n v h hv
    have hd : dig v = [UInt8.ofNat (48 + v)] := by unfold dig; rw [if_pos hv]
    have e : (UInt8.ofNat (48 + v)).toNat = 48 + v := by rw [UInt8.toNat_ofNat']; omega
    have cv : evConvert Tryd.prog 2 5 (.int .i64 (Int.ofNat v)) h = .val (.int .u8 (Int.ofNat v)) h := conv_int (ka := .i64) (by kernel_rfl) (by kernel_rfl) ((wrap_u8 v).trans (by rw [Nat.mod_eq_of_lt (by omega)]; rfl))
    have ad : arith BinOp.add IntKind.u8 (Int.ofNat 48) (Int.ofNat v) = some (AV.int IntKind.u8 (Int.ofNat (48 + v))) := by rw [add_u8, Nat.mod_eq_of_lt (by omega)]
    have hg : (h.push (.cells [.int .u8 (Int.ofNat (48 + v))] 5 .own 0 0)).get h.n = some (.cells (byteCells (dig v) ++ []) 5 .own 0 0) := by
      rw [hd]
      have : byteCells [UInt8.ofNat (48 + v)] = [.int .u8 (Int.ofNat (48 + v))] := by show [AV.int .u8 (Int.ofNat (UInt8.ofNat (48 + v)).toNat)] = _; rw [e]
      rw [this]; exact gtop rfl
    have cb := conv_bts (P := Tryd.prog) (a := 31) (b := 9) (cp := .exact 1) bytest (by kernel_rfl) strt hg (n := 1) (by rw [hd]; rfl) (by simp)
    exact ⟨_, fn_runF (intr := Il) (n := n) (args := [.int .i64 (Int.ofNat v)]) Tryd.func23 (by kernel_rfl) rfl (by kernel_rfl) (dg1 (C n) v h v (48 + v) (dig v) (lt_t hv) cv ad cb) (.inl rfl) (by kernel_rfl), Ext.push (Nat.le_refl _) _⟩
  intro k
  induction k with
  | zero => intro m v h hv _; exact one m v h (by simpa using hv)
  | succ k ih =>
    intro m v h hv hm
    by_cases h10 : v < 10
    · exact one (m + (k + 1)) v h h10
    · have hd : dig v = dig (v / 10) ++ [UInt8.ofNat (48 + v % 10)] := by conv => lhs; unfold dig; rw [if_neg h10]
      have hd1 : dig (v % 10) = [UInt8.ofNat (48 + v % 10)] := by unfold dig; rw [if_pos (by omega)]
      obtain ⟨g, c1, x1⟩ := ih m (v / 10) h (by rw [Nat.pow_succ] at hv; omega) (by omega)
      obtain ⟨g1, c2, x2⟩ := one (m + k) (v % 10) g (by omega)
      have hl := dig_len (k + 1) v hv
      have hl2 : (dig (v / 10)).length + (dig (v % 10)).length ≤ 1000000000000 := by
        have h3 := dig_len 18 (v / 10) (by omega)
        rw [hd1]; simp; omega
      have sa := str_add (x := dig (v / 10)) (y := dig (v % 10)) hl2
      rw [hd]
      rw [hd1] at sa
      rw [hd1] at c2
      exact ⟨g1, fn_runF (intr := Il) (n := m + (k + 1)) (args := [.int .i64 (Int.ofNat v)]) Tryd.func23 (by kernel_rfl) rfl (by kernel_rfl) (dg2 (C (m + (k + 1))) v (v / 10) (v % 10) _ _ h g g1 _ (lt_f h10) (quo_n (by omega) hm) c1 (rem_k .i64 (by omega)) c2 sa) (.inl rfl) (by kernel_rfl), x1.trans x1.n x2⟩
abbrev TokS (t : Tk) : AObj := .cells (encT t) 30 .own 0 0
theorem app_lit {B : Nat} {h : AHeap} {v : AV} {w : List UInt8} (s : List UInt8) (hB : B ≤ h.n) (hb : BufX B 5 h v w) (hs : s ≠ []) (hl : w.length + s.length ≤ 1000000000) :
    ∃ c h', appendA Tryd.prog (h.push (.cells (byteCells s) 5 .own 0 0)) 31 (some 31) v (.slice h.n 0 s.length (.exact s.length)) = some (.slice c 0 (w.length + s.length) (.opn 1), h') ∧ Buf B 5 h' (.slice c 0 (w.length + s.length) (.opn 1)) (w ++ s) ∧ Ext B h h' := by
  obtain ⟨i, hii, hi1, hi2⟩ := u8info
  have hsc : srcCells (h.push (.cells (byteCells s) 5 .own 0 0)) 1 (.slice h.n 0 s.length (.exact s.length)) = some (s.length, byteCells s) := by
    have : AEv.loadCells (h.push (.cells (byteCells s) 5 .own 0 0)) h.n 0 (s.length * 1) = some (byteCells s) := by
      have := load_row (h := h.push (.cells (byteCells s) 5 .own 0 0)) (b := h.n) (xs := byteCells s) (rest := []) (by rw [List.append_nil]; exact gtop rfl)
      rw [byteCells_len] at this
      rw [Nat.mul_one]; exact this
    simp only [srcCells, this]
  obtain ⟨v', h2, a1, a2, a3⟩ := appendX (P := Tryd.prog) (B := B) (h := h.push (.cells (byteCells s) 5 .own 0 0)) (sT := 31) (xT := some 31) (e := 5) (z := .int .u8 (Int.ofNat 0)) (by simp; omega) (by kernel_rfl) (by kernel_rfl) hii hi1 (by kernel_rfl) rfl (room_u8 hi2 hl) hsc hs (hb.ext (by simp) fun c _ hc => gold hc rfl)
  have hx : Ext B h h2 := (Ext.push hB _).trans (Nat.le_refl _) a3
  rcases a2 with ⟨_, he⟩ | ⟨c, r, rfl, q1, q2, q3⟩
  · simp [hs] at he
  · rw [List.length_append] at a1
    exact ⟨c, h2, a1, .inr ⟨c, r, by rw [List.length_append], q1, q2, q3⟩, hx⟩
theorem esc_snoc (x : List UInt8) {i : Nat} (hi : i < x.length) : esc (x.take (i + 1)) = esc (x.take i) ++ escB x[i] := by
  rw [List.take_add_one, List.getElem?_eq_getElem hi, Option.toList_some, esc_app]
  congr 1
  show [x[i]].flatMap escB = _
  simp
abbrev wtS (p i : Nat) (v : AV) (h : AHeap) : SSt := ⟨[(1, .ptr p 0), (3, v), (4, .int .i64 (Int.ofNat i))], [], .none, h⟩
theorem wt_lp (n p B : Nat) (t : Tk) (hx : t.t.length ≤ 90000) (hp : p < B) : ∀ (k i : Nat) (v : AV) (h : AHeap), t.t.length - i = k → i ≤ t.t.length → h.get p = some (TokS t) → B ≤ h.n → BufX B 5 h v (34 :: esc (t.t.take i)) →
    ∃ v' h', LoopF Tryd.prog Tryd.f13 none (C n) [1, 0, 1, 0, 1, 1, 1, 0, 1, 0, 1, 0] (k + 1) (wtS p i v h) (.exit 1) (wtS p t.t.length v' h') ∧ BufX B 5 h' v' (34 :: esc t.t) ∧ Ext B h h'
  | 0, i, v, h, hk, hi, hg, hB, hb => by
    obtain rfl : i = t.t.length := by omega
    rw [List.take_length] at hb
    exact ⟨v, h, .exit (wtl_5 (C n) p t.t.length 0 t.t v h h (ld1 hg rfl) (lt_f (by omega))) (by simp), hb, Ext.refl _ _⟩
  | k + 1, i, v, h, hk, hi, hg, hB, hb => by
    have hi' : i < t.t.length := by omega
    have ad : arith BinOp.add IntKind.i64 (Int.ofNat i) (Int.ofNat 1) = some (.int .i64 (Int.ofNat (i + 1))) := add_n (by omega)
    have l1 : load1 h p (0 + 1) = some (.str t.t) := ld1 hg rfl
    have hel := esc_len (t.t.take i)
    have htl : (t.t.take i).length ≤ 90000 := by rw [List.length_take]; omega
    have go : ∀ (c : Nat) (h1 : AHeap) (N : Nat), RunF Tryd.prog Tryd.f13 none (C n) [1, 0, 1, 0, 1, 1, 1, 0, 1, 0, 1, 0, 0] (wtS p i v h) .nrm (wtS p (i + 1) (.slice c 0 N (.opn 1)) h1) → Buf B 5 h1 (.slice c 0 N (.opn 1)) ((34 :: esc (t.t.take i)) ++ escB t.t[i]) → Ext B h h1 →
        ∃ v' h', LoopF Tryd.prog Tryd.f13 none (C n) [1, 0, 1, 0, 1, 1, 1, 0, 1, 0, 1, 0] (k + 1 + 1) (wtS p i v h) (.exit 1) (wtS p t.t.length v' h') ∧ BufX B 5 h' v' (34 :: esc t.t) ∧ Ext B h h' := by
      intro c h1 N hr hb1 x1
      have e : (34 :: esc (t.t.take i)) ++ escB t.t[i] = 34 :: esc (t.t.take (i + 1)) := by rw [esc_snoc t.t hi']; rfl
      rw [e] at hb1
      obtain ⟨v', h', r1, r2, r3⟩ := wt_lp n p B t hx hp k (i + 1) _ h1 (by omega) (by omega) ((x1.get p hp).trans hg) (by have := x1.n; omega) (.inl hb1)
      exact ⟨v', h', .step hr r1, r2, x1.trans (Nat.le_refl _) r3⟩
    have i1 := lt_t hi'
    have i2 : idxS i t.t = some (.int .u8 (Int.ofNat t.t[i].toNat)) := idx_t hi'
    have bc2 : ∀ b : UInt8, byteCells [92, b] = [.int .u8 (Int.ofNat 92), .int .u8 (Int.ofNat b.toNat)] := fun b => rfl
    have bc1 : ∀ b : UInt8, byteCells [b] = [.int .u8 (Int.ofNat b.toNat)] := fun b => rfl
    by_cases h1 : t.t[i].toNat = 34
    · obtain ⟨c, h', a1, a2, a3⟩ := app_lit [92, t.t[i]] hB hb (by simp) (by simp; omega)
      rw [bc2] at a1
      exact go c h' _ (wtl_1 (C n) p i c t.t v h h _ _ _ _ _ _ _ l1 i1 i2 (eqI_t h1) a1 ad) (by unfold escB; rw [if_pos (.inl h1)]; exact a2) a3
    by_cases h2 : t.t[i].toNat = 92
    · obtain ⟨c, h', a1, a2, a3⟩ := app_lit [92, t.t[i]] hB hb (by simp) (by simp; omega)
      rw [bc2] at a1
      exact go c h' _ (wtl_2 (C n) p i c t.t v h h _ _ _ _ _ _ _ l1 i1 i2 (eqI_f h1) (eqI_t h2) a1 ad) (by unfold escB; rw [if_pos (.inr h2)]; exact a2) a3
    by_cases h3 : t.t[i].toNat = 10
    · obtain ⟨c, h', a1, a2, a3⟩ := app_lit [92, 110] hB hb (by simp) (by simp; omega)
      rw [bc2] at a1
      exact go c h' _ (wtl_3 (C n) p i c t.t v h h _ _ _ _ _ _ _ l1 i1 i2 (eqI_f h1) (eqI_f h2) (eqI_t h3) a1 ad) (by unfold escB; rw [if_neg (by omega), if_pos h3]; exact a2) a3
    · obtain ⟨c, h', a1, a2, a3⟩ := app_lit [t.t[i]] hB hb (by simp) (by simp; omega)
      rw [bc1] at a1
      exact go c h' _ (wtl_4 (C n) p i c t.t v h h _ _ _ _ _ _ _ l1 i1 i2 (eqI_f h1) (eqI_f h2) (eqI_f h3) a1 ad) (by unfold escB; rw [if_neg (by omega), if_neg h3]; exact a2) a3
theorem written_c (m : Nat) (t : Tk) (h : AHeap) (hv : t.v < 9223372036854775808) (hx : t.t.length ≤ 90000) : ∃ h', C (m + 20) (.fn 13) [.agg (encT t)] h = .ret (.str (wr t)) h' ∧ Ext h.n h h' := by
  obtain ⟨k, x, v, a⟩ := t
  simp only at hv hx
  have g0 : (h.push (TokS ⟨k, x, v, a⟩)).get h.n = some (TokS ⟨k, x, v, a⟩) := gtop rfl
  by_cases h3 : k = 3
  · subst h3
    obtain ⟨g, c1, x1⟩ := digits_c 18 m v (h.push (TokS ⟨3, x, v, a⟩)) (by omega) hv
    exact ⟨g, fn_runF (intr := Il) (n := m + 19) (args := [.agg (encT ⟨3, x, v, a⟩)]) Tryd.func13 (by kernel_rfl) rfl (by kernel_rfl) (wt3 (C (m + 19)) v a x _ h g (ld1 g0 rfl) (ld1 g0 rfl) c1) (.inl rfl) (by kernel_rfl), (Ext.push (Nat.le_refl _) _).trans (by simp) x1⟩
  by_cases h4 : k = 4
  · subst h4
    obtain ⟨h1, hh1⟩ : ∃ h1, h1 = (h.push (TokS ⟨4, x, v, a⟩)).push (.cells [.int .u8 (Int.ofNat 34)] 5 .own 0 0) := ⟨_, rfl⟩
    have n1 : h1.n = h.n + 2 := by rw [hh1]; rfl
    have g1 : h1.get h.n = some (TokS ⟨4, x, v, a⟩) := by rw [hh1]; exact gold (by simp) g0
    have b1 : BufX (h.n + 1) 5 h1 (.slice (h.n + 1) 0 1 (.exact 1)) (34 :: esc (x.take 0)) := .inr ⟨h.n + 1, rfl, by rw [hh1]; exact gtop rfl, Nat.le_refl _, by omega⟩
    obtain ⟨v', h2, r1, r2, r3⟩ := wt_lp (m + 19) h.n (h.n + 1) ⟨4, x, v, a⟩ hx (Nat.lt_succ_self _) x.length 0 _ h1 rfl (Nat.zero_le _) g1 (by omega) b1
    have rn := r3.n
    have l1 := LoopF.run (p := [1, 0, 1, 0, 1, 1, 1, 0, 1, 0, 1, 0]) (by kernel_rfl) r1 (by omega)
    have l2 := RunP.post l1 (Γ2 := [(1, .ptr h.n 0), (3, v')]) ⟨rfl, rfl, trivial⟩
    have el := esc_len x
    obtain ⟨c, h3, a1, a2, a3⟩ := app_lit (B := h.n + 1) [34] (by omega) r2 (by simp) (by simp; omega)
    have bc : byteCells [34] = [.int .u8 (Int.ofNat 34)] := rfl
    rw [bc] at a1
    obtain ⟨c', rest, q1, q2, q3, q4⟩ := Buf.shape a2 (by simp)
    have qc : c = c' := by injection q1
    subst qc
    have cb := conv_bts (P := Tryd.prog) (a := 31) (b := 9) (cp := .opn 1) bytest (by kernel_rfl) strt q2 (n := (34 :: esc x).length + [(34 : UInt8)].length) (by rw [List.length_append]) (by simp)
    rw [hh1] at l2
    exact ⟨h3, fn_runF (intr := Il) (n := m + 19) (args := [.agg (encT ⟨4, x, v, a⟩)]) Tryd.func13 (by kernel_rfl) rfl (by kernel_rfl) (wt4 (C (m + 19)) v a c _ h.n v' x _ h h2 h3 (ld1 g0 rfl) (RunP.pre l2 ⟨rfl, rfl, rfl, trivial⟩ rfl rfl rfl) a1 cb) (.inl rfl) (by kernel_rfl), ⟨by have := a3.n; omega, fun b hb => (a3.get b (by omega)).trans ((r3.get b (by omega)).trans (by rw [hh1]; exact gold (by simp; omega) (gold hb rfl)))⟩⟩
  · rw [wr_other h3 h4]
    exact ⟨_, fn_runF (intr := Il) (n := m + 19) (args := [.agg (encT ⟨k, x, v, a⟩)]) Tryd.func13 (by kernel_rfl) rfl (by kernel_rfl) (wt0 (C (m + 19)) k v a x x h h (ld1 g0 rfl) (eqI_f h3) (eqI_f h4) (ld1 g0 rfl)) (.inl rfl) (by kernel_rfl), Ext.push (Nat.le_refl _) _⟩
end Go.Proofs.Lx

namespace Go.Proofs.Lx
open Go AEv Go.Proofs Lexp
set_option maxRecDepth 100000
set_option maxHeartbeats 1000000

/-! ### LexTexts -/
theorem xt_lp (n it : Nat) (s : List UInt8) : ∀ (f : Nat) (rest done : List UInt8) (pos : Nat) (x : AHeap), rest.length ≤ f → Chars done → x.get it = some (.strIter rest pos) → 5 ≤ it → it < x.n → tabsIn x tabs = true →
    (∃ k x', k ≤ f + 1 ∧ LoopF Tryd.prog Tryd.f6 none (C (n + 1)) [1, 1, 0, 1, 0] k ⟨[(0, .str s), (14, .ptr it 0)], [], .none, x⟩ (.exit 0) ⟨[(0, .str s)], [], .none, x'⟩ ∧ Chars (done ++ rest) ∧ ExtX it x.n x x') ∨
    (∃ k x', k ≤ f + 1 ∧ LoopF Tryd.prog Tryd.f6 none (C (n + 1)) [1, 1, 0, 1, 0] k ⟨[(0, .str s), (14, .ptr it 0)], [], .none, x⟩ .ret ⟨[(2, .bool true)], [], .none, x'⟩)
  | f, [], done, pos, x, hf, hd, hi, h5, hn, ht => by
    refine .inl ⟨1, x, by omega, .exit (xt_l0 (C (n + 1)) s it x x (next_nil hi)) (by simp), by rw [List.append_nil]; exact hd, ExtX.refl _ _ _⟩
  | 0, b :: t, done, pos, x, hf, hd, hi, h5, hn, ht => by simp at hf
  | f + 1, b :: t, done, pos, x, hf, hd, hi, h5, hn, ht => by
    have nx := next_cons hi
    obtain ⟨y, hy⟩ : ∃ y, y = x.set it (some (.strIter ((b :: t).drop (decP (b :: t)).2) (pos + (decP (b :: t)).2))) := ⟨_, rfl⟩
    rw [← hy] at nx
    have ty : tabsIn y tabs = true := tabs_keep ht fun c hc => by rw [hy]; exact gother (by omega) rfl
    have xy : ExtX it x.n x y := by rw [hy]; exact ExtX.set _
    have yn : y.n = x.n := by rw [hy]; rfl
    by_cases hc : (decP (b :: t)).1 = 65533
    · exact .inr ⟨1, y, by omega, .exit (xt_l2 (C (n + 1)) s it pos _ x y y nx (eqI_t hc) (works_c n y ty)) (by simp)⟩
    · obtain ⟨j, hj, hk⟩ := chunk_dec hc
      have st := xt_l1 (C (n + 1)) s it pos _ x y nx (eqI_f hc)
      have yi : y.get it = some (.strIter (t.drop j) (pos + (decP (b :: t)).2)) := by
        rw [hy]
        have e : (b :: t).drop (decP (b :: t)).2 = t.drop j := by rw [hj]; rfl
        rw [e]; exact gsame rfl
      rcases xt_lp n it s f (t.drop j) (done ++ b :: t.take j) _ y (by rw [List.length_drop]; simp at hf; omega) (hd.snoc hk) yi h5 (by omega) ty with ⟨k, x', h1, h2, h3, h4⟩ | ⟨k, x', h1, h2⟩
      · refine .inl ⟨k + 1, x', by omega, .step st h2, ?_, xy.trans (by omega) h4⟩
        rw [List.append_assoc, List.cons_append, List.take_append_drop] at h3; exact h3
      · exact .inr ⟨k + 1, x', by omega, .step st h2⟩
theorem texts_c (m : Nat) (s : List UInt8) (h : AHeap) (ht : tabsIn h tabs = true) (hn : 5 ≤ h.n) : ∃ h', C (m + 21) (.fn 6) [.str s] h = .ret (.bool true) h' := by
  have s0 := xt_a (C (m + 20)) s h
  obtain ⟨u, hu⟩ : ∃ u, u = s.take (min s.length 500) := ⟨_, rfl⟩
  have hul : u.length ≤ 500 := by rw [hu, List.length_take]; omega
  have s1 : RunF Tryd.prog Tryd.f6 none (C (m + 20)) [1, 0] ⟨[(0, .str s)], [], .none, h⟩ .nrm ⟨[(0, .str u)], [], .none, h⟩ := by
    rw [hu]; exact xt_b (C (m + 20)) s h _ _ (min_n _ _) (sl_to (by omega))
  have s2 := xt_c (C (m + 20)) u h
  obtain ⟨x, hx⟩ : ∃ x, x = h.push (.strIter u 0) := ⟨_, rfl⟩
  rw [← hx] at s2
  have xn : x.n = h.n + 1 := by rw [hx]; rfl
  have tx : tabsIn x tabs = true := tabs_keep ht fun c hc => by rw [hx]; exact gold (by omega) rfl
  have lp := xt_lp (m + 19) h.n u u.length u [] 0 x (Nat.le_refl _) Chars.nil (by rw [hx]; exact gtop rfl) hn (by omega) tx
  rcases lp with ⟨k, x1, k1, l1, hch, e1⟩ | ⟨k, x1, k1, l1⟩
  · have en := e1.n
    have t1 : tabsIn x1 tabs = true := tabs_keep tx fun c hc => e1.get c (by omega) (by omega)
    have l2 := RunF.block (p := [1, 1, 0, 1]) (id := 0) (by kernel_rfl) (LoopF.run (p := [1, 1, 0, 1, 0]) (by kernel_rfl) l1 (by omega))
    rw [List.nil_append] at hch
    obtain ⟨x2, c2, e2⟩ := written_c m ⟨4, u, 0, 0⟩ x1 (by show 0 < 9223372036854775808; decide) (by show u.length ≤ _; omega)
    have en2 := e2.n
    have t2 : tabsIn x2 tabs = true := tabs_keep t1 fun c hc => e2.get c (by omega)
    have hw : wr ⟨4, u, 0, 0⟩ = 34 :: esc u ++ [34] := rfl
    rw [hw] at c2
    have hel := esc_len u
    have hwl : (34 :: esc u ++ [34] : List UInt8).length = (esc u).length + 2 := by simp
    have s3 := xt_d (C (m + 20)) u _ x1 x2 c2
    obtain ⟨L1, _⟩ := Lex_c (m + 11) (34 :: esc u ++ [34]) x2 t2 (by omega) (by omega)
    obtain ⟨v, x3, c3, o3, e3⟩ := L1 _ (lex_texts hch)
    have en3 := e3.n
    have t3 : tabsIn x3 tabs = true := tabs_keep t2 fun c hc => e3.get c (by omega)
    have s4 := xt_e (C (m + 20)) u _ v .nilI x2 x3 c3
    rcases o3 with ⟨_, he⟩ | ⟨c, rfl, _, hc, _, hcn⟩
    · simp at he
    have s5 := xt_f (C (m + 20)) u (34 :: esc u ++ [34]) u c (34 :: esc u ++ [34]).length x3 (Nat.le_succ _) (row_ld1 hc (i := 0) (by simp) (by omega) rfl) (row_ld1 hc (i := 0) (by simp) (by omega) rfl) (by rw [bbr]; rfl) (Nat.le_refl _) (row_ld1 hc (i := 1) (by simp) (by omega) rfl) (by rw [eqI_t rfl]; rfl)
    have hcut : (34 :: esc u ++ [34] : List UInt8).take ((34 :: esc u ++ [34] : List UInt8).length - 1) = 34 :: esc u := by
      rw [hwl, show (esc u).length + 2 - 1 = (34 :: esc u : List UInt8).length by simp]
      exact List.take_left
    obtain ⟨_, L2⟩ := Lex_c (m + 11) (34 :: esc u) x3 t3 (by omega) (by simp; omega)
    obtain ⟨e, x4, c4, _, _, _, e4⟩ := L2 _ (lex_cut hch)
    have en4 := e4.n
    have t4 : tabsIn x4 tabs = true := tabs_keep t3 fun c hc => e4.get c (by omega)
    have s6 := xt_g (C (m + 20)) (34 :: esc u ++ [34]) (34 :: esc u) _ _ x3 x4 _ (sub_n (j := 1) (by omega) (by omega)) (by rw [sl_to (by omega), hcut]) c4
    have s7 := xt_h (C (m + 20)) e x4 x4 (works_c (m + 19) x4 t4)
    exact ⟨x4, fn_runF (intr := Il) (n := m + 20) (args := [.str s]) Tryd.func6 (by kernel_rfl) rfl (by kernel_rfl) (RunF.seq (p := []) (by kernel_rfl) s0 (RunF.seq (p := [1]) (by kernel_rfl) s1 (RunF.seq (p := [1, 1]) (by kernel_rfl) (RunF.seq (p := [1, 1, 0]) (by kernel_rfl) s2 l2) (RunF.seq (p := [1, 1, 1]) (by kernel_rfl) s3 (RunF.seq (p := [1, 1, 1, 1]) (by kernel_rfl) s4 (RunF.seq (p := [1, 1, 1, 1, 1]) (by kernel_rfl) s5 (RunF.seq (p := [1, 1, 1, 1, 1, 1]) (by kernel_rfl) s6 s7))))))) (.inl rfl) (by kernel_rfl)⟩
  · have l2 := RunF.blockx (p := [1, 1, 0, 1]) (id := 0) (by kernel_rfl) (LoopF.run (p := [1, 1, 0, 1, 0]) (by kernel_rfl) l1 (by omega)) (by simp)
    exact ⟨x1, fn_runF (intr := Il) (n := m + 20) (args := [.str s]) Tryd.func6 (by kernel_rfl) rfl (by kernel_rfl) (RunF.seq (p := []) (by kernel_rfl) s0 (RunF.seq (p := [1]) (by kernel_rfl) s1 (RunF.seqx (p := [1, 1]) (by kernel_rfl) (RunF.seq (p := [1, 1, 0]) (by kernel_rfl) s2 l2) (by simp)))) (.inl rfl) (by kernel_rfl)⟩
end Go.Proofs.Lx
