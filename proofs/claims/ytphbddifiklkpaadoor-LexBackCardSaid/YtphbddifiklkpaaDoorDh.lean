/-
  PROVED HERE: contracts of functions (Dh). No condition beside each statement's own.
-/
import Derived.Test.YtphbddifiklkpaaDoorDg
import Derived.Test.YtphbddifiklkpaaDoorDf
import Derived.Test.YtphbddifiklkpaaDoorSxb
import Derived.ChangeSlices
set_option linter.unusedVariables false
set_option linter.unusedSimpArgs false
namespace Go.Proofs.Lx
open Go AEv Go.Proofs Lexp
set_option maxRecDepth 100000
set_option maxHeartbeats 1000000

theorem dg1 (call : CallT → List AV → AHeap → FRes) (n : Nat) (h : AHeap) (n_1 n_2 : Nat) (t_1 : List UInt8)
    (H1 : ltI (.ofNat n) (.ofNat 10) = true)
    (H2 : evConvert Tryd.prog 2 5 (AV.int IntKind.i64 (Int.ofNat n)) h = OpRes.val (AV.int IntKind.u8 (Int.ofNat n_1)) h)
    (H3 : arith .add .u8 (.ofNat 48) (.ofNat n_1) = some (.int .u8 (.ofNat n_2)))
    (H4 : evConvert Tryd.prog 31 9 (AV.slice (AHeap.n h) 0 1 (Cap.exact 1)) (AHeap.push h (AObj.cells [AV.int IntKind.u8 (Int.ofNat n_2)] 5 BK.own 0 0)) = OpRes.val (AV.str t_1) (AHeap.push h (AObj.cells [AV.int IntKind.u8 (Int.ofNat n_2)] 5 BK.own 0 0))) :
    RunF Tryd.prog Tryd.f23 none call [] (SSt.mk [(0, .int .i64 (.ofNat n))] [] .none h) (.ret)
      (SSt.mk [(2, .str t_1)] [] .none (AHeap.push h (.cells [.int .u8 (.ofNat n_2)] 5 .own 0 0))) :=
  sxF_run [2] (hs := [.b true, .v (.int .u8 (.ofNat n_1)), .v (.int .u8 (.ofNat n_2)), .v (.str t_1)]) (by kernel_rfl) <| .cons H1 <| .cons H2 <| .cons H3 <| .cons H4 <| .nil
theorem dg2 (call : CallT → List AV → AHeap → FRes) (n a b : Nat) (x y : List UInt8) (h g g1 : AHeap) (t_1 : List UInt8)
    (H1 : ltI (.ofNat n) (.ofNat 10) = false)
    (H2 : arith .quo .i64 (.ofNat n) (.ofNat 10) = some (.int .i64 (.ofNat a)))
    (H3 : call (.fn 23) [.int .i64 (.ofNat a)] h = FRes.ret (.str x) g)
    (H4 : arith .rem .i64 (.ofNat n) (.ofNat 10) = some (.int .i64 (.ofNat b)))
    (H5 : call (.fn 23) [.int .i64 (.ofNat b)] g = FRes.ret (.str y) g1)
    (H6 : strOp .add x y = some (.str t_1)) :
    RunF Tryd.prog Tryd.f23 none call [] (SSt.mk [(0, .int .i64 (.ofNat n))] [] .none h) (.ret)
      (SSt.mk [(2, .str t_1)] [] .none g1) :=
  sxF_run [2] (hs := [.b false, .v (.int .i64 (.ofNat a)), .c (.str x) g, .v (.int .i64 (.ofNat b)), .c (.str y) g1, .v (.str t_1)]) (by kernel_rfl) <| .cons H1 <| .cons H2 <| .cons H3 <| .cons H4 <| .cons H5 <| .cons H6 <| .nil
theorem wt3 (call : CallT → List AV → AHeap → FRes) (v a : Nat) (x y : List UInt8) (h g : AHeap)
    (H1 : load1 (AHeap.push h (.cells [.int .i64 (.ofNat 3), .str x, .int .i64 (.ofNat v), .int .i64 (.ofNat a)] 30 .own 0 0)) (AHeap.n h) (0 + 0) = some (.int .i64 (.ofNat 3)))
    (H2 : load1 (AHeap.push h (.cells [.int .i64 (.ofNat 3), .str x, .int .i64 (.ofNat v), .int .i64 (.ofNat a)] 30 .own 0 0)) (AHeap.n h) (0 + 2) = some (.int .i64 (.ofNat v)))
    (H3 : call (.fn 23) [.int .i64 (.ofNat v)] (AHeap.push h (.cells [.int .i64 (.ofNat 3), .str x, .int .i64 (.ofNat v), .int .i64 (.ofNat a)] 30 .own 0 0)) = FRes.ret (.str y) g) :
    RunF Tryd.prog Tryd.f13 none call [] (SSt.mk [(0, .agg [.int .i64 (.ofNat 3), .str x, .int .i64 (.ofNat v), .int .i64 (.ofNat a)])] [] .none h) (.ret)
      (SSt.mk [(2, .str y)] [] .none g) :=
  sxF_run [2] (hs := [.v (.int .i64 (.ofNat 3)), .b true, .v (.int .i64 (.ofNat v)), .c (.str y) g]) (by kernel_rfl) <| .cons H1 <| .cons (by kernel_rfl : eqI (Int.ofNat 3) (Int.ofNat 3) = true) <| .cons H2 <| .cons H3 <| .nil
theorem wt0 (call : CallT → List AV → AHeap → FRes) (k v a : Nat) (x y : List UInt8) (h g : AHeap)
    (H1 : load1 (AHeap.push h (.cells [.int .i64 (.ofNat k), .str x, .int .i64 (.ofNat v), .int .i64 (.ofNat a)] 30 .own 0 0)) (AHeap.n h) (0 + 0) = some (.int .i64 (.ofNat k)))
    (H2 : eqI (.ofNat k) (.ofNat 3) = false)
    (H3 : eqI (.ofNat k) (.ofNat 4) = false)
    (H4 : load1 (AHeap.push h (.cells [.int .i64 (.ofNat k), .str x, .int .i64 (.ofNat v), .int .i64 (.ofNat a)] 30 .own 0 0)) (AHeap.n h) (0 + 1) = some (.str x)) :
    RunF Tryd.prog Tryd.f13 none call [] (SSt.mk [(0, .agg [.int .i64 (.ofNat k), .str x, .int .i64 (.ofNat v), .int .i64 (.ofNat a)])] [] .none h) (.ret)
      (SSt.mk [(2, .str x)] [] .none (AHeap.push h (.cells [.int .i64 (.ofNat k), .str x, .int .i64 (.ofNat v), .int .i64 (.ofNat a)] 30 .own 0 0))) :=
  sxF_run [2] (hs := [.v (.int .i64 (.ofNat k)), .b false, .b false, .v (.str x)]) (by kernel_rfl) <| .cons H1 <| .cons H2 <| .cons H3 <| .cons H4 <| .nil
theorem wt4 (call : CallT → List AV → AHeap → FRes) (v a c2 n2 p : Nat) (v0 : AV) (x y : List UInt8) (h h2 h3 : AHeap)
    (H1 : load1 (AHeap.push h (.cells [.int .i64 (.ofNat 4), .str x, .int .i64 (.ofNat v), .int .i64 (.ofNat a)] 30 .own 0 0)) (AHeap.n h) (0 + 0) = some (.int .i64 (.ofNat 4)))
    (H2 : RunF Tryd.prog Tryd.f13 none call [1, 0, 1, 0, 1, 1, 1, 0, 1, 0, 1, 0] (SSt.mk [(4, .int .i64 (.ofNat 0)), (3, .slice (AHeap.n (AHeap.push h (.cells [.int .i64 (.ofNat 4), .str x, .int .i64 (.ofNat v), .int .i64 (.ofNat a)] 30 .own 0 0))) 0 1 (.exact 1)), (12, .bool (eqI (.ofNat 4) (.ofNat 4))), (7, .bool (eqI (.ofNat 4) (.ofNat 3))), (6, .int .i64 (.ofNat 4)), (2, .str []), (1, .ptr (AHeap.n h) 0), (0, .agg [.int .i64 (.ofNat 4), .str x, .int .i64 (.ofNat v), .int .i64 (.ofNat a)])] [] .none (AHeap.push (AHeap.push h (.cells [.int .i64 (.ofNat 4), .str x, .int .i64 (.ofNat v), .int .i64 (.ofNat a)] 30 .own 0 0)) (.cells [.int .u8 (.ofNat 34)] 5 .own 0 0))) (.exit 1) (SSt.mk [(1, .ptr p 0), (3, v0)] [] .none h2))
    (H3 : appendA Tryd.prog (AHeap.push h2 (AObj.cells [AV.int IntKind.u8 (Int.ofNat 34)] 5 BK.own 0 0)) 31 (some 31) v0 (AV.slice (AHeap.n h2) 0 1 (Cap.exact 1)) = some (AV.slice c2 0 n2 (Cap.opn 1), h3))
    (H4 : evConvert Tryd.prog 31 9 (AV.slice c2 0 n2 (Cap.opn 1)) h3 = OpRes.val (AV.str y) h3) :
    RunF Tryd.prog Tryd.f13 none call [] (SSt.mk [(0, .agg [.int .i64 (.ofNat 4), .str x, .int .i64 (.ofNat v), .int .i64 (.ofNat a)])] [] .none h) (.ret)
      (SSt.mk [(2, .str y)] [] .none h3) :=
  sxF_run [2] (hs := [Hint.v (AV.int IntKind.i64 (Int.ofNat 4)), Hint.b false, Hint.b true, Hint.loop (AEx.exit 1) (SSt.mk [(1, AV.ptr p 0), (3, v0)] [] Rc.none h2), Hint.vh (AV.slice c2 0 n2 (Cap.opn 1)) h3, Hint.v (AV.str y)]) (by kernel_rfl) <| .cons H1 <| .cons (by kernel_rfl : eqI (Int.ofNat 4) (Int.ofNat 3) = false) <| .cons (by kernel_rfl : eqI (Int.ofNat 4) (Int.ofNat 4) = true) <| .cons H2 <| .cons H3 <| .cons H4 <| .nil
theorem wtl_1 (call : CallT → List AV → AHeap → FRes) (p i c : Nat) (x : List UInt8) (v : AV) (h g : AHeap) (n_1 n_2 n_3 n_4 : Nat) (c_1 : Cap) (g_1 : AHeap) (n_5 : Nat)
    (H1 : load1 h p (0 + 1) = some (.str x))
    (H2 : ltI (.ofNat i) (.ofNat (List.length x)) = true)
    (H3 : idxS i x = some (.int .u8 (.ofNat n_1)))
    (H4 : eqI (.ofNat n_1) (.ofNat 34) = true)
    (H5 : appendA Tryd.prog (AHeap.push h (AObj.cells [AV.int IntKind.u8 (Int.ofNat 92), AV.int IntKind.u8 (Int.ofNat n_1)] 5 BK.own 0 0)) 31 (some 31) v (AV.slice (AHeap.n h) 0 2 (Cap.exact 2)) = some (AV.slice n_2 n_3 n_4 c_1, g_1))
    (H6 : arith .add .i64 (.ofNat i) (.ofNat 1) = some (.int .i64 (.ofNat n_5))) :
    RunF Tryd.prog Tryd.f13 none call [1, 0, 1, 0, 1, 1, 1, 0, 1, 0, 1, 0, 0] (SSt.mk [(1, .ptr p 0), (3, v), (4, .int .i64 (.ofNat i))] [] .none h) (.nrm)
      (SSt.mk [(1, .ptr p 0), (3, .slice n_2 n_3 n_4 c_1), (4, .int .i64 (.ofNat n_5))] [] .none g_1) :=
  sxF_run [1, 3, 4] (hs := [.v (.str x), .b true, .v (.str x), .v (.int .u8 (.ofNat n_1)), .b true, .b true, .v (.str x), .v (.int .u8 (.ofNat n_1)), .vh (.slice n_2 n_3 n_4 c_1) g_1, .v (.int .i64 (.ofNat n_5))]) (by kernel_rfl) <| .cons H1 <| .cons H2 <| .cons H1 <| .cons H3 <| .cons H4 <| .cons H4 <| .cons H1 <| .cons H3 <| .cons H5 <| .cons H6 <| .nil
theorem wtl_2 (call : CallT → List AV → AHeap → FRes) (p i c : Nat) (x : List UInt8) (v : AV) (h g : AHeap) (n_1 n_2 n_3 n_4 : Nat) (c_1 : Cap) (g_1 : AHeap) (n_5 : Nat)
    (H1 : load1 h p (0 + 1) = some (.str x))
    (H2 : ltI (.ofNat i) (.ofNat (List.length x)) = true)
    (H3 : idxS i x = some (.int .u8 (.ofNat n_1)))
    (H4 : eqI (.ofNat n_1) (.ofNat 34) = false)
    (H5 : eqI (.ofNat n_1) (.ofNat 92) = true)
    (H6 : appendA Tryd.prog (AHeap.push h (AObj.cells [AV.int IntKind.u8 (Int.ofNat 92), AV.int IntKind.u8 (Int.ofNat n_1)] 5 BK.own 0 0)) 31 (some 31) v (AV.slice (AHeap.n h) 0 2 (Cap.exact 2)) = some (AV.slice n_2 n_3 n_4 c_1, g_1))
    (H7 : arith .add .i64 (.ofNat i) (.ofNat 1) = some (.int .i64 (.ofNat n_5))) :
    RunF Tryd.prog Tryd.f13 none call [1, 0, 1, 0, 1, 1, 1, 0, 1, 0, 1, 0, 0] (SSt.mk [(1, .ptr p 0), (3, v), (4, .int .i64 (.ofNat i))] [] .none h) (.nrm)
      (SSt.mk [(1, .ptr p 0), (3, .slice n_2 n_3 n_4 c_1), (4, .int .i64 (.ofNat n_5))] [] .none g_1) :=
  sxF_run [1, 3, 4] (hs := [.v (.str x), .b true, .v (.str x), .v (.int .u8 (.ofNat n_1)), .b false, .b true, .v (.str x), .v (.int .u8 (.ofNat n_1)), .vh (.slice n_2 n_3 n_4 c_1) g_1, .v (.int .i64 (.ofNat n_5))]) (by kernel_rfl) <| .cons H1 <| .cons H2 <| .cons H1 <| .cons H3 <| .cons H4 <| .cons H5 <| .cons H1 <| .cons H3 <| .cons H6 <| .cons H7 <| .nil
theorem wtl_3 (call : CallT → List AV → AHeap → FRes) (p i c : Nat) (x : List UInt8) (v : AV) (h g : AHeap) (n_1 n_2 n_3 n_4 : Nat) (c_1 : Cap) (g_1 : AHeap) (n_5 : Nat)
    (H1 : load1 h p (0 + 1) = some (.str x))
    (H2 : ltI (.ofNat i) (.ofNat (List.length x)) = true)
    (H3 : idxS i x = some (.int .u8 (.ofNat n_1)))
    (H4 : eqI (.ofNat n_1) (.ofNat 34) = false)
    (H5 : eqI (.ofNat n_1) (.ofNat 92) = false)
    (H6 : eqI (.ofNat n_1) (.ofNat 10) = true)
    (H7 : appendA Tryd.prog (AHeap.push h (AObj.cells [AV.int IntKind.u8 (Int.ofNat 92), AV.int IntKind.u8 (Int.ofNat 110)] 5 BK.own 0 0)) 31 (some 31) v (AV.slice (AHeap.n h) 0 2 (Cap.exact 2)) = some (AV.slice n_2 n_3 n_4 c_1, g_1))
    (H8 : arith .add .i64 (.ofNat i) (.ofNat 1) = some (.int .i64 (.ofNat n_5))) :
    RunF Tryd.prog Tryd.f13 none call [1, 0, 1, 0, 1, 1, 1, 0, 1, 0, 1, 0, 0] (SSt.mk [(1, .ptr p 0), (3, v), (4, .int .i64 (.ofNat i))] [] .none h) (.nrm)
      (SSt.mk [(1, .ptr p 0), (3, .slice n_2 n_3 n_4 c_1), (4, .int .i64 (.ofNat n_5))] [] .none g_1) :=
  sxF_run [1, 3, 4] (hs := [.v (.str x), .b true, .v (.str x), .v (.int .u8 (.ofNat n_1)), .b false, .b false, .b true, .vh (.slice n_2 n_3 n_4 c_1) g_1, .v (.int .i64 (.ofNat n_5))]) (by kernel_rfl) <| .cons H1 <| .cons H2 <| .cons H1 <| .cons H3 <| .cons H4 <| .cons H5 <| .cons H6 <| .cons H7 <| .cons H8 <| .nil
theorem wtl_4 (call : CallT → List AV → AHeap → FRes) (p i c : Nat) (x : List UInt8) (v : AV) (h g : AHeap) (n_1 n_2 n_3 n_4 : Nat) (c_1 : Cap) (g_1 : AHeap) (n_5 : Nat)
    (H1 : load1 h p (0 + 1) = some (.str x))
    (H2 : ltI (.ofNat i) (.ofNat (List.length x)) = true)
    (H3 : idxS i x = some (.int .u8 (.ofNat n_1)))
    (H4 : eqI (.ofNat n_1) (.ofNat 34) = false)
    (H5 : eqI (.ofNat n_1) (.ofNat 92) = false)
    (H6 : eqI (.ofNat n_1) (.ofNat 10) = false)
    (H7 : appendA Tryd.prog (AHeap.push h (AObj.cells [AV.int IntKind.u8 (Int.ofNat n_1)] 5 BK.own 0 0)) 31 (some 31) v (AV.slice (AHeap.n h) 0 1 (Cap.exact 1)) = some (AV.slice n_2 n_3 n_4 c_1, g_1))
    (H8 : arith .add .i64 (.ofNat i) (.ofNat 1) = some (.int .i64 (.ofNat n_5))) :
    RunF Tryd.prog Tryd.f13 none call [1, 0, 1, 0, 1, 1, 1, 0, 1, 0, 1, 0, 0] (SSt.mk [(1, .ptr p 0), (3, v), (4, .int .i64 (.ofNat i))] [] .none h) (.nrm)
      (SSt.mk [(1, .ptr p 0), (3, .slice n_2 n_3 n_4 c_1), (4, .int .i64 (.ofNat n_5))] [] .none g_1) :=
  sxF_run [1, 3, 4] (hs := [.v (.str x), .b true, .v (.str x), .v (.int .u8 (.ofNat n_1)), .b false, .b false, .b false, .v (.str x), .v (.int .u8 (.ofNat n_1)), .vh (.slice n_2 n_3 n_4 c_1) g_1, .v (.int .i64 (.ofNat n_5))]) (by kernel_rfl) <| .cons H1 <| .cons H2 <| .cons H1 <| .cons H3 <| .cons H4 <| .cons H5 <| .cons H6 <| .cons H1 <| .cons H3 <| .cons H7 <| .cons H8 <| .nil
theorem wtl_5 (call : CallT → List AV → AHeap → FRes) (p i c : Nat) (x : List UInt8) (v : AV) (h g : AHeap)
    (H1 : load1 h p (0 + 1) = some (.str x))
    (H2 : ltI (.ofNat i) (.ofNat (List.length x)) = false) :
    RunF Tryd.prog Tryd.f13 none call [1, 0, 1, 0, 1, 1, 1, 0, 1, 0, 1, 0, 0] (SSt.mk [(1, .ptr p 0), (3, v), (4, .int .i64 (.ofNat i))] [] .none h) (.exit 1)
      (SSt.mk [(1, .ptr p 0), (3, v), (4, .int .i64 (.ofNat i))] [] .none h) :=
  sxF_run [1, 3, 4] (hs := [.v (.str x), .b false]) (by kernel_rfl) <| .cons H1 <| .cons H2 <| .nil
theorem xt_a (call : CallT → List AV → AHeap → FRes) (s : List UInt8) (h : AHeap) :
    RunF Tryd.prog Tryd.f6 none call [0] (SSt.mk [(0, .str s)] [] .none h) (.nrm)
      (SSt.mk [(0, .str s)] [] .none h) :=
  sxF_run [0] (hs := []) (by kernel_rfl) <| .nil
theorem xt_b (call : CallT → List AV → AHeap → FRes) (s : List UInt8) (h : AHeap) (n_1 : Nat) (t_1 : List UInt8)
    (H1 : foldA minA (AV.int IntKind.i64 (Int.ofNat (List.length s))) [AV.int IntKind.i64 (Int.ofNat 500)] = some (AV.int IntKind.i64 (Int.ofNat n_1)))
    (H2 : sliceA Tryd.prog h 9 (AV.str s) none (some (AV.int IntKind.i64 (Int.ofNat n_1))) none = some (AV.str t_1)) :
    RunF Tryd.prog Tryd.f6 none call [1, 0] (SSt.mk [(0, .str s)] [] .none h) (.nrm)
      (SSt.mk [(0, .str t_1)] [] .none h) :=
  sxF_run [0] (hs := [.v (.int .i64 (.ofNat n_1)), .v (.str t_1)]) (by kernel_rfl) <| .cons H1 <| .cons H2 <| .nil
theorem xt_c (call : CallT → List AV → AHeap → FRes) (s : List UInt8) (h : AHeap) :
    RunF Tryd.prog Tryd.f6 none call [1, 1, 0, 0] (SSt.mk [(0, .str s)] [] .none h) (.nrm)
      (SSt.mk [(0, .str s), (14, .ptr (AHeap.n h) 0)] [] .none (AHeap.push h (.strIter s 0))) :=
  sxF_run [0, 14] (hs := []) (by kernel_rfl) <| .nil
theorem xt_l0 (call : CallT → List AV → AHeap → FRes) (s : List UInt8) (it : Nat) (h g : AHeap)
    (H1 : nextA h (AV.ptr it 0) true = some (AV.tup [AV.bool false], g)) :
    RunF Tryd.prog Tryd.f6 none call [1, 1, 0, 1, 0, 0] (SSt.mk [(0, .str s), (14, .ptr it 0)] [] .none h) (.exit 0)
      (SSt.mk [(0, .str s)] [] .none g) :=
  sxF_run [0] (hs := [.vh (.tup [.bool false]) g, .b false]) (by kernel_rfl) <| .cons H1 <| .cons (by kernel_rfl : false = false) <| .nil
theorem xt_l1 (call : CallT → List AV → AHeap → FRes) (s : List UInt8) (it i c : Nat) (h g : AHeap)
    (H1 : nextA h (AV.ptr it 0) true = some (AV.tup [AV.bool true, AV.int IntKind.i64 (Int.ofNat i), AV.int IntKind.i32 (Int.ofNat c)], g))
    (H2 : eqI (.ofNat c) (.ofNat 65533) = false) :
    RunF Tryd.prog Tryd.f6 none call [1, 1, 0, 1, 0, 0] (SSt.mk [(0, .str s), (14, .ptr it 0)] [] .none h) (.nrm)
      (SSt.mk [(0, .str s), (14, .ptr it 0)] [] .none g) :=
  sxF_run [0, 14] (hs := [.vh (.tup [.bool true, .int .i64 (.ofNat i), .int .i32 (.ofNat c)]) g, .b true, .b false]) (by kernel_rfl) <| .cons H1 <| .cons (by kernel_rfl : true = true) <| .cons H2 <| .nil
theorem xt_l2 (call : CallT → List AV → AHeap → FRes) (s : List UInt8) (it i c : Nat) (h g g1 : AHeap)
    (H1 : nextA h (AV.ptr it 0) true = some (AV.tup [AV.bool true, AV.int IntKind.i64 (Int.ofNat i), AV.int IntKind.i32 (Int.ofNat c)], g))
    (H2 : eqI (.ofNat c) (.ofNat 65533) = true)
    (H3 : call (.fn 11) [] g = FRes.ret (.bool true) g1) :
    RunF Tryd.prog Tryd.f6 none call [1, 1, 0, 1, 0, 0] (SSt.mk [(0, .str s), (14, .ptr it 0)] [] .none h) (.ret)
      (SSt.mk [(2, .bool true)] [] .none g1) :=
  sxF_run [2] (hs := [.vh (.tup [.bool true, .int .i64 (.ofNat i), .int .i32 (.ofNat c)]) g, .b true, .b true, .c (.bool true) g1]) (by kernel_rfl) <| .cons H1 <| .cons (by kernel_rfl : true = true) <| .cons H2 <| .cons H3 <| .nil
theorem xt_d (call : CallT → List AV → AHeap → FRes) (s w : List UInt8) (h g : AHeap)
    (H1 : call (.fn 13) [.agg [.int .i64 (.ofNat 4), .str s, .int .i64 (.ofNat 0), .int .i64 (.ofNat 0)]] h = FRes.ret (.str w) g) :
    RunF Tryd.prog Tryd.f6 none call [1, 1, 1, 0] (SSt.mk [(0, .str s)] [] .none h) (.nrm)
      (SSt.mk [(0, .str s), (5, .str w)] [] .none g) :=
  sxF_run [0, 5] (hs := [.c (.str w) g]) (by kernel_rfl) <| .cons H1 <| .nil
theorem xt_e (call : CallT → List AV → AHeap → FRes) (s w : List UInt8) (v e : AV) (h g : AHeap)
    (H1 : call (.fn 12) [.str w] h = FRes.ret (.tup [v, e]) g) :
    RunF Tryd.prog Tryd.f6 none call [1, 1, 1, 1, 0] (SSt.mk [(0, .str s), (5, .str w)] [] .none h) (.nrm)
      (SSt.mk [(0, .str s), (5, .str w), (6, v), (7, e)] [] .none g) :=
  sxF_run [0, 5, 6, 7] (hs := [.c (.tup [v, e]) g]) (by kernel_rfl) <| .cons H1 <| .nil
theorem xt_f (call : CallT → List AV → AHeap → FRes) (s w x : List UInt8) (c a : Nat) (h : AHeap)
    (H1 : Nat.le 1 2)
    (H2 : load1 h c (0 + 0 * 4 + 0) = some (.int .i64 (.ofNat 4)))
    (H3 : load1 h c (0 + 0 * 4 + 1) = some (.str x))
    (H4 : (!beqBytes x s) = false)
    (H5 : Nat.le 2 2)
    (H6 : load1 h c (0 + 1 * 4 + 3) = some (.int .i64 (.ofNat a)))
    (H7 : (!eqI (.ofNat a) (.ofNat (List.length w))) = false) :
    RunF Tryd.prog Tryd.f6 none call [1, 1, 1, 1, 1, 0] (SSt.mk [(0, .str s), (5, .str w), (6, .slice c 0 2 (.opn 4)), (7, .nilI)] [] .none h) (.nrm)
      (SSt.mk [(5, .str w)] [] .none h) :=
  sxF_run [5] (hs := [.v (.bool !true), .b false, .b false, .b false, .b false, .b false, .b false, .v (.ptr c (0 + 0 * 4)), .b false, .b false, .v (.int .i64 (.ofNat 4)), .b false, .b false, .b false, .b false, .v (.ptr c (0 + 0 * 4)), .b false, .b false, .v (.str x), .b false, .b false, .b false, .b false, .b false, .v (.ptr c (0 + 1 * 4)), .b false, .b false, .v (.int .i64 (.ofNat a)), .b false, .b false, .b false, .b false, .b false]) (by kernel_rfl) <| .cons (by kernel_rfl : binA Tryd.prog h BinOp.neq 26 (Operand.tmp 29) (Operand.const Value.nilIface) AV.nilI AV.nilI = some (AV.bool !true)) <| .cons (by kernel_rfl : (!true) = false) <| .cons (by kernel_rfl : (!true) = false) <| .cons (by kernel_rfl : (!true) = false) <| .cons (by kernel_rfl : (!true) = false) <| .cons (by kernel_rfl : (!eqI (Int.ofNat 2) (Int.ofNat 2)) = false) <| .cons (by kernel_rfl : (!eqI (Int.ofNat 2) (Int.ofNat 2)) = false) <| .cons (⟨H1, rfl⟩ : Nat.le 1 2 ∧ AV.ptr c (0 + 0 * 4) = AV.ptr c (0 + 0 * 4)) <| .cons (by kernel_rfl : (!eqI (Int.ofNat 2) (Int.ofNat 2)) = false) <| .cons (by kernel_rfl : (!eqI (Int.ofNat 2) (Int.ofNat 2)) = false) <| .cons H2 <| .cons (by kernel_rfl : (!eqI (Int.ofNat 2) (Int.ofNat 2)) = false) <| .cons (by kernel_rfl : (!eqI (Int.ofNat 2) (Int.ofNat 2)) = false) <| .cons (by kernel_rfl : (!eqI (Int.ofNat 4) (Int.ofNat 4)) = false) <| .cons (by kernel_rfl : (!eqI (Int.ofNat 4) (Int.ofNat 4)) = false) <| .cons (⟨H1, rfl⟩ : Nat.le 1 2 ∧ AV.ptr c (0 + 0 * 4) = AV.ptr c (0 + 0 * 4)) <| .cons (by kernel_rfl : (!eqI (Int.ofNat 4) (Int.ofNat 4)) = false) <| .cons (by kernel_rfl : (!eqI (Int.ofNat 4) (Int.ofNat 4)) = false) <| .cons H3 <| .cons (by kernel_rfl : (!eqI (Int.ofNat 4) (Int.ofNat 4)) = false) <| .cons (by kernel_rfl : (!eqI (Int.ofNat 4) (Int.ofNat 4)) = false) <| .cons (by kernel_rfl : (!eqI (Int.ofNat 4) (Int.ofNat 4)) = false) <| .cons H4 <| .cons H4 <| .cons (⟨H5, rfl⟩ : Nat.le 2 2 ∧ AV.ptr c (0 + 1 * 4) = AV.ptr c (0 + 1 * 4)) <| .cons H4 <| .cons H4 <| .cons H6 <| .cons H4 <| .cons H4 <| .cons H4 <| .cons H4 <| .cons H7 <| .nil
theorem xt_g (call : CallT → List AV → AHeap → FRes) (w x : List UInt8) (v e : AV) (h g : AHeap) (n_1 : Nat)
    (H1 : arith .sub .i64 (.ofNat (List.length w)) (.ofNat 1) = some (.int .i64 (.ofNat n_1)))
    (H2 : sliceA Tryd.prog h 9 (AV.str w) none (some (AV.int IntKind.i64 (Int.ofNat n_1))) none = some (AV.str x))
    (H3 : call (.fn 12) [.str x] h = FRes.ret (.tup [v, e]) g) :
    RunF Tryd.prog Tryd.f6 none call [1, 1, 1, 1, 1, 1, 0] (SSt.mk [(5, .str w)] [] .none h) (.nrm)
      (SSt.mk [(7, e)] [] .none g) :=
  sxF_run [7] (hs := [.v (.int .i64 (.ofNat n_1)), .v (.str x), .c (.tup [v, e]) g]) (by kernel_rfl) <| .cons H1 <| .cons H2 <| .cons H3 <| .nil
theorem xt_h (call : CallT → List AV → AHeap → FRes) (e : Nat) (h g : AHeap)
    (H1 : call (.fn 11) [] h = FRes.ret (.bool true) g) :
    RunF Tryd.prog Tryd.f6 none call [1, 1, 1, 1, 1, 1, 1] (SSt.mk [(7, .iface 52 (.ptr e 0))] [] .none h) (.ret)
      (SSt.mk [(2, .bool true)] [] .none g) :=
  sxF_run [2] (hs := [.v (.bool !false), .b true, .c (.bool true) g, .b true]) (by kernel_rfl) <| .cons (by kernel_rfl : binA Tryd.prog h BinOp.neq 26 (Operand.tmp 69) (Operand.const Value.nilIface) (AV.iface 52 (AV.ptr e 0)) AV.nilI = some (AV.bool !false)) <| .cons (by kernel_rfl : (!false) = true) <| .cons H1 <| .cons (by kernel_rfl : (!false) = true) <| .nil
theorem bk_a (call : CallT → List AV → AHeap → FRes) (s : List UInt8) (z : AV) (h : AHeap) :
    RunF Tryd.prog Tryd.f5 none call [0] (SSt.mk [(0, .str s), (1, z)] [] .none h) (.nrm)
      (SSt.mk [(0, .str s), (1, z)] [] .none h) :=
  sxF_run [0, 1] (hs := []) (by kernel_rfl) <| .nil
theorem bk_b (call : CallT → List AV → AHeap → FRes) (s x : List UInt8) (z v e : AV) (h g : AHeap) (n_1 : Nat)
    (H1 : foldA minA (AV.int IntKind.i64 (Int.ofNat (List.length s))) [AV.int IntKind.i64 (Int.ofNat 3000)] = some (AV.int IntKind.i64 (Int.ofNat n_1)))
    (H2 : sliceA Tryd.prog h 9 (AV.str s) none (some (AV.int IntKind.i64 (Int.ofNat n_1))) none = some (AV.str x))
    (H3 : call (.fn 12) [.str x] h = FRes.ret (.tup [v, e]) g) :
    RunF Tryd.prog Tryd.f5 none call [1, 0] (SSt.mk [(0, .str s), (1, z)] [] .none h) (.nrm)
      (SSt.mk [(1, z), (5, v), (6, e)] [] .none g) :=
  sxF_run [1, 5, 6] (hs := [.v (.int .i64 (.ofNat n_1)), .v (.str x), .c (.tup [v, e]) g]) (by kernel_rfl) <| .cons H1 <| .cons H2 <| .cons H3 <| .nil
theorem bk_c1 (call : CallT → List AV → AHeap → FRes) (z v : AV) (e : Nat) (h g : AHeap)
    (H1 : call (.fn 11) [] h = FRes.ret (.bool true) g) :
    RunF Tryd.prog Tryd.f5 none call [1, 1, 0] (SSt.mk [(1, z), (5, v), (6, .iface 52 (.ptr e 0))] [] .none h) (.ret)
      (SSt.mk [(4, .bool true)] [] .none g) :=
  sxF_run [4] (hs := [.v (.bool !false), .b true, .c (.bool true) g]) (by kernel_rfl) <| .cons (by kernel_rfl : binA Tryd.prog h BinOp.neq 26 (Operand.tmp 24) (Operand.const Value.nilIface) (AV.iface 52 (AV.ptr e 0)) AV.nilI = some (AV.bool !false)) <| .cons (by kernel_rfl : (!false) = true) <| .cons H1 <| .nil
theorem bk_c2 (call : CallT → List AV → AHeap → FRes) (z v : AV) (h g : AHeap) :
    RunF Tryd.prog Tryd.f5 none call [1, 1, 0] (SSt.mk [(1, z), (5, v), (6, .nilI)] [] .none h) (.nrm)
      (SSt.mk [(1, z), (5, v)] [] .none h) :=
  sxF_run [1, 5] (hs := [.v (.bool !true), .b false]) (by kernel_rfl) <| .cons (by kernel_rfl : binA Tryd.prog h BinOp.neq 26 (Operand.tmp 24) (Operand.const Value.nilIface) AV.nilI AV.nilI = some (AV.bool !true)) <| .cons (by kernel_rfl : (!true) = false) <| .nil
theorem bk_d (call : CallT → List AV → AHeap → FRes) (z v : AV) (h : AHeap) :
    RunF Tryd.prog Tryd.f5 none call [1, 1, 1, 0] (SSt.mk [(1, z), (5, v)] [] .none h) (.nrm)
      (SSt.mk [(1, z), (5, v), (7, .slice (AHeap.n h) 0 5 (.exact 5))] [] .none (AHeap.push h (.cells [.str [32], .str [10], .str [9, 32, 13, 10], .str [32, 35, 32, 97, 32, 114, 101, 109, 97, 114, 107, 44, 32, 34, 115, 111, 10], .str [35, 10]] 9 .own 0 0))) :=
  sxF_run [1, 5, 7] (hs := []) (by kernel_rfl) <| .nil
theorem bk_e (call : CallT → List AV → AHeap → FRes) (z v w : AV) (h : AHeap) :
    RunF Tryd.prog Tryd.f5 none call [1, 1, 1, 1, 0] (SSt.mk [(1, z), (5, v), (7, w)] [] .none h) (.nrm)
      (SSt.mk [(1, z), (5, v), (7, w), (8, .str [])] [] .none h) :=
  sxF_run [1, 5, 7, 8] (hs := []) (by kernel_rfl) <| .nil
theorem bk_f (call : CallT → List AV → AHeap → FRes) (z v w o : AV) (h : AHeap) :
    RunF Tryd.prog Tryd.f5 none call [1, 1, 1, 1, 1, 0] (SSt.mk [(1, z), (5, v), (7, w), (8, o)] [] .none h) (.nrm)
      (SSt.mk [(1, z), (5, v), (7, w), (8, o), (9, .nilS)] [] .none h) :=
  sxF_run [1, 5, 7, 8, 9] (hs := []) (by kernel_rfl) <| .nil
theorem bk_g (call : CallT → List AV → AHeap → FRes) (z v w o u : AV) (h : AHeap) :
    RunF Tryd.prog Tryd.f5 none call [1, 1, 1, 1, 1, 1, 0, 0] (SSt.mk [(1, z), (5, v), (7, w), (8, o), (9, u)] [] .none h) (.nrm)
      (SSt.mk [(1, z), (5, v), (7, w), (8, o), (9, u), (10, .int .i64 (.ofNat 0))] [] .none h) :=
  sxF_run [1, 5, 7, 8, 9, 10] (hs := []) (by kernel_rfl) <| .nil
theorem bk_x_1 (call : CallT → List AV → AHeap → FRes) (c n g i : Nat) (z o u : AV) (h : AHeap)
    (H1 : ltI (.ofNat i) (.ofNat n) = true) :
    RunF Tryd.prog Tryd.f5 none call [1, 1, 1, 1, 1, 1, 0, 1, 0, 0, 0] (SSt.mk [(1, z), (5, .slice c 0 n (.opn 4)), (7, .slice g 0 5 (.exact 5)), (8, o), (9, u), (10, .int .i64 (.ofNat i))] [] .none h) (.nrm)
      (SSt.mk [(1, z), (5, .slice c 0 n (.opn 4)), (7, .slice g 0 5 (.exact 5)), (8, o), (9, u), (10, .int .i64 (.ofNat i))] [] .none h) :=
  sxF_run [1, 5, 7, 8, 9, 10] (hs := [.b true]) (by kernel_rfl) <| .cons H1 <| .nil
theorem bk_x_2 (call : CallT → List AV → AHeap → FRes) (c n g i : Nat) (z o u : AV) (h : AHeap)
    (H1 : ltI (.ofNat i) (.ofNat n) = false) :
    RunF Tryd.prog Tryd.f5 none call [1, 1, 1, 1, 1, 1, 0, 1, 0, 0, 0] (SSt.mk [(1, z), (5, .slice c 0 n (.opn 4)), (7, .slice g 0 5 (.exact 5)), (8, o), (9, u), (10, .int .i64 (.ofNat i))] [] .none h) (.exit 0)
      (SSt.mk [(1, z), (5, .slice c 0 n (.opn 4)), (7, .slice g 0 5 (.exact 5)), (8, o), (9, u), (10, .int .i64 (.ofNat i))] [] .none h) :=
  sxF_run [1, 5, 7, 8, 9, 10] (hs := [.b false]) (by kernel_rfl) <| .cons H1 <| .nil
theorem bk_y0 (call : CallT → List AV → AHeap → FRes) (c n g i : Nat) (z u : AV) (o : List UInt8) (h : AHeap) :
    RunF Tryd.prog Tryd.f5 none call [1, 1, 1, 1, 1, 1, 0, 1, 0, 0, 1, 0, 0, 0] (SSt.mk [(1, z), (5, .slice c 0 n (.opn 4)), (7, .slice g 0 5 (.exact 5)), (8, .str o), (9, u), (10, .int .i64 (.ofNat i))] [] .none h) (.nrm)
      (SSt.mk [(1, z), (5, .slice c 0 n (.opn 4)), (7, .slice g 0 5 (.exact 5)), (8, .str o), (9, u), (10, .int .i64 (.ofNat i)), (11, .str [32])] [] .none h) :=
  sxF_run [1, 5, 7, 8, 9, 10, 11] (hs := []) (by kernel_rfl) <| .nil
theorem bk_yn (call : CallT → List AV → AHeap → FRes) (c n g i : Nat) (u : AV) (o : List UInt8) (h : AHeap) :
    RunF Tryd.prog Tryd.f5 none call [1, 1, 1, 1, 1, 1, 0, 1, 0, 0, 1, 0, 0, 1, 0] (SSt.mk [(1, .nilS), (11, .str [32]), (5, .slice c 0 n (.opn 4)), (7, .slice g 0 5 (.exact 5)), (8, .str o), (9, u), (10, .int .i64 (.ofNat i))] [] .none h) (.nrm)
      (SSt.mk [(1, .nilS), (5, .slice c 0 n (.opn 4)), (7, .slice g 0 5 (.exact 5)), (8, .str o), (9, u), (10, .int .i64 (.ofNat i)), (11, .str [32])] [] .none h) :=
  sxF_run [1, 5, 7, 8, 9, 10, 11] (hs := [.b false]) (by kernel_rfl) <| .cons (by kernel_rfl : ltI (Int.ofNat 0) (Int.ofNat 0) = false) <| .nil
theorem bk_yd (call : CallT → List AV → AHeap → FRes) (c n g i b f : Nat) (cp : Cap) (u : AV) (o : List UInt8) (h : AHeap) :
    RunF Tryd.prog Tryd.f5 none call [1, 1, 1, 1, 1, 1, 0, 1, 0, 0, 1, 0, 0, 1, 0] (SSt.mk [(1, .slice b f 0 cp), (11, .str [32]), (5, .slice c 0 n (.opn 4)), (7, .slice g 0 5 (.exact 5)), (8, .str o), (9, u), (10, .int .i64 (.ofNat i))] [] .none h) (.nrm)
      (SSt.mk [(1, .slice b f 0 cp), (5, .slice c 0 n (.opn 4)), (7, .slice g 0 5 (.exact 5)), (8, .str o), (9, u), (10, .int .i64 (.ofNat i)), (11, .str [32])] [] .none h) :=
  sxF_run [1, 5, 7, 8, 9, 10, 11] (hs := [.b false]) (by kernel_rfl) <| .cons (by kernel_rfl : ltI (Int.ofNat 0) (Int.ofNat 0) = false) <| .nil
theorem bk_y (call : CallT → List AV → AHeap → FRes) (c n g i b l q y : Nat) (cp : Cap) (u : AV) (o x : List UInt8) (h : AHeap) (n_1 n_2 n_3 : Nat)
    (H1 : ltI (.ofNat 0) (.ofNat l) = true)
    (H2 : arith .rem .i64 (.ofNat i) (.ofNat l) = some (.int .i64 (.ofNat n_1)))
    (H3 : Nat.le (Nat.succ n_1) l)
    (H4 : load1 h b (0 + n_1 * 1) = some (.int .u8 (.ofNat y)))
    (H5 : evConvert Tryd.prog 5 3 (AV.int IntKind.u8 (Int.ofNat y)) h = OpRes.val (AV.int IntKind.i64 (Int.ofNat n_2)) h)
    (H6 : arith .rem .i64 (.ofNat n_2) (.ofNat 5) = some (.int .i64 (.ofNat n_3)))
    (H7 : Nat.le (Nat.succ n_3) 5)
    (H8 : load1 h g (0 + n_3 * 1) = some (.str x)) :
    RunF Tryd.prog Tryd.f5 none call [1, 1, 1, 1, 1, 1, 0, 1, 0, 0, 1, 0, 0, 1, 0] (SSt.mk [(1, .slice b 0 l cp), (11, .str [32]), (5, .slice c 0 n (.opn 4)), (7, .slice g 0 5 (.exact 5)), (8, .str o), (9, u), (10, .int .i64 (.ofNat i))] [] .none h) (.nrm)
      (SSt.mk [(1, .slice b 0 l cp), (5, .slice c 0 n (.opn 4)), (7, .slice g 0 5 (.exact 5)), (8, .str o), (9, u), (10, .int .i64 (.ofNat i)), (11, .str x)] [] .none h) :=
  sxF_run [1, 5, 7, 8, 9, 10, 11] (hs := [.b true, .v (.int .i64 (.ofNat n_1)), .v (.ptr b (0 + n_1 * 1)), .v (.int .u8 (.ofNat y)), .v (.int .i64 (.ofNat n_2)), .v (.int .i64 (.ofNat n_3)), .v (.ptr g (0 + n_3 * 1)), .v (.str x)]) (by kernel_rfl) <| .cons H1 <| .cons H2 <| .cons (⟨H3, rfl⟩ : Nat.le (Nat.succ n_1) l ∧ AV.ptr b (0 + n_1 * 1) = AV.ptr b (0 + n_1 * 1)) <| .cons H4 <| .cons H5 <| .cons H6 <| .cons (⟨H7, rfl⟩ : Nat.le (Nat.succ n_3) 5 ∧ AV.ptr g (0 + n_3 * 1) = AV.ptr g (0 + n_3 * 1)) <| .cons H8 <| .nil
theorem bk_z (call : CallT → List AV → AHeap → FRes) (c n g i k v a : Nat) (z u w : AV) (o x q t y : List UInt8) (h g1 g2 : AHeap) (t_1 : List UInt8)
    (H1 : strOp .add o x = some (.str q))
    (H2 : appendA Tryd.prog (AHeap.push h (AObj.cells [AV.int IntKind.i64 (Int.ofNat (List.length q))] 3 BK.own 0 0)) 33 (some 33) u (AV.slice (AHeap.n h) 0 1 (Cap.exact 1)) = some (w, g1))
    (H3 : Nat.le (Nat.succ i) n)
    (H4 : AEv.loadCells g1 c (0 + i * 4) 4 = some [.int .i64 (.ofNat k), .str y, .int .i64 (.ofNat v), .int .i64 (.ofNat a)])
    (H5 : call (.fn 13) [.agg [.int .i64 (.ofNat k), .str y, .int .i64 (.ofNat v), .int .i64 (.ofNat a)]] g1 = FRes.ret (.str t) g2)
    (H6 : strOp .add q t = some (.str t_1)) :
    RunF Tryd.prog Tryd.f5 none call [1, 1, 1, 1, 1, 1, 0, 1, 0, 0, 1, 0, 0, 1, 1] (SSt.mk [(1, z), (11, .str x), (5, .slice c 0 n (.opn 4)), (7, .slice g 0 5 (.exact 5)), (8, .str o), (9, u), (10, .int .i64 (.ofNat i))] [] .none h) (.nrm)
      (SSt.mk [(1, z), (5, .slice c 0 n (.opn 4)), (7, .slice g 0 5 (.exact 5)), (8, .str t_1), (9, w), (10, .int .i64 (.ofNat i))] [] .none g2) :=
  sxF_run [1, 5, 7, 8, 9, 10] (hs := [.v (.str q), .vh w g1, .v (.ptr c (0 + i * 4)), .v (.agg [.int .i64 (.ofNat k), .str y, .int .i64 (.ofNat v), .int .i64 (.ofNat a)]), .c (.str t) g2, .v (.str t_1)]) (by kernel_rfl) <| .cons H1 <| .cons H2 <| .cons (⟨H3, rfl⟩ : Nat.le (Nat.succ i) n ∧ AV.ptr c (0 + i * 4) = AV.ptr c (0 + i * 4)) <| .cons H4 <| .cons H5 <| .cons H6 <| .nil
theorem bk_n (call : CallT → List AV → AHeap → FRes) (i : Nat) (z v w o u : AV) (h : AHeap) (n_1 : Nat)
    (H1 : arith .add .i64 (.ofNat i) (.ofNat 1) = some (.int .i64 (.ofNat n_1))) :
    RunF Tryd.prog Tryd.f5 none call [1, 1, 1, 1, 1, 1, 0, 1, 0, 0, 1, 1] (SSt.mk [(1, z), (5, v), (7, w), (8, o), (9, u), (10, .int .i64 (.ofNat i))] [] .none h) (.nrm)
      (SSt.mk [(1, z), (5, v), (7, w), (8, o), (9, u), (10, .int .i64 (.ofNat n_1))] [] .none h) :=
  sxF_run [1, 5, 7, 8, 9, 10] (hs := [.v (.int .i64 (.ofNat n_1))]) (by kernel_rfl) <| .cons H1 <| .nil
theorem bk_h (call : CallT → List AV → AHeap → FRes) (o : List UInt8) (l u v e : AV) (h g : AHeap)
    (H1 : call (.fn 12) [.str o] h = FRes.ret (.tup [v, e]) g) :
    RunF Tryd.prog Tryd.f5 none call [1, 1, 1, 1, 1, 1, 1, 0] (SSt.mk [(5, l), (8, .str o), (9, u)] [] .none h) (.nrm)
      (SSt.mk [(5, l), (6, e), (9, u), (12, v)] [] .none g) :=
  sxF_run [5, 6, 9, 12] (hs := [.c (.tup [v, e]) g]) (by kernel_rfl) <| .cons H1 <| .nil
theorem bk_i_1 (call : CallT → List AV → AHeap → FRes) (c n d m : Nat) (u : AV) (h : AHeap)
    (H1 : (!eqI (.ofNat m) (.ofNat n)) = true) :
    RunF Tryd.prog Tryd.f5 none call [1, 1, 1, 1, 1, 1, 1, 1, 0] (SSt.mk [(5, .slice c 0 n (.opn 4)), (6, .nilI), (9, u), (12, .slice d 0 m (.opn 4))] [] .none h) (.ret)
      (SSt.mk [(5, .slice c 0 n (.opn 4)), (9, u), (12, .slice d 0 m (.opn 4))] [] .none h) :=
  sxF_run [5, 9, 12] (hs := [.v (.bool !true), .b false, .b false, .b false, .b false, .b false, .b false, .b true]) (by kernel_rfl) <| .cons (by kernel_rfl : binA Tryd.prog h BinOp.neq 26 (Operand.tmp 71) (Operand.const Value.nilIface) AV.nilI AV.nilI = some (AV.bool !true)) <| .cons (by kernel_rfl : (!true) = false) <| .cons (by kernel_rfl : (!true) = false) <| .cons (by kernel_rfl : (!true) = false) <| .cons (by kernel_rfl : (!true) = false) <| .cons (by kernel_rfl : (!true) = false) <| .cons (by kernel_rfl : (!true) = false) <| .cons H1 <| .nil
theorem bk_i_2 (call : CallT → List AV → AHeap → FRes) (c n d m : Nat) (u : AV) (h : AHeap)
    (H1 : (!eqI (.ofNat m) (.ofNat n)) = false) :
    RunF Tryd.prog Tryd.f5 none call [1, 1, 1, 1, 1, 1, 1, 1, 0] (SSt.mk [(5, .slice c 0 n (.opn 4)), (6, .nilI), (9, u), (12, .slice d 0 m (.opn 4))] [] .none h) (.nrm)
      (SSt.mk [(5, .slice c 0 n (.opn 4)), (9, u), (12, .slice d 0 m (.opn 4))] [] .none h) :=
  sxF_run [5, 9, 12] (hs := [.v (.bool !true), .b false, .b false, .b false, .b false, .b false, .b false, .b false]) (by kernel_rfl) <| .cons (by kernel_rfl : binA Tryd.prog h BinOp.neq 26 (Operand.tmp 71) (Operand.const Value.nilIface) AV.nilI AV.nilI = some (AV.bool !true)) <| .cons (by kernel_rfl : (!true) = false) <| .cons (by kernel_rfl : (!true) = false) <| .cons (by kernel_rfl : (!true) = false) <| .cons (by kernel_rfl : (!true) = false) <| .cons (by kernel_rfl : (!true) = false) <| .cons (by kernel_rfl : (!true) = false) <| .cons H1 <| .nil
theorem bk_j (call : CallT → List AV → AHeap → FRes) (l u v : AV) (h : AHeap) :
    RunF Tryd.prog Tryd.f5 none call [1, 1, 1, 1, 1, 1, 1, 1, 1, 0, 0] (SSt.mk [(5, l), (9, u), (12, v)] [] .none h) (.nrm)
      (SSt.mk [(5, l), (9, u), (12, v), (13, .int .i64 (.ofNat 0))] [] .none h) :=
  sxF_run [5, 9, 12, 13] (hs := []) (by kernel_rfl) <| .nil
theorem bk_l (call : CallT → List AV → AHeap → FRes) (c d e n m i k v a q : Nat) (cp : Cap) (x : List UInt8) (h g_1 g_2 : AHeap) (n_1 : Nat)
    (H1 : ltI (.ofNat i) (.ofNat n) = true)
    (H2 : Nat.le (Nat.succ i) n)
    (H3 : AEv.loadCells h c (0 + i * 4) 4 = some [.int .i64 (.ofNat k), .str x, .int .i64 (.ofNat v), .int .i64 (.ofNat a)])
    (H4 : AEv.storeCells (AHeap.push h (.cells [.int .i64 (.ofNat 0), .str [], .int .i64 (.ofNat 0), .int .i64 (.ofNat 0)] 30 .own 0 0)) (AHeap.n h) 0 [.int .i64 (.ofNat k), .str x, .int .i64 (.ofNat v), .int .i64 (.ofNat a)] = some g_1)
    (H5 : Nat.le (Nat.succ i) m)
    (H6 : load1 g_1 e (0 + i * 1) = some (.int .i64 (.ofNat q)))
    (H7 : AEv.storeCells g_1 (AHeap.n h) (0 + 3) [.int .i64 (.ofNat q)] = some g_2)
    (H8 : Nat.le (Nat.succ i) n)
    (H9 : AEv.loadCells (AHeap.room g_2 6) d (0 + i * 4) 4 = some [.int .i64 (.ofNat k), .str x, .int .i64 (.ofNat v), .int .i64 (.ofNat q)])
    (H10 : AEv.loadCells (AHeap.room g_2 6) (AHeap.n h) 0 4 = some [.int .i64 (.ofNat k), .str x, .int .i64 (.ofNat v), .int .i64 (.ofNat q)])
    (H11 : binA Tryd.prog (AHeap.room g_2 6) BinOp.neq 30 (Operand.tmp 98) (Operand.tmp 99) (AV.agg [AV.int IntKind.i64 (Int.ofNat k), AV.str x, AV.int IntKind.i64 (Int.ofNat v), AV.int IntKind.i64 (Int.ofNat q)]) (AV.agg [AV.int IntKind.i64 (Int.ofNat k), AV.str x, AV.int IntKind.i64 (Int.ofNat v), AV.int IntKind.i64 (Int.ofNat q)]) = some (AV.bool false))
    (H12 : arith .add .i64 (.ofNat i) (.ofNat 1) = some (.int .i64 (.ofNat n_1))) :
    RunF Tryd.prog Tryd.f5 none call [1, 1, 1, 1, 1, 1, 1, 1, 1, 0, 1, 0, 0] (SSt.mk [(5, .slice c 0 n (.opn 4)), (9, .slice e 0 m cp), (12, .slice d 0 n (.opn 4)), (13, .int .i64 (.ofNat i))] [] .none h) (.nrm)
      (SSt.mk [(5, .slice c 0 n (.opn 4)), (9, .slice e 0 m cp), (12, .slice d 0 n (.opn 4)), (13, .int .i64 (.ofNat n_1))] [] .none (AHeap.room g_2 6)) :=
  sxF_run [5, 9, 12, 13] (hs := [.b true, .v (.ptr c (0 + i * 4)), .v (.agg [.int .i64 (.ofNat k), .str x, .int .i64 (.ofNat v), .int .i64 (.ofNat a)]), .vh (.tup []) g_1, .v (.ptr e (0 + i * 1)), .v (.int .i64 (.ofNat q)), .vh (.tup []) g_2, .v (.ptr d (0 + i * 4)), .v (.agg [.int .i64 (.ofNat k), .str x, .int .i64 (.ofNat v), .int .i64 (.ofNat q)]), .v (.agg [.int .i64 (.ofNat k), .str x, .int .i64 (.ofNat v), .int .i64 (.ofNat q)]), .v (.bool false), .b false, .v (.int .i64 (.ofNat n_1))]) (by kernel_rfl) <| .cons H1 <| .cons (⟨H2, rfl⟩ : Nat.le (Nat.succ i) n ∧ AV.ptr c (0 + i * 4) = AV.ptr c (0 + i * 4)) <| .cons H3 <| .cons (⟨by kernel_rfl, H4, rfl⟩ : some 4 = some 4 ∧ AEv.storeCells (AHeap.push h (AObj.cells [AV.int IntKind.i64 (Int.ofNat 0), AV.str [], AV.int IntKind.i64 (Int.ofNat 0), AV.int IntKind.i64 (Int.ofNat 0)] 30 BK.own 0 0)) (AHeap.n h) 0 [AV.int IntKind.i64 (Int.ofNat k), AV.str x, AV.int IntKind.i64 (Int.ofNat v), AV.int IntKind.i64 (Int.ofNat a)] = some g_1 ∧ AV.tup [] = AV.tup []) <| .cons (⟨H5, rfl⟩ : Nat.le (Nat.succ i) m ∧ AV.ptr e (0 + i * 1) = AV.ptr e (0 + i * 1)) <| .cons H6 <| .cons (⟨by kernel_rfl, H7, rfl⟩ : some 1 = some 1 ∧ AEv.storeCells g_1 (AHeap.n h) (0 + 3) [AV.int IntKind.i64 (Int.ofNat q)] = some g_2 ∧ AV.tup [] = AV.tup []) <| .cons (⟨H8, rfl⟩ : Nat.le (Nat.succ i) n ∧ AV.ptr d (0 + i * 4) = AV.ptr d (0 + i * 4)) <| .cons H9 <| .cons H10 <| .cons H11 <| .cons (by kernel_rfl : AV.sound (AV.slice d 0 n (Cap.opn 4)) = true) <| .cons (by kernel_rfl : AV.slice d 0 n (Cap.opn 4) = AV.slice d 0 n (Cap.opn 4)) <| .cons (by kernel_rfl : AV.sound (AV.int IntKind.i64 (Int.ofNat i)) = true) <| .cons (by kernel_rfl : AV.int IntKind.i64 (Int.ofNat i) = AV.int IntKind.i64 (Int.ofNat i)) <| .cons (by kernel_rfl : AV.sound (AV.ptr d (0 + i * 4)) = true) <| .cons (⟨H8, rfl⟩ : Nat.le (Nat.succ i) n ∧ AV.ptr d (0 + i * 4) = AV.ptr d (0 + i * 4)) <| .cons (by kernel_rfl : AV.sound (AV.agg [AV.int IntKind.i64 (Int.ofNat k), AV.str x, AV.int IntKind.i64 (Int.ofNat v), AV.int IntKind.i64 (Int.ofNat q)]) = true) <| .cons H9 <| .cons (by kernel_rfl : AV.sound (AV.agg [AV.int IntKind.i64 (Int.ofNat k), AV.str x, AV.int IntKind.i64 (Int.ofNat v), AV.int IntKind.i64 (Int.ofNat q)]) = true) <| .cons H10 <| .cons (by kernel_rfl : AV.sound (AV.bool false) = true) <| .cons H11 <| .cons (by kernel_rfl : false = false) <| .cons H12 <| .nil
theorem bk_lx (call : CallT → List AV → AHeap → FRes) (c n i : Nat) (u v : AV) (h : AHeap)
    (H1 : ltI (.ofNat i) (.ofNat n) = false) :
    RunF Tryd.prog Tryd.f5 none call [1, 1, 1, 1, 1, 1, 1, 1, 1, 0, 1, 0, 0] (SSt.mk [(5, .slice c 0 n (.opn 4)), (9, u), (12, v), (13, .int .i64 (.ofNat i))] [] .none h) (.exit 2)
      (SSt.mk [(5, .slice c 0 n (.opn 4))] [] .none h) :=
  sxF_run [5] (hs := [.b false]) (by kernel_rfl) <| .cons H1 <| .nil
theorem bk_k (call : CallT → List AV → AHeap → FRes) (h g : AHeap)
    (H1 : call (.fn 11) [] h = FRes.ret (.bool true) g) :
    RunF Tryd.prog Tryd.f5 none call [1, 1, 1, 1, 1, 1, 1, 1, 1, 1] (SSt.mk [] [] .none h) (.ret)
      (SSt.mk [(4, .bool true)] [] .none g) :=
  sxF_run [4] (hs := [.c (.bool true) g]) (by kernel_rfl) <| .cons H1 <| .nil


/-! ### digits, written -/
theorem digits_c : ∀ (k m v : Nat) (h : AHeap), v < 10 ^ (k + 1) → v < 9223372036854775808 → ∃ h', C (m + k + 1) (.fn 23) [.int .i64 (Int.ofNat v)] h = .ret (.str (dig v)) h' ∧ Ext h.n h h' := by
  have one : ∀ (n v : Nat) (h : AHeap), v < 10 → ∃ h', C (n + 1) (.fn 23) [.int .i64 (Int.ofNat v)] h = .ret (.str (dig v)) h' ∧ Ext h.n h h' := by
    intro n v h hv
    have hd : dig v = [UInt8.ofNat (48 + v)] := by unfold dig; rw [if_pos hv]
    have e : (UInt8.ofNat (48 + v)).toNat = 48 + v := by rw [UInt8.toNat_ofNat']; omega
    have cv : evConvert Tryd.prog 2 5 (.int .i64 (Int.ofNat v)) h = .val (.int .u8 (Int.ofNat v)) h := conv_int (ka := .i64) (by kernel_rfl) (by kernel_rfl) ((wrap_u8 v).trans (by rw [Nat.mod_eq_of_lt (by omega)]; rfl))
    have ad : arith BinOp.add IntKind.u8 (Int.ofNat 48) (Int.ofNat v) = some (AV.int IntKind.u8 (Int.ofNat (48 + v))) := by rw [add_u8, Nat.mod_eq_of_lt (by omega)]
    have hg : (h.push (.cells [.int .u8 (Int.ofNat (48 + v))] 5 .own 0 0)).get h.n = some (.cells (byteCells (dig v) ++ []) 5 .own 0 0) := by
      rw [hd]
      have : byteCells [UInt8.ofNat (48 + v)] = [.int .u8 (Int.ofNat (48 + v))] := by show [AV.int .u8 (Int.ofNat (UInt8.ofNat (48 + v)).toNat)] = _; rw [e]
      rw [this]; exact gtop rfl
    have cb := conv_bts (P := Tryd.prog) (a := 31) (b := 9) (cp := .exact 1) bytest (by kernel_rfl) strt hg (n := 1) (by rw [hd]; rfl) (by simp)
    exact ⟨_, fn_runF (intr := Il) (n := n) (args := [.int .i64 (Int.ofNat v)]) Tryd.func23 (by kernel_rfl) rfl (by kernel_rfl) (dg1 (C n) v h v (48 + v) (dig v) (lt_t hv) cv ad cb) (.inl rfl) (by kernel_rfl), Ext.push (Nat.le_refl _) _⟩
  intro k
  induction k with
  | zero => intro m v h hv _; exact one m v h (by simpa using hv)
  | succ k ih =>
    intro m v h hv hm
    by_cases h10 : v < 10
    · exact one (m + (k + 1)) v h h10
    · have hd : dig v = dig (v / 10) ++ [UInt8.ofNat (48 + v % 10)] := by conv => lhs; unfold dig; rw [if_neg h10]
      have hd1 : dig (v % 10) = [UInt8.ofNat (48 + v % 10)] := by unfold dig; rw [if_pos (by omega)]
      obtain ⟨g, c1, x1⟩ := ih m (v / 10) h (by rw [Nat.pow_succ] at hv; omega) (by omega)
      obtain ⟨g1, c2, x2⟩ := one (m + k) (v % 10) g (by omega)
      have hl := dig_len (k + 1) v hv
      have hl2 : (dig (v / 10)).length + (dig (v % 10)).length ≤ 1000000000000 := by
        have h3 := dig_len 18 (v / 10) (by omega)
        rw [hd1]; simp; omega
      have sa := str_add (x := dig (v / 10)) (y := dig (v % 10)) hl2
      rw [hd]
      rw [hd1] at sa
      rw [hd1] at c2
      exact ⟨g1, fn_runF (intr := Il) (n := m + (k + 1)) (args := [.int .i64 (Int.ofNat v)]) Tryd.func23 (by kernel_rfl) rfl (by kernel_rfl) (dg2 (C (m + (k + 1))) v (v / 10) (v % 10) _ _ h g g1 _ (lt_f h10) (quo_n (by omega) hm) c1 (rem_k .i64 (by omega)) c2 sa) (.inl rfl) (by kernel_rfl), x1.trans x1.n x2⟩
abbrev TokS (t : Tk) : AObj := .cells (encT t) 30 .own 0 0
theorem app_lit {B : Nat} {h : AHeap} {v : AV} {w : List UInt8} (s : List UInt8) (hB : B ≤ h.n) (hb : BufX B 5 h v w) (hs : s ≠ []) (hl : w.length + s.length ≤ 1000000000) :
    ∃ c h', appendA Tryd.prog (h.push (.cells (byteCells s) 5 .own 0 0)) 31 (some 31) v (.slice h.n 0 s.length (.exact s.length)) = some (.slice c 0 (w.length + s.length) (.opn 1), h') ∧ Buf B 5 h' (.slice c 0 (w.length + s.length) (.opn 1)) (w ++ s) ∧ Ext B h h' := by
  obtain ⟨i, hii, hi1, hi2⟩ := u8info
  have hsc : srcCells (h.push (.cells (byteCells s) 5 .own 0 0)) 1 (.slice h.n 0 s.length (.exact s.length)) = some (s.length, byteCells s) := by
    have : AEv.loadCells (h.push (.cells (byteCells s) 5 .own 0 0)) h.n 0 (s.length * 1) = some (byteCells s) := by
      have := load_row (h := h.push (.cells (byteCells s) 5 .own 0 0)) (b := h.n) (xs := byteCells s) (rest := []) (by rw [List.append_nil]; exact gtop rfl)
      rw [byteCells_len] at this
      rw [Nat.mul_one]; exact this
    simp only [srcCells, this]
  obtain ⟨v', h2, a1, a2, a3⟩ := appendX (P := Tryd.prog) (B := B) (h := h.push (.cells (byteCells s) 5 .own 0 0)) (sT := 31) (xT := some 31) (e := 5) (z := .int .u8 (Int.ofNat 0)) (by simp; omega) (by kernel_rfl) (by kernel_rfl) hii hi1 (by kernel_rfl) rfl (room_u8 hi2 hl) hsc hs (hb.ext (by simp) fun c _ hc => gold hc rfl)
  have hx : Ext B h h2 := (Ext.push hB _).trans (Nat.le_refl _) a3
  rcases a2 with ⟨_, he⟩ | ⟨c, r, rfl, q1, q2, q3⟩
  · simp [hs] at he
  · rw [List.length_append] at a1
    exact ⟨c, h2, a1, .inr ⟨c, r, by rw [List.length_append], q1, q2, q3⟩, hx⟩
theorem esc_snoc (x : List UInt8) {i : Nat} (hi : i < x.length) : esc (x.take (i + 1)) = esc (x.take i) ++ escB x[i] := by
  rw [List.take_add_one, List.getElem?_eq_getElem hi, Option.toList_some, esc_app]
  congr 1
  show [x[i]].flatMap escB = _
  simp
abbrev wtS (p i : Nat) (v : AV) (h : AHeap) : SSt := ⟨[(1, .ptr p 0), (3, v), (4, .int .i64 (Int.ofNat i))], [], .none, h⟩
theorem wt_lp (n p B : Nat) (t : Tk) (hx : t.t.length ≤ 90000) (hp : p < B) : ∀ (k i : Nat) (v : AV) (h : AHeap), t.t.length - i = k → i ≤ t.t.length → h.get p = some (TokS t) → B ≤ h.n → BufX B 5 h v (34 :: esc (t.t.take i)) →
    ∃ v' h', LoopF Tryd.prog Tryd.f13 none (C n) [1, 0, 1, 0, 1, 1, 1, 0, 1, 0, 1, 0] (k + 1) (wtS p i v h) (.exit 1) (wtS p t.t.length v' h') ∧ BufX B 5 h' v' (34 :: esc t.t) ∧ Ext B h h'
  | 0, i, v, h, hk, hi, hg, hB, hb => by
    obtain rfl : i = t.t.length := by omega
    rw [List.take_length] at hb
    exact ⟨v, h, .exit (wtl_5 (C n) p t.t.length 0 t.t v h h (ld1 hg rfl) (lt_f (by omega))) (by simp), hb, Ext.refl _ _⟩
  | k + 1, i, v, h, hk, hi, hg, hB, hb => by
    have hi' : i < t.t.length := by omega
    have ad : arith BinOp.add IntKind.i64 (Int.ofNat i) (Int.ofNat 1) = some (.int .i64 (Int.ofNat (i + 1))) := add_n (by omega)
    have l1 : load1 h p (0 + 1) = some (.str t.t) := ld1 hg rfl
    have hel := esc_len (t.t.take i)
    have htl : (t.t.take i).length ≤ 90000 := by rw [List.length_take]; omega
    have go : ∀ (c : Nat) (h1 : AHeap) (N : Nat), RunF Tryd.prog Tryd.f13 none (C n) [1, 0, 1, 0, 1, 1, 1, 0, 1, 0, 1, 0, 0] (wtS p i v h) .nrm (wtS p (i + 1) (.slice c 0 N (.opn 1)) h1) → Buf B 5 h1 (.slice c 0 N (.opn 1)) ((34 :: esc (t.t.take i)) ++ escB t.t[i]) → Ext B h h1 →
        ∃ v' h', LoopF Tryd.prog Tryd.f13 none (C n) [1, 0, 1, 0, 1, 1, 1, 0, 1, 0, 1, 0] (k + 1 + 1) (wtS p i v h) (.exit 1) (wtS p t.t.length v' h') ∧ BufX B 5 h' v' (34 :: esc t.t) ∧ Ext B h h' := by
      intro c h1 N hr hb1 x1
      have e : (34 :: esc (t.t.take i)) ++ escB t.t[i] = 34 :: esc (t.t.take (i + 1)) := by rw [esc_snoc t.t hi']; rfl
      rw [e] at hb1
      obtain ⟨v', h', r1, r2, r3⟩ := wt_lp n p B t hx hp k (i + 1) _ h1 (by omega) (by omega) ((x1.get p hp).trans hg) (by have := x1.n; omega) (.inl hb1)
      exact ⟨v', h', .step hr r1, r2, x1.trans (Nat.le_refl _) r3⟩
    have i1 := lt_t hi'
    have i2 : idxS i t.t = some (.int .u8 (Int.ofNat t.t[i].toNat)) := idx_t hi'
    have bc2 : ∀ b : UInt8, byteCells [92, b] = [.int .u8 (Int.ofNat 92), .int .u8 (Int.ofNat b.toNat)] := fun b => rfl
    have bc1 : ∀ b : UInt8, byteCells [b] = [.int .u8 (Int.ofNat b.toNat)] := fun b => rfl
    by_cases h1 : t.t[i].toNat = 34
    · obtain ⟨c, h', a1, a2, a3⟩ := app_lit [92, t.t[i]] hB hb (by simp) (by simp; omega)
      rw [bc2] at a1
      exact go c h' _ (wtl_1 (C n) p i c t.t v h h _ _ _ _ _ _ _ l1 i1 i2 (eqI_t h1) a1 ad) (by unfold escB; rw [if_pos (.inl h1)]; exact a2) a3
    by_cases h2 : t.t[i].toNat = 92
    · obtain ⟨c, h', a1, a2, a3⟩ := app_lit [92, t.t[i]] hB hb (by simp) (by simp; omega)
      rw [bc2] at a1
      exact go c h' _ (wtl_2 (C n) p i c t.t v h h _ _ _ _ _ _ _ l1 i1 i2 (eqI_f h1) (eqI_t h2) a1 ad) (by unfold escB; rw [if_pos (.inr h2)]; exact a2) a3
    by_cases h3 : t.t[i].toNat = 10
    · obtain ⟨c, h', a1, a2, a3⟩ := app_lit [92, 110] hB hb (by simp) (by simp; omega)
      rw [bc2] at a1
      exact go c h' _ (wtl_3 (C n) p i c t.t v h h _ _ _ _ _ _ _ l1 i1 i2 (eqI_f h1) (eqI_f h2) (eqI_t h3) a1 ad) (by unfold escB; rw [if_neg (by omega), if_pos h3]; exact a2) a3
    · obtain ⟨c, h', a1, a2, a3⟩ := app_lit [t.t[i]] hB hb (by simp) (by simp; omega)
      rw [bc1] at a1
      exact go c h' _ (wtl_4 (C n) p i c t.t v h h _ _ _ _ _ _ _ l1 i1 i2 (eqI_f h1) (eqI_f h2) (eqI_f h3) a1 ad) (by unfold escB; rw [if_neg (by omega), if_neg h3]; exact a2) a3
theorem written_c (m : Nat) (t : Tk) (h : AHeap) (hv : t.v < 9223372036854775808) (hx : t.t.length ≤ 90000) : ∃ h', C (m + 20) (.fn 13) [.agg (encT t)] h = .ret (.str (wr t)) h' ∧ Ext h.n h h' := by
  obtain ⟨k, x, v, a⟩ := t
  simp only at hv hx
  have g0 : (h.push (TokS ⟨k, x, v, a⟩)).get h.n = some (TokS ⟨k, x, v, a⟩) := gtop rfl
  by_cases h3 : k = 3
  · subst h3
    obtain ⟨g, c1, x1⟩ := digits_c 18 m v (h.push (TokS ⟨3, x, v, a⟩)) (by omega) hv
    exact ⟨g, fn_runF (intr := Il) (n := m + 19) (args := [.agg (encT ⟨3, x, v, a⟩)]) Tryd.func13 (by kernel_rfl) rfl (by kernel_rfl) (wt3 (C (m + 19)) v a x _ h g (ld1 g0 rfl) (ld1 g0 rfl) c1) (.inl rfl) (by kernel_rfl), (Ext.push (Nat.le_refl _) _).trans (by simp) x1⟩
  by_cases h4 : k = 4
  · subst h4
    obtain ⟨h1, hh1⟩ : ∃ h1, h1 = (h.push (TokS ⟨4, x, v, a⟩)).push (.cells [.int .u8 (Int.ofNat 34)] 5 .own 0 0) := ⟨_, rfl⟩
    have n1 : h1.n = h.n + 2 := by rw [hh1]; rfl
    have g1 : h1.get h.n = some (TokS ⟨4, x, v, a⟩) := by rw [hh1]; exact gold (by simp) g0
    have b1 : BufX (h.n + 1) 5 h1 (.slice (h.n + 1) 0 1 (.exact 1)) (34 :: esc (x.take 0)) := .inr ⟨h.n + 1, rfl, by rw [hh1]; exact gtop rfl, Nat.le_refl _, by omega⟩
    obtain ⟨v', h2, r1, r2, r3⟩ := wt_lp (m + 19) h.n (h.n + 1) ⟨4, x, v, a⟩ hx (Nat.lt_succ_self _) x.length 0 _ h1 rfl (Nat.zero_le _) g1 (by omega) b1
    have rn := r3.n
    have l1 := LoopF.run (p := [1, 0, 1, 0, 1, 1, 1, 0, 1, 0, 1, 0]) (by kernel_rfl) r1 (by omega)
    have l2 := RunP.post l1 (Γ2 := [(1, .ptr h.n 0), (3, v')]) ⟨rfl, rfl, trivial⟩
    have el := esc_len x
    obtain ⟨c, h3, a1, a2, a3⟩ := app_lit (B := h.n + 1) [34] (by omega) r2 (by simp) (by simp; omega)
    have bc : byteCells [34] = [.int .u8 (Int.ofNat 34)] := rfl
    rw [bc] at a1
    obtain ⟨c', rest, q1, q2, q3, q4⟩ := Buf.shape a2 (by simp)
    have qc : c = c' := by injection q1
    subst qc
    have cb := conv_bts (P := Tryd.prog) (a := 31) (b := 9) (cp := .opn 1) bytest (by kernel_rfl) strt q2 (n := (34 :: esc x).length + [(34 : UInt8)].length) (by rw [List.length_append]) (by simp)
    rw [hh1] at l2
    exact ⟨h3, fn_runF (intr := Il) (n := m + 19) (args := [.agg (encT ⟨4, x, v, a⟩)]) Tryd.func13 (by kernel_rfl) rfl (by kernel_rfl) (wt4 (C (m + 19)) v a c _ h.n v' x _ h h2 h3 (ld1 g0 rfl) (RunP.pre l2 ⟨rfl, rfl, rfl, trivial⟩ rfl rfl rfl) a1 cb) (.inl rfl) (by kernel_rfl), ⟨by have := a3.n; omega, fun b hb => (a3.get b (by omega)).trans ((r3.get b (by omega)).trans (by rw [hh1]; exact gold (by simp; omega) (gold hb rfl)))⟩⟩
  · rw [wr_other h3 h4]
    exact ⟨_, fn_runF (intr := Il) (n := m + 19) (args := [.agg (encT ⟨k, x, v, a⟩)]) Tryd.func13 (by kernel_rfl) rfl (by kernel_rfl) (wt0 (C (m + 19)) k v a x x h h (ld1 g0 rfl) (eqI_f h3) (eqI_f h4) (ld1 g0 rfl)) (.inl rfl) (by kernel_rfl), Ext.push (Nat.le_refl _) _⟩
end Go.Proofs.Lx

namespace Go.Proofs.Lx
open Go AEv Go.Proofs Lexp Go.ChangeShapes Go.WideShapes Go.ChangeAt Go.RowKit Go.ChangeMaps
set_option maxRecDepth 100000
set_option maxHeartbeats 1000000

/-! ### LexBack -/
def eq4 (p q r s : Bool) : Option Bool := match some p with
  | some true => (match some q with
    | some true => (match some r with
      | some true => (match some s with
        | some true => some true
        | x => x)
      | x => x)
    | x => x)
  | x => x
theorem eqA_tk (h : AHeap) (d : Tk) : eqA Tryd.prog h 100 30 (.agg (encT d)) (.agg (encT d)) = some true := by
  have : eqA Tryd.prog h 100 30 (.agg (encT d)) (.agg (encT d)) = eq4 (eqI (Int.ofNat d.k) (Int.ofNat d.k)) (beqBytes d.t d.t) (eqI (Int.ofNat d.v) (Int.ofNat d.v)) (eqI (Int.ofNat d.at') (Int.ofNat d.at')) := by kernel_rfl
  rw [this, eqI_t rfl, eqI_t rfl, eqI_t rfl, bbr]; rfl
theorem bin_tk (h : AHeap) (x y : Operand) (d : Tk) : binA Tryd.prog h BinOp.neq 30 x y (.agg (encT d)) (.agg (encT d)) = some (.bool false) := by
  have hk : eqOK Tryd.prog 30 x y (.agg (encT d)) (.agg (encT d)) = true := by
    show (!Tryd.prog.eqGuardType Tryd.prog.depth 30) = true
    kernel_rfl
  simp only [binA, hk, if_true, eqA_tk]
  rfl
def encI (n : Nat) : List AV := [.int .i64 (Int.ofNat n)]
theorem intRow : RowTy Tryd.prog encI 1 3 33 where
  hu := by kernel_rfl
  hsrc := by kernel_rfl
  info := by
    have hi : (Tryd.prog.info? 3).map (fun i => (i.size, Nat.ble i.bytes 1000)) = some (1, true) := by kernel_rfl
    cases hii : Tryd.prog.info? 3 with
    | none => rw [hii] at hi; cases hi
    | some i =>
      rw [hii] at hi
      simp only [Option.map_some, Option.some.injEq, Prod.mk.injEq] at hi
      exact ⟨i, rfl, hi.1, Nat.le_of_ble_eq_true hi.2⟩
  zero := ⟨.int .i64 (Int.ofNat 0), by kernel_rfl, rfl⟩
  size := by kernel_rfl
  len := fun _ => rfl
  cell := fun _ => rfl
  pos := by decide
/-- What is handed in as bytes. -/
def BtV (B : Nat) (h : AHeap) (z : AV) (bt : List UInt8) : Prop :=
  (z = .nilS ∧ bt = []) ∨ (∃ b f cp, z = .slice b f 0 cp ∧ bt = []) ∨ ∃ b cp el lo up k, z = .slice b 0 bt.length cp ∧ 0 < bt.length ∧ h.get b = some (.cells (byteCells bt) el k lo up) ∧ b < B
theorem BtV.ext {B B' : Nat} {h h' : AHeap} {z : AV} {bt : List UInt8} (hb : BtV B h z bt) (e : Ext B h h') (hB : B ≤ B') : BtV B' h' z bt := by
  rcases hb with h1 | h1 | ⟨b, cp, el, lo, up, k, h1, h2, h3, h4⟩
  · exact .inl h1
  · exact .inr (.inl h1)
  · exact .inr (.inr ⟨b, cp, el, lo, up, k, h1, h2, (e.get b h4).trans h3, by omega⟩)
theorem byteCells_nth : ∀ (l : List UInt8) (j : Nat) (hj : j < l.length), nth j (byteCells l) = some (.int .u8 (Int.ofNat l[j].toNat))
  | b :: l, 0, _ => rfl
  | b :: l, j + 1, hj => byteCells_nth l j (by simpa using hj)
theorem gap_nth : ∀ k, k < 5 → nth (0 + k * 1) (gaps.map AV.str) = some (.str (gaps.getD k []))
  | 0, _ => rfl
  | 1, _ => rfl
  | 2, _ => rfl
  | 3, _ => rfl
  | 4, _ => rfl
  | n + 5, h => by omega
theorem cat_snoc (bt : List UInt8) (l : List Tk) (t : Tk) : cat (prs bt 0 (l ++ [t])) = cat (prs bt 0 l) ++ gp bt l.length ++ wr t := by
  rw [prs_app, Nat.zero_add, cat_app]
  show _ ++ (gp bt l.length ++ (wr t ++ [])) = _
  simp
theorem redo_snoc (bt : List UInt8) (l : List Tk) (t : Tk) : (redo 0 (prs bt 0 (l ++ [t]))).map (·.at') = (redo 0 (prs bt 0 l)).map (·.at') ++ [(cat (prs bt 0 l) ++ gp bt l.length).length] := by
  rw [prs_app, Nat.zero_add, redo_app, List.map_append]
  show _ ++ [0 + (cat (prs bt 0 l)).length + (gp bt l.length).length] = _
  simp
theorem redo_len (bt : List UInt8) : ∀ (l : List Tk) (a i : Nat), (redo a (prs bt i l)).length = l.length
  | [], a, i => rfl
  | t :: l, a, i => by show (_ :: redo _ (prs bt (i + 1) l)).length = _; rw [List.length_cons, redo_len bt l]; rfl
theorem redo_get (bt : List UInt8) : ∀ (l : List Tk) (a i j : Nat) (h1 : j < l.length) (h2 : j < (redo a (prs bt i l)).length), (redo a (prs bt i l))[j] = { l[j] with at' := (redo a (prs bt i l))[j].at' }
  | t :: l, a, i, 0, h1, h2 => rfl
  | t :: l, a, i, j + 1, h1, h2 => redo_get bt l _ (i + 1) j (by simpa using h1) (by simpa [redo, prs] using h2)
theorem take_snoc {all : List Tk} {i : Nat} (hi : i < all.length) : all.take (i + 1) = all.take i ++ [all[i]] := by
  rw [List.take_add_one, List.getElem?_eq_getElem hi]; rfl
theorem cat_take (bt : List UInt8) (all : List Tk) (i : Nat) : (cat (prs bt 0 (all.take i))).length ≤ (cat (prs bt 0 all)).length := by
  have : cat (prs bt 0 all) = cat (prs bt 0 (all.take i)) ++ cat (prs bt (0 + (all.take i).length) (all.drop i)) := by
    rw [← cat_app, ← prs_app, List.take_append_drop]
  rw [this, List.length_append]; omega
abbrev bkS (z : AV) (c N g i : Nat) (o : List UInt8) (u : AV) (x : AHeap) : SSt := ⟨[(1, z), (5, .slice c 0 N (.opn 4)), (7, .slice g 0 5 (.exact 5)), (8, .str o), (9, u), (10, .int .i64 (Int.ofNat i))], [], .none, x⟩
abbrev bkG (z : AV) (c N g i : Nat) (o p : List UInt8) (u : AV) (x : AHeap) : SSt := ⟨[(1, z), (5, .slice c 0 N (.opn 4)), (7, .slice g 0 5 (.exact 5)), (8, .str o), (9, u), (10, .int .i64 (Int.ofNat i)), (11, .str p)], [], .none, x⟩
theorem bk_gap (n c N g i B : Nat) (z u : AV) (bt o : List UInt8) (x : AHeap) (hb : BtV B x z bt) (hg : x.get g = some (.cells (gaps.map .str) 9 .own 0 0)) :
    RunF Tryd.prog Tryd.f5 none (C n) [1, 1, 1, 1, 1, 1, 0, 1, 0, 0, 1, 0, 0, 1, 0] (bkG z c N g i o [32] u x) .nrm (bkG z c N g i o (gp bt i) u x) := by
  rcases hb with ⟨rfl, rfl⟩ | ⟨b, f, cp, rfl, rfl⟩ | ⟨b, cp, el, lo, up, k, rfl, h2, h3, h4⟩
  · exact RunP.pre (bk_yn (C n) c N g i u o x) ⟨rfl, rfl, rfl, rfl, rfl, rfl, rfl, trivial⟩ rfl rfl rfl
  · exact RunP.pre (bk_yd (C n) c N g i b f cp u o x) ⟨rfl, rfl, rfl, rfl, rfl, rfl, rfl, trivial⟩ rfl rfl rfl
  · have hj : i % bt.length < bt.length := Nat.mod_lt _ h2
    have hgp : gp bt i = gaps.getD (bt[i % bt.length].toNat % 5) [] := by unfold gp; rw [dif_pos h2]
    have hub := u8lt bt[i % bt.length]
    have hk5 : bt[i % bt.length].toNat % 5 < 5 := Nat.mod_lt _ (by omega)
    rw [hgp]
    exact RunP.pre (bk_y (C n) c N g i b bt.length i bt[i % bt.length].toNat cp u o _ x (i % bt.length) bt[i % bt.length].toNat (bt[i % bt.length].toNat % 5) (lt_t h2) (rem_k .i64 h2) hj (ld1 h3 (by rw [Nat.mul_one, Nat.zero_add]; exact byteCells_nth _ _ hj)) (cv_u8_i64 (by kernel_rfl) (by kernel_rfl) hub) (rem_k .i64 (by omega)) hk5 (ld1 hg (gap_nth _ hk5))) ⟨rfl, rfl, rfl, rfl, rfl, rfl, rfl, trivial⟩ rfl rfl rfl
theorem bk_lp (m c N g B : Nat) (z : AV) (bt : List UInt8) (all : List Tk) (h0 : AHeap) (hN : all.length = N) (hall : ∀ t ∈ all, t.v < 9223372036854775808 ∧ t.t.length ≤ 90000) (hcl : (cat (prs bt 0 all)).length ≤ 80000) (hl : N ≤ 90000)
    (hc : h0.get c = some (.cells (rowL encT all) 30 .opn 0 0)) (hcB : c < B) (hg : h0.get g = some (.cells (gaps.map .str) 9 .own 0 0)) (hgB : g < B) (hb : BtV B h0 z bt) (hB : B ≤ h0.n) :
    ∀ (k i : Nat) (u : AV) (x : AHeap), N - i = k → i ≤ N → Ext B h0 x → OutG encI 1 3 B x u ((redo 0 (prs bt 0 (all.take i))).map (·.at')) →
    ∃ u' x', LoopF Tryd.prog Tryd.f5 none (C (m + 20)) [1, 1, 1, 1, 1, 1, 0, 1, 0] (k + 1) (bkS z c N g i (cat (prs bt 0 (all.take i))) u x) (.exit 0) (bkS z c N g N (cat (prs bt 0 all)) u' x') ∧ OutG encI 1 3 B x' u' ((redo 0 (prs bt 0 all)).map (·.at')) ∧ Ext B h0 x'
  | 0, i, u, x, hk, hi, e, ho => by
    obtain rfl : i = N := by omega
    have ht : all.take i = all := List.take_of_length_le (by omega)
    rw [ht] at ho ⊢
    exact ⟨u, x, .exit (RunF.seqx (p := [1, 1, 1, 1, 1, 1, 0, 1, 0, 0]) (by kernel_rfl) (bk_x_2 (C (m + 20)) c i g i z _ u x (lt_f (by omega))) (by simp)) (by simp), ho, e⟩
  | k + 1, i, u, x, hk, hi, e, ho => by
    have hi' : i < all.length := by omega
    have en := e.n
    have hlen : (all.take i).length = i := by rw [List.length_take]; omega
    have s0 := bk_x_1 (C (m + 20)) c N g i z (.str (cat (prs bt 0 (all.take i)))) u x (lt_t (by omega))
    have s1 := bk_y0 (C (m + 20)) c N g i z u (cat (prs bt 0 (all.take i))) x
    have s2 := bk_gap (m + 20) c N g i B z u bt (cat (prs bt 0 (all.take i))) x (hb.ext e (Nat.le_refl _)) ((e.get g hgB).trans hg)
    obtain ⟨q, hq⟩ : ∃ q, q = cat (prs bt 0 (all.take i)) ++ gp bt i := ⟨_, rfl⟩
    have cs := cat_snoc bt (all.take i) all[i]
    rw [← take_snoc hi', hlen, ← hq] at cs
    have rs := redo_snoc bt (all.take i) all[i]
    rw [← take_snoc hi', hlen, ← hq] at rs
    have hct := cat_take bt all (i + 1)
    rw [cs, List.length_append] at hct
    have hql : q.length = (cat (prs bt 0 (all.take i))).length + (gp bt i).length := by rw [hq, List.length_append]
    have o' : OutG encI 1 3 B (x.push (.cells (encI q.length) 3 .own 0 0)) u ((redo 0 (prs bt 0 (all.take i))).map (·.at')) := ho.keep (by simp) fun p _ hp => gold hp rfl
    have hrl : ((redo 0 (prs bt 0 (all.take i))).map (·.at')).length = i := by rw [List.length_map, redo_len, hlen]
    obtain ⟨w, y, a1, a2, a3, a4, _⟩ := appG intRow (es := [q.length]) o' (by simp; omega) (oneG intRow x 3 q.length) (by rw [hrl]; simp; omega)
    rw [← rs] at a2
    have xy : Ext B x y := (Ext.push (by omega) _).trans (Nat.le_refl _) a3
    obtain ⟨t1, t2⟩ := hall all[i] (List.getElem_mem hi')
    obtain ⟨y', c1, e1⟩ := written_c m all[i] y t1 t2
    have yn : B ≤ y.n := by have := xy.n; omega
    have e2 : Ext B h0 y' := (e.trans (Nat.le_refl _) xy).trans yn e1
    have s3 := bk_z (C (m + 20)) c N g i all[i].k all[i].v all[i].at' z u w (cat (prs bt 0 (all.take i))) (gp bt i) q (wr all[i]) all[i].t x y y' (q ++ wr all[i]) (by rw [hq]; exact str_add (by omega)) a1 (show i + 1 ≤ N by omega) (row_ldc ((xy.get c hcB).trans ((e.get c hcB).trans hc)) hi') c1 (str_add (by omega))
    rw [← cs] at s3
    have s4 := bk_n (C (m + 20)) i z (.slice c 0 N (.opn 4)) (.slice g 0 5 (.exact 5)) (.str (cat (prs bt 0 (all.take (i + 1))))) w y' _ (add_n (i := i) (j := 1) (by omega))
    obtain ⟨u', x', r1, r2, r3⟩ := bk_lp m c N g B z bt all h0 hN hall hcl hl hc hcB hg hgB hb hB k (i + 1) w y' (by omega) (by omega) e2 (a2.mono e1 (Nat.le_refl _))
    have blk := RunF.blockx (p := [1, 1, 1, 1, 1, 1, 0, 1, 0, 0, 1, 0]) (id := 1) (by kernel_rfl) (RunF.seq (p := [1, 1, 1, 1, 1, 1, 0, 1, 0, 0, 1, 0, 0]) (by kernel_rfl) s1 (RunF.seq (p := [1, 1, 1, 1, 1, 1, 0, 1, 0, 0, 1, 0, 0, 1]) (by kernel_rfl) s2 (RunP.pre s3 ⟨rfl, rfl, rfl, rfl, rfl, rfl, rfl, trivial⟩ rfl rfl rfl))) (by simp)
    exact ⟨u', x', .step (RunF.seq (p := [1, 1, 1, 1, 1, 1, 0, 1, 0, 0]) (by kernel_rfl) s0 (RunF.seq (p := [1, 1, 1, 1, 1, 1, 0, 1, 0, 0, 1]) (by kernel_rfl) blk s4)) r1, r2, r3⟩
abbrev bkT (c N e M d i : Nat) (cp : Cap) (x : AHeap) : SSt := ⟨[(5, .slice c 0 N (.opn 4)), (9, .slice e 0 M cp), (12, .slice d 0 N (.opn 4)), (13, .int .i64 (Int.ofNat i))], [], .none, x⟩
theorem bk_l2 (n c N e d B : Nat) (cp : Cap) (all R : List Tk) (h0 : AHeap) (hN : all.length = N) (hR : R.length = N) (hRg : ∀ i (h1 : i < all.length) (h2 : i < R.length), R[i] = { all[i] with at' := R[i].at' }) (hl : N ≤ 90000)
    (hc : h0.get c = some (.cells (rowL encT all) 30 .opn 0 0)) (hcB : c < B) (he : h0.get e = some (.cells (rowL encI (R.map (·.at'))) 3 .opn 0 0)) (heB : e < B) (hd : h0.get d = some (.cells (rowL encT R) 30 .opn 0 0)) (hdB : d < B) (hB : B ≤ h0.n) :
    ∀ (k i : Nat) (x : AHeap), N - i = k → i ≤ N → Ext B h0 x →
    ∃ x', LoopF Tryd.prog Tryd.f5 none (C n) [1, 1, 1, 1, 1, 1, 1, 1, 1, 0, 1, 0] (k + 1) (bkT c N e N d i cp x) (.exit 2) ⟨[(5, .slice c 0 N (.opn 4))], [], .none, x'⟩ ∧ Ext B h0 x'
  | 0, i, x, hk, hi, ex => by
    obtain rfl : i = N := by omega
    exact ⟨x, .exit (bk_lx (C n) c i i _ _ x (lt_f (by omega))) (by simp), ex⟩
  | k + 1, i, x, hk, hi, ex => by
    have hi' : i < all.length := by omega
    have hiR : i < R.length := by omega
    have en := ex.n
    have hr := hRg i hi' hiR
    obtain ⟨y1, hy1⟩ : ∃ y1, y1 = (x.push (.cells (encT ⟨0, [], 0, 0⟩) 30 .own 0 0)).set x.n (some (TokS all[i])) := ⟨_, rfl⟩
    have g1 : y1.get x.n = some (TokS all[i]) := by rw [hy1]; exact gsame rfl
    obtain ⟨y2, hy2⟩ : ∃ y2, y2 = y1.set x.n (some (TokS R[i])) := ⟨_, rfl⟩
    have o1 : ∀ b, b < x.n → y1.get b = x.get b := fun b hb => by rw [hy1]; exact gother (by omega) (gold hb rfl)
    have o2 : ∀ b, b < x.n → y2.get b = x.get b := fun b hb => by rw [hy2]; exact gother (by omega) (o1 b hb)
    have st1 : AEv.storeCells (x.push (.cells (encT ⟨0, [], 0, 0⟩) 30 .own 0 0)) x.n 0 (encT all[i]) = some y1 := by rw [hy1]; exact stc (gtop rfl) rfl rfl
    have st2 : AEv.storeCells y1 x.n (0 + 3) [.int .i64 (Int.ofNat R[i].at')] = some y2 := by
      rw [hy2]
      have e0 : encT R[i] = [.int .i64 (Int.ofNat all[i].k), .str all[i].t, .int .i64 (Int.ofNat all[i].v), .int .i64 (Int.ofNat R[i].at')] := by rw [hr]; rfl
      unfold TokS
      rw [e0]
      exact stc g1 rfl rfl
    have e0 : encT R[i] = [.int .i64 (Int.ofNat all[i].k), .str all[i].t, .int .i64 (Int.ofNat all[i].v), .int .i64 (Int.ofNat R[i].at')] := by rw [hr]; rfl
    have ldc1 := row_ldc ((ex.get c hcB).trans hc) hi'
    have ldd : AEv.loadCells (y2.room 6) d (0 + i * 4) 4 = some (encT R[i]) := row_ldc (by show y2.get d = _; rw [o2 d (by omega)]; exact (ex.get d hdB).trans hd) hiR
    have lds : AEv.loadCells (y2.room 6) x.n 0 4 = some (encT R[i]) := ldc (show y2.get x.n = _ by rw [hy2]; exact gsame rfl) rfl
    have lde : load1 y1 e (0 + i * 1) = some (.int .i64 (Int.ofNat R[i].at')) := by
      refine ld1 (cs := rowL encI (R.map (·.at'))) (by rw [o1 e (by omega)]; exact (ex.get e heB).trans he) ?_
      have := row_nth (enc := encI) (w := 1) (j := 0) (fun _ => rfl) (by decide) (R.map (·.at')) i (by rw [List.length_map]; omega)
      rw [Nat.add_zero] at this
      rw [Nat.zero_add, this, List.getElem_map]; rfl
    have bn := bin_tk (y2.room 6) (.tmp 98) (.tmp 99) R[i]
    rw [e0] at ldd lds bn
    have s := bk_l (C n) c d e N N i all[i].k all[i].v all[i].at' R[i].at' cp all[i].t x y1 y2 (i + 1) (lt_t (by omega)) (show i + 1 ≤ N by omega) ldc1 st1 (show i + 1 ≤ N by omega) lde st2 (show i + 1 ≤ N by omega) ldd lds bn (add_n (i := i) (j := 1) (by omega))
    have y2n : y2.n = x.n + 1 := by rw [hy2, hy1]; rfl
    obtain ⟨x', r1, r2⟩ := bk_l2 n c N e d B cp all R h0 hN hR hRg hl hc hcB he heB hd hdB hB k (i + 1) (y2.room 6) (by omega) (by omega) ⟨by simp; omega, fun b hb => (o2 b (by omega)).trans (ex.get b hb)⟩
    exact ⟨x', .step s r1, r2⟩
theorem wr_ge {t : Tk} (h : Canon t) : t.t.length ≤ (wr t).length := by
  have esc_ge : ∀ l : List UInt8, l.length ≤ (esc l).length := by
    intro l
    induction l with
    | nil => exact Nat.le_refl _
    | cons b l ih =>
      show l.length + 1 ≤ (escB b ++ esc l).length
      have : 1 ≤ (escB b).length := by unfold escB; split <;> (try split) <;> simp
      rw [List.length_append]; omega
  rcases h with ⟨b, l, h1, _, _, _, h5, _⟩ | ⟨h1, h2, _⟩ | ⟨h1, _, _⟩ | ⟨h1, _, _⟩
  · obtain ⟨k, x, v, a⟩ := t
    simp only at h5
    have : wr ⟨k, x, v, a⟩ = x := wr_other (by rw [h5]; split <;> decide) (by rw [h5]; split <;> decide)
    rw [this]; exact Nat.le_refl _
  · rw [h2]; exact Nat.zero_le _
  · have := esc_ge t.t
    unfold wr
    rw [if_neg (by omega), if_pos h1]
    simp; omega
  · unfold wr
    rw [if_neg (by omega), if_neg (by omega)]; exact Nat.le_refl _
theorem wr_cat (bt : List UInt8) : ∀ (l : List Tk) (i : Nat) (t : Tk), t ∈ l → (wr t).length ≤ (cat (prs bt i l)).length
  | x :: l, i, t, h => by
    show _ ≤ (gp bt i ++ (wr x ++ cat (prs bt (i + 1) l))).length
    rw [List.length_append, List.length_append]
    rcases List.mem_cons.1 h with rfl | h1
    · omega
    · have := wr_cat bt l (i + 1) t h1; omega
theorem gaps_str : [AV.str [32], AV.str [10], AV.str [9, 32, 13, 10], AV.str [32, 35, 32, 97, 32, 114, 101, 109, 97, 114, 107, 44, 32, 34, 115, 111, 10], AV.str [35, 10]] = gaps.map AV.str := rfl
theorem back_c (m : Nat) (s bt : List UInt8) (z : AV) (h : AHeap) (ht : tabsIn h tabs = true) (hn : 5 ≤ h.n) (hb : BtV h.n h z bt) : ∃ h', C (m + 21) (.fn 5) [.str s, z] h = .ret (.bool true) h' := by
  have s0 := bk_a (C (m + 20)) s z h
  obtain ⟨u, hu⟩ : ∃ u, u = s.take (min s.length 3000) := ⟨_, rfl⟩
  have hul : u.length ≤ 3000 := by rw [hu, List.length_take]; omega
  have sl : sliceA Tryd.prog h 9 (.str s) none (some (.int .i64 (Int.ofNat (min s.length 3000)))) none = some (.str u) := by rw [hu]; exact sl_to (by omega)
  obtain ⟨L1, L2⟩ := Lex_c (m + 11) u h ht hn (by omega)
  cases hL : lexS u with
  | error a =>
    obtain ⟨e, g, c1, _, _, _, x⟩ := L2 a hL
    have s1 := bk_b (C (m + 20)) s u z _ _ h g _ (min_n _ _) sl c1
    have s2 := bk_c1 (C (m + 20)) z .nilS e g g (works_c (m + 19) g (tabs_ext ht hn x))
    exact ⟨g, fn_runF (intr := Il) (n := m + 20) (args := [.str s, z]) Tryd.func5 (by kernel_rfl) rfl (by kernel_rfl) (RunF.seq (p := []) (by kernel_rfl) s0 (RunF.seq (p := [1]) (by kernel_rfl) s1 (RunF.seqx (p := [1, 1]) (by kernel_rfl) s2 (by simp)))) (.inl rfl) (by kernel_rfl)⟩
  | ok all =>
    obtain ⟨v, g, c1, o1, x⟩ := L1 all hL
    obtain ⟨out', hall, tk⟩ := lexS_toks hL
    have s1 := bk_b (C (m + 20)) s u z _ _ h g _ (min_n _ _) sl c1
    have s2 := bk_c2 (C (m + 20)) z v g g
    rcases o1 with ⟨_, he⟩ | ⟨c, rfl, h0l, hc, hcn, hcl⟩
    · rw [hall] at he; simp at he
    have xn := x.n
    obtain ⟨b1, b2⟩ := lex_back bt hL
    have hlen : all.length ≤ 3001 := by
      have := tk.len
      rw [hall]; simp; omega
    have hok : ∀ t ∈ all, t.v < 9223372036854775808 ∧ t.t.length ≤ 90000 := by
      intro t htm
      have hw := wr_cat bt all 0 t htm
      rw [hall] at htm
      rcases List.mem_append.1 htm with h1 | h1
      · obtain ⟨n, hn'⟩ := (tk.each t h1).2
        have hcan := tok_canon (a := t.at') hn'
        have := wr_ge hcan
        have hf := tok_fact hn'
        refine ⟨?_, by have : t.t.length ≤ (wr t).length := this; omega⟩
        rcases hf.2 with ⟨_, _, _, _, _, hv⟩ | ⟨_, _, hv, _⟩ | ⟨_, hv, _⟩ <;> omega
      · rw [List.mem_singleton.1 h1]; exact ⟨by show 0 < 9223372036854775808; decide, Nat.zero_le _⟩
    obtain ⟨g1, hg1⟩ : ∃ g1, g1 = g.push (.cells (gaps.map .str) 9 .own 0 0) := ⟨_, rfl⟩
    have n1 : g1.n = g.n + 1 := by rw [hg1]; rfl
    have s3 := bk_d (C (m + 20)) z (.slice c 0 all.length (.opn 4)) g
    rw [gaps_str, ← hg1] at s3
    have s4 := bk_e (C (m + 20)) z (.slice c 0 all.length (.opn 4)) (.slice g.n 0 5 (.exact 5)) g1
    have s5 := bk_f (C (m + 20)) z (.slice c 0 all.length (.opn 4)) (.slice g.n 0 5 (.exact 5)) (.str []) g1
    have s6 := bk_g (C (m + 20)) z (.slice c 0 all.length (.opn 4)) (.slice g.n 0 5 (.exact 5)) (.str []) .nilS g1
    have o1 : ∀ b, b < g.n → g1.get b = g.get b := fun b hb => by rw [hg1]; exact gold hb rfl
    have eg1 : Ext h.n h g1 := ⟨by omega, fun b hb => (o1 b (by omega)).trans (x.get b hb)⟩
    have hb1 : BtV (g.n + 1) g1 z bt := hb.ext eg1 (by omega)
    obtain ⟨pl, x1, l1, op, e1⟩ := bk_lp m c all.length g.n (g.n + 1) z bt all g1 rfl hok (by omega) (by omega) ((o1 c hcl).trans hc) (by omega) (by rw [hg1]; exact gtop rfl) (by omega) hb1 (by omega) all.length 0 .nilS g1 rfl (Nat.zero_le _) (Ext.refl _ _) (.inl ⟨rfl, rfl⟩)
    have en1 := e1.n
    have l2 := RunF.block (p := [1, 1, 1, 1, 1, 1, 0, 1]) (id := 0) (by kernel_rfl) (LoopF.run (p := [1, 1, 1, 1, 1, 1, 0, 1, 0]) (by kernel_rfl) l1 (by omega))
    have l3 := RunP.post l2 (Γ2 := [(5, .slice c 0 all.length (.opn 4)), (8, .str (cat (prs bt 0 all))), (9, pl)]) ⟨rfl, rfl, rfl, trivial⟩
    have t1 : tabsIn x1 tabs = true := tabs_keep ht fun b hb => (e1.get b (by omega)).trans (eg1.get b (by omega))
    obtain ⟨M1, _⟩ := Lex_c (m + 11) (cat (prs bt 0 all)) x1 t1 (by omega) (by omega)
    obtain ⟨w, x2, c2, o2, e2⟩ := M1 _ b1
    have en2 := e2.n
    have s7 := bk_h (C (m + 20)) (cat (prs bt 0 all)) (.slice c 0 all.length (.opn 4)) pl w .nilI x1 x2 c2
    obtain ⟨R, hR⟩ : ∃ R, R = redo 0 (prs bt 0 all) := ⟨_, rfl⟩
    have hRl : R.length = all.length := by rw [hR]; exact redo_len bt all 0 0
    rw [← hR] at o2 op
    rcases o2 with ⟨_, he⟩ | ⟨d, rfl, _, hd, hdn, hdl⟩
    · rw [he] at hRl; simp at hRl; omega
    rcases op with ⟨_, he⟩ | ⟨e, rfl, _, hpe, hen, hel⟩
    · have : (R.map (·.at')).length = 0 := by rw [he]; rfl
      rw [List.length_map] at this; omega
    rw [List.length_map] at l3 s7
    rw [hRl] at l3 s7
    have s8 := bk_i_2 (C (m + 20)) c all.length d all.length (.slice e 0 all.length (.opn 1)) x2 (by rw [eqI_t rfl]; rfl)
    have s9 := bk_j (C (m + 20)) (.slice c 0 all.length (.opn 4)) (.slice e 0 all.length (.opn 1)) (.slice d 0 all.length (.opn 4)) x2
    have hc2 : x2.get c = some (.cells (rowL encT all) 30 .opn 0 0) := (e2.get c (by omega)).trans ((e1.get c (by omega)).trans ((o1 c hcl).trans hc))
    obtain ⟨x3, l4, e3⟩ := bk_l2 (m + 20) c all.length e d x2.n (.opn 1) all R x2 rfl hRl (fun i h1 h2 => by subst hR; exact redo_get bt all 0 0 i h1 h2) (by omega) hc2 (by omega) ((e2.get e hel).trans hpe) (by omega) hd hdl (Nat.le_refl _) all.length 0 x2 rfl (Nat.zero_le _) (Ext.refl _ _)
    have en3 := e3.n
    have l5 := RunF.block (p := [1, 1, 1, 1, 1, 1, 1, 1, 1, 0, 1]) (id := 2) (by kernel_rfl) (LoopF.run (p := [1, 1, 1, 1, 1, 1, 1, 1, 1, 0, 1, 0]) (by kernel_rfl) l4 (by omega))
    have l6 := RunP.post l5 (Γ2 := []) trivial
    have t3 : tabsIn x3 tabs = true := tabs_keep t1 fun b hb => (e3.get b (by omega)).trans (e2.get b (by omega))
    have s10 := bk_k (C (m + 20)) x3 x3 (works_c (m + 19) x3 t3)
    exact ⟨x3, fn_runF (intr := Il) (n := m + 20) (args := [.str s, z]) Tryd.func5 (by kernel_rfl) rfl (by kernel_rfl)
      (RunF.seq (p := []) (by kernel_rfl) s0 (RunF.seq (p := [1]) (by kernel_rfl) s1 (RunF.seq (p := [1, 1]) (by kernel_rfl) s2 (RunF.seq (p := [1, 1, 1]) (by kernel_rfl) s3 (RunF.seq (p := [1, 1, 1, 1]) (by kernel_rfl) s4 (RunF.seq (p := [1, 1, 1, 1, 1]) (by kernel_rfl) s5
        (RunF.seq (p := [1, 1, 1, 1, 1, 1]) (by kernel_rfl) (RunF.seq (p := [1, 1, 1, 1, 1, 1, 0]) (by kernel_rfl) s6 l3) (RunF.seq (p := [1, 1, 1, 1, 1, 1, 1]) (by kernel_rfl) s7
          (RunF.seq (p := [1, 1, 1, 1, 1, 1, 1, 1]) (by kernel_rfl) (RunP.pre s8 ⟨rfl, rfl, rfl, rfl, trivial⟩ rfl rfl rfl) (RunF.seq (p := [1, 1, 1, 1, 1, 1, 1, 1, 1]) (by kernel_rfl) (RunF.seq (p := [1, 1, 1, 1, 1, 1, 1, 1, 1, 0]) (by kernel_rfl) s9 l6) s10)))))))))) (.inl rfl) (by kernel_rfl)⟩
end Go.Proofs.Lx

namespace Go.Proofs.Lx
open Go AEv Go.Proofs Lexp Go.ChangeShapes Go.WideShapes Go.ChangeAt Go.RowKit Go.ChangeMaps
set_option maxRecDepth 100000
set_option maxHeartbeats 1000000

/-! ### Bytes that are handed in -/
theorem cell_add {W : World} {a : Addr} {m j : Nat} {v : Value} (h : W.cell? ((a.add m).add j) = some v) : ∃ c el fz, W.heap[a.block]? = some (.cells c el fz) ∧ c[a.off + m + j]? = some v ∧ (m = 0 → j = 0 → a.spot = none) := by
  have hb : ((a.add m).add j).block = a.block := by
    unfold Addr.add
    split <;> split <;> rfl
  have ho : ((a.add m).add j).off = a.off + m + j := by
    unfold Addr.add
    split <;> split <;> simp_all
  unfold World.cell? at h
  rw [hb, ho] at h
  split at h
  · rename_i c el fz hx
    split at h
    · cases h
    · rename_i hs
      refine ⟨c, el, fz, hx, h, fun h1 h2 => ?_⟩
      subst h1; subst h2
      simpa [Addr.add] using hs
  · cases h
theorem cell_at {W : World} {a : Addr} {j : Nat} {v : Value} (h : W.cell? (a.add j) = some v) : ∃ c el fz, W.heap[a.block]? = some (.cells c el fz) ∧ c[a.off + j]? = some v ∧ (j = 0 → a.spot = none) := by
  have e0 : (a.add 0).add j = a.add j := by simp [Addr.add]
  obtain ⟨c, el, fz, q1, q2, q3⟩ := cell_add (W := W) (a := a) (m := 0) (j := j) (by rw [e0]; exact h)
  exact ⟨c, el, fz, q1, by simpa using q2, q3 rfl⟩
theorem slice_cells {P : Program} {W : World} {base : Nat} {t e : TypeId} (ht : P.underlying t = some (.slice e)) {a : Addr} {len cap : Nat} (h : Cell.okWide P W .any base t (.slice (some a) len cap)) : ∃ c el fz, W.heap[a.block]? = some (.cells c el fz) := by
  simp only [Cell.okWide, ht, Cell.ok] at h
  obtain ⟨_, _, _, _, row, cells, hs, _⟩ := h
  unfold World.shape? at hs
  cases hb : W.heap[a.block]? with
  | none => simp [hb] at hs
  | some o =>
    rw [hb] at hs
    cases o with
    | cells c el fz => exact ⟨c, el, fz, rfl⟩
    | _ => cases hs
def RowsT (rows : List (Img × List AV × Nat)) (μ : Mu) (h : AHeap) (B : Nat) : Prop := ∀ (k : Nat) (x : Img × List AV × Nat), rows[k]? = some x → μ (B + k) = some x.1 ∧ h.get (B + k) = some (.cells x.2.1 x.2.2 .ro 0 0) ∧ B + k < h.n
theorem rowsT_start {G : Nat} {els sz : Nat → Nat} {ts : List Tab} (hts : ∀ t ∈ ts, t.g < G) (rows : List (Img × List AV × Nat)) : RowsT rows (muT G sz (rows.map (·.1))) (heapT G els ts (rows.map (·.2))) G := by
  intro k x hk
  obtain ⟨h1, h2⟩ := heapT_n G els ts (rows.map (·.2)) hts
  have hkl := (List.getElem?_eq_some_iff.1 hk).1
  refine ⟨?_, ?_, by rw [h1, List.length_map]; omega⟩
  · unfold muT
    rw [if_neg (by omega), show G + k - G = k by omega, List.getElem?_map, hk]; rfl
  · rw [h2, if_neg (by omega), show G + k - G = k by omega, List.getElem?_map, hk]; rfl
theorem row_bt {H : Type} {enc : TypeId × Value → H} {W : World} {sp : Nat → Bool} {held : Bool} {fuel base : Nat} {a0 : Option Addr} {len cap : Nat} {x : DataW H × List MemPlace} (h : DataW.trod enc Tryd.prog W 0 sp held fuel 31 [.slice a0 len cap] = some x)
    (hok : Cell.okWide Tryd.prog W .any base 31 (.slice a0 len cap)) :
    ∃ bt rows, (∀ x ∈ rows, RowW W x.1 x.2.1 x.2.2) ∧ ∀ (μ : Mu) (h : AHeap) (B : Nat), RowsT rows μ h B → ∃ z, BtV h.n h z bt ∧ VRel μ z (.slice a0 len cap) := by
  have hu : Tryd.prog.underlying 5 = some (.int .u8) := by kernel_rfl
  rcases open_ints bytest hu (by kernel_rfl) h with ⟨e, _⟩ | ⟨a, len', cap', zs, e, _, hle, _, hzl, _, hc, hwf⟩
  · cases e
    exact ⟨[], [], by simp, fun μ h B _ => ⟨.nilS, .inl ⟨rfl, rfl⟩, rfl⟩⟩
  · cases e
    obtain ⟨c, el, fz, hb⟩ := slice_cells bytest hok
    by_cases h0 : len = 0
    · subst h0
      refine ⟨[], [(⟨a.block, 0, c.size⟩, [], el)], fun x hx => ?_, fun μ h B hr => ?_⟩
      · have : x = (⟨a.block, 0, c.size⟩, [], el) := by simpa using hx
        subst this
        exact ⟨c, fz, hb, fun μ j v hj => by simp at hj, Nat.zero_add _⟩
      · obtain ⟨h1, h2, h3⟩ := hr 0 _ rfl
        exact ⟨.slice B 0 0 .dead, .inr (.inl ⟨B, 0, .dead, rfl, rfl⟩), ⟨_, h1, rfl, a, cap, rfl⟩⟩
    · have hl : len ≤ zs.length := by rw [hzl]; split <;> omega
      have hcell : ∀ i, i < zs.length → c[a.off + i]? = some (.int .u8 (zs.getD i 0)) ∧ (i = 0 → a.spot = none) := by
        intro i hi
        obtain ⟨c', el', fz', q1, q2, q3⟩ := cell_at (hc i hi)
        rw [hb] at q1
        cases q1
        exact ⟨q2, q3⟩
      obtain ⟨hx0, hs⟩ := hcell 0 (by omega)
      have hspot := hs rfl
      have hle' : a.off ≤ c.size := by have := (Array.getElem?_eq_some_iff.1 hx0).1; omega
      obtain ⟨bt, hbt⟩ : ∃ bt, bt = (zs.take len).map fun z => UInt8.ofNat z.toNat := ⟨_, rfl⟩
      have hbl : bt.length = len := by rw [hbt]; simp; omega
      refine ⟨bt, [(⟨a.block, a.off, c.size - a.off⟩, byteCells bt, el)], fun x hx => ?_, fun μ h B hr => ?_⟩
      · obtain rfl : x = _ := by simpa using hx
        refine ⟨c, fz, hb, fun μ j v hj => ?_, by simp; omega⟩
        have hjl : j < len := by
          have := (List.getElem?_eq_some_iff.1 hj).1
          simp only [byteCells_len, hbl] at this; exact this
        have hjz : j < zs.length := by omega
        refine ⟨_, (hcell j hjz).1, ?_⟩
        have hn := byteCells_nth bt j (by rw [hbl]; exact hjl)
        rw [nth_eq] at hn
        simp only at hj
        rw [hn] at hj
        cases hj
        have hw := hwf zs[j] (List.getElem_mem hjz)
        have hz : 0 ≤ zs[j] ∧ zs[j] < 256 := by
          have hw2 : IntKind.u8.min ≤ zs[j] ∧ zs[j] ≤ IntKind.u8.max := by simpa [Lit.wf] using hw
          have m1 : IntKind.u8.min = 0 := by decide
          have m2 : IntKind.u8.max = 255 := by decide
          rw [m1, m2] at hw2
          omega
        have e1 : zs.getD j 0 = zs[j] := by simp [List.getD, List.getElem?_eq_getElem hjz]
        rw [e1]
        have e2 : (bt[j]'(by rw [hbl]; exact hjl)).toNat = zs[j].toNat := by
          subst hbt
          rw [List.getElem_map, List.getElem_take, UInt8.toNat_ofNat']; omega
        rw [e2]
        have e3 : Int.ofNat zs[j].toNat = zs[j] := by
          have := Int.toNat_of_nonneg hz.1; simpa using this
        rw [e3]; rfl
      · obtain ⟨h1, h2, h3⟩ := hr 0 _ rfl
        refine ⟨.slice B 0 len (.exact cap), .inr (.inr ⟨B, .exact cap, el, 0, 0, .ro, by rw [hbl], by rw [hbl]; omega, h2, h3⟩), ⟨_, h1, ?_⟩⟩
        obtain ⟨blk, off, spot⟩ := a
        simp only at hspot
        subst hspot
        rfl
end Go.Proofs.Lx
