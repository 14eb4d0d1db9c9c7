/-
  PROVED HERE: contracts of functions (Dp). No condition beside each statement's own.
-/
import Derived.Test.YtbndinilpflomaaDb
import Derived.Test.YtbndinilpflomaaSxa
set_option linter.unusedVariables false
set_option linter.unusedSimpArgs false
namespace Go.Proofs.Wire
open Go AEv Go.Proofs Go.Proofs.Enc
set_option maxRecDepth 100000

theorem rl (call : CallT → List AV → AHeap → FRes) (n m m1 n2 p b : Nat) (w w2 : Int) (cap : Cap) (cs : List AV) (s t : List UInt8) (h : AHeap) (t_1 t_2 : List UInt8)
    (H1 : foldA minA (AV.int IntKind.i64 (Int.ofNat (List.length s))) [AV.int IntKind.i64 (Int.ofNat m)] = some (AV.int IntKind.i64 (Int.ofNat m1)))
    (H2 : sliceA Try.prog (AHeap.room h 18) 9 (AV.str s) none (some (AV.int IntKind.i64 (Int.ofNat m1))) none = some (AV.str t))
    (H3 : evConvert Try.prog 43 3 (AV.int IntKind.u16 (Int.ofNat n)) (AHeap.room h 18) = OpRes.val (AV.int IntKind.i64 (Int.ofNat n2)) (AHeap.room h 18))
    (H4 : arith .sub .i64 (.ofNat m) (.ofNat (List.length s)) = some (.int .i64 w))
    (H5 : foldA minA (AV.int IntKind.i64 (Int.ofNat n2)) [AV.int IntKind.i64 w] = some (AV.int IntKind.i64 w2))
    (H6 : foldA maxA (AV.int IntKind.i64 (Int.ofNat 0)) [AV.int IntKind.i64 w2] = some (AV.int IntKind.i64 (Int.ofNat p)))
    (H7 : msO Try.prog 39 (AV.int IntKind.i64 (Int.ofNat p)) (AV.int IntKind.i64 (Int.ofNat p)) (AHeap.n h + 14) = some (AV.slice b 0 p cap, AObj.cells cs 5 BK.own 0 0))
    (H8 : evConvert Try.prog 39 9 (AV.slice b 0 p cap) (AHeap.mk (HT.setN (AHeap.n h + 14 + 1) h.1 (AHeap.n h + 14) (some (AObj.cells cs 5 BK.own 0 0))) (AHeap.n (AHeap.room h 18))) = OpRes.val (AV.str t_1) (AHeap.mk (HT.setN (AHeap.n h + 14 + 1) h.1 (AHeap.n h + 14) (some (AObj.cells cs 5 BK.own 0 0))) (AHeap.n (AHeap.room h 18))))
    (H9 : strOp .add t t_1 = some (.str t_2))
    (H10 : sliceA Try.prog (AHeap.mk (HT.setN (AHeap.n h + 14 + 1) h.1 (AHeap.n h + 14) (some (AObj.cells cs 5 BK.own 0 0))) (AHeap.n (AHeap.room h 18))) 9 (AV.str s) none (some (AV.int IntKind.i64 (Int.ofNat m1))) none = some (AV.str t))
    (H11 : evConvert Try.prog 43 3 (AV.int IntKind.u16 (Int.ofNat n)) (AHeap.mk (HT.setN (AHeap.n h + 14 + 1) h.1 (AHeap.n h + 14) (some (AObj.cells cs 5 BK.own 0 0))) (AHeap.n (AHeap.room h 18))) = OpRes.val (AV.int IntKind.i64 (Int.ofNat n2)) (AHeap.mk (HT.setN (AHeap.n h + 14 + 1) h.1 (AHeap.n h + 14) (some (AObj.cells cs 5 BK.own 0 0))) (AHeap.n (AHeap.room h 18)))) :
    RunF Try.prog Try.f64 none call [] (SSt.mk [(0, .str s), (1, .int .u16 (.ofNat n)), (2, .int .i64 (.ofNat m))] [] .none h) (.ret)
      (SSt.mk [(6, .str t_2)] [] .none (AHeap.mk (HT.setN (AHeap.n h + 14 + 1) h.1 (AHeap.n h + 14) (some (.cells cs 5 .own 0 0))) (AHeap.n (AHeap.room h 18)))) :=
  sxF_run [6] (hs := [.v (.int .i64 (.ofNat m1)), .v (.str t), .v (.int .i64 (.ofNat n2)), .v (.int .i64 w), .v (.int .i64 w2), .v (.int .i64 (.ofNat p)), .vo (.slice b 0 p cap) (AObj.cells cs 5 BK.own 0 0), .v (.str t_1), .v (.str t_2)]) (by kernel_rfl) <| .cons H1 <| .cons H2 <| .cons H3 <| .cons H4 <| .cons H5 <| .cons H6 <| .cons H7 <| .cons H8 <| .cons H9 <| .cons (by kernel_rfl : AV.sound (AV.str s) = true) <| .cons (by kernel_rfl : AV.str s = AV.str s) <| .cons (by kernel_rfl : AV.sound (AV.str s) = true) <| .cons (by kernel_rfl : AV.str s = AV.str s) <| .cons (by kernel_rfl : AV.sound (AV.int IntKind.i64 (Int.ofNat (List.length s))) = true) <| .cons (by kernel_rfl : AV.int IntKind.i64 (Int.ofNat (List.length s)) = AV.int IntKind.i64 (Int.ofNat (List.length s))) <| .cons (by kernel_rfl : AV.sound (AV.int IntKind.i64 (Int.ofNat m)) = true) <| .cons (by kernel_rfl : AV.int IntKind.i64 (Int.ofNat m) = AV.int IntKind.i64 (Int.ofNat m)) <| .cons (by kernel_rfl : AV.sound (AV.int IntKind.i64 (Int.ofNat m1)) = true) <| .cons H1 <| .cons (by kernel_rfl : AV.sound (AV.str t) = true) <| .cons H10 <| .cons (by kernel_rfl : AV.sound (AV.int IntKind.u16 (Int.ofNat n)) = true) <| .cons (by kernel_rfl : AV.int IntKind.u16 (Int.ofNat n) = AV.int IntKind.u16 (Int.ofNat n)) <| .cons (by kernel_rfl : AV.sound (AV.int IntKind.i64 (Int.ofNat n2)) = true) <| .cons H11 <| .cons (by kernel_rfl : AV.sound (AV.int IntKind.i64 (Int.ofNat m)) = true) <| .cons (by kernel_rfl : AV.int IntKind.i64 (Int.ofNat m) = AV.int IntKind.i64 (Int.ofNat m)) <| .cons (by kernel_rfl : AV.sound (AV.str s) = true) <| .cons (by kernel_rfl : AV.str s = AV.str s) <| .cons (by kernel_rfl : AV.sound (AV.int IntKind.i64 (Int.ofNat (List.length s))) = true) <| .cons (by kernel_rfl : AV.int IntKind.i64 (Int.ofNat (List.length s)) = AV.int IntKind.i64 (Int.ofNat (List.length s))) <| .cons (by kernel_rfl : AV.sound (AV.int IntKind.i64 w) = true) <| .cons H4 <| .cons (by kernel_rfl : AV.sound (AV.int IntKind.i64 w2) = true) <| .cons H5 <| .cons (by kernel_rfl : AV.sound (AV.int IntKind.i64 (Int.ofNat p)) = true) <| .cons H6 <| .cons (by kernel_rfl : AV.sound (AV.str t_1) = true) <| .cons H8 <| .cons (by kernel_rfl : AV.sound (AV.str t_2) = true) <| .cons H9 <| .cons (by kernel_rfl : AV.sound (AV.str t_2) = true) <| .cons (by kernel_rfl : AV.str t_2 = AV.str t_2) <| .nil
theorem rq (call : CallT → List AV → AHeap → FRes) (k : Int) (x y z : Nat) (a b c : List UInt8) (h : AHeap) (t_1 : List UInt8) (n_1 : Nat) (t_2 : List UInt8) (g_1 : AHeap) (t_3 : List UInt8) (n_2 : Nat) (t_4 : List UInt8) (g_2 : AHeap) (t_5 : List UInt8) (n_3 : Nat) (t_6 : List UInt8) (g_3 g_4 : AHeap)
    (H1 : load1 (AHeap.room (AHeap.push (AHeap.push (AHeap.push h (.cells [.int .i64 k, .str a, .str b, .str c] 42 .own 0 0)) (.cells [.int .u16 (.ofNat x), .int .u16 (.ofNat y), .int .u16 (.ofNat z)] 44 .own 0 0)) (.cells [.int .i64 (.ofNat 0), .str [], .str [], .str []] 42 .own 0 0)) 22) (AHeap.n h) (0 + 0) = some (.int .i64 k))
    (H2 : load1 (AHeap.room (AHeap.push (AHeap.push (AHeap.push h (.cells [.int .i64 k, .str a, .str b, .str c] 42 .own 0 0)) (.cells [.int .u16 (.ofNat x), .int .u16 (.ofNat y), .int .u16 (.ofNat z)] 44 .own 0 0)) (.cells [.int .i64 (.ofNat 0), .str [], .str [], .str []] 42 .own 0 0)) 22) (AHeap.n h) (0 + 1) = some (.str t_1))
    (H3 : Nat.le 1 3)
    (H4 : load1 (AHeap.room (AHeap.push (AHeap.push (AHeap.push h (.cells [.int .i64 k, .str a, .str b, .str c] 42 .own 0 0)) (.cells [.int .u16 (.ofNat x), .int .u16 (.ofNat y), .int .u16 (.ofNat z)] 44 .own 0 0)) (.cells [.int .i64 (.ofNat 0), .str [], .str [], .str []] 42 .own 0 0)) 22) (AHeap.n (AHeap.push h (.cells [.int .i64 k, .str a, .str b, .str c] 42 .own 0 0))) (0 + 0 * 1) = some (.int .u16 (.ofNat n_1)))
    (H5 : call (.fn 64) [.str t_1, .int .u16 (.ofNat n_1), .int .i64 (.ofNat 100)] (AHeap.room (AHeap.push (AHeap.push (AHeap.push h (.cells [.int .i64 k, .str a, .str b, .str c] 42 .own 0 0)) (.cells [.int .u16 (.ofNat x), .int .u16 (.ofNat y), .int .u16 (.ofNat z)] 44 .own 0 0)) (.cells [.int .i64 (.ofNat 0), .str [], .str [], .str []] 42 .own 0 0)) 22) = FRes.ret (.str t_2) g_1)
    (H6 : load1 g_1 (AHeap.n h) (0 + 2) = some (.str t_3))
    (H7 : Nat.le 2 3)
    (H8 : load1 g_1 (AHeap.n (AHeap.push h (.cells [.int .i64 k, .str a, .str b, .str c] 42 .own 0 0))) (0 + 1 * 1) = some (.int .u16 (.ofNat n_2)))
    (H9 : call (.fn 64) [.str t_3, .int .u16 (.ofNat n_2), .int .i64 (.ofNat 300)] g_1 = FRes.ret (.str t_4) g_2)
    (H10 : load1 g_2 (AHeap.n h) (0 + 3) = some (.str t_5))
    (H11 : Nat.le 3 3)
    (H12 : load1 g_2 (AHeap.n (AHeap.push h (.cells [.int .i64 k, .str a, .str b, .str c] 42 .own 0 0))) (0 + 2 * 1) = some (.int .u16 (.ofNat n_3)))
    (H13 : call (.fn 64) [.str t_5, .int .u16 (.ofNat n_3), .int .i64 (.ofNat 6000)] g_2 = FRes.ret (.str t_6) g_3)
    (H14 : AEv.storeCells g_3 (AHeap.n (AHeap.push (AHeap.push h (.cells [.int .i64 k, .str a, .str b, .str c] 42 .own 0 0)) (.cells [.int .u16 (.ofNat x), .int .u16 (.ofNat y), .int .u16 (.ofNat z)] 44 .own 0 0))) 0 [.int .i64 k, .str t_2, .str t_4, .str t_6] = some g_4)
    (H15 : load1 g_3 (AHeap.n h) (0 + 0) = some (.int .i64 k))
    (H16 : load1 g_2 (AHeap.n h) (0 + 0) = some (.int .i64 k))
    (H17 : load1 g_1 (AHeap.n h) (0 + 0) = some (.int .i64 k))
    (H18 : load1 (AHeap.room (AHeap.push (AHeap.push (AHeap.push h (.cells [.int .i64 k, .str a, .str b, .str c] 42 .own 0 0)) (.cells [.int .u16 (.ofNat x), .int .u16 (.ofNat y), .int .u16 (.ofNat z)] 44 .own 0 0)) (.cells [.int .i64 (.ofNat 0), .str [], .str [], .str []] 42 .own 0 0)) 22) (AHeap.n h) (0 + 2) = some (.str t_3))
    (H19 : load1 (AHeap.room (AHeap.push (AHeap.push (AHeap.push h (.cells [.int .i64 k, .str a, .str b, .str c] 42 .own 0 0)) (.cells [.int .u16 (.ofNat x), .int .u16 (.ofNat y), .int .u16 (.ofNat z)] 44 .own 0 0)) (.cells [.int .i64 (.ofNat 0), .str [], .str [], .str []] 42 .own 0 0)) 22) (AHeap.n (AHeap.push h (.cells [.int .i64 k, .str a, .str b, .str c] 42 .own 0 0))) (0 + 1 * 1) = some (.int .u16 (.ofNat n_2)))
    (H20 : load1 g_1 (AHeap.n h) (0 + 3) = some (.str t_5))
    (H21 : load1 (AHeap.room (AHeap.push (AHeap.push (AHeap.push h (.cells [.int .i64 k, .str a, .str b, .str c] 42 .own 0 0)) (.cells [.int .u16 (.ofNat x), .int .u16 (.ofNat y), .int .u16 (.ofNat z)] 44 .own 0 0)) (.cells [.int .i64 (.ofNat 0), .str [], .str [], .str []] 42 .own 0 0)) 22) (AHeap.n h) (0 + 3) = some (.str t_5))
    (H22 : load1 g_1 (AHeap.n (AHeap.push h (.cells [.int .i64 k, .str a, .str b, .str c] 42 .own 0 0))) (0 + 2 * 1) = some (.int .u16 (.ofNat n_3)))
    (H23 : load1 (AHeap.room (AHeap.push (AHeap.push (AHeap.push h (.cells [.int .i64 k, .str a, .str b, .str c] 42 .own 0 0)) (.cells [.int .u16 (.ofNat x), .int .u16 (.ofNat y), .int .u16 (.ofNat z)] 44 .own 0 0)) (.cells [.int .i64 (.ofNat 0), .str [], .str [], .str []] 42 .own 0 0)) 22) (AHeap.n (AHeap.push h (.cells [.int .i64 k, .str a, .str b, .str c] 42 .own 0 0))) (0 + 2 * 1) = some (.int .u16 (.ofNat n_3))) :
    RunF Try.prog Try.f27 none call [] (SSt.mk [(0, .agg [.int .i64 k, .str a, .str b, .str c]), (1, .agg [.int .u16 (.ofNat x), .int .u16 (.ofNat y), .int .u16 (.ofNat z)])] [] .none h) (.ret)
      (SSt.mk [(4, .ptr (AHeap.n (AHeap.push (AHeap.push h (.cells [.int .i64 k, .str a, .str b, .str c] 42 .own 0 0)) (.cells [.int .u16 (.ofNat x), .int .u16 (.ofNat y), .int .u16 (.ofNat z)] 44 .own 0 0))) 0)] [] .none g_4) :=
  sxF_run [4] (hs := [.v (.int .i64 k), .v (.str t_1), .v (.ptr (AHeap.n (AHeap.push h (AObj.cells [.int .i64 k, .str a, .str b, .str c] 42 BK.own 0 0))) (0 + 0 * 1)), .v (.int .u16 (.ofNat n_1)), .c (.str t_2) g_1, .v (.str t_3), .v (.ptr (AHeap.n (AHeap.push h (AObj.cells [.int .i64 k, .str a, .str b, .str c] 42 BK.own 0 0))) (0 + 1 * 1)), .v (.int .u16 (.ofNat n_2)), .c (.str t_4) g_2, .v (.str t_5), .v (.ptr (AHeap.n (AHeap.push h (AObj.cells [.int .i64 k, .str a, .str b, .str c] 42 BK.own 0 0))) (0 + 2 * 1)), .v (.int .u16 (.ofNat n_3)), .c (.str t_6) g_3, .vh (.tup []) g_4]) (by kernel_rfl) <| .cons H1 <| .cons H2 <| .cons (⟨H3, rfl⟩ : Nat.le 1 3 ∧ AV.ptr (AHeap.n (AHeap.push h (AObj.cells [AV.int IntKind.i64 k, AV.str a, AV.str b, AV.str c] 42 BK.own 0 0))) (0 + 0 * 1) = AV.ptr (AHeap.n (AHeap.push h (AObj.cells [AV.int IntKind.i64 k, AV.str a, AV.str b, AV.str c] 42 BK.own 0 0))) (0 + 0 * 1)) <| .cons H4 <| .cons H5 <| .cons H6 <| .cons (⟨H7, rfl⟩ : Nat.le 2 3 ∧ AV.ptr (AHeap.n (AHeap.push h (AObj.cells [AV.int IntKind.i64 k, AV.str a, AV.str b, AV.str c] 42 BK.own 0 0))) (0 + 1 * 1) = AV.ptr (AHeap.n (AHeap.push h (AObj.cells [AV.int IntKind.i64 k, AV.str a, AV.str b, AV.str c] 42 BK.own 0 0))) (0 + 1 * 1)) <| .cons H8 <| .cons H9 <| .cons H10 <| .cons (⟨H11, rfl⟩ : Nat.le 3 3 ∧ AV.ptr (AHeap.n (AHeap.push h (AObj.cells [AV.int IntKind.i64 k, AV.str a, AV.str b, AV.str c] 42 BK.own 0 0))) (0 + 2 * 1) = AV.ptr (AHeap.n (AHeap.push h (AObj.cells [AV.int IntKind.i64 k, AV.str a, AV.str b, AV.str c] 42 BK.own 0 0))) (0 + 2 * 1)) <| .cons H12 <| .cons H13 <| .cons (⟨by kernel_rfl, H14, rfl⟩ : some 4 = some 4 ∧ AEv.storeCells g_3 (AHeap.n (AHeap.push (AHeap.push h (AObj.cells [AV.int IntKind.i64 k, AV.str a, AV.str b, AV.str c] 42 BK.own 0 0)) (AObj.cells [AV.int IntKind.u16 (Int.ofNat x), AV.int IntKind.u16 (Int.ofNat y), AV.int IntKind.u16 (Int.ofNat z)] 44 BK.own 0 0))) 0 [AV.int IntKind.i64 k, AV.str t_2, AV.str t_4, AV.str t_6] = some g_4 ∧ AV.tup [] = AV.tup []) <| .cons (by kernel_rfl : AV.sound (AV.ptr (AHeap.n h) (0 + 0)) = true) <| .cons (by kernel_rfl : AV.ptr (AHeap.n h) (0 + 0) = AV.ptr (AHeap.n h) (0 + 0)) <| .cons (by kernel_rfl : AV.sound (AV.ptr (AHeap.n h) (0 + 0)) = true) <| .cons (by kernel_rfl : AV.ptr (AHeap.n h) (0 + 0) = AV.ptr (AHeap.n h) (0 + 0)) <| .cons (by kernel_rfl : AV.sound (AV.ptr (AHeap.n h) (0 + 0)) = true) <| .cons (by kernel_rfl : AV.ptr (AHeap.n h) (0 + 0) = AV.ptr (AHeap.n h) (0 + 0)) <| .cons (by kernel_rfl : AV.sound (AV.ptr (AHeap.n h) (0 + 0)) = true) <| .cons (by kernel_rfl : AV.ptr (AHeap.n h) (0 + 0) = AV.ptr (AHeap.n h) (0 + 0)) <| .cons (by kernel_rfl : AV.sound (AV.int IntKind.i64 k) = true) <| .cons H15 <| .cons (by kernel_rfl : AV.sound (AV.int IntKind.i64 k) = true) <| .cons H16 <| .cons (by kernel_rfl : AV.sound (AV.int IntKind.i64 k) = true) <| .cons H17 <| .cons (by kernel_rfl : AV.sound (AV.int IntKind.i64 k) = true) <| .cons H1 <| .cons (by kernel_rfl : AV.sound (AV.fn 64 [] []) = true) <| .cons (by kernel_rfl : AV.fn 64 [] [] = AV.fn 64 [] []) <| .cons (by kernel_rfl : AV.sound (AV.ptr (AHeap.n h) (0 + 1)) = true) <| .cons (by kernel_rfl : AV.ptr (AHeap.n h) (0 + 1) = AV.ptr (AHeap.n h) (0 + 1)) <| .cons (by kernel_rfl : AV.sound (AV.str t_1) = true) <| .cons H2 <| .cons (by kernel_rfl : AV.sound (AV.ptr (AHeap.n (AHeap.push h (AObj.cells [AV.int IntKind.i64 k, AV.str a, AV.str b, AV.str c] 42 BK.own 0 0))) (0 + 0 * 1)) = true) <| .cons (⟨H3, rfl⟩ : Nat.le 1 3 ∧ AV.ptr (AHeap.n (AHeap.push h (AObj.cells [AV.int IntKind.i64 k, AV.str a, AV.str b, AV.str c] 42 BK.own 0 0))) (0 + 0 * 1) = AV.ptr (AHeap.n (AHeap.push h (AObj.cells [AV.int IntKind.i64 k, AV.str a, AV.str b, AV.str c] 42 BK.own 0 0))) (0 + 0 * 1)) <| .cons (by kernel_rfl : AV.sound (AV.int IntKind.u16 (Int.ofNat n_1)) = true) <| .cons H4 <| .cons (by kernel_rfl : AV.sound (AV.fn 64 [] []) = true) <| .cons (by kernel_rfl : AV.fn 64 [] [] = AV.fn 64 [] []) <| .cons (by kernel_rfl : AV.sound (AV.fn 64 [] []) = true) <| .cons (by kernel_rfl : AV.fn 64 [] [] = AV.fn 64 [] []) <| .cons (by kernel_rfl : AV.sound (AV.ptr (AHeap.n h) (0 + 2)) = true) <| .cons (by kernel_rfl : AV.ptr (AHeap.n h) (0 + 2) = AV.ptr (AHeap.n h) (0 + 2)) <| .cons (by kernel_rfl : AV.sound (AV.ptr (AHeap.n h) (0 + 2)) = true) <| .cons (by kernel_rfl : AV.ptr (AHeap.n h) (0 + 2) = AV.ptr (AHeap.n h) (0 + 2)) <| .cons (by kernel_rfl : AV.sound (AV.str t_3) = true) <| .cons H6 <| .cons (by kernel_rfl : AV.sound (AV.str t_3) = true) <| .cons H18 <| .cons (by kernel_rfl : AV.sound (AV.ptr (AHeap.n (AHeap.push h (AObj.cells [AV.int IntKind.i64 k, AV.str a, AV.str b, AV.str c] 42 BK.own 0 0))) (0 + 1 * 1)) = true) <| .cons (⟨H7, rfl⟩ : Nat.le 2 3 ∧ AV.ptr (AHeap.n (AHeap.push h (AObj.cells [AV.int IntKind.i64 k, AV.str a, AV.str b, AV.str c] 42 BK.own 0 0))) (0 + 1 * 1) = AV.ptr (AHeap.n (AHeap.push h (AObj.cells [AV.int IntKind.i64 k, AV.str a, AV.str b, AV.str c] 42 BK.own 0 0))) (0 + 1 * 1)) <| .cons (by kernel_rfl : AV.sound (AV.ptr (AHeap.n (AHeap.push h (AObj.cells [AV.int IntKind.i64 k, AV.str a, AV.str b, AV.str c] 42 BK.own 0 0))) (0 + 1 * 1)) = true) <| .cons (⟨H7, rfl⟩ : Nat.le 2 3 ∧ AV.ptr (AHeap.n (AHeap.push h (AObj.cells [AV.int IntKind.i64 k, AV.str a, AV.str b, AV.str c] 42 BK.own 0 0))) (0 + 1 * 1) = AV.ptr (AHeap.n (AHeap.push h (AObj.cells [AV.int IntKind.i64 k, AV.str a, AV.str b, AV.str c] 42 BK.own 0 0))) (0 + 1 * 1)) <| .cons (by kernel_rfl : AV.sound (AV.int IntKind.u16 (Int.ofNat n_2)) = true) <| .cons H8 <| .cons (by kernel_rfl : AV.sound (AV.int IntKind.u16 (Int.ofNat n_2)) = true) <| .cons H19 <| .cons (by kernel_rfl : AV.sound (AV.fn 64 [] []) = true) <| .cons (by kernel_rfl : AV.fn 64 [] [] = AV.fn 64 [] []) <| .cons (by kernel_rfl : AV.sound (AV.fn 64 [] []) = true) <| .cons (by kernel_rfl : AV.fn 64 [] [] = AV.fn 64 [] []) <| .cons (by kernel_rfl : AV.sound (AV.fn 64 [] []) = true) <| .cons (by kernel_rfl : AV.fn 64 [] [] = AV.fn 64 [] []) <| .cons (by kernel_rfl : AV.sound (AV.ptr (AHeap.n h) (0 + 3)) = true) <| .cons (by kernel_rfl : AV.ptr (AHeap.n h) (0 + 3) = AV.ptr (AHeap.n h) (0 + 3)) <| .cons (by kernel_rfl : AV.sound (AV.ptr (AHeap.n h) (0 + 3)) = true) <| .cons (by kernel_rfl : AV.ptr (AHeap.n h) (0 + 3) = AV.ptr (AHeap.n h) (0 + 3)) <| .cons (by kernel_rfl : AV.sound (AV.ptr (AHeap.n h) (0 + 3)) = true) <| .cons (by kernel_rfl : AV.ptr (AHeap.n h) (0 + 3) = AV.ptr (AHeap.n h) (0 + 3)) <| .cons (by kernel_rfl : AV.sound (AV.str t_5) = true) <| .cons H10 <| .cons (by kernel_rfl : AV.sound (AV.str t_5) = true) <| .cons H20 <| .cons (by kernel_rfl : AV.sound (AV.str t_5) = true) <| .cons H21 <| .cons (by kernel_rfl : AV.sound (AV.ptr (AHeap.n (AHeap.push h (AObj.cells [AV.int IntKind.i64 k, AV.str a, AV.str b, AV.str c] 42 BK.own 0 0))) (0 + 2 * 1)) = true) <| .cons (⟨H11, rfl⟩ : Nat.le 3 3 ∧ AV.ptr (AHeap.n (AHeap.push h (AObj.cells [AV.int IntKind.i64 k, AV.str a, AV.str b, AV.str c] 42 BK.own 0 0))) (0 + 2 * 1) = AV.ptr (AHeap.n (AHeap.push h (AObj.cells [AV.int IntKind.i64 k, AV.str a, AV.str b, AV.str c] 42 BK.own 0 0))) (0 + 2 * 1)) <| .cons (by kernel_rfl : AV.sound (AV.ptr (AHeap.n (AHeap.push h (AObj.cells [AV.int IntKind.i64 k, AV.str a, AV.str b, AV.str c] 42 BK.own 0 0))) (0 + 2 * 1)) = true) <| .cons (⟨H11, rfl⟩ : Nat.le 3 3 ∧ AV.ptr (AHeap.n (AHeap.push h (AObj.cells [AV.int IntKind.i64 k, AV.str a, AV.str b, AV.str c] 42 BK.own 0 0))) (0 + 2 * 1) = AV.ptr (AHeap.n (AHeap.push h (AObj.cells [AV.int IntKind.i64 k, AV.str a, AV.str b, AV.str c] 42 BK.own 0 0))) (0 + 2 * 1)) <| .cons (by kernel_rfl : AV.sound (AV.ptr (AHeap.n (AHeap.push h (AObj.cells [AV.int IntKind.i64 k, AV.str a, AV.str b, AV.str c] 42 BK.own 0 0))) (0 + 2 * 1)) = true) <| .cons (⟨H11, rfl⟩ : Nat.le 3 3 ∧ AV.ptr (AHeap.n (AHeap.push h (AObj.cells [AV.int IntKind.i64 k, AV.str a, AV.str b, AV.str c] 42 BK.own 0 0))) (0 + 2 * 1) = AV.ptr (AHeap.n (AHeap.push h (AObj.cells [AV.int IntKind.i64 k, AV.str a, AV.str b, AV.str c] 42 BK.own 0 0))) (0 + 2 * 1)) <| .cons (by kernel_rfl : AV.sound (AV.int IntKind.u16 (Int.ofNat n_3)) = true) <| .cons H12 <| .cons (by kernel_rfl : AV.sound (AV.int IntKind.u16 (Int.ofNat n_3)) = true) <| .cons H22 <| .cons (by kernel_rfl : AV.sound (AV.int IntKind.u16 (Int.ofNat n_3)) = true) <| .cons H23 <| .cons (by kernel_rfl : AV.sound (AV.agg [AV.int IntKind.i64 k, AV.str t_2, AV.str t_4, AV.str t_6]) = true) <| .cons (by kernel_rfl : AV.agg [AV.int IntKind.i64 k, AV.str t_2, AV.str t_4, AV.str t_6] = AV.agg [AV.int IntKind.i64 k, AV.str t_2, AV.str t_4, AV.str t_6]) <| .nil
theorem tx (call : CallT → List AV → AHeap → FRes) (k : Int) (a b c : List UInt8) (h : AHeap) (t_1 t_2 t_3 : List UInt8) (g_1 : AHeap)
    (H1 : load1 (AHeap.push (AHeap.push h (.cells [.int .i64 k, .str a, .str b, .str c] 42 .own 0 0)) (.cells [.str [], .str [], .str []] 80 .own 0 0)) (AHeap.n h) (0 + 1) = some (.str t_1))
    (H2 : load1 (AHeap.push (AHeap.push h (.cells [.int .i64 k, .str a, .str b, .str c] 42 .own 0 0)) (.cells [.str [], .str [], .str []] 80 .own 0 0)) (AHeap.n h) (0 + 2) = some (.str t_2))
    (H3 : load1 (AHeap.push (AHeap.push h (.cells [.int .i64 k, .str a, .str b, .str c] 42 .own 0 0)) (.cells [.str [], .str [], .str []] 80 .own 0 0)) (AHeap.n h) (0 + 3) = some (.str t_3))
    (H4 : AEv.storeCells (AHeap.push (AHeap.push h (.cells [.int .i64 k, .str a, .str b, .str c] 42 .own 0 0)) (.cells [.str [], .str [], .str []] 80 .own 0 0)) (AHeap.n (AHeap.push h (.cells [.int .i64 k, .str a, .str b, .str c] 42 .own 0 0))) 0 [.str t_1, .str t_2, .str t_3] = some g_1) :
    RunF Try.prog Try.f65 none call [] (SSt.mk [(0, .agg [.int .i64 k, .str a, .str b, .str c])] [] .none h) (.ret)
      (SSt.mk [(2, .ptr (AHeap.n (AHeap.push h (.cells [.int .i64 k, .str a, .str b, .str c] 42 .own 0 0))) 0)] [] .none g_1) :=
  sxF_run [2] (hs := [.v (.str t_1), .v (.str t_2), .v (.str t_3), .vh (.tup []) g_1]) (by kernel_rfl) <| .cons H1 <| .cons H2 <| .cons H3 <| .cons (⟨by kernel_rfl, H4, rfl⟩ : some 3 = some 3 ∧ AEv.storeCells (AHeap.push (AHeap.push h (AObj.cells [AV.int IntKind.i64 k, AV.str a, AV.str b, AV.str c] 42 BK.own 0 0)) (AObj.cells [AV.str [], AV.str [], AV.str []] 80 BK.own 0 0)) (AHeap.n (AHeap.push h (AObj.cells [AV.int IntKind.i64 k, AV.str a, AV.str b, AV.str c] 42 BK.own 0 0))) 0 [AV.str t_1, AV.str t_2, AV.str t_3] = some g_1 ∧ AV.tup [] = AV.tup []) <| .nil
theorem c1_1 (call : CallT → List AV → AHeap → FRes) (k : Int) (b : Nat) (h : AHeap) (n_1 : Nat) (g_1 : AHeap)
    (H1 : load1 h b (0 + 0) = some (.int .i64 k))
    (H2 : leI (.ofNat 1) k = true)
    (H3 : call (.fn 69) [.bool (leI k (.ofNat 9)), .int .i64 (.ofNat 2)] h = FRes.ret (.int .i64 (.ofNat n_1)) g_1) :
    RunF Try.prog Try.f68 none call [] (SSt.mk [(0, .ptr b 0)] [] .none h) (.ret)
      (SSt.mk [(1, .int .i64 (.ofNat n_1))] [] .none g_1) :=
  sxF_run [1] (hs := [.v (.int .i64 k), .b true, .b true, .v (.int .i64 k), .b true, .b true, .c (.int .i64 (.ofNat n_1)) g_1]) (by kernel_rfl) <| .cons H1 <| .cons H2 <| .cons H2 <| .cons H1 <| .cons H2 <| .cons H2 <| .cons H3 <| .nil
theorem c1_2 (call : CallT → List AV → AHeap → FRes) (k : Int) (b : Nat) (h : AHeap) (n_1 : Nat) (g_1 : AHeap)
    (H1 : load1 h b (0 + 0) = some (.int .i64 k))
    (H2 : leI (.ofNat 1) k = false)
    (H3 : call (.fn 69) [.bool false, .int .i64 (.ofNat 2)] h = FRes.ret (.int .i64 (.ofNat n_1)) g_1) :
    RunF Try.prog Try.f68 none call [] (SSt.mk [(0, .ptr b 0)] [] .none h) (.ret)
      (SSt.mk [(1, .int .i64 (.ofNat n_1))] [] .none g_1) :=
  sxF_run [1] (hs := [.v (.int .i64 k), .b false, .b false, .b false, .b false, .c (.int .i64 (.ofNat n_1)) g_1]) (by kernel_rfl) <| .cons H1 <| .cons H2 <| .cons H2 <| .cons H2 <| .cons H2 <| .cons H3 <| .nil
theorem uls_1 (call : CallT → List AV → AHeap → FRes) (t : Bool) (e : Nat) (h : AHeap)
    (H1 : t = true) :
    RunF Try.prog Try.f69 none call [] (SSt.mk [(0, .bool t), (1, .int .i64 (.ofNat e))] [] .none h) (.ret)
      (SSt.mk [(4, .int .i64 (.ofNat 0))] [] .none h) :=
  sxF_run [4] (hs := [.b true]) (by kernel_rfl) <| .cons H1 <| .nil
theorem uls_2 (call : CallT → List AV → AHeap → FRes) (t : Bool) (e : Nat) (h : AHeap)
    (H1 : t = false) :
    RunF Try.prog Try.f69 none call [] (SSt.mk [(0, .bool t), (1, .int .i64 (.ofNat e))] [] .none h) (.ret)
      (SSt.mk [(4, .int .i64 (.ofNat e))] [] .none h) :=
  sxF_run [4] (hs := [.b false]) (by kernel_rfl) <| .cons H1 <| .nil
theorem c2f (call : CallT → List AV → AHeap → FRes) (a b k : Nat) (o1 o2 o3 : Bool) (l : List AV) (s1 s2 s3 : List UInt8) (h g1 h2 g_1 : AHeap)
    (H1 : call (.fn 71) [] (AHeap.room h 7) = FRes.ret (.agg l) g1)
    (H2 : load1 g1 a (0 + 0) = some (.int .i64 (.ofNat k)))
    (H3 : arith .sub .i64 (.ofNat k) (.ofNat 1) = some (.int .i64 (.ofNat (k - 1))))
    (H4 : Nat.le (Nat.succ (k - 1)) 9 ∧ partA Try.prog 87 l ((k - 1) * 3) = some (.agg [.bool o1, .bool o2, .bool o3]))
    (H5 : AEv.storeCells (AHeap.mk (HT.setN (AHeap.n h + 5 + 1) g1.1 (AHeap.n h + 5) (some (.cells [.bool false, .bool false, .bool false] 87 .own 0 0))) (AHeap.n g1)) (AHeap.n h + 5) 0 [.bool o1, .bool o2, .bool o3] = some g_1)
    (H6 : load1 (AHeap.mk (HT.setN (AHeap.n h + 5 + 1) g1.1 (AHeap.n h + 5) (some (.cells [.bool false, .bool false, .bool false] 87 .own 0 0))) (AHeap.n g1)) a (0 + 0) = some (.int .i64 (.ofNat k)))
    (H7 : load1 (AHeap.room h 7) a (0 + 0) = some (.int .i64 (.ofNat k)))
    (H8 : AEv.loadCells g_1 b 0 3 = some [.str s1, .str s2, .str s3])
    (H9 : RunF Try.prog Try.f70 none call [1, 1, 0, 1, 0] (SSt.mk [(12, .int .i64 (.ofNat 0)), (11, .agg [.str s1, .str s2, .str s3]), (3, .ptr (AHeap.n h + 5) 0), (2, .int .i64 (.ofNat 0)), (0, .ptr a 0), (1, .ptr b 0)] [] .none g_1) (.exit 0) (SSt.mk [] [] .none h2)) :
    RunF Try.prog Try.f70 none call [] (SSt.mk [(0, .ptr a 0), (1, .ptr b 0)] [] .none h) (.ret)
      (SSt.mk [(2, .int .i64 (.ofNat 0))] [] .none h2) :=
  sxF_run [2] (hs := [Hint.c (AV.agg l) g1, Hint.v (AV.int IntKind.i64 (Int.ofNat k)), Hint.v (AV.int IntKind.i64 (Int.ofNat (k - 1))), Hint.v (AV.agg [AV.bool o1, AV.bool o2, AV.bool o3]), Hint.vh (AV.tup []) g_1, Hint.v (AV.agg [AV.str s1, AV.str s2, AV.str s3]), Hint.loop (AEx.exit 0) (SSt.mk [] [] Rc.none h2)]) (by kernel_rfl) <| .cons H1 <| .cons H2 <| .cons H3 <| .cons H4 <| .cons (⟨by kernel_rfl, H5, rfl⟩ : some 3 = some 3 ∧ AEv.storeCells (AHeap.mk (HT.setN (AHeap.n h + 5 + 1) g1.1 (AHeap.n h + 5) (some (AObj.cells [AV.bool false, AV.bool false, AV.bool false] 87 BK.own 0 0))) (AHeap.n g1)) (AHeap.n h + 5) 0 [AV.bool o1, AV.bool o2, AV.bool o3] = some g_1 ∧ AV.tup [] = AV.tup []) <| .cons (by kernel_rfl : AV.sound (AV.ptr a (0 + 0)) = true) <| .cons (by kernel_rfl : AV.ptr a (0 + 0) = AV.ptr a (0 + 0)) <| .cons (by kernel_rfl : AV.sound (AV.ptr a (0 + 0)) = true) <| .cons (by kernel_rfl : AV.ptr a (0 + 0) = AV.ptr a (0 + 0)) <| .cons (by kernel_rfl : AV.sound (AV.int IntKind.i64 (Int.ofNat k)) = true) <| .cons H6 <| .cons (by kernel_rfl : AV.sound (AV.int IntKind.i64 (Int.ofNat k)) = true) <| .cons H7 <| .cons (by kernel_rfl : AV.sound (AV.int IntKind.i64 (Int.ofNat (k - 1))) = true) <| .cons H3 <| .cons (by kernel_rfl : AV.sound (AV.int IntKind.i64 (Int.ofNat (k - 1))) = true) <| .cons H3 <| .cons (by kernel_rfl : AV.sound (AV.agg [AV.bool o1, AV.bool o2, AV.bool o3]) = true) <| .cons H4 <| .cons H8 <| .cons H9 <| .nil
theorem c2r (call : CallT → List AV → AHeap → FRes) (a b k : Nat) (o1 o2 o3 : Bool) (l : List AV) (s1 s2 s3 : List UInt8) (h g1 h2 g_1 : AHeap)
    (H1 : call (.fn 71) [] (AHeap.room h 7) = FRes.ret (.agg l) g1)
    (H2 : load1 g1 a (0 + 0) = some (.int .i64 (.ofNat k)))
    (H3 : arith .sub .i64 (.ofNat k) (.ofNat 1) = some (.int .i64 (.ofNat (k - 1))))
    (H4 : Nat.le (Nat.succ (k - 1)) 9 ∧ partA Try.prog 87 l ((k - 1) * 3) = some (.agg [.bool o1, .bool o2, .bool o3]))
    (H5 : AEv.storeCells (AHeap.mk (HT.setN (AHeap.n h + 5 + 1) g1.1 (AHeap.n h + 5) (some (.cells [.bool false, .bool false, .bool false] 87 .own 0 0))) (AHeap.n g1)) (AHeap.n h + 5) 0 [.bool o1, .bool o2, .bool o3] = some g_1)
    (H6 : load1 (AHeap.mk (HT.setN (AHeap.n h + 5 + 1) g1.1 (AHeap.n h + 5) (some (.cells [.bool false, .bool false, .bool false] 87 .own 0 0))) (AHeap.n g1)) a (0 + 0) = some (.int .i64 (.ofNat k)))
    (H7 : load1 (AHeap.room h 7) a (0 + 0) = some (.int .i64 (.ofNat k)))
    (H8 : AEv.loadCells g_1 b 0 3 = some [.str s1, .str s2, .str s3])
    (H9 : RunF Try.prog Try.f70 none call [1, 1, 0, 1, 0] (SSt.mk [(12, .int .i64 (.ofNat 0)), (11, .agg [.str s1, .str s2, .str s3]), (3, .ptr (AHeap.n h + 5) 0), (2, .int .i64 (.ofNat 0)), (0, .ptr a 0), (1, .ptr b 0)] [] .none g_1) (.ret) (SSt.mk [(2, .int .i64 (.ofNat 2))] [] .none h2)) :
    RunF Try.prog Try.f70 none call [] (SSt.mk [(0, .ptr a 0), (1, .ptr b 0)] [] .none h) (.ret)
      (SSt.mk [(2, .int .i64 (.ofNat 2))] [] .none h2) :=
  sxF_run [2] (hs := [Hint.c (AV.agg l) g1, Hint.v (AV.int IntKind.i64 (Int.ofNat k)), Hint.v (AV.int IntKind.i64 (Int.ofNat (k - 1))), Hint.v (AV.agg [AV.bool o1, AV.bool o2, AV.bool o3]), Hint.vh (AV.tup []) g_1, Hint.v (AV.agg [AV.str s1, AV.str s2, AV.str s3]), Hint.loop AEx.ret (SSt.mk [(2, AV.int IntKind.i64 (Int.ofNat 2))] [] Rc.none h2)]) (by kernel_rfl) <| .cons H1 <| .cons H2 <| .cons H3 <| .cons H4 <| .cons (⟨by kernel_rfl, H5, rfl⟩ : some 3 = some 3 ∧ AEv.storeCells (AHeap.mk (HT.setN (AHeap.n h + 5 + 1) g1.1 (AHeap.n h + 5) (some (AObj.cells [AV.bool false, AV.bool false, AV.bool false] 87 BK.own 0 0))) (AHeap.n g1)) (AHeap.n h + 5) 0 [AV.bool o1, AV.bool o2, AV.bool o3] = some g_1 ∧ AV.tup [] = AV.tup []) <| .cons (by kernel_rfl : AV.sound (AV.ptr a (0 + 0)) = true) <| .cons (by kernel_rfl : AV.ptr a (0 + 0) = AV.ptr a (0 + 0)) <| .cons (by kernel_rfl : AV.sound (AV.ptr a (0 + 0)) = true) <| .cons (by kernel_rfl : AV.ptr a (0 + 0) = AV.ptr a (0 + 0)) <| .cons (by kernel_rfl : AV.sound (AV.int IntKind.i64 (Int.ofNat k)) = true) <| .cons H6 <| .cons (by kernel_rfl : AV.sound (AV.int IntKind.i64 (Int.ofNat k)) = true) <| .cons H7 <| .cons (by kernel_rfl : AV.sound (AV.int IntKind.i64 (Int.ofNat (k - 1))) = true) <| .cons H3 <| .cons (by kernel_rfl : AV.sound (AV.int IntKind.i64 (Int.ofNat (k - 1))) = true) <| .cons H3 <| .cons (by kernel_rfl : AV.sound (AV.agg [AV.bool o1, AV.bool o2, AV.bool o3]) = true) <| .cons H4 <| .cons H8 <| .cons H9 <| .nil
theorem mfst (call : CallT → List AV → AHeap → FRes) (b : Nat) (h h2 : AHeap) (e : AEx)
    (H1 : RunF Try.prog Try.f73 none call [1, 0, 1, 0] (SSt.mk [(8, .int .i64 (.ofNat 0)), (7, .int .i64 (.ofNat 3)), (6, .slice b 0 3 (.exact 3)), (2, .int .i64 (.ofNat 0)), (0, .slice b 0 3 (.exact 3))] [] .none h) (.exit 0) (SSt.mk [] [] .none h2)) :
    RunF Try.prog Try.f73 none call [] (SSt.mk [(0, .slice b 0 3 (.exact 3))] [] .none h) (.ret)
      (SSt.mk [(2, .int .i64 (.ofNat 0))] [] .none h2) :=
  sxF_run [2] (hs := [Hint.loop (AEx.exit 0) (SSt.mk [] [] Rc.none h2)]) (by kernel_rfl) <| .cons H1 <| .nil
theorem chk (call : CallT → List AV → AHeap → FRes) (k : Int) (a b c : List UInt8) (h g0 : AHeap) (n_1 n_2 n_3 : Nat) (g_1 g_2 g_3 : AHeap) (n_4 : Nat) (g_4 : AHeap)
    (H1 : AEv.loadCells (AHeap.push h (.cells [.int .i64 k, .str a, .str b, .str c] 42 .own 0 0)) (AHeap.n h) 0 4 = some [.int .i64 k, .str a, .str b, .str c])
    (H2 : call (.fn 65) [.agg [.int .i64 k, .str a, .str b, .str c]] (AHeap.push h (.cells [.int .i64 k, .str a, .str b, .str c] 42 .own 0 0)) = FRes.ret (.agg [.str a, .str b, .str c]) g0)
    (H3 : call (.fn 67) [] g0 = FRes.ret (.agg [.int .i64 (.ofNat n_1), .int .i64 (.ofNat n_2), .int .i64 (.ofNat n_3)]) g_1)
    (H4 : AEv.storeCells (AHeap.push (AHeap.push g_1 (.cells [.str [], .str [], .str []] 80 .own 0 0)) (.cells [.int .i64 (.ofNat 0), .int .i64 (.ofNat 0), .int .i64 (.ofNat 0)] 83 .own 0 0)) (AHeap.n g_1) 0 [.str a, .str b, .str c] = some g_2)
    (H5 : AEv.storeCells g_2 (AHeap.n (AHeap.push g_1 (.cells [.str [], .str [], .str []] 80 .own 0 0))) 0 [.int .i64 (.ofNat n_1), .int .i64 (.ofNat n_2), .int .i64 (.ofNat n_3)] = some g_3)
    (H6 : call (.fn 73) [.slice (AHeap.n g_3) 0 3 (.exact 3)] (AHeap.push g_3 (.cells [.fn 68 [] [.ptr (AHeap.n h) 0], .fn 70 [] [.ptr (AHeap.n h) 0, .ptr (AHeap.n g_1) 0], .fn 72 [] [.ptr (AHeap.n g_1) 0, .ptr (AHeap.n (AHeap.push g_1 (.cells [.str [], .str [], .str []] 80 .own 0 0))) 0]] 86 .own 0 0)) = FRes.ret (.int .i64 (.ofNat n_4)) g_4) :
    RunF Try.prog Try.f30 none call [] (SSt.mk [(0, .agg [.int .i64 k, .str a, .str b, .str c])] [] .none h) (.ret)
      (SSt.mk [(2, .int .i64 (.ofNat n_4))] [] .none g_4) :=
  sxF_run [2] (hs := [.v (.agg [.int .i64 k, .str a, .str b, .str c]), .c (.agg [.str a, .str b, .str c]) g0, .c (.agg [.int .i64 (.ofNat n_1), .int .i64 (.ofNat n_2), .int .i64 (.ofNat n_3)]) g_1, .vh (.tup []) g_2, .vh (.tup []) g_3, .c (.int .i64 (.ofNat n_4)) g_4]) (by kernel_rfl) <| .cons H1 <| .cons H2 <| .cons H3 <| .cons (⟨by kernel_rfl, H4, rfl⟩ : some 3 = some 3 ∧ AEv.storeCells (AHeap.push (AHeap.push g_1 (AObj.cells [AV.str [], AV.str [], AV.str []] 80 BK.own 0 0)) (AObj.cells [AV.int IntKind.i64 (Int.ofNat 0), AV.int IntKind.i64 (Int.ofNat 0), AV.int IntKind.i64 (Int.ofNat 0)] 83 BK.own 0 0)) (AHeap.n g_1) 0 [AV.str a, AV.str b, AV.str c] = some g_2 ∧ AV.tup [] = AV.tup []) <| .cons (⟨by kernel_rfl, H5, rfl⟩ : some 3 = some 3 ∧ AEv.storeCells g_2 (AHeap.n (AHeap.push g_1 (AObj.cells [AV.str [], AV.str [], AV.str []] 80 BK.own 0 0))) 0 [AV.int IntKind.i64 (Int.ofNat n_1), AV.int IntKind.i64 (Int.ofNat n_2), AV.int IntKind.i64 (Int.ofNat n_3)] = some g_3 ∧ AV.tup [] = AV.tup []) <| .cons H6 <| .nil
theorem c2l_1 (call : CallT → List AV → AHeap → FRes) (o i : Nat) (w : Bool) (x a1 a2 a3 : List UInt8) (h : AHeap)
    (H1 : ltI (.ofNat i) (.ofNat 3) = true)
    (H2 : Nat.le (Nat.succ i) 3 ∧ partA Try.prog 9 [.str a1, .str a2, .str a3] (i * 1) = some (.str x))
    (H3 : (!beqBytes x []) = true)
    (H4 : Nat.le (Nat.succ i) 3)
    (H5 : load1 h o (0 + i * 1) = some (.bool w))
    (H6 : (!w) = true) :
    RunF Try.prog Try.f70 none call [1, 1, 0, 1, 0, 0] (SSt.mk [(3, .ptr o 0), (11, .agg [.str a1, .str a2, .str a3]), (12, .int .i64 (.ofNat i))] [] .none h) (.ret)
      (SSt.mk [(2, .int .i64 (.ofNat 2)), (3, .ptr o 0), (11, .agg [.str a1, .str a2, .str a3]), (12, .int .i64 (.ofNat i))] [] .none h) :=
  sxF_run [2, 3, 11, 12] (hs := [.b true, .v (.str x), .b true, .b true, .v (.ptr o (0 + i * 1)), .b true, .v (.bool w), .b true, .b true, .b true]) (by kernel_rfl) <| .cons H1 <| .cons H2 <| .cons H3 <| .cons H3 <| .cons (⟨H4, rfl⟩ : Nat.le (Nat.succ i) 3 ∧ AV.ptr o (0 + i * 1) = AV.ptr o (0 + i * 1)) <| .cons H3 <| .cons H5 <| .cons H3 <| .cons H3 <| .cons H6 <| .nil
theorem c2l_2 (call : CallT → List AV → AHeap → FRes) (o i : Nat) (w : Bool) (x a1 a2 a3 : List UInt8) (h : AHeap) (n_1 : Nat)
    (H1 : ltI (.ofNat i) (.ofNat 3) = true)
    (H2 : Nat.le (Nat.succ i) 3 ∧ partA Try.prog 9 [.str a1, .str a2, .str a3] (i * 1) = some (.str x))
    (H3 : (!beqBytes x []) = true)
    (H4 : Nat.le (Nat.succ i) 3)
    (H5 : load1 h o (0 + i * 1) = some (.bool w))
    (H6 : (!w) = false)
    (H7 : arith .add .i64 (.ofNat i) (.ofNat 1) = some (.int .i64 (.ofNat n_1))) :
    RunF Try.prog Try.f70 none call [1, 1, 0, 1, 0, 0] (SSt.mk [(3, .ptr o 0), (11, .agg [.str a1, .str a2, .str a3]), (12, .int .i64 (.ofNat i))] [] .none h) (.nrm)
      (SSt.mk [(3, .ptr o 0), (11, .agg [.str a1, .str a2, .str a3]), (12, .int .i64 (.ofNat n_1))] [] .none h) :=
  sxF_run [2, 3, 11, 12] (hs := [.b true, .v (.str x), .b true, .b true, .v (.ptr o (0 + i * 1)), .b true, .v (.bool w), .b true, .b true, .b false, .v (.int .i64 (.ofNat n_1))]) (by kernel_rfl) <| .cons H1 <| .cons H2 <| .cons H3 <| .cons H3 <| .cons (⟨H4, rfl⟩ : Nat.le (Nat.succ i) 3 ∧ AV.ptr o (0 + i * 1) = AV.ptr o (0 + i * 1)) <| .cons H3 <| .cons H5 <| .cons H3 <| .cons H3 <| .cons H6 <| .cons H7 <| .nil
theorem c2l_3 (call : CallT → List AV → AHeap → FRes) (o i : Nat) (w : Bool) (x a1 a2 a3 : List UInt8) (h : AHeap) (n_1 : Nat)
    (H1 : ltI (.ofNat i) (.ofNat 3) = true)
    (H2 : Nat.le (Nat.succ i) 3 ∧ partA Try.prog 9 [.str a1, .str a2, .str a3] (i * 1) = some (.str x))
    (H3 : (!beqBytes x []) = false)
    (H4 : arith .add .i64 (.ofNat i) (.ofNat 1) = some (.int .i64 (.ofNat n_1))) :
    RunF Try.prog Try.f70 none call [1, 1, 0, 1, 0, 0] (SSt.mk [(3, .ptr o 0), (11, .agg [.str a1, .str a2, .str a3]), (12, .int .i64 (.ofNat i))] [] .none h) (.nrm)
      (SSt.mk [(3, .ptr o 0), (11, .agg [.str a1, .str a2, .str a3]), (12, .int .i64 (.ofNat n_1))] [] .none h) :=
  sxF_run [2, 3, 11, 12] (hs := [.b true, .v (.str x), .b false, .b false, .b false, .b false, .b false, .b false, .v (.int .i64 (.ofNat n_1))]) (by kernel_rfl) <| .cons H1 <| .cons H2 <| .cons H3 <| .cons H3 <| .cons H3 <| .cons H3 <| .cons H3 <| .cons (by kernel_rfl : false = false) <| .cons H4 <| .nil
theorem c2l_4 (call : CallT → List AV → AHeap → FRes) (o i : Nat) (w : Bool) (x a1 a2 a3 : List UInt8) (h : AHeap)
    (H1 : ltI (.ofNat i) (.ofNat 3) = false) :
    RunF Try.prog Try.f70 none call [1, 1, 0, 1, 0, 0] (SSt.mk [(3, .ptr o 0), (11, .agg [.str a1, .str a2, .str a3]), (12, .int .i64 (.ofNat i))] [] .none h) (.exit 0)
      (SSt.mk [(3, .ptr o 0), (11, .agg [.str a1, .str a2, .str a3]), (12, .int .i64 (.ofNat i))] [] .none h) :=
  sxF_run [2, 3, 11, 12] (hs := [.b false]) (by kernel_rfl) <| .cons H1 <| .nil
theorem c3 (call : CallT → List AV → AHeap → FRes) (a b : Nat) (a1 a2 a3 : List UInt8) (e : AEx) (Γ : Env) (h h2 : AHeap)
    (H1 : AEv.loadCells h a 0 3 = some [.str a1, .str a2, .str a3])
    (H2 : RunF Try.prog Try.f72 none call [1, 0, 1, 0] (SSt.mk [(6, .int .i64 (.ofNat 0)), (5, .agg [.str a1, .str a2, .str a3]), (2, .int .i64 (.ofNat 0)), (0, .ptr a 0), (1, .ptr b 0)] [] .none h) (.exit 0) (SSt.mk [] [] .none h2)) :
    RunF Try.prog Try.f72 none call [] (SSt.mk [(0, .ptr a 0), (1, .ptr b 0)] [] .none h) (.ret)
      (SSt.mk [(2, .int .i64 (.ofNat 0))] [] .none h2) :=
  sxF_run [2] (hs := [Hint.v (AV.agg [AV.str a1, AV.str a2, AV.str a3]), Hint.loop (AEx.exit 0) (SSt.mk [] [] Rc.none h2)]) (by kernel_rfl) <| .cons H1 <| .cons H2 <| .nil
theorem c3r (call : CallT → List AV → AHeap → FRes) (a b : Nat) (a1 a2 a3 : List UInt8) (e : AEx) (Γ : Env) (h h2 : AHeap)
    (H1 : AEv.loadCells h a 0 3 = some [.str a1, .str a2, .str a3])
    (H2 : RunF Try.prog Try.f72 none call [1, 0, 1, 0] (SSt.mk [(6, .int .i64 (.ofNat 0)), (5, .agg [.str a1, .str a2, .str a3]), (2, .int .i64 (.ofNat 0)), (0, .ptr a 0), (1, .ptr b 0)] [] .none h) (.ret) (SSt.mk [(2, .int .i64 (.ofNat 3))] [] .none h2)) :
    RunF Try.prog Try.f72 none call [] (SSt.mk [(0, .ptr a 0), (1, .ptr b 0)] [] .none h) (.ret)
      (SSt.mk [(2, .int .i64 (.ofNat 3))] [] .none h2) :=
  sxF_run [2] (hs := [Hint.v (AV.agg [AV.str a1, AV.str a2, AV.str a3]), Hint.loop AEx.ret (SSt.mk [(2, AV.int IntKind.i64 (Int.ofNat 3))] [] Rc.none h2)]) (by kernel_rfl) <| .cons H1 <| .cons H2 <| .nil
theorem c3l_1 (call : CallT → List AV → AHeap → FRes) (b i : Nat) (x a1 a2 a3 : List UInt8) (h : AHeap) (n_1 : Nat)
    (H1 : ltI (.ofNat i) (.ofNat 3) = true)
    (H2 : Nat.le (Nat.succ i) 3 ∧ partA Try.prog 9 [.str a1, .str a2, .str a3] (i * 1) = some (.str x))
    (H3 : Nat.le (Nat.succ i) 3)
    (H4 : load1 h b (0 + i * 1) = some (.int .i64 (.ofNat n_1)))
    (H5 : ltI (.ofNat n_1) (.ofNat (List.length x)) = true) :
    RunF Try.prog Try.f72 none call [1, 0, 1, 0, 0] (SSt.mk [(1, .ptr b 0), (5, .agg [.str a1, .str a2, .str a3]), (6, .int .i64 (.ofNat i))] [] .none h) (.ret)
      (SSt.mk [(1, .ptr b 0), (2, .int .i64 (.ofNat 3)), (5, .agg [.str a1, .str a2, .str a3]), (6, .int .i64 (.ofNat i))] [] .none h) :=
  sxF_run [1, 2, 5, 6] (hs := [.b true, .v (.str x), .v (.ptr b (0 + i * 1)), .v (.int .i64 (.ofNat n_1)), .b true]) (by kernel_rfl) <| .cons H1 <| .cons H2 <| .cons (⟨H3, rfl⟩ : Nat.le (Nat.succ i) 3 ∧ AV.ptr b (0 + i * 1) = AV.ptr b (0 + i * 1)) <| .cons H4 <| .cons H5 <| .nil
theorem c3l_2 (call : CallT → List AV → AHeap → FRes) (b i : Nat) (x a1 a2 a3 : List UInt8) (h : AHeap) (n_1 n_2 : Nat)
    (H1 : ltI (.ofNat i) (.ofNat 3) = true)
    (H2 : Nat.le (Nat.succ i) 3 ∧ partA Try.prog 9 [.str a1, .str a2, .str a3] (i * 1) = some (.str x))
    (H3 : Nat.le (Nat.succ i) 3)
    (H4 : load1 h b (0 + i * 1) = some (.int .i64 (.ofNat n_1)))
    (H5 : ltI (.ofNat n_1) (.ofNat (List.length x)) = false)
    (H6 : arith .add .i64 (.ofNat i) (.ofNat 1) = some (.int .i64 (.ofNat n_2))) :
    RunF Try.prog Try.f72 none call [1, 0, 1, 0, 0] (SSt.mk [(1, .ptr b 0), (5, .agg [.str a1, .str a2, .str a3]), (6, .int .i64 (.ofNat i))] [] .none h) (.nrm)
      (SSt.mk [(1, .ptr b 0), (5, .agg [.str a1, .str a2, .str a3]), (6, .int .i64 (.ofNat n_2))] [] .none h) :=
  sxF_run [1, 2, 5, 6] (hs := [.b true, .v (.str x), .v (.ptr b (0 + i * 1)), .v (.int .i64 (.ofNat n_1)), .b false, .v (.int .i64 (.ofNat n_2))]) (by kernel_rfl) <| .cons H1 <| .cons H2 <| .cons (⟨H3, rfl⟩ : Nat.le (Nat.succ i) 3 ∧ AV.ptr b (0 + i * 1) = AV.ptr b (0 + i * 1)) <| .cons H4 <| .cons H5 <| .cons H6 <| .nil
theorem c3l_3 (call : CallT → List AV → AHeap → FRes) (b i : Nat) (x a1 a2 a3 : List UInt8) (h : AHeap)
    (H1 : ltI (.ofNat i) (.ofNat 3) = false) :
    RunF Try.prog Try.f72 none call [1, 0, 1, 0, 0] (SSt.mk [(1, .ptr b 0), (5, .agg [.str a1, .str a2, .str a3]), (6, .int .i64 (.ofNat i))] [] .none h) (.exit 0)
      (SSt.mk [(1, .ptr b 0), (5, .agg [.str a1, .str a2, .str a3]), (6, .int .i64 (.ofNat i))] [] .none h) :=
  sxF_run [1, 2, 5, 6] (hs := [.b false]) (by kernel_rfl) <| .cons H1 <| .nil
theorem mfa_1 (call : CallT → List AV → AHeap → FRes) (a b c d i : Nat) (h : AHeap) (n_1 : Nat) (g_1 : AHeap)
    (H1 : ltI (.ofNat i) (.ofNat 3) = true)
    (H2 : Nat.le (Nat.succ i) 3)
    (H3 : load1 h b (0 + i * 1) = some (.fn 68 [] [.ptr a 0]))
    (H4 : call (.fn 68) [.ptr a 0] h = FRes.ret (.int .i64 (.ofNat n_1)) g_1)
    (H5 : (!eqI (.ofNat n_1) (.ofNat 0)) = true) :
    RunF Try.prog Try.f73 none call [1, 0, 1, 0, 0] (SSt.mk [(6, .slice b 0 3 (.exact 3)), (7, .int .i64 (.ofNat 3)), (8, .int .i64 (.ofNat i))] [] .none h) (.ret)
      (SSt.mk [(2, .int .i64 (.ofNat n_1)), (6, .slice b 0 3 (.exact 3)), (7, .int .i64 (.ofNat 3)), (8, .int .i64 (.ofNat i))] [] .none g_1) :=
  sxF_run [2, 6, 7, 8] (hs := [.b true, .v (.ptr b (0 + i * 1)), .v (.fn 68 [] [.ptr a 0]), .c (.int .i64 (.ofNat n_1)) g_1, .b true]) (by kernel_rfl) <| .cons H1 <| .cons (⟨H2, rfl⟩ : Nat.le (Nat.succ i) 3 ∧ AV.ptr b (0 + i * 1) = AV.ptr b (0 + i * 1)) <| .cons H3 <| .cons H4 <| .cons H5 <| .nil
theorem mfa_2 (call : CallT → List AV → AHeap → FRes) (a b c d i : Nat) (h : AHeap) (n_1 : Nat) (g_1 : AHeap) (n_2 : Nat)
    (H1 : ltI (.ofNat i) (.ofNat 3) = true)
    (H2 : Nat.le (Nat.succ i) 3)
    (H3 : load1 h b (0 + i * 1) = some (.fn 68 [] [.ptr a 0]))
    (H4 : call (.fn 68) [.ptr a 0] h = FRes.ret (.int .i64 (.ofNat n_1)) g_1)
    (H5 : (!eqI (.ofNat n_1) (.ofNat 0)) = false)
    (H6 : arith .add .i64 (.ofNat i) (.ofNat 1) = some (.int .i64 (.ofNat n_2))) :
    RunF Try.prog Try.f73 none call [1, 0, 1, 0, 0] (SSt.mk [(6, .slice b 0 3 (.exact 3)), (7, .int .i64 (.ofNat 3)), (8, .int .i64 (.ofNat i))] [] .none h) (.nrm)
      (SSt.mk [(6, .slice b 0 3 (.exact 3)), (7, .int .i64 (.ofNat 3)), (8, .int .i64 (.ofNat n_2))] [] .none g_1) :=
  sxF_run [2, 6, 7, 8] (hs := [.b true, .v (.ptr b (0 + i * 1)), .v (.fn 68 [] [.ptr a 0]), .c (.int .i64 (.ofNat n_1)) g_1, .b false, .v (.int .i64 (.ofNat n_2))]) (by kernel_rfl) <| .cons H1 <| .cons (⟨H2, rfl⟩ : Nat.le (Nat.succ i) 3 ∧ AV.ptr b (0 + i * 1) = AV.ptr b (0 + i * 1)) <| .cons H3 <| .cons H4 <| .cons H5 <| .cons H6 <| .nil
theorem mfb_1 (call : CallT → List AV → AHeap → FRes) (a b c d i : Nat) (h : AHeap) (n_1 : Nat) (g_1 : AHeap)
    (H1 : ltI (.ofNat i) (.ofNat 3) = true)
    (H2 : Nat.le (Nat.succ i) 3)
    (H3 : load1 h b (0 + i * 1) = some (.fn 70 [] [.ptr a 0, .ptr c 0]))
    (H4 : call (.fn 70) [.ptr a 0, .ptr c 0] h = FRes.ret (.int .i64 (.ofNat n_1)) g_1)
    (H5 : (!eqI (.ofNat n_1) (.ofNat 0)) = true) :
    RunF Try.prog Try.f73 none call [1, 0, 1, 0, 0] (SSt.mk [(6, .slice b 0 3 (.exact 3)), (7, .int .i64 (.ofNat 3)), (8, .int .i64 (.ofNat i))] [] .none h) (.ret)
      (SSt.mk [(2, .int .i64 (.ofNat n_1)), (6, .slice b 0 3 (.exact 3)), (7, .int .i64 (.ofNat 3)), (8, .int .i64 (.ofNat i))] [] .none g_1) :=
  sxF_run [2, 6, 7, 8] (hs := [.b true, .v (.ptr b (0 + i * 1)), .v (.fn 70 [] [.ptr a 0, .ptr c 0]), .c (.int .i64 (.ofNat n_1)) g_1, .b true]) (by kernel_rfl) <| .cons H1 <| .cons (⟨H2, rfl⟩ : Nat.le (Nat.succ i) 3 ∧ AV.ptr b (0 + i * 1) = AV.ptr b (0 + i * 1)) <| .cons H3 <| .cons H4 <| .cons H5 <| .nil
theorem mfb_2 (call : CallT → List AV → AHeap → FRes) (a b c d i : Nat) (h : AHeap) (n_1 : Nat) (g_1 : AHeap) (n_2 : Nat)
    (H1 : ltI (.ofNat i) (.ofNat 3) = true)
    (H2 : Nat.le (Nat.succ i) 3)
    (H3 : load1 h b (0 + i * 1) = some (.fn 70 [] [.ptr a 0, .ptr c 0]))
    (H4 : call (.fn 70) [.ptr a 0, .ptr c 0] h = FRes.ret (.int .i64 (.ofNat n_1)) g_1)
    (H5 : (!eqI (.ofNat n_1) (.ofNat 0)) = false)
    (H6 : arith .add .i64 (.ofNat i) (.ofNat 1) = some (.int .i64 (.ofNat n_2))) :
    RunF Try.prog Try.f73 none call [1, 0, 1, 0, 0] (SSt.mk [(6, .slice b 0 3 (.exact 3)), (7, .int .i64 (.ofNat 3)), (8, .int .i64 (.ofNat i))] [] .none h) (.nrm)
      (SSt.mk [(6, .slice b 0 3 (.exact 3)), (7, .int .i64 (.ofNat 3)), (8, .int .i64 (.ofNat n_2))] [] .none g_1) :=
  sxF_run [2, 6, 7, 8] (hs := [.b true, .v (.ptr b (0 + i * 1)), .v (.fn 70 [] [.ptr a 0, .ptr c 0]), .c (.int .i64 (.ofNat n_1)) g_1, .b false, .v (.int .i64 (.ofNat n_2))]) (by kernel_rfl) <| .cons H1 <| .cons (⟨H2, rfl⟩ : Nat.le (Nat.succ i) 3 ∧ AV.ptr b (0 + i * 1) = AV.ptr b (0 + i * 1)) <| .cons H3 <| .cons H4 <| .cons H5 <| .cons H6 <| .nil
theorem mfc_1 (call : CallT → List AV → AHeap → FRes) (a b c d i : Nat) (h : AHeap) (n_1 : Nat) (g_1 : AHeap)
    (H1 : ltI (.ofNat i) (.ofNat 3) = true)
    (H2 : Nat.le (Nat.succ i) 3)
    (H3 : load1 h b (0 + i * 1) = some (.fn 72 [] [.ptr c 0, .ptr d 0]))
    (H4 : call (.fn 72) [.ptr c 0, .ptr d 0] h = FRes.ret (.int .i64 (.ofNat n_1)) g_1)
    (H5 : (!eqI (.ofNat n_1) (.ofNat 0)) = true) :
    RunF Try.prog Try.f73 none call [1, 0, 1, 0, 0] (SSt.mk [(6, .slice b 0 3 (.exact 3)), (7, .int .i64 (.ofNat 3)), (8, .int .i64 (.ofNat i))] [] .none h) (.ret)
      (SSt.mk [(2, .int .i64 (.ofNat n_1)), (6, .slice b 0 3 (.exact 3)), (7, .int .i64 (.ofNat 3)), (8, .int .i64 (.ofNat i))] [] .none g_1) :=
  sxF_run [2, 6, 7, 8] (hs := [.b true, .v (.ptr b (0 + i * 1)), .v (.fn 72 [] [.ptr c 0, .ptr d 0]), .c (.int .i64 (.ofNat n_1)) g_1, .b true]) (by kernel_rfl) <| .cons H1 <| .cons (⟨H2, rfl⟩ : Nat.le (Nat.succ i) 3 ∧ AV.ptr b (0 + i * 1) = AV.ptr b (0 + i * 1)) <| .cons H3 <| .cons H4 <| .cons H5 <| .nil
theorem mfc_2 (call : CallT → List AV → AHeap → FRes) (a b c d i : Nat) (h : AHeap) (n_1 : Nat) (g_1 : AHeap) (n_2 : Nat)
    (H1 : ltI (.ofNat i) (.ofNat 3) = true)
    (H2 : Nat.le (Nat.succ i) 3)
    (H3 : load1 h b (0 + i * 1) = some (.fn 72 [] [.ptr c 0, .ptr d 0]))
    (H4 : call (.fn 72) [.ptr c 0, .ptr d 0] h = FRes.ret (.int .i64 (.ofNat n_1)) g_1)
    (H5 : (!eqI (.ofNat n_1) (.ofNat 0)) = false)
    (H6 : arith .add .i64 (.ofNat i) (.ofNat 1) = some (.int .i64 (.ofNat n_2))) :
    RunF Try.prog Try.f73 none call [1, 0, 1, 0, 0] (SSt.mk [(6, .slice b 0 3 (.exact 3)), (7, .int .i64 (.ofNat 3)), (8, .int .i64 (.ofNat i))] [] .none h) (.nrm)
      (SSt.mk [(6, .slice b 0 3 (.exact 3)), (7, .int .i64 (.ofNat 3)), (8, .int .i64 (.ofNat n_2))] [] .none g_1) :=
  sxF_run [2, 6, 7, 8] (hs := [.b true, .v (.ptr b (0 + i * 1)), .v (.fn 72 [] [.ptr c 0, .ptr d 0]), .c (.int .i64 (.ofNat n_1)) g_1, .b false, .v (.int .i64 (.ofNat n_2))]) (by kernel_rfl) <| .cons H1 <| .cons (⟨H2, rfl⟩ : Nat.le (Nat.succ i) 3 ∧ AV.ptr b (0 + i * 1) = AV.ptr b (0 + i * 1)) <| .cons H3 <| .cons H4 <| .cons H5 <| .cons H6 <| .nil
theorem mfc_3 (call : CallT → List AV → AHeap → FRes) (a b c d i : Nat) (h : AHeap)
    (H1 : ltI (.ofNat i) (.ofNat 3) = false) :
    RunF Try.prog Try.f73 none call [1, 0, 1, 0, 0] (SSt.mk [(6, .slice b 0 3 (.exact 3)), (7, .int .i64 (.ofNat 3)), (8, .int .i64 (.ofNat i))] [] .none h) (.exit 0)
      (SSt.mk [(6, .slice b 0 3 (.exact 3)), (7, .int .i64 (.ofNat 3)), (8, .int .i64 (.ofNat i))] [] .none h) :=
  sxF_run [2, 6, 7, 8] (hs := [.b false]) (by kernel_rfl) <| .cons H1 <| .nil
theorem mfr (call : CallT → List AV → AHeap → FRes) (b c : Nat) (h h2 : AHeap) (e : AEx)
    (H1 : RunF Try.prog Try.f73 none call [1, 0, 1, 0] (SSt.mk [(8, .int .i64 (.ofNat 0)), (7, .int .i64 (.ofNat 3)), (6, .slice b 0 3 (.exact 3)), (2, .int .i64 (.ofNat 0)), (0, .slice b 0 3 (.exact 3))] [] .none h) (.ret) (SSt.mk [(2, .int .i64 (.ofNat c))] [] .none h2)) :
    RunF Try.prog Try.f73 none call [] (SSt.mk [(0, .slice b 0 3 (.exact 3))] [] .none h) (.ret)
      (SSt.mk [(2, .int .i64 (.ofNat c))] [] .none h2) :=
  sxF_run [2] (hs := [Hint.loop AEx.ret (SSt.mk [(2, AV.int IntKind.i64 (Int.ofNat c))] [] Rc.none h2)]) (by kernel_rfl) <| .cons H1 <| .nil
theorem en1 (call : CallT → List AV → AHeap → FRes) (k : Int) (a b c : List UInt8) (n : Nat) (h g1 : AHeap)
    (H1 : AEv.loadCells (AHeap.push h (.cells [.int .i64 k, .str a, .str b, .str c] 42 .own 0 0)) (AHeap.n h) 0 4 = some [.int .i64 k, .str a, .str b, .str c])
    (H2 : call (.fn 30) [.agg [.int .i64 k, .str a, .str b, .str c]] (AHeap.push h (.cells [.int .i64 k, .str a, .str b, .str c] 42 .own 0 0)) = FRes.ret (.int .i64 (.ofNat (n + 1))) g1) :
    RunF Try.prog Try.f28 none call [] (SSt.mk [(0, .agg [.int .i64 k, .str a, .str b, .str c])] [] .none h) (.ret)
      (SSt.mk [(2, .str []), (3, .int .i64 (.ofNat (n + 1)))] [] .none g1) :=
  sxF_run [2, 3] (hs := [.v (.agg [.int .i64 k, .str a, .str b, .str c]), .c (.int .i64 (.ofNat (n + 1))) g1, .b true]) (by kernel_rfl) <| .cons H1 <| .cons H2 <| .cons (by kernel_rfl : (!eqI (Int.ofNat (n + 1)) (Int.ofNat 0)) = true) <| .nil
theorem en0 (call : CallT → List AV → AHeap → FRes) (k : Nat) (a b c x y : List UInt8) (h g1 g2 g3 : AHeap) (n_1 : Nat) (t_1 : List UInt8) (g_1 : AHeap)
    (H1 : AEv.loadCells (AHeap.push h (.cells [.int .i64 (.ofNat k), .str a, .str b, .str c] 42 .own 0 0)) (AHeap.n h) 0 4 = some [.int .i64 (.ofNat k), .str a, .str b, .str c])
    (H2 : call (.fn 30) [.agg [.int .i64 (.ofNat k), .str a, .str b, .str c]] (AHeap.push h (.cells [.int .i64 (.ofNat k), .str a, .str b, .str c] 42 .own 0 0)) = FRes.ret (.int .i64 (.ofNat 0)) g1)
    (H3 : load1 g1 (AHeap.n h) (0 + 0) = some (.int .i64 (.ofNat k)))
    (H4 : evConvert Try.prog 3 52 (AV.int IntKind.i64 (Int.ofNat k)) g1 = OpRes.val (AV.int IntKind.u64 (Int.ofNat n_1)) g1)
    (H5 : call (.fn 51) [.str [], .int .u64 (.ofNat n_1)] g1 = FRes.ret (.str t_1) g_1)
    (H6 : AEv.loadCells g_1 (AHeap.n h) 0 4 = some [.int .i64 (.ofNat k), .str a, .str b, .str c])
    (H7 : call (.fn 65) [.agg [.int .i64 (.ofNat k), .str a, .str b, .str c]] g_1 = FRes.ret (.agg [.str a, .str b, .str c]) g2)
    (H8 : RunF Try.prog Try.f28 none call [1, 1, 1, 0, 1, 0] (SSt.mk [(19, .int .i64 (.ofNat 0)), (18, .agg [.str a, .str b, .str c]), (5, .str t_1), (11, .bool !eqI (.ofNat 0) (.ofNat 0)), (4, .int .i64 (.ofNat 0)), (3, .int .i64 (.ofNat 0)), (2, .str []), (1, .ptr (AHeap.n h) 0), (0, .agg [.int .i64 (.ofNat k), .str a, .str b, .str c])] [] .none g2) (.exit 0) (SSt.mk [(5, .str y)] [] .none g3)) :
    RunF Try.prog Try.f28 none call [] (SSt.mk [(0, .agg [.int .i64 (.ofNat k), .str a, .str b, .str c])] [] .none h) (.ret)
      (SSt.mk [(2, .str y), (3, .int .i64 (.ofNat 0))] [] .none g3) :=
  sxF_run [2, 3] (hs := [Hint.v (AV.agg [AV.int IntKind.i64 (Int.ofNat k), AV.str a, AV.str b, AV.str c]), Hint.c (AV.int IntKind.i64 (Int.ofNat 0)) g1, Hint.b false, Hint.v (AV.int IntKind.i64 (Int.ofNat k)), Hint.v (AV.int IntKind.u64 (Int.ofNat n_1)), Hint.c (AV.str t_1) g_1, Hint.v (AV.agg [AV.int IntKind.i64 (Int.ofNat k), AV.str a, AV.str b, AV.str c]), Hint.c (AV.agg [AV.str a, AV.str b, AV.str c]) g2, Hint.loop (AEx.exit 0) (SSt.mk [(5, AV.str y)] [] Rc.none g3)]) (by kernel_rfl) <| .cons H1 <| .cons H2 <| .cons (by kernel_rfl : (!eqI (Int.ofNat 0) (Int.ofNat 0)) = false) <| .cons H3 <| .cons H4 <| .cons H5 <| .cons H6 <| .cons H7 <| .cons H8 <| .nil
theorem enl_1 (call : CallT → List AV → AHeap → FRes) (i : Nat) (s x a b c : List UInt8) (h : AHeap) (t_1 : List UInt8) (g_1 : AHeap) (n_1 : Nat)
    (H1 : ltI (.ofNat i) (.ofNat 3) = true)
    (H2 : Nat.le (Nat.succ i) 3 ∧ partA Try.prog 9 [.str a, .str b, .str c] (i * 1) = some (.str x))
    (H3 : call (.fn 52) [.str s, .str x] h = FRes.ret (.str t_1) g_1)
    (H4 : arith .add .i64 (.ofNat i) (.ofNat 1) = some (.int .i64 (.ofNat n_1))) :
    RunF Try.prog Try.f28 none call [1, 1, 1, 0, 1, 0, 0] (SSt.mk [(5, .str s), (18, .agg [.str a, .str b, .str c]), (19, .int .i64 (.ofNat i))] [] .none h) (.nrm)
      (SSt.mk [(5, .str t_1), (18, .agg [.str a, .str b, .str c]), (19, .int .i64 (.ofNat n_1))] [] .none g_1) :=
  sxF_run [5, 18, 19] (hs := [.b true, .v (.str x), .c (.str t_1) g_1, .v (.int .i64 (.ofNat n_1))]) (by kernel_rfl) <| .cons H1 <| .cons H2 <| .cons H3 <| .cons H4 <| .nil
theorem enl_2 (call : CallT → List AV → AHeap → FRes) (i : Nat) (s x a b c : List UInt8) (h : AHeap)
    (H1 : ltI (.ofNat i) (.ofNat 3) = false) :
    RunF Try.prog Try.f28 none call [1, 1, 1, 0, 1, 0, 0] (SSt.mk [(5, .str s), (18, .agg [.str a, .str b, .str c]), (19, .int .i64 (.ofNat i))] [] .none h) (.exit 0)
      (SSt.mk [(5, .str s), (18, .agg [.str a, .str b, .str c]), (19, .int .i64 (.ofNat i))] [] .none h) :=
  sxF_run [5, 18, 19] (hs := [.b false]) (by kernel_rfl) <| .cons H1 <| .nil
/-! ### msg: requests -/
/-- Which texts a kind has. -/
def own (k : Nat) : Nat → Bool := match k with
  | 1 => sel3 false false true
  | 2 | 7 | 8 => sel3 true false false
  | 4 | 6 => sel3 true true false
  | _ => sel3 true true true
def kindsL : List AV := [.bool false, .bool false, .bool true, .bool true, .bool false, .bool false, .bool true, .bool true, .bool true, .bool true, .bool true, .bool false, .bool true, .bool true, .bool true, .bool true, .bool true, .bool false, .bool true, .bool false, .bool false, .bool true, .bool false, .bool false, .bool true, .bool true, .bool true]
theorem own_part : ∀ k, 1 ≤ k → k ≤ 9 → Nat.le (Nat.succ (k - 1)) 9 ∧ partA Try.prog 87 kindsL ((k - 1) * 3) = some (.agg [.bool (own k 0), .bool (own k 1), .bool (own k 2)])
  | 1, _, _ => ⟨by show (_ : Nat) ≤ _; omega, by kernel_rfl⟩
  | 2, _, _ => ⟨by show (_ : Nat) ≤ _; omega, by kernel_rfl⟩
  | 3, _, _ => ⟨by show (_ : Nat) ≤ _; omega, by kernel_rfl⟩
  | 4, _, _ => ⟨by show (_ : Nat) ≤ _; omega, by kernel_rfl⟩
  | 5, _, _ => ⟨by show (_ : Nat) ≤ _; omega, by kernel_rfl⟩
  | 6, _, _ => ⟨by show (_ : Nat) ≤ _; omega, by kernel_rfl⟩
  | 7, _, _ => ⟨by show (_ : Nat) ≤ _; omega, by kernel_rfl⟩
  | 8, _, _ => ⟨by show (_ : Nat) ≤ _; omega, by kernel_rfl⟩
  | 9, _, _ => ⟨by show (_ : Nat) ≤ _; omega, by kernel_rfl⟩
  | 0, h, _ => by omega
  | n + 10, _, h => by omega
theorem kinds_c (m : Nat) (h : AHeap) : C (m + 1) (.fn 71) [] h = .ret (.agg kindsL) h := tab_c (by kernel_rfl)
theorem most_c (m : Nat) (h : AHeap) : C (m + 1) (.fn 67) [] h = .ret (.agg [.int .i64 (Int.ofNat 64), .int .i64 (Int.ofNat 200), .int .i64 (Int.ofNat 5000)]) h := tab_c (by kernel_rfl)

/-- A request. -/
abbrev rqV (k : Int) (a b c : List UInt8) : List AV := [.int .i64 k, .str a, .str b, .str c]
def bad2 (k : Nat) (a b c : List UInt8) (i : Nat) : Bool := !beqBytes (sel3 a b c i) [] && !(own k i)
def bad3 (a b c : List UInt8) (i : Nat) : Bool := ltI (Int.ofNat (sel3 64 200 5000 i)) (Int.ofNat (sel3 a b c i).length)
def chkN (k : Int) (a b c : List UInt8) : Nat := if 1 ≤ k ∧ k ≤ 9 then (if anyF (bad2 k.toNat a b c) 3 0 then 2 else if anyF (bad3 a b c) 3 0 then 3 else 0) else 2

theorem uls_c (m : Nat) (t : Bool) (e : Nat) (h : AHeap) : C (m + 1) (.fn 69) [.bool t, .int .i64 (Int.ofNat e)] h = .ret (.int .i64 (Int.ofNat (if t then 0 else e))) h := by
  cases t with
  | true => exact fn_runF (intr := Ii) (n := m) (args := [.bool true, .int .i64 (Int.ofNat e)]) Try.func69 (by kernel_rfl) rfl (by kernel_rfl) (uls_1 (C m) true e h rfl) (.inl rfl) (by kernel_rfl)
  | false => exact fn_runF (intr := Ii) (n := m) (args := [.bool false, .int .i64 (Int.ofNat e)]) Try.func69 (by kernel_rfl) rfl (by kernel_rfl) (uls_2 (C m) false e h rfl) (.inl rfl) (by kernel_rfl)
theorem texts_c (m : Nat) (k : Int) (a b c : List UInt8) (h : AHeap) : ∃ h', C (m + 1) (.fn 65) [.agg (rqV k a b c)] h = .ret (.agg [.str a, .str b, .str c]) h' ∧ Ext h.n h h' := by
  refine ⟨_, fn_runF (intr := Ii) (n := m) (args := [.agg (rqV k a b c)]) Try.func65 (by kernel_rfl) rfl (by kernel_rfl) (tx _ _ _ _ _ _ _ _ _ _ (ld1A rfl) (ld1A rfl) (ld1A rfl) (stcA rfl rfl)) (.inl rfl) (resS_cell (t := 2) (ty := 80) (p := h.n + 1) (n := 3) (by kernel_rfl) (by kernel_rfl) (by kernel_rfl) (by kernel_rfl) rfl (ldc hgA rfl)), exA⟩
theorem c1_c (m : Nat) (k : Int) (a b c : List UInt8) (p t : Nat) (h : AHeap) (hp : h.get p = some (.cells (rqV k a b c) t .own 0 0)) : C (m + 2) (.fn 68) [.ptr p 0] h = .ret (.int .i64 (Int.ofNat (if 1 ≤ k ∧ k ≤ 9 then 0 else 2))) h := by
  by_cases h1 : 1 ≤ k
  · have hl : leI (Int.ofNat 1) k = true := by simp [leI]; omega
    have := uls_c m (leI k (Int.ofNat 9)) 2 h
    have e : (if leI k (Int.ofNat 9) = true then 0 else 2) = (if 1 ≤ k ∧ k ≤ 9 then 0 else 2) := by
      by_cases h2 : k ≤ 9
      · rw [if_pos (by simp [leI]; omega), if_pos ⟨h1, h2⟩]
      · rw [if_neg (by simp [leI]; omega), if_neg (fun x => h2 x.2)]
    rw [e] at this
    exact fn_runF (intr := Ii) (n := m + 1) (args := [.ptr p 0]) Try.func68 (by kernel_rfl) rfl (by kernel_rfl) (c1_1 _ _ _ _ _ _ (ld1A rfl) (hl) (this)) (.inl rfl) (by kernel_rfl)
  · have hl : leI (Int.ofNat 1) k = false := by simp [leI]; omega
    have := uls_c m false 2 h
    rw [if_neg (fun x => h1 x.1)]
    exact fn_runF (intr := Ii) (n := m + 1) (args := [.ptr p 0]) Try.func68 (by kernel_rfl) rfl (by kernel_rfl) (c1_2 _ _ _ _ _ _ (ld1A rfl) (hl) (this)) (.inl rfl) (by kernel_rfl)
theorem str_agg : isAggT Try.prog 9 = some false := by kernel_rfl
theorem str_size : sizeT Try.prog 9 = some 1 := by kernel_rfl
theorem c2_c (m k : Nat) (h1 : 1 ≤ k) (h9 : k ≤ 9) (a b c : List UInt8) (p t q u : Nat) (h : AHeap) (hp : h.get p = some (.cells (rqV (Int.ofNat k) a b c) t .own 0 0)) (hq : h.get q = some (.cells [.str a, .str b, .str c] u .own 0 0)) (lp : p < h.n) (lq : q < h.n) :
    ∃ h', C (m + 2) (.fn 70) [.ptr p 0, .ptr q 0] h = .ret (.int .i64 (Int.ofNat (if anyF (bad2 k a b c) 3 0 then 2 else 0))) h' ∧ Ext h.n h h' := by
  let g : AHeap := ((h.room 7).set (h.n + 5) (some (.cells [.bool false, .bool false, .bool false] 87 .own 0 0))).set (h.n + 5) (some (.cells [.bool (own k 0), .bool (own k 1), .bool (own k 2)] 87 .own 0 0))
  have hg : g.get (h.n + 5) = some (.cells [.bool (own k 0), .bool (own k 1), .bool (own k 2)] 87 .own 0 0) := gsame rfl
  have hgo : ∀ i, i < 3 → load1 g (h.n + 5) (0 + i * 1) = some (.bool (own k i)) := fun i hi => ld1 hg (by rw [nth3 AV.bool _ _ _ i hi]; rcases i with _ | _ | _ | i <;> first | rfl | omega)
  have sc := scanF (P := Try.prog) (fn := Try.f70) (rd := none) (call := C (m + 1)) (pth := [1, 1, 0, 1, 0]) (N := 3) (p := bad2 k a b c)
    (S := fun i => ⟨[(3, .ptr (h.n + 5) 0), (11, .agg [.str a, .str b, .str c]), (12, .int .i64 (Int.ofNat i))], [], .none, g⟩) (stN := ⟨[], [], .none, g⟩) (stR := ⟨[(2, .int .i64 (Int.ofNat 2))], [], .none, g⟩)
    (fun i hi hb => by
      simp only [bad2, Bool.and_eq_true] at hb
      exact RunP.post (c2l_1 _ _ _ _ _ _ _ _ _ (lt_t (by omega)) (part_str str_agg str_size a b c i hi) (hb.1) (by show (_ : Nat) ≤ _; omega) (hgo i hi) (hb.2)) ⟨rfl, trivial⟩)
    (fun i hi hb => by
      simp only [bad2] at hb
      cases h3 : !beqBytes (sel3 a b c i) [] with
      | true => rw [h3, Bool.true_and] at hb; exact (c2l_2 _ _ _ _ _ _ _ _ _ _ (lt_t (by omega)) (part_str str_agg str_size a b c i hi) (h3) (by show (_ : Nat) ≤ _; omega) (hgo i hi) (hb) (add_n (by omega)))
      | false => exact (c2l_3 _ _ _ (true) _ _ _ _ _ _ (lt_t (by omega)) (part_str str_agg str_size a b c i hi) (h3) (add_n (by omega))))
    (RunP.post (c2l_4 _ _ _ (true) ([]) _ _ _ _ (lt_f (by omega))) trivial) 3 0 rfl (by omega)
  cases hb : anyF (bad2 k a b c) 3 0 with
  | true =>
    simp only [hb, if_true] at sc
    have loop := LoopF.run (p := [1, 1, 0, 1, 0]) (by kernel_rfl) sc (by omega)
    refine ⟨g, fn_runF (intr := Ii) (n := m + 1) (args := [.ptr p 0, .ptr q 0]) Try.func70 (by kernel_rfl) rfl (by kernel_rfl) (c2r _ _ _ _ _ _ _ _ _ _ _ _ _ _ _ (kinds_c m _) (ld1A rfl) (sub_n (by omega) (by omega)) (own_part k h1 h9) (stcA rfl rfl) (ld1A rfl) (ld1A rfl) (ldcA rfl) (RunP.pre loop ⟨rfl, rfl, rfl, trivial⟩ rfl rfl rfl)) (.inl rfl) (by kernel_rfl), exA⟩
  | false =>
    simp only [hb, Bool.false_eq_true, if_false] at sc
    have loop := LoopF.run (p := [1, 1, 0, 1, 0]) (by kernel_rfl) sc (by omega)
    refine ⟨g, fn_runF (intr := Ii) (n := m + 1) (args := [.ptr p 0, .ptr q 0]) Try.func70 (by kernel_rfl) rfl (by kernel_rfl) (c2f _ _ _ _ _ _ _ _ _ _ _ _ _ _ _ (kinds_c m _) (ld1A rfl) (sub_n (by omega) (by omega)) (own_part k h1 h9) (stcA rfl rfl) (ld1A rfl) (ld1A rfl) (ldcA rfl) (RunP.pre loop ⟨rfl, rfl, rfl, trivial⟩ rfl rfl rfl)) (.inl rfl) (by kernel_rfl), exA⟩
theorem c3_c (m : Nat) (a b c : List UInt8) (q u d v : Nat) (h : AHeap) (hq : h.get q = some (.cells [.str a, .str b, .str c] u .own 0 0)) (hd : h.get d = some (.cells [.int .i64 (Int.ofNat 64), .int .i64 (Int.ofNat 200), .int .i64 (Int.ofNat 5000)] v .own 0 0)) :
    C (m + 1) (.fn 72) [.ptr q 0, .ptr d 0] h = .ret (.int .i64 (Int.ofNat (if anyF (bad3 a b c) 3 0 then 3 else 0))) h := by
  have hgo : ∀ i, i < 3 → load1 h d (0 + i * 1) = some (.int .i64 (Int.ofNat (sel3 64 200 5000 i))) := fun i hi => ld1 hd (nth3 (fun n => AV.int .i64 (Int.ofNat n)) 64 200 5000 i hi)
  have sc := scanF (P := Try.prog) (fn := Try.f72) (rd := none) (call := C m) (pth := [1, 0, 1, 0]) (N := 3) (p := bad3 a b c)
    (S := fun i => ⟨[(1, .ptr d 0), (5, .agg [.str a, .str b, .str c]), (6, .int .i64 (Int.ofNat i))], [], .none, h⟩) (stN := ⟨[], [], .none, h⟩) (stR := ⟨[(2, .int .i64 (Int.ofNat 3))], [], .none, h⟩)
    (fun i hi hb => RunP.post (c3l_1 _ _ _ _ _ _ _ _ _ (lt_t (by omega)) (part_str str_agg str_size a b c i hi) (by show (_ : Nat) ≤ _; omega) (hgo i hi) (hb)) ⟨rfl, trivial⟩)
    (fun i hi hb => (c3l_2 _ _ _ _ _ _ _ _ _ _ (lt_t (by omega)) (part_str str_agg str_size a b c i hi) (by show (_ : Nat) ≤ _; omega) (hgo i hi) (hb) (add_n (by omega))))
    (RunP.post (c3l_3 _ _ _ ([]) _ _ _ _ (lt_f (by omega))) trivial) 3 0 rfl (by omega)
  cases hb : anyF (bad3 a b c) 3 0 with
  | true =>
    simp only [hb, if_true] at sc
    have loop := LoopF.run (p := [1, 0, 1, 0]) (by kernel_rfl) sc (by omega)
    exact fn_runF (intr := Ii) (n := m) (args := [.ptr q 0, .ptr d 0]) Try.func72 (by kernel_rfl) rfl (by kernel_rfl) (c3r (C m) q d a b c .ret [] h h (ldc hq rfl) (RunP.pre loop ⟨rfl, rfl, rfl, trivial⟩ rfl rfl rfl)) (.inl rfl) (by kernel_rfl)
  | false =>
    simp only [hb, Bool.false_eq_true, if_false] at sc
    have loop := LoopF.run (p := [1, 0, 1, 0]) (by kernel_rfl) sc (by omega)
    exact fn_runF (intr := Ii) (n := m) (args := [.ptr q 0, .ptr d 0]) Try.func72 (by kernel_rfl) rfl (by kernel_rfl) (c3 (C m) q d a b c .ret [] h h (ldc hq rfl) (RunP.pre loop ⟨rfl, rfl, rfl, trivial⟩ rfl rfl rfl)) (.inl rfl) (by kernel_rfl)
theorem first_c (m : Nat) (k : Int) (a b c : List UInt8) (s p q d t u v w : Nat) (h : AHeap) (hs : h.get s = some (.cells [.fn 68 [] [.ptr p 0], .fn 70 [] [.ptr p 0, .ptr q 0], .fn 72 [] [.ptr q 0, .ptr d 0]] w .own 0 0))
    (hp : h.get p = some (.cells (rqV k a b c) t .own 0 0)) (hq : h.get q = some (.cells [.str a, .str b, .str c] u .own 0 0)) (hd : h.get d = some (.cells [.int .i64 (Int.ofNat 64), .int .i64 (Int.ofNat 200), .int .i64 (Int.ofNat 5000)] v .own 0 0))
    (lp : p < h.n) (lq : q < h.n) (ls : s < h.n) (ld : d < h.n) :
    ∃ h', C (m + 3) (.fn 73) [.slice s 0 3 (.exact 3)] h = .ret (.int .i64 (Int.ofNat (chkN k a b c))) h' ∧ Ext h.n h h' := by
  have v1 := c1_c m k a b c p t h hp
  by_cases hr : 1 ≤ k ∧ k ≤ 9
  · obtain ⟨kk, rfl⟩ : ∃ kk : Nat, k = Int.ofNat kk := ⟨k.toNat, by have := hr.1; show k = (k.toNat : Int); omega⟩
    have hr1 : 1 ≤ kk := by have := hr.1; have e : Int.ofNat kk = (kk : Int) := rfl; omega
    have hr9 : kk ≤ 9 := by have := hr.2; have e : Int.ofNat kk = (kk : Int) := rfl; omega
    have hN : chkN (Int.ofNat kk) a b c = if anyF (bad2 kk a b c) 3 0 then 2 else if anyF (bad3 a b c) 3 0 then 3 else 0 := by
      simp only [chkN, if_pos hr]; rfl
    rw [if_pos hr] at v1
    rw [hN]
    obtain ⟨g, v2, x2⟩ := c2_c m kk hr1 hr9 a b c p t q u h hp hq lp lq
    have v3 := c3_c (m + 1) a b c q u d v g hgA hgA
    have s1 : RunF Try.prog Try.f73 none (C (m + 2)) [1, 0, 1, 0, 0] ⟨[(6, .slice s 0 3 (.exact 3)), (7, .int .i64 (Int.ofNat 3)), (8, .int .i64 (Int.ofNat 0))], [], .none, h⟩ .nrm ⟨[(6, .slice s 0 3 (.exact 3)), (7, .int .i64 (Int.ofNat 3)), (8, .int .i64 (Int.ofNat 1))], [], .none, h⟩ :=
      (mfa_2 _ _ _ (q) (d) _ _ _ _ _ (lt_t (by omega)) (by show (_ : Nat) ≤ _; omega) (ld1A rfl) (v1) rfl (add_n (by omega)))
    cases e2 : anyF (bad2 kk a b c) 3 0 with
    | true =>
      rw [e2, if_pos rfl] at v2
      have s2 : RunF Try.prog Try.f73 none (C (m + 2)) [1, 0, 1, 0, 0] ⟨[(6, .slice s 0 3 (.exact 3)), (7, .int .i64 (Int.ofNat 3)), (8, .int .i64 (Int.ofNat 1))], [], .none, h⟩ .ret ⟨[(2, .int .i64 (Int.ofNat 2))], [], .none, g⟩ :=
        RunP.post (mfb_1 _ _ _ _ (d) _ _ _ _ (lt_t (by omega)) (by show (_ : Nat) ≤ _; omega) (ld1A rfl) (v2) rfl) ⟨rfl, trivial⟩
      have loop := LoopF.run (p := [1, 0, 1, 0]) (by kernel_rfl) (LoopF.step s1 (LoopF.exit (n := 2) s2 (by simp))) (by omega)
      exact ⟨g, fn_runF (intr := Ii) (n := m + 2) (args := [.slice s 0 3 (.exact 3)]) Try.func73 (by kernel_rfl) rfl (by kernel_rfl) (mfr (C (m + 2)) s 2 h g .ret (RunP.pre loop ⟨rfl, rfl, rfl, trivial⟩ rfl rfl rfl)) (.inl rfl) (by kernel_rfl), x2⟩
    | false =>
      rw [e2, if_neg (by simp)] at v2
      have s2 : RunF Try.prog Try.f73 none (C (m + 2)) [1, 0, 1, 0, 0] ⟨[(6, .slice s 0 3 (.exact 3)), (7, .int .i64 (Int.ofNat 3)), (8, .int .i64 (Int.ofNat 1))], [], .none, h⟩ .nrm ⟨[(6, .slice s 0 3 (.exact 3)), (7, .int .i64 (Int.ofNat 3)), (8, .int .i64 (Int.ofNat 2))], [], .none, g⟩ :=
        (mfb_2 _ _ _ _ (d) _ _ _ _ _ (lt_t (by omega)) (by show (_ : Nat) ≤ _; omega) (ld1A rfl) (v2) rfl (add_n (by omega)))
      cases e3 : anyF (bad3 a b c) 3 0 with
      | true =>
        rw [e3, if_pos rfl] at v3
        have s3 : RunF Try.prog Try.f73 none (C (m + 2)) [1, 0, 1, 0, 0] ⟨[(6, .slice s 0 3 (.exact 3)), (7, .int .i64 (Int.ofNat 3)), (8, .int .i64 (Int.ofNat 2))], [], .none, g⟩ .ret ⟨[(2, .int .i64 (Int.ofNat 3))], [], .none, g⟩ :=
          RunP.post (mfc_1 _ (p) _ _ _ _ _ _ _ (lt_t (by omega)) (by show (_ : Nat) ≤ _; omega) (ld1A rfl) (v3) rfl) ⟨rfl, trivial⟩
        have loop := LoopF.run (p := [1, 0, 1, 0]) (by kernel_rfl) (LoopF.step s1 (LoopF.step s2 (LoopF.exit (n := 1) s3 (by simp)))) (by omega)
        exact ⟨g, fn_runF (intr := Ii) (n := m + 2) (args := [.slice s 0 3 (.exact 3)]) Try.func73 (by kernel_rfl) rfl (by kernel_rfl) (mfr (C (m + 2)) s 3 h g .ret (RunP.pre loop ⟨rfl, rfl, rfl, trivial⟩ rfl rfl rfl)) (.inl rfl) (by kernel_rfl), x2⟩
      | false =>
        rw [e3, if_neg (by simp)] at v3
        have s3 : RunF Try.prog Try.f73 none (C (m + 2)) [1, 0, 1, 0, 0] ⟨[(6, .slice s 0 3 (.exact 3)), (7, .int .i64 (Int.ofNat 3)), (8, .int .i64 (Int.ofNat 2))], [], .none, g⟩ .nrm ⟨[(6, .slice s 0 3 (.exact 3)), (7, .int .i64 (Int.ofNat 3)), (8, .int .i64 (Int.ofNat 3))], [], .none, g⟩ :=
          (mfc_2 _ (p) _ _ _ _ _ _ _ _ (lt_t (by omega)) (by show (_ : Nat) ≤ _; omega) (ld1A rfl) (v3) rfl (add_n (by omega)))
        have s4 : RunF Try.prog Try.f73 none (C (m + 2)) [1, 0, 1, 0, 0] ⟨[(6, .slice s 0 3 (.exact 3)), (7, .int .i64 (Int.ofNat 3)), (8, .int .i64 (Int.ofNat 3))], [], .none, g⟩ (.exit 0) ⟨[], [], .none, g⟩ :=
          RunP.post (mfc_3 _ (p) _ (q) (d) _ _ (lt_f (by omega))) trivial
        have loop := LoopF.run (p := [1, 0, 1, 0]) (by kernel_rfl) (LoopF.step s1 (LoopF.step s2 (LoopF.step s3 (LoopF.exit (n := 0) s4 (by simp))))) (by omega)
        exact ⟨g, fn_runF (intr := Ii) (n := m + 2) (args := [.slice s 0 3 (.exact 3)]) Try.func73 (by kernel_rfl) rfl (by kernel_rfl) (mfst (C (m + 2)) s h g .ret (RunP.pre loop ⟨rfl, rfl, rfl, trivial⟩ rfl rfl rfl)) (.inl rfl) (by kernel_rfl), x2⟩
  · rw [if_neg hr] at v1
    have hN : chkN k a b c = 2 := by simp only [chkN, if_neg hr]
    rw [hN]
    have s1 : RunF Try.prog Try.f73 none (C (m + 2)) [1, 0, 1, 0, 0] ⟨[(6, .slice s 0 3 (.exact 3)), (7, .int .i64 (Int.ofNat 3)), (8, .int .i64 (Int.ofNat 0))], [], .none, h⟩ .ret ⟨[(2, .int .i64 (Int.ofNat 2))], [], .none, h⟩ :=
      RunP.post (mfa_1 _ _ _ (q) (d) _ _ _ _ (lt_t (by omega)) (by show (_ : Nat) ≤ _; omega) (ld1A rfl) (v1) rfl) ⟨rfl, trivial⟩
    have loop := LoopF.run (p := [1, 0, 1, 0]) (by kernel_rfl) (LoopF.exit (n := 3) s1 (by simp)) (by omega)
    exact ⟨h, fn_runF (intr := Ii) (n := m + 2) (args := [.slice s 0 3 (.exact 3)]) Try.func73 (by kernel_rfl) rfl (by kernel_rfl) (mfr (C (m + 2)) s 2 h h .ret (RunP.pre loop ⟨rfl, rfl, rfl, trivial⟩ rfl rfl rfl)) (.inl rfl) (by kernel_rfl), Ext.refl _ _⟩
/-- msg.Check. -/
theorem chk_c (m : Nat) (k : Int) (a b c : List UInt8) (h : AHeap) : ∃ h', C (m + 4) (.fn 30) [.agg (rqV k a b c)] h = .ret (.int .i64 (Int.ofNat (chkN k a b c))) h' ∧ Ext h.n h h' := by
  obtain ⟨g0, v0, x0⟩ := texts_c (m + 2) k a b c (h.push (.cells (rqV k a b c) 42 .own 0 0))
  have x0n := x0.n; (try simp only [AHeap.n_push, AHeap.n_set, AHeap.n_room] at x0n)
  obtain ⟨g, hg⟩ : ∃ g, g = ((((g0.push (.cells [.str [], .str [], .str []] 80 .own 0 0)).push (.cells [.int .i64 (Int.ofNat 0), .int .i64 (Int.ofNat 0), .int .i64 (Int.ofNat 0)] 83 .own 0 0)).set g0.n (some (.cells [.str a, .str b, .str c] 80 .own 0 0))).set (g0.n + 1) (some (.cells [.int .i64 (Int.ofNat 64), .int .i64 (Int.ofNat 200), .int .i64 (Int.ofNat 5000)] 83 .own 0 0))).push (.cells [.fn 68 [] [.ptr h.n 0], .fn 70 [] [.ptr h.n 0, .ptr g0.n 0], .fn 72 [] [.ptr g0.n 0, .ptr (g0.n + 1) 0]] 86 .own 0 0) := ⟨_, rfl⟩
  have gn : g.n = g0.n + 3 := by rw [hg]; rfl
  obtain ⟨g', v1, x1⟩ := first_c m k a b c (g0.n + 2) h.n g0.n (g0.n + 1) 42 80 83 86 g (by rw [hg]; exact hgA) (by rw [hg]; exact hgA) (by rw [hg]; exact hgA) (by rw [hg]; exact hgA) (by omega) (by omega) (by omega) (by omega)
  rw [hg] at v1
  refine ⟨g', fn_runF (intr := Ii) (n := m + 3) (args := [.agg (rqV k a b c)]) Try.func30 (by kernel_rfl) rfl (by kernel_rfl) (chk _ _ _ _ _ _ _ _ _ _ _ _ _ _ _ (ldcA rfl) (v0) (most_c (m + 2) g0) (stcA rfl rfl) (stcA rfl rfl) (v1)) (.inl rfl) (by kernel_rfl), ?_⟩
  have x3 : Ext h.n h g := by rw [hg]; exact exA
  exact x3.trans (by omega) x1
end Go.Proofs.Wire

namespace Go.Proofs.Wire
open Go AEv Go.Proofs Go.Proofs.Enc
set_option maxRecDepth 100000
set_option maxHeartbeats 400000

/-! ### Requests: laid -/
def txF (a b c : List UInt8) : Nat → Nat → List UInt8
  | 0, _ => []
  | k + 1, i => textL (sel3 a b c i) ++ txF a b c k (i + 1)
def encL (k : Int) (a b c : List UInt8) : List UInt8 := if chkN k a b c = 0 then numL k.toNat ++ txF a b c 3 0 else []
theorem sel3_len {a b c : List UInt8} {n : Nat} (ha : a.length ≤ n) (hb : b.length ≤ n) (hc : c.length ≤ n) (i : Nat) : (sel3 a b c i).length ≤ n := by
  rcases i with _ | _ | i <;> assumption
theorem en_loop (m : Nat) (a b c : List UInt8) (ha : a.length ≤ 1000000) (hb : b.length ≤ 1000000) (hc : c.length ≤ 1000000) : ∀ (n i : Nat) (s : List UInt8) (g : AHeap), 3 - i = n → i ≤ 3 → s.length ≤ 10000 + i * 2000000 →
    ∃ g', LoopF Try.prog Try.f28 none (C (m + 5)) [1, 1, 1, 0, 1, 0] (n + 1) ⟨[(5, .str s), (18, .agg [.str a, .str b, .str c]), (19, .int .i64 (Int.ofNat i))], [], .none, g⟩ (.exit 0) ⟨[(5, .str (s ++ txF a b c n i))], [], .none, g'⟩ ∧ Ext g.n g g'
  | 0, i, s, g, hn, hi, hs => by
    obtain rfl : i = 3 := by omega
    refine ⟨g, .exit (RunP.post (enl_2 _ _ _ ([]) _ _ _ _ (lt_f (by omega))) ⟨by simp [lk, txF], trivial⟩) (by simp), Ext.refl _ _⟩
  | n + 1, i, s, g, hn, hi, hs => by
    have hl := sel3_len ha hb hc i
    have hl2 := textL_len (sel3 a b c i)
    obtain ⟨g1, v1, x1⟩ := puttext_c m s (sel3 a b c i) g (by omega) (by omega)
    obtain ⟨g2, l2, x2⟩ := en_loop m a b c ha hb hc n (i + 1) (s ++ textL (sel3 a b c i)) g1 (by omega) (by omega) (by rw [List.length_append]; omega)
    rw [List.append_assoc] at l2
    refine ⟨g2, .step ?_ l2, x1.trans x1.n x2⟩
    exact (enl_1 _ _ _ _ _ _ _ _ _ _ _ (lt_t (by omega)) (part_str str_agg str_size a b c i (by omega)) (v1) (add_n (by omega)))
theorem chkN_0 {k : Int} {a b c : List UInt8} (h : chkN k a b c = 0) : ∃ n : Nat, k = Int.ofNat n ∧ 1 ≤ n ∧ n ≤ 9 := by
  unfold chkN at h
  split at h
  · rename_i hk
    exact ⟨k.toNat, by show k = ((k.toNat : Nat) : Int); omega, by omega, by omega⟩
  · cases h
/-- msg.Encode. -/
theorem enc_c (m : Nat) (k : Int) (a b c : List UInt8) (h : AHeap) (ha : a.length ≤ 1000000) (hb : b.length ≤ 1000000) (hc : c.length ≤ 1000000) : ∃ h', C (m + 6) (.fn 28) [.agg (rqV k a b c)] h = .ret (.tup [.str (encL k a b c), .int .i64 (Int.ofNat (chkN k a b c))]) h' ∧ Ext h.n h h' := by
  obtain ⟨g1, v1, x1⟩ := chk_c (m + 1) k a b c (h.push (.cells (rqV k a b c) 42 .own 0 0))
  have x1n := x1.n; (try simp only [AHeap.n_push, AHeap.n_set, AHeap.n_room] at x1n)
  unfold encL
  cases hN : chkN k a b c with
  | zero =>
    obtain ⟨n, rfl, n1, n9⟩ := chkN_0 hN
    rw [hN] at v1
    rw [if_pos rfl]
    obtain ⟨g2, v2, x2⟩ := putnum_c (m + 1) n [] g1 (by omega) (by simp)
    rw [List.nil_append] at v2
    have x2n := x2.n; (try simp only [AHeap.n_push, AHeap.n_set, AHeap.n_room] at x2n)
    obtain ⟨g3, v3, x3⟩ := texts_c (m + 4) (Int.ofNat n) a b c g2
    have x3n := x3.n; (try simp only [AHeap.n_push, AHeap.n_set, AHeap.n_room] at x3n)
    have hl := numL_len n
    obtain ⟨g4, l4, x4⟩ := en_loop m a b c ha hb hc 3 0 (numL n) g3 rfl (by omega) (by omega)
    have x4n := x4.n; (try simp only [AHeap.n_push, AHeap.n_set, AHeap.n_room] at x4n)
    have loop := LoopF.run (p := [1, 1, 1, 0, 1, 0]) (by kernel_rfl) l4 (by omega)
    exact ⟨g4, fn_runF (intr := Ii) (n := m + 5) (args := [.agg (rqV (Int.ofNat n) a b c)]) Try.func28 (by kernel_rfl) rfl (by kernel_rfl) (en0 _ _ _ _ _ ([]) _ _ _ _ _ _ _ _ (ldcA rfl) (v1) (ld1A rfl) (conv_u64 n (by omega) g1) (v2) (ldcA rfl) (v3) (RunP.pre loop ⟨rfl, rfl, rfl, trivial⟩ rfl rfl rfl)) (.inl rfl) (by kernel_rfl), exA⟩
  | succ n =>
    rw [hN] at v1
    rw [if_neg (by omega)]
    exact ⟨g1, fn_runF (intr := Ii) (n := m + 5) (args := [.agg (rqV k a b c)]) Try.func28 (by kernel_rfl) rfl (by kernel_rfl) (en1 _ _ _ _ _ _ _ _ (ldcA rfl) (v1)) (.inl rfl) (by kernel_rfl), exA⟩

/-! ### The document's answer -/
/-! ### The law -/
theorem u16t : Try.prog.underlying 43 = some (.int .u16) := by kernel_rfl
theorem rl_c (j n m : Nat) (s : List UInt8) (h : AHeap) (hn : n < 65536) (hm : m ≤ 10000) : ∃ (t : List UInt8) (h' : AHeap), C (j + 1) (.fn 64) [.str s, .int .u16 (Int.ofNat n), .int .i64 (Int.ofNat m)] h = .ret (.str t) h' ∧ Ext h.n h h' ∧ t.length ≤ 100000 := by
  obtain ⟨p, hp⟩ : ∃ p, p = (min (Int.ofNat n) (IntKind.i64.wrap (Int.ofNat m - Int.ofNat s.length))).toNat := ⟨_, rfl⟩
  have hpn : p ≤ n := by
    have e : Int.ofNat n = (n : Int) := rfl
    rw [hp, e]; omega
  have hw : IntKind.i64.wrap (Int.ofNat n) = Int.ofNat n := wrap_nat n (by omega)
  have cv : ∀ g, evConvert Try.prog 43 3 (.int .u16 (Int.ofNat n)) g = .val (.int .i64 (Int.ofNat n)) g := fun g => conv_int u16t intt hw
  have mx := max_0 (min (Int.ofNat n) (IntKind.i64.wrap (Int.ofNat m - Int.ofNat s.length)))
  rw [← hp] at mx
  have ms := msO_bytes (P := Try.prog) (t := 39) (e := 5) (n := p) (b := h.n + 14) (i := ((Try.prog.info? 5).getD default)) bytest (by kernel_rfl) (by kernel_rfl) (by kernel_rfl) (by kernel_rfl) (by omega)
  obtain ⟨g, hg⟩ : ∃ g, g = (h.room 18).set (h.n + 14) (some (.cells (byteCells (List.replicate p 0)) 5 .own 0 0)) := ⟨_, rfl⟩
  have gg : g.get (h.n + 14) = some (.cells (byteCells (List.replicate p 0) ++ []) 5 .own 0 0) := by rw [hg, List.append_nil]; exact gsame rfl
  have cr := conv_row (P := Try.prog) (a := 39) (b := 9) (cap := .exact (List.replicate p (0 : UInt8)).length) (w := List.replicate p 0) bytest u8t strt (.inl rfl) gg
  rw [List.length_replicate] at cr
  have hs : ∀ g, sliceA Try.prog g 9 (.str s) none (some (.int .i64 (Int.ofNat (min s.length m)))) none = some (.str (s.take (min s.length m))) := fun g => slice_str_to strt (by omega)
  rw [hg] at cr
  refine ⟨s.take (min s.length m) ++ List.replicate p 0, g, ?_, by rw [hg]; exact exA, by simp; omega⟩
  rw [hg]
  exact fn_runF (intr := Ii) (n := j) (args := [.str s, .int .u16 (Int.ofNat n), .int .i64 (Int.ofNat m)]) Try.func64 (by kernel_rfl) rfl (by kernel_rfl) (rl _ _ _ _ _ _ _ _ _ _ _ _ _ _ _ _ (min_n _ _) (hs _) (cv _) (sub_i _ _) (min_i _ _) (mx) (ms) (cr) (str_add (by simp; omega)) (hs _) (cv _)) (.inl rfl) (by kernel_rfl)
theorem request_c (m : Nat) (k : Int) (x y z : Nat) (a b c : List UInt8) (h : AHeap) (hx : x < 65536) (hy : y < 65536) (hz : z < 65536) : ∃ (a2 b2 c2 : List UInt8) (h' : AHeap), C (m + 2) (.fn 27) [.agg (rqV k a b c), .agg [.int .u16 (Int.ofNat x), .int .u16 (Int.ofNat y), .int .u16 (Int.ofNat z)]] h = .ret (.agg (rqV k a2 b2 c2)) h' ∧ Ext h.n h h' ∧ a2.length ≤ 100000 ∧ b2.length ≤ 100000 ∧ c2.length ≤ 100000 := by
  obtain ⟨g0, hg⟩ : ∃ g0, g0 = (((h.push (.cells (rqV k a b c) 42 .own 0 0)).push (.cells [.int .u16 (Int.ofNat x), .int .u16 (Int.ofNat y), .int .u16 (Int.ofNat z)] 44 .own 0 0)).push (.cells [.int .i64 (Int.ofNat 0), .str [], .str [], .str []] 42 .own 0 0)).room 22 := ⟨_, rfl⟩
  have g0n : g0.n = h.n + 25 := by rw [hg]; rfl
  obtain ⟨a2, g1, v1, x1, l1⟩ := rl_c m x 100 a g0 hx (by omega)
  obtain ⟨b2, g2, v2, x2, l2⟩ := rl_c m y 300 b g1 hy (by omega)
  obtain ⟨c2, g3, v3, x3, l3⟩ := rl_c m z 6000 c g2 hz (by omega)
  rw [hg] at v1 x1
  have x1n := x1.n; (try simp only [AHeap.n_push, AHeap.n_set, AHeap.n_room] at x1n); have x2n := x2.n; (try simp only [AHeap.n_push, AHeap.n_set, AHeap.n_room] at x2n); have x3n := x3.n; (try simp only [AHeap.n_push, AHeap.n_set, AHeap.n_room] at x3n)
  refine ⟨a2, b2, c2, _, fn_runF (intr := Ii) (n := m + 1) (args := [.agg (rqV k a b c), .agg [.int .u16 (Int.ofNat x), .int .u16 (Int.ofNat y), .int .u16 (Int.ofNat z)]]) Try.func27 (by kernel_rfl) rfl (by kernel_rfl) (rq _ _ _ _ _ _ _ _ _ _ _ _ _ _ _ _ _ _ _ _ _ _ (ld1A rfl) (ld1A rfl) (by show (_ : Nat) ≤ _; omega) (ld1A rfl) (v1) (ld1A rfl) (by show (_ : Nat) ≤ _; omega) (ld1A rfl) (v2) (ld1A rfl) (by show (_ : Nat) ≤ _; omega) (ld1A rfl) (v3) (stcA rfl rfl) (ld1A rfl) (ld1A rfl) (ld1A rfl) (ld1A rfl) (ld1A rfl) (ld1A rfl) (ld1A rfl) (ld1A rfl) (ld1A rfl)) (.inl rfl) (resS_cell (t := 4) (ty := 42) (p := h.n + 2) (n := 4) (by kernel_rfl) (by kernel_rfl) (by kernel_rfl) (by kernel_rfl) rfl (ldc hgA rfl)), exA, l1, l2, l3⟩
theorem works27_c (m : Nat) (h : AHeap) : C (m + 1) (.fn 32) [] h = .ret (.bool true) h := tab_c (by kernel_rfl)
end Go.Proofs.Wire
