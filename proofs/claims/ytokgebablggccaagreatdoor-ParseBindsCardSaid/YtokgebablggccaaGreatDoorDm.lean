/-
  PROVED HERE: contracts of functions (Dm). No condition beside each statement's own.
-/
import Derived.Test.YtokgebablggccaaGreatDoorDl
import Derived.Test.YtokgebablggccaaGreatDoorSxa
set_option linter.unusedVariables false
set_option linter.unusedSimpArgs false
namespace Go.Proofs.Lx
open Go AEv Go.Proofs Lexp
set_option maxRecDepth 100000
set_option maxHeartbeats 1000000

theorem pb_t (call : CallT → List AV → AHeap → FRes) (a b i k x y e : Nat) (si sk s1 s2 s3 s4 s5 s6 s7 s8 t : List UInt8) (h g1 g2 g3 g4 g5 : AHeap) (n_1 n_2 : Nat)
    (H1 : call (.fn 13) [] h = FRes.ret (.bool true) g1)
    (H2 : AEv.storeCells (AHeap.push g1 (.cells [.str [], .str [], .str [], .str [], .str [], .str [], .str [], .str [], .str []] 38 .own 0 0)) (AHeap.n g1) 0 [.str [111, 114], .str [97, 110, 100], .str [61, 61], .str [60], .str [43], .str [45], .str [46, 46], .str [42], .str [42]] = some g2)
    (H3 : AEv.storeCells (AHeap.push g2 (.cells [.int .i64 (.ofNat 0), .int .i64 (.ofNat 0), .int .i64 (.ofNat 0), .int .i64 (.ofNat 0), .int .i64 (.ofNat 0), .int .i64 (.ofNat 0), .int .i64 (.ofNat 0), .int .i64 (.ofNat 0), .int .i64 (.ofNat 0)] 39 .own 0 0)) (AHeap.n g2) 0 [.int .i64 (.ofNat 0), .int .i64 (.ofNat 1), .int .i64 (.ofNat 2), .int .i64 (.ofNat 2), .int .i64 (.ofNat 3), .int .i64 (.ofNat 3), .int .i64 (.ofNat 3), .int .i64 (.ofNat 4), .int .i64 (.ofNat 4)] = some g3)
    (H4 : arith .rem .u8 (.ofNat a) (.ofNat 9) = some (.int .u8 (.ofNat n_1)))
    (H5 : evConvert Tryz.prog 5 3 (AV.int IntKind.u8 (Int.ofNat n_1)) g3 = OpRes.val (AV.int IntKind.i64 (Int.ofNat i)) g3)
    (H6 : arith .rem .u8 (.ofNat b) (.ofNat 9) = some (.int .u8 (.ofNat n_2)))
    (H7 : evConvert Tryz.prog 5 3 (AV.int IntKind.u8 (Int.ofNat n_2)) g3 = OpRes.val (AV.int IntKind.i64 (Int.ofNat k)) g3)
    (H8 : Nat.le (Nat.succ i) 9 ∧ AV.ptr (AHeap.n g1) i = AV.ptr (AHeap.n g1) (0 + i * 1))
    (H9 : load1 (AHeap.room g3 16) (AHeap.n g1) i = some (.str si))
    (H10 : strOp .add [112, 32] si = some (.str s1))
    (H11 : strOp .add s1 [32, 113, 32] = some (.str s2))
    (H12 : Nat.le (Nat.succ k) 9 ∧ AV.ptr (AHeap.n g1) k = AV.ptr (AHeap.n g1) (0 + k * 1))
    (H13 : load1 (AHeap.room g3 16) (AHeap.n g1) k = some (.str sk))
    (H14 : strOp .add s2 sk = some (.str s3))
    (H15 : strOp .add s3 [32, 114] = some (.str s4))
    (H16 : call (.fn 14) [.str s4] (AHeap.room g3 16) = FRes.ret (.tup [.ptr e 0, .nilI]) g4)
    (H17 : Nat.le (Nat.succ k) 9 ∧ AV.ptr (AHeap.n g2) k = AV.ptr (AHeap.n g2) (0 + k * 1))
    (H18 : load1 (AHeap.room g4 7) (AHeap.n g2) k = some (.int .i64 (.ofNat y)))
    (H19 : Nat.le (Nat.succ i) 9 ∧ AV.ptr (AHeap.n g2) i = AV.ptr (AHeap.n g2) (0 + i * 1))
    (H20 : load1 (AHeap.room g4 7) (AHeap.n g2) i = some (.int .i64 (.ofNat x)))
    (H21 : ltI (.ofNat x) (.ofNat y) = true)
    (H22 : call (.fn 15) [.ptr e 0] (AHeap.room (AHeap.room g4 7) 14) = FRes.ret (.str t) g5)
    (H23 : load1 g5 (AHeap.n g1) i = some (.str si))
    (H24 : strOp .add [40, 112, 41, 32] si = some (.str s5))
    (H25 : strOp .add s5 [32, 40, 40, 113, 41, 32] = some (.str s6))
    (H26 : load1 g5 (AHeap.n g1) k = some (.str sk))
    (H27 : strOp .add s6 sk = some (.str s7))
    (H28 : strOp .add s7 [32, 40, 114, 41, 41] = some (.str s8))
    (H29 : load1 (AHeap.room (AHeap.room g4 7) 14) (AHeap.n g1) i = some (.str si))
    (H30 : load1 (AHeap.room (AHeap.room g4 7) 14) (AHeap.n g1) k = some (.str sk)) :
    RunF Tryz.prog Tryz.f4 none call [] (SSt.mk [(0, .int .u8 (.ofNat a)), (1, .int .u8 (.ofNat b))] [] .none h) (.ret)
      (SSt.mk [(4, .bool (beqBytes t s8))] [] .none g5) :=
  sxF_run [4] (hs := [.c (.bool true) g1, .b false, .vh (.tup []) g2, .vh (.tup []) g3, .v (.int .u8 (.ofNat n_1)), .v (.int .i64 (.ofNat i)), .v (.int .u8 (.ofNat n_2)), .v (.int .i64 (.ofNat k)), .v (.ptr (AHeap.n g1) i), .v (.str si), .v (.str s1), .v (.str s2), .v (.ptr (AHeap.n g1) k), .v (.str sk), .v (.str s3), .v (.str s4), .c (.tup [.ptr e 0, .nilI]) g4, .v (.bool !true), .b false, .v (.ptr (AHeap.n g2) k), .v (.int .i64 (.ofNat y)), .v (.ptr (AHeap.n g2) i), .v (.int .i64 (.ofNat x)), .b true, .c (.str t) g5, .v (.ptr (AHeap.n g1) i), .v (.str si), .v (.str s5), .v (.str s6), .v (.ptr (AHeap.n g1) k), .v (.str sk), .v (.str s7), .v (.str s8)]) (by kernel_rfl) <| .cons H1 <| .cons (by kernel_rfl : (!true) = false) <| .cons (⟨by kernel_rfl, H2, rfl⟩ : some 9 = some 9 ∧ AEv.storeCells (AHeap.push g1 (AObj.cells [AV.str [], AV.str [], AV.str [], AV.str [], AV.str [], AV.str [], AV.str [], AV.str [], AV.str []] 38 BK.own 0 0)) (AHeap.n g1) 0 [AV.str [111, 114], AV.str [97, 110, 100], AV.str [61, 61], AV.str [60], AV.str [43], AV.str [45], AV.str [46, 46], AV.str [42], AV.str [42]] = some g2 ∧ AV.tup [] = AV.tup []) <| .cons (⟨by kernel_rfl, H3, rfl⟩ : some 9 = some 9 ∧ AEv.storeCells (AHeap.push g2 (AObj.cells [AV.int IntKind.i64 (Int.ofNat 0), AV.int IntKind.i64 (Int.ofNat 0), AV.int IntKind.i64 (Int.ofNat 0), AV.int IntKind.i64 (Int.ofNat 0), AV.int IntKind.i64 (Int.ofNat 0), AV.int IntKind.i64 (Int.ofNat 0), AV.int IntKind.i64 (Int.ofNat 0), AV.int IntKind.i64 (Int.ofNat 0), AV.int IntKind.i64 (Int.ofNat 0)] 39 BK.own 0 0)) (AHeap.n g2) 0 [AV.int IntKind.i64 (Int.ofNat 0), AV.int IntKind.i64 (Int.ofNat 1), AV.int IntKind.i64 (Int.ofNat 2), AV.int IntKind.i64 (Int.ofNat 2), AV.int IntKind.i64 (Int.ofNat 3), AV.int IntKind.i64 (Int.ofNat 3), AV.int IntKind.i64 (Int.ofNat 3), AV.int IntKind.i64 (Int.ofNat 4), AV.int IntKind.i64 (Int.ofNat 4)] = some g3 ∧ AV.tup [] = AV.tup []) <| .cons H4 <| .cons H5 <| .cons H6 <| .cons H7 <| .cons H8 <| .cons H9 <| .cons H10 <| .cons H11 <| .cons H12 <| .cons H13 <| .cons H14 <| .cons H15 <| .cons H16 <| .cons (by kernel_rfl : AV.sound (AV.int IntKind.i64 (Int.ofNat i)) = true) <| .cons (by kernel_rfl : AV.int IntKind.i64 (Int.ofNat i) = AV.int IntKind.i64 (Int.ofNat i)) <| .cons (by kernel_rfl : AV.sound (AV.ptr (AHeap.n g1) i) = true) <| .cons H8 <| .cons (by kernel_rfl : AV.sound (AV.str si) = true) <| .cons H9 <| .cons (by kernel_rfl : AV.sound (AV.str s1) = true) <| .cons H10 <| .cons (by kernel_rfl : AV.sound (AV.str s2) = true) <| .cons H11 <| .cons (by kernel_rfl : AV.sound (AV.int IntKind.i64 (Int.ofNat k)) = true) <| .cons (by kernel_rfl : AV.int IntKind.i64 (Int.ofNat k) = AV.int IntKind.i64 (Int.ofNat k)) <| .cons (by kernel_rfl : AV.sound (AV.ptr (AHeap.n g1) k) = true) <| .cons H12 <| .cons (by kernel_rfl : AV.sound (AV.str sk) = true) <| .cons H13 <| .cons (by kernel_rfl : AV.sound (AV.str s3) = true) <| .cons H14 <| .cons (by kernel_rfl : AV.sound (AV.str s4) = true) <| .cons H15 <| .cons (by kernel_rfl : AV.sound (AV.tup [AV.ptr e 0, AV.nilI]) = true) <| .cons (by kernel_rfl : AV.tup [AV.ptr e 0, AV.nilI] = AV.tup [AV.ptr e 0, AV.nilI]) <| .cons (by kernel_rfl : AV.sound (AV.ptr e 0) = true) <| .cons (by kernel_rfl : AV.ptr e 0 = AV.ptr e 0) <| .cons (by kernel_rfl : AV.sound AV.nilI = true) <| .cons (by kernel_rfl : AV.nilI = AV.nilI) <| .cons (by kernel_rfl : AV.sound (AV.ptr e 0) = true) <| .cons (by kernel_rfl : AV.ptr e 0 = AV.ptr e 0) <| .cons (by kernel_rfl : AV.sound AV.nilI = true) <| .cons (by kernel_rfl : AV.nilI = AV.nilI) <| .cons (by kernel_rfl : binA Tryz.prog g4 BinOp.neq 26 (Operand.tmp 35) (Operand.const Value.nilIface) AV.nilI AV.nilI = some (AV.bool !true)) <| .cons (by kernel_rfl : (!true) = false) <| .cons H17 <| .cons H18 <| .cons H19 <| .cons H20 <| .cons (by kernel_rfl : AV.sound (AV.int IntKind.i64 (Int.ofNat k)) = true) <| .cons (by kernel_rfl : AV.int IntKind.i64 (Int.ofNat k) = AV.int IntKind.i64 (Int.ofNat k)) <| .cons (by kernel_rfl : AV.sound (AV.ptr (AHeap.n g2) k) = true) <| .cons H17 <| .cons (by kernel_rfl : AV.sound (AV.int IntKind.i64 (Int.ofNat y)) = true) <| .cons H18 <| .cons (by kernel_rfl : AV.sound (AV.int IntKind.i64 (Int.ofNat i)) = true) <| .cons (by kernel_rfl : AV.int IntKind.i64 (Int.ofNat i) = AV.int IntKind.i64 (Int.ofNat i)) <| .cons (by kernel_rfl : AV.sound (AV.ptr (AHeap.n g2) i) = true) <| .cons H19 <| .cons (by kernel_rfl : AV.sound (AV.int IntKind.i64 (Int.ofNat x)) = true) <| .cons H20 <| .cons (by kernel_rfl : AV.sound (AV.bool (ltI (Int.ofNat x) (Int.ofNat y))) = true) <| .cons (by kernel_rfl : AV.bool (ltI (Int.ofNat x) (Int.ofNat y)) = AV.bool (ltI (Int.ofNat x) (Int.ofNat y))) <| .cons H21 <| .cons H22 <| .cons H8 <| .cons H23 <| .cons H24 <| .cons H25 <| .cons H12 <| .cons H26 <| .cons H27 <| .cons H28 <| .cons (by kernel_rfl : AV.sound (AV.ptr e 0) = true) <| .cons (by kernel_rfl : AV.ptr e 0 = AV.ptr e 0) <| .cons (by kernel_rfl : AV.sound (AV.int IntKind.i64 (Int.ofNat i)) = true) <| .cons (by kernel_rfl : AV.int IntKind.i64 (Int.ofNat i) = AV.int IntKind.i64 (Int.ofNat i)) <| .cons (by kernel_rfl : AV.sound (AV.int IntKind.i64 (Int.ofNat i)) = true) <| .cons (by kernel_rfl : AV.int IntKind.i64 (Int.ofNat i) = AV.int IntKind.i64 (Int.ofNat i)) <| .cons (by kernel_rfl : AV.sound (AV.ptr (AHeap.n g1) i) = true) <| .cons H8 <| .cons (by kernel_rfl : AV.sound (AV.ptr (AHeap.n g1) i) = true) <| .cons H8 <| .cons (by kernel_rfl : AV.sound (AV.str si) = true) <| .cons H23 <| .cons (by kernel_rfl : AV.sound (AV.str si) = true) <| .cons H29 <| .cons (by kernel_rfl : AV.sound (AV.str s5) = true) <| .cons H24 <| .cons (by kernel_rfl : AV.sound (AV.str s5) = true) <| .cons H24 <| .cons (by kernel_rfl : AV.sound (AV.str s6) = true) <| .cons H25 <| .cons (by kernel_rfl : AV.sound (AV.str s6) = true) <| .cons H25 <| .cons (by kernel_rfl : AV.sound (AV.int IntKind.i64 (Int.ofNat k)) = true) <| .cons (by kernel_rfl : AV.int IntKind.i64 (Int.ofNat k) = AV.int IntKind.i64 (Int.ofNat k)) <| .cons (by kernel_rfl : AV.sound (AV.int IntKind.i64 (Int.ofNat k)) = true) <| .cons (by kernel_rfl : AV.int IntKind.i64 (Int.ofNat k) = AV.int IntKind.i64 (Int.ofNat k)) <| .cons (by kernel_rfl : AV.sound (AV.ptr (AHeap.n g1) k) = true) <| .cons H12 <| .cons (by kernel_rfl : AV.sound (AV.ptr (AHeap.n g1) k) = true) <| .cons H12 <| .cons (by kernel_rfl : AV.sound (AV.str sk) = true) <| .cons H26 <| .cons (by kernel_rfl : AV.sound (AV.str sk) = true) <| .cons H30 <| .cons (by kernel_rfl : AV.sound (AV.str s7) = true) <| .cons H27 <| .cons (by kernel_rfl : AV.sound (AV.str s7) = true) <| .cons H27 <| .cons (by kernel_rfl : AV.sound (AV.str s8) = true) <| .cons H28 <| .cons (by kernel_rfl : AV.sound (AV.str s8) = true) <| .cons H28 <| .cons (by kernel_rfl : AV.sound (AV.bool (beqBytes t s8)) = true) <| .cons (by kernel_rfl : AV.bool (beqBytes t s8) = AV.bool (beqBytes t s8)) <| .cons (by kernel_rfl : AV.sound (AV.bool (beqBytes t s8)) = true) <| .cons (by kernel_rfl : AV.bool (beqBytes t s8) = AV.bool (beqBytes t s8)) <| .nil
theorem pb_f (call : CallT → List AV → AHeap → FRes) (a b i k x y e : Nat) (si sk s1 s2 s3 s4 s5 s6 s7 s8 t : List UInt8) (h g1 g2 g3 g4 g5 : AHeap) (n_1 n_2 : Nat)
    (H1 : call (.fn 13) [] h = FRes.ret (.bool true) g1)
    (H2 : AEv.storeCells (AHeap.push g1 (.cells [.str [], .str [], .str [], .str [], .str [], .str [], .str [], .str [], .str []] 38 .own 0 0)) (AHeap.n g1) 0 [.str [111, 114], .str [97, 110, 100], .str [61, 61], .str [60], .str [43], .str [45], .str [46, 46], .str [42], .str [42]] = some g2)
    (H3 : AEv.storeCells (AHeap.push g2 (.cells [.int .i64 (.ofNat 0), .int .i64 (.ofNat 0), .int .i64 (.ofNat 0), .int .i64 (.ofNat 0), .int .i64 (.ofNat 0), .int .i64 (.ofNat 0), .int .i64 (.ofNat 0), .int .i64 (.ofNat 0), .int .i64 (.ofNat 0)] 39 .own 0 0)) (AHeap.n g2) 0 [.int .i64 (.ofNat 0), .int .i64 (.ofNat 1), .int .i64 (.ofNat 2), .int .i64 (.ofNat 2), .int .i64 (.ofNat 3), .int .i64 (.ofNat 3), .int .i64 (.ofNat 3), .int .i64 (.ofNat 4), .int .i64 (.ofNat 4)] = some g3)
    (H4 : arith .rem .u8 (.ofNat a) (.ofNat 9) = some (.int .u8 (.ofNat n_1)))
    (H5 : evConvert Tryz.prog 5 3 (AV.int IntKind.u8 (Int.ofNat n_1)) g3 = OpRes.val (AV.int IntKind.i64 (Int.ofNat i)) g3)
    (H6 : arith .rem .u8 (.ofNat b) (.ofNat 9) = some (.int .u8 (.ofNat n_2)))
    (H7 : evConvert Tryz.prog 5 3 (AV.int IntKind.u8 (Int.ofNat n_2)) g3 = OpRes.val (AV.int IntKind.i64 (Int.ofNat k)) g3)
    (H8 : Nat.le (Nat.succ i) 9 ∧ AV.ptr (AHeap.n g1) i = AV.ptr (AHeap.n g1) (0 + i * 1))
    (H9 : load1 (AHeap.room g3 16) (AHeap.n g1) i = some (.str si))
    (H10 : strOp .add [112, 32] si = some (.str s1))
    (H11 : strOp .add s1 [32, 113, 32] = some (.str s2))
    (H12 : Nat.le (Nat.succ k) 9 ∧ AV.ptr (AHeap.n g1) k = AV.ptr (AHeap.n g1) (0 + k * 1))
    (H13 : load1 (AHeap.room g3 16) (AHeap.n g1) k = some (.str sk))
    (H14 : strOp .add s2 sk = some (.str s3))
    (H15 : strOp .add s3 [32, 114] = some (.str s4))
    (H16 : call (.fn 14) [.str s4] (AHeap.room g3 16) = FRes.ret (.tup [.ptr e 0, .nilI]) g4)
    (H17 : Nat.le (Nat.succ k) 9 ∧ AV.ptr (AHeap.n g2) k = AV.ptr (AHeap.n g2) (0 + k * 1))
    (H18 : load1 (AHeap.room g4 7) (AHeap.n g2) k = some (.int .i64 (.ofNat y)))
    (H19 : Nat.le (Nat.succ i) 9 ∧ AV.ptr (AHeap.n g2) i = AV.ptr (AHeap.n g2) (0 + i * 1))
    (H20 : load1 (AHeap.room g4 7) (AHeap.n g2) i = some (.int .i64 (.ofNat x)))
    (H21 : ltI (.ofNat x) (.ofNat y) = false)
    (H22 : call (.fn 15) [.ptr e 0] (AHeap.room (AHeap.room g4 7) 14) = FRes.ret (.str t) g5)
    (H23 : load1 g5 (AHeap.n g1) i = some (.str si))
    (H24 : strOp .add [40, 40, 112, 41, 32] si = some (.str s5))
    (H25 : strOp .add s5 [32, 40, 113, 41, 41, 32] = some (.str s6))
    (H26 : load1 g5 (AHeap.n g1) k = some (.str sk))
    (H27 : strOp .add s6 sk = some (.str s7))
    (H28 : strOp .add s7 [32, 40, 114, 41] = some (.str s8))
    (H29 : load1 (AHeap.room (AHeap.room g4 7) 14) (AHeap.n g1) i = some (.str si))
    (H30 : load1 (AHeap.room (AHeap.room g4 7) 14) (AHeap.n g1) k = some (.str sk)) :
    RunF Tryz.prog Tryz.f4 none call [] (SSt.mk [(0, .int .u8 (.ofNat a)), (1, .int .u8 (.ofNat b))] [] .none h) (.ret)
      (SSt.mk [(4, .bool (beqBytes t s8))] [] .none g5) :=
  sxF_run [4] (hs := [.c (.bool true) g1, .b false, .vh (.tup []) g2, .vh (.tup []) g3, .v (.int .u8 (.ofNat n_1)), .v (.int .i64 (.ofNat i)), .v (.int .u8 (.ofNat n_2)), .v (.int .i64 (.ofNat k)), .v (.ptr (AHeap.n g1) i), .v (.str si), .v (.str s1), .v (.str s2), .v (.ptr (AHeap.n g1) k), .v (.str sk), .v (.str s3), .v (.str s4), .c (.tup [.ptr e 0, .nilI]) g4, .v (.bool !true), .b false, .v (.ptr (AHeap.n g2) k), .v (.int .i64 (.ofNat y)), .v (.ptr (AHeap.n g2) i), .v (.int .i64 (.ofNat x)), .b false, .c (.str t) g5, .v (.ptr (AHeap.n g1) i), .v (.str si), .v (.str s5), .v (.str s6), .v (.ptr (AHeap.n g1) k), .v (.str sk), .v (.str s7), .v (.str s8)]) (by kernel_rfl) <| .cons H1 <| .cons (by kernel_rfl : (!true) = false) <| .cons (⟨by kernel_rfl, H2, rfl⟩ : some 9 = some 9 ∧ AEv.storeCells (AHeap.push g1 (AObj.cells [AV.str [], AV.str [], AV.str [], AV.str [], AV.str [], AV.str [], AV.str [], AV.str [], AV.str []] 38 BK.own 0 0)) (AHeap.n g1) 0 [AV.str [111, 114], AV.str [97, 110, 100], AV.str [61, 61], AV.str [60], AV.str [43], AV.str [45], AV.str [46, 46], AV.str [42], AV.str [42]] = some g2 ∧ AV.tup [] = AV.tup []) <| .cons (⟨by kernel_rfl, H3, rfl⟩ : some 9 = some 9 ∧ AEv.storeCells (AHeap.push g2 (AObj.cells [AV.int IntKind.i64 (Int.ofNat 0), AV.int IntKind.i64 (Int.ofNat 0), AV.int IntKind.i64 (Int.ofNat 0), AV.int IntKind.i64 (Int.ofNat 0), AV.int IntKind.i64 (Int.ofNat 0), AV.int IntKind.i64 (Int.ofNat 0), AV.int IntKind.i64 (Int.ofNat 0), AV.int IntKind.i64 (Int.ofNat 0), AV.int IntKind.i64 (Int.ofNat 0)] 39 BK.own 0 0)) (AHeap.n g2) 0 [AV.int IntKind.i64 (Int.ofNat 0), AV.int IntKind.i64 (Int.ofNat 1), AV.int IntKind.i64 (Int.ofNat 2), AV.int IntKind.i64 (Int.ofNat 2), AV.int IntKind.i64 (Int.ofNat 3), AV.int IntKind.i64 (Int.ofNat 3), AV.int IntKind.i64 (Int.ofNat 3), AV.int IntKind.i64 (Int.ofNat 4), AV.int IntKind.i64 (Int.ofNat 4)] = some g3 ∧ AV.tup [] = AV.tup []) <| .cons H4 <| .cons H5 <| .cons H6 <| .cons H7 <| .cons H8 <| .cons H9 <| .cons H10 <| .cons H11 <| .cons H12 <| .cons H13 <| .cons H14 <| .cons H15 <| .cons H16 <| .cons (by kernel_rfl : AV.sound (AV.int IntKind.i64 (Int.ofNat i)) = true) <| .cons (by kernel_rfl : AV.int IntKind.i64 (Int.ofNat i) = AV.int IntKind.i64 (Int.ofNat i)) <| .cons (by kernel_rfl : AV.sound (AV.ptr (AHeap.n g1) i) = true) <| .cons H8 <| .cons (by kernel_rfl : AV.sound (AV.str si) = true) <| .cons H9 <| .cons (by kernel_rfl : AV.sound (AV.str s1) = true) <| .cons H10 <| .cons (by kernel_rfl : AV.sound (AV.str s2) = true) <| .cons H11 <| .cons (by kernel_rfl : AV.sound (AV.int IntKind.i64 (Int.ofNat k)) = true) <| .cons (by kernel_rfl : AV.int IntKind.i64 (Int.ofNat k) = AV.int IntKind.i64 (Int.ofNat k)) <| .cons (by kernel_rfl : AV.sound (AV.ptr (AHeap.n g1) k) = true) <| .cons H12 <| .cons (by kernel_rfl : AV.sound (AV.str sk) = true) <| .cons H13 <| .cons (by kernel_rfl : AV.sound (AV.str s3) = true) <| .cons H14 <| .cons (by kernel_rfl : AV.sound (AV.str s4) = true) <| .cons H15 <| .cons (by kernel_rfl : AV.sound (AV.tup [AV.ptr e 0, AV.nilI]) = true) <| .cons (by kernel_rfl : AV.tup [AV.ptr e 0, AV.nilI] = AV.tup [AV.ptr e 0, AV.nilI]) <| .cons (by kernel_rfl : AV.sound (AV.ptr e 0) = true) <| .cons (by kernel_rfl : AV.ptr e 0 = AV.ptr e 0) <| .cons (by kernel_rfl : AV.sound AV.nilI = true) <| .cons (by kernel_rfl : AV.nilI = AV.nilI) <| .cons (by kernel_rfl : AV.sound (AV.ptr e 0) = true) <| .cons (by kernel_rfl : AV.ptr e 0 = AV.ptr e 0) <| .cons (by kernel_rfl : AV.sound AV.nilI = true) <| .cons (by kernel_rfl : AV.nilI = AV.nilI) <| .cons (by kernel_rfl : binA Tryz.prog g4 BinOp.neq 26 (Operand.tmp 35) (Operand.const Value.nilIface) AV.nilI AV.nilI = some (AV.bool !true)) <| .cons (by kernel_rfl : (!true) = false) <| .cons H17 <| .cons H18 <| .cons H19 <| .cons H20 <| .cons (by kernel_rfl : AV.sound (AV.int IntKind.i64 (Int.ofNat k)) = true) <| .cons (by kernel_rfl : AV.int IntKind.i64 (Int.ofNat k) = AV.int IntKind.i64 (Int.ofNat k)) <| .cons (by kernel_rfl : AV.sound (AV.ptr (AHeap.n g2) k) = true) <| .cons H17 <| .cons (by kernel_rfl : AV.sound (AV.int IntKind.i64 (Int.ofNat y)) = true) <| .cons H18 <| .cons (by kernel_rfl : AV.sound (AV.int IntKind.i64 (Int.ofNat i)) = true) <| .cons (by kernel_rfl : AV.int IntKind.i64 (Int.ofNat i) = AV.int IntKind.i64 (Int.ofNat i)) <| .cons (by kernel_rfl : AV.sound (AV.ptr (AHeap.n g2) i) = true) <| .cons H19 <| .cons (by kernel_rfl : AV.sound (AV.int IntKind.i64 (Int.ofNat x)) = true) <| .cons H20 <| .cons (by kernel_rfl : AV.sound (AV.bool (ltI (Int.ofNat x) (Int.ofNat y))) = true) <| .cons (by kernel_rfl : AV.bool (ltI (Int.ofNat x) (Int.ofNat y)) = AV.bool (ltI (Int.ofNat x) (Int.ofNat y))) <| .cons H21 <| .cons H22 <| .cons H8 <| .cons H23 <| .cons H24 <| .cons H25 <| .cons H12 <| .cons H26 <| .cons H27 <| .cons H28 <| .cons (by kernel_rfl : AV.sound (AV.ptr e 0) = true) <| .cons (by kernel_rfl : AV.ptr e 0 = AV.ptr e 0) <| .cons (by kernel_rfl : AV.sound (AV.int IntKind.i64 (Int.ofNat i)) = true) <| .cons (by kernel_rfl : AV.int IntKind.i64 (Int.ofNat i) = AV.int IntKind.i64 (Int.ofNat i)) <| .cons (by kernel_rfl : AV.sound (AV.int IntKind.i64 (Int.ofNat i)) = true) <| .cons (by kernel_rfl : AV.int IntKind.i64 (Int.ofNat i) = AV.int IntKind.i64 (Int.ofNat i)) <| .cons (by kernel_rfl : AV.sound (AV.ptr (AHeap.n g1) i) = true) <| .cons H8 <| .cons (by kernel_rfl : AV.sound (AV.ptr (AHeap.n g1) i) = true) <| .cons H8 <| .cons (by kernel_rfl : AV.sound (AV.str si) = true) <| .cons H23 <| .cons (by kernel_rfl : AV.sound (AV.str si) = true) <| .cons H29 <| .cons (by kernel_rfl : AV.sound (AV.str s5) = true) <| .cons H24 <| .cons (by kernel_rfl : AV.sound (AV.str s5) = true) <| .cons H24 <| .cons (by kernel_rfl : AV.sound (AV.str s6) = true) <| .cons H25 <| .cons (by kernel_rfl : AV.sound (AV.str s6) = true) <| .cons H25 <| .cons (by kernel_rfl : AV.sound (AV.int IntKind.i64 (Int.ofNat k)) = true) <| .cons (by kernel_rfl : AV.int IntKind.i64 (Int.ofNat k) = AV.int IntKind.i64 (Int.ofNat k)) <| .cons (by kernel_rfl : AV.sound (AV.int IntKind.i64 (Int.ofNat k)) = true) <| .cons (by kernel_rfl : AV.int IntKind.i64 (Int.ofNat k) = AV.int IntKind.i64 (Int.ofNat k)) <| .cons (by kernel_rfl : AV.sound (AV.ptr (AHeap.n g1) k) = true) <| .cons H12 <| .cons (by kernel_rfl : AV.sound (AV.ptr (AHeap.n g1) k) = true) <| .cons H12 <| .cons (by kernel_rfl : AV.sound (AV.str sk) = true) <| .cons H26 <| .cons (by kernel_rfl : AV.sound (AV.str sk) = true) <| .cons H30 <| .cons (by kernel_rfl : AV.sound (AV.str s7) = true) <| .cons H27 <| .cons (by kernel_rfl : AV.sound (AV.str s7) = true) <| .cons H27 <| .cons (by kernel_rfl : AV.sound (AV.str s8) = true) <| .cons H28 <| .cons (by kernel_rfl : AV.sound (AV.str s8) = true) <| .cons H28 <| .cons (by kernel_rfl : AV.sound (AV.bool (beqBytes t s8)) = true) <| .cons (by kernel_rfl : AV.bool (beqBytes t s8) = AV.bool (beqBytes t s8)) <| .cons (by kernel_rfl : AV.sound (AV.bool (beqBytes t s8)) = true) <| .cons (by kernel_rfl : AV.bool (beqBytes t s8) = AV.bool (beqBytes t s8)) <| .nil

/-! ### ParseBinds' run, for two signs' numbers -/
def hA (r : Option AHeap) (k : AHeap → Bool) : Bool := match r with | some g => k g | none => false
def sA (r : Option AV) (k : List UInt8 → Bool) : Bool := match r with | some (.str s) => k s | _ => false
def eA (r : Option AV) (s : List UInt8) : Bool := match r with | some (.str t) => beqBytes t s | _ => false
def iA (r : Option AV) (k : Nat → Bool) : Bool := match r with | some (.int .i64 (.ofNat n)) => k n | _ => false
def cB (r : FRes) (k : AHeap → Bool) : Bool := match r with | .ret (.bool true) g => k g | _ => false
def cP (r : FRes) (k : Nat → AHeap → Bool) : Bool := match r with | .ret (.tup [.ptr e 0, .nilI]) g => k e g | _ => false
def cS (r : FRes) (k : List UInt8 → AHeap → Bool) : Bool := match r with | .ret (.str s) g => k s g | _ => false
theorem hA_i {r : Option AHeap} {k : AHeap → Bool} (h : hA r k = true) : ∃ g, r = some g ∧ k g = true := by
  unfold hA at h; split at h
  · exact ⟨_, rfl, h⟩
  · cases h
theorem sA_i {r : Option AV} {k : List UInt8 → Bool} (h : sA r k = true) : ∃ g, r = some (.str g) ∧ k g = true := by
  unfold sA at h; split at h
  · exact ⟨_, rfl, h⟩
  · cases h
theorem eA_i {r : Option AV} {s : List UInt8} (h : eA r s = true) : r = some (.str s) := by
  unfold eA at h; split at h
  · rename_i t
    rw [beqBytes_eq, beq_iff_eq] at h; subst h; rfl
  · cases h
theorem iA_i {r : Option AV} {k : Nat → Bool} (h : iA r k = true) : ∃ n, r = some (.int .i64 (Int.ofNat n)) ∧ k n = true := by
  unfold iA at h; split at h
  · exact ⟨_, rfl, h⟩
  · cases h
theorem cB_i {r : FRes} {k : AHeap → Bool} (h : cB r k = true) : ∃ g, r = .ret (.bool true) g ∧ k g = true := by
  unfold cB at h; split at h
  · exact ⟨_, rfl, h⟩
  · cases h
theorem cP_i {r : FRes} {k : Nat → AHeap → Bool} (h : cP r k = true) : ∃ e g, r = .ret (.tup [.ptr e 0, .nilI]) g ∧ k e g = true := by
  unfold cP at h; split at h
  · exact ⟨_, _, rfl, h⟩
  · cases h
theorem cS_i {r : FRes} {k : List UInt8 → AHeap → Bool} (h : cS r k = true) : ∃ e g, r = .ret (.str e) g ∧ k e g = true := by
  unfold cS at h; split at h
  · exact ⟨_, _, rfl, h⟩
  · cases h
def endB (t sk : List UInt8) (si p m q : List UInt8) : Bool := sA (strOp .add p si) fun s5 => sA (strOp .add s5 m) fun s6 => sA (strOp .add s6 sk) fun s7 => sA (strOp .add s7 q) fun s8 => beqBytes t s8
def pairB (c : CallT → List AV → AHeap → FRes) (h : AHeap) (i k : Nat) : Bool :=
  cB (c (.fn 13) [] h) fun g1 =>
  hA (AEv.storeCells (g1.push (.cells [.str [], .str [], .str [], .str [], .str [], .str [], .str [], .str [], .str []] 38 .own 0 0)) g1.n 0 [.str [111, 114], .str [97, 110, 100], .str [61, 61], .str [60], .str [43], .str [45], .str [46, 46], .str [42], .str [42]]) fun g2 =>
  hA (AEv.storeCells (g2.push (.cells [.int .i64 (Int.ofNat 0), .int .i64 (Int.ofNat 0), .int .i64 (Int.ofNat 0), .int .i64 (Int.ofNat 0), .int .i64 (Int.ofNat 0), .int .i64 (Int.ofNat 0), .int .i64 (Int.ofNat 0), .int .i64 (Int.ofNat 0), .int .i64 (Int.ofNat 0)] 39 .own 0 0)) g2.n 0 [.int .i64 (Int.ofNat 0), .int .i64 (Int.ofNat 1), .int .i64 (Int.ofNat 2), .int .i64 (Int.ofNat 2), .int .i64 (Int.ofNat 3), .int .i64 (Int.ofNat 3), .int .i64 (Int.ofNat 3), .int .i64 (Int.ofNat 4), .int .i64 (Int.ofNat 4)]) fun g3 =>
  sA (load1 (g3.room 16) g1.n i) fun si => sA (strOp .add [112, 32] si) fun s1 => sA (strOp .add s1 [32, 113, 32]) fun s2 => sA (load1 (g3.room 16) g1.n k) fun sk => sA (strOp .add s2 sk) fun s3 => sA (strOp .add s3 [32, 114]) fun s4 =>
  cP (c (.fn 14) [.str s4] (g3.room 16)) fun e g4 =>
  iA (load1 (g4.room 7) g2.n k) fun y => iA (load1 (g4.room 7) g2.n i) fun x =>
  cS (c (.fn 15) [.ptr e 0] ((g4.room 7).room 14)) fun t g5 =>
  eA (load1 g5 g1.n i) si && (eA (load1 g5 g1.n k) sk && (eA (load1 ((g4.room 7).room 14) g1.n i) si && (eA (load1 ((g4.room 7).room 14) g1.n k) sk &&
    match ltI (Int.ofNat x) (Int.ofNat y) with
    | true => endB t sk si [40, 112, 41, 32] [32, 40, 40, 113, 41, 32] [32, 40, 114, 41, 41]
    | false => endB t sk si [40, 40, 112, 41, 32] [32, 40, 113, 41, 41, 32] [32, 40, 114, 41])))
theorem rem9 (a : Nat) : arith BinOp.rem .u8 (Int.ofNat a) (Int.ofNat 9) = some (.int .u8 (Int.ofNat (a % 9))) := by
  unfold arith
  rw [if_neg (by decide)]
  rfl
theorem conv9 (a : Nat) (h : AHeap) : evConvert Tryz.prog 5 3 (.int .u8 (Int.ofNat (a % 9))) h = .val (.int .i64 (Int.ofNat (a % 9))) h := conv_int (ka := .u8) (by kernel_rfl) (by kernel_rfl) (wrap_nat (a % 9) (by omega))
theorem pair_run (c : CallT → List AV → AHeap → FRes) (h : AHeap) (a b : Nat) (hp : pairB c h (a % 9) (b % 9) = true) : ∃ g, RunF Tryz.prog Tryz.f4 none c [] ⟨[(0, .int .u8 (Int.ofNat a)), (1, .int .u8 (Int.ofNat b))], [], .none, h⟩ .ret ⟨[(4, .bool true)], [], .none, g⟩ := by
  have ha : a % 9 < 9 := by omega
  have hb : b % 9 < 9 := by omega
  have e0 : ∀ x i : Nat, AV.ptr x i = AV.ptr x (0 + i * 1) := fun x i => by congr 1; omega
  unfold pairB at hp
  obtain ⟨g1, H1, hp⟩ := cB_i hp
  obtain ⟨g2, H2, hp⟩ := hA_i hp
  obtain ⟨g3, H3, hp⟩ := hA_i hp
  obtain ⟨si, H9, hp⟩ := sA_i hp
  obtain ⟨s1, H10, hp⟩ := sA_i hp
  obtain ⟨s2, H11, hp⟩ := sA_i hp
  obtain ⟨sk, H13, hp⟩ := sA_i hp
  obtain ⟨s3, H14, hp⟩ := sA_i hp
  obtain ⟨s4, H15, hp⟩ := sA_i hp
  obtain ⟨e, g4, H16, hp⟩ := cP_i hp
  obtain ⟨y, H18, hp⟩ := iA_i hp
  obtain ⟨x, H20, hp⟩ := iA_i hp
  obtain ⟨t, g5, H22, hp⟩ := cS_i hp
  rw [Bool.and_eq_true] at hp
  obtain ⟨H23, hp⟩ := hp
  rw [Bool.and_eq_true] at hp
  obtain ⟨H26, hp⟩ := hp
  rw [Bool.and_eq_true] at hp
  obtain ⟨H29, hp⟩ := hp
  rw [Bool.and_eq_true] at hp
  obtain ⟨H30, hp⟩ := hp
  have H23 := eA_i H23
  have H26 := eA_i H26
  have H29 := eA_i H29
  have H30 := eA_i H30
  split at hp
  · rename_i H21
    unfold endB at hp
    obtain ⟨s5, H24, hp⟩ := sA_i hp
    obtain ⟨s6, H25, hp⟩ := sA_i hp
    obtain ⟨s7, H27, hp⟩ := sA_i hp
    obtain ⟨s8, H28, hp⟩ := sA_i hp
    have r := pb_t c a b (a % 9) (b % 9) x y e si sk s1 s2 s3 s4 s5 s6 s7 s8 t h g1 g2 g3 g4 g5 _ _ H1 H2 H3 (rem9 a) (conv9 a g3) (rem9 b) (conv9 b g3) ⟨ha, e0 _ _⟩ H9 H10 H11 ⟨hb, e0 _ _⟩ H13 H14 H15 H16 ⟨hb, e0 _ _⟩ H18 ⟨ha, e0 _ _⟩ H20 H21 H22 H23 H24 H25 H26 H27 H28 H29 H30
    rw [hp] at r
    exact ⟨g5, r⟩
  · rename_i H21
    unfold endB at hp
    obtain ⟨s5, H24, hp⟩ := sA_i hp
    obtain ⟨s6, H25, hp⟩ := sA_i hp
    obtain ⟨s7, H27, hp⟩ := sA_i hp
    obtain ⟨s8, H28, hp⟩ := sA_i hp
    have r := pb_f c a b (a % 9) (b % 9) x y e si sk s1 s2 s3 s4 s5 s6 s7 s8 t h g1 g2 g3 g4 g5 _ _ H1 H2 H3 (rem9 a) (conv9 a g3) (rem9 b) (conv9 b g3) ⟨ha, e0 _ _⟩ H9 H10 H11 ⟨hb, e0 _ _⟩ H13 H14 H15 H16 ⟨hb, e0 _ _⟩ H18 ⟨ha, e0 _ _⟩ H20 H21 H22 H23 H24 H25 H26 H27 H28 H29 H30
    rw [hp] at r
    exact ⟨g5, r⟩
noncomputable def Cb : CallT → List AV → AHeap → FRes := callN Tryz.prog Ib 200
end Go.Proofs.Lx

namespace Go.Proofs.Lx
open Go AEv Go.Proofs Lexp
set_option maxRecDepth 100000
set_option maxHeartbeats 1000000
theorem pair_0_0 (els : Nat → Nat) (el : Nat) (fz : Nat × Nat) : pairB Cb (heapE els [] el fz) 0 0 = true := by kernel_rfl
theorem pair_0_1 (els : Nat → Nat) (el : Nat) (fz : Nat × Nat) : pairB Cb (heapE els [] el fz) 0 1 = true := by kernel_rfl
theorem pair_0_2 (els : Nat → Nat) (el : Nat) (fz : Nat × Nat) : pairB Cb (heapE els [] el fz) 0 2 = true := by kernel_rfl
theorem pair_0_3 (els : Nat → Nat) (el : Nat) (fz : Nat × Nat) : pairB Cb (heapE els [] el fz) 0 3 = true := by kernel_rfl
theorem pair_0_4 (els : Nat → Nat) (el : Nat) (fz : Nat × Nat) : pairB Cb (heapE els [] el fz) 0 4 = true := by kernel_rfl
theorem pair_0_5 (els : Nat → Nat) (el : Nat) (fz : Nat × Nat) : pairB Cb (heapE els [] el fz) 0 5 = true := by kernel_rfl
theorem pair_0_6 (els : Nat → Nat) (el : Nat) (fz : Nat × Nat) : pairB Cb (heapE els [] el fz) 0 6 = true := by kernel_rfl
theorem pair_0_7 (els : Nat → Nat) (el : Nat) (fz : Nat × Nat) : pairB Cb (heapE els [] el fz) 0 7 = true := by kernel_rfl
theorem pair_0_8 (els : Nat → Nat) (el : Nat) (fz : Nat × Nat) : pairB Cb (heapE els [] el fz) 0 8 = true := by kernel_rfl
theorem pairs_0 (els : Nat → Nat) (el : Nat) (fz : Nat × Nat) : ∀ k, k < 9 → pairB Cb (heapE els [] el fz) 0 k = true
  | 0, _ => pair_0_0 els el fz
  | 1, _ => pair_0_1 els el fz
  | 2, _ => pair_0_2 els el fz
  | 3, _ => pair_0_3 els el fz
  | 4, _ => pair_0_4 els el fz
  | 5, _ => pair_0_5 els el fz
  | 6, _ => pair_0_6 els el fz
  | 7, _ => pair_0_7 els el fz
  | 8, _ => pair_0_8 els el fz
  | n + 9, h => absurd h (by omega)
theorem pair_1_0 (els : Nat → Nat) (el : Nat) (fz : Nat × Nat) : pairB Cb (heapE els [] el fz) 1 0 = true := by kernel_rfl
theorem pair_1_1 (els : Nat → Nat) (el : Nat) (fz : Nat × Nat) : pairB Cb (heapE els [] el fz) 1 1 = true := by kernel_rfl
theorem pair_1_2 (els : Nat → Nat) (el : Nat) (fz : Nat × Nat) : pairB Cb (heapE els [] el fz) 1 2 = true := by kernel_rfl
theorem pair_1_3 (els : Nat → Nat) (el : Nat) (fz : Nat × Nat) : pairB Cb (heapE els [] el fz) 1 3 = true := by kernel_rfl
theorem pair_1_4 (els : Nat → Nat) (el : Nat) (fz : Nat × Nat) : pairB Cb (heapE els [] el fz) 1 4 = true := by kernel_rfl
theorem pair_1_5 (els : Nat → Nat) (el : Nat) (fz : Nat × Nat) : pairB Cb (heapE els [] el fz) 1 5 = true := by kernel_rfl
theorem pair_1_6 (els : Nat → Nat) (el : Nat) (fz : Nat × Nat) : pairB Cb (heapE els [] el fz) 1 6 = true := by kernel_rfl
theorem pair_1_7 (els : Nat → Nat) (el : Nat) (fz : Nat × Nat) : pairB Cb (heapE els [] el fz) 1 7 = true := by kernel_rfl
theorem pair_1_8 (els : Nat → Nat) (el : Nat) (fz : Nat × Nat) : pairB Cb (heapE els [] el fz) 1 8 = true := by kernel_rfl
theorem pairs_1 (els : Nat → Nat) (el : Nat) (fz : Nat × Nat) : ∀ k, k < 9 → pairB Cb (heapE els [] el fz) 1 k = true
  | 0, _ => pair_1_0 els el fz
  | 1, _ => pair_1_1 els el fz
  | 2, _ => pair_1_2 els el fz
  | 3, _ => pair_1_3 els el fz
  | 4, _ => pair_1_4 els el fz
  | 5, _ => pair_1_5 els el fz
  | 6, _ => pair_1_6 els el fz
  | 7, _ => pair_1_7 els el fz
  | 8, _ => pair_1_8 els el fz
  | n + 9, h => absurd h (by omega)
theorem pair_2_0 (els : Nat → Nat) (el : Nat) (fz : Nat × Nat) : pairB Cb (heapE els [] el fz) 2 0 = true := by kernel_rfl
theorem pair_2_1 (els : Nat → Nat) (el : Nat) (fz : Nat × Nat) : pairB Cb (heapE els [] el fz) 2 1 = true := by kernel_rfl
theorem pair_2_2 (els : Nat → Nat) (el : Nat) (fz : Nat × Nat) : pairB Cb (heapE els [] el fz) 2 2 = true := by kernel_rfl
theorem pair_2_3 (els : Nat → Nat) (el : Nat) (fz : Nat × Nat) : pairB Cb (heapE els [] el fz) 2 3 = true := by kernel_rfl
theorem pair_2_4 (els : Nat → Nat) (el : Nat) (fz : Nat × Nat) : pairB Cb (heapE els [] el fz) 2 4 = true := by kernel_rfl
theorem pair_2_5 (els : Nat → Nat) (el : Nat) (fz : Nat × Nat) : pairB Cb (heapE els [] el fz) 2 5 = true := by kernel_rfl
theorem pair_2_6 (els : Nat → Nat) (el : Nat) (fz : Nat × Nat) : pairB Cb (heapE els [] el fz) 2 6 = true := by kernel_rfl
theorem pair_2_7 (els : Nat → Nat) (el : Nat) (fz : Nat × Nat) : pairB Cb (heapE els [] el fz) 2 7 = true := by kernel_rfl
theorem pair_2_8 (els : Nat → Nat) (el : Nat) (fz : Nat × Nat) : pairB Cb (heapE els [] el fz) 2 8 = true := by kernel_rfl
theorem pairs_2 (els : Nat → Nat) (el : Nat) (fz : Nat × Nat) : ∀ k, k < 9 → pairB Cb (heapE els [] el fz) 2 k = true
  | 0, _ => pair_2_0 els el fz
  | 1, _ => pair_2_1 els el fz
  | 2, _ => pair_2_2 els el fz
  | 3, _ => pair_2_3 els el fz
  | 4, _ => pair_2_4 els el fz
  | 5, _ => pair_2_5 els el fz
  | 6, _ => pair_2_6 els el fz
  | 7, _ => pair_2_7 els el fz
  | 8, _ => pair_2_8 els el fz
  | n + 9, h => absurd h (by omega)
end Go.Proofs.Lx

namespace Go.Proofs.Lx
open Go AEv Go.Proofs Lexp
set_option maxRecDepth 100000
set_option maxHeartbeats 1000000
theorem pair_3_0 (els : Nat → Nat) (el : Nat) (fz : Nat × Nat) : pairB Cb (heapE els [] el fz) 3 0 = true := by kernel_rfl
theorem pair_3_1 (els : Nat → Nat) (el : Nat) (fz : Nat × Nat) : pairB Cb (heapE els [] el fz) 3 1 = true := by kernel_rfl
theorem pair_3_2 (els : Nat → Nat) (el : Nat) (fz : Nat × Nat) : pairB Cb (heapE els [] el fz) 3 2 = true := by kernel_rfl
theorem pair_3_3 (els : Nat → Nat) (el : Nat) (fz : Nat × Nat) : pairB Cb (heapE els [] el fz) 3 3 = true := by kernel_rfl
theorem pair_3_4 (els : Nat → Nat) (el : Nat) (fz : Nat × Nat) : pairB Cb (heapE els [] el fz) 3 4 = true := by kernel_rfl
theorem pair_3_5 (els : Nat → Nat) (el : Nat) (fz : Nat × Nat) : pairB Cb (heapE els [] el fz) 3 5 = true := by kernel_rfl
theorem pair_3_6 (els : Nat → Nat) (el : Nat) (fz : Nat × Nat) : pairB Cb (heapE els [] el fz) 3 6 = true := by kernel_rfl
theorem pair_3_7 (els : Nat → Nat) (el : Nat) (fz : Nat × Nat) : pairB Cb (heapE els [] el fz) 3 7 = true := by kernel_rfl
theorem pair_3_8 (els : Nat → Nat) (el : Nat) (fz : Nat × Nat) : pairB Cb (heapE els [] el fz) 3 8 = true := by kernel_rfl
theorem pairs_3 (els : Nat → Nat) (el : Nat) (fz : Nat × Nat) : ∀ k, k < 9 → pairB Cb (heapE els [] el fz) 3 k = true
  | 0, _ => pair_3_0 els el fz
  | 1, _ => pair_3_1 els el fz
  | 2, _ => pair_3_2 els el fz
  | 3, _ => pair_3_3 els el fz
  | 4, _ => pair_3_4 els el fz
  | 5, _ => pair_3_5 els el fz
  | 6, _ => pair_3_6 els el fz
  | 7, _ => pair_3_7 els el fz
  | 8, _ => pair_3_8 els el fz
  | n + 9, h => absurd h (by omega)
theorem pair_4_0 (els : Nat → Nat) (el : Nat) (fz : Nat × Nat) : pairB Cb (heapE els [] el fz) 4 0 = true := by kernel_rfl
theorem pair_4_1 (els : Nat → Nat) (el : Nat) (fz : Nat × Nat) : pairB Cb (heapE els [] el fz) 4 1 = true := by kernel_rfl
theorem pair_4_2 (els : Nat → Nat) (el : Nat) (fz : Nat × Nat) : pairB Cb (heapE els [] el fz) 4 2 = true := by kernel_rfl
theorem pair_4_3 (els : Nat → Nat) (el : Nat) (fz : Nat × Nat) : pairB Cb (heapE els [] el fz) 4 3 = true := by kernel_rfl
theorem pair_4_4 (els : Nat → Nat) (el : Nat) (fz : Nat × Nat) : pairB Cb (heapE els [] el fz) 4 4 = true := by kernel_rfl
theorem pair_4_5 (els : Nat → Nat) (el : Nat) (fz : Nat × Nat) : pairB Cb (heapE els [] el fz) 4 5 = true := by kernel_rfl
theorem pair_4_6 (els : Nat → Nat) (el : Nat) (fz : Nat × Nat) : pairB Cb (heapE els [] el fz) 4 6 = true := by kernel_rfl
theorem pair_4_7 (els : Nat → Nat) (el : Nat) (fz : Nat × Nat) : pairB Cb (heapE els [] el fz) 4 7 = true := by kernel_rfl
theorem pair_4_8 (els : Nat → Nat) (el : Nat) (fz : Nat × Nat) : pairB Cb (heapE els [] el fz) 4 8 = true := by kernel_rfl
theorem pairs_4 (els : Nat → Nat) (el : Nat) (fz : Nat × Nat) : ∀ k, k < 9 → pairB Cb (heapE els [] el fz) 4 k = true
  | 0, _ => pair_4_0 els el fz
  | 1, _ => pair_4_1 els el fz
  | 2, _ => pair_4_2 els el fz
  | 3, _ => pair_4_3 els el fz
  | 4, _ => pair_4_4 els el fz
  | 5, _ => pair_4_5 els el fz
  | 6, _ => pair_4_6 els el fz
  | 7, _ => pair_4_7 els el fz
  | 8, _ => pair_4_8 els el fz
  | n + 9, h => absurd h (by omega)
theorem pair_5_0 (els : Nat → Nat) (el : Nat) (fz : Nat × Nat) : pairB Cb (heapE els [] el fz) 5 0 = true := by kernel_rfl
theorem pair_5_1 (els : Nat → Nat) (el : Nat) (fz : Nat × Nat) : pairB Cb (heapE els [] el fz) 5 1 = true := by kernel_rfl
theorem pair_5_2 (els : Nat → Nat) (el : Nat) (fz : Nat × Nat) : pairB Cb (heapE els [] el fz) 5 2 = true := by kernel_rfl
theorem pair_5_3 (els : Nat → Nat) (el : Nat) (fz : Nat × Nat) : pairB Cb (heapE els [] el fz) 5 3 = true := by kernel_rfl
theorem pair_5_4 (els : Nat → Nat) (el : Nat) (fz : Nat × Nat) : pairB Cb (heapE els [] el fz) 5 4 = true := by kernel_rfl
theorem pair_5_5 (els : Nat → Nat) (el : Nat) (fz : Nat × Nat) : pairB Cb (heapE els [] el fz) 5 5 = true := by kernel_rfl
theorem pair_5_6 (els : Nat → Nat) (el : Nat) (fz : Nat × Nat) : pairB Cb (heapE els [] el fz) 5 6 = true := by kernel_rfl
theorem pair_5_7 (els : Nat → Nat) (el : Nat) (fz : Nat × Nat) : pairB Cb (heapE els [] el fz) 5 7 = true := by kernel_rfl
theorem pair_5_8 (els : Nat → Nat) (el : Nat) (fz : Nat × Nat) : pairB Cb (heapE els [] el fz) 5 8 = true := by kernel_rfl
theorem pairs_5 (els : Nat → Nat) (el : Nat) (fz : Nat × Nat) : ∀ k, k < 9 → pairB Cb (heapE els [] el fz) 5 k = true
  | 0, _ => pair_5_0 els el fz
  | 1, _ => pair_5_1 els el fz
  | 2, _ => pair_5_2 els el fz
  | 3, _ => pair_5_3 els el fz
  | 4, _ => pair_5_4 els el fz
  | 5, _ => pair_5_5 els el fz
  | 6, _ => pair_5_6 els el fz
  | 7, _ => pair_5_7 els el fz
  | 8, _ => pair_5_8 els el fz
  | n + 9, h => absurd h (by omega)
end Go.Proofs.Lx

namespace Go.Proofs.Lx
open Go AEv Go.Proofs Lexp
set_option maxRecDepth 100000
set_option maxHeartbeats 1000000
theorem pair_6_0 (els : Nat → Nat) (el : Nat) (fz : Nat × Nat) : pairB Cb (heapE els [] el fz) 6 0 = true := by kernel_rfl
theorem pair_6_1 (els : Nat → Nat) (el : Nat) (fz : Nat × Nat) : pairB Cb (heapE els [] el fz) 6 1 = true := by kernel_rfl
theorem pair_6_2 (els : Nat → Nat) (el : Nat) (fz : Nat × Nat) : pairB Cb (heapE els [] el fz) 6 2 = true := by kernel_rfl
theorem pair_6_3 (els : Nat → Nat) (el : Nat) (fz : Nat × Nat) : pairB Cb (heapE els [] el fz) 6 3 = true := by kernel_rfl
theorem pair_6_4 (els : Nat → Nat) (el : Nat) (fz : Nat × Nat) : pairB Cb (heapE els [] el fz) 6 4 = true := by kernel_rfl
theorem pair_6_5 (els : Nat → Nat) (el : Nat) (fz : Nat × Nat) : pairB Cb (heapE els [] el fz) 6 5 = true := by kernel_rfl
theorem pair_6_6 (els : Nat → Nat) (el : Nat) (fz : Nat × Nat) : pairB Cb (heapE els [] el fz) 6 6 = true := by kernel_rfl
theorem pair_6_7 (els : Nat → Nat) (el : Nat) (fz : Nat × Nat) : pairB Cb (heapE els [] el fz) 6 7 = true := by kernel_rfl
theorem pair_6_8 (els : Nat → Nat) (el : Nat) (fz : Nat × Nat) : pairB Cb (heapE els [] el fz) 6 8 = true := by kernel_rfl
theorem pairs_6 (els : Nat → Nat) (el : Nat) (fz : Nat × Nat) : ∀ k, k < 9 → pairB Cb (heapE els [] el fz) 6 k = true
  | 0, _ => pair_6_0 els el fz
  | 1, _ => pair_6_1 els el fz
  | 2, _ => pair_6_2 els el fz
  | 3, _ => pair_6_3 els el fz
  | 4, _ => pair_6_4 els el fz
  | 5, _ => pair_6_5 els el fz
  | 6, _ => pair_6_6 els el fz
  | 7, _ => pair_6_7 els el fz
  | 8, _ => pair_6_8 els el fz
  | n + 9, h => absurd h (by omega)
theorem pair_7_0 (els : Nat → Nat) (el : Nat) (fz : Nat × Nat) : pairB Cb (heapE els [] el fz) 7 0 = true := by kernel_rfl
theorem pair_7_1 (els : Nat → Nat) (el : Nat) (fz : Nat × Nat) : pairB Cb (heapE els [] el fz) 7 1 = true := by kernel_rfl
theorem pair_7_2 (els : Nat → Nat) (el : Nat) (fz : Nat × Nat) : pairB Cb (heapE els [] el fz) 7 2 = true := by kernel_rfl
theorem pair_7_3 (els : Nat → Nat) (el : Nat) (fz : Nat × Nat) : pairB Cb (heapE els [] el fz) 7 3 = true := by kernel_rfl
theorem pair_7_4 (els : Nat → Nat) (el : Nat) (fz : Nat × Nat) : pairB Cb (heapE els [] el fz) 7 4 = true := by kernel_rfl
theorem pair_7_5 (els : Nat → Nat) (el : Nat) (fz : Nat × Nat) : pairB Cb (heapE els [] el fz) 7 5 = true := by kernel_rfl
theorem pair_7_6 (els : Nat → Nat) (el : Nat) (fz : Nat × Nat) : pairB Cb (heapE els [] el fz) 7 6 = true := by kernel_rfl
theorem pair_7_7 (els : Nat → Nat) (el : Nat) (fz : Nat × Nat) : pairB Cb (heapE els [] el fz) 7 7 = true := by kernel_rfl
theorem pair_7_8 (els : Nat → Nat) (el : Nat) (fz : Nat × Nat) : pairB Cb (heapE els [] el fz) 7 8 = true := by kernel_rfl
theorem pairs_7 (els : Nat → Nat) (el : Nat) (fz : Nat × Nat) : ∀ k, k < 9 → pairB Cb (heapE els [] el fz) 7 k = true
  | 0, _ => pair_7_0 els el fz
  | 1, _ => pair_7_1 els el fz
  | 2, _ => pair_7_2 els el fz
  | 3, _ => pair_7_3 els el fz
  | 4, _ => pair_7_4 els el fz
  | 5, _ => pair_7_5 els el fz
  | 6, _ => pair_7_6 els el fz
  | 7, _ => pair_7_7 els el fz
  | 8, _ => pair_7_8 els el fz
  | n + 9, h => absurd h (by omega)
theorem pair_8_0 (els : Nat → Nat) (el : Nat) (fz : Nat × Nat) : pairB Cb (heapE els [] el fz) 8 0 = true := by kernel_rfl
theorem pair_8_1 (els : Nat → Nat) (el : Nat) (fz : Nat × Nat) : pairB Cb (heapE els [] el fz) 8 1 = true := by kernel_rfl
theorem pair_8_2 (els : Nat → Nat) (el : Nat) (fz : Nat × Nat) : pairB Cb (heapE els [] el fz) 8 2 = true := by kernel_rfl
theorem pair_8_3 (els : Nat → Nat) (el : Nat) (fz : Nat × Nat) : pairB Cb (heapE els [] el fz) 8 3 = true := by kernel_rfl
theorem pair_8_4 (els : Nat → Nat) (el : Nat) (fz : Nat × Nat) : pairB Cb (heapE els [] el fz) 8 4 = true := by kernel_rfl
theorem pair_8_5 (els : Nat → Nat) (el : Nat) (fz : Nat × Nat) : pairB Cb (heapE els [] el fz) 8 5 = true := by kernel_rfl
theorem pair_8_6 (els : Nat → Nat) (el : Nat) (fz : Nat × Nat) : pairB Cb (heapE els [] el fz) 8 6 = true := by kernel_rfl
theorem pair_8_7 (els : Nat → Nat) (el : Nat) (fz : Nat × Nat) : pairB Cb (heapE els [] el fz) 8 7 = true := by kernel_rfl
theorem pair_8_8 (els : Nat → Nat) (el : Nat) (fz : Nat × Nat) : pairB Cb (heapE els [] el fz) 8 8 = true := by kernel_rfl
theorem pairs_8 (els : Nat → Nat) (el : Nat) (fz : Nat × Nat) : ∀ k, k < 9 → pairB Cb (heapE els [] el fz) 8 k = true
  | 0, _ => pair_8_0 els el fz
  | 1, _ => pair_8_1 els el fz
  | 2, _ => pair_8_2 els el fz
  | 3, _ => pair_8_3 els el fz
  | 4, _ => pair_8_4 els el fz
  | 5, _ => pair_8_5 els el fz
  | 6, _ => pair_8_6 els el fz
  | 7, _ => pair_8_7 els el fz
  | 8, _ => pair_8_8 els el fz
  | n + 9, h => absurd h (by omega)
end Go.Proofs.Lx
