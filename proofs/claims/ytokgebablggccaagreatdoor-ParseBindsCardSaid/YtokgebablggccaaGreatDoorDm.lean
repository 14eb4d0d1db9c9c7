/-
  PROVED HERE: contracts of functions (Dm). No condition beside each statement's own.
-/
import Derived.Test.YtokgebablggccaaGreatDoorDa
import Derived.Test.YtokgebablggccaaGreatDoorDc
import Derived.Test.YtokgebablggccaaGreatDoorDd
import Derived.Test.YtokgebablggccaaGreatDoorDe
import Derived.Test.YtokgebablggccaaGreatDoorDf
import Derived.Test.YtokgebablggccaaGreatDoorDg
import Derived.Test.YtokgebablggccaaGreatDoorDh
import Derived.Test.YtokgebablggccaaGreatDoorDi
import Derived.Test.YtokgebablggccaaGreatDoorDj
import Derived.Test.YtokgebablggccaaGreatDoorDk
import Derived.Test.YtokgebablggccaaGreatDoorDl
import Derived.Test.YtokgebablggccaaGreatDoorSxa
set_option linter.unusedVariables false
set_option linter.unusedSimpArgs false
namespace Go.Proofs.Lx
open Go AEv Go.Proofs Lexp
set_option maxRecDepth 100000
set_option maxHeartbeats 1000000
/- lodger/lodgerlaw10.value '1 + 2 * y.z(3)' -/
noncomputable def ePw_0 : EntR := ⟨14, [.str [49, 32, 43, 32, 50, 32, 42, 32, 121, 46, 122, 40, 51, 41]], .ret (.tup [.ptr 1690 0, .nilI]) (mkH 2486 [(1587, .cells [.int .i64 (1), .int .i64 (8), .int .i64 (1), .str [], .nilP, .nilP, .nilP, .nilP, .nilS, .nilS, .nilS] 61 .own 0 0), (1690, .cells [.int .i64 (13), .int .i64 (10), .int .i64 (0), .str [43], .ptr 1587 0, .ptr 1822 0, .nilP, .nilP, .nilS, .nilS, .nilS] 61 .own 0 0), (1745, .cells [.int .i64 (1), .int .i64 (12), .int .i64 (2), .str [], .nilP, .nilP, .nilP, .nilP, .nilS, .nilS, .nilS] 61 .own 0 0), (1822, .cells [.int .i64 (13), .int .i64 (14), .int .i64 (0), .str [42], .ptr 1745 0, .ptr 2302 0, .nilP, .nilP, .nilS, .nilS, .nilS] 61 .own 0 0), (1871, .cells [.int .i64 (6), .int .i64 (16), .int .i64 (0), .str [121], .nilP, .nilP, .nilP, .nilP, .nilS, .nilS, .nilS] 61 .own 0 0), (1912, .cells [.int .i64 (7), .int .i64 (17), .int .i64 (0), .str [122], .ptr 1871 0, .nilP, .nilP, .nilP, .nilS, .nilS, .nilS] 61 .own 0 0), (2101, .cells [.int .i64 (1), .int .i64 (20), .int .i64 (3), .str [], .nilP, .nilP, .nilP, .nilP, .nilS, .nilS, .nilS] 61 .own 0 0), (2273, .cells [.ptr 2101 0] 40 .opn 0 0), (2302, .cells [.int .i64 (9), .int .i64 (19), .int .i64 (0), .str [], .ptr 1912 0, .nilP, .nilP, .nilP, .nilS, .nilS, .slice 2273 0 1 (.opn 1)] 61 .own 0 0)])⟩
theorem ePw_0_ok (hf : Fit Tryz.prog) : EntSOK Tryz.prog tabs ePw_0 := ⟨tabIntrT tabs [], 200, int0_ok hf, rfl, fun els => by kernel_rfl⟩
/- lodger/parse.Parse 'fun f(a: int, b) = fn(c) => c' -/
noncomputable def ePw_1 : EntR := ⟨9, [.str [102, 117, 110, 32, 102, 40, 97, 58, 32, 105, 110, 116, 44, 32, 98, 41, 32, 61, 32, 102, 110, 40, 99, 41, 32, 61, 62, 32, 99]], .ret (.tup [.slice 2265 0 1 (.opn 1), .nilI]) (mkH 2278 [(1472, .cells [.int .i64 (4), .int .i64 (0), .str [102], .str [], .nilP, .ptr 1808 0, .slice 1721 0 2 (.opn 1), .slice 1737 0 2 (.opn 1)] 51 .own 0 0), (1635, .cells [.int .i64 (1), .int .i64 (9), .str [], .str [], .nilS, .nilS, .nilP] 58 .own 0 0), (1721, .cells [.str [97], .str [98]] 9 .opn 0 0), (1737, .cells [.ptr 1635 0, .nilP] 47 .opn 0 0), (1808, .cells [.int .i64 (10), .int .i64 (19), .int .i64 (0), .str [], .ptr 2094 0, .nilP, .nilP, .nilP, .slice 1901 0 1 (.opn 1), .slice 1917 0 1 (.opn 1), .nilS] 61 .own 0 0), (1901, .cells [.str [99]] 9 .opn 0 0), (1917, .cells [.nilP] 47 .opn 0 0), (2094, .cells [.int .i64 (6), .int .i64 (28), .int .i64 (0), .str [99], .nilP, .nilP, .nilP, .nilP, .nilS, .nilS, .nilS] 61 .own 0 0), (2265, .cells [.ptr 1472 0] 52 .opn 0 0)])⟩
theorem ePw_1_ok (hf : Fit Tryz.prog) : EntSOK Tryz.prog tabs ePw_1 := ⟨tabIntrT tabs [], 200, int0_ok hf, rfl, fun els => by kernel_rfl⟩
/- lodger/parse.Parse 'let x 1' -/
noncomputable def ePw_2 : EntR := ⟨9, [.str [108, 101, 116, 32, 120, 32, 49]], .ret (.tup [.nilS, .iface 68 (.ptr 277 0)]) (mkH 284 [(277, .cells [.int .i64 (10), .int .i64 (6)] 31 .own 0 0)])⟩
theorem ePw_2_ok (hf : Fit Tryz.prog) : EntSOK Tryz.prog tabs ePw_2 := ⟨tabIntrT tabs [], 200, int0_ok hf, rfl, fun els => by kernel_rfl⟩
end Go.Proofs.Lx

namespace Go.Proofs.Lx
open Go AEv Go.Proofs Lexp
set_option maxRecDepth 100000
set_option maxHeartbeats 1000000

/-! ### works(), told where errors.errorType is known -/
noncomputable def Lw3 : List EntR := [ePw_0, ePw_1, ePw_2]
noncomputable def Iw : Nat → List AV → AHeap → Option (AV × AHeap) := orE (intrR Tryz.prog.globals.size tabs Lw3) (orE (asI erN) (isI erN))
theorem Lw3_ok (hf : Fit Tryz.prog) : ∀ e ∈ Lw3, EntSOK Tryz.prog tabs e := fun e he => by
  simp only [Lw3, List.mem_cons, List.not_mem_nil, or_false] at he
  rcases he with rfl | rfl | rfl
  · exact ePw_0_ok hf
  · exact ePw_1_ok hf
  · exact ePw_2_ok hf
theorem Iw_ok (hf : Fit Tryz.prog) : IntrOK Tryz.prog Iw := orE_ok (intrS_ok hf tabs_lt (Lw3_ok hf)) (orE_ok (asI_ok er_ok) (isI_ok er_ok))
def eWorks : Ent := ⟨13, [], .bool true⟩
theorem works_e (hf : Fit Tryz.prog) : EntE Tryz.prog tabs erN eWorks := ⟨Iw, 200, Iw_ok hf, fun els el fz => by kernel_rfl⟩
end Go.Proofs.Lx

namespace Go.Proofs.Lx
open Go AEv Go.Proofs Lexp
set_option maxRecDepth 100000
set_option maxHeartbeats 1000000

/-! ### ParseBinds: of two signs .. -/
noncomputable def Lb64 : List EntR := [ePb_0, ePb_1, ePb_2, ePb_3, ePb_4, ePb_5, ePb_6, ePb_7, ePb_8, ePb_9, ePb_10, ePb_11, ePb_12, ePb_13, ePb_14, ePb_15, ePb_16, ePb_17, ePb_18, ePb_19, ePb_20, ePb_21, ePb_22, ePb_23, ePb_24, ePb_25, ePb_26, ePb_27, ePb_28, ePb_29, ePb_30, ePb_31, ePb_32, ePb_33, ePb_34, ePb_35, ePb_36, ePb_37, ePb_38, ePb_39, ePb_40, ePb_41, ePb_42, ePb_43, ePb_44, ePb_45, ePb_46, ePb_47, ePb_48, ePb_49, ePb_50, ePb_51, ePb_52, ePb_53, ePb_54, ePb_55, ePb_56, ePb_57, ePb_58, ePb_59, ePb_60, ePb_61, ePb_62, ePb_63]
theorem Lb64_ok (hf : Fit Tryz.prog) : ∀ e ∈ Lb64, EntSOK Tryz.prog tabs e := fun e he => by
  simp only [Lb64, List.mem_cons, List.not_mem_nil, or_false] at he
  rcases he with rfl | rfl | rfl | rfl | rfl | rfl | rfl | rfl | rfl | rfl | rfl | rfl | rfl | rfl | rfl | rfl | rfl | rfl | rfl | rfl | rfl | rfl | rfl | rfl | rfl | rfl | rfl | rfl | rfl | rfl | rfl | rfl | rfl | rfl | rfl | rfl | rfl | rfl | rfl | rfl | rfl | rfl | rfl | rfl | rfl | rfl | rfl | rfl | rfl | rfl | rfl | rfl | rfl | rfl | rfl | rfl | rfl | rfl | rfl | rfl | rfl | rfl | rfl | rfl
  · exact ePb_0_ok hf
  · exact ePb_1_ok hf
  · exact ePb_2_ok hf
  · exact ePb_3_ok hf
  · exact ePb_4_ok hf
  · exact ePb_5_ok hf
  · exact ePb_6_ok hf
  · exact ePb_7_ok hf
  · exact ePb_8_ok hf
  · exact ePb_9_ok hf
  · exact ePb_10_ok hf
  · exact ePb_11_ok hf
  · exact ePb_12_ok hf
  · exact ePb_13_ok hf
  · exact ePb_14_ok hf
  · exact ePb_15_ok hf
  · exact ePb_16_ok hf
  · exact ePb_17_ok hf
  · exact ePb_18_ok hf
  · exact ePb_19_ok hf
  · exact ePb_20_ok hf
  · exact ePb_21_ok hf
  · exact ePb_22_ok hf
  · exact ePb_23_ok hf
  · exact ePb_24_ok hf
  · exact ePb_25_ok hf
  · exact ePb_26_ok hf
  · exact ePb_27_ok hf
  · exact ePb_28_ok hf
  · exact ePb_29_ok hf
  · exact ePb_30_ok hf
  · exact ePb_31_ok hf
  · exact ePb_32_ok hf
  · exact ePb_33_ok hf
  · exact ePb_34_ok hf
  · exact ePb_35_ok hf
  · exact ePb_36_ok hf
  · exact ePb_37_ok hf
  · exact ePb_38_ok hf
  · exact ePb_39_ok hf
  · exact ePb_40_ok hf
  · exact ePb_41_ok hf
  · exact ePb_42_ok hf
  · exact ePb_43_ok hf
  · exact ePb_44_ok hf
  · exact ePb_45_ok hf
  · exact ePb_46_ok hf
  · exact ePb_47_ok hf
  · exact ePb_48_ok hf
  · exact ePb_49_ok hf
  · exact ePb_50_ok hf
  · exact ePb_51_ok hf
  · exact ePb_52_ok hf
  · exact ePb_53_ok hf
  · exact ePb_54_ok hf
  · exact ePb_55_ok hf
  · exact ePb_56_ok hf
  · exact ePb_57_ok hf
  · exact ePb_58_ok hf
  · exact ePb_59_ok hf
  · exact ePb_60_ok hf
  · exact ePb_61_ok hf
  · exact ePb_62_ok hf
  · exact ePb_63_ok hf
noncomputable def Ib : Nat → List AV → AHeap → Option (AV × AHeap) := orE (tabIntrE tabs erN [eWorks]) (intrR Tryz.prog.globals.size tabs Lb64)
theorem Ib_ok (hf : Fit Tryz.prog) : IntrOK Tryz.prog Ib := orE_ok (tabE_ok hf tabs_lt er_ok.g fun e he => by obtain rfl := List.mem_singleton.1 he; exact works_e hf) (intrS_ok hf tabs_lt (Lb64_ok hf))
end Go.Proofs.Lx

namespace Go.Proofs.Lx
open Go AEv Go.Proofs Lexp
set_option maxRecDepth 100000
set_option maxHeartbeats 1000000

theorem pb_t (call : CallT → List AV → AHeap → FRes) (a b i k x y e : Nat) (si sk s1 s2 s3 s4 s5 s6 s7 s8 t : List UInt8) (h g1 g2 g3 g4 g5 : AHeap) (n_1 n_2 : Nat)
    (H1 : call (.fn 13) [] h = FRes.ret (.bool true) g1)
    (H2 : AEv.storeCells (AHeap.push g1 (.cells [.str [], .str [], .str [], .str [], .str [], .str [], .str [], .str [], .str []] 38 .own 0 0)) (AHeap.n g1) 0 [.str [111, 114], .str [97, 110, 100], .str [61, 61], .str [60], .str [43], .str [45], .str [46, 46], .str [42], .str [42]] = some g2)
    (H3 : AEv.storeCells (AHeap.push g2 (.cells [.int .i64 (.ofNat 0), .int .i64 (.ofNat 0), .int .i64 (.ofNat 0), .int .i64 (.ofNat 0), .int .i64 (.ofNat 0), .int .i64 (.ofNat 0), .int .i64 (.ofNat 0), .int .i64 (.ofNat 0), .int .i64 (.ofNat 0)] 39 .own 0 0)) (AHeap.n g2) 0 [.int .i64 (.ofNat 0), .int .i64 (.ofNat 1), .int .i64 (.ofNat 2), .int .i64 (.ofNat 2), .int .i64 (.ofNat 3), .int .i64 (.ofNat 3), .int .i64 (.ofNat 3), .int .i64 (.ofNat 4), .int .i64 (.ofNat 4)] = some g3)
    (H4 : arith .rem .u8 (.ofNat a) (.ofNat 9) = some (.int .u8 (.ofNat n_1)))
    (H5 : evConvert Tryz.prog 5 3 (AV.int IntKind.u8 (Int.ofNat n_1)) g3 = OpRes.val (AV.int IntKind.i64 (Int.ofNat i)) g3)
    (H6 : arith .rem .u8 (.ofNat b) (.ofNat 9) = some (.int .u8 (.ofNat n_2)))
    (H7 : evConvert Tryz.prog 5 3 (AV.int IntKind.u8 (Int.ofNat n_2)) g3 = OpRes.val (AV.int IntKind.i64 (Int.ofNat k)) g3)
    (H8 : Nat.le (Nat.succ i) 9 ∧ AV.ptr (AHeap.n g1) i = AV.ptr (AHeap.n g1) (0 + i * 1))
    (H9 : load1 (AHeap.room g3 16) (AHeap.n g1) i = some (.str si))
    (H10 : strOp .add [112, 32] si = some (.str s1))
    (H11 : strOp .add s1 [32, 113, 32] = some (.str s2))
    (H12 : Nat.le (Nat.succ k) 9 ∧ AV.ptr (AHeap.n g1) k = AV.ptr (AHeap.n g1) (0 + k * 1))
    (H13 : load1 (AHeap.room g3 16) (AHeap.n g1) k = some (.str sk))
    (H14 : strOp .add s2 sk = some (.str s3))
    (H15 : strOp .add s3 [32, 114] = some (.str s4))
    (H16 : call (.fn 14) [.str s4] (AHeap.room g3 16) = FRes.ret (.tup [.ptr e 0, .nilI]) g4)
    (H17 : Nat.le (Nat.succ k) 9 ∧ AV.ptr (AHeap.n g2) k = AV.ptr (AHeap.n g2) (0 + k * 1))
    (H18 : load1 (AHeap.room g4 7) (AHeap.n g2) k = some (.int .i64 (.ofNat y)))
    (H19 : Nat.le (Nat.succ i) 9 ∧ AV.ptr (AHeap.n g2) i = AV.ptr (AHeap.n g2) (0 + i * 1))
    (H20 : load1 (AHeap.room g4 7) (AHeap.n g2) i = some (.int .i64 (.ofNat x)))
    (H21 : ltI (.ofNat x) (.ofNat y) = true)
    (H22 : call (.fn 15) [.ptr e 0] (AHeap.room (AHeap.room g4 7) 14) = FRes.ret (.str t) g5)
    (H23 : load1 g5 (AHeap.n g1) i = some (.str si))
    (H24 : strOp .add [40, 112, 41, 32] si = some (.str s5))
    (H25 : strOp .add s5 [32, 40, 40, 113, 41, 32] = some (.str s6))
    (H26 : load1 g5 (AHeap.n g1) k = some (.str sk))
    (H27 : strOp .add s6 sk = some (.str s7))
    (H28 : strOp .add s7 [32, 40, 114, 41, 41] = some (.str s8))
    (H29 : load1 (AHeap.room (AHeap.room g4 7) 14) (AHeap.n g1) i = some (.str si))
    (H30 : load1 (AHeap.room (AHeap.room g4 7) 14) (AHeap.n g1) k = some (.str sk)) :
    RunF Tryz.prog Tryz.f4 none call [] (SSt.mk [(0, .int .u8 (.ofNat a)), (1, .int .u8 (.ofNat b))] [] .none h) (.ret)
      (SSt.mk [(4, .bool (beqBytes t s8))] [] .none g5) :=
  sxF_run [4] (hs := [.c (.bool true) g1, .b false, .vh (.tup []) g2, .vh (.tup []) g3, .v (.int .u8 (.ofNat n_1)), .v (.int .i64 (.ofNat i)), .v (.int .u8 (.ofNat n_2)), .v (.int .i64 (.ofNat k)), .v (.ptr (AHeap.n g1) i), .v (.str si), .v (.str s1), .v (.str s2), .v (.ptr (AHeap.n g1) k), .v (.str sk), .v (.str s3), .v (.str s4), .c (.tup [.ptr e 0, .nilI]) g4, .v (.bool !true), .b false, .v (.ptr (AHeap.n g2) k), .v (.int .i64 (.ofNat y)), .v (.ptr (AHeap.n g2) i), .v (.int .i64 (.ofNat x)), .b true, .c (.str t) g5, .v (.ptr (AHeap.n g1) i), .v (.str si), .v (.str s5), .v (.str s6), .v (.ptr (AHeap.n g1) k), .v (.str sk), .v (.str s7), .v (.str s8)]) (by kernel_rfl) <| .cons H1 <| .cons (by kernel_rfl : (!true) = false) <| .cons (⟨by kernel_rfl, H2, rfl⟩ : some 9 = some 9 ∧ AEv.storeCells (AHeap.push g1 (AObj.cells [AV.str [], AV.str [], AV.str [], AV.str [], AV.str [], AV.str [], AV.str [], AV.str [], AV.str []] 38 BK.own 0 0)) (AHeap.n g1) 0 [AV.str [111, 114], AV.str [97, 110, 100], AV.str [61, 61], AV.str [60], AV.str [43], AV.str [45], AV.str [46, 46], AV.str [42], AV.str [42]] = some g2 ∧ AV.tup [] = AV.tup []) <| .cons (⟨by kernel_rfl, H3, rfl⟩ : some 9 = some 9 ∧ AEv.storeCells (AHeap.push g2 (AObj.cells [AV.int IntKind.i64 (Int.ofNat 0), AV.int IntKind.i64 (Int.ofNat 0), AV.int IntKind.i64 (Int.ofNat 0), AV.int IntKind.i64 (Int.ofNat 0), AV.int IntKind.i64 (Int.ofNat 0), AV.int IntKind.i64 (Int.ofNat 0), AV.int IntKind.i64 (Int.ofNat 0), AV.int IntKind.i64 (Int.ofNat 0), AV.int IntKind.i64 (Int.ofNat 0)] 39 BK.own 0 0)) (AHeap.n g2) 0 [AV.int IntKind.i64 (Int.ofNat 0), AV.int IntKind.i64 (Int.ofNat 1), AV.int IntKind.i64 (Int.ofNat 2), AV.int IntKind.i64 (Int.ofNat 2), AV.int IntKind.i64 (Int.ofNat 3), AV.int IntKind.i64 (Int.ofNat 3), AV.int IntKind.i64 (Int.ofNat 3), AV.int IntKind.i64 (Int.ofNat 4), AV.int IntKind.i64 (Int.ofNat 4)] = some g3 ∧ AV.tup [] = AV.tup []) <| .cons H4 <| .cons H5 <| .cons H6 <| .cons H7 <| .cons H8 <| .cons H9 <| .cons H10 <| .cons H11 <| .cons H12 <| .cons H13 <| .cons H14 <| .cons H15 <| .cons H16 <| .cons (by kernel_rfl : AV.sound (AV.int IntKind.i64 (Int.ofNat i)) = true) <| .cons (by kernel_rfl : AV.int IntKind.i64 (Int.ofNat i) = AV.int IntKind.i64 (Int.ofNat i)) <| .cons (by kernel_rfl : AV.sound (AV.ptr (AHeap.n g1) i) = true) <| .cons H8 <| .cons (by kernel_rfl : AV.sound (AV.str si) = true) <| .cons H9 <| .cons (by kernel_rfl : AV.sound (AV.str s1) = true) <| .cons H10 <| .cons (by kernel_rfl : AV.sound (AV.str s2) = true) <| .cons H11 <| .cons (by kernel_rfl : AV.sound (AV.int IntKind.i64 (Int.ofNat k)) = true) <| .cons (by kernel_rfl : AV.int IntKind.i64 (Int.ofNat k) = AV.int IntKind.i64 (Int.ofNat k)) <| .cons (by kernel_rfl : AV.sound (AV.ptr (AHeap.n g1) k) = true) <| .cons H12 <| .cons (by kernel_rfl : AV.sound (AV.str sk) = true) <| .cons H13 <| .cons (by kernel_rfl : AV.sound (AV.str s3) = true) <| .cons H14 <| .cons (by kernel_rfl : AV.sound (AV.str s4) = true) <| .cons H15 <| .cons (by kernel_rfl : AV.sound (AV.tup [AV.ptr e 0, AV.nilI]) = true) <| .cons (by kernel_rfl : AV.tup [AV.ptr e 0, AV.nilI] = AV.tup [AV.ptr e 0, AV.nilI]) <| .cons (by kernel_rfl : AV.sound (AV.ptr e 0) = true) <| .cons (by kernel_rfl : AV.ptr e 0 = AV.ptr e 0) <| .cons (by kernel_rfl : AV.sound AV.nilI = true) <| .cons (by kernel_rfl : AV.nilI = AV.nilI) <| .cons (by kernel_rfl : AV.sound (AV.ptr e 0) = true) <| .cons (by kernel_rfl : AV.ptr e 0 = AV.ptr e 0) <| .cons (by kernel_rfl : AV.sound AV.nilI = true) <| .cons (by kernel_rfl : AV.nilI = AV.nilI) <| .cons (by kernel_rfl : binA Tryz.prog g4 BinOp.neq 26 (Operand.tmp 35) (Operand.const Value.nilIface) AV.nilI AV.nilI = some (AV.bool !true)) <| .cons (by kernel_rfl : (!true) = false) <| .cons H17 <| .cons H18 <| .cons H19 <| .cons H20 <| .cons (by kernel_rfl : AV.sound (AV.int IntKind.i64 (Int.ofNat k)) = true) <| .cons (by kernel_rfl : AV.int IntKind.i64 (Int.ofNat k) = AV.int IntKind.i64 (Int.ofNat k)) <| .cons (by kernel_rfl : AV.sound (AV.ptr (AHeap.n g2) k) = true) <| .cons H17 <| .cons (by kernel_rfl : AV.sound (AV.int IntKind.i64 (Int.ofNat y)) = true) <| .cons H18 <| .cons (by kernel_rfl : AV.sound (AV.int IntKind.i64 (Int.ofNat i)) = true) <| .cons (by kernel_rfl : AV.int IntKind.i64 (Int.ofNat i) = AV.int IntKind.i64 (Int.ofNat i)) <| .cons (by kernel_rfl : AV.sound (AV.ptr (AHeap.n g2) i) = true) <| .cons H19 <| .cons (by kernel_rfl : AV.sound (AV.int IntKind.i64 (Int.ofNat x)) = true) <| .cons H20 <| .cons (by kernel_rfl : AV.sound (AV.bool (ltI (Int.ofNat x) (Int.ofNat y))) = true) <| .cons (by kernel_rfl : AV.bool (ltI (Int.ofNat x) (Int.ofNat y)) = AV.bool (ltI (Int.ofNat x) (Int.ofNat y))) <| .cons H21 <| .cons H22 <| .cons H8 <| .cons H23 <| .cons H24 <| .cons H25 <| .cons H12 <| .cons H26 <| .cons H27 <| .cons H28 <| .cons (by kernel_rfl : AV.sound (AV.ptr e 0) = true) <| .cons (by kernel_rfl : AV.ptr e 0 = AV.ptr e 0) <| .cons (by kernel_rfl : AV.sound (AV.int IntKind.i64 (Int.ofNat i)) = true) <| .cons (by kernel_rfl : AV.int IntKind.i64 (Int.ofNat i) = AV.int IntKind.i64 (Int.ofNat i)) <| .cons (by kernel_rfl : AV.sound (AV.int IntKind.i64 (Int.ofNat i)) = true) <| .cons (by kernel_rfl : AV.int IntKind.i64 (Int.ofNat i) = AV.int IntKind.i64 (Int.ofNat i)) <| .cons (by kernel_rfl : AV.sound (AV.ptr (AHeap.n g1) i) = true) <| .cons H8 <| .cons (by kernel_rfl : AV.sound (AV.ptr (AHeap.n g1) i) = true) <| .cons H8 <| .cons (by kernel_rfl : AV.sound (AV.str si) = true) <| .cons H23 <| .cons (by kernel_rfl : AV.sound (AV.str si) = true) <| .cons H29 <| .cons (by kernel_rfl : AV.sound (AV.str s5) = true) <| .cons H24 <| .cons (by kernel_rfl : AV.sound (AV.str s5) = true) <| .cons H24 <| .cons (by kernel_rfl : AV.sound (AV.str s6) = true) <| .cons H25 <| .cons (by kernel_rfl : AV.sound (AV.str s6) = true) <| .cons H25 <| .cons (by kernel_rfl : AV.sound (AV.int IntKind.i64 (Int.ofNat k)) = true) <| .cons (by kernel_rfl : AV.int IntKind.i64 (Int.ofNat k) = AV.int IntKind.i64 (Int.ofNat k)) <| .cons (by kernel_rfl : AV.sound (AV.int IntKind.i64 (Int.ofNat k)) = true) <| .cons (by kernel_rfl : AV.int IntKind.i64 (Int.ofNat k) = AV.int IntKind.i64 (Int.ofNat k)) <| .cons (by kernel_rfl : AV.sound (AV.ptr (AHeap.n g1) k) = true) <| .cons H12 <| .cons (by kernel_rfl : AV.sound (AV.ptr (AHeap.n g1) k) = true) <| .cons H12 <| .cons (by kernel_rfl : AV.sound (AV.str sk) = true) <| .cons H26 <| .cons (by kernel_rfl : AV.sound (AV.str sk) = true) <| .cons H30 <| .cons (by kernel_rfl : AV.sound (AV.str s7) = true) <| .cons H27 <| .cons (by kernel_rfl : AV.sound (AV.str s7) = true) <| .cons H27 <| .cons (by kernel_rfl : AV.sound (AV.str s8) = true) <| .cons H28 <| .cons (by kernel_rfl : AV.sound (AV.str s8) = true) <| .cons H28 <| .cons (by kernel_rfl : AV.sound (AV.bool (beqBytes t s8)) = true) <| .cons (by kernel_rfl : AV.bool (beqBytes t s8) = AV.bool (beqBytes t s8)) <| .cons (by kernel_rfl : AV.sound (AV.bool (beqBytes t s8)) = true) <| .cons (by kernel_rfl : AV.bool (beqBytes t s8) = AV.bool (beqBytes t s8)) <| .nil
theorem pb_f (call : CallT → List AV → AHeap → FRes) (a b i k x y e : Nat) (si sk s1 s2 s3 s4 s5 s6 s7 s8 t : List UInt8) (h g1 g2 g3 g4 g5 : AHeap) (n_1 n_2 : Nat)
    (H1 : call (.fn 13) [] h = FRes.ret (.bool true) g1)
    (H2 : AEv.storeCells (AHeap.push g1 (.cells [.str [], .str [], .str [], .str [], .str [], .str [], .str [], .str [], .str []] 38 .own 0 0)) (AHeap.n g1) 0 [.str [111, 114], .str [97, 110, 100], .str [61, 61], .str [60], .str [43], .str [45], .str [46, 46], .str [42], .str [42]] = some g2)
    (H3 : AEv.storeCells (AHeap.push g2 (.cells [.int .i64 (.ofNat 0), .int .i64 (.ofNat 0), .int .i64 (.ofNat 0), .int .i64 (.ofNat 0), .int .i64 (.ofNat 0), .int .i64 (.ofNat 0), .int .i64 (.ofNat 0), .int .i64 (.ofNat 0), .int .i64 (.ofNat 0)] 39 .own 0 0)) (AHeap.n g2) 0 [.int .i64 (.ofNat 0), .int .i64 (.ofNat 1), .int .i64 (.ofNat 2), .int .i64 (.ofNat 2), .int .i64 (.ofNat 3), .int .i64 (.ofNat 3), .int .i64 (.ofNat 3), .int .i64 (.ofNat 4), .int .i64 (.ofNat 4)] = some g3)
    (H4 : arith .rem .u8 (.ofNat a) (.ofNat 9) = some (.int .u8 (.ofNat n_1)))
    (H5 : evConvert Tryz.prog 5 3 (AV.int IntKind.u8 (Int.ofNat n_1)) g3 = OpRes.val (AV.int IntKind.i64 (Int.ofNat i)) g3)
    (H6 : arith .rem .u8 (.ofNat b) (.ofNat 9) = some (.int .u8 (.ofNat n_2)))
    (H7 : evConvert Tryz.prog 5 3 (AV.int IntKind.u8 (Int.ofNat n_2)) g3 = OpRes.val (AV.int IntKind.i64 (Int.ofNat k)) g3)
    (H8 : Nat.le (Nat.succ i) 9 ∧ AV.ptr (AHeap.n g1) i = AV.ptr (AHeap.n g1) (0 + i * 1))
    (H9 : load1 (AHeap.room g3 16) (AHeap.n g1) i = some (.str si))
    (H10 : strOp .add [112, 32] si = some (.str s1))
    (H11 : strOp .add s1 [32, 113, 32] = some (.str s2))
    (H12 : Nat.le (Nat.succ k) 9 ∧ AV.ptr (AHeap.n g1) k = AV.ptr (AHeap.n g1) (0 + k * 1))
    (H13 : load1 (AHeap.room g3 16) (AHeap.n g1) k = some (.str sk))
    (H14 : strOp .add s2 sk = some (.str s3))
    (H15 : strOp .add s3 [32, 114] = some (.str s4))
    (H16 : call (.fn 14) [.str s4] (AHeap.room g3 16) = FRes.ret (.tup [.ptr e 0, .nilI]) g4)
    (H17 : Nat.le (Nat.succ k) 9 ∧ AV.ptr (AHeap.n g2) k = AV.ptr (AHeap.n g2) (0 + k * 1))
    (H18 : load1 (AHeap.room g4 7) (AHeap.n g2) k = some (.int .i64 (.ofNat y)))
    (H19 : Nat.le (Nat.succ i) 9 ∧ AV.ptr (AHeap.n g2) i = AV.ptr (AHeap.n g2) (0 + i * 1))
    (H20 : load1 (AHeap.room g4 7) (AHeap.n g2) i = some (.int .i64 (.ofNat x)))
    (H21 : ltI (.ofNat x) (.ofNat y) = false)
    (H22 : call (.fn 15) [.ptr e 0] (AHeap.room (AHeap.room g4 7) 14) = FRes.ret (.str t) g5)
    (H23 : load1 g5 (AHeap.n g1) i = some (.str si))
    (H24 : strOp .add [40, 40, 112, 41, 32] si = some (.str s5))
    (H25 : strOp .add s5 [32, 40, 113, 41, 41, 32] = some (.str s6))
    (H26 : load1 g5 (AHeap.n g1) k = some (.str sk))
    (H27 : strOp .add s6 sk = some (.str s7))
    (H28 : strOp .add s7 [32, 40, 114, 41] = some (.str s8))
    (H29 : load1 (AHeap.room (AHeap.room g4 7) 14) (AHeap.n g1) i = some (.str si))
    (H30 : load1 (AHeap.room (AHeap.room g4 7) 14) (AHeap.n g1) k = some (.str sk)) :
    RunF Tryz.prog Tryz.f4 none call [] (SSt.mk [(0, .int .u8 (.ofNat a)), (1, .int .u8 (.ofNat b))] [] .none h) (.ret)
      (SSt.mk [(4, .bool (beqBytes t s8))] [] .none g5) :=
  sxF_run [4] (hs := [.c (.bool true) g1, .b false, .vh (.tup []) g2, .vh (.tup []) g3, .v (.int .u8 (.ofNat n_1)), .v (.int .i64 (.ofNat i)), .v (.int .u8 (.ofNat n_2)), .v (.int .i64 (.ofNat k)), .v (.ptr (AHeap.n g1) i), .v (.str si), .v (.str s1), .v (.str s2), .v (.ptr (AHeap.n g1) k), .v (.str sk), .v (.str s3), .v (.str s4), .c (.tup [.ptr e 0, .nilI]) g4, .v (.bool !true), .b false, .v (.ptr (AHeap.n g2) k), .v (.int .i64 (.ofNat y)), .v (.ptr (AHeap.n g2) i), .v (.int .i64 (.ofNat x)), .b false, .c (.str t) g5, .v (.ptr (AHeap.n g1) i), .v (.str si), .v (.str s5), .v (.str s6), .v (.ptr (AHeap.n g1) k), .v (.str sk), .v (.str s7), .v (.str s8)]) (by kernel_rfl) <| .cons H1 <| .cons (by kernel_rfl : (!true) = false) <| .cons (⟨by kernel_rfl, H2, rfl⟩ : some 9 = some 9 ∧ AEv.storeCells (AHeap.push g1 (AObj.cells [AV.str [], AV.str [], AV.str [], AV.str [], AV.str [], AV.str [], AV.str [], AV.str [], AV.str []] 38 BK.own 0 0)) (AHeap.n g1) 0 [AV.str [111, 114], AV.str [97, 110, 100], AV.str [61, 61], AV.str [60], AV.str [43], AV.str [45], AV.str [46, 46], AV.str [42], AV.str [42]] = some g2 ∧ AV.tup [] = AV.tup []) <| .cons (⟨by kernel_rfl, H3, rfl⟩ : some 9 = some 9 ∧ AEv.storeCells (AHeap.push g2 (AObj.cells [AV.int IntKind.i64 (Int.ofNat 0), AV.int IntKind.i64 (Int.ofNat 0), AV.int IntKind.i64 (Int.ofNat 0), AV.int IntKind.i64 (Int.ofNat 0), AV.int IntKind.i64 (Int.ofNat 0), AV.int IntKind.i64 (Int.ofNat 0), AV.int IntKind.i64 (Int.ofNat 0), AV.int IntKind.i64 (Int.ofNat 0), AV.int IntKind.i64 (Int.ofNat 0)] 39 BK.own 0 0)) (AHeap.n g2) 0 [AV.int IntKind.i64 (Int.ofNat 0), AV.int IntKind.i64 (Int.ofNat 1), AV.int IntKind.i64 (Int.ofNat 2), AV.int IntKind.i64 (Int.ofNat 2), AV.int IntKind.i64 (Int.ofNat 3), AV.int IntKind.i64 (Int.ofNat 3), AV.int IntKind.i64 (Int.ofNat 3), AV.int IntKind.i64 (Int.ofNat 4), AV.int IntKind.i64 (Int.ofNat 4)] = some g3 ∧ AV.tup [] = AV.tup []) <| .cons H4 <| .cons H5 <| .cons H6 <| .cons H7 <| .cons H8 <| .cons H9 <| .cons H10 <| .cons H11 <| .cons H12 <| .cons H13 <| .cons H14 <| .cons H15 <| .cons H16 <| .cons (by kernel_rfl : AV.sound (AV.int IntKind.i64 (Int.ofNat i)) = true) <| .cons (by kernel_rfl : AV.int IntKind.i64 (Int.ofNat i) = AV.int IntKind.i64 (Int.ofNat i)) <| .cons (by kernel_rfl : AV.sound (AV.ptr (AHeap.n g1) i) = true) <| .cons H8 <| .cons (by kernel_rfl : AV.sound (AV.str si) = true) <| .cons H9 <| .cons (by kernel_rfl : AV.sound (AV.str s1) = true) <| .cons H10 <| .cons (by kernel_rfl : AV.sound (AV.str s2) = true) <| .cons H11 <| .cons (by kernel_rfl : AV.sound (AV.int IntKind.i64 (Int.ofNat k)) = true) <| .cons (by kernel_rfl : AV.int IntKind.i64 (Int.ofNat k) = AV.int IntKind.i64 (Int.ofNat k)) <| .cons (by kernel_rfl : AV.sound (AV.ptr (AHeap.n g1) k) = true) <| .cons H12 <| .cons (by kernel_rfl : AV.sound (AV.str sk) = true) <| .cons H13 <| .cons (by kernel_rfl : AV.sound (AV.str s3) = true) <| .cons H14 <| .cons (by kernel_rfl : AV.sound (AV.str s4) = true) <| .cons H15 <| .cons (by kernel_rfl : AV.sound (AV.tup [AV.ptr e 0, AV.nilI]) = true) <| .cons (by kernel_rfl : AV.tup [AV.ptr e 0, AV.nilI] = AV.tup [AV.ptr e 0, AV.nilI]) <| .cons (by kernel_rfl : AV.sound (AV.ptr e 0) = true) <| .cons (by kernel_rfl : AV.ptr e 0 = AV.ptr e 0) <| .cons (by kernel_rfl : AV.sound AV.nilI = true) <| .cons (by kernel_rfl : AV.nilI = AV.nilI) <| .cons (by kernel_rfl : AV.sound (AV.ptr e 0) = true) <| .cons (by kernel_rfl : AV.ptr e 0 = AV.ptr e 0) <| .cons (by kernel_rfl : AV.sound AV.nilI = true) <| .cons (by kernel_rfl : AV.nilI = AV.nilI) <| .cons (by kernel_rfl : binA Tryz.prog g4 BinOp.neq 26 (Operand.tmp 35) (Operand.const Value.nilIface) AV.nilI AV.nilI = some (AV.bool !true)) <| .cons (by kernel_rfl : (!true) = false) <| .cons H17 <| .cons H18 <| .cons H19 <| .cons H20 <| .cons (by kernel_rfl : AV.sound (AV.int IntKind.i64 (Int.ofNat k)) = true) <| .cons (by kernel_rfl : AV.int IntKind.i64 (Int.ofNat k) = AV.int IntKind.i64 (Int.ofNat k)) <| .cons (by kernel_rfl : AV.sound (AV.ptr (AHeap.n g2) k) = true) <| .cons H17 <| .cons (by kernel_rfl : AV.sound (AV.int IntKind.i64 (Int.ofNat y)) = true) <| .cons H18 <| .cons (by kernel_rfl : AV.sound (AV.int IntKind.i64 (Int.ofNat i)) = true) <| .cons (by kernel_rfl : AV.int IntKind.i64 (Int.ofNat i) = AV.int IntKind.i64 (Int.ofNat i)) <| .cons (by kernel_rfl : AV.sound (AV.ptr (AHeap.n g2) i) = true) <| .cons H19 <| .cons (by kernel_rfl : AV.sound (AV.int IntKind.i64 (Int.ofNat x)) = true) <| .cons H20 <| .cons (by kernel_rfl : AV.sound (AV.bool (ltI (Int.ofNat x) (Int.ofNat y))) = true) <| .cons (by kernel_rfl : AV.bool (ltI (Int.ofNat x) (Int.ofNat y)) = AV.bool (ltI (Int.ofNat x) (Int.ofNat y))) <| .cons H21 <| .cons H22 <| .cons H8 <| .cons H23 <| .cons H24 <| .cons H25 <| .cons H12 <| .cons H26 <| .cons H27 <| .cons H28 <| .cons (by kernel_rfl : AV.sound (AV.ptr e 0) = true) <| .cons (by kernel_rfl : AV.ptr e 0 = AV.ptr e 0) <| .cons (by kernel_rfl : AV.sound (AV.int IntKind.i64 (Int.ofNat i)) = true) <| .cons (by kernel_rfl : AV.int IntKind.i64 (Int.ofNat i) = AV.int IntKind.i64 (Int.ofNat i)) <| .cons (by kernel_rfl : AV.sound (AV.int IntKind.i64 (Int.ofNat i)) = true) <| .cons (by kernel_rfl : AV.int IntKind.i64 (Int.ofNat i) = AV.int IntKind.i64 (Int.ofNat i)) <| .cons (by kernel_rfl : AV.sound (AV.ptr (AHeap.n g1) i) = true) <| .cons H8 <| .cons (by kernel_rfl : AV.sound (AV.ptr (AHeap.n g1) i) = true) <| .cons H8 <| .cons (by kernel_rfl : AV.sound (AV.str si) = true) <| .cons H23 <| .cons (by kernel_rfl : AV.sound (AV.str si) = true) <| .cons H29 <| .cons (by kernel_rfl : AV.sound (AV.str s5) = true) <| .cons H24 <| .cons (by kernel_rfl : AV.sound (AV.str s5) = true) <| .cons H24 <| .cons (by kernel_rfl : AV.sound (AV.str s6) = true) <| .cons H25 <| .cons (by kernel_rfl : AV.sound (AV.str s6) = true) <| .cons H25 <| .cons (by kernel_rfl : AV.sound (AV.int IntKind.i64 (Int.ofNat k)) = true) <| .cons (by kernel_rfl : AV.int IntKind.i64 (Int.ofNat k) = AV.int IntKind.i64 (Int.ofNat k)) <| .cons (by kernel_rfl : AV.sound (AV.int IntKind.i64 (Int.ofNat k)) = true) <| .cons (by kernel_rfl : AV.int IntKind.i64 (Int.ofNat k) = AV.int IntKind.i64 (Int.ofNat k)) <| .cons (by kernel_rfl : AV.sound (AV.ptr (AHeap.n g1) k) = true) <| .cons H12 <| .cons (by kernel_rfl : AV.sound (AV.ptr (AHeap.n g1) k) = true) <| .cons H12 <| .cons (by kernel_rfl : AV.sound (AV.str sk) = true) <| .cons H26 <| .cons (by kernel_rfl : AV.sound (AV.str sk) = true) <| .cons H30 <| .cons (by kernel_rfl : AV.sound (AV.str s7) = true) <| .cons H27 <| .cons (by kernel_rfl : AV.sound (AV.str s7) = true) <| .cons H27 <| .cons (by kernel_rfl : AV.sound (AV.str s8) = true) <| .cons H28 <| .cons (by kernel_rfl : AV.sound (AV.str s8) = true) <| .cons H28 <| .cons (by kernel_rfl : AV.sound (AV.bool (beqBytes t s8)) = true) <| .cons (by kernel_rfl : AV.bool (beqBytes t s8) = AV.bool (beqBytes t s8)) <| .cons (by kernel_rfl : AV.sound (AV.bool (beqBytes t s8)) = true) <| .cons (by kernel_rfl : AV.bool (beqBytes t s8) = AV.bool (beqBytes t s8)) <| .nil

/-! ### ParseBinds' run, for two signs' numbers -/
def hA (r : Option AHeap) (k : AHeap → Bool) : Bool := match r with | some g => k g | none => false
def sA (r : Option AV) (k : List UInt8 → Bool) : Bool := match r with | some (.str s) => k s | _ => false
def eA (r : Option AV) (s : List UInt8) : Bool := match r with | some (.str t) => beqBytes t s | _ => false
def iA (r : Option AV) (k : Nat → Bool) : Bool := match r with | some (.int .i64 (.ofNat n)) => k n | _ => false
def cB (r : FRes) (k : AHeap → Bool) : Bool := match r with | .ret (.bool true) g => k g | _ => false
def cP (r : FRes) (k : Nat → AHeap → Bool) : Bool := match r with | .ret (.tup [.ptr e 0, .nilI]) g => k e g | _ => false
def cS (r : FRes) (k : List UInt8 → AHeap → Bool) : Bool := match r with | .ret (.str s) g => k s g | _ => false
theorem hA_i {r : Option AHeap} {k : AHeap → Bool} (h : hA r k = true) : ∃ g, r = some g ∧ k g = true := by
  unfold hA at h; split at h
  · exact ⟨_, rfl, h⟩
  · cases h
theorem sA_i {r : Option AV} {k : List UInt8 → Bool} (h : sA r k = true) : ∃ g, r = some (.str g) ∧ k g = true := by
  unfold sA at h; split at h
  · exact ⟨_, rfl, h⟩
  · cases h
theorem eA_i {r : Option AV} {s : List UInt8} (h : eA r s = true) : r = some (.str s) := by
  unfold eA at h; split at h
  · rename_i t
    rw [beqBytes_eq, beq_iff_eq] at h; subst h; rfl
  · cases h
theorem iA_i {r : Option AV} {k : Nat → Bool} (h : iA r k = true) : ∃ n, r = some (.int .i64 (Int.ofNat n)) ∧ k n = true := by
  unfold iA at h; split at h
  · exact ⟨_, rfl, h⟩
  · cases h
theorem cB_i {r : FRes} {k : AHeap → Bool} (h : cB r k = true) : ∃ g, r = .ret (.bool true) g ∧ k g = true := by
  unfold cB at h; split at h
  · exact ⟨_, rfl, h⟩
  · cases h
theorem cP_i {r : FRes} {k : Nat → AHeap → Bool} (h : cP r k = true) : ∃ e g, r = .ret (.tup [.ptr e 0, .nilI]) g ∧ k e g = true := by
  unfold cP at h; split at h
  · exact ⟨_, _, rfl, h⟩
  · cases h
theorem cS_i {r : FRes} {k : List UInt8 → AHeap → Bool} (h : cS r k = true) : ∃ e g, r = .ret (.str e) g ∧ k e g = true := by
  unfold cS at h; split at h
  · exact ⟨_, _, rfl, h⟩
  · cases h
def endB (t sk : List UInt8) (si p m q : List UInt8) : Bool := sA (strOp .add p si) fun s5 => sA (strOp .add s5 m) fun s6 => sA (strOp .add s6 sk) fun s7 => sA (strOp .add s7 q) fun s8 => beqBytes t s8
def pairB (c : CallT → List AV → AHeap → FRes) (h : AHeap) (i k : Nat) : Bool :=
  cB (c (.fn 13) [] h) fun g1 =>
  hA (AEv.storeCells (g1.push (.cells [.str [], .str [], .str [], .str [], .str [], .str [], .str [], .str [], .str []] 38 .own 0 0)) g1.n 0 [.str [111, 114], .str [97, 110, 100], .str [61, 61], .str [60], .str [43], .str [45], .str [46, 46], .str [42], .str [42]]) fun g2 =>
  hA (AEv.storeCells (g2.push (.cells [.int .i64 (Int.ofNat 0), .int .i64 (Int.ofNat 0), .int .i64 (Int.ofNat 0), .int .i64 (Int.ofNat 0), .int .i64 (Int.ofNat 0), .int .i64 (Int.ofNat 0), .int .i64 (Int.ofNat 0), .int .i64 (Int.ofNat 0), .int .i64 (Int.ofNat 0)] 39 .own 0 0)) g2.n 0 [.int .i64 (Int.ofNat 0), .int .i64 (Int.ofNat 1), .int .i64 (Int.ofNat 2), .int .i64 (Int.ofNat 2), .int .i64 (Int.ofNat 3), .int .i64 (Int.ofNat 3), .int .i64 (Int.ofNat 3), .int .i64 (Int.ofNat 4), .int .i64 (Int.ofNat 4)]) fun g3 =>
  sA (load1 (g3.room 16) g1.n i) fun si => sA (strOp .add [112, 32] si) fun s1 => sA (strOp .add s1 [32, 113, 32]) fun s2 => sA (load1 (g3.room 16) g1.n k) fun sk => sA (strOp .add s2 sk) fun s3 => sA (strOp .add s3 [32, 114]) fun s4 =>
  cP (c (.fn 14) [.str s4] (g3.room 16)) fun e g4 =>
  iA (load1 (g4.room 7) g2.n k) fun y => iA (load1 (g4.room 7) g2.n i) fun x =>
  cS (c (.fn 15) [.ptr e 0] ((g4.room 7).room 14)) fun t g5 =>
  eA (load1 g5 g1.n i) si && (eA (load1 g5 g1.n k) sk && (eA (load1 ((g4.room 7).room 14) g1.n i) si && (eA (load1 ((g4.room 7).room 14) g1.n k) sk &&
    match ltI (Int.ofNat x) (Int.ofNat y) with
    | true => endB t sk si [40, 112, 41, 32] [32, 40, 40, 113, 41, 32] [32, 40, 114, 41, 41]
    | false => endB t sk si [40, 40, 112, 41, 32] [32, 40, 113, 41, 41, 32] [32, 40, 114, 41])))
theorem rem9 (a : Nat) : arith BinOp.rem .u8 (Int.ofNat a) (Int.ofNat 9) = some (.int .u8 (Int.ofNat (a % 9))) := by
  unfold arith
  rw [if_neg (by decide)]
  rfl
theorem conv9 (a : Nat) (h : AHeap) : evConvert Tryz.prog 5 3 (.int .u8 (Int.ofNat (a % 9))) h = .val (.int .i64 (Int.ofNat (a % 9))) h := conv_int (ka := .u8) (by kernel_rfl) (by kernel_rfl) (wrap_nat (a % 9) (by omega))
theorem pair_run (c : CallT → List AV → AHeap → FRes) (h : AHeap) (a b : Nat) (hp : pairB c h (a % 9) (b % 9) = true) : ∃ g, RunF Tryz.prog Tryz.f4 none c [] ⟨[(0, .int .u8 (Int.ofNat a)), (1, .int .u8 (Int.ofNat b))], [], .none, h⟩ .ret ⟨[(4, .bool true)], [], .none, g⟩ := by
  have ha : a % 9 < 9 := by omega
  have hb : b % 9 < 9 := by omega
  have e0 : ∀ x i : Nat, AV.ptr x i = AV.ptr x (0 + i * 1) := fun x i => by congr 1; omega
  unfold pairB at hp
  obtain ⟨g1, H1, hp⟩ := cB_i hp
  obtain ⟨g2, H2, hp⟩ := hA_i hp
  obtain ⟨g3, H3, hp⟩ := hA_i hp
  obtain ⟨si, H9, hp⟩ := sA_i hp
  obtain ⟨s1, H10, hp⟩ := sA_i hp
  obtain ⟨s2, H11, hp⟩ := sA_i hp
  obtain ⟨sk, H13, hp⟩ := sA_i hp
  obtain ⟨s3, H14, hp⟩ := sA_i hp
  obtain ⟨s4, H15, hp⟩ := sA_i hp
  obtain ⟨e, g4, H16, hp⟩ := cP_i hp
  obtain ⟨y, H18, hp⟩ := iA_i hp
  obtain ⟨x, H20, hp⟩ := iA_i hp
  obtain ⟨t, g5, H22, hp⟩ := cS_i hp
  rw [Bool.and_eq_true] at hp
  obtain ⟨H23, hp⟩ := hp
  rw [Bool.and_eq_true] at hp
  obtain ⟨H26, hp⟩ := hp
  rw [Bool.and_eq_true] at hp
  obtain ⟨H29, hp⟩ := hp
  rw [Bool.and_eq_true] at hp
  obtain ⟨H30, hp⟩ := hp
  have H23 := eA_i H23
  have H26 := eA_i H26
  have H29 := eA_i H29
  have H30 := eA_i H30
  split at hp
  · rename_i H21
    unfold endB at hp
    obtain ⟨s5, H24, hp⟩ := sA_i hp
    obtain ⟨s6, H25, hp⟩ := sA_i hp
    obtain ⟨s7, H27, hp⟩ := sA_i hp
    obtain ⟨s8, H28, hp⟩ := sA_i hp
    have r := pb_t c a b (a % 9) (b % 9) x y e si sk s1 s2 s3 s4 s5 s6 s7 s8 t h g1 g2 g3 g4 g5 _ _ H1 H2 H3 (rem9 a) (conv9 a g3) (rem9 b) (conv9 b g3) ⟨ha, e0 _ _⟩ H9 H10 H11 ⟨hb, e0 _ _⟩ H13 H14 H15 H16 ⟨hb, e0 _ _⟩ H18 ⟨ha, e0 _ _⟩ H20 H21 H22 H23 H24 H25 H26 H27 H28 H29 H30
    rw [hp] at r
    exact ⟨g5, r⟩
  · rename_i H21
    unfold endB at hp
    obtain ⟨s5, H24, hp⟩ := sA_i hp
    obtain ⟨s6, H25, hp⟩ := sA_i hp
    obtain ⟨s7, H27, hp⟩ := sA_i hp
    obtain ⟨s8, H28, hp⟩ := sA_i hp
    have r := pb_f c a b (a % 9) (b % 9) x y e si sk s1 s2 s3 s4 s5 s6 s7 s8 t h g1 g2 g3 g4 g5 _ _ H1 H2 H3 (rem9 a) (conv9 a g3) (rem9 b) (conv9 b g3) ⟨ha, e0 _ _⟩ H9 H10 H11 ⟨hb, e0 _ _⟩ H13 H14 H15 H16 ⟨hb, e0 _ _⟩ H18 ⟨ha, e0 _ _⟩ H20 H21 H22 H23 H24 H25 H26 H27 H28 H29 H30
    rw [hp] at r
    exact ⟨g5, r⟩
noncomputable def Cb : CallT → List AV → AHeap → FRes := callN Tryz.prog Ib 200
end Go.Proofs.Lx
