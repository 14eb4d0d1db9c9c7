/-
  PROVED HERE: contracts of functions (Di). No condition beside each statement's own.
-/
import Derived.Test.YtphbddifiklkpaaDoorDh
set_option linter.unusedVariables false
set_option linter.unusedSimpArgs false
namespace Go.Proofs.Lx
open Go AEv Go.Proofs Lexp
set_option maxRecDepth 100000
set_option maxHeartbeats 1000000

theorem rlt_1 (call : CallT → List AV → AHeap → FRes) (c : Nat) (h : AHeap)
    (H1 : leI (.ofNat 97) (.ofNat c) = true)
    (H2 : leI (.ofNat c) (.ofNat 122) = true) :
    RunF Tryd.prog Tryd.f25 none call [] (SSt.mk [(0, .int .u8 (.ofNat c))] [] .none h) (.ret)
      (SSt.mk [(2, .bool true)] [] .none h) :=
  sxF_run [2] (hs := [.b true, .b true, .b true, .b true, .b true, .b true, .b true, .b true, .b true, .b true, .b true]) (by kernel_rfl) <| .cons H1 <| .cons H1 <| .cons H1 <| .cons H2 <| .cons H2 <| .cons H2 <| .cons H2 <| .cons H2 <| .cons (by kernel_rfl : true = true) <| .cons (by kernel_rfl : true = true) <| .cons (by kernel_rfl : true = true) <| .nil
theorem rlt_3 (call : CallT → List AV → AHeap → FRes) (c : Nat) (h : AHeap)
    (H1 : leI (.ofNat 97) (.ofNat c) = true)
    (H2 : leI (.ofNat c) (.ofNat 122) = false)
    (H3 : leI (.ofNat 65) (.ofNat c) = true)
    (H4 : leI (.ofNat c) (.ofNat 90) = false) :
    RunF Tryd.prog Tryd.f25 none call [] (SSt.mk [(0, .int .u8 (.ofNat c))] [] .none h) (.ret)
      (SSt.mk [(2, .bool (eqI (.ofNat c) (.ofNat 95)))] [] .none h) :=
  sxF_run [2] (hs := [.b true, .b true, .b true, .b false, .b false, .b false, .b true, .b true, .b false, .b true, .b false, .b false, .b false, .b false]) (by kernel_rfl) <| .cons H1 <| .cons H1 <| .cons H1 <| .cons H2 <| .cons H2 <| .cons H2 <| .cons H3 <| .cons H3 <| .cons H2 <| .cons H3 <| .cons H2 <| .cons H4 <| .cons H4 <| .cons H4 <| .nil
theorem rlt_5 (call : CallT → List AV → AHeap → FRes) (c : Nat) (h : AHeap)
    (H1 : leI (.ofNat 97) (.ofNat c) = false)
    (H2 : leI (.ofNat 65) (.ofNat c) = true)
    (H3 : leI (.ofNat c) (.ofNat 90) = true) :
    RunF Tryd.prog Tryd.f25 none call [] (SSt.mk [(0, .int .u8 (.ofNat c))] [] .none h) (.ret)
      (SSt.mk [(2, .bool true)] [] .none h) :=
  sxF_run [2] (hs := [.b false, .b false, .b false, .b false, .b false, .b false, .b true, .b true, .b false, .b true, .b false, .b true, .b true, .b true]) (by kernel_rfl) <| .cons H1 <| .cons H1 <| .cons H1 <| .cons (by kernel_rfl : false = false) <| .cons (by kernel_rfl : false = false) <| .cons (by kernel_rfl : false = false) <| .cons H2 <| .cons H2 <| .cons (by kernel_rfl : false = false) <| .cons H2 <| .cons (by kernel_rfl : false = false) <| .cons H3 <| .cons H3 <| .cons H3 <| .nil
theorem rlt_6 (call : CallT → List AV → AHeap → FRes) (c : Nat) (h : AHeap)
    (H1 : leI (.ofNat 97) (.ofNat c) = false)
    (H2 : leI (.ofNat 65) (.ofNat c) = true)
    (H3 : leI (.ofNat c) (.ofNat 90) = false) :
    RunF Tryd.prog Tryd.f25 none call [] (SSt.mk [(0, .int .u8 (.ofNat c))] [] .none h) (.ret)
      (SSt.mk [(2, .bool (eqI (.ofNat c) (.ofNat 95)))] [] .none h) :=
  sxF_run [2] (hs := [.b false, .b false, .b false, .b false, .b false, .b false, .b true, .b true, .b false, .b true, .b false, .b false, .b false, .b false]) (by kernel_rfl) <| .cons H1 <| .cons H1 <| .cons H1 <| .cons (by kernel_rfl : false = false) <| .cons (by kernel_rfl : false = false) <| .cons (by kernel_rfl : false = false) <| .cons H2 <| .cons H2 <| .cons (by kernel_rfl : false = false) <| .cons H2 <| .cons (by kernel_rfl : false = false) <| .cons H3 <| .cons H3 <| .cons H3 <| .nil
theorem rlt_7 (call : CallT → List AV → AHeap → FRes) (c : Nat) (h : AHeap)
    (H1 : leI (.ofNat 97) (.ofNat c) = false)
    (H2 : leI (.ofNat 65) (.ofNat c) = false) :
    RunF Tryd.prog Tryd.f25 none call [] (SSt.mk [(0, .int .u8 (.ofNat c))] [] .none h) (.ret)
      (SSt.mk [(2, .bool (eqI (.ofNat c) (.ofNat 95)))] [] .none h) :=
  sxF_run [2] (hs := [.b false, .b false, .b false, .b false, .b false, .b false, .b false, .b false, .b false, .b false, .b false, .b false, .b false, .b false]) (by kernel_rfl) <| .cons H1 <| .cons H1 <| .cons H1 <| .cons (by kernel_rfl : false = false) <| .cons (by kernel_rfl : false = false) <| .cons (by kernel_rfl : false = false) <| .cons H2 <| .cons H2 <| .cons (by kernel_rfl : false = false) <| .cons H2 <| .cons (by kernel_rfl : false = false) <| .cons (by kernel_rfl : false = false) <| .cons (by kernel_rfl : false = false) <| .cons (by kernel_rfl : false = false) <| .nil
theorem rdg_1 (call : CallT → List AV → AHeap → FRes) (c : Nat) (h : AHeap)
    (H1 : leI (.ofNat 48) (.ofNat c) = true) :
    RunF Tryd.prog Tryd.f26 none call [] (SSt.mk [(0, .int .u8 (.ofNat c))] [] .none h) (.ret)
      (SSt.mk [(2, .bool (leI (.ofNat c) (.ofNat 57)))] [] .none h) :=
  sxF_run [2] (hs := [.b true, .b true, .b true]) (by kernel_rfl) <| .cons H1 <| .cons H1 <| .cons H1 <| .nil
theorem rdg_2 (call : CallT → List AV → AHeap → FRes) (c : Nat) (h : AHeap)
    (H1 : leI (.ofNat 48) (.ofNat c) = false) :
    RunF Tryd.prog Tryd.f26 none call [] (SSt.mk [(0, .int .u8 (.ofNat c))] [] .none h) (.ret)
      (SSt.mk [(2, .bool false)] [] .none h) :=
  sxF_run [2] (hs := [.b false, .b false, .b false]) (by kernel_rfl) <| .cons H1 <| .cons H1 <| .cons H1 <| .nil
theorem rse1 (call : CallT → List AV → AHeap → FRes) (c : Nat) (h : AHeap)
    (H1 : leI (.ofNat 194) (.ofNat c) = true)
    (H2 : leI (.ofNat c) (.ofNat 223) = true) :
    RunF Tryd.prog Tryd.f60 none call [] (SSt.mk [(0, .int .u8 (.ofNat c))] [] .none h) (.ret)
      (SSt.mk [(2, .int .u8 (.ofNat 128)), (3, .int .u8 (.ofNat 191)), (4, .int .i64 (.ofNat 2))] [] .none h) :=
  sxF_run [2, 3, 4] (hs := [.b true, .b true, .b true, .b true]) (by kernel_rfl) <| .cons H1 <| .cons H1 <| .cons H1 <| .cons H2 <| .nil
theorem rse2 (call : CallT → List AV → AHeap → FRes) (c : Nat) (h : AHeap)
    (H1 : leI (.ofNat 194) (.ofNat c) = true)
    (H2 : leI (.ofNat c) (.ofNat 223) = false)
    (H3 : eqI (.ofNat c) (.ofNat 224) = true) :
    RunF Tryd.prog Tryd.f60 none call [] (SSt.mk [(0, .int .u8 (.ofNat c))] [] .none h) (.ret)
      (SSt.mk [(2, .int .u8 (.ofNat 160)), (3, .int .u8 (.ofNat 191)), (4, .int .i64 (.ofNat 3))] [] .none h) :=
  sxF_run [2, 3, 4] (hs := [.b true, .b true, .b true, .b false, .b true]) (by kernel_rfl) <| .cons H1 <| .cons H1 <| .cons H1 <| .cons H2 <| .cons H3 <| .nil
theorem rse3 (call : CallT → List AV → AHeap → FRes) (c : Nat) (h : AHeap)
    (H1 : leI (.ofNat 194) (.ofNat c) = true)
    (H2 : leI (.ofNat c) (.ofNat 223) = false)
    (H3 : eqI (.ofNat c) (.ofNat 224) = false)
    (H4 : eqI (.ofNat c) (.ofNat 237) = true) :
    RunF Tryd.prog Tryd.f60 none call [] (SSt.mk [(0, .int .u8 (.ofNat c))] [] .none h) (.ret)
      (SSt.mk [(2, .int .u8 (.ofNat 128)), (3, .int .u8 (.ofNat 159)), (4, .int .i64 (.ofNat 3))] [] .none h) :=
  sxF_run [2, 3, 4] (hs := [.b true, .b true, .b true, .b false, .b false, .b true]) (by kernel_rfl) <| .cons H1 <| .cons H1 <| .cons H1 <| .cons H2 <| .cons H3 <| .cons H4 <| .nil
theorem rse4 (call : CallT → List AV → AHeap → FRes) (c : Nat) (h : AHeap)
    (H1 : leI (.ofNat 194) (.ofNat c) = true)
    (H2 : leI (.ofNat c) (.ofNat 223) = false)
    (H3 : eqI (.ofNat c) (.ofNat 224) = false)
    (H4 : eqI (.ofNat c) (.ofNat 237) = false)
    (H5 : ltI (.ofNat 224) (.ofNat c) = true)
    (H6 : leI (.ofNat c) (.ofNat 239) = true) :
    RunF Tryd.prog Tryd.f60 none call [] (SSt.mk [(0, .int .u8 (.ofNat c))] [] .none h) (.ret)
      (SSt.mk [(2, .int .u8 (.ofNat 128)), (3, .int .u8 (.ofNat 191)), (4, .int .i64 (.ofNat 3))] [] .none h) :=
  sxF_run [2, 3, 4] (hs := [.b true, .b true, .b true, .b false, .b false, .b false, .b true, .b true, .b true, .b true]) (by kernel_rfl) <| .cons H1 <| .cons H1 <| .cons H1 <| .cons H2 <| .cons H3 <| .cons H4 <| .cons H5 <| .cons H5 <| .cons H5 <| .cons H6 <| .nil
theorem rse5 (call : CallT → List AV → AHeap → FRes) (c : Nat) (h : AHeap)
    (H1 : leI (.ofNat 194) (.ofNat c) = true)
    (H2 : leI (.ofNat c) (.ofNat 223) = false)
    (H3 : eqI (.ofNat c) (.ofNat 224) = false)
    (H4 : eqI (.ofNat c) (.ofNat 237) = false)
    (H5 : ltI (.ofNat 224) (.ofNat c) = true)
    (H6 : leI (.ofNat c) (.ofNat 239) = false)
    (H7 : eqI (.ofNat c) (.ofNat 240) = true) :
    RunF Tryd.prog Tryd.f60 none call [] (SSt.mk [(0, .int .u8 (.ofNat c))] [] .none h) (.ret)
      (SSt.mk [(2, .int .u8 (.ofNat 144)), (3, .int .u8 (.ofNat 191)), (4, .int .i64 (.ofNat 4))] [] .none h) :=
  sxF_run [2, 3, 4] (hs := [.b true, .b true, .b true, .b false, .b false, .b false, .b true, .b true, .b true, .b false, .b true]) (by kernel_rfl) <| .cons H1 <| .cons H1 <| .cons H1 <| .cons H2 <| .cons H3 <| .cons H4 <| .cons H5 <| .cons H5 <| .cons H5 <| .cons H6 <| .cons H7 <| .nil
theorem rse6 (call : CallT → List AV → AHeap → FRes) (c : Nat) (h : AHeap)
    (H1 : leI (.ofNat 194) (.ofNat c) = true)
    (H2 : leI (.ofNat c) (.ofNat 223) = false)
    (H3 : eqI (.ofNat c) (.ofNat 224) = false)
    (H4 : eqI (.ofNat c) (.ofNat 237) = false)
    (H5 : ltI (.ofNat 224) (.ofNat c) = true)
    (H6 : leI (.ofNat c) (.ofNat 239) = false)
    (H7 : eqI (.ofNat c) (.ofNat 240) = false)
    (H8 : ltI (.ofNat 240) (.ofNat c) = true)
    (H9 : leI (.ofNat c) (.ofNat 243) = true) :
    RunF Tryd.prog Tryd.f60 none call [] (SSt.mk [(0, .int .u8 (.ofNat c))] [] .none h) (.ret)
      (SSt.mk [(2, .int .u8 (.ofNat 128)), (3, .int .u8 (.ofNat 191)), (4, .int .i64 (.ofNat 4))] [] .none h) :=
  sxF_run [2, 3, 4] (hs := [.b true, .b true, .b true, .b false, .b false, .b false, .b true, .b true, .b true, .b false, .b false, .b true, .b true, .b true, .b true]) (by kernel_rfl) <| .cons H1 <| .cons H1 <| .cons H1 <| .cons H2 <| .cons H3 <| .cons H4 <| .cons H5 <| .cons H5 <| .cons H5 <| .cons H6 <| .cons H7 <| .cons H8 <| .cons H8 <| .cons H8 <| .cons H9 <| .nil
theorem rse7 (call : CallT → List AV → AHeap → FRes) (c : Nat) (h : AHeap)
    (H1 : leI (.ofNat 194) (.ofNat c) = true)
    (H2 : leI (.ofNat c) (.ofNat 223) = false)
    (H3 : eqI (.ofNat c) (.ofNat 224) = false)
    (H4 : eqI (.ofNat c) (.ofNat 237) = false)
    (H5 : ltI (.ofNat 224) (.ofNat c) = true)
    (H6 : leI (.ofNat c) (.ofNat 239) = false)
    (H7 : eqI (.ofNat c) (.ofNat 240) = false)
    (H8 : ltI (.ofNat 240) (.ofNat c) = true)
    (H9 : leI (.ofNat c) (.ofNat 243) = false)
    (H10 : eqI (.ofNat c) (.ofNat 244) = true) :
    RunF Tryd.prog Tryd.f60 none call [] (SSt.mk [(0, .int .u8 (.ofNat c))] [] .none h) (.ret)
      (SSt.mk [(2, .int .u8 (.ofNat 128)), (3, .int .u8 (.ofNat 143)), (4, .int .i64 (.ofNat 4))] [] .none h) :=
  sxF_run [2, 3, 4] (hs := [.b true, .b true, .b true, .b false, .b false, .b false, .b true, .b true, .b true, .b false, .b false, .b true, .b true, .b true, .b false, .b true]) (by kernel_rfl) <| .cons H1 <| .cons H1 <| .cons H1 <| .cons H2 <| .cons H3 <| .cons H4 <| .cons H5 <| .cons H5 <| .cons H5 <| .cons H6 <| .cons H7 <| .cons H8 <| .cons H8 <| .cons H8 <| .cons H9 <| .cons H10 <| .nil
theorem rse8 (call : CallT → List AV → AHeap → FRes) (c : Nat) (h : AHeap)
    (H1 : leI (.ofNat 194) (.ofNat c) = false)
    (H2 : eqI (.ofNat c) (.ofNat 224) = false)
    (H3 : eqI (.ofNat c) (.ofNat 237) = false)
    (H4 : ltI (.ofNat 224) (.ofNat c) = false)
    (H5 : eqI (.ofNat c) (.ofNat 240) = false)
    (H6 : ltI (.ofNat 240) (.ofNat c) = false)
    (H7 : eqI (.ofNat c) (.ofNat 244) = false) :
    RunF Tryd.prog Tryd.f60 none call [] (SSt.mk [(0, .int .u8 (.ofNat c))] [] .none h) (.ret)
      (SSt.mk [(2, .int .u8 (.ofNat 0)), (3, .int .u8 (.ofNat 0)), (4, .int .i64 (.ofNat 0))] [] .none h) :=
  sxF_run [2, 3, 4] (hs := [.b false, .b false, .b false, .b false, .b false, .b false, .b false, .b false, .b false, .b false, .b false, .b false, .b false, .b false, .b false, .b false]) (by kernel_rfl) <| .cons H1 <| .cons H1 <| .cons H1 <| .cons (by kernel_rfl : false = false) <| .cons H2 <| .cons H3 <| .cons H4 <| .cons H4 <| .cons H4 <| .cons (by kernel_rfl : false = false) <| .cons H5 <| .cons H6 <| .cons H6 <| .cons H6 <| .cons (by kernel_rfl : false = false) <| .cons H7 <| .nil
theorem rse9 (call : CallT → List AV → AHeap → FRes) (c : Nat) (h : AHeap)
    (H1 : leI (.ofNat 194) (.ofNat c) = true)
    (H2 : leI (.ofNat c) (.ofNat 223) = false)
    (H3 : eqI (.ofNat c) (.ofNat 224) = false)
    (H4 : eqI (.ofNat c) (.ofNat 237) = false)
    (H5 : ltI (.ofNat 224) (.ofNat c) = true)
    (H6 : leI (.ofNat c) (.ofNat 239) = false)
    (H7 : eqI (.ofNat c) (.ofNat 240) = false)
    (H8 : ltI (.ofNat 240) (.ofNat c) = true)
    (H9 : leI (.ofNat c) (.ofNat 243) = false)
    (H10 : eqI (.ofNat c) (.ofNat 244) = false) :
    RunF Tryd.prog Tryd.f60 none call [] (SSt.mk [(0, .int .u8 (.ofNat c))] [] .none h) (.ret)
      (SSt.mk [(2, .int .u8 (.ofNat 0)), (3, .int .u8 (.ofNat 0)), (4, .int .i64 (.ofNat 0))] [] .none h) :=
  sxF_run [2, 3, 4] (hs := [.b true, .b true, .b true, .b false, .b false, .b false, .b true, .b true, .b true, .b false, .b false, .b true, .b true, .b true, .b false, .b false]) (by kernel_rfl) <| .cons H1 <| .cons H1 <| .cons H1 <| .cons H2 <| .cons H3 <| .cons H4 <| .cons H5 <| .cons H5 <| .cons H5 <| .cons H6 <| .cons H7 <| .cons H8 <| .cons H8 <| .cons H8 <| .cons H9 <| .cons H10 <| .nil
theorem rwi_1 (call : CallT → List AV → AHeap → FRes) (a lo hi : Nat) (s : List UInt8) (h : AHeap) (n_1 : Nat)
    (H1 : ltI (.ofNat a) (.ofNat (List.length s)) = true)
    (H2 : idxS a s = some (.int .u8 (.ofNat n_1)))
    (H3 : leI (.ofNat lo) (.ofNat n_1) = true) :
    RunF Tryd.prog Tryd.f61 none call [] (SSt.mk [(0, .str s), (1, .int .i64 (.ofNat a)), (2, .int .u8 (.ofNat lo)), (3, .int .u8 (.ofNat hi))] [] .none h) (.ret)
      (SSt.mk [(8, .bool (leI (.ofNat n_1) (.ofNat hi)))] [] .none h) :=
  sxF_run [8] (hs := [.b true, .b true, .b true, .v (.int .u8 (.ofNat n_1)), .b true, .b true, .b true, .b true, .b true, .b true, .v (.int .u8 (.ofNat n_1)), .b true, .b true, .b true]) (by kernel_rfl) <| .cons H1 <| .cons H1 <| .cons H1 <| .cons H2 <| .cons H1 <| .cons H1 <| .cons H1 <| .cons H3 <| .cons H3 <| .cons H3 <| .cons H2 <| .cons H3 <| .cons H3 <| .cons H3 <| .nil
theorem rwi_2 (call : CallT → List AV → AHeap → FRes) (a lo hi : Nat) (s : List UInt8) (h : AHeap) (n_1 : Nat)
    (H1 : ltI (.ofNat a) (.ofNat (List.length s)) = true)
    (H2 : idxS a s = some (.int .u8 (.ofNat n_1)))
    (H3 : leI (.ofNat lo) (.ofNat n_1) = false) :
    RunF Tryd.prog Tryd.f61 none call [] (SSt.mk [(0, .str s), (1, .int .i64 (.ofNat a)), (2, .int .u8 (.ofNat lo)), (3, .int .u8 (.ofNat hi))] [] .none h) (.ret)
      (SSt.mk [(8, .bool false)] [] .none h) :=
  sxF_run [8] (hs := [.b true, .b true, .b true, .v (.int .u8 (.ofNat n_1)), .b true, .b true, .b true, .b false, .b false, .b false, .b false, .b false, .b false]) (by kernel_rfl) <| .cons H1 <| .cons H1 <| .cons H1 <| .cons H2 <| .cons H1 <| .cons H1 <| .cons H1 <| .cons H3 <| .cons H3 <| .cons H3 <| .cons H3 <| .cons H3 <| .cons H3 <| .nil
theorem rwi_3 (call : CallT → List AV → AHeap → FRes) (a lo hi : Nat) (s : List UInt8) (h : AHeap)
    (H1 : ltI (.ofNat a) (.ofNat (List.length s)) = false) :
    RunF Tryd.prog Tryd.f61 none call [] (SSt.mk [(0, .str s), (1, .int .i64 (.ofNat a)), (2, .int .u8 (.ofNat lo)), (3, .int .u8 (.ofNat hi))] [] .none h) (.ret)
      (SSt.mk [(8, .bool false)] [] .none h) :=
  sxF_run [8] (hs := [.b false, .b false, .b false, .b false, .b false, .b false, .b false, .b false, .b false, .b false, .b false, .b false]) (by kernel_rfl) <| .cons H1 <| .cons H1 <| .cons H1 <| .cons H1 <| .cons H1 <| .cons H1 <| .cons (by kernel_rfl : false = false) <| .cons (by kernel_rfl : false = false) <| .cons (by kernel_rfl : false = false) <| .cons (by kernel_rfl : false = false) <| .cons (by kernel_rfl : false = false) <| .cons (by kernel_rfl : false = false) <| .nil
theorem rch1 (call : CallT → List AV → AHeap → FRes) (a lo hi n : Nat) (s : List UInt8) (h g g1 g2 : AHeap) (n_1 : Nat)
    (H1 : idxS a s = some (.int .u8 (.ofNat n_1)))
    (H2 : ltI (.ofNat n_1) (.ofNat 128) = true) :
    RunF Tryd.prog Tryd.f44 none call [] (SSt.mk [(0, .str s), (1, .int .i64 (.ofNat a))] [] .none h) (.ret)
      (SSt.mk [(4, .int .i64 (.ofNat 1))] [] .none h) :=
  sxF_run [4] (hs := [.v (.int .u8 (.ofNat n_1)), .b true]) (by kernel_rfl) <| .cons H1 <| .cons H2 <| .nil
theorem rch2 (call : CallT → List AV → AHeap → FRes) (a lo hi n : Nat) (s : List UInt8) (h g g1 g2 : AHeap) (n_1 : Nat)
    (H1 : idxS a s = some (.int .u8 (.ofNat n_1)))
    (H2 : ltI (.ofNat n_1) (.ofNat 128) = false)
    (H3 : call (.fn 60) [.int .u8 (.ofNat n_1)] h = FRes.ret (.tup [.int .u8 (.ofNat lo), .int .u8 (.ofNat hi), .int .i64 (.ofNat 0)]) g) :
    RunF Tryd.prog Tryd.f44 none call [] (SSt.mk [(0, .str s), (1, .int .i64 (.ofNat a))] [] .none h) (.ret)
      (SSt.mk [(4, .int .i64 (.ofNat 0))] [] .none g) :=
  sxF_run [4] (hs := [.v (.int .u8 (.ofNat n_1)), .b false, .v (.int .u8 (.ofNat n_1)), .c (.tup [.int .u8 (.ofNat lo), .int .u8 (.ofNat hi), .int .i64 (.ofNat 0)]) g, .b true, .b true, .b true, .b true, .b true, .b true, .b true, .b true, .b true]) (by kernel_rfl) <| .cons H1 <| .cons H2 <| .cons H1 <| .cons H3 <| .cons (by kernel_rfl : eqI (Int.ofNat 0) (Int.ofNat 0) = true) <| .cons (by kernel_rfl : eqI (Int.ofNat 0) (Int.ofNat 0) = true) <| .cons (by kernel_rfl : eqI (Int.ofNat 0) (Int.ofNat 0) = true) <| .cons (by kernel_rfl : eqI (Int.ofNat 0) (Int.ofNat 0) = true) <| .cons (by kernel_rfl : eqI (Int.ofNat 0) (Int.ofNat 0) = true) <| .cons (by kernel_rfl : eqI (Int.ofNat 0) (Int.ofNat 0) = true) <| .cons (by kernel_rfl : eqI (Int.ofNat 0) (Int.ofNat 0) = true) <| .cons (by kernel_rfl : eqI (Int.ofNat 0) (Int.ofNat 0) = true) <| .cons (by kernel_rfl : true = true) <| .nil
theorem rch3 (call : CallT → List AV → AHeap → FRes) (a lo hi n : Nat) (s : List UInt8) (h g g1 g2 : AHeap) (n_1 n_2 : Nat)
    (H1 : idxS a s = some (.int .u8 (.ofNat n_1)))
    (H2 : ltI (.ofNat n_1) (.ofNat 128) = false)
    (H3 : call (.fn 60) [.int .u8 (.ofNat n_1)] h = FRes.ret (.tup [.int .u8 (.ofNat lo), .int .u8 (.ofNat hi), .int .i64 (.ofNat n)]) g)
    (H4 : eqI (.ofNat n) (.ofNat 0) = false)
    (H5 : arith .add .i64 (.ofNat a) (.ofNat 1) = some (.int .i64 (.ofNat n_2)))
    (H6 : call (.fn 61) [.str s, .int .i64 (.ofNat n_2), .int .u8 (.ofNat lo), .int .u8 (.ofNat hi)] g = FRes.ret (.bool false) g1) :
    RunF Tryd.prog Tryd.f44 none call [] (SSt.mk [(0, .str s), (1, .int .i64 (.ofNat a))] [] .none h) (.ret)
      (SSt.mk [(4, .int .i64 (.ofNat 0))] [] .none g1) :=
  sxF_run [4] (hs := [.v (.int .u8 (.ofNat n_1)), .b false, .v (.int .u8 (.ofNat n_1)), .c (.tup [.int .u8 (.ofNat lo), .int .u8 (.ofNat hi), .int .i64 (.ofNat n)]) g, .b false, .b false, .b false, .v (.int .i64 (.ofNat n_2)), .b false, .b false, .b false, .c (.bool false) g1, .b false, .b false, .b true]) (by kernel_rfl) <| .cons H1 <| .cons H2 <| .cons H1 <| .cons H3 <| .cons H4 <| .cons H4 <| .cons H4 <| .cons H5 <| .cons H4 <| .cons H4 <| .cons H4 <| .cons H6 <| .cons H4 <| .cons H4 <| .cons (by kernel_rfl : (!false) = true) <| .nil
theorem rch4 (call : CallT → List AV → AHeap → FRes) (a lo hi n : Nat) (s : List UInt8) (h g g1 g2 : AHeap) (n_1 n_2 : Nat)
    (H1 : idxS a s = some (.int .u8 (.ofNat n_1)))
    (H2 : ltI (.ofNat n_1) (.ofNat 128) = false)
    (H3 : call (.fn 60) [.int .u8 (.ofNat n_1)] h = FRes.ret (.tup [.int .u8 (.ofNat lo), .int .u8 (.ofNat hi), .int .i64 (.ofNat n)]) g)
    (H4 : eqI (.ofNat n) (.ofNat 0) = false)
    (H5 : arith .add .i64 (.ofNat a) (.ofNat 1) = some (.int .i64 (.ofNat n_2)))
    (H6 : call (.fn 61) [.str s, .int .i64 (.ofNat n_2), .int .u8 (.ofNat lo), .int .u8 (.ofNat hi)] g = FRes.ret (.bool true) g1)
    (H7 : RunF Tryd.prog Tryd.f44 none call [1, 1, 1, 1, 0, 1, 0] (SSt.mk [(8, .int .i64 (.ofNat 2)), (31, .bool !true), (7, .int .i64 (.ofNat n)), (6, .int .u8 (.ofNat hi)), (5, .int .u8 (.ofNat lo)), (12, .bool (ltI (.ofNat n_1) (.ofNat 128))), (4, .int .i64 (.ofNat 0)), (0, .str s), (1, .int .i64 (.ofNat a))] [] .none g1) (.exit 0) (SSt.mk [(7, .int .i64 (.ofNat n))] [] .none g2)) :
    RunF Tryd.prog Tryd.f44 none call [] (SSt.mk [(0, .str s), (1, .int .i64 (.ofNat a))] [] .none h) (.ret)
      (SSt.mk [(4, .int .i64 (.ofNat n))] [] .none g2) :=
  sxF_run [4] (hs := [Hint.v (AV.int IntKind.u8 (Int.ofNat n_1)), Hint.b false, Hint.v (AV.int IntKind.u8 (Int.ofNat n_1)), Hint.c (AV.tup [AV.int IntKind.u8 (Int.ofNat lo), AV.int IntKind.u8 (Int.ofNat hi), AV.int IntKind.i64 (Int.ofNat n)]) g, Hint.b false, Hint.b false, Hint.b false, Hint.v (AV.int IntKind.i64 (Int.ofNat n_2)), Hint.b false, Hint.b false, Hint.b false, Hint.c (AV.bool true) g1, Hint.b false, Hint.b false, Hint.b false, Hint.loop (AEx.exit 0) (SSt.mk [(7, AV.int IntKind.i64 (Int.ofNat n))] [] Rc.none g2)]) (by kernel_rfl) <| .cons H1 <| .cons H2 <| .cons H1 <| .cons H3 <| .cons H4 <| .cons H4 <| .cons H4 <| .cons H5 <| .cons H4 <| .cons H4 <| .cons H4 <| .cons H6 <| .cons H4 <| .cons H4 <| .cons (by kernel_rfl : (!true) = false) <| .cons H7 <| .nil
theorem rch5 (call : CallT → List AV → AHeap → FRes) (a lo hi n : Nat) (s : List UInt8) (h g g1 g2 : AHeap) (n_1 n_2 : Nat)
    (H1 : idxS a s = some (.int .u8 (.ofNat n_1)))
    (H2 : ltI (.ofNat n_1) (.ofNat 128) = false)
    (H3 : call (.fn 60) [.int .u8 (.ofNat n_1)] h = FRes.ret (.tup [.int .u8 (.ofNat lo), .int .u8 (.ofNat hi), .int .i64 (.ofNat n)]) g)
    (H4 : eqI (.ofNat n) (.ofNat 0) = false)
    (H5 : arith .add .i64 (.ofNat a) (.ofNat 1) = some (.int .i64 (.ofNat n_2)))
    (H6 : call (.fn 61) [.str s, .int .i64 (.ofNat n_2), .int .u8 (.ofNat lo), .int .u8 (.ofNat hi)] g = FRes.ret (.bool true) g1)
    (H7 : RunF Tryd.prog Tryd.f44 none call [1, 1, 1, 1, 0, 1, 0] (SSt.mk [(8, .int .i64 (.ofNat 2)), (31, .bool !true), (7, .int .i64 (.ofNat n)), (6, .int .u8 (.ofNat hi)), (5, .int .u8 (.ofNat lo)), (12, .bool (ltI (.ofNat n_1) (.ofNat 128))), (4, .int .i64 (.ofNat 0)), (0, .str s), (1, .int .i64 (.ofNat a))] [] .none g1) (.ret) (SSt.mk [(4, .int .i64 (.ofNat 0))] [] .none g2)) :
    RunF Tryd.prog Tryd.f44 none call [] (SSt.mk [(0, .str s), (1, .int .i64 (.ofNat a))] [] .none h) (.ret)
      (SSt.mk [(4, .int .i64 (.ofNat 0))] [] .none g2) :=
  sxF_run [4] (hs := [Hint.v (AV.int IntKind.u8 (Int.ofNat n_1)), Hint.b false, Hint.v (AV.int IntKind.u8 (Int.ofNat n_1)), Hint.c (AV.tup [AV.int IntKind.u8 (Int.ofNat lo), AV.int IntKind.u8 (Int.ofNat hi), AV.int IntKind.i64 (Int.ofNat n)]) g, Hint.b false, Hint.b false, Hint.b false, Hint.v (AV.int IntKind.i64 (Int.ofNat n_2)), Hint.b false, Hint.b false, Hint.b false, Hint.c (AV.bool true) g1, Hint.b false, Hint.b false, Hint.b false, Hint.loop AEx.ret (SSt.mk [(4, AV.int IntKind.i64 (Int.ofNat 0))] [] Rc.none g2)]) (by kernel_rfl) <| .cons H1 <| .cons H2 <| .cons H1 <| .cons H3 <| .cons H4 <| .cons H4 <| .cons H4 <| .cons H5 <| .cons H4 <| .cons H4 <| .cons H4 <| .cons H6 <| .cons H4 <| .cons H4 <| .cons (by kernel_rfl : (!true) = false) <| .cons H7 <| .nil
theorem rcx (call : CallT → List AV → AHeap → FRes) (a n i : Nat) (s : List UInt8) (h g : AHeap)
    (H1 : ltI (.ofNat i) (.ofNat n) = false) :
    RunF Tryd.prog Tryd.f44 none call [1, 1, 1, 1, 0, 1, 0, 0] (SSt.mk [(0, .str s), (1, .int .i64 (.ofNat a)), (7, .int .i64 (.ofNat n)), (8, .int .i64 (.ofNat i))] [] .none h) (.exit 0)
      (SSt.mk [(7, .int .i64 (.ofNat n))] [] .none h) :=
  sxF_run [7] (hs := [.b false]) (by kernel_rfl) <| .cons H1 <| .nil
theorem rcf (call : CallT → List AV → AHeap → FRes) (a n i : Nat) (s : List UInt8) (h g : AHeap) (n_1 : Nat)
    (H1 : ltI (.ofNat i) (.ofNat n) = true)
    (H2 : arith .add .i64 (.ofNat a) (.ofNat i) = some (.int .i64 (.ofNat n_1)))
    (H3 : call (.fn 61) [.str s, .int .i64 (.ofNat n_1), .int .u8 (.ofNat 128), .int .u8 (.ofNat 191)] h = FRes.ret (.bool false) g) :
    RunF Tryd.prog Tryd.f44 none call [1, 1, 1, 1, 0, 1, 0, 0] (SSt.mk [(0, .str s), (1, .int .i64 (.ofNat a)), (7, .int .i64 (.ofNat n)), (8, .int .i64 (.ofNat i))] [] .none h) (.ret)
      (SSt.mk [(4, .int .i64 (.ofNat 0))] [] .none g) :=
  sxF_run [4] (hs := [.b true, .v (.int .i64 (.ofNat n_1)), .c (.bool false) g, .b true]) (by kernel_rfl) <| .cons H1 <| .cons H2 <| .cons H3 <| .cons (by kernel_rfl : (!false) = true) <| .nil
theorem rct (call : CallT → List AV → AHeap → FRes) (a n i : Nat) (s : List UInt8) (h g : AHeap) (n_1 n_2 : Nat)
    (H1 : ltI (.ofNat i) (.ofNat n) = true)
    (H2 : arith .add .i64 (.ofNat a) (.ofNat i) = some (.int .i64 (.ofNat n_1)))
    (H3 : call (.fn 61) [.str s, .int .i64 (.ofNat n_1), .int .u8 (.ofNat 128), .int .u8 (.ofNat 191)] h = FRes.ret (.bool true) g)
    (H4 : arith .add .i64 (.ofNat i) (.ofNat 1) = some (.int .i64 (.ofNat n_2))) :
    RunF Tryd.prog Tryd.f44 none call [1, 1, 1, 1, 0, 1, 0, 0] (SSt.mk [(0, .str s), (1, .int .i64 (.ofNat a)), (7, .int .i64 (.ofNat n)), (8, .int .i64 (.ofNat i))] [] .none h) (.nrm)
      (SSt.mk [(0, .str s), (1, .int .i64 (.ofNat a)), (7, .int .i64 (.ofNat n)), (8, .int .i64 (.ofNat n_2))] [] .none g) :=
  sxF_run [0, 1, 7, 8] (hs := [.b true, .v (.int .i64 (.ofNat n_1)), .c (.bool true) g, .b false, .v (.int .i64 (.ofNat n_2))]) (by kernel_rfl) <| .cons H1 <| .cons H2 <| .cons H3 <| .cons (by kernel_rfl : (!true) = false) <| .cons H4 <| .nil
theorem rrm1 (call : CallT → List AV → AHeap → FRes) (a b : Nat) (s : List UInt8) (h g : AHeap)
    (H1 : RunF Tryd.prog Tryd.f24 none call [1, 0, 0] (SSt.mk [(5, .bool false), (4, .int .i64 (.ofNat 0)), (0, .str s), (1, .int .i64 (.ofNat a))] [] .none h) (.exit 0) (SSt.mk [(1, .int .i64 (.ofNat b))] [] .none g)) :
    RunF Tryd.prog Tryd.f24 none call [] (SSt.mk [(0, .str s), (1, .int .i64 (.ofNat a))] [] .none h) (.ret)
      (SSt.mk [(4, .int .i64 (.ofNat b)), (5, .bool true)] [] .none g) :=
  sxF_run [4, 5] (hs := [Hint.loop (AEx.exit 0) (SSt.mk [(1, AV.int IntKind.i64 (Int.ofNat b))] [] Rc.none g)]) (by kernel_rfl) <| .cons H1 <| .nil
theorem rrm2 (call : CallT → List AV → AHeap → FRes) (a b : Nat) (s : List UInt8) (h g : AHeap)
    (H1 : RunF Tryd.prog Tryd.f24 none call [1, 0, 0] (SSt.mk [(5, .bool false), (4, .int .i64 (.ofNat 0)), (0, .str s), (1, .int .i64 (.ofNat a))] [] .none h) (.ret) (SSt.mk [(4, .int .i64 (.ofNat b)), (5, .bool false)] [] .none g)) :
    RunF Tryd.prog Tryd.f24 none call [] (SSt.mk [(0, .str s), (1, .int .i64 (.ofNat a))] [] .none h) (.ret)
      (SSt.mk [(4, .int .i64 (.ofNat b)), (5, .bool false)] [] .none g) :=
  sxF_run [4, 5] (hs := [Hint.loop AEx.ret (SSt.mk [(4, AV.int IntKind.i64 (Int.ofNat b)), (5, AV.bool false)] [] Rc.none g)]) (by kernel_rfl) <| .cons H1 <| .nil
theorem rrx (call : CallT → List AV → AHeap → FRes) (a n : Nat) (s : List UInt8) (h g : AHeap)
    (H1 : ltI (.ofNat a) (.ofNat (List.length s)) = false) :
    RunF Tryd.prog Tryd.f24 none call [1, 0, 0, 0] (SSt.mk [(0, .str s), (1, .int .i64 (.ofNat a))] [] .none h) (.exit 0)
      (SSt.mk [(1, .int .i64 (.ofNat a))] [] .none h) :=
  sxF_run [1] (hs := [.b false, .b false, .b false, .b false, .b false, .b false]) (by kernel_rfl) <| .cons H1 <| .cons H1 <| .cons H1 <| .cons H1 <| .cons H1 <| .cons (by kernel_rfl : false = false) <| .nil
theorem rrn (call : CallT → List AV → AHeap → FRes) (a n : Nat) (s : List UInt8) (h g : AHeap) (n_1 : Nat)
    (H1 : ltI (.ofNat a) (.ofNat (List.length s)) = true)
    (H2 : idxS a s = some (.int .u8 (.ofNat n_1)))
    (H3 : (!eqI (.ofNat n_1) (.ofNat 10)) = false) :
    RunF Tryd.prog Tryd.f24 none call [1, 0, 0, 0] (SSt.mk [(0, .str s), (1, .int .i64 (.ofNat a))] [] .none h) (.exit 0)
      (SSt.mk [(1, .int .i64 (.ofNat a))] [] .none h) :=
  sxF_run [1] (hs := [.b true, .b true, .b true, .v (.int .u8 (.ofNat n_1)), .b true, .b true, .b false]) (by kernel_rfl) <| .cons H1 <| .cons H1 <| .cons H1 <| .cons H2 <| .cons H1 <| .cons H1 <| .cons H3 <| .nil
theorem rr0 (call : CallT → List AV → AHeap → FRes) (a n : Nat) (s : List UInt8) (h g : AHeap) (n_1 : Nat)
    (H1 : ltI (.ofNat a) (.ofNat (List.length s)) = true)
    (H2 : idxS a s = some (.int .u8 (.ofNat n_1)))
    (H3 : (!eqI (.ofNat n_1) (.ofNat 10)) = true)
    (H4 : call (.fn 44) [.str s, .int .i64 (.ofNat a)] h = FRes.ret (.int .i64 (.ofNat 0)) g) :
    RunF Tryd.prog Tryd.f24 none call [1, 0, 0, 0] (SSt.mk [(0, .str s), (1, .int .i64 (.ofNat a))] [] .none h) (.ret)
      (SSt.mk [(4, .int .i64 (.ofNat a)), (5, .bool false)] [] .none g) :=
  sxF_run [4, 5] (hs := [.b true, .b true, .b true, .v (.int .u8 (.ofNat n_1)), .b true, .b true, .b true, .c (.int .i64 (.ofNat 0)) g, .b true]) (by kernel_rfl) <| .cons H1 <| .cons H1 <| .cons H1 <| .cons H2 <| .cons H1 <| .cons H1 <| .cons H3 <| .cons H4 <| .cons (by kernel_rfl : eqI (Int.ofNat 0) (Int.ofNat 0) = true) <| .nil
theorem rrk (call : CallT → List AV → AHeap → FRes) (a n : Nat) (s : List UInt8) (h g : AHeap) (n_1 n_2 : Nat)
    (H1 : ltI (.ofNat a) (.ofNat (List.length s)) = true)
    (H2 : idxS a s = some (.int .u8 (.ofNat n_1)))
    (H3 : (!eqI (.ofNat n_1) (.ofNat 10)) = true)
    (H4 : call (.fn 44) [.str s, .int .i64 (.ofNat a)] h = FRes.ret (.int .i64 (.ofNat n)) g)
    (H5 : eqI (.ofNat n) (.ofNat 0) = false)
    (H6 : arith .add .i64 (.ofNat a) (.ofNat n) = some (.int .i64 (.ofNat n_2))) :
    RunF Tryd.prog Tryd.f24 none call [1, 0, 0, 0] (SSt.mk [(0, .str s), (1, .int .i64 (.ofNat a))] [] .none h) (.nrm)
      (SSt.mk [(0, .str s), (1, .int .i64 (.ofNat n_2))] [] .none g) :=
  sxF_run [0, 1] (hs := [.b true, .b true, .b true, .v (.int .u8 (.ofNat n_1)), .b true, .b true, .b true, .c (.int .i64 (.ofNat n)) g, .b false, .v (.int .i64 (.ofNat n_2))]) (by kernel_rfl) <| .cons H1 <| .cons H1 <| .cons H1 <| .cons H2 <| .cons H1 <| .cons H1 <| .cons H3 <| .cons H4 <| .cons H5 <| .cons H6 <| .nil
theorem rtx1 (call : CallT → List AV → AHeap → FRes) (a b : Nat) (f : Bool) (s o : List UInt8) (h g : AHeap) (n_1 : Nat)
    (H1 : arith .add .i64 (.ofNat a) (.ofNat 1) = some (.int .i64 (.ofNat n_1)))
    (H2 : RunF Tryd.prog Tryd.f27 none call [1, 1, 1, 1, 0, 0] (SSt.mk [(1, .int .i64 (.ofNat n_1)), (8, .str []), (7, .int .i64 (.ofNat a)), (6, .bool false), (5, .int .i64 (.ofNat 0)), (4, .str []), (0, .str s)] [] .none h) (.ret) (SSt.mk [(4, .str o), (5, .int .i64 (.ofNat b)), (6, .bool f)] [] .none g)) :
    RunF Tryd.prog Tryd.f27 none call [] (SSt.mk [(0, .str s), (1, .int .i64 (.ofNat a))] [] .none h) (.ret)
      (SSt.mk [(4, .str o), (5, .int .i64 (.ofNat b)), (6, .bool f)] [] .none g) :=
  sxF_run [4, 5, 6] (hs := [Hint.v (AV.int IntKind.i64 (Int.ofNat n_1)), Hint.loop AEx.ret (SSt.mk [(4, AV.str o), (5, AV.int IntKind.i64 (Int.ofNat b)), (6, AV.bool f)] [] Rc.none g)]) (by kernel_rfl) <| .cons H1 <| .cons H2 <| .nil
theorem rtx2 (call : CallT → List AV → AHeap → FRes) (a b : Nat) (f : Bool) (s o : List UInt8) (h g : AHeap) (n_1 : Nat)
    (H1 : arith .add .i64 (.ofNat a) (.ofNat 1) = some (.int .i64 (.ofNat n_1)))
    (H2 : RunF Tryd.prog Tryd.f27 none call [1, 1, 1, 1, 0, 0] (SSt.mk [(1, .int .i64 (.ofNat n_1)), (8, .str []), (7, .int .i64 (.ofNat a)), (6, .bool false), (5, .int .i64 (.ofNat 0)), (4, .str []), (0, .str s)] [] .none h) (.exit 0) (SSt.mk [(7, .int .i64 (.ofNat a))] [] .none g)) :
    RunF Tryd.prog Tryd.f27 none call [] (SSt.mk [(0, .str s), (1, .int .i64 (.ofNat a))] [] .none h) (.ret)
      (SSt.mk [(4, .str []), (5, .int .i64 (.ofNat a)), (6, .bool false)] [] .none g) :=
  sxF_run [4, 5, 6] (hs := [Hint.v (AV.int IntKind.i64 (Int.ofNat n_1)), Hint.loop (AEx.exit 0) (SSt.mk [(7, AV.int IntKind.i64 (Int.ofNat a))] [] Rc.none g)]) (by kernel_rfl) <| .cons H1 <| .cons H2 <| .nil
theorem rtx (call : CallT → List AV → AHeap → FRes) (a b n : Nat) (s o : List UInt8) (h g : AHeap)
    (H1 : ltI (.ofNat a) (.ofNat (List.length s)) = false) :
    RunF Tryd.prog Tryd.f27 none call [1, 1, 1, 1, 0, 0, 0] (SSt.mk [(0, .str s), (1, .int .i64 (.ofNat a)), (7, .int .i64 (.ofNat b)), (8, .str o)] [] .none h) (.exit 0)
      (SSt.mk [(7, .int .i64 (.ofNat b))] [] .none h) :=
  sxF_run [7] (hs := [.b false, .b false, .b false, .b false, .b false, .b false]) (by kernel_rfl) <| .cons H1 <| .cons H1 <| .cons H1 <| .cons H1 <| .cons H1 <| .cons (by kernel_rfl : false = false) <| .nil
theorem rtn (call : CallT → List AV → AHeap → FRes) (a b n : Nat) (s o : List UInt8) (h g : AHeap) (n_1 : Nat)
    (H1 : ltI (.ofNat a) (.ofNat (List.length s)) = true)
    (H2 : idxS a s = some (.int .u8 (.ofNat n_1)))
    (H3 : (!eqI (.ofNat n_1) (.ofNat 10)) = false) :
    RunF Tryd.prog Tryd.f27 none call [1, 1, 1, 1, 0, 0, 0] (SSt.mk [(0, .str s), (1, .int .i64 (.ofNat a)), (7, .int .i64 (.ofNat b)), (8, .str o)] [] .none h) (.exit 0)
      (SSt.mk [(7, .int .i64 (.ofNat b))] [] .none h) :=
  sxF_run [7] (hs := [.b true, .b true, .b true, .v (.int .u8 (.ofNat n_1)), .b true, .b true, .b false]) (by kernel_rfl) <| .cons H1 <| .cons H1 <| .cons H1 <| .cons H2 <| .cons H1 <| .cons H1 <| .cons H3 <| .nil
theorem rtq (call : CallT → List AV → AHeap → FRes) (a b n : Nat) (s o : List UInt8) (h g : AHeap) (n_1 n_2 : Nat)
    (H1 : ltI (.ofNat a) (.ofNat (List.length s)) = true)
    (H2 : idxS a s = some (.int .u8 (.ofNat n_1)))
    (H3 : (!eqI (.ofNat n_1) (.ofNat 10)) = true)
    (H4 : eqI (.ofNat n_1) (.ofNat 34) = true)
    (H5 : arith .add .i64 (.ofNat a) (.ofNat 1) = some (.int .i64 (.ofNat n_2))) :
    RunF Tryd.prog Tryd.f27 none call [1, 1, 1, 1, 0, 0, 0] (SSt.mk [(0, .str s), (1, .int .i64 (.ofNat a)), (7, .int .i64 (.ofNat b)), (8, .str o)] [] .none h) (.ret)
      (SSt.mk [(4, .str o), (5, .int .i64 (.ofNat n_2)), (6, .bool true)] [] .none h) :=
  sxF_run [4, 5, 6] (hs := [.b true, .b true, .b true, .v (.int .u8 (.ofNat n_1)), .b true, .b true, .b true, .v (.int .u8 (.ofNat n_1)), .b true, .v (.int .i64 (.ofNat n_2))]) (by kernel_rfl) <| .cons H1 <| .cons H1 <| .cons H1 <| .cons H2 <| .cons H1 <| .cons H1 <| .cons H3 <| .cons H2 <| .cons H4 <| .cons H5 <| .nil
theorem rte0 (call : CallT → List AV → AHeap → FRes) (a b n : Nat) (s o : List UInt8) (h g : AHeap) (n_1 n_2 : Nat)
    (H1 : ltI (.ofNat a) (.ofNat (List.length s)) = true)
    (H2 : idxS a s = some (.int .u8 (.ofNat n_1)))
    (H3 : (!eqI (.ofNat n_1) (.ofNat 10)) = true)
    (H4 : eqI (.ofNat n_1) (.ofNat 34) = false)
    (H5 : eqI (.ofNat n_1) (.ofNat 92) = true)
    (H6 : arith .add .i64 (.ofNat a) (.ofNat 1) = some (.int .i64 (.ofNat n_2)))
    (H7 : leI (.ofNat (List.length s)) (.ofNat n_2) = true) :
    RunF Tryd.prog Tryd.f27 none call [1, 1, 1, 1, 0, 0, 0] (SSt.mk [(0, .str s), (1, .int .i64 (.ofNat a)), (7, .int .i64 (.ofNat b)), (8, .str o)] [] .none h) (.ret)
      (SSt.mk [(4, .str []), (5, .int .i64 (.ofNat a)), (6, .bool false)] [] .none h) :=
  sxF_run [4, 5, 6] (hs := [.b true, .b true, .b true, .v (.int .u8 (.ofNat n_1)), .b true, .b true, .b true, .v (.int .u8 (.ofNat n_1)), .b false, .v (.int .u8 (.ofNat n_1)), .b true, .v (.int .i64 (.ofNat n_2)), .b true]) (by kernel_rfl) <| .cons H1 <| .cons H1 <| .cons H1 <| .cons H2 <| .cons H1 <| .cons H1 <| .cons H3 <| .cons H2 <| .cons H4 <| .cons H2 <| .cons H5 <| .cons H6 <| .cons H7 <| .nil
theorem rte1 (call : CallT → List AV → AHeap → FRes) (a b n : Nat) (s o : List UInt8) (h g : AHeap) (n_1 n_2 n_3 n_4 : Nat) (t_1 t_2 : List UInt8)
    (H1 : ltI (.ofNat a) (.ofNat (List.length s)) = true)
    (H2 : idxS a s = some (.int .u8 (.ofNat n_1)))
    (H3 : (!eqI (.ofNat n_1) (.ofNat 10)) = true)
    (H4 : eqI (.ofNat n_1) (.ofNat 34) = false)
    (H5 : eqI (.ofNat n_1) (.ofNat 92) = true)
    (H6 : arith .add .i64 (.ofNat a) (.ofNat 1) = some (.int .i64 (.ofNat n_2)))
    (H7 : leI (.ofNat (List.length s)) (.ofNat n_2) = false)
    (H8 : idxS n_2 s = some (.int .u8 (.ofNat n_3)))
    (H9 : eqI (.ofNat n_3) (.ofNat 34) = true)
    (H10 : arith .add .i64 (.ofNat a) (.ofNat 2) = some (.int .i64 (.ofNat n_4)))
    (H11 : sliceA Tryd.prog h 9 (AV.str s) (some (AV.int IntKind.i64 (Int.ofNat n_2))) (some (AV.int IntKind.i64 (Int.ofNat n_4))) none = some (AV.str t_1))
    (H12 : strOp .add o t_1 = some (.str t_2)) :
    RunF Tryd.prog Tryd.f27 none call [1, 1, 1, 1, 0, 0, 0] (SSt.mk [(0, .str s), (1, .int .i64 (.ofNat a)), (7, .int .i64 (.ofNat b)), (8, .str o)] [] .none h) (.nrm)
      (SSt.mk [(0, .str s), (1, .int .i64 (.ofNat n_4)), (7, .int .i64 (.ofNat b)), (8, .str t_2)] [] .none h) :=
  sxF_run [0, 1, 7, 8] (hs := [.b true, .b true, .b true, .v (.int .u8 (.ofNat n_1)), .b true, .b true, .b true, .v (.int .u8 (.ofNat n_1)), .b false, .v (.int .u8 (.ofNat n_1)), .b true, .v (.int .i64 (.ofNat n_2)), .b false, .v (.int .i64 (.ofNat n_2)), .v (.int .u8 (.ofNat n_3)), .b true, .b true, .v (.int .i64 (.ofNat n_2)), .v (.int .i64 (.ofNat n_4)), .v (.str t_1), .v (.str t_2), .v (.int .i64 (.ofNat n_4))]) (by kernel_rfl) <| .cons H1 <| .cons H1 <| .cons H1 <| .cons H2 <| .cons H1 <| .cons H1 <| .cons H3 <| .cons H2 <| .cons H4 <| .cons H2 <| .cons H5 <| .cons H6 <| .cons H7 <| .cons H6 <| .cons H8 <| .cons H9 <| .cons H9 <| .cons H6 <| .cons H10 <| .cons H11 <| .cons H12 <| .cons H10 <| .nil
theorem rte2 (call : CallT → List AV → AHeap → FRes) (a b n : Nat) (s o : List UInt8) (h g : AHeap) (n_1 n_2 n_3 n_4 : Nat) (t_1 t_2 : List UInt8)
    (H1 : ltI (.ofNat a) (.ofNat (List.length s)) = true)
    (H2 : idxS a s = some (.int .u8 (.ofNat n_1)))
    (H3 : (!eqI (.ofNat n_1) (.ofNat 10)) = true)
    (H4 : eqI (.ofNat n_1) (.ofNat 34) = false)
    (H5 : eqI (.ofNat n_1) (.ofNat 92) = true)
    (H6 : arith .add .i64 (.ofNat a) (.ofNat 1) = some (.int .i64 (.ofNat n_2)))
    (H7 : leI (.ofNat (List.length s)) (.ofNat n_2) = false)
    (H8 : idxS n_2 s = some (.int .u8 (.ofNat n_3)))
    (H9 : eqI (.ofNat n_3) (.ofNat 34) = false)
    (H10 : eqI (.ofNat n_3) (.ofNat 92) = true)
    (H11 : arith .add .i64 (.ofNat a) (.ofNat 2) = some (.int .i64 (.ofNat n_4)))
    (H12 : sliceA Tryd.prog h 9 (AV.str s) (some (AV.int IntKind.i64 (Int.ofNat n_2))) (some (AV.int IntKind.i64 (Int.ofNat n_4))) none = some (AV.str t_1))
    (H13 : strOp .add o t_1 = some (.str t_2)) :
    RunF Tryd.prog Tryd.f27 none call [1, 1, 1, 1, 0, 0, 0] (SSt.mk [(0, .str s), (1, .int .i64 (.ofNat a)), (7, .int .i64 (.ofNat b)), (8, .str o)] [] .none h) (.nrm)
      (SSt.mk [(0, .str s), (1, .int .i64 (.ofNat n_4)), (7, .int .i64 (.ofNat b)), (8, .str t_2)] [] .none h) :=
  sxF_run [0, 1, 7, 8] (hs := [.b true, .b true, .b true, .v (.int .u8 (.ofNat n_1)), .b true, .b true, .b true, .v (.int .u8 (.ofNat n_1)), .b false, .v (.int .u8 (.ofNat n_1)), .b true, .v (.int .i64 (.ofNat n_2)), .b false, .v (.int .i64 (.ofNat n_2)), .v (.int .u8 (.ofNat n_3)), .b false, .b true, .v (.int .i64 (.ofNat n_2)), .v (.int .i64 (.ofNat n_4)), .v (.str t_1), .v (.str t_2), .v (.int .i64 (.ofNat n_4))]) (by kernel_rfl) <| .cons H1 <| .cons H1 <| .cons H1 <| .cons H2 <| .cons H1 <| .cons H1 <| .cons H3 <| .cons H2 <| .cons H4 <| .cons H2 <| .cons H5 <| .cons H6 <| .cons H7 <| .cons H6 <| .cons H8 <| .cons H9 <| .cons H10 <| .cons H6 <| .cons H11 <| .cons H12 <| .cons H13 <| .cons H11 <| .nil
theorem rte3 (call : CallT → List AV → AHeap → FRes) (a b n : Nat) (s o : List UInt8) (h g : AHeap) (n_1 n_2 n_3 : Nat) (t_1 : List UInt8) (n_4 : Nat)
    (H1 : ltI (.ofNat a) (.ofNat (List.length s)) = true)
    (H2 : idxS a s = some (.int .u8 (.ofNat n_1)))
    (H3 : (!eqI (.ofNat n_1) (.ofNat 10)) = true)
    (H4 : eqI (.ofNat n_1) (.ofNat 34) = false)
    (H5 : eqI (.ofNat n_1) (.ofNat 92) = true)
    (H6 : arith .add .i64 (.ofNat a) (.ofNat 1) = some (.int .i64 (.ofNat n_2)))
    (H7 : leI (.ofNat (List.length s)) (.ofNat n_2) = false)
    (H8 : idxS n_2 s = some (.int .u8 (.ofNat n_3)))
    (H9 : eqI (.ofNat n_3) (.ofNat 34) = false)
    (H10 : eqI (.ofNat n_3) (.ofNat 92) = false)
    (H11 : eqI (.ofNat n_3) (.ofNat 110) = true)
    (H12 : strOp .add o [10] = some (.str t_1))
    (H13 : arith .add .i64 (.ofNat a) (.ofNat 2) = some (.int .i64 (.ofNat n_4))) :
    RunF Tryd.prog Tryd.f27 none call [1, 1, 1, 1, 0, 0, 0] (SSt.mk [(0, .str s), (1, .int .i64 (.ofNat a)), (7, .int .i64 (.ofNat b)), (8, .str o)] [] .none h) (.nrm)
      (SSt.mk [(0, .str s), (1, .int .i64 (.ofNat n_4)), (7, .int .i64 (.ofNat b)), (8, .str t_1)] [] .none h) :=
  sxF_run [0, 1, 7, 8] (hs := [.b true, .b true, .b true, .v (.int .u8 (.ofNat n_1)), .b true, .b true, .b true, .v (.int .u8 (.ofNat n_1)), .b false, .v (.int .u8 (.ofNat n_1)), .b true, .v (.int .i64 (.ofNat n_2)), .b false, .v (.int .i64 (.ofNat n_2)), .v (.int .u8 (.ofNat n_3)), .b false, .b false, .b true, .v (.str t_1), .v (.int .i64 (.ofNat n_4))]) (by kernel_rfl) <| .cons H1 <| .cons H1 <| .cons H1 <| .cons H2 <| .cons H1 <| .cons H1 <| .cons H3 <| .cons H2 <| .cons H4 <| .cons H2 <| .cons H5 <| .cons H6 <| .cons H7 <| .cons H6 <| .cons H8 <| .cons H9 <| .cons H10 <| .cons H11 <| .cons H12 <| .cons H13 <| .nil
theorem rte4 (call : CallT → List AV → AHeap → FRes) (a b n : Nat) (s o : List UInt8) (h g : AHeap) (n_1 n_2 n_3 : Nat)
    (H1 : ltI (.ofNat a) (.ofNat (List.length s)) = true)
    (H2 : idxS a s = some (.int .u8 (.ofNat n_1)))
    (H3 : (!eqI (.ofNat n_1) (.ofNat 10)) = true)
    (H4 : eqI (.ofNat n_1) (.ofNat 34) = false)
    (H5 : eqI (.ofNat n_1) (.ofNat 92) = true)
    (H6 : arith .add .i64 (.ofNat a) (.ofNat 1) = some (.int .i64 (.ofNat n_2)))
    (H7 : leI (.ofNat (List.length s)) (.ofNat n_2) = false)
    (H8 : idxS n_2 s = some (.int .u8 (.ofNat n_3)))
    (H9 : eqI (.ofNat n_3) (.ofNat 34) = false)
    (H10 : eqI (.ofNat n_3) (.ofNat 92) = false)
    (H11 : eqI (.ofNat n_3) (.ofNat 110) = false) :
    RunF Tryd.prog Tryd.f27 none call [1, 1, 1, 1, 0, 0, 0] (SSt.mk [(0, .str s), (1, .int .i64 (.ofNat a)), (7, .int .i64 (.ofNat b)), (8, .str o)] [] .none h) (.ret)
      (SSt.mk [(4, .str []), (5, .int .i64 (.ofNat a)), (6, .bool false)] [] .none h) :=
  sxF_run [4, 5, 6] (hs := [.b true, .b true, .b true, .v (.int .u8 (.ofNat n_1)), .b true, .b true, .b true, .v (.int .u8 (.ofNat n_1)), .b false, .v (.int .u8 (.ofNat n_1)), .b true, .v (.int .i64 (.ofNat n_2)), .b false, .v (.int .i64 (.ofNat n_2)), .v (.int .u8 (.ofNat n_3)), .b false, .b false, .b false]) (by kernel_rfl) <| .cons H1 <| .cons H1 <| .cons H1 <| .cons H2 <| .cons H1 <| .cons H1 <| .cons H3 <| .cons H2 <| .cons H4 <| .cons H2 <| .cons H5 <| .cons H6 <| .cons H7 <| .cons H6 <| .cons H8 <| .cons H9 <| .cons H10 <| .cons H11 <| .nil
theorem rtc0 (call : CallT → List AV → AHeap → FRes) (a b n : Nat) (s o : List UInt8) (h g : AHeap) (n_1 : Nat)
    (H1 : ltI (.ofNat a) (.ofNat (List.length s)) = true)
    (H2 : idxS a s = some (.int .u8 (.ofNat n_1)))
    (H3 : (!eqI (.ofNat n_1) (.ofNat 10)) = true)
    (H4 : eqI (.ofNat n_1) (.ofNat 34) = false)
    (H5 : eqI (.ofNat n_1) (.ofNat 92) = false)
    (H6 : call (.fn 44) [.str s, .int .i64 (.ofNat a)] h = FRes.ret (.int .i64 (.ofNat 0)) g) :
    RunF Tryd.prog Tryd.f27 none call [1, 1, 1, 1, 0, 0, 0] (SSt.mk [(0, .str s), (1, .int .i64 (.ofNat a)), (7, .int .i64 (.ofNat b)), (8, .str o)] [] .none h) (.ret)
      (SSt.mk [(4, .str []), (5, .int .i64 (.ofNat a)), (6, .bool false)] [] .none g) :=
  sxF_run [4, 5, 6] (hs := [.b true, .b true, .b true, .v (.int .u8 (.ofNat n_1)), .b true, .b true, .b true, .v (.int .u8 (.ofNat n_1)), .b false, .v (.int .u8 (.ofNat n_1)), .b false, .c (.int .i64 (.ofNat 0)) g, .b true]) (by kernel_rfl) <| .cons H1 <| .cons H1 <| .cons H1 <| .cons H2 <| .cons H1 <| .cons H1 <| .cons H3 <| .cons H2 <| .cons H4 <| .cons H2 <| .cons H5 <| .cons H6 <| .cons (by kernel_rfl : eqI (Int.ofNat 0) (Int.ofNat 0) = true) <| .nil
theorem rtc (call : CallT → List AV → AHeap → FRes) (a b n : Nat) (s o : List UInt8) (h g : AHeap) (n_1 n_2 : Nat) (t_1 t_2 : List UInt8)
    (H1 : ltI (.ofNat a) (.ofNat (List.length s)) = true)
    (H2 : idxS a s = some (.int .u8 (.ofNat n_1)))
    (H3 : (!eqI (.ofNat n_1) (.ofNat 10)) = true)
    (H4 : eqI (.ofNat n_1) (.ofNat 34) = false)
    (H5 : eqI (.ofNat n_1) (.ofNat 92) = false)
    (H6 : call (.fn 44) [.str s, .int .i64 (.ofNat a)] h = FRes.ret (.int .i64 (.ofNat n)) g)
    (H7 : eqI (.ofNat n) (.ofNat 0) = false)
    (H8 : arith .add .i64 (.ofNat a) (.ofNat n) = some (.int .i64 (.ofNat n_2)))
    (H9 : sliceA Tryd.prog g 9 (AV.str s) (some (AV.int IntKind.i64 (Int.ofNat a))) (some (AV.int IntKind.i64 (Int.ofNat n_2))) none = some (AV.str t_1))
    (H10 : strOp .add o t_1 = some (.str t_2)) :
    RunF Tryd.prog Tryd.f27 none call [1, 1, 1, 1, 0, 0, 0] (SSt.mk [(0, .str s), (1, .int .i64 (.ofNat a)), (7, .int .i64 (.ofNat b)), (8, .str o)] [] .none h) (.nrm)
      (SSt.mk [(0, .str s), (1, .int .i64 (.ofNat n_2)), (7, .int .i64 (.ofNat b)), (8, .str t_2)] [] .none g) :=
  sxF_run [0, 1, 7, 8] (hs := [.b true, .b true, .b true, .v (.int .u8 (.ofNat n_1)), .b true, .b true, .b true, .v (.int .u8 (.ofNat n_1)), .b false, .v (.int .u8 (.ofNat n_1)), .b false, .c (.int .i64 (.ofNat n)) g, .b false, .v (.int .i64 (.ofNat n_2)), .v (.str t_1), .v (.str t_2), .v (.int .i64 (.ofNat n_2))]) (by kernel_rfl) <| .cons H1 <| .cons H1 <| .cons H1 <| .cons H2 <| .cons H1 <| .cons H1 <| .cons H3 <| .cons H2 <| .cons H4 <| .cons H2 <| .cons H5 <| .cons H6 <| .cons H7 <| .cons H8 <| .cons H9 <| .cons H10 <| .cons H8 <| .nil
theorem rsg1 (call : CallT → List AV → AHeap → FRes) (a : Nat) (s t : List UInt8) (h g : AHeap)
    (H1 : RunF Tryd.prog Tryd.f28 none call [1, 1, 0, 1, 0] (SSt.mk [(6, .int .i64 (.ofNat 0)), (5, .slice (AHeap.n h) 0 17 (.exact 17)), (4, .str []), (0, .str s), (1, .int .i64 (.ofNat a))] [] .none (AHeap.push h (.cells [.str [45, 62], .str [61, 62], .str [61, 61], .str [46, 46], .str [61], .str [58], .str [46], .str [44], .str [40], .str [41], .str [123], .str [125], .str [124], .str [60], .str [43], .str [45], .str [42]] 9 .own 0 0))) (.ret) (SSt.mk [(4, .str t)] [] .none g)) :
    RunF Tryd.prog Tryd.f28 none call [] (SSt.mk [(0, .str s), (1, .int .i64 (.ofNat a))] [] .none h) (.ret)
      (SSt.mk [(4, .str t)] [] .none g) :=
  sxF_run [4] (hs := [Hint.loop AEx.ret (SSt.mk [(4, AV.str t)] [] Rc.none g)]) (by kernel_rfl) <| .cons H1 <| .nil
theorem rsg2 (call : CallT → List AV → AHeap → FRes) (a : Nat) (s t : List UInt8) (h g : AHeap)
    (H1 : RunF Tryd.prog Tryd.f28 none call [1, 1, 0, 1, 0] (SSt.mk [(6, .int .i64 (.ofNat 0)), (5, .slice (AHeap.n h) 0 17 (.exact 17)), (4, .str []), (0, .str s), (1, .int .i64 (.ofNat a))] [] .none (AHeap.push h (.cells [.str [45, 62], .str [61, 62], .str [61, 61], .str [46, 46], .str [61], .str [58], .str [46], .str [44], .str [40], .str [41], .str [123], .str [125], .str [124], .str [60], .str [43], .str [45], .str [42]] 9 .own 0 0))) (.exit 0) (SSt.mk [] [] .none g)) :
    RunF Tryd.prog Tryd.f28 none call [] (SSt.mk [(0, .str s), (1, .int .i64 (.ofNat a))] [] .none h) (.ret)
      (SSt.mk [(4, .str [])] [] .none g) :=
  sxF_run [4] (hs := [Hint.loop (AEx.exit 0) (SSt.mk [] [] Rc.none g)]) (by kernel_rfl) <| .cons H1 <| .nil
theorem rsx (call : CallT → List AV → AHeap → FRes) (a b i : Nat) (s t u : List UInt8) (h : AHeap)
    (H1 : ltI (.ofNat i) (.ofNat 17) = false) :
    RunF Tryd.prog Tryd.f28 none call [1, 1, 0, 1, 0, 0] (SSt.mk [(0, .str s), (1, .int .i64 (.ofNat a)), (5, .slice b 0 17 (.exact 17)), (6, .int .i64 (.ofNat i))] [] .none h) (.exit 0)
      (SSt.mk [] [] .none h) :=
  sxF_run [] (hs := [.b false]) (by kernel_rfl) <| .cons H1 <| .nil
theorem rsf (call : CallT → List AV → AHeap → FRes) (a b i : Nat) (s t u : List UInt8) (h : AHeap) (n_1 n_2 : Nat)
    (H1 : ltI (.ofNat i) (.ofNat 17) = true)
    (H2 : Nat.le (Nat.succ i) 17)
    (H3 : load1 (AHeap.room h 27) b (0 + i * 1) = some (.str t))
    (H4 : arith .add .i64 (.ofNat a) (.ofNat (List.length t)) = some (.int .i64 (.ofNat n_1)))
    (H5 : leI (.ofNat n_1) (.ofNat (List.length s)) = false)
    (H6 : Decidable.rec (fun h => (fun x => false) h) (fun h => (fun x => true) h) (instDecidableEqBool (leI (.ofNat n_1) (.ofNat (List.length s))) true) = false)
    (H7 : (bif leI (Int.ofNat n_1) (Int.ofNat (List.length s)) then AV.tup [] else AV.bool false) = AV.bool false)
    (H8 : arith .add .i64 (.ofNat i) (.ofNat 1) = some (.int .i64 (.ofNat n_2))) :
    RunF Tryd.prog Tryd.f28 none call [1, 1, 0, 1, 0, 0] (SSt.mk [(0, .str s), (1, .int .i64 (.ofNat a)), (5, .slice b 0 17 (.exact 17)), (6, .int .i64 (.ofNat i))] [] .none h) (.nrm)
      (SSt.mk [(0, .str s), (1, .int .i64 (.ofNat a)), (5, .slice b 0 17 (.exact 17)), (6, .int .i64 (.ofNat n_2))] [] .none (AHeap.room h 27)) :=
  sxF_run [0, 1, 5, 6] (hs := [.b true, .v (.ptr b (0 + i * 1)), .v (.str t), .v (.int .i64 (.ofNat n_1)), .b false, .b false, .b false, .b false, .b false, .b false, .b false, .b false, .b false, .b false, .b false, .b false, .b false, .b false, .b false, .b false, .b false, .v (.int .i64 (.ofNat n_2))]) (by kernel_rfl) <| .cons H1 <| .cons (⟨H2, rfl⟩ : Nat.le (Nat.succ i) 17 ∧ AV.ptr b (0 + i * 1) = AV.ptr b (0 + i * 1)) <| .cons H3 <| .cons H4 <| .cons H5 <| .cons H5 <| .cons H5 <| .cons H5 <| .cons H5 <| .cons H5 <| .cons H5 <| .cons H5 <| .cons H5 <| .cons H5 <| .cons H5 <| .cons H5 <| .cons H5 <| .cons H5 <| .cons H5 <| .cons H5 <| .cons (by kernel_rfl : AV.sound (AV.int IntKind.i64 (Int.ofNat a)) = true) <| .cons (by kernel_rfl : AV.int IntKind.i64 (Int.ofNat a) = AV.int IntKind.i64 (Int.ofNat a)) <| .cons (by kernel_rfl : AV.sound (AV.slice b 0 17 (Cap.exact 17)) = true) <| .cons (by kernel_rfl : AV.slice b 0 17 (Cap.exact 17) = AV.slice b 0 17 (Cap.exact 17)) <| .cons (by kernel_rfl : AV.sound (AV.int IntKind.i64 (Int.ofNat i)) = true) <| .cons (by kernel_rfl : AV.int IntKind.i64 (Int.ofNat i) = AV.int IntKind.i64 (Int.ofNat i)) <| .cons (by kernel_rfl : AV.sound (AV.ptr b (0 + i * 1)) = true) <| .cons (⟨H2, rfl⟩ : Nat.le (Nat.succ i) 17 ∧ AV.ptr b (0 + i * 1) = AV.ptr b (0 + i * 1)) <| .cons (by kernel_rfl : AV.sound (AV.str t) = true) <| .cons H3 <| .cons (by kernel_rfl : AV.sound (AV.int IntKind.i64 (Int.ofNat (List.length t))) = true) <| .cons (by kernel_rfl : AV.int IntKind.i64 (Int.ofNat (List.length t)) = AV.int IntKind.i64 (Int.ofNat (List.length t))) <| .cons (by kernel_rfl : AV.sound (AV.int IntKind.i64 (Int.ofNat n_1)) = true) <| .cons H4 <| .cons (by kernel_rfl : AV.sound (AV.str s) = true) <| .cons (by kernel_rfl : AV.str s = AV.str s) <| .cons (by kernel_rfl : AV.sound (AV.int IntKind.i64 (Int.ofNat (List.length s))) = true) <| .cons (by kernel_rfl : AV.int IntKind.i64 (Int.ofNat (List.length s)) = AV.int IntKind.i64 (Int.ofNat (List.length s))) <| .cons (by kernel_rfl : AV.sound (AV.bool (leI (Int.ofNat n_1) (Int.ofNat (List.length s)))) = true) <| .cons (by kernel_rfl : AV.bool (leI (Int.ofNat n_1) (Int.ofNat (List.length s))) = AV.bool (leI (Int.ofNat n_1) (Int.ofNat (List.length s)))) <| .cons (by kernel_rfl : AV.sound (AV.bool (leI (Int.ofNat n_1) (Int.ofNat (List.length s)))) = true) <| .cons (by kernel_rfl : AV.bool (leI (Int.ofNat n_1) (Int.ofNat (List.length s))) = AV.bool (leI (Int.ofNat n_1) (Int.ofNat (List.length s)))) <| .cons H6 <| .cons H6 <| .cons H6 <| .cons H6 <| .cons H6 <| .cons H6 <| .cons H6 <| .cons H6 <| .cons H6 <| .cons H6 <| .cons H6 <| .cons H6 <| .cons H6 <| .cons H6 <| .cons H6 <| .cons (by kernel_rfl : AV.sound (AV.bool false) = true) <| .cons H7 <| .cons (by kernel_rfl : false = false) <| .cons H8 <| .nil
theorem rss_1 (call : CallT → List AV → AHeap → FRes) (a b i : Nat) (s t u : List UInt8) (h : AHeap) (n_1 : Nat)
    (H1 : ltI (.ofNat i) (.ofNat 17) = true)
    (H2 : Nat.le (Nat.succ i) 17)
    (H3 : load1 (AHeap.room h 27) b (0 + i * 1) = some (.str t))
    (H4 : arith .add .i64 (.ofNat a) (.ofNat (List.length t)) = some (.int .i64 (.ofNat n_1)))
    (H5 : leI (.ofNat n_1) (.ofNat (List.length s)) = true)
    (H6 : sliceA Tryd.prog (AHeap.room h 27) 9 (AV.str s) (some (AV.int IntKind.i64 (Int.ofNat a))) (some (AV.int IntKind.i64 (Int.ofNat n_1))) none = some (AV.str u))
    (H7 : (bif leI (Int.ofNat n_1) (Int.ofNat (List.length s)) then AV.bool (beqBytes u t) else AV.bool false) = AV.bool (beqBytes u t))
    (H8 : beqBytes u t = true) :
    RunF Tryd.prog Tryd.f28 none call [1, 1, 0, 1, 0, 0] (SSt.mk [(0, .str s), (1, .int .i64 (.ofNat a)), (5, .slice b 0 17 (.exact 17)), (6, .int .i64 (.ofNat i))] [] .none h) (.ret)
      (SSt.mk [(0, .str s), (1, .int .i64 (.ofNat a)), (4, .str t), (5, .slice b 0 17 (.exact 17)), (6, .int .i64 (.ofNat i))] [] .none (AHeap.room h 27)) :=
  sxF_run [0, 1, 4, 5, 6] (hs := [.b true, .v (.ptr b (0 + i * 1)), .v (.str t), .v (.int .i64 (.ofNat n_1)), .b true, .b true, .b true, .b true, .b true, .b true, .v (.ptr b (0 + i * 1)), .b true, .v (.str t), .b true, .b true, .v (.int .i64 (.ofNat n_1)), .b true, .v (.str u), .b true, .b true, .b true, .v (.ptr b (0 + i * 1)), .b true, .v (.str t), .b true, .b true, .b true, .v (.ptr b (0 + i * 1)), .v (.str t)]) (by kernel_rfl) <| .cons H1 <| .cons (⟨H2, rfl⟩ : Nat.le (Nat.succ i) 17 ∧ AV.ptr b (0 + i * 1) = AV.ptr b (0 + i * 1)) <| .cons H3 <| .cons H4 <| .cons H5 <| .cons H5 <| .cons H5 <| .cons H5 <| .cons H5 <| .cons H5 <| .cons (⟨H2, rfl⟩ : Nat.le (Nat.succ i) 17 ∧ AV.ptr b (0 + i * 1) = AV.ptr b (0 + i * 1)) <| .cons H5 <| .cons H3 <| .cons H5 <| .cons H5 <| .cons H4 <| .cons H5 <| .cons H6 <| .cons H5 <| .cons H5 <| .cons H5 <| .cons (⟨H2, rfl⟩ : Nat.le (Nat.succ i) 17 ∧ AV.ptr b (0 + i * 1) = AV.ptr b (0 + i * 1)) <| .cons H5 <| .cons H3 <| .cons H5 <| .cons H5 <| .cons (by kernel_rfl : AV.sound (AV.int IntKind.i64 (Int.ofNat a)) = true) <| .cons (by kernel_rfl : AV.int IntKind.i64 (Int.ofNat a) = AV.int IntKind.i64 (Int.ofNat a)) <| .cons (by kernel_rfl : AV.sound (AV.slice b 0 17 (Cap.exact 17)) = true) <| .cons (by kernel_rfl : AV.slice b 0 17 (Cap.exact 17) = AV.slice b 0 17 (Cap.exact 17)) <| .cons (by kernel_rfl : AV.sound (AV.int IntKind.i64 (Int.ofNat i)) = true) <| .cons (by kernel_rfl : AV.int IntKind.i64 (Int.ofNat i) = AV.int IntKind.i64 (Int.ofNat i)) <| .cons (by kernel_rfl : AV.sound (AV.ptr b (0 + i * 1)) = true) <| .cons (⟨H2, rfl⟩ : Nat.le (Nat.succ i) 17 ∧ AV.ptr b (0 + i * 1) = AV.ptr b (0 + i * 1)) <| .cons (by kernel_rfl : AV.sound (AV.str t) = true) <| .cons H3 <| .cons (by kernel_rfl : AV.sound (AV.int IntKind.i64 (Int.ofNat (List.length t))) = true) <| .cons (by kernel_rfl : AV.int IntKind.i64 (Int.ofNat (List.length t)) = AV.int IntKind.i64 (Int.ofNat (List.length t))) <| .cons (by kernel_rfl : AV.sound (AV.int IntKind.i64 (Int.ofNat n_1)) = true) <| .cons H4 <| .cons (by kernel_rfl : AV.sound (AV.str s) = true) <| .cons (by kernel_rfl : AV.str s = AV.str s) <| .cons (by kernel_rfl : AV.sound (AV.int IntKind.i64 (Int.ofNat (List.length s))) = true) <| .cons (by kernel_rfl : AV.int IntKind.i64 (Int.ofNat (List.length s)) = AV.int IntKind.i64 (Int.ofNat (List.length s))) <| .cons (by kernel_rfl : AV.sound (AV.bool (leI (Int.ofNat n_1) (Int.ofNat (List.length s)))) = true) <| .cons (by kernel_rfl : AV.bool (leI (Int.ofNat n_1) (Int.ofNat (List.length s))) = AV.bool (leI (Int.ofNat n_1) (Int.ofNat (List.length s)))) <| .cons (by kernel_rfl : AV.sound (AV.bool (leI (Int.ofNat n_1) (Int.ofNat (List.length s)))) = true) <| .cons (by kernel_rfl : AV.bool (leI (Int.ofNat n_1) (Int.ofNat (List.length s))) = AV.bool (leI (Int.ofNat n_1) (Int.ofNat (List.length s)))) <| .cons (by kernel_rfl : AV.sound (AV.str s) = true) <| .cons (by kernel_rfl : AV.str s = AV.str s) <| .cons (by kernel_rfl : AV.sound (AV.int IntKind.i64 (Int.ofNat a)) = true) <| .cons (by kernel_rfl : AV.int IntKind.i64 (Int.ofNat a) = AV.int IntKind.i64 (Int.ofNat a)) <| .cons (by kernel_rfl : AV.sound (AV.int IntKind.i64 (Int.ofNat a)) = true) <| .cons (by kernel_rfl : AV.int IntKind.i64 (Int.ofNat a) = AV.int IntKind.i64 (Int.ofNat a)) <| .cons (by kernel_rfl : AV.sound (AV.slice b 0 17 (Cap.exact 17)) = true) <| .cons (by kernel_rfl : AV.slice b 0 17 (Cap.exact 17) = AV.slice b 0 17 (Cap.exact 17)) <| .cons (by kernel_rfl : AV.sound (AV.int IntKind.i64 (Int.ofNat i)) = true) <| .cons (by kernel_rfl : AV.int IntKind.i64 (Int.ofNat i) = AV.int IntKind.i64 (Int.ofNat i)) <| .cons (by kernel_rfl : AV.sound (AV.ptr b (0 + i * 1)) = true) <| .cons (⟨H2, rfl⟩ : Nat.le (Nat.succ i) 17 ∧ AV.ptr b (0 + i * 1) = AV.ptr b (0 + i * 1)) <| .cons (by kernel_rfl : AV.sound (AV.str t) = true) <| .cons H3 <| .cons (by kernel_rfl : AV.sound (AV.int IntKind.i64 (Int.ofNat (List.length t))) = true) <| .cons (by kernel_rfl : AV.int IntKind.i64 (Int.ofNat (List.length t)) = AV.int IntKind.i64 (Int.ofNat (List.length t))) <| .cons (by kernel_rfl : AV.sound (AV.int IntKind.i64 (Int.ofNat n_1)) = true) <| .cons H4 <| .cons (by kernel_rfl : AV.sound (AV.str u) = true) <| .cons H6 <| .cons (by kernel_rfl : AV.sound (AV.slice b 0 17 (Cap.exact 17)) = true) <| .cons (by kernel_rfl : AV.slice b 0 17 (Cap.exact 17) = AV.slice b 0 17 (Cap.exact 17)) <| .cons (by kernel_rfl : AV.sound (AV.int IntKind.i64 (Int.ofNat i)) = true) <| .cons (by kernel_rfl : AV.int IntKind.i64 (Int.ofNat i) = AV.int IntKind.i64 (Int.ofNat i)) <| .cons (by kernel_rfl : AV.sound (AV.ptr b (0 + i * 1)) = true) <| .cons (⟨H2, rfl⟩ : Nat.le (Nat.succ i) 17 ∧ AV.ptr b (0 + i * 1) = AV.ptr b (0 + i * 1)) <| .cons (by kernel_rfl : AV.sound (AV.str t) = true) <| .cons H3 <| .cons (by kernel_rfl : AV.sound (AV.bool (beqBytes u t)) = true) <| .cons (by kernel_rfl : AV.bool (beqBytes u t) = AV.bool (beqBytes u t)) <| .cons (by kernel_rfl : AV.sound (AV.bool (beqBytes u t)) = true) <| .cons H7 <| .cons H8 <| .cons (⟨H2, rfl⟩ : Nat.le (Nat.succ i) 17 ∧ AV.ptr b (0 + i * 1) = AV.ptr b (0 + i * 1)) <| .cons H3 <| .nil
theorem rss_2 (call : CallT → List AV → AHeap → FRes) (a b i : Nat) (s t u : List UInt8) (h : AHeap) (n_1 n_2 : Nat)
    (H1 : ltI (.ofNat i) (.ofNat 17) = true)
    (H2 : Nat.le (Nat.succ i) 17)
    (H3 : load1 (AHeap.room h 27) b (0 + i * 1) = some (.str t))
    (H4 : arith .add .i64 (.ofNat a) (.ofNat (List.length t)) = some (.int .i64 (.ofNat n_1)))
    (H5 : leI (.ofNat n_1) (.ofNat (List.length s)) = true)
    (H6 : sliceA Tryd.prog (AHeap.room h 27) 9 (AV.str s) (some (AV.int IntKind.i64 (Int.ofNat a))) (some (AV.int IntKind.i64 (Int.ofNat n_1))) none = some (AV.str u))
    (H7 : (bif leI (Int.ofNat n_1) (Int.ofNat (List.length s)) then AV.bool (beqBytes u t) else AV.bool false) = AV.bool (beqBytes u t))
    (H8 : beqBytes u t = false)
    (H9 : arith .add .i64 (.ofNat i) (.ofNat 1) = some (.int .i64 (.ofNat n_2))) :
    RunF Tryd.prog Tryd.f28 none call [1, 1, 0, 1, 0, 0] (SSt.mk [(0, .str s), (1, .int .i64 (.ofNat a)), (5, .slice b 0 17 (.exact 17)), (6, .int .i64 (.ofNat i))] [] .none h) (.nrm)
      (SSt.mk [(0, .str s), (1, .int .i64 (.ofNat a)), (5, .slice b 0 17 (.exact 17)), (6, .int .i64 (.ofNat n_2))] [] .none (AHeap.room h 27)) :=
  sxF_run [0, 1, 4, 5, 6] (hs := [.b true, .v (.ptr b (0 + i * 1)), .v (.str t), .v (.int .i64 (.ofNat n_1)), .b true, .b true, .b true, .b true, .b true, .b true, .v (.ptr b (0 + i * 1)), .b true, .v (.str t), .b true, .b true, .v (.int .i64 (.ofNat n_1)), .b true, .v (.str u), .b true, .b true, .b true, .v (.ptr b (0 + i * 1)), .b true, .v (.str t), .b true, .b true, .b false, .v (.int .i64 (.ofNat n_2))]) (by kernel_rfl) <| .cons H1 <| .cons (⟨H2, rfl⟩ : Nat.le (Nat.succ i) 17 ∧ AV.ptr b (0 + i * 1) = AV.ptr b (0 + i * 1)) <| .cons H3 <| .cons H4 <| .cons H5 <| .cons H5 <| .cons H5 <| .cons H5 <| .cons H5 <| .cons H5 <| .cons (⟨H2, rfl⟩ : Nat.le (Nat.succ i) 17 ∧ AV.ptr b (0 + i * 1) = AV.ptr b (0 + i * 1)) <| .cons H5 <| .cons H3 <| .cons H5 <| .cons H5 <| .cons H4 <| .cons H5 <| .cons H6 <| .cons H5 <| .cons H5 <| .cons H5 <| .cons (⟨H2, rfl⟩ : Nat.le (Nat.succ i) 17 ∧ AV.ptr b (0 + i * 1) = AV.ptr b (0 + i * 1)) <| .cons H5 <| .cons H3 <| .cons H5 <| .cons H5 <| .cons (by kernel_rfl : AV.sound (AV.int IntKind.i64 (Int.ofNat a)) = true) <| .cons (by kernel_rfl : AV.int IntKind.i64 (Int.ofNat a) = AV.int IntKind.i64 (Int.ofNat a)) <| .cons (by kernel_rfl : AV.sound (AV.slice b 0 17 (Cap.exact 17)) = true) <| .cons (by kernel_rfl : AV.slice b 0 17 (Cap.exact 17) = AV.slice b 0 17 (Cap.exact 17)) <| .cons (by kernel_rfl : AV.sound (AV.int IntKind.i64 (Int.ofNat i)) = true) <| .cons (by kernel_rfl : AV.int IntKind.i64 (Int.ofNat i) = AV.int IntKind.i64 (Int.ofNat i)) <| .cons (by kernel_rfl : AV.sound (AV.ptr b (0 + i * 1)) = true) <| .cons (⟨H2, rfl⟩ : Nat.le (Nat.succ i) 17 ∧ AV.ptr b (0 + i * 1) = AV.ptr b (0 + i * 1)) <| .cons (by kernel_rfl : AV.sound (AV.str t) = true) <| .cons H3 <| .cons (by kernel_rfl : AV.sound (AV.int IntKind.i64 (Int.ofNat (List.length t))) = true) <| .cons (by kernel_rfl : AV.int IntKind.i64 (Int.ofNat (List.length t)) = AV.int IntKind.i64 (Int.ofNat (List.length t))) <| .cons (by kernel_rfl : AV.sound (AV.int IntKind.i64 (Int.ofNat n_1)) = true) <| .cons H4 <| .cons (by kernel_rfl : AV.sound (AV.str s) = true) <| .cons (by kernel_rfl : AV.str s = AV.str s) <| .cons (by kernel_rfl : AV.sound (AV.int IntKind.i64 (Int.ofNat (List.length s))) = true) <| .cons (by kernel_rfl : AV.int IntKind.i64 (Int.ofNat (List.length s)) = AV.int IntKind.i64 (Int.ofNat (List.length s))) <| .cons (by kernel_rfl : AV.sound (AV.bool (leI (Int.ofNat n_1) (Int.ofNat (List.length s)))) = true) <| .cons (by kernel_rfl : AV.bool (leI (Int.ofNat n_1) (Int.ofNat (List.length s))) = AV.bool (leI (Int.ofNat n_1) (Int.ofNat (List.length s)))) <| .cons (by kernel_rfl : AV.sound (AV.bool (leI (Int.ofNat n_1) (Int.ofNat (List.length s)))) = true) <| .cons (by kernel_rfl : AV.bool (leI (Int.ofNat n_1) (Int.ofNat (List.length s))) = AV.bool (leI (Int.ofNat n_1) (Int.ofNat (List.length s)))) <| .cons (by kernel_rfl : AV.sound (AV.str s) = true) <| .cons (by kernel_rfl : AV.str s = AV.str s) <| .cons (by kernel_rfl : AV.sound (AV.int IntKind.i64 (Int.ofNat a)) = true) <| .cons (by kernel_rfl : AV.int IntKind.i64 (Int.ofNat a) = AV.int IntKind.i64 (Int.ofNat a)) <| .cons (by kernel_rfl : AV.sound (AV.int IntKind.i64 (Int.ofNat a)) = true) <| .cons (by kernel_rfl : AV.int IntKind.i64 (Int.ofNat a) = AV.int IntKind.i64 (Int.ofNat a)) <| .cons (by kernel_rfl : AV.sound (AV.slice b 0 17 (Cap.exact 17)) = true) <| .cons (by kernel_rfl : AV.slice b 0 17 (Cap.exact 17) = AV.slice b 0 17 (Cap.exact 17)) <| .cons (by kernel_rfl : AV.sound (AV.int IntKind.i64 (Int.ofNat i)) = true) <| .cons (by kernel_rfl : AV.int IntKind.i64 (Int.ofNat i) = AV.int IntKind.i64 (Int.ofNat i)) <| .cons (by kernel_rfl : AV.sound (AV.ptr b (0 + i * 1)) = true) <| .cons (⟨H2, rfl⟩ : Nat.le (Nat.succ i) 17 ∧ AV.ptr b (0 + i * 1) = AV.ptr b (0 + i * 1)) <| .cons (by kernel_rfl : AV.sound (AV.str t) = true) <| .cons H3 <| .cons (by kernel_rfl : AV.sound (AV.int IntKind.i64 (Int.ofNat (List.length t))) = true) <| .cons (by kernel_rfl : AV.int IntKind.i64 (Int.ofNat (List.length t)) = AV.int IntKind.i64 (Int.ofNat (List.length t))) <| .cons (by kernel_rfl : AV.sound (AV.int IntKind.i64 (Int.ofNat n_1)) = true) <| .cons H4 <| .cons (by kernel_rfl : AV.sound (AV.str u) = true) <| .cons H6 <| .cons (by kernel_rfl : AV.sound (AV.slice b 0 17 (Cap.exact 17)) = true) <| .cons (by kernel_rfl : AV.slice b 0 17 (Cap.exact 17) = AV.slice b 0 17 (Cap.exact 17)) <| .cons (by kernel_rfl : AV.sound (AV.int IntKind.i64 (Int.ofNat i)) = true) <| .cons (by kernel_rfl : AV.int IntKind.i64 (Int.ofNat i) = AV.int IntKind.i64 (Int.ofNat i)) <| .cons (by kernel_rfl : AV.sound (AV.ptr b (0 + i * 1)) = true) <| .cons (⟨H2, rfl⟩ : Nat.le (Nat.succ i) 17 ∧ AV.ptr b (0 + i * 1) = AV.ptr b (0 + i * 1)) <| .cons (by kernel_rfl : AV.sound (AV.str t) = true) <| .cons H3 <| .cons (by kernel_rfl : AV.sound (AV.bool (beqBytes u t)) = true) <| .cons (by kernel_rfl : AV.bool (beqBytes u t) = AV.bool (beqBytes u t)) <| .cons (by kernel_rfl : AV.sound (AV.bool (beqBytes u t)) = true) <| .cons H7 <| .cons H8 <| .cons H9 <| .nil

/-! ### The document's lexer: characters -/
theorem rletter_c (m : Nat) (b : UInt8) (h : AHeap) : C (m + 1) (.fn 25) [.int .u8 (Int.ofNat b.toNat)] h = .ret (.bool (letterB b)) h := by
  have fin : ∀ {x : Bool}, RunF Tryd.prog Tryd.f25 none (C m) [] ⟨[(0, .int .u8 (Int.ofNat b.toNat))], [], .none, h⟩ .ret ⟨[(2, .bool x)], [], .none, h⟩ → C (m + 1) (.fn 25) [.int .u8 (Int.ofNat b.toNat)] h = .ret (.bool x) h := fun hr =>
    fn_runF (intr := Il) (n := m) (args := [.int .u8 (Int.ofNat b.toNat)]) Tryd.func25 (by kernel_rfl) rfl (by kernel_rfl) hr (.inl rfl) (by kernel_rfl)
  have e95 := eqI_beq b.toNat 95
  by_cases h1 : 97 ≤ b.toNat
  · by_cases h2 : b.toNat ≤ 122
    · have e : letterB b = true := by simp [letterB, h1, h2]
      rw [e]; exact fin (rlt_1 (C m) b.toNat h (le_t h1) (le_t h2))
    · have e : letterB b = (b.toNat == 95) := by
        have h3 : ¬ b.toNat ≤ 90 := by omega
        simp [letterB, h1, h2, h3]
      rw [e, ← e95]; exact fin (rlt_3 (C m) b.toNat h (le_t h1) (le_f h2) (le_t (by omega)) (le_f (by omega)))
  · by_cases h2 : 65 ≤ b.toNat
    · by_cases h3 : b.toNat ≤ 90
      · have e : letterB b = true := by simp [letterB, h1, h2, h3]
        rw [e]; exact fin (rlt_5 (C m) b.toNat h (le_f h1) (le_t h2) (le_t h3))
      · have e : letterB b = (b.toNat == 95) := by simp [letterB, h1, h3]
        rw [e, ← e95]; exact fin (rlt_6 (C m) b.toNat h (le_f h1) (le_t h2) (le_f h3))
    · have e : letterB b = (b.toNat == 95) := by simp [letterB, h1, h2]
      rw [e, ← e95]; exact fin (rlt_7 (C m) b.toNat h (le_f h1) (le_f h2))
theorem rdigit_c (m : Nat) (b : UInt8) (h : AHeap) : C (m + 1) (.fn 26) [.int .u8 (Int.ofNat b.toNat)] h = .ret (.bool (digitB b)) h := by
  have fin : ∀ {x : Bool}, RunF Tryd.prog Tryd.f26 none (C m) [] ⟨[(0, .int .u8 (Int.ofNat b.toNat))], [], .none, h⟩ .ret ⟨[(2, .bool x)], [], .none, h⟩ → C (m + 1) (.fn 26) [.int .u8 (Int.ofNat b.toNat)] h = .ret (.bool x) h := fun hr =>
    fn_runF (intr := Il) (n := m) (args := [.int .u8 (Int.ofNat b.toNat)]) Tryd.func26 (by kernel_rfl) rfl (by kernel_rfl) hr (.inl rfl) (by kernel_rfl)
  by_cases h1 : 48 ≤ b.toNat
  · have hr := rdg_1 (C m) b.toNat h (le_t h1)
    by_cases h2 : b.toNat ≤ 57
    · rw [le_t h2] at hr
      have e : digitB b = true := by simp [digitB, h1, h2]
      rw [e]; exact fin hr
    · rw [le_f h2] at hr
      have e : digitB b = false := by simp [digitB, h2]
      rw [e]; exact fin hr
  · have e : digitB b = false := by simp [digitB, h1]
    rw [e]; exact fin (rdg_2 (C m) b.toNat h (le_f h1))
theorem second_c (m c : Nat) (h : AHeap) : C (m + 1) (.fn 60) [.int .u8 (Int.ofNat c)] h = .ret (.tup [.int .u8 (Int.ofNat (second c).1), .int .u8 (Int.ofNat (second c).2.1), .int .i64 (Int.ofNat (second c).2.2)]) h := by
  have fin : ∀ {x y z : Nat}, RunF Tryd.prog Tryd.f60 none (C m) [] ⟨[(0, .int .u8 (Int.ofNat c))], [], .none, h⟩ .ret ⟨[(2, .int .u8 (Int.ofNat x)), (3, .int .u8 (Int.ofNat y)), (4, .int .i64 (Int.ofNat z))], [], .none, h⟩ → C (m + 1) (.fn 60) [.int .u8 (Int.ofNat c)] h = .ret (.tup [.int .u8 (Int.ofNat x), .int .u8 (Int.ofNat y), .int .i64 (Int.ofNat z)]) h := fun hr =>
    fn_runF (intr := Il) (n := m) (args := [.int .u8 (Int.ofNat c)]) Tryd.func60 (by kernel_rfl) rfl (by kernel_rfl) hr (.inl rfl) (by kernel_rfl)
  rcases second_cases c with ⟨h1, h2, he⟩ | ⟨h1, he⟩ | ⟨h1, he⟩ | ⟨h1, h2, h3, he⟩ | ⟨h1, he⟩ | ⟨h1, h2, he⟩ | ⟨h1, he⟩ | ⟨h1, he⟩ <;> rw [he]
  · exact fin (rse1 (C m) c h (le_t h1) (le_t h2))
  · exact fin (rse2 (C m) c h (le_t (by omega)) (le_f (by omega)) (eqI_t h1))
  · exact fin (rse3 (C m) c h (le_t (by omega)) (le_f (by omega)) (eqI_f (by omega)) (eqI_t h1))
  · exact fin (rse4 (C m) c h (le_t (by omega)) (le_f (by omega)) (eqI_f (by omega)) (eqI_f h3) (lt_t h1) (le_t h2))
  · exact fin (rse5 (C m) c h (le_t (by omega)) (le_f (by omega)) (eqI_f (by omega)) (eqI_f (by omega)) (lt_t (by omega)) (le_f (by omega)) (eqI_t h1))
  · exact fin (rse6 (C m) c h (le_t (by omega)) (le_f (by omega)) (eqI_f (by omega)) (eqI_f (by omega)) (lt_t (by omega)) (le_f (by omega)) (eqI_f (by omega)) (lt_t h1) (le_t h2))
  · exact fin (rse7 (C m) c h (le_t (by omega)) (le_f (by omega)) (eqI_f (by omega)) (eqI_f (by omega)) (lt_t (by omega)) (le_f (by omega)) (eqI_f (by omega)) (lt_t (by omega)) (le_f (by omega)) (eqI_t h1))
  · rcases h1 with h1 | h1
    · exact fin (rse8 (C m) c h (le_f (by omega)) (eqI_f (by omega)) (eqI_f (by omega)) (lt_f (by omega)) (eqI_f (by omega)) (lt_f (by omega)) (eqI_f (by omega)))
    · exact fin (rse9 (C m) c h (le_t (by omega)) (le_f (by omega)) (eqI_f (by omega)) (eqI_f (by omega)) (lt_t (by omega)) (le_f (by omega)) (eqI_f (by omega)) (lt_t (by omega)) (le_f (by omega)) (eqI_f (by omega)))
theorem within_c (m a lo hi : Nat) (s : List UInt8) (h : AHeap) : C (m + 1) (.fn 61) [.str s, .int .i64 (Int.ofNat a), .int .u8 (Int.ofNat lo), .int .u8 (Int.ofNat hi)] h = .ret (.bool (win (s.drop a) lo hi)) h := by
  have fin : ∀ {x : Bool}, RunF Tryd.prog Tryd.f61 none (C m) [] ⟨[(0, .str s), (1, .int .i64 (Int.ofNat a)), (2, .int .u8 (Int.ofNat lo)), (3, .int .u8 (Int.ofNat hi))], [], .none, h⟩ .ret ⟨[(8, .bool x)], [], .none, h⟩ → C (m + 1) (.fn 61) [.str s, .int .i64 (Int.ofNat a), .int .u8 (Int.ofNat lo), .int .u8 (Int.ofNat hi)] h = .ret (.bool x) h := fun hr =>
    fn_runF (intr := Il) (n := m) (args := [.str s, .int .i64 (Int.ofNat a), .int .u8 (Int.ofNat lo), .int .u8 (Int.ofNat hi)]) Tryd.func61 (by kernel_rfl) rfl (by kernel_rfl) hr (.inl rfl) (by kernel_rfl)
  rcases Nat.lt_or_ge a s.length with hl | hl
  · have e : win (s.drop a) lo hi = (decide (lo ≤ s[a].toNat) && decide (s[a].toNat ≤ hi)) := by rw [List.drop_eq_getElem_cons hl]; rfl
    rw [e]
    by_cases h1 : lo ≤ s[a].toNat
    · have hr := rwi_1 (C m) a lo hi s h _ (lt_t hl) (idx_t hl) (le_t h1)
      by_cases h2 : s[a].toNat ≤ hi
      · rw [le_t h2] at hr; simp only [h1, h2, decide_true, Bool.and_true]; exact fin hr
      · rw [le_f h2] at hr; simp only [h1, h2, decide_true, decide_false, Bool.and_false]; exact fin hr
    · simp only [h1, decide_false, Bool.false_and]
      exact fin (rwi_2 (C m) a lo hi s h _ (lt_t hl) (idx_t hl) (le_f h1))
  · have e : win (s.drop a) lo hi = false := by rw [List.drop_eq_nil_of_le hl]; rfl
    rw [e]; exact fin (rwi_3 (C m) a lo hi s h (lt_f (by omega)))
theorem chr_eq {s : List UInt8} {a : Nat} (hl : a < s.length) (h0 : ¬ s[a].toNat < 128) : chr (s.drop a) = match second s[a].toNat with
    | (lo, hi, 2) => if win (s.drop (a + 1)) lo hi then 2 else 0
    | (lo, hi, 3) => if win (s.drop (a + 1)) lo hi && win (s.drop (a + 2)) 128 191 then 3 else 0
    | (lo, hi, 4) => if win (s.drop (a + 1)) lo hi && win (s.drop (a + 2)) 128 191 && win (s.drop (a + 3)) 128 191 then 4 else 0
    | _ => 0 := by
  rw [List.drop_eq_getElem_cons hl]
  have e1 : (s.drop (a + 1)).drop 1 = s.drop (a + 2) := by rw [List.drop_drop]
  have e2 : (s.drop (a + 1)).drop 2 = s.drop (a + 3) := by rw [List.drop_drop]
  show (if s[a].toNat < 128 then 1 else _) = _
  rw [if_neg h0, e1, e2]
  rfl
theorem ch_tail (m a n : Nat) (s : List UInt8) (h : AHeap) (hs : s.length ≤ 80000) (ha : a < s.length) : ∀ (k i : Nat), n - i = k → i ≤ n → n ≤ 4 →
    ((∀ j, i ≤ j → j < n → win (s.drop (a + j)) 128 191 = true) → LoopF Tryd.prog Tryd.f44 none (C (m + 1)) [1, 1, 1, 1, 0, 1, 0] (k + 1) ⟨[(0, .str s), (1, .int .i64 (Int.ofNat a)), (7, .int .i64 (Int.ofNat n)), (8, .int .i64 (Int.ofNat i))], [], .none, h⟩ (.exit 0) ⟨[(7, .int .i64 (Int.ofNat n))], [], .none, h⟩) ∧
    ((∃ j, i ≤ j ∧ j < n ∧ win (s.drop (a + j)) 128 191 = false) → LoopF Tryd.prog Tryd.f44 none (C (m + 1)) [1, 1, 1, 1, 0, 1, 0] (k + 1) ⟨[(0, .str s), (1, .int .i64 (Int.ofNat a)), (7, .int .i64 (Int.ofNat n)), (8, .int .i64 (Int.ofNat i))], [], .none, h⟩ .ret ⟨[(4, .int .i64 (Int.ofNat 0))], [], .none, h⟩)
  | 0, i, hk, hi, hn => ⟨fun _ => .exit (rcx (C (m + 1)) a n i s h h (lt_f (by omega))) (by simp), fun ⟨j, h1, h2, _⟩ => by omega⟩
  | k + 1, i, hk, hi, hn => by
    have hin : i < n := by omega
    obtain ⟨r1, r2⟩ := ch_tail m a n s h hs ha k (i + 1) (by omega) (by omega) hn
    have ad : arith BinOp.add IntKind.i64 (Int.ofNat a) (Int.ofNat i) = some (.int .i64 (Int.ofNat (a + i))) := add_n (by omega)
    have wc := within_c m (a + i) 128 191 s h
    cases hw : win (s.drop (a + i)) 128 191 with
    | true =>
      rw [hw] at wc
      have st := rct (C (m + 1)) a n i s h h _ _ (lt_t hin) ad wc (add_n (i := i) (j := 1) (by omega))
      refine ⟨fun hall => .step st (r1 fun j h1 h2 => hall j (by omega) h2), fun ⟨j, h1, h2, h3⟩ => .step st (r2 ⟨j, ?_, h2, h3⟩)⟩
      rcases Nat.lt_or_ge i j with hj | hj
      · omega
      · obtain rfl : j = i := by omega
        rw [hw] at h3; cases h3
    | false =>
      rw [hw] at wc
      refine ⟨fun hall => ?_, fun _ => .exit (rcf (C (m + 1)) a n i s h h _ (lt_t hin) ad wc) (by simp)⟩
      have := hall i (Nat.le_refl _) hin
      rw [hw] at this; cases this
theorem character_c (m a : Nat) (s : List UInt8) (h : AHeap) (hs : s.length ≤ 80000) (ha : a < s.length) : C (m + 2) (.fn 44) [.str s, .int .i64 (Int.ofNat a)] h = .ret (.int .i64 (Int.ofNat (chr (s.drop a)))) h := by
  have fin : ∀ {x : Nat}, RunF Tryd.prog Tryd.f44 none (C (m + 1)) [] ⟨[(0, .str s), (1, .int .i64 (Int.ofNat a))], [], .none, h⟩ .ret ⟨[(4, .int .i64 (Int.ofNat x))], [], .none, h⟩ → C (m + 2) (.fn 44) [.str s, .int .i64 (Int.ofNat a)] h = .ret (.int .i64 (Int.ofNat x)) h := fun hr =>
    fn_runF (intr := Il) (n := m + 1) (args := [.str s, .int .i64 (Int.ofNat a)]) Tryd.func44 (by kernel_rfl) rfl (by kernel_rfl) hr (.inl rfl) (by kernel_rfl)
  have i1 := idx_t ha
  by_cases h0 : s[a].toNat < 128
  · have e : chr (s.drop a) = 1 := by rw [List.drop_eq_getElem_cons ha]; simp only [chr, if_pos h0]
    rw [e]; exact fin (rch1 (C (m + 1)) a 0 0 0 s h h h h _ i1 (lt_t h0))
  · rw [chr_eq ha h0]
    have sc := second_c m s[a].toNat h
    have l0 := lt_f h0
    have ad : arith BinOp.add IntKind.i64 (Int.ofNat a) (Int.ofNat 1) = some (.int .i64 (Int.ofNat (a + 1))) := add_n (by omega)
    have key : ∀ lo hi n r : Nat, second s[a].toNat = (lo, hi, n) → 2 ≤ n → n ≤ 4 → ((win (s.drop (a + 1)) lo hi = true ∧ ∀ j, 2 ≤ j → j < n → win (s.drop (a + j)) 128 191 = true) → r = n) → (¬ (win (s.drop (a + 1)) lo hi = true ∧ ∀ j, 2 ≤ j → j < n → win (s.drop (a + j)) 128 191 = true) → r = 0) →
        C (m + 2) (.fn 44) [.str s, .int .i64 (Int.ofNat a)] h = .ret (.int .i64 (Int.ofNat r)) h := by
      intro lo hi n r he h2 h4 hy hn
      rw [he] at sc
      have wc := within_c m (a + 1) lo hi s h
      cases hw : win (s.drop (a + 1)) lo hi with
      | false =>
        rw [hw] at wc
        rw [hn (fun x => by rw [hw] at x; exact absurd x.1 (by simp))]
        exact fin (rch3 (C (m + 1)) a lo hi n s h h h h _ _ i1 l0 sc (eqI_f (by omega)) ad wc)
      | true =>
        rw [hw] at wc
        obtain ⟨r1, r2⟩ := ch_tail m a n s h hs ha (n - 2) 2 rfl h2 h4
        by_cases hall : ∀ j, 2 ≤ j → j < n → win (s.drop (a + j)) 128 191 = true
        · rw [hy ⟨hw, hall⟩]
          exact fin (rch4 (C (m + 1)) a lo hi n s h h h h _ _ i1 l0 sc (eqI_f (by omega)) ad wc (RunP.pre (LoopF.run (p := [1, 1, 1, 1, 0, 1, 0]) (by kernel_rfl) (r1 hall) (by omega)) ⟨rfl, rfl, rfl, rfl, trivial⟩ rfl rfl rfl))
        · rw [hn (fun x => hall x.2)]
          have hex : ∃ j, 2 ≤ j ∧ j < n ∧ win (s.drop (a + j)) 128 191 = false := by
            refine Classical.byContradiction fun hx => hall fun j j1 j2 => ?_
            cases hj : win (s.drop (a + j)) 128 191 with
            | true => rfl
            | false => exact absurd ⟨j, j1, j2, hj⟩ hx
          exact fin (rch5 (C (m + 1)) a lo hi n s h h h h _ _ i1 l0 sc (eqI_f (by omega)) ad wc (RunP.pre (LoopF.run (p := [1, 1, 1, 1, 0, 1, 0]) (by kernel_rfl) (r2 hex) (by omega)) ⟨rfl, rfl, rfl, rfl, trivial⟩ rfl rfl rfl))
    have k2 : ∀ lo hi, second s[a].toNat = (lo, hi, 2) → C (m + 2) (.fn 44) [.str s, .int .i64 (Int.ofNat a)] h = .ret (.int .i64 (Int.ofNat (if win (s.drop (a + 1)) lo hi = true then 2 else 0))) h := fun lo hi he =>
      key lo hi 2 _ he (by omega) (by omega) (fun x => if_pos x.1) (fun x => if_neg fun y => x ⟨y, fun j _ _ => by omega⟩)
    have k3 : ∀ lo hi, second s[a].toNat = (lo, hi, 3) → C (m + 2) (.fn 44) [.str s, .int .i64 (Int.ofNat a)] h = .ret (.int .i64 (Int.ofNat (if (win (s.drop (a + 1)) lo hi && win (s.drop (a + 2)) 128 191) = true then 3 else 0))) h := fun lo hi he =>
      key lo hi 3 _ he (by omega) (by omega) (fun x => if_pos (by rw [x.1, x.2 2 (by omega) (by omega)]; rfl)) (fun x => if_neg fun y => by
        rw [Bool.and_eq_true] at y
        refine x ⟨y.1, fun j _ _ => ?_⟩
        obtain rfl : j = 2 := by omega
        exact y.2)
    have k4 : ∀ lo hi, second s[a].toNat = (lo, hi, 4) → C (m + 2) (.fn 44) [.str s, .int .i64 (Int.ofNat a)] h = .ret (.int .i64 (Int.ofNat (if (win (s.drop (a + 1)) lo hi && win (s.drop (a + 2)) 128 191 && win (s.drop (a + 3)) 128 191) = true then 4 else 0))) h := fun lo hi he =>
      key lo hi 4 _ he (by omega) (by omega) (fun x => if_pos (by rw [x.1, x.2 2 (by omega) (by omega), x.2 3 (by omega) (by omega)]; rfl)) (fun x => if_neg fun y => by
        rw [Bool.and_eq_true, Bool.and_eq_true] at y
        refine x ⟨y.1.1, fun j j1 j2 => ?_⟩
        rcases Nat.lt_or_ge j 3 with hj | hj
        · obtain rfl : j = 2 := by omega
          exact y.1.2
        · obtain rfl : j = 3 := by omega
          exact y.2)
    rcases second_cases s[a].toNat with ⟨_, _, he⟩ | ⟨_, he⟩ | ⟨_, he⟩ | ⟨_, _, _, he⟩ | ⟨_, he⟩ | ⟨_, _, he⟩ | ⟨_, he⟩ | ⟨_, he⟩
    · rw [he]; exact k2 _ _ he
    · rw [he]; exact k3 _ _ he
    · rw [he]; exact k3 _ _ he
    · rw [he]; exact k3 _ _ he
    · rw [he]; exact k4 _ _ he
    · rw [he]; exact k4 _ _ he
    · rw [he]; exact k4 _ _ he
    · rw [he] at sc ⊢
      exact fin (rch2 (C (m + 1)) a 0 0 0 s h h h h _ i1 l0 sc)
end Go.Proofs.Lx

namespace Go.Proofs.Lx
open Go AEv Go.Proofs Lexp
set_option maxRecDepth 100000
set_option maxHeartbeats 1000000

/-! ### The document's lexer: remarks, texts, signs -/
theorem neq_t {a b : Nat} (h : ¬ a = b) : (!eqI (Int.ofNat a) (Int.ofNat b)) = true := by rw [eqI_f h]; rfl
theorem neq_f {a b : Nat} (h : a = b) : (!eqI (Int.ofNat a) (Int.ofNat b)) = false := by rw [eqI_t h]; rfl
abbrev rmS (s : List UInt8) (a : Nat) (h : AHeap) : SSt := ⟨[(0, .str s), (1, .int .i64 (Int.ofNat a))], [], .none, h⟩
theorem rm_lp (m a0 : Nat) (s : List UInt8) (h : AHeap) (hs : s.length ≤ 80000) : ∀ (f off : Nat), (s.drop (a0 + off)).length ≤ f → a0 + off ≤ s.length →
    ((remk f (s.drop (a0 + off)) off).1 = true → ∃ k, k ≤ f + 1 ∧ LoopF Tryd.prog Tryd.f24 none (C (m + 2)) [1, 0, 0] k (rmS s (a0 + off) h) (.exit 0) ⟨[(1, .int .i64 (Int.ofNat (a0 + (remk f (s.drop (a0 + off)) off).2)))], [], .none, h⟩) ∧
    ((remk f (s.drop (a0 + off)) off).1 = false → ∃ k, k ≤ f + 1 ∧ LoopF Tryd.prog Tryd.f24 none (C (m + 2)) [1, 0, 0] k (rmS s (a0 + off) h) .ret ⟨[(4, .int .i64 (Int.ofNat (a0 + (remk f (s.drop (a0 + off)) off).2))), (5, .bool false)], [], .none, h⟩)
  | 0, off, hf, ha => by
    have hl : a0 + off = s.length := by rw [List.length_drop] at hf; omega
    exact ⟨fun _ => ⟨1, by omega, .exit (rrx (C (m + 2)) (a0 + off) 0 s h h (lt_f (by omega))) (by simp)⟩, fun hx => (by cases hx)⟩
  | f + 1, off, hf, ha => by
    rcases Nat.lt_or_ge (a0 + off) s.length with hlt | hge
    · have hd := List.drop_eq_getElem_cons hlt
      have i1 := lt_t hlt
      have i2 : idxS (a0 + off) s = some (.int .u8 (Int.ofNat s[a0 + off].toNat)) := idx_t hlt
      by_cases h10 : s[a0 + off].toNat = 10
      · have e : remk (f + 1) (s.drop (a0 + off)) off = (true, off) := remk_line _ _ _ (by rw [hd]; exact line_nl h10 _)
        rw [e]
        exact ⟨fun _ => ⟨1, by omega, .exit (rrn (C (m + 2)) (a0 + off) 0 s h h _ i1 i2 (neq_f h10)) (by simp)⟩, fun hx => (by cases hx)⟩
      · have e : remk (f + 1) (s.drop (a0 + off)) off = match chr (s.drop (a0 + off)) with
            | 0 => (false, off)
            | n + 1 => remk f ((s.drop (a0 + off)).drop (n + 1)) (off + (n + 1)) := by rw [hd]; exact remk_cons h10
        have cc := character_c m (a0 + off) s h hs hlt
        have hle := chr_le (s.drop (a0 + off))
        rw [List.length_drop] at hle
        rw [e]
        cases hc : chr (s.drop (a0 + off)) with
        | zero =>
          rw [hc] at cc
          exact ⟨fun hx => (by cases hx), fun _ => ⟨1, by omega, .exit (rr0 (C (m + 2)) (a0 + off) 0 s h h _ i1 i2 (neq_t h10) cc) (by simp)⟩⟩
        | succ n =>
          rw [hc] at cc hle
          simp only
          rw [List.drop_drop, Nat.add_assoc]
          rw [List.length_drop] at hf
          obtain ⟨r1, r2⟩ := rm_lp m a0 s h hs f (off + (n + 1)) (by rw [List.length_drop]; omega) (by omega)
          have st := rrk (C (m + 2)) (a0 + off) (n + 1) s h h _ (a0 + off + (n + 1)) i1 i2 (neq_t h10) cc (eqI_f (by omega)) (add_n (by omega))
          rw [Nat.add_assoc] at st
          exact ⟨fun hx => let ⟨k, k1, k2⟩ := r1 hx; ⟨k + 1, by omega, .step st k2⟩, fun hx => let ⟨k, k1, k2⟩ := r2 hx; ⟨k + 1, by omega, .step st k2⟩⟩
    · have hn : s.drop (a0 + off) = [] := List.drop_eq_nil_of_le hge
      have e : remk (f + 1) (s.drop (a0 + off)) off = (true, off) := by rw [hn]; rfl
      rw [e]
      exact ⟨fun _ => ⟨1, by omega, .exit (rrx (C (m + 2)) (a0 + off) 0 s h h (lt_f (by omega))) (by simp)⟩, fun hx => (by cases hx)⟩
theorem rremark_c (m a : Nat) (s : List UInt8) (h : AHeap) (hs : s.length ≤ 80000) (ha : a ≤ s.length) : C (m + 3) (.fn 24) [.str s, .int .i64 (Int.ofNat a)] h = .ret (.tup [.int .i64 (Int.ofNat (a + (remk (s.drop a).length (s.drop a) 0).2)), .bool (remk (s.drop a).length (s.drop a) 0).1]) h := by
  have fin : ∀ {x : Nat} {b : Bool}, RunF Tryd.prog Tryd.f24 none (C (m + 2)) [] ⟨[(0, .str s), (1, .int .i64 (Int.ofNat a))], [], .none, h⟩ .ret ⟨[(4, .int .i64 (Int.ofNat x)), (5, .bool b)], [], .none, h⟩ → C (m + 3) (.fn 24) [.str s, .int .i64 (Int.ofNat a)] h = .ret (.tup [.int .i64 (Int.ofNat x), .bool b]) h := fun hr =>
    fn_runF (intr := Il) (n := m + 2) (args := [.str s, .int .i64 (Int.ofNat a)]) Tryd.func24 (by kernel_rfl) rfl (by kernel_rfl) hr (.inl rfl) (by kernel_rfl)
  obtain ⟨r1, r2⟩ := rm_lp m a s h hs (s.drop a).length 0 (Nat.le_refl _) ha
  rw [Nat.add_zero] at r1 r2
  have hl : (s.drop a).length ≤ 80000 := by rw [List.length_drop]; omega
  cases hx : (remk (s.drop a).length (s.drop a) 0).1 with
  | true =>
    obtain ⟨k, k1, k2⟩ := r1 hx
    exact fin (rrm1 (C (m + 2)) a _ s h h (RunP.pre (LoopF.run (p := [1, 0, 0]) (by kernel_rfl) k2 (by omega)) ⟨rfl, rfl, trivial⟩ rfl rfl rfl))
  | false =>
    obtain ⟨k, k1, k2⟩ := r2 hx
    exact fin (rrm2 (C (m + 2)) a _ s h h (RunP.pre (LoopF.run (p := [1, 0, 0]) (by kernel_rfl) k2 (by omega)) ⟨rfl, rfl, trivial⟩ rfl rfl rfl))
abbrev txS (s : List UInt8) (a b : Nat) (o : List UInt8) (h : AHeap) : SSt := ⟨[(0, .str s), (1, .int .i64 (Int.ofNat a)), (7, .int .i64 (Int.ofNat b)), (8, .str o)], [], .none, h⟩
/-- How the loop of a text ends. -/
def TxEnd (n : Nat) (s : List UInt8) (a0 f : Nat) (st : SSt) (h : AHeap) : TR → Prop
  | .ok t off => ∃ k, k ≤ f + 1 ∧ LoopF Tryd.prog Tryd.f27 none (C n) [1, 1, 1, 1, 0, 0] k st .ret ⟨[(4, .str t), (5, .int .i64 (Int.ofNat (a0 + off))), (6, .bool true)], [], .none, h⟩
  | .bad off => ∃ k, k ≤ f + 1 ∧ (LoopF Tryd.prog Tryd.f27 none (C n) [1, 1, 1, 1, 0, 0] k st .ret ⟨[(4, .str []), (5, .int .i64 (Int.ofNat (a0 + off))), (6, .bool false)], [], .none, h⟩ ∨ (off = 0 ∧ LoopF Tryd.prog Tryd.f27 none (C n) [1, 1, 1, 1, 0, 0] k st (.exit 0) ⟨[(7, .int .i64 (Int.ofNat a0))], [], .none, h⟩))
theorem TxEnd.step {n : Nat} {s : List UInt8} {a0 f : Nat} {st st1 : SSt} {h : AHeap} (hr : RunF Tryd.prog Tryd.f27 none (C n) [1, 1, 1, 1, 0, 0, 0] st .nrm st1) : ∀ {x : TR}, TxEnd n s a0 f st1 h x → TxEnd n s a0 (f + 1) st h x
  | .ok t off, ⟨k, k1, k2⟩ => ⟨k + 1, by omega, .step hr k2⟩
  | .bad off, ⟨k, k1, k2⟩ => ⟨k + 1, by omega, k2.elim (fun x => .inl (.step hr x)) (fun ⟨x, y⟩ => .inr ⟨x, .step hr y⟩)⟩
theorem sl_mid {h : AHeap} {s : List UInt8} {a b : Nat} (h1 : a ≤ b) (h2 : b ≤ s.length) : sliceA Tryd.prog h 9 (.str s) (some (.int .i64 (Int.ofNat a))) (some (.int .i64 (Int.ofNat b))) none = some (.str ((s.drop a).take (b - a))) := slice_str strt h1 h2
theorem tx_lp (m a0 : Nat) (s : List UInt8) (h : AHeap) (hs : s.length ≤ 80000) : ∀ (f off : Nat) (o : List UInt8), (s.drop (a0 + off)).length ≤ f → a0 + off ≤ s.length → o.length ≤ off →
    TxEnd (m + 2) s a0 f (txS s (a0 + off) a0 o h) h (txt f (s.drop (a0 + off)) off o)
  | 0, off, o, hf, ha, ho => by
    have hl : a0 + off = s.length := by rw [List.length_drop] at hf; omega
    exact ⟨1, by omega, .inr ⟨rfl, .exit (rtx (C (m + 2)) (a0 + off) a0 0 s o h h (lt_f (by omega))) (by simp)⟩⟩
  | f + 1, off, o, hf, ha, ho => by
    rcases Nat.lt_or_ge (a0 + off) s.length with hlt | hge
    · have hd := List.drop_eq_getElem_cons hlt
      have i1 := lt_t hlt
      have i2 : idxS (a0 + off) s = some (.int .u8 (Int.ofNat s[a0 + off].toNat)) := idx_t hlt
      have ad1 : arith BinOp.add IntKind.i64 (Int.ofNat (a0 + off)) (Int.ofNat 1) = some (.int .i64 (Int.ofNat (a0 + off + 1))) := add_n (by omega)
      have ad2 : arith BinOp.add IntKind.i64 (Int.ofNat (a0 + off)) (Int.ofNat 2) = some (.int .i64 (Int.ofNat (a0 + off + 2))) := add_n (by omega)
      rw [List.length_drop] at hf
      by_cases h10 : s[a0 + off].toNat = 10
      · have e : txt (f + 1) (s.drop (a0 + off)) off o = .bad 0 := txt_line _ _ _ _ (by rw [hd]; exact line_nl h10 _)
        rw [e]
        exact ⟨1, by omega, .inr ⟨rfl, .exit (rtn (C (m + 2)) (a0 + off) a0 0 s o h h _ i1 i2 (neq_f h10)) (by simp)⟩⟩
      by_cases h34 : s[a0 + off].toNat = 34
      · have e : txt (f + 1) (s.drop (a0 + off)) off o = .ok o (off + 1) := by rw [hd]; exact txt_q h34
        rw [e]
        exact ⟨1, by omega, .exit (rtq (C (m + 2)) (a0 + off) a0 0 s o h h _ _ i1 i2 (neq_t h10) (eqI_t h34) ad1) (by simp)⟩
      by_cases h92 : s[a0 + off].toNat = 92
      · have e : txt (f + 1) (s.drop (a0 + off)) off o = match s.drop (a0 + off + 1) with
            | [] => .bad off
            | e :: t' => if e.toNat = 34 ∨ e.toNat = 92 then txt f t' (off + 2) (o ++ [e])
              else if e.toNat = 110 then txt f t' (off + 2) (o ++ [10])
              else .bad off := by rw [hd]; exact txt_esc h92
        rw [e]
        rcases Nat.lt_or_ge (a0 + off + 1) s.length with hl2 | hg2
        · have hd2 := List.drop_eq_getElem_cons hl2
          have j1 := le_f (show ¬ s.length ≤ a0 + off + 1 by omega)
          have j2 : idxS (a0 + off + 1) s = some (.int .u8 (Int.ofNat s[a0 + off + 1].toNat)) := idx_t hl2
          rw [hd2]
          simp only
          have ih := fun o' ho' => tx_lp m a0 s h hs f (off + 2) o' (by rw [List.length_drop]; omega) (by omega) ho'
          have e2 : a0 + (off + 2) = a0 + off + 2 := by omega
          rw [e2] at ih
          have e3 : a0 + off + 1 + 1 = a0 + off + 2 := by omega
          rw [e3]
          have hsl : (s.drop (a0 + off + 1)).take (a0 + off + 2 - (a0 + off + 1)) = [s[a0 + off + 1]] := by
            rw [hd2, show a0 + off + 2 - (a0 + off + 1) = 1 by omega]; rfl
          have slc : sliceA Tryd.prog h 9 (.str s) (some (.int .i64 (Int.ofNat (a0 + off + 1)))) (some (.int .i64 (Int.ofNat (a0 + off + 2)))) none = some (.str [s[a0 + off + 1]]) := by rw [sl_mid (by omega) (by omega), hsl]
          by_cases q34 : s[a0 + off + 1].toNat = 34
          · rw [if_pos (.inl q34)]
            exact TxEnd.step (rte1 (C (m + 2)) (a0 + off) a0 0 s o h h _ _ _ _ _ _ i1 i2 (neq_t h10) (eqI_f h34) (eqI_t h92) ad1 j1 j2 (eqI_t q34) ad2 slc (str_add (by simp; omega))) (ih _ (by simp; omega))
          by_cases q92 : s[a0 + off + 1].toNat = 92
          · rw [if_pos (.inr q92)]
            exact TxEnd.step (rte2 (C (m + 2)) (a0 + off) a0 0 s o h h _ _ _ _ _ _ i1 i2 (neq_t h10) (eqI_f h34) (eqI_t h92) ad1 j1 j2 (eqI_f q34) (eqI_t q92) ad2 slc (str_add (by simp; omega))) (ih _ (by simp; omega))
          rw [if_neg (by omega)]
          by_cases q110 : s[a0 + off + 1].toNat = 110
          · rw [if_pos q110]
            exact TxEnd.step (rte3 (C (m + 2)) (a0 + off) a0 0 s o h h _ _ _ _ _ i1 i2 (neq_t h10) (eqI_f h34) (eqI_t h92) ad1 j1 j2 (eqI_f q34) (eqI_f q92) (eqI_t q110) (str_add (by simp; omega)) ad2) (ih _ (by simp; omega))
          · rw [if_neg q110]
            exact ⟨1, by omega, .inl (.exit (rte4 (C (m + 2)) (a0 + off) a0 0 s o h h _ _ _ i1 i2 (neq_t h10) (eqI_f h34) (eqI_t h92) ad1 j1 j2 (eqI_f q34) (eqI_f q92) (eqI_f q110)) (by simp))⟩
        · rw [List.drop_eq_nil_of_le hg2]
          exact ⟨1, by omega, .inl (.exit (rte0 (C (m + 2)) (a0 + off) a0 0 s o h h _ _ i1 i2 (neq_t h10) (eqI_f h34) (eqI_t h92) ad1 (le_t hg2)) (by simp))⟩
      · have e : txt (f + 1) (s.drop (a0 + off)) off o = match chr (s.drop (a0 + off)) with
            | 0 => .bad off
            | n + 1 => txt f ((s.drop (a0 + off)).drop (n + 1)) (off + (n + 1)) (o ++ (s.drop (a0 + off)).take (n + 1)) := by rw [hd]; exact txt_cons h10 h34 h92
        have cc := character_c m (a0 + off) s h hs hlt
        have hle := chr_le (s.drop (a0 + off))
        rw [List.length_drop] at hle
        rw [e]
        cases hc : chr (s.drop (a0 + off)) with
        | zero =>
          rw [hc] at cc
          exact ⟨1, by omega, .inl (.exit (rtc0 (C (m + 2)) (a0 + off) a0 0 s o h h _ i1 i2 (neq_t h10) (eqI_f h34) (eqI_f h92) cc) (by simp))⟩
        | succ n =>
          rw [hc] at cc hle
          simp only
          rw [List.drop_drop]
          have hta : ((s.drop (a0 + off)).take (n + 1)).length = n + 1 := by rw [List.length_take, List.length_drop]; omega
          have ih := tx_lp m a0 s h hs f (off + (n + 1)) (o ++ (s.drop (a0 + off)).take (n + 1)) (by rw [List.length_drop]; omega) (by omega) (by rw [List.length_append, hta]; omega)
          have e2 : a0 + (off + (n + 1)) = a0 + off + (n + 1) := by omega
          rw [e2] at ih
          have slc : sliceA Tryd.prog h 9 (.str s) (some (.int .i64 (Int.ofNat (a0 + off)))) (some (.int .i64 (Int.ofNat (a0 + off + (n + 1))))) none = some (.str ((s.drop (a0 + off)).take (n + 1))) := by
            rw [sl_mid (by omega) (by omega), show a0 + off + (n + 1) - (a0 + off) = n + 1 by omega]
          exact TxEnd.step (rtc (C (m + 2)) (a0 + off) a0 (n + 1) s o h h _ _ _ _ i1 i2 (neq_t h10) (eqI_f h34) (eqI_f h92) cc (eqI_f (by omega)) (add_n (by omega)) slc (str_add (by rw [hta]; omega))) ih
    · have hn : s.drop (a0 + off) = [] := List.drop_eq_nil_of_le hge
      have e : txt (f + 1) (s.drop (a0 + off)) off o = .bad 0 := by rw [hn]; rfl
      rw [e]
      exact ⟨1, by omega, .inr ⟨rfl, .exit (rtx (C (m + 2)) (a0 + off) a0 0 s o h h (lt_f (by omega))) (by simp)⟩⟩
theorem rtext_c (m a : Nat) (s : List UInt8) (h : AHeap) (hs : s.length ≤ 80000) (ha : a < s.length) :
    (∀ t n, txt (s.drop a).length (s.drop (a + 1)) 1 [] = .ok t n → C (m + 3) (.fn 27) [.str s, .int .i64 (Int.ofNat a)] h = .ret (.tup [.str t, .int .i64 (Int.ofNat (a + n)), .bool true]) h) ∧
    (∀ n, txt (s.drop a).length (s.drop (a + 1)) 1 [] = .bad n → C (m + 3) (.fn 27) [.str s, .int .i64 (Int.ofNat a)] h = .ret (.tup [.str [], .int .i64 (Int.ofNat (a + n)), .bool false]) h) := by
  have fin : ∀ {x : Nat} {t : List UInt8} {b : Bool}, RunF Tryd.prog Tryd.f27 none (C (m + 2)) [] ⟨[(0, .str s), (1, .int .i64 (Int.ofNat a))], [], .none, h⟩ .ret ⟨[(4, .str t), (5, .int .i64 (Int.ofNat x)), (6, .bool b)], [], .none, h⟩ → C (m + 3) (.fn 27) [.str s, .int .i64 (Int.ofNat a)] h = .ret (.tup [.str t, .int .i64 (Int.ofNat x), .bool b]) h := fun hr =>
    fn_runF (intr := Il) (n := m + 2) (args := [.str s, .int .i64 (Int.ofNat a)]) Tryd.func27 (by kernel_rfl) rfl (by kernel_rfl) hr (.inl rfl) (by kernel_rfl)
  have hl : (s.drop a).length ≤ 80000 := by rw [List.length_drop]; omega
  have lp := tx_lp m a s h hs (s.drop a).length 1 [] (by rw [List.length_drop, List.length_drop]; omega) (by omega) (Nat.zero_le _)
  have ad : arith BinOp.add IntKind.i64 (Int.ofNat a) (Int.ofNat 1) = some (.int .i64 (Int.ofNat (a + 1))) := add_n (by omega)
  refine ⟨fun t n hr => ?_, fun n hr => ?_⟩
  · rw [hr] at lp
    obtain ⟨k, k1, k2⟩ := lp
    exact fin (rtx1 (C (m + 2)) a _ true s t h h _ ad (RunP.pre (LoopF.run (p := [1, 1, 1, 1, 0, 0]) (by kernel_rfl) k2 (by omega)) ⟨rfl, rfl, rfl, rfl, trivial⟩ rfl rfl rfl))
  · rw [hr] at lp
    obtain ⟨k, k1, k2 | ⟨rfl, k2⟩⟩ := lp
    · exact fin (rtx1 (C (m + 2)) a _ false s [] h h _ ad (RunP.pre (LoopF.run (p := [1, 1, 1, 1, 0, 0]) (by kernel_rfl) k2 (by omega)) ⟨rfl, rfl, rfl, rfl, trivial⟩ rfl rfl rfl))
    · exact fin (rtx2 (C (m + 2)) a 0 false s [] h h _ ad (RunP.pre (LoopF.run (p := [1, 1, 1, 1, 0, 0]) (by kernel_rfl) k2 (by omega)) ⟨rfl, rfl, rfl, rfl, trivial⟩ rfl rfl rfl))
/-! signs -/
abbrev sgS (s : List UInt8) (a b i : Nat) (h : AHeap) : SSt := ⟨[(0, .str s), (1, .int .i64 (Int.ofNat a)), (5, .slice b 0 17 (.exact 17)), (6, .int .i64 (Int.ofNat i))], [], .none, h⟩
theorem sg_lp (m a b : Nat) (s : List UInt8) (hs : s.length ≤ 80000) (ha : a ≤ s.length) : ∀ (k i : Nat) (x : AHeap), 17 - i = k → i ≤ 17 → x.get b = some (.cells (signs.map .str) 9 .own 0 0) →
    match (signs.drop i).find? (fun g => g.isPrefixOf (s.drop a)) with
    | some g => ∃ x', LoopF Tryd.prog Tryd.f28 none (C m) [1, 1, 0, 1, 0] (k + 1) (sgS s a b i x) .ret ⟨[(4, .str g)], [], .none, x'⟩ ∧ Ext x.n x x'
    | none => ∃ x', LoopF Tryd.prog Tryd.f28 none (C m) [1, 1, 0, 1, 0] (k + 1) (sgS s a b i x) (.exit 0) ⟨[], [], .none, x'⟩ ∧ Ext x.n x x'
  | 0, i, x, hk, hi, hb => by
    obtain rfl : i = 17 := by omega
    exact ⟨x, .exit (rsx (C m) a b 17 s [] [] x (lt_f (by omega))) (by simp), Ext.refl _ _⟩
  | k + 1, i, x, hk, hi, hb => by
    have hi' : i < signs.length := by show i < 17; omega
    obtain ⟨g, hg⟩ : ∃ g, g = signs[i] := ⟨_, rfl⟩
    have hpos := signs_pos g (by rw [hg]; exact List.getElem_mem hi')
    have hdr : signs.drop i = g :: signs.drop (i + 1) := by rw [hg]; exact List.drop_eq_getElem_cons hi'
    rw [hdr]
    have ld : load1 (x.room 27) b (0 + i * 1) = some (.str g) := ld1 (show (x.room 27).get b = _ from hb) (by rw [nth_eq, Nat.zero_add, Nat.mul_one, List.getElem?_map, List.getElem?_eq_getElem hi', hg]; rfl)
    have ad : arith BinOp.add IntKind.i64 (Int.ofNat a) (Int.ofNat g.length) = some (.int .i64 (Int.ofNat (a + g.length))) := add_n (by omega)
    have ad1 : arith BinOp.add IntKind.i64 (Int.ofNat i) (Int.ofNat 1) = some (.int .i64 (Int.ofNat (i + 1))) := add_n (by omega)
    have ih := sg_lp m a b s hs ha k (i + 1) (x.room 27) (by omega) (by omega) hb
    have go : RunF Tryd.prog Tryd.f28 none (C m) [1, 1, 0, 1, 0, 0] (sgS s a b i x) .nrm (sgS s a b (i + 1) (x.room 27)) → g.isPrefixOf (s.drop a) = false →
        match (g :: signs.drop (i + 1)).find? (fun g => g.isPrefixOf (s.drop a)) with
        | some g => ∃ x', LoopF Tryd.prog Tryd.f28 none (C m) [1, 1, 0, 1, 0] (k + 1 + 1) (sgS s a b i x) .ret ⟨[(4, .str g)], [], .none, x'⟩ ∧ Ext x.n x x'
        | none => ∃ x', LoopF Tryd.prog Tryd.f28 none (C m) [1, 1, 0, 1, 0] (k + 1 + 1) (sgS s a b i x) (.exit 0) ⟨[], [], .none, x'⟩ ∧ Ext x.n x x' := by
      intro st hp
      rw [List.find?_cons, hp]
      simp only
      have tr : ∀ {x'}, Ext (x.room 27).n (x.room 27) x' → Ext x.n x x' := fun {x'} e => ⟨by have := e.n; simp at this; omega, fun c hc => (e.get c (by simp; omega)).trans rfl⟩
      cases hf : (signs.drop (i + 1)).find? (fun g => g.isPrefixOf (s.drop a)) with
      | none => rw [hf] at ih; obtain ⟨x', r1, r2⟩ := ih; exact ⟨x', .step st r1, tr r2⟩
      | some g' => rw [hf] at ih; obtain ⟨x', r1, r2⟩ := ih; exact ⟨x', .step st r1, tr r2⟩
    by_cases hl : a + g.length ≤ s.length
    · have sl : sliceA Tryd.prog (x.room 27) 9 (.str s) (some (.int .i64 (Int.ofNat a))) (some (.int .i64 (Int.ofNat (a + g.length)))) none = some (.str ((s.drop a).take g.length)) := by
        rw [sl_mid (by omega) hl, show a + g.length - a = g.length by omega]
      have hbe : beqBytes ((s.drop a).take g.length) g = g.isPrefixOf (s.drop a) := by
        rw [beqBytes_eq, Bool.eq_iff_iff, beq_iff_eq, List.isPrefixOf_iff_prefix, List.prefix_iff_eq_take]
        exact eq_comm
      cases hp : g.isPrefixOf (s.drop a) with
      | true =>
        rw [hp] at hbe
        rw [List.find?_cons, hp]
        have st := rss_1 (C m) a b i s g _ x _ (lt_t (by omega)) (show i + 1 ≤ 17 by omega) ld ad (le_t hl) sl (by rw [le_t hl]; rfl) hbe
        exact ⟨x.room 27, .exit (RunP.post st ⟨rfl, trivial⟩) (by simp), ⟨by simp, fun _ _ => rfl⟩⟩
      | false =>
        rw [hp] at hbe
        rw [hp] at go
        exact go (rss_2 (C m) a b i s g _ x _ _ (lt_t (by omega)) (show i + 1 ≤ 17 by omega) ld ad (le_t hl) sl (by rw [le_t hl]; rfl) hbe ad1) rfl
    · have hp : g.isPrefixOf (s.drop a) = false := by
        cases hx : g.isPrefixOf (s.drop a) with
        | false => rfl
        | true =>
          have := (List.isPrefixOf_iff_prefix.1 hx).length_le
          rw [List.length_drop] at this; omega
      exact go (rsf (C m) a b i s g [] x _ _ (lt_t (by omega)) (show i + 1 ≤ 17 by omega) ld ad (le_f hl) (by rw [le_f hl]; rfl) (by rw [le_f hl]; rfl) ad1) hp
theorem rsign_c (m a : Nat) (s : List UInt8) (h : AHeap) (hs : s.length ≤ 80000) (ha : a ≤ s.length) : ∃ h', C (m + 1) (.fn 28) [.str s, .int .i64 (Int.ofNat a)] h = .ret (.str ((sgn (s.drop a)).getD [])) h' ∧ Ext h.n h h' := by
  have fin : ∀ {t : List UInt8} {h' : AHeap}, RunF Tryd.prog Tryd.f28 none (C m) [] ⟨[(0, .str s), (1, .int .i64 (Int.ofNat a))], [], .none, h⟩ .ret ⟨[(4, .str t)], [], .none, h'⟩ → C (m + 1) (.fn 28) [.str s, .int .i64 (Int.ofNat a)] h = .ret (.str t) h' := fun hr =>
    fn_runF (intr := Il) (n := m) (args := [.str s, .int .i64 (Int.ofNat a)]) Tryd.func28 (by kernel_rfl) rfl (by kernel_rfl) hr (.inl rfl) (by kernel_rfl)
  obtain ⟨x, hx⟩ : ∃ x, x = h.push (.cells (signs.map .str) 9 .own 0 0) := ⟨_, rfl⟩
  have xn : x.n = h.n + 1 := by rw [hx]; rfl
  have lp := sg_lp m a h.n s hs ha 17 0 x rfl (by omega) (by rw [hx]; exact gtop rfl)
  have tr : ∀ {x'}, Ext x.n x x' → Ext h.n h x' := fun {x'} e => ⟨by have := e.n; omega, fun c hc => (e.get c (by omega)).trans (by rw [hx]; exact gold hc rfl)⟩
  rw [List.drop_zero] at lp
  have hsg : sgn (s.drop a) = signs.find? (fun g => g.isPrefixOf (s.drop a)) := rfl
  rw [hsg]
  cases hf : signs.find? (fun g => g.isPrefixOf (s.drop a)) with
  | none =>
    rw [hf] at lp
    obtain ⟨x', r1, r2⟩ := lp
    rw [hx] at r1
    exact ⟨x', fin (rsg2 (C m) a s [] h x' (RunP.pre (LoopF.run (p := [1, 1, 0, 1, 0]) (by kernel_rfl) r1 (by omega)) ⟨rfl, rfl, rfl, rfl, trivial⟩ rfl rfl rfl)), tr r2⟩
  | some g =>
    rw [hf] at lp
    obtain ⟨x', r1, r2⟩ := lp
    rw [hx] at r1
    exact ⟨x', fin (rsg1 (C m) a s g h x' (RunP.pre (LoopF.run (p := [1, 1, 0, 1, 0]) (by kernel_rfl) r1 (by omega)) ⟨rfl, rfl, rfl, rfl, trivial⟩ rfl rfl rfl)), tr r2⟩
end Go.Proofs.Lx
