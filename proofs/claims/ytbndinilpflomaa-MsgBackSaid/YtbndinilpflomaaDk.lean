/-
  PROVED HERE: contracts of functions (Dk). No condition beside each statement's own.
-/
import Derived.Test.YtbndinilpflomaaDj
set_option linter.unusedVariables false
set_option linter.unusedSimpArgs false
namespace Go.Proofs.Wire
open Go AEv Go.Proofs Go.Proofs.Enc
set_option maxRecDepth 100000
set_option maxHeartbeats 1000000

theorem ka0ss (call : CallT → List AV → AHeap → FRes) (c n : Int) (t : List UInt8) (b1 b2 n1 : Nat) (k1 k2 : Cap) (d1 d2 n2 : Nat) (e1 e2 : Cap) (h : AHeap) :
    RunF Try.prog Try.f41 none call [0] (SSt.mk [(0, .agg [.int .i64 c, .str t, .slice b1 0 n1 k1, .slice d1 0 n2 e1, .int .u64 n]), (1, .agg [.int .i64 c, .str t, .slice b2 0 n1 k2, .slice d2 0 n2 e2, .int .u64 n])] [] .none h) (.nrm)
      (SSt.mk [(2, .ptr (AHeap.n h) 0), (3, .ptr (AHeap.n (AHeap.push h (.cells [.int .i64 c, .str t, .slice b1 0 n1 k1, .slice d1 0 n2 e1, .int .u64 n] 54 .own 0 0))) 0)] [] .none (AHeap.push (AHeap.push h (.cells [.int .i64 c, .str t, .slice b1 0 n1 k1, .slice d1 0 n2 e1, .int .u64 n] 54 .own 0 0)) (.cells [.int .i64 c, .str t, .slice b2 0 n1 k2, .slice d2 0 n2 e2, .int .u64 n] 54 .own 0 0))) :=
  sxF_run [2, 3] (hs := []) (by kernel_rfl) <| .nil
theorem ka1ss_6 (call : CallT → List AV → AHeap → FRes) (p q : Nat) (c n : Int) (t : List UInt8) (b1 b2 n1 : Nat) (k1 k2 : Cap) (d1 d2 n2 : Nat) (e1 e2 : Cap) (h : AHeap)
    (H1 : load1 h p (0 + 0) = some (.int .i64 c))
    (H2 : load1 h q (0 + 0) = some (.int .i64 c))
    (H3 : (!eqI c c) = false)
    (H4 : load1 h p (0 + 1) = some (.str t))
    (H5 : load1 h q (0 + 1) = some (.str t))
    (H6 : (!beqBytes t t) = false)
    (H7 : load1 h p (0 + 4) = some (.int .u64 n))
    (H8 : load1 h q (0 + 4) = some (.int .u64 n))
    (H9 : (!eqI n n) = false)
    (H10 : load1 h p (0 + 2) = some (.slice b1 0 n1 k1))
    (H11 : load1 h q (0 + 2) = some (.slice b2 0 n1 k2))
    (H12 : (!eqI (.ofNat n1) (.ofNat n1)) = false)
    (H13 : load1 h p (0 + 3) = some (.slice d1 0 n2 e1))
    (H14 : load1 h q (0 + 3) = some (.slice d2 0 n2 e2))
    (H15 : (!eqI (.ofNat n2) (.ofNat n2)) = false) :
    RunF Try.prog Try.f41 none call [1, 0] (SSt.mk [(2, .ptr p 0), (3, .ptr q 0)] [] .none h) (.nrm)
      (SSt.mk [(2, .ptr p 0), (3, .ptr q 0)] [] .none h) :=
  sxF_run [2, 3] (hs := [.v (.int .i64 c), .v (.int .i64 c), .b false, .b false, .v (.str t), .b false, .b false, .v (.str t), .b false, .b false, .b false, .b false, .v (.int .u64 n), .b false, .b false, .v (.int .u64 n), .b false, .b false, .b false, .b false, .v (.slice b1 0 n1 k1), .b false, .b false, .b false, .v (.slice b2 0 n1 k2), .b false, .b false, .b false, .b false, .b false, .v (.slice d1 0 n2 e1), .b false, .b false, .b false, .v (.slice d2 0 n2 e2), .b false, .b false, .b false, .b false]) (by kernel_rfl) <| .cons H1 <| .cons H2 <| .cons H3 <| .cons H3 <| .cons H4 <| .cons H3 <| .cons H3 <| .cons H5 <| .cons H3 <| .cons H3 <| .cons H6 <| .cons H6 <| .cons H7 <| .cons H6 <| .cons H6 <| .cons H8 <| .cons H6 <| .cons H6 <| .cons H9 <| .cons H9 <| .cons H10 <| .cons H9 <| .cons H9 <| .cons H9 <| .cons H11 <| .cons H9 <| .cons H9 <| .cons H9 <| .cons H12 <| .cons H12 <| .cons H13 <| .cons H12 <| .cons H12 <| .cons H12 <| .cons H14 <| .cons H12 <| .cons H12 <| .cons H12 <| .cons H15 <| .nil
theorem ka0sn (call : CallT → List AV → AHeap → FRes) (c n : Int) (t : List UInt8) (b1 b2 n1 : Nat) (k1 k2 : Cap) (h : AHeap) :
    RunF Try.prog Try.f41 none call [0] (SSt.mk [(0, .agg [.int .i64 c, .str t, .slice b1 0 n1 k1, .nilS, .int .u64 n]), (1, .agg [.int .i64 c, .str t, .slice b2 0 n1 k2, .nilS, .int .u64 n])] [] .none h) (.nrm)
      (SSt.mk [(2, .ptr (AHeap.n h) 0), (3, .ptr (AHeap.n (AHeap.push h (.cells [.int .i64 c, .str t, .slice b1 0 n1 k1, .nilS, .int .u64 n] 54 .own 0 0))) 0)] [] .none (AHeap.push (AHeap.push h (.cells [.int .i64 c, .str t, .slice b1 0 n1 k1, .nilS, .int .u64 n] 54 .own 0 0)) (.cells [.int .i64 c, .str t, .slice b2 0 n1 k2, .nilS, .int .u64 n] 54 .own 0 0))) :=
  sxF_run [2, 3] (hs := []) (by kernel_rfl) <| .nil
theorem ka1sn_5 (call : CallT → List AV → AHeap → FRes) (p q : Nat) (c n : Int) (t : List UInt8) (b1 b2 n1 : Nat) (k1 k2 : Cap) (h : AHeap)
    (H1 : load1 h p (0 + 0) = some (.int .i64 c))
    (H2 : load1 h q (0 + 0) = some (.int .i64 c))
    (H3 : (!eqI c c) = false)
    (H4 : load1 h p (0 + 1) = some (.str t))
    (H5 : load1 h q (0 + 1) = some (.str t))
    (H6 : (!beqBytes t t) = false)
    (H7 : load1 h p (0 + 4) = some (.int .u64 n))
    (H8 : load1 h q (0 + 4) = some (.int .u64 n))
    (H9 : (!eqI n n) = false)
    (H10 : load1 h p (0 + 2) = some (.slice b1 0 n1 k1))
    (H11 : load1 h q (0 + 2) = some (.slice b2 0 n1 k2))
    (H12 : (!eqI (.ofNat n1) (.ofNat n1)) = false)
    (H13 : load1 h p (0 + 3) = some .nilS)
    (H14 : load1 h q (0 + 3) = some .nilS) :
    RunF Try.prog Try.f41 none call [1, 0] (SSt.mk [(2, .ptr p 0), (3, .ptr q 0)] [] .none h) (.nrm)
      (SSt.mk [(2, .ptr p 0), (3, .ptr q 0)] [] .none h) :=
  sxF_run [2, 3] (hs := [.v (.int .i64 c), .v (.int .i64 c), .b false, .b false, .v (.str t), .b false, .b false, .v (.str t), .b false, .b false, .b false, .b false, .v (.int .u64 n), .b false, .b false, .v (.int .u64 n), .b false, .b false, .b false, .b false, .v (.slice b1 0 n1 k1), .b false, .b false, .b false, .v (.slice b2 0 n1 k2), .b false, .b false, .b false, .b false, .b false, .v .nilS, .b false, .b false, .b false, .v .nilS, .b false, .b false, .b false, .b false]) (by kernel_rfl) <| .cons H1 <| .cons H2 <| .cons H3 <| .cons H3 <| .cons H4 <| .cons H3 <| .cons H3 <| .cons H5 <| .cons H3 <| .cons H3 <| .cons H6 <| .cons H6 <| .cons H7 <| .cons H6 <| .cons H6 <| .cons H8 <| .cons H6 <| .cons H6 <| .cons H9 <| .cons H9 <| .cons H10 <| .cons H9 <| .cons H9 <| .cons H9 <| .cons H11 <| .cons H9 <| .cons H9 <| .cons H9 <| .cons H12 <| .cons H12 <| .cons H13 <| .cons H12 <| .cons H12 <| .cons H12 <| .cons H14 <| .cons H12 <| .cons H12 <| .cons H12 <| .cons (by kernel_rfl : (!eqI (Int.ofNat 0) (Int.ofNat 0)) = false) <| .nil
theorem ka0sz (call : CallT → List AV → AHeap → FRes) (c n : Int) (t : List UInt8) (b1 b2 n1 : Nat) (k1 k2 : Cap) (d2 : Nat) (e2 : Cap) (h : AHeap) :
    RunF Try.prog Try.f41 none call [0] (SSt.mk [(0, .agg [.int .i64 c, .str t, .slice b1 0 n1 k1, .nilS, .int .u64 n]), (1, .agg [.int .i64 c, .str t, .slice b2 0 n1 k2, .slice d2 0 0 e2, .int .u64 n])] [] .none h) (.nrm)
      (SSt.mk [(2, .ptr (AHeap.n h) 0), (3, .ptr (AHeap.n (AHeap.push h (.cells [.int .i64 c, .str t, .slice b1 0 n1 k1, .nilS, .int .u64 n] 54 .own 0 0))) 0)] [] .none (AHeap.push (AHeap.push h (.cells [.int .i64 c, .str t, .slice b1 0 n1 k1, .nilS, .int .u64 n] 54 .own 0 0)) (.cells [.int .i64 c, .str t, .slice b2 0 n1 k2, .slice d2 0 0 e2, .int .u64 n] 54 .own 0 0))) :=
  sxF_run [2, 3] (hs := []) (by kernel_rfl) <| .nil
theorem ka1sz_5 (call : CallT → List AV → AHeap → FRes) (p q : Nat) (c n : Int) (t : List UInt8) (b1 b2 n1 : Nat) (k1 k2 : Cap) (d2 : Nat) (e2 : Cap) (h : AHeap)
    (H1 : load1 h p (0 + 0) = some (.int .i64 c))
    (H2 : load1 h q (0 + 0) = some (.int .i64 c))
    (H3 : (!eqI c c) = false)
    (H4 : load1 h p (0 + 1) = some (.str t))
    (H5 : load1 h q (0 + 1) = some (.str t))
    (H6 : (!beqBytes t t) = false)
    (H7 : load1 h p (0 + 4) = some (.int .u64 n))
    (H8 : load1 h q (0 + 4) = some (.int .u64 n))
    (H9 : (!eqI n n) = false)
    (H10 : load1 h p (0 + 2) = some (.slice b1 0 n1 k1))
    (H11 : load1 h q (0 + 2) = some (.slice b2 0 n1 k2))
    (H12 : (!eqI (.ofNat n1) (.ofNat n1)) = false)
    (H13 : load1 h p (0 + 3) = some .nilS)
    (H14 : load1 h q (0 + 3) = some (.slice d2 0 0 e2)) :
    RunF Try.prog Try.f41 none call [1, 0] (SSt.mk [(2, .ptr p 0), (3, .ptr q 0)] [] .none h) (.nrm)
      (SSt.mk [(2, .ptr p 0), (3, .ptr q 0)] [] .none h) :=
  sxF_run [2, 3] (hs := [.v (.int .i64 c), .v (.int .i64 c), .b false, .b false, .v (.str t), .b false, .b false, .v (.str t), .b false, .b false, .b false, .b false, .v (.int .u64 n), .b false, .b false, .v (.int .u64 n), .b false, .b false, .b false, .b false, .v (.slice b1 0 n1 k1), .b false, .b false, .b false, .v (.slice b2 0 n1 k2), .b false, .b false, .b false, .b false, .b false, .v .nilS, .b false, .b false, .b false, .v (.slice d2 0 0 e2), .b false, .b false, .b false, .b false]) (by kernel_rfl) <| .cons H1 <| .cons H2 <| .cons H3 <| .cons H3 <| .cons H4 <| .cons H3 <| .cons H3 <| .cons H5 <| .cons H3 <| .cons H3 <| .cons H6 <| .cons H6 <| .cons H7 <| .cons H6 <| .cons H6 <| .cons H8 <| .cons H6 <| .cons H6 <| .cons H9 <| .cons H9 <| .cons H10 <| .cons H9 <| .cons H9 <| .cons H9 <| .cons H11 <| .cons H9 <| .cons H9 <| .cons H9 <| .cons H12 <| .cons H12 <| .cons H13 <| .cons H12 <| .cons H12 <| .cons H12 <| .cons H14 <| .cons H12 <| .cons H12 <| .cons H12 <| .cons (by kernel_rfl : (!eqI (Int.ofNat 0) (Int.ofNat 0)) = false) <| .nil
theorem ka0ns (call : CallT → List AV → AHeap → FRes) (c n : Int) (t : List UInt8) (d1 d2 n2 : Nat) (e1 e2 : Cap) (h : AHeap) :
    RunF Try.prog Try.f41 none call [0] (SSt.mk [(0, .agg [.int .i64 c, .str t, .nilS, .slice d1 0 n2 e1, .int .u64 n]), (1, .agg [.int .i64 c, .str t, .nilS, .slice d2 0 n2 e2, .int .u64 n])] [] .none h) (.nrm)
      (SSt.mk [(2, .ptr (AHeap.n h) 0), (3, .ptr (AHeap.n (AHeap.push h (.cells [.int .i64 c, .str t, .nilS, .slice d1 0 n2 e1, .int .u64 n] 54 .own 0 0))) 0)] [] .none (AHeap.push (AHeap.push h (.cells [.int .i64 c, .str t, .nilS, .slice d1 0 n2 e1, .int .u64 n] 54 .own 0 0)) (.cells [.int .i64 c, .str t, .nilS, .slice d2 0 n2 e2, .int .u64 n] 54 .own 0 0))) :=
  sxF_run [2, 3] (hs := []) (by kernel_rfl) <| .nil
theorem ka1ns_5 (call : CallT → List AV → AHeap → FRes) (p q : Nat) (c n : Int) (t : List UInt8) (d1 d2 n2 : Nat) (e1 e2 : Cap) (h : AHeap)
    (H1 : load1 h p (0 + 0) = some (.int .i64 c))
    (H2 : load1 h q (0 + 0) = some (.int .i64 c))
    (H3 : (!eqI c c) = false)
    (H4 : load1 h p (0 + 1) = some (.str t))
    (H5 : load1 h q (0 + 1) = some (.str t))
    (H6 : (!beqBytes t t) = false)
    (H7 : load1 h p (0 + 4) = some (.int .u64 n))
    (H8 : load1 h q (0 + 4) = some (.int .u64 n))
    (H9 : (!eqI n n) = false)
    (H10 : load1 h p (0 + 2) = some .nilS)
    (H11 : load1 h q (0 + 2) = some .nilS)
    (H12 : load1 h p (0 + 3) = some (.slice d1 0 n2 e1))
    (H13 : load1 h q (0 + 3) = some (.slice d2 0 n2 e2))
    (H14 : (!eqI (.ofNat n2) (.ofNat n2)) = false) :
    RunF Try.prog Try.f41 none call [1, 0] (SSt.mk [(2, .ptr p 0), (3, .ptr q 0)] [] .none h) (.nrm)
      (SSt.mk [(2, .ptr p 0), (3, .ptr q 0)] [] .none h) :=
  sxF_run [2, 3] (hs := [.v (.int .i64 c), .v (.int .i64 c), .b false, .b false, .v (.str t), .b false, .b false, .v (.str t), .b false, .b false, .b false, .b false, .v (.int .u64 n), .b false, .b false, .v (.int .u64 n), .b false, .b false, .b false, .b false, .v .nilS, .b false, .b false, .b false, .v .nilS, .b false, .b false, .b false, .b false, .b false, .v (.slice d1 0 n2 e1), .b false, .b false, .b false, .v (.slice d2 0 n2 e2), .b false, .b false, .b false, .b false]) (by kernel_rfl) <| .cons H1 <| .cons H2 <| .cons H3 <| .cons H3 <| .cons H4 <| .cons H3 <| .cons H3 <| .cons H5 <| .cons H3 <| .cons H3 <| .cons H6 <| .cons H6 <| .cons H7 <| .cons H6 <| .cons H6 <| .cons H8 <| .cons H6 <| .cons H6 <| .cons H9 <| .cons H9 <| .cons H10 <| .cons H9 <| .cons H9 <| .cons H9 <| .cons H11 <| .cons H9 <| .cons H9 <| .cons H9 <| .cons (by kernel_rfl : (!eqI (Int.ofNat 0) (Int.ofNat 0)) = false) <| .cons (by kernel_rfl : (!eqI (Int.ofNat 0) (Int.ofNat 0)) = false) <| .cons H12 <| .cons (by kernel_rfl : (!eqI (Int.ofNat 0) (Int.ofNat 0)) = false) <| .cons (by kernel_rfl : (!eqI (Int.ofNat 0) (Int.ofNat 0)) = false) <| .cons (by kernel_rfl : (!eqI (Int.ofNat 0) (Int.ofNat 0)) = false) <| .cons H13 <| .cons (by kernel_rfl : (!eqI (Int.ofNat 0) (Int.ofNat 0)) = false) <| .cons (by kernel_rfl : (!eqI (Int.ofNat 0) (Int.ofNat 0)) = false) <| .cons (by kernel_rfl : (!eqI (Int.ofNat 0) (Int.ofNat 0)) = false) <| .cons H14 <| .nil
theorem ka0nn (call : CallT → List AV → AHeap → FRes) (c n : Int) (t : List UInt8) (h : AHeap) :
    RunF Try.prog Try.f41 none call [0] (SSt.mk [(0, .agg [.int .i64 c, .str t, .nilS, .nilS, .int .u64 n]), (1, .agg [.int .i64 c, .str t, .nilS, .nilS, .int .u64 n])] [] .none h) (.nrm)
      (SSt.mk [(2, .ptr (AHeap.n h) 0), (3, .ptr (AHeap.n (AHeap.push h (.cells [.int .i64 c, .str t, .nilS, .nilS, .int .u64 n] 54 .own 0 0))) 0)] [] .none (AHeap.push (AHeap.push h (.cells [.int .i64 c, .str t, .nilS, .nilS, .int .u64 n] 54 .own 0 0)) (.cells [.int .i64 c, .str t, .nilS, .nilS, .int .u64 n] 54 .own 0 0))) :=
  sxF_run [2, 3] (hs := []) (by kernel_rfl) <| .nil
theorem ka1nn_4 (call : CallT → List AV → AHeap → FRes) (p q : Nat) (c n : Int) (t : List UInt8) (h : AHeap)
    (H1 : load1 h p (0 + 0) = some (.int .i64 c))
    (H2 : load1 h q (0 + 0) = some (.int .i64 c))
    (H3 : (!eqI c c) = false)
    (H4 : load1 h p (0 + 1) = some (.str t))
    (H5 : load1 h q (0 + 1) = some (.str t))
    (H6 : (!beqBytes t t) = false)
    (H7 : load1 h p (0 + 4) = some (.int .u64 n))
    (H8 : load1 h q (0 + 4) = some (.int .u64 n))
    (H9 : (!eqI n n) = false)
    (H10 : load1 h p (0 + 2) = some .nilS)
    (H11 : load1 h q (0 + 2) = some .nilS)
    (H12 : load1 h p (0 + 3) = some .nilS)
    (H13 : load1 h q (0 + 3) = some .nilS) :
    RunF Try.prog Try.f41 none call [1, 0] (SSt.mk [(2, .ptr p 0), (3, .ptr q 0)] [] .none h) (.nrm)
      (SSt.mk [(2, .ptr p 0), (3, .ptr q 0)] [] .none h) :=
  sxF_run [2, 3] (hs := [.v (.int .i64 c), .v (.int .i64 c), .b false, .b false, .v (.str t), .b false, .b false, .v (.str t), .b false, .b false, .b false, .b false, .v (.int .u64 n), .b false, .b false, .v (.int .u64 n), .b false, .b false, .b false, .b false, .v .nilS, .b false, .b false, .b false, .v .nilS, .b false, .b false, .b false, .b false, .b false, .v .nilS, .b false, .b false, .b false, .v .nilS, .b false, .b false, .b false, .b false]) (by kernel_rfl) <| .cons H1 <| .cons H2 <| .cons H3 <| .cons H3 <| .cons H4 <| .cons H3 <| .cons H3 <| .cons H5 <| .cons H3 <| .cons H3 <| .cons H6 <| .cons H6 <| .cons H7 <| .cons H6 <| .cons H6 <| .cons H8 <| .cons H6 <| .cons H6 <| .cons H9 <| .cons H9 <| .cons H10 <| .cons H9 <| .cons H9 <| .cons H9 <| .cons H11 <| .cons H9 <| .cons H9 <| .cons H9 <| .cons (by kernel_rfl : (!eqI (Int.ofNat 0) (Int.ofNat 0)) = false) <| .cons (by kernel_rfl : (!eqI (Int.ofNat 0) (Int.ofNat 0)) = false) <| .cons H12 <| .cons (by kernel_rfl : (!eqI (Int.ofNat 0) (Int.ofNat 0)) = false) <| .cons (by kernel_rfl : (!eqI (Int.ofNat 0) (Int.ofNat 0)) = false) <| .cons (by kernel_rfl : (!eqI (Int.ofNat 0) (Int.ofNat 0)) = false) <| .cons H13 <| .cons (by kernel_rfl : (!eqI (Int.ofNat 0) (Int.ofNat 0)) = false) <| .cons (by kernel_rfl : (!eqI (Int.ofNat 0) (Int.ofNat 0)) = false) <| .cons (by kernel_rfl : (!eqI (Int.ofNat 0) (Int.ofNat 0)) = false) <| .cons (by kernel_rfl : (!eqI (Int.ofNat 0) (Int.ofNat 0)) = false) <| .nil
theorem ka0nz (call : CallT → List AV → AHeap → FRes) (c n : Int) (t : List UInt8) (d2 : Nat) (e2 : Cap) (h : AHeap) :
    RunF Try.prog Try.f41 none call [0] (SSt.mk [(0, .agg [.int .i64 c, .str t, .nilS, .nilS, .int .u64 n]), (1, .agg [.int .i64 c, .str t, .nilS, .slice d2 0 0 e2, .int .u64 n])] [] .none h) (.nrm)
      (SSt.mk [(2, .ptr (AHeap.n h) 0), (3, .ptr (AHeap.n (AHeap.push h (.cells [.int .i64 c, .str t, .nilS, .nilS, .int .u64 n] 54 .own 0 0))) 0)] [] .none (AHeap.push (AHeap.push h (.cells [.int .i64 c, .str t, .nilS, .nilS, .int .u64 n] 54 .own 0 0)) (.cells [.int .i64 c, .str t, .nilS, .slice d2 0 0 e2, .int .u64 n] 54 .own 0 0))) :=
  sxF_run [2, 3] (hs := []) (by kernel_rfl) <| .nil
theorem ka1nz_4 (call : CallT → List AV → AHeap → FRes) (p q : Nat) (c n : Int) (t : List UInt8) (d2 : Nat) (e2 : Cap) (h : AHeap)
    (H1 : load1 h p (0 + 0) = some (.int .i64 c))
    (H2 : load1 h q (0 + 0) = some (.int .i64 c))
    (H3 : (!eqI c c) = false)
    (H4 : load1 h p (0 + 1) = some (.str t))
    (H5 : load1 h q (0 + 1) = some (.str t))
    (H6 : (!beqBytes t t) = false)
    (H7 : load1 h p (0 + 4) = some (.int .u64 n))
    (H8 : load1 h q (0 + 4) = some (.int .u64 n))
    (H9 : (!eqI n n) = false)
    (H10 : load1 h p (0 + 2) = some .nilS)
    (H11 : load1 h q (0 + 2) = some .nilS)
    (H12 : load1 h p (0 + 3) = some .nilS)
    (H13 : load1 h q (0 + 3) = some (.slice d2 0 0 e2)) :
    RunF Try.prog Try.f41 none call [1, 0] (SSt.mk [(2, .ptr p 0), (3, .ptr q 0)] [] .none h) (.nrm)
      (SSt.mk [(2, .ptr p 0), (3, .ptr q 0)] [] .none h) :=
  sxF_run [2, 3] (hs := [.v (.int .i64 c), .v (.int .i64 c), .b false, .b false, .v (.str t), .b false, .b false, .v (.str t), .b false, .b false, .b false, .b false, .v (.int .u64 n), .b false, .b false, .v (.int .u64 n), .b false, .b false, .b false, .b false, .v .nilS, .b false, .b false, .b false, .v .nilS, .b false, .b false, .b false, .b false, .b false, .v .nilS, .b false, .b false, .b false, .v (.slice d2 0 0 e2), .b false, .b false, .b false, .b false]) (by kernel_rfl) <| .cons H1 <| .cons H2 <| .cons H3 <| .cons H3 <| .cons H4 <| .cons H3 <| .cons H3 <| .cons H5 <| .cons H3 <| .cons H3 <| .cons H6 <| .cons H6 <| .cons H7 <| .cons H6 <| .cons H6 <| .cons H8 <| .cons H6 <| .cons H6 <| .cons H9 <| .cons H9 <| .cons H10 <| .cons H9 <| .cons H9 <| .cons H9 <| .cons H11 <| .cons H9 <| .cons H9 <| .cons H9 <| .cons (by kernel_rfl : (!eqI (Int.ofNat 0) (Int.ofNat 0)) = false) <| .cons (by kernel_rfl : (!eqI (Int.ofNat 0) (Int.ofNat 0)) = false) <| .cons H12 <| .cons (by kernel_rfl : (!eqI (Int.ofNat 0) (Int.ofNat 0)) = false) <| .cons (by kernel_rfl : (!eqI (Int.ofNat 0) (Int.ofNat 0)) = false) <| .cons (by kernel_rfl : (!eqI (Int.ofNat 0) (Int.ofNat 0)) = false) <| .cons H13 <| .cons (by kernel_rfl : (!eqI (Int.ofNat 0) (Int.ofNat 0)) = false) <| .cons (by kernel_rfl : (!eqI (Int.ofNat 0) (Int.ofNat 0)) = false) <| .cons (by kernel_rfl : (!eqI (Int.ofNat 0) (Int.ofNat 0)) = false) <| .cons (by kernel_rfl : (!eqI (Int.ofNat 0) (Int.ofNat 0)) = false) <| .nil
theorem kal_2 (call : CallT → List AV → AHeap → FRes) (p q i b1 b2 n1 : Nat) (k1 k2 : Cap) (t : List UInt8) (h : AHeap) (n_1 : Nat)
    (H1 : load1 h p (0 + 2) = some (.slice b1 0 n1 k1))
    (H2 : ltI (.ofNat i) (.ofNat n1) = true)
    (H3 : load1 (AHeap.room h 11) p (0 + 2) = some (.slice b1 0 n1 k1))
    (H4 : Nat.le (Nat.succ i) n1)
    (H5 : load1 (AHeap.room h 11) b1 (0 + i * 1) = some (.str t))
    (H6 : load1 (AHeap.room h 11) q (0 + 2) = some (.slice b2 0 n1 k2))
    (H7 : Nat.le (Nat.succ i) n1)
    (H8 : load1 (AHeap.room h 11) b2 (0 + i * 1) = some (.str t))
    (H9 : (!beqBytes t t) = false)
    (H10 : arith .add .i64 (.ofNat i) (.ofNat 1) = some (.int .i64 (.ofNat n_1))) :
    RunF Try.prog Try.f41 none call [1, 1, 0, 1, 0, 0] (SSt.mk [(2, .ptr p 0), (3, .ptr q 0), (5, .int .i64 (.ofNat i))] [] .none h) (.nrm)
      (SSt.mk [(2, .ptr p 0), (3, .ptr q 0), (5, .int .i64 (.ofNat n_1))] [] .none (AHeap.room h 11)) :=
  sxF_run [2, 3, 5] (hs := [.v (.slice b1 0 n1 k1), .b true, .v (.slice b1 0 n1 k1), .v (.ptr b1 (0 + i * 1)), .v (.str t), .v (.slice b2 0 n1 k2), .v (.ptr b2 (0 + i * 1)), .v (.str t), .b false, .v (.int .i64 (.ofNat n_1))]) (by kernel_rfl) <| .cons H1 <| .cons H2 <| .cons H3 <| .cons (⟨H4, rfl⟩ : Nat.le (Nat.succ i) n1 ∧ AV.ptr b1 (0 + i * 1) = AV.ptr b1 (0 + i * 1)) <| .cons H5 <| .cons H6 <| .cons (⟨H7, rfl⟩ : Nat.le (Nat.succ i) n1 ∧ AV.ptr b2 (0 + i * 1) = AV.ptr b2 (0 + i * 1)) <| .cons H8 <| .cons (by kernel_rfl : AV.sound (AV.ptr p (0 + 2)) = true) <| .cons (by kernel_rfl : AV.ptr p (0 + 2) = AV.ptr p (0 + 2)) <| .cons (by kernel_rfl : AV.sound (AV.slice b1 0 n1 k1) = true) <| .cons H3 <| .cons (by kernel_rfl : AV.sound (AV.int IntKind.i64 (Int.ofNat i)) = true) <| .cons (by kernel_rfl : AV.int IntKind.i64 (Int.ofNat i) = AV.int IntKind.i64 (Int.ofNat i)) <| .cons (by kernel_rfl : AV.sound (AV.ptr b1 (0 + i * 1)) = true) <| .cons (⟨H4, rfl⟩ : Nat.le (Nat.succ i) n1 ∧ AV.ptr b1 (0 + i * 1) = AV.ptr b1 (0 + i * 1)) <| .cons (by kernel_rfl : AV.sound (AV.str t) = true) <| .cons H5 <| .cons (by kernel_rfl : AV.sound (AV.ptr q (0 + 2)) = true) <| .cons (by kernel_rfl : AV.ptr q (0 + 2) = AV.ptr q (0 + 2)) <| .cons (by kernel_rfl : AV.sound (AV.slice b2 0 n1 k2) = true) <| .cons H6 <| .cons (by kernel_rfl : AV.sound (AV.int IntKind.i64 (Int.ofNat i)) = true) <| .cons (by kernel_rfl : AV.int IntKind.i64 (Int.ofNat i) = AV.int IntKind.i64 (Int.ofNat i)) <| .cons (by kernel_rfl : AV.sound (AV.ptr b2 (0 + i * 1)) = true) <| .cons (⟨H7, rfl⟩ : Nat.le (Nat.succ i) n1 ∧ AV.ptr b2 (0 + i * 1) = AV.ptr b2 (0 + i * 1)) <| .cons (by kernel_rfl : AV.sound (AV.str t) = true) <| .cons H8 <| .cons (by kernel_rfl : AV.sound (AV.bool !beqBytes t t) = true) <| .cons (by kernel_rfl : (AV.bool !beqBytes t t) = AV.bool !beqBytes t t) <| .cons H9 <| .cons H10 <| .nil
theorem kal_3 (call : CallT → List AV → AHeap → FRes) (p q i b1 b2 n1 : Nat) (k1 k2 : Cap) (t : List UInt8) (h : AHeap)
    (H1 : load1 h p (0 + 2) = some (.slice b1 0 n1 k1))
    (H2 : ltI (.ofNat i) (.ofNat n1) = false) :
    RunF Try.prog Try.f41 none call [1, 1, 0, 1, 0, 0] (SSt.mk [(2, .ptr p 0), (3, .ptr q 0), (5, .int .i64 (.ofNat i))] [] .none h) (.exit 0)
      (SSt.mk [(2, .ptr p 0), (3, .ptr q 0), (5, .int .i64 (.ofNat i))] [] .none h) :=
  sxF_run [2, 3, 5] (hs := [.v (.slice b1 0 n1 k1), .b false]) (by kernel_rfl) <| .cons H1 <| .cons H2 <| .nil
theorem kdl_1 (call : CallT → List AV → AHeap → FRes) (p q i b1 b2 n1 : Nat) (k1 k2 : Cap) (a : List UInt8) (x x2 : Int) (h : AHeap) (n_1 : Nat)
    (H1 : load1 h p (0 + 3) = some (.slice b1 0 n1 k1))
    (H2 : ltI (.ofNat i) (.ofNat n1) = true)
    (H3 : load1 (AHeap.room h 11) p (0 + 3) = some (.slice b1 0 n1 k1))
    (H4 : Nat.le (Nat.succ i) n1)
    (H5 : AEv.loadCells (AHeap.room h 11) b1 (0 + i * 3) 3 = some [.str a, .int .i64 x, .int .i64 x2])
    (H6 : load1 (AHeap.room h 11) q (0 + 3) = some (.slice b2 0 n1 k2))
    (H7 : Nat.le (Nat.succ i) n1)
    (H8 : AEv.loadCells (AHeap.room h 11) b2 (0 + i * 3) 3 = some [.str a, .int .i64 x, .int .i64 x2])
    (H9 : binA Try.prog (AHeap.room h 11) BinOp.neq 35 (Operand.tmp 73) (Operand.tmp 78) (AV.agg [AV.str a, AV.int IntKind.i64 x, AV.int IntKind.i64 x2]) (AV.agg [AV.str a, AV.int IntKind.i64 x, AV.int IntKind.i64 x2]) = some (AV.bool false))
    (H10 : arith .add .i64 (.ofNat i) (.ofNat 1) = some (.int .i64 (.ofNat n_1))) :
    RunF Try.prog Try.f41 none call [1, 1, 1, 0, 1, 0, 0] (SSt.mk [(2, .ptr p 0), (3, .ptr q 0), (6, .int .i64 (.ofNat i))] [] .none h) (.nrm)
      (SSt.mk [(2, .ptr p 0), (3, .ptr q 0), (6, .int .i64 (.ofNat n_1))] [] .none (AHeap.room h 11)) :=
  sxF_run [2, 3, 6] (hs := [.v (.slice b1 0 n1 k1), .b true, .v (.slice b1 0 n1 k1), .v (.ptr b1 (0 + i * 3)), .v (.agg [.str a, .int .i64 x, .int .i64 x2]), .v (.slice b2 0 n1 k2), .v (.ptr b2 (0 + i * 3)), .v (.agg [.str a, .int .i64 x, .int .i64 x2]), .v (.bool false), .b false, .v (.int .i64 (.ofNat n_1))]) (by kernel_rfl) <| .cons H1 <| .cons H2 <| .cons H3 <| .cons (⟨H4, rfl⟩ : Nat.le (Nat.succ i) n1 ∧ AV.ptr b1 (0 + i * 3) = AV.ptr b1 (0 + i * 3)) <| .cons H5 <| .cons H6 <| .cons (⟨H7, rfl⟩ : Nat.le (Nat.succ i) n1 ∧ AV.ptr b2 (0 + i * 3) = AV.ptr b2 (0 + i * 3)) <| .cons H8 <| .cons H9 <| .cons (by kernel_rfl : AV.sound (AV.ptr p (0 + 3)) = true) <| .cons (by kernel_rfl : AV.ptr p (0 + 3) = AV.ptr p (0 + 3)) <| .cons (by kernel_rfl : AV.sound (AV.slice b1 0 n1 k1) = true) <| .cons H3 <| .cons (by kernel_rfl : AV.sound (AV.int IntKind.i64 (Int.ofNat i)) = true) <| .cons (by kernel_rfl : AV.int IntKind.i64 (Int.ofNat i) = AV.int IntKind.i64 (Int.ofNat i)) <| .cons (by kernel_rfl : AV.sound (AV.ptr b1 (0 + i * 3)) = true) <| .cons (⟨H4, rfl⟩ : Nat.le (Nat.succ i) n1 ∧ AV.ptr b1 (0 + i * 3) = AV.ptr b1 (0 + i * 3)) <| .cons (by kernel_rfl : AV.sound (AV.agg [AV.str a, AV.int IntKind.i64 x, AV.int IntKind.i64 x2]) = true) <| .cons H5 <| .cons (by kernel_rfl : AV.sound (AV.ptr q (0 + 3)) = true) <| .cons (by kernel_rfl : AV.ptr q (0 + 3) = AV.ptr q (0 + 3)) <| .cons (by kernel_rfl : AV.sound (AV.slice b2 0 n1 k2) = true) <| .cons H6 <| .cons (by kernel_rfl : AV.sound (AV.int IntKind.i64 (Int.ofNat i)) = true) <| .cons (by kernel_rfl : AV.int IntKind.i64 (Int.ofNat i) = AV.int IntKind.i64 (Int.ofNat i)) <| .cons (by kernel_rfl : AV.sound (AV.ptr b2 (0 + i * 3)) = true) <| .cons (⟨H7, rfl⟩ : Nat.le (Nat.succ i) n1 ∧ AV.ptr b2 (0 + i * 3) = AV.ptr b2 (0 + i * 3)) <| .cons (by kernel_rfl : AV.sound (AV.agg [AV.str a, AV.int IntKind.i64 x, AV.int IntKind.i64 x2]) = true) <| .cons H8 <| .cons (by kernel_rfl : AV.sound (AV.bool false) = true) <| .cons H9 <| .cons (by kernel_rfl : false = false) <| .cons H10 <| .nil
theorem kdl_2 (call : CallT → List AV → AHeap → FRes) (p q i b1 b2 n1 : Nat) (k1 k2 : Cap) (a : List UInt8) (x x2 : Int) (h : AHeap)
    (H1 : load1 h p (0 + 3) = some (.slice b1 0 n1 k1))
    (H2 : ltI (.ofNat i) (.ofNat n1) = false) :
    RunF Try.prog Try.f41 none call [1, 1, 1, 0, 1, 0, 0] (SSt.mk [(2, .ptr p 0), (3, .ptr q 0), (6, .int .i64 (.ofNat i))] [] .none h) (.exit 2)
      (SSt.mk [(2, .ptr p 0), (3, .ptr q 0), (6, .int .i64 (.ofNat i))] [] .none h) :=
  sxF_run [2, 3, 6] (hs := [.v (.slice b1 0 n1 k1), .b false]) (by kernel_rfl) <| .cons H1 <| .cons H2 <| .nil

/-! ### alike: of two that are -/
theorem kal_loop (call : CallT → List AV → AHeap → FRes) (p q b1 b2 : Nat) (k1 k2 : Cap) (ps : List (List UInt8)) (hb : ps.length < 90000) : ∀ (k i : Nat) (h : AHeap), ps.length - i = k → i ≤ ps.length → load1 h p (0 + 2) = some (.slice b1 0 ps.length k1) → load1 h q (0 + 2) = some (.slice b2 0 ps.length k2) → (∀ i (hi : i < ps.length), load1 h b1 (0 + i * 1) = some (.str ps[i])) → (∀ i (hi : i < ps.length), load1 h b2 (0 + i * 1) = some (.str ps[i])) →
    ∃ h', Ext h.n h h' ∧ LoopF Try.prog Try.f41 none call [1, 1, 0, 1, 0] (k + 1) ⟨[(2, .ptr p 0), (3, .ptr q 0), (5, .int .i64 (Int.ofNat i))], [], .none, h⟩ (.exit 0) ⟨[(2, .ptr p 0), (3, .ptr q 0)], [], .none, h'⟩
  | 0, i, h, hk, hi, hp, hq, l1, l2 => by
    obtain rfl : i = ps.length := by omega
    exact ⟨h, Ext.refl _ _, .exit (RunP.post (kal_3 _ _ _ _ _ (0) _ _ (.dead) ([]) _ (hp) (lt_f (by omega))) ⟨rfl, rfl, trivial⟩) (by simp)⟩
  | k + 1, i, h, hk, hi, hp, hq, l1, l2 => by
    have hii : i < ps.length := by omega
    obtain ⟨h', x, l⟩ := kal_loop call p q b1 b2 k1 k2 ps hb k (i + 1) (h.room 11) (by omega) (by omega) hp hq l1 l2
    exact ⟨h', (Ext.roomR (Ext.refl _ _)).trans (by simp) x, .step (kal_2 _ _ _ _ _ _ _ _ _ _ _ _ (hp) (lt_t (by omega)) (hp) (by show (_ : Nat) ≤ _; omega) (l1 i hii) (hq) (by show (_ : Nat) ≤ _; omega) (l2 i hii) ((by rw [bbr]; rfl)) (add_n (by omega))) l⟩
theorem kdl_loop (call : CallT → List AV → AHeap → FRes) (p q b1 b2 : Nat) (k1 k2 : Cap) (ds : List Dg) (hb : ds.length < 90000) : ∀ (k i : Nat) (h : AHeap), ds.length - i = k → i ≤ ds.length → load1 h p (0 + 3) = some (.slice b1 0 ds.length k1) → load1 h q (0 + 3) = some (.slice b2 0 ds.length k2) → (∀ i (hi : i < ds.length), AEv.loadCells h b1 (0 + i * 3) 3 = some (encD ds[i])) → (∀ i (hi : i < ds.length), AEv.loadCells h b2 (0 + i * 3) 3 = some (encD ds[i])) →
    ∃ h', Ext h.n h h' ∧ LoopF Try.prog Try.f41 none call [1, 1, 1, 0, 1, 0] (k + 1) ⟨[(2, .ptr p 0), (3, .ptr q 0), (6, .int .i64 (Int.ofNat i))], [], .none, h⟩ (.exit 2) ⟨[(2, .ptr p 0), (3, .ptr q 0)], [], .none, h'⟩
  | 0, i, h, hk, hi, hp, hq, l1, l2 => by
    obtain rfl : i = ds.length := by omega
    exact ⟨h, Ext.refl _ _, .exit (RunP.post (kdl_2 _ _ _ _ _ (0) _ _ (.dead) ([]) (0) (0) _ (hp) (lt_f (by omega))) ⟨rfl, rfl, trivial⟩) (by simp)⟩
  | k + 1, i, h, hk, hi, hp, hq, l1, l2 => by
    have hii : i < ds.length := by omega
    obtain ⟨h', x, l⟩ := kdl_loop call p q b1 b2 k1 k2 ds hb k (i + 1) (h.room 11) (by omega) (by omega) hp hq l1 l2
    have bn := bin_ne (h.room 11) (Operand.tmp 73) (Operand.tmp 78) ds[i] ds[i]
    rw [(eqB_iff _ _).2 rfl] at bn
    exact ⟨h', (Ext.roomR (Ext.refl _ _)).trans (by simp) x, .step (kdl_1 _ _ _ _ _ _ _ _ _ _ _ _ _ _ (hp) (lt_t (by omega)) (hp) (by show (_ : Nat) ≤ _; omega) (l1 i hii) (hq) (by show (_ : Nat) ≤ _; omega) (l2 i hii) (bn) (add_n (by omega))) l⟩
theorem alike_c (m B1 B2 B3 : Nat) (cd nm : Int) (t : List UInt8) (ps : List (List UInt8)) (l : List Dg) (w1 w2 d1 d2 : AV) (h : AHeap) (h1 : RowK encS 1 9 B1 h w1 ps) (h2 : RowK encS 1 9 B2 h w2 ps) (h3 : RowK encD 3 35 B3 h d1 l) (h4 : RowR h d2 l) (hpb : ps.length < 90000) (hlb : l.length < 90000) :
    ∃ h', C (m + 1) (.fn 41) [.agg [.int .i64 cd, .str t, w1, d1, .int .u64 nm], .agg [.int .i64 cd, .str t, w2, d2, .int .u64 nm]] h = .ret (.bool true) h' ∧ Ext h.n h h' := by
  obtain ⟨H, hH⟩ : ∃ H, H = (h.push (.cells [.int .i64 cd, .str t, w1, d1, .int .u64 nm] 54 .own 0 0)).push (.cells [.int .i64 cd, .str t, w2, d2, .int .u64 nm] 54 .own 0 0) := ⟨_, rfl⟩
  have xH : Ext h.n h H := by rw [hH]; exact exA
  have nH : H.n = h.n + 2 := by rw [hH]; simp
  have gp : H.get h.n = some (.cells [.int .i64 cd, .str t, w1, d1, .int .u64 nm] 54 .own 0 0) := by rw [hH]; exact gold (by simp) (gtop rfl)
  have gq : H.get (h.n + 1) = some (.cells [.int .i64 cd, .str t, w2, d2, .int .u64 nm] 54 .own 0 0) := by rw [hH]; exact gtop (by simp)
  have s0 : RunF Try.prog Try.f41 none (C m) [0] ⟨[(0, .agg [.int .i64 cd, .str t, w1, d1, .int .u64 nm]), (1, .agg [.int .i64 cd, .str t, w2, d2, .int .u64 nm])], [], .none, h⟩ .nrm ⟨[(2, .ptr h.n 0), (3, .ptr (h.n + 1) 0)], [], .none, H⟩ := by
    rw [hH]
    rcases h1 with ⟨rfl, e1⟩ | ⟨b1, k1, rfl, q1, _⟩ <;> rcases h2 with ⟨rfl, e2⟩ | ⟨b2, k2, rfl, q2, _⟩ <;> (try (subst e1; simp at q2; done)) <;> (try (subst e2; simp at q1; done)) <;>
    rcases h3 with ⟨rfl, e3⟩ | ⟨b3, k3, rfl, q3, _⟩ <;> rcases h4 with ⟨rfl, e4⟩ | ⟨b4, k4, rfl, q4, _⟩ <;> (try (subst e4; simp at q3; done))
    · exact ka0nn (C m) cd nm t h
    · subst e3; exact ka0nz (C m) cd nm t b4 k4 h
    · exact ka0ns (C m) cd nm t b3 b4 l.length k3 k4 h
    · exact ka0sn (C m) cd nm t b1 b2 ps.length k1 k2 h
    · subst e3; exact ka0sz (C m) cd nm t b1 b2 ps.length k1 k2 b4 k4 h
    · exact ka0ss (C m) cd nm t b1 b2 ps.length k1 k2 b3 b4 l.length k3 k4 h
  have f1 : (!eqI cd cd) = false := by rw [eqI_self]; rfl
  have f2 : (!beqBytes t t) = false := by rw [bbr]; rfl
  have f3 : (!eqI nm nm) = false := by rw [eqI_self]; rfl
  have f4 : ∀ n : Nat, (!eqI (Int.ofNat n) (Int.ofNat n)) = false := fun n => by rw [eqI_self]; rfl
  have s1 : RunF Try.prog Try.f41 none (C m) [1, 0] ⟨[(2, .ptr h.n 0), (3, .ptr (h.n + 1) 0)], [], .none, H⟩ .nrm ⟨[(2, .ptr h.n 0), (3, .ptr (h.n + 1) 0)], [], .none, H⟩ := by
    rcases h1 with ⟨rfl, e1⟩ | ⟨b1, k1, rfl, q1, _⟩ <;> rcases h2 with ⟨rfl, e2⟩ | ⟨b2, k2, rfl, q2, _⟩ <;> (try (subst e1; simp at q2; done)) <;> (try (subst e2; simp at q1; done)) <;>
    rcases h3 with ⟨rfl, e3⟩ | ⟨b3, k3, rfl, q3, _⟩ <;> rcases h4 with ⟨rfl, e4⟩ | ⟨b4, k4, rfl, q4, _⟩ <;> (try (subst e4; simp at q3; done))
    · exact ka1nn_4 (C m) h.n (h.n + 1) cd nm t H (ld1 gp rfl) (ld1 gq rfl) f1 (ld1 gp rfl) (ld1 gq rfl) f2 (ld1 gp rfl) (ld1 gq rfl) f3 (ld1 gp rfl) (ld1 gq rfl) (ld1 gp rfl) (ld1 gq rfl)
    · subst e3; exact ka1nz_4 (C m) h.n (h.n + 1) cd nm t b4 k4 H (ld1 gp rfl) (ld1 gq rfl) f1 (ld1 gp rfl) (ld1 gq rfl) f2 (ld1 gp rfl) (ld1 gq rfl) f3 (ld1 gp rfl) (ld1 gq rfl) (ld1 gp rfl) (ld1 gq rfl)
    · exact ka1ns_5 (C m) h.n (h.n + 1) cd nm t b3 b4 l.length k3 k4 H (ld1 gp rfl) (ld1 gq rfl) f1 (ld1 gp rfl) (ld1 gq rfl) f2 (ld1 gp rfl) (ld1 gq rfl) f3 (ld1 gp rfl) (ld1 gq rfl) (ld1 gp rfl) (ld1 gq rfl) (f4 _)
    · exact ka1sn_5 (C m) h.n (h.n + 1) cd nm t b1 b2 ps.length k1 k2 H (ld1 gp rfl) (ld1 gq rfl) f1 (ld1 gp rfl) (ld1 gq rfl) f2 (ld1 gp rfl) (ld1 gq rfl) f3 (ld1 gp rfl) (ld1 gq rfl) (f4 _) (ld1 gp rfl) (ld1 gq rfl)
    · subst e3; exact ka1sz_5 (C m) h.n (h.n + 1) cd nm t b1 b2 ps.length k1 k2 b4 k4 H (ld1 gp rfl) (ld1 gq rfl) f1 (ld1 gp rfl) (ld1 gq rfl) f2 (ld1 gp rfl) (ld1 gq rfl) f3 (ld1 gp rfl) (ld1 gq rfl) (f4 _) (ld1 gp rfl) (ld1 gq rfl)
    · exact ka1ss_6 (C m) h.n (h.n + 1) cd nm t b1 b2 ps.length k1 k2 b3 b4 l.length k3 k4 H (ld1 gp rfl) (ld1 gq rfl) f1 (ld1 gp rfl) (ld1 gq rfl) f2 (ld1 gp rfl) (ld1 gq rfl) f3 (ld1 gp rfl) (ld1 gq rfl) (f4 _) (ld1 gp rfl) (ld1 gq rfl) (f4 _)
  have lp1 : ∃ H1, Ext H.n H H1 ∧ RunF Try.prog Try.f41 none (C m) [1, 1, 0, 1, 0] ⟨[(2, .ptr h.n 0), (3, .ptr (h.n + 1) 0), (5, .int .i64 (Int.ofNat 0))], [], .none, H⟩ (.exit 0) ⟨[(2, .ptr h.n 0), (3, .ptr (h.n + 1) 0)], [], .none, H1⟩ := by
    rcases h1 with ⟨rfl, e1⟩ | ⟨b1, k1, rfl, q1, g1, _, n1⟩
    · exact ⟨H, Ext.refl _ _, LoopF.run (p := [1, 1, 0, 1, 0]) (by kernel_rfl) (LoopF.exit (n := 0) (kez (C m) h.n (h.n + 1) H (ld1 gp rfl)) (by simp)) (by omega)⟩
    · rcases h2 with ⟨rfl, e2⟩ | ⟨b2, k2, rfl, q2, g2, _, n2⟩
      · subst e2; simp at q1
      · obtain ⟨H1, x, lp⟩ := kal_loop (C m) h.n (h.n + 1) b1 b2 k1 k2 ps hpb ps.length 0 H rfl (by omega) (ld1 gp rfl) (ld1 gq rfl) (fun i hi => str_at ((xH.get b1 n1).trans g1) hi) (fun i hi => str_at ((xH.get b2 n2).trans g2) hi)
        exact ⟨H1, x, LoopF.run (p := [1, 1, 0, 1, 0]) (by kernel_rfl) lp (by omega)⟩
  obtain ⟨H1, x1, lp1⟩ := lp1
  have gp1 := (x1.get h.n (by omega)).trans gp
  have gq1 := (x1.get (h.n + 1) (by omega)).trans gq
  have x01 : Ext h.n h H1 := xH.trans xH.n x1
  have lp2 : ∃ H2, Ext H1.n H1 H2 ∧ RunF Try.prog Try.f41 none (C m) [1, 1, 1, 0, 1, 0] ⟨[(2, .ptr h.n 0), (3, .ptr (h.n + 1) 0), (6, .int .i64 (Int.ofNat 0))], [], .none, H1⟩ (.exit 2) ⟨[(2, .ptr h.n 0), (3, .ptr (h.n + 1) 0)], [], .none, H2⟩ := by
    rcases h3 with ⟨rfl, e1⟩ | ⟨b1, k1, rfl, q1, g1, _, n1⟩
    · exact ⟨H1, Ext.refl _ _, LoopF.run (p := [1, 1, 1, 0, 1, 0]) (by kernel_rfl) (LoopF.exit (n := 0) (kdz (C m) h.n (h.n + 1) H1 (ld1 gp1 rfl)) (by simp)) (by omega)⟩
    · rcases h4 with ⟨rfl, e2⟩ | ⟨b2, k2, rfl, q2, g2⟩
      · subst e2; simp at q1
      · obtain ⟨H2, x, lp⟩ := kdl_loop (C m) h.n (h.n + 1) b1 b2 k1 k2 l hlb l.length 0 H1 rfl (by omega) (ld1 gp1 rfl) (ld1 gq1 rfl) (fun i hi => row_load (off := 0 + i * 3) (rest := []) encD_len (by rw [List.append_nil]; exact (x01.get b1 n1).trans g1) hi (by omega)) (fun i hi => by have := g2 i hi; simp only [AEv.loadCells] at this ⊢; rw [x01.get b2 (q2 (by omega))]; exact this)
        exact ⟨H2, x, LoopF.run (p := [1, 1, 1, 0, 1, 0]) (by kernel_rfl) lp (by omega)⟩
  obtain ⟨H2, x2, lp2⟩ := lp2
  have s2 := ke2 (C m) h.n (h.n + 1) H H1 (RunP.pre lp1 ⟨rfl, rfl, rfl, trivial⟩ rfl rfl rfl)
  have s3 := ke3 (C m) h.n (h.n + 1) H1 H2 (RunP.pre lp2 ⟨rfl, rfl, rfl, trivial⟩ rfl rfl rfl)
  refine ⟨H2, fn_runF (intr := Ii) (n := m) (args := [.agg [.int .i64 cd, .str t, w1, d1, .int .u64 nm], .agg [.int .i64 cd, .str t, w2, d2, .int .u64 nm]]) Try.func41 (by kernel_rfl) rfl (by kernel_rfl)
    (RunF.seq (p := []) (by kernel_rfl) s0 (RunF.seq (p := [1]) (by kernel_rfl) s1 (RunF.seq (p := [1, 1]) (by kernel_rfl) s2 (RunF.seq (p := [1, 1, 1]) (by kernel_rfl) s3 (RunP.pre (ke4 (C m) H2) trivial rfl rfl rfl))))) (.inl rfl) (by kernel_rfl), x01.trans x01.n x2⟩
end Go.Proofs.Wire

namespace Go.Proofs.Wire
open Go AEv Go.Proofs Go.Proofs.Enc
set_option maxRecDepth 100000
set_option maxHeartbeats 1000000

theorem mb0ss (call : CallT → List AV → AHeap → FRes) (c n : Int) (t : List UInt8) (p1 n1 : Nat) (q1 : Cap) (p2 n2 : Nat) (q2 : Cap) (k1 : Int) (a1 b1 c1 : List UInt8) (k2 : Int) (a2 b2 c2 : List UInt8) (h : AHeap) :
    RunF Try.prog Try.f11 none call [0] (SSt.mk [(0, .agg [.int .i64 k1, .str a1, .str b1, .str c1]), (1, .agg [.int .i64 k2, .str a2, .str b2, .str c2]), (2, .agg [.int .i64 c, .str t, .slice p1 0 n1 q1, .slice p2 0 n2 q2, .int .u64 n])] [] .none h) (.nrm)
      (SSt.mk [(3, .ptr (AHeap.n h) 0), (4, .ptr (AHeap.n (AHeap.push h (.cells [.int .i64 k1, .str a1, .str b1, .str c1] 42 .own 0 0))) 0), (5, .ptr (AHeap.n (AHeap.push (AHeap.push h (.cells [.int .i64 k1, .str a1, .str b1, .str c1] 42 .own 0 0)) (.cells [.int .i64 k2, .str a2, .str b2, .str c2] 42 .own 0 0))) 0)] [] .none (AHeap.push (AHeap.push (AHeap.push h (.cells [.int .i64 k1, .str a1, .str b1, .str c1] 42 .own 0 0)) (.cells [.int .i64 k2, .str a2, .str b2, .str c2] 42 .own 0 0)) (.cells [.int .i64 c, .str t, .slice p1 0 n1 q1, .slice p2 0 n2 q2, .int .u64 n] 54 .own 0 0))) :=
  sxF_run [3, 4, 5] (hs := []) (by kernel_rfl) <| .nil
theorem mb1ss (call : CallT → List AV → AHeap → FRes) (p q r : Nat) (c n : Int) (t : List UInt8) (p1 n1 : Nat) (q1 : Cap) (p2 n2 : Nat) (q2 : Cap) (k1 : Int) (a1 b1 c1 : List UInt8) (k2 : Int) (a2 b2 c2 : List UInt8) (k3 : Int) (a3 b3 c3 : List UInt8) (k4 : Int) (a4 b4 c4 : List UInt8) (vs : List AV) (h g1 g2 g3 g_1 g_2 g_3 : AHeap)
    (H1 : AEv.loadCells (AHeap.room h 11) p 0 4 = some [.int .i64 k1, .str a1, .str b1, .str c1])
    (H2 : call (.fn 27) [.agg [.int .i64 k1, .str a1, .str b1, .str c1], .agg [.int .u16 (.ofNat 0), .int .u16 (.ofNat 0), .int .u16 (.ofNat 0)]] (AHeap.room h 11) = FRes.ret (.agg [.int .i64 k3, .str a3, .str b3, .str c3]) g1)
    (H3 : AEv.loadCells g1 q 0 4 = some [.int .i64 k2, .str a2, .str b2, .str c2])
    (H4 : call (.fn 27) [.agg [.int .i64 k2, .str a2, .str b2, .str c2], .agg [.int .u16 (.ofNat 0), .int .u16 (.ofNat 0), .int .u16 (.ofNat 0)]] g1 = FRes.ret (.agg [.int .i64 k4, .str a4, .str b4, .str c4]) g2)
    (H5 : AEv.loadCells g2 r 0 5 = some vs)
    (H6 : call (.fn 38) [.agg vs] g2 = FRes.ret (.agg [.int .i64 c, .str t, .slice p1 0 n1 q1, .slice p2 0 n2 q2, .int .u64 n]) g3)
    (H7 : AEv.storeCells g3 p 0 [.int .i64 k3, .str a3, .str b3, .str c3] = some g_1)
    (H8 : AEv.storeCells g_1 q 0 [.int .i64 k4, .str a4, .str b4, .str c4] = some g_2)
    (H9 : AEv.storeCells g_2 r 0 [.int .i64 c, .str t, .slice p1 0 n1 q1, .slice p2 0 n2 q2, .int .u64 n] = some g_3)
    (H10 : AEv.loadCells (AHeap.room h 11) q 0 4 = some [.int .i64 k2, .str a2, .str b2, .str c2])
    (H11 : AV.sound (AV.agg vs) = true)
    (H12 : AEv.loadCells g1 r 0 5 = some vs)
    (H13 : AEv.loadCells (AHeap.room h 11) r 0 5 = some vs) :
    RunF Try.prog Try.f11 none call [1, 0] (SSt.mk [(3, .ptr p 0), (4, .ptr q 0), (5, .ptr r 0)] [] .none h) (.nrm)
      (SSt.mk [(3, .ptr p 0), (4, .ptr q 0), (5, .ptr r 0)] [] .none g_3) :=
  sxF_run [3, 4, 5] (hs := [.v (.agg [.int .i64 k1, .str a1, .str b1, .str c1]), .c (.agg [.int .i64 k3, .str a3, .str b3, .str c3]) g1, .v (.agg [.int .i64 k2, .str a2, .str b2, .str c2]), .c (.agg [.int .i64 k4, .str a4, .str b4, .str c4]) g2, .v (.agg vs), .c (.agg [.int .i64 c, .str t, .slice p1 0 n1 q1, .slice p2 0 n2 q2, .int .u64 n]) g3, .vh (.tup []) g_1, .vh (.tup []) g_2, .vh (.tup []) g_3]) (by kernel_rfl) <| .cons H1 <| .cons H2 <| .cons H3 <| .cons H4 <| .cons H5 <| .cons H6 <| .cons (⟨by kernel_rfl, H7, rfl⟩ : some 4 = some 4 ∧ AEv.storeCells g3 p 0 [AV.int IntKind.i64 k3, AV.str a3, AV.str b3, AV.str c3] = some g_1 ∧ AV.tup [] = AV.tup []) <| .cons (⟨by kernel_rfl, H8, rfl⟩ : some 4 = some 4 ∧ AEv.storeCells g_1 q 0 [AV.int IntKind.i64 k4, AV.str a4, AV.str b4, AV.str c4] = some g_2 ∧ AV.tup [] = AV.tup []) <| .cons (⟨by kernel_rfl, H9, rfl⟩ : some 5 = some 5 ∧ AEv.storeCells g_2 r 0 [AV.int IntKind.i64 c, AV.str t, AV.slice p1 0 n1 q1, AV.slice p2 0 n2 q2, AV.int IntKind.u64 n] = some g_3 ∧ AV.tup [] = AV.tup []) <| .cons (by kernel_rfl : AV.sound (AV.agg [AV.int IntKind.i64 k1, AV.str a1, AV.str b1, AV.str c1]) = true) <| .cons H1 <| .cons (by kernel_rfl : AV.sound (AV.agg [AV.int IntKind.u16 (Int.ofNat 0), AV.int IntKind.u16 (Int.ofNat 0), AV.int IntKind.u16 (Int.ofNat 0)]) = true) <| .cons (by kernel_rfl : AV.agg [AV.int IntKind.u16 (Int.ofNat 0), AV.int IntKind.u16 (Int.ofNat 0), AV.int IntKind.u16 (Int.ofNat 0)] = AV.agg [AV.int IntKind.u16 (Int.ofNat 0), AV.int IntKind.u16 (Int.ofNat 0), AV.int IntKind.u16 (Int.ofNat 0)]) <| .cons (by kernel_rfl : AV.sound (AV.agg [AV.int IntKind.i64 k2, AV.str a2, AV.str b2, AV.str c2]) = true) <| .cons H3 <| .cons (by kernel_rfl : AV.sound (AV.agg [AV.int IntKind.i64 k2, AV.str a2, AV.str b2, AV.str c2]) = true) <| .cons H10 <| .cons (by kernel_rfl : AV.sound (AV.agg [AV.int IntKind.u16 (Int.ofNat 0), AV.int IntKind.u16 (Int.ofNat 0), AV.int IntKind.u16 (Int.ofNat 0)]) = true) <| .cons (by kernel_rfl : AV.agg [AV.int IntKind.u16 (Int.ofNat 0), AV.int IntKind.u16 (Int.ofNat 0), AV.int IntKind.u16 (Int.ofNat 0)] = AV.agg [AV.int IntKind.u16 (Int.ofNat 0), AV.int IntKind.u16 (Int.ofNat 0), AV.int IntKind.u16 (Int.ofNat 0)]) <| .cons (by kernel_rfl : AV.sound (AV.agg [AV.int IntKind.u16 (Int.ofNat 0), AV.int IntKind.u16 (Int.ofNat 0), AV.int IntKind.u16 (Int.ofNat 0)]) = true) <| .cons (by kernel_rfl : AV.agg [AV.int IntKind.u16 (Int.ofNat 0), AV.int IntKind.u16 (Int.ofNat 0), AV.int IntKind.u16 (Int.ofNat 0)] = AV.agg [AV.int IntKind.u16 (Int.ofNat 0), AV.int IntKind.u16 (Int.ofNat 0), AV.int IntKind.u16 (Int.ofNat 0)]) <| .cons H11 <| .cons H5 <| .cons H11 <| .cons H12 <| .cons H11 <| .cons H13 <| .nil
theorem mb7ss (call : CallT → List AV → AHeap → FRes) (r : Nat) (c n : Int) (t u : List UInt8) (p1 n1 : Nat) (q1 : Cap) (p2 n2 : Nat) (q2 : Cap) (h g g_1 : AHeap)
    (H1 : call (.fn 35) [.str u] h = FRes.ret (.tup [.agg [.int .i64 c, .str t, .slice p1 0 n1 q1, .slice p2 0 n2 q2, .int .u64 n], .int .i64 (.ofNat 0)]) g)
    (H2 : AEv.storeCells (AHeap.push g (.cells [.int .i64 (.ofNat 0), .str [], .nilS, .nilS, .int .u64 (.ofNat 0)] 54 .own 0 0)) (AHeap.n g) 0 [.int .i64 c, .str t, .slice p1 0 n1 q1, .slice p2 0 n2 q2, .int .u64 n] = some g_1) :
    RunF Try.prog Try.f11 none call [1, 1, 1, 1, 1, 1, 1, 0] (SSt.mk [(5, .ptr r 0), (13, .str u)] [] .none h) (.nrm)
      (SSt.mk [(5, .ptr r 0), (14, .ptr (AHeap.n g) 0), (15, .int .i64 (.ofNat 0))] [] .none g_1) :=
  sxF_run [5, 14, 15] (hs := [.c (.tup [.agg [.int .i64 c, .str t, .slice p1 0 n1 q1, .slice p2 0 n2 q2, .int .u64 n], .int .i64 (.ofNat 0)]) g, .vh (.tup []) g_1]) (by kernel_rfl) <| .cons H1 <| .cons (⟨by kernel_rfl, H2, rfl⟩ : some 5 = some 5 ∧ AEv.storeCells (AHeap.push g (AObj.cells [AV.int IntKind.i64 (Int.ofNat 0), AV.str [], AV.nilS, AV.nilS, AV.int IntKind.u64 (Int.ofNat 0)] 54 BK.own 0 0)) (AHeap.n g) 0 [AV.int IntKind.i64 c, AV.str t, AV.slice p1 0 n1 q1, AV.slice p2 0 n2 q2, AV.int IntKind.u64 n] = some g_1 ∧ AV.tup [] = AV.tup []) <| .nil
theorem mb0sn (call : CallT → List AV → AHeap → FRes) (c n : Int) (t : List UInt8) (p1 n1 : Nat) (q1 : Cap) (k1 : Int) (a1 b1 c1 : List UInt8) (k2 : Int) (a2 b2 c2 : List UInt8) (h : AHeap) :
    RunF Try.prog Try.f11 none call [0] (SSt.mk [(0, .agg [.int .i64 k1, .str a1, .str b1, .str c1]), (1, .agg [.int .i64 k2, .str a2, .str b2, .str c2]), (2, .agg [.int .i64 c, .str t, .slice p1 0 n1 q1, .nilS, .int .u64 n])] [] .none h) (.nrm)
      (SSt.mk [(3, .ptr (AHeap.n h) 0), (4, .ptr (AHeap.n (AHeap.push h (.cells [.int .i64 k1, .str a1, .str b1, .str c1] 42 .own 0 0))) 0), (5, .ptr (AHeap.n (AHeap.push (AHeap.push h (.cells [.int .i64 k1, .str a1, .str b1, .str c1] 42 .own 0 0)) (.cells [.int .i64 k2, .str a2, .str b2, .str c2] 42 .own 0 0))) 0)] [] .none (AHeap.push (AHeap.push (AHeap.push h (.cells [.int .i64 k1, .str a1, .str b1, .str c1] 42 .own 0 0)) (.cells [.int .i64 k2, .str a2, .str b2, .str c2] 42 .own 0 0)) (.cells [.int .i64 c, .str t, .slice p1 0 n1 q1, .nilS, .int .u64 n] 54 .own 0 0))) :=
  sxF_run [3, 4, 5] (hs := []) (by kernel_rfl) <| .nil
theorem mb1sn (call : CallT → List AV → AHeap → FRes) (p q r : Nat) (c n : Int) (t : List UInt8) (p1 n1 : Nat) (q1 : Cap) (k1 : Int) (a1 b1 c1 : List UInt8) (k2 : Int) (a2 b2 c2 : List UInt8) (k3 : Int) (a3 b3 c3 : List UInt8) (k4 : Int) (a4 b4 c4 : List UInt8) (vs : List AV) (h g1 g2 g3 g_1 g_2 g_3 : AHeap)
    (H1 : AEv.loadCells (AHeap.room h 11) p 0 4 = some [.int .i64 k1, .str a1, .str b1, .str c1])
    (H2 : call (.fn 27) [.agg [.int .i64 k1, .str a1, .str b1, .str c1], .agg [.int .u16 (.ofNat 0), .int .u16 (.ofNat 0), .int .u16 (.ofNat 0)]] (AHeap.room h 11) = FRes.ret (.agg [.int .i64 k3, .str a3, .str b3, .str c3]) g1)
    (H3 : AEv.loadCells g1 q 0 4 = some [.int .i64 k2, .str a2, .str b2, .str c2])
    (H4 : call (.fn 27) [.agg [.int .i64 k2, .str a2, .str b2, .str c2], .agg [.int .u16 (.ofNat 0), .int .u16 (.ofNat 0), .int .u16 (.ofNat 0)]] g1 = FRes.ret (.agg [.int .i64 k4, .str a4, .str b4, .str c4]) g2)
    (H5 : AEv.loadCells g2 r 0 5 = some vs)
    (H6 : call (.fn 38) [.agg vs] g2 = FRes.ret (.agg [.int .i64 c, .str t, .slice p1 0 n1 q1, .nilS, .int .u64 n]) g3)
    (H7 : AEv.storeCells g3 p 0 [.int .i64 k3, .str a3, .str b3, .str c3] = some g_1)
    (H8 : AEv.storeCells g_1 q 0 [.int .i64 k4, .str a4, .str b4, .str c4] = some g_2)
    (H9 : AEv.storeCells g_2 r 0 [.int .i64 c, .str t, .slice p1 0 n1 q1, .nilS, .int .u64 n] = some g_3)
    (H10 : AEv.loadCells (AHeap.room h 11) q 0 4 = some [.int .i64 k2, .str a2, .str b2, .str c2])
    (H11 : AV.sound (AV.agg vs) = true)
    (H12 : AEv.loadCells g1 r 0 5 = some vs)
    (H13 : AEv.loadCells (AHeap.room h 11) r 0 5 = some vs) :
    RunF Try.prog Try.f11 none call [1, 0] (SSt.mk [(3, .ptr p 0), (4, .ptr q 0), (5, .ptr r 0)] [] .none h) (.nrm)
      (SSt.mk [(3, .ptr p 0), (4, .ptr q 0), (5, .ptr r 0)] [] .none g_3) :=
  sxF_run [3, 4, 5] (hs := [.v (.agg [.int .i64 k1, .str a1, .str b1, .str c1]), .c (.agg [.int .i64 k3, .str a3, .str b3, .str c3]) g1, .v (.agg [.int .i64 k2, .str a2, .str b2, .str c2]), .c (.agg [.int .i64 k4, .str a4, .str b4, .str c4]) g2, .v (.agg vs), .c (.agg [.int .i64 c, .str t, .slice p1 0 n1 q1, .nilS, .int .u64 n]) g3, .vh (.tup []) g_1, .vh (.tup []) g_2, .vh (.tup []) g_3]) (by kernel_rfl) <| .cons H1 <| .cons H2 <| .cons H3 <| .cons H4 <| .cons H5 <| .cons H6 <| .cons (⟨by kernel_rfl, H7, rfl⟩ : some 4 = some 4 ∧ AEv.storeCells g3 p 0 [AV.int IntKind.i64 k3, AV.str a3, AV.str b3, AV.str c3] = some g_1 ∧ AV.tup [] = AV.tup []) <| .cons (⟨by kernel_rfl, H8, rfl⟩ : some 4 = some 4 ∧ AEv.storeCells g_1 q 0 [AV.int IntKind.i64 k4, AV.str a4, AV.str b4, AV.str c4] = some g_2 ∧ AV.tup [] = AV.tup []) <| .cons (⟨by kernel_rfl, H9, rfl⟩ : some 5 = some 5 ∧ AEv.storeCells g_2 r 0 [AV.int IntKind.i64 c, AV.str t, AV.slice p1 0 n1 q1, AV.nilS, AV.int IntKind.u64 n] = some g_3 ∧ AV.tup [] = AV.tup []) <| .cons (by kernel_rfl : AV.sound (AV.agg [AV.int IntKind.i64 k1, AV.str a1, AV.str b1, AV.str c1]) = true) <| .cons H1 <| .cons (by kernel_rfl : AV.sound (AV.agg [AV.int IntKind.u16 (Int.ofNat 0), AV.int IntKind.u16 (Int.ofNat 0), AV.int IntKind.u16 (Int.ofNat 0)]) = true) <| .cons (by kernel_rfl : AV.agg [AV.int IntKind.u16 (Int.ofNat 0), AV.int IntKind.u16 (Int.ofNat 0), AV.int IntKind.u16 (Int.ofNat 0)] = AV.agg [AV.int IntKind.u16 (Int.ofNat 0), AV.int IntKind.u16 (Int.ofNat 0), AV.int IntKind.u16 (Int.ofNat 0)]) <| .cons (by kernel_rfl : AV.sound (AV.agg [AV.int IntKind.i64 k2, AV.str a2, AV.str b2, AV.str c2]) = true) <| .cons H3 <| .cons (by kernel_rfl : AV.sound (AV.agg [AV.int IntKind.i64 k2, AV.str a2, AV.str b2, AV.str c2]) = true) <| .cons H10 <| .cons (by kernel_rfl : AV.sound (AV.agg [AV.int IntKind.u16 (Int.ofNat 0), AV.int IntKind.u16 (Int.ofNat 0), AV.int IntKind.u16 (Int.ofNat 0)]) = true) <| .cons (by kernel_rfl : AV.agg [AV.int IntKind.u16 (Int.ofNat 0), AV.int IntKind.u16 (Int.ofNat 0), AV.int IntKind.u16 (Int.ofNat 0)] = AV.agg [AV.int IntKind.u16 (Int.ofNat 0), AV.int IntKind.u16 (Int.ofNat 0), AV.int IntKind.u16 (Int.ofNat 0)]) <| .cons (by kernel_rfl : AV.sound (AV.agg [AV.int IntKind.u16 (Int.ofNat 0), AV.int IntKind.u16 (Int.ofNat 0), AV.int IntKind.u16 (Int.ofNat 0)]) = true) <| .cons (by kernel_rfl : AV.agg [AV.int IntKind.u16 (Int.ofNat 0), AV.int IntKind.u16 (Int.ofNat 0), AV.int IntKind.u16 (Int.ofNat 0)] = AV.agg [AV.int IntKind.u16 (Int.ofNat 0), AV.int IntKind.u16 (Int.ofNat 0), AV.int IntKind.u16 (Int.ofNat 0)]) <| .cons H11 <| .cons H5 <| .cons H11 <| .cons H12 <| .cons H11 <| .cons H13 <| .nil
theorem mb7sn (call : CallT → List AV → AHeap → FRes) (r : Nat) (c n : Int) (t u : List UInt8) (p1 n1 : Nat) (q1 : Cap) (h g g_1 : AHeap)
    (H1 : call (.fn 35) [.str u] h = FRes.ret (.tup [.agg [.int .i64 c, .str t, .slice p1 0 n1 q1, .nilS, .int .u64 n], .int .i64 (.ofNat 0)]) g)
    (H2 : AEv.storeCells (AHeap.push g (.cells [.int .i64 (.ofNat 0), .str [], .nilS, .nilS, .int .u64 (.ofNat 0)] 54 .own 0 0)) (AHeap.n g) 0 [.int .i64 c, .str t, .slice p1 0 n1 q1, .nilS, .int .u64 n] = some g_1) :
    RunF Try.prog Try.f11 none call [1, 1, 1, 1, 1, 1, 1, 0] (SSt.mk [(5, .ptr r 0), (13, .str u)] [] .none h) (.nrm)
      (SSt.mk [(5, .ptr r 0), (14, .ptr (AHeap.n g) 0), (15, .int .i64 (.ofNat 0))] [] .none g_1) :=
  sxF_run [5, 14, 15] (hs := [.c (.tup [.agg [.int .i64 c, .str t, .slice p1 0 n1 q1, .nilS, .int .u64 n], .int .i64 (.ofNat 0)]) g, .vh (.tup []) g_1]) (by kernel_rfl) <| .cons H1 <| .cons (⟨by kernel_rfl, H2, rfl⟩ : some 5 = some 5 ∧ AEv.storeCells (AHeap.push g (AObj.cells [AV.int IntKind.i64 (Int.ofNat 0), AV.str [], AV.nilS, AV.nilS, AV.int IntKind.u64 (Int.ofNat 0)] 54 BK.own 0 0)) (AHeap.n g) 0 [AV.int IntKind.i64 c, AV.str t, AV.slice p1 0 n1 q1, AV.nilS, AV.int IntKind.u64 n] = some g_1 ∧ AV.tup [] = AV.tup []) <| .nil
theorem mb0ns (call : CallT → List AV → AHeap → FRes) (c n : Int) (t : List UInt8) (p2 n2 : Nat) (q2 : Cap) (k1 : Int) (a1 b1 c1 : List UInt8) (k2 : Int) (a2 b2 c2 : List UInt8) (h : AHeap) :
    RunF Try.prog Try.f11 none call [0] (SSt.mk [(0, .agg [.int .i64 k1, .str a1, .str b1, .str c1]), (1, .agg [.int .i64 k2, .str a2, .str b2, .str c2]), (2, .agg [.int .i64 c, .str t, .nilS, .slice p2 0 n2 q2, .int .u64 n])] [] .none h) (.nrm)
      (SSt.mk [(3, .ptr (AHeap.n h) 0), (4, .ptr (AHeap.n (AHeap.push h (.cells [.int .i64 k1, .str a1, .str b1, .str c1] 42 .own 0 0))) 0), (5, .ptr (AHeap.n (AHeap.push (AHeap.push h (.cells [.int .i64 k1, .str a1, .str b1, .str c1] 42 .own 0 0)) (.cells [.int .i64 k2, .str a2, .str b2, .str c2] 42 .own 0 0))) 0)] [] .none (AHeap.push (AHeap.push (AHeap.push h (.cells [.int .i64 k1, .str a1, .str b1, .str c1] 42 .own 0 0)) (.cells [.int .i64 k2, .str a2, .str b2, .str c2] 42 .own 0 0)) (.cells [.int .i64 c, .str t, .nilS, .slice p2 0 n2 q2, .int .u64 n] 54 .own 0 0))) :=
  sxF_run [3, 4, 5] (hs := []) (by kernel_rfl) <| .nil
theorem mb1ns (call : CallT → List AV → AHeap → FRes) (p q r : Nat) (c n : Int) (t : List UInt8) (p2 n2 : Nat) (q2 : Cap) (k1 : Int) (a1 b1 c1 : List UInt8) (k2 : Int) (a2 b2 c2 : List UInt8) (k3 : Int) (a3 b3 c3 : List UInt8) (k4 : Int) (a4 b4 c4 : List UInt8) (vs : List AV) (h g1 g2 g3 g_1 g_2 g_3 : AHeap)
    (H1 : AEv.loadCells (AHeap.room h 11) p 0 4 = some [.int .i64 k1, .str a1, .str b1, .str c1])
    (H2 : call (.fn 27) [.agg [.int .i64 k1, .str a1, .str b1, .str c1], .agg [.int .u16 (.ofNat 0), .int .u16 (.ofNat 0), .int .u16 (.ofNat 0)]] (AHeap.room h 11) = FRes.ret (.agg [.int .i64 k3, .str a3, .str b3, .str c3]) g1)
    (H3 : AEv.loadCells g1 q 0 4 = some [.int .i64 k2, .str a2, .str b2, .str c2])
    (H4 : call (.fn 27) [.agg [.int .i64 k2, .str a2, .str b2, .str c2], .agg [.int .u16 (.ofNat 0), .int .u16 (.ofNat 0), .int .u16 (.ofNat 0)]] g1 = FRes.ret (.agg [.int .i64 k4, .str a4, .str b4, .str c4]) g2)
    (H5 : AEv.loadCells g2 r 0 5 = some vs)
    (H6 : call (.fn 38) [.agg vs] g2 = FRes.ret (.agg [.int .i64 c, .str t, .nilS, .slice p2 0 n2 q2, .int .u64 n]) g3)
    (H7 : AEv.storeCells g3 p 0 [.int .i64 k3, .str a3, .str b3, .str c3] = some g_1)
    (H8 : AEv.storeCells g_1 q 0 [.int .i64 k4, .str a4, .str b4, .str c4] = some g_2)
    (H9 : AEv.storeCells g_2 r 0 [.int .i64 c, .str t, .nilS, .slice p2 0 n2 q2, .int .u64 n] = some g_3)
    (H10 : AEv.loadCells (AHeap.room h 11) q 0 4 = some [.int .i64 k2, .str a2, .str b2, .str c2])
    (H11 : AV.sound (AV.agg vs) = true)
    (H12 : AEv.loadCells g1 r 0 5 = some vs)
    (H13 : AEv.loadCells (AHeap.room h 11) r 0 5 = some vs) :
    RunF Try.prog Try.f11 none call [1, 0] (SSt.mk [(3, .ptr p 0), (4, .ptr q 0), (5, .ptr r 0)] [] .none h) (.nrm)
      (SSt.mk [(3, .ptr p 0), (4, .ptr q 0), (5, .ptr r 0)] [] .none g_3) :=
  sxF_run [3, 4, 5] (hs := [.v (.agg [.int .i64 k1, .str a1, .str b1, .str c1]), .c (.agg [.int .i64 k3, .str a3, .str b3, .str c3]) g1, .v (.agg [.int .i64 k2, .str a2, .str b2, .str c2]), .c (.agg [.int .i64 k4, .str a4, .str b4, .str c4]) g2, .v (.agg vs), .c (.agg [.int .i64 c, .str t, .nilS, .slice p2 0 n2 q2, .int .u64 n]) g3, .vh (.tup []) g_1, .vh (.tup []) g_2, .vh (.tup []) g_3]) (by kernel_rfl) <| .cons H1 <| .cons H2 <| .cons H3 <| .cons H4 <| .cons H5 <| .cons H6 <| .cons (⟨by kernel_rfl, H7, rfl⟩ : some 4 = some 4 ∧ AEv.storeCells g3 p 0 [AV.int IntKind.i64 k3, AV.str a3, AV.str b3, AV.str c3] = some g_1 ∧ AV.tup [] = AV.tup []) <| .cons (⟨by kernel_rfl, H8, rfl⟩ : some 4 = some 4 ∧ AEv.storeCells g_1 q 0 [AV.int IntKind.i64 k4, AV.str a4, AV.str b4, AV.str c4] = some g_2 ∧ AV.tup [] = AV.tup []) <| .cons (⟨by kernel_rfl, H9, rfl⟩ : some 5 = some 5 ∧ AEv.storeCells g_2 r 0 [AV.int IntKind.i64 c, AV.str t, AV.nilS, AV.slice p2 0 n2 q2, AV.int IntKind.u64 n] = some g_3 ∧ AV.tup [] = AV.tup []) <| .cons (by kernel_rfl : AV.sound (AV.agg [AV.int IntKind.i64 k1, AV.str a1, AV.str b1, AV.str c1]) = true) <| .cons H1 <| .cons (by kernel_rfl : AV.sound (AV.agg [AV.int IntKind.u16 (Int.ofNat 0), AV.int IntKind.u16 (Int.ofNat 0), AV.int IntKind.u16 (Int.ofNat 0)]) = true) <| .cons (by kernel_rfl : AV.agg [AV.int IntKind.u16 (Int.ofNat 0), AV.int IntKind.u16 (Int.ofNat 0), AV.int IntKind.u16 (Int.ofNat 0)] = AV.agg [AV.int IntKind.u16 (Int.ofNat 0), AV.int IntKind.u16 (Int.ofNat 0), AV.int IntKind.u16 (Int.ofNat 0)]) <| .cons (by kernel_rfl : AV.sound (AV.agg [AV.int IntKind.i64 k2, AV.str a2, AV.str b2, AV.str c2]) = true) <| .cons H3 <| .cons (by kernel_rfl : AV.sound (AV.agg [AV.int IntKind.i64 k2, AV.str a2, AV.str b2, AV.str c2]) = true) <| .cons H10 <| .cons (by kernel_rfl : AV.sound (AV.agg [AV.int IntKind.u16 (Int.ofNat 0), AV.int IntKind.u16 (Int.ofNat 0), AV.int IntKind.u16 (Int.ofNat 0)]) = true) <| .cons (by kernel_rfl : AV.agg [AV.int IntKind.u16 (Int.ofNat 0), AV.int IntKind.u16 (Int.ofNat 0), AV.int IntKind.u16 (Int.ofNat 0)] = AV.agg [AV.int IntKind.u16 (Int.ofNat 0), AV.int IntKind.u16 (Int.ofNat 0), AV.int IntKind.u16 (Int.ofNat 0)]) <| .cons (by kernel_rfl : AV.sound (AV.agg [AV.int IntKind.u16 (Int.ofNat 0), AV.int IntKind.u16 (Int.ofNat 0), AV.int IntKind.u16 (Int.ofNat 0)]) = true) <| .cons (by kernel_rfl : AV.agg [AV.int IntKind.u16 (Int.ofNat 0), AV.int IntKind.u16 (Int.ofNat 0), AV.int IntKind.u16 (Int.ofNat 0)] = AV.agg [AV.int IntKind.u16 (Int.ofNat 0), AV.int IntKind.u16 (Int.ofNat 0), AV.int IntKind.u16 (Int.ofNat 0)]) <| .cons H11 <| .cons H5 <| .cons H11 <| .cons H12 <| .cons H11 <| .cons H13 <| .nil
theorem mb7ns (call : CallT → List AV → AHeap → FRes) (r : Nat) (c n : Int) (t u : List UInt8) (p2 n2 : Nat) (q2 : Cap) (h g g_1 : AHeap)
    (H1 : call (.fn 35) [.str u] h = FRes.ret (.tup [.agg [.int .i64 c, .str t, .nilS, .slice p2 0 n2 q2, .int .u64 n], .int .i64 (.ofNat 0)]) g)
    (H2 : AEv.storeCells (AHeap.push g (.cells [.int .i64 (.ofNat 0), .str [], .nilS, .nilS, .int .u64 (.ofNat 0)] 54 .own 0 0)) (AHeap.n g) 0 [.int .i64 c, .str t, .nilS, .slice p2 0 n2 q2, .int .u64 n] = some g_1) :
    RunF Try.prog Try.f11 none call [1, 1, 1, 1, 1, 1, 1, 0] (SSt.mk [(5, .ptr r 0), (13, .str u)] [] .none h) (.nrm)
      (SSt.mk [(5, .ptr r 0), (14, .ptr (AHeap.n g) 0), (15, .int .i64 (.ofNat 0))] [] .none g_1) :=
  sxF_run [5, 14, 15] (hs := [.c (.tup [.agg [.int .i64 c, .str t, .nilS, .slice p2 0 n2 q2, .int .u64 n], .int .i64 (.ofNat 0)]) g, .vh (.tup []) g_1]) (by kernel_rfl) <| .cons H1 <| .cons (⟨by kernel_rfl, H2, rfl⟩ : some 5 = some 5 ∧ AEv.storeCells (AHeap.push g (AObj.cells [AV.int IntKind.i64 (Int.ofNat 0), AV.str [], AV.nilS, AV.nilS, AV.int IntKind.u64 (Int.ofNat 0)] 54 BK.own 0 0)) (AHeap.n g) 0 [AV.int IntKind.i64 c, AV.str t, AV.nilS, AV.slice p2 0 n2 q2, AV.int IntKind.u64 n] = some g_1 ∧ AV.tup [] = AV.tup []) <| .nil
theorem mb0nn (call : CallT → List AV → AHeap → FRes) (c n : Int) (t : List UInt8) (k1 : Int) (a1 b1 c1 : List UInt8) (k2 : Int) (a2 b2 c2 : List UInt8) (h : AHeap) :
    RunF Try.prog Try.f11 none call [0] (SSt.mk [(0, .agg [.int .i64 k1, .str a1, .str b1, .str c1]), (1, .agg [.int .i64 k2, .str a2, .str b2, .str c2]), (2, .agg [.int .i64 c, .str t, .nilS, .nilS, .int .u64 n])] [] .none h) (.nrm)
      (SSt.mk [(3, .ptr (AHeap.n h) 0), (4, .ptr (AHeap.n (AHeap.push h (.cells [.int .i64 k1, .str a1, .str b1, .str c1] 42 .own 0 0))) 0), (5, .ptr (AHeap.n (AHeap.push (AHeap.push h (.cells [.int .i64 k1, .str a1, .str b1, .str c1] 42 .own 0 0)) (.cells [.int .i64 k2, .str a2, .str b2, .str c2] 42 .own 0 0))) 0)] [] .none (AHeap.push (AHeap.push (AHeap.push h (.cells [.int .i64 k1, .str a1, .str b1, .str c1] 42 .own 0 0)) (.cells [.int .i64 k2, .str a2, .str b2, .str c2] 42 .own 0 0)) (.cells [.int .i64 c, .str t, .nilS, .nilS, .int .u64 n] 54 .own 0 0))) :=
  sxF_run [3, 4, 5] (hs := []) (by kernel_rfl) <| .nil
theorem mb1nn (call : CallT → List AV → AHeap → FRes) (p q r : Nat) (c n : Int) (t : List UInt8) (k1 : Int) (a1 b1 c1 : List UInt8) (k2 : Int) (a2 b2 c2 : List UInt8) (k3 : Int) (a3 b3 c3 : List UInt8) (k4 : Int) (a4 b4 c4 : List UInt8) (vs : List AV) (h g1 g2 g3 g_1 g_2 g_3 : AHeap)
    (H1 : AEv.loadCells (AHeap.room h 11) p 0 4 = some [.int .i64 k1, .str a1, .str b1, .str c1])
    (H2 : call (.fn 27) [.agg [.int .i64 k1, .str a1, .str b1, .str c1], .agg [.int .u16 (.ofNat 0), .int .u16 (.ofNat 0), .int .u16 (.ofNat 0)]] (AHeap.room h 11) = FRes.ret (.agg [.int .i64 k3, .str a3, .str b3, .str c3]) g1)
    (H3 : AEv.loadCells g1 q 0 4 = some [.int .i64 k2, .str a2, .str b2, .str c2])
    (H4 : call (.fn 27) [.agg [.int .i64 k2, .str a2, .str b2, .str c2], .agg [.int .u16 (.ofNat 0), .int .u16 (.ofNat 0), .int .u16 (.ofNat 0)]] g1 = FRes.ret (.agg [.int .i64 k4, .str a4, .str b4, .str c4]) g2)
    (H5 : AEv.loadCells g2 r 0 5 = some vs)
    (H6 : call (.fn 38) [.agg vs] g2 = FRes.ret (.agg [.int .i64 c, .str t, .nilS, .nilS, .int .u64 n]) g3)
    (H7 : AEv.storeCells g3 p 0 [.int .i64 k3, .str a3, .str b3, .str c3] = some g_1)
    (H8 : AEv.storeCells g_1 q 0 [.int .i64 k4, .str a4, .str b4, .str c4] = some g_2)
    (H9 : AEv.storeCells g_2 r 0 [.int .i64 c, .str t, .nilS, .nilS, .int .u64 n] = some g_3)
    (H10 : AEv.loadCells (AHeap.room h 11) q 0 4 = some [.int .i64 k2, .str a2, .str b2, .str c2])
    (H11 : AV.sound (AV.agg vs) = true)
    (H12 : AEv.loadCells g1 r 0 5 = some vs)
    (H13 : AEv.loadCells (AHeap.room h 11) r 0 5 = some vs) :
    RunF Try.prog Try.f11 none call [1, 0] (SSt.mk [(3, .ptr p 0), (4, .ptr q 0), (5, .ptr r 0)] [] .none h) (.nrm)
      (SSt.mk [(3, .ptr p 0), (4, .ptr q 0), (5, .ptr r 0)] [] .none g_3) :=
  sxF_run [3, 4, 5] (hs := [.v (.agg [.int .i64 k1, .str a1, .str b1, .str c1]), .c (.agg [.int .i64 k3, .str a3, .str b3, .str c3]) g1, .v (.agg [.int .i64 k2, .str a2, .str b2, .str c2]), .c (.agg [.int .i64 k4, .str a4, .str b4, .str c4]) g2, .v (.agg vs), .c (.agg [.int .i64 c, .str t, .nilS, .nilS, .int .u64 n]) g3, .vh (.tup []) g_1, .vh (.tup []) g_2, .vh (.tup []) g_3]) (by kernel_rfl) <| .cons H1 <| .cons H2 <| .cons H3 <| .cons H4 <| .cons H5 <| .cons H6 <| .cons (⟨by kernel_rfl, H7, rfl⟩ : some 4 = some 4 ∧ AEv.storeCells g3 p 0 [AV.int IntKind.i64 k3, AV.str a3, AV.str b3, AV.str c3] = some g_1 ∧ AV.tup [] = AV.tup []) <| .cons (⟨by kernel_rfl, H8, rfl⟩ : some 4 = some 4 ∧ AEv.storeCells g_1 q 0 [AV.int IntKind.i64 k4, AV.str a4, AV.str b4, AV.str c4] = some g_2 ∧ AV.tup [] = AV.tup []) <| .cons (⟨by kernel_rfl, H9, rfl⟩ : some 5 = some 5 ∧ AEv.storeCells g_2 r 0 [AV.int IntKind.i64 c, AV.str t, AV.nilS, AV.nilS, AV.int IntKind.u64 n] = some g_3 ∧ AV.tup [] = AV.tup []) <| .cons (by kernel_rfl : AV.sound (AV.agg [AV.int IntKind.i64 k1, AV.str a1, AV.str b1, AV.str c1]) = true) <| .cons H1 <| .cons (by kernel_rfl : AV.sound (AV.agg [AV.int IntKind.u16 (Int.ofNat 0), AV.int IntKind.u16 (Int.ofNat 0), AV.int IntKind.u16 (Int.ofNat 0)]) = true) <| .cons (by kernel_rfl : AV.agg [AV.int IntKind.u16 (Int.ofNat 0), AV.int IntKind.u16 (Int.ofNat 0), AV.int IntKind.u16 (Int.ofNat 0)] = AV.agg [AV.int IntKind.u16 (Int.ofNat 0), AV.int IntKind.u16 (Int.ofNat 0), AV.int IntKind.u16 (Int.ofNat 0)]) <| .cons (by kernel_rfl : AV.sound (AV.agg [AV.int IntKind.i64 k2, AV.str a2, AV.str b2, AV.str c2]) = true) <| .cons H3 <| .cons (by kernel_rfl : AV.sound (AV.agg [AV.int IntKind.i64 k2, AV.str a2, AV.str b2, AV.str c2]) = true) <| .cons H10 <| .cons (by kernel_rfl : AV.sound (AV.agg [AV.int IntKind.u16 (Int.ofNat 0), AV.int IntKind.u16 (Int.ofNat 0), AV.int IntKind.u16 (Int.ofNat 0)]) = true) <| .cons (by kernel_rfl : AV.agg [AV.int IntKind.u16 (Int.ofNat 0), AV.int IntKind.u16 (Int.ofNat 0), AV.int IntKind.u16 (Int.ofNat 0)] = AV.agg [AV.int IntKind.u16 (Int.ofNat 0), AV.int IntKind.u16 (Int.ofNat 0), AV.int IntKind.u16 (Int.ofNat 0)]) <| .cons (by kernel_rfl : AV.sound (AV.agg [AV.int IntKind.u16 (Int.ofNat 0), AV.int IntKind.u16 (Int.ofNat 0), AV.int IntKind.u16 (Int.ofNat 0)]) = true) <| .cons (by kernel_rfl : AV.agg [AV.int IntKind.u16 (Int.ofNat 0), AV.int IntKind.u16 (Int.ofNat 0), AV.int IntKind.u16 (Int.ofNat 0)] = AV.agg [AV.int IntKind.u16 (Int.ofNat 0), AV.int IntKind.u16 (Int.ofNat 0), AV.int IntKind.u16 (Int.ofNat 0)]) <| .cons H11 <| .cons H5 <| .cons H11 <| .cons H12 <| .cons H11 <| .cons H13 <| .nil
theorem mb7nn (call : CallT → List AV → AHeap → FRes) (r : Nat) (c n : Int) (t u : List UInt8) (h g g_1 : AHeap)
    (H1 : call (.fn 35) [.str u] h = FRes.ret (.tup [.agg [.int .i64 c, .str t, .nilS, .nilS, .int .u64 n], .int .i64 (.ofNat 0)]) g)
    (H2 : AEv.storeCells (AHeap.push g (.cells [.int .i64 (.ofNat 0), .str [], .nilS, .nilS, .int .u64 (.ofNat 0)] 54 .own 0 0)) (AHeap.n g) 0 [.int .i64 c, .str t, .nilS, .nilS, .int .u64 n] = some g_1) :
    RunF Try.prog Try.f11 none call [1, 1, 1, 1, 1, 1, 1, 0] (SSt.mk [(5, .ptr r 0), (13, .str u)] [] .none h) (.nrm)
      (SSt.mk [(5, .ptr r 0), (14, .ptr (AHeap.n g) 0), (15, .int .i64 (.ofNat 0))] [] .none g_1) :=
  sxF_run [5, 14, 15] (hs := [.c (.tup [.agg [.int .i64 c, .str t, .nilS, .nilS, .int .u64 n], .int .i64 (.ofNat 0)]) g, .vh (.tup []) g_1]) (by kernel_rfl) <| .cons H1 <| .cons (⟨by kernel_rfl, H2, rfl⟩ : some 5 = some 5 ∧ AEv.storeCells (AHeap.push g (AObj.cells [AV.int IntKind.i64 (Int.ofNat 0), AV.str [], AV.nilS, AV.nilS, AV.int IntKind.u64 (Int.ofNat 0)] 54 BK.own 0 0)) (AHeap.n g) 0 [AV.int IntKind.i64 c, AV.str t, AV.nilS, AV.nilS, AV.int IntKind.u64 n] = some g_1 ∧ AV.tup [] = AV.tup []) <| .nil
theorem mb2 (call : CallT → List AV → AHeap → FRes) (p q r e : Nat) (s : List UInt8) (k1 : Int) (a1 b1 c1 : List UInt8) (h g : AHeap)
    (H1 : AEv.loadCells h p 0 4 = some [.int .i64 k1, .str a1, .str b1, .str c1])
    (H2 : call (.fn 28) [.agg [.int .i64 k1, .str a1, .str b1, .str c1]] h = FRes.ret (.tup [.str s, .int .i64 (.ofNat e)]) g) :
    RunF Try.prog Try.f11 none call [1, 1, 0] (SSt.mk [(3, .ptr p 0), (4, .ptr q 0), (5, .ptr r 0)] [] .none h) (.nrm)
      (SSt.mk [(3, .ptr p 0), (4, .ptr q 0), (5, .ptr r 0), (7, .str s), (8, .int .i64 (.ofNat e))] [] .none g) :=
  sxF_run [3, 4, 5, 7, 8] (hs := [.v (.agg [.int .i64 k1, .str a1, .str b1, .str c1]), .c (.tup [.str s, .int .i64 (.ofNat e)]) g]) (by kernel_rfl) <| .cons H1 <| .cons H2 <| .nil
theorem mb3 (call : CallT → List AV → AHeap → FRes) (p q r e f : Nat) (s t : List UInt8) (k1 : Int) (a1 b1 c1 : List UInt8) (h g : AHeap)
    (H1 : AEv.loadCells h q 0 4 = some [.int .i64 k1, .str a1, .str b1, .str c1])
    (H2 : call (.fn 28) [.agg [.int .i64 k1, .str a1, .str b1, .str c1]] h = FRes.ret (.tup [.str t, .int .i64 (.ofNat f)]) g) :
    RunF Try.prog Try.f11 none call [1, 1, 1, 0] (SSt.mk [(3, .ptr p 0), (4, .ptr q 0), (5, .ptr r 0), (7, .str s), (8, .int .i64 (.ofNat e))] [] .none h) (.nrm)
      (SSt.mk [(3, .ptr p 0), (4, .ptr q 0), (5, .ptr r 0), (7, .str s), (8, .int .i64 (.ofNat e)), (9, .str t), (10, .int .i64 (.ofNat f))] [] .none g) :=
  sxF_run [3, 4, 5, 7, 8, 9, 10] (hs := [.v (.agg [.int .i64 k1, .str a1, .str b1, .str c1]), .c (.tup [.str t, .int .i64 (.ofNat f)]) g]) (by kernel_rfl) <| .cons H1 <| .cons H2 <| .nil
theorem mbe2 (call : CallT → List AV → AHeap → FRes) (p q r f : Nat) (s t : List UInt8) (h : AHeap) :
    RunF Try.prog Try.f11 none call [1, 1, 1, 1, 0] (SSt.mk [(3, .ptr p 0), (4, .ptr q 0), (5, .ptr r 0), (7, .str s), (8, .int .i64 (.ofNat 2)), (9, .str t), (10, .int .i64 (.ofNat f))] [] .none h) (.nrm)
      (SSt.mk [(5, .ptr r 0)] [] .none h) :=
  sxF_run [5] (hs := [.b false]) (by kernel_rfl) <| .cons (by kernel_rfl : eqI (Int.ofNat 2) (Int.ofNat 0) = false) <| .nil
theorem mbe3 (call : CallT → List AV → AHeap → FRes) (p q r f : Nat) (s t : List UInt8) (h : AHeap) :
    RunF Try.prog Try.f11 none call [1, 1, 1, 1, 0] (SSt.mk [(3, .ptr p 0), (4, .ptr q 0), (5, .ptr r 0), (7, .str s), (8, .int .i64 (.ofNat 3)), (9, .str t), (10, .int .i64 (.ofNat f))] [] .none h) (.nrm)
      (SSt.mk [(5, .ptr r 0)] [] .none h) :=
  sxF_run [5] (hs := [.b false]) (by kernel_rfl) <| .cons (by kernel_rfl : eqI (Int.ofNat 3) (Int.ofNat 0) = false) <| .nil
theorem mbf2 (call : CallT → List AV → AHeap → FRes) (p q r : Nat) (s t : List UInt8) (k1 : Int) (a1 b1 c1 : List UInt8) (h g g_1 : AHeap)
    (H1 : call (.fn 33) [.str s] h = FRes.ret (.tup [.agg [.int .i64 k1, .str a1, .str b1, .str c1], .int .i64 (.ofNat 0)]) g)
    (H2 : AEv.storeCells (AHeap.push g (.cells [.int .i64 (.ofNat 0), .str [], .str [], .str []] 42 .own 0 0)) (AHeap.n g) 0 [.int .i64 k1, .str a1, .str b1, .str c1] = some g_1)
    (H3 : AEv.loadCells g_1 (AHeap.n g) 0 4 = some [.int .i64 k1, .str a1, .str b1, .str c1])
    (H4 : AEv.loadCells g_1 p 0 4 = some [.int .i64 k1, .str a1, .str b1, .str c1])
    (H5 : binA Try.prog g_1 BinOp.neq 42 (Operand.tmp 44) (Operand.tmp 45) (AV.agg [AV.int IntKind.i64 k1, AV.str a1, AV.str b1, AV.str c1]) (AV.agg [AV.int IntKind.i64 k1, AV.str a1, AV.str b1, AV.str c1]) = some (AV.bool false)) :
    RunF Try.prog Try.f11 none call [1, 1, 1, 1, 0] (SSt.mk [(3, .ptr p 0), (4, .ptr q 0), (5, .ptr r 0), (7, .str s), (8, .int .i64 (.ofNat 0)), (9, .str t), (10, .int .i64 (.ofNat 2))] [] .none h) (.nrm)
      (SSt.mk [(5, .ptr r 0)] [] .none g_1) :=
  sxF_run [5] (hs := [.b true, .c (.tup [.agg [.int .i64 k1, .str a1, .str b1, .str c1], .int .i64 (.ofNat 0)]) g, .vh (.tup []) g_1, .b false, .v (.agg [.int .i64 k1, .str a1, .str b1, .str c1]), .b false, .v (.agg [.int .i64 k1, .str a1, .str b1, .str c1]), .b false, .v (.bool false), .b false, .b false, .b false, .b false, .b false, .b false, .b false, .b false, .b false, .b false, .b false, .b false, .b false, .b false, .b false]) (by kernel_rfl) <| .cons (by kernel_rfl : eqI (Int.ofNat 0) (Int.ofNat 0) = true) <| .cons H1 <| .cons (⟨by kernel_rfl, H2, rfl⟩ : some 4 = some 4 ∧ AEv.storeCells (AHeap.push g (AObj.cells [AV.int IntKind.i64 (Int.ofNat 0), AV.str [], AV.str [], AV.str []] 42 BK.own 0 0)) (AHeap.n g) 0 [AV.int IntKind.i64 k1, AV.str a1, AV.str b1, AV.str c1] = some g_1 ∧ AV.tup [] = AV.tup []) <| .cons (by kernel_rfl : (!eqI (Int.ofNat 0) (Int.ofNat 0)) = false) <| .cons H3 <| .cons (by kernel_rfl : (!eqI (Int.ofNat 0) (Int.ofNat 0)) = false) <| .cons H4 <| .cons (by kernel_rfl : (!eqI (Int.ofNat 0) (Int.ofNat 0)) = false) <| .cons H5 <| .cons (by kernel_rfl : (!eqI (Int.ofNat 0) (Int.ofNat 0)) = false) <| .cons (by kernel_rfl : false = false) <| .cons (by kernel_rfl : false = false) <| .cons (by kernel_rfl : false = false) <| .cons (by kernel_rfl : eqI (Int.ofNat 2) (Int.ofNat 0) = false) <| .cons (by kernel_rfl : eqI (Int.ofNat 2) (Int.ofNat 0) = false) <| .cons (by kernel_rfl : eqI (Int.ofNat 2) (Int.ofNat 0) = false) <| .cons (by kernel_rfl : eqI (Int.ofNat 2) (Int.ofNat 0) = false) <| .cons (by kernel_rfl : eqI (Int.ofNat 2) (Int.ofNat 0) = false) <| .cons (by kernel_rfl : eqI (Int.ofNat 2) (Int.ofNat 0) = false) <| .cons (by kernel_rfl : eqI (Int.ofNat 2) (Int.ofNat 0) = false) <| .cons (by kernel_rfl : false = false) <| .cons (by kernel_rfl : eqI (Int.ofNat 2) (Int.ofNat 0) = false) <| .cons (by kernel_rfl : false = false) <| .cons (by kernel_rfl : false = false) <| .nil
theorem mbf3 (call : CallT → List AV → AHeap → FRes) (p q r : Nat) (s t : List UInt8) (k1 : Int) (a1 b1 c1 : List UInt8) (h g g_1 : AHeap)
    (H1 : call (.fn 33) [.str s] h = FRes.ret (.tup [.agg [.int .i64 k1, .str a1, .str b1, .str c1], .int .i64 (.ofNat 0)]) g)
    (H2 : AEv.storeCells (AHeap.push g (.cells [.int .i64 (.ofNat 0), .str [], .str [], .str []] 42 .own 0 0)) (AHeap.n g) 0 [.int .i64 k1, .str a1, .str b1, .str c1] = some g_1)
    (H3 : AEv.loadCells g_1 (AHeap.n g) 0 4 = some [.int .i64 k1, .str a1, .str b1, .str c1])
    (H4 : AEv.loadCells g_1 p 0 4 = some [.int .i64 k1, .str a1, .str b1, .str c1])
    (H5 : binA Try.prog g_1 BinOp.neq 42 (Operand.tmp 44) (Operand.tmp 45) (AV.agg [AV.int IntKind.i64 k1, AV.str a1, AV.str b1, AV.str c1]) (AV.agg [AV.int IntKind.i64 k1, AV.str a1, AV.str b1, AV.str c1]) = some (AV.bool false)) :
    RunF Try.prog Try.f11 none call [1, 1, 1, 1, 0] (SSt.mk [(3, .ptr p 0), (4, .ptr q 0), (5, .ptr r 0), (7, .str s), (8, .int .i64 (.ofNat 0)), (9, .str t), (10, .int .i64 (.ofNat 3))] [] .none h) (.nrm)
      (SSt.mk [(5, .ptr r 0)] [] .none g_1) :=
  sxF_run [5] (hs := [.b true, .c (.tup [.agg [.int .i64 k1, .str a1, .str b1, .str c1], .int .i64 (.ofNat 0)]) g, .vh (.tup []) g_1, .b false, .v (.agg [.int .i64 k1, .str a1, .str b1, .str c1]), .b false, .v (.agg [.int .i64 k1, .str a1, .str b1, .str c1]), .b false, .v (.bool false), .b false, .b false, .b false, .b false, .b false, .b false, .b false, .b false, .b false, .b false, .b false, .b false, .b false, .b false, .b false]) (by kernel_rfl) <| .cons (by kernel_rfl : eqI (Int.ofNat 0) (Int.ofNat 0) = true) <| .cons H1 <| .cons (⟨by kernel_rfl, H2, rfl⟩ : some 4 = some 4 ∧ AEv.storeCells (AHeap.push g (AObj.cells [AV.int IntKind.i64 (Int.ofNat 0), AV.str [], AV.str [], AV.str []] 42 BK.own 0 0)) (AHeap.n g) 0 [AV.int IntKind.i64 k1, AV.str a1, AV.str b1, AV.str c1] = some g_1 ∧ AV.tup [] = AV.tup []) <| .cons (by kernel_rfl : (!eqI (Int.ofNat 0) (Int.ofNat 0)) = false) <| .cons H3 <| .cons (by kernel_rfl : (!eqI (Int.ofNat 0) (Int.ofNat 0)) = false) <| .cons H4 <| .cons (by kernel_rfl : (!eqI (Int.ofNat 0) (Int.ofNat 0)) = false) <| .cons H5 <| .cons (by kernel_rfl : (!eqI (Int.ofNat 0) (Int.ofNat 0)) = false) <| .cons (by kernel_rfl : false = false) <| .cons (by kernel_rfl : false = false) <| .cons (by kernel_rfl : false = false) <| .cons (by kernel_rfl : eqI (Int.ofNat 3) (Int.ofNat 0) = false) <| .cons (by kernel_rfl : eqI (Int.ofNat 3) (Int.ofNat 0) = false) <| .cons (by kernel_rfl : eqI (Int.ofNat 3) (Int.ofNat 0) = false) <| .cons (by kernel_rfl : eqI (Int.ofNat 3) (Int.ofNat 0) = false) <| .cons (by kernel_rfl : eqI (Int.ofNat 3) (Int.ofNat 0) = false) <| .cons (by kernel_rfl : eqI (Int.ofNat 3) (Int.ofNat 0) = false) <| .cons (by kernel_rfl : eqI (Int.ofNat 3) (Int.ofNat 0) = false) <| .cons (by kernel_rfl : false = false) <| .cons (by kernel_rfl : eqI (Int.ofNat 3) (Int.ofNat 0) = false) <| .cons (by kernel_rfl : false = false) <| .cons (by kernel_rfl : false = false) <| .nil
theorem mbg (call : CallT → List AV → AHeap → FRes) (p q r : Nat) (s t : List UInt8) (w : Bool) (k1 : Int) (a1 b1 c1 : List UInt8) (k2 : Int) (a2 b2 c2 : List UInt8) (h g g_1 : AHeap)
    (H1 : call (.fn 33) [.str s] h = FRes.ret (.tup [.agg [.int .i64 k1, .str a1, .str b1, .str c1], .int .i64 (.ofNat 0)]) g)
    (H2 : AEv.storeCells (AHeap.push g (.cells [.int .i64 (.ofNat 0), .str [], .str [], .str []] 42 .own 0 0)) (AHeap.n g) 0 [.int .i64 k1, .str a1, .str b1, .str c1] = some g_1)
    (H3 : AEv.loadCells g_1 (AHeap.n g) 0 4 = some [.int .i64 k1, .str a1, .str b1, .str c1])
    (H4 : AEv.loadCells g_1 p 0 4 = some [.int .i64 k1, .str a1, .str b1, .str c1])
    (H5 : binA Try.prog g_1 BinOp.neq 42 (Operand.tmp 44) (Operand.tmp 45) (AV.agg [AV.int IntKind.i64 k1, AV.str a1, AV.str b1, AV.str c1]) (AV.agg [AV.int IntKind.i64 k1, AV.str a1, AV.str b1, AV.str c1]) = some (AV.bool false))
    (H6 : AEv.loadCells g_1 q 0 4 = some [.int .i64 k2, .str a2, .str b2, .str c2])
    (H7 : binA Try.prog g_1 BinOp.eql 42 (Operand.tmp 55) (Operand.tmp 56) (AV.agg [AV.int IntKind.i64 k1, AV.str a1, AV.str b1, AV.str c1]) (AV.agg [AV.int IntKind.i64 k2, AV.str a2, AV.str b2, AV.str c2]) = some (AV.bool w))
    (H8 : binA Try.prog g_1 BinOp.neq 4 (Operand.tmp 54) (Operand.tmp 57) (AV.bool (beqBytes s t)) (AV.bool w) = some (AV.bool false)) :
    RunF Try.prog Try.f11 none call [1, 1, 1, 1, 0] (SSt.mk [(3, .ptr p 0), (4, .ptr q 0), (5, .ptr r 0), (7, .str s), (8, .int .i64 (.ofNat 0)), (9, .str t), (10, .int .i64 (.ofNat 0))] [] .none h) (.nrm)
      (SSt.mk [(5, .ptr r 0)] [] .none g_1) :=
  sxF_run [5] (hs := [.b true, .c (.tup [.agg [.int .i64 k1, .str a1, .str b1, .str c1], .int .i64 (.ofNat 0)]) g, .vh (.tup []) g_1, .b false, .v (.agg [.int .i64 k1, .str a1, .str b1, .str c1]), .b false, .v (.agg [.int .i64 k1, .str a1, .str b1, .str c1]), .b false, .v (.bool false), .b false, .b false, .b false, .b false, .b true, .b true, .b true, .b true, .v (.agg [.int .i64 k1, .str a1, .str b1, .str c1]), .b true, .v (.agg [.int .i64 k2, .str a2, .str b2, .str c2]), .b true, .v (.bool w), .b true, .v (.bool false), .b false, .b true, .b false, .b false]) (by kernel_rfl) <| .cons (by kernel_rfl : eqI (Int.ofNat 0) (Int.ofNat 0) = true) <| .cons H1 <| .cons (⟨by kernel_rfl, H2, rfl⟩ : some 4 = some 4 ∧ AEv.storeCells (AHeap.push g (AObj.cells [AV.int IntKind.i64 (Int.ofNat 0), AV.str [], AV.str [], AV.str []] 42 BK.own 0 0)) (AHeap.n g) 0 [AV.int IntKind.i64 k1, AV.str a1, AV.str b1, AV.str c1] = some g_1 ∧ AV.tup [] = AV.tup []) <| .cons (by kernel_rfl : (!eqI (Int.ofNat 0) (Int.ofNat 0)) = false) <| .cons H3 <| .cons (by kernel_rfl : (!eqI (Int.ofNat 0) (Int.ofNat 0)) = false) <| .cons H4 <| .cons (by kernel_rfl : (!eqI (Int.ofNat 0) (Int.ofNat 0)) = false) <| .cons H5 <| .cons (by kernel_rfl : (!eqI (Int.ofNat 0) (Int.ofNat 0)) = false) <| .cons (by kernel_rfl : false = false) <| .cons (by kernel_rfl : false = false) <| .cons (by kernel_rfl : false = false) <| .cons (by kernel_rfl : eqI (Int.ofNat 0) (Int.ofNat 0) = true) <| .cons (by kernel_rfl : eqI (Int.ofNat 0) (Int.ofNat 0) = true) <| .cons (by kernel_rfl : eqI (Int.ofNat 0) (Int.ofNat 0) = true) <| .cons (by kernel_rfl : eqI (Int.ofNat 0) (Int.ofNat 0) = true) <| .cons H4 <| .cons (by kernel_rfl : eqI (Int.ofNat 0) (Int.ofNat 0) = true) <| .cons H6 <| .cons (by kernel_rfl : eqI (Int.ofNat 0) (Int.ofNat 0) = true) <| .cons H7 <| .cons (by kernel_rfl : eqI (Int.ofNat 0) (Int.ofNat 0) = true) <| .cons H8 <| .cons (by kernel_rfl : false = false) <| .cons (by kernel_rfl : eqI (Int.ofNat 0) (Int.ofNat 0) = true) <| .cons (by kernel_rfl : false = false) <| .cons (by kernel_rfl : false = false) <| .nil
theorem mb5 (call : CallT → List AV → AHeap → FRes) (r : Nat) (u : List UInt8) (vs : List AV) (h g : AHeap)
    (H1 : AEv.loadCells h r 0 5 = some vs)
    (H2 : call (.fn 39) [.agg vs] h = FRes.ret (.str u) g) :
    RunF Try.prog Try.f11 none call [1, 1, 1, 1, 1, 0] (SSt.mk [(5, .ptr r 0)] [] .none h) (.nrm)
      (SSt.mk [(5, .ptr r 0), (13, .str u)] [] .none g) :=
  sxF_run [5, 13] (hs := [.v (.agg vs), .c (.str u) g]) (by kernel_rfl) <| .cons H1 <| .cons H2 <| .nil
theorem mb6_5 (call : CallT → List AV → AHeap → FRes) (r : Nat) (u : List UInt8) (c : Int) (h g : AHeap)
    (H1 : load1 h r (0 + 0) = some (.int .i64 c))
    (H2 : ltI c (.ofNat 0) = false)
    (H3 : ltI (.ofNat 14) c = false) :
    RunF Try.prog Try.f11 none call [1, 1, 1, 1, 1, 1, 0] (SSt.mk [(5, .ptr r 0), (13, .str u)] [] .none h) (.nrm)
      (SSt.mk [(5, .ptr r 0), (13, .str u)] [] .none h) :=
  sxF_run [5, 13] (hs := [.v (.int .i64 c), .b false, .b false, .v (.int .i64 c), .b false, .b false, .b false]) (by kernel_rfl) <| .cons H1 <| .cons H2 <| .cons H2 <| .cons H1 <| .cons H2 <| .cons H2 <| .cons H3 <| .nil
theorem mb6e_1 (call : CallT → List AV → AHeap → FRes) (r : Nat) (c : Int) (h g : AHeap)
    (H1 : load1 h r (0 + 0) = some (.int .i64 c))
    (H2 : ltI c (.ofNat 0) = true)
    (H3 : call (.fn 32) [] h = FRes.ret (.bool true) g) :
    RunF Try.prog Try.f11 none call [1, 1, 1, 1, 1, 1, 0] (SSt.mk [(5, .ptr r 0), (13, .str [])] [] .none h) (.ret)
      (SSt.mk [(6, .bool true)] [] .none g) :=
  sxF_run [6] (hs := [.v (.int .i64 c), .b true, .b true, .b true, .b true, .b true, .b true, .c (.bool true) g, .b true]) (by kernel_rfl) <| .cons H1 <| .cons H2 <| .cons H2 <| .cons H2 <| .cons H2 <| .cons (by kernel_rfl : true = true) <| .cons (by kernel_rfl : beqBytes [] [] = true) <| .cons H3 <| .cons (by kernel_rfl : beqBytes [] [] = true) <| .nil
theorem mb6e_2 (call : CallT → List AV → AHeap → FRes) (r : Nat) (c : Int) (h g : AHeap)
    (H1 : load1 h r (0 + 0) = some (.int .i64 c))
    (H2 : ltI c (.ofNat 0) = false)
    (H3 : ltI (.ofNat 14) c = true)
    (H4 : call (.fn 32) [] h = FRes.ret (.bool true) g) :
    RunF Try.prog Try.f11 none call [1, 1, 1, 1, 1, 1, 0] (SSt.mk [(5, .ptr r 0), (13, .str [])] [] .none h) (.ret)
      (SSt.mk [(6, .bool true)] [] .none g) :=
  sxF_run [6] (hs := [.v (.int .i64 c), .b false, .b false, .v (.int .i64 c), .b false, .b false, .b true, .b true, .c (.bool true) g, .b true]) (by kernel_rfl) <| .cons H1 <| .cons H2 <| .cons H2 <| .cons H1 <| .cons H2 <| .cons H2 <| .cons H3 <| .cons (by kernel_rfl : beqBytes [] [] = true) <| .cons H4 <| .cons (by kernel_rfl : beqBytes [] [] = true) <| .nil
theorem mb8s (call : CallT → List AV → AHeap → FRes) (r y e p2 n2 : Nat) (q2 : Cap) (w : AV) (h g g_1 : AHeap)
    (H1 : load1 h r (0 + 3) = some w)
    (H2 : call (.fn 15) [w] h = FRes.ret (.slice p2 0 n2 q2) g)
    (H3 : AEv.storeCells g r (0 + 3) [.slice p2 0 n2 q2] = some g_1) :
    RunF Try.prog Try.f11 none call [1, 1, 1, 1, 1, 1, 1, 1, 0] (SSt.mk [(5, .ptr r 0), (14, .ptr y 0), (15, .int .i64 (.ofNat e))] [] .none h) (.nrm)
      (SSt.mk [(5, .ptr r 0), (14, .ptr y 0), (15, .int .i64 (.ofNat e))] [] .none g_1) :=
  sxF_run [5, 14, 15] (hs := [.v w, .c (.slice p2 0 n2 q2) g, .vh (.tup []) g_1]) (by kernel_rfl) <| .cons H1 <| .cons H2 <| .cons (⟨by kernel_rfl, H3, rfl⟩ : some 1 = some 1 ∧ AEv.storeCells g r (0 + 3) [AV.slice p2 0 n2 q2] = some g_1 ∧ AV.tup [] = AV.tup []) <| .nil
theorem mb8n (call : CallT → List AV → AHeap → FRes) (r y e : Nat) (w : AV) (h g g_1 : AHeap)
    (H1 : load1 h r (0 + 3) = some w)
    (H2 : call (.fn 15) [w] h = FRes.ret .nilS g)
    (H3 : AEv.storeCells g r (0 + 3) [.nilS] = some g_1) :
    RunF Try.prog Try.f11 none call [1, 1, 1, 1, 1, 1, 1, 1, 0] (SSt.mk [(5, .ptr r 0), (14, .ptr y 0), (15, .int .i64 (.ofNat e))] [] .none h) (.nrm)
      (SSt.mk [(5, .ptr r 0), (14, .ptr y 0), (15, .int .i64 (.ofNat e))] [] .none g_1) :=
  sxF_run [5, 14, 15] (hs := [.v w, .c .nilS g, .vh (.tup []) g_1]) (by kernel_rfl) <| .cons H1 <| .cons H2 <| .cons (⟨by kernel_rfl, H3, rfl⟩ : some 1 = some 1 ∧ AEv.storeCells g r (0 + 3) [AV.nilS] = some g_1 ∧ AV.tup [] = AV.tup []) <| .nil
theorem mb9 (call : CallT → List AV → AHeap → FRes) (r y : Nat) (vs ws : List AV) (h g1 g2 : AHeap)
    (H1 : AEv.loadCells h y 0 5 = some vs)
    (H2 : AEv.loadCells h r 0 5 = some ws)
    (H3 : call (.fn 41) [.agg vs, .agg ws] h = FRes.ret (.bool true) g1)
    (H4 : call (.fn 32) [] g1 = FRes.ret (.bool true) g2) :
    RunF Try.prog Try.f11 none call [1, 1, 1, 1, 1, 1, 1, 1, 1] (SSt.mk [(5, .ptr r 0), (14, .ptr y 0), (15, .int .i64 (.ofNat 0))] [] .none h) (.ret)
      (SSt.mk [(6, .bool true)] [] .none g2) :=
  sxF_run [6] (hs := [.b true, .v (.agg vs), .b true, .v (.agg ws), .b true, .c (.bool true) g1, .b true, .b true, .c (.bool true) g2, .b true]) (by kernel_rfl) <| .cons (by kernel_rfl : eqI (Int.ofNat 0) (Int.ofNat 0) = true) <| .cons H1 <| .cons (by kernel_rfl : eqI (Int.ofNat 0) (Int.ofNat 0) = true) <| .cons H2 <| .cons (by kernel_rfl : eqI (Int.ofNat 0) (Int.ofNat 0) = true) <| .cons H3 <| .cons (by kernel_rfl : eqI (Int.ofNat 0) (Int.ofNat 0) = true) <| .cons (by kernel_rfl : true = true) <| .cons H4 <| .cons (by kernel_rfl : true = true) <| .nil

/-! ### MsgBack: the plain law -/
theorem chk_len {k : Int} {a b c : List UInt8} (h : chkN k a b c = 0) : a.length ≤ 64 ∧ b.length ≤ 200 ∧ c.length ≤ 5000 := by
  have h3 : anyF (bad3 a b c) 3 0 = false := by
    cases hx : anyF (bad3 a b c) 3 0 with
    | false => rfl
    | true =>
      exfalso
      unfold chkN at h
      rw [hx] at h
      split at h
      · split at h
        · cases h
        · simp at h
      · cases h
  simp [anyF, bad3, sel3, ltI] at h3
  omega
theorem back_md {k : Int} {a b c : List UInt8} (h : chkN k a b c = 0) : mdV (encL k a b c) = rqV k a b c ∧ mdE (encL k a b c) = 0 ∧ (encL k a b c).length ≤ 70000 := by
  obtain ⟨n, rfl, n1, n9⟩ := chkN_0 h
  obtain ⟨l1, l2, l3⟩ := chk_len h
  have he : encL (Int.ofNat n) a b c = numL n ++ (textL a ++ (textL b ++ (textL c ++ []))) := by
    unfold encL
    rw [if_pos h, txF_3, List.append_nil]; rfl
  obtain ⟨q0, q1, q2, q3, q4⟩ := md_read (k := n) (a := a) (b := b) (c := c) (r := []) (by omega) (by omega) (by omega) (by omega)
  rw [← he] at q0 q1 q2 q3 q4
  have ok : mdOK (encL (Int.ofNat n) a b c) := by
    refine ⟨by rw [q4]; rfl, ?_⟩
    unfold mdC
    rw [q0, q1, q2, q3]; exact h
  refine ⟨by unfold mdV; rw [if_pos ok, q0, q1, q2, q3], by unfold mdE; rw [if_pos ok], ?_⟩
  have t1 := textL_len a
  have t2 := textL_len b
  have t3 := textL_len c
  have t4 := numL_len n
  rw [he]
  simp only [List.length_append, List.length_nil]
  omega
theorem eqR_self (k : Int) (a b c : List UInt8) : eqR k a b c k a b c = true := by simp [eqR, eqI_self, bbr]
theorem back_inj {k k' : Int} {a b c a' b' c' : List UInt8} (h : chkN k a b c = 0) (h' : chkN k' a' b' c' = 0) : beqBytes (encL k a b c) (encL k' a' b' c') = eqR k a b c k' a' b' c' := by
  by_cases e : encL k a b c = encL k' a' b' c'
  · have q := (back_md h).1
    rw [e, (back_md h').1] at q
    obtain ⟨e1, e2, e3, e4⟩ : AV.int .i64 k' = .int .i64 k ∧ AV.str a' = .str a ∧ AV.str b' = .str b ∧ AV.str c' = .str c := by simpa using q
    cases e1; cases e2; cases e3; cases e4
    rw [bbr, eqR_self]
  · rw [bne_f e]
    cases hx : eqR k a b c k' a' b' c' with
    | false => rfl
    | true =>
      exfalso
      unfold eqR at hx
      simp only [Bool.and_eq_true, beqBytes_eq, beq_iff_eq, eqI] at hx
      obtain ⟨rfl, rfl, rfl, rfl⟩ := hx
      exact e rfl
theorem bin_rqn (h : AHeap) (x y : Operand) (k : Int) (a b c : List UInt8) : binA Try.prog h BinOp.neq 42 x y (.agg (rqV k a b c)) (.agg (rqV k a b c)) = some (.bool false) := by
  have ok : eqOK Try.prog 42 x y (.agg (rqV k a b c)) (.agg (rqV k a b c)) = true := by kernel_rfl
  simp only [binA, ok, if_true, eqA_rq, eqR_self]
  rfl
theorem bin_bb (h : AHeap) (x y : Operand) (b : Bool) : binA Try.prog h BinOp.neq 4 x y (.bool b) (.bool b) = some (.bool false) := by
  cases b <;> rfl
theorem back_ans {B : Nat} {h : AHeap} {vs : List AV} {e : Nat} {cd nm : Nat} {t : List UInt8} {ps : List (List UInt8)} {l : List Dg} (hcd : cd ≤ 14) (hnm : nm < 18446744073709551616) (ht : t.length ≤ 500) (hp : ps.length ≤ 20) (hpl : ∀ x ∈ ps, x.length ≤ 1000) (hl : l.length ≤ 20)
    (q : RspQ B h (ansB cd t ps (encT (sortedL l)) nm) vs e) : e = 0 ∧ ∃ wp wd, vs = [.int .i64 (Int.ofNat cd), .str t, wp, wd, .int .u64 (Int.ofNat nm)] ∧ RowK encS 1 9 B h wp ps ∧ RowK encD 3 35 B h wd (sortedL l) := by
  have hsl := sortedL_len l
  have hel := encT_len (sortedL l) (fun d hd => (mem_sortedL.1 hd).2)
  obtain ⟨r1, r2, r3, r4, r5⟩ := ans_read cd t ps (encT (sortedL l)) nm [] (by omega) (by omega) (by omega) (fun x hx => by have := hpl x hx; omega) (by omega) hnm
  rw [List.append_nil] at r1 r2 r3
  obtain ⟨ps', st4, z, q⟩ := q
  obtain ⟨e1, e2⟩ := readsT_uniq z r3
  subst e1; subst e2
  rw [r4, r5] at q
  simp only [r1, r2] at q
  have g : Good (encT (sortedL l)) (sortedL l) := ⟨(sortedL_again l).symm, rfl⟩
  rcases q with ⟨l', wp, wd, g', _, _, he, hv, q1, q2, _⟩ | ⟨hn, _⟩
  · have := good_uniq (by omega) g' g
    subst this
    exact ⟨he, wp, wd, hv, q1, q2⟩
  · exfalso
    refine hn ⟨⟨_, by rw [r4]; exact g⟩, by rw [r4, r5]; rfl, by rw [r1]; exact hcd⟩
theorem ansB_len {cd nm : Nat} {t : List UInt8} {ps : List (List UInt8)} {l : List Dg} (ht : t.length ≤ 500) (hp : ps.length ≤ 20) (hpl : ∀ x ∈ ps, x.length ≤ 1000) (hl : l.length ≤ 20) : (ansB cd t ps (encT (sortedL l)) nm).length ≤ 60000 := by
  have hsl := sortedL_len l
  have hel := encT_len (sortedL l) (fun d hd => (mem_sortedL.1 hd).2)
  have h1 := numL_len cd
  have h2 := textL_len t
  have h3 := numL_len ps.length
  have h4 := flat_le hpl
  have h5 := textL_len (encT (sortedL l))
  have h6 := numL_len nm
  have h7 : ps.length * (1000 + 9) ≤ 20 * 1009 := Nat.mul_le_mul hp (Nat.le_refl _)
  unfold ansB
  simp only [List.length_append]
  omega
end Go.Proofs.Wire

namespace Go.Proofs.Wire
open Go AEv Go.Proofs Go.Proofs.Enc
set_option maxRecDepth 100000
set_option maxHeartbeats 1000000

/-! ### MsgBack -/
theorem SlD.rowR_set {B r : Nat} {h : AHeap} {v : AV} {ds : List Dg} {o : Option AObj} (hr : SlD B h v ds) (hb : r < B) : RowR (h.set r o) v ds := by
  rcases hr with ⟨rfl, rfl | ⟨b, rfl, _⟩⟩ | ⟨b, rest, rfl, hg, h1, h2⟩
  · exact .inl ⟨rfl, rfl⟩
  · exact .inr ⟨b, _, rfl, fun h => by simp at h, fun i hi => by simp at hi⟩
  · exact .inr ⟨b, _, rfl, fun _ => by simpa using h2, fun i hi => row_load encD_len (gother (by omega) hg) hi (by omega)⟩
theorem SlD.shape {B : Nat} {h : AHeap} {v : AV} {ds : List Dg} (hr : SlD B h v ds) : v = .nilS ∨ ∃ b k, v = .slice b 0 ds.length k := by
  rcases hr with ⟨rfl, rfl | ⟨b, rfl, _⟩⟩ | ⟨b, rest, rfl, _⟩
  · exact .inl rfl
  · exact .inr ⟨_, _, rfl⟩
  · exact .inr ⟨_, _, rfl⟩
theorem chkN_or (k : Int) (a b c : List UInt8) : chkN k a b c = 0 ∨ chkN k a b c = 2 ∨ chkN k a b c = 3 := by
  unfold chkN
  split
  · split
    · exact .inr (.inl rfl)
    · split
      · exact .inr (.inr rfl)
      · exact .inl rfl
  · exact .inr (.inl rfl)
theorem back_c (k1 : Int) (a1 b1 c1 : List UInt8) (k2 : Int) (a2 b2 c2 : List UInt8) (cd : Int) (nm : Nat) (hnm : nm < 18446744073709551616) (t : List UInt8) (ps : List (List UInt8)) (l : List Dg) (w d : AV) (h : AHeap) (h1 : RowV encS 1 h w ps) (h2 : RowV encD 3 h d l) :
    ∃ h', C 9 (.fn 11) [.agg (rqV k1 a1 b1 c1), .agg (rqV k2 a2 b2 c2), .agg [.int .i64 cd, .str t, w, d, .int .u64 (Int.ofNat nm)]] h = .ret (.bool true) h' := by
  obtain ⟨H, hH⟩ : ∃ H, H = ((h.push (.cells (rqV k1 a1 b1 c1) 42 .own 0 0)).push (.cells (rqV k2 a2 b2 c2) 42 .own 0 0)).push (.cells [.int .i64 cd, .str t, w, d, .int .u64 (Int.ofNat nm)] 54 .own 0 0) := ⟨_, rfl⟩
  have xH : Ext h.n h H := by rw [hH]; exact exA
  have nH : H.n = h.n + 3 := by rw [hH]; simp
  have gp : H.get h.n = some (.cells (rqV k1 a1 b1 c1) 42 .own 0 0) := by rw [hH]; exact gold (by simp; omega) (gold (by simp) (gtop rfl))
  have gq : H.get (h.n + 1) = some (.cells (rqV k2 a2 b2 c2) 42 .own 0 0) := by rw [hH]; exact gold (by simp) (gtop (by simp))
  have gr : H.get (h.n + 2) = some (.cells [.int .i64 cd, .str t, w, d, .int .u64 (Int.ofNat nm)] 54 .own 0 0) := by rw [hH]; exact gtop (by simp)
  have s0 : RunF Try.prog Try.f11 none (C 8) [0] ⟨[(0, .agg (rqV k1 a1 b1 c1)), (1, .agg (rqV k2 a2 b2 c2)), (2, .agg [.int .i64 cd, .str t, w, d, .int .u64 (Int.ofNat nm)])], [], .none, h⟩ .nrm ⟨[(3, .ptr h.n 0), (4, .ptr (h.n + 1) 0), (5, .ptr (h.n + 2) 0)], [], .none, H⟩ := by
    rw [hH]
    rcases rowV_shape h1 with ⟨rfl, _⟩ | ⟨p1, q1, rfl⟩ <;> rcases rowV_shape h2 with ⟨rfl, _⟩ | ⟨p2, q2, rfl⟩
    · exact mb0nn (C 8) cd _ t k1 a1 b1 c1 k2 a2 b2 c2 h
    · exact mb0ns (C 8) cd _ t p2 l.length q2 k1 a1 b1 c1 k2 a2 b2 c2 h
    · exact mb0sn (C 8) cd _ t p1 ps.length q1 k1 a1 b1 c1 k2 a2 b2 c2 h
    · exact mb0ss (C 8) cd _ t p1 ps.length q1 p2 l.length q2 k1 a1 b1 c1 k2 a2 b2 c2 h
  have hsv : AV.sound (.agg [.int .i64 cd, .str t, w, d, .int .u64 (Int.ofNat nm)]) = true := by
    rcases rowV_shape h1 with ⟨rfl, _⟩ | ⟨p1, q1, rfl⟩ <;> rcases rowV_shape h2 with ⟨rfl, _⟩ | ⟨p2, q2, rfl⟩ <;> rfl
  have xr : Ext H.n H (H.room 11) := Ext.roomR (Ext.refl _ _)
  obtain ⟨a3, b3, c3, g1, r1, x1, l1a, l1b, l1c⟩ := request_c 6 k1 0 0 0 a1 b1 c1 (H.room 11) (by omega) (by omega) (by omega)
  obtain ⟨a4, b4, c4, g2, r2, x2, l2a, l2b, l2c⟩ := request_c 6 k2 0 0 0 a2 b2 c2 g1 (by omega) (by omega) (by omega)
  have y1 : Ext H.n H g1 := xr.trans xr.n x1
  have y2 : Ext H.n H g2 := y1.trans y1.n x2
  have z2 : Ext h.n h g2 := xH.trans xH.n y2
  obtain ⟨w', d', g3, r3, x3, q1, q2⟩ := response_c 7 cd nm t ps l w d g2 (h1.mono z2 (Nat.le_refl _)) (h2.mono z2 (Nat.le_refl _))
  have y3 : Ext H.n H g3 := y2.trans y2.n x3
  have n3 := y3.n
  have gp3 := (y3.get h.n (by omega)).trans gp
  have gq3 := (y3.get (h.n + 1) (by omega)).trans gq
  have gr3 := (y3.get (h.n + 2) (by omega)).trans gr
  obtain ⟨T, hT⟩ : ∃ T, T = cutN 500 t := ⟨_, rfl⟩
  have hTl : T.length ≤ 500 := by rw [hT]; exact cutN_len 500 t
  rw [← hT] at r3
  obtain ⟨G1, hG1⟩ : ∃ G1, G1 = g3.set h.n (some (.cells (rqV k1 a3 b3 c3) 42 .own 0 0)) := ⟨_, rfl⟩
  have m1 : AEv.storeCells g3 h.n 0 (rqV k1 a3 b3 c3) = some G1 := by rw [hG1]; exact stc gp3 rfl rfl
  have gq31 : G1.get (h.n + 1) = some (.cells (rqV k2 a2 b2 c2) 42 .own 0 0) := by rw [hG1]; exact gother (by omega) gq3
  have gr31 : G1.get (h.n + 2) = some (.cells [.int .i64 cd, .str t, w, d, .int .u64 (Int.ofNat nm)] 54 .own 0 0) := by rw [hG1]; exact gother (by omega) gr3
  have gp31 : G1.get h.n = some (.cells (rqV k1 a3 b3 c3) 42 .own 0 0) := by rw [hG1]; exact gsame rfl
  obtain ⟨G2, hG2⟩ : ∃ G2, G2 = G1.set (h.n + 1) (some (.cells (rqV k2 a4 b4 c4) 42 .own 0 0)) := ⟨_, rfl⟩
  have m2 : AEv.storeCells G1 (h.n + 1) 0 (rqV k2 a4 b4 c4) = some G2 := by rw [hG2]; exact stc gq31 rfl rfl
  have gr32 : G2.get (h.n + 2) = some (.cells [.int .i64 cd, .str t, w, d, .int .u64 (Int.ofNat nm)] 54 .own 0 0) := by rw [hG2]; exact gother (by omega) gr31
  have gp32 : G2.get h.n = some (.cells (rqV k1 a3 b3 c3) 42 .own 0 0) := by rw [hG2]; exact gother (by omega) gp31
  have gq32 : G2.get (h.n + 1) = some (.cells (rqV k2 a4 b4 c4) 42 .own 0 0) := by rw [hG2]; exact gsame rfl
  obtain ⟨G, hG⟩ : ∃ G, G = G2.set (h.n + 2) (some (.cells [.int .i64 cd, .str T, w', d', .int .u64 (Int.ofNat nm)] 54 .own 0 0)) := ⟨_, rfl⟩
  have nG : G.n = g3.n := by rw [hG, hG2, hG1]; rfl
  have gpG : G.get h.n = some (.cells (rqV k1 a3 b3 c3) 42 .own 0 0) := by rw [hG]; exact gother (by omega) gp32
  have gqG : G.get (h.n + 1) = some (.cells (rqV k2 a4 b4 c4) 42 .own 0 0) := by rw [hG]; exact gother (by omega) gq32
  have grG : G.get (h.n + 2) = some (.cells [.int .i64 cd, .str T, w', d', .int .u64 (Int.ofNat nm)] 54 .own 0 0) := by rw [hG]; exact gsame rfl
  have o1 : RowK encS 1 9 g2.n G w' (rspP ps) := by rw [hG, hG2]; refine RowK.setOwn (RowK.setOwn ?_ gq31) (hG2 ▸ gr32); rw [hG1]; exact q1.setOwn gp3
  have o2 : RowK encD 3 35 g2.n G d' (rspD l) := by rw [hG, hG2]; refine RowK.setOwn (RowK.setOwn ?_ gq31) (hG2 ▸ gr32); rw [hG1]; exact q2.setOwn gp3
  have s1 : RunF Try.prog Try.f11 none (C 8) [1, 0] ⟨[(3, .ptr h.n 0), (4, .ptr (h.n + 1) 0), (5, .ptr (h.n + 2) 0)], [], .none, H⟩ .nrm ⟨[(3, .ptr h.n 0), (4, .ptr (h.n + 1) 0), (5, .ptr (h.n + 2) 0)], [], .none, G⟩ := by
    have e1 := load4 rfl (groom (k := 11) gp)
    have e3 := load4 rfl ((y1.get (h.n + 1) (by omega)).trans gq)
    have e5 := load5 rfl ((y2.get (h.n + 2) (by omega)).trans gr)
    have e10 := load4 rfl (groom (k := 11) gq)
    have e12 := load5 rfl ((y1.get (h.n + 2) (by omega)).trans gr)
    have e13 := load5 rfl (groom (k := 11) gr)
    rw [hG]
    rcases rowK_sh q1 with rfl | ⟨p1, k1', rfl⟩ <;> rcases rowK_sh q2 with rfl | ⟨p2, k2', rfl⟩
    · exact mb1nn (C 8) h.n (h.n + 1) (h.n + 2) cd _ _  _ _ _ _ _ _ _ _ _ _ _ _ _ _ _ _ _ H g1 g2 g3 _ _ _ e1 r1 e3 r2 e5 r3 m1 m2 (stc gr32 rfl rfl) e10 hsv e12 e13
    · exact mb1ns (C 8) h.n (h.n + 1) (h.n + 2) cd _ _ p2 _ k2' _ _ _ _ _ _ _ _ _ _ _ _ _ _ _ _ _ H g1 g2 g3 _ _ _ e1 r1 e3 r2 e5 r3 m1 m2 (stc gr32 rfl rfl) e10 hsv e12 e13
    · exact mb1sn (C 8) h.n (h.n + 1) (h.n + 2) cd _ _ p1 _ k1' _ _ _ _ _ _ _ _ _ _ _ _ _ _ _ _ _ H g1 g2 g3 _ _ _ e1 r1 e3 r2 e5 r3 m1 m2 (stc gr32 rfl rfl) e10 hsv e12 e13
    · exact mb1ss (C 8) h.n (h.n + 1) (h.n + 2) cd _ _ p1 _ k1' p2 _ k2' _ _ _ _ _ _ _ _ _ _ _ _ _ _ _ _ _ H g1 g2 g3 _ _ _ e1 r1 e3 r2 e5 r3 m1 m2 (stc gr32 rfl rfl) e10 hsv e12 e13
  have p1 := rspP_len ps
  have p2 := rspD_len l
  have p4 : ∀ x ∈ rspP ps, x.length ≤ 1000 := fun x hx => by
    unfold rspP at hx
    obtain ⟨y, _, rfl⟩ := List.mem_map.1 hx
    have := cutN_len 60 y
    omega
  obtain ⟨g4, r4, x4⟩ := enc_c 2 k1 a3 b3 c3 G (by omega) (by omega) (by omega)
  have s2 := mb2 (C 8) h.n (h.n + 1) (h.n + 2) _ _ k1 a3 b3 c3 G g4 (load4 rfl gpG) r4
  have n4 := x4.n
  obtain ⟨g5, r5, x5⟩ := enc_c 2 k2 a4 b4 c4 g4 (by omega) (by omega) (by omega)
  have s3 := mb3 (C 8) h.n (h.n + 1) (h.n + 2) (chkN k1 a3 b3 c3) _ (encL k1 a3 b3 c3) _ k2 a4 b4 c4 g4 g5 (load4 rfl ((x4.get (h.n + 1) (by omega)).trans gqG)) r5
  have y5 : Ext G.n G g5 := x4.trans x4.n x5
  have n5 := y5.n
  have gp5 := (y5.get h.n (by omega)).trans gpG
  have gq5 := (y5.get (h.n + 1) (by omega)).trans gqG
  have s4 : ∃ g7, Ext g5.n g5 g7 ∧ RunF Try.prog Try.f11 none (C 8) [1, 1, 1, 1, 0] ⟨[(3, .ptr h.n 0), (4, .ptr (h.n + 1) 0), (5, .ptr (h.n + 2) 0), (7, .str (encL k1 a3 b3 c3)), (8, .int .i64 (Int.ofNat (chkN k1 a3 b3 c3))), (9, .str (encL k2 a4 b4 c4)), (10, .int .i64 (Int.ofNat (chkN k2 a4 b4 c4)))], [], .none, g5⟩ .nrm ⟨[(5, .ptr (h.n + 2) 0)], [], .none, g7⟩ := by
    rcases chkN_or k1 a3 b3 c3 with e | e | e
    · obtain ⟨v1, v2, v3⟩ := back_md e
      obtain ⟨g6, r6, x6⟩ := mdecode_c 1 (encL k1 a3 b3 c3) g5 v3
      rw [v1, v2] at r6
      obtain ⟨G6, hG6⟩ : ∃ G6, G6 = (g6.push (.cells (rqV (Int.ofNat 0) [] [] []) 42 .own 0 0)).set g6.n (some (.cells (rqV k1 a3 b3 c3) 42 .own 0 0)) := ⟨_, rfl⟩
      have m6 : AEv.storeCells (g6.push (.cells (rqV (Int.ofNat 0) [] [] []) 42 .own 0 0)) g6.n 0 (rqV k1 a3 b3 c3) = some G6 := by rw [hG6]; exact stc (gtop rfl) rfl rfl
      have x6' : Ext g6.n g6 G6 := by rw [hG6]; exact Ext.setR (Nat.le_refl _) (Ext.pushR (Nat.le_refl _) (Ext.refl _ _))
      have n6 := x6.n
      have gp6 := ((x6'.get h.n (by omega)).trans (x6.get h.n (by omega))).trans gp5
      have gq6 := ((x6'.get (h.n + 1) (by omega)).trans (x6.get (h.n + 1) (by omega))).trans gq5
      have go6 : G6.get g6.n = some (.cells (rqV k1 a3 b3 c3) 42 .own 0 0) := by rw [hG6]; exact gsame rfl
      refine ⟨G6, x6.trans x6.n x6', ?_⟩
      rw [e]
      rcases chkN_or k2 a4 b4 c4 with f | f | f <;> rw [f]
      · exact mbg (C 8) h.n (h.n + 1) (h.n + 2) _ _ _ k1 a3 b3 c3 k2 a4 b4 c4 g5 g6 G6 r6 m6 (load4 rfl go6) (load4 rfl gp6) (bin_rqn _ _ _ _ _ _ _) (load4 rfl gq6) (bin_rq _ _ _ _ _ _ _ _ _ _ _) (by rw [back_inj e f]; exact bin_bb _ _ _ _)
      · exact mbf2 (C 8) h.n (h.n + 1) (h.n + 2) _ _ k1 a3 b3 c3 g5 g6 G6 r6 m6 (load4 rfl go6) (load4 rfl gp6) (bin_rqn _ _ _ _ _ _ _)
      · exact mbf3 (C 8) h.n (h.n + 1) (h.n + 2) _ _ k1 a3 b3 c3 g5 g6 G6 r6 m6 (load4 rfl go6) (load4 rfl gp6) (bin_rqn _ _ _ _ _ _ _)
    · rw [e]; exact ⟨g5, Ext.refl _ _, mbe2 (C 8) h.n (h.n + 1) (h.n + 2) _ _ _ g5⟩
    · rw [e]; exact ⟨g5, Ext.refl _ _, mbe3 (C 8) h.n (h.n + 1) (h.n + 2) _ _ _ g5⟩
  obtain ⟨g7, x7, s4⟩ := s4
  have y7 : Ext G.n G g7 := y5.trans y5.n x7
  have n7 := y7.n
  have gr7 := (y7.get (h.n + 2) (by omega)).trans grG
  have o17 := o1.mono y7 (Nat.le_refl _)
  have o27 := o2.mono y7 (Nat.le_refl _)
  have fin : ∀ {Γ : Env} {h' : AHeap}, RunF Try.prog Try.f11 none (C 8) [1, 1, 1, 1, 1] ⟨[(5, .ptr (h.n + 2) 0)], [], .none, g7⟩ .ret ⟨Γ, [], .none, h'⟩ → resS Try.prog (needFn Try.f11) Try.f11 Γ h' = some (.bool true) → C 9 (.fn 11) [.agg (rqV k1 a1 b1 c1), .agg (rqV k2 a2 b2 c2), .agg [.int .i64 cd, .str t, w, d, .int .u64 (Int.ofNat nm)]] h = .ret (.bool true) h' := fun hr hres =>
    fn_runF (intr := Ii) (n := 8) (args := [.agg (rqV k1 a1 b1 c1), .agg (rqV k2 a2 b2 c2), .agg [.int .i64 cd, .str t, w, d, .int .u64 (Int.ofNat nm)]]) Try.func11 (by kernel_rfl) rfl (by kernel_rfl)
      (RunF.seq (p := []) (by kernel_rfl) s0 (RunF.seq (p := [1]) (by kernel_rfl) s1 (RunF.seq (p := [1, 1]) (by kernel_rfl) s2 (RunF.seq (p := [1, 1, 1]) (by kernel_rfl) s3 (RunF.seq (p := [1, 1, 1, 1]) (by kernel_rfl) s4 hr))))) (.inl rfl) hres
  by_cases hcd : cd < 0 ∨ 14 < cd
  · obtain ⟨g8, r8, x8⟩ := answer_no 7 _ _ cd (Int.ofNat nm) T _ _ w' d' g7 hcd o17 o27
    have s5 := mb5 (C 8) (h.n + 2) [] _ g7 g8 (load5 rfl gr7) r8
    have gr8 := (x8.get (h.n + 2) (by omega)).trans gr7
    have s6 : RunF Try.prog Try.f11 none (C 8) [1, 1, 1, 1, 1, 1, 0] ⟨[(5, .ptr (h.n + 2) 0), (13, .str [])], [], .none, g8⟩ .ret ⟨[(6, .bool true)], [], .none, g8⟩ := by
      by_cases h0 : cd < 0
      · exact mb6e_1 (C 8) (h.n + 2) cd g8 g8 (ld1 gr8 rfl) (ltI_t h0) (works27_c 7 g8)
      · exact mb6e_2 (C 8) (h.n + 2) cd g8 g8 (ld1 gr8 rfl) (ltI_f (by omega)) (ltI_t (by rcases hcd with h | h; exact absurd h h0; exact h)) (works27_c 7 g8)
    exact ⟨_, fin (RunF.seq (p := [1, 1, 1, 1, 1]) (by kernel_rfl) s5 (RunF.seqx (p := [1, 1, 1, 1, 1, 1]) (by kernel_rfl) s6 (by simp))) (by kernel_rfl)⟩
  · obtain ⟨k, rfl⟩ : ∃ k : Nat, cd = Int.ofNat k := ⟨cd.toNat, by show cd = (cd.toNat : Int); omega⟩
    have hk : k ≤ 14 := by
      have : ¬ (14 : Int) < (k : Int) := fun e => hcd (.inr e)
      omega
    obtain ⟨g8, r8, x8⟩ := answer_c 1 _ _ k nm T _ _ w' d' g7 hk hnm (by omega) o17 o27 (by omega) p4 (by omega)
    have n8 := x8.n
    have s5 := mb5 (C 8) (h.n + 2) _ _ g7 g8 (load5 rfl gr7) r8
    have gr8 := (x8.get (h.n + 2) (by omega)).trans gr7
    obtain ⟨u, hu⟩ : ∃ u, u = ansB k T (rspP ps) (encT (sortedL (rspD l))) nm := ⟨_, rfl⟩
    have hul : u.length ≤ 60000 := by rw [hu]; exact ansB_len hTl p1 p4 p2
    have s6 := mb6_5 (C 8) (h.n + 2) u (Int.ofNat k) g8 g8 (ld1 gr8 rfl) (lt_f (by omega)) (lt_f (by omega))
    obtain ⟨vs, e, g9, r9, x9, q9⟩ := answered_c 0 u g8 hul
    rw [hu] at q9
    obtain ⟨rfl, wp, wd, rfl, t1, t2⟩ := back_ans hk hnm hTl p1 p4 p2 q9
    rw [← hu] at s5
    have n9 := x9.n
    have gr9 := (x9.get (h.n + 2) (by omega)).trans gr8
    obtain ⟨G9, hG9⟩ : ∃ G9, G9 = (g9.push (.cells rsp0 54 .own 0 0)).set g9.n (some (.cells [.int .i64 (Int.ofNat k), .str T, wp, wd, .int .u64 (Int.ofNat nm)] 54 .own 0 0)) := ⟨_, rfl⟩
    have xG9 : Ext g9.n g9 G9 := by rw [hG9]; exact Ext.setR (Nat.le_refl _) (Ext.pushR (Nat.le_refl _) (Ext.refl _ _))
    have nG9 : G9.n = g9.n + 1 := by rw [hG9]; rfl
    have gy9 : G9.get g9.n = some (.cells [.int .i64 (Int.ofNat k), .str T, wp, wd, .int .u64 (Int.ofNat nm)] 54 .own 0 0) := by rw [hG9]; exact gsame rfl
    have grG9 := (xG9.get (h.n + 2) (by omega)).trans gr9
    have s7 : RunF Try.prog Try.f11 none (C 8) [1, 1, 1, 1, 1, 1, 1, 0] ⟨[(5, .ptr (h.n + 2) 0), (13, .str u)], [], .none, g8⟩ .nrm ⟨[(5, .ptr (h.n + 2) 0), (14, .ptr g9.n 0), (15, .int .i64 (Int.ofNat 0))], [], .none, G9⟩ := by
      rw [hG9]
      rcases rowK_sh t1 with rfl | ⟨p1, k1', rfl⟩ <;> rcases rowK_sh t2 with rfl | ⟨p2, k2', rfl⟩
      · exact mb7nn (C 8) (h.n + 2) _ _ _ u g8 g9 _ r9 (stc (gtop rfl) rfl rfl)
      · exact mb7ns (C 8) (h.n + 2) _ _ _ u p2 _ k2' g8 g9 _ r9 (stc (gtop rfl) rfl rfl)
      · exact mb7sn (C 8) (h.n + 2) _ _ _ u p1 _ k1' g8 g9 _ r9 (stc (gtop rfl) rfl rfl)
      · exact mb7ss (C 8) (h.n + 2) _ _ _ u p1 _ k1' p2 _ k2' g8 g9 _ r9 (stc (gtop rfl) rfl rfl)
    have z8 : Ext g7.n g7 G9 := (x8.trans x8.n x9).trans (Nat.le_trans x8.n x9.n) xG9
    have o19 := o17.mono z8 (Nat.le_refl _)
    have o29 := o27.mono z8 (Nat.le_refl _)
    have t19 := t1.mono xG9 (Nat.le_refl _)
    have t29 := t2.mono xG9 (Nat.le_refl _)
    obtain ⟨v, g10, r10, x10, q10⟩ := dsort_c 3 d' (rspD l) G9 o29.rowIn (by omega)
    have n10 := x10.n
    have gr10 := (x10.get (h.n + 2) (by omega)).trans grG9
    have gy10 := (x10.get g9.n (by omega)).trans gy9
    obtain ⟨G10, hG10⟩ : ∃ G10, G10 = g10.set (h.n + 2) (some (.cells [.int .i64 (Int.ofNat k), .str T, w', v, .int .u64 (Int.ofNat nm)] 54 .own 0 0)) := ⟨_, rfl⟩
    have grG : G10.get (h.n + 2) = some (.cells [.int .i64 (Int.ofNat k), .str T, w', v, .int .u64 (Int.ofNat nm)] 54 .own 0 0) := by rw [hG10]; exact gsame rfl
    have gyG : G10.get g9.n = some (.cells [.int .i64 (Int.ofNat k), .str T, wp, wd, .int .u64 (Int.ofNat nm)] 54 .own 0 0) := by rw [hG10]; exact gother (by omega) gy10
    have s8 : RunF Try.prog Try.f11 none (C 8) [1, 1, 1, 1, 1, 1, 1, 1, 0] ⟨[(5, .ptr (h.n + 2) 0), (14, .ptr g9.n 0), (15, .int .i64 (Int.ofNat 0))], [], .none, G9⟩ .nrm ⟨[(5, .ptr (h.n + 2) 0), (14, .ptr g9.n 0), (15, .int .i64 (Int.ofNat 0))], [], .none, G10⟩ := by
      rw [hG10]
      rcases q10.shape with rfl | ⟨b, k', rfl⟩
      · exact mb8n (C 8) (h.n + 2) g9.n 0 d' G9 g10 _ (ld1 grG9 rfl) r10 (stc gr10 rfl rfl)
      · exact mb8s (C 8) (h.n + 2) g9.n 0 b _ k' d' G9 g10 _ (ld1 grG9 rfl) r10 (stc gr10 rfl rfl)
    have f1 : RowK encS 1 9 g8.n G10 wp (rspP ps) := by rw [hG10]; exact (t19.mono x10 (Nat.le_refl _)).setOwn gr10
    have f2 : RowK encD 3 35 g8.n G10 wd (sortedL (rspD l)) := by rw [hG10]; exact (t29.mono x10 (Nat.le_refl _)).setOwn gr10
    have f3 : RowK encS 1 9 g2.n G10 w' (rspP ps) := by rw [hG10]; exact (o19.mono x10 (Nat.le_refl _)).setOwn gr10
    have f4 : RowR G10 v (sortedL (rspD l)) := by rw [hG10]; exact q10.rowR_set (by omega)
    have hsl := sortedL_len (rspD l)
    obtain ⟨g11, r11, x11⟩ := alike_c 7 _ _ _ (Int.ofNat k) (Int.ofNat nm) T (rspP ps) (sortedL (rspD l)) wp w' wd v G10 f1 f3 f2 f4 (by omega) (by omega)
    have s9 := mb9 (C 8) (h.n + 2) g9.n _ _ G10 g11 g11 (load5 rfl gyG) (load5 rfl grG) r11 (works27_c 7 g11)
    exact ⟨_, fin (RunF.seq (p := [1, 1, 1, 1, 1]) (by kernel_rfl) s5 (RunF.seq (p := [1, 1, 1, 1, 1, 1]) (by kernel_rfl) s6 (RunF.seq (p := [1, 1, 1, 1, 1, 1, 1]) (by kernel_rfl) s7 (RunF.seq (p := [1, 1, 1, 1, 1, 1, 1, 1]) (by kernel_rfl) s8 s9)))) (by kernel_rfl)⟩
end Go.Proofs.Wire
