/-
  PROVED HERE: contracts of functions (Dj). No condition beside each statement's own.
-/
import Derived.Test.YtbndinilpflomaaDi
import Derived.Test.YtbndinilpflomaaDd
set_option linter.unusedVariables false
set_option linter.unusedSimpArgs false
namespace Go.Proofs.Wire
open Go AEv Go.Proofs Go.Proofs.Enc
set_option maxRecDepth 100000
set_option maxHeartbeats 1000000

theorem rs0ss (call : CallT → List AV → AHeap → FRes) (c n : Int) (t : List UInt8) (b1 n1 : Nat) (k1 : Cap) (b2 n2 : Nat) (k2 : Cap) (h : AHeap) :
    RunF Try.prog Try.f38 none call [0] (SSt.mk [(0, .agg [.int .i64 c, .str t, .slice b1 0 n1 k1, .slice b2 0 n2 k2, .int .u64 n])] [] .none h) (.nrm)
      (SSt.mk [(1, .ptr (AHeap.n h) 0), (2, .ptr (AHeap.n (AHeap.push h (.cells [.int .i64 c, .str t, .slice b1 0 n1 k1, .slice b2 0 n2 k2, .int .u64 n] 54 .own 0 0))) 0)] [] .none (AHeap.push (AHeap.push h (.cells [.int .i64 c, .str t, .slice b1 0 n1 k1, .slice b2 0 n2 k2, .int .u64 n] 54 .own 0 0)) (.cells [.int .i64 (.ofNat 0), .str [], .nilS, .nilS, .int .u64 (.ofNat 0)] 54 .own 0 0))) :=
  sxF_run [1, 2] (hs := []) (by kernel_rfl) <| .nil
theorem rs4ss (call : CallT → List AV → AHeap → FRes) (p q : Nat) (c n : Int) (t : List UInt8) (b1 n1 : Nat) (k1 : Cap) (b2 n2 : Nat) (k2 : Cap) (h g_1 : AHeap)
    (H1 : AEv.loadCells h p 0 5 = some [.int .i64 c, .str t, .slice b1 0 n1 k1, .slice b2 0 n2 k2, .int .u64 n])
    (H2 : AEv.storeCells h q 0 [.int .i64 c, .str t, .slice b1 0 n1 k1, .slice b2 0 n2 k2, .int .u64 n] = some g_1) :
    RunF Try.prog Try.f38 none call [1, 1, 1, 1] (SSt.mk [(2, .ptr q 0), (3, .ptr p 0)] [] .none h) (.ret)
      (SSt.mk [(2, .ptr q 0)] [] .none g_1) :=
  sxF_run [2] (hs := [.v (.agg [.int .i64 c, .str t, .slice b1 0 n1 k1, .slice b2 0 n2 k2, .int .u64 n]), .vh (.tup []) g_1]) (by kernel_rfl) <| .cons H1 <| .cons (⟨by kernel_rfl, H2, rfl⟩ : some 5 = some 5 ∧ AEv.storeCells h q 0 [AV.int IntKind.i64 c, AV.str t, AV.slice b1 0 n1 k1, AV.slice b2 0 n2 k2, AV.int IntKind.u64 n] = some g_1 ∧ AV.tup [] = AV.tup []) <| .nil
theorem rs0sn (call : CallT → List AV → AHeap → FRes) (c n : Int) (t : List UInt8) (b1 n1 : Nat) (k1 : Cap) (h : AHeap) :
    RunF Try.prog Try.f38 none call [0] (SSt.mk [(0, .agg [.int .i64 c, .str t, .slice b1 0 n1 k1, .nilS, .int .u64 n])] [] .none h) (.nrm)
      (SSt.mk [(1, .ptr (AHeap.n h) 0), (2, .ptr (AHeap.n (AHeap.push h (.cells [.int .i64 c, .str t, .slice b1 0 n1 k1, .nilS, .int .u64 n] 54 .own 0 0))) 0)] [] .none (AHeap.push (AHeap.push h (.cells [.int .i64 c, .str t, .slice b1 0 n1 k1, .nilS, .int .u64 n] 54 .own 0 0)) (.cells [.int .i64 (.ofNat 0), .str [], .nilS, .nilS, .int .u64 (.ofNat 0)] 54 .own 0 0))) :=
  sxF_run [1, 2] (hs := []) (by kernel_rfl) <| .nil
theorem rs4sn (call : CallT → List AV → AHeap → FRes) (p q : Nat) (c n : Int) (t : List UInt8) (b1 n1 : Nat) (k1 : Cap) (h g_1 : AHeap)
    (H1 : AEv.loadCells h p 0 5 = some [.int .i64 c, .str t, .slice b1 0 n1 k1, .nilS, .int .u64 n])
    (H2 : AEv.storeCells h q 0 [.int .i64 c, .str t, .slice b1 0 n1 k1, .nilS, .int .u64 n] = some g_1) :
    RunF Try.prog Try.f38 none call [1, 1, 1, 1] (SSt.mk [(2, .ptr q 0), (3, .ptr p 0)] [] .none h) (.ret)
      (SSt.mk [(2, .ptr q 0)] [] .none g_1) :=
  sxF_run [2] (hs := [.v (.agg [.int .i64 c, .str t, .slice b1 0 n1 k1, .nilS, .int .u64 n]), .vh (.tup []) g_1]) (by kernel_rfl) <| .cons H1 <| .cons (⟨by kernel_rfl, H2, rfl⟩ : some 5 = some 5 ∧ AEv.storeCells h q 0 [AV.int IntKind.i64 c, AV.str t, AV.slice b1 0 n1 k1, AV.nilS, AV.int IntKind.u64 n] = some g_1 ∧ AV.tup [] = AV.tup []) <| .nil
theorem rs0ns (call : CallT → List AV → AHeap → FRes) (c n : Int) (t : List UInt8) (b2 n2 : Nat) (k2 : Cap) (h : AHeap) :
    RunF Try.prog Try.f38 none call [0] (SSt.mk [(0, .agg [.int .i64 c, .str t, .nilS, .slice b2 0 n2 k2, .int .u64 n])] [] .none h) (.nrm)
      (SSt.mk [(1, .ptr (AHeap.n h) 0), (2, .ptr (AHeap.n (AHeap.push h (.cells [.int .i64 c, .str t, .nilS, .slice b2 0 n2 k2, .int .u64 n] 54 .own 0 0))) 0)] [] .none (AHeap.push (AHeap.push h (.cells [.int .i64 c, .str t, .nilS, .slice b2 0 n2 k2, .int .u64 n] 54 .own 0 0)) (.cells [.int .i64 (.ofNat 0), .str [], .nilS, .nilS, .int .u64 (.ofNat 0)] 54 .own 0 0))) :=
  sxF_run [1, 2] (hs := []) (by kernel_rfl) <| .nil
theorem rs4ns (call : CallT → List AV → AHeap → FRes) (p q : Nat) (c n : Int) (t : List UInt8) (b2 n2 : Nat) (k2 : Cap) (h g_1 : AHeap)
    (H1 : AEv.loadCells h p 0 5 = some [.int .i64 c, .str t, .nilS, .slice b2 0 n2 k2, .int .u64 n])
    (H2 : AEv.storeCells h q 0 [.int .i64 c, .str t, .nilS, .slice b2 0 n2 k2, .int .u64 n] = some g_1) :
    RunF Try.prog Try.f38 none call [1, 1, 1, 1] (SSt.mk [(2, .ptr q 0), (3, .ptr p 0)] [] .none h) (.ret)
      (SSt.mk [(2, .ptr q 0)] [] .none g_1) :=
  sxF_run [2] (hs := [.v (.agg [.int .i64 c, .str t, .nilS, .slice b2 0 n2 k2, .int .u64 n]), .vh (.tup []) g_1]) (by kernel_rfl) <| .cons H1 <| .cons (⟨by kernel_rfl, H2, rfl⟩ : some 5 = some 5 ∧ AEv.storeCells h q 0 [AV.int IntKind.i64 c, AV.str t, AV.nilS, AV.slice b2 0 n2 k2, AV.int IntKind.u64 n] = some g_1 ∧ AV.tup [] = AV.tup []) <| .nil
theorem rs0nn (call : CallT → List AV → AHeap → FRes) (c n : Int) (t : List UInt8) (h : AHeap) :
    RunF Try.prog Try.f38 none call [0] (SSt.mk [(0, .agg [.int .i64 c, .str t, .nilS, .nilS, .int .u64 n])] [] .none h) (.nrm)
      (SSt.mk [(1, .ptr (AHeap.n h) 0), (2, .ptr (AHeap.n (AHeap.push h (.cells [.int .i64 c, .str t, .nilS, .nilS, .int .u64 n] 54 .own 0 0))) 0)] [] .none (AHeap.push (AHeap.push h (.cells [.int .i64 c, .str t, .nilS, .nilS, .int .u64 n] 54 .own 0 0)) (.cells [.int .i64 (.ofNat 0), .str [], .nilS, .nilS, .int .u64 (.ofNat 0)] 54 .own 0 0))) :=
  sxF_run [1, 2] (hs := []) (by kernel_rfl) <| .nil
theorem rs4nn (call : CallT → List AV → AHeap → FRes) (p q : Nat) (c n : Int) (t : List UInt8) (h g_1 : AHeap)
    (H1 : AEv.loadCells h p 0 5 = some [.int .i64 c, .str t, .nilS, .nilS, .int .u64 n])
    (H2 : AEv.storeCells h q 0 [.int .i64 c, .str t, .nilS, .nilS, .int .u64 n] = some g_1) :
    RunF Try.prog Try.f38 none call [1, 1, 1, 1] (SSt.mk [(2, .ptr q 0), (3, .ptr p 0)] [] .none h) (.ret)
      (SSt.mk [(2, .ptr q 0)] [] .none g_1) :=
  sxF_run [2] (hs := [.v (.agg [.int .i64 c, .str t, .nilS, .nilS, .int .u64 n]), .vh (.tup []) g_1]) (by kernel_rfl) <| .cons H1 <| .cons (⟨by kernel_rfl, H2, rfl⟩ : some 5 = some 5 ∧ AEv.storeCells h q 0 [AV.int IntKind.i64 c, AV.str t, AV.nilS, AV.nilS, AV.int IntKind.u64 n] = some g_1 ∧ AV.tup [] = AV.tup []) <| .nil
theorem rs1 (call : CallT → List AV → AHeap → FRes) (a q : Nat) (c : Int) (t : List UInt8) (h : AHeap) (n_1 : Nat) (t_1 : List UInt8) (n_2 : Nat) (g_1 : AHeap)
    (H1 : load1 (AHeap.room h 14) a (0 + 0) = some (.int .i64 c))
    (H2 : load1 (AHeap.room h 14) a (0 + 1) = some (.str t))
    (H3 : foldA minA (AV.int IntKind.i64 (Int.ofNat (List.length t))) [AV.int IntKind.i64 (Int.ofNat 500)] = some (AV.int IntKind.i64 (Int.ofNat n_1)))
    (H4 : sliceA Try.prog (AHeap.room h 14) 9 (AV.str t) none (some (AV.int IntKind.i64 (Int.ofNat n_1))) none = some (AV.str t_1))
    (H5 : load1 (AHeap.room h 14) a (0 + 4) = some (.int .u64 (.ofNat n_2)))
    (H6 : AEv.storeCells (AHeap.mk (HT.setN (AHeap.n h + 12 + 1) h.1 (AHeap.n h + 12) (some (.cells [.int .i64 (.ofNat 0), .str [], .nilS, .nilS, .int .u64 (.ofNat 0)] 54 .own 0 0))) (AHeap.n (AHeap.room h 14))) (AHeap.n h + 12) 0 [.int .i64 c, .str t_1, .nilS, .nilS, .int .u64 (.ofNat n_2)] = some g_1)
    (H7 : load1 (AHeap.mk (HT.setN (AHeap.n h + 12 + 1) h.1 (AHeap.n h + 12) (some (.cells [.int .i64 (.ofNat 0), .str [], .nilS, .nilS, .int .u64 (.ofNat 0)] 54 .own 0 0))) (AHeap.n (AHeap.room h 14))) a (0 + 0) = some (.int .i64 c))
    (H8 : load1 (AHeap.mk (HT.setN (AHeap.n h + 12 + 1) h.1 (AHeap.n h + 12) (some (.cells [.int .i64 (.ofNat 0), .str [], .nilS, .nilS, .int .u64 (.ofNat 0)] 54 .own 0 0))) (AHeap.n (AHeap.room h 14))) a (0 + 1) = some (.str t))
    (H9 : sliceA Try.prog (AHeap.mk (HT.setN (AHeap.n h + 12 + 1) h.1 (AHeap.n h + 12) (some (AObj.cells [AV.int IntKind.i64 (Int.ofNat 0), AV.str [], AV.nilS, AV.nilS, AV.int IntKind.u64 (Int.ofNat 0)] 54 BK.own 0 0))) (AHeap.n (AHeap.room h 14))) 9 (AV.str t) none (some (AV.int IntKind.i64 (Int.ofNat n_1))) none = some (AV.str t_1))
    (H10 : load1 (AHeap.mk (HT.setN (AHeap.n h + 12 + 1) h.1 (AHeap.n h + 12) (some (.cells [.int .i64 (.ofNat 0), .str [], .nilS, .nilS, .int .u64 (.ofNat 0)] 54 .own 0 0))) (AHeap.n (AHeap.room h 14))) a (0 + 4) = some (.int .u64 (.ofNat n_2))) :
    RunF Try.prog Try.f38 none call [1, 0] (SSt.mk [(1, .ptr a 0), (2, .ptr q 0)] [] .none h) (.nrm)
      (SSt.mk [(1, .ptr a 0), (2, .ptr q 0), (3, .ptr (AHeap.n h + 12) 0)] [] .none g_1) :=
  sxF_run [1, 2, 3] (hs := [.v (.int .i64 c), .v (.str t), .v (.str t), .v (.int .i64 (.ofNat n_1)), .v (.str t_1), .v (.int .u64 (.ofNat n_2)), .vh (.tup []) g_1]) (by kernel_rfl) <| .cons H1 <| .cons H2 <| .cons H2 <| .cons H3 <| .cons H4 <| .cons H5 <| .cons (⟨by kernel_rfl, H6, rfl⟩ : some 5 = some 5 ∧ AEv.storeCells (AHeap.mk (HT.setN (AHeap.n h + 12 + 1) h.1 (AHeap.n h + 12) (some (AObj.cells [AV.int IntKind.i64 (Int.ofNat 0), AV.str [], AV.nilS, AV.nilS, AV.int IntKind.u64 (Int.ofNat 0)] 54 BK.own 0 0))) (AHeap.n (AHeap.room h 14))) (AHeap.n h + 12) 0 [AV.int IntKind.i64 c, AV.str t_1, AV.nilS, AV.nilS, AV.int IntKind.u64 (Int.ofNat n_2)] = some g_1 ∧ AV.tup [] = AV.tup []) <| .cons (by kernel_rfl : AV.sound (AV.ptr a (0 + 0)) = true) <| .cons (by kernel_rfl : AV.ptr a (0 + 0) = AV.ptr a (0 + 0)) <| .cons (by kernel_rfl : AV.sound (AV.int IntKind.i64 c) = true) <| .cons H7 <| .cons (by kernel_rfl : AV.sound (AV.ptr a (0 + 1)) = true) <| .cons (by kernel_rfl : AV.ptr a (0 + 1) = AV.ptr a (0 + 1)) <| .cons (by kernel_rfl : AV.sound (AV.str t) = true) <| .cons H8 <| .cons (by kernel_rfl : AV.sound (AV.ptr a (0 + 1)) = true) <| .cons (by kernel_rfl : AV.ptr a (0 + 1) = AV.ptr a (0 + 1)) <| .cons (by kernel_rfl : AV.sound (AV.str t) = true) <| .cons H8 <| .cons (by kernel_rfl : AV.sound (AV.int IntKind.i64 (Int.ofNat (List.length t))) = true) <| .cons (by kernel_rfl : AV.int IntKind.i64 (Int.ofNat (List.length t)) = AV.int IntKind.i64 (Int.ofNat (List.length t))) <| .cons (by kernel_rfl : AV.sound (AV.int IntKind.i64 (Int.ofNat n_1)) = true) <| .cons H3 <| .cons (by kernel_rfl : AV.sound (AV.str t_1) = true) <| .cons H9 <| .cons (by kernel_rfl : AV.sound (AV.ptr a (0 + 4)) = true) <| .cons (by kernel_rfl : AV.ptr a (0 + 4) = AV.ptr a (0 + 4)) <| .cons (by kernel_rfl : AV.sound (AV.int IntKind.u64 (Int.ofNat n_2)) = true) <| .cons H10 <| .cons (by kernel_rfl : AV.sound (AV.agg [AV.int IntKind.i64 c, AV.str t_1, AV.nilS, AV.nilS, AV.int IntKind.u64 (Int.ofNat n_2)]) = true) <| .cons (by kernel_rfl : AV.agg [AV.int IntKind.i64 c, AV.str t_1, AV.nilS, AV.nilS, AV.int IntKind.u64 (Int.ofNat n_2)] = AV.agg [AV.int IntKind.i64 c, AV.str t_1, AV.nilS, AV.nilS, AV.int IntKind.u64 (Int.ofNat n_2)]) <| .nil
theorem rs2 (call : CallT → List AV → AHeap → FRes) (a q p : Nat) (h g : AHeap)
    (H1 : RunF Try.prog Try.f38 none call [1, 1, 0, 1, 0] (SSt.mk [(4, .int .i64 (.ofNat 0)), (1, .ptr a 0), (2, .ptr q 0), (3, .ptr p 0)] [] .none h) (.exit 0) (SSt.mk [(1, .ptr a 0), (2, .ptr q 0), (3, .ptr p 0)] [] .none g)) :
    RunF Try.prog Try.f38 none call [1, 1, 0] (SSt.mk [(1, .ptr a 0), (2, .ptr q 0), (3, .ptr p 0)] [] .none h) (.nrm)
      (SSt.mk [(1, .ptr a 0), (2, .ptr q 0), (3, .ptr p 0)] [] .none g) :=
  sxF_run [1, 2, 3] (hs := [Hint.loop (AEx.exit 0) (SSt.mk [(1, AV.ptr a 0), (2, AV.ptr q 0), (3, AV.ptr p 0)] [] Rc.none g)]) (by kernel_rfl) <| .cons H1 <| .nil
theorem rs3 (call : CallT → List AV → AHeap → FRes) (a q p : Nat) (h g : AHeap)
    (H1 : RunF Try.prog Try.f38 none call [1, 1, 1, 0, 1, 0] (SSt.mk [(5, .int .i64 (.ofNat 0)), (1, .ptr a 0), (2, .ptr q 0), (3, .ptr p 0)] [] .none h) (.exit 2) (SSt.mk [(1, .ptr a 0), (2, .ptr q 0), (3, .ptr p 0)] [] .none g)) :
    RunF Try.prog Try.f38 none call [1, 1, 1, 0] (SSt.mk [(1, .ptr a 0), (2, .ptr q 0), (3, .ptr p 0)] [] .none h) (.nrm)
      (SSt.mk [(1, .ptr a 0), (2, .ptr q 0), (3, .ptr p 0)] [] .none g) :=
  sxF_run [1, 2, 3] (hs := [Hint.loop (AEx.exit 2) (SSt.mk [(1, AV.ptr a 0), (2, AV.ptr q 0), (3, AV.ptr p 0)] [] Rc.none g)]) (by kernel_rfl) <| .cons H1 <| .nil
theorem rsl_1 (call : CallT → List AV → AHeap → FRes) (a q p i b1 n1 b2 n2 : Nat) (k1 k2 : Cap) (w : AV) (t : List UInt8) (h g2 : AHeap) (n_1 : Nat) (t_1 : List UInt8) (g_1 : AHeap) (n_2 : Nat)
    (H1 : load1 h a (0 + 2) = some (.slice b1 0 n1 k1))
    (H2 : ltI (.ofNat i) (.ofNat n1) = true)
    (H3 : ltI (.ofNat i) (.ofNat 20) = true)
    (H4 : load1 (AHeap.room h 19) p (0 + 2) = some w)
    (H5 : load1 (AHeap.room h 19) a (0 + 2) = some (.slice b1 0 n1 k1))
    (H6 : Nat.le (Nat.succ i) n1)
    (H7 : load1 (AHeap.room h 19) b1 (0 + i * 1) = some (.str t))
    (H8 : foldA minA (AV.int IntKind.i64 (Int.ofNat (List.length t))) [AV.int IntKind.i64 (Int.ofNat 60)] = some (AV.int IntKind.i64 (Int.ofNat n_1)))
    (H9 : sliceA Try.prog (AHeap.room h 19) 9 (AV.str t) none (some (AV.int IntKind.i64 (Int.ofNat n_1))) none = some (AV.str t_1))
    (H10 : appendA Try.prog (AHeap.mk (HT.setN (AHeap.n h + 15 + 1) h.1 (AHeap.n h + 15) (some (AObj.cells [AV.str t_1] 9 BK.own 0 0))) (AHeap.n (AHeap.room h 19))) 38 (some 38) w (AV.slice (AHeap.n h + 15) 0 1 (Cap.exact 1)) = some (AV.slice b2 0 n2 k2, g2))
    (H11 : AEv.storeCells g2 p (0 + 2) [.slice b2 0 n2 k2] = some g_1)
    (H12 : AV.sound w = true)
    (H13 : load1 (AHeap.mk (HT.setN (AHeap.n h + 15 + 1) h.1 (AHeap.n h + 15) (some (.cells [.str t_1] 9 .own 0 0))) (AHeap.n (AHeap.room h 19))) p (0 + 2) = some w)
    (H14 : load1 (AHeap.mk (HT.setN (AHeap.n h + 15 + 1) h.1 (AHeap.n h + 15) (some (.cells [.str t_1] 9 .own 0 0))) (AHeap.n (AHeap.room h 19))) a (0 + 2) = some (.slice b1 0 n1 k1))
    (H15 : load1 (AHeap.mk (HT.setN (AHeap.n h + 15 + 1) h.1 (AHeap.n h + 15) (some (.cells [.str t_1] 9 .own 0 0))) (AHeap.n (AHeap.room h 19))) b1 (0 + i * 1) = some (.str t))
    (H16 : sliceA Try.prog (AHeap.mk (HT.setN (AHeap.n h + 15 + 1) h.1 (AHeap.n h + 15) (some (AObj.cells [AV.str t_1] 9 BK.own 0 0))) (AHeap.n (AHeap.room h 19))) 9 (AV.str t) none (some (AV.int IntKind.i64 (Int.ofNat n_1))) none = some (AV.str t_1))
    (H17 : arith .add .i64 (.ofNat i) (.ofNat 1) = some (.int .i64 (.ofNat n_2))) :
    RunF Try.prog Try.f38 none call [1, 1, 0, 1, 0, 0] (SSt.mk [(1, .ptr a 0), (2, .ptr q 0), (3, .ptr p 0), (4, .int .i64 (.ofNat i))] [] .none h) (.nrm)
      (SSt.mk [(1, .ptr a 0), (2, .ptr q 0), (3, .ptr p 0), (4, .int .i64 (.ofNat n_2))] [] .none g_1) :=
  sxF_run [1, 2, 3, 4] (hs := [.v (.slice b1 0 n1 k1), .b true, .b true, .b true, .b true, .v w, .v (.slice b1 0 n1 k1), .v (.ptr b1 (0 + i * 1)), .v (.str t), .v (.slice b1 0 n1 k1), .v (.ptr b1 (0 + i * 1)), .v (.str t), .v (.int .i64 (.ofNat n_1)), .v (.str t_1), .vh (.slice b2 0 n2 k2) g2, .vh (.tup []) g_1, .v (.int .i64 (.ofNat n_2))]) (by kernel_rfl) <| .cons H1 <| .cons H2 <| .cons H2 <| .cons H2 <| .cons H3 <| .cons H4 <| .cons H5 <| .cons (⟨H6, rfl⟩ : Nat.le (Nat.succ i) n1 ∧ AV.ptr b1 (0 + i * 1) = AV.ptr b1 (0 + i * 1)) <| .cons H7 <| .cons H5 <| .cons (⟨H6, rfl⟩ : Nat.le (Nat.succ i) n1 ∧ AV.ptr b1 (0 + i * 1) = AV.ptr b1 (0 + i * 1)) <| .cons H7 <| .cons H8 <| .cons H9 <| .cons H10 <| .cons (⟨by kernel_rfl, H11, rfl⟩ : some 1 = some 1 ∧ AEv.storeCells g2 p (0 + 2) [AV.slice b2 0 n2 k2] = some g_1 ∧ AV.tup [] = AV.tup []) <| .cons (by kernel_rfl : AV.sound (AV.ptr p (0 + 2)) = true) <| .cons (by kernel_rfl : AV.ptr p (0 + 2) = AV.ptr p (0 + 2)) <| .cons H12 <| .cons H13 <| .cons (by kernel_rfl : AV.sound (AV.ptr a (0 + 2)) = true) <| .cons (by kernel_rfl : AV.ptr a (0 + 2) = AV.ptr a (0 + 2)) <| .cons (by kernel_rfl : AV.sound (AV.slice b1 0 n1 k1) = true) <| .cons H14 <| .cons (by kernel_rfl : AV.sound (AV.int IntKind.i64 (Int.ofNat i)) = true) <| .cons (by kernel_rfl : AV.int IntKind.i64 (Int.ofNat i) = AV.int IntKind.i64 (Int.ofNat i)) <| .cons (by kernel_rfl : AV.sound (AV.ptr b1 (0 + i * 1)) = true) <| .cons (⟨H6, rfl⟩ : Nat.le (Nat.succ i) n1 ∧ AV.ptr b1 (0 + i * 1) = AV.ptr b1 (0 + i * 1)) <| .cons (by kernel_rfl : AV.sound (AV.str t) = true) <| .cons H15 <| .cons (by kernel_rfl : AV.sound (AV.ptr a (0 + 2)) = true) <| .cons (by kernel_rfl : AV.ptr a (0 + 2) = AV.ptr a (0 + 2)) <| .cons (by kernel_rfl : AV.sound (AV.slice b1 0 n1 k1) = true) <| .cons H14 <| .cons (by kernel_rfl : AV.sound (AV.int IntKind.i64 (Int.ofNat i)) = true) <| .cons (by kernel_rfl : AV.int IntKind.i64 (Int.ofNat i) = AV.int IntKind.i64 (Int.ofNat i)) <| .cons (by kernel_rfl : AV.sound (AV.ptr b1 (0 + i * 1)) = true) <| .cons (⟨H6, rfl⟩ : Nat.le (Nat.succ i) n1 ∧ AV.ptr b1 (0 + i * 1) = AV.ptr b1 (0 + i * 1)) <| .cons (by kernel_rfl : AV.sound (AV.str t) = true) <| .cons H15 <| .cons (by kernel_rfl : AV.sound (AV.int IntKind.i64 (Int.ofNat (List.length t))) = true) <| .cons (by kernel_rfl : AV.int IntKind.i64 (Int.ofNat (List.length t)) = AV.int IntKind.i64 (Int.ofNat (List.length t))) <| .cons (by kernel_rfl : AV.sound (AV.int IntKind.i64 (Int.ofNat n_1)) = true) <| .cons H8 <| .cons (by kernel_rfl : AV.sound (AV.str t_1) = true) <| .cons H16 <| .cons (by kernel_rfl : AV.sound (AV.ptr p (0 + 2)) = true) <| .cons (by kernel_rfl : AV.ptr p (0 + 2) = AV.ptr p (0 + 2)) <| .cons H17 <| .nil
theorem rsl_2 (call : CallT → List AV → AHeap → FRes) (a q p i b1 n1 b2 n2 : Nat) (k1 k2 : Cap) (w : AV) (t : List UInt8) (h g2 : AHeap)
    (H1 : load1 h a (0 + 2) = some (.slice b1 0 n1 k1))
    (H2 : ltI (.ofNat i) (.ofNat n1) = true)
    (H3 : ltI (.ofNat i) (.ofNat 20) = false) :
    RunF Try.prog Try.f38 none call [1, 1, 0, 1, 0, 0] (SSt.mk [(1, .ptr a 0), (2, .ptr q 0), (3, .ptr p 0), (4, .int .i64 (.ofNat i))] [] .none h) (.exit 0)
      (SSt.mk [(1, .ptr a 0), (2, .ptr q 0), (3, .ptr p 0), (4, .int .i64 (.ofNat i))] [] .none h) :=
  sxF_run [1, 2, 3, 4] (hs := [.v (.slice b1 0 n1 k1), .b true, .b true, .b true, .b false]) (by kernel_rfl) <| .cons H1 <| .cons H2 <| .cons H2 <| .cons H2 <| .cons H3 <| .nil
theorem rsl_3 (call : CallT → List AV → AHeap → FRes) (a q p i b1 n1 b2 n2 : Nat) (k1 k2 : Cap) (w : AV) (t : List UInt8) (h g2 : AHeap)
    (H1 : load1 h a (0 + 2) = some (.slice b1 0 n1 k1))
    (H2 : ltI (.ofNat i) (.ofNat n1) = false) :
    RunF Try.prog Try.f38 none call [1, 1, 0, 1, 0, 0] (SSt.mk [(1, .ptr a 0), (2, .ptr q 0), (3, .ptr p 0), (4, .int .i64 (.ofNat i))] [] .none h) (.exit 0)
      (SSt.mk [(1, .ptr a 0), (2, .ptr q 0), (3, .ptr p 0), (4, .int .i64 (.ofNat i))] [] .none h) :=
  sxF_run [1, 2, 3, 4] (hs := [.v (.slice b1 0 n1 k1), .b false, .b false, .b false, .b false]) (by kernel_rfl) <| .cons H1 <| .cons H2 <| .cons H2 <| .cons H2 <| .cons (by kernel_rfl : false = false) <| .nil
theorem rslz (call : CallT → List AV → AHeap → FRes) (a q p : Nat) (h : AHeap)
    (H1 : load1 h a (0 + 2) = some .nilS) :
    RunF Try.prog Try.f38 none call [1, 1, 0, 1, 0, 0] (SSt.mk [(1, .ptr a 0), (2, .ptr q 0), (3, .ptr p 0), (4, .int .i64 (.ofNat 0))] [] .none h) (.exit 0)
      (SSt.mk [(1, .ptr a 0), (2, .ptr q 0), (3, .ptr p 0)] [] .none h) :=
  sxF_run [1, 2, 3] (hs := [.v .nilS, .b false, .b false, .b false, .b false]) (by kernel_rfl) <| .cons H1 <| .cons (by kernel_rfl : ltI (Int.ofNat 0) (Int.ofNat 0) = false) <| .cons (by kernel_rfl : ltI (Int.ofNat 0) (Int.ofNat 0) = false) <| .cons (by kernel_rfl : ltI (Int.ofNat 0) (Int.ofNat 0) = false) <| .cons (by kernel_rfl : false = false) <| .nil
theorem rsd_1 (call : CallT → List AV → AHeap → FRes) (a q p i b1 n1 b2 n2 : Nat) (k1 k2 : Cap) (w : AV) (s s2 : List UInt8) (x y : Int) (h g2 g_1 : AHeap) (n_1 : Nat) (t_1 : List UInt8) (g_2 g_3 : AHeap) (n_2 : Nat)
    (H1 : load1 h a (0 + 3) = some (.slice b1 0 n1 k1))
    (H2 : ltI (.ofNat i) (.ofNat n1) = true)
    (H3 : ltI (.ofNat i) (.ofNat 20) = true)
    (H4 : Nat.le (Nat.succ i) n1)
    (H5 : AEv.loadCells h b1 (0 + i * 3) 3 = some [.str s, .int .i64 x, .int .i64 y])
    (H6 : AEv.storeCells (AHeap.push h (.cells [.str [], .int .i64 (.ofNat 0), .int .i64 (.ofNat 0)] 35 .own 0 0)) (AHeap.n h) 0 [.str s, .int .i64 x, .int .i64 y] = some g_1)
    (H7 : load1 g_1 (AHeap.n h) (0 + 0) = some (.str s))
    (H8 : foldA minA (AV.int IntKind.i64 (Int.ofNat (List.length s))) [AV.int IntKind.i64 (Int.ofNat 250)] = some (AV.int IntKind.i64 (Int.ofNat n_1)))
    (H9 : sliceA Try.prog g_1 9 (AV.str s) none (some (AV.int IntKind.i64 (Int.ofNat n_1))) none = some (AV.str t_1))
    (H10 : AEv.storeCells g_1 (AHeap.n h) (0 + 0) [.str t_1] = some g_2)
    (H11 : load1 g_2 p (0 + 3) = some w)
    (H12 : AEv.loadCells g_2 (AHeap.n h) 0 3 = some [.str s2, .int .i64 x, .int .i64 y])
    (H13 : appendA Try.prog (AHeap.push g_2 (AObj.cells [AV.str s2, AV.int IntKind.i64 x, AV.int IntKind.i64 y] 35 BK.own 0 0)) 22 (some 22) w (AV.slice (AHeap.n g_2) 0 1 (Cap.exact 1)) = some (AV.slice b2 0 n2 k2, g2))
    (H14 : AEv.storeCells g2 p (0 + 3) [.slice b2 0 n2 k2] = some g_3)
    (H15 : arith .add .i64 (.ofNat i) (.ofNat 1) = some (.int .i64 (.ofNat n_2))) :
    RunF Try.prog Try.f38 none call [1, 1, 1, 0, 1, 0, 0] (SSt.mk [(1, .ptr a 0), (2, .ptr q 0), (3, .ptr p 0), (5, .int .i64 (.ofNat i))] [] .none h) (.nrm)
      (SSt.mk [(1, .ptr a 0), (2, .ptr q 0), (3, .ptr p 0), (5, .int .i64 (.ofNat n_2))] [] .none g_3) :=
  sxF_run [1, 2, 3, 5] (hs := [.v (.slice b1 0 n1 k1), .b true, .b true, .b true, .b true, .v (.slice b1 0 n1 k1), .v (.ptr b1 (0 + i * 3)), .v (.agg [.str s, .int .i64 x, .int .i64 y]), .vh (.tup []) g_1, .v (.str s), .v (.str s), .v (.int .i64 (.ofNat n_1)), .v (.str t_1), .vh (.tup []) g_2, .v w, .v (.agg [.str s2, .int .i64 x, .int .i64 y]), .vh (.slice b2 0 n2 k2) g2, .vh (.tup []) g_3, .v (.int .i64 (.ofNat n_2))]) (by kernel_rfl) <| .cons H1 <| .cons H2 <| .cons H2 <| .cons H2 <| .cons H3 <| .cons H1 <| .cons (⟨H4, rfl⟩ : Nat.le (Nat.succ i) n1 ∧ AV.ptr b1 (0 + i * 3) = AV.ptr b1 (0 + i * 3)) <| .cons H5 <| .cons (⟨by kernel_rfl, H6, rfl⟩ : some 3 = some 3 ∧ AEv.storeCells (AHeap.push h (AObj.cells [AV.str [], AV.int IntKind.i64 (Int.ofNat 0), AV.int IntKind.i64 (Int.ofNat 0)] 35 BK.own 0 0)) (AHeap.n h) 0 [AV.str s, AV.int IntKind.i64 x, AV.int IntKind.i64 y] = some g_1 ∧ AV.tup [] = AV.tup []) <| .cons H7 <| .cons H7 <| .cons H8 <| .cons H9 <| .cons (⟨by kernel_rfl, H10, rfl⟩ : some 1 = some 1 ∧ AEv.storeCells g_1 (AHeap.n h) (0 + 0) [AV.str t_1] = some g_2 ∧ AV.tup [] = AV.tup []) <| .cons H11 <| .cons H12 <| .cons H13 <| .cons (⟨by kernel_rfl, H14, rfl⟩ : some 1 = some 1 ∧ AEv.storeCells g2 p (0 + 3) [AV.slice b2 0 n2 k2] = some g_3 ∧ AV.tup [] = AV.tup []) <| .cons H15 <| .nil
theorem rsd_2 (call : CallT → List AV → AHeap → FRes) (a q p i b1 n1 b2 n2 : Nat) (k1 k2 : Cap) (w : AV) (s s2 : List UInt8) (x y : Int) (h g2 : AHeap)
    (H1 : load1 h a (0 + 3) = some (.slice b1 0 n1 k1))
    (H2 : ltI (.ofNat i) (.ofNat n1) = true)
    (H3 : ltI (.ofNat i) (.ofNat 20) = false) :
    RunF Try.prog Try.f38 none call [1, 1, 1, 0, 1, 0, 0] (SSt.mk [(1, .ptr a 0), (2, .ptr q 0), (3, .ptr p 0), (5, .int .i64 (.ofNat i))] [] .none h) (.exit 2)
      (SSt.mk [(1, .ptr a 0), (2, .ptr q 0), (3, .ptr p 0), (5, .int .i64 (.ofNat i))] [] .none h) :=
  sxF_run [1, 2, 3, 5] (hs := [.v (.slice b1 0 n1 k1), .b true, .b true, .b true, .b false]) (by kernel_rfl) <| .cons H1 <| .cons H2 <| .cons H2 <| .cons H2 <| .cons H3 <| .nil
theorem rsd_3 (call : CallT → List AV → AHeap → FRes) (a q p i b1 n1 b2 n2 : Nat) (k1 k2 : Cap) (w : AV) (s s2 : List UInt8) (x y : Int) (h g2 : AHeap)
    (H1 : load1 h a (0 + 3) = some (.slice b1 0 n1 k1))
    (H2 : ltI (.ofNat i) (.ofNat n1) = false) :
    RunF Try.prog Try.f38 none call [1, 1, 1, 0, 1, 0, 0] (SSt.mk [(1, .ptr a 0), (2, .ptr q 0), (3, .ptr p 0), (5, .int .i64 (.ofNat i))] [] .none h) (.exit 2)
      (SSt.mk [(1, .ptr a 0), (2, .ptr q 0), (3, .ptr p 0), (5, .int .i64 (.ofNat i))] [] .none h) :=
  sxF_run [1, 2, 3, 5] (hs := [.v (.slice b1 0 n1 k1), .b false, .b false, .b false, .b false]) (by kernel_rfl) <| .cons H1 <| .cons H2 <| .cons H2 <| .cons H2 <| .cons (by kernel_rfl : false = false) <| .nil
theorem rsdz (call : CallT → List AV → AHeap → FRes) (a q p : Nat) (h : AHeap)
    (H1 : load1 h a (0 + 3) = some .nilS) :
    RunF Try.prog Try.f38 none call [1, 1, 1, 0, 1, 0, 0] (SSt.mk [(1, .ptr a 0), (2, .ptr q 0), (3, .ptr p 0), (5, .int .i64 (.ofNat 0))] [] .none h) (.exit 2)
      (SSt.mk [(1, .ptr a 0), (2, .ptr q 0), (3, .ptr p 0)] [] .none h) :=
  sxF_run [1, 2, 3] (hs := [.v .nilS, .b false, .b false, .b false, .b false]) (by kernel_rfl) <| .cons H1 <| .cons (by kernel_rfl : ltI (Int.ofNat 0) (Int.ofNat 0) = false) <| .cons (by kernel_rfl : ltI (Int.ofNat 0) (Int.ofNat 0) = false) <| .cons (by kernel_rfl : ltI (Int.ofNat 0) (Int.ofNat 0) = false) <| .cons (by kernel_rfl : false = false) <| .nil

/-! ### response: of bounded sizes -/
def cutN (k : Nat) (s : List UInt8) : List UInt8 := s.take (min s.length k)
theorem cutN_len (k : Nat) (s : List UInt8) : (cutN k s).length ≤ k := by unfold cutN; rw [List.length_take]; omega
def cutD (d : Dg) : Dg := (cutN 250 d.1, d.2.1, d.2.2)
def rspP (ps : List (List UInt8)) : List (List UInt8) := (ps.take 20).map (cutN 60)
def rspD (l : List Dg) : List Dg := (l.take 20).map cutD
theorem rspP_len (ps : List (List UInt8)) : (rspP ps).length ≤ 20 := by unfold rspP; rw [List.length_map, List.length_take]; omega
theorem rspD_len (l : List Dg) : (rspD l).length ≤ 20 := by unfold rspD; rw [List.length_map, List.length_take]; omega
theorem cut_sl {h : AHeap} (k : Nat) (s : List UInt8) : sliceA Try.prog h 9 (.str s) none (some (.int .i64 (Int.ofNat (min s.length k)))) none = some (.str (cutN k s)) := slice_str_to strt (by omega)
/-- A row that can be read. -/
def RowV {D : Type} (enc : D → List AV) (w : Nat) (h : AHeap) (v : AV) (ds : List D) : Prop :=
  (v = .nilS ∧ ds = []) ∨ ∃ p k, v = .slice p 0 ds.length k ∧ p < h.n ∧ ∀ i (hi : i < ds.length), AEv.loadCells h p (0 + i * w) w = some (enc ds[i])
theorem load1_of {h : AHeap} {p off : Nat} {v : AV} (hl : AEv.loadCells h p off 1 = some [v]) : load1 h p off = some v := by
  unfold AEv.loadCells at hl
  unfold load1
  split at hl
  · rename_i cs _ _ _ _ hg
    have key : ∀ (o : Nat) (l : List AV), takeN 1 (dropN o l) = some [v] → nth o l = some v := by
      intro o
      induction o with
      | zero => intro l hh; cases l with
        | nil => simp [dropN, takeN] at hh
        | cons x l => simpa [dropN, takeN, nth] using hh
      | succ o ih => intro l hh; cases l with
        | nil => cases o <;> simp [dropN, takeN] at hh
        | cons x l => exact ih l hh
    exact key _ _ hl
  · cases hl
theorem drop_get {α : Type} (l : List α) (i : Nat) (hi : i < l.length) (h20 : i < 20) : (l.take 20).drop i = l[i] :: (l.take 20).drop (i + 1) := by
  have h1 : i < (l.take 20).length := by rw [List.length_take]; omega
  rw [List.drop_eq_getElem_cons h1, List.getElem_take]
theorem dgRow : RowTy Try.prog encD 3 35 22 where
  hu := by kernel_rfl
  hsrc := by kernel_rfl
  info := by
    obtain ⟨i, hi⟩ := Option.isSome_iff_exists.1 (show (Try.prog.info? 35).isSome = true by kernel_rfl)
    refine ⟨i, hi, ?_, ?_⟩
    · have : (Try.prog.info? 35).map (·.size) = some 3 := by kernel_rfl
      rw [hi] at this; simpa using this
    · have : (Try.prog.info? 35).map (fun i => Nat.ble i.bytes 1000) = some true := by kernel_rfl
      rw [hi] at this
      exact Nat.le_of_ble_eq_true (by simpa using this)
  zero := ⟨.agg [.str [], .int .i64 (Int.ofNat 0), .int .i64 (Int.ofNat 0)], by kernel_rfl, rfl⟩
  size := by kernel_rfl
  len := fun _ => rfl
  cell := fun _ => rfl
  pos := by decide
section
variable (call : CallT → List AV → AHeap → FRes)
theorem rsl_loop (a q p b1 B : Nat) (k1 : Cap) (cd0 cd nm0 nm : Int) (t0 t : List UInt8) (d0 : AV) (vq : List AV) (tq : Nat) (ps : List (List UInt8)) (hpa : a ≠ p) (hpq : q ≠ p) : ∀ (k i : Nat) (w : AV) (ds : List (List UInt8)) (h : AHeap), min ps.length 20 - i = k → i ≤ min ps.length 20 → ds.length ≤ i →
    h.get a = some (.cells [.int .i64 cd0, .str t0, .slice b1 0 ps.length k1, d0, .int .u64 nm0] 54 .own 0 0) → h.get q = some (.cells vq tq .own 0 0) → h.get p = some (.cells [.int .i64 cd, .str t, w, .nilS, .int .u64 nm] 54 .own 0 0) →
    OutG encS 1 9 B h w ds → (∀ i (hi : i < ps.length), load1 h b1 (0 + i * 1) = some (.str ps[i])) → b1 < B → a < h.n → q < h.n → p < h.n → B ≤ h.n → B ≤ p →
    ∃ w' h', OutG encS 1 9 B h' w' (ds ++ ((ps.take 20).drop i).map (cutN 60)) ∧ h'.get a = h.get a ∧ h'.get q = h.get q ∧ h'.get p = some (.cells [.int .i64 cd, .str t, w', .nilS, .int .u64 nm] 54 .own 0 0) ∧ Ext B h h' ∧
      LoopF Try.prog Try.f38 none call [1, 1, 0, 1, 0] (k + 1) ⟨[(1, .ptr a 0), (2, .ptr q 0), (3, .ptr p 0), (4, .int .i64 (Int.ofNat i))], [], .none, h⟩ (.exit 0) ⟨[(1, .ptr a 0), (2, .ptr q 0), (3, .ptr p 0)], [], .none, h'⟩
  | 0, i, w, ds, h, hk, hi, hds, ha, hq, hp, ho, hl, hb, an, qn, pn, hB, hBp => by
    have hd : (ps.take 20).drop i = [] := List.drop_eq_nil_of_le (by rw [List.length_take]; omega)
    rw [hd, List.map_nil, List.append_nil]
    refine ⟨w, h, ho, rfl, rfl, hp, Ext.refl _ _, ?_⟩
    by_cases h20 : i < ps.length
    · exact .exit (RunP.post (rsl_2 _ _ _ _ _ _ _ (0) (0) _ (.dead) (.nilS) ([]) _ ((emptyHeap 0)) (ld1 ha rfl) (lt_t (by omega)) (lt_f (by omega))) ⟨rfl, rfl, rfl, trivial⟩) (by simp)
    · exact .exit (RunP.post (rsl_3 _ _ _ _ _ _ _ (0) (0) _ (.dead) (.nilS) ([]) _ ((emptyHeap 0)) (ld1 ha rfl) (lt_f (by omega))) ⟨rfl, rfl, rfl, trivial⟩) (by simp)
  | k + 1, i, w, ds, h, hk, hi, hds, ha, hq, hp, ho, hl, hb, an, qn, pn, hB, hBp => by
    have hii : i < ps.length := by omega
    have h20 : i < 20 := by omega
    rw [drop_get ps i hii h20, List.map_cons]
    obtain ⟨G, hG⟩ : ∃ G, G = (h.room 19).set (h.n + 15) (some (.cells (encS (cutN 60 ps[i])) 9 .own 0 0)) := ⟨_, rfl⟩
    have xG : Ext h.n h G := by rw [hG]; exact Ext.setR (by omega) (Ext.roomR (Ext.refl _ _))
    have nG := xG.n
    have oG : OutG encS 1 9 B G w ds := ho.mono xG (Nat.le_refl _)
    have aG := (xG.get a an).trans ha
    have qG := (xG.get q qn).trans hq
    have pG := (xG.get p pn).trans hp
    have sG : srcCells G 1 (.slice (h.n + 15) 0 1 (.exact 1)) = some ([cutN 60 ps[i]].length, rowL encS [cutN 60 ps[i]]) := by
      have : AEv.loadCells G (h.n + 15) 0 (1 * 1) = some (encS (cutN 60 ps[i])) := by rw [hG]; exact ldc (gsame rfl) rfl
      simp only [srcCells, this]; rfl
    obtain ⟨w2, g4, a4, o5, x5, n5, k5⟩ := appG strRow (es := [cutN 60 ps[i]]) oG (by omega) sG (by simp; omega)
    obtain ⟨P, nP, cP, hw2⟩ : ∃ P nP cP, w2 = .slice P 0 nP cP := by
      rcases o5 with ⟨_, e⟩ | ⟨P, e, _⟩
      · simp at e
      · exact ⟨P, _, _, e⟩
    subst hw2
    have a4v := (k5 a (by omega) (oG.ne aG (.inl (by simp)))).trans aG
    have q4v := (k5 q (by omega) (oG.ne qG (.inl (by simp)))).trans qG
    have p4v := (k5 p (by omega) (oG.ne pG (.inl (by simp)))).trans pG
    obtain ⟨g5, hg5⟩ : ∃ g5, g5 = g4.set p (some (.cells [.int .i64 cd, .str t, .slice P 0 nP cP, .nilS, .int .u64 nm] 54 .own 0 0)) := ⟨_, rfl⟩
    have st5 : AEv.storeCells g4 p (0 + 2) [.slice P 0 nP cP] = some g5 := by rw [hg5]; exact stc p4v rfl rfl
    have n5' : g5.n = g4.n := by rw [hg5]; rfl
    have e5 : Ext B h g5 := by rw [hg5]; exact Ext.setR hBp ((xG.le hB).trans (Nat.le_refl _) x5)
    have a5v : g5.get a = h.get a := by rw [hg5, ha]; exact gother hpa a4v
    have q5v : g5.get q = h.get q := by rw [hg5, hq]; exact gother hpq q4v
    have hm := min_n ps[i].length 60
    have lG : load1 G b1 (0 + i * 1) = some (.str ps[i]) := by
      have := hl i hii
      simp only [load1] at this ⊢
      rw [xG.get b1 (by omega)]; exact this
    have lw2 : load1 G p (0 + 2) = some w := ld1 pG rfl
    have la2 : load1 G a (0 + 2) = some (.slice b1 0 ps.length k1) := ld1 aG rfl
    have st1 : RunF Try.prog Try.f38 none call [1, 1, 0, 1, 0, 0] ⟨[(1, .ptr a 0), (2, .ptr q 0), (3, .ptr p 0), (4, .int .i64 (Int.ofNat i))], [], .none, h⟩ .nrm ⟨[(1, .ptr a 0), (2, .ptr q 0), (3, .ptr p 0), (4, .int .i64 (Int.ofNat (i + 1)))], [], .none, g5⟩ := by
      rw [hG] at a4 lw2 la2 lG
      exact (rsl_1 _ _ _ _ _ _ _ _ _ _ _ _ _ _ _ _ _ _ _ (ld1 ha rfl) (lt_t (by omega)) (lt_t (by omega)) (ld1 (groom hp) rfl) (ld1 (groom ha) rfl) (hii) (hl i hii) (hm) (cut_sl 60 _) (a4) (st5) (ho.sound) (lw2) (la2) (lG) (cut_sl 60 _) (add_n (by omega)))
    obtain ⟨w', h', z1, z2, z3, z4, z5, z6⟩ := rsl_loop a q p b1 B k1 cd0 cd nm0 nm t0 t d0 vq tq ps hpa hpq k (i + 1) (.slice P 0 nP cP) (ds ++ [cutN 60 ps[i]]) g5 (by omega) (by omega) (by simp; omega) (a5v.trans ha) (q5v.trans hq) (by rw [hg5]; exact gsame rfl) (by rw [hg5]; exact o5.setOwn p4v)
      (fun j hj => by have := hl j hj; simp only [load1] at this ⊢; rw [e5.get b1 hb]; exact this) hb (by omega) (by omega) (by omega) (by omega) hBp
    exact ⟨w', h', by simpa using z1, z2.trans a5v, z3.trans q5v, z4, e5.trans (Nat.le_refl _) z5, .step st1 z6⟩
theorem rsd_loop (a q p b1 B : Nat) (k1 : Cap) (cd0 cd nm0 nm : Int) (t0 t : List UInt8) (w0 w1 : AV) (vq : List AV) (tq : Nat) (ps : List (List UInt8)) (l : List Dg) (hpa : a ≠ p) (hpq : q ≠ p) : ∀ (k i : Nat) (w : AV) (ds : List Dg) (h : AHeap), min l.length 20 - i = k → i ≤ min l.length 20 → ds.length ≤ i →
    h.get a = some (.cells [.int .i64 cd0, .str t0, w0, .slice b1 0 l.length k1, .int .u64 nm0] 54 .own 0 0) → h.get q = some (.cells vq tq .own 0 0) → h.get p = some (.cells [.int .i64 cd, .str t, w1, w, .int .u64 nm] 54 .own 0 0) →
    OutG encS 1 9 B h w1 ps → OutG encD 3 35 B h w ds → (∀ i (hi : i < l.length), AEv.loadCells h b1 (0 + i * 3) 3 = some (encD l[i])) → b1 < B → a < h.n → q < h.n → p < h.n → B ≤ h.n → B ≤ p →
    ∃ w' h', OutG encS 1 9 B h' w1 ps ∧ OutG encD 3 35 B h' w' (ds ++ ((l.take 20).drop i).map cutD) ∧ h'.get q = h.get q ∧ h'.get p = some (.cells [.int .i64 cd, .str t, w1, w', .int .u64 nm] 54 .own 0 0) ∧ Ext B h h' ∧
      LoopF Try.prog Try.f38 none call [1, 1, 1, 0, 1, 0] (k + 1) ⟨[(1, .ptr a 0), (2, .ptr q 0), (3, .ptr p 0), (5, .int .i64 (Int.ofNat i))], [], .none, h⟩ (.exit 2) ⟨[(1, .ptr a 0), (2, .ptr q 0), (3, .ptr p 0)], [], .none, h'⟩
  | 0, i, w, ds, h, hk, hi, hds, ha, hq, hp, ho1, ho, hl, hb, an, qn, pn, hB, hBp => by
    have hd : (l.take 20).drop i = [] := List.drop_eq_nil_of_le (by rw [List.length_take]; omega)
    rw [hd, List.map_nil, List.append_nil]
    refine ⟨w, h, ho1, ho, rfl, hp, Ext.refl _ _, ?_⟩
    by_cases h20 : i < l.length
    · exact .exit (RunP.post (rsd_2 _ _ _ _ _ _ _ (0) (0) _ (.dead) (.nilS) ([]) ([]) (0) (0) _ ((emptyHeap 0)) (ld1 ha rfl) (lt_t (by omega)) (lt_f (by omega))) ⟨rfl, rfl, rfl, trivial⟩) (by simp)
    · exact .exit (RunP.post (rsd_3 _ _ _ _ _ _ _ (0) (0) _ (.dead) (.nilS) ([]) ([]) (0) (0) _ ((emptyHeap 0)) (ld1 ha rfl) (lt_f (by omega))) ⟨rfl, rfl, rfl, trivial⟩) (by simp)
  | k + 1, i, w, ds, h, hk, hi, hds, ha, hq, hp, ho1, ho, hl, hb, an, qn, pn, hB, hBp => by
    have hii : i < l.length := by omega
    have h20 : i < 20 := by omega
    rw [drop_get l i hii h20, List.map_cons]
    obtain ⟨d, hd⟩ : ∃ d, d = l[i] := ⟨_, rfl⟩
    rw [← hd]
    have hli := hl i hii
    rw [← hd] at hli
    obtain ⟨s, x, y⟩ := d
    obtain ⟨G1, hG1⟩ : ∃ G1, G1 = (h.push (.cells [.str [], .int .i64 (Int.ofNat 0), .int .i64 (Int.ofNat 0)] 35 .own 0 0)).set h.n (some (.cells [.str s, .int .i64 x, .int .i64 y] 35 .own 0 0)) := ⟨_, rfl⟩
    have st1 : AEv.storeCells (h.push (.cells [.str [], .int .i64 (Int.ofNat 0), .int .i64 (Int.ofNat 0)] 35 .own 0 0)) h.n 0 [.str s, .int .i64 x, .int .i64 y] = some G1 := by rw [hG1]; exact stc (gtop rfl) rfl rfl
    have c1 : G1.get h.n = some (.cells [.str s, .int .i64 x, .int .i64 y] 35 .own 0 0) := by rw [hG1]; exact gsame rfl
    have n1 : G1.n = h.n + 1 := by rw [hG1]; rfl
    have x1 : Ext h.n h G1 := by rw [hG1]; exact Ext.setR (Nat.le_refl _) (Ext.pushR (Nat.le_refl _) (Ext.refl _ _))
    obtain ⟨G2, hG2⟩ : ∃ G2, G2 = G1.set h.n (some (.cells [.str (cutN 250 s), .int .i64 x, .int .i64 y] 35 .own 0 0)) := ⟨_, rfl⟩
    have st2 : AEv.storeCells G1 h.n (0 + 0) [.str (cutN 250 s)] = some G2 := by rw [hG2]; exact stc c1 rfl rfl
    have c2 : G2.get h.n = some (.cells [.str (cutN 250 s), .int .i64 x, .int .i64 y] 35 .own 0 0) := by rw [hG2]; exact gsame rfl
    have n2 : G2.n = h.n + 1 := by rw [hG2]; exact n1
    have x2 : Ext h.n h G2 := by rw [hG2]; exact Ext.setR (Nat.le_refl _) x1
    obtain ⟨G, hG⟩ : ∃ G, G = G2.push (.cells (encD (cutD (s, x, y))) 35 .own 0 0) := ⟨_, rfl⟩
    have xG : Ext h.n h G := by rw [hG]; exact Ext.pushR (by omega) x2
    have nG : G.n = h.n + 2 := by rw [hG]; simp only [AHeap.n_push]; omega
    have o1G := ho1.mono xG (Nat.le_refl _)
    have oG := ho.mono xG (Nat.le_refl _)
    have qG := (xG.get q qn).trans hq
    have aG := (xG.get a an).trans ha
    have pG := (xG.get p pn).trans hp
    have p2 := (x2.get p pn).trans hp
    have sG := oneG dgRow G2 35 (cutD (s, x, y))
    rw [← hG] at sG
    obtain ⟨w2, g4, a4, o5, x5, n5, k5⟩ := appG dgRow (es := [cutD (s, x, y)]) oG (by omega) sG (by simp; omega)
    obtain ⟨P, nP, cP, hw2⟩ : ∃ P nP cP, w2 = .slice P 0 nP cP := by
      rcases o5 with ⟨_, e⟩ | ⟨P, e, _⟩
      · simp at e
      · exact ⟨P, _, _, e⟩
    subst hw2
    have a4v := (k5 a (by omega) (oG.ne aG (.inl (by simp)))).trans aG
    have q4v := (k5 q (by omega) (oG.ne qG (.inl (by simp)))).trans qG
    have p4v := (k5 p (by omega) (oG.ne pG (.inl (by simp)))).trans pG
    have o14 : OutG encS 1 9 B g4 w1 ps := by
      refine o1G.keep n5 fun c hc hlt => k5 c hlt ?_
      rcases o1G with ⟨e, _⟩ | ⟨c', e, _, hg, _⟩
      · rw [e] at hc; cases hc
      · rw [e] at hc; cases hc
        exact oG.ne hg (.inr (by decide))
    obtain ⟨g5, hg5⟩ : ∃ g5, g5 = g4.set p (some (.cells [.int .i64 cd, .str t, w1, .slice P 0 nP cP, .int .u64 nm] 54 .own 0 0)) := ⟨_, rfl⟩
    have st5 : AEv.storeCells g4 p (0 + 3) [.slice P 0 nP cP] = some g5 := by rw [hg5]; exact stc p4v rfl rfl
    have n5' : g5.n = g4.n := by rw [hg5]; rfl
    have e5 : Ext B h g5 := by rw [hg5]; exact Ext.setR hBp ((xG.le hB).trans (Nat.le_refl _) x5)
    have a5v : g5.get a = h.get a := by rw [hg5, ha]; exact gother hpa a4v
    have q5v : g5.get q = h.get q := by rw [hg5, hq]; exact gother hpq q4v
    have hm := min_n s.length 250
    have stp : RunF Try.prog Try.f38 none call [1, 1, 1, 0, 1, 0, 0] ⟨[(1, .ptr a 0), (2, .ptr q 0), (3, .ptr p 0), (5, .int .i64 (Int.ofNat i))], [], .none, h⟩ .nrm ⟨[(1, .ptr a 0), (2, .ptr q 0), (3, .ptr p 0), (5, .int .i64 (Int.ofNat (i + 1)))], [], .none, g5⟩ := by
      rw [hG] at a4
      exact (rsd_1 _ _ _ _ _ _ _ _ _ _ _ _ _ _ _ _ _ _ _ _ _ _ _ _ (ld1 ha rfl) (lt_t (by omega)) (lt_t (by omega)) (hii) (hli) (st1) (ld1 c1 rfl) (hm) (cut_sl 250 _) (st2) (ld1 p2 rfl) (ldc c2 rfl) (a4) (st5) (add_n (by omega)))
    obtain ⟨w', h', z0, z1, z3, z4, z5, z6⟩ := rsd_loop a q p b1 B k1 cd0 cd nm0 nm t0 t w0 w1 vq tq ps l hpa hpq k (i + 1) (.slice P 0 nP cP) (ds ++ [cutD (s, x, y)]) g5 (by omega) (by omega) (by simp; omega) (a5v.trans ha) (q5v.trans hq) (by rw [hg5]; exact gsame rfl) (by rw [hg5]; exact o14.setOwn p4v) (by rw [hg5]; exact o5.setOwn p4v)
      (fun j hj => by have := hl j hj; simp only [AEv.loadCells] at this ⊢; rw [e5.get b1 hb]; exact this) hb (by omega) (by omega) (by omega) (by omega) hBp
    exact ⟨w', h', z0, by simpa using z1, z3.trans q5v, z4, e5.trans (Nat.le_refl _) z5, .step stp z6⟩
end
end Go.Proofs.Wire

namespace Go.Proofs.Wire
open Go AEv Go.Proofs Go.Proofs.Enc
set_option maxRecDepth 100000
set_option maxHeartbeats 1000000

/-! ### response, joined -/
theorem rowV_shape {D : Type} {enc : D → List AV} {w : Nat} {h : AHeap} {v : AV} {ds : List D} (ho : RowV enc w h v ds) : (v = .nilS ∧ ds = []) ∨ ∃ p k, v = .slice p 0 ds.length k := by
  rcases ho with h | ⟨p, c, rfl, _⟩
  · exact .inl h
  · exact .inr ⟨_, _, rfl⟩
theorem RowV.mono {D : Type} {enc : D → List AV} {w B : Nat} {h h' : AHeap} {v : AV} {ds : List D} (hr : RowV enc w h v ds) (e : Ext B h h') (hB : h.n ≤ B) : RowV enc w h' v ds := by
  rcases hr with hr | ⟨p, k, hv, hp, hl⟩
  · exact .inl hr
  · refine .inr ⟨p, k, hv, Nat.lt_of_lt_of_le hp e.n, fun i hi => ?_⟩
    have := hl i hi
    simp only [AEv.loadCells] at this ⊢
    rw [e.get p (Nat.lt_of_lt_of_le hp hB)]; exact this
theorem response_c (m : Nat) (cd : Int) (nm : Nat) (t : List UInt8) (ps : List (List UInt8)) (l : List Dg) (w d : AV) (h : AHeap) (h1 : RowV encS 1 h w ps) (h2 : RowV encD 3 h d l) :
    ∃ w' d' h', C (m + 1) (.fn 38) [.agg [.int .i64 cd, .str t, w, d, .int .u64 (Int.ofNat nm)]] h = .ret (.agg [.int .i64 cd, .str (cutN 500 t), w', d', .int .u64 (Int.ofNat nm)]) h' ∧ Ext h.n h h' ∧ RowK encS 1 9 h.n h' w' (rspP ps) ∧ RowK encD 3 35 h.n h' d' (rspD l) := by
  obtain ⟨H, hH⟩ : ∃ H, H = (h.push (.cells [.int .i64 cd, .str t, w, d, .int .u64 (Int.ofNat nm)] 54 .own 0 0)).push (.cells rsp0 54 .own 0 0) := ⟨_, rfl⟩
  have xH : Ext h.n h H := by rw [hH]; exact exA
  have nH : H.n = h.n + 2 := by rw [hH]; simp
  have ga : H.get h.n = some (.cells [.int .i64 cd, .str t, w, d, .int .u64 (Int.ofNat nm)] 54 .own 0 0) := by rw [hH]; exact gold (by simp) (gtop rfl)
  have gq : H.get (h.n + 1) = some (.cells rsp0 54 .own 0 0) := by rw [hH]; exact gtop (by simp)
  have s0 : RunF Try.prog Try.f38 none (C m) [0] ⟨[(0, .agg [.int .i64 cd, .str t, w, d, .int .u64 (Int.ofNat nm)])], [], .none, h⟩ .nrm ⟨[(1, .ptr h.n 0), (2, .ptr (h.n + 1) 0)], [], .none, H⟩ := by
    rw [hH]
    rcases rowV_shape h1 with ⟨rfl, _⟩ | ⟨b1, k1, rfl⟩ <;> rcases rowV_shape h2 with ⟨rfl, _⟩ | ⟨b2, k2, rfl⟩
    · exact rs0nn (C m) cd _ t h
    · exact rs0ns (C m) cd _ t b2 l.length k2 h
    · exact rs0sn (C m) cd _ t b1 ps.length k1 h
    · exact rs0ss (C m) cd _ t b1 ps.length k1 b2 l.length k2 h
  obtain ⟨G0, hG0⟩ : ∃ G0, G0 = (H.room 14).set (H.n + 12) (some (.cells rsp0 54 .own 0 0)) := ⟨_, rfl⟩
  have x0 : Ext H.n H G0 := by rw [hG0]; exact Ext.setR (by omega) (Ext.roomR (Ext.refl _ _))
  have n0 : G0.n = H.n + 14 := by rw [hG0]; rfl
  have gp0 : G0.get (H.n + 12) = some (.cells rsp0 54 .own 0 0) := by rw [hG0]; exact gsame rfl
  have ga0 := (x0.get h.n (by omega)).trans ga
  obtain ⟨G1, hG1⟩ : ∃ G1, G1 = G0.set (H.n + 12) (some (.cells [.int .i64 cd, .str (cutN 500 t), .nilS, .nilS, .int .u64 (Int.ofNat nm)] 54 .own 0 0)) := ⟨_, rfl⟩
  have st1 : AEv.storeCells G0 (H.n + 12) 0 [.int .i64 cd, .str (cutN 500 t), .nilS, .nilS, .int .u64 (Int.ofNat nm)] = some G1 := by rw [hG1]; exact stc gp0 rfl rfl
  have x1 : Ext H.n H G1 := by rw [hG1]; exact Ext.setR (by omega) x0
  have n1 : G1.n = H.n + 14 := by rw [hG1]; exact n0
  have ga1 := (x1.get h.n (by omega)).trans ga
  have gq1 := (x1.get (h.n + 1) (by omega)).trans gq
  have gp1 : G1.get (H.n + 12) = some (.cells [.int .i64 cd, .str (cutN 500 t), .nilS, .nilS, .int .u64 (Int.ofNat nm)] 54 .own 0 0) := by rw [hG1]; exact gsame rfl
  have s1 : RunF Try.prog Try.f38 none (C m) [1, 0] ⟨[(1, .ptr h.n 0), (2, .ptr (h.n + 1) 0)], [], .none, H⟩ .nrm ⟨[(1, .ptr h.n 0), (2, .ptr (h.n + 1) 0), (3, .ptr (H.n + 12) 0)], [], .none, G1⟩ := by
    have l7 : load1 G0 h.n (0 + 0) = some (.int .i64 cd) := ld1 ga0 rfl
    have l8 : load1 G0 h.n (0 + 1) = some (.str t) := ld1 ga0 rfl
    have l10 : load1 G0 h.n (0 + 4) = some (.int .u64 (Int.ofNat nm)) := ld1 ga0 rfl
    rw [hG0] at st1 l7 l8 l10
    exact (rs1 _ _ _ _ _ _ _ _ _ _ (ld1 (groom ga) rfl) (ld1 (groom ga) rfl) (min_n t.length 500) (cut_sl 500 _) (ld1 (groom ga) rfl) (st1) (l7) (l8) (cut_sl 500 _) (l10))
  have X1 : Ext h.n h G1 := xH.trans (by omega) x1
  have hin : ∀ b, b < h.n → G1.get b = h.get b := X1.get
  -- the first loop
  have s2 : ∃ w' g2, OutG encS 1 9 h.n g2 w' (rspP ps) ∧ g2.get h.n = G1.get h.n ∧ g2.get (h.n + 1) = G1.get (h.n + 1) ∧ g2.get (H.n + 12) = some (.cells [.int .i64 cd, .str (cutN 500 t), w', .nilS, .int .u64 (Int.ofNat nm)] 54 .own 0 0) ∧ Ext h.n G1 g2 ∧
      RunF Try.prog Try.f38 none (C m) [1, 1, 0] ⟨[(1, .ptr h.n 0), (2, .ptr (h.n + 1) 0), (3, .ptr (H.n + 12) 0)], [], .none, G1⟩ .nrm ⟨[(1, .ptr h.n 0), (2, .ptr (h.n + 1) 0), (3, .ptr (H.n + 12) 0)], [], .none, g2⟩ := by
    rcases h1 with ⟨rfl, rfl⟩ | ⟨b1, k1, rfl, hb, hl⟩
    · have lp := LoopF.run (p := [1, 1, 0, 1, 0]) (by kernel_rfl) (LoopF.exit (n := 0) (rslz (C m) h.n (h.n + 1) (H.n + 12) G1 (ld1 ga1 rfl)) (by simp)) (by omega)
      exact ⟨.nilS, G1, .inl ⟨rfl, rfl⟩, rfl, rfl, gp1, Ext.refl _ _, rs2 (C m) h.n (h.n + 1) (H.n + 12) G1 G1 (RunP.pre lp ⟨rfl, rfl, rfl, rfl, trivial⟩ rfl rfl rfl)⟩
    · obtain ⟨w', g2, z1, z2, z3, z4, z5, z6⟩ := rsl_loop (C m) h.n (h.n + 1) (H.n + 12) b1 h.n k1 cd cd _ _ t (cutN 500 t) d rsp0 _ ps (by omega) (by omega) (min ps.length 20) 0 .nilS [] G1 (by omega) (by omega) (by simp) ga1 gq1 gp1 (.inl ⟨rfl, rfl⟩)
        (fun i hi => by have := load1_of (hl i hi); simp only [load1] at this ⊢; rw [hin b1 hb]; exact this) hb (by omega) (by omega) (by omega) (by omega) (by omega)
      have lp := LoopF.run (p := [1, 1, 0, 1, 0]) (by kernel_rfl) z6 (by omega)
      exact ⟨w', g2, z1, z2, z3, z4, z5, rs2 (C m) h.n (h.n + 1) (H.n + 12) G1 g2 (RunP.pre lp ⟨rfl, rfl, rfl, rfl, trivial⟩ rfl rfl rfl)⟩
  obtain ⟨w', g2, o2, e2a, e2q, gp2, y2, s2⟩ := s2
  have ga2 := e2a.trans ga1
  have gq2 := e2q.trans gq1
  have n2 := y2.n
  have X2 : Ext h.n h g2 := X1.trans (Nat.le_refl _) y2
  have s3 : ∃ d' g3, OutG encS 1 9 h.n g3 w' (rspP ps) ∧ OutG encD 3 35 h.n g3 d' (rspD l) ∧ g3.get (h.n + 1) = g2.get (h.n + 1) ∧ g3.get (H.n + 12) = some (.cells [.int .i64 cd, .str (cutN 500 t), w', d', .int .u64 (Int.ofNat nm)] 54 .own 0 0) ∧ Ext h.n g2 g3 ∧
      RunF Try.prog Try.f38 none (C m) [1, 1, 1, 0] ⟨[(1, .ptr h.n 0), (2, .ptr (h.n + 1) 0), (3, .ptr (H.n + 12) 0)], [], .none, g2⟩ .nrm ⟨[(1, .ptr h.n 0), (2, .ptr (h.n + 1) 0), (3, .ptr (H.n + 12) 0)], [], .none, g3⟩ := by
    rcases h2 with ⟨rfl, rfl⟩ | ⟨b2, k2, rfl, hb, hl⟩
    · have lp := LoopF.run (p := [1, 1, 1, 0, 1, 0]) (by kernel_rfl) (LoopF.exit (n := 0) (rsdz (C m) h.n (h.n + 1) (H.n + 12) g2 (ld1 ga2 rfl)) (by simp)) (by omega)
      exact ⟨.nilS, g2, o2, .inl ⟨rfl, rfl⟩, rfl, gp2, Ext.refl _ _, rs3 (C m) h.n (h.n + 1) (H.n + 12) g2 g2 (RunP.pre lp ⟨rfl, rfl, rfl, rfl, trivial⟩ rfl rfl rfl)⟩
    · obtain ⟨d', g3, z0, z1, z3, z4, z5, z6⟩ := rsd_loop (C m) h.n (h.n + 1) (H.n + 12) b2 h.n k2 cd cd _ _ t (cutN 500 t) w w' rsp0 _ (rspP ps) l (by omega) (by omega) (min l.length 20) 0 .nilS [] g2 (by omega) (by omega) (by simp) ga2 gq2 gp2 o2 (.inl ⟨rfl, rfl⟩)
        (fun i hi => by have := hl i hi; simp only [AEv.loadCells] at this ⊢; rw [X2.get b2 hb]; exact this) hb (by omega) (by omega) (by omega) (by omega) (by omega)
      have lp := LoopF.run (p := [1, 1, 1, 0, 1, 0]) (by kernel_rfl) z6 (by omega)
      exact ⟨d', g3, z0, z1, z3, z4, z5, rs3 (C m) h.n (h.n + 1) (H.n + 12) g2 g3 (RunP.pre lp ⟨rfl, rfl, rfl, rfl, trivial⟩ rfl rfl rfl)⟩
  obtain ⟨d', g3, o3, o4, e3q, gp3, y3, s3⟩ := s3
  have gq3 := e3q.trans gq2
  have X3 : Ext h.n h g3 := X2.trans (Nat.le_refl _) y3
  have s4 : RunF Try.prog Try.f38 none (C m) [1, 1, 1, 1] ⟨[(1, .ptr h.n 0), (2, .ptr (h.n + 1) 0), (3, .ptr (H.n + 12) 0)], [], .none, g3⟩ .ret ⟨[(2, .ptr (h.n + 1) 0)], [], .none, g3.set (h.n + 1) (some (.cells [.int .i64 cd, .str (cutN 500 t), w', d', .int .u64 (Int.ofNat nm)] 54 .own 0 0))⟩ := by
    have q1 := load5 rfl gp3
    rcases o3 with ⟨rfl, _⟩ | ⟨b1, rfl, _⟩ <;> rcases o4 with ⟨rfl, _⟩ | ⟨b2, rfl, _⟩
    · exact RunP.pre (rs4nn (C m) (H.n + 12) (h.n + 1) cd _ _ g3 _ q1 (stc gq3 rfl rfl)) ⟨rfl, rfl, trivial⟩ rfl rfl rfl
    · exact RunP.pre (rs4ns (C m) (H.n + 12) (h.n + 1) cd _ _ b2 _ _ g3 _ q1 (stc gq3 rfl rfl)) ⟨rfl, rfl, trivial⟩ rfl rfl rfl
    · exact RunP.pre (rs4sn (C m) (H.n + 12) (h.n + 1) cd _ _ b1 _ _ g3 _ q1 (stc gq3 rfl rfl)) ⟨rfl, rfl, trivial⟩ rfl rfl rfl
    · exact RunP.pre (rs4ss (C m) (H.n + 12) (h.n + 1) cd _ _ b1 _ _ b2 _ _ g3 _ q1 (stc gq3 rfl rfl)) ⟨rfl, rfl, trivial⟩ rfl rfl rfl
  refine ⟨w', d', _, fn_runF (intr := Ii) (n := m) (args := [.agg [.int .i64 cd, .str t, w, d, .int .u64 (Int.ofNat nm)]]) Try.func38 (by kernel_rfl) rfl (by kernel_rfl)
    (RunF.seq (p := []) (by kernel_rfl) s0 (RunF.seq (p := [1]) (by kernel_rfl) s1 (RunF.seq (p := [1, 1]) (by kernel_rfl) s2 (RunF.seq (p := [1, 1, 1]) (by kernel_rfl) s3 s4)))) (.inl rfl)
    (resS_cell (t := 2) (ty := 54) (p := h.n + 1) (n := 5) (by kernel_rfl) (by kernel_rfl) (by kernel_rfl) (by kernel_rfl) rfl (load5 rfl (gsame rfl))), Ext.setR (by omega) X3, OutG.rowK (o3.setOwn gq3), OutG.rowK (o4.setOwn gq3)⟩
end Go.Proofs.Wire

namespace Go.Proofs.Wire
open Go AEv Go.Proofs Go.Proofs.Enc
set_option maxRecDepth 100000
set_option maxHeartbeats 1000000

/-! ### The document's Answer; MsgAnswers -/
theorem rowK_sh {D : Type} {enc : D → List AV} {w : Nat} {el : TypeId} {B : Nat} {h : AHeap} {v : AV} {ds : List D} (ho : RowK enc w el B h v ds) : v = .nilS ∨ ∃ p k, v = .slice p 0 ds.length k := by
  rcases ho with ⟨rfl, _⟩ | ⟨p, c, rfl, _⟩
  · exact .inl rfl
  · exact .inr ⟨_, _, rfl⟩
theorem ltI_t {a b : Int} (h : a < b) : ltI a b = true := by simp [ltI]; omega
theorem ltI_f {a b : Int} (h : ¬ a < b) : ltI a b = false := by simp [ltI]; omega
/-- A code that is none. -/
theorem answer_no (m B1 B2 : Nat) (cd nm : Int) (t : List UInt8) (ps : List (List UInt8)) (l : List Dg) (w d : AV) (h : AHeap) (hcd : cd < 0 ∨ 14 < cd) (h1 : RowK encS 1 9 B1 h w ps) (h2 : RowK encD 3 35 B2 h d l) :
    ∃ h', C (m + 1) (.fn 39) [.agg [.int .i64 cd, .str t, w, d, .int .u64 nm]] h = .ret (.str []) h' ∧ Ext h.n h h' := by
  obtain ⟨H, hH⟩ : ∃ H, H = h.push (.cells [.int .i64 cd, .str t, w, d, .int .u64 nm] 54 .own 0 0) := ⟨_, rfl⟩
  have xH : Ext h.n h H := by rw [hH]; exact exA
  have gp : H.get h.n = some (.cells [.int .i64 cd, .str t, w, d, .int .u64 nm] 54 .own 0 0) := by rw [hH]; exact gtop rfl
  have s0 : RunF Try.prog Try.f39 none (C m) [0] ⟨[(0, .agg [.int .i64 cd, .str t, w, d, .int .u64 nm])], [], .none, h⟩ .nrm ⟨[(1, .ptr h.n 0)], [], .none, H⟩ := by
    rw [hH]
    rcases rowK_sh h1 with rfl | ⟨b1, k1, rfl⟩ <;> rcases rowK_sh h2 with rfl | ⟨b2, k2, rfl⟩
    · exact an0nn (C m) _ _ t h
    · exact an0ns (C m) _ _ t b2 l.length k2 h
    · exact an0sn (C m) _ _ t b1 ps.length k1 h
    · exact an0ss (C m) _ _ t b1 ps.length k1 b2 l.length k2 h
  have s1 : RunF Try.prog Try.f39 none (C m) [1, 0] ⟨[(1, .ptr h.n 0)], [], .none, H⟩ .ret ⟨[(1, .ptr h.n 0), (2, .str [])], [], .none, H⟩ := by
    by_cases h0 : cd < 0
    · exact an1_1 (C m) h.n cd H (ld1 gp rfl) (ltI_t h0)
    · exact an1_2 (C m) h.n cd H (ld1 gp rfl) (ltI_f (by omega)) (ltI_t (by rcases hcd with h | h; exact absurd h h0; exact h))
  exact ⟨H, fn_runF (intr := Ii) (n := m) (args := [.agg [.int .i64 cd, .str t, w, d, .int .u64 nm]]) Try.func39 (by kernel_rfl) rfl (by kernel_rfl)
    (RunF.seq (p := []) (by kernel_rfl) s0 (RunF.seqx (p := [1]) (by kernel_rfl) s1 (by simp))) (.inl rfl) (by kernel_rfl), xH⟩
end Go.Proofs.Wire

namespace Go.Proofs.Wire
open Go AEv Go.Proofs Go.Proofs.Enc Go.ChangeShapes Go.WideShapes Go.ChangeAt Go.RowKit Go.ChangeMaps
set_option maxRecDepth 100000
set_option maxHeartbeats 1000000

/-! ### A response that is handed in, in the evaluator -/
/-- Where the rows of a start heap stand. -/
def RowsAt (rows : List (Img × List AV × Nat)) (μ : Mu) (h : AHeap) (B : Nat) : Prop := ∀ (k : Nat) (x : Img × List AV × Nat), rows[k]? = some x → μ (B + k) = some x.1 ∧ h.get (B + k) = some (.cells x.2.1 x.2.2 .ro 0 0) ∧ B + k < h.n
theorem rowsAt_app {r1 r2 : List (Img × List AV × Nat)} {μ : Mu} {h : AHeap} {B : Nat} (hr : RowsAt (r1 ++ r2) μ h B) : RowsAt r1 μ h B ∧ RowsAt r2 μ h (B + r1.length) := by
  refine ⟨fun k x hk => hr k x ?_, fun k x hk => ?_⟩
  · rw [List.getElem?_append_left (List.getElem?_eq_some_iff.1 hk).1]; exact hk
  · have := hr (r1.length + k) x (by rw [List.getElem?_append_right (by omega), Nat.add_sub_cancel_left]; exact hk)
    rw [Nat.add_assoc]; exact this
theorem slice_cells {P : Program} {W : World} {base : Nat} {t e : TypeId} (ht : P.underlying t = some (.slice e)) {a : Addr} {len cap : Nat} (h : Cell.okWide P W .any base t (.slice (some a) len cap)) : ∃ c el fz, W.heap[a.block]? = some (.cells c el fz) := by
  simp only [Cell.okWide, ht, Cell.ok] at h
  obtain ⟨_, _, _, _, row, cells, hs, _⟩ := h
  unfold World.shape? at hs
  cases hb : W.heap[a.block]? with
  | none => simp [hb] at hs
  | some o =>
    rw [hb] at hs
    cases o with
    | cells c el fz => exact ⟨c, el, fz, rfl⟩
    | _ => cases hs
theorem row_dead {W : World} {D : Type} (enc : D → List AV) (w : Nat) {a : Addr} {cap : Nat} {c : Array Value} {el : Nat} {fz : Nat × Nat} (hb : W.heap[a.block]? = some (.cells c el fz)) :
    ∃ rows, (∀ x ∈ rows, RowW W x.1 x.2.1 x.2.2) ∧ ∀ (μ : Mu) (h : AHeap) (B : Nat), RowsAt rows μ h B → ∃ v, RowV enc w h v [] ∧ VRel μ v (.slice (some a) 0 cap) := by
  refine ⟨[(⟨a.block, 0, c.size⟩, [], el)], fun x hx => ?_, fun μ h B hr => ?_⟩
  · have : x = (⟨a.block, 0, c.size⟩, [], el) := by simpa using hx
    subst this
    exact ⟨c, fz, hb, fun μ j v hj => by simp at hj, Nat.zero_add _⟩
  · obtain ⟨h1, h2, h3⟩ := hr 0 _ rfl
    exact ⟨.slice B 0 0 .dead, .inr ⟨B, .dead, rfl, h3, fun i hi => by simp at hi⟩, ⟨_, h1, rfl, a, cap, rfl⟩⟩
theorem row_strs {H : Type} {enc : TypeId × Value → H} {W : World} {sp : Nat → Bool} {held : Bool} {fuel base : Nat} {a0 : Option Addr} {len cap : Nat} {x : DataW H × List MemPlace} (h : DataW.trod enc Try.prog W 0 sp held fuel 38 [.slice a0 len cap] = some x)
    (hok : Cell.okWide Try.prog W .any base 38 (.slice a0 len cap)) :
    ∃ ps rows, (∀ x ∈ rows, RowW W x.1 x.2.1 x.2.2) ∧ ∀ (μ : Mu) (h : AHeap) (B : Nat), RowsAt rows μ h B → ∃ v, RowV encS 1 h v ps ∧ VRel μ v (.slice a0 len cap) := by
  have hu : Try.prog.underlying 38 = some (.slice 9) := by kernel_rfl
  rcases open_strings hu strt (by kernel_rfl) h with ⟨e, _⟩ | ⟨a, len', cap', ss, e, _, hle, _, hsl, _, hc, _⟩
  · cases e
    exact ⟨[], [], by simp, fun μ h B _ => ⟨.nilS, .inl ⟨rfl, rfl⟩, rfl⟩⟩
  · cases e
    by_cases h0 : len = 0
    · subst h0
      obtain ⟨c, el, fz, hb⟩ := slice_cells hu hok
      obtain ⟨rows, r1, r2⟩ := row_dead (W := W) encS 1 (cap := cap) hb
      exact ⟨[], rows, r1, r2⟩
    · have hl : len ≤ ss.length := by rw [hsl]; split <;> omega
      have hcell : ∀ i, i < ss.length → ∃ c el fz, W.heap[a.block]? = some (.cells c el fz) ∧ c[a.off + i]? = some (.string (ss.getD i ByteArray.empty)) ∧ (i = 0 → a.spot = none) := by
        intro i hi
        have hh := hc i hi
        have e0 : (a.add 0).add i = a.add i := by simp [Addr.add]
        obtain ⟨c, el, fz, q1, q2, q3⟩ := cell_add (W := W) (a := a) (m := 0) (j := i) (by rw [e0]; exact hh)
        exact ⟨c, el, fz, q1, by simpa using q2, q3 rfl⟩
      obtain ⟨c, el, fz, hb, hx0, hs⟩ := hcell 0 (by omega)
      have hspot := hs rfl
      have hle' : a.off ≤ c.size := by have := (Array.getElem?_eq_some_iff.1 hx0).1; omega
      refine ⟨(ss.take len).map fun s => s.data.toList, [(⟨a.block, a.off, c.size - a.off⟩, ((ss.take len).map fun s => s.data.toList).map .str, el)], fun x hx => ?_, fun μ h B hr => ?_⟩
      · obtain rfl : x = _ := by simpa using hx
        refine ⟨c, fz, hb, fun μ j v hj => ?_, by simp; omega⟩
        have hjl : j < (ss.take len).length := by
          have := (List.getElem?_eq_some_iff.1 hj).1; simpa using this
        have hjs : j < ss.length := by simp at hjl; omega
        obtain ⟨c', el', fz', hb', hx, _⟩ := hcell j hjs
        rw [hb] at hb'
        cases hb'
        refine ⟨_, hx, ?_⟩
        have hjlen : j < len := by simp at hjl; omega
        simp only [List.getElem?_map, List.getElem?_take, if_pos hjlen, List.getElem?_eq_getElem hjs, Option.map_some, Option.some.injEq] at hj
        subst hj
        refine ⟨_, rfl, ?_⟩
        simp [List.getD, List.getElem?_eq_getElem hjs]
      · obtain ⟨h1, h2, h3⟩ := hr 0 _ rfl
        have hlen : ((ss.take len).map fun s => s.data.toList).length = len := by simp; omega
        refine ⟨.slice B 0 len (.exact cap), .inr ⟨B, .exact cap, by rw [hlen], h3, fun i hi => ?_⟩, ⟨_, h1, ?_⟩⟩
        · have hrow : ((ss.take len).map fun s => s.data.toList).map AV.str = rowL encS ((ss.take len).map fun s => s.data.toList) := by
            generalize (ss.take len).map (fun s => s.data.toList) = L
            induction L with
            | nil => rfl
            | cons x l ih => rw [List.map_cons, rowL_cons, ih]; rfl
          simp only [hrow, Nat.add_zero] at h2
          exact row_load (enc := encS) (w := 1) (rest := []) (fun _ => rfl) (by rw [List.append_nil]; exact h2) hi (by omega)
        · obtain ⟨blk, off, spot⟩ := a
          simp only at hspot
          subst hspot
          rfl
theorem row_diags {H : Type} {enc : TypeId × Value → H} {W : World} {sp : Nat → Bool} {held : Bool} {fuel base : Nat} {a0 : Option Addr} {len cap : Nat} {x : DataW H × List MemPlace} (h : DataW.trod enc Try.prog W 0 sp held fuel 22 [.slice a0 len cap] = some x)
    (hok : Cell.okWide Try.prog W .any base 22 (.slice a0 len cap)) :
    ∃ ds rows, (∀ x ∈ rows, RowW W x.1 x.2.1 x.2.2) ∧ ∀ (μ : Mu) (h : AHeap) (B : Nat), RowsAt rows μ h B → ∃ v, RowV encD 3 h v ds ∧ VRel μ v (.slice a0 len cap) := by
  rcases open_diags h with ⟨rfl, rfl, rfl⟩ | ⟨a, rfl, hle, ds, hl, hc⟩
  · exact ⟨[], [], by simp, fun μ h B _ => ⟨.nilS, .inl ⟨rfl, rfl⟩, rfl⟩⟩
  · by_cases h0 : len = 0
    · subst h0
      obtain ⟨c, el, fz, hb⟩ := slice_cells dgst hok
      obtain ⟨rows, r1, r2⟩ := row_dead (W := W) encD 3 (cap := cap) hb
      exact ⟨[], rows, r1, r2⟩
    · obtain ⟨c, el, fz, hb, hx0, hs⟩ := cell_add (hc 0 (by omega) 0 _ rfl)
      have hspot := hs (by omega) rfl
      have hle : a.off ≤ c.size := by
        have := (Array.getElem?_eq_some_iff.1 hx0).1; omega
      refine ⟨ds, [(⟨a.block, a.off, c.size - a.off⟩, rowL encD ds, el)], fun x hx => ?_, fun μ h B hr => ?_⟩
      · obtain rfl : x = _ := by simpa using hx
        refine ⟨c, fz, hb, fun μ t v hv => ?_, by simp; omega⟩
        have hv' : (ds.flatMap encD)[t]? = some v := hv
        rw [flat_get encD_len] at hv'
        split at hv'
        · rename_i ht
          have hi : t / 3 < ds.length := Nat.div_lt_of_lt_mul (by rw [Nat.mul_comm]; exact ht)
          rw [List.getElem?_eq_getElem hi] at hv'
          have hv2 : (encD ds[t / 3])[t % 3]? = some v := hv'
          have hj : t % 3 < (encV ds[t / 3]).length := by
            show t % 3 < 3
            omega
          obtain ⟨c', el', fz', hb', hx, _⟩ := cell_add (hc (t / 3) hi (t % 3) _ (List.getElem?_eq_getElem hj))
          rw [hb] at hb'
          cases hb'
          have e : a.off + t / 3 * 3 + t % 3 = a.off + t := by omega
          rw [e] at hx
          exact ⟨_, hx, encV_rel2 _ _ _ _ _ hv2 (List.getElem?_eq_getElem hj)⟩
        · cases hv'
      · obtain ⟨h1, h2, h3⟩ := hr 0 _ rfl
        simp only [Nat.add_zero] at h2
        refine ⟨.slice B 0 len (.exact cap), .inr ⟨B, .exact cap, by rw [hl], h3, fun i hi => row_load (rest := []) encD_len (by rw [List.append_nil]; exact h2) hi (by omega)⟩, ⟨_, h1, ?_⟩⟩
        obtain ⟨blk, off, spot⟩ := a
        simp only at hspot
        subst hspot
        rfl
theorem rsp_fields : ∃ f0 f1 f2 f3 f4 : Field, Try.prog.underlying 54 = some (.struct #[f0, f1, f2, f3, f4]) ∧ f2.type = 38 ∧ f3.type = 22 ∧ f2.offset = 2 ∧ f3.offset = 3 := by
  obtain ⟨fs, hfs⟩ : ∃ fs, Try.prog.underlying 54 = some (.struct fs) := by
    have : (match Try.prog.underlying 54 with | some (.struct _) => true | _ => false) = true := by kernel_rfl
    revert this
    cases Try.prog.underlying 54 with
    | none => intro h; cases h
    | some d => cases d <;> intro h <;> first | exact ⟨_, rfl⟩ | cases h
  have k : (match Try.prog.underlying 54 with | some (.struct fs) => fs.toList.map fun f => (f.type, f.offset) | _ => []) = [(29, 0), (9, 1), (38, 2), (22, 3), (52, 4)] := by kernel_rfl
  rw [hfs] at k
  simp only at k
  obtain ⟨l⟩ := fs
  match l, k with
  | [f0, f1, f2, f3, f4], k =>
    simp only [List.map_cons, List.map_nil, List.cons.injEq, Prod.mk.injEq] at k
    exact ⟨f0, f1, f2, f3, f4, hfs, k.2.2.1.1, k.2.2.2.1.1, k.2.2.1.2, k.2.2.2.1.2⟩
theorem cell_slice {P : Program} {W : World} {r : Reach} {base u e : Nat} {v : Value} (hu : P.underlying u = some (.slice e)) (h : Cell.okWide P W r base u v) : ∃ a len cap, v = .slice a len cap := by
  simp only [Cell.okWide, hu] at h
  cases v <;> simp_all [Cell.ok]
theorem open_rsp {H : Type} {enc : TypeId × Value → H} {W : World} {base : Nat} {sp : Nat → Bool} {held : Bool} {fuel : Nat} {v : Value} {x : DataW H × List MemPlace} (hv : Value.okWide Try.prog W .any base 54 v) (h : DataW.trod enc Try.prog W 0 sp held fuel 54 v.cells.toList = some x) :
    ∃ (cd : Int) (nm : Nat) (t : List UInt8) (ps : List (List UInt8)) (ds : List Dg) (rows : List (Img × List AV × Nat)), nm < 18446744073709551616 ∧ (∀ x ∈ rows, RowW W x.1 x.2.1 x.2.2) ∧
      ∀ (μ : Mu) (h : AHeap) (B : Nat), RowsAt rows μ h B → ∃ w d, RowV encS 1 h w ps ∧ RowV encD 3 h d ds ∧ VRel μ (.agg [.int .i64 cd, .str t, w, d, .int .u64 (Int.ofNat nm)]) v := by
  obtain ⟨cs, rfl, hl, hc⟩ := okWide_cells (ts := [29, 9, 38, 22, 52]) (by kernel_rfl) (by kernel_rfl) (by kernel_rfl) hv
  obtain ⟨c0, c1, c2, c3, c4, rfl⟩ : ∃ c0 c1 c2 c3 c4, cs = [c0, c1, c2, c3, c4] := by
    match cs, hl with
    | [c0, c1, c2, c3, c4], _ => exact ⟨c0, c1, c2, c3, c4, rfl⟩
  have hus : Try.prog.underlying 38 = some (.slice 9) := by kernel_rfl
  obtain ⟨cd, rfl, _⟩ := cell_int (u := 29) (by kernel_rfl : Try.prog.underlying 29 = some (.int .i64)) (hc 0 c0 _ rfl rfl)
  obtain ⟨s, rfl⟩ := cell_string strt (hc 1 c1 _ rfl rfl)
  have k2 := hc 2 c2 _ rfl rfl
  have k3 := hc 3 c3 _ rfl rfl
  obtain ⟨a2, l2, p2, rfl⟩ := cell_slice hus k2
  obtain ⟨a3, l3, p3, rfl⟩ := cell_slice dgst k3
  obtain ⟨n, rfl, hn⟩ := cell_int (u := 52) u64t (hc 4 c4 _ rfl rfl)
  obtain ⟨nm, rfl, hnm⟩ : ∃ x : Nat, n = Int.ofNat x ∧ x < 18446744073709551616 := by
    obtain ⟨h1, h2⟩ := hn
    have e1 : IntKind.u64.min = 0 := rfl
    have e2 : IntKind.u64.max = 18446744073709551615 := rfl
    rw [e1] at h1; rw [e2] at h2
    exact ⟨n.toNat, by show n = (n.toNat : Int); omega, by omega⟩
  obtain ⟨f0, f1, f2, f3, f4, hs, t2, t3, o2, o3⟩ := rsp_fields
  have h' : DataW.trod enc Try.prog W 0 sp held fuel 54 [.int .i64 cd, .string s, .slice a2 l2 p2, .slice a3 l3 p3, .int .u64 (Int.ofNat nm)] = some x := h
  obtain ⟨xs, m, _, _, _, hxl, hf⟩ := DataW.trod_struct hs h'
  have g2 := hf 2 f2 rfl
  have g3 := hf 3 f3 rfl
  have hxl' : xs.length = 5 := hxl
  rw [List.getElem?_eq_getElem (by omega), t2, o2, (by kernel_rfl : Try.prog.cellsOf 38 = 1)] at g2
  rw [List.getElem?_eq_getElem (by omega), t3, o3, (by kernel_rfl : Try.prog.cellsOf 22 = 1)] at g3
  obtain ⟨ps, r1, q1, q2⟩ := row_strs g2 k2
  obtain ⟨ds, r2, q3, q4⟩ := row_diags g3 k3
  refine ⟨cd, nm, s.data.toList, ps, ds, r1 ++ r2, hnm, fun x hx => ?_, fun μ h B hr => ?_⟩
  · rcases List.mem_append.1 hx with hx | hx
    · exact q1 x hx
    · exact q3 x hx
  · obtain ⟨e1, e2⟩ := rowsAt_app hr
    obtain ⟨w, z1, z2⟩ := q2 μ h B e1
    obtain ⟨d, z3, z4⟩ := q4 μ h _ e2
    exact ⟨w, d, z1, z3, ⟨_, rfl, _, _, rfl, rfl, _, _, rfl, ⟨s, rfl, rfl⟩, _, _, rfl, z2, _, _, rfl, z4, _, _, rfl, rfl, rfl⟩⟩
/-- The start heap of a call with such rows. -/
theorem rowsAt_start {rows : List (Img × List AV × Nat)} : RowsAt rows (muN Try.prog.globals.size (rows.map (·.1))) (heapN Try.prog.globals.size (rows.map (·.2))) Try.prog.globals.size := by
  intro k x hk
  refine ⟨muN_at hk, heapN_at hk, ?_⟩
  have := (List.getElem?_eq_some_iff.1 hk).1
  rw [heapN_n, List.length_map]; omega
end Go.Proofs.Wire
