/-
  PROVED HERE: contracts of functions (Dc). No condition beside each statement's own.
-/
import Derived.Test.YtbndinilpflomaaDb
import Derived.Test.YtbndinilpflomaaDa
set_option linter.unusedVariables false
set_option linter.unusedSimpArgs false
namespace Go.Proofs.Wire
open Go AEv Go.Proofs Go.Proofs.Enc
set_option maxRecDepth 100000
set_option maxHeartbeats 400000

theorem my_1 (call : CallT → List AV → AHeap → FRes) (a : List UInt8) (x x2 : Int) (h : AHeap)
    (H1 : load1 (AHeap.push h (.cells [.str a, .int .i64 x, .int .i64 x2] 35 .own 0 0)) (AHeap.n h) (0 + 2) = some (.int .i64 x2))
    (H2 : leI (.ofNat 1) x2 = true)
    (H3 : leI x2 (.ofNat 13) = true)
    (H4 : load1 (AHeap.push h (.cells [.str a, .int .i64 x, .int .i64 x2] 35 .own 0 0)) (AHeap.n h) (0 + 1) = some (.int .i64 x))
    (H5 : leI (.ofNat 0) x = true)
    (H6 : leI x (.ofNat 2147483647) = true)
    (H7 : load1 (AHeap.push h (.cells [.str a, .int .i64 x, .int .i64 x2] 35 .own 0 0)) (AHeap.n h) (0 + 0) = some (.str a)) :
    RunF Try.prog Try.f45 none call [] (SSt.mk [(0, .agg [.str a, .int .i64 x, .int .i64 x2])] [] .none h) (.ret)
      (SSt.mk [(2, .bool (leI (.ofNat (List.length a)) (.ofNat 200)))] [] .none (AHeap.push h (.cells [.str a, .int .i64 x, .int .i64 x2] 35 .own 0 0))) :=
  sxF_run [2] (hs := [.v (.int .i64 x2), .b true, .b true, .v (.int .i64 x2), .b true, .b true, .b true, .b true, .v (.int .i64 x), .b true, .b true, .b true, .b true, .v (.int .i64 x), .b true, .b true, .b true, .b true, .v (.str a), .b true, .b true, .b true]) (by kernel_rfl) <| .cons H1 <| .cons H2 <| .cons H2 <| .cons H1 <| .cons H2 <| .cons H2 <| .cons H3 <| .cons H3 <| .cons H4 <| .cons H3 <| .cons H3 <| .cons H5 <| .cons H5 <| .cons H4 <| .cons H5 <| .cons H5 <| .cons H6 <| .cons H6 <| .cons H7 <| .cons H6 <| .cons H6 <| .cons H6 <| .nil
theorem my_2 (call : CallT → List AV → AHeap → FRes) (a : List UInt8) (x x2 : Int) (h : AHeap)
    (H1 : load1 (AHeap.push h (.cells [.str a, .int .i64 x, .int .i64 x2] 35 .own 0 0)) (AHeap.n h) (0 + 2) = some (.int .i64 x2))
    (H2 : leI (.ofNat 1) x2 = true)
    (H3 : leI x2 (.ofNat 13) = true)
    (H4 : load1 (AHeap.push h (.cells [.str a, .int .i64 x, .int .i64 x2] 35 .own 0 0)) (AHeap.n h) (0 + 1) = some (.int .i64 x))
    (H5 : leI (.ofNat 0) x = true)
    (H6 : leI x (.ofNat 2147483647) = false) :
    RunF Try.prog Try.f45 none call [] (SSt.mk [(0, .agg [.str a, .int .i64 x, .int .i64 x2])] [] .none h) (.ret)
      (SSt.mk [(2, .bool false)] [] .none (AHeap.push h (.cells [.str a, .int .i64 x, .int .i64 x2] 35 .own 0 0))) :=
  sxF_run [2] (hs := [.v (.int .i64 x2), .b true, .b true, .v (.int .i64 x2), .b true, .b true, .b true, .b true, .v (.int .i64 x), .b true, .b true, .b true, .b true, .v (.int .i64 x), .b true, .b true, .b false, .b false, .b false, .b false, .b false]) (by kernel_rfl) <| .cons H1 <| .cons H2 <| .cons H2 <| .cons H1 <| .cons H2 <| .cons H2 <| .cons H3 <| .cons H3 <| .cons H4 <| .cons H3 <| .cons H3 <| .cons H5 <| .cons H5 <| .cons H4 <| .cons H5 <| .cons H5 <| .cons H6 <| .cons H6 <| .cons H6 <| .cons H6 <| .cons H6 <| .nil
theorem my_3 (call : CallT → List AV → AHeap → FRes) (a : List UInt8) (x x2 : Int) (h : AHeap)
    (H1 : load1 (AHeap.push h (.cells [.str a, .int .i64 x, .int .i64 x2] 35 .own 0 0)) (AHeap.n h) (0 + 2) = some (.int .i64 x2))
    (H2 : leI (.ofNat 1) x2 = true)
    (H3 : leI x2 (.ofNat 13) = true)
    (H4 : load1 (AHeap.push h (.cells [.str a, .int .i64 x, .int .i64 x2] 35 .own 0 0)) (AHeap.n h) (0 + 1) = some (.int .i64 x))
    (H5 : leI (.ofNat 0) x = false) :
    RunF Try.prog Try.f45 none call [] (SSt.mk [(0, .agg [.str a, .int .i64 x, .int .i64 x2])] [] .none h) (.ret)
      (SSt.mk [(2, .bool false)] [] .none (AHeap.push h (.cells [.str a, .int .i64 x, .int .i64 x2] 35 .own 0 0))) :=
  sxF_run [2] (hs := [.v (.int .i64 x2), .b true, .b true, .v (.int .i64 x2), .b true, .b true, .b true, .b true, .v (.int .i64 x), .b true, .b true, .b false, .b false, .b false, .b false, .b false, .b false, .b false, .b false, .b false]) (by kernel_rfl) <| .cons H1 <| .cons H2 <| .cons H2 <| .cons H1 <| .cons H2 <| .cons H2 <| .cons H3 <| .cons H3 <| .cons H4 <| .cons H3 <| .cons H3 <| .cons H5 <| .cons H5 <| .cons H5 <| .cons H5 <| .cons (by kernel_rfl : false = false) <| .cons (by kernel_rfl : false = false) <| .cons (by kernel_rfl : false = false) <| .cons (by kernel_rfl : false = false) <| .cons (by kernel_rfl : false = false) <| .nil
theorem my_4 (call : CallT → List AV → AHeap → FRes) (a : List UInt8) (x x2 : Int) (h : AHeap)
    (H1 : load1 (AHeap.push h (.cells [.str a, .int .i64 x, .int .i64 x2] 35 .own 0 0)) (AHeap.n h) (0 + 2) = some (.int .i64 x2))
    (H2 : leI (.ofNat 1) x2 = true)
    (H3 : leI x2 (.ofNat 13) = false) :
    RunF Try.prog Try.f45 none call [] (SSt.mk [(0, .agg [.str a, .int .i64 x, .int .i64 x2])] [] .none h) (.ret)
      (SSt.mk [(2, .bool false)] [] .none (AHeap.push h (.cells [.str a, .int .i64 x, .int .i64 x2] 35 .own 0 0))) :=
  sxF_run [2] (hs := [.v (.int .i64 x2), .b true, .b true, .v (.int .i64 x2), .b true, .b true, .b false, .b false, .b false, .b false, .b false, .b false, .b false, .b false, .b false, .b false, .b false, .b false, .b false]) (by kernel_rfl) <| .cons H1 <| .cons H2 <| .cons H2 <| .cons H1 <| .cons H2 <| .cons H2 <| .cons H3 <| .cons H3 <| .cons H3 <| .cons H3 <| .cons (by kernel_rfl : false = false) <| .cons (by kernel_rfl : false = false) <| .cons (by kernel_rfl : false = false) <| .cons (by kernel_rfl : false = false) <| .cons (by kernel_rfl : false = false) <| .cons (by kernel_rfl : false = false) <| .cons (by kernel_rfl : false = false) <| .cons (by kernel_rfl : false = false) <| .cons (by kernel_rfl : false = false) <| .nil
theorem my_5 (call : CallT → List AV → AHeap → FRes) (a : List UInt8) (x x2 : Int) (h : AHeap)
    (H1 : load1 (AHeap.push h (.cells [.str a, .int .i64 x, .int .i64 x2] 35 .own 0 0)) (AHeap.n h) (0 + 2) = some (.int .i64 x2))
    (H2 : leI (.ofNat 1) x2 = false) :
    RunF Try.prog Try.f45 none call [] (SSt.mk [(0, .agg [.str a, .int .i64 x, .int .i64 x2])] [] .none h) (.ret)
      (SSt.mk [(2, .bool false)] [] .none (AHeap.push h (.cells [.str a, .int .i64 x, .int .i64 x2] 35 .own 0 0))) :=
  sxF_run [2] (hs := [.v (.int .i64 x2), .b false, .b false, .b false, .b false, .b false, .b false, .b false, .b false, .b false, .b false, .b false, .b false, .b false, .b false, .b false, .b false, .b false]) (by kernel_rfl) <| .cons H1 <| .cons H2 <| .cons H2 <| .cons H2 <| .cons H2 <| .cons (by kernel_rfl : false = false) <| .cons (by kernel_rfl : false = false) <| .cons (by kernel_rfl : false = false) <| .cons (by kernel_rfl : false = false) <| .cons (by kernel_rfl : false = false) <| .cons (by kernel_rfl : false = false) <| .cons (by kernel_rfl : false = false) <| .cons (by kernel_rfl : false = false) <| .cons (by kernel_rfl : false = false) <| .cons (by kernel_rfl : false = false) <| .cons (by kernel_rfl : false = false) <| .cons (by kernel_rfl : false = false) <| .cons (by kernel_rfl : false = false) <| .nil
theorem nmy (call : CallT → List AV → AHeap → FRes) (a : List UInt8) (x x2 : Int) (t : Bool) (h g : AHeap)
    (H1 : AEv.loadCells (AHeap.push h (.cells [.str a, .int .i64 x, .int .i64 x2] 35 .own 0 0)) (AHeap.n h) 0 3 = some [.str a, .int .i64 x, .int .i64 x2])
    (H2 : call (.fn 45) [.agg [.str a, .int .i64 x, .int .i64 x2]] (AHeap.push h (.cells [.str a, .int .i64 x, .int .i64 x2] 35 .own 0 0)) = FRes.ret (.bool t) g) :
    RunF Try.prog Try.f44 none call [] (SSt.mk [(0, .agg [.str a, .int .i64 x, .int .i64 x2])] [] .none h) (.ret)
      (SSt.mk [(2, .bool !t)] [] .none g) :=
  sxF_run [2] (hs := [.v (.agg [.str a, .int .i64 x, .int .i64 x2]), .c (.bool t) g]) (by kernel_rfl) <| .cons H1 <| .cons H2 <| .nil
theorem cln0 (call : CallT → List AV → AHeap → FRes) (h : AHeap) :
    RunF Try.prog Try.f43 none call [] (SSt.mk [(0, .nilS)] [] .none h) (.ret)
      (SSt.mk [(2, .nilS)] [] .none h) :=
  sxF_run [2] (hs := [.v (.bool true), .b true]) (by kernel_rfl) <| .cons (by kernel_rfl : binA Try.prog h BinOp.eql 22 (Operand.tmp 3) (Operand.const (Value.slice none 0 0)) AV.nilS AV.nilS = some (AV.bool true)) <| .cons (by kernel_rfl : true = true) <| .nil
theorem cln (call : CallT → List AV → AHeap → FRes) (b off n : Nat) (c : Cap) (v : AV) (h g : AHeap)
    (H1 : appendA Try.prog (AHeap.push h (AObj.cells [] 35 BK.own 0 0)) 22 (some 22) (AV.slice (AHeap.n h) 0 0 (Cap.exact 0)) (AV.slice b off n c) = some (v, g)) :
    RunF Try.prog Try.f43 none call [] (SSt.mk [(0, .slice b off n c)] [] .none h) (.ret)
      (SSt.mk [(2, v)] [] .none g) :=
  sxF_run [2] (hs := [.v (.bool false), .b false, .vh v g]) (by kernel_rfl) <| .cons (by kernel_rfl : binA Try.prog h BinOp.eql 22 (Operand.tmp 3) (Operand.const (Value.slice none 0 0)) (AV.slice b off n c) AV.nilS = some (AV.bool false)) <| .cons (by kernel_rfl : false = false) <| .cons H1 <| .nil
theorem ixf (call : CallT → List AV → AHeap → FRes) (b n : Nat) (c : Cap) (h g : AHeap)
    (H1 : RunF Try.prog Try.f76 none call [1, 0, 1, 0] (SSt.mk [(8, .int .i64 (.ofNat 0)), (7, .int .i64 (.ofNat n)), (4, .int .i64 (.ofNat 0)), (0, .slice b 0 n c), (1, .fn 44 [] [])] [] .none h) (.exit 0) (SSt.mk [] [] .none g)) :
    RunF Try.prog Try.f76 none call [] (SSt.mk [(0, .slice b 0 n c), (1, .fn 44 [] [])] [] .none h) (.ret)
      (SSt.mk [(4, .int .i64 (.negSucc 0))] [] .none g) :=
  sxF_run [4] (hs := [Hint.loop (AEx.exit 0) (SSt.mk [] [] Rc.none g)]) (by kernel_rfl) <| .cons H1 <| .nil
theorem ixr (call : CallT → List AV → AHeap → FRes) (b n i : Nat) (c : Cap) (h g : AHeap)
    (H1 : RunF Try.prog Try.f76 none call [1, 0, 1, 0] (SSt.mk [(8, .int .i64 (.ofNat 0)), (7, .int .i64 (.ofNat n)), (4, .int .i64 (.ofNat 0)), (0, .slice b 0 n c), (1, .fn 44 [] [])] [] .none h) (.ret) (SSt.mk [(4, .int .i64 (.ofNat i))] [] .none g)) :
    RunF Try.prog Try.f76 none call [] (SSt.mk [(0, .slice b 0 n c), (1, .fn 44 [] [])] [] .none h) (.ret)
      (SSt.mk [(4, .int .i64 (.ofNat i))] [] .none g) :=
  sxF_run [4] (hs := [Hint.loop AEx.ret (SSt.mk [(4, AV.int IntKind.i64 (Int.ofNat i))] [] Rc.none g)]) (by kernel_rfl) <| .cons H1 <| .nil
theorem ixl_1 (call : CallT → List AV → AHeap → FRes) (b n i : Nat) (c : Cap) (a : List UInt8) (x x2 : Int) (t : Bool) (h g : AHeap)
    (H1 : ltI (.ofNat i) (.ofNat n) = true)
    (H2 : Nat.le (Nat.succ i) n)
    (H3 : AEv.loadCells h b (0 + i * 3) 3 = some [.str a, .int .i64 x, .int .i64 x2])
    (H4 : call (.fn 44) [.agg [.str a, .int .i64 x, .int .i64 x2]] h = FRes.ret (.bool t) g)
    (H5 : t = true) :
    RunF Try.prog Try.f76 none call [1, 0, 1, 0, 0] (SSt.mk [(0, .slice b 0 n c), (1, .fn 44 [] []), (7, .int .i64 (.ofNat n)), (8, .int .i64 (.ofNat i))] [] .none h) (.ret)
      (SSt.mk [(0, .slice b 0 n c), (1, .fn 44 [] []), (4, .int .i64 (.ofNat i)), (7, .int .i64 (.ofNat n)), (8, .int .i64 (.ofNat i))] [] .none g) :=
  sxF_run [0, 1, 4, 7, 8] (hs := [.b true, .v (.ptr b (0 + i * 3)), .v (.agg [.str a, .int .i64 x, .int .i64 x2]), .c (.bool t) g, .b true]) (by kernel_rfl) <| .cons H1 <| .cons (⟨H2, rfl⟩ : Nat.le (Nat.succ i) n ∧ AV.ptr b (0 + i * 3) = AV.ptr b (0 + i * 3)) <| .cons H3 <| .cons H4 <| .cons H5 <| .nil
theorem ixl_2 (call : CallT → List AV → AHeap → FRes) (b n i : Nat) (c : Cap) (a : List UInt8) (x x2 : Int) (t : Bool) (h g : AHeap) (n_1 : Nat)
    (H1 : ltI (.ofNat i) (.ofNat n) = true)
    (H2 : Nat.le (Nat.succ i) n)
    (H3 : AEv.loadCells h b (0 + i * 3) 3 = some [.str a, .int .i64 x, .int .i64 x2])
    (H4 : call (.fn 44) [.agg [.str a, .int .i64 x, .int .i64 x2]] h = FRes.ret (.bool t) g)
    (H5 : t = false)
    (H6 : arith .add .i64 (.ofNat i) (.ofNat 1) = some (.int .i64 (.ofNat n_1))) :
    RunF Try.prog Try.f76 none call [1, 0, 1, 0, 0] (SSt.mk [(0, .slice b 0 n c), (1, .fn 44 [] []), (7, .int .i64 (.ofNat n)), (8, .int .i64 (.ofNat i))] [] .none h) (.nrm)
      (SSt.mk [(0, .slice b 0 n c), (1, .fn 44 [] []), (7, .int .i64 (.ofNat n)), (8, .int .i64 (.ofNat n_1))] [] .none g) :=
  sxF_run [0, 1, 4, 7, 8] (hs := [.b true, .v (.ptr b (0 + i * 3)), .v (.agg [.str a, .int .i64 x, .int .i64 x2]), .c (.bool t) g, .b false, .v (.int .i64 (.ofNat n_1))]) (by kernel_rfl) <| .cons H1 <| .cons (⟨H2, rfl⟩ : Nat.le (Nat.succ i) n ∧ AV.ptr b (0 + i * 3) = AV.ptr b (0 + i * 3)) <| .cons H3 <| .cons H4 <| .cons H5 <| .cons H6 <| .nil
theorem ixl_3 (call : CallT → List AV → AHeap → FRes) (b n i : Nat) (c : Cap) (a : List UInt8) (x x2 : Int) (t : Bool) (h g : AHeap)
    (H1 : ltI (.ofNat i) (.ofNat n) = false) :
    RunF Try.prog Try.f76 none call [1, 0, 1, 0, 0] (SSt.mk [(0, .slice b 0 n c), (1, .fn 44 [] []), (7, .int .i64 (.ofNat n)), (8, .int .i64 (.ofNat i))] [] .none h) (.exit 0)
      (SSt.mk [(0, .slice b 0 n c), (1, .fn 44 [] []), (7, .int .i64 (.ofNat n)), (8, .int .i64 (.ofNat i))] [] .none h) :=
  sxF_run [0, 1, 4, 7, 8] (hs := [.b false]) (by kernel_rfl) <| .cons H1 <| .nil
theorem ix0 (call : CallT → List AV → AHeap → FRes) (h g : AHeap)
    (H1 : RunF Try.prog Try.f76 none call [1, 0, 1, 0] (SSt.mk [(8, .int .i64 (.ofNat 0)), (7, .int .i64 (.ofNat 0)), (4, .int .i64 (.ofNat 0)), (0, .nilS), (1, .fn 44 [] [])] [] .none h) (.exit 0) (SSt.mk [] [] .none g)) :
    RunF Try.prog Try.f76 none call [] (SSt.mk [(0, .nilS), (1, .fn 44 [] [])] [] .none h) (.ret)
      (SSt.mk [(4, .int .i64 (.negSucc 0))] [] .none g) :=
  sxF_run [4] (hs := [Hint.loop (AEx.exit 0) (SSt.mk [] [] Rc.none g)]) (by kernel_rfl) <| .cons H1 <| .nil
theorem ix0l (call : CallT → List AV → AHeap → FRes) (h : AHeap) :
    RunF Try.prog Try.f76 none call [1, 0, 1, 0, 0] (SSt.mk [(7, .int .i64 (.ofNat 0)), (8, .int .i64 (.ofNat 0))] [] .none h) (.exit 0)
      (SSt.mk [] [] .none h) :=
  sxF_run [] (hs := [.b false]) (by kernel_rfl) <| .cons (by kernel_rfl : ltI (Int.ofNat 0) (Int.ofNat 0) = false) <| .nil
theorem df0 (call : CallT → List AV → AHeap → FRes) (v : AV) (h g : AHeap)
    (H1 : call (.fn 76) [v, .fn 44 [] []] h = FRes.ret (.int .i64 (.negSucc 0)) g) :
    RunF Try.prog Try.f42 none call [] (SSt.mk [(0, v), (1, .fn 44 [] [])] [] .none h) (.ret)
      (SSt.mk [(4, v)] [] .none g) :=
  sxF_run [4] (hs := [.c (.int .i64 (.negSucc 0)) g, .b true]) (by kernel_rfl) <| .cons H1 <| .cons (by kernel_rfl : eqI (Int.negSucc 0) (Int.negSucc 0) = true) <| .nil
theorem df1 (call : CallT → List AV → AHeap → FRes) (b n i j : Nat) (c : Cap) (v w : AV) (h g g2 g3 : AHeap) (n_1 : Nat)
    (H1 : call (.fn 76) [.slice b 0 n c, .fn 44 [] []] h = FRes.ret (.int .i64 (.ofNat i)) g)
    (H2 : arith .add .i64 (.ofNat i) (.ofNat 1) = some (.int .i64 (.ofNat n_1)))
    (H3 : RunF Try.prog Try.f42 none call [1, 1, 1, 0, 1, 0] (SSt.mk [(6, .int .i64 (.ofNat n_1)), (12, .bool (eqI (.ofNat i) (.negSucc 0))), (5, .int .i64 (.ofNat i)), (4, .nilS), (0, .slice b 0 n c), (1, .fn 44 [] [])] [] .none g) (.exit 0) (SSt.mk [(0, .slice b 0 n c), (5, .int .i64 (.ofNat j))] [] .none g2))
    (H4 : sliceA Try.prog g2 22 (AV.slice b 0 n c) (some (AV.int IntKind.i64 (Int.ofNat j))) none none = some (AV.slice b (0 + j * 3) (n - j) c))
    (H5 : clearA Try.prog g2 22 (AV.slice b (0 + j * 3) (n - j) c) = some (AV.tup [], g3))
    (H6 : sliceA Try.prog g3 22 (AV.slice b 0 n c) none (some (AV.int IntKind.i64 (Int.ofNat j))) none = some w) :
    RunF Try.prog Try.f42 none call [] (SSt.mk [(0, .slice b 0 n c), (1, .fn 44 [] [])] [] .none h) (.ret)
      (SSt.mk [(4, w)] [] .none g3) :=
  sxF_run [4] (hs := [Hint.c (AV.int IntKind.i64 (Int.ofNat i)) g, Hint.b false, Hint.v (AV.int IntKind.i64 (Int.ofNat n_1)), Hint.loop (AEx.exit 0) (SSt.mk [(0, AV.slice b 0 n c), (5, AV.int IntKind.i64 (Int.ofNat j))] [] Rc.none g2), Hint.v (AV.slice b (0 + j * 3) (n - j) c), Hint.vh (AV.tup []) g3, Hint.v w]) (by kernel_rfl) <| .cons H1 <| .cons (by kernel_rfl : eqI (Int.ofNat i) (Int.negSucc 0) = false) <| .cons H2 <| .cons H3 <| .cons H4 <| .cons H5 <| .cons H6 <| .nil
theorem dfl_1 (call : CallT → List AV → AHeap → FRes) (b n i j : Nat) (c : Cap) (a : List UInt8) (x x2 : Int) (t : Bool) (h g g1 g2 g_1 : AHeap) (n_1 n_2 : Nat)
    (H1 : ltI (.ofNat i) (.ofNat n) = true)
    (H2 : Nat.le (Nat.succ i) n)
    (H3 : AEv.loadCells h b (0 + i * 3) 3 = some [.str a, .int .i64 x, .int .i64 x2])
    (H4 : AEv.storeCells (AHeap.push h (.cells [.str [], .int .i64 (.ofNat 0), .int .i64 (.ofNat 0)] 35 .own 0 0)) (AHeap.n h) 0 [.str a, .int .i64 x, .int .i64 x2] = some g1)
    (H5 : AEv.loadCells g1 (AHeap.n h) 0 3 = some [.str a, .int .i64 x, .int .i64 x2])
    (H6 : call (.fn 44) [.agg [.str a, .int .i64 x, .int .i64 x2]] g1 = FRes.ret (.bool t) g)
    (H7 : (!t) = true)
    (H8 : AEv.loadCells g (AHeap.n h) 0 3 = some [.str a, .int .i64 x, .int .i64 x2])
    (H9 : Nat.le (Nat.succ j) n)
    (H10 : AEv.storeCells g b (0 + j * 3) [.str a, .int .i64 x, .int .i64 x2] = some g_1)
    (H11 : arith .add .i64 (.ofNat j) (.ofNat 1) = some (.int .i64 (.ofNat n_1)))
    (H12 : arith .add .i64 (.ofNat i) (.ofNat 1) = some (.int .i64 (.ofNat n_2))) :
    RunF Try.prog Try.f42 none call [1, 1, 1, 0, 1, 0, 0] (SSt.mk [(0, .slice b 0 n c), (1, .fn 44 [] []), (5, .int .i64 (.ofNat j)), (6, .int .i64 (.ofNat i))] [] .none h) (.nrm)
      (SSt.mk [(0, .slice b 0 n c), (1, .fn 44 [] []), (5, .int .i64 (.ofNat n_1)), (6, .int .i64 (.ofNat n_2))] [] .none g_1) :=
  sxF_run [0, 1, 5, 6] (hs := [.b true, .v (.ptr b (0 + i * 3)), .v (.agg [.str a, .int .i64 x, .int .i64 x2]), .vh (.tup []) g1, .v (.agg [.str a, .int .i64 x, .int .i64 x2]), .c (.bool t) g, .b true, .v (.agg [.str a, .int .i64 x, .int .i64 x2]), .v (.ptr b (0 + j * 3)), .vh (.tup []) g_1, .v (.int .i64 (.ofNat n_1)), .v (.int .i64 (.ofNat n_2))]) (by kernel_rfl) <| .cons H1 <| .cons (⟨H2, rfl⟩ : Nat.le (Nat.succ i) n ∧ AV.ptr b (0 + i * 3) = AV.ptr b (0 + i * 3)) <| .cons H3 <| .cons (⟨by kernel_rfl, H4, rfl⟩ : some 3 = some 3 ∧ AEv.storeCells (AHeap.push h (AObj.cells [AV.str [], AV.int IntKind.i64 (Int.ofNat 0), AV.int IntKind.i64 (Int.ofNat 0)] 35 BK.own 0 0)) (AHeap.n h) 0 [AV.str a, AV.int IntKind.i64 x, AV.int IntKind.i64 x2] = some g1 ∧ AV.tup [] = AV.tup []) <| .cons H5 <| .cons H6 <| .cons H7 <| .cons H8 <| .cons (⟨H9, rfl⟩ : Nat.le (Nat.succ j) n ∧ AV.ptr b (0 + j * 3) = AV.ptr b (0 + j * 3)) <| .cons (⟨by kernel_rfl, H10, rfl⟩ : some 3 = some 3 ∧ AEv.storeCells g b (0 + j * 3) [AV.str a, AV.int IntKind.i64 x, AV.int IntKind.i64 x2] = some g_1 ∧ AV.tup [] = AV.tup []) <| .cons H11 <| .cons H12 <| .nil
theorem dfl_3 (call : CallT → List AV → AHeap → FRes) (b n i j : Nat) (c : Cap) (a : List UInt8) (x x2 : Int) (t : Bool) (h g g1 g2 : AHeap)
    (H1 : ltI (.ofNat i) (.ofNat n) = false) :
    RunF Try.prog Try.f42 none call [1, 1, 1, 0, 1, 0, 0] (SSt.mk [(0, .slice b 0 n c), (1, .fn 44 [] []), (5, .int .i64 (.ofNat j)), (6, .int .i64 (.ofNat i))] [] .none h) (.exit 0)
      (SSt.mk [(0, .slice b 0 n c), (1, .fn 44 [] []), (5, .int .i64 (.ofNat j)), (6, .int .i64 (.ofNat i))] [] .none h) :=
  sxF_run [0, 1, 5, 6] (hs := [.b false]) (by kernel_rfl) <| .cons H1 <| .nil
theorem dfk_2 (call : CallT → List AV → AHeap → FRes) (b n i j : Nat) (c : Cap) (a : List UInt8) (x x2 : Int) (t : Bool) (h g g1 g2 : AHeap) (n_1 : Nat)
    (H1 : ltI (.ofNat i) (.ofNat n) = true)
    (H2 : Nat.le (Nat.succ i) n)
    (H3 : AEv.loadCells h b (0 + i * 3) 3 = some [.str a, .int .i64 x, .int .i64 x2])
    (H4 : AEv.storeCells (AHeap.push h (.cells [.str [], .int .i64 (.ofNat 0), .int .i64 (.ofNat 0)] 35 .own 0 0)) (AHeap.n h) 0 [.str a, .int .i64 x, .int .i64 x2] = some g1)
    (H5 : AEv.loadCells g1 (AHeap.n h) 0 3 = some [.str a, .int .i64 x, .int .i64 x2])
    (H6 : call (.fn 44) [.agg [.str a, .int .i64 x, .int .i64 x2]] g1 = FRes.ret (.bool t) g)
    (H7 : (!t) = false)
    (H8 : arith .add .i64 (.ofNat i) (.ofNat 1) = some (.int .i64 (.ofNat n_1))) :
    RunF Try.prog Try.f42 none call [1, 1, 1, 0, 1, 0, 0] (SSt.mk [(0, .slice b 0 n c), (1, .fn 44 [] []), (5, .int .i64 (.ofNat j)), (6, .int .i64 (.ofNat i))] [] .none h) (.nrm)
      (SSt.mk [(0, .slice b 0 n c), (1, .fn 44 [] []), (5, .int .i64 (.ofNat j)), (6, .int .i64 (.ofNat n_1))] [] .none g) :=
  sxF_run [0, 1, 5, 6] (hs := [.b true, .v (.ptr b (0 + i * 3)), .v (.agg [.str a, .int .i64 x, .int .i64 x2]), .vh (.tup []) g1, .v (.agg [.str a, .int .i64 x, .int .i64 x2]), .c (.bool t) g, .b false, .v (.int .i64 (.ofNat n_1))]) (by kernel_rfl) <| .cons H1 <| .cons (⟨H2, rfl⟩ : Nat.le (Nat.succ i) n ∧ AV.ptr b (0 + i * 3) = AV.ptr b (0 + i * 3)) <| .cons H3 <| .cons (⟨by kernel_rfl, H4, rfl⟩ : some 3 = some 3 ∧ AEv.storeCells (AHeap.push h (AObj.cells [AV.str [], AV.int IntKind.i64 (Int.ofNat 0), AV.int IntKind.i64 (Int.ofNat 0)] 35 BK.own 0 0)) (AHeap.n h) 0 [AV.str a, AV.int IntKind.i64 x, AV.int IntKind.i64 x2] = some g1 ∧ AV.tup [] = AV.tup []) <| .cons H5 <| .cons H6 <| .cons H7 <| .cons H8 <| .nil
theorem cp0 (call : CallT → List AV → AHeap → FRes) (v : AV) (n : Nat) (h : AHeap) :
    RunF Try.prog Try.f48 none call [] (SSt.mk [(0, .nilS)] [] .none h) (.ret)
      (SSt.mk [(2, .nilS)] [] .none h) :=
  sxF_run [2] (hs := [.b true]) (by kernel_rfl) <| .cons (by kernel_rfl : ltI (Int.ofNat 0) (Int.ofNat 2) = true) <| .nil
theorem cp1_1 (call : CallT → List AV → AHeap → FRes) (b n : Nat) (c : Cap) (h g : AHeap)
    (H1 : ltI (.ofNat n) (.ofNat 2) = true) :
    RunF Try.prog Try.f48 none call [] (SSt.mk [(0, .slice b 0 n c)] [] .none h) (.ret)
      (SSt.mk [(2, .slice b 0 n c)] [] .none h) :=
  sxF_run [2] (hs := [.b true]) (by kernel_rfl) <| .cons H1 <| .nil
theorem cp1_2 (call : CallT → List AV → AHeap → FRes) (b n : Nat) (c : Cap) (h g : AHeap)
    (H1 : ltI (.ofNat n) (.ofNat 2) = false)
    (H2 : RunF Try.prog Try.f48 none call [1, 1, 0, 1, 0] (SSt.mk [(3, .int .i64 (.ofNat 1)), (8, .bool (ltI (.ofNat n) (.ofNat 2))), (2, .nilS), (0, .slice b 0 n c)] [] .none h) (.exit 0) (SSt.mk [(0, .slice b 0 n c)] [] .none g)) :
    RunF Try.prog Try.f48 none call [] (SSt.mk [(0, .slice b 0 n c)] [] .none h) (.ret)
      (SSt.mk [(2, .slice b 0 n c)] [] .none g) :=
  sxF_run [2] (hs := [Hint.b false, Hint.loop (AEx.exit 0) (SSt.mk [(0, AV.slice b 0 n c)] [] Rc.none g)]) (by kernel_rfl) <| .cons H1 <| .cons H2 <| .nil
theorem cpr_2 (call : CallT → List AV → AHeap → FRes) (b n : Nat) (c : Cap) (w : AV) (h g : AHeap)
    (H1 : ltI (.ofNat n) (.ofNat 2) = false)
    (H2 : RunF Try.prog Try.f48 none call [1, 1, 0, 1, 0] (SSt.mk [(3, .int .i64 (.ofNat 1)), (8, .bool (ltI (.ofNat n) (.ofNat 2))), (2, .nilS), (0, .slice b 0 n c)] [] .none h) (.ret) (SSt.mk [(2, w)] [] .none g)) :
    RunF Try.prog Try.f48 none call [] (SSt.mk [(0, .slice b 0 n c)] [] .none h) (.ret)
      (SSt.mk [(2, w)] [] .none g) :=
  sxF_run [2] (hs := [Hint.b false, Hint.loop AEx.ret (SSt.mk [(2, w)] [] Rc.none g)]) (by kernel_rfl) <| .cons H1 <| .cons H2 <| .nil
theorem cpn_1 (call : CallT → List AV → AHeap → FRes) (b n k : Nat) (c : Cap) (a b2 : List UInt8) (x x2 y y2 : Int) (h : AHeap) (n_1 : Nat)
    (H1 : ltI (.ofNat k) (.ofNat n) = true)
    (H2 : Nat.le (Nat.succ k) n)
    (H3 : AEv.loadCells (AHeap.room h 10) b (0 + k * 3) 3 = some [.str a, .int .i64 x, .int .i64 x2])
    (H4 : arith .sub .i64 (.ofNat k) (.ofNat 1) = some (.int .i64 (.ofNat (k - 1))))
    (H5 : Nat.le (Nat.succ (k - 1)) n)
    (H6 : AEv.loadCells (AHeap.room h 10) b (0 + (k - 1) * 3) 3 = some [.str b2, .int .i64 y, .int .i64 y2])
    (H7 : binA Try.prog (AHeap.room h 10) BinOp.eql 35 (Operand.tmp 19) (Operand.tmp 24) (AV.agg [AV.str a, AV.int IntKind.i64 x, AV.int IntKind.i64 x2]) (AV.agg [AV.str b2, AV.int IntKind.i64 y, AV.int IntKind.i64 y2]) = some (AV.bool false))
    (H8 : arith .add .i64 (.ofNat k) (.ofNat 1) = some (.int .i64 (.ofNat n_1))) :
    RunF Try.prog Try.f48 none call [1, 1, 0, 1, 0, 0] (SSt.mk [(0, .slice b 0 n c), (3, .int .i64 (.ofNat k))] [] .none h) (.nrm)
      (SSt.mk [(0, .slice b 0 n c), (3, .int .i64 (.ofNat n_1))] [] .none (AHeap.room h 10)) :=
  sxF_run [0, 3] (hs := [.b true, .v (.ptr b (0 + k * 3)), .v (.agg [.str a, .int .i64 x, .int .i64 x2]), .v (.int .i64 (.ofNat (k - 1))), .v (.ptr b (0 + (k - 1) * 3)), .v (.agg [.str b2, .int .i64 y, .int .i64 y2]), .v (.bool false), .b false, .v (.int .i64 (.ofNat n_1))]) (by kernel_rfl) <| .cons H1 <| .cons (⟨H2, rfl⟩ : Nat.le (Nat.succ k) n ∧ AV.ptr b (0 + k * 3) = AV.ptr b (0 + k * 3)) <| .cons H3 <| .cons H4 <| .cons (⟨H5, rfl⟩ : Nat.le (Nat.succ (k - 1)) n ∧ AV.ptr b (0 + (k - 1) * 3) = AV.ptr b (0 + (k - 1) * 3)) <| .cons H6 <| .cons H7 <| .cons (by kernel_rfl : AV.sound (AV.slice b 0 n c) = true) <| .cons (by kernel_rfl : AV.slice b 0 n c = AV.slice b 0 n c) <| .cons (by kernel_rfl : AV.sound (AV.int IntKind.i64 (Int.ofNat k)) = true) <| .cons (by kernel_rfl : AV.int IntKind.i64 (Int.ofNat k) = AV.int IntKind.i64 (Int.ofNat k)) <| .cons (by kernel_rfl : AV.sound (AV.ptr b (0 + k * 3)) = true) <| .cons (⟨H2, rfl⟩ : Nat.le (Nat.succ k) n ∧ AV.ptr b (0 + k * 3) = AV.ptr b (0 + k * 3)) <| .cons (by kernel_rfl : AV.sound (AV.agg [AV.str a, AV.int IntKind.i64 x, AV.int IntKind.i64 x2]) = true) <| .cons H3 <| .cons (by kernel_rfl : AV.sound (AV.slice b 0 n c) = true) <| .cons (by kernel_rfl : AV.slice b 0 n c = AV.slice b 0 n c) <| .cons (by kernel_rfl : AV.sound (AV.int IntKind.i64 (Int.ofNat k)) = true) <| .cons (by kernel_rfl : AV.int IntKind.i64 (Int.ofNat k) = AV.int IntKind.i64 (Int.ofNat k)) <| .cons (by kernel_rfl : AV.sound (AV.int IntKind.i64 (Int.ofNat (k - 1))) = true) <| .cons H4 <| .cons (by kernel_rfl : AV.sound (AV.ptr b (0 + (k - 1) * 3)) = true) <| .cons (⟨H5, rfl⟩ : Nat.le (Nat.succ (k - 1)) n ∧ AV.ptr b (0 + (k - 1) * 3) = AV.ptr b (0 + (k - 1) * 3)) <| .cons (by kernel_rfl : AV.sound (AV.agg [AV.str b2, AV.int IntKind.i64 y, AV.int IntKind.i64 y2]) = true) <| .cons H6 <| .cons (by kernel_rfl : AV.sound (AV.bool false) = true) <| .cons H7 <| .cons (by kernel_rfl : false = false) <| .cons H8 <| .nil
theorem cpn_2 (call : CallT → List AV → AHeap → FRes) (b n k : Nat) (c : Cap) (a b2 : List UInt8) (x x2 y y2 : Int) (h : AHeap)
    (H1 : ltI (.ofNat k) (.ofNat n) = false) :
    RunF Try.prog Try.f48 none call [1, 1, 0, 1, 0, 0] (SSt.mk [(0, .slice b 0 n c), (3, .int .i64 (.ofNat k))] [] .none h) (.exit 0)
      (SSt.mk [(0, .slice b 0 n c), (3, .int .i64 (.ofNat k))] [] .none h) :=
  sxF_run [0, 3] (hs := [.b false]) (by kernel_rfl) <| .cons H1 <| .nil
theorem cpq_1 (call : CallT → List AV → AHeap → FRes) (b n k k2 : Nat) (c : Cap) (a b2 : List UInt8) (x x2 y y2 : Int) (w : AV) (h g g3 : AHeap)
    (H1 : ltI (.ofNat k) (.ofNat n) = true)
    (H2 : Nat.le (Nat.succ k) n)
    (H3 : AEv.loadCells (AHeap.room h 10) b (0 + k * 3) 3 = some [.str a, .int .i64 x, .int .i64 x2])
    (H4 : arith .sub .i64 (.ofNat k) (.ofNat 1) = some (.int .i64 (.ofNat (k - 1))))
    (H5 : Nat.le (Nat.succ (k - 1)) n)
    (H6 : AEv.loadCells (AHeap.room h 10) b (0 + (k - 1) * 3) 3 = some [.str b2, .int .i64 y, .int .i64 y2])
    (H7 : binA Try.prog (AHeap.room h 10) BinOp.eql 35 (Operand.tmp 19) (Operand.tmp 24) (AV.agg [AV.str a, AV.int IntKind.i64 x, AV.int IntKind.i64 x2]) (AV.agg [AV.str b2, AV.int IntKind.i64 y, AV.int IntKind.i64 y2]) = some (AV.bool true))
    (H8 : sliceA Try.prog (AHeap.room h 10) 22 (AV.slice b 0 n c) (some (AV.int IntKind.i64 (Int.ofNat k))) none none = some (AV.slice b (0 + k * 3) (n - k) c))
    (H9 : RunF Try.prog Try.f48 none call [1, 1, 0, 1, 0, 0, 1, 0, 0, 1, 0, 1, 0, 1, 0] (SSt.mk [(5, .int .i64 (.ofNat 1)), (4, .slice b (0 + k * 3) (n - k) c), (25, .bool true), (13, .bool (ltI (.ofNat k) (.ofNat n))), (0, .slice b 0 n c), (3, .int .i64 (.ofNat k))] [] .none (AHeap.room h 10)) (.exit 2) (SSt.mk [(0, .slice b 0 n c), (3, .int .i64 (.ofNat k2))] [] .none g))
    (H10 : sliceA Try.prog g 22 (AV.slice b 0 n c) (some (AV.int IntKind.i64 (Int.ofNat k2))) none none = some (AV.slice b (0 + k2 * 3) (n - k2) c))
    (H11 : clearA Try.prog g 22 (AV.slice b (0 + k2 * 3) (n - k2) c) = some (AV.tup [], g3))
    (H12 : sliceA Try.prog g3 22 (AV.slice b 0 n c) none (some (AV.int IntKind.i64 (Int.ofNat k2))) none = some w) :
    RunF Try.prog Try.f48 none call [1, 1, 0, 1, 0, 0] (SSt.mk [(0, .slice b 0 n c), (3, .int .i64 (.ofNat k))] [] .none h) (.ret)
      (SSt.mk [(2, w)] [] .none g3) :=
  sxF_run [2] (hs := [Hint.b true, Hint.v (AV.ptr b (0 + k * 3)), Hint.v (AV.agg [AV.str a, AV.int IntKind.i64 x, AV.int IntKind.i64 x2]), Hint.v (AV.int IntKind.i64 (Int.ofNat (k - 1))), Hint.v (AV.ptr b (0 + (k - 1) * 3)), Hint.v (AV.agg [AV.str b2, AV.int IntKind.i64 y, AV.int IntKind.i64 y2]), Hint.v (AV.bool true), Hint.b true, Hint.v (AV.slice b (0 + k * 3) (n - k) c), Hint.loop (AEx.exit 2) (SSt.mk [(0, AV.slice b 0 n c), (3, AV.int IntKind.i64 (Int.ofNat k2))] [] Rc.none g), Hint.v (AV.slice b (0 + k2 * 3) (n - k2) c), Hint.vh (AV.tup []) g3, Hint.v w]) (by kernel_rfl) <| .cons H1 <| .cons (⟨H2, rfl⟩ : Nat.le (Nat.succ k) n ∧ AV.ptr b (0 + k * 3) = AV.ptr b (0 + k * 3)) <| .cons H3 <| .cons H4 <| .cons (⟨H5, rfl⟩ : Nat.le (Nat.succ (k - 1)) n ∧ AV.ptr b (0 + (k - 1) * 3) = AV.ptr b (0 + (k - 1) * 3)) <| .cons H6 <| .cons H7 <| .cons (by kernel_rfl : AV.sound (AV.slice b 0 n c) = true) <| .cons (by kernel_rfl : AV.slice b 0 n c = AV.slice b 0 n c) <| .cons (by kernel_rfl : AV.sound (AV.int IntKind.i64 (Int.ofNat k)) = true) <| .cons (by kernel_rfl : AV.int IntKind.i64 (Int.ofNat k) = AV.int IntKind.i64 (Int.ofNat k)) <| .cons (by kernel_rfl : AV.sound (AV.ptr b (0 + k * 3)) = true) <| .cons (⟨H2, rfl⟩ : Nat.le (Nat.succ k) n ∧ AV.ptr b (0 + k * 3) = AV.ptr b (0 + k * 3)) <| .cons (by kernel_rfl : AV.sound (AV.agg [AV.str a, AV.int IntKind.i64 x, AV.int IntKind.i64 x2]) = true) <| .cons H3 <| .cons (by kernel_rfl : AV.sound (AV.slice b 0 n c) = true) <| .cons (by kernel_rfl : AV.slice b 0 n c = AV.slice b 0 n c) <| .cons (by kernel_rfl : AV.sound (AV.int IntKind.i64 (Int.ofNat k)) = true) <| .cons (by kernel_rfl : AV.int IntKind.i64 (Int.ofNat k) = AV.int IntKind.i64 (Int.ofNat k)) <| .cons (by kernel_rfl : AV.sound (AV.int IntKind.i64 (Int.ofNat (k - 1))) = true) <| .cons H4 <| .cons (by kernel_rfl : AV.sound (AV.ptr b (0 + (k - 1) * 3)) = true) <| .cons (⟨H5, rfl⟩ : Nat.le (Nat.succ (k - 1)) n ∧ AV.ptr b (0 + (k - 1) * 3) = AV.ptr b (0 + (k - 1) * 3)) <| .cons (by kernel_rfl : AV.sound (AV.agg [AV.str b2, AV.int IntKind.i64 y, AV.int IntKind.i64 y2]) = true) <| .cons H6 <| .cons (by kernel_rfl : AV.sound (AV.bool true) = true) <| .cons H7 <| .cons (by kernel_rfl : true = true) <| .cons H8 <| .cons H9 <| .cons H10 <| .cons H11 <| .cons H12 <| .nil
theorem cit_1 (call : CallT → List AV → AHeap → FRes) (b n k o n2 j : Nat) (c : Cap) (a b2 : List UInt8) (x x2 y y2 : Int) (h g_1 : AHeap) (n_1 n_2 : Nat)
    (H1 : ltI (.ofNat j) (.ofNat n2) = true)
    (H2 : Nat.le (Nat.succ j) n2)
    (H3 : AEv.loadCells (AHeap.room h 10) b (o + j * 3) 3 = some [.str a, .int .i64 x, .int .i64 x2])
    (H4 : arith .sub .i64 (.ofNat j) (.ofNat 1) = some (.int .i64 (.ofNat (j - 1))))
    (H5 : Nat.le (Nat.succ (j - 1)) n2)
    (H6 : AEv.loadCells (AHeap.room h 10) b (o + (j - 1) * 3) 3 = some [.str b2, .int .i64 y, .int .i64 y2])
    (H7 : binA Try.prog (AHeap.room h 10) BinOp.neq 35 (Operand.tmp 38) (Operand.tmp 43) (AV.agg [AV.str a, AV.int IntKind.i64 x, AV.int IntKind.i64 x2]) (AV.agg [AV.str b2, AV.int IntKind.i64 y, AV.int IntKind.i64 y2]) = some (AV.bool true))
    (H8 : Nat.le (Nat.succ k) n)
    (H9 : AEv.storeCells (AHeap.room h 10) b (0 + k * 3) [.str a, .int .i64 x, .int .i64 x2] = some g_1)
    (H10 : arith .add .i64 (.ofNat k) (.ofNat 1) = some (.int .i64 (.ofNat n_1)))
    (H11 : arith .add .i64 (.ofNat j) (.ofNat 1) = some (.int .i64 (.ofNat n_2))) :
    RunF Try.prog Try.f48 none call [1, 1, 0, 1, 0, 0, 1, 0, 0, 1, 0, 1, 0, 1, 0, 0] (SSt.mk [(0, .slice b 0 n c), (3, .int .i64 (.ofNat k)), (4, .slice b o n2 c), (5, .int .i64 (.ofNat j))] [] .none h) (.nrm)
      (SSt.mk [(0, .slice b 0 n c), (3, .int .i64 (.ofNat n_1)), (4, .slice b o n2 c), (5, .int .i64 (.ofNat n_2))] [] .none g_1) :=
  sxF_run [0, 3, 4, 5] (hs := [.b true, .v (.ptr b (o + j * 3)), .v (.agg [.str a, .int .i64 x, .int .i64 x2]), .v (.int .i64 (.ofNat (j - 1))), .v (.ptr b (o + (j - 1) * 3)), .v (.agg [.str b2, .int .i64 y, .int .i64 y2]), .v (.bool true), .b true, .v (.ptr b (o + j * 3)), .v (.agg [.str a, .int .i64 x, .int .i64 x2]), .v (.ptr b (0 + k * 3)), .vh (.tup []) g_1, .v (.int .i64 (.ofNat n_1)), .v (.int .i64 (.ofNat n_2))]) (by kernel_rfl) <| .cons H1 <| .cons (⟨H2, rfl⟩ : Nat.le (Nat.succ j) n2 ∧ AV.ptr b (o + j * 3) = AV.ptr b (o + j * 3)) <| .cons H3 <| .cons H4 <| .cons (⟨H5, rfl⟩ : Nat.le (Nat.succ (j - 1)) n2 ∧ AV.ptr b (o + (j - 1) * 3) = AV.ptr b (o + (j - 1) * 3)) <| .cons H6 <| .cons H7 <| .cons (by kernel_rfl : AV.sound (AV.slice b o n2 c) = true) <| .cons (by kernel_rfl : AV.slice b o n2 c = AV.slice b o n2 c) <| .cons (by kernel_rfl : AV.sound (AV.int IntKind.i64 (Int.ofNat j)) = true) <| .cons (by kernel_rfl : AV.int IntKind.i64 (Int.ofNat j) = AV.int IntKind.i64 (Int.ofNat j)) <| .cons (by kernel_rfl : AV.sound (AV.ptr b (o + j * 3)) = true) <| .cons (⟨H2, rfl⟩ : Nat.le (Nat.succ j) n2 ∧ AV.ptr b (o + j * 3) = AV.ptr b (o + j * 3)) <| .cons (by kernel_rfl : AV.sound (AV.agg [AV.str a, AV.int IntKind.i64 x, AV.int IntKind.i64 x2]) = true) <| .cons H3 <| .cons (by kernel_rfl : AV.sound (AV.slice b o n2 c) = true) <| .cons (by kernel_rfl : AV.slice b o n2 c = AV.slice b o n2 c) <| .cons (by kernel_rfl : AV.sound (AV.int IntKind.i64 (Int.ofNat j)) = true) <| .cons (by kernel_rfl : AV.int IntKind.i64 (Int.ofNat j) = AV.int IntKind.i64 (Int.ofNat j)) <| .cons (by kernel_rfl : AV.sound (AV.int IntKind.i64 (Int.ofNat (j - 1))) = true) <| .cons H4 <| .cons (by kernel_rfl : AV.sound (AV.ptr b (o + (j - 1) * 3)) = true) <| .cons (⟨H5, rfl⟩ : Nat.le (Nat.succ (j - 1)) n2 ∧ AV.ptr b (o + (j - 1) * 3) = AV.ptr b (o + (j - 1) * 3)) <| .cons (by kernel_rfl : AV.sound (AV.agg [AV.str b2, AV.int IntKind.i64 y, AV.int IntKind.i64 y2]) = true) <| .cons H6 <| .cons (by kernel_rfl : AV.sound (AV.bool true) = true) <| .cons H7 <| .cons (by kernel_rfl : true = true) <| .cons (⟨H2, rfl⟩ : Nat.le (Nat.succ j) n2 ∧ AV.ptr b (o + j * 3) = AV.ptr b (o + j * 3)) <| .cons H3 <| .cons (⟨H8, rfl⟩ : Nat.le (Nat.succ k) n ∧ AV.ptr b (0 + k * 3) = AV.ptr b (0 + k * 3)) <| .cons (⟨by kernel_rfl, H9, rfl⟩ : some 3 = some 3 ∧ AEv.storeCells (AHeap.room h 10) b (0 + k * 3) [AV.str a, AV.int IntKind.i64 x, AV.int IntKind.i64 x2] = some g_1 ∧ AV.tup [] = AV.tup []) <| .cons H10 <| .cons H11 <| .nil
theorem cif_1 (call : CallT → List AV → AHeap → FRes) (b n k o n2 j : Nat) (c : Cap) (a b2 : List UInt8) (x x2 y y2 : Int) (h : AHeap) (n_1 : Nat)
    (H1 : ltI (.ofNat j) (.ofNat n2) = true)
    (H2 : Nat.le (Nat.succ j) n2)
    (H3 : AEv.loadCells (AHeap.room h 10) b (o + j * 3) 3 = some [.str a, .int .i64 x, .int .i64 x2])
    (H4 : arith .sub .i64 (.ofNat j) (.ofNat 1) = some (.int .i64 (.ofNat (j - 1))))
    (H5 : Nat.le (Nat.succ (j - 1)) n2)
    (H6 : AEv.loadCells (AHeap.room h 10) b (o + (j - 1) * 3) 3 = some [.str b2, .int .i64 y, .int .i64 y2])
    (H7 : binA Try.prog (AHeap.room h 10) BinOp.neq 35 (Operand.tmp 38) (Operand.tmp 43) (AV.agg [AV.str a, AV.int IntKind.i64 x, AV.int IntKind.i64 x2]) (AV.agg [AV.str b2, AV.int IntKind.i64 y, AV.int IntKind.i64 y2]) = some (AV.bool false))
    (H8 : arith .add .i64 (.ofNat j) (.ofNat 1) = some (.int .i64 (.ofNat n_1))) :
    RunF Try.prog Try.f48 none call [1, 1, 0, 1, 0, 0, 1, 0, 0, 1, 0, 1, 0, 1, 0, 0] (SSt.mk [(0, .slice b 0 n c), (3, .int .i64 (.ofNat k)), (4, .slice b o n2 c), (5, .int .i64 (.ofNat j))] [] .none h) (.nrm)
      (SSt.mk [(0, .slice b 0 n c), (3, .int .i64 (.ofNat k)), (4, .slice b o n2 c), (5, .int .i64 (.ofNat n_1))] [] .none (AHeap.room h 10)) :=
  sxF_run [0, 3, 4, 5] (hs := [.b true, .v (.ptr b (o + j * 3)), .v (.agg [.str a, .int .i64 x, .int .i64 x2]), .v (.int .i64 (.ofNat (j - 1))), .v (.ptr b (o + (j - 1) * 3)), .v (.agg [.str b2, .int .i64 y, .int .i64 y2]), .v (.bool false), .b false, .v (.int .i64 (.ofNat n_1))]) (by kernel_rfl) <| .cons H1 <| .cons (⟨H2, rfl⟩ : Nat.le (Nat.succ j) n2 ∧ AV.ptr b (o + j * 3) = AV.ptr b (o + j * 3)) <| .cons H3 <| .cons H4 <| .cons (⟨H5, rfl⟩ : Nat.le (Nat.succ (j - 1)) n2 ∧ AV.ptr b (o + (j - 1) * 3) = AV.ptr b (o + (j - 1) * 3)) <| .cons H6 <| .cons H7 <| .cons (by kernel_rfl : AV.sound (AV.slice b o n2 c) = true) <| .cons (by kernel_rfl : AV.slice b o n2 c = AV.slice b o n2 c) <| .cons (by kernel_rfl : AV.sound (AV.int IntKind.i64 (Int.ofNat j)) = true) <| .cons (by kernel_rfl : AV.int IntKind.i64 (Int.ofNat j) = AV.int IntKind.i64 (Int.ofNat j)) <| .cons (by kernel_rfl : AV.sound (AV.ptr b (o + j * 3)) = true) <| .cons (⟨H2, rfl⟩ : Nat.le (Nat.succ j) n2 ∧ AV.ptr b (o + j * 3) = AV.ptr b (o + j * 3)) <| .cons (by kernel_rfl : AV.sound (AV.agg [AV.str a, AV.int IntKind.i64 x, AV.int IntKind.i64 x2]) = true) <| .cons H3 <| .cons (by kernel_rfl : AV.sound (AV.slice b o n2 c) = true) <| .cons (by kernel_rfl : AV.slice b o n2 c = AV.slice b o n2 c) <| .cons (by kernel_rfl : AV.sound (AV.int IntKind.i64 (Int.ofNat j)) = true) <| .cons (by kernel_rfl : AV.int IntKind.i64 (Int.ofNat j) = AV.int IntKind.i64 (Int.ofNat j)) <| .cons (by kernel_rfl : AV.sound (AV.int IntKind.i64 (Int.ofNat (j - 1))) = true) <| .cons H4 <| .cons (by kernel_rfl : AV.sound (AV.ptr b (o + (j - 1) * 3)) = true) <| .cons (⟨H5, rfl⟩ : Nat.le (Nat.succ (j - 1)) n2 ∧ AV.ptr b (o + (j - 1) * 3) = AV.ptr b (o + (j - 1) * 3)) <| .cons (by kernel_rfl : AV.sound (AV.agg [AV.str b2, AV.int IntKind.i64 y, AV.int IntKind.i64 y2]) = true) <| .cons H6 <| .cons (by kernel_rfl : AV.sound (AV.bool false) = true) <| .cons H7 <| .cons (by kernel_rfl : false = false) <| .cons H8 <| .nil
theorem cif_2 (call : CallT → List AV → AHeap → FRes) (b n k o n2 j : Nat) (c : Cap) (a b2 : List UInt8) (x x2 y y2 : Int) (h : AHeap)
    (H1 : ltI (.ofNat j) (.ofNat n2) = false) :
    RunF Try.prog Try.f48 none call [1, 1, 0, 1, 0, 0, 1, 0, 0, 1, 0, 1, 0, 1, 0, 0] (SSt.mk [(0, .slice b 0 n c), (3, .int .i64 (.ofNat k)), (4, .slice b o n2 c), (5, .int .i64 (.ofNat j))] [] .none h) (.exit 2)
      (SSt.mk [(0, .slice b 0 n c), (3, .int .i64 (.ofNat k)), (4, .slice b o n2 c), (5, .int .i64 (.ofNat j))] [] .none h) :=
  sxF_run [0, 3, 4, 5] (hs := [.b false]) (by kernel_rfl) <| .cons H1 <| .nil

/-! ### Lists of diagnostics, in the program -/
theorem encD_len (d : Dg) : (encD d).length = 3 := rfl
theorem encD_cell (d : Dg) : (encD d).all AV.isCell = true := rfl
theorem dgst : Try.prog.underlying 22 = some (.slice 35) := by kernel_rfl
/-- A row that comes in. -/
def RowIn (h : AHeap) (v : AV) (ds : List Dg) : Prop :=
  (v = .nilS ∧ ds = []) ∨ ∃ b off c, v = .slice b off ds.length c ∧ b < h.n ∧ ∀ h', h'.get b = h.get b → srcCells h' 3 v = some (ds.length, rowL encD ds)
/-- A row of one's own, above a place. -/
def SlD (B : Nat) (h : AHeap) (v : AV) (ds : List Dg) : Prop :=
  (ds = [] ∧ (v = .nilS ∨ ∃ b, v = .slice b 0 0 (.exact 0) ∧ b < h.n ∧ h.get b = some (.cells [] 35 .own 0 0))) ∨ ∃ b rest, v = .slice b 0 ds.length (.opn 3) ∧ h.get b = some (.cells (rowL encD ds ++ rest) 35 .opn 0 0) ∧ B ≤ b ∧ b < h.n
theorem clone_c (m : Nat) (v : AV) (ds : List Dg) (h : AHeap) (hr : RowIn h v ds) (hl : ds.length ≤ 1000000) : ∃ v' h', C (m + 1) (.fn 43) [v] h = .ret v' h' ∧ Ext h.n h h' ∧ SlD h.n h' v' ds := by
  rcases hr with ⟨rfl, rfl⟩ | ⟨b, off, c, rfl, hb, hs⟩
  · exact ⟨.nilS, h, fn_runF (intr := Ii) (n := m) (args := [.nilS]) Try.func43 (by kernel_rfl) rfl (by kernel_rfl) (cln0 (C m) h) (.inl rfl) (by kernel_rfl), Ext.refl _ _, .inl ⟨rfl, .inl rfl⟩⟩
  · obtain ⟨H, hH⟩ : ∃ H, H = h.push (.cells [] 35 .own 0 0) := ⟨_, rfl⟩
    have hn : H.n = h.n + 1 := by rw [hH]; rfl
    have hg : H.get b = h.get b := by rw [hH]; exact gold hb rfl
    have h0 : H.get h.n = some (.cells [] 35 .own 0 0) := by rw [hH]; exact gtop rfl
    have hsrc := hs H hg
    obtain ⟨i, hi⟩ := Option.isSome_iff_exists.1 (show (Try.prog.info? 35).isSome = true by kernel_rfl)
    have hsz : i.size = 3 := by
      have : (Try.prog.info? 35).map (·.size) = some 3 := by kernel_rfl
      rw [hi] at this; simpa using this
    have hby : i.bytes = 32 := by
      have : (Try.prog.info? 35).map (·.bytes) = some 32 := by kernel_rfl
      rw [hi] at this; simpa using this
    obtain ⟨z, hz⟩ := Option.isSome_iff_exists.1 (show (zeroT Try.prog 35).isSome = true by kernel_rfl)
    have hzc : z.cells.length = 3 := by
      have : (zeroT Try.prog 35).map (fun z => z.cells.length) = some 3 := by kernel_rfl
      rw [hz] at this; simpa using this
    have hok : srcOK Try.prog (some 22) = true := by kernel_rfl
    by_cases hn0 : ds.length = 0
    · have ap : appendA Try.prog H 22 (some 22) (.slice h.n 0 0 (.exact 0)) (.slice b off ds.length c) = some (.slice h.n 0 0 (.exact 0), H) := by
        rw [hn0] at hsrc ⊢
        simp only [appendA, dgst, hok, hi, hz, hsz, hsrc]
        try rfl
      rw [hH] at ap
      have hd : ds = [] := List.eq_nil_of_length_eq_zero hn0
      refine ⟨.slice h.n 0 0 (.exact 0), H, ?_, by rw [hH]; exact exA, .inl ⟨hd, .inr ⟨_, rfl, by omega, h0⟩⟩⟩
      rw [hH]
      exact fn_runF (intr := Ii) (n := m) (args := [.slice b off ds.length c]) Try.func43 (by kernel_rfl) rfl (by kernel_rfl) (cln _ _ _ _ _ _ _ _ (ap)) (.inl rfl) (by kernel_rfl)
    · obtain ⟨k, hk⟩ : ∃ k, ds.length = k + 1 := ⟨ds.length - 1, by omega⟩
      have hgr : growA H 35 32 3 (0 + (k + 1)) z ([] ++ rowL encD ds) 0 = some (.slice H.n 0 (0 + (k + 1)) (.opn 3), H.push (.cells ([] ++ rowL encD ds) 35 .opn 0 0)) :=
        growA_ok (by unfold roomOK; simp; omega) (by rw [hzc]; rfl) (by rw [List.nil_append]; exact row_cells encD_cell ds)
      have ap : appendA Try.prog H 22 (some 22) (.slice h.n 0 0 (.exact 0)) (.slice b off ds.length c) = some (.slice H.n 0 ds.length (.opn 3), H.push (.cells (rowL encD ds) 35 .opn 0 0)) := by
        have hble : Nat.ble (0 + (k + 1)) 0 = false := by
          cases hx : Nat.ble (0 + (k + 1)) 0 with
          | false => rfl
          | true => have := Nat.le_of_ble_eq_true hx; omega
        have hld : AEv.loadCells H h.n 0 (0 * 3) = some [] := by simp only [AEv.loadCells, h0]; rfl
        rw [hk] at hsrc
        simp only [appendA, dgst, hok, hi, hz, hsz, hby, hsrc, hk, hble, hld, hgr]
        rw [List.nil_append, Nat.zero_add]
      refine ⟨.slice H.n 0 ds.length (.opn 3), H.push (.cells (rowL encD ds) 35 .opn 0 0), ?_, by rw [hH]; exact exA, .inr ⟨H.n, [], rfl, by rw [List.append_nil]; exact gtop rfl, by omega, by simp⟩⟩
      rw [hH] at ap ⊢
      exact fn_runF (intr := Ii) (n := m) (args := [.slice b off ds.length c]) Try.func43 (by kernel_rfl) rfl (by kernel_rfl) (cln _ _ _ _ _ _ _ _ (ap)) (.inl rfl) (by kernel_rfl)

/-- May it be told? -/
def mayB (d : Dg) : Bool := leI (Int.ofNat 1) d.2.2 && (leI d.2.2 (Int.ofNat 13) && (leI (Int.ofNat 0) d.2.1 && (leI d.2.1 (Int.ofNat 2147483647) && leI (Int.ofNat d.1.length) (Int.ofNat 200))))
theorem may_c (m : Nat) (d : Dg) (h : AHeap) : ∃ h', C (m + 1) (.fn 45) [.agg (encD d)] h = .ret (.bool (mayB d)) h' ∧ Ext h.n h h' := by
  obtain ⟨a, x, x2⟩ := d
  refine ⟨h.push (.cells (encD (a, x, x2)) 35 .own 0 0), ?_, exA⟩
  unfold mayB
  simp only
  cases e1 : leI (Int.ofNat 1) x2 with
  | false => exact fn_runF (intr := Ii) (n := m) (args := [.agg (encD (a, x, x2))]) Try.func45 (by kernel_rfl) rfl (by kernel_rfl) (my_5 _ _ _ _ _ (ld1A rfl) (e1)) (.inl rfl) (by kernel_rfl)
  | true =>
    cases e2 : leI x2 (Int.ofNat 13) with
    | false => exact fn_runF (intr := Ii) (n := m) (args := [.agg (encD (a, x, x2))]) Try.func45 (by kernel_rfl) rfl (by kernel_rfl) (my_4 _ _ _ _ _ (ld1A rfl) (e1) (e2)) (.inl rfl) (by kernel_rfl)
    | true =>
      cases e3 : leI (Int.ofNat 0) x with
      | false => exact fn_runF (intr := Ii) (n := m) (args := [.agg (encD (a, x, x2))]) Try.func45 (by kernel_rfl) rfl (by kernel_rfl) (my_3 _ _ _ _ _ (ld1A rfl) (e1) (e2) (ld1A rfl) (e3)) (.inl rfl) (by kernel_rfl)
      | true =>
        cases e4 : leI x (Int.ofNat 2147483647) with
        | false => exact fn_runF (intr := Ii) (n := m) (args := [.agg (encD (a, x, x2))]) Try.func45 (by kernel_rfl) rfl (by kernel_rfl) (my_2 _ _ _ _ _ (ld1A rfl) (e1) (e2) (ld1A rfl) (e3) (e4)) (.inl rfl) (by kernel_rfl)
        | true => exact fn_runF (intr := Ii) (n := m) (args := [.agg (encD (a, x, x2))]) Try.func45 (by kernel_rfl) rfl (by kernel_rfl) (my_1 _ _ _ _ _ (ld1A rfl) (e1) (e2) (ld1A rfl) (e3) (e4) (ld1A rfl)) (.inl rfl) (by kernel_rfl)
theorem nmay_c (m : Nat) (d : Dg) (h : AHeap) : ∃ h', C (m + 2) (.fn 44) [.agg (encD d)] h = .ret (.bool (!mayB d)) h' ∧ Ext h.n h h' := by
  obtain ⟨g, v, x⟩ := may_c m d (h.push (.cells (encD d) 35 .own 0 0))
  have xn := x.n; (try simp only [AHeap.n_push, AHeap.n_set, AHeap.n_room] at xn)
  exact ⟨g, fn_runF (intr := Ii) (n := m + 1) (args := [.agg (encD d)]) Try.func44 (by kernel_rfl) rfl (by kernel_rfl) (nmy _ _ _ _ _ _ _ (ldcA rfl) (v)) (.inl rfl) (by kernel_rfl), exA⟩

/-- slices.IndexFunc. -/
theorem ix_loop (m b n : Nat) (ds : List Dg) (rest : List AV) (hn : ds.length = n) (hb : n < 90000) : ∀ (k i : Nat) (h : AHeap), n - i = k → i ≤ n → b < h.n → h.get b = some (.cells (rowL encD ds ++ rest) 35 .opn 0 0) →
    ∃ h', Ext h.n h h' ∧
      (((∀ j (hj : j < ds.length), i ≤ j → mayB ds[j] = true) ∧ LoopF Try.prog Try.f76 none (C (m + 2)) [1, 0, 1, 0] (k + 1) ⟨[(0, .slice b 0 n (.opn 3)), (1, .fn 44 [] []), (7, .int .i64 (Int.ofNat n)), (8, .int .i64 (Int.ofNat i))], [], .none, h⟩ (.exit 0) ⟨[], [], .none, h'⟩)
      ∨ ∃ j, ∃ hj : j < ds.length, i ≤ j ∧ (∀ l (hl : l < ds.length), i ≤ l → l < j → mayB ds[l] = true) ∧ mayB ds[j] = false ∧ LoopF Try.prog Try.f76 none (C (m + 2)) [1, 0, 1, 0] (k + 1) ⟨[(0, .slice b 0 n (.opn 3)), (1, .fn 44 [] []), (7, .int .i64 (Int.ofNat n)), (8, .int .i64 (Int.ofNat i))], [], .none, h⟩ .ret ⟨[(4, .int .i64 (Int.ofNat j))], [], .none, h'⟩)
  | 0, i, h, hk, hi, hbh, hg => by
    refine ⟨h, Ext.refl _ _, .inl ⟨fun j hj hij => by omega, .exit (RunP.post (ixl_3 _ _ _ _ _ ([]) (0) (0) (true) _ (h) (lt_f (by omega))) trivial) (by simp)⟩⟩
  | k + 1, i, h, hk, hi, hbh, hg => by
    have hii : i < ds.length := by omega
    have hld := row_load (off := 0 + i * 3) encD_len hg hii (by omega)
    obtain ⟨g, v, x⟩ := nmay_c m ds[i] h
    cases hm : mayB ds[i] with
    | false =>
      rw [hm] at v
      refine ⟨g, x, .inr ⟨i, hii, Nat.le_refl _, fun l hl h1 h2 => by omega, hm, ?_⟩⟩
      exact .exit (RunP.post (ixl_1 _ _ _ _ _ _ _ _ _ _ _ (lt_t (by omega)) (by show (_ : Nat) ≤ _; omega) (hld) (v) rfl) ⟨rfl, trivial⟩) (by simp)
    | true =>
      rw [hm] at v
      have xn := x.n; (try simp only [AHeap.n_push, AHeap.n_set, AHeap.n_room] at xn)
      obtain ⟨h', x', hh⟩ := ix_loop m b n ds rest hn hb k (i + 1) g (by omega) (by omega) (by omega) hgA
      refine ⟨h', x.trans (by omega) x', ?_⟩
      rcases hh with ⟨h1, h2⟩ | ⟨j, hj, h1, h2, h3, h4⟩
      · refine .inl ⟨fun j hj hij => ?_, .step ?_ h2⟩
        · by_cases e : j = i
          · subst e; exact hm
          · exact h1 j hj (by omega)
        · exact (ixl_2 _ _ _ _ _ _ _ _ _ _ _ _ (lt_t (by omega)) (by show (_ : Nat) ≤ _; omega) (hld) (v) rfl (add_n (by omega)))
      · refine .inr ⟨j, hj, by omega, fun l hl h5 h6 => ?_, h3, .step ?_ h4⟩
        · by_cases e : l = i
          · subst e; exact hm
          · exact h2 l hl (by omega) h6
        · exact (ixl_2 _ _ _ _ _ _ _ _ _ _ _ _ (lt_t (by omega)) (by show (_ : Nat) ≤ _; omega) (hld) (v) rfl (add_n (by omega)))
theorem index_c (m : Nat) (b n : Nat) (ds : List Dg) (rest : List AV) (h : AHeap) (hn : ds.length = n) (hb : n < 90000) (hbh : b < h.n) (hg : h.get b = some (.cells (rowL encD ds ++ rest) 35 .opn 0 0)) :
    ∃ h', Ext h.n h h' ∧ (((∀ j (hj : j < ds.length), mayB ds[j] = true) ∧ C (m + 3) (.fn 76) [.slice b 0 n (.opn 3), .fn 44 [] []] h = .ret (.int .i64 (Int.negSucc 0)) h')
      ∨ ∃ j, ∃ hj : j < ds.length, (∀ l (hl : l < ds.length), l < j → mayB ds[l] = true) ∧ mayB ds[j] = false ∧ C (m + 3) (.fn 76) [.slice b 0 n (.opn 3), .fn 44 [] []] h = .ret (.int .i64 (Int.ofNat j)) h') := by
  obtain ⟨h', x, hh⟩ := ix_loop m b n ds rest hn hb n 0 h rfl (by omega) hbh hg
  refine ⟨h', x, ?_⟩
  rcases hh with ⟨h1, h2⟩ | ⟨j, hj, h1, h2, h3, h4⟩
  · refine .inl ⟨fun j hj => h1 j hj (by omega), ?_⟩
    exact fn_runF (intr := Ii) (n := m + 2) (args := [.slice b 0 n (.opn 3), .fn 44 [] []]) Try.func76 (by kernel_rfl) rfl (by kernel_rfl) (ixf (C (m + 2)) b n (.opn 3) h h' (RunP.pre (LoopF.run (p := [1, 0, 1, 0]) (by kernel_rfl) h2 (by omega)) ⟨rfl, rfl, rfl, rfl, trivial⟩ rfl rfl rfl)) (.inl rfl) (by kernel_rfl)
  · refine .inr ⟨j, hj, fun l hl h5 => h2 l hl (by omega) h5, h3, ?_⟩
    exact fn_runF (intr := Ii) (n := m + 2) (args := [.slice b 0 n (.opn 3), .fn 44 [] []]) Try.func76 (by kernel_rfl) rfl (by kernel_rfl) (ixr (C (m + 2)) b n j (.opn 3) h h' (RunP.pre (LoopF.run (p := [1, 0, 1, 0]) (by kernel_rfl) h4 (by omega)) ⟨rfl, rfl, rfl, rfl, trivial⟩ rfl rfl rfl)) (.inl rfl) (by kernel_rfl)
end Go.Proofs.Wire

namespace Go.Proofs.Wire
open Go AEv Go.Proofs Go.Proofs.Enc
set_option maxRecDepth 100000
set_option maxHeartbeats 400000

/-! ### slices.DeleteFunc -/
theorem slice_tail {g : AHeap} {b n j : Nat} (hj : j < n) : sliceA Try.prog g 22 (.slice b 0 n (.opn 3)) (some (.int .i64 (Int.ofNat j))) none none = some (.slice b (0 + j * 3) (n - j) (.opn 3)) := by
  have h3 : sizeT Try.prog 35 = some 3 := by kernel_rfl
  have hb1 : Nat.ble n n = true := by simp
  have hb2 : Nat.ble j n = true := by simp; omega
  have hlt : Nat.blt j n = true := by simp; omega
  have hb3 : Nat.ble 0 0 = true := rfl
  simp only [sliceA, dgst, h3, bounds, optN, asN, hb1, hb2, if_true]
  by_cases h0 : j = 0
  · subst h0; simp
  · simp [h0, hlt]
theorem slice_head {g : AHeap} {b n j : Nat} (hj : j ≤ n) : sliceA Try.prog g 22 (.slice b 0 n (.opn 3)) none (some (.int .i64 (Int.ofNat j))) none = some (.slice b 0 j (.opn 3)) := by
  have h3 : sizeT Try.prog 35 = some 3 := by kernel_rfl
  have hb1 : Nat.ble n n = true := by simp
  have hb2 : Nat.ble j n = true := by simp; omega
  have hb3 : Nat.ble 0 j = true := by simp
  simp only [sliceA, dgst, h3, bounds, optN, asN, hb1, hb2, hb3, if_true]
  try simp
/-- The end of a row is made empty. -/
theorem clear_tail {g : AHeap} {b n j el : Nat} {L : List Dg} {rest : List AV} (hn : L.length = n) (hj : j < n) (hg : g.get b = some (.cells (rowL encD L ++ rest) el .opn 0 0)) :
    ∃ rest', clearA Try.prog g 22 (.slice b (0 + j * 3) (n - j) (.opn 3)) = some (.tup [], g.set b (some (.cells (rowL encD (L.take j) ++ rest') el .opn 0 0))) := by
  obtain ⟨z, hz⟩ := Option.isSome_iff_exists.1 (show (zeroT Try.prog 35).isSome = true by kernel_rfl)
  have hzc : z.cells.length = 3 := by
    have : (zeroT Try.prog 35).map (fun z => z.cells.length) = some 3 := by kernel_rfl
    rw [hz] at this; simpa using this
  have hza : z.cells.all AV.isCell = true := by
    have : (zeroT Try.prog 35).map (fun z => z.cells.all AV.isCell) = some true := by kernel_rfl
    rw [hz] at this; simpa using this
  have hrl : ∀ m, (repeatL m z.cells).length = m * 3 := by
    intro m
    induction m with
    | zero => simp [repeatL]
    | succ m ih => rw [repeatL, List.length_append, ih, hzc]; omega
  have hra : ∀ m, (repeatL m z.cells).all AV.isCell = true := by
    intro m
    induction m with
    | zero => rfl
    | succ m ih => rw [repeatL, List.all_append, hza, ih]; rfl
  have e : rowL encD L ++ rest = rowL encD (L.take j) ++ (rowL encD (L.drop j) ++ rest) := by
    rw [← List.append_assoc, ← rowL_app, List.take_append_drop]
  have hp := putCells_mid (rowL encD (L.take j)) (repeatL (n - j) z.cells) (rowL encD (L.drop j)) rest (hra _) (by rw [hrl, rowL_len encD_len, List.length_drop, hn])
  rw [rowL_len encD_len, List.length_take, Nat.min_eq_left (by omega), ← e] at hp
  have h0 : ¬ (n - j = 0) := by omega
  have hw := writable_opn (j * 3) (repeatL (n - j) z.cells).length
  refine ⟨repeatL (n - j) z.cells ++ rest, ?_⟩
  simp only [clearA, dgst, if_neg h0, hz, AEv.storeCells, hg, hw, Nat.zero_add, hp]
theorem df_loop (m b n : Nat) (ds : List Dg) (rest : List AV) (hn : ds.length = n) (hb : n < 90000) : ∀ (k i j : Nat) (L : List Dg) (h : AHeap), n - i = k → i ≤ n → j < i → b < h.n → L.length = n → L.take j = (ds.take i).filter mayB → L.drop i = ds.drop i → h.get b = some (.cells (rowL encD L ++ rest) 35 .opn 0 0) →
    ∃ h' j' L', ExtX b h.n h h' ∧ j' < n ∧ L'.length = n ∧ L'.take j' = ds.filter mayB ∧ h'.get b = some (.cells (rowL encD L' ++ rest) 35 .opn 0 0) ∧
      LoopF Try.prog Try.f42 none (C (m + 2)) [1, 1, 1, 0, 1, 0] (k + 1) ⟨[(0, .slice b 0 n (.opn 3)), (1, .fn 44 [] []), (5, .int .i64 (Int.ofNat j)), (6, .int .i64 (Int.ofNat i))], [], .none, h⟩ (.exit 0) ⟨[(0, .slice b 0 n (.opn 3)), (5, .int .i64 (Int.ofNat j'))], [], .none, h'⟩
  | 0, i, j, L, h, hk, hi, hj, hbh, hL, h1, h2, hg => by
    obtain rfl : i = n := by omega
    rw [← hn, List.take_length] at h1
    refine ⟨h, j, L, ExtX.refl _ _ _, by omega, hL, h1, hg, .exit (RunP.post (dfl_3 _ _ _ _ _ _ ([]) (0) (0) (true) _ (h) (h) (h) (lt_f (by omega))) ⟨rfl, rfl, trivial⟩) (by simp)⟩
  | k + 1, i, j, L, h, hk, hi, hj, hbh, hL, h1, h2, hg => by
    have hii : i < ds.length := by omega
    have hiL : i < L.length := by omega
    have hLi : L[i] = ds[i] := by
      have := congrArg (fun l => l[0]?) h2
      simp only [List.getElem?_drop, Nat.add_zero] at this
      rw [List.getElem?_eq_getElem hiL, List.getElem?_eq_getElem hii] at this
      exact Option.some.inj this
    have hld := row_load (off := 0 + i * 3) encD_len hg hiL (by omega)
    rw [hLi] at hld
    obtain ⟨h1', hh1⟩ : ∃ h1', h1' = (h.push (.cells [.str [], .int .i64 (Int.ofNat 0), .int .i64 (Int.ofNat 0)] 35 .own 0 0)).set h.n (some (.cells (encD ds[i]) 35 .own 0 0)) := ⟨_, rfl⟩
    have n1 : h1'.n = h.n + 1 := by rw [hh1]; rfl
    have gc : h1'.get h.n = some (.cells (encD ds[i]) 35 .own 0 0) := by rw [hh1]; exact gsame rfl
    have gb : h1'.get b = some (.cells (rowL encD L ++ rest) 35 .opn 0 0) := by rw [hh1]; exact hgA
    have st : AEv.storeCells (h.push (.cells [.str [], .int .i64 (Int.ofNat 0), .int .i64 (Int.ofNat 0)] 35 .own 0 0)) h.n 0 (encD ds[i]) = some h1' := by rw [hh1]; exact stc (gtop rfl) rfl rfl
    have x0 : Ext h.n h h1' := by rw [hh1]; exact exA
    obtain ⟨g, v, x⟩ := nmay_c m ds[i] h1'
    have xn := x.n; (try simp only [AHeap.n_push, AHeap.n_set, AHeap.n_room] at xn)
    have gb2 : g.get b = some (.cells (rowL encD L ++ rest) 35 .opn 0 0) := hgA
    have gc2 : g.get h.n = some (.cells (encD ds[i]) 35 .own 0 0) := hgA
    have y1 : ExtX b h.n h g := (x0.toX b).trans (Nat.le_refl _) ((x.toX b).le (by omega))
    have d2 : L.drop (i + 1) = ds.drop (i + 1) := by rw [← List.drop_drop, h2, List.drop_drop]
    cases hm : mayB ds[i] with
    | false =>
      rw [hm] at v
      have hf : L.take j = (ds.take (i + 1)).filter mayB := by
        rw [List.take_add_one, List.getElem?_eq_getElem hii, List.filter_append, ← h1]; simp [hm]
      obtain ⟨h', j', L', q1, q2, q3, q4, q5, q6⟩ := df_loop m b n ds rest hn hb k (i + 1) j L g (by omega) (by omega) (by omega) (by omega) hL hf d2 gb2
      refine ⟨h', j', L', y1.trans (Nat.le_refl _) (q1.le (by omega)), q2, q3, q4, q5, .step ?_ q6⟩
      exact (dfk_2 _ _ _ _ _ _ _ _ _ _ _ _ _ (h) _ (lt_t (by omega)) (by show (_ : Nat) ≤ _; omega) (hld) (st) (ldc gc rfl) (v) rfl (add_n (by omega)))
    | true =>
      rw [hm] at v
      have hst := row_store (off := 0 + j * 3) encD_len encD_cell gb2 (i := j) (by omega) (by omega) ds[i]
      have hL2 : (L.set j ds[i]).length = n := by simpa using hL
      have hf : (L.set j ds[i]).take (j + 1) = (ds.take (i + 1)).filter mayB := by
        rw [List.take_add_one (l := ds), List.getElem?_eq_getElem hii, List.filter_append, ← h1]
        have : [ds[i]].filter mayB = [ds[i]] := by simp [hm]
        simp only [Option.toList, this]
        rw [List.take_add_one, List.take_set_of_le (by omega), List.getElem?_set]
        simp [show j < L.length by omega]
      have d3 : (L.set j ds[i]).drop (i + 1) = ds.drop (i + 1) := by rw [List.drop_set_of_lt (by omega), d2]
      obtain ⟨h', j', L', q1, q2, q3, q4, q5, q6⟩ := df_loop m b n ds rest hn hb k (i + 1) (j + 1) (L.set j ds[i]) (g.set b (some (.cells (rowL encD (L.set j ds[i]) ++ rest) 35 .opn 0 0))) (by omega) (by omega) (by omega) (by simp; omega) hL2 hf d3 (gsame rfl)
      have y2 := (y1.trans (Nat.le_refl _) (ExtX.set (some (.cells (rowL encD (L.set j ds[i]) ++ rest) 35 .opn 0 0))))
      refine ⟨h', j', L', y2.trans (Nat.le_refl _) (q1.le (by simp; omega)), q2, q3, q4, q5, .step ?_ q6⟩
      exact (dfl_1 _ _ _ _ _ _ _ _ _ _ _ _ _ (h) _ _ _ (lt_t (by omega)) (by show (_ : Nat) ≤ _; omega) (hld) (st) (ldc gc rfl) (v) rfl (ldc gc2 rfl) (by show (_ : Nat) ≤ _; omega) (hst) (add_n (by omega)) (add_n (by omega)))
theorem delete_c (m : Nat) (v : AV) (ds : List Dg) (B : Nat) (h : AHeap) (hr : SlD B h v ds) (hb : ds.length < 90000) (hB : B ≤ h.n) :
    ∃ v' h', C (m + 4) (.fn 42) [v, .fn 44 [] []] h = .ret v' h' ∧ Ext B h h' ∧ SlD B h' v' (ds.filter mayB) := by
  rcases hr with ⟨rfl, hv⟩ | ⟨b, rest, rfl, hg, hBb, hbh⟩
  · have l0 : ∀ {i : Nat}, LoopF Try.prog Try.f76 none (C (m + 2)) [1, 0, 1, 0] (0 + 1) ⟨[(7, .int .i64 (Int.ofNat 0)), (8, .int .i64 (Int.ofNat 0))], [], .none, h⟩ (.exit 0) ⟨[], [], .none, h⟩ := .exit (ix0l (C (m + 2)) h) (by simp)
    have l1 := LoopF.run (p := [1, 0, 1, 0]) (by kernel_rfl) (l0 (i := 0)) (by omega)
    have hix : C (m + 3) (.fn 76) [v, .fn 44 [] []] h = .ret (.int .i64 (Int.negSucc 0)) h := by
      rcases hv with rfl | ⟨b, rfl, _⟩
      · exact fn_runF (intr := Ii) (n := m + 2) (args := [.nilS, .fn 44 [] []]) Try.func76 (by kernel_rfl) rfl (by kernel_rfl) (ix0 (C (m + 2)) h h (RunP.pre l1 ⟨rfl, rfl, trivial⟩ rfl rfl rfl)) (.inl rfl) (by kernel_rfl)
      · exact fn_runF (intr := Ii) (n := m + 2) (args := [.slice b 0 0 (.exact 0), .fn 44 [] []]) Try.func76 (by kernel_rfl) rfl (by kernel_rfl) (ixf (C (m + 2)) b 0 (.exact 0) h h (RunP.pre l1 ⟨rfl, rfl, trivial⟩ rfl rfl rfl)) (.inl rfl) (by kernel_rfl)
    exact ⟨v, h, fn_runF (intr := Ii) (n := m + 3) (args := [v, .fn 44 [] []]) Try.func42 (by kernel_rfl) rfl (by kernel_rfl) (df0 (C (m + 3)) v h h hix) (.inl rfl) (by kernel_rfl), Ext.refl _ _, .inl ⟨rfl, hv⟩⟩
  · obtain ⟨g, x, hh⟩ := index_c m b ds.length ds rest h rfl hb hbh hg
    have xn := x.n; (try simp only [AHeap.n_push, AHeap.n_set, AHeap.n_room] at xn)
    have gb : g.get b = some (.cells (rowL encD ds ++ rest) 35 .opn 0 0) := hgA
    rcases hh with ⟨h1, h2⟩ | ⟨i, hi, h1, h2, h3⟩
    · have hf : ds.filter mayB = ds := List.filter_eq_self.2 fun d hd => by
        obtain ⟨j, hj, rfl⟩ := List.mem_iff_getElem.1 hd
        exact h1 j hj
      rw [hf]
      exact ⟨.slice b 0 ds.length (.opn 3), g, fn_runF (intr := Ii) (n := m + 3) (args := [.slice b 0 ds.length (.opn 3), .fn 44 [] []]) Try.func42 (by kernel_rfl) rfl (by kernel_rfl) (df0 (C (m + 3)) _ h g h2) (.inl rfl) (by kernel_rfl), x.le hB, .inr ⟨b, rest, rfl, gb, hBb, by omega⟩⟩
    · have hf : ds.take i = (ds.take (i + 1)).filter mayB := by
        rw [List.take_add_one, List.getElem?_eq_getElem hi, List.filter_append]
        have e1 : (ds.take i).filter mayB = ds.take i := List.filter_eq_self.2 fun d hd => by
          obtain ⟨j, hj, rfl⟩ := List.mem_iff_getElem.1 hd
          rw [List.getElem_take]
          exact h1 j (by simp at hj; omega) (by simp at hj; omega)
        rw [e1]; simp [h2]
      obtain ⟨g2, j, L, q1, q2, q3, q4, q5, q6⟩ := df_loop (m + 1) b ds.length ds rest rfl hb (ds.length - (i + 1)) (i + 1) i ds g rfl (by omega) (by omega) (by omega) rfl hf rfl gb
      obtain ⟨rest', hcl⟩ := clear_tail q3 q2 q5
      have loop := LoopF.run (p := [1, 1, 1, 0, 1, 0]) (by kernel_rfl) q6 (by omega)
      have hlen : (ds.filter mayB).length = j := by rw [← q4, List.length_take, q3]; omega
      refine ⟨.slice b 0 j (.opn 3), g2.set b (some (.cells (rowL encD (L.take j) ++ rest') 35 .opn 0 0)), ?_, ?_, .inr ⟨b, rest', by rw [hlen], by rw [q4]; exact gsame rfl, hBb, by have := q1.n; simp; omega⟩⟩
      · exact fn_runF (intr := Ii) (n := m + 3) (args := [.slice b 0 ds.length (.opn 3), .fn 44 [] []]) Try.func42 (by kernel_rfl) rfl (by kernel_rfl) (df1 _ _ _ _ _ _ (.nilS) _ _ _ _ _ _ (h3) (add_n (by omega)) (RunP.pre loop ⟨rfl, rfl, rfl, rfl, trivial⟩ rfl rfl rfl) (slice_tail q2) (hcl) (slice_head (by omega))) (.inl rfl) (by kernel_rfl)
      · exact ((x.le hB).trans (Nat.le_refl _) ((q1.le (by omega)).toExt hBb)).trans (Nat.le_refl _) (Ext.set hBb _)
end Go.Proofs.Wire

namespace Go.Proofs.Wire
open Go AEv Go.Proofs Go.Proofs.Enc
set_option maxRecDepth 100000
set_option maxHeartbeats 400000

/-! ### slices.Compact -/
def eq3 (p q r : Bool) : Option Bool := match some p with
  | some true => (match some q with
    | some true => (match some r with
      | some true => some true
      | x => x)
    | x => x)
  | x => x
theorem eq3_and (p q r : Bool) : eq3 p q r = some (p && (q && r)) := by cases p <;> cases q <;> cases r <;> rfl
def eqB (d e : Dg) : Bool := beqBytes d.1 e.1 && (eqI d.2.1 e.2.1 && eqI d.2.2 e.2.2)
theorem eqA_dg (h : AHeap) (d e : Dg) : eqA Try.prog h 100 35 (.agg (encD d)) (.agg (encD e)) = some (eqB d e) := by
  have : eqA Try.prog h 100 35 (.agg (encD d)) (.agg (encD e)) = eq3 (beqBytes d.1 e.1) (eqI d.2.1 e.2.1) (eqI d.2.2 e.2.2) := by kernel_rfl
  rw [this, eq3_and]; rfl
theorem eqB_iff (d e : Dg) : eqB d e = true ↔ d = e := by
  obtain ⟨a, i, j⟩ := d; obtain ⟨b, k, l⟩ := e
  simp only [eqB, Bool.and_eq_true, beqBytes_eq, eqI, beq_iff_eq, Prod.mk.injEq]
theorem bin_eq (h : AHeap) (x y : Operand) (d e : Dg) : binA Try.prog h BinOp.eql 35 x y (.agg (encD d)) (.agg (encD e)) = some (.bool (eqB d e)) := by
  have hk : eqOK Try.prog 35 x y (.agg (encD d)) (.agg (encD e)) = true := by
    show (!Try.prog.eqGuardType Try.prog.depth 35) = true
    kernel_rfl
  simp only [binA, hk, if_true, eqA_dg]
theorem bin_ne (h : AHeap) (x y : Operand) (d e : Dg) : binA Try.prog h BinOp.neq 35 x y (.agg (encD d)) (.agg (encD e)) = some (.bool (!eqB d e)) := by
  have hk : eqOK Try.prog 35 x y (.agg (encD d)) (.agg (encD e)) = true := by
    show (!Try.prog.eqGuardType Try.prog.depth 35) = true
    kernel_rfl
  simp only [binA, hk, if_true, eqA_dg]

def ddA (acc : List Dg) (d : Dg) : List Dg := if acc.getLast? = some d then acc else acc ++ [d]
/-- Of runs of equal ones, one is left. -/
def dd (l : List Dg) : List Dg := l.foldl ddA []
theorem dd_snoc (l : List Dg) (d : Dg) : dd (l ++ [d]) = ddA (dd l) d := by simp [dd]
theorem dd_last (ds : List Dg) : ∀ i, i ≤ ds.length → (dd (ds.take i)).getLast? = (ds.take i).getLast?
  | 0, _ => by simp [dd]
  | i + 1, hi => by
    rw [List.take_add_one, List.getElem?_eq_getElem (show i < ds.length by omega)]
    simp only [Option.toList]
    rw [dd_snoc, List.getLast?_concat]
    unfold ddA
    split
    · assumption
    · exact List.getLast?_concat
theorem dd_step (ds : List Dg) (i : Nat) (h0 : 0 < i) (hi : i < ds.length) : dd (ds.take (i + 1)) = if eqB ds[i] ds[i - 1] = true then dd (ds.take i) else dd (ds.take i) ++ [ds[i]] := by
  rw [List.take_add_one, List.getElem?_eq_getElem hi]
  simp only [Option.toList]
  rw [dd_snoc]
  unfold ddA
  rw [dd_last ds i (by omega)]
  have e : (ds.take i).getLast? = some ds[i - 1] := by
    rw [List.getLast?_eq_getElem?, List.length_take, Nat.min_eq_left (by omega), List.getElem?_take]
    rw [if_pos (by omega), List.getElem?_eq_getElem (by omega)]
  rw [e]
  by_cases h : ds[i - 1] = ds[i]
  · rw [if_pos (by rw [h]), if_pos ((eqB_iff _ _).2 h.symm)]
  · rw [if_neg (fun x => h (Option.some.inj x)), if_neg (fun x => h ((eqB_iff _ _).1 x).symm)]

theorem drop_at {L ds : List Dg} {k i : Nat} (h : L.drop k = ds.drop k) (hk : k ≤ i) (hl : L.length = ds.length) (hi : i < ds.length) : L[i]'(by omega) = ds[i] := by
  have := congrArg (fun l => l[i - k]?) h
  simp only [List.getElem?_drop] at this
  rw [show k + (i - k) = i by omega, List.getElem?_eq_getElem (by omega), List.getElem?_eq_getElem hi] at this
  exact Option.some.inj this
theorem ci_loop (call : CallT → List AV → AHeap → FRes) (b n k0 : Nat) (ds : List Dg) (rest : List AV) (hn : ds.length = n) (hb : n < 90000) (hk0 : 1 ≤ k0) (hkn : k0 < n) : ∀ (q j k : Nat) (L : List Dg) (h : AHeap), n - k0 - j = q → 1 ≤ j → k0 + j ≤ n → 1 ≤ k → k < k0 + j → b < h.n → L.length = n → L.take k = dd (ds.take (k0 + j)) → L.drop k = ds.drop k → h.get b = some (.cells (rowL encD L ++ rest) 35 .opn 0 0) →
    ∃ h' k' L', ExtX b h.n h h' ∧ k' < n ∧ L'.length = n ∧ L'.take k' = dd ds ∧ h'.get b = some (.cells (rowL encD L' ++ rest) 35 .opn 0 0) ∧
      LoopF Try.prog Try.f48 none call [1, 1, 0, 1, 0, 0, 1, 0, 0, 1, 0, 1, 0, 1, 0] (q + 1) ⟨[(0, .slice b 0 n (.opn 3)), (3, .int .i64 (Int.ofNat k)), (4, .slice b (0 + k0 * 3) (n - k0) (.opn 3)), (5, .int .i64 (Int.ofNat j))], [], .none, h⟩ (.exit 2) ⟨[(0, .slice b 0 n (.opn 3)), (3, .int .i64 (Int.ofNat k'))], [], .none, h'⟩
  | 0, j, k, L, h, hq, hj, hjn, hk1, hk, hbh, hL, h1, h2, hg => by
    have e : k0 + j = n := by omega
    rw [e, ← hn, List.take_length] at h1
    exact ⟨h, k, L, ExtX.refl _ _ _, by omega, hL, h1, hg, .exit (RunP.post (cif_2 _ _ _ _ _ _ _ _ ([]) ([]) (0) (0) (0) (0) _ (lt_f (by omega))) ⟨rfl, rfl, trivial⟩) (by simp)⟩
  | q + 1, j, k, L, h, hq, hj, hjn, hk1, hk, hbh, hL, h1, h2, hg => by
    have hi : k0 + j < ds.length := by omega
    have hg' : (h.room 10).get b = some (.cells (rowL encD L ++ rest) 35 .opn 0 0) := hg
    have l1 := row_load (off := 0 + k0 * 3 + j * 3) encD_len hg' (i := k0 + j) (by omega) (by omega)
    have l2 := row_load (off := 0 + k0 * 3 + (j - 1) * 3) encD_len hg' (i := k0 + j - 1) (by omega) (by omega)
    rw [drop_at h2 (by omega) (by omega) hi] at l1
    rw [drop_at h2 (by omega) (by omega) (by omega)] at l2
    have st := dd_step ds (k0 + j) (by omega) hi
    have bn := bin_ne (h.room 10) (Operand.tmp 38) (Operand.tmp 43) ds[k0 + j] ds[k0 + j - 1]
    cases hc : eqB ds[k0 + j] ds[k0 + j - 1] with
    | true =>
      rw [hc] at bn
      rw [if_pos hc] at st
      obtain ⟨h', k', L', q1, q2, q3, q4, q5, q6⟩ := ci_loop call b n k0 ds rest hn hb hk0 hkn q (j + 1) k L (h.room 10) (by omega) (by omega) (by omega) hk1 (by omega) (by simp; omega) hL (by rw [h1, ← st, Nat.add_assoc]) h2 hg'
      refine ⟨h', k', L', ((Ext.roomR (Ext.refl h.n h)).toX b).trans (Nat.le_refl _) (q1.le (by simp)), q2, q3, q4, q5, .step ?_ q6⟩
      exact (cif_1 _ _ _ _ _ _ _ _ _ _ _ _ _ _ _ _ (lt_t (by omega)) (by show (_ : Nat) ≤ _; omega) (l1) (sub_n (by omega) (by omega)) (by show (_ : Nat) ≤ _; omega) (l2) (bn) (add_n (by omega)))
    | false =>
      rw [hc] at bn
      rw [if_neg (by rw [hc]; simp)] at st
      have hst := row_store (off := 0 + k * 3) encD_len encD_cell hg' (i := k) (by omega) (by omega) ds[k0 + j]
      have hL2 : (L.set k ds[k0 + j]).length = n := by simpa using hL
      have hf : (L.set k ds[k0 + j]).take (k + 1) = dd (ds.take (k0 + (j + 1))) := by
        rw [← Nat.add_assoc, st, ← h1, List.take_add_one, List.take_set_of_le (by omega), List.getElem?_set]
        simp [show k < L.length by omega]
      have d3 : (L.set k ds[k0 + j]).drop (k + 1) = ds.drop (k + 1) := by
        rw [List.drop_set_of_lt (by omega), ← List.drop_drop, h2, List.drop_drop]
      obtain ⟨h', k', L', q1, q2, q3, q4, q5, q6⟩ := ci_loop call b n k0 ds rest hn hb hk0 hkn q (j + 1) (k + 1) (L.set k ds[k0 + j]) ((h.room 10).set b (some (.cells (rowL encD (L.set k ds[k0 + j]) ++ rest) 35 .opn 0 0))) (by omega) (by omega) (by omega) (by omega) (by omega) (by simp; omega) hL2 hf d3 (gsame rfl)
      have y1 : ExtX b h.n h ((h.room 10).set b (some (.cells (rowL encD (L.set k ds[k0 + j]) ++ rest) 35 .opn 0 0))) := ((Ext.roomR (Ext.refl h.n h)).toX b).trans (Nat.le_refl _) (ExtX.set _)
      refine ⟨h', k', L', y1.trans (Nat.le_refl _) (q1.le (by simp)), q2, q3, q4, q5, .step ?_ q6⟩
      exact (cit_1 _ _ _ _ _ _ _ _ _ _ _ _ _ _ _ _ _ _ (lt_t (by omega)) (by show (_ : Nat) ≤ _; omega) (l1) (sub_n (by omega) (by omega)) (by show (_ : Nat) ≤ _; omega) (l2) (bn) (by show (_ : Nat) ≤ _; omega) (hst) (add_n (by omega)) (add_n (by omega)))
theorem co_loop (call : CallT → List AV → AHeap → FRes) (b n : Nat) (ds : List Dg) (rest : List AV) (hn : ds.length = n) (hb : n < 90000) : ∀ (q k : Nat) (h : AHeap), n - k = q → 1 ≤ k → k ≤ n → b < h.n → dd (ds.take k) = ds.take k → h.get b = some (.cells (rowL encD ds ++ rest) 35 .opn 0 0) →
    ∃ h', ExtX b h.n h h' ∧ ((dd ds = ds ∧ h'.get b = some (.cells (rowL encD ds ++ rest) 35 .opn 0 0) ∧ LoopF Try.prog Try.f48 none call [1, 1, 0, 1, 0] (q + 1) ⟨[(0, .slice b 0 n (.opn 3)), (3, .int .i64 (Int.ofNat k))], [], .none, h⟩ (.exit 0) ⟨[(0, .slice b 0 n (.opn 3))], [], .none, h'⟩)
      ∨ ∃ rest', h'.get b = some (.cells (rowL encD (dd ds) ++ rest') 35 .opn 0 0) ∧ LoopF Try.prog Try.f48 none call [1, 1, 0, 1, 0] (q + 1) ⟨[(0, .slice b 0 n (.opn 3)), (3, .int .i64 (Int.ofNat k))], [], .none, h⟩ .ret ⟨[(2, .slice b 0 (dd ds).length (.opn 3))], [], .none, h'⟩)
  | 0, k, h, hq, hk1, hkn, hbh, hd, hg => by
    obtain rfl : k = n := by omega
    rw [← hn, List.take_length] at hd
    exact ⟨h, ExtX.refl _ _ _, .inl ⟨hd, hg, .exit (RunP.post (cpn_2 _ _ _ _ _ ([]) ([]) (0) (0) (0) (0) _ (lt_f (by omega))) ⟨rfl, trivial⟩) (by simp)⟩⟩
  | q + 1, k, h, hq, hk1, hkn, hbh, hd, hg => by
    have hi : k < ds.length := by omega
    have hg' : (h.room 10).get b = some (.cells (rowL encD ds ++ rest) 35 .opn 0 0) := hg
    have l1 := row_load (off := 0 + k * 3) encD_len hg' (i := k) (by omega) (by omega)
    have l2 := row_load (off := 0 + (k - 1) * 3) encD_len hg' (i := k - 1) (by omega) (by omega)
    have st := dd_step ds k (by omega) hi
    have bn := bin_eq (h.room 10) (Operand.tmp 19) (Operand.tmp 24) ds[k] ds[k - 1]
    cases hc : eqB ds[k] ds[k - 1] with
    | true =>
      rw [hc] at bn
      rw [if_pos hc] at st
      obtain ⟨h2, k2, L, q1, q2, q3, q4, q5, q6⟩ := ci_loop call b n k ds rest hn hb hk1 (by omega) (n - k - 1) 1 k ds (h.room 10) rfl (by omega) (by omega) hk1 (by omega) (by simp; omega) hn (by rw [st, hd]) rfl hg'
      obtain ⟨rest', hcl⟩ := clear_tail q3 q2 q5
      have loop := LoopF.run (p := [1, 1, 0, 1, 0, 0, 1, 0, 0, 1, 0, 1, 0, 1, 0]) (by kernel_rfl) q6 (by omega)
      have hlen : (dd ds).length = k2 := by rw [← q4, List.length_take, q3]; omega
      rw [hlen]
      refine ⟨h2.set b (some (.cells (rowL encD (L.take k2) ++ rest') 35 .opn 0 0)), (((Ext.roomR (Ext.refl h.n h)).toX b).trans (Nat.le_refl _) (q1.le (by simp))).trans (Nat.le_refl _) (ExtX.set _), .inr ⟨rest', by rw [← q4]; exact gsame rfl, LoopF.exit (e := .ret) (n := q + 1) ?_ (by simp)⟩⟩
      exact (cpq_1 _ _ _ _ _ _ _ _ _ _ _ _ _ _ _ _ (lt_t (by omega)) (by show (_ : Nat) ≤ _; omega) (l1) (sub_n (by omega) (by omega)) (by show (_ : Nat) ≤ _; omega) (l2) (bn) (slice_tail (by omega)) (RunP.pre loop ⟨rfl, rfl, rfl, rfl, trivial⟩ rfl rfl rfl) (slice_tail q2) (hcl) (slice_head (by omega)))
    | false =>
      rw [hc] at bn
      rw [if_neg (by rw [hc]; simp), hd] at st
      obtain ⟨h', x, hh⟩ := co_loop call b n ds rest hn hb q (k + 1) (h.room 10) (by omega) (by omega) (by omega) (by simp; omega) (st.trans (by rw [List.take_add_one, List.getElem?_eq_getElem hi]; rfl)) hg'
      refine ⟨h', ((Ext.roomR (Ext.refl h.n h)).toX b).trans (Nat.le_refl _) (x.le (by simp)), ?_⟩
      have s1 : RunF Try.prog Try.f48 none call ([1, 1, 0, 1, 0] ++ [0]) ⟨[(0, .slice b 0 n (.opn 3)), (3, .int .i64 (Int.ofNat k))], [], .none, h⟩ .nrm ⟨[(0, .slice b 0 n (.opn 3)), (3, .int .i64 (Int.ofNat (k + 1)))], [], .none, h.room 10⟩ := (cpn_1 _ _ _ _ _ _ _ _ _ _ _ _ _ (lt_t (by omega)) (by show (_ : Nat) ≤ _; omega) (l1) (sub_n (by omega) (by omega)) (by show (_ : Nat) ≤ _; omega) (l2) (bn) (add_n (by omega)))
      rcases hh with ⟨a1, a2, a3⟩ | ⟨rest', a1, a2⟩
      · exact .inl ⟨a1, a2, .step s1 a3⟩
      · exact .inr ⟨rest', a1, .step s1 a2⟩
theorem compact_c (m : Nat) (v : AV) (ds : List Dg) (B : Nat) (h : AHeap) (hr : SlD B h v ds) (hb : ds.length < 90000) (hB : B ≤ h.n) :
    ∃ v' h', C (m + 1) (.fn 48) [v] h = .ret v' h' ∧ Ext B h h' ∧ SlD B h' v' (dd ds) := by
  rcases hr with ⟨rfl, hv⟩ | ⟨b, rest, rfl, hg, hBb, hbh⟩
  · rcases hv with rfl | ⟨b, rfl, hq⟩
    · exact ⟨.nilS, h, fn_runF (intr := Ii) (n := m) (args := [.nilS]) Try.func48 (by kernel_rfl) rfl (by kernel_rfl) (cp0 (C m) .nilS 0 h) (.inl rfl) (by kernel_rfl), Ext.refl _ _, .inl ⟨rfl, .inl rfl⟩⟩
    · exact ⟨.slice b 0 0 (.exact 0), h, fn_runF (intr := Ii) (n := m) (args := [.slice b 0 0 (.exact 0)]) Try.func48 (by kernel_rfl) rfl (by kernel_rfl) (cp1_1 (C m) b 0 (.exact 0) h h (lt_t (by omega))) (.inl rfl) (by kernel_rfl), Ext.refl _ _, .inl ⟨rfl, .inr ⟨b, rfl, hq⟩⟩⟩
  · by_cases h2 : ds.length < 2
    · have hdd : dd ds = ds := by
        rcases ds with _ | ⟨d, _ | ⟨e, l⟩⟩
        · rfl
        · simp [dd, ddA]
        · simp at h2; omega
      rw [hdd]
      exact ⟨.slice b 0 ds.length (.opn 3), h, fn_runF (intr := Ii) (n := m) (args := [.slice b 0 ds.length (.opn 3)]) Try.func48 (by kernel_rfl) rfl (by kernel_rfl) (cp1_1 (C m) b ds.length (.opn 3) h h (lt_t h2)) (.inl rfl) (by kernel_rfl), Ext.refl _ _, .inr ⟨b, rest, rfl, hg, hBb, hbh⟩⟩
    · have hd1 : dd (ds.take 1) = ds.take 1 := by
        rcases ds with _ | ⟨d, l⟩
        · simp at h2
        · simp [dd, ddA]
      obtain ⟨h', x, hh⟩ := co_loop (C m) b ds.length ds rest rfl hb (ds.length - 1) 1 h rfl (by omega) (by omega) hbh hd1 hg
      have xe : Ext B h h' := (x.le hB).toExt hBb
      rcases hh with ⟨a1, a2, a3⟩ | ⟨rest', a1, a2⟩
      · have loop := LoopF.run (p := [1, 1, 0, 1, 0]) (by kernel_rfl) a3 (by omega)
        rw [a1]
        exact ⟨.slice b 0 ds.length (.opn 3), h', fn_runF (intr := Ii) (n := m) (args := [.slice b 0 ds.length (.opn 3)]) Try.func48 (by kernel_rfl) rfl (by kernel_rfl) (cp1_2 (C m) b ds.length (.opn 3) h h' (lt_f h2) (RunP.pre loop ⟨rfl, rfl, trivial⟩ rfl rfl rfl)) (.inl rfl) (by kernel_rfl), xe, .inr ⟨b, rest, rfl, a2, hBb, by have := x.n; omega⟩⟩
      · have loop := LoopF.run (p := [1, 1, 0, 1, 0]) (by kernel_rfl) a2 (by omega)
        exact ⟨.slice b 0 (dd ds).length (.opn 3), h', fn_runF (intr := Ii) (n := m) (args := [.slice b 0 ds.length (.opn 3)]) Try.func48 (by kernel_rfl) rfl (by kernel_rfl) (cpr_2 (C m) b ds.length (.opn 3) _ h h' (lt_f h2) (RunP.pre loop ⟨rfl, rfl, trivial⟩ rfl rfl rfl)) (.inl rfl) (by kernel_rfl), xe, .inr ⟨b, rest', rfl, a1, hBb, by have := x.n; omega⟩⟩
end Go.Proofs.Wire

namespace Go.Proofs.Wire
open Go AEv Go.Proofs Go.Proofs.Enc
set_option maxRecDepth 100000
set_option maxHeartbeats 400000

theorem dst (call : CallT → List AV → AHeap → FRes) (v w1 w2 w3 : AV) (h g1 g2 g3 g4 : AHeap)
    (H1 : call (.fn 43) [v] h = FRes.ret w1 g1)
    (H2 : call (.fn 42) [w1, .fn 44 [] []] g1 = FRes.ret w2 g2)
    (H3 : call (.fn 46) [w2, .fn 47 [] []] g2 = FRes.ret (.tup []) g3)
    (H4 : call (.fn 48) [w2] g3 = FRes.ret w3 g4) :
    RunF Try.prog Try.f15 none call [] (SSt.mk [(0, v)] [] .none h) (.ret)
      (SSt.mk [(2, w3)] [] .none g4) :=
  sxF_run [2] (hs := [.c w1 g1, .c w2 g2, .c (.tup []) g3, .c w3 g4]) (by kernel_rfl) <| .cons H1 <| .cons H2 <| .cons H3 <| .cons H4 <| .nil
theorem den (call : CallT → List AV → AHeap → FRes) (v : AV) (b n : Nat) (c : Cap) (s : List UInt8) (h g1 g2 : AHeap) (n_1 : Nat) (t_1 : List UInt8) (g_1 : AHeap)
    (H1 : call (.fn 15) [v] h = FRes.ret (.slice b 0 n c) g1)
    (H2 : evConvert Try.prog 3 52 (AV.int IntKind.i64 (Int.ofNat n)) g1 = OpRes.val (AV.int IntKind.u64 (Int.ofNat n_1)) g1)
    (H3 : call (.fn 51) [.str [], .int .u64 (.ofNat n_1)] g1 = FRes.ret (.str t_1) g_1)
    (H4 : RunF Try.prog Try.f17 none call [1, 1, 1, 0, 1, 0] (SSt.mk [(14, .int .i64 (.ofNat 0)), (13, .int .i64 (.ofNat n)), (12, .slice b 0 n c), (3, .str t_1), (0, .slice b 0 n c), (2, .str [])] [] .none g_1) (.exit 0) (SSt.mk [(3, .str s)] [] .none g2)) :
    RunF Try.prog Try.f17 none call [] (SSt.mk [(0, v)] [] .none h) (.ret)
      (SSt.mk [(2, .str s)] [] .none g2) :=
  sxF_run [2] (hs := [Hint.c (AV.slice b 0 n c) g1, Hint.v (AV.int IntKind.u64 (Int.ofNat n_1)), Hint.c (AV.str t_1) g_1, Hint.loop (AEx.exit 0) (SSt.mk [(3, AV.str s)] [] Rc.none g2)]) (by kernel_rfl) <| .cons H1 <| .cons H2 <| .cons H3 <| .cons H4 <| .nil
theorem den0 (call : CallT → List AV → AHeap → FRes) (v : AV) (s : List UInt8) (h g1 g2 : AHeap) (t_1 : List UInt8) (g_1 : AHeap)
    (H1 : call (.fn 15) [v] h = FRes.ret .nilS g1)
    (H2 : call (.fn 51) [.str [], .int .u64 (.ofNat 0)] g1 = FRes.ret (.str t_1) g_1)
    (H3 : RunF Try.prog Try.f17 none call [1, 1, 1, 0, 1, 0] (SSt.mk [(14, .int .i64 (.ofNat 0)), (13, .int .i64 (.ofNat 0)), (12, .nilS), (3, .str t_1), (0, .nilS), (2, .str [])] [] .none g_1) (.exit 0) (SSt.mk [(3, .str s)] [] .none g2)) :
    RunF Try.prog Try.f17 none call [] (SSt.mk [(0, v)] [] .none h) (.ret)
      (SSt.mk [(2, .str s)] [] .none g2) :=
  sxF_run [2] (hs := [Hint.c AV.nilS g1, Hint.v (AV.int IntKind.u64 (Int.ofNat 0)), Hint.c (AV.str t_1) g_1, Hint.loop (AEx.exit 0) (SSt.mk [(3, AV.str s)] [] Rc.none g2)]) (by kernel_rfl) <| .cons H1 <| .cons (by kernel_rfl : evConvert Try.prog 3 52 (AV.int IntKind.i64 (Int.ofNat 0)) g1 = OpRes.val (AV.int IntKind.u64 (Int.ofNat 0)) g1) <| .cons H2 <| .cons H3 <| .nil
theorem denl_1 (call : CallT → List AV → AHeap → FRes) (b n i : Nat) (c : Cap) (a s : List UInt8) (x x2 : Nat) (h g_1 : AHeap) (t_1 t_2 : List UInt8) (g_2 : AHeap) (n_1 n_2 : Nat) (t_3 : List UInt8) (g_3 : AHeap) (n_3 n_4 : Nat) (t_4 : List UInt8) (g_4 : AHeap) (n_5 : Nat)
    (H1 : ltI (.ofNat i) (.ofNat n) = true)
    (H2 : Nat.le (Nat.succ i) n)
    (H3 : AEv.loadCells h b (0 + i * 3) 3 = some [.str a, .int .i64 (.ofNat x), .int .i64 (.ofNat x2)])
    (H4 : AEv.storeCells (AHeap.push h (.cells [.str [], .int .i64 (.ofNat 0), .int .i64 (.ofNat 0)] 35 .own 0 0)) (AHeap.n h) 0 [.str a, .int .i64 (.ofNat x), .int .i64 (.ofNat x2)] = some g_1)
    (H5 : load1 (AHeap.room g_1 13) (AHeap.n h) (0 + 0) = some (.str t_1))
    (H6 : call (.fn 52) [.str s, .str t_1] (AHeap.room g_1 13) = FRes.ret (.str t_2) g_2)
    (H7 : load1 g_2 (AHeap.n h) (0 + 1) = some (.int .i64 (.ofNat n_1)))
    (H8 : evConvert Try.prog 3 52 (AV.int IntKind.i64 (Int.ofNat n_1)) g_2 = OpRes.val (AV.int IntKind.u64 (Int.ofNat n_2)) g_2)
    (H9 : call (.fn 51) [.str t_2, .int .u64 (.ofNat n_2)] g_2 = FRes.ret (.str t_3) g_3)
    (H10 : load1 g_3 (AHeap.n h) (0 + 2) = some (.int .i64 (.ofNat n_3)))
    (H11 : evConvert Try.prog 3 52 (AV.int IntKind.i64 (Int.ofNat n_3)) g_3 = OpRes.val (AV.int IntKind.u64 (Int.ofNat n_4)) g_3)
    (H12 : call (.fn 51) [.str t_3, .int .u64 (.ofNat n_4)] g_3 = FRes.ret (.str t_4) g_4)
    (H13 : load1 (AHeap.room g_1 13) (AHeap.n h) (0 + 1) = some (.int .i64 (.ofNat n_1)))
    (H14 : evConvert Try.prog 3 52 (AV.int IntKind.i64 (Int.ofNat n_1)) (AHeap.room g_1 13) = OpRes.val (AV.int IntKind.u64 (Int.ofNat n_2)) (AHeap.room g_1 13))
    (H15 : load1 g_2 (AHeap.n h) (0 + 2) = some (.int .i64 (.ofNat n_3)))
    (H16 : load1 (AHeap.room g_1 13) (AHeap.n h) (0 + 2) = some (.int .i64 (.ofNat n_3)))
    (H17 : evConvert Try.prog 3 52 (AV.int IntKind.i64 (Int.ofNat n_3)) g_2 = OpRes.val (AV.int IntKind.u64 (Int.ofNat n_4)) g_2)
    (H18 : evConvert Try.prog 3 52 (AV.int IntKind.i64 (Int.ofNat n_3)) (AHeap.room g_1 13) = OpRes.val (AV.int IntKind.u64 (Int.ofNat n_4)) (AHeap.room g_1 13))
    (H19 : arith .add .i64 (.ofNat i) (.ofNat 1) = some (.int .i64 (.ofNat n_5))) :
    RunF Try.prog Try.f17 none call [1, 1, 1, 0, 1, 0, 0] (SSt.mk [(3, .str s), (12, .slice b 0 n c), (13, .int .i64 (.ofNat n)), (14, .int .i64 (.ofNat i))] [] .none h) (.nrm)
      (SSt.mk [(3, .str t_4), (12, .slice b 0 n c), (13, .int .i64 (.ofNat n)), (14, .int .i64 (.ofNat n_5))] [] .none g_4) :=
  sxF_run [3, 12, 13, 14] (hs := [.b true, .v (.ptr b (0 + i * 3)), .v (.agg [.str a, .int .i64 (.ofNat x), .int .i64 (.ofNat x2)]), .vh (.tup []) g_1, .v (.str t_1), .c (.str t_2) g_2, .v (.int .i64 (.ofNat n_1)), .v (.int .u64 (.ofNat n_2)), .c (.str t_3) g_3, .v (.int .i64 (.ofNat n_3)), .v (.int .u64 (.ofNat n_4)), .c (.str t_4) g_4, .v (.int .i64 (.ofNat n_5))]) (by kernel_rfl) <| .cons H1 <| .cons (⟨H2, rfl⟩ : Nat.le (Nat.succ i) n ∧ AV.ptr b (0 + i * 3) = AV.ptr b (0 + i * 3)) <| .cons H3 <| .cons (⟨by kernel_rfl, H4, rfl⟩ : some 3 = some 3 ∧ AEv.storeCells (AHeap.push h (AObj.cells [AV.str [], AV.int IntKind.i64 (Int.ofNat 0), AV.int IntKind.i64 (Int.ofNat 0)] 35 BK.own 0 0)) (AHeap.n h) 0 [AV.str a, AV.int IntKind.i64 (Int.ofNat x), AV.int IntKind.i64 (Int.ofNat x2)] = some g_1 ∧ AV.tup [] = AV.tup []) <| .cons H5 <| .cons H6 <| .cons H7 <| .cons H8 <| .cons H9 <| .cons H10 <| .cons H11 <| .cons H12 <| .cons (by kernel_rfl : AV.sound (AV.str s) = true) <| .cons (by kernel_rfl : AV.str s = AV.str s) <| .cons (by kernel_rfl : AV.sound (AV.ptr (AHeap.n h) (0 + 0)) = true) <| .cons (by kernel_rfl : AV.ptr (AHeap.n h) (0 + 0) = AV.ptr (AHeap.n h) (0 + 0)) <| .cons (by kernel_rfl : AV.sound (AV.str t_1) = true) <| .cons H5 <| .cons (by kernel_rfl : AV.sound (AV.ptr (AHeap.n h) (0 + 1)) = true) <| .cons (by kernel_rfl : AV.ptr (AHeap.n h) (0 + 1) = AV.ptr (AHeap.n h) (0 + 1)) <| .cons (by kernel_rfl : AV.sound (AV.ptr (AHeap.n h) (0 + 1)) = true) <| .cons (by kernel_rfl : AV.ptr (AHeap.n h) (0 + 1) = AV.ptr (AHeap.n h) (0 + 1)) <| .cons (by kernel_rfl : AV.sound (AV.int IntKind.i64 (Int.ofNat n_1)) = true) <| .cons H7 <| .cons (by kernel_rfl : AV.sound (AV.int IntKind.i64 (Int.ofNat n_1)) = true) <| .cons H13 <| .cons (by kernel_rfl : AV.sound (AV.int IntKind.u64 (Int.ofNat n_2)) = true) <| .cons H8 <| .cons (by kernel_rfl : AV.sound (AV.int IntKind.u64 (Int.ofNat n_2)) = true) <| .cons H14 <| .cons (by kernel_rfl : AV.sound (AV.ptr (AHeap.n h) (0 + 2)) = true) <| .cons (by kernel_rfl : AV.ptr (AHeap.n h) (0 + 2) = AV.ptr (AHeap.n h) (0 + 2)) <| .cons (by kernel_rfl : AV.sound (AV.ptr (AHeap.n h) (0 + 2)) = true) <| .cons (by kernel_rfl : AV.ptr (AHeap.n h) (0 + 2) = AV.ptr (AHeap.n h) (0 + 2)) <| .cons (by kernel_rfl : AV.sound (AV.ptr (AHeap.n h) (0 + 2)) = true) <| .cons (by kernel_rfl : AV.ptr (AHeap.n h) (0 + 2) = AV.ptr (AHeap.n h) (0 + 2)) <| .cons (by kernel_rfl : AV.sound (AV.int IntKind.i64 (Int.ofNat n_3)) = true) <| .cons H10 <| .cons (by kernel_rfl : AV.sound (AV.int IntKind.i64 (Int.ofNat n_3)) = true) <| .cons H15 <| .cons (by kernel_rfl : AV.sound (AV.int IntKind.i64 (Int.ofNat n_3)) = true) <| .cons H16 <| .cons (by kernel_rfl : AV.sound (AV.int IntKind.u64 (Int.ofNat n_4)) = true) <| .cons H11 <| .cons (by kernel_rfl : AV.sound (AV.int IntKind.u64 (Int.ofNat n_4)) = true) <| .cons H17 <| .cons (by kernel_rfl : AV.sound (AV.int IntKind.u64 (Int.ofNat n_4)) = true) <| .cons H18 <| .cons (by kernel_rfl : AV.sound (AV.str t_4) = true) <| .cons (by kernel_rfl : AV.str t_4 = AV.str t_4) <| .cons H19 <| .nil
theorem denl_2 (call : CallT → List AV → AHeap → FRes) (b n i : Nat) (c : Cap) (a s : List UInt8) (x x2 : Nat) (h : AHeap)
    (H1 : ltI (.ofNat i) (.ofNat n) = false) :
    RunF Try.prog Try.f17 none call [1, 1, 1, 0, 1, 0, 0] (SSt.mk [(3, .str s), (12, .slice b 0 n c), (13, .int .i64 (.ofNat n)), (14, .int .i64 (.ofNat i))] [] .none h) (.exit 0)
      (SSt.mk [(3, .str s), (12, .slice b 0 n c), (13, .int .i64 (.ofNat n)), (14, .int .i64 (.ofNat i))] [] .none h) :=
  sxF_run [3, 12, 13, 14] (hs := [.b false]) (by kernel_rfl) <| .cons H1 <| .nil
theorem denz (call : CallT → List AV → AHeap → FRes) (s : List UInt8) (h : AHeap) :
    RunF Try.prog Try.f17 none call [1, 1, 1, 0, 1, 0, 0] (SSt.mk [(3, .str s), (13, .int .i64 (.ofNat 0)), (14, .int .i64 (.ofNat 0))] [] .none h) (.exit 0)
      (SSt.mk [(3, .str s)] [] .none h) :=
  sxF_run [3] (hs := [.b false]) (by kernel_rfl) <| .cons (by kernel_rfl : ltI (Int.ofNat 0) (Int.ofNat 0) = false) <| .nil
/-! ### diag.Sort -/
theorem sortf_c (m : Nat) (v : AV) (ds : List Dg) (B : Nat) (h : AHeap) (hr : SlD B h v ds) (hb : ds.length < 90000) (hB : B ≤ h.n) :
    ∃ h', C (m + 1) (.fn 46) [v, .fn 47 [] []] h = .ret (.tup []) h' ∧ Ext B h h' ∧ SlD B h' v (srtD ds) := by
  have hs0 : srtD [] = [] := by simp [srtD]
  have hl : (srtD ds).length = ds.length := by simp [srtD, List.length_mergeSort]
  rcases hr with ⟨rfl, hv⟩ | ⟨b, rest, rfl, hg, hBb, hbh⟩
  · refine ⟨h, tab_c ?_, Ext.refl _ _, .inl ⟨hs0, hv⟩⟩
    rcases hv with rfl | ⟨b, rfl, _⟩
    · kernel_rfl
    · kernel_rfl
  · by_cases h0 : ds.length = 0
    · have hd : ds = [] := List.eq_nil_of_length_eq_zero h0
      subst hd
      rw [hs0]
      exact ⟨h, tab_c (by kernel_rfl), Ext.refl _ _, .inr ⟨b, rest, rfl, hg, hBb, hbh⟩⟩
    · have hi : ∀ d d' : Dg, encD d = encD d' → d = d' := fun d d' e => by
        obtain ⟨a, i, j⟩ := d; obtain ⟨b, k, l⟩ := d'
        simp only [encD, List.cons.injEq, AV.str.injEq, AV.int.injEq] at e
        obtain ⟨e1, ⟨_, e2⟩, ⟨_, e3⟩, _⟩ := e
        rw [e1, e2, e3]
      have key := sortI_eq (enc := encD) (srt := srtD) (w := 3) encD_len hi (fS := 46) (g := 47) (cap := .opn 3) (len := ds.length) (by omega) (by omega) hg rfl (.inr rfl)
      have e1 : tabIntr Wk 46 [.slice b 0 ds.length (.opn 3), .fn 47 [] []] h = none := by kernel_rfl
      have e2 : sort0I 46 46 [.slice b 0 ds.length (.opn 3), .fn 47 [] []] h = none := by
        obtain ⟨k, hk⟩ : ∃ k, ds.length = k + 1 := ⟨ds.length - 1, by omega⟩
        rw [hk]; kernel_rfl
      refine ⟨h.set b (some (.cells (rowL encD (srtD ds) ++ rest) 35 .opn 0 0)), tab_c' ?_, Ext.set hBb _, .inr ⟨b, rest, by rw [hl], gsame rfl, hBb, by simpa using hbh⟩⟩
      simp only [Ii, orI, e1, e2, key]
/-- A list, sorted, each one once, of those that may be told. -/
def sortedL (ds : List Dg) : List Dg := dd (srtD (ds.filter mayB))
theorem dd_len (ds : List Dg) : (dd ds).length ≤ ds.length := by
  have : ∀ (l acc : List Dg), (l.foldl ddA acc).length ≤ acc.length + l.length := by
    intro l
    induction l with
    | nil => intro acc; simp
    | cons d l ih =>
      intro acc
      rw [List.foldl_cons]
      refine Nat.le_trans (ih _) ?_
      unfold ddA
      split <;> simp <;> omega
  simpa [dd] using this ds []
theorem sortedL_len (ds : List Dg) : (sortedL ds).length ≤ ds.length := by
  refine Nat.le_trans (dd_len _) ?_
  rw [srtD, List.length_mergeSort]
  exact List.length_filter_le _ _
theorem dsort_c (m : Nat) (v : AV) (ds : List Dg) (h : AHeap) (hr : RowIn h v ds) (hb : ds.length < 90000) :
    ∃ v' h', C (m + 5) (.fn 15) [v] h = .ret v' h' ∧ Ext h.n h h' ∧ SlD h.n h' v' (sortedL ds) := by
  obtain ⟨w1, g1, c1, x1, r1⟩ := clone_c (m + 3) v ds h hr (by omega)
  obtain ⟨w2, g2, c2, x2, r2⟩ := delete_c m w1 ds h.n g1 r1 hb x1.n
  have hf : (ds.filter mayB).length < 90000 := Nat.lt_of_le_of_lt (List.length_filter_le _ _) hb
  obtain ⟨g3, c3, x3, r3⟩ := sortf_c (m + 3) w2 (ds.filter mayB) h.n g2 r2 hf (Nat.le_trans x1.n x2.n)
  obtain ⟨w3, g4, c4, x4, r4⟩ := compact_c (m + 3) w2 (srtD (ds.filter mayB)) h.n g3 r3 (by rw [srtD, List.length_mergeSort]; exact hf) (Nat.le_trans x1.n (Nat.le_trans x2.n x3.n))
  exact ⟨w3, g4, fn_runF (intr := Ii) (n := m + 4) (args := [v]) Try.func15 (by kernel_rfl) rfl (by kernel_rfl) (dst (C (m + 4)) v w1 w2 w3 h g1 g2 g3 g4 c1 c2 c3 c4) (.inl rfl) (by kernel_rfl), ((x1.trans (Nat.le_refl _) x2).trans (Nat.le_refl _) x3).trans (Nat.le_refl _) x4, r4⟩

/-! ### diag.Encode -/
def dgT (d : Dg) : List UInt8 := textL d.1 ++ (numL d.2.1.toNat ++ numL d.2.2.toNat)
def encT (ds : List Dg) : List UInt8 := numL ds.length ++ ds.flatMap dgT
theorem mayB_nat {d : Dg} (h : mayB d = true) : ∃ (a : List UInt8) (x x2 : Nat), d = (a, Int.ofNat x, Int.ofNat x2) ∧ x ≤ 2147483647 ∧ x2 ≤ 13 ∧ a.length ≤ 200 := by
  obtain ⟨a, x, x2⟩ := d
  simp only [mayB, Bool.and_eq_true, leI, decide_eq_true_eq] at h
  obtain ⟨h1, h2, h3, h4, h5⟩ := h
  have e1 : Int.ofNat 1 = 1 := rfl
  have e2 : Int.ofNat 13 = 13 := rfl
  have e3 : Int.ofNat 0 = 0 := rfl
  have e4 : Int.ofNat 2147483647 = 2147483647 := rfl
  have e5 : Int.ofNat a.length = (a.length : Int) := rfl
  have e6 : Int.ofNat 200 = 200 := rfl
  rw [e1] at h1; rw [e2] at h2; rw [e3] at h3; rw [e4] at h4; rw [e5, e6] at h5
  refine ⟨a, x.toNat, x2.toNat, ?_, by omega, by omega, by omega⟩
  have f1 : Int.ofNat x.toNat = x := by show ((x.toNat : Nat) : Int) = x; omega
  have f2 : Int.ofNat x2.toNat = x2 := by show ((x2.toNat : Nat) : Int) = x2; omega
  rw [f1, f2]
theorem de_loop (m b n : Nat) (ds : List Dg) (rest : List AV) (hn : ds.length = n) (hb : n < 90000) (hmay : ∀ d ∈ ds, mayB d = true) : ∀ (q i : Nat) (s : List UInt8) (h : AHeap), n - i = q → i ≤ n → b < h.n → s.length ≤ 10 + i * 300 → h.get b = some (.cells (rowL encD ds ++ rest) 35 .opn 0 0) →
    ∃ h', Ext h.n h h' ∧ LoopF Try.prog Try.f17 none (C (m + 5)) [1, 1, 1, 0, 1, 0] (q + 1) ⟨[(3, .str s), (12, .slice b 0 n (.opn 3)), (13, .int .i64 (Int.ofNat n)), (14, .int .i64 (Int.ofNat i))], [], .none, h⟩ (.exit 0) ⟨[(3, .str (s ++ (ds.drop i).flatMap dgT))], [], .none, h'⟩
  | 0, i, s, h, hq, hi, hbh, hs, hg => by
    obtain rfl : i = n := by omega
    have hd : ds.drop i = [] := List.drop_eq_nil_of_le (by omega)
    rw [hd]
    exact ⟨h, Ext.refl _ _, .exit (RunP.post (denl_2 _ _ _ _ _ ([]) _ (0) (0) _ (lt_f (by omega))) ⟨by simp [lk], trivial⟩) (by simp)⟩
  | q + 1, i, s, h, hq, hi, hbh, hs, hg => by
    have hii : i < ds.length := by omega
    have hm := hmay ds[i] (List.getElem_mem hii)
    have hdr : ds.drop i = ds[i] :: ds.drop (i + 1) := List.drop_eq_getElem_cons hii
    have hld := row_load (off := 0 + i * 3) encD_len hg hii (by omega)
    obtain ⟨a, x, x2, hd, hx, hx2, ha⟩ := mayB_nat hm
    rw [hd] at hld
    have hdg : dgT ds[i] = textL a ++ (numL x ++ numL x2) := by rw [hd]; rfl
    rw [hdr, List.flatMap_cons, hdg]
    obtain ⟨g1, hg1⟩ : ∃ g1, g1 = (h.push (.cells [.str [], .int .i64 (Int.ofNat 0), .int .i64 (Int.ofNat 0)] 35 .own 0 0)).set h.n (some (.cells [.str a, .int .i64 (Int.ofNat x), .int .i64 (Int.ofNat x2)] 35 .own 0 0)) := ⟨_, rfl⟩
    have n1 : g1.n = h.n + 1 := by rw [hg1]; rfl
    have x0 : Ext h.n h g1 := by rw [hg1]; exact exA
    have gc : g1.get h.n = some (.cells [.str a, .int .i64 (Int.ofNat x), .int .i64 (Int.ofNat x2)] 35 .own 0 0) := by rw [hg1]; exact gsame rfl
    have st : AEv.storeCells (h.push (.cells [.str [], .int .i64 (Int.ofNat 0), .int .i64 (Int.ofNat 0)] 35 .own 0 0)) h.n 0 [.str a, .int .i64 (Int.ofNat x), .int .i64 (Int.ofNat x2)] = some g1 := by rw [hg1]; exact stc (gtop rfl) rfl rfl
    have t1 := textL_len a
    have t2 := numL_len x
    have t3 := numL_len x2
    obtain ⟨g2, v2, y2⟩ := puttext_c m s a (g1.room 13) (by omega) (by omega)
    have y2n := y2.n; (try simp only [AHeap.n_push, AHeap.n_set, AHeap.n_room] at y2n)
    obtain ⟨g3, v3, y3⟩ := putnum_c (m + 1) x (s ++ textL a) g2 (by omega) (by rw [List.length_append]; omega)
    have y3n := y3.n; (try simp only [AHeap.n_push, AHeap.n_set, AHeap.n_room] at y3n)
    obtain ⟨g4, v4, y4⟩ := putnum_c (m + 1) x2 (s ++ textL a ++ numL x) g3 (by omega) (by rw [List.length_append, List.length_append]; omega)
    have y4n := y4.n; (try simp only [AHeap.n_push, AHeap.n_set, AHeap.n_room] at y4n)
    have gr : (g1.room 13).get h.n = some (.cells [.str a, .int .i64 (Int.ofNat x), .int .i64 (Int.ofNat x2)] 35 .own 0 0) := gc
    have gc2 : g2.get h.n = some (.cells [.str a, .int .i64 (Int.ofNat x), .int .i64 (Int.ofNat x2)] 35 .own 0 0) := hgA
    have gc3 : g3.get h.n = some (.cells [.str a, .int .i64 (Int.ofNat x), .int .i64 (Int.ofNat x2)] 35 .own 0 0) := hgA
    have xx : Ext h.n h g4 := exA
    obtain ⟨h', z, l⟩ := de_loop m b n ds rest hn hb hmay q (i + 1) (s ++ textL a ++ numL x ++ numL x2) g4 (by omega) (by omega) (by omega) (by rw [List.length_append, List.length_append, List.length_append]; omega) ((xx.get b hbh).trans hg)
    have e : s ++ textL a ++ numL x ++ numL x2 ++ (ds.drop (i + 1)).flatMap dgT = s ++ (textL a ++ (numL x ++ numL x2) ++ (ds.drop (i + 1)).flatMap dgT) := by simp only [List.append_assoc]
    rw [e] at l
    refine ⟨h', xx.trans xx.n z, .step ?_ l⟩
    exact (denl_1 _ _ _ _ _ _ _ _ _ _ _ _ _ _ _ _ _ _ _ _ _ _ _ (lt_t (by omega)) (by show (_ : Nat) ≤ _; omega) (hld) (st) (ld1 gr rfl) (v2) (ld1 gc2 rfl) (conv_u64 x (by omega) g2) (v3) (ld1 gc3 rfl) (conv_u64 x2 (by omega) g3) (v4) (ld1 gr rfl) (conv_u64 x (by omega) _) (ld1 gc2 rfl) (ld1 gr rfl) (conv_u64 x2 (by omega) _) (conv_u64 x2 (by omega) _) (add_n (by omega)))
end Go.Proofs.Wire

namespace Go.Proofs.Wire
open Go AEv Go.Proofs Go.Proofs.Enc
set_option maxRecDepth 100000
set_option maxHeartbeats 400000

/-! ### diag.Encode, whole -/
theorem mem_dd {d : Dg} {l : List Dg} : d ∈ dd l ↔ d ∈ l := by
  have key : ∀ (l acc : List Dg), d ∈ l.foldl ddA acc ↔ d ∈ acc ∨ d ∈ l := by
    intro l
    induction l with
    | nil => intro acc; simp
    | cons e l ih =>
      intro acc
      rw [List.foldl_cons, ih]
      unfold ddA
      split
      · rename_i h
        have he : e ∈ acc := List.mem_of_getLast? h
        simp only [List.mem_cons]
        constructor
        · rintro (h1 | h1)
          · exact .inl h1
          · exact .inr (.inr h1)
        · rintro (h1 | rfl | h1)
          · exact .inl h1
          · exact .inl he
          · exact .inr h1
      · rw [List.mem_append, List.mem_singleton, List.mem_cons, or_assoc]
  simpa [dd] using key l []
theorem mem_sortedL {d : Dg} {l : List Dg} : d ∈ sortedL l ↔ d ∈ l ∧ mayB d = true := by
  unfold sortedL srtD
  rw [mem_dd, List.mem_mergeSort, List.mem_filter]
theorem dencode_c (m : Nat) (v : AV) (ds : List Dg) (h : AHeap) (hr : RowIn h v ds) (hb : ds.length < 90000) :
    ∃ h', C (m + 6) (.fn 17) [v] h = .ret (.str (encT (sortedL ds))) h' ∧ Ext h.n h h' := by
  obtain ⟨w, g1, c1, x1, r1⟩ := dsort_c m v ds h hr hb
  have hlen := sortedL_len ds
  obtain ⟨g2, c2, x2⟩ := putnum_c (m + 1) (sortedL ds).length [] g1 (by omega) (by simp)
  rw [List.nil_append] at c2
  have hnl := numL_len (sortedL ds).length
  have ex : Ext h.n h g2 := x1.trans x1.n x2
  rcases r1 with ⟨h0, hv⟩ | ⟨b, rest, hv, hg, hBb, hbh⟩
  · rw [h0] at c2 ⊢
    have e : encT [] = numL 0 := by simp [encT]
    rw [e]
    have l0 : LoopF Try.prog Try.f17 none (C (m + 5)) [1, 1, 1, 0, 1, 0] (0 + 1) ⟨[(3, .str (numL 0)), (13, .int .i64 (Int.ofNat 0)), (14, .int .i64 (Int.ofNat 0))], [], .none, g2⟩ (.exit 0) ⟨[(3, .str (numL 0))], [], .none, g2⟩ := .exit (denz (C (m + 5)) (numL 0) g2) (by simp)
    have loop := LoopF.run (p := [1, 1, 1, 0, 1, 0]) (by kernel_rfl) l0 (by omega)
    rcases hv with rfl | ⟨b, rfl, _⟩
    · exact ⟨g2, fn_runF (intr := Ii) (n := m + 5) (args := [v]) Try.func17 (by kernel_rfl) rfl (by kernel_rfl) (den0 _ _ _ _ _ _ _ _ (c1) (c2) (RunP.pre loop ⟨rfl, rfl, rfl, trivial⟩ rfl rfl rfl)) (.inl rfl) (by kernel_rfl), ex⟩
    · exact ⟨g2, fn_runF (intr := Ii) (n := m + 5) (args := [v]) Try.func17 (by kernel_rfl) rfl (by kernel_rfl) (den _ _ _ _ _ _ _ _ _ _ _ _ (c1) (conv_u64 0 (by omega) g1) (c2) (RunP.pre loop ⟨rfl, rfl, rfl, trivial⟩ rfl rfl rfl)) (.inl rfl) (by kernel_rfl), ex⟩
  · subst hv
    obtain ⟨g3, x3, l3⟩ := de_loop m b (sortedL ds).length (sortedL ds) rest rfl (by omega) (fun d hd => (mem_sortedL.1 hd).2) (sortedL ds).length 0 (numL (sortedL ds).length) g2 rfl (by omega) (by have := x2.n; omega) (by omega) ((x2.get b hbh).trans hg)
    have loop := LoopF.run (p := [1, 1, 1, 0, 1, 0]) (by kernel_rfl) l3 (by omega)
    exact ⟨g3, fn_runF (intr := Ii) (n := m + 5) (args := [v]) Try.func17 (by kernel_rfl) rfl (by kernel_rfl) (den _ _ _ _ _ _ _ _ _ _ _ _ (c1) (conv_u64 _ (by omega) g1) (c2) (RunP.pre loop ⟨rfl, rfl, rfl, rfl, trivial⟩ rfl rfl rfl)) (.inl rfl) (by kernel_rfl), ex.trans ex.n x3⟩

/-! ### The order, in plain words: rising lists are known by their members -/
/-- Rising. -/
def Rise (l : List Dg) : Prop := l.Pairwise ltD
theorem rise_ext : ∀ {l m : List Dg}, Rise l → Rise m → (∀ d, d ∈ l ↔ d ∈ m) → l = m
  | [], [], _, _, _ => rfl
  | [], b :: m, _, _, h => by have := (h b).2 (by simp); cases this
  | a :: l, [], _, _, h => by have := (h a).1 (by simp); cases this
  | a :: l, b :: m, h1, h2, h => by
    obtain ⟨p1, p2⟩ := List.pairwise_cons.1 h1
    obtain ⟨q1, q2⟩ := List.pairwise_cons.1 h2
    have hab : a = b := by
      rcases List.mem_cons.1 ((h a).1 (by simp)) with e | e
      · exact e
      · rcases List.mem_cons.1 ((h b).2 (by simp)) with e' | e'
        · exact e'.symm
        · exact absurd (ltD_trans (p1 b e') (q1 a e)) (ltD_irrefl a)
    subst hab
    congr 1
    refine rise_ext p2 q2 fun d => ?_
    constructor
    · intro hd
      rcases List.mem_cons.1 ((h d).1 (by simp [hd])) with e | e
      · subst e; exact absurd (p1 d hd) (ltD_irrefl d)
      · exact e
    · intro hd
      rcases List.mem_cons.1 ((h d).2 (by simp [hd])) with e | e
      · subst e; exact absurd (q1 d hd) (ltD_irrefl d)
      · exact e
/-- Of a list that does not fall, what is left rises. -/
theorem dd_rise (l : List Dg) (hl : l.Pairwise fun x y => ¬ ltD y x) : Rise (dd l) := by
  have key : ∀ (l acc : List Dg), Rise acc → (∀ a ∈ acc, ∀ d ∈ l, ¬ ltD d a) → (l.Pairwise fun x y => ¬ ltD y x) → Rise (l.foldl ddA acc) := by
    intro l
    induction l with
    | nil => intro acc h _ _; exact h
    | cons d l ih =>
      intro acc ha had hl
      obtain ⟨p1, p2⟩ := List.pairwise_cons.1 hl
      rw [List.foldl_cons]
      have hmem : ∀ a ∈ ddA acc d, a ∈ acc ∨ a = d := by
        intro a h
        unfold ddA at h
        split at h
        · exact .inl h
        · simpa using h
      refine ih _ ?_ (fun a h e he => ?_) p2
      · unfold ddA
        split
        · exact ha
        · rename_i hne
          refine List.pairwise_append.2 ⟨ha, by simp, fun a h e he => ?_⟩
          obtain rfl : e = d := by simpa using he
          have h1 := had a h e (by simp)
          -- the last one is not d, and all are at most the last one
          by_cases hx : ltD a e
          · exact hx
          · have hae : a = e := ltD_tot hx h1
            subst hae
            exfalso
            -- a lies in acc, and nothing of acc stands above it
            have hlast : ∃ z, acc.getLast? = some z := by
              cases hg : acc.getLast? with
              | none => rw [List.getLast?_eq_none_iff] at hg; subst hg; cases h
              | some z => exact ⟨z, rfl⟩
            obtain ⟨z, hz⟩ := hlast
            have hza : z ≠ a := fun e => hne (by rw [hz, e])
            have hzm : z ∈ acc := List.mem_of_getLast? hz
            have h2 := had z hzm a (by simp)
            -- a stands before z
            obtain ⟨ys, rfl⟩ : ∃ ys, acc = ys ++ [z] := List.getLast?_eq_some_iff.1 hz
            rcases List.mem_append.1 h with h | h
            · exact h2 ((List.pairwise_append.1 ha).2.2 a h z (by simp))
            · exact hza (by simp at h; exact h.symm)
      · rcases hmem a h with h | rfl
        · exact had a h e (by simp [he])
        · exact p1 e he
  exact key l [] List.Pairwise.nil (by simp) hl
theorem srtD_pairwise (l : List Dg) : (srtD l).Pairwise fun x y => ¬ ltD y x := by
  have := List.pairwise_mergeSort (le := fun x y : Dg => !(ltDb y x)) (fun a b c h1 h2 => by
    simp only [ltDb, Bool.not_eq_true', decide_eq_false_iff_not] at *
    exact ltD_ntrans h2 h1) (fun a b => by
    simp only [ltDb, Bool.or_eq_true, Bool.not_eq_true', decide_eq_false_iff_not]
    by_cases h : ltD b a
    · exact .inr fun h2 => ltD_irrefl a (ltD_trans h2 h)
    · exact .inl h) l
  refine this.imp fun {a b} h => ?_
  simpa [ltDb] using h
theorem sortedL_rise (l : List Dg) : Rise (sortedL l) := dd_rise _ (srtD_pairwise _)
/-- What is rising, and has just those that may be told, is the sorted list. -/
theorem sortedL_eq {l m : List Dg} (h : Rise m) (hm : ∀ d, d ∈ m ↔ d ∈ l ∧ mayB d = true) : m = sortedL l := rise_ext h (sortedL_rise l) fun d => by rw [hm, mem_sortedL]
theorem sortedL_again (l : List Dg) : sortedL (sortedL l) = sortedL l := (sortedL_eq (sortedL_rise l) fun d => ⟨fun h => ⟨h, (mem_sortedL.1 h).2⟩, fun h => h.1⟩).symm
end Go.Proofs.Wire
