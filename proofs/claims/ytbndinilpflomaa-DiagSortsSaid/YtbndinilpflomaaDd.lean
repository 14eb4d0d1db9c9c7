/-
  PROVED HERE: contracts of functions (Dd). No condition beside each statement's own.
-/
import Derived.Test.YtbndinilpflomaaDc
import Derived.Test.YtbndinilpflomaaAed
import Derived.Deep.Strs
import Derived.DataReads
set_option linter.unusedVariables false
set_option linter.unusedSimpArgs false
namespace Go.Proofs.Wire
open Go AEv Go.Proofs Go.Proofs.Enc
set_option maxRecDepth 100000
set_option maxHeartbeats 400000

theorem hs (call : CallT → List AV → AHeap → FRes) (v : AV) (a : List UInt8) (x : Int) (x2 : Int) (t : Bool) (h : AHeap) (g : AHeap) 
    (H1 : RunF Try.prog Try.f25 none call [1, 0, 1, 0] (SSt.mk [(5, AV.int IntKind.i64 (Int.ofNat 0)), (4, AV.bool false), (3, AV.ptr (AHeap.n h) 0), (0, v), (1, AV.agg [AV.str a, AV.int IntKind.i64 x, AV.int IntKind.i64 x2])] [] Rc.none (AHeap.push h (AObj.cells [AV.str a, AV.int IntKind.i64 x, AV.int IntKind.i64 x2] 35 BK.own 0 0))) (AEx.exit 0) (SSt.mk [] [] Rc.none g)) :
    RunF Try.prog Try.f25 none call [] (SSt.mk [(0, v), (1, AV.agg [AV.str a, AV.int IntKind.i64 x, AV.int IntKind.i64 x2])] [] Rc.none h) (AEx.ret)
      (SSt.mk [(4, AV.bool false)] [] Rc.none g) :=
  sxF_run [4] (hs := [Hint.loop (AEx.exit 0) (SSt.mk [] [] Rc.none g)]) (by kernel_rfl) <| .cons H1 <| .nil
theorem hsr (call : CallT → List AV → AHeap → FRes) (v : AV) (a : List UInt8) (x : Int) (x2 : Int) (t : Bool) (h : AHeap) (g : AHeap) 
    (H1 : RunF Try.prog Try.f25 none call [1, 0, 1, 0] (SSt.mk [(5, AV.int IntKind.i64 (Int.ofNat 0)), (4, AV.bool false), (3, AV.ptr (AHeap.n h) 0), (0, v), (1, AV.agg [AV.str a, AV.int IntKind.i64 x, AV.int IntKind.i64 x2])] [] Rc.none (AHeap.push h (AObj.cells [AV.str a, AV.int IntKind.i64 x, AV.int IntKind.i64 x2] 35 BK.own 0 0))) (AEx.ret) (SSt.mk [(4, AV.bool true)] [] Rc.none g)) :
    RunF Try.prog Try.f25 none call [] (SSt.mk [(0, v), (1, AV.agg [AV.str a, AV.int IntKind.i64 x, AV.int IntKind.i64 x2])] [] Rc.none h) (AEx.ret)
      (SSt.mk [(4, AV.bool true)] [] Rc.none g) :=
  sxF_run [4] (hs := [Hint.loop AEx.ret (SSt.mk [(4, AV.bool true)] [] Rc.none g)]) (by kernel_rfl) <| .cons H1 <| .nil
theorem hsl_1 (call : CallT → List AV → AHeap → FRes) (b : Nat) (o : Nat) (n : Nat) (i : Nat) (p : Nat) (c : Cap) (a : List UInt8) (b2 : List UInt8) (x : Int) (x2 : Int) (y : Int) (y2 : Int) (t : Bool) (h : AHeap) 
    (H1 : ltI (Int.ofNat i) (Int.ofNat n) = true)
    (H2 : Nat.le (Nat.succ i) n)
    (H3 : AEv.loadCells (AHeap.room h 6) b (o + i * 3) 3 = some [AV.str a, AV.int IntKind.i64 x, AV.int IntKind.i64 x2])
    (H4 : AEv.loadCells (AHeap.room h 6) p 0 3 = some [AV.str b2, AV.int IntKind.i64 y, AV.int IntKind.i64 y2])
    (H5 : binA Try.prog (AHeap.room h 6) BinOp.eql 35 (Operand.tmp 15) (Operand.tmp 16) (AV.agg [AV.str a, AV.int IntKind.i64 x, AV.int IntKind.i64 x2]) (AV.agg [AV.str b2, AV.int IntKind.i64 y, AV.int IntKind.i64 y2]) = some (AV.bool t))
    (H6 : t = true) :
    RunF Try.prog Try.f25 none call [1, 0, 1, 0, 0] (SSt.mk [(0, AV.slice b o n c), (3, AV.ptr p 0), (5, AV.int IntKind.i64 (Int.ofNat i))] [] Rc.none h) (AEx.ret)
      (SSt.mk [(0, AV.slice b o n c), (3, AV.ptr p 0), (4, AV.bool true), (5, AV.int IntKind.i64 (Int.ofNat i))] [] Rc.none (AHeap.room h 6)) :=
  sxF_run [0, 3, 4, 5] (hs := [Hint.b true, Hint.v (AV.ptr b (o + i * 3)), Hint.v (AV.agg [AV.str a, AV.int IntKind.i64 x, AV.int IntKind.i64 x2]), Hint.v (AV.agg [AV.str b2, AV.int IntKind.i64 y, AV.int IntKind.i64 y2]), Hint.v (AV.bool t), Hint.b true]) (by kernel_rfl) <| .cons H1 <| .cons (⟨H2, rfl⟩ : Nat.le (Nat.succ i) n ∧ AV.ptr b (o + i * 3) = AV.ptr b (o + i * 3)) <| .cons H3 <| .cons H4 <| .cons H5 <| .cons (by kernel_rfl : AV.sound (AV.slice b o n c) = true) <| .cons (by kernel_rfl : AV.slice b o n c = AV.slice b o n c) <| .cons (by kernel_rfl : AV.sound (AV.int IntKind.i64 (Int.ofNat i)) = true) <| .cons (by kernel_rfl : AV.int IntKind.i64 (Int.ofNat i) = AV.int IntKind.i64 (Int.ofNat i)) <| .cons (by kernel_rfl : AV.sound (AV.ptr b (o + i * 3)) = true) <| .cons (⟨H2, rfl⟩ : Nat.le (Nat.succ i) n ∧ AV.ptr b (o + i * 3) = AV.ptr b (o + i * 3)) <| .cons (by kernel_rfl : AV.sound (AV.agg [AV.str a, AV.int IntKind.i64 x, AV.int IntKind.i64 x2]) = true) <| .cons H3 <| .cons (by kernel_rfl : AV.sound (AV.agg [AV.str b2, AV.int IntKind.i64 y, AV.int IntKind.i64 y2]) = true) <| .cons H4 <| .cons (by kernel_rfl : AV.sound (AV.bool t) = true) <| .cons H5 <| .cons H6 <| .nil
theorem hsl_2 (call : CallT → List AV → AHeap → FRes) (b : Nat) (o : Nat) (n : Nat) (i : Nat) (p : Nat) (c : Cap) (a : List UInt8) (b2 : List UInt8) (x : Int) (x2 : Int) (y : Int) (y2 : Int) (t : Bool) (h : AHeap) (n_1 : Nat) 
    (H1 : ltI (Int.ofNat i) (Int.ofNat n) = true)
    (H2 : Nat.le (Nat.succ i) n)
    (H3 : AEv.loadCells (AHeap.room h 6) b (o + i * 3) 3 = some [AV.str a, AV.int IntKind.i64 x, AV.int IntKind.i64 x2])
    (H4 : AEv.loadCells (AHeap.room h 6) p 0 3 = some [AV.str b2, AV.int IntKind.i64 y, AV.int IntKind.i64 y2])
    (H5 : binA Try.prog (AHeap.room h 6) BinOp.eql 35 (Operand.tmp 15) (Operand.tmp 16) (AV.agg [AV.str a, AV.int IntKind.i64 x, AV.int IntKind.i64 x2]) (AV.agg [AV.str b2, AV.int IntKind.i64 y, AV.int IntKind.i64 y2]) = some (AV.bool t))
    (H6 : t = false)
    (H7 : arith BinOp.add IntKind.i64 (Int.ofNat i) (Int.ofNat 1) = some (AV.int IntKind.i64 (Int.ofNat n_1))) :
    RunF Try.prog Try.f25 none call [1, 0, 1, 0, 0] (SSt.mk [(0, AV.slice b o n c), (3, AV.ptr p 0), (5, AV.int IntKind.i64 (Int.ofNat i))] [] Rc.none h) (AEx.nrm)
      (SSt.mk [(0, AV.slice b o n c), (3, AV.ptr p 0), (5, AV.int IntKind.i64 (Int.ofNat n_1))] [] Rc.none (AHeap.room h 6)) :=
  sxF_run [0, 3, 4, 5] (hs := [Hint.b true, Hint.v (AV.ptr b (o + i * 3)), Hint.v (AV.agg [AV.str a, AV.int IntKind.i64 x, AV.int IntKind.i64 x2]), Hint.v (AV.agg [AV.str b2, AV.int IntKind.i64 y, AV.int IntKind.i64 y2]), Hint.v (AV.bool t), Hint.b false, Hint.v (AV.int IntKind.i64 (Int.ofNat n_1))]) (by kernel_rfl) <| .cons H1 <| .cons (⟨H2, rfl⟩ : Nat.le (Nat.succ i) n ∧ AV.ptr b (o + i * 3) = AV.ptr b (o + i * 3)) <| .cons H3 <| .cons H4 <| .cons H5 <| .cons (by kernel_rfl : AV.sound (AV.slice b o n c) = true) <| .cons (by kernel_rfl : AV.slice b o n c = AV.slice b o n c) <| .cons (by kernel_rfl : AV.sound (AV.int IntKind.i64 (Int.ofNat i)) = true) <| .cons (by kernel_rfl : AV.int IntKind.i64 (Int.ofNat i) = AV.int IntKind.i64 (Int.ofNat i)) <| .cons (by kernel_rfl : AV.sound (AV.ptr b (o + i * 3)) = true) <| .cons (⟨H2, rfl⟩ : Nat.le (Nat.succ i) n ∧ AV.ptr b (o + i * 3) = AV.ptr b (o + i * 3)) <| .cons (by kernel_rfl : AV.sound (AV.agg [AV.str a, AV.int IntKind.i64 x, AV.int IntKind.i64 x2]) = true) <| .cons H3 <| .cons (by kernel_rfl : AV.sound (AV.agg [AV.str b2, AV.int IntKind.i64 y, AV.int IntKind.i64 y2]) = true) <| .cons H4 <| .cons (by kernel_rfl : AV.sound (AV.bool t) = true) <| .cons H5 <| .cons H6 <| .cons H7 <| .nil
theorem hsl_3 (call : CallT → List AV → AHeap → FRes) (b : Nat) (o : Nat) (n : Nat) (i : Nat) (p : Nat) (c : Cap) (a : List UInt8) (b2 : List UInt8) (x : Int) (x2 : Int) (y : Int) (y2 : Int) (t : Bool) (h : AHeap) 
    (H1 : ltI (Int.ofNat i) (Int.ofNat n) = false) :
    RunF Try.prog Try.f25 none call [1, 0, 1, 0, 0] (SSt.mk [(0, AV.slice b o n c), (3, AV.ptr p 0), (5, AV.int IntKind.i64 (Int.ofNat i))] [] Rc.none h) (AEx.exit 0)
      (SSt.mk [(0, AV.slice b o n c), (3, AV.ptr p 0), (5, AV.int IntKind.i64 (Int.ofNat i))] [] Rc.none h) :=
  sxF_run [0, 3, 4, 5] (hs := [Hint.b false]) (by kernel_rfl) <| .cons H1 <| .nil
theorem hsz (call : CallT → List AV → AHeap → FRes) (h : AHeap)  :
    RunF Try.prog Try.f25 none call [1, 0, 1, 0, 0] (SSt.mk [(0, AV.nilS), (5, AV.int IntKind.i64 (Int.ofNat 0))] [] Rc.none h) (AEx.exit 0)
      (SSt.mk [] [] Rc.none h) :=
  sxF_run [] (hs := [Hint.b false]) (by kernel_rfl) <| .cons (by kernel_rfl : ltI (Int.ofNat 0) (Int.ofNat 0) = false) <| .nil
theorem se1_1 (call : CallT → List AV → AHeap → FRes) (b : Nat) (n : Nat) (n2 : Nat) (b2 : Nat) (o : Nat) (o2 : Nat) (c : Cap) (c2 : Cap) (h : AHeap) (h2 : AHeap) 
    (H1 : (!eqI (Int.ofNat n) (Int.ofNat n2)) = true) :
    RunF Try.prog Try.f24 none call [] (SSt.mk [(0, AV.slice b o n c), (1, AV.slice b2 o2 n2 c2)] [] Rc.none h) (AEx.ret)
      (SSt.mk [(4, AV.bool false)] [] Rc.none h) :=
  sxF_run [4] (hs := [Hint.b true]) (by kernel_rfl) <| .cons H1 <| .nil
theorem se1_2 (call : CallT → List AV → AHeap → FRes) (b : Nat) (n : Nat) (n2 : Nat) (b2 : Nat) (o : Nat) (o2 : Nat) (c : Cap) (c2 : Cap) (h : AHeap) (h2 : AHeap) 
    (H1 : (!eqI (Int.ofNat n) (Int.ofNat n2)) = false)
    (H2 : RunF Try.prog Try.f24 none call [1, 1, 0, 1, 0] (SSt.mk [(5, AV.int IntKind.i64 (Int.ofNat 0)), (10, AV.bool !eqI (Int.ofNat n) (Int.ofNat n2)), (4, AV.bool false), (0, AV.slice b o n c), (1, AV.slice b2 o2 n2 c2)] [] Rc.none h) (AEx.exit 0) (SSt.mk [] [] Rc.none h2)) :
    RunF Try.prog Try.f24 none call [] (SSt.mk [(0, AV.slice b o n c), (1, AV.slice b2 o2 n2 c2)] [] Rc.none h) (AEx.ret)
      (SSt.mk [(4, AV.bool true)] [] Rc.none h2) :=
  sxF_run [4] (hs := [Hint.b false, Hint.loop (AEx.exit 0) (SSt.mk [] [] Rc.none h2)]) (by kernel_rfl) <| .cons H1 <| .cons H2 <| .nil
theorem se2_1 (call : CallT → List AV → AHeap → FRes) (b : Nat) (n : Nat) (o : Nat) (c : Cap) (h : AHeap) (h2 : AHeap) 
    (H1 : (!eqI (Int.ofNat n) (Int.ofNat 0)) = true) :
    RunF Try.prog Try.f24 none call [] (SSt.mk [(0, AV.slice b o n c), (1, AV.nilS)] [] Rc.none h) (AEx.ret)
      (SSt.mk [(4, AV.bool false)] [] Rc.none h) :=
  sxF_run [4] (hs := [Hint.b true]) (by kernel_rfl) <| .cons H1 <| .nil
theorem se2_2 (call : CallT → List AV → AHeap → FRes) (b : Nat) (n : Nat) (o : Nat) (c : Cap) (h : AHeap) (h2 : AHeap) 
    (H1 : (!eqI (Int.ofNat n) (Int.ofNat 0)) = false)
    (H2 : RunF Try.prog Try.f24 none call [1, 1, 0, 1, 0] (SSt.mk [(5, AV.int IntKind.i64 (Int.ofNat 0)), (10, AV.bool !eqI (Int.ofNat n) (Int.ofNat 0)), (4, AV.bool false), (0, AV.slice b o n c), (1, AV.nilS)] [] Rc.none h) (AEx.exit 0) (SSt.mk [] [] Rc.none h2)) :
    RunF Try.prog Try.f24 none call [] (SSt.mk [(0, AV.slice b o n c), (1, AV.nilS)] [] Rc.none h) (AEx.ret)
      (SSt.mk [(4, AV.bool true)] [] Rc.none h2) :=
  sxF_run [4] (hs := [Hint.b false, Hint.loop (AEx.exit 0) (SSt.mk [] [] Rc.none h2)]) (by kernel_rfl) <| .cons H1 <| .cons H2 <| .nil
theorem se3_1 (call : CallT → List AV → AHeap → FRes) (b : Nat) (n : Nat) (o : Nat) (c : Cap) (h : AHeap) (h2 : AHeap) 
    (H1 : (!eqI (Int.ofNat 0) (Int.ofNat n)) = true) :
    RunF Try.prog Try.f24 none call [] (SSt.mk [(0, AV.nilS), (1, AV.slice b o n c)] [] Rc.none h) (AEx.ret)
      (SSt.mk [(4, AV.bool false)] [] Rc.none h) :=
  sxF_run [4] (hs := [Hint.b true]) (by kernel_rfl) <| .cons H1 <| .nil
theorem se3_2 (call : CallT → List AV → AHeap → FRes) (b : Nat) (n : Nat) (o : Nat) (c : Cap) (h : AHeap) (h2 : AHeap) 
    (H1 : (!eqI (Int.ofNat 0) (Int.ofNat n)) = false)
    (H2 : RunF Try.prog Try.f24 none call [1, 1, 0, 1, 0] (SSt.mk [(5, AV.int IntKind.i64 (Int.ofNat 0)), (10, AV.bool !eqI (Int.ofNat 0) (Int.ofNat n)), (4, AV.bool false), (0, AV.nilS), (1, AV.slice b o n c)] [] Rc.none h) (AEx.exit 0) (SSt.mk [] [] Rc.none h2)) :
    RunF Try.prog Try.f24 none call [] (SSt.mk [(0, AV.nilS), (1, AV.slice b o n c)] [] Rc.none h) (AEx.ret)
      (SSt.mk [(4, AV.bool true)] [] Rc.none h2) :=
  sxF_run [4] (hs := [Hint.b false, Hint.loop (AEx.exit 0) (SSt.mk [] [] Rc.none h2)]) (by kernel_rfl) <| .cons H1 <| .cons H2 <| .nil
theorem se4 (call : CallT → List AV → AHeap → FRes) (h : AHeap) (h2 : AHeap) 
    (H1 : RunF Try.prog Try.f24 none call [1, 1, 0, 1, 0] (SSt.mk [(5, AV.int IntKind.i64 (Int.ofNat 0)), (10, AV.bool !eqI (Int.ofNat 0) (Int.ofNat 0)), (4, AV.bool false), (0, AV.nilS), (1, AV.nilS)] [] Rc.none h) (AEx.exit 0) (SSt.mk [] [] Rc.none h2)) :
    RunF Try.prog Try.f24 none call [] (SSt.mk [(0, AV.nilS), (1, AV.nilS)] [] Rc.none h) (AEx.ret)
      (SSt.mk [(4, AV.bool true)] [] Rc.none h2) :=
  sxF_run [4] (hs := [Hint.b false, Hint.loop (AEx.exit 0) (SSt.mk [] [] Rc.none h2)]) (by kernel_rfl) <| .cons (by kernel_rfl : (!eqI (Int.ofNat 0) (Int.ofNat 0)) = false) <| .cons H1 <| .nil
theorem sel_1 (call : CallT → List AV → AHeap → FRes) (b : Nat) (n : Nat) (n2 : Nat) (b2 : Nat) (o : Nat) (o2 : Nat) (i : Nat) (c : Cap) (c2 : Cap) (a : List UInt8) (x : Int) (x2 : Int) (h : AHeap) (n_1 : Nat) 
    (H1 : ltI (Int.ofNat i) (Int.ofNat n) = true)
    (H2 : Nat.le (Nat.succ i) n)
    (H3 : AEv.loadCells (AHeap.room h 9) b (o + i * 3) 3 = some [AV.str a, AV.int IntKind.i64 x, AV.int IntKind.i64 x2])
    (H4 : Nat.le (Nat.succ i) n2)
    (H5 : AEv.loadCells (AHeap.room h 9) b2 (o2 + i * 3) 3 = some [AV.str a, AV.int IntKind.i64 x, AV.int IntKind.i64 x2])
    (H6 : binA Try.prog (AHeap.room h 9) BinOp.neq 35 (Operand.tmp 20) (Operand.tmp 24) (AV.agg [AV.str a, AV.int IntKind.i64 x, AV.int IntKind.i64 x2]) (AV.agg [AV.str a, AV.int IntKind.i64 x, AV.int IntKind.i64 x2]) = some (AV.bool false))
    (H7 : arith BinOp.add IntKind.i64 (Int.ofNat i) (Int.ofNat 1) = some (AV.int IntKind.i64 (Int.ofNat n_1))) :
    RunF Try.prog Try.f24 none call [1, 1, 0, 1, 0, 0] (SSt.mk [(0, AV.slice b o n c), (1, AV.slice b2 o2 n2 c2), (5, AV.int IntKind.i64 (Int.ofNat i))] [] Rc.none h) (AEx.nrm)
      (SSt.mk [(0, AV.slice b o n c), (1, AV.slice b2 o2 n2 c2), (5, AV.int IntKind.i64 (Int.ofNat n_1))] [] Rc.none (AHeap.room h 9)) :=
  sxF_run [0, 1, 5] (hs := [Hint.b true, Hint.v (AV.ptr b (o + i * 3)), Hint.v (AV.agg [AV.str a, AV.int IntKind.i64 x, AV.int IntKind.i64 x2]), Hint.v (AV.ptr b2 (o2 + i * 3)), Hint.v (AV.agg [AV.str a, AV.int IntKind.i64 x, AV.int IntKind.i64 x2]), Hint.v (AV.bool false), Hint.b false, Hint.v (AV.int IntKind.i64 (Int.ofNat n_1))]) (by kernel_rfl) <| .cons H1 <| .cons (⟨H2, rfl⟩ : Nat.le (Nat.succ i) n ∧ AV.ptr b (o + i * 3) = AV.ptr b (o + i * 3)) <| .cons H3 <| .cons (⟨H4, rfl⟩ : Nat.le (Nat.succ i) n2 ∧ AV.ptr b2 (o2 + i * 3) = AV.ptr b2 (o2 + i * 3)) <| .cons H5 <| .cons H6 <| .cons (by kernel_rfl : AV.sound (AV.slice b o n c) = true) <| .cons (by kernel_rfl : AV.slice b o n c = AV.slice b o n c) <| .cons (by kernel_rfl : AV.sound (AV.int IntKind.i64 (Int.ofNat i)) = true) <| .cons (by kernel_rfl : AV.int IntKind.i64 (Int.ofNat i) = AV.int IntKind.i64 (Int.ofNat i)) <| .cons (by kernel_rfl : AV.sound (AV.ptr b (o + i * 3)) = true) <| .cons (⟨H2, rfl⟩ : Nat.le (Nat.succ i) n ∧ AV.ptr b (o + i * 3) = AV.ptr b (o + i * 3)) <| .cons (by kernel_rfl : AV.sound (AV.agg [AV.str a, AV.int IntKind.i64 x, AV.int IntKind.i64 x2]) = true) <| .cons H3 <| .cons (by kernel_rfl : AV.sound (AV.slice b2 o2 n2 c2) = true) <| .cons (by kernel_rfl : AV.slice b2 o2 n2 c2 = AV.slice b2 o2 n2 c2) <| .cons (by kernel_rfl : AV.sound (AV.int IntKind.i64 (Int.ofNat i)) = true) <| .cons (by kernel_rfl : AV.int IntKind.i64 (Int.ofNat i) = AV.int IntKind.i64 (Int.ofNat i)) <| .cons (by kernel_rfl : AV.sound (AV.ptr b2 (o2 + i * 3)) = true) <| .cons (⟨H4, rfl⟩ : Nat.le (Nat.succ i) n2 ∧ AV.ptr b2 (o2 + i * 3) = AV.ptr b2 (o2 + i * 3)) <| .cons (by kernel_rfl : AV.sound (AV.agg [AV.str a, AV.int IntKind.i64 x, AV.int IntKind.i64 x2]) = true) <| .cons H5 <| .cons (by kernel_rfl : AV.sound (AV.bool false) = true) <| .cons H6 <| .cons (by kernel_rfl : false = false) <| .cons H7 <| .nil
theorem sel_2 (call : CallT → List AV → AHeap → FRes) (b : Nat) (n : Nat) (n2 : Nat) (b2 : Nat) (o : Nat) (o2 : Nat) (i : Nat) (c : Cap) (c2 : Cap) (a : List UInt8) (x : Int) (x2 : Int) (h : AHeap) 
    (H1 : ltI (Int.ofNat i) (Int.ofNat n) = false) :
    RunF Try.prog Try.f24 none call [1, 1, 0, 1, 0, 0] (SSt.mk [(0, AV.slice b o n c), (1, AV.slice b2 o2 n2 c2), (5, AV.int IntKind.i64 (Int.ofNat i))] [] Rc.none h) (AEx.exit 0)
      (SSt.mk [(0, AV.slice b o n c), (1, AV.slice b2 o2 n2 c2), (5, AV.int IntKind.i64 (Int.ofNat i))] [] Rc.none h) :=
  sxF_run [0, 1, 5] (hs := [Hint.b false]) (by kernel_rfl) <| .cons H1 <| .nil
theorem sez (call : CallT → List AV → AHeap → FRes) (h : AHeap)  :
    RunF Try.prog Try.f24 none call [1, 1, 0, 1, 0, 0] (SSt.mk [(0, AV.nilS), (5, AV.int IntKind.i64 (Int.ofNat 0))] [] Rc.none h) (AEx.exit 0)
      (SSt.mk [] [] Rc.none h) :=
  sxF_run [] (hs := [Hint.b false]) (by kernel_rfl) <| .cons (by kernel_rfl : ltI (Int.ofNat 0) (Int.ofNat 0) = false) <| .nil
theorem o1_1 (call : CallT → List AV → AHeap → FRes) (v : AV) (u : Nat) (b : Nat) (n : Nat) (i : Nat) (c : Cap) (h : AHeap) (g : AHeap) (n_1 : Nat) 
    (H1 : ltI (Int.ofNat i) (Int.ofNat n) = true)
    (H2 : Nat.le (Nat.succ i) n)
    (H3 : load1 h b (0 + i * 3 + 2) = some (AV.int IntKind.i64 (Int.ofNat n_1)))
    (H4 : ltI (Int.ofNat n_1) (Int.ofNat 1) = true) :
    RunF Try.prog Try.f6 none call [1, 1, 1, 1, 0, 1, 0, 0] (SSt.mk [(0, v), (1, AV.int IntKind.u8 (Int.ofNat u)), (5, AV.slice b 0 n c), (6, AV.int IntKind.i64 (Int.ofNat i))] [] Rc.none h) (AEx.ret)
      (SSt.mk [(0, v), (1, AV.int IntKind.u8 (Int.ofNat u)), (5, AV.slice b 0 n c), (6, AV.int IntKind.i64 (Int.ofNat i))] [] Rc.none h) :=
  sxF_run [0, 1, 5, 6] (hs := [Hint.b true, Hint.v (AV.ptr b (0 + i * 3)), Hint.v (AV.int IntKind.i64 (Int.ofNat n_1)), Hint.b true, Hint.b true, Hint.b true, Hint.b true, Hint.b true, Hint.b true, Hint.b true, Hint.b true, Hint.b true, Hint.b true, Hint.b true, Hint.b true, Hint.b true, Hint.b true, Hint.b true, Hint.b true, Hint.b true, Hint.b true, Hint.b true, Hint.b true, Hint.b true, Hint.b true, Hint.b true, Hint.b true, Hint.b true, Hint.b true, Hint.b true, Hint.b true, Hint.b true, Hint.b true]) (by kernel_rfl) <| .cons H1 <| .cons (⟨H2, rfl⟩ : Nat.le (Nat.succ i) n ∧ AV.ptr b (0 + i * 3) = AV.ptr b (0 + i * 3)) <| .cons H3 <| .cons H4 <| .cons H4 <| .cons H4 <| .cons H4 <| .cons H4 <| .cons H4 <| .cons H4 <| .cons (by kernel_rfl : true = true) <| .cons (by kernel_rfl : true = true) <| .cons (by kernel_rfl : true = true) <| .cons (by kernel_rfl : true = true) <| .cons (by kernel_rfl : true = true) <| .cons (by kernel_rfl : true = true) <| .cons (by kernel_rfl : true = true) <| .cons (by kernel_rfl : true = true) <| .cons (by kernel_rfl : true = true) <| .cons (by kernel_rfl : true = true) <| .cons (by kernel_rfl : true = true) <| .cons (by kernel_rfl : true = true) <| .cons (by kernel_rfl : true = true) <| .cons (by kernel_rfl : true = true) <| .cons (by kernel_rfl : true = true) <| .cons (by kernel_rfl : true = true) <| .cons (by kernel_rfl : true = true) <| .cons (by kernel_rfl : true = true) <| .cons (by kernel_rfl : true = true) <| .cons (by kernel_rfl : true = true) <| .cons (by kernel_rfl : true = true) <| .cons (by kernel_rfl : true = true) <| .cons (by kernel_rfl : true = true) <| .nil
theorem o1_2 (call : CallT → List AV → AHeap → FRes) (v : AV) (u : Nat) (b : Nat) (n : Nat) (i : Nat) (c : Cap) (h : AHeap) (g : AHeap) (n_1 : Nat) 
    (H1 : ltI (Int.ofNat i) (Int.ofNat n) = true)
    (H2 : Nat.le (Nat.succ i) n)
    (H3 : load1 h b (0 + i * 3 + 2) = some (AV.int IntKind.i64 (Int.ofNat n_1)))
    (H4 : ltI (Int.ofNat n_1) (Int.ofNat 1) = false)
    (H5 : ltI (Int.ofNat 13) (Int.ofNat n_1) = true) :
    RunF Try.prog Try.f6 none call [1, 1, 1, 1, 0, 1, 0, 0] (SSt.mk [(0, v), (1, AV.int IntKind.u8 (Int.ofNat u)), (5, AV.slice b 0 n c), (6, AV.int IntKind.i64 (Int.ofNat i))] [] Rc.none h) (AEx.ret)
      (SSt.mk [(0, v), (1, AV.int IntKind.u8 (Int.ofNat u)), (5, AV.slice b 0 n c), (6, AV.int IntKind.i64 (Int.ofNat i))] [] Rc.none h) :=
  sxF_run [0, 1, 5, 6] (hs := [Hint.b true, Hint.v (AV.ptr b (0 + i * 3)), Hint.v (AV.int IntKind.i64 (Int.ofNat n_1)), Hint.b false, Hint.b false, Hint.b false, Hint.v (AV.ptr b (0 + i * 3)), Hint.b false, Hint.b false, Hint.v (AV.int IntKind.i64 (Int.ofNat n_1)), Hint.b false, Hint.b false, Hint.b true, Hint.b true, Hint.b true, Hint.b true, Hint.b true, Hint.b true, Hint.b true, Hint.b true, Hint.b true, Hint.b true, Hint.b true, Hint.b true, Hint.b true, Hint.b true, Hint.b true, Hint.b true, Hint.b true, Hint.b true, Hint.b true, Hint.b true, Hint.b true, Hint.b true, Hint.b true]) (by kernel_rfl) <| .cons H1 <| .cons (⟨H2, rfl⟩ : Nat.le (Nat.succ i) n ∧ AV.ptr b (0 + i * 3) = AV.ptr b (0 + i * 3)) <| .cons H3 <| .cons H4 <| .cons H4 <| .cons H4 <| .cons (⟨H2, rfl⟩ : Nat.le (Nat.succ i) n ∧ AV.ptr b (0 + i * 3) = AV.ptr b (0 + i * 3)) <| .cons H4 <| .cons H4 <| .cons H3 <| .cons H4 <| .cons H4 <| .cons H5 <| .cons H5 <| .cons H5 <| .cons H5 <| .cons H5 <| .cons H5 <| .cons H5 <| .cons (by kernel_rfl : true = true) <| .cons (by kernel_rfl : true = true) <| .cons (by kernel_rfl : true = true) <| .cons (by kernel_rfl : true = true) <| .cons (by kernel_rfl : true = true) <| .cons (by kernel_rfl : true = true) <| .cons (by kernel_rfl : true = true) <| .cons (by kernel_rfl : true = true) <| .cons (by kernel_rfl : true = true) <| .cons (by kernel_rfl : true = true) <| .cons (by kernel_rfl : true = true) <| .cons (by kernel_rfl : true = true) <| .cons (by kernel_rfl : true = true) <| .cons (by kernel_rfl : true = true) <| .cons (by kernel_rfl : true = true) <| .cons (by kernel_rfl : true = true) <| .nil
theorem o1_3 (call : CallT → List AV → AHeap → FRes) (v : AV) (u : Nat) (b : Nat) (n : Nat) (i : Nat) (c : Cap) (h : AHeap) (g : AHeap) (n_1 : Nat) (n_2 : Nat) 
    (H1 : ltI (Int.ofNat i) (Int.ofNat n) = true)
    (H2 : Nat.le (Nat.succ i) n)
    (H3 : load1 h b (0 + i * 3 + 2) = some (AV.int IntKind.i64 (Int.ofNat n_1)))
    (H4 : ltI (Int.ofNat n_1) (Int.ofNat 1) = false)
    (H5 : ltI (Int.ofNat 13) (Int.ofNat n_1) = false)
    (H6 : load1 h b (0 + i * 3 + 1) = some (AV.int IntKind.i64 (Int.ofNat n_2)))
    (H7 : leI (Int.ofNat 2147483648) (Int.ofNat n_2) = true) :
    RunF Try.prog Try.f6 none call [1, 1, 1, 1, 0, 1, 0, 0] (SSt.mk [(0, v), (1, AV.int IntKind.u8 (Int.ofNat u)), (5, AV.slice b 0 n c), (6, AV.int IntKind.i64 (Int.ofNat i))] [] Rc.none h) (AEx.ret)
      (SSt.mk [(0, v), (1, AV.int IntKind.u8 (Int.ofNat u)), (5, AV.slice b 0 n c), (6, AV.int IntKind.i64 (Int.ofNat i))] [] Rc.none h) :=
  sxF_run [0, 1, 5, 6] (hs := [Hint.b true, Hint.v (AV.ptr b (0 + i * 3)), Hint.v (AV.int IntKind.i64 (Int.ofNat n_1)), Hint.b false, Hint.b false, Hint.b false, Hint.v (AV.ptr b (0 + i * 3)), Hint.b false, Hint.b false, Hint.v (AV.int IntKind.i64 (Int.ofNat n_1)), Hint.b false, Hint.b false, Hint.b false, Hint.b false, Hint.b false, Hint.v (AV.ptr b (0 + i * 3)), Hint.b false, Hint.b false, Hint.v (AV.int IntKind.i64 (Int.ofNat n_2)), Hint.b false, Hint.b false, Hint.b false, Hint.b false, Hint.b false, Hint.v (AV.ptr b (0 + i * 3)), Hint.b false, Hint.b false, Hint.v (AV.int IntKind.i64 (Int.ofNat n_2)), Hint.b false, Hint.b false, Hint.b true, Hint.b true, Hint.b true, Hint.b true, Hint.b true, Hint.b true, Hint.b true, Hint.b true, Hint.b true]) (by kernel_rfl) <| .cons H1 <| .cons (⟨H2, rfl⟩ : Nat.le (Nat.succ i) n ∧ AV.ptr b (0 + i * 3) = AV.ptr b (0 + i * 3)) <| .cons H3 <| .cons H4 <| .cons H4 <| .cons H4 <| .cons (⟨H2, rfl⟩ : Nat.le (Nat.succ i) n ∧ AV.ptr b (0 + i * 3) = AV.ptr b (0 + i * 3)) <| .cons H4 <| .cons H4 <| .cons H3 <| .cons H4 <| .cons H4 <| .cons H5 <| .cons H5 <| .cons H5 <| .cons (⟨H2, rfl⟩ : Nat.le (Nat.succ i) n ∧ AV.ptr b (0 + i * 3) = AV.ptr b (0 + i * 3)) <| .cons H5 <| .cons H5 <| .cons H6 <| .cons H5 <| .cons H5 <| .cons (by kernel_rfl : ltI (Int.ofNat n_2) (Int.ofNat 0) = false) <| .cons (by kernel_rfl : ltI (Int.ofNat n_2) (Int.ofNat 0) = false) <| .cons (by kernel_rfl : ltI (Int.ofNat n_2) (Int.ofNat 0) = false) <| .cons (⟨H2, rfl⟩ : Nat.le (Nat.succ i) n ∧ AV.ptr b (0 + i * 3) = AV.ptr b (0 + i * 3)) <| .cons (by kernel_rfl : ltI (Int.ofNat n_2) (Int.ofNat 0) = false) <| .cons (by kernel_rfl : ltI (Int.ofNat n_2) (Int.ofNat 0) = false) <| .cons H6 <| .cons (by kernel_rfl : ltI (Int.ofNat n_2) (Int.ofNat 0) = false) <| .cons (by kernel_rfl : ltI (Int.ofNat n_2) (Int.ofNat 0) = false) <| .cons H7 <| .cons H7 <| .cons H7 <| .cons H7 <| .cons H7 <| .cons H7 <| .cons H7 <| .cons H7 <| .cons (by kernel_rfl : true = true) <| .nil
theorem o1_4 (call : CallT → List AV → AHeap → FRes) (v : AV) (u : Nat) (b : Nat) (n : Nat) (i : Nat) (c : Cap) (h : AHeap) (g : AHeap) (n_1 : Nat) (n_2 : Nat) (t_1 : List UInt8) 
    (H1 : ltI (Int.ofNat i) (Int.ofNat n) = true)
    (H2 : Nat.le (Nat.succ i) n)
    (H3 : load1 h b (0 + i * 3 + 2) = some (AV.int IntKind.i64 (Int.ofNat n_1)))
    (H4 : ltI (Int.ofNat n_1) (Int.ofNat 1) = false)
    (H5 : ltI (Int.ofNat 13) (Int.ofNat n_1) = false)
    (H6 : load1 h b (0 + i * 3 + 1) = some (AV.int IntKind.i64 (Int.ofNat n_2)))
    (H7 : leI (Int.ofNat 2147483648) (Int.ofNat n_2) = false)
    (H8 : load1 h b (0 + i * 3 + 0) = some (AV.str t_1))
    (H9 : ltI (Int.ofNat 200) (Int.ofNat (List.length t_1)) = true) :
    RunF Try.prog Try.f6 none call [1, 1, 1, 1, 0, 1, 0, 0] (SSt.mk [(0, v), (1, AV.int IntKind.u8 (Int.ofNat u)), (5, AV.slice b 0 n c), (6, AV.int IntKind.i64 (Int.ofNat i))] [] Rc.none h) (AEx.ret)
      (SSt.mk [(0, v), (1, AV.int IntKind.u8 (Int.ofNat u)), (5, AV.slice b 0 n c), (6, AV.int IntKind.i64 (Int.ofNat i))] [] Rc.none h) :=
  sxF_run [0, 1, 5, 6] (hs := [Hint.b true, Hint.v (AV.ptr b (0 + i * 3)), Hint.v (AV.int IntKind.i64 (Int.ofNat n_1)), Hint.b false, Hint.b false, Hint.b false, Hint.v (AV.ptr b (0 + i * 3)), Hint.b false, Hint.b false, Hint.v (AV.int IntKind.i64 (Int.ofNat n_1)), Hint.b false, Hint.b false, Hint.b false, Hint.b false, Hint.b false, Hint.v (AV.ptr b (0 + i * 3)), Hint.b false, Hint.b false, Hint.v (AV.int IntKind.i64 (Int.ofNat n_2)), Hint.b false, Hint.b false, Hint.b false, Hint.b false, Hint.b false, Hint.v (AV.ptr b (0 + i * 3)), Hint.b false, Hint.b false, Hint.v (AV.int IntKind.i64 (Int.ofNat n_2)), Hint.b false, Hint.b false, Hint.b false, Hint.b false, Hint.b false, Hint.v (AV.ptr b (0 + i * 3)), Hint.b false, Hint.b false, Hint.v (AV.str t_1), Hint.b false, Hint.b false, Hint.b false, Hint.b true]) (by kernel_rfl) <| .cons H1 <| .cons (⟨H2, rfl⟩ : Nat.le (Nat.succ i) n ∧ AV.ptr b (0 + i * 3) = AV.ptr b (0 + i * 3)) <| .cons H3 <| .cons H4 <| .cons H4 <| .cons H4 <| .cons (⟨H2, rfl⟩ : Nat.le (Nat.succ i) n ∧ AV.ptr b (0 + i * 3) = AV.ptr b (0 + i * 3)) <| .cons H4 <| .cons H4 <| .cons H3 <| .cons H4 <| .cons H4 <| .cons H5 <| .cons H5 <| .cons H5 <| .cons (⟨H2, rfl⟩ : Nat.le (Nat.succ i) n ∧ AV.ptr b (0 + i * 3) = AV.ptr b (0 + i * 3)) <| .cons H5 <| .cons H5 <| .cons H6 <| .cons H5 <| .cons H5 <| .cons (by kernel_rfl : ltI (Int.ofNat n_2) (Int.ofNat 0) = false) <| .cons (by kernel_rfl : ltI (Int.ofNat n_2) (Int.ofNat 0) = false) <| .cons (by kernel_rfl : ltI (Int.ofNat n_2) (Int.ofNat 0) = false) <| .cons (⟨H2, rfl⟩ : Nat.le (Nat.succ i) n ∧ AV.ptr b (0 + i * 3) = AV.ptr b (0 + i * 3)) <| .cons (by kernel_rfl : ltI (Int.ofNat n_2) (Int.ofNat 0) = false) <| .cons (by kernel_rfl : ltI (Int.ofNat n_2) (Int.ofNat 0) = false) <| .cons H6 <| .cons (by kernel_rfl : ltI (Int.ofNat n_2) (Int.ofNat 0) = false) <| .cons (by kernel_rfl : ltI (Int.ofNat n_2) (Int.ofNat 0) = false) <| .cons H7 <| .cons H7 <| .cons H7 <| .cons (⟨H2, rfl⟩ : Nat.le (Nat.succ i) n ∧ AV.ptr b (0 + i * 3) = AV.ptr b (0 + i * 3)) <| .cons H7 <| .cons H7 <| .cons H8 <| .cons H7 <| .cons H7 <| .cons H7 <| .cons H9 <| .nil
theorem o1_5 (call : CallT → List AV → AHeap → FRes) (v : AV) (u : Nat) (b : Nat) (n : Nat) (i : Nat) (c : Cap) (h : AHeap) (g : AHeap) (n_1 : Nat) (n_2 : Nat) (t_1 : List UInt8) (n_3 : Nat) (t_2 : List UInt8) (n_4 : Nat) (n_5 : Nat) (t_3 : List UInt8) (n_6 : Nat) (n_7 : Nat) (g_1 : AHeap) (g_2 : AHeap) (t_4 : List UInt8) (t_5 : List UInt8) 
    (H1 : ltI (Int.ofNat i) (Int.ofNat n) = true)
    (H2 : Nat.le (Nat.succ i) n)
    (H3 : load1 h b (0 + i * 3 + 2) = some (AV.int IntKind.i64 (Int.ofNat n_1)))
    (H4 : ltI (Int.ofNat n_1) (Int.ofNat 1) = false)
    (H5 : ltI (Int.ofNat 13) (Int.ofNat n_1) = false)
    (H6 : load1 h b (0 + i * 3 + 1) = some (AV.int IntKind.i64 (Int.ofNat n_2)))
    (H7 : leI (Int.ofNat 2147483648) (Int.ofNat n_2) = false)
    (H8 : load1 h b (0 + i * 3 + 0) = some (AV.str t_1))
    (H9 : ltI (Int.ofNat 200) (Int.ofNat (List.length t_1)) = false)
    (H10 : ltI (Int.ofNat 0) (Int.ofNat i) = true)
    (H11 : arith BinOp.sub IntKind.i64 (Int.ofNat i) (Int.ofNat 1) = some (AV.int IntKind.i64 (Int.ofNat n_3)))
    (H12 : Nat.le (Nat.succ n_3) n)
    (H13 : AEv.loadCells (AHeap.room h 13) b (0 + n_3 * 3) 3 = some [AV.str t_2, AV.int IntKind.i64 (Int.ofNat n_4), AV.int IntKind.i64 (Int.ofNat n_5)])
    (H14 : AEv.loadCells (AHeap.room h 13) b (0 + i * 3) 3 = some [AV.str t_3, AV.int IntKind.i64 (Int.ofNat n_6), AV.int IntKind.i64 (Int.ofNat n_7)])
    (H15 : AEv.storeCells (AHeap.mk (HT.setN (AHeap.n h + 10 + 1) (HT.setN (AHeap.n h + 9 + 1) h.1 (AHeap.n h + 9) (some (AObj.cells [AV.str [], AV.int IntKind.i64 (Int.ofNat 0), AV.int IntKind.i64 (Int.ofNat 0)] 35 BK.own 0 0))) (AHeap.n h + 10) (some (AObj.cells [AV.str [], AV.int IntKind.i64 (Int.ofNat 0), AV.int IntKind.i64 (Int.ofNat 0)] 35 BK.own 0 0))) (AHeap.n (AHeap.mk (HT.setN (AHeap.n h + 9 + 1) h.1 (AHeap.n h + 9) (some (AObj.cells [AV.str [], AV.int IntKind.i64 (Int.ofNat 0), AV.int IntKind.i64 (Int.ofNat 0)] 35 BK.own 0 0))) (AHeap.n (AHeap.room h 13))))) (AHeap.n h + 9) 0 [AV.str t_2, AV.int IntKind.i64 (Int.ofNat n_4), AV.int IntKind.i64 (Int.ofNat n_5)] = some g_1)
    (H16 : AEv.storeCells g_1 (AHeap.n h + 10) 0 [AV.str t_3, AV.int IntKind.i64 (Int.ofNat n_6), AV.int IntKind.i64 (Int.ofNat n_7)] = some g_2)
    (H17 : AEv.loadCells (AHeap.mk (HT.setN (AHeap.n h + 10 + 1) (HT.setN (AHeap.n h + 9 + 1) h.1 (AHeap.n h + 9) (some (AObj.cells [AV.str [], AV.int IntKind.i64 (Int.ofNat 0), AV.int IntKind.i64 (Int.ofNat 0)] 35 BK.own 0 0))) (AHeap.n h + 10) (some (AObj.cells [AV.str [], AV.int IntKind.i64 (Int.ofNat 0), AV.int IntKind.i64 (Int.ofNat 0)] 35 BK.own 0 0))) (AHeap.n (AHeap.mk (HT.setN (AHeap.n h + 9 + 1) h.1 (AHeap.n h + 9) (some (AObj.cells [AV.str [], AV.int IntKind.i64 (Int.ofNat 0), AV.int IntKind.i64 (Int.ofNat 0)] 35 BK.own 0 0))) (AHeap.n (AHeap.room h 13))))) b (0 + n_3 * 3) 3 = some [AV.str t_2, AV.int IntKind.i64 (Int.ofNat n_4), AV.int IntKind.i64 (Int.ofNat n_5)])
    (H18 : AEv.loadCells g_1 b (0 + i * 3) 3 = some [AV.str t_3, AV.int IntKind.i64 (Int.ofNat n_6), AV.int IntKind.i64 (Int.ofNat n_7)])
    (H19 : AEv.loadCells (AHeap.mk (HT.setN (AHeap.n h + 10 + 1) (HT.setN (AHeap.n h + 9 + 1) h.1 (AHeap.n h + 9) (some (AObj.cells [AV.str [], AV.int IntKind.i64 (Int.ofNat 0), AV.int IntKind.i64 (Int.ofNat 0)] 35 BK.own 0 0))) (AHeap.n h + 10) (some (AObj.cells [AV.str [], AV.int IntKind.i64 (Int.ofNat 0), AV.int IntKind.i64 (Int.ofNat 0)] 35 BK.own 0 0))) (AHeap.n (AHeap.mk (HT.setN (AHeap.n h + 9 + 1) h.1 (AHeap.n h + 9) (some (AObj.cells [AV.str [], AV.int IntKind.i64 (Int.ofNat 0), AV.int IntKind.i64 (Int.ofNat 0)] 35 BK.own 0 0))) (AHeap.n (AHeap.room h 13))))) b (0 + i * 3) 3 = some [AV.str t_3, AV.int IntKind.i64 (Int.ofNat n_6), AV.int IntKind.i64 (Int.ofNat n_7)])
    (H20 : load1 g_2 (AHeap.n h + 9) (0 + 0) = some (AV.str t_4))
    (H21 : load1 g_2 (AHeap.n h + 10) (0 + 0) = some (AV.str t_5))
    (H22 : ltBytes t_5 t_4 = true) :
    RunF Try.prog Try.f6 none call [1, 1, 1, 1, 0, 1, 0, 0] (SSt.mk [(0, v), (1, AV.int IntKind.u8 (Int.ofNat u)), (5, AV.slice b 0 n c), (6, AV.int IntKind.i64 (Int.ofNat i))] [] Rc.none h) (AEx.ret)
      (SSt.mk [(0, v), (1, AV.int IntKind.u8 (Int.ofNat u)), (5, AV.slice b 0 n c), (6, AV.int IntKind.i64 (Int.ofNat i))] [] Rc.none g_2) :=
  sxF_run [0, 1, 5, 6] (hs := [Hint.b true, Hint.v (AV.ptr b (0 + i * 3)), Hint.v (AV.int IntKind.i64 (Int.ofNat n_1)), Hint.b false, Hint.b false, Hint.b false, Hint.v (AV.ptr b (0 + i * 3)), Hint.b false, Hint.b false, Hint.v (AV.int IntKind.i64 (Int.ofNat n_1)), Hint.b false, Hint.b false, Hint.b false, Hint.b false, Hint.b false, Hint.v (AV.ptr b (0 + i * 3)), Hint.b false, Hint.b false, Hint.v (AV.int IntKind.i64 (Int.ofNat n_2)), Hint.b false, Hint.b false, Hint.b false, Hint.b false, Hint.b false, Hint.v (AV.ptr b (0 + i * 3)), Hint.b false, Hint.b false, Hint.v (AV.int IntKind.i64 (Int.ofNat n_2)), Hint.b false, Hint.b false, Hint.b false, Hint.b false, Hint.b false, Hint.v (AV.ptr b (0 + i * 3)), Hint.b false, Hint.b false, Hint.v (AV.str t_1), Hint.b false, Hint.b false, Hint.b false, Hint.b false, Hint.b true, Hint.v (AV.int IntKind.i64 (Int.ofNat n_3)), Hint.v (AV.ptr b (0 + n_3 * 3)), Hint.v (AV.agg [AV.str t_2, AV.int IntKind.i64 (Int.ofNat n_4), AV.int IntKind.i64 (Int.ofNat n_5)]), Hint.v (AV.ptr b (0 + i * 3)), Hint.v (AV.agg [AV.str t_3, AV.int IntKind.i64 (Int.ofNat n_6), AV.int IntKind.i64 (Int.ofNat n_7)]), Hint.vh (AV.tup []) g_1, Hint.vh (AV.tup []) g_2, Hint.v (AV.str t_4), Hint.v (AV.str t_5), Hint.b true, Hint.b true, Hint.b true, Hint.b true, Hint.b true, Hint.b true, Hint.b true, Hint.b true, Hint.b true]) (by kernel_rfl) <| .cons H1 <| .cons (⟨H2, rfl⟩ : Nat.le (Nat.succ i) n ∧ AV.ptr b (0 + i * 3) = AV.ptr b (0 + i * 3)) <| .cons H3 <| .cons H4 <| .cons H4 <| .cons H4 <| .cons (⟨H2, rfl⟩ : Nat.le (Nat.succ i) n ∧ AV.ptr b (0 + i * 3) = AV.ptr b (0 + i * 3)) <| .cons H4 <| .cons H4 <| .cons H3 <| .cons H4 <| .cons H4 <| .cons H5 <| .cons H5 <| .cons H5 <| .cons (⟨H2, rfl⟩ : Nat.le (Nat.succ i) n ∧ AV.ptr b (0 + i * 3) = AV.ptr b (0 + i * 3)) <| .cons H5 <| .cons H5 <| .cons H6 <| .cons H5 <| .cons H5 <| .cons (by kernel_rfl : ltI (Int.ofNat n_2) (Int.ofNat 0) = false) <| .cons (by kernel_rfl : ltI (Int.ofNat n_2) (Int.ofNat 0) = false) <| .cons (by kernel_rfl : ltI (Int.ofNat n_2) (Int.ofNat 0) = false) <| .cons (⟨H2, rfl⟩ : Nat.le (Nat.succ i) n ∧ AV.ptr b (0 + i * 3) = AV.ptr b (0 + i * 3)) <| .cons (by kernel_rfl : ltI (Int.ofNat n_2) (Int.ofNat 0) = false) <| .cons (by kernel_rfl : ltI (Int.ofNat n_2) (Int.ofNat 0) = false) <| .cons H6 <| .cons (by kernel_rfl : ltI (Int.ofNat n_2) (Int.ofNat 0) = false) <| .cons (by kernel_rfl : ltI (Int.ofNat n_2) (Int.ofNat 0) = false) <| .cons H7 <| .cons H7 <| .cons H7 <| .cons (⟨H2, rfl⟩ : Nat.le (Nat.succ i) n ∧ AV.ptr b (0 + i * 3) = AV.ptr b (0 + i * 3)) <| .cons H7 <| .cons H7 <| .cons H8 <| .cons H7 <| .cons H7 <| .cons H7 <| .cons H9 <| .cons H10 <| .cons H11 <| .cons (⟨H12, rfl⟩ : Nat.le (Nat.succ n_3) n ∧ AV.ptr b (0 + n_3 * 3) = AV.ptr b (0 + n_3 * 3)) <| .cons H13 <| .cons (⟨H2, rfl⟩ : Nat.le (Nat.succ i) n ∧ AV.ptr b (0 + i * 3) = AV.ptr b (0 + i * 3)) <| .cons H14 <| .cons (⟨by kernel_rfl, H15, rfl⟩ : some 3 = some 3 ∧ AEv.storeCells (AHeap.mk (HT.setN (AHeap.n h + 10 + 1) (HT.setN (AHeap.n h + 9 + 1) h.1 (AHeap.n h + 9) (some (AObj.cells [AV.str [], AV.int IntKind.i64 (Int.ofNat 0), AV.int IntKind.i64 (Int.ofNat 0)] 35 BK.own 0 0))) (AHeap.n h + 10) (some (AObj.cells [AV.str [], AV.int IntKind.i64 (Int.ofNat 0), AV.int IntKind.i64 (Int.ofNat 0)] 35 BK.own 0 0))) (AHeap.n (AHeap.mk (HT.setN (AHeap.n h + 9 + 1) h.1 (AHeap.n h + 9) (some (AObj.cells [AV.str [], AV.int IntKind.i64 (Int.ofNat 0), AV.int IntKind.i64 (Int.ofNat 0)] 35 BK.own 0 0))) (AHeap.n (AHeap.room h 13))))) (AHeap.n h + 9) 0 [AV.str t_2, AV.int IntKind.i64 (Int.ofNat n_4), AV.int IntKind.i64 (Int.ofNat n_5)] = some g_1 ∧ AV.tup [] = AV.tup []) <| .cons (⟨by kernel_rfl, H16, rfl⟩ : some 3 = some 3 ∧ AEv.storeCells g_1 (AHeap.n h + 10) 0 [AV.str t_3, AV.int IntKind.i64 (Int.ofNat n_6), AV.int IntKind.i64 (Int.ofNat n_7)] = some g_2 ∧ AV.tup [] = AV.tup []) <| .cons (by kernel_rfl : AV.sound (AV.slice b 0 n c) = true) <| .cons (by kernel_rfl : AV.slice b 0 n c = AV.slice b 0 n c) <| .cons (by kernel_rfl : AV.sound (AV.int IntKind.i64 (Int.ofNat i)) = true) <| .cons (by kernel_rfl : AV.int IntKind.i64 (Int.ofNat i) = AV.int IntKind.i64 (Int.ofNat i)) <| .cons (by kernel_rfl : AV.sound (AV.int IntKind.i64 (Int.ofNat n_3)) = true) <| .cons H11 <| .cons (by kernel_rfl : AV.sound (AV.ptr b (0 + n_3 * 3)) = true) <| .cons (⟨H12, rfl⟩ : Nat.le (Nat.succ n_3) n ∧ AV.ptr b (0 + n_3 * 3) = AV.ptr b (0 + n_3 * 3)) <| .cons (by kernel_rfl : AV.sound (AV.agg [AV.str t_2, AV.int IntKind.i64 (Int.ofNat n_4), AV.int IntKind.i64 (Int.ofNat n_5)]) = true) <| .cons H17 <| .cons (by kernel_rfl : AV.sound (AV.slice b 0 n c) = true) <| .cons (by kernel_rfl : AV.slice b 0 n c = AV.slice b 0 n c) <| .cons (by kernel_rfl : AV.sound (AV.slice b 0 n c) = true) <| .cons (by kernel_rfl : AV.slice b 0 n c = AV.slice b 0 n c) <| .cons (by kernel_rfl : AV.sound (AV.int IntKind.i64 (Int.ofNat i)) = true) <| .cons (by kernel_rfl : AV.int IntKind.i64 (Int.ofNat i) = AV.int IntKind.i64 (Int.ofNat i)) <| .cons (by kernel_rfl : AV.sound (AV.int IntKind.i64 (Int.ofNat i)) = true) <| .cons (by kernel_rfl : AV.int IntKind.i64 (Int.ofNat i) = AV.int IntKind.i64 (Int.ofNat i)) <| .cons (by kernel_rfl : AV.sound (AV.ptr b (0 + i * 3)) = true) <| .cons (⟨H2, rfl⟩ : Nat.le (Nat.succ i) n ∧ AV.ptr b (0 + i * 3) = AV.ptr b (0 + i * 3)) <| .cons (by kernel_rfl : AV.sound (AV.ptr b (0 + i * 3)) = true) <| .cons (⟨H2, rfl⟩ : Nat.le (Nat.succ i) n ∧ AV.ptr b (0 + i * 3) = AV.ptr b (0 + i * 3)) <| .cons (by kernel_rfl : AV.sound (AV.agg [AV.str t_3, AV.int IntKind.i64 (Int.ofNat n_6), AV.int IntKind.i64 (Int.ofNat n_7)]) = true) <| .cons H18 <| .cons (by kernel_rfl : AV.sound (AV.agg [AV.str t_3, AV.int IntKind.i64 (Int.ofNat n_6), AV.int IntKind.i64 (Int.ofNat n_7)]) = true) <| .cons H19 <| .cons H20 <| .cons H21 <| .cons H22 <| .cons H22 <| .cons H22 <| .cons H22 <| .cons H22 <| .cons H22 <| .cons H22 <| .cons H22 <| .cons (by kernel_rfl : true = true) <| .nil
theorem o1_6 (call : CallT → List AV → AHeap → FRes) (v : AV) (u : Nat) (b : Nat) (n : Nat) (i : Nat) (c : Cap) (h : AHeap) (g : AHeap) (n_1 : Nat) (n_2 : Nat) (t_1 : List UInt8) (n_3 : Nat) (t_2 : List UInt8) (n_4 : Nat) (n_5 : Nat) (t_3 : List UInt8) (n_6 : Nat) (n_7 : Nat) (g_1 : AHeap) (g_2 : AHeap) (t_4 : List UInt8) (t_5 : List UInt8) (n_8 : Nat) (n_9 : Nat) 
    (H1 : ltI (Int.ofNat i) (Int.ofNat n) = true)
    (H2 : Nat.le (Nat.succ i) n)
    (H3 : load1 h b (0 + i * 3 + 2) = some (AV.int IntKind.i64 (Int.ofNat n_1)))
    (H4 : ltI (Int.ofNat n_1) (Int.ofNat 1) = false)
    (H5 : ltI (Int.ofNat 13) (Int.ofNat n_1) = false)
    (H6 : load1 h b (0 + i * 3 + 1) = some (AV.int IntKind.i64 (Int.ofNat n_2)))
    (H7 : leI (Int.ofNat 2147483648) (Int.ofNat n_2) = false)
    (H8 : load1 h b (0 + i * 3 + 0) = some (AV.str t_1))
    (H9 : ltI (Int.ofNat 200) (Int.ofNat (List.length t_1)) = false)
    (H10 : ltI (Int.ofNat 0) (Int.ofNat i) = true)
    (H11 : arith BinOp.sub IntKind.i64 (Int.ofNat i) (Int.ofNat 1) = some (AV.int IntKind.i64 (Int.ofNat n_3)))
    (H12 : Nat.le (Nat.succ n_3) n)
    (H13 : AEv.loadCells (AHeap.room h 13) b (0 + n_3 * 3) 3 = some [AV.str t_2, AV.int IntKind.i64 (Int.ofNat n_4), AV.int IntKind.i64 (Int.ofNat n_5)])
    (H14 : AEv.loadCells (AHeap.room h 13) b (0 + i * 3) 3 = some [AV.str t_3, AV.int IntKind.i64 (Int.ofNat n_6), AV.int IntKind.i64 (Int.ofNat n_7)])
    (H15 : AEv.storeCells (AHeap.mk (HT.setN (AHeap.n h + 10 + 1) (HT.setN (AHeap.n h + 9 + 1) h.1 (AHeap.n h + 9) (some (AObj.cells [AV.str [], AV.int IntKind.i64 (Int.ofNat 0), AV.int IntKind.i64 (Int.ofNat 0)] 35 BK.own 0 0))) (AHeap.n h + 10) (some (AObj.cells [AV.str [], AV.int IntKind.i64 (Int.ofNat 0), AV.int IntKind.i64 (Int.ofNat 0)] 35 BK.own 0 0))) (AHeap.n (AHeap.mk (HT.setN (AHeap.n h + 9 + 1) h.1 (AHeap.n h + 9) (some (AObj.cells [AV.str [], AV.int IntKind.i64 (Int.ofNat 0), AV.int IntKind.i64 (Int.ofNat 0)] 35 BK.own 0 0))) (AHeap.n (AHeap.room h 13))))) (AHeap.n h + 9) 0 [AV.str t_2, AV.int IntKind.i64 (Int.ofNat n_4), AV.int IntKind.i64 (Int.ofNat n_5)] = some g_1)
    (H16 : AEv.storeCells g_1 (AHeap.n h + 10) 0 [AV.str t_3, AV.int IntKind.i64 (Int.ofNat n_6), AV.int IntKind.i64 (Int.ofNat n_7)] = some g_2)
    (H17 : AEv.loadCells (AHeap.mk (HT.setN (AHeap.n h + 10 + 1) (HT.setN (AHeap.n h + 9 + 1) h.1 (AHeap.n h + 9) (some (AObj.cells [AV.str [], AV.int IntKind.i64 (Int.ofNat 0), AV.int IntKind.i64 (Int.ofNat 0)] 35 BK.own 0 0))) (AHeap.n h + 10) (some (AObj.cells [AV.str [], AV.int IntKind.i64 (Int.ofNat 0), AV.int IntKind.i64 (Int.ofNat 0)] 35 BK.own 0 0))) (AHeap.n (AHeap.mk (HT.setN (AHeap.n h + 9 + 1) h.1 (AHeap.n h + 9) (some (AObj.cells [AV.str [], AV.int IntKind.i64 (Int.ofNat 0), AV.int IntKind.i64 (Int.ofNat 0)] 35 BK.own 0 0))) (AHeap.n (AHeap.room h 13))))) b (0 + n_3 * 3) 3 = some [AV.str t_2, AV.int IntKind.i64 (Int.ofNat n_4), AV.int IntKind.i64 (Int.ofNat n_5)])
    (H18 : AEv.loadCells g_1 b (0 + i * 3) 3 = some [AV.str t_3, AV.int IntKind.i64 (Int.ofNat n_6), AV.int IntKind.i64 (Int.ofNat n_7)])
    (H19 : AEv.loadCells (AHeap.mk (HT.setN (AHeap.n h + 10 + 1) (HT.setN (AHeap.n h + 9 + 1) h.1 (AHeap.n h + 9) (some (AObj.cells [AV.str [], AV.int IntKind.i64 (Int.ofNat 0), AV.int IntKind.i64 (Int.ofNat 0)] 35 BK.own 0 0))) (AHeap.n h + 10) (some (AObj.cells [AV.str [], AV.int IntKind.i64 (Int.ofNat 0), AV.int IntKind.i64 (Int.ofNat 0)] 35 BK.own 0 0))) (AHeap.n (AHeap.mk (HT.setN (AHeap.n h + 9 + 1) h.1 (AHeap.n h + 9) (some (AObj.cells [AV.str [], AV.int IntKind.i64 (Int.ofNat 0), AV.int IntKind.i64 (Int.ofNat 0)] 35 BK.own 0 0))) (AHeap.n (AHeap.room h 13))))) b (0 + i * 3) 3 = some [AV.str t_3, AV.int IntKind.i64 (Int.ofNat n_6), AV.int IntKind.i64 (Int.ofNat n_7)])
    (H20 : load1 g_2 (AHeap.n h + 9) (0 + 0) = some (AV.str t_4))
    (H21 : load1 g_2 (AHeap.n h + 10) (0 + 0) = some (AV.str t_5))
    (H22 : ltBytes t_5 t_4 = false)
    (H23 : beqBytes t_4 t_5 = true)
    (H24 : load1 g_2 (AHeap.n h + 9) (0 + 1) = some (AV.int IntKind.i64 (Int.ofNat n_8)))
    (H25 : load1 g_2 (AHeap.n h + 10) (0 + 1) = some (AV.int IntKind.i64 (Int.ofNat n_9)))
    (H26 : ltI (Int.ofNat n_9) (Int.ofNat n_8) = true) :
    RunF Try.prog Try.f6 none call [1, 1, 1, 1, 0, 1, 0, 0] (SSt.mk [(0, v), (1, AV.int IntKind.u8 (Int.ofNat u)), (5, AV.slice b 0 n c), (6, AV.int IntKind.i64 (Int.ofNat i))] [] Rc.none h) (AEx.ret)
      (SSt.mk [(0, v), (1, AV.int IntKind.u8 (Int.ofNat u)), (5, AV.slice b 0 n c), (6, AV.int IntKind.i64 (Int.ofNat i))] [] Rc.none g_2) :=
  sxF_run [0, 1, 5, 6] (hs := [Hint.b true, Hint.v (AV.ptr b (0 + i * 3)), Hint.v (AV.int IntKind.i64 (Int.ofNat n_1)), Hint.b false, Hint.b false, Hint.b false, Hint.v (AV.ptr b (0 + i * 3)), Hint.b false, Hint.b false, Hint.v (AV.int IntKind.i64 (Int.ofNat n_1)), Hint.b false, Hint.b false, Hint.b false, Hint.b false, Hint.b false, Hint.v (AV.ptr b (0 + i * 3)), Hint.b false, Hint.b false, Hint.v (AV.int IntKind.i64 (Int.ofNat n_2)), Hint.b false, Hint.b false, Hint.b false, Hint.b false, Hint.b false, Hint.v (AV.ptr b (0 + i * 3)), Hint.b false, Hint.b false, Hint.v (AV.int IntKind.i64 (Int.ofNat n_2)), Hint.b false, Hint.b false, Hint.b false, Hint.b false, Hint.b false, Hint.v (AV.ptr b (0 + i * 3)), Hint.b false, Hint.b false, Hint.v (AV.str t_1), Hint.b false, Hint.b false, Hint.b false, Hint.b false, Hint.b true, Hint.v (AV.int IntKind.i64 (Int.ofNat n_3)), Hint.v (AV.ptr b (0 + n_3 * 3)), Hint.v (AV.agg [AV.str t_2, AV.int IntKind.i64 (Int.ofNat n_4), AV.int IntKind.i64 (Int.ofNat n_5)]), Hint.v (AV.ptr b (0 + i * 3)), Hint.v (AV.agg [AV.str t_3, AV.int IntKind.i64 (Int.ofNat n_6), AV.int IntKind.i64 (Int.ofNat n_7)]), Hint.vh (AV.tup []) g_1, Hint.vh (AV.tup []) g_2, Hint.v (AV.str t_4), Hint.v (AV.str t_5), Hint.b false, Hint.b false, Hint.v (AV.str t_4), Hint.b false, Hint.b false, Hint.v (AV.str t_5), Hint.b false, Hint.b false, Hint.b true, Hint.b true, Hint.v (AV.int IntKind.i64 (Int.ofNat n_8)), Hint.b true, Hint.b true, Hint.v (AV.int IntKind.i64 (Int.ofNat n_9)), Hint.b true, Hint.b true, Hint.b true, Hint.b true, Hint.b true, Hint.b true, Hint.b true, Hint.b true, Hint.b true, Hint.b true, Hint.b true, Hint.b false, Hint.b true, Hint.b false, Hint.b true]) (by kernel_rfl) <| .cons H1 <| .cons (⟨H2, rfl⟩ : Nat.le (Nat.succ i) n ∧ AV.ptr b (0 + i * 3) = AV.ptr b (0 + i * 3)) <| .cons H3 <| .cons H4 <| .cons H4 <| .cons H4 <| .cons (⟨H2, rfl⟩ : Nat.le (Nat.succ i) n ∧ AV.ptr b (0 + i * 3) = AV.ptr b (0 + i * 3)) <| .cons H4 <| .cons H4 <| .cons H3 <| .cons H4 <| .cons H4 <| .cons H5 <| .cons H5 <| .cons H5 <| .cons (⟨H2, rfl⟩ : Nat.le (Nat.succ i) n ∧ AV.ptr b (0 + i * 3) = AV.ptr b (0 + i * 3)) <| .cons H5 <| .cons H5 <| .cons H6 <| .cons H5 <| .cons H5 <| .cons (by kernel_rfl : ltI (Int.ofNat n_2) (Int.ofNat 0) = false) <| .cons (by kernel_rfl : ltI (Int.ofNat n_2) (Int.ofNat 0) = false) <| .cons (by kernel_rfl : ltI (Int.ofNat n_2) (Int.ofNat 0) = false) <| .cons (⟨H2, rfl⟩ : Nat.le (Nat.succ i) n ∧ AV.ptr b (0 + i * 3) = AV.ptr b (0 + i * 3)) <| .cons (by kernel_rfl : ltI (Int.ofNat n_2) (Int.ofNat 0) = false) <| .cons (by kernel_rfl : ltI (Int.ofNat n_2) (Int.ofNat 0) = false) <| .cons H6 <| .cons (by kernel_rfl : ltI (Int.ofNat n_2) (Int.ofNat 0) = false) <| .cons (by kernel_rfl : ltI (Int.ofNat n_2) (Int.ofNat 0) = false) <| .cons H7 <| .cons H7 <| .cons H7 <| .cons (⟨H2, rfl⟩ : Nat.le (Nat.succ i) n ∧ AV.ptr b (0 + i * 3) = AV.ptr b (0 + i * 3)) <| .cons H7 <| .cons H7 <| .cons H8 <| .cons H7 <| .cons H7 <| .cons H7 <| .cons H9 <| .cons H10 <| .cons H11 <| .cons (⟨H12, rfl⟩ : Nat.le (Nat.succ n_3) n ∧ AV.ptr b (0 + n_3 * 3) = AV.ptr b (0 + n_3 * 3)) <| .cons H13 <| .cons (⟨H2, rfl⟩ : Nat.le (Nat.succ i) n ∧ AV.ptr b (0 + i * 3) = AV.ptr b (0 + i * 3)) <| .cons H14 <| .cons (⟨by kernel_rfl, H15, rfl⟩ : some 3 = some 3 ∧ AEv.storeCells (AHeap.mk (HT.setN (AHeap.n h + 10 + 1) (HT.setN (AHeap.n h + 9 + 1) h.1 (AHeap.n h + 9) (some (AObj.cells [AV.str [], AV.int IntKind.i64 (Int.ofNat 0), AV.int IntKind.i64 (Int.ofNat 0)] 35 BK.own 0 0))) (AHeap.n h + 10) (some (AObj.cells [AV.str [], AV.int IntKind.i64 (Int.ofNat 0), AV.int IntKind.i64 (Int.ofNat 0)] 35 BK.own 0 0))) (AHeap.n (AHeap.mk (HT.setN (AHeap.n h + 9 + 1) h.1 (AHeap.n h + 9) (some (AObj.cells [AV.str [], AV.int IntKind.i64 (Int.ofNat 0), AV.int IntKind.i64 (Int.ofNat 0)] 35 BK.own 0 0))) (AHeap.n (AHeap.room h 13))))) (AHeap.n h + 9) 0 [AV.str t_2, AV.int IntKind.i64 (Int.ofNat n_4), AV.int IntKind.i64 (Int.ofNat n_5)] = some g_1 ∧ AV.tup [] = AV.tup []) <| .cons (⟨by kernel_rfl, H16, rfl⟩ : some 3 = some 3 ∧ AEv.storeCells g_1 (AHeap.n h + 10) 0 [AV.str t_3, AV.int IntKind.i64 (Int.ofNat n_6), AV.int IntKind.i64 (Int.ofNat n_7)] = some g_2 ∧ AV.tup [] = AV.tup []) <| .cons (by kernel_rfl : AV.sound (AV.slice b 0 n c) = true) <| .cons (by kernel_rfl : AV.slice b 0 n c = AV.slice b 0 n c) <| .cons (by kernel_rfl : AV.sound (AV.int IntKind.i64 (Int.ofNat i)) = true) <| .cons (by kernel_rfl : AV.int IntKind.i64 (Int.ofNat i) = AV.int IntKind.i64 (Int.ofNat i)) <| .cons (by kernel_rfl : AV.sound (AV.int IntKind.i64 (Int.ofNat n_3)) = true) <| .cons H11 <| .cons (by kernel_rfl : AV.sound (AV.ptr b (0 + n_3 * 3)) = true) <| .cons (⟨H12, rfl⟩ : Nat.le (Nat.succ n_3) n ∧ AV.ptr b (0 + n_3 * 3) = AV.ptr b (0 + n_3 * 3)) <| .cons (by kernel_rfl : AV.sound (AV.agg [AV.str t_2, AV.int IntKind.i64 (Int.ofNat n_4), AV.int IntKind.i64 (Int.ofNat n_5)]) = true) <| .cons H17 <| .cons (by kernel_rfl : AV.sound (AV.slice b 0 n c) = true) <| .cons (by kernel_rfl : AV.slice b 0 n c = AV.slice b 0 n c) <| .cons (by kernel_rfl : AV.sound (AV.slice b 0 n c) = true) <| .cons (by kernel_rfl : AV.slice b 0 n c = AV.slice b 0 n c) <| .cons (by kernel_rfl : AV.sound (AV.int IntKind.i64 (Int.ofNat i)) = true) <| .cons (by kernel_rfl : AV.int IntKind.i64 (Int.ofNat i) = AV.int IntKind.i64 (Int.ofNat i)) <| .cons (by kernel_rfl : AV.sound (AV.int IntKind.i64 (Int.ofNat i)) = true) <| .cons (by kernel_rfl : AV.int IntKind.i64 (Int.ofNat i) = AV.int IntKind.i64 (Int.ofNat i)) <| .cons (by kernel_rfl : AV.sound (AV.ptr b (0 + i * 3)) = true) <| .cons (⟨H2, rfl⟩ : Nat.le (Nat.succ i) n ∧ AV.ptr b (0 + i * 3) = AV.ptr b (0 + i * 3)) <| .cons (by kernel_rfl : AV.sound (AV.ptr b (0 + i * 3)) = true) <| .cons (⟨H2, rfl⟩ : Nat.le (Nat.succ i) n ∧ AV.ptr b (0 + i * 3) = AV.ptr b (0 + i * 3)) <| .cons (by kernel_rfl : AV.sound (AV.agg [AV.str t_3, AV.int IntKind.i64 (Int.ofNat n_6), AV.int IntKind.i64 (Int.ofNat n_7)]) = true) <| .cons H18 <| .cons (by kernel_rfl : AV.sound (AV.agg [AV.str t_3, AV.int IntKind.i64 (Int.ofNat n_6), AV.int IntKind.i64 (Int.ofNat n_7)]) = true) <| .cons H19 <| .cons H20 <| .cons H21 <| .cons H22 <| .cons H22 <| .cons H20 <| .cons H22 <| .cons H22 <| .cons H21 <| .cons H22 <| .cons H22 <| .cons H23 <| .cons H23 <| .cons H24 <| .cons H23 <| .cons H23 <| .cons H25 <| .cons H23 <| .cons H23 <| .cons H26 <| .cons H26 <| .cons H26 <| .cons H26 <| .cons H26 <| .cons H26 <| .cons H26 <| .cons H23 <| .cons H26 <| .cons H22 <| .cons H23 <| .cons H22 <| .cons (by kernel_rfl : true = true) <| .nil
theorem o1_7 (call : CallT → List AV → AHeap → FRes) (v : AV) (u : Nat) (b : Nat) (n : Nat) (i : Nat) (c : Cap) (h : AHeap) (g : AHeap) (n_1 : Nat) (n_2 : Nat) (t_1 : List UInt8) (n_3 : Nat) (t_2 : List UInt8) (n_4 : Nat) (n_5 : Nat) (t_3 : List UInt8) (n_6 : Nat) (n_7 : Nat) (g_1 : AHeap) (g_2 : AHeap) (t_4 : List UInt8) (t_5 : List UInt8) (n_8 : Nat) (n_9 : Nat) (n_10 : Nat) (n_11 : Nat) 
    (H1 : ltI (Int.ofNat i) (Int.ofNat n) = true)
    (H2 : Nat.le (Nat.succ i) n)
    (H3 : load1 h b (0 + i * 3 + 2) = some (AV.int IntKind.i64 (Int.ofNat n_1)))
    (H4 : ltI (Int.ofNat n_1) (Int.ofNat 1) = false)
    (H5 : ltI (Int.ofNat 13) (Int.ofNat n_1) = false)
    (H6 : load1 h b (0 + i * 3 + 1) = some (AV.int IntKind.i64 (Int.ofNat n_2)))
    (H7 : leI (Int.ofNat 2147483648) (Int.ofNat n_2) = false)
    (H8 : load1 h b (0 + i * 3 + 0) = some (AV.str t_1))
    (H9 : ltI (Int.ofNat 200) (Int.ofNat (List.length t_1)) = false)
    (H10 : ltI (Int.ofNat 0) (Int.ofNat i) = true)
    (H11 : arith BinOp.sub IntKind.i64 (Int.ofNat i) (Int.ofNat 1) = some (AV.int IntKind.i64 (Int.ofNat n_3)))
    (H12 : Nat.le (Nat.succ n_3) n)
    (H13 : AEv.loadCells (AHeap.room h 13) b (0 + n_3 * 3) 3 = some [AV.str t_2, AV.int IntKind.i64 (Int.ofNat n_4), AV.int IntKind.i64 (Int.ofNat n_5)])
    (H14 : AEv.loadCells (AHeap.room h 13) b (0 + i * 3) 3 = some [AV.str t_3, AV.int IntKind.i64 (Int.ofNat n_6), AV.int IntKind.i64 (Int.ofNat n_7)])
    (H15 : AEv.storeCells (AHeap.mk (HT.setN (AHeap.n h + 10 + 1) (HT.setN (AHeap.n h + 9 + 1) h.1 (AHeap.n h + 9) (some (AObj.cells [AV.str [], AV.int IntKind.i64 (Int.ofNat 0), AV.int IntKind.i64 (Int.ofNat 0)] 35 BK.own 0 0))) (AHeap.n h + 10) (some (AObj.cells [AV.str [], AV.int IntKind.i64 (Int.ofNat 0), AV.int IntKind.i64 (Int.ofNat 0)] 35 BK.own 0 0))) (AHeap.n (AHeap.mk (HT.setN (AHeap.n h + 9 + 1) h.1 (AHeap.n h + 9) (some (AObj.cells [AV.str [], AV.int IntKind.i64 (Int.ofNat 0), AV.int IntKind.i64 (Int.ofNat 0)] 35 BK.own 0 0))) (AHeap.n (AHeap.room h 13))))) (AHeap.n h + 9) 0 [AV.str t_2, AV.int IntKind.i64 (Int.ofNat n_4), AV.int IntKind.i64 (Int.ofNat n_5)] = some g_1)
    (H16 : AEv.storeCells g_1 (AHeap.n h + 10) 0 [AV.str t_3, AV.int IntKind.i64 (Int.ofNat n_6), AV.int IntKind.i64 (Int.ofNat n_7)] = some g_2)
    (H17 : AEv.loadCells (AHeap.mk (HT.setN (AHeap.n h + 10 + 1) (HT.setN (AHeap.n h + 9 + 1) h.1 (AHeap.n h + 9) (some (AObj.cells [AV.str [], AV.int IntKind.i64 (Int.ofNat 0), AV.int IntKind.i64 (Int.ofNat 0)] 35 BK.own 0 0))) (AHeap.n h + 10) (some (AObj.cells [AV.str [], AV.int IntKind.i64 (Int.ofNat 0), AV.int IntKind.i64 (Int.ofNat 0)] 35 BK.own 0 0))) (AHeap.n (AHeap.mk (HT.setN (AHeap.n h + 9 + 1) h.1 (AHeap.n h + 9) (some (AObj.cells [AV.str [], AV.int IntKind.i64 (Int.ofNat 0), AV.int IntKind.i64 (Int.ofNat 0)] 35 BK.own 0 0))) (AHeap.n (AHeap.room h 13))))) b (0 + n_3 * 3) 3 = some [AV.str t_2, AV.int IntKind.i64 (Int.ofNat n_4), AV.int IntKind.i64 (Int.ofNat n_5)])
    (H18 : AEv.loadCells g_1 b (0 + i * 3) 3 = some [AV.str t_3, AV.int IntKind.i64 (Int.ofNat n_6), AV.int IntKind.i64 (Int.ofNat n_7)])
    (H19 : AEv.loadCells (AHeap.mk (HT.setN (AHeap.n h + 10 + 1) (HT.setN (AHeap.n h + 9 + 1) h.1 (AHeap.n h + 9) (some (AObj.cells [AV.str [], AV.int IntKind.i64 (Int.ofNat 0), AV.int IntKind.i64 (Int.ofNat 0)] 35 BK.own 0 0))) (AHeap.n h + 10) (some (AObj.cells [AV.str [], AV.int IntKind.i64 (Int.ofNat 0), AV.int IntKind.i64 (Int.ofNat 0)] 35 BK.own 0 0))) (AHeap.n (AHeap.mk (HT.setN (AHeap.n h + 9 + 1) h.1 (AHeap.n h + 9) (some (AObj.cells [AV.str [], AV.int IntKind.i64 (Int.ofNat 0), AV.int IntKind.i64 (Int.ofNat 0)] 35 BK.own 0 0))) (AHeap.n (AHeap.room h 13))))) b (0 + i * 3) 3 = some [AV.str t_3, AV.int IntKind.i64 (Int.ofNat n_6), AV.int IntKind.i64 (Int.ofNat n_7)])
    (H20 : load1 g_2 (AHeap.n h + 9) (0 + 0) = some (AV.str t_4))
    (H21 : load1 g_2 (AHeap.n h + 10) (0 + 0) = some (AV.str t_5))
    (H22 : ltBytes t_5 t_4 = false)
    (H23 : beqBytes t_4 t_5 = true)
    (H24 : load1 g_2 (AHeap.n h + 9) (0 + 1) = some (AV.int IntKind.i64 (Int.ofNat n_8)))
    (H25 : load1 g_2 (AHeap.n h + 10) (0 + 1) = some (AV.int IntKind.i64 (Int.ofNat n_9)))
    (H26 : ltI (Int.ofNat n_9) (Int.ofNat n_8) = false)
    (H27 : eqI (Int.ofNat n_8) (Int.ofNat n_9) = true)
    (H28 : load1 g_2 (AHeap.n h + 9) (0 + 2) = some (AV.int IntKind.i64 (Int.ofNat n_10)))
    (H29 : load1 g_2 (AHeap.n h + 10) (0 + 2) = some (AV.int IntKind.i64 (Int.ofNat n_11)))
    (H30 : leI (Int.ofNat n_11) (Int.ofNat n_10) = true) :
    RunF Try.prog Try.f6 none call [1, 1, 1, 1, 0, 1, 0, 0] (SSt.mk [(0, v), (1, AV.int IntKind.u8 (Int.ofNat u)), (5, AV.slice b 0 n c), (6, AV.int IntKind.i64 (Int.ofNat i))] [] Rc.none h) (AEx.ret)
      (SSt.mk [(0, v), (1, AV.int IntKind.u8 (Int.ofNat u)), (5, AV.slice b 0 n c), (6, AV.int IntKind.i64 (Int.ofNat i))] [] Rc.none g_2) :=
  sxF_run [0, 1, 5, 6] (hs := [Hint.b true, Hint.v (AV.ptr b (0 + i * 3)), Hint.v (AV.int IntKind.i64 (Int.ofNat n_1)), Hint.b false, Hint.b false, Hint.b false, Hint.v (AV.ptr b (0 + i * 3)), Hint.b false, Hint.b false, Hint.v (AV.int IntKind.i64 (Int.ofNat n_1)), Hint.b false, Hint.b false, Hint.b false, Hint.b false, Hint.b false, Hint.v (AV.ptr b (0 + i * 3)), Hint.b false, Hint.b false, Hint.v (AV.int IntKind.i64 (Int.ofNat n_2)), Hint.b false, Hint.b false, Hint.b false, Hint.b false, Hint.b false, Hint.v (AV.ptr b (0 + i * 3)), Hint.b false, Hint.b false, Hint.v (AV.int IntKind.i64 (Int.ofNat n_2)), Hint.b false, Hint.b false, Hint.b false, Hint.b false, Hint.b false, Hint.v (AV.ptr b (0 + i * 3)), Hint.b false, Hint.b false, Hint.v (AV.str t_1), Hint.b false, Hint.b false, Hint.b false, Hint.b false, Hint.b true, Hint.v (AV.int IntKind.i64 (Int.ofNat n_3)), Hint.v (AV.ptr b (0 + n_3 * 3)), Hint.v (AV.agg [AV.str t_2, AV.int IntKind.i64 (Int.ofNat n_4), AV.int IntKind.i64 (Int.ofNat n_5)]), Hint.v (AV.ptr b (0 + i * 3)), Hint.v (AV.agg [AV.str t_3, AV.int IntKind.i64 (Int.ofNat n_6), AV.int IntKind.i64 (Int.ofNat n_7)]), Hint.vh (AV.tup []) g_1, Hint.vh (AV.tup []) g_2, Hint.v (AV.str t_4), Hint.v (AV.str t_5), Hint.b false, Hint.b false, Hint.v (AV.str t_4), Hint.b false, Hint.b false, Hint.v (AV.str t_5), Hint.b false, Hint.b false, Hint.b true, Hint.b true, Hint.v (AV.int IntKind.i64 (Int.ofNat n_8)), Hint.b true, Hint.b true, Hint.v (AV.int IntKind.i64 (Int.ofNat n_9)), Hint.b true, Hint.b true, Hint.b false, Hint.b false, Hint.v (AV.int IntKind.i64 (Int.ofNat n_8)), Hint.b false, Hint.b false, Hint.v (AV.int IntKind.i64 (Int.ofNat n_9)), Hint.b false, Hint.b false, Hint.b true, Hint.b true, Hint.v (AV.int IntKind.i64 (Int.ofNat n_10)), Hint.b true, Hint.b true, Hint.v (AV.int IntKind.i64 (Int.ofNat n_11)), Hint.b true, Hint.b false, Hint.b true, Hint.b true, Hint.b false, Hint.b false, Hint.b true, Hint.b false, Hint.b true]) (by kernel_rfl) <| .cons H1 <| .cons (⟨H2, rfl⟩ : Nat.le (Nat.succ i) n ∧ AV.ptr b (0 + i * 3) = AV.ptr b (0 + i * 3)) <| .cons H3 <| .cons H4 <| .cons H4 <| .cons H4 <| .cons (⟨H2, rfl⟩ : Nat.le (Nat.succ i) n ∧ AV.ptr b (0 + i * 3) = AV.ptr b (0 + i * 3)) <| .cons H4 <| .cons H4 <| .cons H3 <| .cons H4 <| .cons H4 <| .cons H5 <| .cons H5 <| .cons H5 <| .cons (⟨H2, rfl⟩ : Nat.le (Nat.succ i) n ∧ AV.ptr b (0 + i * 3) = AV.ptr b (0 + i * 3)) <| .cons H5 <| .cons H5 <| .cons H6 <| .cons H5 <| .cons H5 <| .cons (by kernel_rfl : ltI (Int.ofNat n_2) (Int.ofNat 0) = false) <| .cons (by kernel_rfl : ltI (Int.ofNat n_2) (Int.ofNat 0) = false) <| .cons (by kernel_rfl : ltI (Int.ofNat n_2) (Int.ofNat 0) = false) <| .cons (⟨H2, rfl⟩ : Nat.le (Nat.succ i) n ∧ AV.ptr b (0 + i * 3) = AV.ptr b (0 + i * 3)) <| .cons (by kernel_rfl : ltI (Int.ofNat n_2) (Int.ofNat 0) = false) <| .cons (by kernel_rfl : ltI (Int.ofNat n_2) (Int.ofNat 0) = false) <| .cons H6 <| .cons (by kernel_rfl : ltI (Int.ofNat n_2) (Int.ofNat 0) = false) <| .cons (by kernel_rfl : ltI (Int.ofNat n_2) (Int.ofNat 0) = false) <| .cons H7 <| .cons H7 <| .cons H7 <| .cons (⟨H2, rfl⟩ : Nat.le (Nat.succ i) n ∧ AV.ptr b (0 + i * 3) = AV.ptr b (0 + i * 3)) <| .cons H7 <| .cons H7 <| .cons H8 <| .cons H7 <| .cons H7 <| .cons H7 <| .cons H9 <| .cons H10 <| .cons H11 <| .cons (⟨H12, rfl⟩ : Nat.le (Nat.succ n_3) n ∧ AV.ptr b (0 + n_3 * 3) = AV.ptr b (0 + n_3 * 3)) <| .cons H13 <| .cons (⟨H2, rfl⟩ : Nat.le (Nat.succ i) n ∧ AV.ptr b (0 + i * 3) = AV.ptr b (0 + i * 3)) <| .cons H14 <| .cons (⟨by kernel_rfl, H15, rfl⟩ : some 3 = some 3 ∧ AEv.storeCells (AHeap.mk (HT.setN (AHeap.n h + 10 + 1) (HT.setN (AHeap.n h + 9 + 1) h.1 (AHeap.n h + 9) (some (AObj.cells [AV.str [], AV.int IntKind.i64 (Int.ofNat 0), AV.int IntKind.i64 (Int.ofNat 0)] 35 BK.own 0 0))) (AHeap.n h + 10) (some (AObj.cells [AV.str [], AV.int IntKind.i64 (Int.ofNat 0), AV.int IntKind.i64 (Int.ofNat 0)] 35 BK.own 0 0))) (AHeap.n (AHeap.mk (HT.setN (AHeap.n h + 9 + 1) h.1 (AHeap.n h + 9) (some (AObj.cells [AV.str [], AV.int IntKind.i64 (Int.ofNat 0), AV.int IntKind.i64 (Int.ofNat 0)] 35 BK.own 0 0))) (AHeap.n (AHeap.room h 13))))) (AHeap.n h + 9) 0 [AV.str t_2, AV.int IntKind.i64 (Int.ofNat n_4), AV.int IntKind.i64 (Int.ofNat n_5)] = some g_1 ∧ AV.tup [] = AV.tup []) <| .cons (⟨by kernel_rfl, H16, rfl⟩ : some 3 = some 3 ∧ AEv.storeCells g_1 (AHeap.n h + 10) 0 [AV.str t_3, AV.int IntKind.i64 (Int.ofNat n_6), AV.int IntKind.i64 (Int.ofNat n_7)] = some g_2 ∧ AV.tup [] = AV.tup []) <| .cons (by kernel_rfl : AV.sound (AV.slice b 0 n c) = true) <| .cons (by kernel_rfl : AV.slice b 0 n c = AV.slice b 0 n c) <| .cons (by kernel_rfl : AV.sound (AV.int IntKind.i64 (Int.ofNat i)) = true) <| .cons (by kernel_rfl : AV.int IntKind.i64 (Int.ofNat i) = AV.int IntKind.i64 (Int.ofNat i)) <| .cons (by kernel_rfl : AV.sound (AV.int IntKind.i64 (Int.ofNat n_3)) = true) <| .cons H11 <| .cons (by kernel_rfl : AV.sound (AV.ptr b (0 + n_3 * 3)) = true) <| .cons (⟨H12, rfl⟩ : Nat.le (Nat.succ n_3) n ∧ AV.ptr b (0 + n_3 * 3) = AV.ptr b (0 + n_3 * 3)) <| .cons (by kernel_rfl : AV.sound (AV.agg [AV.str t_2, AV.int IntKind.i64 (Int.ofNat n_4), AV.int IntKind.i64 (Int.ofNat n_5)]) = true) <| .cons H17 <| .cons (by kernel_rfl : AV.sound (AV.slice b 0 n c) = true) <| .cons (by kernel_rfl : AV.slice b 0 n c = AV.slice b 0 n c) <| .cons (by kernel_rfl : AV.sound (AV.slice b 0 n c) = true) <| .cons (by kernel_rfl : AV.slice b 0 n c = AV.slice b 0 n c) <| .cons (by kernel_rfl : AV.sound (AV.int IntKind.i64 (Int.ofNat i)) = true) <| .cons (by kernel_rfl : AV.int IntKind.i64 (Int.ofNat i) = AV.int IntKind.i64 (Int.ofNat i)) <| .cons (by kernel_rfl : AV.sound (AV.int IntKind.i64 (Int.ofNat i)) = true) <| .cons (by kernel_rfl : AV.int IntKind.i64 (Int.ofNat i) = AV.int IntKind.i64 (Int.ofNat i)) <| .cons (by kernel_rfl : AV.sound (AV.ptr b (0 + i * 3)) = true) <| .cons (⟨H2, rfl⟩ : Nat.le (Nat.succ i) n ∧ AV.ptr b (0 + i * 3) = AV.ptr b (0 + i * 3)) <| .cons (by kernel_rfl : AV.sound (AV.ptr b (0 + i * 3)) = true) <| .cons (⟨H2, rfl⟩ : Nat.le (Nat.succ i) n ∧ AV.ptr b (0 + i * 3) = AV.ptr b (0 + i * 3)) <| .cons (by kernel_rfl : AV.sound (AV.agg [AV.str t_3, AV.int IntKind.i64 (Int.ofNat n_6), AV.int IntKind.i64 (Int.ofNat n_7)]) = true) <| .cons H18 <| .cons (by kernel_rfl : AV.sound (AV.agg [AV.str t_3, AV.int IntKind.i64 (Int.ofNat n_6), AV.int IntKind.i64 (Int.ofNat n_7)]) = true) <| .cons H19 <| .cons H20 <| .cons H21 <| .cons H22 <| .cons H22 <| .cons H20 <| .cons H22 <| .cons H22 <| .cons H21 <| .cons H22 <| .cons H22 <| .cons H23 <| .cons H23 <| .cons H24 <| .cons H23 <| .cons H23 <| .cons H25 <| .cons H23 <| .cons H23 <| .cons H26 <| .cons H26 <| .cons H24 <| .cons H26 <| .cons H26 <| .cons H25 <| .cons H26 <| .cons H26 <| .cons H27 <| .cons H27 <| .cons H28 <| .cons H27 <| .cons H27 <| .cons H29 <| .cons H27 <| .cons H26 <| .cons H27 <| .cons H23 <| .cons H26 <| .cons H22 <| .cons H23 <| .cons H22 <| .cons H30 <| .nil
theorem o1_8 (call : CallT → List AV → AHeap → FRes) (v : AV) (u : Nat) (b : Nat) (n : Nat) (i : Nat) (c : Cap) (h : AHeap) (g : AHeap) (n_1 : Nat) (n_2 : Nat) (t_1 : List UInt8) (n_3 : Nat) (t_2 : List UInt8) (n_4 : Nat) (n_5 : Nat) (t_3 : List UInt8) (n_6 : Nat) (n_7 : Nat) (g_1 : AHeap) (g_2 : AHeap) (t_4 : List UInt8) (t_5 : List UInt8) (n_8 : Nat) (n_9 : Nat) (n_10 : Nat) (n_11 : Nat) (t_6 : List UInt8) (n_12 : Nat) (n_13 : Nat) (b_1 : Bool) (g_3 : AHeap) 
    (H1 : ltI (Int.ofNat i) (Int.ofNat n) = true)
    (H2 : Nat.le (Nat.succ i) n)
    (H3 : load1 h b (0 + i * 3 + 2) = some (AV.int IntKind.i64 (Int.ofNat n_1)))
    (H4 : ltI (Int.ofNat n_1) (Int.ofNat 1) = false)
    (H5 : ltI (Int.ofNat 13) (Int.ofNat n_1) = false)
    (H6 : load1 h b (0 + i * 3 + 1) = some (AV.int IntKind.i64 (Int.ofNat n_2)))
    (H7 : leI (Int.ofNat 2147483648) (Int.ofNat n_2) = false)
    (H8 : load1 h b (0 + i * 3 + 0) = some (AV.str t_1))
    (H9 : ltI (Int.ofNat 200) (Int.ofNat (List.length t_1)) = false)
    (H10 : ltI (Int.ofNat 0) (Int.ofNat i) = true)
    (H11 : arith BinOp.sub IntKind.i64 (Int.ofNat i) (Int.ofNat 1) = some (AV.int IntKind.i64 (Int.ofNat n_3)))
    (H12 : Nat.le (Nat.succ n_3) n)
    (H13 : AEv.loadCells (AHeap.room h 13) b (0 + n_3 * 3) 3 = some [AV.str t_2, AV.int IntKind.i64 (Int.ofNat n_4), AV.int IntKind.i64 (Int.ofNat n_5)])
    (H14 : AEv.loadCells (AHeap.room h 13) b (0 + i * 3) 3 = some [AV.str t_3, AV.int IntKind.i64 (Int.ofNat n_6), AV.int IntKind.i64 (Int.ofNat n_7)])
    (H15 : AEv.storeCells (AHeap.mk (HT.setN (AHeap.n h + 10 + 1) (HT.setN (AHeap.n h + 9 + 1) h.1 (AHeap.n h + 9) (some (AObj.cells [AV.str [], AV.int IntKind.i64 (Int.ofNat 0), AV.int IntKind.i64 (Int.ofNat 0)] 35 BK.own 0 0))) (AHeap.n h + 10) (some (AObj.cells [AV.str [], AV.int IntKind.i64 (Int.ofNat 0), AV.int IntKind.i64 (Int.ofNat 0)] 35 BK.own 0 0))) (AHeap.n (AHeap.mk (HT.setN (AHeap.n h + 9 + 1) h.1 (AHeap.n h + 9) (some (AObj.cells [AV.str [], AV.int IntKind.i64 (Int.ofNat 0), AV.int IntKind.i64 (Int.ofNat 0)] 35 BK.own 0 0))) (AHeap.n (AHeap.room h 13))))) (AHeap.n h + 9) 0 [AV.str t_2, AV.int IntKind.i64 (Int.ofNat n_4), AV.int IntKind.i64 (Int.ofNat n_5)] = some g_1)
    (H16 : AEv.storeCells g_1 (AHeap.n h + 10) 0 [AV.str t_3, AV.int IntKind.i64 (Int.ofNat n_6), AV.int IntKind.i64 (Int.ofNat n_7)] = some g_2)
    (H17 : AEv.loadCells (AHeap.mk (HT.setN (AHeap.n h + 10 + 1) (HT.setN (AHeap.n h + 9 + 1) h.1 (AHeap.n h + 9) (some (AObj.cells [AV.str [], AV.int IntKind.i64 (Int.ofNat 0), AV.int IntKind.i64 (Int.ofNat 0)] 35 BK.own 0 0))) (AHeap.n h + 10) (some (AObj.cells [AV.str [], AV.int IntKind.i64 (Int.ofNat 0), AV.int IntKind.i64 (Int.ofNat 0)] 35 BK.own 0 0))) (AHeap.n (AHeap.mk (HT.setN (AHeap.n h + 9 + 1) h.1 (AHeap.n h + 9) (some (AObj.cells [AV.str [], AV.int IntKind.i64 (Int.ofNat 0), AV.int IntKind.i64 (Int.ofNat 0)] 35 BK.own 0 0))) (AHeap.n (AHeap.room h 13))))) b (0 + n_3 * 3) 3 = some [AV.str t_2, AV.int IntKind.i64 (Int.ofNat n_4), AV.int IntKind.i64 (Int.ofNat n_5)])
    (H18 : AEv.loadCells g_1 b (0 + i * 3) 3 = some [AV.str t_3, AV.int IntKind.i64 (Int.ofNat n_6), AV.int IntKind.i64 (Int.ofNat n_7)])
    (H19 : AEv.loadCells (AHeap.mk (HT.setN (AHeap.n h + 10 + 1) (HT.setN (AHeap.n h + 9 + 1) h.1 (AHeap.n h + 9) (some (AObj.cells [AV.str [], AV.int IntKind.i64 (Int.ofNat 0), AV.int IntKind.i64 (Int.ofNat 0)] 35 BK.own 0 0))) (AHeap.n h + 10) (some (AObj.cells [AV.str [], AV.int IntKind.i64 (Int.ofNat 0), AV.int IntKind.i64 (Int.ofNat 0)] 35 BK.own 0 0))) (AHeap.n (AHeap.mk (HT.setN (AHeap.n h + 9 + 1) h.1 (AHeap.n h + 9) (some (AObj.cells [AV.str [], AV.int IntKind.i64 (Int.ofNat 0), AV.int IntKind.i64 (Int.ofNat 0)] 35 BK.own 0 0))) (AHeap.n (AHeap.room h 13))))) b (0 + i * 3) 3 = some [AV.str t_3, AV.int IntKind.i64 (Int.ofNat n_6), AV.int IntKind.i64 (Int.ofNat n_7)])
    (H20 : load1 g_2 (AHeap.n h + 9) (0 + 0) = some (AV.str t_4))
    (H21 : load1 g_2 (AHeap.n h + 10) (0 + 0) = some (AV.str t_5))
    (H22 : ltBytes t_5 t_4 = false)
    (H23 : beqBytes t_4 t_5 = true)
    (H24 : load1 g_2 (AHeap.n h + 9) (0 + 1) = some (AV.int IntKind.i64 (Int.ofNat n_8)))
    (H25 : load1 g_2 (AHeap.n h + 10) (0 + 1) = some (AV.int IntKind.i64 (Int.ofNat n_9)))
    (H26 : ltI (Int.ofNat n_9) (Int.ofNat n_8) = false)
    (H27 : eqI (Int.ofNat n_8) (Int.ofNat n_9) = true)
    (H28 : load1 g_2 (AHeap.n h + 9) (0 + 2) = some (AV.int IntKind.i64 (Int.ofNat n_10)))
    (H29 : load1 g_2 (AHeap.n h + 10) (0 + 2) = some (AV.int IntKind.i64 (Int.ofNat n_11)))
    (H30 : leI (Int.ofNat n_11) (Int.ofNat n_10) = false)
    (H31 : AEv.loadCells g_2 b (0 + i * 3) 3 = some [AV.str t_6, AV.int IntKind.i64 (Int.ofNat n_12), AV.int IntKind.i64 (Int.ofNat n_13)])
    (H32 : call (CallT.fn 25) [v, AV.agg [AV.str t_6, AV.int IntKind.i64 (Int.ofNat n_12), AV.int IntKind.i64 (Int.ofNat n_13)]] g_2 = FRes.ret (AV.bool b_1) g_3)
    (H33 : (!b_1) = true) :
    RunF Try.prog Try.f6 none call [1, 1, 1, 1, 0, 1, 0, 0] (SSt.mk [(0, v), (1, AV.int IntKind.u8 (Int.ofNat u)), (5, AV.slice b 0 n c), (6, AV.int IntKind.i64 (Int.ofNat i))] [] Rc.none h) (AEx.ret)
      (SSt.mk [(0, v), (1, AV.int IntKind.u8 (Int.ofNat u)), (5, AV.slice b 0 n c), (6, AV.int IntKind.i64 (Int.ofNat i))] [] Rc.none g_3) :=
  sxF_run [0, 1, 5, 6] (hs := [Hint.b true, Hint.v (AV.ptr b (0 + i * 3)), Hint.v (AV.int IntKind.i64 (Int.ofNat n_1)), Hint.b false, Hint.b false, Hint.b false, Hint.v (AV.ptr b (0 + i * 3)), Hint.b false, Hint.b false, Hint.v (AV.int IntKind.i64 (Int.ofNat n_1)), Hint.b false, Hint.b false, Hint.b false, Hint.b false, Hint.b false, Hint.v (AV.ptr b (0 + i * 3)), Hint.b false, Hint.b false, Hint.v (AV.int IntKind.i64 (Int.ofNat n_2)), Hint.b false, Hint.b false, Hint.b false, Hint.b false, Hint.b false, Hint.v (AV.ptr b (0 + i * 3)), Hint.b false, Hint.b false, Hint.v (AV.int IntKind.i64 (Int.ofNat n_2)), Hint.b false, Hint.b false, Hint.b false, Hint.b false, Hint.b false, Hint.v (AV.ptr b (0 + i * 3)), Hint.b false, Hint.b false, Hint.v (AV.str t_1), Hint.b false, Hint.b false, Hint.b false, Hint.b false, Hint.b true, Hint.v (AV.int IntKind.i64 (Int.ofNat n_3)), Hint.v (AV.ptr b (0 + n_3 * 3)), Hint.v (AV.agg [AV.str t_2, AV.int IntKind.i64 (Int.ofNat n_4), AV.int IntKind.i64 (Int.ofNat n_5)]), Hint.v (AV.ptr b (0 + i * 3)), Hint.v (AV.agg [AV.str t_3, AV.int IntKind.i64 (Int.ofNat n_6), AV.int IntKind.i64 (Int.ofNat n_7)]), Hint.vh (AV.tup []) g_1, Hint.vh (AV.tup []) g_2, Hint.v (AV.str t_4), Hint.v (AV.str t_5), Hint.b false, Hint.b false, Hint.v (AV.str t_4), Hint.b false, Hint.b false, Hint.v (AV.str t_5), Hint.b false, Hint.b false, Hint.b true, Hint.b true, Hint.v (AV.int IntKind.i64 (Int.ofNat n_8)), Hint.b true, Hint.b true, Hint.v (AV.int IntKind.i64 (Int.ofNat n_9)), Hint.b true, Hint.b true, Hint.b false, Hint.b false, Hint.v (AV.int IntKind.i64 (Int.ofNat n_8)), Hint.b false, Hint.b false, Hint.v (AV.int IntKind.i64 (Int.ofNat n_9)), Hint.b false, Hint.b false, Hint.b true, Hint.b true, Hint.v (AV.int IntKind.i64 (Int.ofNat n_10)), Hint.b true, Hint.b true, Hint.v (AV.int IntKind.i64 (Int.ofNat n_11)), Hint.b true, Hint.b false, Hint.b true, Hint.b true, Hint.b false, Hint.b false, Hint.b true, Hint.b false, Hint.b false, Hint.v (AV.ptr b (0 + i * 3)), Hint.v (AV.agg [AV.str t_6, AV.int IntKind.i64 (Int.ofNat n_12), AV.int IntKind.i64 (Int.ofNat n_13)]), Hint.c (AV.bool b_1) g_3, Hint.b true]) (by kernel_rfl) <| .cons H1 <| .cons (⟨H2, rfl⟩ : Nat.le (Nat.succ i) n ∧ AV.ptr b (0 + i * 3) = AV.ptr b (0 + i * 3)) <| .cons H3 <| .cons H4 <| .cons H4 <| .cons H4 <| .cons (⟨H2, rfl⟩ : Nat.le (Nat.succ i) n ∧ AV.ptr b (0 + i * 3) = AV.ptr b (0 + i * 3)) <| .cons H4 <| .cons H4 <| .cons H3 <| .cons H4 <| .cons H4 <| .cons H5 <| .cons H5 <| .cons H5 <| .cons (⟨H2, rfl⟩ : Nat.le (Nat.succ i) n ∧ AV.ptr b (0 + i * 3) = AV.ptr b (0 + i * 3)) <| .cons H5 <| .cons H5 <| .cons H6 <| .cons H5 <| .cons H5 <| .cons (by kernel_rfl : ltI (Int.ofNat n_2) (Int.ofNat 0) = false) <| .cons (by kernel_rfl : ltI (Int.ofNat n_2) (Int.ofNat 0) = false) <| .cons (by kernel_rfl : ltI (Int.ofNat n_2) (Int.ofNat 0) = false) <| .cons (⟨H2, rfl⟩ : Nat.le (Nat.succ i) n ∧ AV.ptr b (0 + i * 3) = AV.ptr b (0 + i * 3)) <| .cons (by kernel_rfl : ltI (Int.ofNat n_2) (Int.ofNat 0) = false) <| .cons (by kernel_rfl : ltI (Int.ofNat n_2) (Int.ofNat 0) = false) <| .cons H6 <| .cons (by kernel_rfl : ltI (Int.ofNat n_2) (Int.ofNat 0) = false) <| .cons (by kernel_rfl : ltI (Int.ofNat n_2) (Int.ofNat 0) = false) <| .cons H7 <| .cons H7 <| .cons H7 <| .cons (⟨H2, rfl⟩ : Nat.le (Nat.succ i) n ∧ AV.ptr b (0 + i * 3) = AV.ptr b (0 + i * 3)) <| .cons H7 <| .cons H7 <| .cons H8 <| .cons H7 <| .cons H7 <| .cons H7 <| .cons H9 <| .cons H10 <| .cons H11 <| .cons (⟨H12, rfl⟩ : Nat.le (Nat.succ n_3) n ∧ AV.ptr b (0 + n_3 * 3) = AV.ptr b (0 + n_3 * 3)) <| .cons H13 <| .cons (⟨H2, rfl⟩ : Nat.le (Nat.succ i) n ∧ AV.ptr b (0 + i * 3) = AV.ptr b (0 + i * 3)) <| .cons H14 <| .cons (⟨by kernel_rfl, H15, rfl⟩ : some 3 = some 3 ∧ AEv.storeCells (AHeap.mk (HT.setN (AHeap.n h + 10 + 1) (HT.setN (AHeap.n h + 9 + 1) h.1 (AHeap.n h + 9) (some (AObj.cells [AV.str [], AV.int IntKind.i64 (Int.ofNat 0), AV.int IntKind.i64 (Int.ofNat 0)] 35 BK.own 0 0))) (AHeap.n h + 10) (some (AObj.cells [AV.str [], AV.int IntKind.i64 (Int.ofNat 0), AV.int IntKind.i64 (Int.ofNat 0)] 35 BK.own 0 0))) (AHeap.n (AHeap.mk (HT.setN (AHeap.n h + 9 + 1) h.1 (AHeap.n h + 9) (some (AObj.cells [AV.str [], AV.int IntKind.i64 (Int.ofNat 0), AV.int IntKind.i64 (Int.ofNat 0)] 35 BK.own 0 0))) (AHeap.n (AHeap.room h 13))))) (AHeap.n h + 9) 0 [AV.str t_2, AV.int IntKind.i64 (Int.ofNat n_4), AV.int IntKind.i64 (Int.ofNat n_5)] = some g_1 ∧ AV.tup [] = AV.tup []) <| .cons (⟨by kernel_rfl, H16, rfl⟩ : some 3 = some 3 ∧ AEv.storeCells g_1 (AHeap.n h + 10) 0 [AV.str t_3, AV.int IntKind.i64 (Int.ofNat n_6), AV.int IntKind.i64 (Int.ofNat n_7)] = some g_2 ∧ AV.tup [] = AV.tup []) <| .cons (by kernel_rfl : AV.sound (AV.slice b 0 n c) = true) <| .cons (by kernel_rfl : AV.slice b 0 n c = AV.slice b 0 n c) <| .cons (by kernel_rfl : AV.sound (AV.int IntKind.i64 (Int.ofNat i)) = true) <| .cons (by kernel_rfl : AV.int IntKind.i64 (Int.ofNat i) = AV.int IntKind.i64 (Int.ofNat i)) <| .cons (by kernel_rfl : AV.sound (AV.int IntKind.i64 (Int.ofNat n_3)) = true) <| .cons H11 <| .cons (by kernel_rfl : AV.sound (AV.ptr b (0 + n_3 * 3)) = true) <| .cons (⟨H12, rfl⟩ : Nat.le (Nat.succ n_3) n ∧ AV.ptr b (0 + n_3 * 3) = AV.ptr b (0 + n_3 * 3)) <| .cons (by kernel_rfl : AV.sound (AV.agg [AV.str t_2, AV.int IntKind.i64 (Int.ofNat n_4), AV.int IntKind.i64 (Int.ofNat n_5)]) = true) <| .cons H17 <| .cons (by kernel_rfl : AV.sound (AV.slice b 0 n c) = true) <| .cons (by kernel_rfl : AV.slice b 0 n c = AV.slice b 0 n c) <| .cons (by kernel_rfl : AV.sound (AV.slice b 0 n c) = true) <| .cons (by kernel_rfl : AV.slice b 0 n c = AV.slice b 0 n c) <| .cons (by kernel_rfl : AV.sound (AV.int IntKind.i64 (Int.ofNat i)) = true) <| .cons (by kernel_rfl : AV.int IntKind.i64 (Int.ofNat i) = AV.int IntKind.i64 (Int.ofNat i)) <| .cons (by kernel_rfl : AV.sound (AV.int IntKind.i64 (Int.ofNat i)) = true) <| .cons (by kernel_rfl : AV.int IntKind.i64 (Int.ofNat i) = AV.int IntKind.i64 (Int.ofNat i)) <| .cons (by kernel_rfl : AV.sound (AV.ptr b (0 + i * 3)) = true) <| .cons (⟨H2, rfl⟩ : Nat.le (Nat.succ i) n ∧ AV.ptr b (0 + i * 3) = AV.ptr b (0 + i * 3)) <| .cons (by kernel_rfl : AV.sound (AV.ptr b (0 + i * 3)) = true) <| .cons (⟨H2, rfl⟩ : Nat.le (Nat.succ i) n ∧ AV.ptr b (0 + i * 3) = AV.ptr b (0 + i * 3)) <| .cons (by kernel_rfl : AV.sound (AV.agg [AV.str t_3, AV.int IntKind.i64 (Int.ofNat n_6), AV.int IntKind.i64 (Int.ofNat n_7)]) = true) <| .cons H18 <| .cons (by kernel_rfl : AV.sound (AV.agg [AV.str t_3, AV.int IntKind.i64 (Int.ofNat n_6), AV.int IntKind.i64 (Int.ofNat n_7)]) = true) <| .cons H19 <| .cons H20 <| .cons H21 <| .cons H22 <| .cons H22 <| .cons H20 <| .cons H22 <| .cons H22 <| .cons H21 <| .cons H22 <| .cons H22 <| .cons H23 <| .cons H23 <| .cons H24 <| .cons H23 <| .cons H23 <| .cons H25 <| .cons H23 <| .cons H23 <| .cons H26 <| .cons H26 <| .cons H24 <| .cons H26 <| .cons H26 <| .cons H25 <| .cons H26 <| .cons H26 <| .cons H27 <| .cons H27 <| .cons H28 <| .cons H27 <| .cons H27 <| .cons H29 <| .cons H27 <| .cons H26 <| .cons H27 <| .cons H23 <| .cons H26 <| .cons H22 <| .cons H23 <| .cons H22 <| .cons H30 <| .cons (⟨H2, rfl⟩ : Nat.le (Nat.succ i) n ∧ AV.ptr b (0 + i * 3) = AV.ptr b (0 + i * 3)) <| .cons H31 <| .cons H32 <| .cons H33 <| .nil
theorem o1_9 (call : CallT → List AV → AHeap → FRes) (v : AV) (u : Nat) (b : Nat) (n : Nat) (i : Nat) (c : Cap) (h : AHeap) (g : AHeap) (n_1 : Nat) (n_2 : Nat) (t_1 : List UInt8) (n_3 : Nat) (t_2 : List UInt8) (n_4 : Nat) (n_5 : Nat) (t_3 : List UInt8) (n_6 : Nat) (n_7 : Nat) (g_1 : AHeap) (g_2 : AHeap) (t_4 : List UInt8) (t_5 : List UInt8) (n_8 : Nat) (n_9 : Nat) (n_10 : Nat) (n_11 : Nat) (t_6 : List UInt8) (n_12 : Nat) (n_13 : Nat) (b_1 : Bool) (g_3 : AHeap) (n_14 : Nat) 
    (H1 : ltI (Int.ofNat i) (Int.ofNat n) = true)
    (H2 : Nat.le (Nat.succ i) n)
    (H3 : load1 h b (0 + i * 3 + 2) = some (AV.int IntKind.i64 (Int.ofNat n_1)))
    (H4 : ltI (Int.ofNat n_1) (Int.ofNat 1) = false)
    (H5 : ltI (Int.ofNat 13) (Int.ofNat n_1) = false)
    (H6 : load1 h b (0 + i * 3 + 1) = some (AV.int IntKind.i64 (Int.ofNat n_2)))
    (H7 : leI (Int.ofNat 2147483648) (Int.ofNat n_2) = false)
    (H8 : load1 h b (0 + i * 3 + 0) = some (AV.str t_1))
    (H9 : ltI (Int.ofNat 200) (Int.ofNat (List.length t_1)) = false)
    (H10 : ltI (Int.ofNat 0) (Int.ofNat i) = true)
    (H11 : arith BinOp.sub IntKind.i64 (Int.ofNat i) (Int.ofNat 1) = some (AV.int IntKind.i64 (Int.ofNat n_3)))
    (H12 : Nat.le (Nat.succ n_3) n)
    (H13 : AEv.loadCells (AHeap.room h 13) b (0 + n_3 * 3) 3 = some [AV.str t_2, AV.int IntKind.i64 (Int.ofNat n_4), AV.int IntKind.i64 (Int.ofNat n_5)])
    (H14 : AEv.loadCells (AHeap.room h 13) b (0 + i * 3) 3 = some [AV.str t_3, AV.int IntKind.i64 (Int.ofNat n_6), AV.int IntKind.i64 (Int.ofNat n_7)])
    (H15 : AEv.storeCells (AHeap.mk (HT.setN (AHeap.n h + 10 + 1) (HT.setN (AHeap.n h + 9 + 1) h.1 (AHeap.n h + 9) (some (AObj.cells [AV.str [], AV.int IntKind.i64 (Int.ofNat 0), AV.int IntKind.i64 (Int.ofNat 0)] 35 BK.own 0 0))) (AHeap.n h + 10) (some (AObj.cells [AV.str [], AV.int IntKind.i64 (Int.ofNat 0), AV.int IntKind.i64 (Int.ofNat 0)] 35 BK.own 0 0))) (AHeap.n (AHeap.mk (HT.setN (AHeap.n h + 9 + 1) h.1 (AHeap.n h + 9) (some (AObj.cells [AV.str [], AV.int IntKind.i64 (Int.ofNat 0), AV.int IntKind.i64 (Int.ofNat 0)] 35 BK.own 0 0))) (AHeap.n (AHeap.room h 13))))) (AHeap.n h + 9) 0 [AV.str t_2, AV.int IntKind.i64 (Int.ofNat n_4), AV.int IntKind.i64 (Int.ofNat n_5)] = some g_1)
    (H16 : AEv.storeCells g_1 (AHeap.n h + 10) 0 [AV.str t_3, AV.int IntKind.i64 (Int.ofNat n_6), AV.int IntKind.i64 (Int.ofNat n_7)] = some g_2)
    (H17 : AEv.loadCells (AHeap.mk (HT.setN (AHeap.n h + 10 + 1) (HT.setN (AHeap.n h + 9 + 1) h.1 (AHeap.n h + 9) (some (AObj.cells [AV.str [], AV.int IntKind.i64 (Int.ofNat 0), AV.int IntKind.i64 (Int.ofNat 0)] 35 BK.own 0 0))) (AHeap.n h + 10) (some (AObj.cells [AV.str [], AV.int IntKind.i64 (Int.ofNat 0), AV.int IntKind.i64 (Int.ofNat 0)] 35 BK.own 0 0))) (AHeap.n (AHeap.mk (HT.setN (AHeap.n h + 9 + 1) h.1 (AHeap.n h + 9) (some (AObj.cells [AV.str [], AV.int IntKind.i64 (Int.ofNat 0), AV.int IntKind.i64 (Int.ofNat 0)] 35 BK.own 0 0))) (AHeap.n (AHeap.room h 13))))) b (0 + n_3 * 3) 3 = some [AV.str t_2, AV.int IntKind.i64 (Int.ofNat n_4), AV.int IntKind.i64 (Int.ofNat n_5)])
    (H18 : AEv.loadCells g_1 b (0 + i * 3) 3 = some [AV.str t_3, AV.int IntKind.i64 (Int.ofNat n_6), AV.int IntKind.i64 (Int.ofNat n_7)])
    (H19 : AEv.loadCells (AHeap.mk (HT.setN (AHeap.n h + 10 + 1) (HT.setN (AHeap.n h + 9 + 1) h.1 (AHeap.n h + 9) (some (AObj.cells [AV.str [], AV.int IntKind.i64 (Int.ofNat 0), AV.int IntKind.i64 (Int.ofNat 0)] 35 BK.own 0 0))) (AHeap.n h + 10) (some (AObj.cells [AV.str [], AV.int IntKind.i64 (Int.ofNat 0), AV.int IntKind.i64 (Int.ofNat 0)] 35 BK.own 0 0))) (AHeap.n (AHeap.mk (HT.setN (AHeap.n h + 9 + 1) h.1 (AHeap.n h + 9) (some (AObj.cells [AV.str [], AV.int IntKind.i64 (Int.ofNat 0), AV.int IntKind.i64 (Int.ofNat 0)] 35 BK.own 0 0))) (AHeap.n (AHeap.room h 13))))) b (0 + i * 3) 3 = some [AV.str t_3, AV.int IntKind.i64 (Int.ofNat n_6), AV.int IntKind.i64 (Int.ofNat n_7)])
    (H20 : load1 g_2 (AHeap.n h + 9) (0 + 0) = some (AV.str t_4))
    (H21 : load1 g_2 (AHeap.n h + 10) (0 + 0) = some (AV.str t_5))
    (H22 : ltBytes t_5 t_4 = false)
    (H23 : beqBytes t_4 t_5 = true)
    (H24 : load1 g_2 (AHeap.n h + 9) (0 + 1) = some (AV.int IntKind.i64 (Int.ofNat n_8)))
    (H25 : load1 g_2 (AHeap.n h + 10) (0 + 1) = some (AV.int IntKind.i64 (Int.ofNat n_9)))
    (H26 : ltI (Int.ofNat n_9) (Int.ofNat n_8) = false)
    (H27 : eqI (Int.ofNat n_8) (Int.ofNat n_9) = true)
    (H28 : load1 g_2 (AHeap.n h + 9) (0 + 2) = some (AV.int IntKind.i64 (Int.ofNat n_10)))
    (H29 : load1 g_2 (AHeap.n h + 10) (0 + 2) = some (AV.int IntKind.i64 (Int.ofNat n_11)))
    (H30 : leI (Int.ofNat n_11) (Int.ofNat n_10) = false)
    (H31 : AEv.loadCells g_2 b (0 + i * 3) 3 = some [AV.str t_6, AV.int IntKind.i64 (Int.ofNat n_12), AV.int IntKind.i64 (Int.ofNat n_13)])
    (H32 : call (CallT.fn 25) [v, AV.agg [AV.str t_6, AV.int IntKind.i64 (Int.ofNat n_12), AV.int IntKind.i64 (Int.ofNat n_13)]] g_2 = FRes.ret (AV.bool b_1) g_3)
    (H33 : (!b_1) = false)
    (H34 : arith BinOp.add IntKind.i64 (Int.ofNat i) (Int.ofNat 1) = some (AV.int IntKind.i64 (Int.ofNat n_14))) :
    RunF Try.prog Try.f6 none call [1, 1, 1, 1, 0, 1, 0, 0] (SSt.mk [(0, v), (1, AV.int IntKind.u8 (Int.ofNat u)), (5, AV.slice b 0 n c), (6, AV.int IntKind.i64 (Int.ofNat i))] [] Rc.none h) (AEx.nrm)
      (SSt.mk [(0, v), (1, AV.int IntKind.u8 (Int.ofNat u)), (5, AV.slice b 0 n c), (6, AV.int IntKind.i64 (Int.ofNat n_14))] [] Rc.none g_3) :=
  sxF_run [0, 1, 5, 6] (hs := [Hint.b true, Hint.v (AV.ptr b (0 + i * 3)), Hint.v (AV.int IntKind.i64 (Int.ofNat n_1)), Hint.b false, Hint.b false, Hint.b false, Hint.v (AV.ptr b (0 + i * 3)), Hint.b false, Hint.b false, Hint.v (AV.int IntKind.i64 (Int.ofNat n_1)), Hint.b false, Hint.b false, Hint.b false, Hint.b false, Hint.b false, Hint.v (AV.ptr b (0 + i * 3)), Hint.b false, Hint.b false, Hint.v (AV.int IntKind.i64 (Int.ofNat n_2)), Hint.b false, Hint.b false, Hint.b false, Hint.b false, Hint.b false, Hint.v (AV.ptr b (0 + i * 3)), Hint.b false, Hint.b false, Hint.v (AV.int IntKind.i64 (Int.ofNat n_2)), Hint.b false, Hint.b false, Hint.b false, Hint.b false, Hint.b false, Hint.v (AV.ptr b (0 + i * 3)), Hint.b false, Hint.b false, Hint.v (AV.str t_1), Hint.b false, Hint.b false, Hint.b false, Hint.b false, Hint.b true, Hint.v (AV.int IntKind.i64 (Int.ofNat n_3)), Hint.v (AV.ptr b (0 + n_3 * 3)), Hint.v (AV.agg [AV.str t_2, AV.int IntKind.i64 (Int.ofNat n_4), AV.int IntKind.i64 (Int.ofNat n_5)]), Hint.v (AV.ptr b (0 + i * 3)), Hint.v (AV.agg [AV.str t_3, AV.int IntKind.i64 (Int.ofNat n_6), AV.int IntKind.i64 (Int.ofNat n_7)]), Hint.vh (AV.tup []) g_1, Hint.vh (AV.tup []) g_2, Hint.v (AV.str t_4), Hint.v (AV.str t_5), Hint.b false, Hint.b false, Hint.v (AV.str t_4), Hint.b false, Hint.b false, Hint.v (AV.str t_5), Hint.b false, Hint.b false, Hint.b true, Hint.b true, Hint.v (AV.int IntKind.i64 (Int.ofNat n_8)), Hint.b true, Hint.b true, Hint.v (AV.int IntKind.i64 (Int.ofNat n_9)), Hint.b true, Hint.b true, Hint.b false, Hint.b false, Hint.v (AV.int IntKind.i64 (Int.ofNat n_8)), Hint.b false, Hint.b false, Hint.v (AV.int IntKind.i64 (Int.ofNat n_9)), Hint.b false, Hint.b false, Hint.b true, Hint.b true, Hint.v (AV.int IntKind.i64 (Int.ofNat n_10)), Hint.b true, Hint.b true, Hint.v (AV.int IntKind.i64 (Int.ofNat n_11)), Hint.b true, Hint.b false, Hint.b true, Hint.b true, Hint.b false, Hint.b false, Hint.b true, Hint.b false, Hint.b false, Hint.v (AV.ptr b (0 + i * 3)), Hint.v (AV.agg [AV.str t_6, AV.int IntKind.i64 (Int.ofNat n_12), AV.int IntKind.i64 (Int.ofNat n_13)]), Hint.c (AV.bool b_1) g_3, Hint.b false, Hint.v (AV.int IntKind.i64 (Int.ofNat n_14))]) (by kernel_rfl) <| .cons H1 <| .cons (⟨H2, rfl⟩ : Nat.le (Nat.succ i) n ∧ AV.ptr b (0 + i * 3) = AV.ptr b (0 + i * 3)) <| .cons H3 <| .cons H4 <| .cons H4 <| .cons H4 <| .cons (⟨H2, rfl⟩ : Nat.le (Nat.succ i) n ∧ AV.ptr b (0 + i * 3) = AV.ptr b (0 + i * 3)) <| .cons H4 <| .cons H4 <| .cons H3 <| .cons H4 <| .cons H4 <| .cons H5 <| .cons H5 <| .cons H5 <| .cons (⟨H2, rfl⟩ : Nat.le (Nat.succ i) n ∧ AV.ptr b (0 + i * 3) = AV.ptr b (0 + i * 3)) <| .cons H5 <| .cons H5 <| .cons H6 <| .cons H5 <| .cons H5 <| .cons (by kernel_rfl : ltI (Int.ofNat n_2) (Int.ofNat 0) = false) <| .cons (by kernel_rfl : ltI (Int.ofNat n_2) (Int.ofNat 0) = false) <| .cons (by kernel_rfl : ltI (Int.ofNat n_2) (Int.ofNat 0) = false) <| .cons (⟨H2, rfl⟩ : Nat.le (Nat.succ i) n ∧ AV.ptr b (0 + i * 3) = AV.ptr b (0 + i * 3)) <| .cons (by kernel_rfl : ltI (Int.ofNat n_2) (Int.ofNat 0) = false) <| .cons (by kernel_rfl : ltI (Int.ofNat n_2) (Int.ofNat 0) = false) <| .cons H6 <| .cons (by kernel_rfl : ltI (Int.ofNat n_2) (Int.ofNat 0) = false) <| .cons (by kernel_rfl : ltI (Int.ofNat n_2) (Int.ofNat 0) = false) <| .cons H7 <| .cons H7 <| .cons H7 <| .cons (⟨H2, rfl⟩ : Nat.le (Nat.succ i) n ∧ AV.ptr b (0 + i * 3) = AV.ptr b (0 + i * 3)) <| .cons H7 <| .cons H7 <| .cons H8 <| .cons H7 <| .cons H7 <| .cons H7 <| .cons H9 <| .cons H10 <| .cons H11 <| .cons (⟨H12, rfl⟩ : Nat.le (Nat.succ n_3) n ∧ AV.ptr b (0 + n_3 * 3) = AV.ptr b (0 + n_3 * 3)) <| .cons H13 <| .cons (⟨H2, rfl⟩ : Nat.le (Nat.succ i) n ∧ AV.ptr b (0 + i * 3) = AV.ptr b (0 + i * 3)) <| .cons H14 <| .cons (⟨by kernel_rfl, H15, rfl⟩ : some 3 = some 3 ∧ AEv.storeCells (AHeap.mk (HT.setN (AHeap.n h + 10 + 1) (HT.setN (AHeap.n h + 9 + 1) h.1 (AHeap.n h + 9) (some (AObj.cells [AV.str [], AV.int IntKind.i64 (Int.ofNat 0), AV.int IntKind.i64 (Int.ofNat 0)] 35 BK.own 0 0))) (AHeap.n h + 10) (some (AObj.cells [AV.str [], AV.int IntKind.i64 (Int.ofNat 0), AV.int IntKind.i64 (Int.ofNat 0)] 35 BK.own 0 0))) (AHeap.n (AHeap.mk (HT.setN (AHeap.n h + 9 + 1) h.1 (AHeap.n h + 9) (some (AObj.cells [AV.str [], AV.int IntKind.i64 (Int.ofNat 0), AV.int IntKind.i64 (Int.ofNat 0)] 35 BK.own 0 0))) (AHeap.n (AHeap.room h 13))))) (AHeap.n h + 9) 0 [AV.str t_2, AV.int IntKind.i64 (Int.ofNat n_4), AV.int IntKind.i64 (Int.ofNat n_5)] = some g_1 ∧ AV.tup [] = AV.tup []) <| .cons (⟨by kernel_rfl, H16, rfl⟩ : some 3 = some 3 ∧ AEv.storeCells g_1 (AHeap.n h + 10) 0 [AV.str t_3, AV.int IntKind.i64 (Int.ofNat n_6), AV.int IntKind.i64 (Int.ofNat n_7)] = some g_2 ∧ AV.tup [] = AV.tup []) <| .cons (by kernel_rfl : AV.sound (AV.slice b 0 n c) = true) <| .cons (by kernel_rfl : AV.slice b 0 n c = AV.slice b 0 n c) <| .cons (by kernel_rfl : AV.sound (AV.int IntKind.i64 (Int.ofNat i)) = true) <| .cons (by kernel_rfl : AV.int IntKind.i64 (Int.ofNat i) = AV.int IntKind.i64 (Int.ofNat i)) <| .cons (by kernel_rfl : AV.sound (AV.int IntKind.i64 (Int.ofNat n_3)) = true) <| .cons H11 <| .cons (by kernel_rfl : AV.sound (AV.ptr b (0 + n_3 * 3)) = true) <| .cons (⟨H12, rfl⟩ : Nat.le (Nat.succ n_3) n ∧ AV.ptr b (0 + n_3 * 3) = AV.ptr b (0 + n_3 * 3)) <| .cons (by kernel_rfl : AV.sound (AV.agg [AV.str t_2, AV.int IntKind.i64 (Int.ofNat n_4), AV.int IntKind.i64 (Int.ofNat n_5)]) = true) <| .cons H17 <| .cons (by kernel_rfl : AV.sound (AV.slice b 0 n c) = true) <| .cons (by kernel_rfl : AV.slice b 0 n c = AV.slice b 0 n c) <| .cons (by kernel_rfl : AV.sound (AV.slice b 0 n c) = true) <| .cons (by kernel_rfl : AV.slice b 0 n c = AV.slice b 0 n c) <| .cons (by kernel_rfl : AV.sound (AV.int IntKind.i64 (Int.ofNat i)) = true) <| .cons (by kernel_rfl : AV.int IntKind.i64 (Int.ofNat i) = AV.int IntKind.i64 (Int.ofNat i)) <| .cons (by kernel_rfl : AV.sound (AV.int IntKind.i64 (Int.ofNat i)) = true) <| .cons (by kernel_rfl : AV.int IntKind.i64 (Int.ofNat i) = AV.int IntKind.i64 (Int.ofNat i)) <| .cons (by kernel_rfl : AV.sound (AV.ptr b (0 + i * 3)) = true) <| .cons (⟨H2, rfl⟩ : Nat.le (Nat.succ i) n ∧ AV.ptr b (0 + i * 3) = AV.ptr b (0 + i * 3)) <| .cons (by kernel_rfl : AV.sound (AV.ptr b (0 + i * 3)) = true) <| .cons (⟨H2, rfl⟩ : Nat.le (Nat.succ i) n ∧ AV.ptr b (0 + i * 3) = AV.ptr b (0 + i * 3)) <| .cons (by kernel_rfl : AV.sound (AV.agg [AV.str t_3, AV.int IntKind.i64 (Int.ofNat n_6), AV.int IntKind.i64 (Int.ofNat n_7)]) = true) <| .cons H18 <| .cons (by kernel_rfl : AV.sound (AV.agg [AV.str t_3, AV.int IntKind.i64 (Int.ofNat n_6), AV.int IntKind.i64 (Int.ofNat n_7)]) = true) <| .cons H19 <| .cons H20 <| .cons H21 <| .cons H22 <| .cons H22 <| .cons H20 <| .cons H22 <| .cons H22 <| .cons H21 <| .cons H22 <| .cons H22 <| .cons H23 <| .cons H23 <| .cons H24 <| .cons H23 <| .cons H23 <| .cons H25 <| .cons H23 <| .cons H23 <| .cons H26 <| .cons H26 <| .cons H24 <| .cons H26 <| .cons H26 <| .cons H25 <| .cons H26 <| .cons H26 <| .cons H27 <| .cons H27 <| .cons H28 <| .cons H27 <| .cons H27 <| .cons H29 <| .cons H27 <| .cons H26 <| .cons H27 <| .cons H23 <| .cons H26 <| .cons H22 <| .cons H23 <| .cons H22 <| .cons H30 <| .cons (⟨H2, rfl⟩ : Nat.le (Nat.succ i) n ∧ AV.ptr b (0 + i * 3) = AV.ptr b (0 + i * 3)) <| .cons H31 <| .cons H32 <| .cons H33 <| .cons H34 <| .nil
theorem o1_10 (call : CallT → List AV → AHeap → FRes) (v : AV) (u : Nat) (b : Nat) (n : Nat) (i : Nat) (c : Cap) (h : AHeap) (g : AHeap) (n_1 : Nat) (n_2 : Nat) (t_1 : List UInt8) (n_3 : Nat) (t_2 : List UInt8) (n_4 : Nat) (n_5 : Nat) (t_3 : List UInt8) (n_6 : Nat) (n_7 : Nat) (g_1 : AHeap) (g_2 : AHeap) (t_4 : List UInt8) (t_5 : List UInt8) (n_8 : Nat) (n_9 : Nat) (t_6 : List UInt8) (n_10 : Nat) (n_11 : Nat) (b_1 : Bool) (g_3 : AHeap) 
    (H1 : ltI (Int.ofNat i) (Int.ofNat n) = true)
    (H2 : Nat.le (Nat.succ i) n)
    (H3 : load1 h b (0 + i * 3 + 2) = some (AV.int IntKind.i64 (Int.ofNat n_1)))
    (H4 : ltI (Int.ofNat n_1) (Int.ofNat 1) = false)
    (H5 : ltI (Int.ofNat 13) (Int.ofNat n_1) = false)
    (H6 : load1 h b (0 + i * 3 + 1) = some (AV.int IntKind.i64 (Int.ofNat n_2)))
    (H7 : leI (Int.ofNat 2147483648) (Int.ofNat n_2) = false)
    (H8 : load1 h b (0 + i * 3 + 0) = some (AV.str t_1))
    (H9 : ltI (Int.ofNat 200) (Int.ofNat (List.length t_1)) = false)
    (H10 : ltI (Int.ofNat 0) (Int.ofNat i) = true)
    (H11 : arith BinOp.sub IntKind.i64 (Int.ofNat i) (Int.ofNat 1) = some (AV.int IntKind.i64 (Int.ofNat n_3)))
    (H12 : Nat.le (Nat.succ n_3) n)
    (H13 : AEv.loadCells (AHeap.room h 13) b (0 + n_3 * 3) 3 = some [AV.str t_2, AV.int IntKind.i64 (Int.ofNat n_4), AV.int IntKind.i64 (Int.ofNat n_5)])
    (H14 : AEv.loadCells (AHeap.room h 13) b (0 + i * 3) 3 = some [AV.str t_3, AV.int IntKind.i64 (Int.ofNat n_6), AV.int IntKind.i64 (Int.ofNat n_7)])
    (H15 : AEv.storeCells (AHeap.mk (HT.setN (AHeap.n h + 10 + 1) (HT.setN (AHeap.n h + 9 + 1) h.1 (AHeap.n h + 9) (some (AObj.cells [AV.str [], AV.int IntKind.i64 (Int.ofNat 0), AV.int IntKind.i64 (Int.ofNat 0)] 35 BK.own 0 0))) (AHeap.n h + 10) (some (AObj.cells [AV.str [], AV.int IntKind.i64 (Int.ofNat 0), AV.int IntKind.i64 (Int.ofNat 0)] 35 BK.own 0 0))) (AHeap.n (AHeap.mk (HT.setN (AHeap.n h + 9 + 1) h.1 (AHeap.n h + 9) (some (AObj.cells [AV.str [], AV.int IntKind.i64 (Int.ofNat 0), AV.int IntKind.i64 (Int.ofNat 0)] 35 BK.own 0 0))) (AHeap.n (AHeap.room h 13))))) (AHeap.n h + 9) 0 [AV.str t_2, AV.int IntKind.i64 (Int.ofNat n_4), AV.int IntKind.i64 (Int.ofNat n_5)] = some g_1)
    (H16 : AEv.storeCells g_1 (AHeap.n h + 10) 0 [AV.str t_3, AV.int IntKind.i64 (Int.ofNat n_6), AV.int IntKind.i64 (Int.ofNat n_7)] = some g_2)
    (H17 : AEv.loadCells (AHeap.mk (HT.setN (AHeap.n h + 10 + 1) (HT.setN (AHeap.n h + 9 + 1) h.1 (AHeap.n h + 9) (some (AObj.cells [AV.str [], AV.int IntKind.i64 (Int.ofNat 0), AV.int IntKind.i64 (Int.ofNat 0)] 35 BK.own 0 0))) (AHeap.n h + 10) (some (AObj.cells [AV.str [], AV.int IntKind.i64 (Int.ofNat 0), AV.int IntKind.i64 (Int.ofNat 0)] 35 BK.own 0 0))) (AHeap.n (AHeap.mk (HT.setN (AHeap.n h + 9 + 1) h.1 (AHeap.n h + 9) (some (AObj.cells [AV.str [], AV.int IntKind.i64 (Int.ofNat 0), AV.int IntKind.i64 (Int.ofNat 0)] 35 BK.own 0 0))) (AHeap.n (AHeap.room h 13))))) b (0 + n_3 * 3) 3 = some [AV.str t_2, AV.int IntKind.i64 (Int.ofNat n_4), AV.int IntKind.i64 (Int.ofNat n_5)])
    (H18 : AEv.loadCells g_1 b (0 + i * 3) 3 = some [AV.str t_3, AV.int IntKind.i64 (Int.ofNat n_6), AV.int IntKind.i64 (Int.ofNat n_7)])
    (H19 : AEv.loadCells (AHeap.mk (HT.setN (AHeap.n h + 10 + 1) (HT.setN (AHeap.n h + 9 + 1) h.1 (AHeap.n h + 9) (some (AObj.cells [AV.str [], AV.int IntKind.i64 (Int.ofNat 0), AV.int IntKind.i64 (Int.ofNat 0)] 35 BK.own 0 0))) (AHeap.n h + 10) (some (AObj.cells [AV.str [], AV.int IntKind.i64 (Int.ofNat 0), AV.int IntKind.i64 (Int.ofNat 0)] 35 BK.own 0 0))) (AHeap.n (AHeap.mk (HT.setN (AHeap.n h + 9 + 1) h.1 (AHeap.n h + 9) (some (AObj.cells [AV.str [], AV.int IntKind.i64 (Int.ofNat 0), AV.int IntKind.i64 (Int.ofNat 0)] 35 BK.own 0 0))) (AHeap.n (AHeap.room h 13))))) b (0 + i * 3) 3 = some [AV.str t_3, AV.int IntKind.i64 (Int.ofNat n_6), AV.int IntKind.i64 (Int.ofNat n_7)])
    (H20 : load1 g_2 (AHeap.n h + 9) (0 + 0) = some (AV.str t_4))
    (H21 : load1 g_2 (AHeap.n h + 10) (0 + 0) = some (AV.str t_5))
    (H22 : ltBytes t_5 t_4 = false)
    (H23 : beqBytes t_4 t_5 = true)
    (H24 : load1 g_2 (AHeap.n h + 9) (0 + 1) = some (AV.int IntKind.i64 (Int.ofNat n_8)))
    (H25 : load1 g_2 (AHeap.n h + 10) (0 + 1) = some (AV.int IntKind.i64 (Int.ofNat n_9)))
    (H26 : ltI (Int.ofNat n_9) (Int.ofNat n_8) = false)
    (H27 : eqI (Int.ofNat n_8) (Int.ofNat n_9) = false)
    (H28 : AEv.loadCells g_2 b (0 + i * 3) 3 = some [AV.str t_6, AV.int IntKind.i64 (Int.ofNat n_10), AV.int IntKind.i64 (Int.ofNat n_11)])
    (H29 : call (CallT.fn 25) [v, AV.agg [AV.str t_6, AV.int IntKind.i64 (Int.ofNat n_10), AV.int IntKind.i64 (Int.ofNat n_11)]] g_2 = FRes.ret (AV.bool b_1) g_3)
    (H30 : (!b_1) = true) :
    RunF Try.prog Try.f6 none call [1, 1, 1, 1, 0, 1, 0, 0] (SSt.mk [(0, v), (1, AV.int IntKind.u8 (Int.ofNat u)), (5, AV.slice b 0 n c), (6, AV.int IntKind.i64 (Int.ofNat i))] [] Rc.none h) (AEx.ret)
      (SSt.mk [(0, v), (1, AV.int IntKind.u8 (Int.ofNat u)), (5, AV.slice b 0 n c), (6, AV.int IntKind.i64 (Int.ofNat i))] [] Rc.none g_3) :=
  sxF_run [0, 1, 5, 6] (hs := [Hint.b true, Hint.v (AV.ptr b (0 + i * 3)), Hint.v (AV.int IntKind.i64 (Int.ofNat n_1)), Hint.b false, Hint.b false, Hint.b false, Hint.v (AV.ptr b (0 + i * 3)), Hint.b false, Hint.b false, Hint.v (AV.int IntKind.i64 (Int.ofNat n_1)), Hint.b false, Hint.b false, Hint.b false, Hint.b false, Hint.b false, Hint.v (AV.ptr b (0 + i * 3)), Hint.b false, Hint.b false, Hint.v (AV.int IntKind.i64 (Int.ofNat n_2)), Hint.b false, Hint.b false, Hint.b false, Hint.b false, Hint.b false, Hint.v (AV.ptr b (0 + i * 3)), Hint.b false, Hint.b false, Hint.v (AV.int IntKind.i64 (Int.ofNat n_2)), Hint.b false, Hint.b false, Hint.b false, Hint.b false, Hint.b false, Hint.v (AV.ptr b (0 + i * 3)), Hint.b false, Hint.b false, Hint.v (AV.str t_1), Hint.b false, Hint.b false, Hint.b false, Hint.b false, Hint.b true, Hint.v (AV.int IntKind.i64 (Int.ofNat n_3)), Hint.v (AV.ptr b (0 + n_3 * 3)), Hint.v (AV.agg [AV.str t_2, AV.int IntKind.i64 (Int.ofNat n_4), AV.int IntKind.i64 (Int.ofNat n_5)]), Hint.v (AV.ptr b (0 + i * 3)), Hint.v (AV.agg [AV.str t_3, AV.int IntKind.i64 (Int.ofNat n_6), AV.int IntKind.i64 (Int.ofNat n_7)]), Hint.vh (AV.tup []) g_1, Hint.vh (AV.tup []) g_2, Hint.v (AV.str t_4), Hint.v (AV.str t_5), Hint.b false, Hint.b false, Hint.v (AV.str t_4), Hint.b false, Hint.b false, Hint.v (AV.str t_5), Hint.b false, Hint.b false, Hint.b true, Hint.b true, Hint.v (AV.int IntKind.i64 (Int.ofNat n_8)), Hint.b true, Hint.b true, Hint.v (AV.int IntKind.i64 (Int.ofNat n_9)), Hint.b true, Hint.b true, Hint.b false, Hint.b false, Hint.v (AV.int IntKind.i64 (Int.ofNat n_8)), Hint.b false, Hint.b false, Hint.v (AV.int IntKind.i64 (Int.ofNat n_9)), Hint.b false, Hint.b false, Hint.b false, Hint.b false, Hint.b false, Hint.b false, Hint.b false, Hint.b false, Hint.b false, Hint.b true, Hint.b false, Hint.b false, Hint.b true, Hint.b false, Hint.b false, Hint.v (AV.ptr b (0 + i * 3)), Hint.v (AV.agg [AV.str t_6, AV.int IntKind.i64 (Int.ofNat n_10), AV.int IntKind.i64 (Int.ofNat n_11)]), Hint.c (AV.bool b_1) g_3, Hint.b true]) (by kernel_rfl) <| .cons H1 <| .cons (⟨H2, rfl⟩ : Nat.le (Nat.succ i) n ∧ AV.ptr b (0 + i * 3) = AV.ptr b (0 + i * 3)) <| .cons H3 <| .cons H4 <| .cons H4 <| .cons H4 <| .cons (⟨H2, rfl⟩ : Nat.le (Nat.succ i) n ∧ AV.ptr b (0 + i * 3) = AV.ptr b (0 + i * 3)) <| .cons H4 <| .cons H4 <| .cons H3 <| .cons H4 <| .cons H4 <| .cons H5 <| .cons H5 <| .cons H5 <| .cons (⟨H2, rfl⟩ : Nat.le (Nat.succ i) n ∧ AV.ptr b (0 + i * 3) = AV.ptr b (0 + i * 3)) <| .cons H5 <| .cons H5 <| .cons H6 <| .cons H5 <| .cons H5 <| .cons (by kernel_rfl : ltI (Int.ofNat n_2) (Int.ofNat 0) = false) <| .cons (by kernel_rfl : ltI (Int.ofNat n_2) (Int.ofNat 0) = false) <| .cons (by kernel_rfl : ltI (Int.ofNat n_2) (Int.ofNat 0) = false) <| .cons (⟨H2, rfl⟩ : Nat.le (Nat.succ i) n ∧ AV.ptr b (0 + i * 3) = AV.ptr b (0 + i * 3)) <| .cons (by kernel_rfl : ltI (Int.ofNat n_2) (Int.ofNat 0) = false) <| .cons (by kernel_rfl : ltI (Int.ofNat n_2) (Int.ofNat 0) = false) <| .cons H6 <| .cons (by kernel_rfl : ltI (Int.ofNat n_2) (Int.ofNat 0) = false) <| .cons (by kernel_rfl : ltI (Int.ofNat n_2) (Int.ofNat 0) = false) <| .cons H7 <| .cons H7 <| .cons H7 <| .cons (⟨H2, rfl⟩ : Nat.le (Nat.succ i) n ∧ AV.ptr b (0 + i * 3) = AV.ptr b (0 + i * 3)) <| .cons H7 <| .cons H7 <| .cons H8 <| .cons H7 <| .cons H7 <| .cons H7 <| .cons H9 <| .cons H10 <| .cons H11 <| .cons (⟨H12, rfl⟩ : Nat.le (Nat.succ n_3) n ∧ AV.ptr b (0 + n_3 * 3) = AV.ptr b (0 + n_3 * 3)) <| .cons H13 <| .cons (⟨H2, rfl⟩ : Nat.le (Nat.succ i) n ∧ AV.ptr b (0 + i * 3) = AV.ptr b (0 + i * 3)) <| .cons H14 <| .cons (⟨by kernel_rfl, H15, rfl⟩ : some 3 = some 3 ∧ AEv.storeCells (AHeap.mk (HT.setN (AHeap.n h + 10 + 1) (HT.setN (AHeap.n h + 9 + 1) h.1 (AHeap.n h + 9) (some (AObj.cells [AV.str [], AV.int IntKind.i64 (Int.ofNat 0), AV.int IntKind.i64 (Int.ofNat 0)] 35 BK.own 0 0))) (AHeap.n h + 10) (some (AObj.cells [AV.str [], AV.int IntKind.i64 (Int.ofNat 0), AV.int IntKind.i64 (Int.ofNat 0)] 35 BK.own 0 0))) (AHeap.n (AHeap.mk (HT.setN (AHeap.n h + 9 + 1) h.1 (AHeap.n h + 9) (some (AObj.cells [AV.str [], AV.int IntKind.i64 (Int.ofNat 0), AV.int IntKind.i64 (Int.ofNat 0)] 35 BK.own 0 0))) (AHeap.n (AHeap.room h 13))))) (AHeap.n h + 9) 0 [AV.str t_2, AV.int IntKind.i64 (Int.ofNat n_4), AV.int IntKind.i64 (Int.ofNat n_5)] = some g_1 ∧ AV.tup [] = AV.tup []) <| .cons (⟨by kernel_rfl, H16, rfl⟩ : some 3 = some 3 ∧ AEv.storeCells g_1 (AHeap.n h + 10) 0 [AV.str t_3, AV.int IntKind.i64 (Int.ofNat n_6), AV.int IntKind.i64 (Int.ofNat n_7)] = some g_2 ∧ AV.tup [] = AV.tup []) <| .cons (by kernel_rfl : AV.sound (AV.slice b 0 n c) = true) <| .cons (by kernel_rfl : AV.slice b 0 n c = AV.slice b 0 n c) <| .cons (by kernel_rfl : AV.sound (AV.int IntKind.i64 (Int.ofNat i)) = true) <| .cons (by kernel_rfl : AV.int IntKind.i64 (Int.ofNat i) = AV.int IntKind.i64 (Int.ofNat i)) <| .cons (by kernel_rfl : AV.sound (AV.int IntKind.i64 (Int.ofNat n_3)) = true) <| .cons H11 <| .cons (by kernel_rfl : AV.sound (AV.ptr b (0 + n_3 * 3)) = true) <| .cons (⟨H12, rfl⟩ : Nat.le (Nat.succ n_3) n ∧ AV.ptr b (0 + n_3 * 3) = AV.ptr b (0 + n_3 * 3)) <| .cons (by kernel_rfl : AV.sound (AV.agg [AV.str t_2, AV.int IntKind.i64 (Int.ofNat n_4), AV.int IntKind.i64 (Int.ofNat n_5)]) = true) <| .cons H17 <| .cons (by kernel_rfl : AV.sound (AV.slice b 0 n c) = true) <| .cons (by kernel_rfl : AV.slice b 0 n c = AV.slice b 0 n c) <| .cons (by kernel_rfl : AV.sound (AV.slice b 0 n c) = true) <| .cons (by kernel_rfl : AV.slice b 0 n c = AV.slice b 0 n c) <| .cons (by kernel_rfl : AV.sound (AV.int IntKind.i64 (Int.ofNat i)) = true) <| .cons (by kernel_rfl : AV.int IntKind.i64 (Int.ofNat i) = AV.int IntKind.i64 (Int.ofNat i)) <| .cons (by kernel_rfl : AV.sound (AV.int IntKind.i64 (Int.ofNat i)) = true) <| .cons (by kernel_rfl : AV.int IntKind.i64 (Int.ofNat i) = AV.int IntKind.i64 (Int.ofNat i)) <| .cons (by kernel_rfl : AV.sound (AV.ptr b (0 + i * 3)) = true) <| .cons (⟨H2, rfl⟩ : Nat.le (Nat.succ i) n ∧ AV.ptr b (0 + i * 3) = AV.ptr b (0 + i * 3)) <| .cons (by kernel_rfl : AV.sound (AV.ptr b (0 + i * 3)) = true) <| .cons (⟨H2, rfl⟩ : Nat.le (Nat.succ i) n ∧ AV.ptr b (0 + i * 3) = AV.ptr b (0 + i * 3)) <| .cons (by kernel_rfl : AV.sound (AV.agg [AV.str t_3, AV.int IntKind.i64 (Int.ofNat n_6), AV.int IntKind.i64 (Int.ofNat n_7)]) = true) <| .cons H18 <| .cons (by kernel_rfl : AV.sound (AV.agg [AV.str t_3, AV.int IntKind.i64 (Int.ofNat n_6), AV.int IntKind.i64 (Int.ofNat n_7)]) = true) <| .cons H19 <| .cons H20 <| .cons H21 <| .cons H22 <| .cons H22 <| .cons H20 <| .cons H22 <| .cons H22 <| .cons H21 <| .cons H22 <| .cons H22 <| .cons H23 <| .cons H23 <| .cons H24 <| .cons H23 <| .cons H23 <| .cons H25 <| .cons H23 <| .cons H23 <| .cons H26 <| .cons H26 <| .cons H24 <| .cons H26 <| .cons H26 <| .cons H25 <| .cons H26 <| .cons H26 <| .cons H27 <| .cons H27 <| .cons H27 <| .cons H27 <| .cons H27 <| .cons H26 <| .cons H27 <| .cons H23 <| .cons H26 <| .cons H22 <| .cons H23 <| .cons H22 <| .cons (by kernel_rfl : false = false) <| .cons (⟨H2, rfl⟩ : Nat.le (Nat.succ i) n ∧ AV.ptr b (0 + i * 3) = AV.ptr b (0 + i * 3)) <| .cons H28 <| .cons H29 <| .cons H30 <| .nil
theorem o1_11 (call : CallT → List AV → AHeap → FRes) (v : AV) (u : Nat) (b : Nat) (n : Nat) (i : Nat) (c : Cap) (h : AHeap) (g : AHeap) (n_1 : Nat) (n_2 : Nat) (t_1 : List UInt8) (n_3 : Nat) (t_2 : List UInt8) (n_4 : Nat) (n_5 : Nat) (t_3 : List UInt8) (n_6 : Nat) (n_7 : Nat) (g_1 : AHeap) (g_2 : AHeap) (t_4 : List UInt8) (t_5 : List UInt8) (n_8 : Nat) (n_9 : Nat) (t_6 : List UInt8) (n_10 : Nat) (n_11 : Nat) (b_1 : Bool) (g_3 : AHeap) (n_12 : Nat) 
    (H1 : ltI (Int.ofNat i) (Int.ofNat n) = true)
    (H2 : Nat.le (Nat.succ i) n)
    (H3 : load1 h b (0 + i * 3 + 2) = some (AV.int IntKind.i64 (Int.ofNat n_1)))
    (H4 : ltI (Int.ofNat n_1) (Int.ofNat 1) = false)
    (H5 : ltI (Int.ofNat 13) (Int.ofNat n_1) = false)
    (H6 : load1 h b (0 + i * 3 + 1) = some (AV.int IntKind.i64 (Int.ofNat n_2)))
    (H7 : leI (Int.ofNat 2147483648) (Int.ofNat n_2) = false)
    (H8 : load1 h b (0 + i * 3 + 0) = some (AV.str t_1))
    (H9 : ltI (Int.ofNat 200) (Int.ofNat (List.length t_1)) = false)
    (H10 : ltI (Int.ofNat 0) (Int.ofNat i) = true)
    (H11 : arith BinOp.sub IntKind.i64 (Int.ofNat i) (Int.ofNat 1) = some (AV.int IntKind.i64 (Int.ofNat n_3)))
    (H12 : Nat.le (Nat.succ n_3) n)
    (H13 : AEv.loadCells (AHeap.room h 13) b (0 + n_3 * 3) 3 = some [AV.str t_2, AV.int IntKind.i64 (Int.ofNat n_4), AV.int IntKind.i64 (Int.ofNat n_5)])
    (H14 : AEv.loadCells (AHeap.room h 13) b (0 + i * 3) 3 = some [AV.str t_3, AV.int IntKind.i64 (Int.ofNat n_6), AV.int IntKind.i64 (Int.ofNat n_7)])
    (H15 : AEv.storeCells (AHeap.mk (HT.setN (AHeap.n h + 10 + 1) (HT.setN (AHeap.n h + 9 + 1) h.1 (AHeap.n h + 9) (some (AObj.cells [AV.str [], AV.int IntKind.i64 (Int.ofNat 0), AV.int IntKind.i64 (Int.ofNat 0)] 35 BK.own 0 0))) (AHeap.n h + 10) (some (AObj.cells [AV.str [], AV.int IntKind.i64 (Int.ofNat 0), AV.int IntKind.i64 (Int.ofNat 0)] 35 BK.own 0 0))) (AHeap.n (AHeap.mk (HT.setN (AHeap.n h + 9 + 1) h.1 (AHeap.n h + 9) (some (AObj.cells [AV.str [], AV.int IntKind.i64 (Int.ofNat 0), AV.int IntKind.i64 (Int.ofNat 0)] 35 BK.own 0 0))) (AHeap.n (AHeap.room h 13))))) (AHeap.n h + 9) 0 [AV.str t_2, AV.int IntKind.i64 (Int.ofNat n_4), AV.int IntKind.i64 (Int.ofNat n_5)] = some g_1)
    (H16 : AEv.storeCells g_1 (AHeap.n h + 10) 0 [AV.str t_3, AV.int IntKind.i64 (Int.ofNat n_6), AV.int IntKind.i64 (Int.ofNat n_7)] = some g_2)
    (H17 : AEv.loadCells (AHeap.mk (HT.setN (AHeap.n h + 10 + 1) (HT.setN (AHeap.n h + 9 + 1) h.1 (AHeap.n h + 9) (some (AObj.cells [AV.str [], AV.int IntKind.i64 (Int.ofNat 0), AV.int IntKind.i64 (Int.ofNat 0)] 35 BK.own 0 0))) (AHeap.n h + 10) (some (AObj.cells [AV.str [], AV.int IntKind.i64 (Int.ofNat 0), AV.int IntKind.i64 (Int.ofNat 0)] 35 BK.own 0 0))) (AHeap.n (AHeap.mk (HT.setN (AHeap.n h + 9 + 1) h.1 (AHeap.n h + 9) (some (AObj.cells [AV.str [], AV.int IntKind.i64 (Int.ofNat 0), AV.int IntKind.i64 (Int.ofNat 0)] 35 BK.own 0 0))) (AHeap.n (AHeap.room h 13))))) b (0 + n_3 * 3) 3 = some [AV.str t_2, AV.int IntKind.i64 (Int.ofNat n_4), AV.int IntKind.i64 (Int.ofNat n_5)])
    (H18 : AEv.loadCells g_1 b (0 + i * 3) 3 = some [AV.str t_3, AV.int IntKind.i64 (Int.ofNat n_6), AV.int IntKind.i64 (Int.ofNat n_7)])
    (H19 : AEv.loadCells (AHeap.mk (HT.setN (AHeap.n h + 10 + 1) (HT.setN (AHeap.n h + 9 + 1) h.1 (AHeap.n h + 9) (some (AObj.cells [AV.str [], AV.int IntKind.i64 (Int.ofNat 0), AV.int IntKind.i64 (Int.ofNat 0)] 35 BK.own 0 0))) (AHeap.n h + 10) (some (AObj.cells [AV.str [], AV.int IntKind.i64 (Int.ofNat 0), AV.int IntKind.i64 (Int.ofNat 0)] 35 BK.own 0 0))) (AHeap.n (AHeap.mk (HT.setN (AHeap.n h + 9 + 1) h.1 (AHeap.n h + 9) (some (AObj.cells [AV.str [], AV.int IntKind.i64 (Int.ofNat 0), AV.int IntKind.i64 (Int.ofNat 0)] 35 BK.own 0 0))) (AHeap.n (AHeap.room h 13))))) b (0 + i * 3) 3 = some [AV.str t_3, AV.int IntKind.i64 (Int.ofNat n_6), AV.int IntKind.i64 (Int.ofNat n_7)])
    (H20 : load1 g_2 (AHeap.n h + 9) (0 + 0) = some (AV.str t_4))
    (H21 : load1 g_2 (AHeap.n h + 10) (0 + 0) = some (AV.str t_5))
    (H22 : ltBytes t_5 t_4 = false)
    (H23 : beqBytes t_4 t_5 = true)
    (H24 : load1 g_2 (AHeap.n h + 9) (0 + 1) = some (AV.int IntKind.i64 (Int.ofNat n_8)))
    (H25 : load1 g_2 (AHeap.n h + 10) (0 + 1) = some (AV.int IntKind.i64 (Int.ofNat n_9)))
    (H26 : ltI (Int.ofNat n_9) (Int.ofNat n_8) = false)
    (H27 : eqI (Int.ofNat n_8) (Int.ofNat n_9) = false)
    (H28 : AEv.loadCells g_2 b (0 + i * 3) 3 = some [AV.str t_6, AV.int IntKind.i64 (Int.ofNat n_10), AV.int IntKind.i64 (Int.ofNat n_11)])
    (H29 : call (CallT.fn 25) [v, AV.agg [AV.str t_6, AV.int IntKind.i64 (Int.ofNat n_10), AV.int IntKind.i64 (Int.ofNat n_11)]] g_2 = FRes.ret (AV.bool b_1) g_3)
    (H30 : (!b_1) = false)
    (H31 : arith BinOp.add IntKind.i64 (Int.ofNat i) (Int.ofNat 1) = some (AV.int IntKind.i64 (Int.ofNat n_12))) :
    RunF Try.prog Try.f6 none call [1, 1, 1, 1, 0, 1, 0, 0] (SSt.mk [(0, v), (1, AV.int IntKind.u8 (Int.ofNat u)), (5, AV.slice b 0 n c), (6, AV.int IntKind.i64 (Int.ofNat i))] [] Rc.none h) (AEx.nrm)
      (SSt.mk [(0, v), (1, AV.int IntKind.u8 (Int.ofNat u)), (5, AV.slice b 0 n c), (6, AV.int IntKind.i64 (Int.ofNat n_12))] [] Rc.none g_3) :=
  sxF_run [0, 1, 5, 6] (hs := [Hint.b true, Hint.v (AV.ptr b (0 + i * 3)), Hint.v (AV.int IntKind.i64 (Int.ofNat n_1)), Hint.b false, Hint.b false, Hint.b false, Hint.v (AV.ptr b (0 + i * 3)), Hint.b false, Hint.b false, Hint.v (AV.int IntKind.i64 (Int.ofNat n_1)), Hint.b false, Hint.b false, Hint.b false, Hint.b false, Hint.b false, Hint.v (AV.ptr b (0 + i * 3)), Hint.b false, Hint.b false, Hint.v (AV.int IntKind.i64 (Int.ofNat n_2)), Hint.b false, Hint.b false, Hint.b false, Hint.b false, Hint.b false, Hint.v (AV.ptr b (0 + i * 3)), Hint.b false, Hint.b false, Hint.v (AV.int IntKind.i64 (Int.ofNat n_2)), Hint.b false, Hint.b false, Hint.b false, Hint.b false, Hint.b false, Hint.v (AV.ptr b (0 + i * 3)), Hint.b false, Hint.b false, Hint.v (AV.str t_1), Hint.b false, Hint.b false, Hint.b false, Hint.b false, Hint.b true, Hint.v (AV.int IntKind.i64 (Int.ofNat n_3)), Hint.v (AV.ptr b (0 + n_3 * 3)), Hint.v (AV.agg [AV.str t_2, AV.int IntKind.i64 (Int.ofNat n_4), AV.int IntKind.i64 (Int.ofNat n_5)]), Hint.v (AV.ptr b (0 + i * 3)), Hint.v (AV.agg [AV.str t_3, AV.int IntKind.i64 (Int.ofNat n_6), AV.int IntKind.i64 (Int.ofNat n_7)]), Hint.vh (AV.tup []) g_1, Hint.vh (AV.tup []) g_2, Hint.v (AV.str t_4), Hint.v (AV.str t_5), Hint.b false, Hint.b false, Hint.v (AV.str t_4), Hint.b false, Hint.b false, Hint.v (AV.str t_5), Hint.b false, Hint.b false, Hint.b true, Hint.b true, Hint.v (AV.int IntKind.i64 (Int.ofNat n_8)), Hint.b true, Hint.b true, Hint.v (AV.int IntKind.i64 (Int.ofNat n_9)), Hint.b true, Hint.b true, Hint.b false, Hint.b false, Hint.v (AV.int IntKind.i64 (Int.ofNat n_8)), Hint.b false, Hint.b false, Hint.v (AV.int IntKind.i64 (Int.ofNat n_9)), Hint.b false, Hint.b false, Hint.b false, Hint.b false, Hint.b false, Hint.b false, Hint.b false, Hint.b false, Hint.b false, Hint.b true, Hint.b false, Hint.b false, Hint.b true, Hint.b false, Hint.b false, Hint.v (AV.ptr b (0 + i * 3)), Hint.v (AV.agg [AV.str t_6, AV.int IntKind.i64 (Int.ofNat n_10), AV.int IntKind.i64 (Int.ofNat n_11)]), Hint.c (AV.bool b_1) g_3, Hint.b false, Hint.v (AV.int IntKind.i64 (Int.ofNat n_12))]) (by kernel_rfl) <| .cons H1 <| .cons (⟨H2, rfl⟩ : Nat.le (Nat.succ i) n ∧ AV.ptr b (0 + i * 3) = AV.ptr b (0 + i * 3)) <| .cons H3 <| .cons H4 <| .cons H4 <| .cons H4 <| .cons (⟨H2, rfl⟩ : Nat.le (Nat.succ i) n ∧ AV.ptr b (0 + i * 3) = AV.ptr b (0 + i * 3)) <| .cons H4 <| .cons H4 <| .cons H3 <| .cons H4 <| .cons H4 <| .cons H5 <| .cons H5 <| .cons H5 <| .cons (⟨H2, rfl⟩ : Nat.le (Nat.succ i) n ∧ AV.ptr b (0 + i * 3) = AV.ptr b (0 + i * 3)) <| .cons H5 <| .cons H5 <| .cons H6 <| .cons H5 <| .cons H5 <| .cons (by kernel_rfl : ltI (Int.ofNat n_2) (Int.ofNat 0) = false) <| .cons (by kernel_rfl : ltI (Int.ofNat n_2) (Int.ofNat 0) = false) <| .cons (by kernel_rfl : ltI (Int.ofNat n_2) (Int.ofNat 0) = false) <| .cons (⟨H2, rfl⟩ : Nat.le (Nat.succ i) n ∧ AV.ptr b (0 + i * 3) = AV.ptr b (0 + i * 3)) <| .cons (by kernel_rfl : ltI (Int.ofNat n_2) (Int.ofNat 0) = false) <| .cons (by kernel_rfl : ltI (Int.ofNat n_2) (Int.ofNat 0) = false) <| .cons H6 <| .cons (by kernel_rfl : ltI (Int.ofNat n_2) (Int.ofNat 0) = false) <| .cons (by kernel_rfl : ltI (Int.ofNat n_2) (Int.ofNat 0) = false) <| .cons H7 <| .cons H7 <| .cons H7 <| .cons (⟨H2, rfl⟩ : Nat.le (Nat.succ i) n ∧ AV.ptr b (0 + i * 3) = AV.ptr b (0 + i * 3)) <| .cons H7 <| .cons H7 <| .cons H8 <| .cons H7 <| .cons H7 <| .cons H7 <| .cons H9 <| .cons H10 <| .cons H11 <| .cons (⟨H12, rfl⟩ : Nat.le (Nat.succ n_3) n ∧ AV.ptr b (0 + n_3 * 3) = AV.ptr b (0 + n_3 * 3)) <| .cons H13 <| .cons (⟨H2, rfl⟩ : Nat.le (Nat.succ i) n ∧ AV.ptr b (0 + i * 3) = AV.ptr b (0 + i * 3)) <| .cons H14 <| .cons (⟨by kernel_rfl, H15, rfl⟩ : some 3 = some 3 ∧ AEv.storeCells (AHeap.mk (HT.setN (AHeap.n h + 10 + 1) (HT.setN (AHeap.n h + 9 + 1) h.1 (AHeap.n h + 9) (some (AObj.cells [AV.str [], AV.int IntKind.i64 (Int.ofNat 0), AV.int IntKind.i64 (Int.ofNat 0)] 35 BK.own 0 0))) (AHeap.n h + 10) (some (AObj.cells [AV.str [], AV.int IntKind.i64 (Int.ofNat 0), AV.int IntKind.i64 (Int.ofNat 0)] 35 BK.own 0 0))) (AHeap.n (AHeap.mk (HT.setN (AHeap.n h + 9 + 1) h.1 (AHeap.n h + 9) (some (AObj.cells [AV.str [], AV.int IntKind.i64 (Int.ofNat 0), AV.int IntKind.i64 (Int.ofNat 0)] 35 BK.own 0 0))) (AHeap.n (AHeap.room h 13))))) (AHeap.n h + 9) 0 [AV.str t_2, AV.int IntKind.i64 (Int.ofNat n_4), AV.int IntKind.i64 (Int.ofNat n_5)] = some g_1 ∧ AV.tup [] = AV.tup []) <| .cons (⟨by kernel_rfl, H16, rfl⟩ : some 3 = some 3 ∧ AEv.storeCells g_1 (AHeap.n h + 10) 0 [AV.str t_3, AV.int IntKind.i64 (Int.ofNat n_6), AV.int IntKind.i64 (Int.ofNat n_7)] = some g_2 ∧ AV.tup [] = AV.tup []) <| .cons (by kernel_rfl : AV.sound (AV.slice b 0 n c) = true) <| .cons (by kernel_rfl : AV.slice b 0 n c = AV.slice b 0 n c) <| .cons (by kernel_rfl : AV.sound (AV.int IntKind.i64 (Int.ofNat i)) = true) <| .cons (by kernel_rfl : AV.int IntKind.i64 (Int.ofNat i) = AV.int IntKind.i64 (Int.ofNat i)) <| .cons (by kernel_rfl : AV.sound (AV.int IntKind.i64 (Int.ofNat n_3)) = true) <| .cons H11 <| .cons (by kernel_rfl : AV.sound (AV.ptr b (0 + n_3 * 3)) = true) <| .cons (⟨H12, rfl⟩ : Nat.le (Nat.succ n_3) n ∧ AV.ptr b (0 + n_3 * 3) = AV.ptr b (0 + n_3 * 3)) <| .cons (by kernel_rfl : AV.sound (AV.agg [AV.str t_2, AV.int IntKind.i64 (Int.ofNat n_4), AV.int IntKind.i64 (Int.ofNat n_5)]) = true) <| .cons H17 <| .cons (by kernel_rfl : AV.sound (AV.slice b 0 n c) = true) <| .cons (by kernel_rfl : AV.slice b 0 n c = AV.slice b 0 n c) <| .cons (by kernel_rfl : AV.sound (AV.slice b 0 n c) = true) <| .cons (by kernel_rfl : AV.slice b 0 n c = AV.slice b 0 n c) <| .cons (by kernel_rfl : AV.sound (AV.int IntKind.i64 (Int.ofNat i)) = true) <| .cons (by kernel_rfl : AV.int IntKind.i64 (Int.ofNat i) = AV.int IntKind.i64 (Int.ofNat i)) <| .cons (by kernel_rfl : AV.sound (AV.int IntKind.i64 (Int.ofNat i)) = true) <| .cons (by kernel_rfl : AV.int IntKind.i64 (Int.ofNat i) = AV.int IntKind.i64 (Int.ofNat i)) <| .cons (by kernel_rfl : AV.sound (AV.ptr b (0 + i * 3)) = true) <| .cons (⟨H2, rfl⟩ : Nat.le (Nat.succ i) n ∧ AV.ptr b (0 + i * 3) = AV.ptr b (0 + i * 3)) <| .cons (by kernel_rfl : AV.sound (AV.ptr b (0 + i * 3)) = true) <| .cons (⟨H2, rfl⟩ : Nat.le (Nat.succ i) n ∧ AV.ptr b (0 + i * 3) = AV.ptr b (0 + i * 3)) <| .cons (by kernel_rfl : AV.sound (AV.agg [AV.str t_3, AV.int IntKind.i64 (Int.ofNat n_6), AV.int IntKind.i64 (Int.ofNat n_7)]) = true) <| .cons H18 <| .cons (by kernel_rfl : AV.sound (AV.agg [AV.str t_3, AV.int IntKind.i64 (Int.ofNat n_6), AV.int IntKind.i64 (Int.ofNat n_7)]) = true) <| .cons H19 <| .cons H20 <| .cons H21 <| .cons H22 <| .cons H22 <| .cons H20 <| .cons H22 <| .cons H22 <| .cons H21 <| .cons H22 <| .cons H22 <| .cons H23 <| .cons H23 <| .cons H24 <| .cons H23 <| .cons H23 <| .cons H25 <| .cons H23 <| .cons H23 <| .cons H26 <| .cons H26 <| .cons H24 <| .cons H26 <| .cons H26 <| .cons H25 <| .cons H26 <| .cons H26 <| .cons H27 <| .cons H27 <| .cons H27 <| .cons H27 <| .cons H27 <| .cons H26 <| .cons H27 <| .cons H23 <| .cons H26 <| .cons H22 <| .cons H23 <| .cons H22 <| .cons (by kernel_rfl : false = false) <| .cons (⟨H2, rfl⟩ : Nat.le (Nat.succ i) n ∧ AV.ptr b (0 + i * 3) = AV.ptr b (0 + i * 3)) <| .cons H28 <| .cons H29 <| .cons H30 <| .cons H31 <| .nil
theorem o1_12 (call : CallT → List AV → AHeap → FRes) (v : AV) (u : Nat) (b : Nat) (n : Nat) (i : Nat) (c : Cap) (h : AHeap) (g : AHeap) (n_1 : Nat) (n_2 : Nat) (t_1 : List UInt8) (n_3 : Nat) (t_2 : List UInt8) (n_4 : Nat) (n_5 : Nat) (t_3 : List UInt8) (n_6 : Nat) (n_7 : Nat) (g_1 : AHeap) (g_2 : AHeap) (t_4 : List UInt8) (t_5 : List UInt8) (t_6 : List UInt8) (n_8 : Nat) (n_9 : Nat) (b_1 : Bool) (g_3 : AHeap) 
    (H1 : ltI (Int.ofNat i) (Int.ofNat n) = true)
    (H2 : Nat.le (Nat.succ i) n)
    (H3 : load1 h b (0 + i * 3 + 2) = some (AV.int IntKind.i64 (Int.ofNat n_1)))
    (H4 : ltI (Int.ofNat n_1) (Int.ofNat 1) = false)
    (H5 : ltI (Int.ofNat 13) (Int.ofNat n_1) = false)
    (H6 : load1 h b (0 + i * 3 + 1) = some (AV.int IntKind.i64 (Int.ofNat n_2)))
    (H7 : leI (Int.ofNat 2147483648) (Int.ofNat n_2) = false)
    (H8 : load1 h b (0 + i * 3 + 0) = some (AV.str t_1))
    (H9 : ltI (Int.ofNat 200) (Int.ofNat (List.length t_1)) = false)
    (H10 : ltI (Int.ofNat 0) (Int.ofNat i) = true)
    (H11 : arith BinOp.sub IntKind.i64 (Int.ofNat i) (Int.ofNat 1) = some (AV.int IntKind.i64 (Int.ofNat n_3)))
    (H12 : Nat.le (Nat.succ n_3) n)
    (H13 : AEv.loadCells (AHeap.room h 13) b (0 + n_3 * 3) 3 = some [AV.str t_2, AV.int IntKind.i64 (Int.ofNat n_4), AV.int IntKind.i64 (Int.ofNat n_5)])
    (H14 : AEv.loadCells (AHeap.room h 13) b (0 + i * 3) 3 = some [AV.str t_3, AV.int IntKind.i64 (Int.ofNat n_6), AV.int IntKind.i64 (Int.ofNat n_7)])
    (H15 : AEv.storeCells (AHeap.mk (HT.setN (AHeap.n h + 10 + 1) (HT.setN (AHeap.n h + 9 + 1) h.1 (AHeap.n h + 9) (some (AObj.cells [AV.str [], AV.int IntKind.i64 (Int.ofNat 0), AV.int IntKind.i64 (Int.ofNat 0)] 35 BK.own 0 0))) (AHeap.n h + 10) (some (AObj.cells [AV.str [], AV.int IntKind.i64 (Int.ofNat 0), AV.int IntKind.i64 (Int.ofNat 0)] 35 BK.own 0 0))) (AHeap.n (AHeap.mk (HT.setN (AHeap.n h + 9 + 1) h.1 (AHeap.n h + 9) (some (AObj.cells [AV.str [], AV.int IntKind.i64 (Int.ofNat 0), AV.int IntKind.i64 (Int.ofNat 0)] 35 BK.own 0 0))) (AHeap.n (AHeap.room h 13))))) (AHeap.n h + 9) 0 [AV.str t_2, AV.int IntKind.i64 (Int.ofNat n_4), AV.int IntKind.i64 (Int.ofNat n_5)] = some g_1)
    (H16 : AEv.storeCells g_1 (AHeap.n h + 10) 0 [AV.str t_3, AV.int IntKind.i64 (Int.ofNat n_6), AV.int IntKind.i64 (Int.ofNat n_7)] = some g_2)
    (H17 : AEv.loadCells (AHeap.mk (HT.setN (AHeap.n h + 10 + 1) (HT.setN (AHeap.n h + 9 + 1) h.1 (AHeap.n h + 9) (some (AObj.cells [AV.str [], AV.int IntKind.i64 (Int.ofNat 0), AV.int IntKind.i64 (Int.ofNat 0)] 35 BK.own 0 0))) (AHeap.n h + 10) (some (AObj.cells [AV.str [], AV.int IntKind.i64 (Int.ofNat 0), AV.int IntKind.i64 (Int.ofNat 0)] 35 BK.own 0 0))) (AHeap.n (AHeap.mk (HT.setN (AHeap.n h + 9 + 1) h.1 (AHeap.n h + 9) (some (AObj.cells [AV.str [], AV.int IntKind.i64 (Int.ofNat 0), AV.int IntKind.i64 (Int.ofNat 0)] 35 BK.own 0 0))) (AHeap.n (AHeap.room h 13))))) b (0 + n_3 * 3) 3 = some [AV.str t_2, AV.int IntKind.i64 (Int.ofNat n_4), AV.int IntKind.i64 (Int.ofNat n_5)])
    (H18 : AEv.loadCells g_1 b (0 + i * 3) 3 = some [AV.str t_3, AV.int IntKind.i64 (Int.ofNat n_6), AV.int IntKind.i64 (Int.ofNat n_7)])
    (H19 : AEv.loadCells (AHeap.mk (HT.setN (AHeap.n h + 10 + 1) (HT.setN (AHeap.n h + 9 + 1) h.1 (AHeap.n h + 9) (some (AObj.cells [AV.str [], AV.int IntKind.i64 (Int.ofNat 0), AV.int IntKind.i64 (Int.ofNat 0)] 35 BK.own 0 0))) (AHeap.n h + 10) (some (AObj.cells [AV.str [], AV.int IntKind.i64 (Int.ofNat 0), AV.int IntKind.i64 (Int.ofNat 0)] 35 BK.own 0 0))) (AHeap.n (AHeap.mk (HT.setN (AHeap.n h + 9 + 1) h.1 (AHeap.n h + 9) (some (AObj.cells [AV.str [], AV.int IntKind.i64 (Int.ofNat 0), AV.int IntKind.i64 (Int.ofNat 0)] 35 BK.own 0 0))) (AHeap.n (AHeap.room h 13))))) b (0 + i * 3) 3 = some [AV.str t_3, AV.int IntKind.i64 (Int.ofNat n_6), AV.int IntKind.i64 (Int.ofNat n_7)])
    (H20 : load1 g_2 (AHeap.n h + 9) (0 + 0) = some (AV.str t_4))
    (H21 : load1 g_2 (AHeap.n h + 10) (0 + 0) = some (AV.str t_5))
    (H22 : ltBytes t_5 t_4 = false)
    (H23 : beqBytes t_4 t_5 = false)
    (H24 : AEv.loadCells g_2 b (0 + i * 3) 3 = some [AV.str t_6, AV.int IntKind.i64 (Int.ofNat n_8), AV.int IntKind.i64 (Int.ofNat n_9)])
    (H25 : call (CallT.fn 25) [v, AV.agg [AV.str t_6, AV.int IntKind.i64 (Int.ofNat n_8), AV.int IntKind.i64 (Int.ofNat n_9)]] g_2 = FRes.ret (AV.bool b_1) g_3)
    (H26 : (!b_1) = true) :
    RunF Try.prog Try.f6 none call [1, 1, 1, 1, 0, 1, 0, 0] (SSt.mk [(0, v), (1, AV.int IntKind.u8 (Int.ofNat u)), (5, AV.slice b 0 n c), (6, AV.int IntKind.i64 (Int.ofNat i))] [] Rc.none h) (AEx.ret)
      (SSt.mk [(0, v), (1, AV.int IntKind.u8 (Int.ofNat u)), (5, AV.slice b 0 n c), (6, AV.int IntKind.i64 (Int.ofNat i))] [] Rc.none g_3) :=
  sxF_run [0, 1, 5, 6] (hs := [Hint.b true, Hint.v (AV.ptr b (0 + i * 3)), Hint.v (AV.int IntKind.i64 (Int.ofNat n_1)), Hint.b false, Hint.b false, Hint.b false, Hint.v (AV.ptr b (0 + i * 3)), Hint.b false, Hint.b false, Hint.v (AV.int IntKind.i64 (Int.ofNat n_1)), Hint.b false, Hint.b false, Hint.b false, Hint.b false, Hint.b false, Hint.v (AV.ptr b (0 + i * 3)), Hint.b false, Hint.b false, Hint.v (AV.int IntKind.i64 (Int.ofNat n_2)), Hint.b false, Hint.b false, Hint.b false, Hint.b false, Hint.b false, Hint.v (AV.ptr b (0 + i * 3)), Hint.b false, Hint.b false, Hint.v (AV.int IntKind.i64 (Int.ofNat n_2)), Hint.b false, Hint.b false, Hint.b false, Hint.b false, Hint.b false, Hint.v (AV.ptr b (0 + i * 3)), Hint.b false, Hint.b false, Hint.v (AV.str t_1), Hint.b false, Hint.b false, Hint.b false, Hint.b false, Hint.b true, Hint.v (AV.int IntKind.i64 (Int.ofNat n_3)), Hint.v (AV.ptr b (0 + n_3 * 3)), Hint.v (AV.agg [AV.str t_2, AV.int IntKind.i64 (Int.ofNat n_4), AV.int IntKind.i64 (Int.ofNat n_5)]), Hint.v (AV.ptr b (0 + i * 3)), Hint.v (AV.agg [AV.str t_3, AV.int IntKind.i64 (Int.ofNat n_6), AV.int IntKind.i64 (Int.ofNat n_7)]), Hint.vh (AV.tup []) g_1, Hint.vh (AV.tup []) g_2, Hint.v (AV.str t_4), Hint.v (AV.str t_5), Hint.b false, Hint.b false, Hint.v (AV.str t_4), Hint.b false, Hint.b false, Hint.v (AV.str t_5), Hint.b false, Hint.b false, Hint.b false, Hint.b false, Hint.b false, Hint.b false, Hint.b false, Hint.b false, Hint.b false, Hint.b false, Hint.b false, Hint.b false, Hint.b false, Hint.v (AV.ptr b (0 + i * 3)), Hint.v (AV.agg [AV.str t_6, AV.int IntKind.i64 (Int.ofNat n_8), AV.int IntKind.i64 (Int.ofNat n_9)]), Hint.c (AV.bool b_1) g_3, Hint.b true]) (by kernel_rfl) <| .cons H1 <| .cons (⟨H2, rfl⟩ : Nat.le (Nat.succ i) n ∧ AV.ptr b (0 + i * 3) = AV.ptr b (0 + i * 3)) <| .cons H3 <| .cons H4 <| .cons H4 <| .cons H4 <| .cons (⟨H2, rfl⟩ : Nat.le (Nat.succ i) n ∧ AV.ptr b (0 + i * 3) = AV.ptr b (0 + i * 3)) <| .cons H4 <| .cons H4 <| .cons H3 <| .cons H4 <| .cons H4 <| .cons H5 <| .cons H5 <| .cons H5 <| .cons (⟨H2, rfl⟩ : Nat.le (Nat.succ i) n ∧ AV.ptr b (0 + i * 3) = AV.ptr b (0 + i * 3)) <| .cons H5 <| .cons H5 <| .cons H6 <| .cons H5 <| .cons H5 <| .cons (by kernel_rfl : ltI (Int.ofNat n_2) (Int.ofNat 0) = false) <| .cons (by kernel_rfl : ltI (Int.ofNat n_2) (Int.ofNat 0) = false) <| .cons (by kernel_rfl : ltI (Int.ofNat n_2) (Int.ofNat 0) = false) <| .cons (⟨H2, rfl⟩ : Nat.le (Nat.succ i) n ∧ AV.ptr b (0 + i * 3) = AV.ptr b (0 + i * 3)) <| .cons (by kernel_rfl : ltI (Int.ofNat n_2) (Int.ofNat 0) = false) <| .cons (by kernel_rfl : ltI (Int.ofNat n_2) (Int.ofNat 0) = false) <| .cons H6 <| .cons (by kernel_rfl : ltI (Int.ofNat n_2) (Int.ofNat 0) = false) <| .cons (by kernel_rfl : ltI (Int.ofNat n_2) (Int.ofNat 0) = false) <| .cons H7 <| .cons H7 <| .cons H7 <| .cons (⟨H2, rfl⟩ : Nat.le (Nat.succ i) n ∧ AV.ptr b (0 + i * 3) = AV.ptr b (0 + i * 3)) <| .cons H7 <| .cons H7 <| .cons H8 <| .cons H7 <| .cons H7 <| .cons H7 <| .cons H9 <| .cons H10 <| .cons H11 <| .cons (⟨H12, rfl⟩ : Nat.le (Nat.succ n_3) n ∧ AV.ptr b (0 + n_3 * 3) = AV.ptr b (0 + n_3 * 3)) <| .cons H13 <| .cons (⟨H2, rfl⟩ : Nat.le (Nat.succ i) n ∧ AV.ptr b (0 + i * 3) = AV.ptr b (0 + i * 3)) <| .cons H14 <| .cons (⟨by kernel_rfl, H15, rfl⟩ : some 3 = some 3 ∧ AEv.storeCells (AHeap.mk (HT.setN (AHeap.n h + 10 + 1) (HT.setN (AHeap.n h + 9 + 1) h.1 (AHeap.n h + 9) (some (AObj.cells [AV.str [], AV.int IntKind.i64 (Int.ofNat 0), AV.int IntKind.i64 (Int.ofNat 0)] 35 BK.own 0 0))) (AHeap.n h + 10) (some (AObj.cells [AV.str [], AV.int IntKind.i64 (Int.ofNat 0), AV.int IntKind.i64 (Int.ofNat 0)] 35 BK.own 0 0))) (AHeap.n (AHeap.mk (HT.setN (AHeap.n h + 9 + 1) h.1 (AHeap.n h + 9) (some (AObj.cells [AV.str [], AV.int IntKind.i64 (Int.ofNat 0), AV.int IntKind.i64 (Int.ofNat 0)] 35 BK.own 0 0))) (AHeap.n (AHeap.room h 13))))) (AHeap.n h + 9) 0 [AV.str t_2, AV.int IntKind.i64 (Int.ofNat n_4), AV.int IntKind.i64 (Int.ofNat n_5)] = some g_1 ∧ AV.tup [] = AV.tup []) <| .cons (⟨by kernel_rfl, H16, rfl⟩ : some 3 = some 3 ∧ AEv.storeCells g_1 (AHeap.n h + 10) 0 [AV.str t_3, AV.int IntKind.i64 (Int.ofNat n_6), AV.int IntKind.i64 (Int.ofNat n_7)] = some g_2 ∧ AV.tup [] = AV.tup []) <| .cons (by kernel_rfl : AV.sound (AV.slice b 0 n c) = true) <| .cons (by kernel_rfl : AV.slice b 0 n c = AV.slice b 0 n c) <| .cons (by kernel_rfl : AV.sound (AV.int IntKind.i64 (Int.ofNat i)) = true) <| .cons (by kernel_rfl : AV.int IntKind.i64 (Int.ofNat i) = AV.int IntKind.i64 (Int.ofNat i)) <| .cons (by kernel_rfl : AV.sound (AV.int IntKind.i64 (Int.ofNat n_3)) = true) <| .cons H11 <| .cons (by kernel_rfl : AV.sound (AV.ptr b (0 + n_3 * 3)) = true) <| .cons (⟨H12, rfl⟩ : Nat.le (Nat.succ n_3) n ∧ AV.ptr b (0 + n_3 * 3) = AV.ptr b (0 + n_3 * 3)) <| .cons (by kernel_rfl : AV.sound (AV.agg [AV.str t_2, AV.int IntKind.i64 (Int.ofNat n_4), AV.int IntKind.i64 (Int.ofNat n_5)]) = true) <| .cons H17 <| .cons (by kernel_rfl : AV.sound (AV.slice b 0 n c) = true) <| .cons (by kernel_rfl : AV.slice b 0 n c = AV.slice b 0 n c) <| .cons (by kernel_rfl : AV.sound (AV.slice b 0 n c) = true) <| .cons (by kernel_rfl : AV.slice b 0 n c = AV.slice b 0 n c) <| .cons (by kernel_rfl : AV.sound (AV.int IntKind.i64 (Int.ofNat i)) = true) <| .cons (by kernel_rfl : AV.int IntKind.i64 (Int.ofNat i) = AV.int IntKind.i64 (Int.ofNat i)) <| .cons (by kernel_rfl : AV.sound (AV.int IntKind.i64 (Int.ofNat i)) = true) <| .cons (by kernel_rfl : AV.int IntKind.i64 (Int.ofNat i) = AV.int IntKind.i64 (Int.ofNat i)) <| .cons (by kernel_rfl : AV.sound (AV.ptr b (0 + i * 3)) = true) <| .cons (⟨H2, rfl⟩ : Nat.le (Nat.succ i) n ∧ AV.ptr b (0 + i * 3) = AV.ptr b (0 + i * 3)) <| .cons (by kernel_rfl : AV.sound (AV.ptr b (0 + i * 3)) = true) <| .cons (⟨H2, rfl⟩ : Nat.le (Nat.succ i) n ∧ AV.ptr b (0 + i * 3) = AV.ptr b (0 + i * 3)) <| .cons (by kernel_rfl : AV.sound (AV.agg [AV.str t_3, AV.int IntKind.i64 (Int.ofNat n_6), AV.int IntKind.i64 (Int.ofNat n_7)]) = true) <| .cons H18 <| .cons (by kernel_rfl : AV.sound (AV.agg [AV.str t_3, AV.int IntKind.i64 (Int.ofNat n_6), AV.int IntKind.i64 (Int.ofNat n_7)]) = true) <| .cons H19 <| .cons H20 <| .cons H21 <| .cons H22 <| .cons H22 <| .cons H20 <| .cons H22 <| .cons H22 <| .cons H21 <| .cons H22 <| .cons H22 <| .cons H23 <| .cons H23 <| .cons H23 <| .cons H23 <| .cons H23 <| .cons H23 <| .cons H23 <| .cons H22 <| .cons H23 <| .cons H22 <| .cons (by kernel_rfl : false = false) <| .cons (⟨H2, rfl⟩ : Nat.le (Nat.succ i) n ∧ AV.ptr b (0 + i * 3) = AV.ptr b (0 + i * 3)) <| .cons H24 <| .cons H25 <| .cons H26 <| .nil
theorem o1_13 (call : CallT → List AV → AHeap → FRes) (v : AV) (u : Nat) (b : Nat) (n : Nat) (i : Nat) (c : Cap) (h : AHeap) (g : AHeap) (n_1 : Nat) (n_2 : Nat) (t_1 : List UInt8) (n_3 : Nat) (t_2 : List UInt8) (n_4 : Nat) (n_5 : Nat) (t_3 : List UInt8) (n_6 : Nat) (n_7 : Nat) (g_1 : AHeap) (g_2 : AHeap) (t_4 : List UInt8) (t_5 : List UInt8) (t_6 : List UInt8) (n_8 : Nat) (n_9 : Nat) (b_1 : Bool) (g_3 : AHeap) (n_10 : Nat) 
    (H1 : ltI (Int.ofNat i) (Int.ofNat n) = true)
    (H2 : Nat.le (Nat.succ i) n)
    (H3 : load1 h b (0 + i * 3 + 2) = some (AV.int IntKind.i64 (Int.ofNat n_1)))
    (H4 : ltI (Int.ofNat n_1) (Int.ofNat 1) = false)
    (H5 : ltI (Int.ofNat 13) (Int.ofNat n_1) = false)
    (H6 : load1 h b (0 + i * 3 + 1) = some (AV.int IntKind.i64 (Int.ofNat n_2)))
    (H7 : leI (Int.ofNat 2147483648) (Int.ofNat n_2) = false)
    (H8 : load1 h b (0 + i * 3 + 0) = some (AV.str t_1))
    (H9 : ltI (Int.ofNat 200) (Int.ofNat (List.length t_1)) = false)
    (H10 : ltI (Int.ofNat 0) (Int.ofNat i) = true)
    (H11 : arith BinOp.sub IntKind.i64 (Int.ofNat i) (Int.ofNat 1) = some (AV.int IntKind.i64 (Int.ofNat n_3)))
    (H12 : Nat.le (Nat.succ n_3) n)
    (H13 : AEv.loadCells (AHeap.room h 13) b (0 + n_3 * 3) 3 = some [AV.str t_2, AV.int IntKind.i64 (Int.ofNat n_4), AV.int IntKind.i64 (Int.ofNat n_5)])
    (H14 : AEv.loadCells (AHeap.room h 13) b (0 + i * 3) 3 = some [AV.str t_3, AV.int IntKind.i64 (Int.ofNat n_6), AV.int IntKind.i64 (Int.ofNat n_7)])
    (H15 : AEv.storeCells (AHeap.mk (HT.setN (AHeap.n h + 10 + 1) (HT.setN (AHeap.n h + 9 + 1) h.1 (AHeap.n h + 9) (some (AObj.cells [AV.str [], AV.int IntKind.i64 (Int.ofNat 0), AV.int IntKind.i64 (Int.ofNat 0)] 35 BK.own 0 0))) (AHeap.n h + 10) (some (AObj.cells [AV.str [], AV.int IntKind.i64 (Int.ofNat 0), AV.int IntKind.i64 (Int.ofNat 0)] 35 BK.own 0 0))) (AHeap.n (AHeap.mk (HT.setN (AHeap.n h + 9 + 1) h.1 (AHeap.n h + 9) (some (AObj.cells [AV.str [], AV.int IntKind.i64 (Int.ofNat 0), AV.int IntKind.i64 (Int.ofNat 0)] 35 BK.own 0 0))) (AHeap.n (AHeap.room h 13))))) (AHeap.n h + 9) 0 [AV.str t_2, AV.int IntKind.i64 (Int.ofNat n_4), AV.int IntKind.i64 (Int.ofNat n_5)] = some g_1)
    (H16 : AEv.storeCells g_1 (AHeap.n h + 10) 0 [AV.str t_3, AV.int IntKind.i64 (Int.ofNat n_6), AV.int IntKind.i64 (Int.ofNat n_7)] = some g_2)
    (H17 : AEv.loadCells (AHeap.mk (HT.setN (AHeap.n h + 10 + 1) (HT.setN (AHeap.n h + 9 + 1) h.1 (AHeap.n h + 9) (some (AObj.cells [AV.str [], AV.int IntKind.i64 (Int.ofNat 0), AV.int IntKind.i64 (Int.ofNat 0)] 35 BK.own 0 0))) (AHeap.n h + 10) (some (AObj.cells [AV.str [], AV.int IntKind.i64 (Int.ofNat 0), AV.int IntKind.i64 (Int.ofNat 0)] 35 BK.own 0 0))) (AHeap.n (AHeap.mk (HT.setN (AHeap.n h + 9 + 1) h.1 (AHeap.n h + 9) (some (AObj.cells [AV.str [], AV.int IntKind.i64 (Int.ofNat 0), AV.int IntKind.i64 (Int.ofNat 0)] 35 BK.own 0 0))) (AHeap.n (AHeap.room h 13))))) b (0 + n_3 * 3) 3 = some [AV.str t_2, AV.int IntKind.i64 (Int.ofNat n_4), AV.int IntKind.i64 (Int.ofNat n_5)])
    (H18 : AEv.loadCells g_1 b (0 + i * 3) 3 = some [AV.str t_3, AV.int IntKind.i64 (Int.ofNat n_6), AV.int IntKind.i64 (Int.ofNat n_7)])
    (H19 : AEv.loadCells (AHeap.mk (HT.setN (AHeap.n h + 10 + 1) (HT.setN (AHeap.n h + 9 + 1) h.1 (AHeap.n h + 9) (some (AObj.cells [AV.str [], AV.int IntKind.i64 (Int.ofNat 0), AV.int IntKind.i64 (Int.ofNat 0)] 35 BK.own 0 0))) (AHeap.n h + 10) (some (AObj.cells [AV.str [], AV.int IntKind.i64 (Int.ofNat 0), AV.int IntKind.i64 (Int.ofNat 0)] 35 BK.own 0 0))) (AHeap.n (AHeap.mk (HT.setN (AHeap.n h + 9 + 1) h.1 (AHeap.n h + 9) (some (AObj.cells [AV.str [], AV.int IntKind.i64 (Int.ofNat 0), AV.int IntKind.i64 (Int.ofNat 0)] 35 BK.own 0 0))) (AHeap.n (AHeap.room h 13))))) b (0 + i * 3) 3 = some [AV.str t_3, AV.int IntKind.i64 (Int.ofNat n_6), AV.int IntKind.i64 (Int.ofNat n_7)])
    (H20 : load1 g_2 (AHeap.n h + 9) (0 + 0) = some (AV.str t_4))
    (H21 : load1 g_2 (AHeap.n h + 10) (0 + 0) = some (AV.str t_5))
    (H22 : ltBytes t_5 t_4 = false)
    (H23 : beqBytes t_4 t_5 = false)
    (H24 : AEv.loadCells g_2 b (0 + i * 3) 3 = some [AV.str t_6, AV.int IntKind.i64 (Int.ofNat n_8), AV.int IntKind.i64 (Int.ofNat n_9)])
    (H25 : call (CallT.fn 25) [v, AV.agg [AV.str t_6, AV.int IntKind.i64 (Int.ofNat n_8), AV.int IntKind.i64 (Int.ofNat n_9)]] g_2 = FRes.ret (AV.bool b_1) g_3)
    (H26 : (!b_1) = false)
    (H27 : arith BinOp.add IntKind.i64 (Int.ofNat i) (Int.ofNat 1) = some (AV.int IntKind.i64 (Int.ofNat n_10))) :
    RunF Try.prog Try.f6 none call [1, 1, 1, 1, 0, 1, 0, 0] (SSt.mk [(0, v), (1, AV.int IntKind.u8 (Int.ofNat u)), (5, AV.slice b 0 n c), (6, AV.int IntKind.i64 (Int.ofNat i))] [] Rc.none h) (AEx.nrm)
      (SSt.mk [(0, v), (1, AV.int IntKind.u8 (Int.ofNat u)), (5, AV.slice b 0 n c), (6, AV.int IntKind.i64 (Int.ofNat n_10))] [] Rc.none g_3) :=
  sxF_run [0, 1, 5, 6] (hs := [Hint.b true, Hint.v (AV.ptr b (0 + i * 3)), Hint.v (AV.int IntKind.i64 (Int.ofNat n_1)), Hint.b false, Hint.b false, Hint.b false, Hint.v (AV.ptr b (0 + i * 3)), Hint.b false, Hint.b false, Hint.v (AV.int IntKind.i64 (Int.ofNat n_1)), Hint.b false, Hint.b false, Hint.b false, Hint.b false, Hint.b false, Hint.v (AV.ptr b (0 + i * 3)), Hint.b false, Hint.b false, Hint.v (AV.int IntKind.i64 (Int.ofNat n_2)), Hint.b false, Hint.b false, Hint.b false, Hint.b false, Hint.b false, Hint.v (AV.ptr b (0 + i * 3)), Hint.b false, Hint.b false, Hint.v (AV.int IntKind.i64 (Int.ofNat n_2)), Hint.b false, Hint.b false, Hint.b false, Hint.b false, Hint.b false, Hint.v (AV.ptr b (0 + i * 3)), Hint.b false, Hint.b false, Hint.v (AV.str t_1), Hint.b false, Hint.b false, Hint.b false, Hint.b false, Hint.b true, Hint.v (AV.int IntKind.i64 (Int.ofNat n_3)), Hint.v (AV.ptr b (0 + n_3 * 3)), Hint.v (AV.agg [AV.str t_2, AV.int IntKind.i64 (Int.ofNat n_4), AV.int IntKind.i64 (Int.ofNat n_5)]), Hint.v (AV.ptr b (0 + i * 3)), Hint.v (AV.agg [AV.str t_3, AV.int IntKind.i64 (Int.ofNat n_6), AV.int IntKind.i64 (Int.ofNat n_7)]), Hint.vh (AV.tup []) g_1, Hint.vh (AV.tup []) g_2, Hint.v (AV.str t_4), Hint.v (AV.str t_5), Hint.b false, Hint.b false, Hint.v (AV.str t_4), Hint.b false, Hint.b false, Hint.v (AV.str t_5), Hint.b false, Hint.b false, Hint.b false, Hint.b false, Hint.b false, Hint.b false, Hint.b false, Hint.b false, Hint.b false, Hint.b false, Hint.b false, Hint.b false, Hint.b false, Hint.v (AV.ptr b (0 + i * 3)), Hint.v (AV.agg [AV.str t_6, AV.int IntKind.i64 (Int.ofNat n_8), AV.int IntKind.i64 (Int.ofNat n_9)]), Hint.c (AV.bool b_1) g_3, Hint.b false, Hint.v (AV.int IntKind.i64 (Int.ofNat n_10))]) (by kernel_rfl) <| .cons H1 <| .cons (⟨H2, rfl⟩ : Nat.le (Nat.succ i) n ∧ AV.ptr b (0 + i * 3) = AV.ptr b (0 + i * 3)) <| .cons H3 <| .cons H4 <| .cons H4 <| .cons H4 <| .cons (⟨H2, rfl⟩ : Nat.le (Nat.succ i) n ∧ AV.ptr b (0 + i * 3) = AV.ptr b (0 + i * 3)) <| .cons H4 <| .cons H4 <| .cons H3 <| .cons H4 <| .cons H4 <| .cons H5 <| .cons H5 <| .cons H5 <| .cons (⟨H2, rfl⟩ : Nat.le (Nat.succ i) n ∧ AV.ptr b (0 + i * 3) = AV.ptr b (0 + i * 3)) <| .cons H5 <| .cons H5 <| .cons H6 <| .cons H5 <| .cons H5 <| .cons (by kernel_rfl : ltI (Int.ofNat n_2) (Int.ofNat 0) = false) <| .cons (by kernel_rfl : ltI (Int.ofNat n_2) (Int.ofNat 0) = false) <| .cons (by kernel_rfl : ltI (Int.ofNat n_2) (Int.ofNat 0) = false) <| .cons (⟨H2, rfl⟩ : Nat.le (Nat.succ i) n ∧ AV.ptr b (0 + i * 3) = AV.ptr b (0 + i * 3)) <| .cons (by kernel_rfl : ltI (Int.ofNat n_2) (Int.ofNat 0) = false) <| .cons (by kernel_rfl : ltI (Int.ofNat n_2) (Int.ofNat 0) = false) <| .cons H6 <| .cons (by kernel_rfl : ltI (Int.ofNat n_2) (Int.ofNat 0) = false) <| .cons (by kernel_rfl : ltI (Int.ofNat n_2) (Int.ofNat 0) = false) <| .cons H7 <| .cons H7 <| .cons H7 <| .cons (⟨H2, rfl⟩ : Nat.le (Nat.succ i) n ∧ AV.ptr b (0 + i * 3) = AV.ptr b (0 + i * 3)) <| .cons H7 <| .cons H7 <| .cons H8 <| .cons H7 <| .cons H7 <| .cons H7 <| .cons H9 <| .cons H10 <| .cons H11 <| .cons (⟨H12, rfl⟩ : Nat.le (Nat.succ n_3) n ∧ AV.ptr b (0 + n_3 * 3) = AV.ptr b (0 + n_3 * 3)) <| .cons H13 <| .cons (⟨H2, rfl⟩ : Nat.le (Nat.succ i) n ∧ AV.ptr b (0 + i * 3) = AV.ptr b (0 + i * 3)) <| .cons H14 <| .cons (⟨by kernel_rfl, H15, rfl⟩ : some 3 = some 3 ∧ AEv.storeCells (AHeap.mk (HT.setN (AHeap.n h + 10 + 1) (HT.setN (AHeap.n h + 9 + 1) h.1 (AHeap.n h + 9) (some (AObj.cells [AV.str [], AV.int IntKind.i64 (Int.ofNat 0), AV.int IntKind.i64 (Int.ofNat 0)] 35 BK.own 0 0))) (AHeap.n h + 10) (some (AObj.cells [AV.str [], AV.int IntKind.i64 (Int.ofNat 0), AV.int IntKind.i64 (Int.ofNat 0)] 35 BK.own 0 0))) (AHeap.n (AHeap.mk (HT.setN (AHeap.n h + 9 + 1) h.1 (AHeap.n h + 9) (some (AObj.cells [AV.str [], AV.int IntKind.i64 (Int.ofNat 0), AV.int IntKind.i64 (Int.ofNat 0)] 35 BK.own 0 0))) (AHeap.n (AHeap.room h 13))))) (AHeap.n h + 9) 0 [AV.str t_2, AV.int IntKind.i64 (Int.ofNat n_4), AV.int IntKind.i64 (Int.ofNat n_5)] = some g_1 ∧ AV.tup [] = AV.tup []) <| .cons (⟨by kernel_rfl, H16, rfl⟩ : some 3 = some 3 ∧ AEv.storeCells g_1 (AHeap.n h + 10) 0 [AV.str t_3, AV.int IntKind.i64 (Int.ofNat n_6), AV.int IntKind.i64 (Int.ofNat n_7)] = some g_2 ∧ AV.tup [] = AV.tup []) <| .cons (by kernel_rfl : AV.sound (AV.slice b 0 n c) = true) <| .cons (by kernel_rfl : AV.slice b 0 n c = AV.slice b 0 n c) <| .cons (by kernel_rfl : AV.sound (AV.int IntKind.i64 (Int.ofNat i)) = true) <| .cons (by kernel_rfl : AV.int IntKind.i64 (Int.ofNat i) = AV.int IntKind.i64 (Int.ofNat i)) <| .cons (by kernel_rfl : AV.sound (AV.int IntKind.i64 (Int.ofNat n_3)) = true) <| .cons H11 <| .cons (by kernel_rfl : AV.sound (AV.ptr b (0 + n_3 * 3)) = true) <| .cons (⟨H12, rfl⟩ : Nat.le (Nat.succ n_3) n ∧ AV.ptr b (0 + n_3 * 3) = AV.ptr b (0 + n_3 * 3)) <| .cons (by kernel_rfl : AV.sound (AV.agg [AV.str t_2, AV.int IntKind.i64 (Int.ofNat n_4), AV.int IntKind.i64 (Int.ofNat n_5)]) = true) <| .cons H17 <| .cons (by kernel_rfl : AV.sound (AV.slice b 0 n c) = true) <| .cons (by kernel_rfl : AV.slice b 0 n c = AV.slice b 0 n c) <| .cons (by kernel_rfl : AV.sound (AV.slice b 0 n c) = true) <| .cons (by kernel_rfl : AV.slice b 0 n c = AV.slice b 0 n c) <| .cons (by kernel_rfl : AV.sound (AV.int IntKind.i64 (Int.ofNat i)) = true) <| .cons (by kernel_rfl : AV.int IntKind.i64 (Int.ofNat i) = AV.int IntKind.i64 (Int.ofNat i)) <| .cons (by kernel_rfl : AV.sound (AV.int IntKind.i64 (Int.ofNat i)) = true) <| .cons (by kernel_rfl : AV.int IntKind.i64 (Int.ofNat i) = AV.int IntKind.i64 (Int.ofNat i)) <| .cons (by kernel_rfl : AV.sound (AV.ptr b (0 + i * 3)) = true) <| .cons (⟨H2, rfl⟩ : Nat.le (Nat.succ i) n ∧ AV.ptr b (0 + i * 3) = AV.ptr b (0 + i * 3)) <| .cons (by kernel_rfl : AV.sound (AV.ptr b (0 + i * 3)) = true) <| .cons (⟨H2, rfl⟩ : Nat.le (Nat.succ i) n ∧ AV.ptr b (0 + i * 3) = AV.ptr b (0 + i * 3)) <| .cons (by kernel_rfl : AV.sound (AV.agg [AV.str t_3, AV.int IntKind.i64 (Int.ofNat n_6), AV.int IntKind.i64 (Int.ofNat n_7)]) = true) <| .cons H18 <| .cons (by kernel_rfl : AV.sound (AV.agg [AV.str t_3, AV.int IntKind.i64 (Int.ofNat n_6), AV.int IntKind.i64 (Int.ofNat n_7)]) = true) <| .cons H19 <| .cons H20 <| .cons H21 <| .cons H22 <| .cons H22 <| .cons H20 <| .cons H22 <| .cons H22 <| .cons H21 <| .cons H22 <| .cons H22 <| .cons H23 <| .cons H23 <| .cons H23 <| .cons H23 <| .cons H23 <| .cons H23 <| .cons H23 <| .cons H22 <| .cons H23 <| .cons H22 <| .cons (by kernel_rfl : false = false) <| .cons (⟨H2, rfl⟩ : Nat.le (Nat.succ i) n ∧ AV.ptr b (0 + i * 3) = AV.ptr b (0 + i * 3)) <| .cons H24 <| .cons H25 <| .cons H26 <| .cons H27 <| .nil
theorem o1_14 (call : CallT → List AV → AHeap → FRes) (v : AV) (u : Nat) (b : Nat) (n : Nat) (i : Nat) (c : Cap) (h : AHeap) (g : AHeap) (n_1 : Nat) (n_2 : Nat) (t_1 : List UInt8) (t_2 : List UInt8) (n_3 : Nat) (n_4 : Nat) (b_1 : Bool) (g_1 : AHeap) 
    (H1 : ltI (Int.ofNat i) (Int.ofNat n) = true)
    (H2 : Nat.le (Nat.succ i) n)
    (H3 : load1 h b (0 + i * 3 + 2) = some (AV.int IntKind.i64 (Int.ofNat n_1)))
    (H4 : ltI (Int.ofNat n_1) (Int.ofNat 1) = false)
    (H5 : ltI (Int.ofNat 13) (Int.ofNat n_1) = false)
    (H6 : load1 h b (0 + i * 3 + 1) = some (AV.int IntKind.i64 (Int.ofNat n_2)))
    (H7 : leI (Int.ofNat 2147483648) (Int.ofNat n_2) = false)
    (H8 : load1 h b (0 + i * 3 + 0) = some (AV.str t_1))
    (H9 : ltI (Int.ofNat 200) (Int.ofNat (List.length t_1)) = false)
    (H10 : ltI (Int.ofNat 0) (Int.ofNat i) = false)
    (H11 : AEv.loadCells h b (0 + i * 3) 3 = some [AV.str t_2, AV.int IntKind.i64 (Int.ofNat n_3), AV.int IntKind.i64 (Int.ofNat n_4)])
    (H12 : call (CallT.fn 25) [v, AV.agg [AV.str t_2, AV.int IntKind.i64 (Int.ofNat n_3), AV.int IntKind.i64 (Int.ofNat n_4)]] h = FRes.ret (AV.bool b_1) g_1)
    (H13 : (!b_1) = true) :
    RunF Try.prog Try.f6 none call [1, 1, 1, 1, 0, 1, 0, 0] (SSt.mk [(0, v), (1, AV.int IntKind.u8 (Int.ofNat u)), (5, AV.slice b 0 n c), (6, AV.int IntKind.i64 (Int.ofNat i))] [] Rc.none h) (AEx.ret)
      (SSt.mk [(0, v), (1, AV.int IntKind.u8 (Int.ofNat u)), (5, AV.slice b 0 n c), (6, AV.int IntKind.i64 (Int.ofNat i))] [] Rc.none g_1) :=
  sxF_run [0, 1, 5, 6] (hs := [Hint.b true, Hint.v (AV.ptr b (0 + i * 3)), Hint.v (AV.int IntKind.i64 (Int.ofNat n_1)), Hint.b false, Hint.b false, Hint.b false, Hint.v (AV.ptr b (0 + i * 3)), Hint.b false, Hint.b false, Hint.v (AV.int IntKind.i64 (Int.ofNat n_1)), Hint.b false, Hint.b false, Hint.b false, Hint.b false, Hint.b false, Hint.v (AV.ptr b (0 + i * 3)), Hint.b false, Hint.b false, Hint.v (AV.int IntKind.i64 (Int.ofNat n_2)), Hint.b false, Hint.b false, Hint.b false, Hint.b false, Hint.b false, Hint.v (AV.ptr b (0 + i * 3)), Hint.b false, Hint.b false, Hint.v (AV.int IntKind.i64 (Int.ofNat n_2)), Hint.b false, Hint.b false, Hint.b false, Hint.b false, Hint.b false, Hint.v (AV.ptr b (0 + i * 3)), Hint.b false, Hint.b false, Hint.v (AV.str t_1), Hint.b false, Hint.b false, Hint.b false, Hint.b false, Hint.b false, Hint.v (AV.ptr b (0 + i * 3)), Hint.v (AV.agg [AV.str t_2, AV.int IntKind.i64 (Int.ofNat n_3), AV.int IntKind.i64 (Int.ofNat n_4)]), Hint.c (AV.bool b_1) g_1, Hint.b true]) (by kernel_rfl) <| .cons H1 <| .cons (⟨H2, rfl⟩ : Nat.le (Nat.succ i) n ∧ AV.ptr b (0 + i * 3) = AV.ptr b (0 + i * 3)) <| .cons H3 <| .cons H4 <| .cons H4 <| .cons H4 <| .cons (⟨H2, rfl⟩ : Nat.le (Nat.succ i) n ∧ AV.ptr b (0 + i * 3) = AV.ptr b (0 + i * 3)) <| .cons H4 <| .cons H4 <| .cons H3 <| .cons H4 <| .cons H4 <| .cons H5 <| .cons H5 <| .cons H5 <| .cons (⟨H2, rfl⟩ : Nat.le (Nat.succ i) n ∧ AV.ptr b (0 + i * 3) = AV.ptr b (0 + i * 3)) <| .cons H5 <| .cons H5 <| .cons H6 <| .cons H5 <| .cons H5 <| .cons (by kernel_rfl : ltI (Int.ofNat n_2) (Int.ofNat 0) = false) <| .cons (by kernel_rfl : ltI (Int.ofNat n_2) (Int.ofNat 0) = false) <| .cons (by kernel_rfl : ltI (Int.ofNat n_2) (Int.ofNat 0) = false) <| .cons (⟨H2, rfl⟩ : Nat.le (Nat.succ i) n ∧ AV.ptr b (0 + i * 3) = AV.ptr b (0 + i * 3)) <| .cons (by kernel_rfl : ltI (Int.ofNat n_2) (Int.ofNat 0) = false) <| .cons (by kernel_rfl : ltI (Int.ofNat n_2) (Int.ofNat 0) = false) <| .cons H6 <| .cons (by kernel_rfl : ltI (Int.ofNat n_2) (Int.ofNat 0) = false) <| .cons (by kernel_rfl : ltI (Int.ofNat n_2) (Int.ofNat 0) = false) <| .cons H7 <| .cons H7 <| .cons H7 <| .cons (⟨H2, rfl⟩ : Nat.le (Nat.succ i) n ∧ AV.ptr b (0 + i * 3) = AV.ptr b (0 + i * 3)) <| .cons H7 <| .cons H7 <| .cons H8 <| .cons H7 <| .cons H7 <| .cons H7 <| .cons H9 <| .cons H10 <| .cons (⟨H2, rfl⟩ : Nat.le (Nat.succ i) n ∧ AV.ptr b (0 + i * 3) = AV.ptr b (0 + i * 3)) <| .cons H11 <| .cons H12 <| .cons H13 <| .nil
theorem o1_15 (call : CallT → List AV → AHeap → FRes) (v : AV) (u : Nat) (b : Nat) (n : Nat) (i : Nat) (c : Cap) (h : AHeap) (g : AHeap) (n_1 : Nat) (n_2 : Nat) (t_1 : List UInt8) (t_2 : List UInt8) (n_3 : Nat) (n_4 : Nat) (b_1 : Bool) (g_1 : AHeap) (n_5 : Nat) 
    (H1 : ltI (Int.ofNat i) (Int.ofNat n) = true)
    (H2 : Nat.le (Nat.succ i) n)
    (H3 : load1 h b (0 + i * 3 + 2) = some (AV.int IntKind.i64 (Int.ofNat n_1)))
    (H4 : ltI (Int.ofNat n_1) (Int.ofNat 1) = false)
    (H5 : ltI (Int.ofNat 13) (Int.ofNat n_1) = false)
    (H6 : load1 h b (0 + i * 3 + 1) = some (AV.int IntKind.i64 (Int.ofNat n_2)))
    (H7 : leI (Int.ofNat 2147483648) (Int.ofNat n_2) = false)
    (H8 : load1 h b (0 + i * 3 + 0) = some (AV.str t_1))
    (H9 : ltI (Int.ofNat 200) (Int.ofNat (List.length t_1)) = false)
    (H10 : ltI (Int.ofNat 0) (Int.ofNat i) = false)
    (H11 : AEv.loadCells h b (0 + i * 3) 3 = some [AV.str t_2, AV.int IntKind.i64 (Int.ofNat n_3), AV.int IntKind.i64 (Int.ofNat n_4)])
    (H12 : call (CallT.fn 25) [v, AV.agg [AV.str t_2, AV.int IntKind.i64 (Int.ofNat n_3), AV.int IntKind.i64 (Int.ofNat n_4)]] h = FRes.ret (AV.bool b_1) g_1)
    (H13 : (!b_1) = false)
    (H14 : arith BinOp.add IntKind.i64 (Int.ofNat i) (Int.ofNat 1) = some (AV.int IntKind.i64 (Int.ofNat n_5))) :
    RunF Try.prog Try.f6 none call [1, 1, 1, 1, 0, 1, 0, 0] (SSt.mk [(0, v), (1, AV.int IntKind.u8 (Int.ofNat u)), (5, AV.slice b 0 n c), (6, AV.int IntKind.i64 (Int.ofNat i))] [] Rc.none h) (AEx.nrm)
      (SSt.mk [(0, v), (1, AV.int IntKind.u8 (Int.ofNat u)), (5, AV.slice b 0 n c), (6, AV.int IntKind.i64 (Int.ofNat n_5))] [] Rc.none g_1) :=
  sxF_run [0, 1, 5, 6] (hs := [Hint.b true, Hint.v (AV.ptr b (0 + i * 3)), Hint.v (AV.int IntKind.i64 (Int.ofNat n_1)), Hint.b false, Hint.b false, Hint.b false, Hint.v (AV.ptr b (0 + i * 3)), Hint.b false, Hint.b false, Hint.v (AV.int IntKind.i64 (Int.ofNat n_1)), Hint.b false, Hint.b false, Hint.b false, Hint.b false, Hint.b false, Hint.v (AV.ptr b (0 + i * 3)), Hint.b false, Hint.b false, Hint.v (AV.int IntKind.i64 (Int.ofNat n_2)), Hint.b false, Hint.b false, Hint.b false, Hint.b false, Hint.b false, Hint.v (AV.ptr b (0 + i * 3)), Hint.b false, Hint.b false, Hint.v (AV.int IntKind.i64 (Int.ofNat n_2)), Hint.b false, Hint.b false, Hint.b false, Hint.b false, Hint.b false, Hint.v (AV.ptr b (0 + i * 3)), Hint.b false, Hint.b false, Hint.v (AV.str t_1), Hint.b false, Hint.b false, Hint.b false, Hint.b false, Hint.b false, Hint.v (AV.ptr b (0 + i * 3)), Hint.v (AV.agg [AV.str t_2, AV.int IntKind.i64 (Int.ofNat n_3), AV.int IntKind.i64 (Int.ofNat n_4)]), Hint.c (AV.bool b_1) g_1, Hint.b false, Hint.v (AV.int IntKind.i64 (Int.ofNat n_5))]) (by kernel_rfl) <| .cons H1 <| .cons (⟨H2, rfl⟩ : Nat.le (Nat.succ i) n ∧ AV.ptr b (0 + i * 3) = AV.ptr b (0 + i * 3)) <| .cons H3 <| .cons H4 <| .cons H4 <| .cons H4 <| .cons (⟨H2, rfl⟩ : Nat.le (Nat.succ i) n ∧ AV.ptr b (0 + i * 3) = AV.ptr b (0 + i * 3)) <| .cons H4 <| .cons H4 <| .cons H3 <| .cons H4 <| .cons H4 <| .cons H5 <| .cons H5 <| .cons H5 <| .cons (⟨H2, rfl⟩ : Nat.le (Nat.succ i) n ∧ AV.ptr b (0 + i * 3) = AV.ptr b (0 + i * 3)) <| .cons H5 <| .cons H5 <| .cons H6 <| .cons H5 <| .cons H5 <| .cons (by kernel_rfl : ltI (Int.ofNat n_2) (Int.ofNat 0) = false) <| .cons (by kernel_rfl : ltI (Int.ofNat n_2) (Int.ofNat 0) = false) <| .cons (by kernel_rfl : ltI (Int.ofNat n_2) (Int.ofNat 0) = false) <| .cons (⟨H2, rfl⟩ : Nat.le (Nat.succ i) n ∧ AV.ptr b (0 + i * 3) = AV.ptr b (0 + i * 3)) <| .cons (by kernel_rfl : ltI (Int.ofNat n_2) (Int.ofNat 0) = false) <| .cons (by kernel_rfl : ltI (Int.ofNat n_2) (Int.ofNat 0) = false) <| .cons H6 <| .cons (by kernel_rfl : ltI (Int.ofNat n_2) (Int.ofNat 0) = false) <| .cons (by kernel_rfl : ltI (Int.ofNat n_2) (Int.ofNat 0) = false) <| .cons H7 <| .cons H7 <| .cons H7 <| .cons (⟨H2, rfl⟩ : Nat.le (Nat.succ i) n ∧ AV.ptr b (0 + i * 3) = AV.ptr b (0 + i * 3)) <| .cons H7 <| .cons H7 <| .cons H8 <| .cons H7 <| .cons H7 <| .cons H7 <| .cons H9 <| .cons H10 <| .cons (⟨H2, rfl⟩ : Nat.le (Nat.succ i) n ∧ AV.ptr b (0 + i * 3) = AV.ptr b (0 + i * 3)) <| .cons H11 <| .cons H12 <| .cons H13 <| .cons H14 <| .nil
theorem o1_16 (call : CallT → List AV → AHeap → FRes) (v : AV) (u : Nat) (b : Nat) (n : Nat) (i : Nat) (c : Cap) (h : AHeap) (g : AHeap) 
    (H1 : ltI (Int.ofNat i) (Int.ofNat n) = false) :
    RunF Try.prog Try.f6 none call [1, 1, 1, 1, 0, 1, 0, 0] (SSt.mk [(0, v), (1, AV.int IntKind.u8 (Int.ofNat u)), (5, AV.slice b 0 n c), (6, AV.int IntKind.i64 (Int.ofNat i))] [] Rc.none h) (AEx.exit 0)
      (SSt.mk [(0, v), (1, AV.int IntKind.u8 (Int.ofNat u)), (5, AV.slice b 0 n c), (6, AV.int IntKind.i64 (Int.ofNat i))] [] Rc.none h) :=
  sxF_run [0, 1, 5, 6] (hs := [Hint.b false]) (by kernel_rfl) <| .cons H1 <| .nil
theorem o1z (call : CallT → List AV → AHeap → FRes) (v : AV) (u : Nat) (h : AHeap)  :
    RunF Try.prog Try.f6 none call [1, 1, 1, 1, 0, 1, 0, 0] (SSt.mk [(0, v), (1, AV.int IntKind.u8 (Int.ofNat u)), (5, AV.nilS), (6, AV.int IntKind.i64 (Int.ofNat 0))] [] Rc.none h) (AEx.exit 0)
      (SSt.mk [(0, v), (1, AV.int IntKind.u8 (Int.ofNat u)), (5, AV.nilS)] [] Rc.none h) :=
  sxF_run [0, 1, 5] (hs := [Hint.b false]) (by kernel_rfl) <| .cons (by kernel_rfl : ltI (Int.ofNat 0) (Int.ofNat 0) = false) <| .nil
theorem o2t_1 (call : CallT → List AV → AHeap → FRes) (b : Nat) (n : Nat) (i : Nat) (u : Nat) (c : Cap) (w : AV) (h : AHeap) 
    (H1 : ltI (Int.ofNat i) (Int.ofNat n) = true) :
    RunF Try.prog Try.f6 none call [1, 1, 1, 1, 1, 0, 1, 0, 0, 0] (SSt.mk [(0, AV.slice b 0 n c), (1, AV.int IntKind.u8 (Int.ofNat u)), (5, w), (9, AV.int IntKind.i64 (Int.ofNat i))] [] Rc.none h) (AEx.nrm)
      (SSt.mk [(0, AV.slice b 0 n c), (1, AV.int IntKind.u8 (Int.ofNat u)), (5, w), (9, AV.int IntKind.i64 (Int.ofNat i))] [] Rc.none h) :=
  sxF_run [0, 1, 5, 9] (hs := [Hint.b true]) (by kernel_rfl) <| .cons H1 <| .nil
theorem o2t_2 (call : CallT → List AV → AHeap → FRes) (b : Nat) (n : Nat) (i : Nat) (u : Nat) (c : Cap) (w : AV) (h : AHeap) 
    (H1 : ltI (Int.ofNat i) (Int.ofNat n) = false) :
    RunF Try.prog Try.f6 none call [1, 1, 1, 1, 1, 0, 1, 0, 0, 0] (SSt.mk [(0, AV.slice b 0 n c), (1, AV.int IntKind.u8 (Int.ofNat u)), (5, w), (9, AV.int IntKind.i64 (Int.ofNat i))] [] Rc.none h) (AEx.exit 2)
      (SSt.mk [(0, AV.slice b 0 n c), (1, AV.int IntKind.u8 (Int.ofNat u)), (5, w), (9, AV.int IntKind.i64 (Int.ofNat i))] [] Rc.none h) :=
  sxF_run [0, 1, 5, 9] (hs := [Hint.b false]) (by kernel_rfl) <| .cons H1 <| .nil
theorem o2k_1 (call : CallT → List AV → AHeap → FRes) (b : Nat) (n : Nat) (i : Nat) (u : Nat) (c : Cap) (w : AV) (a : List UInt8) (x : Int) (x2 : Int) (h : AHeap) (g : AHeap) (g1 : AHeap) 
    (H1 : Nat.le (Nat.succ i) n)
    (H2 : AEv.loadCells h b (0 + i * 3) 3 = some [AV.str a, AV.int IntKind.i64 x, AV.int IntKind.i64 x2])
    (H3 : AEv.storeCells (AHeap.push h (AObj.cells [AV.str [], AV.int IntKind.i64 (Int.ofNat 0), AV.int IntKind.i64 (Int.ofNat 0)] 35 BK.own 0 0)) (AHeap.n h) 0 [AV.str a, AV.int IntKind.i64 x, AV.int IntKind.i64 x2] = some g1)
    (H4 : load1 g1 (AHeap.n h) (0 + 2) = some (AV.int IntKind.i64 x2))
    (H5 : leI (Int.ofNat 1) x2 = true)
    (H6 : leI x2 (Int.ofNat 13) = true)
    (H7 : load1 g1 (AHeap.n h) (0 + 1) = some (AV.int IntKind.i64 x))
    (H8 : leI (Int.ofNat 0) x = true)
    (H9 : ltI x (Int.ofNat 2147483648) = true)
    (H10 : load1 g1 (AHeap.n h) (0 + 0) = some (AV.str a))
    (H11 : leI (Int.ofNat (List.length a)) (Int.ofNat 200) = true)
    (H12 : AEv.loadCells g1 (AHeap.n h) 0 3 = some [AV.str a, AV.int IntKind.i64 x, AV.int IntKind.i64 x2])
    (H13 : call (CallT.fn 25) [w, AV.agg [AV.str a, AV.int IntKind.i64 x, AV.int IntKind.i64 x2]] g1 = FRes.ret (AV.bool true) g) :
    RunF Try.prog Try.f6 none call [1, 1, 1, 1, 1, 0, 1, 0, 0, 1, 0] (SSt.mk [(0, AV.slice b 0 n c), (1, AV.int IntKind.u8 (Int.ofNat u)), (5, w), (9, AV.int IntKind.i64 (Int.ofNat i))] [] Rc.none h) (AEx.nrm)
      (SSt.mk [(0, AV.slice b 0 n c), (1, AV.int IntKind.u8 (Int.ofNat u)), (5, w), (9, AV.int IntKind.i64 (Int.ofNat i))] [] Rc.none g) :=
  sxF_run [0, 1, 5, 9] (hs := [Hint.v (AV.ptr b (0 + i * 3)), Hint.v (AV.agg [AV.str a, AV.int IntKind.i64 x, AV.int IntKind.i64 x2]), Hint.vh (AV.tup []) g1, Hint.v (AV.int IntKind.i64 x2), Hint.b true, Hint.b true, Hint.v (AV.int IntKind.i64 x2), Hint.b true, Hint.b true, Hint.b true, Hint.b true, Hint.v (AV.int IntKind.i64 x), Hint.b true, Hint.b true, Hint.b true, Hint.b true, Hint.v (AV.int IntKind.i64 x), Hint.b true, Hint.b true, Hint.b true, Hint.b true, Hint.v (AV.str a), Hint.b true, Hint.b true, Hint.b true, Hint.b true, Hint.b true, Hint.v (AV.agg [AV.str a, AV.int IntKind.i64 x, AV.int IntKind.i64 x2]), Hint.b true, Hint.c (AV.bool true) g, Hint.b true, Hint.b true, Hint.b false]) (by kernel_rfl) <| .cons (⟨H1, rfl⟩ : Nat.le (Nat.succ i) n ∧ AV.ptr b (0 + i * 3) = AV.ptr b (0 + i * 3)) <| .cons H2 <| .cons (⟨by kernel_rfl, H3, rfl⟩ : some 3 = some 3 ∧ AEv.storeCells (AHeap.push h (AObj.cells [AV.str [], AV.int IntKind.i64 (Int.ofNat 0), AV.int IntKind.i64 (Int.ofNat 0)] 35 BK.own 0 0)) (AHeap.n h) 0 [AV.str a, AV.int IntKind.i64 x, AV.int IntKind.i64 x2] = some g1 ∧ AV.tup [] = AV.tup []) <| .cons H4 <| .cons H5 <| .cons H5 <| .cons H4 <| .cons H5 <| .cons H5 <| .cons H6 <| .cons H6 <| .cons H7 <| .cons H6 <| .cons H6 <| .cons H8 <| .cons H8 <| .cons H7 <| .cons H8 <| .cons H8 <| .cons H9 <| .cons H9 <| .cons H10 <| .cons H9 <| .cons H9 <| .cons H9 <| .cons H11 <| .cons H11 <| .cons H12 <| .cons H11 <| .cons H13 <| .cons H11 <| .cons H11 <| .cons (by kernel_rfl : (!true) = false) <| .nil
theorem o2k_2 (call : CallT → List AV → AHeap → FRes) (b : Nat) (n : Nat) (i : Nat) (u : Nat) (c : Cap) (w : AV) (a : List UInt8) (x : Int) (x2 : Int) (h : AHeap) (g : AHeap) (g1 : AHeap) 
    (H1 : Nat.le (Nat.succ i) n)
    (H2 : AEv.loadCells h b (0 + i * 3) 3 = some [AV.str a, AV.int IntKind.i64 x, AV.int IntKind.i64 x2])
    (H3 : AEv.storeCells (AHeap.push h (AObj.cells [AV.str [], AV.int IntKind.i64 (Int.ofNat 0), AV.int IntKind.i64 (Int.ofNat 0)] 35 BK.own 0 0)) (AHeap.n h) 0 [AV.str a, AV.int IntKind.i64 x, AV.int IntKind.i64 x2] = some g1)
    (H4 : load1 g1 (AHeap.n h) (0 + 2) = some (AV.int IntKind.i64 x2))
    (H5 : leI (Int.ofNat 1) x2 = true)
    (H6 : leI x2 (Int.ofNat 13) = true)
    (H7 : load1 g1 (AHeap.n h) (0 + 1) = some (AV.int IntKind.i64 x))
    (H8 : leI (Int.ofNat 0) x = true)
    (H9 : ltI x (Int.ofNat 2147483648) = true)
    (H10 : load1 g1 (AHeap.n h) (0 + 0) = some (AV.str a))
    (H11 : leI (Int.ofNat (List.length a)) (Int.ofNat 200) = false) :
    RunF Try.prog Try.f6 none call [1, 1, 1, 1, 1, 0, 1, 0, 0, 1, 0] (SSt.mk [(0, AV.slice b 0 n c), (1, AV.int IntKind.u8 (Int.ofNat u)), (5, w), (9, AV.int IntKind.i64 (Int.ofNat i))] [] Rc.none h) (AEx.nrm)
      (SSt.mk [(0, AV.slice b 0 n c), (1, AV.int IntKind.u8 (Int.ofNat u)), (5, w), (9, AV.int IntKind.i64 (Int.ofNat i))] [] Rc.none g1) :=
  sxF_run [0, 1, 5, 9] (hs := [Hint.v (AV.ptr b (0 + i * 3)), Hint.v (AV.agg [AV.str a, AV.int IntKind.i64 x, AV.int IntKind.i64 x2]), Hint.vh (AV.tup []) g1, Hint.v (AV.int IntKind.i64 x2), Hint.b true, Hint.b true, Hint.v (AV.int IntKind.i64 x2), Hint.b true, Hint.b true, Hint.b true, Hint.b true, Hint.v (AV.int IntKind.i64 x), Hint.b true, Hint.b true, Hint.b true, Hint.b true, Hint.v (AV.int IntKind.i64 x), Hint.b true, Hint.b true, Hint.b true, Hint.b true, Hint.v (AV.str a), Hint.b true, Hint.b true, Hint.b true, Hint.b false, Hint.b false, Hint.b false, Hint.b false, Hint.b false, Hint.b false]) (by kernel_rfl) <| .cons (⟨H1, rfl⟩ : Nat.le (Nat.succ i) n ∧ AV.ptr b (0 + i * 3) = AV.ptr b (0 + i * 3)) <| .cons H2 <| .cons (⟨by kernel_rfl, H3, rfl⟩ : some 3 = some 3 ∧ AEv.storeCells (AHeap.push h (AObj.cells [AV.str [], AV.int IntKind.i64 (Int.ofNat 0), AV.int IntKind.i64 (Int.ofNat 0)] 35 BK.own 0 0)) (AHeap.n h) 0 [AV.str a, AV.int IntKind.i64 x, AV.int IntKind.i64 x2] = some g1 ∧ AV.tup [] = AV.tup []) <| .cons H4 <| .cons H5 <| .cons H5 <| .cons H4 <| .cons H5 <| .cons H5 <| .cons H6 <| .cons H6 <| .cons H7 <| .cons H6 <| .cons H6 <| .cons H8 <| .cons H8 <| .cons H7 <| .cons H8 <| .cons H8 <| .cons H9 <| .cons H9 <| .cons H10 <| .cons H9 <| .cons H9 <| .cons H9 <| .cons H11 <| .cons H11 <| .cons H11 <| .cons H11 <| .cons H11 <| .cons (by kernel_rfl : false = false) <| .nil
theorem o2k_3 (call : CallT → List AV → AHeap → FRes) (b : Nat) (n : Nat) (i : Nat) (u : Nat) (c : Cap) (w : AV) (a : List UInt8) (x : Int) (x2 : Int) (h : AHeap) (g : AHeap) (g1 : AHeap) 
    (H1 : Nat.le (Nat.succ i) n)
    (H2 : AEv.loadCells h b (0 + i * 3) 3 = some [AV.str a, AV.int IntKind.i64 x, AV.int IntKind.i64 x2])
    (H3 : AEv.storeCells (AHeap.push h (AObj.cells [AV.str [], AV.int IntKind.i64 (Int.ofNat 0), AV.int IntKind.i64 (Int.ofNat 0)] 35 BK.own 0 0)) (AHeap.n h) 0 [AV.str a, AV.int IntKind.i64 x, AV.int IntKind.i64 x2] = some g1)
    (H4 : load1 g1 (AHeap.n h) (0 + 2) = some (AV.int IntKind.i64 x2))
    (H5 : leI (Int.ofNat 1) x2 = true)
    (H6 : leI x2 (Int.ofNat 13) = true)
    (H7 : load1 g1 (AHeap.n h) (0 + 1) = some (AV.int IntKind.i64 x))
    (H8 : leI (Int.ofNat 0) x = true)
    (H9 : ltI x (Int.ofNat 2147483648) = false) :
    RunF Try.prog Try.f6 none call [1, 1, 1, 1, 1, 0, 1, 0, 0, 1, 0] (SSt.mk [(0, AV.slice b 0 n c), (1, AV.int IntKind.u8 (Int.ofNat u)), (5, w), (9, AV.int IntKind.i64 (Int.ofNat i))] [] Rc.none h) (AEx.nrm)
      (SSt.mk [(0, AV.slice b 0 n c), (1, AV.int IntKind.u8 (Int.ofNat u)), (5, w), (9, AV.int IntKind.i64 (Int.ofNat i))] [] Rc.none g1) :=
  sxF_run [0, 1, 5, 9] (hs := [Hint.v (AV.ptr b (0 + i * 3)), Hint.v (AV.agg [AV.str a, AV.int IntKind.i64 x, AV.int IntKind.i64 x2]), Hint.vh (AV.tup []) g1, Hint.v (AV.int IntKind.i64 x2), Hint.b true, Hint.b true, Hint.v (AV.int IntKind.i64 x2), Hint.b true, Hint.b true, Hint.b true, Hint.b true, Hint.v (AV.int IntKind.i64 x), Hint.b true, Hint.b true, Hint.b true, Hint.b true, Hint.v (AV.int IntKind.i64 x), Hint.b true, Hint.b true, Hint.b false, Hint.b false, Hint.b false, Hint.b false, Hint.b false, Hint.b false, Hint.b false, Hint.b false, Hint.b false, Hint.b false, Hint.b false]) (by kernel_rfl) <| .cons (⟨H1, rfl⟩ : Nat.le (Nat.succ i) n ∧ AV.ptr b (0 + i * 3) = AV.ptr b (0 + i * 3)) <| .cons H2 <| .cons (⟨by kernel_rfl, H3, rfl⟩ : some 3 = some 3 ∧ AEv.storeCells (AHeap.push h (AObj.cells [AV.str [], AV.int IntKind.i64 (Int.ofNat 0), AV.int IntKind.i64 (Int.ofNat 0)] 35 BK.own 0 0)) (AHeap.n h) 0 [AV.str a, AV.int IntKind.i64 x, AV.int IntKind.i64 x2] = some g1 ∧ AV.tup [] = AV.tup []) <| .cons H4 <| .cons H5 <| .cons H5 <| .cons H4 <| .cons H5 <| .cons H5 <| .cons H6 <| .cons H6 <| .cons H7 <| .cons H6 <| .cons H6 <| .cons H8 <| .cons H8 <| .cons H7 <| .cons H8 <| .cons H8 <| .cons H9 <| .cons H9 <| .cons H9 <| .cons H9 <| .cons H9 <| .cons (by kernel_rfl : false = false) <| .cons (by kernel_rfl : false = false) <| .cons (by kernel_rfl : false = false) <| .cons (by kernel_rfl : false = false) <| .cons (by kernel_rfl : false = false) <| .cons (by kernel_rfl : false = false) <| .nil
theorem o2k_4 (call : CallT → List AV → AHeap → FRes) (b : Nat) (n : Nat) (i : Nat) (u : Nat) (c : Cap) (w : AV) (a : List UInt8) (x : Int) (x2 : Int) (h : AHeap) (g : AHeap) (g1 : AHeap) 
    (H1 : Nat.le (Nat.succ i) n)
    (H2 : AEv.loadCells h b (0 + i * 3) 3 = some [AV.str a, AV.int IntKind.i64 x, AV.int IntKind.i64 x2])
    (H3 : AEv.storeCells (AHeap.push h (AObj.cells [AV.str [], AV.int IntKind.i64 (Int.ofNat 0), AV.int IntKind.i64 (Int.ofNat 0)] 35 BK.own 0 0)) (AHeap.n h) 0 [AV.str a, AV.int IntKind.i64 x, AV.int IntKind.i64 x2] = some g1)
    (H4 : load1 g1 (AHeap.n h) (0 + 2) = some (AV.int IntKind.i64 x2))
    (H5 : leI (Int.ofNat 1) x2 = true)
    (H6 : leI x2 (Int.ofNat 13) = true)
    (H7 : load1 g1 (AHeap.n h) (0 + 1) = some (AV.int IntKind.i64 x))
    (H8 : leI (Int.ofNat 0) x = false) :
    RunF Try.prog Try.f6 none call [1, 1, 1, 1, 1, 0, 1, 0, 0, 1, 0] (SSt.mk [(0, AV.slice b 0 n c), (1, AV.int IntKind.u8 (Int.ofNat u)), (5, w), (9, AV.int IntKind.i64 (Int.ofNat i))] [] Rc.none h) (AEx.nrm)
      (SSt.mk [(0, AV.slice b 0 n c), (1, AV.int IntKind.u8 (Int.ofNat u)), (5, w), (9, AV.int IntKind.i64 (Int.ofNat i))] [] Rc.none g1) :=
  sxF_run [0, 1, 5, 9] (hs := [Hint.v (AV.ptr b (0 + i * 3)), Hint.v (AV.agg [AV.str a, AV.int IntKind.i64 x, AV.int IntKind.i64 x2]), Hint.vh (AV.tup []) g1, Hint.v (AV.int IntKind.i64 x2), Hint.b true, Hint.b true, Hint.v (AV.int IntKind.i64 x2), Hint.b true, Hint.b true, Hint.b true, Hint.b true, Hint.v (AV.int IntKind.i64 x), Hint.b true, Hint.b true, Hint.b false, Hint.b false, Hint.b false, Hint.b false, Hint.b false, Hint.b false, Hint.b false, Hint.b false, Hint.b false, Hint.b false, Hint.b false, Hint.b false, Hint.b false, Hint.b false, Hint.b false]) (by kernel_rfl) <| .cons (⟨H1, rfl⟩ : Nat.le (Nat.succ i) n ∧ AV.ptr b (0 + i * 3) = AV.ptr b (0 + i * 3)) <| .cons H2 <| .cons (⟨by kernel_rfl, H3, rfl⟩ : some 3 = some 3 ∧ AEv.storeCells (AHeap.push h (AObj.cells [AV.str [], AV.int IntKind.i64 (Int.ofNat 0), AV.int IntKind.i64 (Int.ofNat 0)] 35 BK.own 0 0)) (AHeap.n h) 0 [AV.str a, AV.int IntKind.i64 x, AV.int IntKind.i64 x2] = some g1 ∧ AV.tup [] = AV.tup []) <| .cons H4 <| .cons H5 <| .cons H5 <| .cons H4 <| .cons H5 <| .cons H5 <| .cons H6 <| .cons H6 <| .cons H7 <| .cons H6 <| .cons H6 <| .cons H8 <| .cons H8 <| .cons H8 <| .cons H8 <| .cons (by kernel_rfl : false = false) <| .cons (by kernel_rfl : false = false) <| .cons (by kernel_rfl : false = false) <| .cons (by kernel_rfl : false = false) <| .cons (by kernel_rfl : false = false) <| .cons (by kernel_rfl : false = false) <| .cons (by kernel_rfl : false = false) <| .cons (by kernel_rfl : false = false) <| .cons (by kernel_rfl : false = false) <| .cons (by kernel_rfl : false = false) <| .cons (by kernel_rfl : false = false) <| .nil
theorem o2k_5 (call : CallT → List AV → AHeap → FRes) (b : Nat) (n : Nat) (i : Nat) (u : Nat) (c : Cap) (w : AV) (a : List UInt8) (x : Int) (x2 : Int) (h : AHeap) (g : AHeap) (g1 : AHeap) 
    (H1 : Nat.le (Nat.succ i) n)
    (H2 : AEv.loadCells h b (0 + i * 3) 3 = some [AV.str a, AV.int IntKind.i64 x, AV.int IntKind.i64 x2])
    (H3 : AEv.storeCells (AHeap.push h (AObj.cells [AV.str [], AV.int IntKind.i64 (Int.ofNat 0), AV.int IntKind.i64 (Int.ofNat 0)] 35 BK.own 0 0)) (AHeap.n h) 0 [AV.str a, AV.int IntKind.i64 x, AV.int IntKind.i64 x2] = some g1)
    (H4 : load1 g1 (AHeap.n h) (0 + 2) = some (AV.int IntKind.i64 x2))
    (H5 : leI (Int.ofNat 1) x2 = true)
    (H6 : leI x2 (Int.ofNat 13) = false) :
    RunF Try.prog Try.f6 none call [1, 1, 1, 1, 1, 0, 1, 0, 0, 1, 0] (SSt.mk [(0, AV.slice b 0 n c), (1, AV.int IntKind.u8 (Int.ofNat u)), (5, w), (9, AV.int IntKind.i64 (Int.ofNat i))] [] Rc.none h) (AEx.nrm)
      (SSt.mk [(0, AV.slice b 0 n c), (1, AV.int IntKind.u8 (Int.ofNat u)), (5, w), (9, AV.int IntKind.i64 (Int.ofNat i))] [] Rc.none g1) :=
  sxF_run [0, 1, 5, 9] (hs := [Hint.v (AV.ptr b (0 + i * 3)), Hint.v (AV.agg [AV.str a, AV.int IntKind.i64 x, AV.int IntKind.i64 x2]), Hint.vh (AV.tup []) g1, Hint.v (AV.int IntKind.i64 x2), Hint.b true, Hint.b true, Hint.v (AV.int IntKind.i64 x2), Hint.b true, Hint.b true, Hint.b false, Hint.b false, Hint.b false, Hint.b false, Hint.b false, Hint.b false, Hint.b false, Hint.b false, Hint.b false, Hint.b false, Hint.b false, Hint.b false, Hint.b false, Hint.b false, Hint.b false, Hint.b false, Hint.b false, Hint.b false, Hint.b false]) (by kernel_rfl) <| .cons (⟨H1, rfl⟩ : Nat.le (Nat.succ i) n ∧ AV.ptr b (0 + i * 3) = AV.ptr b (0 + i * 3)) <| .cons H2 <| .cons (⟨by kernel_rfl, H3, rfl⟩ : some 3 = some 3 ∧ AEv.storeCells (AHeap.push h (AObj.cells [AV.str [], AV.int IntKind.i64 (Int.ofNat 0), AV.int IntKind.i64 (Int.ofNat 0)] 35 BK.own 0 0)) (AHeap.n h) 0 [AV.str a, AV.int IntKind.i64 x, AV.int IntKind.i64 x2] = some g1 ∧ AV.tup [] = AV.tup []) <| .cons H4 <| .cons H5 <| .cons H5 <| .cons H4 <| .cons H5 <| .cons H5 <| .cons H6 <| .cons H6 <| .cons H6 <| .cons H6 <| .cons (by kernel_rfl : false = false) <| .cons (by kernel_rfl : false = false) <| .cons (by kernel_rfl : false = false) <| .cons (by kernel_rfl : false = false) <| .cons (by kernel_rfl : false = false) <| .cons (by kernel_rfl : false = false) <| .cons (by kernel_rfl : false = false) <| .cons (by kernel_rfl : false = false) <| .cons (by kernel_rfl : false = false) <| .cons (by kernel_rfl : false = false) <| .cons (by kernel_rfl : false = false) <| .cons (by kernel_rfl : false = false) <| .cons (by kernel_rfl : false = false) <| .cons (by kernel_rfl : false = false) <| .cons (by kernel_rfl : false = false) <| .nil
theorem o2k_6 (call : CallT → List AV → AHeap → FRes) (b : Nat) (n : Nat) (i : Nat) (u : Nat) (c : Cap) (w : AV) (a : List UInt8) (x : Int) (x2 : Int) (h : AHeap) (g : AHeap) (g1 : AHeap) 
    (H1 : Nat.le (Nat.succ i) n)
    (H2 : AEv.loadCells h b (0 + i * 3) 3 = some [AV.str a, AV.int IntKind.i64 x, AV.int IntKind.i64 x2])
    (H3 : AEv.storeCells (AHeap.push h (AObj.cells [AV.str [], AV.int IntKind.i64 (Int.ofNat 0), AV.int IntKind.i64 (Int.ofNat 0)] 35 BK.own 0 0)) (AHeap.n h) 0 [AV.str a, AV.int IntKind.i64 x, AV.int IntKind.i64 x2] = some g1)
    (H4 : load1 g1 (AHeap.n h) (0 + 2) = some (AV.int IntKind.i64 x2))
    (H5 : leI (Int.ofNat 1) x2 = false) :
    RunF Try.prog Try.f6 none call [1, 1, 1, 1, 1, 0, 1, 0, 0, 1, 0] (SSt.mk [(0, AV.slice b 0 n c), (1, AV.int IntKind.u8 (Int.ofNat u)), (5, w), (9, AV.int IntKind.i64 (Int.ofNat i))] [] Rc.none h) (AEx.nrm)
      (SSt.mk [(0, AV.slice b 0 n c), (1, AV.int IntKind.u8 (Int.ofNat u)), (5, w), (9, AV.int IntKind.i64 (Int.ofNat i))] [] Rc.none g1) :=
  sxF_run [0, 1, 5, 9] (hs := [Hint.v (AV.ptr b (0 + i * 3)), Hint.v (AV.agg [AV.str a, AV.int IntKind.i64 x, AV.int IntKind.i64 x2]), Hint.vh (AV.tup []) g1, Hint.v (AV.int IntKind.i64 x2), Hint.b false, Hint.b false, Hint.b false, Hint.b false, Hint.b false, Hint.b false, Hint.b false, Hint.b false, Hint.b false, Hint.b false, Hint.b false, Hint.b false, Hint.b false, Hint.b false, Hint.b false, Hint.b false, Hint.b false, Hint.b false, Hint.b false, Hint.b false, Hint.b false, Hint.b false, Hint.b false]) (by kernel_rfl) <| .cons (⟨H1, rfl⟩ : Nat.le (Nat.succ i) n ∧ AV.ptr b (0 + i * 3) = AV.ptr b (0 + i * 3)) <| .cons H2 <| .cons (⟨by kernel_rfl, H3, rfl⟩ : some 3 = some 3 ∧ AEv.storeCells (AHeap.push h (AObj.cells [AV.str [], AV.int IntKind.i64 (Int.ofNat 0), AV.int IntKind.i64 (Int.ofNat 0)] 35 BK.own 0 0)) (AHeap.n h) 0 [AV.str a, AV.int IntKind.i64 x, AV.int IntKind.i64 x2] = some g1 ∧ AV.tup [] = AV.tup []) <| .cons H4 <| .cons H5 <| .cons H5 <| .cons H5 <| .cons H5 <| .cons (by kernel_rfl : false = false) <| .cons (by kernel_rfl : false = false) <| .cons (by kernel_rfl : false = false) <| .cons (by kernel_rfl : false = false) <| .cons (by kernel_rfl : false = false) <| .cons (by kernel_rfl : false = false) <| .cons (by kernel_rfl : false = false) <| .cons (by kernel_rfl : false = false) <| .cons (by kernel_rfl : false = false) <| .cons (by kernel_rfl : false = false) <| .cons (by kernel_rfl : false = false) <| .cons (by kernel_rfl : false = false) <| .cons (by kernel_rfl : false = false) <| .cons (by kernel_rfl : false = false) <| .cons (by kernel_rfl : false = false) <| .cons (by kernel_rfl : false = false) <| .cons (by kernel_rfl : false = false) <| .cons (by kernel_rfl : false = false) <| .cons (by kernel_rfl : false = false) <| .nil
theorem o2p (call : CallT → List AV → AHeap → FRes) (v : AV) (w : AV) (u : Nat) (i : Nat) (h : AHeap) (n_1 : Nat) 
    (H1 : arith BinOp.add IntKind.i64 (Int.ofNat i) (Int.ofNat 1) = some (AV.int IntKind.i64 (Int.ofNat n_1))) :
    RunF Try.prog Try.f6 none call [1, 1, 1, 1, 1, 0, 1, 0, 0, 1, 1] (SSt.mk [(0, v), (1, AV.int IntKind.u8 (Int.ofNat u)), (5, w), (9, AV.int IntKind.i64 (Int.ofNat i))] [] Rc.none h) (AEx.nrm)
      (SSt.mk [(0, v), (1, AV.int IntKind.u8 (Int.ofNat u)), (5, w), (9, AV.int IntKind.i64 (Int.ofNat n_1))] [] Rc.none h) :=
  sxF_run [0, 1, 5, 9] (hs := [Hint.v (AV.int IntKind.i64 (Int.ofNat n_1))]) (by kernel_rfl) <| .cons H1 <| .nil
theorem o2z (call : CallT → List AV → AHeap → FRes) (w : AV) (u : Nat) (h : AHeap)  :
    RunF Try.prog Try.f6 none call [1, 1, 1, 1, 1, 0, 1, 0, 0] (SSt.mk [(0, AV.nilS), (1, AV.int IntKind.u8 (Int.ofNat u)), (5, w), (9, AV.int IntKind.i64 (Int.ofNat 0))] [] Rc.none h) (AEx.exit 2)
      (SSt.mk [(0, AV.nilS), (1, AV.int IntKind.u8 (Int.ofNat u)), (5, w)] [] Rc.none h) :=
  sxF_run [0, 1, 5] (hs := [Hint.b false]) (by kernel_rfl) <| .cons (by kernel_rfl : ltI (Int.ofNat 0) (Int.ofNat 0) = false) <| .nil
theorem m2 (call : CallT → List AV → AHeap → FRes) (v : AV) (u : Nat) (h : AHeap) 
    (H1 : call (CallT.fn 21) [] h = FRes.ret (AV.bool true) h) :
    RunF Try.prog Try.f6 none call [1, 0] (SSt.mk [(0, v), (1, AV.int IntKind.u8 (Int.ofNat u))] [] Rc.none h) (AEx.nrm)
      (SSt.mk [(0, v), (1, AV.int IntKind.u8 (Int.ofNat u))] [] Rc.none h) :=
  sxF_run [0, 1] (hs := [Hint.c (AV.bool true) h, Hint.b false]) (by kernel_rfl) <| .cons H1 <| .cons (by kernel_rfl : (!true) = false) <| .nil
theorem m3 (call : CallT → List AV → AHeap → FRes) (b : Nat) (o : Nat) (n : Nat) (u : Nat) (m : Nat) (c : Cap) (c2 : Cap) (h : AHeap) 
    (H1 : foldA minA (AV.int IntKind.i64 (Int.ofNat n)) [AV.int IntKind.i64 (Int.ofNat 200)] = some (AV.int IntKind.i64 (Int.ofNat m)))
    (H2 : sliceA Try.prog h 22 (AV.slice b o n c) none (some (AV.int IntKind.i64 (Int.ofNat m))) none = some (AV.slice b o m c2)) :
    RunF Try.prog Try.f6 none call [1, 1, 0] (SSt.mk [(0, AV.slice b o n c), (1, AV.int IntKind.u8 (Int.ofNat u))] [] Rc.none h) (AEx.nrm)
      (SSt.mk [(0, AV.slice b o m c2), (1, AV.int IntKind.u8 (Int.ofNat u))] [] Rc.none h) :=
  sxF_run [0, 1] (hs := [Hint.v (AV.int IntKind.i64 (Int.ofNat m)), Hint.v (AV.slice b o m c2)]) (by kernel_rfl) <| .cons H1 <| .cons H2 <| .nil
theorem m3n (call : CallT → List AV → AHeap → FRes) (u : Nat) (h : AHeap) 
    (H1 : sliceA Try.prog h 22 AV.nilS none (some (AV.int IntKind.i64 (Int.ofNat 0))) none = some AV.nilS) :
    RunF Try.prog Try.f6 none call [1, 1, 0] (SSt.mk [(0, AV.nilS), (1, AV.int IntKind.u8 (Int.ofNat u))] [] Rc.none h) (AEx.nrm)
      (SSt.mk [(0, AV.nilS), (1, AV.int IntKind.u8 (Int.ofNat u))] [] Rc.none h) :=
  sxF_run [0, 1] (hs := [Hint.v (AV.int IntKind.i64 (Int.ofNat 0)), Hint.v AV.nilS]) (by kernel_rfl) <| .cons (by kernel_rfl : foldA minA (AV.int IntKind.i64 (Int.ofNat 0)) [AV.int IntKind.i64 (Int.ofNat 200)] = some (AV.int IntKind.i64 (Int.ofNat 0))) <| .cons H1 <| .nil
theorem m4 (call : CallT → List AV → AHeap → FRes) (v : AV) (w : AV) (u : Nat) (h : AHeap) (g : AHeap) 
    (H1 : call (CallT.fn 15) [v] h = FRes.ret w g) :
    RunF Try.prog Try.f6 none call [1, 1, 1, 0] (SSt.mk [(0, v), (1, AV.int IntKind.u8 (Int.ofNat u))] [] Rc.none h) (AEx.nrm)
      (SSt.mk [(0, v), (1, AV.int IntKind.u8 (Int.ofNat u)), (5, w)] [] Rc.none g) :=
  sxF_run [0, 1, 5] (hs := [Hint.c w g]) (by kernel_rfl) <| .cons H1 <| .nil
theorem m5 (call : CallT → List AV → AHeap → FRes) (v : AV) (w : AV) (u : Nat) (h : AHeap) (g : AHeap) 
    (H1 : RunF Try.prog Try.f6 none call [1, 1, 1, 1, 0, 1, 0] (SSt.mk [(6, AV.int IntKind.i64 (Int.ofNat 0)), (0, v), (1, AV.int IntKind.u8 (Int.ofNat u)), (5, w)] [] Rc.none h) (AEx.exit 0) (SSt.mk [(0, v), (1, AV.int IntKind.u8 (Int.ofNat u)), (5, w)] [] Rc.none g)) :
    RunF Try.prog Try.f6 none call [1, 1, 1, 1, 0] (SSt.mk [(0, v), (1, AV.int IntKind.u8 (Int.ofNat u)), (5, w)] [] Rc.none h) (AEx.nrm)
      (SSt.mk [(0, v), (1, AV.int IntKind.u8 (Int.ofNat u)), (5, w)] [] Rc.none g) :=
  sxF_run [0, 1, 5] (hs := [Hint.loop (AEx.exit 0) (SSt.mk [(0, v), (1, AV.int IntKind.u8 (Int.ofNat u)), (5, w)] [] Rc.none g)]) (by kernel_rfl) <| .cons H1 <| .nil
theorem m6 (call : CallT → List AV → AHeap → FRes) (v : AV) (w : AV) (u : Nat) (h : AHeap) (g : AHeap) 
    (H1 : RunF Try.prog Try.f6 none call [1, 1, 1, 1, 1, 0, 1, 0] (SSt.mk [(9, AV.int IntKind.i64 (Int.ofNat 0)), (0, v), (1, AV.int IntKind.u8 (Int.ofNat u)), (5, w)] [] Rc.none h) (AEx.exit 2) (SSt.mk [(0, v), (1, AV.int IntKind.u8 (Int.ofNat u)), (5, w)] [] Rc.none g)) :
    RunF Try.prog Try.f6 none call [1, 1, 1, 1, 1, 0] (SSt.mk [(0, v), (1, AV.int IntKind.u8 (Int.ofNat u)), (5, w)] [] Rc.none h) (AEx.nrm)
      (SSt.mk [(0, v), (1, AV.int IntKind.u8 (Int.ofNat u)), (5, w)] [] Rc.none g) :=
  sxF_run [0, 1, 5] (hs := [Hint.loop (AEx.exit 2) (SSt.mk [(0, v), (1, AV.int IntKind.u8 (Int.ofNat u)), (5, w)] [] Rc.none g)]) (by kernel_rfl) <| .cons H1 <| .nil
theorem m7 (call : CallT → List AV → AHeap → FRes) (v : AV) (w : AV) (u : Nat) (h : AHeap)  :
    RunF Try.prog Try.f6 none call [1, 1, 1, 1, 1, 1, 0] (SSt.mk [(0, v), (1, AV.int IntKind.u8 (Int.ofNat u)), (5, w)] [] Rc.none h) (AEx.nrm)
      (SSt.mk [(0, v), (1, AV.int IntKind.u8 (Int.ofNat u)), (5, w), (11, AV.int IntKind.i64 (Int.ofNat 0))] [] Rc.none h) :=
  sxF_run [0, 1, 5, 11] (hs := []) (by kernel_rfl) <| .nil
theorem m8_1 (call : CallT → List AV → AHeap → FRes) (b : Nat) (o : Nat) (n : Nat) (u : Nat) (k : Nat) (c : Cap) (w : AV) (h : AHeap) 
    (H1 : ltI (Int.ofNat 0) (Int.ofNat n) = true)
    (H2 : evConvert Try.prog 5 3 (AV.int IntKind.u8 (Int.ofNat u)) h = OpRes.val (AV.int IntKind.i64 (Int.ofNat u)) h)
    (H3 : arith BinOp.rem IntKind.i64 (Int.ofNat u) (Int.ofNat n) = some (AV.int IntKind.i64 (Int.ofNat k))) :
    RunF Try.prog Try.f6 none call [1, 1, 1, 1, 1, 1, 1, 0] (SSt.mk [(0, AV.slice b o n c), (1, AV.int IntKind.u8 (Int.ofNat u)), (5, w), (11, AV.int IntKind.i64 (Int.ofNat 0))] [] Rc.none h) (AEx.nrm)
      (SSt.mk [(0, AV.slice b o n c), (5, w), (11, AV.int IntKind.i64 (Int.ofNat k))] [] Rc.none h) :=
  sxF_run [0, 5, 11] (hs := [Hint.b true, Hint.v (AV.int IntKind.i64 (Int.ofNat u)), Hint.v (AV.int IntKind.i64 (Int.ofNat k))]) (by kernel_rfl) <| .cons H1 <| .cons H2 <| .cons H3 <| .nil
theorem m8_2 (call : CallT → List AV → AHeap → FRes) (b : Nat) (o : Nat) (n : Nat) (u : Nat) (k : Nat) (c : Cap) (w : AV) (h : AHeap) 
    (H1 : ltI (Int.ofNat 0) (Int.ofNat n) = false) :
    RunF Try.prog Try.f6 none call [1, 1, 1, 1, 1, 1, 1, 0] (SSt.mk [(0, AV.slice b o n c), (1, AV.int IntKind.u8 (Int.ofNat u)), (5, w), (11, AV.int IntKind.i64 (Int.ofNat 0))] [] Rc.none h) (AEx.nrm)
      (SSt.mk [(0, AV.slice b o n c), (5, w), (11, AV.int IntKind.i64 (Int.ofNat 0))] [] Rc.none h) :=
  sxF_run [0, 5, 11] (hs := [Hint.b false]) (by kernel_rfl) <| .cons H1 <| .nil
theorem m8n (call : CallT → List AV → AHeap → FRes) (u : Nat) (w : AV) (h : AHeap)  :
    RunF Try.prog Try.f6 none call [1, 1, 1, 1, 1, 1, 1, 0] (SSt.mk [(0, AV.nilS), (1, AV.int IntKind.u8 (Int.ofNat u)), (5, w), (11, AV.int IntKind.i64 (Int.ofNat 0))] [] Rc.none h) (AEx.nrm)
      (SSt.mk [(0, AV.nilS), (5, w), (11, AV.int IntKind.i64 (Int.ofNat 0))] [] Rc.none h) :=
  sxF_run [0, 5, 11] (hs := [Hint.b false]) (by kernel_rfl) <| .cons (by kernel_rfl : ltI (Int.ofNat 0) (Int.ofNat 0) = false) <| .nil
theorem m9 (call : CallT → List AV → AHeap → FRes) (b : Nat) (o : Nat) (n : Nat) (k : Nat) (n2 : Nat) (o2 : Nat) (c : Cap) (c2 : Cap) (w : AV) (v1 : AV) (v2 : AV) (w1 : AV) (w2 : AV) (s : List UInt8) (h : AHeap) (h1 : AHeap) (h2 : AHeap) (g1 : AHeap) (g2 : AHeap) (g3 : AHeap) (g4 : AHeap) (g5 : AHeap) (g6 : AHeap) 
    (H1 : sliceA Try.prog h 22 (AV.slice b o n c) (some (AV.int IntKind.i64 (Int.ofNat k))) none none = some (AV.slice b o2 n2 c2))
    (H2 : appendA Try.prog h 22 (some 22) AV.nilS (AV.slice b o2 n2 c2) = some (v1, h1))
    (H3 : appendA Try.prog h1 22 (some 22) v1 (AV.slice b o n c) = some (v2, h2))
    (H4 : call (CallT.fn 15) [v2] h2 = FRes.ret w1 g1)
    (H5 : call (CallT.fn 24) [w1, w] g1 = FRes.ret (AV.bool true) g2)
    (H6 : call (CallT.fn 15) [w] g2 = FRes.ret w2 g3)
    (H7 : call (CallT.fn 24) [w2, w] g3 = FRes.ret (AV.bool true) g4)
    (H8 : call (CallT.fn 17) [v2] g4 = FRes.ret (AV.str s) g5)
    (H9 : call (CallT.fn 17) [AV.slice b o n c] g5 = FRes.ret (AV.str s) g6) :
    RunF Try.prog Try.f6 none call [1, 1, 1, 1, 1, 1, 1, 1] (SSt.mk [(0, AV.slice b o n c), (5, w), (11, AV.int IntKind.i64 (Int.ofNat k))] [] Rc.none h) (AEx.ret)
      (SSt.mk [(4, AV.bool (beqBytes s s))] [] Rc.none g6) :=
  sxF_run [4] (hs := [Hint.v (AV.slice b o2 n2 c2), Hint.vh v1 h1, Hint.vh v2 h2, Hint.c w1 g1, Hint.c (AV.bool true) g2, Hint.b true, Hint.b true, Hint.c w2 g3, Hint.b true, Hint.b true, Hint.c (AV.bool true) g4, Hint.b true, Hint.b true, Hint.b true, Hint.c (AV.str s) g5, Hint.b true, Hint.b true, Hint.c (AV.str s) g6, Hint.b true, Hint.b true]) (by kernel_rfl) <| .cons H1 <| .cons H2 <| .cons H3 <| .cons H4 <| .cons H5 <| .cons (by kernel_rfl : true = true) <| .cons (by kernel_rfl : true = true) <| .cons H6 <| .cons (by kernel_rfl : true = true) <| .cons (by kernel_rfl : true = true) <| .cons H7 <| .cons (by kernel_rfl : true = true) <| .cons (by kernel_rfl : true = true) <| .cons (by kernel_rfl : true = true) <| .cons H8 <| .cons (by kernel_rfl : true = true) <| .cons (by kernel_rfl : true = true) <| .cons H9 <| .cons (by kernel_rfl : true = true) <| .cons (by kernel_rfl : true = true) <| .nil
theorem m9n (call : CallT → List AV → AHeap → FRes) (w : AV) (w1 : AV) (w2 : AV) (s : List UInt8) (h : AHeap) (g1 : AHeap) (g2 : AHeap) (g3 : AHeap) (g4 : AHeap) (g5 : AHeap) (g6 : AHeap) 
    (H1 : sliceA Try.prog h 22 AV.nilS (some (AV.int IntKind.i64 (Int.ofNat 0))) none none = some AV.nilS)
    (H2 : appendA Try.prog h 22 (some 22) AV.nilS AV.nilS = some (AV.nilS, h))
    (H3 : call (CallT.fn 15) [AV.nilS] h = FRes.ret w1 g1)
    (H4 : call (CallT.fn 24) [w1, w] g1 = FRes.ret (AV.bool true) g2)
    (H5 : call (CallT.fn 15) [w] g2 = FRes.ret w2 g3)
    (H6 : call (CallT.fn 24) [w2, w] g3 = FRes.ret (AV.bool true) g4)
    (H7 : call (CallT.fn 17) [AV.nilS] g4 = FRes.ret (AV.str s) g5)
    (H8 : call (CallT.fn 17) [AV.nilS] g5 = FRes.ret (AV.str s) g6) :
    RunF Try.prog Try.f6 none call [1, 1, 1, 1, 1, 1, 1, 1] (SSt.mk [(0, AV.nilS), (5, w), (11, AV.int IntKind.i64 (Int.ofNat 0))] [] Rc.none h) (AEx.ret)
      (SSt.mk [(4, AV.bool (beqBytes s s))] [] Rc.none g6) :=
  sxF_run [4] (hs := [Hint.v AV.nilS, Hint.vh AV.nilS h, Hint.vh AV.nilS h, Hint.c w1 g1, Hint.c (AV.bool true) g2, Hint.b true, Hint.b true, Hint.c w2 g3, Hint.b true, Hint.b true, Hint.c (AV.bool true) g4, Hint.b true, Hint.b true, Hint.b true, Hint.c (AV.str s) g5, Hint.b true, Hint.b true, Hint.c (AV.str s) g6, Hint.b true, Hint.b true]) (by kernel_rfl) <| .cons H1 <| .cons H2 <| .cons H2 <| .cons H3 <| .cons H4 <| .cons (by kernel_rfl : true = true) <| .cons (by kernel_rfl : true = true) <| .cons H5 <| .cons (by kernel_rfl : true = true) <| .cons (by kernel_rfl : true = true) <| .cons H6 <| .cons (by kernel_rfl : true = true) <| .cons (by kernel_rfl : true = true) <| .cons (by kernel_rfl : true = true) <| .cons H7 <| .cons (by kernel_rfl : true = true) <| .cons (by kernel_rfl : true = true) <| .cons H8 <| .cons (by kernel_rfl : true = true) <| .cons (by kernel_rfl : true = true) <| .nil
theorem sel_2n (call : CallT → List AV → AHeap → FRes) (b : Nat) (c : Cap) (h : AHeap)  :
    RunF Try.prog Try.f24 none call [1, 1, 0, 1, 0, 0] (SSt.mk [(0, AV.slice b 0 0 c), (5, AV.int IntKind.i64 (Int.ofNat 0))] [] Rc.none h) (AEx.exit 0)
      (SSt.mk [] [] Rc.none h) :=
  sxF_run [] (hs := [Hint.b false]) (by kernel_rfl) <| .cons (by kernel_rfl : ltI (Int.ofNat 0) (Int.ofNat 0) = false) <| .nil
theorem m1 (call : CallT → List AV → AHeap → FRes) (v : AV) (u : Nat) (h : AHeap)  :
    RunF Try.prog Try.f6 none call [0] (SSt.mk [(0, v), (1, AV.int IntKind.u8 (Int.ofNat u))] [] Rc.none h) (AEx.nrm)
      (SSt.mk [(0, v), (1, AV.int IntKind.u8 (Int.ofNat u))] [] Rc.none h) :=
  sxF_run [0, 1] (hs := []) (by kernel_rfl) <| .nil


/-! ### Lists that are read -/
def RowR (h : AHeap) (v : AV) (ds : List Dg) : Prop :=
  (v = .nilS ∧ ds = []) ∨ ∃ b c, v = .slice b 0 ds.length c ∧ (0 < ds.length → b < h.n) ∧ ∀ i (hi : i < ds.length), AEv.loadCells h b (0 + i * 3) 3 = some (encD ds[i])
theorem RowR.mono {B : Nat} {h h' : AHeap} {v : AV} {ds : List Dg} (hr : RowR h v ds) (e : Ext B h h') (hB : h.n ≤ B) : RowR h' v ds := by
  rcases hr with hr | ⟨b, c, hv, hb, hl⟩
  · exact .inl hr
  · refine .inr ⟨b, c, hv, fun h0 => Nat.lt_of_lt_of_le (hb h0) e.n, fun i hi => ?_⟩
    have := hl i hi
    simp only [AEv.loadCells] at this ⊢
    rw [e.get b (Nat.lt_of_lt_of_le (hb (by omega)) hB)]; exact this
theorem SlD.rowR {B : Nat} {h : AHeap} {v : AV} {ds : List Dg} (hr : SlD B h v ds) : RowR h v ds := by
  rcases hr with ⟨rfl, rfl | ⟨b, rfl, _⟩⟩ | ⟨b, rest, rfl, hg, _, hb⟩
  · exact .inl ⟨rfl, rfl⟩
  · exact .inr ⟨b, _, rfl, fun h => by simp at h, fun i hi => by simp at hi⟩
  · exact .inr ⟨b, _, rfl, fun _ => hb, fun i hi => row_load encD_len hg hi (by omega)⟩
theorem SlD.rowIn {B : Nat} {h : AHeap} {v : AV} {ds : List Dg} (hr : SlD B h v ds) : RowIn h v ds := by
  rcases hr with ⟨rfl, rfl | ⟨b, rfl, hb, hg⟩⟩ | ⟨b, rest, rfl, hg, _, hb⟩
  · exact .inl ⟨rfl, rfl⟩
  · refine .inr ⟨b, 0, _, rfl, hb, fun h' e => ?_⟩
    simp only [srcCells, AEv.loadCells, e, hg]; rfl
  · refine .inr ⟨b, 0, _, rfl, hb, fun h' e => ?_⟩
    have := load_row (h := h') (xs := rowL encD ds) (rest := rest) (e.trans hg)
    rw [rowL_len encD_len] at this
    simp only [srcCells, this]
theorem SlD.mono {B B' : Nat} {h h' : AHeap} {v : AV} {ds : List Dg} (hr : SlD B h v ds) (e : Ext B' h h') (hB : h.n ≤ B') : SlD B h' v ds := by
  rcases hr with ⟨rfl, rfl | ⟨b, rfl, hb, hg⟩⟩ | ⟨b, rest, rfl, hg, hB2, hb⟩
  · exact .inl ⟨rfl, .inl rfl⟩
  · exact .inl ⟨rfl, .inr ⟨b, rfl, Nat.lt_of_lt_of_le hb e.n, (e.get b (by omega)).trans hg⟩⟩
  · exact .inr ⟨b, rest, rfl, (e.get b (by omega)).trans hg, hB2, Nat.lt_of_lt_of_le hb e.n⟩
theorem RowIn.mono {B : Nat} {h h' : AHeap} {v : AV} {ds : List Dg} (hr : RowIn h v ds) (e : Ext B h h') (hB : h.n ≤ B) : RowIn h' v ds := by
  rcases hr with hr | ⟨b, off, c, hv, hb, hs⟩
  · exact .inl hr
  · exact .inr ⟨b, off, c, hv, Nat.lt_of_lt_of_le hb e.n, fun h2 h3 => hs h2 (h3.trans (e.get b (by omega)))⟩

theorem hs_loop (call : CallT → List AV → AHeap → FRes) (b p t n : Nat) (c : Cap) (ds : List Dg) (d : Dg) (hn : ds.length = n) (hB : n < 90000) : ∀ (q i : Nat) (h : AHeap), n - i = q → i ≤ n → (0 < n → b < h.n) → (∀ i (hi : i < ds.length), AEv.loadCells h b (0 + i * 3) 3 = some (encD ds[i])) → h.get p = some (.cells (encD d) t .own 0 0) →
    ∃ h', Ext h.n h h' ∧ ((d ∈ ds.drop i ∧ LoopF Try.prog Try.f25 none call [1, 0, 1, 0] (q + 1) ⟨[(0, .slice b 0 n c), (3, .ptr p 0), (5, .int .i64 (Int.ofNat i))], [], .none, h⟩ .ret ⟨[(4, .bool true)], [], .none, h'⟩)
      ∨ (d ∉ ds.drop i ∧ LoopF Try.prog Try.f25 none call [1, 0, 1, 0] (q + 1) ⟨[(0, .slice b 0 n c), (3, .ptr p 0), (5, .int .i64 (Int.ofNat i))], [], .none, h⟩ (.exit 0) ⟨[], [], .none, h'⟩))
  | 0, i, h, hq, hi, hb, hl, hp => by
    obtain rfl : i = n := by omega
    have hd : ds.drop i = [] := List.drop_eq_nil_of_le (by omega)
    exact ⟨h, Ext.refl _ _, .inr ⟨by rw [hd]; simp, .exit (RunP.post (hsl_3 _ _ _ _ _ _ _ ([]) ([]) (0) (0) (0) (0) (true) _ (lt_f (by omega))) trivial) (by simp)⟩⟩
  | q + 1, i, h, hq, hi, hb, hl, hp => by
    have hii : i < ds.length := by omega
    have hdr : ds.drop i = ds[i] :: ds.drop (i + 1) := List.drop_eq_getElem_cons hii
    have l1 : AEv.loadCells (h.room 6) b (0 + i * 3) 3 = some (encD ds[i]) := hl i hii
    have l2 : AEv.loadCells (h.room 6) p 0 3 = some (encD d) := ldc (groom hp) rfl
    have bn := bin_eq (h.room 6) (Operand.tmp 15) (Operand.tmp 16) ds[i] d
    cases hc : eqB ds[i] d with
    | true =>
      rw [hc] at bn
      have he := (eqB_iff _ _).1 hc
      refine ⟨h.room 6, Ext.roomR (Ext.refl _ _), .inl ⟨by rw [hdr, he]; simp, LoopF.exit (e := .ret) (n := q + 1) (RunP.post (hsl_1 _ _ _ _ _ _ _ _ _ _ _ _ _ _ _ (lt_t (by omega)) (by show (_ : Nat) ≤ _; omega) (l1) (l2) (bn) rfl) ⟨rfl, trivial⟩) (by simp)⟩⟩
    | false =>
      rw [hc] at bn
      have he : ¬ ds[i] = d := fun e => by rw [(eqB_iff _ _).2 e] at hc; cases hc
      obtain ⟨h', x, hh⟩ := hs_loop call b p t n c ds d hn hB q (i + 1) (h.room 6) (by omega) (by omega) (fun h0 => Nat.lt_of_lt_of_le (hb h0) (by simp)) (fun j hj => hl j hj) hp
      have s1 : RunF Try.prog Try.f25 none call ([1, 0, 1, 0] ++ [0]) ⟨[(0, .slice b 0 n c), (3, .ptr p 0), (5, .int .i64 (Int.ofNat i))], [], .none, h⟩ .nrm ⟨[(0, .slice b 0 n c), (3, .ptr p 0), (5, .int .i64 (Int.ofNat (i + 1)))], [], .none, h.room 6⟩ := (hsl_2 _ _ _ _ _ _ _ _ _ _ _ _ _ _ _ _ (lt_t (by omega)) (by show (_ : Nat) ≤ _; omega) (l1) (l2) (bn) rfl (add_n (by omega)))
      refine ⟨h', (Ext.roomR (Ext.refl _ _)).trans (by simp) x, ?_⟩
      rcases hh with ⟨h1, h2⟩ | ⟨h1, h2⟩
      · exact .inl ⟨by rw [hdr]; exact List.mem_cons_of_mem _ h1, .step s1 h2⟩
      · exact .inr ⟨by rw [hdr]; simp only [List.mem_cons, not_or]; exact ⟨fun e => he e.symm, h1⟩, .step s1 h2⟩
theorem has26_c (m : Nat) (v : AV) (ds : List Dg) (d : Dg) (h : AHeap) (hr : RowR h v ds) (hb : ds.length < 90000) : ∃ h', C (m + 1) (.fn 25) [v, .agg (encD d)] h = .ret (.bool (decide (d ∈ ds))) h' ∧ Ext h.n h h' := by
  obtain ⟨g, hg⟩ : ∃ g, g = h.push (.cells (encD d) 35 .own 0 0) := ⟨_, rfl⟩
  have x0 : Ext h.n h g := by rw [hg]; exact (by repeat (first | with_reducible exact Ext.refl _ _ | with_reducible assumption | with_reducible refine Ext.roomR ?_ | with_reducible refine Ext.setR (by first | omega | (simp only [AHeap.n_push, AHeap.n_set, AHeap.n_room]; omega)) ?_ | with_reducible refine Ext.pushR (by first | omega | (simp only [AHeap.n_push, AHeap.n_set, AHeap.n_room]; omega)) ?_ | with_reducible refine Ext.callR (by with_reducible assumption) (by first | omega | (simp only [AHeap.n_push, AHeap.n_set, AHeap.n_room]; omega)) ?_ | with_reducible refine Ext.callX (by with_reducible assumption) (by first | omega | (simp only [AHeap.n_push, AHeap.n_set, AHeap.n_room]; omega)) (by first | omega | (simp only [AHeap.n_push, AHeap.n_set, AHeap.n_room]; omega)) ?_ | refine Ext.setR (by first | omega | (simp only [AHeap.n_push, AHeap.n_set, AHeap.n_room]; omega)) ?_))
  have hp : g.get h.n = some (.cells (encD d) 35 .own 0 0) := by rw [hg]; exact gtop rfl
  rcases hr.mono x0 (Nat.le_refl _) with ⟨rfl, rfl⟩ | ⟨b, c, rfl, hbn, hl⟩
  · have l0 : LoopF Try.prog Try.f25 none (C m) [1, 0, 1, 0] (0 + 1) ⟨[(0, .nilS), (5, .int .i64 (Int.ofNat 0))], [], .none, g⟩ (.exit 0) ⟨[], [], .none, g⟩ := .exit (hsz (C m) g) (by simp)
    have loop := LoopF.run (p := [1, 0, 1, 0]) (by kernel_rfl) l0 (by omega)
    refine ⟨g, ?_, x0⟩
    rw [show decide (d ∈ ([] : List Dg)) = false by simp]
    have key := hs (C m) .nilS d.1 d.2.1 d.2.2 true h g (by rw [hg] at loop ⊢; exact RunP.pre loop ⟨rfl, rfl, trivial⟩ rfl rfl rfl)
    exact fn_runF (intr := Ii) (n := m) (args := [.nilS, .agg (encD d)]) Try.func25 (by kernel_rfl) rfl (by kernel_rfl) key (.inl rfl) (by kernel_rfl)
  · obtain ⟨h', x, hh⟩ := hs_loop (C m) b h.n 35 ds.length c ds d rfl hb ds.length 0 g rfl (by omega) hbn hl hp
    have xe : Ext h.n h h' := x0.trans x0.n x
    rcases hh with ⟨h1, h2⟩ | ⟨h1, h2⟩
    · rw [show decide (d ∈ ds) = true by simpa using h1]
      have loop := LoopF.run (p := [1, 0, 1, 0]) (by kernel_rfl) h2 (by omega)
      have key := hsr (C m) (.slice b 0 ds.length c) d.1 d.2.1 d.2.2 true h h' (by rw [hg] at loop; exact RunP.pre loop ⟨rfl, rfl, rfl, trivial⟩ rfl rfl rfl)
      exact ⟨h', fn_runF (intr := Ii) (n := m) (args := [.slice b 0 ds.length c, .agg (encD d)]) Try.func25 (by kernel_rfl) rfl (by kernel_rfl) key (.inl rfl) (by kernel_rfl), xe⟩
    · rw [show decide (d ∈ ds) = false by simpa using h1]
      have loop := LoopF.run (p := [1, 0, 1, 0]) (by kernel_rfl) h2 (by omega)
      have key := hs (C m) (.slice b 0 ds.length c) d.1 d.2.1 d.2.2 true h h' (by rw [hg] at loop; exact RunP.pre loop ⟨rfl, rfl, rfl, trivial⟩ rfl rfl rfl)
      exact ⟨h', fn_runF (intr := Ii) (n := m) (args := [.slice b 0 ds.length c, .agg (encD d)]) Try.func25 (by kernel_rfl) rfl (by kernel_rfl) key (.inl rfl) (by kernel_rfl), xe⟩
theorem se_loop (call : CallT → List AV → AHeap → FRes) (b b2 n : Nat) (c c2 : Cap) (ds : List Dg) (hn : ds.length = n) (hB : n < 90000) : ∀ (q i : Nat) (h : AHeap), n - i = q → i ≤ n → (∀ i (hi : i < ds.length), AEv.loadCells h b (0 + i * 3) 3 = some (encD ds[i])) → (∀ i (hi : i < ds.length), AEv.loadCells h b2 (0 + i * 3) 3 = some (encD ds[i])) →
    ∃ h', Ext h.n h h' ∧ LoopF Try.prog Try.f24 none call [1, 1, 0, 1, 0] (q + 1) ⟨[(0, .slice b 0 n c), (1, .slice b2 0 n c2), (5, .int .i64 (Int.ofNat i))], [], .none, h⟩ (.exit 0) ⟨[], [], .none, h'⟩
  | 0, i, h, hq, hi, hl, hl2 => by
    obtain rfl : i = n := by omega
    exact ⟨h, Ext.refl _ _, .exit (RunP.post (sel_2 _ _ _ _ _ _ _ _ _ _ ([]) (0) (0) _ (lt_f (by omega))) trivial) (by simp)⟩
  | q + 1, i, h, hq, hi, hl, hl2 => by
    have hii : i < ds.length := by omega
    have l1 : AEv.loadCells (h.room 9) b (0 + i * 3) 3 = some (encD ds[i]) := hl i hii
    have l2 : AEv.loadCells (h.room 9) b2 (0 + i * 3) 3 = some (encD ds[i]) := hl2 i hii
    have bn := bin_ne (h.room 9) (Operand.tmp 20) (Operand.tmp 24) ds[i] ds[i]
    rw [(eqB_iff _ _).2 rfl] at bn
    obtain ⟨h', x, l⟩ := se_loop call b b2 n c c2 ds hn hB q (i + 1) (h.room 9) (by omega) (by omega) (fun j hj => hl j hj) (fun j hj => hl2 j hj)
    refine ⟨h', (Ext.roomR (Ext.refl _ _)).trans (by simp) x, .step ?_ l⟩
    exact (sel_1 _ _ _ _ _ _ _ _ _ _ _ _ _ _ _ (lt_t (by omega)) (by show (_ : Nat) ≤ _; omega) (l1) (by show (_ : Nat) ≤ _; omega) (l2) (bn) (add_n (by omega)))
/-- Two lists of the same ones are the same. -/
theorem same26_c (m : Nat) (v w : AV) (ds : List Dg) (h : AHeap) (hr : RowR h v ds) (hw : RowR h w ds) (hb : ds.length < 90000) : ∃ h', C (m + 1) (.fn 24) [v, w] h = .ret (.bool true) h' ∧ Ext h.n h h' := by
  rcases hr with ⟨rfl, rfl⟩ | ⟨b, c, rfl, _, hl⟩
  · have l0 : LoopF Try.prog Try.f24 none (C m) [1, 1, 0, 1, 0] (0 + 1) ⟨[(0, .nilS), (5, .int .i64 (Int.ofNat 0))], [], .none, h⟩ (.exit 0) ⟨[], [], .none, h⟩ := .exit (sez (C m) h) (by simp)
    have loop := LoopF.run (p := [1, 1, 0, 1, 0]) (by kernel_rfl) l0 (by omega)
    rcases hw with ⟨rfl, _⟩ | ⟨b2, c2, rfl, _, hl2⟩
    · exact ⟨h, fn_runF (intr := Ii) (n := m) (args := [.nilS, .nilS]) Try.func24 (by kernel_rfl) rfl (by kernel_rfl) (se4 (C m) h h (RunP.pre loop ⟨rfl, rfl, trivial⟩ rfl rfl rfl)) (.inl rfl) (by kernel_rfl), Ext.refl _ _⟩
    · exact ⟨h, fn_runF (intr := Ii) (n := m) (args := [.nilS, .slice b2 0 0 c2]) Try.func24 (by kernel_rfl) rfl (by kernel_rfl) (se3_2 (C m) b2 0 0 c2 h h rfl (RunP.pre loop ⟨rfl, rfl, trivial⟩ rfl rfl rfl)) (.inl rfl) (by kernel_rfl), Ext.refl _ _⟩
  · rcases hw with ⟨rfl, rfl⟩ | ⟨b2, c2, rfl, _, hl2⟩
    · have hl0 : ∀ (i : Nat) (hi : i < ([] : List Dg).length), AEv.loadCells h b (0 + i * 3) 3 = some (encD ([] : List Dg)[i]) := fun i hi => by simp at hi
      have key : RunF Try.prog Try.f24 none (C m) [1, 1, 0, 1, 0] ⟨[(0, .slice b 0 0 c), (1, .nilS), (5, .int .i64 (Int.ofNat 0))], [], .none, h⟩ (.exit 0) ⟨[], [], .none, h⟩ :=
        LoopF.run (p := [1, 1, 0, 1, 0]) (by kernel_rfl) (LoopF.exit (n := 0) (RunP.pre (sel_2n (C m) b c h) ⟨rfl, rfl, trivial⟩ rfl rfl rfl) (by simp)) (by omega)
      exact ⟨h, fn_runF (intr := Ii) (n := m) (args := [.slice b 0 0 c, .nilS]) Try.func24 (by kernel_rfl) rfl (by kernel_rfl) (se2_2 (C m) b 0 0 c h h rfl (RunP.pre key ⟨rfl, rfl, rfl, trivial⟩ rfl rfl rfl)) (.inl rfl) (by kernel_rfl), Ext.refl _ _⟩
    · obtain ⟨h', x, l⟩ := se_loop (C m) b b2 ds.length c c2 ds rfl hb ds.length 0 h rfl (by omega) hl hl2
      have loop := LoopF.run (p := [1, 1, 0, 1, 0]) (by kernel_rfl) l (by omega)
      exact ⟨h', fn_runF (intr := Ii) (n := m) (args := [.slice b 0 ds.length c, .slice b2 0 ds.length c2]) Try.func24 (by kernel_rfl) rfl (by kernel_rfl) (se1_2 (C m) b ds.length ds.length b2 0 0 c c2 h h' (by rw [eqI_t rfl]; rfl) (RunP.pre loop ⟨rfl, rfl, rfl, trivial⟩ rfl rfl rfl)) (.inl rfl) (by kernel_rfl), x⟩
end Go.Proofs.Wire

namespace Go.Proofs.Wire
open Go AEv Go.Proofs Go.Proofs.Enc
set_option maxRecDepth 100000
set_option maxHeartbeats 3000000

/-! ### DiagOrder: its loops -/
theorem nth_dropN {α : Type} : ∀ (o j : Nat) (l : List α), nth (o + j) l = nth j (dropN o l)
  | 0, j, l => by rw [Nat.zero_add]; rfl
  | o + 1, j, [] => by cases j <;> (rw [show o + 1 + 0 = o + 1 from rfl] <;> rfl) <;> rfl
  | o + 1, j, x :: l => by rw [show o + 1 + j = (o + j) + 1 by omega]; exact nth_dropN o j l
theorem load_field {h : AHeap} {b off : Nat} {d : Dg} (hl : AEv.loadCells h b off 3 = some (encD d)) : load1 h b (off + 0) = some (.str d.1) ∧ load1 h b (off + 1) = some (.int .i64 d.2.1) ∧ load1 h b (off + 2) = some (.int .i64 d.2.2) := by
  unfold AEv.loadCells at hl
  split at hl
  · rename_i cs e k lo up hg
    have key : ∀ l : List AV, takeN 3 l = some (encD d) → nth 0 l = some (.str d.1) ∧ nth 1 l = some (.int .i64 d.2.1) ∧ nth 2 l = some (.int .i64 d.2.2) := by
      intro l h
      rcases l with _ | ⟨x, _ | ⟨y, _ | ⟨z, l⟩⟩⟩
      · cases h
      · cases h
      · cases h
      · simp only [takeN, encD, Option.some.injEq, List.cons.injEq] at h
        obtain ⟨rfl, rfl, rfl, _⟩ := h
        exact ⟨rfl, rfl, rfl⟩
    obtain ⟨k0, k1, k2⟩ := key _ hl
    rw [← nth_dropN] at k0 k1 k2
    simp only [load1, hg]
    exact ⟨k0, k1, k2⟩
  · cases hl
theorem mayB_nat2 {d : Dg} (h : mayB d = true) : ∃ (a : List UInt8) (x x2 : Nat), d = (a, Int.ofNat x, Int.ofNat x2) ∧ x ≤ 2147483647 ∧ x2 ≤ 13 ∧ a.length ≤ 200 ∧ 1 ≤ x2 := by
  obtain ⟨a, x, x2, rfl, h1, h2, h3⟩ := mayB_nat h
  refine ⟨a, x, x2, rfl, h1, h2, h3, ?_⟩
  simp only [mayB, Bool.and_eq_true, leI, decide_eq_true_eq] at h
  have e1 : Int.ofNat 1 = 1 := rfl
  have e2 : Int.ofNat x2 = (x2 : Int) := rfl
  have := h.1
  rw [e1, e2] at this
  omega
theorem o1_loop (m u b n : Nat) (c : Cap) (v : AV) (l ds : List Dg) (hn : ds.length = n) (hB : n < 90000) (hlb : l.length < 90000) (hmay : ∀ d ∈ ds, mayB d = true ∧ d ∈ l) (hrise : Rise ds) : ∀ (q i : Nat) (h : AHeap), n - i = q → i ≤ n → RowR h v l → (0 < n → b < h.n) → (∀ i (hi : i < ds.length), AEv.loadCells h b (0 + i * 3) 3 = some (encD ds[i])) →
    ∃ h', Ext h.n h h' ∧ LoopF Try.prog Try.f6 none (C (m + 1)) [1, 1, 1, 1, 0, 1, 0] (q + 1) ⟨[(0, v), (1, .int .u8 (Int.ofNat u)), (5, .slice b 0 n c), (6, .int .i64 (Int.ofNat i))], [], .none, h⟩ (.exit 0) ⟨[(0, v), (1, .int .u8 (Int.ofNat u)), (5, .slice b 0 n c)], [], .none, h'⟩
  | 0, i, h, hq, hi, hr, hb, hl => by
    obtain rfl : i = n := by omega
    exact ⟨h, Ext.refl _ _, .exit (RunP.post (o1_16 _ _ _ _ _ _ _ _ (h) (lt_f (by omega))) ⟨rfl, rfl, rfl, trivial⟩) (by simp)⟩
  | q + 1, i, h, hq, hi, hr, hb, hl => by
    have hii : i < ds.length := by omega
    have hbn : b < h.n := hb (by omega)
    obtain ⟨hm, hin⟩ := hmay ds[i] (List.getElem_mem hii)
    obtain ⟨a, x, x2, hd, hx, hx2, ha, hx1⟩ := mayB_nat2 hm
    have ld := hl i hii
    obtain ⟨f0, f1, f2⟩ := load_field ld
    rw [hd] at ld f0 f1 f2
    simp only at f0 f1 f2
    have hin' : decide ((a, Int.ofNat x, Int.ofNat x2) ∈ l) = true := by rw [← hd]; simpa using hin
    by_cases h0 : i = 0
    · subst h0
      obtain ⟨g, vv, xg⟩ := has26_c m v l (a, Int.ofNat x, Int.ofNat x2) h hr hlb
      rw [hin'] at vv
      obtain ⟨h', x', lp⟩ := o1_loop m u b n c v l ds hn hB hlb hmay hrise q 1 g (by omega) (by omega) (hr.mono xg (Nat.le_refl _)) (fun _ => Nat.lt_of_lt_of_le hbn xg.n) (fun j hj => by
        have := hl j hj; simp only [AEv.loadCells] at this ⊢; rw [xg.get b hbn]; exact this)
      refine ⟨h', xg.trans xg.n x', .step ?_ lp⟩
      exact (o1_15 _ _ _ _ _ _ _ _ (h) _ _ _ _ _ _ _ _ _ (lt_t (by omega)) (by show (_ : Nat) ≤ _; omega) (f2) (lt_f (by omega)) (lt_f (by omega)) (f1) (le_f (by omega)) (f0) (lt_f (by omega)) (lt_f (by omega)) (ld) (vv) (rfl) (add_n (by omega)))
    · have hpi : i - 1 < ds.length := by omega
      obtain ⟨hmp, _⟩ := hmay ds[i - 1] (List.getElem_mem hpi)
      obtain ⟨pa, px, px2, hpd, _, _, _, _⟩ := mayB_nat2 hmp
      have lp1 := hl (i - 1) hpi
      rw [hpd] at lp1
      have hlt : ltD (pa, Int.ofNat px, Int.ofNat px2) (a, Int.ofNat x, Int.ofNat x2) := by
        rw [← hd, ← hpd]
        exact List.pairwise_iff_getElem.1 hrise (i - 1) i hpi hii (by omega)
      obtain ⟨Z, hZ⟩ : ∃ Z, Z = AObj.cells [.str [], .int .i64 (Int.ofNat 0), .int .i64 (Int.ofNat 0)] 35 .own 0 0 := ⟨_, rfl⟩
      obtain ⟨g0, hg0⟩ : ∃ g0, g0 = ((h.room 13).set (h.n + 9) (some Z)).set (h.n + 10) (some Z) := ⟨_, rfl⟩
      obtain ⟨g1, hg1⟩ : ∃ g1, g1 = g0.set (h.n + 9) (some (.cells [.str pa, .int .i64 (Int.ofNat px), .int .i64 (Int.ofNat px2)] 35 .own 0 0)) := ⟨_, rfl⟩
      obtain ⟨g2, hg2⟩ : ∃ g2, g2 = g1.set (h.n + 10) (some (.cells [.str a, .int .i64 (Int.ofNat x), .int .i64 (Int.ofNat x2)] 35 .own 0 0)) := ⟨_, rfl⟩
      have z9 : g0.get (h.n + 9) = some Z := by rw [hg0]; exact gother (by omega) (gsame rfl)
      have z10 : g1.get (h.n + 10) = some Z := by rw [hg1]; refine gother (by omega) ?_; rw [hg0]; exact gsame rfl
      have c9 : g2.get (h.n + 9) = some (.cells [.str pa, .int .i64 (Int.ofNat px), .int .i64 (Int.ofNat px2)] 35 .own 0 0) := by rw [hg2]; refine gother (by omega) ?_; rw [hg1]; exact gsame rfl
      have c10 : g2.get (h.n + 10) = some (.cells [.str a, .int .i64 (Int.ofNat x), .int .i64 (Int.ofNat x2)] 35 .own 0 0) := by rw [hg2]; exact gsame rfl
      have b0 : g0.get b = h.get b := by rw [hg0]; exact gother (by omega) (gother (by omega) rfl)
      have b1 : g1.get b = h.get b := by rw [hg1]; exact gother (by omega) b0
      have b2 : g2.get b = h.get b := by rw [hg2]; exact gother (by omega) b1
      have same : ∀ {H : AHeap} {off : Nat} {r : Option (List AV)}, H.get b = h.get b → AEv.loadCells h b off 3 = r → AEv.loadCells H b off 3 = r := fun {H off r} e k => by
        simp only [AEv.loadCells] at k ⊢; rw [e]; exact k
      have s15 : AEv.storeCells g0 (h.n + 9) 0 [.str pa, .int .i64 (Int.ofNat px), .int .i64 (Int.ofNat px2)] = some g1 := by rw [hg1]; exact stc (z9.trans (by rw [hZ])) rfl rfl
      have s16 : AEv.storeCells g1 (h.n + 10) 0 [.str a, .int .i64 (Int.ofNat x), .int .i64 (Int.ofNat x2)] = some g2 := by rw [hg2]; exact stc (z10.trans (by rw [hZ])) rfl rfl
      have r13 : (h.room 13).get b = h.get b := rfl
      have x2e : Ext h.n h g2 := by
        rw [hg2, hg1, hg0]
        exact Ext.setR (by omega) (Ext.setR (by omega) (Ext.setR (by omega) (Ext.setR (by omega) (Ext.roomR (Ext.refl _ _)))))
      obtain ⟨g, vv, xg⟩ := has26_c m v l (a, Int.ofNat x, Int.ofNat x2) g2 (hr.mono x2e (Nat.le_refl _)) hlb
      rw [hin'] at vv
      have xe : Ext h.n h g := x2e.trans x2e.n xg
      obtain ⟨h', x', lp⟩ := o1_loop m u b n c v l ds hn hB hlb hmay hrise q (i + 1) g (by omega) (by omega) (hr.mono xe (Nat.le_refl _)) (fun _ => Nat.lt_of_lt_of_le hbn xe.n) (fun j hj => by
        have := hl j hj; simp only [AEv.loadCells] at this ⊢; rw [xe.get b hbn]; exact this)
      refine ⟨h', xe.trans xe.n x', .step ?_ lp⟩
      have l13 := same r13 lp1
      have l14 := same r13 ld
      have l17 := same b0 lp1
      have l18 := same b1 ld
      have l19 := same b0 ld
      have l31 := same b2 ld
      rw [hg0, hZ] at s15 l17 l19
      rcases hlt with hlt | ⟨hpa, hlt⟩
      · have e22 : ltBytes a pa = false := by
          cases e : ltBytes a pa with
          | false => rfl
          | true => have := ltB_trans _ _ _ hlt e; rw [ltB_irrefl] at this; cases this
        have e23 : beqBytes pa a = false := by
          cases e : beqBytes pa a with
          | false => rfl
          | true =>
            rw [beqBytes_eq] at e
            have e' : pa = a := by simpa using e
            simp only at hlt
            rw [e', ltB_irrefl] at hlt; cases hlt
        exact (o1_13 _ _ _ _ _ _ _ _ (h) _ _ _ _ _ _ _ _ _ _ _ _ _ _ _ _ _ _ _ _ (lt_t (by omega)) (by show (_ : Nat) ≤ _; omega) (f2) (lt_f (by omega)) (lt_f (by omega)) (f1) (le_f (by omega)) (f0) (lt_f (by omega)) (lt_t (by omega)) (sub_n (by omega) (by omega)) (by show (_ : Nat) ≤ _; omega) (l13) (l14) (s15) (s16) (l17) (l18) (l19) (ld1 c9 rfl) (ld1 c10 rfl) (e22) (e23) (l31) (vv) (rfl) (add_n (by omega)))
      · simp only at hpa hlt
        subst hpa
        have f3 : Int.ofNat px = (px : Int) := rfl
        have f4 : Int.ofNat x = (x : Int) := rfl
        have f5 : Int.ofNat px2 = (px2 : Int) := rfl
        have f6 : Int.ofNat x2 = (x2 : Int) := rfl
        rw [f3, f4, f5, f6] at hlt
        rcases hlt with hlt | ⟨he, hlt⟩
        · exact (o1_11 _ _ _ _ _ _ _ _ (h) _ _ _ _ _ _ _ _ _ _ _ _ _ _ _ _ _ _ _ _ _ _ (lt_t (by omega)) (by show (_ : Nat) ≤ _; omega) (f2) (lt_f (by omega)) (lt_f (by omega)) (f1) (le_f (by omega)) (f0) (lt_f (by omega)) (lt_t (by omega)) (sub_n (by omega) (by omega)) (by show (_ : Nat) ≤ _; omega) (l13) (l14) (s15) (s16) (l17) (l18) (l19) (ld1 c9 rfl) (ld1 c10 rfl) (ltB_irrefl _) (bbr _) (ld1 c9 rfl) (ld1 c10 rfl) (lt_f (by omega)) (eqI_f (by omega)) (l31) (vv) (rfl) (add_n (by omega)))
        · exact (o1_9 _ _ _ _ _ _ _ _ (h) _ _ _ _ _ _ _ _ _ _ _ _ _ _ _ _ _ _ _ _ _ _ _ _ (lt_t (by omega)) (by show (_ : Nat) ≤ _; omega) (f2) (lt_f (by omega)) (lt_f (by omega)) (f1) (le_f (by omega)) (f0) (lt_f (by omega)) (lt_t (by omega)) (sub_n (by omega) (by omega)) (by show (_ : Nat) ≤ _; omega) (l13) (l14) (s15) (s16) (l17) (l18) (l19) (ld1 c9 rfl) (ld1 c10 rfl) (ltB_irrefl _) (bbr _) (ld1 c9 rfl) (ld1 c10 rfl) (lt_f (by omega)) (eqI_t (by omega)) (ld1 c9 rfl) (ld1 c10 rfl) (le_f (by omega)) (l31) (vv) (rfl) (add_n (by omega)))
theorem lt_le_max (x : Int) : ltI x (Int.ofNat 2147483648) = leI x (Int.ofNat 2147483647) := by
  unfold ltI leI
  apply decide_eq_decide.2
  have e1 : Int.ofNat 2147483648 = 2147483648 := rfl
  have e2 : Int.ofNat 2147483647 = 2147483647 := rfl
  rw [e1, e2]; omega
theorem o2_loop (m u b n : Nat) (c : Cap) (w : AV) (l ds : List Dg) (hn : l.length = n) (hB : n < 90000) (hdb : ds.length < 90000) (hall : ∀ d ∈ l, mayB d = true → d ∈ ds) : ∀ (q i : Nat) (h : AHeap), n - i = q → i ≤ n → RowR h w ds → (0 < n → b < h.n) → (∀ i (hi : i < l.length), AEv.loadCells h b (0 + i * 3) 3 = some (encD l[i])) →
    ∃ h', Ext h.n h h' ∧ LoopF Try.prog Try.f6 none (C (m + 1)) [1, 1, 1, 1, 1, 0, 1, 0] (q + 1) ⟨[(0, .slice b 0 n c), (1, .int .u8 (Int.ofNat u)), (5, w), (9, .int .i64 (Int.ofNat i))], [], .none, h⟩ (.exit 2) ⟨[(0, .slice b 0 n c), (1, .int .u8 (Int.ofNat u)), (5, w)], [], .none, h'⟩
  | 0, i, h, hq, hi, hr, hb, hl => by
    obtain rfl : i = n := by omega
    exact ⟨h, Ext.refl _ _, .exit (RunF.seqx (p := [1, 1, 1, 1, 1, 0, 1, 0, 0]) (by kernel_rfl) (RunP.post (o2t_2 _ _ _ _ _ _ _ _ (lt_f (by omega))) ⟨rfl, rfl, rfl, trivial⟩) (by simp)) (by simp)⟩
  | q + 1, i, h, hq, hi, hr, hb, hl => by
    have hii : i < l.length := by omega
    have hbn : b < h.n := hb (by omega)
    have ld := hl i hii
    obtain ⟨a, x, x2, hd⟩ : ∃ a x x2, l[i] = (a, x, x2) := ⟨_, _, _, rfl⟩
    rw [hd] at ld
    obtain ⟨g1, hg1⟩ : ∃ g1, g1 = (h.push (.cells [.str [], .int .i64 (Int.ofNat 0), .int .i64 (Int.ofNat 0)] 35 .own 0 0)).set h.n (some (.cells (encD (a, x, x2)) 35 .own 0 0)) := ⟨_, rfl⟩
    have gc : g1.get h.n = some (.cells (encD (a, x, x2)) 35 .own 0 0) := by rw [hg1]; exact gsame rfl
    have st : AEv.storeCells (h.push (.cells [.str [], .int .i64 (Int.ofNat 0), .int .i64 (Int.ofNat 0)] 35 .own 0 0)) h.n 0 (encD (a, x, x2)) = some g1 := by rw [hg1]; exact stc (gtop rfl) rfl rfl
    have x0 : Ext h.n h g1 := by rw [hg1]; exact (by repeat (first | with_reducible exact Ext.refl _ _ | with_reducible assumption | with_reducible refine Ext.roomR ?_ | with_reducible refine Ext.setR (by first | omega | (simp only [AHeap.n_push, AHeap.n_set, AHeap.n_room]; omega)) ?_ | with_reducible refine Ext.pushR (by first | omega | (simp only [AHeap.n_push, AHeap.n_set, AHeap.n_room]; omega)) ?_ | with_reducible refine Ext.callR (by with_reducible assumption) (by first | omega | (simp only [AHeap.n_push, AHeap.n_set, AHeap.n_room]; omega)) ?_ | with_reducible refine Ext.callX (by with_reducible assumption) (by first | omega | (simp only [AHeap.n_push, AHeap.n_set, AHeap.n_room]; omega)) (by first | omega | (simp only [AHeap.n_push, AHeap.n_set, AHeap.n_room]; omega)) ?_ | refine Ext.setR (by first | omega | (simp only [AHeap.n_push, AHeap.n_set, AHeap.n_room]; omega)) ?_))
    have mid : ∃ g, Ext h.n h g ∧ RunF Try.prog Try.f6 none (C (m + 1)) ([1, 1, 1, 1, 1, 0, 1, 0, 0, 1, 0]) ⟨[(0, .slice b 0 n c), (1, .int .u8 (Int.ofNat u)), (5, w), (9, .int .i64 (Int.ofNat i))], [], .none, h⟩ .nrm ⟨[(0, .slice b 0 n c), (1, .int .u8 (Int.ofNat u)), (5, w), (9, .int .i64 (Int.ofNat i))], [], .none, g⟩ := by
      cases e1 : leI (Int.ofNat 1) x2 with
      | false => exact ⟨g1, x0, (o2k_6 _ _ _ _ _ _ _ _ _ _ _ (h) _ (by show (_ : Nat) ≤ _; omega) (ld) (st) (ld1 gc rfl) (e1))⟩
      | true =>
        cases e2 : leI x2 (Int.ofNat 13) with
        | false => exact ⟨g1, x0, (o2k_5 _ _ _ _ _ _ _ _ (x) _ _ (h) _ (by show (_ : Nat) ≤ _; omega) (ld) (st) (ld1 gc rfl) (e1) (e2))⟩
        | true =>
          cases e3 : leI (Int.ofNat 0) x with
          | false => exact ⟨g1, x0, (o2k_4 _ _ _ _ _ _ _ _ _ _ _ (h) _ (by show (_ : Nat) ≤ _; omega) (ld) (st) (ld1 gc rfl) (e1) (e2) (ld1 gc rfl) (e3))⟩
          | true =>
            cases e4 : ltI x (Int.ofNat 2147483648) with
            | false => exact ⟨g1, x0, (o2k_3 _ _ _ _ _ _ _ _ _ _ _ (h) _ (by show (_ : Nat) ≤ _; omega) (ld) (st) (ld1 gc rfl) (e1) (e2) (ld1 gc rfl) (e3) (e4))⟩
            | true =>
              cases e5 : leI (Int.ofNat a.length) (Int.ofNat 200) with
              | false => exact ⟨g1, x0, (o2k_2 _ _ _ _ _ _ _ _ _ _ _ (h) _ (by show (_ : Nat) ≤ _; omega) (ld) (st) (ld1 gc rfl) (e1) (e2) (ld1 gc rfl) (e3) (e4) (ld1 gc rfl) (e5))⟩
              | true =>
                have hm : mayB (a, x, x2) = true := by rw [lt_le_max] at e4; simp only [mayB, e1, e2, e3, e4, e5]; rfl
                have hin : (a, x, x2) ∈ ds := hall _ (by rw [← hd]; exact List.getElem_mem hii) hm
                obtain ⟨g, vv, xg⟩ := has26_c m w ds (a, x, x2) g1 (hr.mono x0 (Nat.le_refl _)) hdb
                rw [show decide ((a, x, x2) ∈ ds) = true by simpa using hin] at vv
                exact ⟨g, x0.trans x0.n xg, (o2k_1 _ _ _ _ _ _ _ _ _ _ _ _ _ (by show (_ : Nat) ≤ _; omega) (ld) (st) (ld1 gc rfl) (e1) (e2) (ld1 gc rfl) (e3) (e4) (ld1 gc rfl) (e5) (ldc gc rfl) (vv))⟩
    obtain ⟨g, xe, mid⟩ := mid
    obtain ⟨h', x', lp⟩ := o2_loop m u b n c w l ds hn hB hdb hall q (i + 1) g (by omega) (by omega) (hr.mono xe (Nat.le_refl _)) (fun _ => Nat.lt_of_lt_of_le hbn xe.n) (fun j hj => by
      have := hl j hj; simp only [AEv.loadCells] at this ⊢; rw [xe.get b hbn]; exact this)
    refine ⟨h', xe.trans xe.n x', .step ?_ lp⟩
    exact RunF.seq (p := [1, 1, 1, 1, 1, 0, 1, 0, 0]) (by kernel_rfl) (o2t_1 _ _ _ _ _ _ _ _ (lt_t (by omega))) (RunF.seq (p := [1, 1, 1, 1, 1, 0, 1, 0, 0, 1]) (by kernel_rfl) mid (o2p _ _ _ _ _ _ _ (add_n (by omega))))
end Go.Proofs.Wire

namespace Go.Proofs.Wire
open Go AEv Go.Proofs Go.Proofs.Enc
set_option maxRecDepth 100000
set_option maxHeartbeats 1000000

/-! ### Appending lists -/
theorem dg_info : ∃ i, Try.prog.info? 35 = some i ∧ i.size = 3 ∧ i.bytes = 32 := by
  obtain ⟨i, hi⟩ := Option.isSome_iff_exists.1 (show (Try.prog.info? 35).isSome = true by kernel_rfl)
  refine ⟨i, hi, ?_, ?_⟩
  · have : (Try.prog.info? 35).map (·.size) = some 3 := by kernel_rfl
    rw [hi] at this; simpa using this
  · have : (Try.prog.info? 35).map (·.bytes) = some 32 := by kernel_rfl
    rw [hi] at this; simpa using this
theorem dg_zero : ∃ z, zeroT Try.prog 35 = some z ∧ z.cells.length = 3 := by
  obtain ⟨z, hz⟩ := Option.isSome_iff_exists.1 (show (zeroT Try.prog 35).isSome = true by kernel_rfl)
  refine ⟨z, hz, ?_⟩
  have : (zeroT Try.prog 35).map (fun z => z.cells.length) = some 3 := by kernel_rfl
  rw [hz] at this; simpa using this
theorem dg_src : srcOK Try.prog (some 22) = true := by kernel_rfl
theorem app_none {h : AHeap} {src : AV} (hs : srcCells h 3 src = some (0, [])) : appendA Try.prog h 22 (some 22) .nilS src = some (.nilS, h) := by
  obtain ⟨i, hi, hsz, _⟩ := dg_info
  obtain ⟨z, hz, _⟩ := dg_zero
  simp only [appendA, dgst, dg_src, hi, hz, hsz, hs]
theorem app_new {h : AHeap} {src : AV} {es : List Dg} (hs : srcCells h 3 src = some (es.length, rowL encD es)) (h0 : 0 < es.length) (hl : es.length ≤ 1000000) : appendA Try.prog h 22 (some 22) .nilS src = some (.slice h.n 0 es.length (.opn 3), h.push (.cells (rowL encD es) 35 .opn 0 0)) := by
  obtain ⟨i, hi, hsz, hby⟩ := dg_info
  obtain ⟨z, hz, hzc⟩ := dg_zero
  obtain ⟨k, hk⟩ : ∃ k, es.length = k + 1 := ⟨es.length - 1, by omega⟩
  have hgr : growA h 35 32 3 (k + 1) z (rowL encD es) 0 = some (.slice h.n 0 (k + 1) (.opn 3), h.push (.cells (rowL encD es) 35 .opn 0 0)) :=
    growA_ok (by unfold roomOK; simp; omega) (by rw [hzc]; rfl) (row_cells encD_cell es)
  rw [hk] at hs ⊢
  simp only [appendA, dgst, dg_src, hi, hz, hsz, hby, hs, hgr]
theorem app_more {h : AHeap} {src : AV} {p : Nat} {ds es : List Dg} (hg : h.get p = some (.cells (rowL encD ds) 35 .opn 0 0)) (hs : srcCells h 3 src = some (es.length, rowL encD es)) (h0 : 0 < es.length) (hl : ds.length + es.length ≤ 1000000) :
    appendA Try.prog h 22 (some 22) (.slice p 0 ds.length (.opn 3)) src = some (.slice h.n 0 (ds.length + es.length) (.opn 3), (h.set p none).push (.cells (rowL encD (ds ++ es)) 35 .opn 0 0)) := by
  obtain ⟨i, hi, hsz, hby⟩ := dg_info
  obtain ⟨z, hz, hzc⟩ := dg_zero
  obtain ⟨k, hk⟩ : ∃ k, es.length = k + 1 := ⟨es.length - 1, by omega⟩
  have hgr : growA (h.set p none) 35 32 3 (ds.length + (k + 1)) z (rowL encD ds ++ rowL encD es) (0 - 0) = some (.slice (h.set p none).n 0 (ds.length + (k + 1)) (.opn 3), (h.set p none).push (.cells (rowL encD ds ++ rowL encD es) 35 .opn 0 0)) :=
    growA_ok (by unfold roomOK; simp; omega) (by rw [hzc]; rfl) (by rw [List.all_append, row_cells encD_cell, row_cells encD_cell]; rfl)
  have hb1 : (Nat.beq 3 3 && Nat.blt 0 3) = true := rfl
  have hlen := rowL_len encD_len ds
  have hble : Nat.ble (0 + (ds.length + (k + 1)) * 3) (rowL encD ds).length = false := by
    cases hx : Nat.ble (0 + (ds.length + (k + 1)) * 3) (rowL encD ds).length with
    | false => rfl
    | true => have := Nat.le_of_ble_eq_true hx; rw [hlen] at this; omega
  have hcond : (Nat.ble 0 (0 + ds.length * 3) && Nat.beq 35 35) = true := by simp
  have hld : AEv.loadCells h p 0 (ds.length * 3) = some (rowL encD ds) := by
    have := load_row (h := h) (xs := rowL encD ds) (rest := []) (by rw [List.append_nil]; exact hg)
    rwa [hlen] at this
  rw [hk] at hs ⊢
  rw [rowL_app]
  simp only [appendA, dgst, dg_src, hi, hz, hsz, hby, hs, hb1, hg, hble, hcond, hld, hgr]
  rfl
/-- A piece of a row. -/
theorem row_cut {h : AHeap} {b el lo up : Nat} {k : BK} {ds : List Dg} {rest : List AV} (hg : h.get b = some (.cells (rowL encD ds ++ rest) el k lo up)) {o len : Nat} (ho : o + len ≤ ds.length) : AEv.loadCells h b (o * 3) (len * 3) = some (rowL encD ((ds.drop o).take len)) := by
  have e : rowL encD ds ++ rest = rowL encD (ds.take o) ++ (rowL encD ((ds.drop o).take len) ++ (rowL encD ((ds.drop o).drop len) ++ rest)) := by
    rw [← List.append_assoc (rowL encD ((ds.drop o).take len)), ← rowL_app, List.take_append_drop, ← List.append_assoc, ← rowL_app, List.take_append_drop]
  have hl : (rowL encD (ds.take o)).length = o * 3 := by rw [rowL_len encD_len, List.length_take, Nat.min_eq_left (by omega)]
  have hl2 : (rowL encD ((ds.drop o).take len)).length = len * 3 := by rw [rowL_len encD_len, List.length_take, List.length_drop, Nat.min_eq_left (by omega)]
  simp only [AEv.loadCells, hg, e]
  rw [← hl, dropN_app]
  exact takeN_app' _ _ _ hl2

/-! ### DiagOrder -/
theorem works26_c (m : Nat) (h : AHeap) : C (m + 1) (.fn 21) [] h = .ret (.bool true) h := tab_c (by kernel_rfl)
theorem ex_cut {P : Program} {g : AHeap} {t e : TypeId} {b n cap m : Nat} (hu : P.underlying t = some (.slice e)) (hs : sizeT P e = some 3) (hm : m ≤ cap) (k : IntKind) : sliceA P g t (.slice b 0 n (.exact cap)) none (some (.int k (Int.ofNat m))) none = some (.slice b 0 m (.exact cap)) := by
  have hb1 : Nat.ble cap cap = true := by simp
  have hb2 : Nat.ble m cap = true := by simpa using hm
  have hb3 : Nat.ble 0 m = true := by simp
  simp only [sliceA, hu, hs, bounds, optN, asN, hb1, hb2, hb3]
  simp
theorem ex_tail {P : Program} {g : AHeap} {t e : TypeId} {b n cap j : Nat} (hu : P.underlying t = some (.slice e)) (hs : sizeT P e = some 3) (hj : j < n) (hn : n ≤ cap) : sliceA P g t (.slice b 0 n (.exact cap)) (some (.int .i64 (Int.ofNat j))) none none = some (.slice b (0 + j * 3) (n - j) (.exact (cap - j))) := by
  have hb1 : Nat.ble cap cap = true := by simp
  have hb2 : Nat.ble n cap = true := by simpa using hn
  have hb3 : Nat.ble j n = true := by simp; omega
  simp only [sliceA, hu, hs, bounds, optN, asN, hb1, hb2, hb3]
  rw [if_neg (by omega)]
theorem dgSize3 : sizeT Try.prog 35 = some 3 := by kernel_rfl
/-- What comes before the last part: the same for every list. -/
theorem order_pre (u : Nat) (v v0 : AV) (l : List Dg) (h : AHeap) (hin : RowIn h v l) (hr : RowR h v l) (hb : l.length ≤ 200)
    (hcut : RunF Try.prog Try.f6 none (C 6) [1, 1, 0] ⟨[(0, v0), (1, .int .u8 (Int.ofNat u))], [], .none, h⟩ .nrm ⟨[(0, v), (1, .int .u8 (Int.ofNat u))], [], .none, h⟩)
    (hl2 : ∀ w g, RowR g v l → RowR g w (sortedL l) → ∃ g', Ext g.n g g' ∧ RunF Try.prog Try.f6 none (C 6) [1, 1, 1, 1, 1, 0, 1, 0] ⟨[(0, v), (1, .int .u8 (Int.ofNat u)), (5, w), (9, .int .i64 (Int.ofNat 0))], [], .none, g⟩ (.exit 2) ⟨[(0, v), (1, .int .u8 (Int.ofNat u)), (5, w)], [], .none, g'⟩) :
    ∃ w g, Ext h.n h g ∧ SlD h.n g w (sortedL l) ∧ ∀ {Γ : Env} {g' : AHeap}, RunF Try.prog Try.f6 none (C 6) [1, 1, 1, 1, 1, 1, 1] ⟨[(0, v), (1, .int .u8 (Int.ofNat u)), (5, w), (11, .int .i64 (Int.ofNat 0))], [], .none, g⟩ .ret ⟨Γ, [], .none, g'⟩ → RunF Try.prog Try.f6 none (C 6) [] ⟨[(0, v0), (1, .int .u8 (Int.ofNat u))], [], .none, h⟩ .ret ⟨Γ, [], .none, g'⟩ := by
  have hsl := sortedL_len l
  obtain ⟨w, g1, c1, x1, r1⟩ := dsort_c 1 v l h hin (by omega)
  have hw1 := r1.rowR
  -- the first loop
  have loop1 : ∃ g2, Ext g1.n g1 g2 ∧ RunF Try.prog Try.f6 none (C 6) [1, 1, 1, 1, 0, 1, 0] ⟨[(6, .int .i64 (Int.ofNat 0)), (0, v), (1, .int .u8 (Int.ofNat u)), (5, w)], [], .none, g1⟩ (.exit 0) ⟨[(0, v), (1, .int .u8 (Int.ofNat u)), (5, w)], [], .none, g2⟩ := by
    rcases hw1 with ⟨rfl, h0⟩ | ⟨b, c, rfl, hbn, hl⟩
    · exact ⟨g1, Ext.refl _ _, RunP.pre (LoopF.run (p := [1, 1, 1, 1, 0, 1, 0]) (by kernel_rfl) (LoopF.exit (n := 0) (o1z (C 6) v u g1) (by simp)) (by omega)) ⟨rfl, rfl, rfl, rfl, trivial⟩ rfl rfl rfl⟩
    · obtain ⟨g2, x2, lp⟩ := o1_loop 5 u b (sortedL l).length c v l (sortedL l) rfl (by omega) (by omega) (fun d hd => ⟨(mem_sortedL.1 hd).2, (mem_sortedL.1 hd).1⟩) (sortedL_rise l) (sortedL l).length 0 g1 rfl (by omega) (hr.mono x1 (Nat.le_refl _)) hbn hl
      exact ⟨g2, x2, RunP.pre (LoopF.run (p := [1, 1, 1, 1, 0, 1, 0]) (by kernel_rfl) lp (by omega)) ⟨rfl, rfl, rfl, rfl, trivial⟩ rfl rfl rfl⟩
  obtain ⟨g2, x2, loop1⟩ := loop1
  have x12 : Ext h.n h g2 := x1.trans x1.n x2
  obtain ⟨g3, x3, loop2⟩ := hl2 w g2 (hr.mono x12 (Nat.le_refl _)) (hw1.mono x2 (Nat.le_refl _))
  have x13 : Ext h.n h g3 := x12.trans x12.n x3
  refine ⟨w, g3, x13, (r1.mono x2 (Nat.le_refl _)).mono x3 (Nat.le_refl _), fun {Γ g'} hrun => ?_⟩
  have s0 : RunF Try.prog Try.f6 none (C 6) [0] ⟨[(0, v0), (1, .int .u8 (Int.ofNat u))], [], .none, h⟩ .nrm ⟨[(0, v0), (1, .int .u8 (Int.ofNat u))], [], .none, h⟩ := m1 (C 6) v0 u h
  have s1 := m2 (C 6) v0 u h (works26_c 5 h)
  have s3 := m4 (C 6) v w u h g1 c1
  have s4 := m5 (C 6) v w u g1 g2 loop1
  have s5 := m6 (C 6) v w u g2 g3 (RunP.pre loop2 ⟨rfl, rfl, rfl, rfl, trivial⟩ rfl rfl rfl)
  have s6 := m7 (C 6) v w u g3
  exact RunF.seq (p := []) (by kernel_rfl) s0 (RunF.seq (p := [1]) (by kernel_rfl) s1 (RunF.seq (p := [1, 1]) (by kernel_rfl) hcut (RunF.seq (p := [1, 1, 1]) (by kernel_rfl) s3 (RunF.seq (p := [1, 1, 1, 1]) (by kernel_rfl) s4 (RunF.seq (p := [1, 1, 1, 1, 1]) (by kernel_rfl) s5 (RunF.seq (p := [1, 1, 1, 1, 1, 1]) (by kernel_rfl) s6 hrun))))))
/-- What comes at the end: sorting again, from other rows of the same ones. -/
theorem order_end (v2 w : AV) (l tl : List Dg) (B : Nat) (h2 : AHeap) (v : AV) (hin : RowIn h2 v l) (hw : SlD B h2 w (sortedL l)) (ht : RowIn h2 v2 tl) (hb : l.length ≤ 200) (htb : tl.length ≤ 1000) (htl : ∀ d, d ∈ tl ↔ d ∈ l) :
    ∃ w1 w2 g1 g2 g3 g4 g5 g6, C 6 (.fn 15) [v2] h2 = .ret w1 g1 ∧ C 6 (.fn 24) [w1, w] g1 = .ret (.bool true) g2 ∧ C 6 (.fn 15) [w] g2 = .ret w2 g3 ∧ C 6 (.fn 24) [w2, w] g3 = .ret (.bool true) g4 ∧
      C 6 (.fn 17) [v2] g4 = .ret (.str (encT (sortedL l))) g5 ∧ C 6 (.fn 17) [v] g5 = .ret (.str (encT (sortedL l))) g6 := by
  have hsl := sortedL_len l
  have e1 : sortedL tl = sortedL l := sortedL_mem htl
  have e2 := sortedL_again l
  obtain ⟨w1, g1, c1, x1, r1⟩ := dsort_c 1 v2 tl h2 ht (by omega)
  rw [e1] at r1
  have wr := hw.rowR
  obtain ⟨g2, c2, x2⟩ := same26_c 5 w1 w (sortedL l) g1 r1.rowR (wr.mono x1 (Nat.le_refl _)) (by omega)
  have y2 : Ext h2.n h2 g2 := x1.trans x1.n x2
  obtain ⟨w2, g3, c3, x3, r3⟩ := dsort_c 1 w (sortedL l) g2 (hw.rowIn.mono y2 (Nat.le_refl _)) (by omega)
  rw [e2] at r3
  have y3 : Ext h2.n h2 g3 := y2.trans y2.n x3
  obtain ⟨g4, c4, x4⟩ := same26_c 5 w2 w (sortedL l) g3 r3.rowR (wr.mono y3 (Nat.le_refl _)) (by omega)
  have y4 : Ext h2.n h2 g4 := y3.trans y3.n x4
  obtain ⟨g5, c5, x5⟩ := dencode_c 0 v2 tl g4 (ht.mono y4 (Nat.le_refl _)) (by omega)
  rw [e1] at c5
  have y5 : Ext h2.n h2 g5 := y4.trans y4.n x5
  obtain ⟨g6, c6, x6⟩ := dencode_c 0 v l g5 (hin.mono y5 (Nat.le_refl _)) (by omega)
  exact ⟨w1, w2, g1, g2, g3, g4, g5, g6, c1, c2, c3, c4, c5, c6⟩
theorem order26_nil (u : Nat) (h : AHeap) : ∃ h', C 7 (.fn 6) [.nilS, .int .u8 (Int.ofNat u)] h = .ret (.bool true) h' := by
  have hr : RowR h .nilS [] := .inl ⟨rfl, rfl⟩
  have hin : RowIn h .nilS [] := .inl ⟨rfl, rfl⟩
  have cut : RunF Try.prog Try.f6 none (C 6) [1, 1, 0] ⟨[(0, .nilS), (1, .int .u8 (Int.ofNat u))], [], .none, h⟩ .nrm ⟨[(0, .nilS), (1, .int .u8 (Int.ofNat u))], [], .none, h⟩ := (m3n _ _ _ ((by simp only [sliceA, dgst, dgSize3]; rfl)))
  obtain ⟨w, g, x, rw_, fin⟩ := order_pre u .nilS .nilS [] h hin hr (by simp) cut (fun w g _ _ => ⟨g, Ext.refl _ _, LoopF.run (p := [1, 1, 1, 1, 1, 0, 1, 0]) (by kernel_rfl) (LoopF.exit (n := 0) (o2z (C 6) w u g) (by simp)) (by omega)⟩)
  obtain ⟨w1, w2, g1, g2, g3, g4, g5, g6, c1, c2, c3, c4, c5, c6⟩ := order_end .nilS w [] [] h.n g .nilS (.inl ⟨rfl, rfl⟩) rw_ (.inl ⟨rfl, rfl⟩) (by simp) (by simp) (fun d => Iff.rfl)
  have s8 := m8n (C 6) u w g
  have s9 := m9n (C 6) w w1 w2 (encT (sortedL [])) g g1 g2 g3 g4 g5 g6 (by simp only [sliceA, dgst, dgSize3]; rfl) (app_none rfl) c1 c2 c3 c4 c5 c6
  rw [bbr] at s9
  exact ⟨g6, fn_runF (intr := Ii) (n := 6) (args := [.nilS, .int .u8 (Int.ofNat u)]) Try.func6 (by kernel_rfl) rfl (by kernel_rfl) (fin (RunF.seq (p := [1, 1, 1, 1, 1, 1, 1]) (by kernel_rfl) s8 s9)) (.inl rfl) (by kernel_rfl)⟩
theorem order26_c (u : Nat) (hu : u < 256) (l0 : List Dg) (b cap el lo up : Nat) (k : BK) (rest : List AV) (h : AHeap) (hg : h.get b = some (.cells (rowL encD l0 ++ rest) el k lo up)) (hbn : b < h.n) (hcap : l0.length ≤ cap) :
    ∃ h', C 7 (.fn 6) [.slice b 0 l0.length (.exact cap), .int .u8 (Int.ofNat u)] h = .ret (.bool true) h' := by
  obtain ⟨m, hm⟩ : ∃ m, m = min l0.length 200 := ⟨_, rfl⟩
  obtain ⟨l, hl⟩ : ∃ l, l = l0.take m := ⟨_, rfl⟩
  have hll : l.length = m := by rw [hl, List.length_take, hm]; omega
  have hm200 : m ≤ 200 := by rw [hm]; omega
  have hml : m ≤ l0.length := by rw [hm]; omega
  have hin : ∀ {H : AHeap}, H.get b = h.get b → b < H.n → RowIn H (.slice b 0 m (.exact cap)) l := fun {H} e hn => by
    refine .inr ⟨b, 0, .exact cap, by rw [hll], hn, fun h' e' => ?_⟩
    have := row_cut (h := h') ((e'.trans e).trans hg) (o := 0) (len := m) (by omega)
    rw [Nat.zero_mul, List.drop_zero, ← hl] at this
    simp only [srcCells, this, hll]
  have hr : RowR h (.slice b 0 m (.exact cap)) l := by
    refine .inr ⟨b, .exact cap, by rw [hll], fun _ => hbn, fun i hi => ?_⟩
    have := row_load (off := 0 + i * 3) encD_len hg (i := i) (by omega) (by omega)
    rw [this]
    simp only [hl, List.getElem_take]
  have cut : RunF Try.prog Try.f6 none (C 6) [1, 1, 0] ⟨[(0, .slice b 0 l0.length (.exact cap)), (1, .int .u8 (Int.ofNat u))], [], .none, h⟩ .nrm ⟨[(0, .slice b 0 m (.exact cap)), (1, .int .u8 (Int.ofNat u))], [], .none, h⟩ := by
    have mn := min_n l0.length 200
    rw [← hm] at mn
    exact (m3 _ _ _ _ _ _ _ _ _ (mn) (ex_cut dgst dgSize3 (by omega) .i64))
  obtain ⟨w, g, x, rw_, fin⟩ := order_pre u (.slice b 0 m (.exact cap)) (.slice b 0 l0.length (.exact cap)) l h (hin rfl hbn) hr (by omega) cut (fun w g hrv hrw => by
    rcases hrv with ⟨e, _⟩ | ⟨b', c', e, hb', hl'⟩
    · cases e
    · rw [hll] at e
      cases e
      obtain ⟨g', x', lp⟩ := o2_loop 5 u b m (.exact cap) w l (sortedL l) hll (by omega) (by have := sortedL_len l; omega) (fun d h1 h2 => mem_sortedL.2 ⟨h1, h2⟩) m 0 g rfl (by omega) hrw (fun h0 => hb' (by omega)) hl'
      exact ⟨g', x', LoopF.run (p := [1, 1, 1, 1, 1, 0, 1, 0]) (by kernel_rfl) lp (by omega)⟩)
  have gb : g.get b = h.get b := x.get b hbn
  have gbn : b < g.n := Nat.lt_of_lt_of_le hbn x.n
  by_cases h0 : m = 0
  · have hln : l = [] := List.eq_nil_of_length_eq_zero (by omega)
    have hsrc : ∀ {o : Nat} {c2 : Nat}, srcCells g 3 (.slice b o 0 (.exact c2)) = some (0, []) := fun {o c2} => by
      simp only [srcCells, AEv.loadCells, gb, hg]; rfl
    obtain ⟨w1, w2, g1, g2, g3, g4, g5, g6, c1, c2, c3, c4, c5, c6⟩ := order_end .nilS w l [] h.n g (.slice b 0 m (.exact cap)) (hin gb gbn) rw_ (.inl ⟨rfl, rfl⟩) (by omega) (by simp) (fun d => by rw [hln])
    have s8 : RunF Try.prog Try.f6 none (C 6) [1, 1, 1, 1, 1, 1, 1, 0] ⟨[(0, .slice b 0 m (.exact cap)), (1, .int .u8 (Int.ofNat u)), (5, w), (11, .int .i64 (Int.ofNat 0))], [], .none, g⟩ .nrm ⟨[(0, .slice b 0 m (.exact cap)), (5, w), (11, .int .i64 (Int.ofNat 0))], [], .none, g⟩ := (m8_2 _ _ _ _ _ (0) _ _ _ (lt_f (by omega)))
    have hsl : sliceA Try.prog g 22 (.slice b 0 m (.exact cap)) (some (.int .i64 (Int.ofNat 0))) none none = some (.slice b 0 0 (.exact cap)) := by
      subst h0
      have hb1 : Nat.ble cap cap = true := by simp
      have hb2 : Nat.ble 0 cap = true := by simp
      have hb3 : Nat.ble 0 0 = true := rfl
      simp only [sliceA, dgst, dgSize3, bounds, optN, asN, hb1, hb2, hb3]
      simp
    have s9 := m9 (C 6) b 0 m 0 0 0 (.exact cap) (.exact cap) w .nilS .nilS w1 w2 (encT (sortedL l)) g g g g1 g2 g3 g4 g5 g6 hsl (app_none hsrc) (app_none (by rw [h0]; exact hsrc)) c1 c2 c3 c4 c5 c6
    rw [bbr] at s9
    exact ⟨g6, fn_runF (intr := Ii) (n := 6) (args := [.slice b 0 l0.length (.exact cap), .int .u8 (Int.ofNat u)]) Try.func6 (by kernel_rfl) rfl (by kernel_rfl) (fin (RunF.seq (p := [1, 1, 1, 1, 1, 1, 1]) (by kernel_rfl) s8 s9)) (.inl rfl) (by kernel_rfl)⟩
  · obtain ⟨j, hj⟩ : ∃ j, j = u % m := ⟨_, rfl⟩
    have hjm : j < m := by rw [hj]; exact Nat.mod_lt _ (by omega)
    have hdl : (l.drop j).length = m - j := by rw [List.length_drop, hll]
    have src1 : srcCells g 3 (.slice b (0 + j * 3) (m - j) (.exact (cap - j))) = some ((l.drop j).length, rowL encD (l.drop j)) := by
      have := row_cut (h := g) (gb.trans hg) (o := j) (len := m - j) (by omega)
      have e : (l0.drop j).take (m - j) = l.drop j := by rw [hl, List.drop_take]
      rw [e] at this
      simp only [srcCells, Nat.zero_add, this, hdl]
    have a1 := app_new src1 (by omega) (by omega)
    obtain ⟨h1, hh1⟩ : ∃ h1, h1 = g.push (.cells (rowL encD (l.drop j)) 35 .opn 0 0) := ⟨_, rfl⟩
    rw [← hh1] at a1
    have p1 : h1.get g.n = some (.cells (rowL encD (l.drop j)) 35 .opn 0 0) := by rw [hh1]; exact gtop rfl
    have n1 : h1.n = g.n + 1 := by rw [hh1]; rfl
    have gb1 : h1.get b = h.get b := by rw [hh1]; exact gold gbn gb
    have src2 : srcCells h1 3 (.slice b 0 m (.exact cap)) = some (l.length, rowL encD l) := by
      have := row_cut (h := h1) (gb1.trans hg) (o := 0) (len := m) (by omega)
      rw [Nat.zero_mul, List.drop_zero, ← hl] at this
      simp only [srcCells, this, hll]
    have a2 := app_more p1 src2 (by omega) (by omega)
    obtain ⟨h2, hh2⟩ : ∃ h2, h2 = (h1.set g.n none).push (.cells (rowL encD (l.drop j ++ l)) 35 .opn 0 0) := ⟨_, rfl⟩
    rw [← hh2] at a2
    have x2 : Ext g.n g h2 := by
      rw [hh2, hh1]
      exact Ext.pushR (by simp) (Ext.setR (Nat.le_refl _) (Ext.pushR (Nat.le_refl _) (Ext.refl _ _)))
    have hlen2 : (l.drop j ++ l).length = (l.drop j).length + l.length := List.length_append
    have r2 : SlD 0 h2 (.slice h1.n 0 ((l.drop j).length + l.length) (.opn 3)) (l.drop j ++ l) := .inr ⟨h1.n, [], by rw [hlen2], by rw [List.append_nil, hh2]; exact gtop rfl, Nat.zero_le _, by rw [hh2]; simp⟩
    obtain ⟨w1, w2, g1, g2, g3, g4, g5, g6, c1, c2, c3, c4, c5, c6⟩ := order_end (.slice h1.n 0 ((l.drop j).length + l.length) (.opn 3)) w l (l.drop j ++ l) h.n h2 (.slice b 0 m (.exact cap)) (hin ((x2.get b gbn).trans gb) (Nat.lt_of_lt_of_le gbn x2.n)) (rw_.mono x2 (Nat.le_refl _)) r2.rowIn (by omega) (by omega) (fun d => by
      rw [List.mem_append]
      exact ⟨fun h => h.elim List.mem_of_mem_drop id, .inr⟩)
    have cv : evConvert Try.prog 5 3 (.int .u8 (Int.ofNat u)) g = .val (.int .i64 (Int.ofNat u)) g := conv_int u8t intt (wrap_nat u (by omega))
    have rm : arith BinOp.rem IntKind.i64 (Int.ofNat u) (Int.ofNat m) = some (.int .i64 (Int.ofNat j)) := by rw [hj]; exact rem_k .i64 (by omega)
    have s8 : RunF Try.prog Try.f6 none (C 6) [1, 1, 1, 1, 1, 1, 1, 0] ⟨[(0, .slice b 0 m (.exact cap)), (1, .int .u8 (Int.ofNat u)), (5, w), (11, .int .i64 (Int.ofNat 0))], [], .none, g⟩ .nrm ⟨[(0, .slice b 0 m (.exact cap)), (5, w), (11, .int .i64 (Int.ofNat j))], [], .none, g⟩ := (m8_1 _ _ _ _ _ _ _ _ _ (lt_t (by omega)) (cv) (rm))
    have s9 := m9 (C 6) b 0 m j (m - j) (0 + j * 3) (.exact cap) (.exact (cap - j)) w _ _ w1 w2 (encT (sortedL l)) g h1 h2 g1 g2 g3 g4 g5 g6 (ex_tail dgst dgSize3 hjm (by omega)) a1 a2 c1 c2 c3 c4 c5 c6
    rw [bbr] at s9
    exact ⟨g6, fn_runF (intr := Ii) (n := 6) (args := [.slice b 0 l0.length (.exact cap), .int .u8 (Int.ofNat u)]) Try.func6 (by kernel_rfl) rfl (by kernel_rfl) (fin (RunF.seq (p := [1, 1, 1, 1, 1, 1, 1]) (by kernel_rfl) s8 s9)) (.inl rfl) (by kernel_rfl)⟩
end Go.Proofs.Wire

namespace Go.Proofs.Wire
open Go AEv Go.Proofs Go.Proofs.Enc Go.Sort Go.Shelf
set_option maxRecDepth 100000

/-! ### What is known of itself is so -/
def sortRen : Go.Shelf.Ren := ⟨fun | 6 => 46 | 14 => 77 | 15 => 78 | 20 => 92 | 21 => 93 | 22 => 94 | 23 => 95 | 24 => 96 | 25 => 97 | 26 => 98 | 27 => 99 | 28 => 100 | 29 => 101 | 46 => 105 | 47 => 106 | 48 => 107 | 49 => 108 | 50 => 109 | 57 => 111 | n => n, fun | 0 => 0 | 3 => 3 | 4 => 4 | 5 => 5 | 9 => 9 | 22 => 22 | 24 => 35 | 25 => 66 | 39 => 99 | 45 => 118 | 46 => 119 | 50 => 123 | 53 => 126 | 55 => 52 | 66 => 133 | 70 => 136 | 76 => 139 | 77 => 140 | n => n, fun n => n⟩
theorem sortLays : SlLaysF0.n6 Try.prog sortRen where
  mixed := by kernel_rfl
  f6 := ⟨Try.f46.name, by decide, Try.func46.trans (congrArg some (by kernel_rfl))⟩
  f14 := ⟨Try.f77.name, by decide, Try.func77.trans (congrArg some (by kernel_rfl))⟩
  f15 := Try.func78.trans (congrArg some (by kernel_rfl))
  f20 := ⟨Try.f92.name, by decide, Try.func92.trans (congrArg some (by kernel_rfl))⟩
  f21 := ⟨Try.f93.name, by decide, Try.func93.trans (congrArg some (by kernel_rfl))⟩
  f22 := ⟨Try.f94.name, by decide, Try.func94.trans (congrArg some (by kernel_rfl))⟩
  f23 := ⟨Try.f95.name, by decide, Try.func95.trans (congrArg some (by kernel_rfl))⟩
  f24 := ⟨Try.f96.name, by decide, Try.func96.trans (congrArg some (by kernel_rfl))⟩
  f25 := ⟨Try.f97.name, by decide, Try.func97.trans (congrArg some (by kernel_rfl))⟩
  f26 := ⟨Try.f98.name, by decide, Try.func98.trans (congrArg some (by kernel_rfl))⟩
  f27 := ⟨Try.f99.name, by decide, Try.func99.trans (congrArg some (by kernel_rfl))⟩
  f28 := Try.func100.trans (congrArg some (by kernel_rfl))
  f29 := Try.func101.trans (congrArg some (by kernel_rfl))
  f46 := ⟨Try.f105.name, by decide, Try.func105.trans (congrArg some (by kernel_rfl))⟩
  f47 := Try.func106.trans (congrArg some (by kernel_rfl))
  f48 := Try.func107.trans (congrArg some (by kernel_rfl))
  f49 := ⟨Try.f108.name, by decide, Try.func108.trans (congrArg some (by kernel_rfl))⟩
  f50 := ⟨Try.f109.name, by decide, Try.func109.trans (congrArg some (by kernel_rfl))⟩
  f57 := ⟨Try.f111.name, by decide, Try.func111.trans (congrArg some (by kernel_rfl))⟩
  t0 := Try.underlying0
  a0 := Try.isAgg0
  z0 := Try.sizeOf0
  v0 := Try.zeroValue0
  t3 := Try.underlying3
  a3 := Try.isAgg3
  z3 := Try.sizeOf3
  v3 := Try.zeroValue3
  t4 := Try.underlying4
  a4 := Try.isAgg4
  z4 := Try.sizeOf4
  v4 := Try.zeroValue4
  t5 := Try.underlying5
  a5 := Try.isAgg5
  z5 := Try.sizeOf5
  v5 := Try.zeroValue5
  t9 := Try.underlying9
  a9 := Try.isAgg9
  z9 := Try.sizeOf9
  v9 := Try.zeroValue9
  t22 := Try.underlying22
  a22 := Try.isAgg22
  z22 := Try.sizeOf22
  v22 := Try.zeroValue22
  t25 := Try.underlying66
  a25 := Try.isAgg66
  z25 := Try.sizeOf66
  v25 := Try.zeroValue66
  t39 := Try.underlying99
  a39 := Try.isAgg99
  z39 := Try.sizeOf99
  v39 := Try.zeroValue99
  t45 := Try.underlying118
  a45 := Try.isAgg118
  z45 := Try.sizeOf118
  v45 := Try.zeroValue118
  t46 := Try.underlying119
  a46 := Try.isAgg119
  z46 := Try.sizeOf119
  v46 := Try.zeroValue119
  t50 := Try.underlying123
  a50 := Try.isAgg123
  z50 := Try.sizeOf123
  v50 := Try.zeroValue123
  t53 := Try.underlying126
  a53 := Try.isAgg126
  z53 := Try.sizeOf126
  v53 := Try.zeroValue126
  t55 := Try.underlying52
  a55 := Try.isAgg52
  z55 := Try.sizeOf52
  v55 := Try.zeroValue52
  t66 := Try.underlying133
  a66 := Try.isAgg133
  z66 := Try.sizeOf133
  v66 := Try.zeroValue133
  t70 := Try.underlying136
  a70 := Try.isAgg136
  z70 := Try.sizeOf136
  v70 := Try.zeroValue136
  t76 := Try.underlying139
  a76 := Try.isAgg139
  z76 := Try.sizeOf139
  v76 := Try.zeroValue139
  t77 := Try.underlying140
  a77 := Try.isAgg140
  z77 := Try.sizeOf140
  v77 := Try.zeroValue140

def encV (d : Dg) : List Value := [.string ⟨d.1.toArray⟩, .int .i64 d.2.1, .int .i64 d.2.2]
theorem dgAgg : isAggT Try.prog 35 = some true := by kernel_rfl
theorem dgSize : sizeT Try.prog 35 = some 3 := by kernel_rfl
theorem encV_rel1 (μ : Mu) (d : Dg) (t : Nat) (a : AV) (u : Value) (h : (encD d)[t]? = some a) (hr : VRel μ a u) : (encV d)[t]? = some u := by
  rcases t with _ | _ | _ | t
  · have e : a = .str d.1 := by simpa [encD] using h.symm
    subst e
    obtain ⟨s, rfl, hs⟩ := hr
    have : s = ⟨d.1.toArray⟩ := by
      cases s with
      | mk data => simp only [← hs]
    simp [encV, this]
  · have e : a = .int .i64 d.2.1 := by simpa [encD] using h.symm
    subst e
    have : u = .int .i64 d.2.1 := hr
    simp [encV, this]
  · have e : a = .int .i64 d.2.2 := by simpa [encD] using h.symm
    subst e
    have : u = .int .i64 d.2.2 := hr
    simp [encV, this]
  · simp [encD] at h
theorem encV_rel2 (μ : Mu) (d : Dg) (t : Nat) (a : AV) (u : Value) (h : (encD d)[t]? = some a) (hu : (encV d)[t]? = some u) : VRel μ a u := by
  rcases t with _ | _ | _ | t
  · have e : a = .str d.1 := by simpa [encD] using h.symm
    have e2 : u = .string ⟨d.1.toArray⟩ := by simpa [encV] using hu.symm
    subst e; subst e2
    exact ⟨_, rfl, by simp⟩
  · have e : a = .int .i64 d.2.1 := by simpa [encD] using h.symm
    have e2 : u = .int .i64 d.2.1 := by simpa [encV] using hu.symm
    subst e; subst e2; rfl
  · have e : a = .int .i64 d.2.2 := by simpa [encD] using h.symm
    have e2 : u = .int .i64 d.2.2 := by simpa [encV] using hu.symm
    subst e; subst e2; rfl
  · simp [encD] at h
theorem ord_fun : Try.prog.funcs[47]? = some Try.f47 := Try.func47
theorem Ii_ok (hf : Fit Try.prog) (hT : ∀ e ∈ Wk, EntOK Try.prog e) : IntrOK Try.prog Ii := by
  obtain ⟨c, hc⟩ := Option.isSome_iff_exists.1 (show Try.f47.body.isSome = true by kernel_rfl)
  have hcf : ltOf cfD = ltDb := funext fun x => funext fun y => ltOf_cfD x y
  have key := sortI_ok (P := Try.prog) (ρ := sortRen) hf sortLays (w := 3) (by omega) (fun W => AEv.run_isAgg dgAgg) (fun W => AEv.run_sizeOf dgSize) (encA := encD) (encV := encV) encD_len (fun _ => rfl) encV_rel1 encV_rel2
    (fun d v hv => by simp [encV] at hv; rcases hv with rfl | rfl | rfl <;> rfl) cfD (by rw [hcf]; exact ltDb_swo) (fun x y h1 h2 => by
      rw [hcf] at h1 h2
      exact ltD_tot (by simpa [ltDb] using h1) (by simpa [ltDb] using h2)) (g := 47) ord_fun hc (intr_none Try.prog) (fun x y => by
      obtain ⟨h', e⟩ := order_c 0 x y (emptyHeap Try.prog.globals.size)
      exact ⟨5, h', e⟩)
  rw [hcf] at key
  exact orI_ok (tab_ok hf hT) (orI_ok (sort0I_ok sortLays) key)
end Go.Proofs.Wire

namespace Go.Proofs.Wire
open Go AEv Go.Proofs Go.Proofs.Enc Go.ChangeShapes
set_option maxRecDepth 100000
set_option maxHeartbeats 1000000

/-! ### DiagOrder: a list of no element; a list that is handed in -/
theorem order26_dead (u : Nat) (h : AHeap) (hn : 0 < h.n) : ∃ h', C 7 (.fn 6) [.slice 0 0 0 .dead, .int .u8 (Int.ofNat u)] h = .ret (.bool true) h' := by
  have hr : RowR h (.slice 0 0 0 .dead) [] := .inr ⟨0, .dead, rfl, fun h0 => by simp at h0, fun i hi => by simp at hi⟩
  have hin : ∀ {H : AHeap}, 0 < H.n → RowIn H (.slice 0 0 0 .dead) [] := fun {H} h0 => .inr ⟨0, 0, .dead, rfl, h0, fun h' _ => rfl⟩
  have cut : RunF Try.prog Try.f6 none (C 6) [1, 1, 0] ⟨[(0, .slice 0 0 0 .dead), (1, .int .u8 (Int.ofNat u))], [], .none, h⟩ .nrm ⟨[(0, .slice 0 0 0 .dead), (1, .int .u8 (Int.ofNat u))], [], .none, h⟩ :=
    m3 (C 6) 0 0 0 u 0 .dead .dead h (by have := min_n 0 200; simpa using this) (by simp only [sliceA, dgst, dgSize3]; rfl)
  obtain ⟨w, g, x, rw_, fin⟩ := order_pre u (.slice 0 0 0 .dead) (.slice 0 0 0 .dead) [] h (hin hn) hr (by simp) cut (fun w g hrv hrw => by
    obtain ⟨g', x', lp⟩ := o2_loop 5 u 0 0 .dead w [] (sortedL []) rfl (by omega) (by have h0 := sortedL_len ([] : List Dg); rw [List.length_nil] at h0; omega) (fun d h1 _ => by cases h1) 0 0 g rfl (by omega) hrw (fun h0 => by omega) (fun i hi => by simp at hi)
    exact ⟨g', x', LoopF.run (p := [1, 1, 1, 1, 1, 0, 1, 0]) (by kernel_rfl) lp (by omega)⟩)
  obtain ⟨w1, w2, g1, g2, g3, g4, g5, g6, c1, c2, c3, c4, c5, c6⟩ := order_end .nilS w [] [] h.n g (.slice 0 0 0 .dead) (hin (Nat.lt_of_lt_of_le hn x.n)) rw_ (.inl ⟨rfl, rfl⟩) (by simp) (by simp) (fun d => Iff.rfl)
  have s8 : RunF Try.prog Try.f6 none (C 6) [1, 1, 1, 1, 1, 1, 1, 0] ⟨[(0, .slice 0 0 0 .dead), (1, .int .u8 (Int.ofNat u)), (5, w), (11, .int .i64 (Int.ofNat 0))], [], .none, g⟩ .nrm ⟨[(0, .slice 0 0 0 .dead), (5, w), (11, .int .i64 (Int.ofNat 0))], [], .none, g⟩ := (m8_2 _ _ _ _ _ (0) _ _ _ (lt_f (by omega)))
  have s9 := m9 (C 6) 0 0 0 0 0 0 .dead .dead w .nilS .nilS w1 w2 (encT (sortedL [])) g g g g1 g2 g3 g4 g5 g6 (by simp only [sliceA, dgst, dgSize3]; rfl) (app_none rfl) (app_none rfl) c1 c2 c3 c4 c5 c6
  rw [bbr] at s9
  exact ⟨g6, fn_runF (intr := Ii) (n := 6) (args := [.slice 0 0 0 .dead, .int .u8 (Int.ofNat u)]) Try.func6 (by kernel_rfl) rfl (by kernel_rfl) (fin (RunF.seq (p := [1, 1, 1, 1, 1, 1, 1]) (by kernel_rfl) s8 s9)) (.inl rfl) (by kernel_rfl)⟩

theorem cell_add {W : World} {a : Addr} {m j : Nat} {v : Value} (h : W.cell? ((a.add m).add j) = some v) : ∃ c el fz, W.heap[a.block]? = some (.cells c el fz) ∧ c[a.off + m + j]? = some v ∧ (m = 0 → j = 0 → a.spot = none) := by
  have hb : ((a.add m).add j).block = a.block := by
    unfold Addr.add
    split <;> split <;> rfl
  have ho : ((a.add m).add j).off = a.off + m + j := by
    unfold Addr.add
    split <;> split <;> simp_all
  unfold World.cell? at h
  rw [hb, ho] at h
  split at h
  · rename_i c el fz hx
    split at h
    · cases h
    · rename_i hs
      refine ⟨c, el, fz, hx, h, fun h1 h2 => ?_⟩
      subst h1; subst h2
      simpa [Addr.add] using hs
  · cases h
theorem dg_fields : ∃ f0 f1 f2 : Field, Try.prog.underlying 35 = some (.struct #[f0, f1, f2]) ∧ f0.type = 9 ∧ f1.type = 3 ∧ f2.type = 3 ∧ f0.offset = 0 ∧ f1.offset = 1 ∧ f2.offset = 2 := by
  obtain ⟨fs, hfs⟩ : ∃ fs, Try.prog.underlying 35 = some (.struct fs) := by
    have : (match Try.prog.underlying 35 with | some (.struct _) => true | _ => false) = true := by kernel_rfl
    revert this
    cases Try.prog.underlying 35 with
    | none => intro h; cases h
    | some d => cases d <;> intro h <;> first | exact ⟨_, rfl⟩ | cases h
  have k : (match Try.prog.underlying 35 with | some (.struct fs) => fs.toList.map fun f => (f.type, f.offset) | _ => []) = [(9, 0), (3, 1), (3, 2)] := by kernel_rfl
  rw [hfs] at k
  simp only at k
  obtain ⟨l⟩ := fs
  match l, k with
  | [f0, f1, f2], k =>
    simp only [List.map_cons, List.map_nil, List.cons.injEq, Prod.mk.injEq] at k
    exact ⟨f0, f1, f2, hfs, k.1.1, k.2.1.1, k.2.2.1.1, k.1.2, k.2.1.2, k.2.2.1.2⟩
theorem open_diags {H : Type} {enc : TypeId × Value → H} {W : World} {sp : Nat → Bool} {held : Bool} {fuel : Nat} {a0 : Option Addr} {len cap : Nat} {x : DataW H × List MemPlace} (h : DataW.trod enc Try.prog W 0 sp held fuel 22 [.slice a0 len cap] = some x) :
    (a0 = none ∧ len = 0 ∧ cap = 0) ∨ ∃ a, a0 = some a ∧ len ≤ cap ∧ ∃ ds : List Dg, ds.length = len ∧ ∀ i (hi : i < ds.length) (j : Nat) (v : Value), (encV ds[i])[j]? = some v → W.cell? ((a.add (i * 3)).add j) = some v := by
  have hc3 : Try.prog.cellsOf 35 = 3 := by kernel_rfl
  have hc9 : Try.prog.cellsOf 9 = 1 := by kernel_rfl
  have hci : Try.prog.cellsOf 3 = 1 := by kernel_rfl
  rcases DataW.trod_slice dgst h with ⟨h0, _⟩ | ⟨a, len', cap', elems, rest, n, _, h0, _, hb, hl, hm, hlen, hel, _, _⟩
  · cases h0; exact .inl ⟨rfl, rfl, rfl⟩
  · cases h0
    right
    refine ⟨a, rfl, hl, ?_⟩
    have each : ∀ i, i < len → ∃ d : Dg, W.cells? 0 (a.add (i * 3)) 3 = some (encV d) := by
      intro i hi
      have he := hel i hi
      rw [List.getElem?_eq_getElem (by omega), hc3, Option.bind_eq_some_iff] at he
      obtain ⟨cs, hcs, hy⟩ := he
      obtain ⟨f0, f1, f2, hs, t0, t1, t2, o0, o1, o2⟩ := dg_fields
      obtain ⟨y0, y1, y2, k, _, hcl, k0, k1, k2⟩ := Go.Deep.trod_struct3 hs hy
      rw [hc3] at hcl
      obtain ⟨v0, v1, v2, rfl⟩ : ∃ v0 v1 v2, cs = [v0, v1, v2] := by
        match cs, hcl with
        | [v0, v1, v2], _ => exact ⟨v0, v1, v2, rfl⟩
      rw [t0, o0, hc9] at k0
      rw [t1, o1, hci] at k1
      rw [t2, o2, hci] at k2
      obtain ⟨s, e0, _, _⟩ := DataW.trod_string strt k0
      obtain ⟨z1, e1, _, _⟩ := DataW.trod_int intt k1
      obtain ⟨z2, e2, _, _⟩ := DataW.trod_int intt k2
      have e0' : v0 = .string s := by simpa using e0
      have e1' : v1 = .int .i64 z1 := by simpa using e1
      have e2' : v2 = .int .i64 z2 := by simpa using e2
      refine ⟨(s.data.toList, z1, z2), ?_⟩
      rw [hcs, e0', e1', e2']
      rfl
    let f : Nat → Dg := fun i => if hi : i < len then (each i hi).choose else ([], 0, 0)
    refine ⟨(List.range len).map f, by simp, fun i hi j v hv => ?_⟩
    have hi' : i < len := by simpa using hi
    have hf : ((List.range len).map f)[i] = (each i hi').choose := by simp [f, hi']
    rw [hf] at hv
    have hcs := (each i hi').choose_spec
    have hj : j < 3 := by
      have := (List.getElem?_eq_some_iff.1 hv).1
      simpa [encV] using this
    have := World.cells?_some hcs
    exact (this.2.2 j hj).trans hv
/-- A list of diagnostics that is handed in, in the evaluator. -/
theorem start_diags {W : World} (hW : Try.prog.globals.size ≤ W.heap.size) {a : Addr} {cap : Nat} {ds : List Dg} (h0 : 0 < ds.length) (hc : ∀ i (hi : i < ds.length) (j : Nat) (v : Value), (encV ds[i])[j]? = some v → W.cell? ((a.add (i * 3)).add j) = some v) :
    ∃ (μ : Mu) (el : Nat), HRel μ (heap1 Try.prog.globals.size (rowL encD ds) el) W ∧ GRel Try.prog μ ∧ Roed (heap1 Try.prog.globals.size (rowL encD ds) el) ∧ VRel μ (.slice Try.prog.globals.size 0 ds.length (.exact cap)) (.slice (some a) ds.length cap) := by
  obtain ⟨c, el, fz, hb, hx0, hs⟩ := cell_add (hc 0 h0 0 _ rfl)
  have hspot := hs (by omega) rfl
  have hle : a.off ≤ c.size := by
    have := (Array.getElem?_eq_some_iff.1 hx0).1; omega
  have hcs : CellsRel (muG1 Try.prog.globals.size ⟨a.block, a.off, c.size - a.off⟩) (rowL encD ds) c a.off := by
    intro t v hv
    have hv' : (ds.flatMap encD)[t]? = some v := hv
    rw [flat_get encD_len] at hv'
    split at hv'
    · rename_i ht
      have hi : t / 3 < ds.length := Nat.div_lt_of_lt_mul (by rw [Nat.mul_comm]; exact ht)
      rw [List.getElem?_eq_getElem hi] at hv'
      have hv2 : (encD ds[t / 3])[t % 3]? = some v := hv'
      have hj : t % 3 < (encV ds[t / 3]).length := by
        show t % 3 < 3
        omega
      obtain ⟨c', el', fz', hb', hx, _⟩ := cell_add (hc (t / 3) hi (t % 3) _ (List.getElem?_eq_getElem hj))
      rw [hb] at hb'
      cases hb'
      have e : a.off + t / 3 * 3 + t % 3 = a.off + t := by omega
      rw [e] at hx
      exact ⟨_, hx, encV_rel2 _ _ _ _ _ hv2 (List.getElem?_eq_getElem hj)⟩
    · cases hv'
  obtain ⟨r1, r2, r3⟩ := start_row (P := Try.prog) (i := ⟨a.block, a.off, c.size - a.off⟩) hW hb _ hcs (by simp; omega)
  refine ⟨_, el, r1, r2, r3, ⟨⟨a.block, a.off, c.size - a.off⟩, by simp [muG1], ?_⟩⟩
  obtain ⟨blk, off, spot⟩ := a
  simp only at hspot
  subst hspot
  rfl
theorem slice_blk {P : Program} {W : World} {base : Nat} {t e : TypeId} (ht : P.underlying t = some (.slice e)) {a : Addr} {len cap : Nat} (h : Value.okWide P W .any base t (.slice (some a) len cap)) : a.block < W.heap.size := by
  simp only [Value.okWide, ht, Cell.okWide, Cell.ok] at h
  obtain ⟨_, _, _, _, row, cells, hs, _⟩ := h
  unfold World.shape? at hs
  cases hb : W.heap[a.block]? with
  | none => simp [hb] at hs
  | some o => exact (Array.getElem?_eq_some_iff.1 hb).1
/-- A start heap with one more name, that holds nothing: what a slice of no length points at. -/
theorem start_dead {P : Program} {W : World} (hW : P.globals.size ≤ W.heap.size) {blk : Nat} (hb : blk < W.heap.size) :
    HRel (muG1 P.globals.size ⟨blk, 0, 0⟩) (emptyHeap (P.globals.size + 1)) W ∧ GRel P (muG1 P.globals.size ⟨blk, 0, 0⟩) ∧ Roed (emptyHeap (P.globals.size + 1)) ∧ ∃ i, muG1 P.globals.size ⟨blk, 0, 0⟩ 0 = some i := by
  have hn : ∀ b, (emptyHeap (P.globals.size + 1)).get b = none := fun b => rfl
  refine ⟨⟨fun b o i h => (by rw [hn] at h; cases h), fun b c i j h => absurd (hn b) h, fun b i h => ?_, fun b _ => hn b⟩, fun g hg => ⟨⟨g, 0, 0⟩, by simp [muG1, hg], rfl, rfl⟩, fun b o h => (by rw [hn] at h; cases h), ?_⟩
  · have hnn : (emptyHeap (P.globals.size + 1)).n = P.globals.size + 1 := rfl
    unfold muG1 at h
    split at h
    · rename_i hb'; cases h; exact ⟨by omega, Nat.lt_of_lt_of_le hb' hW⟩
    · split at h
      · rename_i hb'; cases h; exact ⟨by omega, hb⟩
      · cases h
  · unfold muG1
    split
    · exact ⟨_, rfl⟩
    · rw [if_pos (by omega)]; exact ⟨_, rfl⟩
end Go.Proofs.Wire
