/-
  PROVED HERE: contracts of functions (Dh). No condition beside each statement's own.
-/
import Derived.Test.YtphbddifiklkpaaDoorDg
import Derived.Test.YtphbddifiklkpaaDoorDa
import Derived.LaidHandle
set_option linter.unusedVariables false
set_option linter.unusedSimpArgs false
namespace Go.Proofs.Lx
open Go AEv Go.Proofs Lexp
set_option maxRecDepth 100000
set_option maxHeartbeats 1000000

theorem td_0 (call : CallT → List AV → AHeap → FRes) (a : Nat) (h : AHeap)
    (H1 : load1 (AHeap.push h (.cells [.int .i64 (.ofNat 0), .int .i64 (.ofNat a)] 38 .own 0 0)) (AHeap.n h) (0 + 0) = some (.int .i64 (.ofNat 0))) :
    RunF Tryd.prog Tryd.f16 none call [] (SSt.mk [(0, .nilI), (1, .agg [.int .i64 (.ofNat 0), .int .i64 (.ofNat a)])] [] .none h) (.ret)
      (SSt.mk [(4, .bool true)] [] .none (AHeap.push h (.cells [.int .i64 (.ofNat 0), .int .i64 (.ofNat a)] 38 .own 0 0))) :=
  sxF_run [4] (hs := [.v (.int .i64 (.ofNat 0)), .b true, .v (.bool true)]) (by kernel_rfl) <| .cons H1 <| .cons (by kernel_rfl : eqI (Int.ofNat 0) (Int.ofNat 0) = true) <| .cons (by kernel_rfl : binA Tryd.prog (AHeap.push h (AObj.cells [AV.int IntKind.i64 (Int.ofNat 0), AV.int IntKind.i64 (Int.ofNat a)] 38 BK.own 0 0)) BinOp.eql 26 (Operand.tmp 9) (Operand.const Value.nilIface) AV.nilI AV.nilI = some (AV.bool true)) <| .nil
theorem td_1 (call : CallT → List AV → AHeap → FRes) (e a : Nat) (h g g2 : AHeap)
    (H1 : load1 (AHeap.push h (.cells [.int .i64 (.ofNat 10), .int .i64 (.ofNat a)] 38 .own 0 0)) (AHeap.n h) (0 + 0) = some (.int .i64 (.ofNat 10)))
    (H2 : call (CallT.fn 29) [AV.iface 52 (AV.ptr e 0), AV.iface 61 (AV.ptr (AHeap.n (AHeap.push h (AObj.cells [AV.int IntKind.i64 (Int.ofNat 10), AV.int IntKind.i64 (Int.ofNat a)] 38 BK.own 0 0))) 0)] (AHeap.room (AHeap.push (AHeap.push h (AObj.cells [AV.int IntKind.i64 (Int.ofNat 10), AV.int IntKind.i64 (Int.ofNat a)] 38 BK.own 0 0)) (AObj.cells [AV.nilP] 52 BK.own 0 0)) 26) = FRes.ret (AV.bool true) g)
    (H3 : load1 g (AHeap.n (AHeap.push h (.cells [.int .i64 (.ofNat 10), .int .i64 (.ofNat a)] 38 .own 0 0))) 0 = some (.ptr e 0))
    (H4 : AEv.loadCells g e 0 2 = some [.int .i64 (.ofNat 10), .int .i64 (.ofNat a)])
    (H5 : AEv.loadCells g (AHeap.n h) 0 2 = some [.int .i64 (.ofNat 10), .int .i64 (.ofNat a)])
    (H6 : binA Tryd.prog g BinOp.eql 38 (Operand.tmp 25) (Operand.tmp 26) (AV.agg [AV.int IntKind.i64 (Int.ofNat 10), AV.int IntKind.i64 (Int.ofNat a)]) (AV.agg [AV.int IntKind.i64 (Int.ofNat 10), AV.int IntKind.i64 (Int.ofNat a)]) = some (AV.bool true))
    (H7 : load1 g (AHeap.n h) (0 + 0) = some (.int .i64 (.ofNat 10)))
    (H8 : call (CallT.fn 30) [AV.iface 52 (AV.ptr e 0), AV.iface 36 (AV.int IntKind.i64 (Int.ofNat 10))] g = FRes.ret (AV.bool true) g2) :
    RunF Tryd.prog Tryd.f16 none call [] (SSt.mk [(0, .iface 52 (.ptr e 0)), (1, .agg [.int .i64 (.ofNat 10), .int .i64 (.ofNat a)])] [] .none h) (.ret)
      (SSt.mk [(4, .bool true)] [] .none g2) :=
  sxF_run [4] (hs := [.v (.int .i64 (.ofNat 10)), .b false, .v (.bool !false), .b true, .b true, .b true, .c (.bool true) g, .b true, .b true, .v (.ptr e 0), .b true, .v (.bool !false), .b true, .b true, .v (.ptr e 0), .b true, .b true, .v (.agg [.int .i64 (.ofNat 10), .int .i64 (.ofNat a)]), .b true, .v (.agg [.int .i64 (.ofNat 10), .int .i64 (.ofNat a)]), .b true, .v (.bool true), .b true, .b true, .b true, .b true, .v (.int .i64 (.ofNat 10)), .b true, .b true, .c (.bool true) g2, .b true]) (by kernel_rfl) <| .cons H1 <| .cons (by kernel_rfl : eqI (Int.ofNat 10) (Int.ofNat 0) = false) <| .cons (by kernel_rfl : binA Tryd.prog (AHeap.room (AHeap.push (AHeap.push h (AObj.cells [AV.int IntKind.i64 (Int.ofNat 10), AV.int IntKind.i64 (Int.ofNat a)] 38 BK.own 0 0)) (AObj.cells [AV.nilP] 52 BK.own 0 0)) 26) BinOp.neq 26 (Operand.tmp 11) (Operand.const Value.nilIface) (AV.iface 52 (AV.ptr e 0)) AV.nilI = some (AV.bool !false)) <| .cons (by kernel_rfl : (!false) = true) <| .cons (by kernel_rfl : (!false) = true) <| .cons (by kernel_rfl : (!false) = true) <| .cons H2 <| .cons (by kernel_rfl : (!false) = true) <| .cons (by kernel_rfl : true = true) <| .cons H3 <| .cons (by kernel_rfl : true = true) <| .cons (by kernel_rfl : binA Tryd.prog g BinOp.neq 52 (Operand.tmp 19) (Operand.const (Value.pointer none)) (AV.ptr e 0) AV.nilP = some (AV.bool !false)) <| .cons (by kernel_rfl : true = true) <| .cons (by kernel_rfl : (!false) = true) <| .cons H3 <| .cons (by kernel_rfl : (!false) = true) <| .cons (by kernel_rfl : (!false) = true) <| .cons H4 <| .cons (by kernel_rfl : (!false) = true) <| .cons H5 <| .cons (by kernel_rfl : (!false) = true) <| .cons H6 <| .cons (by kernel_rfl : (!false) = true) <| .cons (by kernel_rfl : true = true) <| .cons (by kernel_rfl : true = true) <| .cons (by kernel_rfl : true = true) <| .cons H7 <| .cons (by kernel_rfl : true = true) <| .cons (by kernel_rfl : true = true) <| .cons H8 <| .cons (by kernel_rfl : true = true) <| .cons (by kernel_rfl : AV.sound (AV.iface 52 (AV.ptr e 0)) = true) <| .cons (by kernel_rfl : AV.iface 52 (AV.ptr e 0) = AV.iface 52 (AV.ptr e 0)) <| .cons (by kernel_rfl : AV.sound (AV.bool !false) = true) <| .cons (by kernel_rfl : binA Tryd.prog (AHeap.room (AHeap.push (AHeap.push h (AObj.cells [AV.int IntKind.i64 (Int.ofNat 10), AV.int IntKind.i64 (Int.ofNat a)] 38 BK.own 0 0)) (AObj.cells [AV.nilP] 52 BK.own 0 0)) 26) BinOp.neq 26 (Operand.tmp 11) (Operand.const Value.nilIface) (AV.iface 52 (AV.ptr e 0)) AV.nilI = some (AV.bool !false)) <| .cons (by kernel_rfl : AV.sound (AV.bool !false) = true) <| .cons (by kernel_rfl : (AV.bool !false) = AV.bool !false) <| .cons (by kernel_rfl : AV.sound (AV.iface 52 (AV.ptr e 0)) = true) <| .cons (by kernel_rfl : AV.iface 52 (AV.ptr e 0) = AV.iface 52 (AV.ptr e 0)) <| .cons (by kernel_rfl : AV.sound (AV.iface 61 (AV.ptr (AHeap.n (AHeap.push h (AObj.cells [AV.int IntKind.i64 (Int.ofNat 10), AV.int IntKind.i64 (Int.ofNat a)] 38 BK.own 0 0))) 0)) = true) <| .cons (by kernel_rfl : AV.iface 61 (AV.ptr (AHeap.n (AHeap.push h (AObj.cells [AV.int IntKind.i64 (Int.ofNat 10), AV.int IntKind.i64 (Int.ofNat a)] 38 BK.own 0 0))) 0) = AV.iface 61 (AV.ptr (AHeap.n (AHeap.push h (AObj.cells [AV.int IntKind.i64 (Int.ofNat 10), AV.int IntKind.i64 (Int.ofNat a)] 38 BK.own 0 0))) 0)) <| .cons (by kernel_rfl : AV.sound (AV.bool true) = true) <| .cons (by kernel_rfl : (bif !false then AV.bool true else AV.bool false) = AV.bool true) <| .cons (by kernel_rfl : AV.sound (AV.bool true) = true) <| .cons (by kernel_rfl : AV.bool true = AV.bool true) <| .cons (by kernel_rfl : AV.sound (AV.ptr e 0) = true) <| .cons H3 <| .cons (by kernel_rfl : AV.sound (AV.bool !false) = true) <| .cons (by kernel_rfl : binA Tryd.prog g BinOp.neq 52 (Operand.tmp 19) (Operand.const (Value.pointer none)) (AV.ptr e 0) AV.nilP = some (AV.bool !false)) <| .cons (by kernel_rfl : AV.sound (AV.bool !false) = true) <| .cons (by kernel_rfl : (bif true then AV.bool !false else AV.bool false) = AV.bool !false) <| .cons (by kernel_rfl : AV.sound (AV.bool !false) = true) <| .cons (by kernel_rfl : (AV.bool !false) = AV.bool !false) <| .cons (by kernel_rfl : AV.sound (AV.ptr e 0) = true) <| .cons H3 <| .cons (by kernel_rfl : AV.sound (AV.ptr e 0) = true) <| .cons (by kernel_rfl : AV.ptr e 0 = AV.ptr e 0) <| .cons (by kernel_rfl : AV.sound (AV.agg [AV.int IntKind.i64 (Int.ofNat 10), AV.int IntKind.i64 (Int.ofNat a)]) = true) <| .cons H4 <| .cons (by kernel_rfl : AV.sound (AV.agg [AV.int IntKind.i64 (Int.ofNat 10), AV.int IntKind.i64 (Int.ofNat a)]) = true) <| .cons H5 <| .cons (by kernel_rfl : AV.sound (AV.bool true) = true) <| .cons H6 <| .cons (by kernel_rfl : AV.sound (AV.bool true) = true) <| .cons (by kernel_rfl : (bif !false then AV.bool true else AV.bool false) = AV.bool true) <| .cons (by kernel_rfl : AV.sound (AV.bool true) = true) <| .cons (by kernel_rfl : AV.bool true = AV.bool true) <| .cons (by kernel_rfl : AV.sound (AV.iface 52 (AV.ptr e 0)) = true) <| .cons (by kernel_rfl : AV.iface 52 (AV.ptr e 0) = AV.iface 52 (AV.ptr e 0)) <| .cons (by kernel_rfl : AV.sound (AV.ptr (AHeap.n h) (0 + 0)) = true) <| .cons (by kernel_rfl : AV.ptr (AHeap.n h) (0 + 0) = AV.ptr (AHeap.n h) (0 + 0)) <| .cons (by kernel_rfl : AV.sound (AV.int IntKind.i64 (Int.ofNat 10)) = true) <| .cons H7 <| .cons (by kernel_rfl : AV.sound (AV.iface 36 (AV.int IntKind.i64 (Int.ofNat 10))) = true) <| .cons (by kernel_rfl : AV.iface 36 (AV.int IntKind.i64 (Int.ofNat 10)) = AV.iface 36 (AV.int IntKind.i64 (Int.ofNat 10))) <| .cons (by kernel_rfl : AV.sound (AV.bool true) = true) <| .cons (by kernel_rfl : (bif true then AV.bool true else AV.bool false) = AV.bool true) <| .cons (by kernel_rfl : AV.sound (AV.bool true) = true) <| .cons (by kernel_rfl : AV.bool true = AV.bool true) <| .nil
theorem kn_0 (call : CallT → List AV → AHeap → FRes) (h : AHeap) :
    RunF Tryd.prog Tryd.f8 none call [0] (SSt.mk [] [] .none h) (.nrm)
      (SSt.mk [] [] .none h) :=
  sxF_run [] (hs := []) (by kernel_rfl) <| .nil
theorem kn_a (call : CallT → List AV → AHeap → FRes) (c : Nat) (h g : AHeap)
    (H1 : call (.fn 12) [.str [97, 45, 45, 62, 98, 61, 62, 99, 60, 61, 61]] h = FRes.ret (.tup [.slice c 0 9 (.opn 4), .nilI]) g) :
    RunF Tryd.prog Tryd.f8 none call [1, 0] (SSt.mk [] [] .none h) (.nrm)
      (SSt.mk [(1, .slice c 0 9 (.opn 4)), (2, .nilI)] [] .none g) :=
  sxF_run [1, 2] (hs := [.c (.tup [.slice c 0 9 (.opn 4), .nilI]) g]) (by kernel_rfl) <| .cons H1 <| .nil
theorem kn_b (call : CallT → List AV → AHeap → FRes) (c : Nat) (h : AHeap)
    (H1 : Nat.le 2 9)
    (H2 : load1 h c (0 + 1 * 4 + 1) = some (.str [45]))
    (H3 : Nat.le 3 9)
    (H4 : load1 h c (0 + 2 * 4 + 1) = some (.str [45, 62]))
    (H5 : Nat.le 5 9)
    (H6 : load1 h c (0 + 4 * 4 + 1) = some (.str [61, 62]))
    (H7 : Nat.le 7 9)
    (H8 : load1 h c (0 + 6 * 4 + 1) = some (.str [60]))
    (H9 : Nat.le 8 9)
    (H10 : load1 h c (0 + 7 * 4 + 1) = some (.str [61, 61]))
    (H11 : load1 h c (0 + 7 * 4 + 3) = some (.int .i64 (.ofNat 9))) :
    RunF Tryd.prog Tryd.f8 none call [1, 1, 0] (SSt.mk [(1, .slice c 0 9 (.opn 4)), (2, .nilI)] [] .none h) (.nrm)
      (SSt.mk [] [] .none h) :=
  sxF_run [] (hs := [.v (.bool !true), .b false, .b false, .b false, .b false, .b false, .b false, .v (.ptr c (0 + 1 * 4)), .b false, .b false, .v (.str [45]), .b false, .b false, .b false, .b false, .v (.ptr c (0 + 2 * 4)), .b false, .b false, .v (.str [45, 62]), .b false, .b false, .b false, .b false, .v (.ptr c (0 + 4 * 4)), .b false, .b false, .v (.str [61, 62]), .b false, .b false, .b false, .b false, .v (.ptr c (0 + 6 * 4)), .b false, .b false, .v (.str [60]), .b false, .b false, .b false, .b false, .v (.ptr c (0 + 7 * 4)), .b false, .b false, .v (.str [61, 61]), .b false, .b false, .b false, .b false, .v (.ptr c (0 + 7 * 4)), .b false, .b false, .v (.int .i64 (.ofNat 9)), .b false, .b false, .b false]) (by kernel_rfl) <| .cons (by kernel_rfl : binA Tryd.prog h BinOp.neq 26 (Operand.tmp 13) (Operand.const Value.nilIface) AV.nilI AV.nilI = some (AV.bool !true)) <| .cons (by kernel_rfl : (!true) = false) <| .cons (by kernel_rfl : (!true) = false) <| .cons (by kernel_rfl : (!true) = false) <| .cons (by kernel_rfl : (!true) = false) <| .cons (by kernel_rfl : (!eqI (Int.ofNat 9) (Int.ofNat 9)) = false) <| .cons (by kernel_rfl : (!eqI (Int.ofNat 9) (Int.ofNat 9)) = false) <| .cons (⟨H1, rfl⟩ : Nat.le 2 9 ∧ AV.ptr c (0 + 1 * 4) = AV.ptr c (0 + 1 * 4)) <| .cons (by kernel_rfl : (!eqI (Int.ofNat 9) (Int.ofNat 9)) = false) <| .cons (by kernel_rfl : (!eqI (Int.ofNat 9) (Int.ofNat 9)) = false) <| .cons H2 <| .cons (by kernel_rfl : (!eqI (Int.ofNat 9) (Int.ofNat 9)) = false) <| .cons (by kernel_rfl : (!eqI (Int.ofNat 9) (Int.ofNat 9)) = false) <| .cons (by kernel_rfl : (!beqBytes [45] [45]) = false) <| .cons (by kernel_rfl : (!beqBytes [45] [45]) = false) <| .cons (⟨H3, rfl⟩ : Nat.le 3 9 ∧ AV.ptr c (0 + 2 * 4) = AV.ptr c (0 + 2 * 4)) <| .cons (by kernel_rfl : (!beqBytes [45] [45]) = false) <| .cons (by kernel_rfl : (!beqBytes [45] [45]) = false) <| .cons H4 <| .cons (by kernel_rfl : (!beqBytes [45] [45]) = false) <| .cons (by kernel_rfl : (!beqBytes [45] [45]) = false) <| .cons (by kernel_rfl : (!beqBytes [45, 62] [45, 62]) = false) <| .cons (by kernel_rfl : (!beqBytes [45, 62] [45, 62]) = false) <| .cons (⟨H5, rfl⟩ : Nat.le 5 9 ∧ AV.ptr c (0 + 4 * 4) = AV.ptr c (0 + 4 * 4)) <| .cons (by kernel_rfl : (!beqBytes [45, 62] [45, 62]) = false) <| .cons (by kernel_rfl : (!beqBytes [45, 62] [45, 62]) = false) <| .cons H6 <| .cons (by kernel_rfl : (!beqBytes [45, 62] [45, 62]) = false) <| .cons (by kernel_rfl : (!beqBytes [45, 62] [45, 62]) = false) <| .cons (by kernel_rfl : (!beqBytes [61, 62] [61, 62]) = false) <| .cons (by kernel_rfl : (!beqBytes [61, 62] [61, 62]) = false) <| .cons (⟨H7, rfl⟩ : Nat.le 7 9 ∧ AV.ptr c (0 + 6 * 4) = AV.ptr c (0 + 6 * 4)) <| .cons (by kernel_rfl : (!beqBytes [61, 62] [61, 62]) = false) <| .cons (by kernel_rfl : (!beqBytes [61, 62] [61, 62]) = false) <| .cons H8 <| .cons (by kernel_rfl : (!beqBytes [61, 62] [61, 62]) = false) <| .cons (by kernel_rfl : (!beqBytes [61, 62] [61, 62]) = false) <| .cons (by kernel_rfl : (!beqBytes [60] [60]) = false) <| .cons (by kernel_rfl : (!beqBytes [60] [60]) = false) <| .cons (⟨H9, rfl⟩ : Nat.le 8 9 ∧ AV.ptr c (0 + 7 * 4) = AV.ptr c (0 + 7 * 4)) <| .cons (by kernel_rfl : (!beqBytes [60] [60]) = false) <| .cons (by kernel_rfl : (!beqBytes [60] [60]) = false) <| .cons H10 <| .cons (by kernel_rfl : (!beqBytes [60] [60]) = false) <| .cons (by kernel_rfl : (!beqBytes [60] [60]) = false) <| .cons (by kernel_rfl : (!beqBytes [61, 61] [61, 61]) = false) <| .cons (by kernel_rfl : (!beqBytes [61, 61] [61, 61]) = false) <| .cons (⟨H9, rfl⟩ : Nat.le 8 9 ∧ AV.ptr c (0 + 7 * 4) = AV.ptr c (0 + 7 * 4)) <| .cons (by kernel_rfl : (!beqBytes [61, 61] [61, 61]) = false) <| .cons (by kernel_rfl : (!beqBytes [61, 61] [61, 61]) = false) <| .cons H11 <| .cons (by kernel_rfl : (!beqBytes [61, 61] [61, 61]) = false) <| .cons (by kernel_rfl : (!beqBytes [61, 61] [61, 61]) = false) <| .cons (by kernel_rfl : (!eqI (Int.ofNat 9) (Int.ofNat 9)) = false) <| .nil
theorem kn_c (call : CallT → List AV → AHeap → FRes) (c : Nat) (h g : AHeap)
    (H1 : call (.fn 12) [.str [34, 97, 92, 34, 92, 110, 92, 92, 195, 164, 34, 32, 57, 50, 50, 51, 51, 55, 50, 48, 51, 54, 56, 53, 52, 55, 55, 53, 56, 48, 55, 32, 48, 48, 55, 32, 95, 97, 57, 32, 105, 110, 32, 49, 97]] h = FRes.ret (.tup [.slice c 0 8 (.opn 4), .nilI]) g) :
    RunF Tryd.prog Tryd.f8 none call [1, 1, 1, 0] (SSt.mk [] [] .none h) (.nrm)
      (SSt.mk [(1, .slice c 0 8 (.opn 4)), (2, .nilI)] [] .none g) :=
  sxF_run [1, 2] (hs := [.c (.tup [.slice c 0 8 (.opn 4), .nilI]) g]) (by kernel_rfl) <| .cons H1 <| .nil
theorem kn_d (call : CallT → List AV → AHeap → FRes) (c : Nat) (h : AHeap)
    (H1 : Nat.le 1 8)
    (H2 : load1 h c (0 + 0 * 4 + 1) = some (.str [97, 34, 10, 92, 195, 164]))
    (H3 : Nat.le 2 8)
    (H4 : load1 h c (0 + 1 * 4 + 2) = some (.int .i64 (.ofNat 9223372036854775807)))
    (H5 : Nat.le 3 8)
    (H6 : load1 h c (0 + 2 * 4 + 2) = some (.int .i64 (.ofNat 7)))
    (H7 : Nat.le 4 8)
    (H8 : load1 h c (0 + 3 * 4 + 0) = some (.int .i64 (.ofNat 1)))
    (H9 : Nat.le 5 8)
    (H10 : load1 h c (0 + 4 * 4 + 0) = some (.int .i64 (.ofNat 2)))
    (H11 : Nat.le 6 8)
    (H12 : load1 h c (0 + 5 * 4 + 2) = some (.int .i64 (.ofNat 1)))
    (H13 : Nat.le 7 8)
    (H14 : load1 h c (0 + 6 * 4 + 1) = some (.str [97])) :
    RunF Tryd.prog Tryd.f8 none call [1, 1, 1, 1, 0] (SSt.mk [(1, .slice c 0 8 (.opn 4)), (2, .nilI)] [] .none h) (.nrm)
      (SSt.mk [] [] .none h) :=
  sxF_run [] (hs := [.v (.bool !true), .b false, .b false, .b false, .b false, .b false, .b false, .v (.ptr c (0 + 0 * 4)), .b false, .b false, .v (.str [97, 34, 10, 92, 195, 164]), .b false, .b false, .b false, .b false, .v (.ptr c (0 + 1 * 4)), .b false, .b false, .v (.int .i64 (.ofNat 9223372036854775807)), .b false, .b false, .b false, .b false, .v (.ptr c (0 + 2 * 4)), .b false, .b false, .v (.int .i64 (.ofNat 7)), .b false, .b false, .b false, .b false, .v (.ptr c (0 + 3 * 4)), .b false, .b false, .v (.int .i64 (.ofNat 1)), .b false, .b false, .b false, .b false, .v (.ptr c (0 + 4 * 4)), .b false, .b false, .v (.int .i64 (.ofNat 2)), .b false, .b false, .b false, .b false, .v (.ptr c (0 + 5 * 4)), .b false, .b false, .v (.int .i64 (.ofNat 1)), .b false, .b false, .b false, .b false, .v (.ptr c (0 + 6 * 4)), .b false, .b false, .v (.str [97]), .b false, .b false, .b false]) (by kernel_rfl) <| .cons (by kernel_rfl : binA Tryd.prog h BinOp.neq 26 (Operand.tmp 66) (Operand.const Value.nilIface) AV.nilI AV.nilI = some (AV.bool !true)) <| .cons (by kernel_rfl : (!true) = false) <| .cons (by kernel_rfl : (!true) = false) <| .cons (by kernel_rfl : (!true) = false) <| .cons (by kernel_rfl : (!true) = false) <| .cons (by kernel_rfl : (!eqI (Int.ofNat 8) (Int.ofNat 8)) = false) <| .cons (by kernel_rfl : (!eqI (Int.ofNat 8) (Int.ofNat 8)) = false) <| .cons (⟨H1, rfl⟩ : Nat.le 1 8 ∧ AV.ptr c (0 + 0 * 4) = AV.ptr c (0 + 0 * 4)) <| .cons (by kernel_rfl : (!eqI (Int.ofNat 8) (Int.ofNat 8)) = false) <| .cons (by kernel_rfl : (!eqI (Int.ofNat 8) (Int.ofNat 8)) = false) <| .cons H2 <| .cons (by kernel_rfl : (!eqI (Int.ofNat 8) (Int.ofNat 8)) = false) <| .cons (by kernel_rfl : (!eqI (Int.ofNat 8) (Int.ofNat 8)) = false) <| .cons (by kernel_rfl : (!beqBytes [97, 34, 10, 92, 195, 164] [97, 34, 10, 92, 195, 164]) = false) <| .cons (by kernel_rfl : (!beqBytes [97, 34, 10, 92, 195, 164] [97, 34, 10, 92, 195, 164]) = false) <| .cons (⟨H3, rfl⟩ : Nat.le 2 8 ∧ AV.ptr c (0 + 1 * 4) = AV.ptr c (0 + 1 * 4)) <| .cons (by kernel_rfl : (!beqBytes [97, 34, 10, 92, 195, 164] [97, 34, 10, 92, 195, 164]) = false) <| .cons (by kernel_rfl : (!beqBytes [97, 34, 10, 92, 195, 164] [97, 34, 10, 92, 195, 164]) = false) <| .cons H4 <| .cons (by kernel_rfl : (!beqBytes [97, 34, 10, 92, 195, 164] [97, 34, 10, 92, 195, 164]) = false) <| .cons (by kernel_rfl : (!beqBytes [97, 34, 10, 92, 195, 164] [97, 34, 10, 92, 195, 164]) = false) <| .cons (by kernel_rfl : (!eqI (Int.ofNat 9223372036854775807) (Int.ofNat 9223372036854775807)) = false) <| .cons (by kernel_rfl : (!eqI (Int.ofNat 9223372036854775807) (Int.ofNat 9223372036854775807)) = false) <| .cons (⟨H5, rfl⟩ : Nat.le 3 8 ∧ AV.ptr c (0 + 2 * 4) = AV.ptr c (0 + 2 * 4)) <| .cons (by kernel_rfl : (!eqI (Int.ofNat 9223372036854775807) (Int.ofNat 9223372036854775807)) = false) <| .cons (by kernel_rfl : (!eqI (Int.ofNat 9223372036854775807) (Int.ofNat 9223372036854775807)) = false) <| .cons H6 <| .cons (by kernel_rfl : (!eqI (Int.ofNat 9223372036854775807) (Int.ofNat 9223372036854775807)) = false) <| .cons (by kernel_rfl : (!eqI (Int.ofNat 9223372036854775807) (Int.ofNat 9223372036854775807)) = false) <| .cons (by kernel_rfl : (!eqI (Int.ofNat 7) (Int.ofNat 7)) = false) <| .cons (by kernel_rfl : (!eqI (Int.ofNat 7) (Int.ofNat 7)) = false) <| .cons (⟨H7, rfl⟩ : Nat.le 4 8 ∧ AV.ptr c (0 + 3 * 4) = AV.ptr c (0 + 3 * 4)) <| .cons (by kernel_rfl : (!eqI (Int.ofNat 7) (Int.ofNat 7)) = false) <| .cons (by kernel_rfl : (!eqI (Int.ofNat 7) (Int.ofNat 7)) = false) <| .cons H8 <| .cons (by kernel_rfl : (!eqI (Int.ofNat 7) (Int.ofNat 7)) = false) <| .cons (by kernel_rfl : (!eqI (Int.ofNat 7) (Int.ofNat 7)) = false) <| .cons (by kernel_rfl : (!eqI (Int.ofNat 1) (Int.ofNat 1)) = false) <| .cons (by kernel_rfl : (!eqI (Int.ofNat 1) (Int.ofNat 1)) = false) <| .cons (⟨H9, rfl⟩ : Nat.le 5 8 ∧ AV.ptr c (0 + 4 * 4) = AV.ptr c (0 + 4 * 4)) <| .cons (by kernel_rfl : (!eqI (Int.ofNat 1) (Int.ofNat 1)) = false) <| .cons (by kernel_rfl : (!eqI (Int.ofNat 1) (Int.ofNat 1)) = false) <| .cons H10 <| .cons (by kernel_rfl : (!eqI (Int.ofNat 1) (Int.ofNat 1)) = false) <| .cons (by kernel_rfl : (!eqI (Int.ofNat 1) (Int.ofNat 1)) = false) <| .cons (by kernel_rfl : (!eqI (Int.ofNat 2) (Int.ofNat 2)) = false) <| .cons (by kernel_rfl : (!eqI (Int.ofNat 2) (Int.ofNat 2)) = false) <| .cons (⟨H11, rfl⟩ : Nat.le 6 8 ∧ AV.ptr c (0 + 5 * 4) = AV.ptr c (0 + 5 * 4)) <| .cons (by kernel_rfl : (!eqI (Int.ofNat 2) (Int.ofNat 2)) = false) <| .cons (by kernel_rfl : (!eqI (Int.ofNat 2) (Int.ofNat 2)) = false) <| .cons H12 <| .cons (by kernel_rfl : (!eqI (Int.ofNat 2) (Int.ofNat 2)) = false) <| .cons (by kernel_rfl : (!eqI (Int.ofNat 2) (Int.ofNat 2)) = false) <| .cons (by kernel_rfl : (!eqI (Int.ofNat 1) (Int.ofNat 1)) = false) <| .cons (by kernel_rfl : (!eqI (Int.ofNat 1) (Int.ofNat 1)) = false) <| .cons (⟨H13, rfl⟩ : Nat.le 7 8 ∧ AV.ptr c (0 + 6 * 4) = AV.ptr c (0 + 6 * 4)) <| .cons (by kernel_rfl : (!eqI (Int.ofNat 1) (Int.ofNat 1)) = false) <| .cons (by kernel_rfl : (!eqI (Int.ofNat 1) (Int.ofNat 1)) = false) <| .cons H14 <| .cons (by kernel_rfl : (!eqI (Int.ofNat 1) (Int.ofNat 1)) = false) <| .cons (by kernel_rfl : (!eqI (Int.ofNat 1) (Int.ofNat 1)) = false) <| .cons (by kernel_rfl : (!beqBytes [97] [97]) = false) <| .nil
theorem kn_e (call : CallT → List AV → AHeap → FRes) (c : Nat) (h g : AHeap)
    (H1 : call (.fn 12) [.str []] h = FRes.ret (.tup [.slice c 0 1 (.opn 4), .nilI]) g) :
    RunF Tryd.prog Tryd.f8 none call [1, 1, 1, 1, 1, 0] (SSt.mk [] [] .none h) (.nrm)
      (SSt.mk [(1, .slice c 0 1 (.opn 4)), (2, .nilI)] [] .none g) :=
  sxF_run [1, 2] (hs := [.c (.tup [.slice c 0 1 (.opn 4), .nilI]) g]) (by kernel_rfl) <| .cons H1 <| .nil
theorem kn_f (call : CallT → List AV → AHeap → FRes) (c : Nat) (h g : AHeap)
    (H1 : call (.fn 17) [.slice c 0 1 (.opn 4), .slice (AHeap.n h) 0 1 (.exact 1)] (AHeap.push h (.cells [.int .i64 (.ofNat 0), .str [], .int .i64 (.ofNat 0), .int .i64 (.ofNat 0)] 30 .own 0 0)) = FRes.ret (.bool true) g) :
    RunF Tryd.prog Tryd.f8 none call [1, 1, 1, 1, 1, 1, 0] (SSt.mk [(1, .slice c 0 1 (.opn 4)), (2, .nilI)] [] .none h) (.nrm)
      (SSt.mk [] [] .none g) :=
  sxF_run [] (hs := [.v (.bool !true), .b false, .b false, .b false, .b false, .c (.bool true) g, .b false, .b false, .b false]) (by kernel_rfl) <| .cons (by kernel_rfl : binA Tryd.prog h BinOp.neq 26 (Operand.tmp 126) (Operand.const Value.nilIface) AV.nilI AV.nilI = some (AV.bool !true)) <| .cons (by kernel_rfl : (!true) = false) <| .cons (by kernel_rfl : (!true) = false) <| .cons (by kernel_rfl : (!true) = false) <| .cons (by kernel_rfl : (!true) = false) <| .cons H1 <| .cons (by kernel_rfl : (!true) = false) <| .cons (by kernel_rfl : (!true) = false) <| .cons (by kernel_rfl : (!true) = false) <| .nil
theorem kn_g (call : CallT → List AV → AHeap → FRes) (c : Nat) (h g : AHeap)
    (H1 : call (.fn 12) [.str [35, 195, 164, 226, 130, 172, 10, 61, 58, 46, 44, 40, 41, 123, 125, 124, 42, 43]] h = FRes.ret (.tup [.slice c 0 12 (.opn 4), .nilI]) g) :
    RunF Tryd.prog Tryd.f8 none call [1, 1, 1, 1, 1, 1, 1, 0] (SSt.mk [] [] .none h) (.nrm)
      (SSt.mk [(1, .slice c 0 12 (.opn 4)), (2, .nilI)] [] .none g) :=
  sxF_run [1, 2] (hs := [.c (.tup [.slice c 0 12 (.opn 4), .nilI]) g]) (by kernel_rfl) <| .cons H1 <| .nil
theorem kn_h (call : CallT → List AV → AHeap → FRes) (c : Nat) (h : AHeap)
    (H1 : Nat.le 1 12)
    (H2 : load1 h c (0 + 0 * 4 + 3) = some (.int .i64 (.ofNat 7))) :
    RunF Tryd.prog Tryd.f8 none call [1, 1, 1, 1, 1, 1, 1, 1, 0] (SSt.mk [(1, .slice c 0 12 (.opn 4)), (2, .nilI)] [] .none h) (.nrm)
      (SSt.mk [] [] .none h) :=
  sxF_run [] (hs := [.v (.bool !true), .b false, .b false, .b false, .b false, .b false, .b false, .v (.ptr c (0 + 0 * 4)), .b false, .b false, .v (.int .i64 (.ofNat 7)), .b false, .b false, .b false]) (by kernel_rfl) <| .cons (by kernel_rfl : binA Tryd.prog h BinOp.neq 26 (Operand.tmp 139) (Operand.const Value.nilIface) AV.nilI AV.nilI = some (AV.bool !true)) <| .cons (by kernel_rfl : (!true) = false) <| .cons (by kernel_rfl : (!true) = false) <| .cons (by kernel_rfl : (!true) = false) <| .cons (by kernel_rfl : (!true) = false) <| .cons (by kernel_rfl : (!eqI (Int.ofNat 12) (Int.ofNat 12)) = false) <| .cons (by kernel_rfl : (!eqI (Int.ofNat 12) (Int.ofNat 12)) = false) <| .cons (⟨H1, rfl⟩ : Nat.le 1 12 ∧ AV.ptr c (0 + 0 * 4) = AV.ptr c (0 + 0 * 4)) <| .cons (by kernel_rfl : (!eqI (Int.ofNat 12) (Int.ofNat 12)) = false) <| .cons (by kernel_rfl : (!eqI (Int.ofNat 12) (Int.ofNat 12)) = false) <| .cons H2 <| .cons (by kernel_rfl : (!eqI (Int.ofNat 12) (Int.ofNat 12)) = false) <| .cons (by kernel_rfl : (!eqI (Int.ofNat 12) (Int.ofNat 12)) = false) <| .cons (by kernel_rfl : (!eqI (Int.ofNat 7) (Int.ofNat 7)) = false) <| .nil
theorem kn_i (call : CallT → List AV → AHeap → FRes) (h : AHeap) :
    RunF Tryd.prog Tryd.f8 none call [1, 1, 1, 1, 1, 1, 1, 1, 1, 0, 0] (SSt.mk [] [] .none h) (.nrm)
      (SSt.mk [(174, .slice (AHeap.n h) 0 21 (.exact 21)), (175, .int .i64 (.ofNat 21)), (176, .int .i64 (.ofNat 0))] [] .none (AHeap.push h (.cells [.str [36], .int .i64 (.ofNat 0), .str [97, 32, 32, 33], .int .i64 (.ofNat 3), .str [57, 50, 50, 51, 51, 55, 50, 48, 51, 54, 56, 53, 52, 55, 55, 53, 56, 48, 56], .int .i64 (.ofNat 0), .str [49, 32, 57, 57, 57, 57, 57, 57, 57, 57, 57, 57, 57, 57, 57, 57, 57, 57, 57, 57, 57, 57, 57, 57, 57], .int .i64 (.ofNat 2), .str [34, 97, 98, 99], .int .i64 (.ofNat 0), .str [120, 32, 34, 97, 98, 99, 10, 100, 101, 102, 34], .int .i64 (.ofNat 2), .str [34, 92, 116, 34], .int .i64 (.ofNat 1), .str [34, 97, 92], .int .i64 (.ofNat 2), .str [34, 92, 110, 255, 34], .int .i64 (.ofNat 3), .str [35, 32, 255], .int .i64 (.ofNat 2), .str [97, 195, 164], .int .i64 (.ofNat 1), .str [0], .int .i64 (.ofNat 0), .str [97, 49, 50, 51, 52, 53, 54, 55, 56, 57, 48, 49, 50, 51, 52, 53, 54, 55, 56, 57, 48, 49, 50, 51, 52, 53], .int .i64 (.ofNat 0), .str [34, 97, 10, 36], .int .i64 (.ofNat 0), .str [38], .int .i64 (.ofNat 0), .str [97, 11], .int .i64 (.ofNat 1), .str [34, 195], .int .i64 (.ofNat 1), .str [91], .int .i64 (.ofNat 0), .str [97, 59, 98], .int .i64 (.ofNat 1), .str [39], .int .i64 (.ofNat 0), .str [62], .int .i64 (.ofNat 0)] 44 .own 0 0))) :=
  sxF_run [174, 175, 176] (hs := []) (by kernel_rfl) <| .nil
theorem kn_j (call : CallT → List AV → AHeap → FRes) (b i e a n : Nat) (s : List UInt8) (h h1 g g2 g_1 : AHeap) (n_1 : Nat)
    (H1 : ltI (.ofNat i) (.ofNat 21) = true)
    (H2 : Nat.le (Nat.succ i) 21)
    (H3 : AEv.loadCells h b (0 + i * 2) 2 = some [.str s, .int .i64 (.ofNat a)])
    (H4 : AEv.storeCells (AHeap.push h (.cells [.str [], .int .i64 (.ofNat 0)] 44 .own 0 0)) (AHeap.n h) 0 [.str s, .int .i64 (.ofNat a)] = some g_1)
    (H5 : load1 g_1 (AHeap.n h) (0 + 0) = some (.str s))
    (H6 : call (.fn 12) [.str s] g_1 = FRes.ret (.tup [.nilS, .iface 52 (.ptr e 0)]) g)
    (H7 : load1 g (AHeap.n h) (0 + 1) = some (.int .i64 (.ofNat a)))
    (H8 : call (CallT.fn 16) [AV.iface 52 (AV.ptr e 0), AV.agg [AV.int IntKind.i64 (Int.ofNat 10), AV.int IntKind.i64 (Int.ofNat a)]] g = FRes.ret (AV.bool true) g2)
    (H9 : arith .add .i64 (.ofNat i) (.ofNat 1) = some (.int .i64 (.ofNat n_1))) :
    RunF Tryd.prog Tryd.f8 none call [1, 1, 1, 1, 1, 1, 1, 1, 1, 0, 1, 0, 0] (SSt.mk [(174, .slice b 0 21 (.exact 21)), (175, .int .i64 (.ofNat 21)), (176, .int .i64 (.ofNat i))] [] .none h) (.nrm)
      (SSt.mk [(174, .slice b 0 21 (.exact 21)), (175, .int .i64 (.ofNat 21)), (176, .int .i64 (.ofNat n_1))] [] .none g2) :=
  sxF_run [174, 175, 176] (hs := [.b true, .v (.ptr b (0 + i * 2)), .v (.agg [.str s, .int .i64 (.ofNat a)]), .vh (.tup []) g_1, .v (.str s), .c (.tup [.nilS, .iface 52 (.ptr e 0)]) g, .b false, .b false, .b false, .v (.int .i64 (.ofNat a)), .b false, .b false, .c (.bool true) g2, .b false, .b false, .b false, .v (.int .i64 (.ofNat n_1))]) (by kernel_rfl) <| .cons H1 <| .cons (⟨H2, rfl⟩ : Nat.le (Nat.succ i) 21 ∧ AV.ptr b (0 + i * 2) = AV.ptr b (0 + i * 2)) <| .cons H3 <| .cons (⟨by kernel_rfl, H4, rfl⟩ : some 2 = some 2 ∧ AEv.storeCells (AHeap.push h (AObj.cells [AV.str [], AV.int IntKind.i64 (Int.ofNat 0)] 44 BK.own 0 0)) (AHeap.n h) 0 [AV.str s, AV.int IntKind.i64 (Int.ofNat a)] = some g_1 ∧ AV.tup [] = AV.tup []) <| .cons H5 <| .cons H6 <| .cons (by kernel_rfl : (!eqI (Int.ofNat 0) (Int.ofNat 0)) = false) <| .cons (by kernel_rfl : (!eqI (Int.ofNat 0) (Int.ofNat 0)) = false) <| .cons (by kernel_rfl : (!eqI (Int.ofNat 0) (Int.ofNat 0)) = false) <| .cons H7 <| .cons (by kernel_rfl : (!eqI (Int.ofNat 0) (Int.ofNat 0)) = false) <| .cons (by kernel_rfl : (!eqI (Int.ofNat 0) (Int.ofNat 0)) = false) <| .cons H8 <| .cons (by kernel_rfl : (!eqI (Int.ofNat 0) (Int.ofNat 0)) = false) <| .cons (by kernel_rfl : (!eqI (Int.ofNat 0) (Int.ofNat 0)) = false) <| .cons (by kernel_rfl : (!true) = false) <| .cons H9 <| .nil
theorem kn_jx (call : CallT → List AV → AHeap → FRes) (b i : Nat) (h : AHeap)
    (H1 : ltI (.ofNat i) (.ofNat 21) = false) :
    RunF Tryd.prog Tryd.f8 none call [1, 1, 1, 1, 1, 1, 1, 1, 1, 0, 1, 0, 0] (SSt.mk [(174, .slice b 0 21 (.exact 21)), (175, .int .i64 (.ofNat 21)), (176, .int .i64 (.ofNat i))] [] .none h) (.exit 0)
      (SSt.mk [] [] .none h) :=
  sxF_run [] (hs := [.b false]) (by kernel_rfl) <| .cons H1 <| .nil
theorem kn_k (call : CallT → List AV → AHeap → FRes) (h : AHeap) :
    RunF Tryd.prog Tryd.f8 none call [1, 1, 1, 1, 1, 1, 1, 1, 1, 1, 0, 0] (SSt.mk [] [] .none h) (.nrm)
      (SSt.mk [(201, .slice (AHeap.n h) 0 22 (.exact 22)), (202, .int .i64 (.ofNat 22)), (203, .int .i64 (.ofNat 0))] [] .none (AHeap.push h (.cells [.str [105, 109, 112, 111, 114, 116], .str [97, 115], .str [116, 121, 112, 101], .str [108, 101, 116], .str [102, 117, 110], .str [102, 110], .str [105, 102], .str [116, 104, 101, 110], .str [101, 108, 115, 101], .str [105, 110], .str [97, 110, 100], .str [111, 114], .str [110, 111, 116], .str [114, 111, 108, 108], .str [117, 110, 114, 111, 108, 108], .str [116, 114, 117, 101], .str [102, 97, 108, 115, 101], .str [110, 105, 108], .str [105, 110, 116], .str [98, 111, 111, 108], .str [115, 116, 114], .str [97, 110, 121]] 9 .own 0 0))) :=
  sxF_run [201, 202, 203] (hs := []) (by kernel_rfl) <| .nil
theorem kn_l (call : CallT → List AV → AHeap → FRes) (b i : Nat) (s : List UInt8) (h g : AHeap) (n_1 : Nat)
    (H1 : ltI (.ofNat i) (.ofNat 22) = true)
    (H2 : Nat.le (Nat.succ i) 22)
    (H3 : load1 h b (0 + i * 1) = some (.str s))
    (H4 : call (.fn 9) [.str s] h = FRes.ret (.bool true) g)
    (H5 : arith .add .i64 (.ofNat i) (.ofNat 1) = some (.int .i64 (.ofNat n_1))) :
    RunF Tryd.prog Tryd.f8 none call [1, 1, 1, 1, 1, 1, 1, 1, 1, 1, 0, 1, 0, 0] (SSt.mk [(201, .slice b 0 22 (.exact 22)), (202, .int .i64 (.ofNat 22)), (203, .int .i64 (.ofNat i))] [] .none h) (.nrm)
      (SSt.mk [(201, .slice b 0 22 (.exact 22)), (202, .int .i64 (.ofNat 22)), (203, .int .i64 (.ofNat n_1))] [] .none g) :=
  sxF_run [201, 202, 203] (hs := [.b true, .v (.ptr b (0 + i * 1)), .v (.str s), .c (.bool true) g, .b false, .v (.int .i64 (.ofNat n_1))]) (by kernel_rfl) <| .cons H1 <| .cons (⟨H2, rfl⟩ : Nat.le (Nat.succ i) 22 ∧ AV.ptr b (0 + i * 1) = AV.ptr b (0 + i * 1)) <| .cons H3 <| .cons H4 <| .cons (by kernel_rfl : (!true) = false) <| .cons H5 <| .nil
theorem kn_lx (call : CallT → List AV → AHeap → FRes) (b i : Nat) (h : AHeap)
    (H1 : ltI (.ofNat i) (.ofNat 22) = false) :
    RunF Tryd.prog Tryd.f8 none call [1, 1, 1, 1, 1, 1, 1, 1, 1, 1, 0, 1, 0, 0] (SSt.mk [(201, .slice b 0 22 (.exact 22)), (202, .int .i64 (.ofNat 22)), (203, .int .i64 (.ofNat i))] [] .none h) (.exit 2)
      (SSt.mk [] [] .none h) :=
  sxF_run [] (hs := [.b false]) (by kernel_rfl) <| .cons H1 <| .nil
theorem kn_m (call : CallT → List AV → AHeap → FRes) (c : Nat) (h g : AHeap)
    (H1 : call (.fn 12) [.str [97, 49, 50, 51, 52, 53, 54, 55, 56, 57, 48, 49, 50, 51, 52, 53, 54, 55, 56, 57, 48, 49, 50, 51, 32, 76, 101, 116]] h = FRes.ret (.tup [.slice c 0 3 (.opn 4), .nilI]) g) :
    RunF Tryd.prog Tryd.f8 none call [1, 1, 1, 1, 1, 1, 1, 1, 1, 1, 1, 0] (SSt.mk [] [] .none h) (.nrm)
      (SSt.mk [(1, .slice c 0 3 (.opn 4)), (2, .nilI)] [] .none g) :=
  sxF_run [1, 2] (hs := [.c (.tup [.slice c 0 3 (.opn 4), .nilI]) g]) (by kernel_rfl) <| .cons H1 <| .nil
theorem kn_n (call : CallT → List AV → AHeap → FRes) (c : Nat) (h g1 g2 g3 g4 : AHeap)
    (H1 : Nat.le 2 3)
    (H2 : load1 h c (0 + 1 * 4 + 0) = some (.int .i64 (.ofNat 1)))
    (H3 : call (.fn 9) [.str []] h = FRes.ret (.bool false) g1)
    (H4 : call (.fn 9) [.str [76, 101, 116]] g1 = FRes.ret (.bool false) g2)
    (H5 : call (.fn 9) [.str [115, 116, 114, 115]] g2 = FRes.ret (.bool false) g3)
    (H6 : call (.fn 11) [] g3 = FRes.ret (.bool true) g4) :
    RunF Tryd.prog Tryd.f8 none call [1, 1, 1, 1, 1, 1, 1, 1, 1, 1, 1, 1] (SSt.mk [(1, .slice c 0 3 (.opn 4)), (2, .nilI)] [] .none h) (.ret)
      (SSt.mk [(0, .bool true)] [] .none g4) :=
  sxF_run [0] (hs := [.v (.bool true), .b true, .b true, .b true, .b true, .b true, .b true, .v (.ptr c (0 + 1 * 4)), .b true, .b true, .v (.int .i64 (.ofNat 1)), .b true, .b true, .b true, .c (.bool false) g1, .b true, .b true, .b true, .c (.bool false) g2, .b true, .b true, .b true, .c (.bool false) g3, .b true, .b true, .b true, .c (.bool true) g4, .b true]) (by kernel_rfl) <| .cons (by kernel_rfl : binA Tryd.prog h BinOp.eql 26 (Operand.tmp 215) (Operand.const Value.nilIface) AV.nilI AV.nilI = some (AV.bool true)) <| .cons (by kernel_rfl : true = true) <| .cons (by kernel_rfl : true = true) <| .cons (by kernel_rfl : true = true) <| .cons (by kernel_rfl : true = true) <| .cons (by kernel_rfl : eqI (Int.ofNat 3) (Int.ofNat 3) = true) <| .cons (by kernel_rfl : eqI (Int.ofNat 3) (Int.ofNat 3) = true) <| .cons (⟨H1, rfl⟩ : Nat.le 2 3 ∧ AV.ptr c (0 + 1 * 4) = AV.ptr c (0 + 1 * 4)) <| .cons (by kernel_rfl : eqI (Int.ofNat 3) (Int.ofNat 3) = true) <| .cons (by kernel_rfl : eqI (Int.ofNat 3) (Int.ofNat 3) = true) <| .cons H2 <| .cons (by kernel_rfl : eqI (Int.ofNat 3) (Int.ofNat 3) = true) <| .cons (by kernel_rfl : eqI (Int.ofNat 3) (Int.ofNat 3) = true) <| .cons (by kernel_rfl : eqI (Int.ofNat 1) (Int.ofNat 1) = true) <| .cons H3 <| .cons (by kernel_rfl : eqI (Int.ofNat 1) (Int.ofNat 1) = true) <| .cons (by kernel_rfl : eqI (Int.ofNat 1) (Int.ofNat 1) = true) <| .cons (by kernel_rfl : (!false) = true) <| .cons H4 <| .cons (by kernel_rfl : (!false) = true) <| .cons (by kernel_rfl : (!false) = true) <| .cons (by kernel_rfl : (!false) = true) <| .cons H5 <| .cons (by kernel_rfl : (!false) = true) <| .cons (by kernel_rfl : (!false) = true) <| .cons (by kernel_rfl : (!false) = true) <| .cons H6 <| .cons (by kernel_rfl : (!false) = true) <| .nil
theorem ak (call : CallT → List AV → AHeap → FRes) (c d : Nat) (h g : AHeap)
    (H1 : RunF Tryd.prog Tryd.f17 none call [1, 1, 0, 1, 0] (SSt.mk [(5, .int .i64 (.ofNat 0)), (10, .bool !eqI (.ofNat 1) (.ofNat 1)), (4, .bool false), (0, .slice c 0 1 (.opn 4)), (1, .slice d 0 1 (.exact 1))] [] .none h) (.exit 0) (SSt.mk [] [] .none g)) :
    RunF Tryd.prog Tryd.f17 none call [] (SSt.mk [(0, .slice c 0 1 (.opn 4)), (1, .slice d 0 1 (.exact 1))] [] .none h) (.ret)
      (SSt.mk [(4, .bool true)] [] .none g) :=
  sxF_run [4] (hs := [Hint.b false, Hint.loop (AEx.exit 0) (SSt.mk [] [] Rc.none g)]) (by kernel_rfl) <| .cons (by kernel_rfl : (!eqI (Int.ofNat 1) (Int.ofNat 1)) = false) <| .cons H1 <| .nil
theorem akl (call : CallT → List AV → AHeap → FRes) (c d : Nat) (h : AHeap)
    (H1 : Nat.le 1 1)
    (H2 : AEv.loadCells (AHeap.room h 9) c (0 + 0 * 4) 4 = some [.int .i64 (.ofNat 0), .str [], .int .i64 (.ofNat 0), .int .i64 (.ofNat 0)])
    (H3 : Nat.le 1 1)
    (H4 : AEv.loadCells (AHeap.room h 9) d (0 + 0 * 4) 4 = some [.int .i64 (.ofNat 0), .str [], .int .i64 (.ofNat 0), .int .i64 (.ofNat 0)]) :
    RunF Tryd.prog Tryd.f17 none call [1, 1, 0, 1, 0, 0] (SSt.mk [(0, .slice c 0 1 (.opn 4)), (1, .slice d 0 1 (.exact 1)), (5, .int .i64 (.ofNat 0))] [] .none h) (.nrm)
      (SSt.mk [(0, .slice c 0 1 (.opn 4)), (1, .slice d 0 1 (.exact 1)), (5, .int .i64 (.ofNat 1))] [] .none (AHeap.room h 9)) :=
  sxF_run [0, 1, 5] (hs := [.b true, .v (.ptr c (0 + 0 * 4)), .v (.agg [.int .i64 (.ofNat 0), .str [], .int .i64 (.ofNat 0), .int .i64 (.ofNat 0)]), .v (.ptr d (0 + 0 * 4)), .v (.agg [.int .i64 (.ofNat 0), .str [], .int .i64 (.ofNat 0), .int .i64 (.ofNat 0)]), .v (.bool !true), .b false, .v (.int .i64 (.ofNat 1))]) (by kernel_rfl) <| .cons (by kernel_rfl : ltI (Int.ofNat 0) (Int.ofNat 1) = true) <| .cons (⟨H1, rfl⟩ : Nat.le 1 1 ∧ AV.ptr c (0 + 0 * 4) = AV.ptr c (0 + 0 * 4)) <| .cons H2 <| .cons (⟨H3, rfl⟩ : Nat.le 1 1 ∧ AV.ptr d (0 + 0 * 4) = AV.ptr d (0 + 0 * 4)) <| .cons H4 <| .cons (by kernel_rfl : binA Tryd.prog (AHeap.room h 9) BinOp.neq 30 (Operand.tmp 20) (Operand.tmp 24) (AV.agg [AV.int IntKind.i64 (Int.ofNat 0), AV.str [], AV.int IntKind.i64 (Int.ofNat 0), AV.int IntKind.i64 (Int.ofNat 0)]) (AV.agg [AV.int IntKind.i64 (Int.ofNat 0), AV.str [], AV.int IntKind.i64 (Int.ofNat 0), AV.int IntKind.i64 (Int.ofNat 0)]) = some (AV.bool !true)) <| .cons (by kernel_rfl : AV.sound (AV.slice c 0 1 (Cap.opn 4)) = true) <| .cons (by kernel_rfl : AV.slice c 0 1 (Cap.opn 4) = AV.slice c 0 1 (Cap.opn 4)) <| .cons (by kernel_rfl : AV.sound (AV.int IntKind.i64 (Int.ofNat 0)) = true) <| .cons (by kernel_rfl : AV.int IntKind.i64 (Int.ofNat 0) = AV.int IntKind.i64 (Int.ofNat 0)) <| .cons (by kernel_rfl : AV.sound (AV.ptr c (0 + 0 * 4)) = true) <| .cons (⟨H1, rfl⟩ : Nat.le 1 1 ∧ AV.ptr c (0 + 0 * 4) = AV.ptr c (0 + 0 * 4)) <| .cons (by kernel_rfl : AV.sound (AV.agg [AV.int IntKind.i64 (Int.ofNat 0), AV.str [], AV.int IntKind.i64 (Int.ofNat 0), AV.int IntKind.i64 (Int.ofNat 0)]) = true) <| .cons H2 <| .cons (by kernel_rfl : AV.sound (AV.slice d 0 1 (Cap.exact 1)) = true) <| .cons (by kernel_rfl : AV.slice d 0 1 (Cap.exact 1) = AV.slice d 0 1 (Cap.exact 1)) <| .cons (by kernel_rfl : AV.sound (AV.int IntKind.i64 (Int.ofNat 0)) = true) <| .cons (by kernel_rfl : AV.int IntKind.i64 (Int.ofNat 0) = AV.int IntKind.i64 (Int.ofNat 0)) <| .cons (by kernel_rfl : AV.sound (AV.ptr d (0 + 0 * 4)) = true) <| .cons (⟨H3, rfl⟩ : Nat.le 1 1 ∧ AV.ptr d (0 + 0 * 4) = AV.ptr d (0 + 0 * 4)) <| .cons (by kernel_rfl : AV.sound (AV.agg [AV.int IntKind.i64 (Int.ofNat 0), AV.str [], AV.int IntKind.i64 (Int.ofNat 0), AV.int IntKind.i64 (Int.ofNat 0)]) = true) <| .cons H4 <| .cons (by kernel_rfl : AV.sound (AV.bool !true) = true) <| .cons (by kernel_rfl : binA Tryd.prog (AHeap.room h 9) BinOp.neq 30 (Operand.tmp 20) (Operand.tmp 24) (AV.agg [AV.int IntKind.i64 (Int.ofNat 0), AV.str [], AV.int IntKind.i64 (Int.ofNat 0), AV.int IntKind.i64 (Int.ofNat 0)]) (AV.agg [AV.int IntKind.i64 (Int.ofNat 0), AV.str [], AV.int IntKind.i64 (Int.ofNat 0), AV.int IntKind.i64 (Int.ofNat 0)]) = some (AV.bool !true)) <| .cons (by kernel_rfl : (!true) = false) <| .cons (by kernel_rfl : arith BinOp.add IntKind.i64 (Int.ofNat 0) (Int.ofNat 1) = some (AV.int IntKind.i64 (Int.ofNat 1))) <| .nil
theorem akx (call : CallT → List AV → AHeap → FRes) (c d : Nat) (h : AHeap) :
    RunF Tryd.prog Tryd.f17 none call [1, 1, 0, 1, 0, 0] (SSt.mk [(0, .slice c 0 1 (.opn 4)), (1, .slice d 0 1 (.exact 1)), (5, .int .i64 (.ofNat 1))] [] .none h) (.exit 0)
      (SSt.mk [] [] .none h) :=
  sxF_run [] (hs := [.b false]) (by kernel_rfl) <| .cons (by kernel_rfl : ltI (Int.ofNat 1) (Int.ofNat 1) = false) <| .nil


/-! ### told -/
/-- The variable errors.errorType lies as it should. -/
def ErrAt (h : AHeap) : Prop := isErrT erN.rt erN.ng erN.te (h.get 0) = true
theorem ErrAt.keep {h g : AHeap} (he : ErrAt h) (hk : ∀ b, b < 5 → g.get b = h.get b) : ErrAt g := by
  unfold ErrAt at he ⊢
  rw [hk _ (by decide)]; exact he
theorem as_c (m e p : Nat) (x : AHeap) (he : ErrAt x) (hp : x.get p = some (.cells [.nilP] 52 .own 0 0)) : C (m + 1) (.fn 29) [.iface 52 (.ptr e 0), .iface 61 (.ptr p 0)] x = .ret (.bool true) (x.set p (some (.cells [.ptr e 0] 52 .own 0 0))) := by
  have ha : asI erN 29 [.iface 52 (.ptr e 0), .iface 61 (.ptr p 0)] x = some (.bool true, x.set p (some (.cells [.ptr e 0] 52 .own 0 0))) := by
    have e1 : Nat.beq 29 erN.fAs = true := rfl
    have e2 : Nat.beq 52 erN.tF = true := rfl
    have e3 : Nat.beq 61 erN.tFF = true := rfl
    have e4 : isErrT erN.rt erN.ng erN.te (x.get erN.g) = true := he
    simp only [asI, e1, e2, e3, e4, hp, Bool.and_true]
  have h1 : tabIntrT tabs Wl 29 [.iface 52 (.ptr e 0), .iface 61 (.ptr p 0)] x = none := rfl
  have h1' : intrR Tryd.prog.globals.size tabs Rl 29 [.iface 52 (.ptr e 0), .iface 61 (.ptr p 0)] x = none := rfl
  have hi : Il 29 [.iface 52 (.ptr e 0), .iface 61 (.ptr p 0)] x = some (.bool true, x.set p (some (.cells [.ptr e 0] 52 .own 0 0))) := by
    simp only [Il, orE, h1, h1', ha]
  simp only [C, callN, hi]
theorem is_c (m e : Nat) (k : Nat) (x : AHeap) (hl : load1 x e 0 = some (.int .i64 (Int.ofNat k))) : C (m + 1) (.fn 30) [.iface 52 (.ptr e 0), .iface 36 (.int .i64 (Int.ofNat k))] x = .ret (.bool true) x := by
  have ha : isI erN 30 [.iface 52 (.ptr e 0), .iface 36 (.int .i64 (Int.ofNat k))] x = some (.bool true, x) := by
    have e1 : Nat.beq 30 erN.fIs = true := rfl
    have e2 : Nat.beq 52 erN.tF = true := rfl
    have e3 : Nat.beq 36 erN.tE = true := rfl
    simp only [isI, e1, e2, e3, hl, eqI_t rfl, Bool.and_true]
  have h1 : tabIntrT tabs Wl 30 [.iface 52 (.ptr e 0), .iface 36 (.int .i64 (Int.ofNat k))] x = none := rfl
  have h1' : intrR Tryd.prog.globals.size tabs Rl 30 [.iface 52 (.ptr e 0), .iface 36 (.int .i64 (Int.ofNat k))] x = none := rfl
  have h2 : asI erN 30 [.iface 52 (.ptr e 0), .iface 36 (.int .i64 (Int.ofNat k))] x = none := rfl
  have hi : Il 30 [.iface 52 (.ptr e 0), .iface 36 (.int .i64 (Int.ofNat k))] x = some (.bool true, x) := by
    simp only [Il, orE, h1, h1', h2, ha]
  simp only [C, callN, hi]
theorem eqA_ft (h : AHeap) (k a : Nat) : binA Tryd.prog h BinOp.eql 38 (.tmp 25) (.tmp 26) (.agg [.int .i64 (Int.ofNat k), .int .i64 (Int.ofNat a)]) (.agg [.int .i64 (Int.ofNat k), .int .i64 (Int.ofNat a)]) = some (.bool true) := by
  have hk : eqOK Tryd.prog 38 (.tmp 25) (.tmp 26) (.agg [.int .i64 (Int.ofNat k), .int .i64 (Int.ofNat a)]) (.agg [.int .i64 (Int.ofNat k), .int .i64 (Int.ofNat a)]) = true := by
    show (!Tryd.prog.eqGuardType Tryd.prog.depth 38) = true
    kernel_rfl
  have he : eqA Tryd.prog h 100 38 (.agg [.int .i64 (Int.ofNat k), .int .i64 (Int.ofNat a)]) (.agg [.int .i64 (Int.ofNat k), .int .i64 (Int.ofNat a)]) = some true := by
    have : eqA Tryd.prog h 100 38 (.agg [.int .i64 (Int.ofNat k), .int .i64 (Int.ofNat a)]) (.agg [.int .i64 (Int.ofNat k), .int .i64 (Int.ofNat a)]) = (match some (eqI (Int.ofNat k) (Int.ofNat k)) with
      | some true => (match some (eqI (Int.ofNat a) (Int.ofNat a)) with
        | some true => some true
        | x => x)
      | x => x) := by kernel_rfl
    rw [this, eqI_t rfl, eqI_t rfl]
  simp only [binA, hk, if_true, he]
theorem told_nil (m a : Nat) (h : AHeap) : ∃ h', C (m + 1) (.fn 16) [.nilI, .agg [.int .i64 (Int.ofNat 0), .int .i64 (Int.ofNat a)]] h = .ret (.bool true) h' ∧ Ext h.n h h' :=
  ⟨_, fn_runF (intr := Il) (n := m) (args := [.nilI, .agg [.int .i64 (Int.ofNat 0), .int .i64 (Int.ofNat a)]]) Tryd.func16 (by kernel_rfl) rfl (by kernel_rfl) (td_0 (C m) a h (ld1 (gtop rfl) rfl)) (.inl rfl) (by kernel_rfl), Ext.push (Nat.le_refl _) _⟩
theorem told_c (m e a : Nat) (h : AHeap) (he : ErrAt h) (hn : 5 ≤ h.n) (hf : h.get e = some (FaultO a)) (hen : e < h.n) : ∃ h', C (m + 2) (.fn 16) [.iface 52 (.ptr e 0), .agg [.int .i64 (Int.ofNat 10), .int .i64 (Int.ofNat a)]] h = .ret (.bool true) h' ∧ Ext h.n h h' := by
  obtain ⟨h1, hh1⟩ : ∃ h1, h1 = h.push (.cells [.int .i64 (Int.ofNat 10), .int .i64 (Int.ofNat a)] 38 .own 0 0) := ⟨_, rfl⟩
  have n1 : h1.n = h.n + 1 := by rw [hh1]; rfl
  have t1 : h1.get h.n = some (.cells [.int .i64 (Int.ofNat 10), .int .i64 (Int.ofNat a)] 38 .own 0 0) := by rw [hh1]; exact gtop rfl
  obtain ⟨x, hx⟩ : ∃ x, x = (h1.push (.cells [.nilP] 52 .own 0 0)).room 26 := ⟨_, rfl⟩
  have xg : ∀ b, b < h1.n → x.get b = h1.get b := fun b hb => by rw [hx]; exact gold hb rfl
  have xo : ∀ b, b < h.n → x.get b = h.get b := fun b hb => (xg b (by omega)).trans (by rw [hh1]; exact gold hb rfl)
  have xp : x.get h1.n = some (.cells [.nilP] 52 .own 0 0) := by rw [hx]; exact gtop rfl
  have ex : ErrAt x := he.keep fun b hb => xo b (by omega)
  have c1 := as_c m e h1.n x ex xp
  obtain ⟨y, hy⟩ : ∃ y, y = x.set h1.n (some (.cells [.ptr e 0] 52 .own 0 0)) := ⟨_, rfl⟩
  rw [← hy] at c1
  have yo : ∀ b, b < h1.n → y.get b = h1.get b := fun b hb => by rw [hy]; exact gother (by omega) (xg b hb)
  have ye : y.get e = some (FaultO a) := (yo e (by omega)).trans (by rw [hh1]; exact gold hen hf)
  have yt : y.get h.n = some (.cells [.int .i64 (Int.ofNat 10), .int .i64 (Int.ofNat a)] 38 .own 0 0) := (yo _ (by omega)).trans t1
  have yn : y.n = h.n + 28 := by rw [hy, hx]; show h1.n + 1 + 26 = _; omega
  have c2 := is_c m e 10 y (ld1 ye rfl)
  have yp : y.get h1.n = some (.cells [.ptr e 0] 52 .own 0 0) := by rw [hy]; exact gsame rfl
  rw [hx, hh1] at c1
  rw [hh1] at yp t1
  exact ⟨y, fn_runF (intr := Il) (n := m + 1) (args := [.iface 52 (.ptr e 0), .agg [.int .i64 (Int.ofNat 10), .int .i64 (Int.ofNat a)]]) Tryd.func16 (by kernel_rfl) rfl (by kernel_rfl)
    (td_1 (C (m + 1)) e a h y y (ld1 t1 rfl) c1 (ld1 yp rfl) (ldc ye rfl) (ldc yt rfl) (eqA_ft y 10 a) (ld1 yt rfl) c2) (.inl rfl) (by kernel_rfl), ⟨by omega, fun b hb => (yo b (by omega)).trans (by rw [hh1]; exact gold hb rfl)⟩⟩
end Go.Proofs.Lx

namespace Go.Proofs.Lx
open Go AEv Go.Proofs Lexp
set_option maxRecDepth 100000
set_option maxHeartbeats 1000000

/-! ### LexKnown -/
def ks0 : List UInt8 := [97, 45, 45, 62, 98, 61, 62, 99, 60, 61, 61]
def kt0 : List Tk := [⟨1, [97], 0, 0⟩, ⟨5, [45], 0, 1⟩, ⟨5, [45, 62], 0, 2⟩, ⟨1, [98], 0, 4⟩, ⟨5, [61, 62], 0, 5⟩, ⟨1, [99], 0, 7⟩, ⟨5, [60], 0, 8⟩, ⟨5, [61, 61], 0, 9⟩, ⟨0, [], 0, 11⟩]
theorem kl0 : lexS ks0 = .ok kt0 := by kernel_rfl
def ks1 : List UInt8 := [34, 97, 92, 34, 92, 110, 92, 92, 195, 164, 34, 32, 57, 50, 50, 51, 51, 55, 50, 48, 51, 54, 56, 53, 52, 55, 55, 53, 56, 48, 55, 32, 48, 48, 55, 32, 95, 97, 57, 32, 105, 110, 32, 49, 97]
def kt1 : List Tk := [⟨4, [97, 34, 10, 92, 195, 164], 0, 0⟩, ⟨3, [], 9223372036854775807, 12⟩, ⟨3, [], 7, 32⟩, ⟨1, [95, 97, 57], 0, 36⟩, ⟨2, [105, 110], 0, 40⟩, ⟨3, [], 1, 43⟩, ⟨1, [97], 0, 44⟩, ⟨0, [], 0, 45⟩]
theorem kl1 : lexS ks1 = .ok kt1 := by kernel_rfl
def ks2 : List UInt8 := []
def kt2 : List Tk := [⟨0, [], 0, 0⟩]
theorem kl2 : lexS ks2 = .ok kt2 := by kernel_rfl
def ks3 : List UInt8 := [35, 195, 164, 226, 130, 172, 10, 61, 58, 46, 44, 40, 41, 123, 125, 124, 42, 43]
def kt3 : List Tk := [⟨5, [61], 0, 7⟩, ⟨5, [58], 0, 8⟩, ⟨5, [46], 0, 9⟩, ⟨5, [44], 0, 10⟩, ⟨5, [40], 0, 11⟩, ⟨5, [41], 0, 12⟩, ⟨5, [123], 0, 13⟩, ⟨5, [125], 0, 14⟩, ⟨5, [124], 0, 15⟩, ⟨5, [42], 0, 16⟩, ⟨5, [43], 0, 17⟩, ⟨0, [], 0, 18⟩]
theorem kl3 : lexS ks3 = .ok kt3 := by kernel_rfl
def ks4 : List UInt8 := [97, 49, 50, 51, 52, 53, 54, 55, 56, 57, 48, 49, 50, 51, 52, 53, 54, 55, 56, 57, 48, 49, 50, 51, 32, 76, 101, 116]
def kt4 : List Tk := [⟨1, [97, 49, 50, 51, 52, 53, 54, 55, 56, 57, 48, 49, 50, 51, 52, 53, 54, 55, 56, 57, 48, 49, 50, 51], 0, 0⟩, ⟨1, [76, 101, 116], 0, 25⟩, ⟨0, [], 0, 28⟩]
theorem kl4 : lexS ks4 = .ok kt4 := by kernel_rfl
def bads : List (List UInt8 × Nat) := [([36], 0), ([97, 32, 32, 33], 3), ([57, 50, 50, 51, 51, 55, 50, 48, 51, 54, 56, 53, 52, 55, 55, 53, 56, 48, 56], 0), ([49, 32, 57, 57, 57, 57, 57, 57, 57, 57, 57, 57, 57, 57, 57, 57, 57, 57, 57, 57, 57, 57, 57, 57, 57], 2), ([34, 97, 98, 99], 0), ([120, 32, 34, 97, 98, 99, 10, 100, 101, 102, 34], 2), ([34, 92, 116, 34], 1), ([34, 97, 92], 2), ([34, 92, 110, 255, 34], 3), ([35, 32, 255], 2), ([97, 195, 164], 1), ([0], 0), ([97, 49, 50, 51, 52, 53, 54, 55, 56, 57, 48, 49, 50, 51, 52, 53, 54, 55, 56, 57, 48, 49, 50, 51, 52, 53], 0), ([34, 97, 10, 36], 0), ([38], 0), ([97, 11], 1), ([34, 195], 1), ([91], 0), ([97, 59, 98], 1), ([39], 0), ([62], 0)]
def errB (x : List UInt8 × Nat) : Bool := match lexS x.1 with
  | .error a => Nat.beq a x.2
  | .ok _ => false
theorem bads_err : bads.all errB = true := by kernel_rfl
theorem bads_len : ∀ x ∈ bads, x.1.length ≤ 80000 := by decide
theorem errB_eq {x : List UInt8 × Nat} (h : errB x = true) : lexS x.1 = .error x.2 := by
  unfold errB at h
  split at h
  · rename_i a e; rw [e, Nat.eq_of_beq_eq_true h]
  · cases h
def encB (x : List UInt8 × Nat) : List AV := [.str x.1, .int .i64 (Int.ofNat x.2)]
theorem words_in : words.all inW = true := by kernel_rfl
/-- What a law's run needs of memory. -/
structure Mem (h : AHeap) : Prop where
  tb : tabsIn h tabs = true
  er : ErrAt h
  n : 5 ≤ h.n
theorem Mem.ext {h g : AHeap} (hm : Mem h) (x : Ext h.n h g) : Mem g := ⟨tabs_ext hm.tb hm.n x, hm.er.keep fun b hb => x.get b (by have := hm.n; omega), by have := x.n; have := hm.n; omega⟩
theorem Mem.push {h : AHeap} (hm : Mem h) (o : AObj) : Mem (h.push o) := hm.ext (Ext.push (Nat.le_refl _) _)
theorem lex_run (m : Nat) (s : List UInt8) (out : List Tk) (h : AHeap) (hm : Mem h) (hs : s.length ≤ 80000) (hl : lexS s = .ok out) (h0 : 0 < out.length) :
    ∃ c g, C (m + 9) (.fn 12) [.str s] h = .ret (.tup [.slice c 0 out.length (.opn 4), .nilI]) g ∧ g.get c = some (.cells (rowL encT out) 30 .opn 0 0) ∧ c < g.n ∧ Mem g := by
  obtain ⟨L1, _⟩ := Lex_c m s h hm.tb hm.n hs
  obtain ⟨v, g, c1, o1, x⟩ := L1 out hl
  rcases o1 with ⟨_, he⟩ | ⟨c, rfl, _, hc, _, hcn⟩
  · rw [he] at h0; cases h0
  · exact ⟨c, g, c1, hc, hcn, hm.ext x⟩
theorem alike_c (m c d : Nat) (h : AHeap) (hc : h.get c = some (.cells (rowL encT kt2) 30 .opn 0 0)) (hd : h.get d = some (.cells (encT ⟨0, [], 0, 0⟩) 30 .own 0 0)) : C (m + 1) (.fn 17) [.slice c 0 1 (.opn 4), .slice d 0 1 (.exact 1)] h = .ret (.bool true) (h.room 9) := by
  have l1 := akl (C m) c d h (Nat.le_refl _) (ldc hc rfl) (Nat.le_refl _) (ldc hd rfl)
  have l2 := akx (C m) c d (h.room 9)
  have lp := LoopF.step (p := [1, 1, 0, 1, 0]) (n := 1) l1 (LoopF.exit (p := [1, 1, 0, 1, 0]) (n := 0) l2 (by simp))
  have lr := LoopF.run (p := [1, 1, 0, 1, 0]) (by kernel_rfl) lp (by omega)
  exact fn_runF (intr := Il) (n := m) (args := [.slice c 0 1 (.opn 4), .slice d 0 1 (.exact 1)]) Tryd.func17 (by kernel_rfl) rfl (by kernel_rfl) (ak (C m) c d h (h.room 9) (RunP.pre lr ⟨rfl, rfl, rfl, trivial⟩ rfl rfl rfl)) (.inl rfl) (by kernel_rfl)
theorem kn_bad (m b B : Nat) (h0 : AHeap) (hg : h0.get b = some (.cells (rowL encB bads) 44 .own 0 0)) (hb : b < B) : ∀ (k i : Nat) (x : AHeap), 21 - i = k → i ≤ 21 → Ext B h0 x → B ≤ x.n → Mem x →
    ∃ x', LoopF Tryd.prog Tryd.f8 none (C (m + 10)) [1, 1, 1, 1, 1, 1, 1, 1, 1, 0, 1, 0] (k + 1) ⟨[(174, .slice b 0 21 (.exact 21)), (175, .int .i64 (Int.ofNat 21)), (176, .int .i64 (Int.ofNat i))], [], .none, x⟩ (.exit 0) ⟨[], [], .none, x'⟩ ∧ Mem x'
  | 0, i, x, hk, hi, e, hB, hm => by
    exact ⟨x, .exit (kn_jx (C (m + 10)) b i x (lt_f (by omega))) (by simp), hm⟩
  | k + 1, i, x, hk, hi, e, hB, hm => by
    have hi' : i < bads.length := by show i < 21; omega
    have hmem : bads[i] ∈ bads := List.getElem_mem hi'
    have hle := errB_eq (List.all_eq_true.1 bads_err _ hmem)
    have ld : AEv.loadCells x b (0 + i * 2) 2 = some (encB bads[i]) := row_load (enc := encB) (w := 2) (rest := []) (fun _ => rfl) (by rw [List.append_nil]; exact (e.get b hb).trans hg) hi' (by omega)
    obtain ⟨y, hy⟩ : ∃ y, y = (x.push (.cells [.str [], .int .i64 (Int.ofNat 0)] 44 .own 0 0)).set x.n (some (.cells (encB bads[i]) 44 .own 0 0)) := ⟨_, rfl⟩
    have st : AEv.storeCells (x.push (.cells [.str [], .int .i64 (Int.ofNat 0)] 44 .own 0 0)) x.n 0 (encB bads[i]) = some y := by rw [hy]; exact stc (gtop rfl) rfl rfl
    have gy : y.get x.n = some (.cells (encB bads[i]) 44 .own 0 0) := by rw [hy]; exact gsame rfl
    have xy : Ext x.n x y := ⟨by rw [hy]; simp, fun c hc => by rw [hy]; exact gother (by omega) (gold hc rfl)⟩
    have yn : y.n = x.n + 1 := by rw [hy]; rfl
    have my := hm.ext xy
    obtain ⟨_, L2⟩ := Lex_c (m + 1) bads[i].1 y my.tb my.n (bads_len _ hmem)
    obtain ⟨er, g, c1, f1, f2, f3, xg⟩ := L2 _ hle
    have mg := my.ext xg
    obtain ⟨g2, c2, x2⟩ := told_c (m + 8) er bads[i].2 g mg.er mg.n f1 f3
    have m2 := mg.ext x2
    have s := kn_j (C (m + 10)) b i er bads[i].2 0 bads[i].1 x x g g2 y (i + 1) (lt_t (by omega)) (show i + 1 ≤ 21 by omega) ld st (ld1 gy rfl) c1 (ld1 ((xg.get _ (by omega)).trans gy) rfl) c2 (add_n (i := i) (j := 1) (by omega))
    have n2 := x2.n
    have ng := xg.n
    obtain ⟨x', r1, r2⟩ := kn_bad m b B h0 hg hb k (i + 1) g2 (by omega) (by omega) (((e.trans (Nat.le_refl _) (xy.le hB)).trans (Nat.le_refl _) (xg.le (by omega))).trans (Nat.le_refl _) (x2.le (by omega))) (by omega) m2
    exact ⟨x', .step s r1, r2⟩
theorem kn_words (m b B : Nat) (h0 : AHeap) (hg : h0.get b = some (.cells (words.map .str) 9 .own 0 0)) (hb : b < B) : ∀ (k i : Nat) (x : AHeap), 22 - i = k → i ≤ 22 → Ext B h0 x → B ≤ x.n → Mem x →
    ∃ x', LoopF Tryd.prog Tryd.f8 none (C (m + 10)) [1, 1, 1, 1, 1, 1, 1, 1, 1, 1, 0, 1, 0] (k + 1) ⟨[(201, .slice b 0 22 (.exact 22)), (202, .int .i64 (Int.ofNat 22)), (203, .int .i64 (Int.ofNat i))], [], .none, x⟩ (.exit 2) ⟨[], [], .none, x'⟩ ∧ Mem x'
  | 0, i, x, hk, hi, e, hB, hm => by
    exact ⟨x, .exit (kn_lx (C (m + 10)) b i x (lt_f (by omega))) (by simp), hm⟩
  | k + 1, i, x, hk, hi, e, hB, hm => by
    have hi' : i < words.length := by show i < 22; omega
    have hin := List.all_eq_true.1 words_in _ (List.getElem_mem hi')
    have ld : load1 x b (0 + i * 1) = some (.str words[i]) := ld1 ((e.get b hb).trans hg) (by rw [nth_eq, Nat.zero_add, Nat.mul_one, List.getElem?_map, List.getElem?_eq_getElem hi']; rfl)
    obtain ⟨g, c1, x1⟩ := Reserved_c (m + 8) words[i] x hm.tb
    rw [hin] at c1
    have n1 := x1.n
    obtain ⟨x', r1, r2⟩ := kn_words m b B h0 hg hb k (i + 1) g (by omega) (by omega) (e.trans (Nat.le_refl _) (x1.le hB)) (by omega) (hm.ext x1)
    exact ⟨x', .step (kn_l (C (m + 10)) b i words[i] x g (i + 1) (lt_t (by omega)) (show i + 1 ≤ 22 by omega) ld c1 (add_n (i := i) (j := 1) (by omega))) r1, r2⟩
theorem known_c (m : Nat) (h : AHeap) (hm : Mem h) : ∃ h', C (m + 11) (.fn 8) [] h = .ret (.bool true) h' := by
  have s0 := kn_0 (C (m + 10)) h
  obtain ⟨c1, g1, r1, p1, _, m1⟩ := lex_run (m + 1) ks0 kt0 h hm (by decide) kl0 (by decide)
  have s1 := kn_a (C (m + 10)) c1 h g1 r1
  have L := fun {c : Nat} {g : AHeap} {all : List Tk} (hg : g.get c = some (.cells (rowL encT all) 30 .opn 0 0)) (i j : Nat) (v : AV) (hi : i < all.length) (hj : j < 4) (hv : nth j (encT all[i]) = some v) => row_ld1 hg hi hj hv
  have s2 := kn_b (C (m + 10)) c1 g1 (Nat.le_of_ble_eq_true rfl) (L p1 1 1 _ (by decide) (by decide) rfl) (Nat.le_of_ble_eq_true rfl) (L p1 2 1 _ (by decide) (by decide) rfl) (Nat.le_of_ble_eq_true rfl) (L p1 4 1 _ (by decide) (by decide) rfl) (Nat.le_of_ble_eq_true rfl) (L p1 6 1 _ (by decide) (by decide) rfl) (Nat.le_of_ble_eq_true rfl) (L p1 7 1 _ (by decide) (by decide) rfl) (L p1 7 3 _ (by decide) (by decide) rfl)
  obtain ⟨c2, g2, r2, p2, _, m2⟩ := lex_run (m + 1) ks1 kt1 g1 m1 (by decide) kl1 (by decide)
  have s3 := kn_c (C (m + 10)) c2 g1 g2 r2
  have s4 := kn_d (C (m + 10)) c2 g2 (Nat.le_of_ble_eq_true rfl) (L p2 0 1 _ (by decide) (by decide) rfl) (Nat.le_of_ble_eq_true rfl) (L p2 1 2 _ (by decide) (by decide) rfl) (Nat.le_of_ble_eq_true rfl) (L p2 2 2 _ (by decide) (by decide) rfl) (Nat.le_of_ble_eq_true rfl) (L p2 3 0 _ (by decide) (by decide) rfl) (Nat.le_of_ble_eq_true rfl) (L p2 4 0 _ (by decide) (by decide) rfl) (Nat.le_of_ble_eq_true rfl) (L p2 5 2 _ (by decide) (by decide) rfl) (Nat.le_of_ble_eq_true rfl) (L p2 6 1 _ (by decide) (by decide) rfl)
  obtain ⟨c3, g3, r3, p3, q3, m3⟩ := lex_run (m + 1) ks2 kt2 g2 m2 (by decide) kl2 (by decide)
  have s5 := kn_e (C (m + 10)) c3 g2 g3 r3
  obtain ⟨y, hy⟩ : ∃ y, y = g3.push (.cells (encT ⟨0, [], 0, 0⟩) 30 .own 0 0) := ⟨_, rfl⟩
  have ry := alike_c (m + 9) c3 g3.n y (by rw [hy]; exact gold q3 p3) (by rw [hy]; exact gtop rfl)
  have my : Mem (y.room 9) := by rw [hy]; exact m3.ext ⟨by simp; omega, fun b hb => gold hb rfl⟩
  rw [hy] at ry
  have s6 := kn_f (C (m + 10)) c3 g3 _ ry
  rw [← hy] at s6
  obtain ⟨c4, g4, r4, p4, _, m4⟩ := lex_run (m + 1) ks3 kt3 (y.room 9) my (by decide) kl3 (by decide)
  have s7 := kn_g (C (m + 10)) c4 (y.room 9) g4 r4
  have s8 := kn_h (C (m + 10)) c4 g4 (Nat.le_of_ble_eq_true rfl) (L p4 0 3 _ (by decide) (by decide) rfl)
  have s9 := kn_i (C (m + 10)) g4
  obtain ⟨x0, hx0⟩ : ∃ x0, x0 = g4.push (.cells (rowL encB bads) 44 .own 0 0) := ⟨_, rfl⟩
  have mx : Mem x0 := by rw [hx0]; exact m4.push _
  have xn : x0.n = g4.n + 1 := by rw [hx0]; rfl
  obtain ⟨x1, l1, mx1⟩ := kn_bad m g4.n x0.n x0 (by rw [hx0]; exact gtop rfl) (by omega) 21 0 x0 rfl (by omega) (Ext.refl _ _) (Nat.le_refl _) mx
  have l2 := RunF.block (p := [1, 1, 1, 1, 1, 1, 1, 1, 1, 0, 1]) (id := 0) (by kernel_rfl) (LoopF.run (p := [1, 1, 1, 1, 1, 1, 1, 1, 1, 0, 1, 0]) (by kernel_rfl) l1 (by omega))
  rw [hx0] at l2
  have s10 := kn_k (C (m + 10)) x1
  obtain ⟨x2, hx2⟩ : ∃ x2, x2 = x1.push (.cells (words.map .str) 9 .own 0 0) := ⟨_, rfl⟩
  have mx2 : Mem x2 := by rw [hx2]; exact mx1.push _
  have xn2 : x2.n = x1.n + 1 := by rw [hx2]; rfl
  obtain ⟨x3, l3, mx3⟩ := kn_words m x1.n x2.n x2 (by rw [hx2]; exact gtop rfl) (by omega) 22 0 x2 rfl (by omega) (Ext.refl _ _) (Nat.le_refl _) mx2
  have l4 := RunF.block (p := [1, 1, 1, 1, 1, 1, 1, 1, 1, 1, 0, 1]) (id := 2) (by kernel_rfl) (LoopF.run (p := [1, 1, 1, 1, 1, 1, 1, 1, 1, 1, 0, 1, 0]) (by kernel_rfl) l3 (by omega))
  rw [hx2] at l4
  obtain ⟨c5, g5, r5, p5, _, m5⟩ := lex_run (m + 1) ks4 kt4 x3 mx3 (by decide) kl4 (by decide)
  have s11 := kn_m (C (m + 10)) c5 x3 g5 r5
  obtain ⟨w1, v1, e1⟩ := Reserved_c (m + 8) [] g5 m5.tb
  have n1 := m5.ext e1
  obtain ⟨w2, v2, e2⟩ := Reserved_c (m + 8) [76, 101, 116] w1 n1.tb
  have n2 := n1.ext e2
  obtain ⟨w3, v3, e3⟩ := Reserved_c (m + 8) [115, 116, 114, 115] w2 n2.tb
  have n3 := n2.ext e3
  have s12 := kn_n (C (m + 10)) c5 g5 w1 w2 w3 w3 (Nat.le_of_ble_eq_true rfl) (L p5 1 0 _ (by decide) (by decide) rfl) v1 v2 v3 (works_c (m + 9) w3 n3.tb)
  exact ⟨w3, fn_runF (intr := Il) (n := m + 10) (args := []) Tryd.func8 (by kernel_rfl) rfl (by kernel_rfl)
    (RunF.seq (p := []) (by kernel_rfl) s0 (RunF.seq (p := [1]) (by kernel_rfl) s1 (RunF.seq (p := [1, 1]) (by kernel_rfl) s2 (RunF.seq (p := [1, 1, 1]) (by kernel_rfl) s3 (RunF.seq (p := [1, 1, 1, 1]) (by kernel_rfl) s4 (RunF.seq (p := [1, 1, 1, 1, 1]) (by kernel_rfl) s5 (RunF.seq (p := [1, 1, 1, 1, 1, 1]) (by kernel_rfl) s6 (RunF.seq (p := [1, 1, 1, 1, 1, 1, 1]) (by kernel_rfl) s7 (RunF.seq (p := [1, 1, 1, 1, 1, 1, 1, 1]) (by kernel_rfl) s8
      (RunF.seq (p := [1, 1, 1, 1, 1, 1, 1, 1, 1]) (by kernel_rfl) (RunF.seq (p := [1, 1, 1, 1, 1, 1, 1, 1, 1, 0]) (by kernel_rfl) s9 l2) (RunF.seq (p := [1, 1, 1, 1, 1, 1, 1, 1, 1, 1]) (by kernel_rfl) (RunF.seq (p := [1, 1, 1, 1, 1, 1, 1, 1, 1, 1, 0]) (by kernel_rfl) s10 l4) (RunF.seq (p := [1, 1, 1, 1, 1, 1, 1, 1, 1, 1, 1]) (by kernel_rfl) s11 s12)))))))))))) (.inl rfl) (by kernel_rfl)⟩
end Go.Proofs.Lx

namespace Go.Proofs.Lx
open Go AEv Go.Proofs Lexp Go.RowKit
set_option maxRecDepth 100000
set_option maxHeartbeats 1000000

/-! ### errors.errorType, where a law begins -/
theorem er_named : Tryd.prog.globalNamed "errors.errorType" = some 0 := by kernel_rfl
theorem er_rt : (Tryd.prog.cutTypes.find? (·.1 == "internal/reflectlite.rtype")).map (·.2) = some 104 := by kernel_rfl
theorem er_row : ((List.range Tryd.prog.types.size).filter fun t => Tryd.prog.rowNamed t [101, 114, 114, 111, 114]) = [26] := by kernel_rfl
theorem er_handle : typeHandle Tryd.prog 26 = .pointer (some ⟨7, 26, none⟩) := by kernel_rfl
abbrev erVal : Array Value := #[.iface 104 (.agg #[.pointer (some ⟨7, 26, none⟩)])]
abbrev erData : DataW Unit := .iface "internal/reflectlite.rtype" (.agg [.ptr (.lit (.string [101, 114, 114, 111, 114]))])
theorem handle_of {W : World} (h : handlesMet Tryd.prog [("errors.errorType", erData)] W) : ∃ el fz, W.heap[0]? = some (.cells erVal el fz) := by
  obtain ⟨name, u, ty, e1, e2, e3, e4, e5⟩ := h _ (List.mem_singleton.2 rfl)
  have en : name = [101, 114, 114, 111, 114] := (Option.some.inj e1).symm
  subst en
  obtain rfl := Option.some.inj (er_rt.symm.trans e2)
  have hm : ty ∈ (List.range Tryd.prog.types.size).filter fun t => Tryd.prog.rowNamed t [101, 114, 114, 111, 114] := List.mem_filter.2 ⟨List.mem_range.2 e3, e4⟩
  rw [er_row] at hm
  obtain rfl := List.mem_singleton.1 hm
  rw [er_handle] at e5
  exact var_block er_named e5
/-- A run's memory where tables and errors.errorType are known. -/
noncomputable def heapE (els : Nat → Nat) (rows : List (List AV × Nat)) (el : Nat) (fz : Nat × Nat) : AHeap := (heapT Tryd.prog.globals.size els tabs rows).set 0 (some (.raw (.cells erVal el fz)))
theorem heapE_get (els : Nat → Nat) (rows : List (List AV × Nat)) (el : Nat) (fz : Nat × Nat) {b : Nat} (hb : ¬ b = 0) : (heapE els rows el fz).get b = (heapT Tryd.prog.globals.size els tabs rows).get b := gother hb rfl
theorem heapE_mem (els : Nat → Nat) (rows : List (List AV × Nat)) (el : Nat) (fz : Nat × Nat) : Mem (heapE els rows el fz) := by
  obtain ⟨t1, t2⟩ := start_in els rows
  refine ⟨tabsIn_of fun t ht => ?_, ?_, t2⟩
  · obtain ⟨e, hg⟩ := isTab_get (tabsIn_mem t1 t ht)
    have hne : ¬ t.g = 0 := by
      simp only [tabs, List.mem_cons, List.not_mem_nil, or_false] at ht
      rcases ht with rfl | rfl | rfl <;> decide
    exact isTab_of ((heapE_get els rows el fz hne).trans hg)
  · have hg : (heapE els rows el fz).get 0 = some (.raw (.cells erVal el fz)) := gsame rfl
    unfold ErrAt
    rw [hg]; rfl
theorem start_er {W : World} (hW : Tryd.prog.globals.size ≤ W.heap.size) (hta : ∀ t ∈ tabs, t.g < Tryd.prog.globals.size ∧ TabAt W (elsW W) t) {el : Nat} {fz : Nat × Nat} (he : W.heap[0]? = some (.cells erVal el fz)) (l : List (Img × List AV × Nat)) (hl : ∀ x ∈ l, RowW W x.1 x.2.1 x.2.2) :
    HRel (muT Tryd.prog.globals.size (szW W) (l.map (·.1))) (heapE (elsW W) (l.map (·.2)) el fz) W ∧ GRel Tryd.prog (muT Tryd.prog.globals.size (szW W) (l.map (·.1))) ∧ Roed (heapE (elsW W) (l.map (·.2)) el fz) := by
  obtain ⟨h1, h2, h3⟩ := start_tabs (P := Tryd.prog) hW (elsW W) tabs hta l hl
  obtain ⟨i, q1, q2, q3⟩ := h2 0 er_ok.g
  obtain ⟨r1, r2⟩ := h1.setRaw h3 q1 q3 (by rw [q2]; exact he)
  exact ⟨r1, h2, r2⟩
noncomputable def erW (os : Os) : World :=
  let w0 := World.holding Tryd.prog os ⟨#[], #[], []⟩
  { w0 with heap := w0.heap.modify 0 fun
      | .cells _ t frozen => .cells erVal t frozen
      | o => o }
end Go.Proofs.Lx
