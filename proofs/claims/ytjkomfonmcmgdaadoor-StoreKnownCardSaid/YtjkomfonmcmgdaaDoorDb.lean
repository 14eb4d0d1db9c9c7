/-
  PROVED HERE: contracts of functions (Db). No condition beside each statement's own.
-/
import Derived.Test.YtjkomfonmcmgdaaDoorSxa
import Derived.Test.YtjkomfonmcmgdaaDoorDa
import Derived.Test.YtjkomfonmcmgdaaDoorProg
set_option linter.unusedVariables false
set_option linter.unusedSimpArgs false
namespace Go.Proofs.St
open Go AEv Go.Proofs
set_option maxRecDepth 100000
set_option maxHeartbeats 1000000

theorem lo_0 (call : CallT → List AV → AHeap → FRes) (c st m k : Nat) (h g : AHeap)
    (H1 : load1 h c 0 = some (.ptr st 0))
    (H2 : load1 h st (0 + 3) = some (.map m))
    (H3 : rangeA h (AV.map m) = some (AV.ptr k 0, g)) :
    RunF Tryd.prog Tryd.f30 none call [1, 0, 0] (SSt.mk [(0, .ptr c 0), (1, .int .u64 (.ofNat 0))] [] .none h) (.nrm)
      (SSt.mk [(0, .ptr c 0), (1, .int .u64 (.ofNat 0)), (8, .ptr k 0)] [] .none g) :=
  sxF_run [0, 1, 8] (hs := [.v (.ptr st 0), .v (.map m), .vh (.ptr k 0) g]) (by kernel_rfl) <| .cons H1 <| .cons H2 <| .cons H3 <| .nil
theorem lo_s (call : CallT → List AV → AHeap → FRes) (c : Nat) (h : AHeap) :
    RunF Tryd.prog Tryd.f30 none call [0] (SSt.mk [(0, .ptr c 0)] [] .none h) (.nrm)
      (SSt.mk [(0, .ptr c 0), (1, .int .u64 (.ofNat 0))] [] .none h) :=
  sxF_run [0, 1] (hs := []) (by kernel_rfl) <| .nil
theorem lo_x (call : CallT → List AV → AHeap → FRes) (b : Nat) (h : AHeap) :
    RunF Tryd.prog Tryd.f30 none call [1, 0, 1, 0, 0, 1] (SSt.mk [(1, .int .u64 (.ofNat b)), (10, .bool false)] [] .none h) (.exit 0)
      (SSt.mk [(1, .int .u64 (.ofNat b))] [] .none h) :=
  sxF_run [1] (hs := [.b false]) (by kernel_rfl) <| .cons (by kernel_rfl : false = false) <| .nil
theorem lo_b_1 (call : CallT → List AV → AHeap → FRes) (c b it id e pins held used st m eb ub : Nat) (h : AHeap)
    (H1 : entryA h (AV.ptr it 0) = some (AV.tup [AV.int IntKind.u64 (Int.ofNat id), AV.ptr e 0]))
    (H2 : load1 (AHeap.room h 32) e (0 + 7) = some (.int .i64 (.ofNat pins)))
    (H3 : eqI (.ofNat pins) (.ofNat 0) = true)
    (H4 : load1 (AHeap.room h 32) e (0 + 8) = some (.int .i64 (.ofNat held)))
    (H5 : eqI (.ofNat held) (.ofNat 0) = true)
    (H6 : eqI (.ofNat b) (.ofNat 0) = true)
    (H7 : (bif eqI (Int.ofNat pins) (Int.ofNat 0) then AV.bool (eqI (Int.ofNat held) (Int.ofNat 0)) else AV.bool false) = AV.bool (eqI (Int.ofNat held) (Int.ofNat 0)))
    (H8 : Decidable.rec (fun h => (fun x => false) h) (fun h => (fun x => true) h) (instDecidableEqBool (eqI (.ofNat b) (.ofNat 0)) false) = false)
    (H9 : (bif eqI (Int.ofNat b) (Int.ofNat 0) then AV.bool true else AV.tup []) = AV.bool true)
    (H10 : (bif eqI (Int.ofNat held) (Int.ofNat 0) then AV.bool true else AV.bool false) = AV.bool true) :
    RunF Tryd.prog Tryd.f30 none call [1, 0, 1, 0, 0, 1] (SSt.mk [(0, .ptr c 0), (1, .int .u64 (.ofNat b)), (8, .ptr it 0), (10, .bool true)] [] .none h) (.nrm)
      (SSt.mk [(0, .ptr c 0), (1, .int .u64 (.ofNat id)), (8, .ptr it 0)] [] .none (AHeap.room h 32)) :=
  sxF_run [0, 1, 8] (hs := [.b true, .v (.tup [.int .u64 (.ofNat id), .ptr e 0]), .v (.int .i64 (.ofNat pins)), .b true, .b true, .b true, .b true, .v (.int .i64 (.ofNat held)), .b true, .b true, .b true, .b true, .b true, .b true, .b true, .b true, .b true, .b true, .b true, .b true, .b true, .b true, .b true, .b true, .b true, .b true, .b true, .b true, .b true, .b true, .b true]) (by kernel_rfl) <| .cons (by kernel_rfl : true = true) <| .cons H1 <| .cons H2 <| .cons H3 <| .cons H3 <| .cons H3 <| .cons H3 <| .cons H4 <| .cons H3 <| .cons H3 <| .cons H5 <| .cons H5 <| .cons H5 <| .cons H6 <| .cons H6 <| .cons H6 <| .cons H6 <| .cons H6 <| .cons H6 <| .cons H6 <| .cons H6 <| .cons H6 <| .cons H6 <| .cons H6 <| .cons H6 <| .cons H6 <| .cons H6 <| .cons H5 <| .cons H6 <| .cons H5 <| .cons (by kernel_rfl : AV.sound (AV.ptr e 0) = true) <| .cons (by kernel_rfl : AV.ptr e 0 = AV.ptr e 0) <| .cons (by kernel_rfl : AV.sound (AV.ptr e 0) = true) <| .cons (by kernel_rfl : AV.ptr e 0 = AV.ptr e 0) <| .cons (by kernel_rfl : AV.sound (AV.ptr e (0 + 7)) = true) <| .cons (by kernel_rfl : AV.ptr e (0 + 7) = AV.ptr e (0 + 7)) <| .cons (by kernel_rfl : AV.sound (AV.int IntKind.i64 (Int.ofNat pins)) = true) <| .cons H2 <| .cons (by kernel_rfl : AV.sound (AV.bool (eqI (Int.ofNat pins) (Int.ofNat 0))) = true) <| .cons (by kernel_rfl : AV.bool (eqI (Int.ofNat pins) (Int.ofNat 0)) = AV.bool (eqI (Int.ofNat pins) (Int.ofNat 0))) <| .cons (by kernel_rfl : AV.sound (AV.bool (eqI (Int.ofNat pins) (Int.ofNat 0))) = true) <| .cons (by kernel_rfl : AV.bool (eqI (Int.ofNat pins) (Int.ofNat 0)) = AV.bool (eqI (Int.ofNat pins) (Int.ofNat 0))) <| .cons (by kernel_rfl : AV.sound (AV.ptr e 0) = true) <| .cons (by kernel_rfl : AV.ptr e 0 = AV.ptr e 0) <| .cons (by kernel_rfl : AV.sound (AV.ptr e 0) = true) <| .cons (by kernel_rfl : AV.ptr e 0 = AV.ptr e 0) <| .cons (by kernel_rfl : AV.sound (AV.ptr e (0 + 8)) = true) <| .cons (by kernel_rfl : AV.ptr e (0 + 8) = AV.ptr e (0 + 8)) <| .cons (by kernel_rfl : AV.sound (AV.int IntKind.i64 (Int.ofNat held)) = true) <| .cons H4 <| .cons (by kernel_rfl : AV.sound (AV.bool (eqI (Int.ofNat held) (Int.ofNat 0))) = true) <| .cons (by kernel_rfl : AV.bool (eqI (Int.ofNat held) (Int.ofNat 0)) = AV.bool (eqI (Int.ofNat held) (Int.ofNat 0))) <| .cons (by kernel_rfl : AV.sound (AV.bool (eqI (Int.ofNat held) (Int.ofNat 0))) = true) <| .cons H7 <| .cons (by kernel_rfl : AV.sound (AV.bool (eqI (Int.ofNat held) (Int.ofNat 0))) = true) <| .cons (by kernel_rfl : AV.bool (eqI (Int.ofNat held) (Int.ofNat 0)) = AV.bool (eqI (Int.ofNat held) (Int.ofNat 0))) <| .cons (by kernel_rfl : AV.sound (AV.int IntKind.u64 (Int.ofNat b)) = true) <| .cons (by kernel_rfl : AV.int IntKind.u64 (Int.ofNat b) = AV.int IntKind.u64 (Int.ofNat b)) <| .cons (by kernel_rfl : AV.sound (AV.bool (eqI (Int.ofNat b) (Int.ofNat 0))) = true) <| .cons (by kernel_rfl : AV.bool (eqI (Int.ofNat b) (Int.ofNat 0)) = AV.bool (eqI (Int.ofNat b) (Int.ofNat 0))) <| .cons (by kernel_rfl : AV.sound (AV.bool (eqI (Int.ofNat b) (Int.ofNat 0))) = true) <| .cons (by kernel_rfl : AV.bool (eqI (Int.ofNat b) (Int.ofNat 0)) = AV.bool (eqI (Int.ofNat b) (Int.ofNat 0))) <| .cons H8 <| .cons H8 <| .cons H8 <| .cons H8 <| .cons H8 <| .cons H8 <| .cons H8 <| .cons H8 <| .cons H8 <| .cons H8 <| .cons H8 <| .cons H8 <| .cons H8 <| .cons H8 <| .cons (by kernel_rfl : AV.sound (AV.bool true) = true) <| .cons H9 <| .cons (by kernel_rfl : AV.sound (AV.bool true) = true) <| .cons H10 <| .cons (by kernel_rfl : true = true) <| .nil
theorem lo_b_2 (call : CallT → List AV → AHeap → FRes) (c b it id e pins held used st m eb ub : Nat) (h : AHeap)
    (H1 : entryA h (AV.ptr it 0) = some (AV.tup [AV.int IntKind.u64 (Int.ofNat id), AV.ptr e 0]))
    (H2 : load1 (AHeap.room h 32) e (0 + 7) = some (.int .i64 (.ofNat pins)))
    (H3 : eqI (.ofNat pins) (.ofNat 0) = true)
    (H4 : load1 (AHeap.room h 32) e (0 + 8) = some (.int .i64 (.ofNat held)))
    (H5 : eqI (.ofNat held) (.ofNat 0) = true)
    (H6 : eqI (.ofNat b) (.ofNat 0) = false)
    (H7 : load1 (AHeap.room h 32) e (0 + 9) = some (.int .u64 (.ofNat used)))
    (H8 : load1 (AHeap.room h 32) c 0 = some (.ptr st 0))
    (H9 : load1 (AHeap.room h 32) st (0 + 3) = some (.map m))
    (H10 : lookupA Tryd.prog (AHeap.room h 32) 52 (AV.map m) (AV.int IntKind.u64 (Int.ofNat b)) false = some (AV.ptr eb 0))
    (H11 : load1 (AHeap.room h 32) eb (0 + 9) = some (.int .u64 (.ofNat ub)))
    (H12 : (bif eqI (Int.ofNat pins) (Int.ofNat 0) then AV.bool (eqI (Int.ofNat held) (Int.ofNat 0)) else AV.bool false) = AV.bool (eqI (Int.ofNat held) (Int.ofNat 0)))
    (H13 : (bif eqI (Int.ofNat b) (Int.ofNat 0) then AV.bool true else AV.bool (ltI (Int.ofNat used) (Int.ofNat ub))) = AV.bool (ltI (Int.ofNat used) (Int.ofNat ub)))
    (H14 : (bif eqI (Int.ofNat held) (Int.ofNat 0) then AV.bool (ltI (Int.ofNat used) (Int.ofNat ub)) else AV.bool false) = AV.bool (ltI (Int.ofNat used) (Int.ofNat ub)))
    (H15 : ltI (.ofNat used) (.ofNat ub) = true) :
    RunF Tryd.prog Tryd.f30 none call [1, 0, 1, 0, 0, 1] (SSt.mk [(0, .ptr c 0), (1, .int .u64 (.ofNat b)), (8, .ptr it 0), (10, .bool true)] [] .none h) (.nrm)
      (SSt.mk [(0, .ptr c 0), (1, .int .u64 (.ofNat id)), (8, .ptr it 0)] [] .none (AHeap.room h 32)) :=
  sxF_run [0, 1, 8] (hs := [.b true, .v (.tup [.int .u64 (.ofNat id), .ptr e 0]), .v (.int .i64 (.ofNat pins)), .b true, .b true, .b true, .b true, .v (.int .i64 (.ofNat held)), .b true, .b true, .b true, .b true, .b true, .b false, .b false, .b false, .b false, .v (.int .u64 (.ofNat used)), .b false, .v (.ptr st 0), .b false, .b false, .b false, .v (.map m), .b false, .b false, .v (.ptr eb 0), .b false, .b false, .b false, .v (.int .u64 (.ofNat ub)), .b false, .b true, .b false, .b true, .b true]) (by kernel_rfl) <| .cons (by kernel_rfl : true = true) <| .cons H1 <| .cons H2 <| .cons H3 <| .cons H3 <| .cons H3 <| .cons H3 <| .cons H4 <| .cons H3 <| .cons H3 <| .cons H5 <| .cons H5 <| .cons H5 <| .cons H6 <| .cons H6 <| .cons H6 <| .cons H6 <| .cons H7 <| .cons H6 <| .cons H8 <| .cons H6 <| .cons H6 <| .cons H6 <| .cons H9 <| .cons H6 <| .cons H6 <| .cons H10 <| .cons H6 <| .cons H6 <| .cons H6 <| .cons H11 <| .cons H6 <| .cons H5 <| .cons H6 <| .cons H5 <| .cons (by kernel_rfl : AV.sound (AV.ptr e 0) = true) <| .cons (by kernel_rfl : AV.ptr e 0 = AV.ptr e 0) <| .cons (by kernel_rfl : AV.sound (AV.ptr e 0) = true) <| .cons (by kernel_rfl : AV.ptr e 0 = AV.ptr e 0) <| .cons (by kernel_rfl : AV.sound (AV.ptr e (0 + 7)) = true) <| .cons (by kernel_rfl : AV.ptr e (0 + 7) = AV.ptr e (0 + 7)) <| .cons (by kernel_rfl : AV.sound (AV.int IntKind.i64 (Int.ofNat pins)) = true) <| .cons H2 <| .cons (by kernel_rfl : AV.sound (AV.bool (eqI (Int.ofNat pins) (Int.ofNat 0))) = true) <| .cons (by kernel_rfl : AV.bool (eqI (Int.ofNat pins) (Int.ofNat 0)) = AV.bool (eqI (Int.ofNat pins) (Int.ofNat 0))) <| .cons (by kernel_rfl : AV.sound (AV.bool (eqI (Int.ofNat pins) (Int.ofNat 0))) = true) <| .cons (by kernel_rfl : AV.bool (eqI (Int.ofNat pins) (Int.ofNat 0)) = AV.bool (eqI (Int.ofNat pins) (Int.ofNat 0))) <| .cons (by kernel_rfl : AV.sound (AV.ptr e 0) = true) <| .cons (by kernel_rfl : AV.ptr e 0 = AV.ptr e 0) <| .cons (by kernel_rfl : AV.sound (AV.ptr e 0) = true) <| .cons (by kernel_rfl : AV.ptr e 0 = AV.ptr e 0) <| .cons (by kernel_rfl : AV.sound (AV.ptr e (0 + 8)) = true) <| .cons (by kernel_rfl : AV.ptr e (0 + 8) = AV.ptr e (0 + 8)) <| .cons (by kernel_rfl : AV.sound (AV.int IntKind.i64 (Int.ofNat held)) = true) <| .cons H4 <| .cons (by kernel_rfl : AV.sound (AV.bool (eqI (Int.ofNat held) (Int.ofNat 0))) = true) <| .cons (by kernel_rfl : AV.bool (eqI (Int.ofNat held) (Int.ofNat 0)) = AV.bool (eqI (Int.ofNat held) (Int.ofNat 0))) <| .cons (by kernel_rfl : AV.sound (AV.bool (eqI (Int.ofNat held) (Int.ofNat 0))) = true) <| .cons H12 <| .cons (by kernel_rfl : AV.sound (AV.bool (eqI (Int.ofNat held) (Int.ofNat 0))) = true) <| .cons (by kernel_rfl : AV.bool (eqI (Int.ofNat held) (Int.ofNat 0)) = AV.bool (eqI (Int.ofNat held) (Int.ofNat 0))) <| .cons (by kernel_rfl : AV.sound (AV.int IntKind.u64 (Int.ofNat b)) = true) <| .cons (by kernel_rfl : AV.int IntKind.u64 (Int.ofNat b) = AV.int IntKind.u64 (Int.ofNat b)) <| .cons (by kernel_rfl : AV.sound (AV.bool (eqI (Int.ofNat b) (Int.ofNat 0))) = true) <| .cons (by kernel_rfl : AV.bool (eqI (Int.ofNat b) (Int.ofNat 0)) = AV.bool (eqI (Int.ofNat b) (Int.ofNat 0))) <| .cons (by kernel_rfl : AV.sound (AV.bool (eqI (Int.ofNat b) (Int.ofNat 0))) = true) <| .cons (by kernel_rfl : AV.bool (eqI (Int.ofNat b) (Int.ofNat 0)) = AV.bool (eqI (Int.ofNat b) (Int.ofNat 0))) <| .cons (by kernel_rfl : AV.sound (AV.ptr e 0) = true) <| .cons (by kernel_rfl : AV.ptr e 0 = AV.ptr e 0) <| .cons (by kernel_rfl : AV.sound (AV.ptr e 0) = true) <| .cons (by kernel_rfl : AV.ptr e 0 = AV.ptr e 0) <| .cons (by kernel_rfl : AV.sound (AV.ptr e (0 + 9)) = true) <| .cons (by kernel_rfl : AV.ptr e (0 + 9) = AV.ptr e (0 + 9)) <| .cons (by kernel_rfl : AV.sound (AV.int IntKind.u64 (Int.ofNat used)) = true) <| .cons H7 <| .cons (by kernel_rfl : AV.sound (AV.ptr st 0) = true) <| .cons H8 <| .cons (by kernel_rfl : AV.sound (AV.ptr st 0) = true) <| .cons (by kernel_rfl : AV.ptr st 0 = AV.ptr st 0) <| .cons (by kernel_rfl : AV.sound (AV.ptr st (0 + 3)) = true) <| .cons (by kernel_rfl : AV.ptr st (0 + 3) = AV.ptr st (0 + 3)) <| .cons (by kernel_rfl : AV.sound (AV.map m) = true) <| .cons H9 <| .cons (by kernel_rfl : AV.sound (AV.int IntKind.u64 (Int.ofNat b)) = true) <| .cons (by kernel_rfl : AV.int IntKind.u64 (Int.ofNat b) = AV.int IntKind.u64 (Int.ofNat b)) <| .cons (by kernel_rfl : AV.sound (AV.ptr eb 0) = true) <| .cons H10 <| .cons (by kernel_rfl : AV.sound (AV.ptr eb 0) = true) <| .cons (by kernel_rfl : AV.ptr eb 0 = AV.ptr eb 0) <| .cons (by kernel_rfl : AV.sound (AV.ptr eb (0 + 9)) = true) <| .cons (by kernel_rfl : AV.ptr eb (0 + 9) = AV.ptr eb (0 + 9)) <| .cons (by kernel_rfl : AV.sound (AV.int IntKind.u64 (Int.ofNat ub)) = true) <| .cons H11 <| .cons (by kernel_rfl : AV.sound (AV.bool (ltI (Int.ofNat used) (Int.ofNat ub))) = true) <| .cons (by kernel_rfl : AV.bool (ltI (Int.ofNat used) (Int.ofNat ub)) = AV.bool (ltI (Int.ofNat used) (Int.ofNat ub))) <| .cons (by kernel_rfl : AV.sound (AV.bool (ltI (Int.ofNat used) (Int.ofNat ub))) = true) <| .cons H13 <| .cons (by kernel_rfl : AV.sound (AV.bool (ltI (Int.ofNat used) (Int.ofNat ub))) = true) <| .cons H14 <| .cons H15 <| .nil
theorem lo_b_3 (call : CallT → List AV → AHeap → FRes) (c b it id e pins held used st m eb ub : Nat) (h : AHeap)
    (H1 : entryA h (AV.ptr it 0) = some (AV.tup [AV.int IntKind.u64 (Int.ofNat id), AV.ptr e 0]))
    (H2 : load1 (AHeap.room h 32) e (0 + 7) = some (.int .i64 (.ofNat pins)))
    (H3 : eqI (.ofNat pins) (.ofNat 0) = true)
    (H4 : load1 (AHeap.room h 32) e (0 + 8) = some (.int .i64 (.ofNat held)))
    (H5 : eqI (.ofNat held) (.ofNat 0) = true)
    (H6 : eqI (.ofNat b) (.ofNat 0) = false)
    (H7 : load1 (AHeap.room h 32) e (0 + 9) = some (.int .u64 (.ofNat used)))
    (H8 : load1 (AHeap.room h 32) c 0 = some (.ptr st 0))
    (H9 : load1 (AHeap.room h 32) st (0 + 3) = some (.map m))
    (H10 : lookupA Tryd.prog (AHeap.room h 32) 52 (AV.map m) (AV.int IntKind.u64 (Int.ofNat b)) false = some (AV.ptr eb 0))
    (H11 : load1 (AHeap.room h 32) eb (0 + 9) = some (.int .u64 (.ofNat ub)))
    (H12 : (bif eqI (Int.ofNat pins) (Int.ofNat 0) then AV.bool (eqI (Int.ofNat held) (Int.ofNat 0)) else AV.bool false) = AV.bool (eqI (Int.ofNat held) (Int.ofNat 0)))
    (H13 : (bif eqI (Int.ofNat b) (Int.ofNat 0) then AV.bool true else AV.bool (ltI (Int.ofNat used) (Int.ofNat ub))) = AV.bool (ltI (Int.ofNat used) (Int.ofNat ub)))
    (H14 : (bif eqI (Int.ofNat held) (Int.ofNat 0) then AV.bool (ltI (Int.ofNat used) (Int.ofNat ub)) else AV.bool false) = AV.bool (ltI (Int.ofNat used) (Int.ofNat ub)))
    (H15 : ltI (.ofNat used) (.ofNat ub) = false) :
    RunF Tryd.prog Tryd.f30 none call [1, 0, 1, 0, 0, 1] (SSt.mk [(0, .ptr c 0), (1, .int .u64 (.ofNat b)), (8, .ptr it 0), (10, .bool true)] [] .none h) (.nrm)
      (SSt.mk [(0, .ptr c 0), (1, .int .u64 (.ofNat b)), (8, .ptr it 0)] [] .none (AHeap.room h 32)) :=
  sxF_run [0, 1, 8] (hs := [.b true, .v (.tup [.int .u64 (.ofNat id), .ptr e 0]), .v (.int .i64 (.ofNat pins)), .b true, .b true, .b true, .b true, .v (.int .i64 (.ofNat held)), .b true, .b true, .b true, .b true, .b true, .b false, .b false, .b false, .b false, .v (.int .u64 (.ofNat used)), .b false, .v (.ptr st 0), .b false, .b false, .b false, .v (.map m), .b false, .b false, .v (.ptr eb 0), .b false, .b false, .b false, .v (.int .u64 (.ofNat ub)), .b false, .b true, .b false, .b true, .b false]) (by kernel_rfl) <| .cons (by kernel_rfl : true = true) <| .cons H1 <| .cons H2 <| .cons H3 <| .cons H3 <| .cons H3 <| .cons H3 <| .cons H4 <| .cons H3 <| .cons H3 <| .cons H5 <| .cons H5 <| .cons H5 <| .cons H6 <| .cons H6 <| .cons H6 <| .cons H6 <| .cons H7 <| .cons H6 <| .cons H8 <| .cons H6 <| .cons H6 <| .cons H6 <| .cons H9 <| .cons H6 <| .cons H6 <| .cons H10 <| .cons H6 <| .cons H6 <| .cons H6 <| .cons H11 <| .cons H6 <| .cons H5 <| .cons H6 <| .cons H5 <| .cons (by kernel_rfl : AV.sound (AV.ptr e 0) = true) <| .cons (by kernel_rfl : AV.ptr e 0 = AV.ptr e 0) <| .cons (by kernel_rfl : AV.sound (AV.ptr e 0) = true) <| .cons (by kernel_rfl : AV.ptr e 0 = AV.ptr e 0) <| .cons (by kernel_rfl : AV.sound (AV.ptr e (0 + 7)) = true) <| .cons (by kernel_rfl : AV.ptr e (0 + 7) = AV.ptr e (0 + 7)) <| .cons (by kernel_rfl : AV.sound (AV.int IntKind.i64 (Int.ofNat pins)) = true) <| .cons H2 <| .cons (by kernel_rfl : AV.sound (AV.bool (eqI (Int.ofNat pins) (Int.ofNat 0))) = true) <| .cons (by kernel_rfl : AV.bool (eqI (Int.ofNat pins) (Int.ofNat 0)) = AV.bool (eqI (Int.ofNat pins) (Int.ofNat 0))) <| .cons (by kernel_rfl : AV.sound (AV.bool (eqI (Int.ofNat pins) (Int.ofNat 0))) = true) <| .cons (by kernel_rfl : AV.bool (eqI (Int.ofNat pins) (Int.ofNat 0)) = AV.bool (eqI (Int.ofNat pins) (Int.ofNat 0))) <| .cons (by kernel_rfl : AV.sound (AV.ptr e 0) = true) <| .cons (by kernel_rfl : AV.ptr e 0 = AV.ptr e 0) <| .cons (by kernel_rfl : AV.sound (AV.ptr e 0) = true) <| .cons (by kernel_rfl : AV.ptr e 0 = AV.ptr e 0) <| .cons (by kernel_rfl : AV.sound (AV.ptr e (0 + 8)) = true) <| .cons (by kernel_rfl : AV.ptr e (0 + 8) = AV.ptr e (0 + 8)) <| .cons (by kernel_rfl : AV.sound (AV.int IntKind.i64 (Int.ofNat held)) = true) <| .cons H4 <| .cons (by kernel_rfl : AV.sound (AV.bool (eqI (Int.ofNat held) (Int.ofNat 0))) = true) <| .cons (by kernel_rfl : AV.bool (eqI (Int.ofNat held) (Int.ofNat 0)) = AV.bool (eqI (Int.ofNat held) (Int.ofNat 0))) <| .cons (by kernel_rfl : AV.sound (AV.bool (eqI (Int.ofNat held) (Int.ofNat 0))) = true) <| .cons H12 <| .cons (by kernel_rfl : AV.sound (AV.bool (eqI (Int.ofNat held) (Int.ofNat 0))) = true) <| .cons (by kernel_rfl : AV.bool (eqI (Int.ofNat held) (Int.ofNat 0)) = AV.bool (eqI (Int.ofNat held) (Int.ofNat 0))) <| .cons (by kernel_rfl : AV.sound (AV.int IntKind.u64 (Int.ofNat b)) = true) <| .cons (by kernel_rfl : AV.int IntKind.u64 (Int.ofNat b) = AV.int IntKind.u64 (Int.ofNat b)) <| .cons (by kernel_rfl : AV.sound (AV.bool (eqI (Int.ofNat b) (Int.ofNat 0))) = true) <| .cons (by kernel_rfl : AV.bool (eqI (Int.ofNat b) (Int.ofNat 0)) = AV.bool (eqI (Int.ofNat b) (Int.ofNat 0))) <| .cons (by kernel_rfl : AV.sound (AV.bool (eqI (Int.ofNat b) (Int.ofNat 0))) = true) <| .cons (by kernel_rfl : AV.bool (eqI (Int.ofNat b) (Int.ofNat 0)) = AV.bool (eqI (Int.ofNat b) (Int.ofNat 0))) <| .cons (by kernel_rfl : AV.sound (AV.ptr e 0) = true) <| .cons (by kernel_rfl : AV.ptr e 0 = AV.ptr e 0) <| .cons (by kernel_rfl : AV.sound (AV.ptr e 0) = true) <| .cons (by kernel_rfl : AV.ptr e 0 = AV.ptr e 0) <| .cons (by kernel_rfl : AV.sound (AV.ptr e (0 + 9)) = true) <| .cons (by kernel_rfl : AV.ptr e (0 + 9) = AV.ptr e (0 + 9)) <| .cons (by kernel_rfl : AV.sound (AV.int IntKind.u64 (Int.ofNat used)) = true) <| .cons H7 <| .cons (by kernel_rfl : AV.sound (AV.ptr st 0) = true) <| .cons H8 <| .cons (by kernel_rfl : AV.sound (AV.ptr st 0) = true) <| .cons (by kernel_rfl : AV.ptr st 0 = AV.ptr st 0) <| .cons (by kernel_rfl : AV.sound (AV.ptr st (0 + 3)) = true) <| .cons (by kernel_rfl : AV.ptr st (0 + 3) = AV.ptr st (0 + 3)) <| .cons (by kernel_rfl : AV.sound (AV.map m) = true) <| .cons H9 <| .cons (by kernel_rfl : AV.sound (AV.int IntKind.u64 (Int.ofNat b)) = true) <| .cons (by kernel_rfl : AV.int IntKind.u64 (Int.ofNat b) = AV.int IntKind.u64 (Int.ofNat b)) <| .cons (by kernel_rfl : AV.sound (AV.ptr eb 0) = true) <| .cons H10 <| .cons (by kernel_rfl : AV.sound (AV.ptr eb 0) = true) <| .cons (by kernel_rfl : AV.ptr eb 0 = AV.ptr eb 0) <| .cons (by kernel_rfl : AV.sound (AV.ptr eb (0 + 9)) = true) <| .cons (by kernel_rfl : AV.ptr eb (0 + 9) = AV.ptr eb (0 + 9)) <| .cons (by kernel_rfl : AV.sound (AV.int IntKind.u64 (Int.ofNat ub)) = true) <| .cons H11 <| .cons (by kernel_rfl : AV.sound (AV.bool (ltI (Int.ofNat used) (Int.ofNat ub))) = true) <| .cons (by kernel_rfl : AV.bool (ltI (Int.ofNat used) (Int.ofNat ub)) = AV.bool (ltI (Int.ofNat used) (Int.ofNat ub))) <| .cons (by kernel_rfl : AV.sound (AV.bool (ltI (Int.ofNat used) (Int.ofNat ub))) = true) <| .cons H13 <| .cons (by kernel_rfl : AV.sound (AV.bool (ltI (Int.ofNat used) (Int.ofNat ub))) = true) <| .cons H14 <| .cons H15 <| .nil
theorem lo_b_4 (call : CallT → List AV → AHeap → FRes) (c b it id e pins held used st m eb ub : Nat) (h : AHeap)
    (H1 : entryA h (AV.ptr it 0) = some (AV.tup [AV.int IntKind.u64 (Int.ofNat id), AV.ptr e 0]))
    (H2 : load1 (AHeap.room h 32) e (0 + 7) = some (.int .i64 (.ofNat pins)))
    (H3 : eqI (.ofNat pins) (.ofNat 0) = true)
    (H4 : load1 (AHeap.room h 32) e (0 + 8) = some (.int .i64 (.ofNat held)))
    (H5 : eqI (.ofNat held) (.ofNat 0) = false)
    (H6 : (bif eqI (Int.ofNat pins) (Int.ofNat 0) then AV.bool (eqI (Int.ofNat held) (Int.ofNat 0)) else AV.bool false) = AV.bool (eqI (Int.ofNat held) (Int.ofNat 0)))
    (H7 : Decidable.rec (fun h => (fun x => false) h) (fun h => (fun x => true) h) (instDecidableEqBool (eqI (.ofNat held) (.ofNat 0)) true) = false)
    (H8 : (bif eqI (Int.ofNat held) (Int.ofNat 0) then AV.tup [] else AV.bool false) = AV.bool false) :
    RunF Tryd.prog Tryd.f30 none call [1, 0, 1, 0, 0, 1] (SSt.mk [(0, .ptr c 0), (1, .int .u64 (.ofNat b)), (8, .ptr it 0), (10, .bool true)] [] .none h) (.nrm)
      (SSt.mk [(0, .ptr c 0), (1, .int .u64 (.ofNat b)), (8, .ptr it 0)] [] .none (AHeap.room h 32)) :=
  sxF_run [0, 1, 8] (hs := [.b true, .v (.tup [.int .u64 (.ofNat id), .ptr e 0]), .v (.int .i64 (.ofNat pins)), .b true, .b true, .b true, .b true, .v (.int .i64 (.ofNat held)), .b true, .b true, .b false, .b false, .b false, .b false, .b false, .b false]) (by kernel_rfl) <| .cons (by kernel_rfl : true = true) <| .cons H1 <| .cons H2 <| .cons H3 <| .cons H3 <| .cons H3 <| .cons H3 <| .cons H4 <| .cons H3 <| .cons H3 <| .cons H5 <| .cons H5 <| .cons H5 <| .cons H5 <| .cons H5 <| .cons (by kernel_rfl : AV.sound (AV.ptr e 0) = true) <| .cons (by kernel_rfl : AV.ptr e 0 = AV.ptr e 0) <| .cons (by kernel_rfl : AV.sound (AV.ptr e 0) = true) <| .cons (by kernel_rfl : AV.ptr e 0 = AV.ptr e 0) <| .cons (by kernel_rfl : AV.sound (AV.ptr e (0 + 7)) = true) <| .cons (by kernel_rfl : AV.ptr e (0 + 7) = AV.ptr e (0 + 7)) <| .cons (by kernel_rfl : AV.sound (AV.int IntKind.i64 (Int.ofNat pins)) = true) <| .cons H2 <| .cons (by kernel_rfl : AV.sound (AV.bool (eqI (Int.ofNat pins) (Int.ofNat 0))) = true) <| .cons (by kernel_rfl : AV.bool (eqI (Int.ofNat pins) (Int.ofNat 0)) = AV.bool (eqI (Int.ofNat pins) (Int.ofNat 0))) <| .cons (by kernel_rfl : AV.sound (AV.bool (eqI (Int.ofNat pins) (Int.ofNat 0))) = true) <| .cons (by kernel_rfl : AV.bool (eqI (Int.ofNat pins) (Int.ofNat 0)) = AV.bool (eqI (Int.ofNat pins) (Int.ofNat 0))) <| .cons (by kernel_rfl : AV.sound (AV.ptr e 0) = true) <| .cons (by kernel_rfl : AV.ptr e 0 = AV.ptr e 0) <| .cons (by kernel_rfl : AV.sound (AV.ptr e 0) = true) <| .cons (by kernel_rfl : AV.ptr e 0 = AV.ptr e 0) <| .cons (by kernel_rfl : AV.sound (AV.ptr e (0 + 8)) = true) <| .cons (by kernel_rfl : AV.ptr e (0 + 8) = AV.ptr e (0 + 8)) <| .cons (by kernel_rfl : AV.sound (AV.int IntKind.i64 (Int.ofNat held)) = true) <| .cons H4 <| .cons (by kernel_rfl : AV.sound (AV.bool (eqI (Int.ofNat held) (Int.ofNat 0))) = true) <| .cons (by kernel_rfl : AV.bool (eqI (Int.ofNat held) (Int.ofNat 0)) = AV.bool (eqI (Int.ofNat held) (Int.ofNat 0))) <| .cons (by kernel_rfl : AV.sound (AV.bool (eqI (Int.ofNat held) (Int.ofNat 0))) = true) <| .cons H6 <| .cons (by kernel_rfl : AV.sound (AV.bool (eqI (Int.ofNat held) (Int.ofNat 0))) = true) <| .cons (by kernel_rfl : AV.bool (eqI (Int.ofNat held) (Int.ofNat 0)) = AV.bool (eqI (Int.ofNat held) (Int.ofNat 0))) <| .cons H7 <| .cons H7 <| .cons H7 <| .cons H7 <| .cons (by kernel_rfl : AV.sound (AV.bool false) = true) <| .cons H8 <| .cons (by kernel_rfl : false = false) <| .nil
theorem lo_b_5 (call : CallT → List AV → AHeap → FRes) (c b it id e pins held used st m eb ub : Nat) (h : AHeap)
    (H1 : entryA h (AV.ptr it 0) = some (AV.tup [AV.int IntKind.u64 (Int.ofNat id), AV.ptr e 0]))
    (H2 : load1 (AHeap.room h 32) e (0 + 7) = some (.int .i64 (.ofNat pins)))
    (H3 : eqI (.ofNat pins) (.ofNat 0) = false)
    (H4 : Decidable.rec (fun h => (fun x => false) h) (fun h => (fun x => true) h) (instDecidableEqBool (eqI (.ofNat pins) (.ofNat 0)) true) = false)
    (H5 : (bif eqI (Int.ofNat pins) (Int.ofNat 0) then AV.tup [] else AV.bool false) = AV.bool false) :
    RunF Tryd.prog Tryd.f30 none call [1, 0, 1, 0, 0, 1] (SSt.mk [(0, .ptr c 0), (1, .int .u64 (.ofNat b)), (8, .ptr it 0), (10, .bool true)] [] .none h) (.nrm)
      (SSt.mk [(0, .ptr c 0), (1, .int .u64 (.ofNat b)), (8, .ptr it 0)] [] .none (AHeap.room h 32)) :=
  sxF_run [0, 1, 8] (hs := [.b true, .v (.tup [.int .u64 (.ofNat id), .ptr e 0]), .v (.int .i64 (.ofNat pins)), .b false, .b false, .b false, .b false, .b false, .b false, .b false, .b false, .b false, .b false, .b false, .b false]) (by kernel_rfl) <| .cons (by kernel_rfl : true = true) <| .cons H1 <| .cons H2 <| .cons H3 <| .cons H3 <| .cons H3 <| .cons H3 <| .cons H3 <| .cons H3 <| .cons (by kernel_rfl : false = false) <| .cons (by kernel_rfl : false = false) <| .cons (by kernel_rfl : false = false) <| .cons (by kernel_rfl : false = false) <| .cons (by kernel_rfl : false = false) <| .cons (by kernel_rfl : AV.sound (AV.ptr e 0) = true) <| .cons (by kernel_rfl : AV.ptr e 0 = AV.ptr e 0) <| .cons (by kernel_rfl : AV.sound (AV.ptr e 0) = true) <| .cons (by kernel_rfl : AV.ptr e 0 = AV.ptr e 0) <| .cons (by kernel_rfl : AV.sound (AV.ptr e (0 + 7)) = true) <| .cons (by kernel_rfl : AV.ptr e (0 + 7) = AV.ptr e (0 + 7)) <| .cons (by kernel_rfl : AV.sound (AV.int IntKind.i64 (Int.ofNat pins)) = true) <| .cons H2 <| .cons (by kernel_rfl : AV.sound (AV.bool (eqI (Int.ofNat pins) (Int.ofNat 0))) = true) <| .cons (by kernel_rfl : AV.bool (eqI (Int.ofNat pins) (Int.ofNat 0)) = AV.bool (eqI (Int.ofNat pins) (Int.ofNat 0))) <| .cons (by kernel_rfl : AV.sound (AV.bool (eqI (Int.ofNat pins) (Int.ofNat 0))) = true) <| .cons (by kernel_rfl : AV.bool (eqI (Int.ofNat pins) (Int.ofNat 0)) = AV.bool (eqI (Int.ofNat pins) (Int.ofNat 0))) <| .cons H4 <| .cons H4 <| .cons H4 <| .cons H4 <| .cons H4 <| .cons (by kernel_rfl : AV.sound (AV.bool false) = true) <| .cons H5 <| .cons (by kernel_rfl : AV.sound (AV.bool false) = true) <| .cons (by kernel_rfl : AV.bool false = AV.bool false) <| .cons (by kernel_rfl : false = false) <| .cons (by kernel_rfl : false = false) <| .cons (by kernel_rfl : false = false) <| .cons (by kernel_rfl : false = false) <| .cons (by kernel_rfl : AV.sound (AV.bool false) = true) <| .cons (by kernel_rfl : (bif false then AV.tup [] else AV.bool false) = AV.bool false) <| .cons (by kernel_rfl : false = false) <| .nil
theorem lo_e (call : CallT → List AV → AHeap → FRes) (b : Nat) (h : AHeap) :
    RunF Tryd.prog Tryd.f30 none call [1, 1] (SSt.mk [(1, .int .u64 (.ofNat b))] [] .none h) (.ret)
      (SSt.mk [(1, .int .u64 (.ofNat b))] [] .none h) :=
  sxF_run [1] (hs := []) (by kernel_rfl) <| .nil

/-! ### The entry that nobody holds and that was used least lately (store.room's search) -/
structure LD where
  id : Nat
  b : Nat
  pins : Nat
  held : Nat
  used : Nat
  born : Nat
def LD.loose (d : LD) : Bool := Nat.beq d.pins 0 && Nat.beq d.held 0
def ldOf (h : AHeap) (e : AEnt) : Option LD := match e.key, e.val with
  | .int .u64 (.ofNat id), .ptr b 0 => match load1 h b 7, load1 h b 8, load1 h b 9 with
    | some (.int .i64 (.ofNat p)), some (.int .i64 (.ofNat q)), some (.int .u64 (.ofNat u)) => some ⟨id, b, p, q, u, e.born⟩
    | _, _, _ => none
  | _, _ => none
theorem ldOf_some {h : AHeap} {e : AEnt} {d : LD} (hd : ldOf h e = some d) : e.key = .int .u64 (Int.ofNat d.id) ∧ e.val = .ptr d.b 0 ∧ load1 h d.b 7 = some (.int .i64 (Int.ofNat d.pins)) ∧ load1 h d.b 8 = some (.int .i64 (Int.ofNat d.held)) ∧ load1 h d.b 9 = some (.int .u64 (Int.ofNat d.used)) ∧ e.born = d.born := by
  unfold ldOf at hd
  split at hd
  · rename_i id b h1 h2
    split at hd
    · rename_i p q u h3 h4 h5
      cases hd
      exact ⟨h1, h2, h3, h4, h5, rfl⟩
    · cases hd
  · cases hd
def ldsOf (h : AHeap) : List AEnt → Option (List LD)
  | [] => some []
  | e :: es => match ldOf h e with
    | some d => match ldsOf h es with
      | some l => some (d :: l)
      | none => none
    | none => none
inductive LDs (h : AHeap) : List AEnt → List LD → Prop where
  | nil : LDs h [] []
  | cons {e es d l} : ldOf h e = some d → LDs h es l → LDs h (e :: es) (d :: l)
theorem ldsOf_some {h : AHeap} : ∀ {es : List AEnt} {l : List LD}, ldsOf h es = some l → LDs h es l
  | [], l, hl => by cases hl; exact .nil
  | e :: es, l, hl => by
    unfold ldsOf at hl
    split at hl
    · rename_i d hd
      split at hl
      · rename_i l' hl'
        cases hl
        exact .cons hd (ldsOf_some hl')
      · cases hl
    · cases hl
theorem LDs.ent {h : AHeap} {es : List AEnt} {l : List LD} (hl : LDs h es l) : ∀ e ∈ es, ∃ d ∈ l, ldOf h e = some d := by
  induction hl with
  | nil => intro e he; cases he
  | cons h1 h2 ih =>
    intro e he
    rcases List.mem_cons.1 he with rfl | he
    · exact ⟨_, by simp, h1⟩
    · obtain ⟨d, h3, h4⟩ := ih e he; exact ⟨d, by simp [h3], h4⟩
theorem LDs.dat {h : AHeap} {es : List AEnt} {l : List LD} (hl : LDs h es l) : ∀ d ∈ l, ∃ e ∈ es, ldOf h e = some d := by
  induction hl with
  | nil => intro e he; cases he
  | cons h1 h2 ih =>
    intro e he
    rcases List.mem_cons.1 he with rfl | he
    · exact ⟨_, by simp, h1⟩
    · obtain ⟨d, h3, h4⟩ := ih e he; exact ⟨d, by simp [h3], h4⟩
def distN : List Nat → Bool
  | [] => true
  | a :: l => match l.any fun x => Nat.beq a x with
    | true => false
    | false => distN l
theorem distN_eq {α : Type} (f : α → Nat) : ∀ (l : List α), distN (l.map f) = true → ∀ a ∈ l, ∀ b ∈ l, f a = f b → a = b
  | [], _, a, ha, _, _, _ => by cases ha
  | x :: l, h, a, ha, b, hb, e => by
    simp only [List.map_cons, distN] at h
    split at h
    · cases h
    · rename_i h1
      have hx : ∀ y ∈ l, f x ≠ f y := fun y hy e => by
        have : ((l.map f).any fun z => Nat.beq (f x) z) = true := List.any_eq_true.2 ⟨f y, List.mem_map.2 ⟨y, hy, rfl⟩, by rw [e]; exact Nat.beq_refl _⟩
        rw [this] at h1; cases h1
      rcases List.mem_cons.1 ha with ea | ha' <;> rcases List.mem_cons.1 hb with eb | hb'
      · rw [ea, eb]
      · rw [ea] at e; exact absurd e (hx b hb')
      · rw [eb] at e; exact absurd e.symm (hx a ha')
      · exact distN_eq f l h a ha' b hb' e
def okD (l : List LD) (clock : Nat) : Bool := distN (l.map LD.born) && (distN (l.map LD.id) && (distN ((l.filter LD.loose).map LD.used) && (l.all fun d => Nat.blt d.born clock && Nat.blt 0 d.id)))
/-- The loose one that was used least lately. -/
def minL : List LD → Option LD
  | [] => none
  | d :: l => match d.loose with
    | true => match minL l with
      | none => some d
      | some x => match Nat.blt x.used d.used with
        | true => some x
        | false => some d
    | false => minL l
def idOf : Option LD → Nat
  | some d => d.id
  | none => 0
theorem minL_none : ∀ {l : List LD}, minL l = none → ∀ d ∈ l, d.loose = false
  | [], _, d, hd => by cases hd
  | x :: l, h, d, hd => by
    unfold minL at h
    split at h
    · split at h
      · cases h
      · split at h <;> cases h
    · rename_i hx
      rcases List.mem_cons.1 hd with rfl | hd
      · exact hx
      · exact minL_none h d hd
theorem minL_some : ∀ {l : List LD} {m : LD}, minL l = some m → m ∈ l ∧ m.loose = true ∧ ∀ d ∈ l, d.loose = true → m.used ≤ d.used
  | [], m, h => by cases h
  | x :: l, m, h => by
    unfold minL at h
    split at h
    · rename_i hx
      split at h
      · rename_i hn
        cases h
        refine ⟨by simp, hx, fun d hd hl => ?_⟩
        rcases List.mem_cons.1 hd with rfl | hd
        · exact Nat.le_refl _
        · have := minL_none hn d hd; rw [hl] at this; cases this
      · rename_i y hy
        obtain ⟨h1, h2, h3⟩ := minL_some hy
        split at h
        · rename_i hlt
          cases h
          rw [Nat.blt_eq] at hlt
          refine ⟨by simp [h1], h2, fun d hd hl => ?_⟩
          rcases List.mem_cons.1 hd with rfl | hd
          · omega
          · exact h3 d hd hl
        · rename_i hlt
          cases h
          have hlt : ¬ y.used < x.used := fun e => by rw [← Nat.blt_eq] at e; rw [e] at hlt; cases hlt
          refine ⟨by simp, hx, fun d hd hl => ?_⟩
          rcases List.mem_cons.1 hd with rfl | hd
          · exact Nat.le_refl _
          · have := h3 d hd hl; omega
    · rename_i hx
      obtain ⟨h1, h2, h3⟩ := minL_some h
      refine ⟨by simp [h1], h2, fun d hd hl => ?_⟩
      rcases List.mem_cons.1 hd with rfl | hd
      · rw [hl] at hx; cases hx
      · exact h3 d hd hl
/-- What the search has found among those that it has seen. -/
def Best (l : List LD) (S : List Nat) (b : Nat) : Prop :=
  (b = 0 ∧ ∀ d ∈ l, d.born ∈ S → d.loose = false) ∨ ∃ m ∈ l, m.born ∈ S ∧ m.loose = true ∧ b = m.id ∧ ∀ d ∈ l, d.born ∈ S → d.loose = true → m.used ≤ d.used
theorem Best.fin {l : List LD} {clock : Nat} (hk : okD l clock = true) {S : List Nat} {b : Nat} (hb : Best l S b) (hS : ∀ d ∈ l, d.born ∈ S) : b = idOf (minL l) := by
  simp only [okD, Bool.and_eq_true] at hk
  obtain ⟨_, _, hu, _⟩ := hk
  cases hm : minL l with
  | none =>
    have := minL_none hm
    rcases hb with ⟨rfl, _⟩ | ⟨m, h1, _, h2, _⟩
    · rfl
    · rw [this m h1] at h2; cases h2
  | some x =>
    obtain ⟨h1, h2, h3⟩ := minL_some hm
    rcases hb with ⟨rfl, h4⟩ | ⟨m, m1, _, m2, rfl, m3⟩
    · rw [h4 x h1 (hS x h1)] at h2; cases h2
    · have e1 := h3 m m1 m2
      have e2 := m3 x h1 (hS x h1) h2
      have := distN_eq LD.used (l.filter LD.loose) hu m (List.mem_filter.2 ⟨m1, m2⟩) x (List.mem_filter.2 ⟨h1, h2⟩) (by omega)
      rw [this]; rfl
def leftN (l : List LD) (S : List Nat) : Nat := (l.filter fun d => !S.contains d.born).length
theorem leftN_step {l : List LD} (hd : distN (l.map LD.born) = true) {S : List Nat} {d : LD} (hm : d ∈ l) (hs : d.born ∉ S) : leftN l (S ++ [d.born]) + 1 = leftN l S := by
  unfold leftN
  have hnd : ∀ a ∈ l, ∀ b ∈ l, a.born = b.born → a = b := distN_eq LD.born l hd
  -- as each one stands there once
  have key : ∀ (l : List LD), distN (l.map LD.born) = true → d ∈ l → (l.filter fun x => !(S ++ [d.born]).contains x.born).length + 1 = (l.filter fun x => !S.contains x.born).length := by
    intro l
    induction l with
    | nil => intro _ h; cases h
    | cons x l ih =>
      intro hd hm
      have hd' := hd
      simp only [List.map_cons, distN] at hd
      split at hd
      · cases hd
      · rename_i h1
        by_cases hx : x.born = d.born
        · have hrest : ∀ y ∈ l, ¬ y.born = d.born := fun y hy e => by
            have : ((l.map LD.born).any fun z => Nat.beq x.born z) = true := List.any_eq_true.2 ⟨y.born, List.mem_map.2 ⟨y, hy, rfl⟩, by rw [hx, e]; exact Nat.beq_refl _⟩
            rw [this] at h1; cases h1
          have e1 : (l.filter fun x => !(S ++ [d.born]).contains x.born) = l.filter fun x => !S.contains x.born := by
            apply List.filter_congr
            intro y hy
            have := hrest y hy
            simp [this]
          have e2 : (!(S ++ [d.born]).contains x.born) = false := by simp [hx]
          have e3 : (!S.contains x.born) = true := by rw [hx]; simpa using hs
          rw [List.filter_cons, e2, List.filter_cons, e3]
          simp only [Bool.false_eq_true, if_false, if_true, List.length_cons]
          rw [e1]
        · have hm' : d ∈ l := by
            rcases List.mem_cons.1 hm with rfl | h
            · exact absurd rfl hx
            · exact h
          have ih' := ih hd hm'
          have e2 : (!(S ++ [d.born]).contains x.born) = (!S.contains x.born) := by simp [hx]
          rw [List.filter_cons, List.filter_cons, e2]
          cases hc : (!S.contains x.born) with
          | true => simp only [if_true, List.length_cons]; omega
          | false => simp only [Bool.false_eq_true, if_false]; exact ih'
  exact key l hd hm
theorem find_id {h0 : AHeap} {h : AHeap} {kt : TypeId} {x : LD} : ∀ {es : List AEnt} {l : List LD}, LDs h es l → (∀ a ∈ l, ∀ b ∈ l, a.id = b.id → a = b) → x ∈ l → ∀ i, ∃ j, findA Tryd.prog h0 kt (.int .u64 (Int.ofNat x.id)) es i = some (some (j, .ptr x.b 0)) := by
  intro es l hl
  induction hl with
  | nil => intro _ hx; cases hx
  | @cons e es d l h1 h2 ih =>
    intro hid hx i
    obtain ⟨k1, k2, _⟩ := ldOf_some h1
    simp only [findA, sameK, k1, sameA, if_true]
    by_cases hxd : x.id = d.id
    · have : x = d := hid x hx d (by simp) hxd
      subst this
      have : eqI (Int.ofNat x.id) (Int.ofNat x.id) = true := eqI_t rfl
      rw [this]
      exact ⟨i, by rw [k2]⟩
    · have : eqI (Int.ofNat x.id) (Int.ofNat d.id) = false := eqI_f hxd
      rw [this]
      have hx' : x ∈ l := by
        rcases List.mem_cons.1 hx with rfl | h
        · exact absurd rfl hxd
        · exact h
      exact ih (fun a ha b hb => hid a (by simp [ha]) b (by simp [hb])) hx' (i + 1)
theorem findBorn_mem {b : Nat} : ∀ {es : List AEnt} {e : AEnt}, e ∈ es → (∀ x ∈ es, x.born = e.born → x = e) → e.born = b → findBorn b es = some e
  | [], e, he, _, _ => by cases he
  | x :: es, e, he, hu, hb => by
    unfold findBorn
    by_cases hx : x.born = b
    · have : Nat.beq x.born b = true := by rw [hx]; exact Nat.beq_refl _
      rw [this]
      rw [hu x (by simp) (hx.trans hb.symm)]
    · have : Nat.beq x.born b = false := by
        cases hc : Nat.beq x.born b with
        | false => rfl
        | true => exact absurd (Nat.eq_of_beq_eq_true hc) hx
      rw [this]
      rcases List.mem_cons.1 he with rfl | he
      · exact absurd hb hx
      · exact findBorn_mem he (fun x hx => hu x (by simp [hx])) hb
theorem lastN_snoc (l : List Nat) (b : Nat) : lastN (l ++ [b]) = some b := by rw [lastN_eq]; simp

/-- The call, told. -/
def looseI (f : Nat) (args : List AV) (h : AHeap) : Option (AV × AHeap) := match Nat.beq f 30, args with
  | true, [.ptr c 0] => match load1 h c 0 with
    | some (.ptr st 0) => match load1 h st 3 with
      | some (.map m) => match h.get m with
        | some (.map es clock) => match ldsOf h es with
          | some l => match okD l clock && (Nat.blt c h.n && (Nat.blt st h.n && (Nat.blt m h.n && (l.all fun d => Nat.blt d.b h.n)))) with
            | true => some (.int .u64 (Int.ofNat (idOf (minL l))), h.room (1 + 32 * l.length))
            | false => none
          | none => none
        | _ => none
      | _ => none
    | _ => none
  | _, _ => none

theorem mem_snoc {S : List Nat} {x y : Nat} (h : x ∈ S ++ [y]) : x ∈ S ∨ x = y := by simpa using h
theorem Best.no {l : List LD} {S : List Nat} {b : Nat} {d : LD} (hb : Best l S b) (hd : d.loose = false) (hu : ∀ a ∈ l, a.born = d.born → a = d) : Best l (S ++ [d.born]) b := by
  rcases hb with ⟨rfl, h1⟩ | ⟨m, h1, h2, h3, rfl, h4⟩
  · refine .inl ⟨rfl, fun a ha hs => ?_⟩
    rcases mem_snoc hs with h | h
    · exact h1 a ha h
    · rw [hu a ha h]; exact hd
  · refine .inr ⟨m, h1, by simp [h2], h3, rfl, fun a ha hs hl => ?_⟩
    rcases mem_snoc hs with h | h
    · exact h4 a ha h hl
    · rw [hu a ha h, hd] at hl; cases hl
theorem Best.first {l : List LD} {S : List Nat} {d : LD} (hb : Best l S 0) (hid : ∀ a ∈ l, 0 < a.id) (hm : d ∈ l) (hd : d.loose = true) (hu : ∀ a ∈ l, a.born = d.born → a = d) : Best l (S ++ [d.born]) d.id := by
  rcases hb with ⟨_, h1⟩ | ⟨m, h1, h2, h3, h0, h4⟩
  · refine .inr ⟨d, hm, by simp, hd, rfl, fun a ha hs hl => ?_⟩
    rcases mem_snoc hs with h | h
    · rw [h1 a ha h] at hl; cases hl
    · rw [hu a ha h]; exact Nat.le_refl _
  · have := hid m h1; omega
theorem Best.cmp {l : List LD} {S : List Nat} {b : Nat} (hb : Best l S b) (h0 : ¬ b = 0) : ∃ m ∈ l, b = m.id ∧ ∀ d ∈ l, d.loose = true → (∀ a ∈ l, a.born = d.born → a = d) → (d.used < m.used → Best l (S ++ [d.born]) d.id) ∧ (¬ d.used < m.used → Best l (S ++ [d.born]) b) := by
  rcases hb with ⟨h, _⟩ | ⟨m, h1, h2, h3, rfl, h4⟩
  · exact absurd h h0
  · refine ⟨m, h1, rfl, fun d hm hd hu => ⟨fun hlt => ?_, fun hlt => ?_⟩⟩
    · refine .inr ⟨d, hm, by simp, hd, rfl, fun a ha hs hl => ?_⟩
      rcases mem_snoc hs with h | h
      · have := h4 a ha h hl; omega
      · rw [hu a ha h]; exact Nat.le_refl _
    · refine .inr ⟨m, h1, by simp [h2], h3, rfl, fun a ha hs hl => ?_⟩
      rcases mem_snoc hs with h | h
      · exact h4 a ha h hl
      · rw [hu a ha h]; omega
abbrev Gl (c b it : Nat) : Env := [(0, .ptr c 0), (1, .int .u64 (Int.ofNat b)), (8, .ptr it 0)]
/-- Memory in the search: as it was, the iterator beside. -/
structure Hl (h : AHeap) (m clock : Nat) (S : List Nat) (g : AHeap) : Prop where
  n : g.n = h.n + (1 + 32 * S.length)
  low : ∀ b, b < h.n → g.get b = h.get b
  it : g.get h.n = some (.mapIter (some m) clock S clock)
theorem ld_low {h g : AHeap} {b off : Nat} (e : g.get b = h.get b) : load1 g b off = load1 h b off := by unfold load1; rw [e]
/-- What a search wants. -/
structure Sch (h : AHeap) (c st m clock : Nat) (es : List AEnt) (l : List LD) : Prop where
  hc : load1 h c 0 = some (.ptr st 0)
  hst : load1 h st 3 = some (.map m)
  hm : h.get m = some (.map es clock)
  hL : LDs h es l
  ok : okD l clock = true
  cn : c < h.n
  sn : st < h.n
  mn : m < h.n
  bn : ∀ d ∈ l, d.b < h.n
def StR (h : AHeap) (c m clock : Nat) (l : List LD) (n : Nat) (s : SSt) : Prop := ∃ S b g, s = ⟨Gl c b h.n, [], .none, g⟩ ∧ Hl h m clock S g ∧ Best l S b ∧ leftN l S = n ∧ S.length + n = l.length
def EnR (h : AHeap) (m clock : Nat) (l : List LD) (e : AEx) (s : SSt) : Prop := e = .exit 0 ∧ ∃ b g S, s = ⟨[(1, .int .u64 (Int.ofNat b))], [], .none, g⟩ ∧ Hl h m clock S g ∧ Best l S b ∧ S.length = l.length ∧ ∀ d ∈ l, d.born ∈ S
theorem loose_round {C0 : CallT → List AV → AHeap → FRes} (hcall : CallOK Tryd.prog C0) (hdr : ∀ need nt, DrawSpec Tryd.prog need nt C0) {h : AHeap} {c st m clock : Nat} {es : List AEnt} {l : List LD} (w : Sch h c st m clock es l) (n : Nat) (s : SSt) (hs : StR h c m clock l n s) :
    DoesF Tryd.prog Tryd.f30 none [1, 0, 1, 0, 0] s (LoopD (StR h c m clock l) n (EnR h m clock l)) := by
  obtain ⟨S, b, g, rfl, hg, hb, hln, hcnt⟩ := hs
  have hok' := w.ok
  simp only [okD, Bool.and_eq_true] at hok'
  obtain ⟨hdb, hdi, hdu, hall⟩ := hok'
  have hborn : ∀ d ∈ l, d.born < clock ∧ 0 < d.id := fun d hd => by
    have := List.all_eq_true.1 hall d hd
    simpa using this
  have hidu := distN_eq LD.id l hdi
  have hbu := distN_eq LD.born l hdb
  have heu : ∀ x ∈ es, ∀ e ∈ es, x.born = e.born → x = e := by
    intro x hx e he hb
    obtain ⟨dx, dx1, dx2⟩ := w.hL.ent x hx
    obtain ⟨de, de1, de2⟩ := w.hL.ent e he
    obtain ⟨a1, a2, _, _, _, a3⟩ := ldOf_some dx2
    obtain ⟨b1, b2, _, _, _, b3⟩ := ldOf_some de2
    have := hbu dx dx1 de de1 (by omega)
    subst this
    obtain ⟨k1, v1, w1⟩ := x
    obtain ⟨k2, v2, w2⟩ := e
    simp only at a1 a2 a3 b1 b2 b3
    rw [a1, a2, a3, b1, b2, b3]
  have hmn : ¬ m = h.n := by have := w.mn; omega
  have hgm : g.get m = some (.map es clock) := (hg.low m w.mn).trans w.hm
  refine DoesF.seq (p := [1, 0, 1, 0, 0]) (R1 := fun e s => e = .nrm ∧ ((s = ⟨put 10 (.bool false) (Gl c b h.n), [], .none, g⟩ ∧ ∀ e ∈ es, e.born ∈ S) ∨ ∃ e ∈ es, e.born ∉ S ∧ s = ⟨put 10 (.bool true) (Gl c b h.n), [], .none, g.set h.n (some (.mapIter (some m) clock (S ++ [e.born]) clock))⟩)) (by kernel_rfl)
    (DoesF.next hcall (p := [1, 0, 1, 0, 0, 0]) (it := 8) (a := 9) (t := 10) (by kernel_rfl) (by kernel_rfl) (by kernel_rfl) (by kernel_rfl) (by kernel_rfl) rfl hg.it hgm (fun e he => by
      obtain ⟨d, d1, d2⟩ := w.hL.ent e he
      obtain ⟨_, _, _, _, _, a3⟩ := ldOf_some d2
      have := (hborn d d1).1; omega) (Nat.le_refl _) (fun hall => ⟨rfl, .inl ⟨rfl, hall⟩⟩) fun e he hns => ⟨rfl, .inr ⟨e, he, hns, rfl⟩⟩) (fun s' h1 => ?_) fun e s' he h1 => absurd h1.1 he
  obtain ⟨_, ⟨rfl, hS⟩ | ⟨e, he, hns, rfl⟩⟩ := h1
  · have hSl : ∀ d ∈ l, d.born ∈ S := fun d hd => by
      obtain ⟨e, he, he2⟩ := w.hL.dat d hd
      obtain ⟨_, _, _, _, _, a3⟩ := ldOf_some he2
      rw [← a3]; exact hS e he
    have h0 : leftN l S = 0 := by
      unfold leftN
      rw [List.length_eq_zero_iff, List.filter_eq_nil_iff]
      intro d hd
      simpa using hSl d hd
    exact DoesF.pre (DoesF.of_run hcall hdr (by kernel_rfl) (lo_x C0 b g) (.inr ⟨by simp, rfl, b, g, S, rfl, hg, hb, by omega, hSl⟩)) ⟨rfl, rfl, trivial⟩ rfl rfl rfl
  · obtain ⟨d, d1, d2⟩ := w.hL.ent e he
    obtain ⟨a1, a2, a3, a4, a5, a6⟩ := ldOf_some d2
    have hdn := w.bn d d1
    obtain ⟨g1, hg1⟩ : ∃ g1, g1 = g.set h.n (some (.mapIter (some m) clock (S ++ [e.born]) clock)) := ⟨_, rfl⟩
    rw [← hg1]
    have low1 : ∀ b, b < h.n → g1.get b = h.get b := fun b hb => by rw [hg1, AHeap.get_set, if_neg (by omega)]; exact hg.low b hb
    have hit1 : g1.get h.n = some (.mapIter (some m) clock (S ++ [e.born]) clock) := by rw [hg1]; exact gsame rfl
    have hm1 : g1.get m = some (.map es clock) := (low1 m w.mn).trans w.hm
    have ent : entryA g1 (.ptr h.n 0) = some (.tup [.int .u64 (Int.ofNat d.id), .ptr d.b 0]) := by
      have hfb := findBorn_mem he (fun x hx hb => heu x hx e he hb) rfl
      unfold entryA
      simp only [hit1, hm1, lastN_snoc, hfb, a1, a2]
      rw [Nat.beq_refl]
    have n1 : g1.n = g.n := by rw [hg1]; rfl
    have hsd : d.born ∉ S := by rw [← a6]; exact hns
    have hl1 := leftN_step hdb d1 hsd
    have hg2 : Hl h m clock (S ++ [d.born]) (g1.room 32) := ⟨by rw [AHeap.n_room, n1, hg.n, List.length_append]; simp; omega, low1, by rw [AHeap.get_room, hit1, a6]⟩
    have hub : ∀ a ∈ l, a.born = d.born → a = d := fun a ha e => hbu a ha d d1 e
    have ldx : ∀ (b off : Nat) (v : AV), b < h.n → load1 h b off = some v → load1 (g1.room 32) b off = some v := fun b off v hb hv => (ld_low (low1 b hb)).trans hv
    have L7 := ldx d.b 7 _ hdn a3
    have L8 := ldx d.b 8 _ hdn a4
    have L9 := ldx d.b 9 _ hdn a5
    have Lc := ldx c 0 _ w.cn w.hc
    have Ls := ldx st 3 _ w.sn w.hst
    have fin : ∀ b', Best l (S ++ [d.born]) b' → RunF Tryd.prog Tryd.f30 none C0 [1, 0, 1, 0, 0, 1] ⟨[(0, .ptr c 0), (1, .int .u64 (Int.ofNat b)), (8, .ptr h.n 0), (10, .bool true)], [], .none, g1⟩ .nrm ⟨Gl c b' h.n, [], .none, g1.room 32⟩ →
        DoesF Tryd.prog Tryd.f30 none [1, 0, 1, 0, 0, 1] ⟨put 10 (.bool true) (Gl c b h.n), [], .none, g1⟩ (LoopD (StR h c m clock l) n (EnR h m clock l)) := fun b' hb' hr =>
      DoesF.pre (DoesF.of_run hcall hdr (by kernel_rfl) hr (.inl ⟨rfl, leftN l (S ++ [d.born]), by omega, S ++ [d.born], b', g1.room 32, rfl, hg2, hb', rfl, by rw [List.length_append]; simp; omega⟩)) ⟨rfl, rfl, rfl, rfl, trivial⟩ rfl rfl rfl
    by_cases hp : d.pins = 0
    · have p0 : eqI (Int.ofNat d.pins) (Int.ofNat 0) = true := eqI_t hp
      by_cases hq : d.held = 0
      · have q0 : eqI (Int.ofNat d.held) (Int.ofNat 0) = true := eqI_t hq
        have hloose : d.loose = true := by unfold LD.loose; rw [hp, hq]; rfl
        by_cases h0 : b = 0
        · have b0 : eqI (Int.ofNat b) (Int.ofNat 0) = true := eqI_t h0
          exact fin d.id ((h0 ▸ hb).first (fun a ha => (hborn a ha).2) d1 hloose hub) (lo_b_1 C0 c b h.n d.id d.b d.pins d.held 0 0 0 0 0 g1 ent L7 p0 L8 q0 b0 (by rw [p0]; rfl) (by rw [b0]; rfl) (by rw [b0]; rfl) (by rw [q0]; rfl))
        · have b0 : eqI (Int.ofNat b) (Int.ofNat 0) = false := eqI_f h0
          obtain ⟨x, x1, x2, x3⟩ := hb.cmp h0
          obtain ⟨x4, x5⟩ := x3 d d1 hloose hub
          obtain ⟨ex, ex1, ex2⟩ := w.hL.dat x x1
          obtain ⟨_, _, _, _, y5, _⟩ := ldOf_some ex2
          have LU := ldx x.b 9 _ (w.bn x x1) y5
          have look : lookupA Tryd.prog (g1.room 32) 52 (.map m) (.int .u64 (Int.ofNat b)) false = some (.ptr x.b 0) := by
            obtain ⟨j, hj⟩ := find_id (h0 := g1.room 32) (kt := 28) w.hL hidu x1 0
            have hu : Tryd.prog.underlying 52 = some (.map 28 56) := by kernel_rfl
            have hk : keyT Tryd.prog 28 (.int .u64 (Int.ofNat b)) = true := by
              have hu2 : Tryd.prog.underlying 28 = some (.int .u64) := by kernel_rfl
              simp only [keyT, keyS, hu2]
            have hmr : (g1.room 32).get m = some (.map es clock) := hm1
            rw [x2] at hk ⊢
            simp only [lookupA, hu, hk, hmr, hj, lookFin, Bool.false_eq_true, if_false]
          by_cases hlt : d.used < x.used
          · have lt0 := lt_t hlt
            exact fin d.id (x4 hlt) (lo_b_2 C0 c b h.n d.id d.b d.pins d.held d.used st m x.b x.used g1 ent L7 p0 L8 q0 b0 L9 Lc Ls look LU (by rw [p0]; rfl) (by rw [b0]; rfl) (by rw [q0]; rfl) lt0)
          · have lt0 := lt_f hlt
            exact fin b (x5 hlt) (lo_b_3 C0 c b h.n d.id d.b d.pins d.held d.used st m x.b x.used g1 ent L7 p0 L8 q0 b0 L9 Lc Ls look LU (by rw [p0]; rfl) (by rw [b0]; rfl) (by rw [q0]; rfl) lt0)
      · have q0 : eqI (Int.ofNat d.held) (Int.ofNat 0) = false := eqI_f hq
        have hloose : d.loose = false := by
          unfold LD.loose
          cases hc : Nat.beq d.held 0 with
          | false => simp
          | true => exact absurd (Nat.eq_of_beq_eq_true hc) hq
        exact fin b (hb.no hloose hub) (lo_b_4 C0 c b h.n d.id d.b d.pins d.held 0 0 0 0 0 g1 ent L7 p0 L8 q0 (by rw [p0]; rfl) (by rw [q0]; rfl) (by rw [q0]; rfl))
    · have p0 : eqI (Int.ofNat d.pins) (Int.ofNat 0) = false := eqI_f hp
      have hloose : d.loose = false := by
        unfold LD.loose
        cases hc : Nat.beq d.pins 0 with
        | false => simp
        | true => exact absurd (Nat.eq_of_beq_eq_true hc) hp
      exact fin b (hb.no hloose hub) (lo_b_5 C0 c b h.n d.id d.b d.pins 0 0 0 0 0 0 g1 ent L7 p0 (by rw [p0]; rfl) (by rw [p0]; rfl))
theorem loose_ok (hf : Fit Tryd.prog) : IntrOK Tryd.prog looseI := by
  intro f args h v H' hx μ wd vs hh hg hv
  unfold looseI at hx
  split at hx
  · rename_i c hfe
    obtain rfl := Nat.eq_of_beq_eq_true hfe
    split at hx
    · rename_i st hc
      split at hx
      · rename_i m hst
        split at hx
        · rename_i es clock hm
          split at hx
          · rename_i l hl
            split at hx
            · rename_i hok0
              cases hx
              simp only [Bool.and_eq_true, Nat.blt_eq] at hok0
              obtain ⟨hok, hcn, hstn, hmn, hbn⟩ := hok0
              have w : Sch h c st m clock es l := ⟨hc, hst, hm, ldsOf_some hl, hok, hcn, hstn, hmn, fun d hd => by
                have := List.all_eq_true.1 hbn d hd
                simpa using this⟩
              have hcall : CallOK Tryd.prog (callN Tryd.prog (fun _ _ _ => none) 0) := run_ok hf (intr_none _) 0
              have hdr : ∀ need nt, DrawSpec Tryd.prog need nt (callN Tryd.prog (fun _ _ _ => none) 0) := fun need nt => drawSpec hf.mixed hcall need nt
              obtain ⟨C0, hC0⟩ : ∃ C0, C0 = callN Tryd.prog (fun _ _ _ => none) 0 := ⟨_, rfl⟩
              rw [← hC0] at hcall hdr
              -- the loop
              have hlp : ∀ g, Hl h m clock [] g → DoesF Tryd.prog Tryd.f30 none [1, 0, 1] ⟨Gl c 0 h.n, [], .none, g⟩ (fun e s => e = .nrm ∧ EnR h m clock l (.exit 0) s) := fun g hg =>
                DoesF.block (p := [1, 0, 1]) (id := 0) (R1 := EnR h m clock l) (by kernel_rfl)
                  (DoesF.loop (p := [1, 0, 1, 0]) (StR h c m clock l) (by kernel_rfl) (fun n s hs => loose_round hcall hdr w n s hs) l.length ⟨[], 0, g, rfl, hg, .inl ⟨rfl, fun d _ hs => (by cases hs)⟩, by unfold leftN; simp, by simp⟩)
                  fun e s hs => by obtain ⟨rfl, hs⟩ := hs; exact ⟨rfl, rfl, hs⟩
              have hg0 : Hl h m clock [] (h.push (.mapIter (some m) clock [] clock)) := ⟨rfl, fun b hb => gold hb rfl, gtop rfl⟩
              have run0 := lo_0 C0 c st m h.n h (h.push (.mapIter (some m) clock [] clock)) hc hst (by simp only [rangeA, hm])
              have hbody : DoesF Tryd.prog Tryd.f30 none [] ⟨argsG 0 [.ptr c 0], [], .none, h⟩ (fun e s => e = .ret ∧ EnR h m clock l (.exit 0) s) :=
                DoesF.seq (p := []) (R1 := fun e s => e = .nrm ∧ s = ⟨[(0, .ptr c 0), (1, .int .u64 (Int.ofNat 0))], [], .none, h⟩) (by kernel_rfl) (DoesF.of_run hcall hdr (by kernel_rfl) (lo_s C0 c h) ⟨rfl, rfl⟩)
                  (fun s hs => by
                    obtain ⟨_, rfl⟩ := hs
                    refine DoesF.seq (p := [1]) (R1 := fun e s => e = .nrm ∧ EnR h m clock l (.exit 0) s) (by kernel_rfl)
                      (DoesF.seq (p := [1, 0]) (R1 := fun e s => e = .nrm ∧ s = ⟨Gl c 0 h.n, [], .none, h.push (.mapIter (some m) clock [] clock)⟩) (by kernel_rfl) (DoesF.of_run hcall hdr (by kernel_rfl) run0 ⟨rfl, rfl⟩)
                        (fun s hs => by obtain ⟨_, rfl⟩ := hs; exact hlp _ hg0) fun e s he hs => absurd hs.1 he)
                      (fun s hs => ?_) fun e s he hs => absurd hs.1 he
                    obtain ⟨_, h1⟩ := hs
                    obtain ⟨_, b, g, S, rfl, h2⟩ := h1
                    exact DoesF.of_run hcall hdr (by kernel_rfl) (lo_e C0 b g) ⟨rfl, rfl, b, g, S, rfl, h2⟩)
                  fun e s he hs => absurd hs.1 he
              refine goes_of_does (args := [.ptr c 0]) hcall hdr hf.code Tryd.func30 (c := bodyOf Tryd.f30) rfl (show 1 ≤ Tryd.f30.ntmps from of_decide_eq_true (by kernel_rfl)) ?_ hh hg hv
              have hb2 := hbody (initRegs 0 [.ptr c 0] .leaf) (args_mod _)
              refine Does.mono hb2 fun e r' d' q' g ⟨Γ', m1, he, _, b, g', S, hs, hgl, hbest, hlen, hS⟩ => ?_
              obtain ⟨rfl, rfl, rfl, rfl⟩ : Γ' = [(1, .int .u64 (Int.ofNat b))] ∧ d' = [] ∧ q' = .none ∧ g = g' := by injection hs with q1 q2 q3 q4; exact ⟨q1, q2, q3, q4⟩
              have hbe := hbest.fin hok hS
              subst hbe
              refine ⟨.inr he, rfl, rfl, resS_ok m1 (by kernel_rfl), by rw [AHeap.n_room, hgl.n, hlen], fun b => ?_⟩
              by_cases hb : b < h.n
              · exact .inl (hgl.low b hb).symm
              · exact .inr ⟨hh.bound b (by omega), by omega⟩
            · cases hx
          · cases hx
        · cases hx
      · cases hx
    · cases hx
  · cases hx
end Go.Proofs.St

namespace Go.Proofs.St
open Go AEv Go.Proofs
set_option maxRecDepth 100000
set_option maxHeartbeats 1000000

/-! ### StoreKnown -/
theorem sknown_run (els : Nat → Nat) : okT (callN Tryd.prog looseI 200 (.fn 4) [] (heapT Tryd.prog.globals.size els [] [])) = true := by kernel_rfl
end Go.Proofs.St
