/-
  PROVED HERE: contracts of functions (P5a). No condition beside each statement's own.
-/
import Derived.Test.YtjjjhibodiadbaaDoorSxa
import Derived.Test.YtjjjhibodiadbaaDoorAed
import Derived.Test.YtjjjhibodiadbaaDoorProg
import Derived.KernelRfl
set_option linter.unusedVariables false
set_option linter.unusedSimpArgs false
namespace Go.Proofs.P05
open Go AEv Go.Proofs
set_option maxRecDepth 100000

def Wk : List Ent := [⟨11, [], .bool true⟩]
noncomputable def C (n : Nat) : CallT → List AV → AHeap → FRes := callN Tryd.prog (tabIntr Wk) n

/-- A byte that may stand in no segment. -/
def oddB (c : Nat) : Bool := !(decide (97 ≤ c ∧ c ≤ 122) || decide (48 ≤ c ∧ c ≤ 57) || decide (c = 95) || decide (c = 45))
theorem odd_256 (n : Nat) (h : AHeap) : (List.range 256).map (fun c => C (n + 1) (.fn 21) [.int .u8 (Int.ofNat c)] h) = (List.range 256).map (fun c => FRes.ret (.bool (oddB c)) h) := by kernel_rfl
theorem odd_c (n : Nat) (h : AHeap) {c : Nat} (hc : c < 256) : C (n + 1) (.fn 21) [.int .u8 (Int.ofNat c)] h = .ret (.bool (oddB c)) h := map_range (odd_256 n h) hc

theorem seg_pre (call : CallT → List AV → AHeap → FRes) (s : List UInt8) (h : AHeap)  :
    RunF Tryd.prog Tryd.f16 none call [0] (SSt.mk [(0, AV.str s)] [] Rc.none h) (AEx.nrm)
      (SSt.mk [(0, AV.str s)] [] Rc.none h) :=
  sxF_run [0] (hs := []) (by kernel_rfl) <| .nil
theorem seg_init (call : CallT → List AV → AHeap → FRes) (s : List UInt8) (h : AHeap)  :
    RunF Tryd.prog Tryd.f16 none call [1, 0, 0] (SSt.mk [(0, AV.str s)] [] Rc.none h) (AEx.nrm)
      (SSt.mk [(0, AV.str s), (5, AV.int IntKind.i64 (Int.ofNat (List.length s))), (6, AV.int IntKind.i64 0)] [] Rc.none h) :=
  sxF_run [0, 5, 6] (hs := []) (by kernel_rfl) <| .nil
theorem seg_end (call : CallT → List AV → AHeap → FRes) (s : List UInt8) (i : Nat) (h : AHeap) 
    (h1 : ltI (Int.ofNat i) (Int.ofNat (List.length s)) = false) :
    RunF Tryd.prog Tryd.f16 none call [1, 0, 1, 0, 0] (SSt.mk [(0, AV.str s), (5, AV.int IntKind.i64 (Int.ofNat (List.length s))), (6, AV.int IntKind.i64 (Int.ofNat i))] [] Rc.none h) (AEx.exit 0)
      (SSt.mk [(0, AV.str s)] [] Rc.none h) :=
  sxF_run [0] (hs := [Hint.b false]) (by kernel_rfl) <| .cons h1 <| .nil
theorem seg_odd (call : CallT → List AV → AHeap → FRes) (s : List UInt8) (i : Nat) (c : Nat) (h : AHeap) 
    (h1 : ltI (Int.ofNat i) (Int.ofNat (List.length s)) = true)
    (h2 : idxS i s = some (AV.int IntKind.u8 (Int.ofNat c)))
    (h3 : call (CallT.fn 21) [AV.int IntKind.u8 (Int.ofNat c)] h = FRes.ret (AV.bool true) h) :
    RunF Tryd.prog Tryd.f16 none call [1, 0, 1, 0, 0] (SSt.mk [(0, AV.str s), (5, AV.int IntKind.i64 (Int.ofNat (List.length s))), (6, AV.int IntKind.i64 (Int.ofNat i))] [] Rc.none h) (AEx.ret)
      (SSt.mk [(2, AV.bool false)] [] Rc.none h) :=
  sxF_run [2] (hs := [Hint.b true, Hint.v (AV.int IntKind.u8 (Int.ofNat c)), Hint.c (AV.bool true) h, Hint.b true]) (by kernel_rfl) <| .cons h1 <| .cons h2 <| .cons h3 <| .cons (by kernel_rfl : true = true) <| .nil
theorem seg_next (call : CallT → List AV → AHeap → FRes) (s : List UInt8) (i : Nat) (c : Nat) (h : AHeap) 
    (h1 : ltI (Int.ofNat i) (Int.ofNat (List.length s)) = true)
    (h2 : idxS i s = some (AV.int IntKind.u8 (Int.ofNat c)))
    (h3 : call (CallT.fn 21) [AV.int IntKind.u8 (Int.ofNat c)] h = FRes.ret (AV.bool false) h)
    (h4 : arith BinOp.add IntKind.i64 (Int.ofNat i) (Int.ofNat 1) = some (AV.int IntKind.i64 (Int.ofNat (i + 1)))) :
    RunF Tryd.prog Tryd.f16 none call [1, 0, 1, 0, 0] (SSt.mk [(0, AV.str s), (5, AV.int IntKind.i64 (Int.ofNat (List.length s))), (6, AV.int IntKind.i64 (Int.ofNat i))] [] Rc.none h) (AEx.nrm)
      (SSt.mk [(0, AV.str s), (5, AV.int IntKind.i64 (Int.ofNat (List.length s))), (6, AV.int IntKind.i64 (Int.ofNat (i + 1)))] [] Rc.none h) :=
  sxF_run [0, 5, 6] (hs := [Hint.b true, Hint.v (AV.int IntKind.u8 (Int.ofNat c)), Hint.c (AV.bool false) h, Hint.b false, Hint.v (AV.int IntKind.i64 (Int.ofNat (i + 1)))]) (by kernel_rfl) <| .cons h1 <| .cons h2 <| .cons h3 <| .cons (by kernel_rfl : false = false) <| .cons h4 <| .nil
theorem seg_tail_1 (call : CallT → List AV → AHeap → FRes) (s : List UInt8) (h : AHeap) 
    (h1 : (!beqBytes s []) = true) :
    RunF Tryd.prog Tryd.f16 none call [1, 1] (SSt.mk [(0, AV.str s)] [] Rc.none h) (AEx.ret)
      (SSt.mk [(2, AV.bool (leI (Int.ofNat (List.length s)) (Int.ofNat 16)))] [] Rc.none h) :=
  sxF_run [2] (hs := [Hint.b true, Hint.b true, Hint.b true, Hint.b true]) (by kernel_rfl) <| .cons h1 <| .cons h1 <| .cons h1 <| .cons h1 <| .nil
theorem seg_tail_2 (call : CallT → List AV → AHeap → FRes) (s : List UInt8) (h : AHeap) 
    (h1 : (!beqBytes s []) = false) :
    RunF Tryd.prog Tryd.f16 none call [1, 1] (SSt.mk [(0, AV.str s)] [] Rc.none h) (AEx.ret)
      (SSt.mk [(2, AV.bool false)] [] Rc.none h) :=
  sxF_run [2] (hs := [Hint.b false, Hint.b false, Hint.b false, Hint.b false]) (by kernel_rfl) <| .cons h1 <| .cons h1 <| .cons h1 <| .cons h1 <| .nil
theorem must_pan (call : CallT → List AV → AHeap → FRes) (h : AHeap)  :
    RunF Tryd.prog Tryd.f15 none call [] (SSt.mk [(0, AV.bool false)] [] Rc.none h) (AEx.pan (AV.iface 33 (AV.agg [])))
      (SSt.mk [] [] Rc.none h) :=
  sxF_run [] (hs := [Hint.b true]) (by kernel_rfl) <| .cons (by kernel_rfl : (!false) = true) <| .nil
theorem must_ok (call : CallT → List AV → AHeap → FRes) (h : AHeap)  :
    RunF Tryd.prog Tryd.f15 none call [] (SSt.mk [(0, AV.bool true)] [] Rc.none h) (AEx.nrm)
      (SSt.mk [] [] Rc.none h) :=
  sxF_run [] (hs := [Hint.b false]) (by kernel_rfl) <| .cons (by kernel_rfl : (!true) = false) <| .nil
theorem rseg_pre_1 (call : CallT → List AV → AHeap → FRes) (s : List UInt8) (h : AHeap) 
    (h1 : ltI (Int.ofNat (List.length s)) (Int.ofNat 1) = true) :
    RunF Tryd.prog Tryd.f19 none call [1, 0, 0] (SSt.mk [(0, AV.str s)] [] Rc.none h) (AEx.nrm)
      (SSt.mk [(0, AV.str s), (12, AV.bool true)] [] Rc.none h) :=
  sxF_run [0, 12] (hs := [Hint.b true, Hint.b true, Hint.b true, Hint.b true]) (by kernel_rfl) <| .cons h1 <| .cons h1 <| .cons h1 <| .cons h1 <| .nil
theorem rseg_pre_2 (call : CallT → List AV → AHeap → FRes) (s : List UInt8) (h : AHeap) 
    (h1 : ltI (Int.ofNat (List.length s)) (Int.ofNat 1) = false) :
    RunF Tryd.prog Tryd.f19 none call [1, 0, 0] (SSt.mk [(0, AV.str s)] [] Rc.none h) (AEx.nrm)
      (SSt.mk [(0, AV.str s), (12, AV.bool (ltI (Int.ofNat 16) (Int.ofNat (List.length s))))] [] Rc.none h) :=
  sxF_run [0, 12] (hs := [Hint.b false, Hint.b false, Hint.b false, Hint.b false]) (by kernel_rfl) <| .cons h1 <| .cons h1 <| .cons h1 <| .cons h1 <| .nil
theorem rseg_end (call : CallT → List AV → AHeap → FRes) (s : List UInt8) (i : Nat) (h : AHeap) 
    (h1 : ltI (Int.ofNat i) (Int.ofNat (List.length s)) = false) :
    RunF Tryd.prog Tryd.f19 none call [1, 1, 0, 1, 0, 0] (SSt.mk [(0, AV.str s), (3, AV.int IntKind.i64 (Int.ofNat i))] [] Rc.none h) (AEx.exit 0)
      (SSt.mk [(0, AV.str s)] [] Rc.none h) :=
  sxF_run [0] (hs := [Hint.b false]) (by kernel_rfl) <| .cons h1 <| .nil
theorem rseg_head (call : CallT → List AV → AHeap → FRes) (s : List UInt8) (i : Nat) (c : Nat) (h : AHeap) 
    (h1 : idxS i s = some (AV.int IntKind.u8 (Int.ofNat c))) :
    RunF Tryd.prog Tryd.f19 none call [1, 1, 0, 1, 0, 0, 1, 0, 0, 0] (SSt.mk [(0, AV.str s), (3, AV.int IntKind.i64 (Int.ofNat i))] [] Rc.none h) (AEx.nrm)
      (SSt.mk [(0, AV.str s), (3, AV.int IntKind.i64 (Int.ofNat i)), (4, AV.int IntKind.u8 (Int.ofNat c))] [] Rc.none h) :=
  sxF_run [0, 3, 4] (hs := [Hint.v (AV.int IntKind.u8 (Int.ofNat c))]) (by kernel_rfl) <| .cons h1 <| .nil
theorem rseg_cond_1 (call : CallT → List AV → AHeap → FRes) (s : List UInt8) (i : Nat) (c : Nat) (h : AHeap) 
    (h1 : leI (Int.ofNat 97) (Int.ofNat c) = true)
    (h2 : leI (Int.ofNat c) (Int.ofNat 122) = true) :
    RunF Tryd.prog Tryd.f19 none call [1, 1, 0, 1, 0, 0, 1, 0, 0, 1, 0] (SSt.mk [(0, AV.str s), (3, AV.int IntKind.i64 (Int.ofNat i)), (4, AV.int IntKind.u8 (Int.ofNat c))] [] Rc.none h) (AEx.nrm)
      (SSt.mk [(0, AV.str s), (3, AV.int IntKind.i64 (Int.ofNat i)), (44, AV.bool !true)] [] Rc.none h) :=
  sxF_run [0, 3, 44] (hs := [Hint.b true, Hint.b true, Hint.b true, Hint.b true, Hint.b true, Hint.b true, Hint.b true, Hint.b true, Hint.b true, Hint.b true, Hint.b true, Hint.b true, Hint.b true, Hint.b true]) (by kernel_rfl) <| .cons h1 <| .cons h1 <| .cons h1 <| .cons h2 <| .cons h2 <| .cons h2 <| .cons h2 <| .cons h2 <| .cons (by kernel_rfl : true = true) <| .cons (by kernel_rfl : true = true) <| .cons (by kernel_rfl : true = true) <| .cons (by kernel_rfl : true = true) <| .cons (by kernel_rfl : true = true) <| .cons (by kernel_rfl : true = true) <| .nil
theorem rseg_cond_2 (call : CallT → List AV → AHeap → FRes) (s : List UInt8) (i : Nat) (c : Nat) (h : AHeap) 
    (h1 : leI (Int.ofNat 97) (Int.ofNat c) = true)
    (h2 : leI (Int.ofNat c) (Int.ofNat 122) = false)
    (h3 : leI (Int.ofNat 48) (Int.ofNat c) = true)
    (h4 : leI (Int.ofNat c) (Int.ofNat 57) = true) :
    RunF Tryd.prog Tryd.f19 none call [1, 1, 0, 1, 0, 0, 1, 0, 0, 1, 0] (SSt.mk [(0, AV.str s), (3, AV.int IntKind.i64 (Int.ofNat i)), (4, AV.int IntKind.u8 (Int.ofNat c))] [] Rc.none h) (AEx.nrm)
      (SSt.mk [(0, AV.str s), (3, AV.int IntKind.i64 (Int.ofNat i)), (44, AV.bool !true)] [] Rc.none h) :=
  sxF_run [0, 3, 44] (hs := [Hint.b true, Hint.b true, Hint.b true, Hint.b false, Hint.b false, Hint.b false, Hint.b true, Hint.b true, Hint.b false, Hint.b true, Hint.b false, Hint.b true, Hint.b true, Hint.b true, Hint.b true, Hint.b true, Hint.b true]) (by kernel_rfl) <| .cons h1 <| .cons h1 <| .cons h1 <| .cons h2 <| .cons h2 <| .cons h2 <| .cons h3 <| .cons h3 <| .cons h2 <| .cons h3 <| .cons h2 <| .cons h4 <| .cons h4 <| .cons h4 <| .cons (by kernel_rfl : true = true) <| .cons (by kernel_rfl : true = true) <| .cons (by kernel_rfl : true = true) <| .nil
theorem rseg_cond_3 (call : CallT → List AV → AHeap → FRes) (s : List UInt8) (i : Nat) (c : Nat) (h : AHeap) 
    (h1 : leI (Int.ofNat 97) (Int.ofNat c) = true)
    (h2 : leI (Int.ofNat c) (Int.ofNat 122) = false)
    (h3 : leI (Int.ofNat 48) (Int.ofNat c) = true)
    (h4 : leI (Int.ofNat c) (Int.ofNat 57) = false)
    (h5 : eqI (Int.ofNat c) (Int.ofNat 95) = true) :
    RunF Tryd.prog Tryd.f19 none call [1, 1, 0, 1, 0, 0, 1, 0, 0, 1, 0] (SSt.mk [(0, AV.str s), (3, AV.int IntKind.i64 (Int.ofNat i)), (4, AV.int IntKind.u8 (Int.ofNat c))] [] Rc.none h) (AEx.nrm)
      (SSt.mk [(0, AV.str s), (3, AV.int IntKind.i64 (Int.ofNat i)), (44, AV.bool !true)] [] Rc.none h) :=
  sxF_run [0, 3, 44] (hs := [Hint.b true, Hint.b true, Hint.b true, Hint.b false, Hint.b false, Hint.b false, Hint.b true, Hint.b true, Hint.b false, Hint.b true, Hint.b false, Hint.b false, Hint.b false, Hint.b false, Hint.b true, Hint.b true, Hint.b true]) (by kernel_rfl) <| .cons h1 <| .cons h1 <| .cons h1 <| .cons h2 <| .cons h2 <| .cons h2 <| .cons h3 <| .cons h3 <| .cons h2 <| .cons h3 <| .cons h2 <| .cons h4 <| .cons h4 <| .cons h4 <| .cons h5 <| .cons h5 <| .cons h5 <| .nil
theorem rseg_cond_4 (call : CallT → List AV → AHeap → FRes) (s : List UInt8) (i : Nat) (c : Nat) (h : AHeap) 
    (h1 : leI (Int.ofNat 97) (Int.ofNat c) = true)
    (h2 : leI (Int.ofNat c) (Int.ofNat 122) = false)
    (h3 : leI (Int.ofNat 48) (Int.ofNat c) = true)
    (h4 : leI (Int.ofNat c) (Int.ofNat 57) = false)
    (h5 : eqI (Int.ofNat c) (Int.ofNat 95) = false) :
    RunF Tryd.prog Tryd.f19 none call [1, 1, 0, 1, 0, 0, 1, 0, 0, 1, 0] (SSt.mk [(0, AV.str s), (3, AV.int IntKind.i64 (Int.ofNat i)), (4, AV.int IntKind.u8 (Int.ofNat c))] [] Rc.none h) (AEx.nrm)
      (SSt.mk [(0, AV.str s), (3, AV.int IntKind.i64 (Int.ofNat i)), (44, AV.bool !eqI (Int.ofNat c) (Int.ofNat 45))] [] Rc.none h) :=
  sxF_run [0, 3, 44] (hs := [Hint.b true, Hint.b true, Hint.b true, Hint.b false, Hint.b false, Hint.b false, Hint.b true, Hint.b true, Hint.b false, Hint.b true, Hint.b false, Hint.b false, Hint.b false, Hint.b false, Hint.b false, Hint.b false, Hint.b false]) (by kernel_rfl) <| .cons h1 <| .cons h1 <| .cons h1 <| .cons h2 <| .cons h2 <| .cons h2 <| .cons h3 <| .cons h3 <| .cons h2 <| .cons h3 <| .cons h2 <| .cons h4 <| .cons h4 <| .cons h4 <| .cons h5 <| .cons h5 <| .cons h5 <| .nil
theorem rseg_cond_5 (call : CallT → List AV → AHeap → FRes) (s : List UInt8) (i : Nat) (c : Nat) (h : AHeap) 
    (h1 : leI (Int.ofNat 97) (Int.ofNat c) = true)
    (h2 : leI (Int.ofNat c) (Int.ofNat 122) = false)
    (h3 : leI (Int.ofNat 48) (Int.ofNat c) = false)
    (h4 : eqI (Int.ofNat c) (Int.ofNat 95) = true) :
    RunF Tryd.prog Tryd.f19 none call [1, 1, 0, 1, 0, 0, 1, 0, 0, 1, 0] (SSt.mk [(0, AV.str s), (3, AV.int IntKind.i64 (Int.ofNat i)), (4, AV.int IntKind.u8 (Int.ofNat c))] [] Rc.none h) (AEx.nrm)
      (SSt.mk [(0, AV.str s), (3, AV.int IntKind.i64 (Int.ofNat i)), (44, AV.bool !true)] [] Rc.none h) :=
  sxF_run [0, 3, 44] (hs := [Hint.b true, Hint.b true, Hint.b true, Hint.b false, Hint.b false, Hint.b false, Hint.b false, Hint.b false, Hint.b false, Hint.b false, Hint.b false, Hint.b false, Hint.b false, Hint.b false, Hint.b true, Hint.b true, Hint.b true]) (by kernel_rfl) <| .cons h1 <| .cons h1 <| .cons h1 <| .cons h2 <| .cons h2 <| .cons h2 <| .cons h3 <| .cons h3 <| .cons h2 <| .cons h3 <| .cons h2 <| .cons (by kernel_rfl : false = false) <| .cons (by kernel_rfl : false = false) <| .cons (by kernel_rfl : false = false) <| .cons h4 <| .cons h4 <| .cons h4 <| .nil
theorem rseg_cond_6 (call : CallT → List AV → AHeap → FRes) (s : List UInt8) (i : Nat) (c : Nat) (h : AHeap) 
    (h1 : leI (Int.ofNat 97) (Int.ofNat c) = true)
    (h2 : leI (Int.ofNat c) (Int.ofNat 122) = false)
    (h3 : leI (Int.ofNat 48) (Int.ofNat c) = false)
    (h4 : eqI (Int.ofNat c) (Int.ofNat 95) = false) :
    RunF Tryd.prog Tryd.f19 none call [1, 1, 0, 1, 0, 0, 1, 0, 0, 1, 0] (SSt.mk [(0, AV.str s), (3, AV.int IntKind.i64 (Int.ofNat i)), (4, AV.int IntKind.u8 (Int.ofNat c))] [] Rc.none h) (AEx.nrm)
      (SSt.mk [(0, AV.str s), (3, AV.int IntKind.i64 (Int.ofNat i)), (44, AV.bool !eqI (Int.ofNat c) (Int.ofNat 45))] [] Rc.none h) :=
  sxF_run [0, 3, 44] (hs := [Hint.b true, Hint.b true, Hint.b true, Hint.b false, Hint.b false, Hint.b false, Hint.b false, Hint.b false, Hint.b false, Hint.b false, Hint.b false, Hint.b false, Hint.b false, Hint.b false, Hint.b false, Hint.b false, Hint.b false]) (by kernel_rfl) <| .cons h1 <| .cons h1 <| .cons h1 <| .cons h2 <| .cons h2 <| .cons h2 <| .cons h3 <| .cons h3 <| .cons h2 <| .cons h3 <| .cons h2 <| .cons (by kernel_rfl : false = false) <| .cons (by kernel_rfl : false = false) <| .cons (by kernel_rfl : false = false) <| .cons h4 <| .cons h4 <| .cons h4 <| .nil
theorem rseg_cond_7 (call : CallT → List AV → AHeap → FRes) (s : List UInt8) (i : Nat) (c : Nat) (h : AHeap) 
    (h1 : leI (Int.ofNat 97) (Int.ofNat c) = false)
    (h2 : leI (Int.ofNat 48) (Int.ofNat c) = true)
    (h3 : leI (Int.ofNat c) (Int.ofNat 57) = true) :
    RunF Tryd.prog Tryd.f19 none call [1, 1, 0, 1, 0, 0, 1, 0, 0, 1, 0] (SSt.mk [(0, AV.str s), (3, AV.int IntKind.i64 (Int.ofNat i)), (4, AV.int IntKind.u8 (Int.ofNat c))] [] Rc.none h) (AEx.nrm)
      (SSt.mk [(0, AV.str s), (3, AV.int IntKind.i64 (Int.ofNat i)), (44, AV.bool !true)] [] Rc.none h) :=
  sxF_run [0, 3, 44] (hs := [Hint.b false, Hint.b false, Hint.b false, Hint.b false, Hint.b false, Hint.b false, Hint.b true, Hint.b true, Hint.b false, Hint.b true, Hint.b false, Hint.b true, Hint.b true, Hint.b true, Hint.b true, Hint.b true, Hint.b true]) (by kernel_rfl) <| .cons h1 <| .cons h1 <| .cons h1 <| .cons (by kernel_rfl : false = false) <| .cons (by kernel_rfl : false = false) <| .cons (by kernel_rfl : false = false) <| .cons h2 <| .cons h2 <| .cons (by kernel_rfl : false = false) <| .cons h2 <| .cons (by kernel_rfl : false = false) <| .cons h3 <| .cons h3 <| .cons h3 <| .cons (by kernel_rfl : true = true) <| .cons (by kernel_rfl : true = true) <| .cons (by kernel_rfl : true = true) <| .nil
theorem rseg_cond_8 (call : CallT → List AV → AHeap → FRes) (s : List UInt8) (i : Nat) (c : Nat) (h : AHeap) 
    (h1 : leI (Int.ofNat 97) (Int.ofNat c) = false)
    (h2 : leI (Int.ofNat 48) (Int.ofNat c) = true)
    (h3 : leI (Int.ofNat c) (Int.ofNat 57) = false)
    (h4 : eqI (Int.ofNat c) (Int.ofNat 95) = true) :
    RunF Tryd.prog Tryd.f19 none call [1, 1, 0, 1, 0, 0, 1, 0, 0, 1, 0] (SSt.mk [(0, AV.str s), (3, AV.int IntKind.i64 (Int.ofNat i)), (4, AV.int IntKind.u8 (Int.ofNat c))] [] Rc.none h) (AEx.nrm)
      (SSt.mk [(0, AV.str s), (3, AV.int IntKind.i64 (Int.ofNat i)), (44, AV.bool !true)] [] Rc.none h) :=
  sxF_run [0, 3, 44] (hs := [Hint.b false, Hint.b false, Hint.b false, Hint.b false, Hint.b false, Hint.b false, Hint.b true, Hint.b true, Hint.b false, Hint.b true, Hint.b false, Hint.b false, Hint.b false, Hint.b false, Hint.b true, Hint.b true, Hint.b true]) (by kernel_rfl) <| .cons h1 <| .cons h1 <| .cons h1 <| .cons (by kernel_rfl : false = false) <| .cons (by kernel_rfl : false = false) <| .cons (by kernel_rfl : false = false) <| .cons h2 <| .cons h2 <| .cons (by kernel_rfl : false = false) <| .cons h2 <| .cons (by kernel_rfl : false = false) <| .cons h3 <| .cons h3 <| .cons h3 <| .cons h4 <| .cons h4 <| .cons h4 <| .nil
theorem rseg_cond_9 (call : CallT → List AV → AHeap → FRes) (s : List UInt8) (i : Nat) (c : Nat) (h : AHeap) 
    (h1 : leI (Int.ofNat 97) (Int.ofNat c) = false)
    (h2 : leI (Int.ofNat 48) (Int.ofNat c) = true)
    (h3 : leI (Int.ofNat c) (Int.ofNat 57) = false)
    (h4 : eqI (Int.ofNat c) (Int.ofNat 95) = false) :
    RunF Tryd.prog Tryd.f19 none call [1, 1, 0, 1, 0, 0, 1, 0, 0, 1, 0] (SSt.mk [(0, AV.str s), (3, AV.int IntKind.i64 (Int.ofNat i)), (4, AV.int IntKind.u8 (Int.ofNat c))] [] Rc.none h) (AEx.nrm)
      (SSt.mk [(0, AV.str s), (3, AV.int IntKind.i64 (Int.ofNat i)), (44, AV.bool !eqI (Int.ofNat c) (Int.ofNat 45))] [] Rc.none h) :=
  sxF_run [0, 3, 44] (hs := [Hint.b false, Hint.b false, Hint.b false, Hint.b false, Hint.b false, Hint.b false, Hint.b true, Hint.b true, Hint.b false, Hint.b true, Hint.b false, Hint.b false, Hint.b false, Hint.b false, Hint.b false, Hint.b false, Hint.b false]) (by kernel_rfl) <| .cons h1 <| .cons h1 <| .cons h1 <| .cons (by kernel_rfl : false = false) <| .cons (by kernel_rfl : false = false) <| .cons (by kernel_rfl : false = false) <| .cons h2 <| .cons h2 <| .cons (by kernel_rfl : false = false) <| .cons h2 <| .cons (by kernel_rfl : false = false) <| .cons h3 <| .cons h3 <| .cons h3 <| .cons h4 <| .cons h4 <| .cons h4 <| .nil
theorem rseg_cond_10 (call : CallT → List AV → AHeap → FRes) (s : List UInt8) (i : Nat) (c : Nat) (h : AHeap) 
    (h1 : leI (Int.ofNat 97) (Int.ofNat c) = false)
    (h2 : leI (Int.ofNat 48) (Int.ofNat c) = false)
    (h3 : eqI (Int.ofNat c) (Int.ofNat 95) = true) :
    RunF Tryd.prog Tryd.f19 none call [1, 1, 0, 1, 0, 0, 1, 0, 0, 1, 0] (SSt.mk [(0, AV.str s), (3, AV.int IntKind.i64 (Int.ofNat i)), (4, AV.int IntKind.u8 (Int.ofNat c))] [] Rc.none h) (AEx.nrm)
      (SSt.mk [(0, AV.str s), (3, AV.int IntKind.i64 (Int.ofNat i)), (44, AV.bool !true)] [] Rc.none h) :=
  sxF_run [0, 3, 44] (hs := [Hint.b false, Hint.b false, Hint.b false, Hint.b false, Hint.b false, Hint.b false, Hint.b false, Hint.b false, Hint.b false, Hint.b false, Hint.b false, Hint.b false, Hint.b false, Hint.b false, Hint.b true, Hint.b true, Hint.b true]) (by kernel_rfl) <| .cons h1 <| .cons h1 <| .cons h1 <| .cons (by kernel_rfl : false = false) <| .cons (by kernel_rfl : false = false) <| .cons (by kernel_rfl : false = false) <| .cons h2 <| .cons h2 <| .cons (by kernel_rfl : false = false) <| .cons h2 <| .cons (by kernel_rfl : false = false) <| .cons (by kernel_rfl : false = false) <| .cons (by kernel_rfl : false = false) <| .cons (by kernel_rfl : false = false) <| .cons h3 <| .cons h3 <| .cons h3 <| .nil
theorem rseg_cond_11 (call : CallT → List AV → AHeap → FRes) (s : List UInt8) (i : Nat) (c : Nat) (h : AHeap) 
    (h1 : leI (Int.ofNat 97) (Int.ofNat c) = false)
    (h2 : leI (Int.ofNat 48) (Int.ofNat c) = false)
    (h3 : eqI (Int.ofNat c) (Int.ofNat 95) = false) :
    RunF Tryd.prog Tryd.f19 none call [1, 1, 0, 1, 0, 0, 1, 0, 0, 1, 0] (SSt.mk [(0, AV.str s), (3, AV.int IntKind.i64 (Int.ofNat i)), (4, AV.int IntKind.u8 (Int.ofNat c))] [] Rc.none h) (AEx.nrm)
      (SSt.mk [(0, AV.str s), (3, AV.int IntKind.i64 (Int.ofNat i)), (44, AV.bool !eqI (Int.ofNat c) (Int.ofNat 45))] [] Rc.none h) :=
  sxF_run [0, 3, 44] (hs := [Hint.b false, Hint.b false, Hint.b false, Hint.b false, Hint.b false, Hint.b false, Hint.b false, Hint.b false, Hint.b false, Hint.b false, Hint.b false, Hint.b false, Hint.b false, Hint.b false, Hint.b false, Hint.b false, Hint.b false]) (by kernel_rfl) <| .cons h1 <| .cons h1 <| .cons h1 <| .cons (by kernel_rfl : false = false) <| .cons (by kernel_rfl : false = false) <| .cons (by kernel_rfl : false = false) <| .cons h2 <| .cons h2 <| .cons (by kernel_rfl : false = false) <| .cons h2 <| .cons (by kernel_rfl : false = false) <| .cons (by kernel_rfl : false = false) <| .cons (by kernel_rfl : false = false) <| .cons (by kernel_rfl : false = false) <| .cons h3 <| .cons h3 <| .cons h3 <| .nil
theorem pcs_pre (call : CallT → List AV → AHeap → FRes) (s : List UInt8) (h : AHeap)  :
    RunF Tryd.prog Tryd.f18 none call [0] (SSt.mk [(0, AV.str s)] [] Rc.none h) (AEx.nrm)
      (SSt.mk [(0, AV.str s)] [] Rc.none h) :=
  sxF_run [0, 3, 4] (hs := []) (by kernel_rfl) <| .nil
theorem pcs_pre1 (call : CallT → List AV → AHeap → FRes) (s : List UInt8) (h : AHeap)  :
    RunF Tryd.prog Tryd.f18 none call [1, 0] (SSt.mk [(0, AV.str s)] [] Rc.none h) (AEx.nrm)
      (SSt.mk [(0, AV.str s), (3, AV.nilS)] [] Rc.none h) :=
  sxF_run [0, 3] (hs := []) (by kernel_rfl) <| .nil
theorem pcs_pre2 (call : CallT → List AV → AHeap → FRes) (s : List UInt8) (h : AHeap)  :
    RunF Tryd.prog Tryd.f18 none call [1, 1, 0] (SSt.mk [(0, AV.str s), (3, AV.nilS)] [] Rc.none h) (AEx.nrm)
      (SSt.mk [(0, AV.str s), (3, AV.nilS), (4, AV.str (Array.toList (ByteArray.data (ByteArray.mk #[]))))] [] Rc.none h) :=
  sxF_run [0, 3, 4] (hs := []) (by kernel_rfl) <| .nil
theorem pcs_pre3 (call : CallT → List AV → AHeap → FRes) (s : List UInt8) (h : AHeap)  :
    RunF Tryd.prog Tryd.f18 none call [1, 1, 1, 0, 0] (SSt.mk [(0, AV.str s), (3, AV.nilS), (4, AV.str [])] [] Rc.none h) (AEx.nrm)
      (SSt.mk [(0, AV.str s), (3, AV.nilS), (4, AV.str []), (5, AV.int IntKind.i64 0)] [] Rc.none h) :=
  sxF_run [0, 3, 4, 5] (hs := []) (by kernel_rfl) <| .nil
theorem pcs_end (call : CallT → List AV → AHeap → FRes) (s : List UInt8) (piece : List UInt8) (i : Nat) (out : AV) (h : AHeap) 
    (h1 : ltI (Int.ofNat i) (Int.ofNat (List.length s)) = false) :
    RunF Tryd.prog Tryd.f18 none call [1, 1, 1, 0, 1, 0, 0] (SSt.mk [(0, AV.str s), (3, out), (4, AV.str piece), (5, AV.int IntKind.i64 (Int.ofNat i))] [] Rc.none h) (AEx.exit 0)
      (SSt.mk [(3, out), (4, AV.str piece)] [] Rc.none h) :=
  sxF_run [3, 4] (hs := [Hint.b false]) (by kernel_rfl) <| .cons h1 <| .nil
theorem pcs_slash (call : CallT → List AV → AHeap → FRes) (s : List UInt8) (piece : List UInt8) (i : Nat) (c : Nat) (out : AV) (out' : AV) (h : AHeap) (h' : AHeap) 
    (h1 : ltI (Int.ofNat i) (Int.ofNat (List.length s)) = true)
    (h2 : idxS i s = some (AV.int IntKind.u8 (Int.ofNat c)))
    (h3 : eqI (Int.ofNat c) (Int.ofNat 47) = true)
    (h4 : appendA Tryd.prog (AHeap.push h (AObj.cells [AV.str piece] 9 BK.own 0 0)) 27 (some 27) out (AV.slice (AHeap.n h) 0 1 (Cap.exact 1)) = some (out', h'))
    (h5 : arith BinOp.add IntKind.i64 (Int.ofNat i) (Int.ofNat 1) = some (AV.int IntKind.i64 (Int.ofNat (i + 1)))) :
    RunF Tryd.prog Tryd.f18 none call [1, 1, 1, 0, 1, 0, 0] (SSt.mk [(0, AV.str s), (3, out), (4, AV.str piece), (5, AV.int IntKind.i64 (Int.ofNat i))] [] Rc.none h) (AEx.nrm)
      (SSt.mk [(0, AV.str s), (3, out'), (4, AV.str (Array.toList (ByteArray.data (ByteArray.mk #[])))), (5, AV.int IntKind.i64 (Int.ofNat (i + 1)))] [] Rc.none h') :=
  sxF_run [0, 3, 4, 5] (hs := [Hint.b true, Hint.v (AV.int IntKind.u8 (Int.ofNat c)), Hint.b true, Hint.vh out' h', Hint.v (AV.int IntKind.i64 (Int.ofNat (i + 1)))]) (by kernel_rfl) <| .cons h1 <| .cons h2 <| .cons h3 <| .cons h4 <| .cons h5 <| .nil
theorem pcs_other (call : CallT → List AV → AHeap → FRes) (s : List UInt8) (piece : List UInt8) (one : List UInt8) (i : Nat) (c : Nat) (out : AV) (h : AHeap) 
    (h1 : ltI (Int.ofNat i) (Int.ofNat (List.length s)) = true)
    (h2 : idxS i s = some (AV.int IntKind.u8 (Int.ofNat c)))
    (h3 : eqI (Int.ofNat c) (Int.ofNat 47) = false)
    (h4 : arith BinOp.add IntKind.i64 (Int.ofNat i) (Int.ofNat 1) = some (AV.int IntKind.i64 (Int.ofNat (i + 1))))
    (h5 : sliceA Tryd.prog h 9 (AV.str s) (some (AV.int IntKind.i64 (Int.ofNat i))) (some (AV.int IntKind.i64 (Int.ofNat (i + 1)))) none = some (AV.str one))
    (h6 : strOp BinOp.add piece one = some (AV.str (piece ++ one))) :
    RunF Tryd.prog Tryd.f18 none call [1, 1, 1, 0, 1, 0, 0] (SSt.mk [(0, AV.str s), (3, out), (4, AV.str piece), (5, AV.int IntKind.i64 (Int.ofNat i))] [] Rc.none h) (AEx.nrm)
      (SSt.mk [(0, AV.str s), (3, out), (4, AV.str (piece ++ one)), (5, AV.int IntKind.i64 (Int.ofNat (i + 1)))] [] Rc.none h) :=
  sxF_run [0, 3, 4, 5] (hs := [Hint.b true, Hint.v (AV.int IntKind.u8 (Int.ofNat c)), Hint.b false, Hint.v (AV.int IntKind.i64 (Int.ofNat (i + 1))), Hint.v (AV.str one), Hint.v (AV.str (piece ++ one)), Hint.v (AV.int IntKind.i64 (Int.ofNat (i + 1)))]) (by kernel_rfl) <| .cons h1 <| .cons h2 <| .cons h3 <| .cons h4 <| .cons h5 <| .cons h6 <| .cons h4 <| .nil
theorem pcs_tail (call : CallT → List AV → AHeap → FRes) (piece : List UInt8) (out : AV) (out' : AV) (h : AHeap) (h' : AHeap) 
    (h1 : appendA Tryd.prog (AHeap.push h (AObj.cells [AV.str piece] 9 BK.own 0 0)) 27 (some 27) out (AV.slice (AHeap.n h) 0 1 (Cap.exact 1)) = some (out', h')) :
    RunF Tryd.prog Tryd.f18 none call [1, 1, 1, 1] (SSt.mk [(3, out), (4, AV.str piece)] [] Rc.none h) (AEx.ret)
      (SSt.mk [(2, out')] [] Rc.none h') :=
  sxF_run [2] (hs := [Hint.vh out' h']) (by kernel_rfl) <| .cons h1 <| .nil
theorem idxb (call : CallT → List AV → AHeap → FRes) (s : List UInt8) (c : Nat) (k : Int) (h : AHeap) 
    (h1 : call (CallT.fn 38) [AV.str s, AV.int IntKind.u8 (Int.ofNat c)] h = FRes.ret (AV.int IntKind.i64 k) h) :
    RunF Tryd.prog Tryd.f34 none call [] (SSt.mk [(0, AV.str s), (1, AV.int IntKind.u8 (Int.ofNat c))] [] Rc.none h) (AEx.ret)
      (SSt.mk [(4, AV.int IntKind.i64 k)] [] Rc.none h) :=
  sxF_run [4] (hs := [Hint.c (AV.int IntKind.i64 k) h]) (by kernel_rfl) <| .cons h1 <| .nil
theorem sidx_1 (call : CallT → List AV → AHeap → FRes) (s : List UInt8) (c : UInt8) (k : Int) (h : AHeap) 
    (h1 : beqBytes [c] s = true) :
    RunF Tryd.prog Tryd.f31 none call [] (SSt.mk [(0, AV.str s), (1, AV.str [c])] [] Rc.none h) (AEx.ret)
      (SSt.mk [(4, AV.int IntKind.i64 0)] [] Rc.none h) :=
  sxF_run [4] (hs := [Hint.b false, Hint.b false, Hint.b false, Hint.b false, Hint.b true]) (by kernel_rfl) <| .cons (by kernel_rfl : eqI (Int.ofNat (List.length [c])) (Int.ofNat 0) = false) <| .cons (by kernel_rfl : eqI (Int.ofNat (List.length [c])) (Int.ofNat 0) = false) <| .cons (by kernel_rfl : eqI (Int.ofNat (List.length [c])) (Int.ofNat 0) = false) <| .cons (by kernel_rfl : eqI (Int.ofNat (List.length [c])) (Int.ofNat 0) = false) <| .cons h1 <| .nil
theorem sidx_2 (call : CallT → List AV → AHeap → FRes) (s : List UInt8) (c : UInt8) (k : Int) (h : AHeap) 
    (h1 : beqBytes [c] s = false)
    (h2 : idxS 0 [c] = some (AV.int IntKind.u8 (Int.ofNat (BitVec.toFin (UInt8.toBitVec c)).1)))
    (h3 : call (CallT.fn 34) [AV.str s, AV.int IntKind.u8 (Int.ofNat (BitVec.toFin (UInt8.toBitVec c)).1)] h = FRes.ret (AV.int IntKind.i64 k) h) :
    RunF Tryd.prog Tryd.f31 none call [] (SSt.mk [(0, AV.str s), (1, AV.str [c])] [] Rc.none h) (AEx.ret)
      (SSt.mk [(4, AV.int IntKind.i64 k)] [] Rc.none h) :=
  sxF_run [4] (hs := [Hint.b false, Hint.b false, Hint.b false, Hint.b false, Hint.b false, Hint.b true, Hint.v (AV.int IntKind.u8 (Int.ofNat (UInt8.toNat c))), Hint.c (AV.int IntKind.i64 k) h]) (by kernel_rfl) <| .cons (by kernel_rfl : eqI (Int.ofNat (List.length [c])) (Int.ofNat 0) = false) <| .cons (by kernel_rfl : eqI (Int.ofNat (List.length [c])) (Int.ofNat 0) = false) <| .cons (by kernel_rfl : eqI (Int.ofNat (List.length [c])) (Int.ofNat 0) = false) <| .cons (by kernel_rfl : eqI (Int.ofNat (List.length [c])) (Int.ofNat 0) = false) <| .cons h1 <| .cons (by kernel_rfl : eqI (Int.ofNat (List.length [c])) (Int.ofNat 1) = true) <| .cons h2 <| .cons h3 <| .nil
theorem index (call : CallT → List AV → AHeap → FRes) (s : List UInt8) (c : UInt8) (k : Int) (h : AHeap) 
    (h1 : call (CallT.fn 31) [AV.str s, AV.str [c]] h = FRes.ret (AV.int IntKind.i64 k) h) :
    RunF Tryd.prog Tryd.f27 none call [] (SSt.mk [(0, AV.str s), (1, AV.str [c])] [] Rc.none h) (AEx.ret)
      (SSt.mk [(4, AV.int IntKind.i64 k)] [] Rc.none h) :=
  sxF_run [4] (hs := [Hint.c (AV.int IntKind.i64 k) h]) (by kernel_rfl) <| .cons h1 <| .nil
theorem split (call : CallT → List AV → AHeap → FRes) (s : List UInt8) (sep : List UInt8) (h : AHeap)  :
    RunF Tryd.prog Tryd.f20 none call [] (SSt.mk [(0, AV.str s), (1, AV.str sep), (2, AV.int IntKind.i64 (Int.ofNat 0))] [] Rc.none h) (AEx.ret)
      (SSt.mk [(6, AV.fn 25 [] [AV.ptr (AHeap.n (AHeap.push h (AObj.cells [AV.str s] 9 BK.own 0 0))) 0, AV.ptr (AHeap.n h) 0, AV.ptr (AHeap.n (AHeap.push (AHeap.push h (AObj.cells [AV.str s] 9 BK.own 0 0)) (AObj.cells [AV.str sep] 9 BK.own 0 0))) 0])] [] Rc.none (AHeap.push (AHeap.push (AHeap.push h (AObj.cells [AV.str s] 9 BK.own 0 0)) (AObj.cells [AV.str sep] 9 BK.own 0 0)) (AObj.cells [AV.int IntKind.i64 (Int.ofNat 0)] 3 BK.own 0 0))) :=
  sxF_run [6] (hs := []) (by kernel_rfl) <| .nil
theorem splitSeq (call : CallT → List AV → AHeap → FRes) (s : List UInt8) (sep : List UInt8) (v : AV) (h : AHeap) (h' : AHeap) 
    (h1 : call (CallT.fn 20) [AV.str s, AV.str sep, AV.int IntKind.i64 (Int.ofNat 0)] h = FRes.ret v h') :
    RunF Tryd.prog Tryd.f14 none call [] (SSt.mk [(0, AV.str s), (1, AV.str sep)] [] Rc.none h) (AEx.ret)
      (SSt.mk [(4, v)] [] Rc.none h') :=
  sxF_run [4] (hs := [Hint.c v h']) (by kernel_rfl) <| .cons h1 <| .nil
theorem rmay_pre (call : CallT → List AV → AHeap → FRes) (s : List UInt8) (v : AV) (h : AHeap) (h' : AHeap) 
    (h1 : call (CallT.fn 18) [AV.str s] h = FRes.ret v h') :
    RunF Tryd.prog Tryd.f10 none call [1, 0] (SSt.mk [(0, AV.str s)] [] Rc.none h) (AEx.nrm)
      (SSt.mk [(3, v)] [] Rc.none h') :=
  sxF_run [3] (hs := [Hint.c v h']) (by kernel_rfl) <| .cons h1 <| .nil
theorem rmay_end (call : CallT → List AV → AHeap → FRes) (b : Nat) (off : Nat) (n : Nat) (i : Nat) (cap : Cap) (h : AHeap) 
    (h1 : ltI (Int.ofNat i) (Int.ofNat n) = false) :
    RunF Tryd.prog Tryd.f10 none call [1, 1, 0, 1, 0, 0] (SSt.mk [(3, AV.slice b off n cap), (4, AV.int IntKind.i64 (Int.ofNat i))] [] Rc.none h) (AEx.exit 0)
      (SSt.mk [(3, AV.slice b off n cap)] [] Rc.none h) :=
  sxF_run [3] (hs := [Hint.b false]) (by kernel_rfl) <| .cons h1 <| .nil
theorem rmay_next (call : CallT → List AV → AHeap → FRes) (b : Nat) (off : Nat) (n : Nat) (i : Nat) (cap : Cap) (x : List UInt8) (h : AHeap) 
    (h1 : ltI (Int.ofNat i) (Int.ofNat n) = true)
    (h2 : Nat.le (Nat.succ i) n ∧ AV.ptr b (off + i * 1) = AV.ptr b (off + i * 1))
    (h3 : load1 h b (off + i * 1) = some (AV.str x))
    (h4 : call (CallT.fn 19) [AV.str x] h = FRes.ret (AV.bool true) h)
    (h5 : arith BinOp.add IntKind.i64 (Int.ofNat i) (Int.ofNat 1) = some (AV.int IntKind.i64 (Int.ofNat (i + 1)))) :
    RunF Tryd.prog Tryd.f10 none call [1, 1, 0, 1, 0, 0] (SSt.mk [(3, AV.slice b off n cap), (4, AV.int IntKind.i64 (Int.ofNat i))] [] Rc.none h) (AEx.nrm)
      (SSt.mk [(3, AV.slice b off n cap), (4, AV.int IntKind.i64 (Int.ofNat (i + 1)))] [] Rc.none h) :=
  sxF_run [3, 4] (hs := [Hint.b true, Hint.v (AV.ptr b (off + i * 1)), Hint.v (AV.str x), Hint.c (AV.bool true) h, Hint.b false, Hint.v (AV.int IntKind.i64 (Int.ofNat (i + 1)))]) (by kernel_rfl) <| .cons h1 <| .cons h2 <| .cons h3 <| .cons h4 <| .cons (by kernel_rfl : (!true) = false) <| .cons h5 <| .nil
theorem rmay_no (call : CallT → List AV → AHeap → FRes) (b : Nat) (off : Nat) (n : Nat) (i : Nat) (cap : Cap) (x : List UInt8) (h : AHeap) 
    (h1 : ltI (Int.ofNat i) (Int.ofNat n) = true)
    (h2 : Nat.le (Nat.succ i) n ∧ AV.ptr b (off + i * 1) = AV.ptr b (off + i * 1))
    (h3 : load1 h b (off + i * 1) = some (AV.str x))
    (h4 : call (CallT.fn 19) [AV.str x] h = FRes.ret (AV.bool false) h) :
    RunF Tryd.prog Tryd.f10 none call [1, 1, 0, 1, 0, 0] (SSt.mk [(3, AV.slice b off n cap), (4, AV.int IntKind.i64 (Int.ofNat i))] [] Rc.none h) (AEx.ret)
      (SSt.mk [(2, AV.bool false)] [] Rc.none h) :=
  sxF_run [2] (hs := [Hint.b true, Hint.v (AV.ptr b (off + i * 1)), Hint.v (AV.str x), Hint.c (AV.bool false) h, Hint.b true]) (by kernel_rfl) <| .cons h1 <| .cons h2 <| .cons h3 <| .cons h4 <| .cons (by kernel_rfl : (!false) = true) <| .nil
theorem rmay_tail (call : CallT → List AV → AHeap → FRes) (b : Nat) (off : Nat) (n : Nat) (cap : Cap) (h : AHeap)  :
    RunF Tryd.prog Tryd.f10 none call [1, 1, 1] (SSt.mk [(3, AV.slice b off n cap)] [] Rc.none h) (AEx.ret)
      (SSt.mk [(2, AV.bool (leI (Int.ofNat n) (Int.ofNat 8)))] [] Rc.none h) :=
  sxF_run [2] (hs := []) (by kernel_rfl) <| .nil

/-- A segment's bytes. -/
def segL (s : List UInt8) : Bool := s.all (fun c => !oddB c.toNat) && !s.isEmpty && decide (s.length ≤ 16)

-- F16

theorem seg_loop (n : Nat) (s : List UInt8) (h : AHeap) (hs : s.length ≤ 1000000) : ∀ (k i : Nat), s.length - i = k → i ≤ s.length →
    if (s.drop i).all (fun c => !oddB c.toNat) then LoopP Tryd.prog (needFn Tryd.f16) none (C (n + 1)) (sub (bodyOf Tryd.f16) [1, 0, 1, 0, 0]) (k + 1) ⟨[(0, .str s), (5, .int .i64 (Int.ofNat s.length)), (6, .int .i64 (Int.ofNat i))], [], .none, h⟩ (.exit 0) ⟨[(0, .str s)], [], .none, h⟩
    else LoopP Tryd.prog (needFn Tryd.f16) none (C (n + 1)) (sub (bodyOf Tryd.f16) [1, 0, 1, 0, 0]) (k + 1) ⟨[(0, .str s), (5, .int .i64 (Int.ofNat s.length)), (6, .int .i64 (Int.ofNat i))], [], .none, h⟩ .ret ⟨[(2, .bool false)], [], .none, h⟩
  | 0, i, hk, hi => by
    have : s.drop i = [] := List.drop_eq_nil_of_le (by omega)
    rw [this]
    exact .exit (seg_end _ s i h (lt_f (by omega))) (by simp)
  | k + 1, i, hk, hi => by
    have hlt : i < s.length := by omega
    have hd : s.drop i = s[i] :: s.drop (i + 1) := List.drop_eq_getElem_cons hlt
    have hc := odd_c n h (c := (s[i]).toNat) (UInt8.toNat_lt _)
    have ih := seg_loop n s h hs k (i + 1) (by omega) (by omega)
    rw [hd, List.all_cons]
    cases ho : oddB (s[i]).toNat with
    | true =>
      rw [ho] at hc
      exact .exit (seg_odd _ s i _ h (lt_t hlt) (idx_t hlt) hc) (by simp)
    | false =>
      rw [ho] at hc
      have hn := seg_next (C (n + 1)) s i _ h (lt_t hlt) (idx_t hlt) hc (add1 hlt (by omega))
      simp only [Bool.not_false, Bool.true_and]
      split
      · rename_i ha; rw [if_pos ha] at ih; exact .step hn ih
      · rename_i ha; rw [if_neg ha] at ih; exact .step hn ih
end Go.Proofs.P05

namespace Go.Proofs.P05
open Go AEv Go.Proofs
set_option maxRecDepth 100000

theorem seg_c (n : Nat) (s : List UInt8) (h : AHeap) (hs : s.length ≤ 50000) : C (n + 2) (.fn 16) [.str s] h = .ret (.bool (segL s)) h := by
  have hl := seg_loop n s h (by omega) s.length 0 (by omega) (by omega)
  rw [List.drop_zero] at hl
  have tail : ∃ e Γ, (e = .ret ∨ e = .nrm) ∧ RunF Tryd.prog Tryd.f16 none (C (n + 1)) [] ⟨argsG 0 [.str s], [], .none, h⟩ e ⟨Γ, [], .none, h⟩ ∧ resS Tryd.prog (needFn Tryd.f16) Tryd.f16 Γ h = some (.bool (segL s)) := by
    split at hl
    · rename_i ha
      have hloop : RunF Tryd.prog Tryd.f16 none (C (n + 1)) [1, 0, 1] _ _ _ := RunF.block (p := [1, 0, 1]) (id := 0) (by kernel_rfl) (LoopF.run (p := [1, 0, 1, 0]) (by kernel_rfl) hl (by omega))
      have hpre := (seg_init (C (n + 1)) s h)
      have h0 := seg_pre (C (n + 1)) s h
      have ht : ∃ Γ, RunF Tryd.prog Tryd.f16 none (C (n + 1)) [1, 1] ⟨[(0, .str s)], [], .none, h⟩ .ret ⟨Γ, [], .none, h⟩ ∧ resS Tryd.prog (needFn Tryd.f16) Tryd.f16 Γ h = some (.bool (segL s)) := by
        by_cases he : s = []
        · refine ⟨_, seg_tail_2 _ s h (by rw [he]; rfl), ?_⟩
          have : segL s = false := by simp [segL, he]
          rw [this]; rfl
        · have hb : beqBytes s [] = false := by
            rw [beqBytes_eq]; simpa using he
          refine ⟨_, seg_tail_1 _ s h (by rw [hb]; rfl), ?_⟩
          have e1 : leI (Int.ofNat s.length) (Int.ofNat 16) = decide (s.length ≤ 16) := by simp [leI]; omega
          have : segL s = decide (s.length ≤ 16) := by
            have he' : s.isEmpty = false := by cases s <;> simp at he ⊢
            simp [segL, ha, he']
          rw [this, ← e1]; rfl
      obtain ⟨Γ, ht1, ht2⟩ := ht
      exact ⟨.ret, Γ, .inl rfl, RunF.seq (p := []) (by kernel_rfl) h0 (RunF.seq (p := [1]) (by kernel_rfl) (RunF.seq (p := [1, 0]) (by kernel_rfl) hpre hloop) ht1), ht2⟩
    · rename_i ha
      have hloop : RunF Tryd.prog Tryd.f16 none (C (n + 1)) [1, 0, 1] _ _ _ := RunF.blockx (p := [1, 0, 1]) (id := 0) (by kernel_rfl) (LoopF.run (p := [1, 0, 1, 0]) (by kernel_rfl) hl (by omega)) (by simp)
      have hpre := (seg_init (C (n + 1)) s h)
      have h0 := seg_pre (C (n + 1)) s h
      refine ⟨.ret, _, .inl rfl, RunF.seq (p := []) (by kernel_rfl) h0 (RunF.seqx (p := [1]) (by kernel_rfl) (RunF.seq (p := [1, 0]) (by kernel_rfl) hpre hloop) (by simp)), ?_⟩
      have : segL s = false := by simp [segL, Bool.eq_false_iff.2 ha]
      rw [this]; rfl
  obtain ⟨e, Γ, he, hr, hres⟩ := tail
  exact fn_runF (n := n + 1) Tryd.func16 (by kernel_rfl) rfl (by kernel_rfl) hr he hres
end Go.Proofs.P05

namespace Go.Proofs.P05
open Go AEv Go.Proofs
set_option maxRecDepth 100000
theorem rseg_z (call : CallT → List AV → AHeap → FRes) (s : List UInt8) (h : AHeap)  :
    RunF Tryd.prog Tryd.f19 none call [0] (SSt.mk [(0, AV.str s)] [] Rc.none h) (AEx.nrm)
      (SSt.mk [(0, AV.str s)] [] Rc.none h) :=
  sxF_run [0] (hs := []) (by kernel_rfl) <| .nil
theorem rseg_short_1 (call : CallT → List AV → AHeap → FRes) (s : List UInt8) (h : AHeap) 
    (h1 : ltI (Int.ofNat (List.length s)) (Int.ofNat 1) = true) :
    RunF Tryd.prog Tryd.f19 none call [1, 0] (SSt.mk [(0, AV.str s)] [] Rc.none h) (AEx.ret)
      (SSt.mk [(0, AV.str s), (2, AV.bool false)] [] Rc.none h) :=
  sxF_run [0, 2] (hs := [Hint.b true, Hint.b true, Hint.b true, Hint.b true, Hint.b true]) (by kernel_rfl) <| .cons h1 <| .cons h1 <| .cons h1 <| .cons h1 <| .cons (by kernel_rfl : true = true) <| .nil
theorem rseg_short_2 (call : CallT → List AV → AHeap → FRes) (s : List UInt8) (h : AHeap) 
    (h1 : ltI (Int.ofNat (List.length s)) (Int.ofNat 1) = false)
    (h2 : ltI (Int.ofNat 16) (Int.ofNat (List.length s)) = true) :
    RunF Tryd.prog Tryd.f19 none call [1, 0] (SSt.mk [(0, AV.str s)] [] Rc.none h) (AEx.ret)
      (SSt.mk [(0, AV.str s), (2, AV.bool false)] [] Rc.none h) :=
  sxF_run [0, 2] (hs := [Hint.b false, Hint.b false, Hint.b false, Hint.b false, Hint.b true]) (by kernel_rfl) <| .cons h1 <| .cons h1 <| .cons h1 <| .cons h1 <| .cons h2 <| .nil
theorem rseg_short_3 (call : CallT → List AV → AHeap → FRes) (s : List UInt8) (h : AHeap) 
    (h1 : ltI (Int.ofNat (List.length s)) (Int.ofNat 1) = false)
    (h2 : ltI (Int.ofNat 16) (Int.ofNat (List.length s)) = false) :
    RunF Tryd.prog Tryd.f19 none call [1, 0] (SSt.mk [(0, AV.str s)] [] Rc.none h) (AEx.nrm)
      (SSt.mk [(0, AV.str s)] [] Rc.none h) :=
  sxF_run [0, 2] (hs := [Hint.b false, Hint.b false, Hint.b false, Hint.b false, Hint.b false]) (by kernel_rfl) <| .cons h1 <| .cons h1 <| .cons h1 <| .cons h1 <| .cons h2 <| .nil
theorem rseg_i (call : CallT → List AV → AHeap → FRes) (s : List UInt8) (h : AHeap)  :
    RunF Tryd.prog Tryd.f19 none call [1, 1, 0, 0] (SSt.mk [(0, AV.str s)] [] Rc.none h) (AEx.nrm)
      (SSt.mk [(0, AV.str s), (3, AV.int IntKind.i64 0)] [] Rc.none h) :=
  sxF_run [0, 3] (hs := []) (by kernel_rfl) <| .nil
theorem rseg_round_1 (call : CallT → List AV → AHeap → FRes) (s : List UInt8) (i : Nat) (c : Nat) (h : AHeap) 
    (h1 : ltI (Int.ofNat i) (Int.ofNat (List.length s)) = true)
    (h2 : idxS i s = some (AV.int IntKind.u8 (Int.ofNat c)))
    (h3 : leI (Int.ofNat 97) (Int.ofNat c) = true)
    (h4 : leI (Int.ofNat c) (Int.ofNat 122) = true)
    (h5 : arith BinOp.add IntKind.i64 (Int.ofNat i) (Int.ofNat 1) = some (AV.int IntKind.i64 (Int.ofNat (i + 1)))) :
    RunF Tryd.prog Tryd.f19 none call [1, 1, 0, 1, 0, 0] (SSt.mk [(0, AV.str s), (3, AV.int IntKind.i64 (Int.ofNat i))] [] Rc.none h) (AEx.nrm)
      (SSt.mk [(0, AV.str s), (3, AV.int IntKind.i64 (Int.ofNat (i + 1)))] [] Rc.none h) :=
  sxF_run [0, 2, 3] (hs := [Hint.b true, Hint.v (AV.int IntKind.u8 (Int.ofNat c)), Hint.b true, Hint.b true, Hint.b true, Hint.b true, Hint.b true, Hint.b true, Hint.b true, Hint.b true, Hint.b true, Hint.b true, Hint.b true, Hint.b true, Hint.b true, Hint.b true, Hint.b false, Hint.v (AV.int IntKind.i64 (Int.ofNat (i + 1)))]) (by kernel_rfl) <| .cons h1 <| .cons h2 <| .cons h3 <| .cons h3 <| .cons h3 <| .cons h4 <| .cons h4 <| .cons h4 <| .cons h4 <| .cons h4 <| .cons (by kernel_rfl : true = true) <| .cons (by kernel_rfl : true = true) <| .cons (by kernel_rfl : true = true) <| .cons (by kernel_rfl : true = true) <| .cons (by kernel_rfl : true = true) <| .cons (by kernel_rfl : true = true) <| .cons (by kernel_rfl : (!true) = false) <| .cons h5 <| .nil
theorem rseg_round_2 (call : CallT → List AV → AHeap → FRes) (s : List UInt8) (i : Nat) (c : Nat) (h : AHeap) 
    (h1 : ltI (Int.ofNat i) (Int.ofNat (List.length s)) = true)
    (h2 : idxS i s = some (AV.int IntKind.u8 (Int.ofNat c)))
    (h3 : leI (Int.ofNat 97) (Int.ofNat c) = true)
    (h4 : leI (Int.ofNat c) (Int.ofNat 122) = false)
    (h5 : leI (Int.ofNat 48) (Int.ofNat c) = true)
    (h6 : leI (Int.ofNat c) (Int.ofNat 57) = true)
    (h7 : arith BinOp.add IntKind.i64 (Int.ofNat i) (Int.ofNat 1) = some (AV.int IntKind.i64 (Int.ofNat (i + 1)))) :
    RunF Tryd.prog Tryd.f19 none call [1, 1, 0, 1, 0, 0] (SSt.mk [(0, AV.str s), (3, AV.int IntKind.i64 (Int.ofNat i))] [] Rc.none h) (AEx.nrm)
      (SSt.mk [(0, AV.str s), (3, AV.int IntKind.i64 (Int.ofNat (i + 1)))] [] Rc.none h) :=
  sxF_run [0, 2, 3] (hs := [Hint.b true, Hint.v (AV.int IntKind.u8 (Int.ofNat c)), Hint.b true, Hint.b true, Hint.b true, Hint.b false, Hint.b false, Hint.b false, Hint.b true, Hint.b true, Hint.b false, Hint.b true, Hint.b false, Hint.b true, Hint.b true, Hint.b true, Hint.b true, Hint.b true, Hint.b true, Hint.b false, Hint.v (AV.int IntKind.i64 (Int.ofNat (i + 1)))]) (by kernel_rfl) <| .cons h1 <| .cons h2 <| .cons h3 <| .cons h3 <| .cons h3 <| .cons h4 <| .cons h4 <| .cons h4 <| .cons h5 <| .cons h5 <| .cons h4 <| .cons h5 <| .cons h4 <| .cons h6 <| .cons h6 <| .cons h6 <| .cons (by kernel_rfl : true = true) <| .cons (by kernel_rfl : true = true) <| .cons (by kernel_rfl : true = true) <| .cons (by kernel_rfl : (!true) = false) <| .cons h7 <| .nil
theorem rseg_round_3 (call : CallT → List AV → AHeap → FRes) (s : List UInt8) (i : Nat) (c : Nat) (h : AHeap) 
    (h1 : ltI (Int.ofNat i) (Int.ofNat (List.length s)) = true)
    (h2 : idxS i s = some (AV.int IntKind.u8 (Int.ofNat c)))
    (h3 : leI (Int.ofNat 97) (Int.ofNat c) = true)
    (h4 : leI (Int.ofNat c) (Int.ofNat 122) = false)
    (h5 : leI (Int.ofNat 48) (Int.ofNat c) = true)
    (h6 : leI (Int.ofNat c) (Int.ofNat 57) = false)
    (h7 : eqI (Int.ofNat c) (Int.ofNat 95) = true)
    (h8 : arith BinOp.add IntKind.i64 (Int.ofNat i) (Int.ofNat 1) = some (AV.int IntKind.i64 (Int.ofNat (i + 1)))) :
    RunF Tryd.prog Tryd.f19 none call [1, 1, 0, 1, 0, 0] (SSt.mk [(0, AV.str s), (3, AV.int IntKind.i64 (Int.ofNat i))] [] Rc.none h) (AEx.nrm)
      (SSt.mk [(0, AV.str s), (3, AV.int IntKind.i64 (Int.ofNat (i + 1)))] [] Rc.none h) :=
  sxF_run [0, 2, 3] (hs := [Hint.b true, Hint.v (AV.int IntKind.u8 (Int.ofNat c)), Hint.b true, Hint.b true, Hint.b true, Hint.b false, Hint.b false, Hint.b false, Hint.b true, Hint.b true, Hint.b false, Hint.b true, Hint.b false, Hint.b false, Hint.b false, Hint.b false, Hint.b true, Hint.b true, Hint.b true, Hint.b false, Hint.v (AV.int IntKind.i64 (Int.ofNat (i + 1)))]) (by kernel_rfl) <| .cons h1 <| .cons h2 <| .cons h3 <| .cons h3 <| .cons h3 <| .cons h4 <| .cons h4 <| .cons h4 <| .cons h5 <| .cons h5 <| .cons h4 <| .cons h5 <| .cons h4 <| .cons h6 <| .cons h6 <| .cons h6 <| .cons h7 <| .cons h7 <| .cons h7 <| .cons (by kernel_rfl : (!true) = false) <| .cons h8 <| .nil
theorem rseg_round_4 (call : CallT → List AV → AHeap → FRes) (s : List UInt8) (i : Nat) (c : Nat) (h : AHeap) 
    (h1 : ltI (Int.ofNat i) (Int.ofNat (List.length s)) = true)
    (h2 : idxS i s = some (AV.int IntKind.u8 (Int.ofNat c)))
    (h3 : leI (Int.ofNat 97) (Int.ofNat c) = true)
    (h4 : leI (Int.ofNat c) (Int.ofNat 122) = false)
    (h5 : leI (Int.ofNat 48) (Int.ofNat c) = true)
    (h6 : leI (Int.ofNat c) (Int.ofNat 57) = false)
    (h7 : eqI (Int.ofNat c) (Int.ofNat 95) = false)
    (h8 : (!eqI (Int.ofNat c) (Int.ofNat 45)) = true) :
    RunF Tryd.prog Tryd.f19 none call [1, 1, 0, 1, 0, 0] (SSt.mk [(0, AV.str s), (3, AV.int IntKind.i64 (Int.ofNat i))] [] Rc.none h) (AEx.ret)
      (SSt.mk [(0, AV.str s), (2, AV.bool false), (3, AV.int IntKind.i64 (Int.ofNat i))] [] Rc.none h) :=
  sxF_run [0, 2, 3] (hs := [Hint.b true, Hint.v (AV.int IntKind.u8 (Int.ofNat c)), Hint.b true, Hint.b true, Hint.b true, Hint.b false, Hint.b false, Hint.b false, Hint.b true, Hint.b true, Hint.b false, Hint.b true, Hint.b false, Hint.b false, Hint.b false, Hint.b false, Hint.b false, Hint.b false, Hint.b false, Hint.b true]) (by kernel_rfl) <| .cons h1 <| .cons h2 <| .cons h3 <| .cons h3 <| .cons h3 <| .cons h4 <| .cons h4 <| .cons h4 <| .cons h5 <| .cons h5 <| .cons h4 <| .cons h5 <| .cons h4 <| .cons h6 <| .cons h6 <| .cons h6 <| .cons h7 <| .cons h7 <| .cons h7 <| .cons h8 <| .nil
theorem rseg_round_5 (call : CallT → List AV → AHeap → FRes) (s : List UInt8) (i : Nat) (c : Nat) (h : AHeap) 
    (h1 : ltI (Int.ofNat i) (Int.ofNat (List.length s)) = true)
    (h2 : idxS i s = some (AV.int IntKind.u8 (Int.ofNat c)))
    (h3 : leI (Int.ofNat 97) (Int.ofNat c) = true)
    (h4 : leI (Int.ofNat c) (Int.ofNat 122) = false)
    (h5 : leI (Int.ofNat 48) (Int.ofNat c) = true)
    (h6 : leI (Int.ofNat c) (Int.ofNat 57) = false)
    (h7 : eqI (Int.ofNat c) (Int.ofNat 95) = false)
    (h8 : (!eqI (Int.ofNat c) (Int.ofNat 45)) = false)
    (h9 : arith BinOp.add IntKind.i64 (Int.ofNat i) (Int.ofNat 1) = some (AV.int IntKind.i64 (Int.ofNat (i + 1)))) :
    RunF Tryd.prog Tryd.f19 none call [1, 1, 0, 1, 0, 0] (SSt.mk [(0, AV.str s), (3, AV.int IntKind.i64 (Int.ofNat i))] [] Rc.none h) (AEx.nrm)
      (SSt.mk [(0, AV.str s), (3, AV.int IntKind.i64 (Int.ofNat (i + 1)))] [] Rc.none h) :=
  sxF_run [0, 2, 3] (hs := [Hint.b true, Hint.v (AV.int IntKind.u8 (Int.ofNat c)), Hint.b true, Hint.b true, Hint.b true, Hint.b false, Hint.b false, Hint.b false, Hint.b true, Hint.b true, Hint.b false, Hint.b true, Hint.b false, Hint.b false, Hint.b false, Hint.b false, Hint.b false, Hint.b false, Hint.b false, Hint.b false, Hint.v (AV.int IntKind.i64 (Int.ofNat (i + 1)))]) (by kernel_rfl) <| .cons h1 <| .cons h2 <| .cons h3 <| .cons h3 <| .cons h3 <| .cons h4 <| .cons h4 <| .cons h4 <| .cons h5 <| .cons h5 <| .cons h4 <| .cons h5 <| .cons h4 <| .cons h6 <| .cons h6 <| .cons h6 <| .cons h7 <| .cons h7 <| .cons h7 <| .cons h8 <| .cons h9 <| .nil
theorem rseg_round_6 (call : CallT → List AV → AHeap → FRes) (s : List UInt8) (i : Nat) (c : Nat) (h : AHeap) 
    (h1 : ltI (Int.ofNat i) (Int.ofNat (List.length s)) = true)
    (h2 : idxS i s = some (AV.int IntKind.u8 (Int.ofNat c)))
    (h3 : leI (Int.ofNat 97) (Int.ofNat c) = true)
    (h4 : leI (Int.ofNat c) (Int.ofNat 122) = false)
    (h5 : leI (Int.ofNat 48) (Int.ofNat c) = false)
    (h6 : eqI (Int.ofNat c) (Int.ofNat 95) = true)
    (h7 : arith BinOp.add IntKind.i64 (Int.ofNat i) (Int.ofNat 1) = some (AV.int IntKind.i64 (Int.ofNat (i + 1)))) :
    RunF Tryd.prog Tryd.f19 none call [1, 1, 0, 1, 0, 0] (SSt.mk [(0, AV.str s), (3, AV.int IntKind.i64 (Int.ofNat i))] [] Rc.none h) (AEx.nrm)
      (SSt.mk [(0, AV.str s), (3, AV.int IntKind.i64 (Int.ofNat (i + 1)))] [] Rc.none h) :=
  sxF_run [0, 2, 3] (hs := [Hint.b true, Hint.v (AV.int IntKind.u8 (Int.ofNat c)), Hint.b true, Hint.b true, Hint.b true, Hint.b false, Hint.b false, Hint.b false, Hint.b false, Hint.b false, Hint.b false, Hint.b false, Hint.b false, Hint.b false, Hint.b false, Hint.b false, Hint.b true, Hint.b true, Hint.b true, Hint.b false, Hint.v (AV.int IntKind.i64 (Int.ofNat (i + 1)))]) (by kernel_rfl) <| .cons h1 <| .cons h2 <| .cons h3 <| .cons h3 <| .cons h3 <| .cons h4 <| .cons h4 <| .cons h4 <| .cons h5 <| .cons h5 <| .cons h4 <| .cons h5 <| .cons h4 <| .cons (by kernel_rfl : false = false) <| .cons (by kernel_rfl : false = false) <| .cons (by kernel_rfl : false = false) <| .cons h6 <| .cons h6 <| .cons h6 <| .cons (by kernel_rfl : (!true) = false) <| .cons h7 <| .nil
theorem rseg_round_7 (call : CallT → List AV → AHeap → FRes) (s : List UInt8) (i : Nat) (c : Nat) (h : AHeap) 
    (h1 : ltI (Int.ofNat i) (Int.ofNat (List.length s)) = true)
    (h2 : idxS i s = some (AV.int IntKind.u8 (Int.ofNat c)))
    (h3 : leI (Int.ofNat 97) (Int.ofNat c) = true)
    (h4 : leI (Int.ofNat c) (Int.ofNat 122) = false)
    (h5 : leI (Int.ofNat 48) (Int.ofNat c) = false)
    (h6 : eqI (Int.ofNat c) (Int.ofNat 95) = false)
    (h7 : (!eqI (Int.ofNat c) (Int.ofNat 45)) = true) :
    RunF Tryd.prog Tryd.f19 none call [1, 1, 0, 1, 0, 0] (SSt.mk [(0, AV.str s), (3, AV.int IntKind.i64 (Int.ofNat i))] [] Rc.none h) (AEx.ret)
      (SSt.mk [(0, AV.str s), (2, AV.bool false), (3, AV.int IntKind.i64 (Int.ofNat i))] [] Rc.none h) :=
  sxF_run [0, 2, 3] (hs := [Hint.b true, Hint.v (AV.int IntKind.u8 (Int.ofNat c)), Hint.b true, Hint.b true, Hint.b true, Hint.b false, Hint.b false, Hint.b false, Hint.b false, Hint.b false, Hint.b false, Hint.b false, Hint.b false, Hint.b false, Hint.b false, Hint.b false, Hint.b false, Hint.b false, Hint.b false, Hint.b true]) (by kernel_rfl) <| .cons h1 <| .cons h2 <| .cons h3 <| .cons h3 <| .cons h3 <| .cons h4 <| .cons h4 <| .cons h4 <| .cons h5 <| .cons h5 <| .cons h4 <| .cons h5 <| .cons h4 <| .cons (by kernel_rfl : false = false) <| .cons (by kernel_rfl : false = false) <| .cons (by kernel_rfl : false = false) <| .cons h6 <| .cons h6 <| .cons h6 <| .cons h7 <| .nil
theorem rseg_round_8 (call : CallT → List AV → AHeap → FRes) (s : List UInt8) (i : Nat) (c : Nat) (h : AHeap) 
    (h1 : ltI (Int.ofNat i) (Int.ofNat (List.length s)) = true)
    (h2 : idxS i s = some (AV.int IntKind.u8 (Int.ofNat c)))
    (h3 : leI (Int.ofNat 97) (Int.ofNat c) = true)
    (h4 : leI (Int.ofNat c) (Int.ofNat 122) = false)
    (h5 : leI (Int.ofNat 48) (Int.ofNat c) = false)
    (h6 : eqI (Int.ofNat c) (Int.ofNat 95) = false)
    (h7 : (!eqI (Int.ofNat c) (Int.ofNat 45)) = false)
    (h8 : arith BinOp.add IntKind.i64 (Int.ofNat i) (Int.ofNat 1) = some (AV.int IntKind.i64 (Int.ofNat (i + 1)))) :
    RunF Tryd.prog Tryd.f19 none call [1, 1, 0, 1, 0, 0] (SSt.mk [(0, AV.str s), (3, AV.int IntKind.i64 (Int.ofNat i))] [] Rc.none h) (AEx.nrm)
      (SSt.mk [(0, AV.str s), (3, AV.int IntKind.i64 (Int.ofNat (i + 1)))] [] Rc.none h) :=
  sxF_run [0, 2, 3] (hs := [Hint.b true, Hint.v (AV.int IntKind.u8 (Int.ofNat c)), Hint.b true, Hint.b true, Hint.b true, Hint.b false, Hint.b false, Hint.b false, Hint.b false, Hint.b false, Hint.b false, Hint.b false, Hint.b false, Hint.b false, Hint.b false, Hint.b false, Hint.b false, Hint.b false, Hint.b false, Hint.b false, Hint.v (AV.int IntKind.i64 (Int.ofNat (i + 1)))]) (by kernel_rfl) <| .cons h1 <| .cons h2 <| .cons h3 <| .cons h3 <| .cons h3 <| .cons h4 <| .cons h4 <| .cons h4 <| .cons h5 <| .cons h5 <| .cons h4 <| .cons h5 <| .cons h4 <| .cons (by kernel_rfl : false = false) <| .cons (by kernel_rfl : false = false) <| .cons (by kernel_rfl : false = false) <| .cons h6 <| .cons h6 <| .cons h6 <| .cons h7 <| .cons h8 <| .nil
theorem rseg_round_9 (call : CallT → List AV → AHeap → FRes) (s : List UInt8) (i : Nat) (c : Nat) (h : AHeap) 
    (h1 : ltI (Int.ofNat i) (Int.ofNat (List.length s)) = true)
    (h2 : idxS i s = some (AV.int IntKind.u8 (Int.ofNat c)))
    (h3 : leI (Int.ofNat 97) (Int.ofNat c) = false)
    (h4 : leI (Int.ofNat 48) (Int.ofNat c) = true)
    (h5 : leI (Int.ofNat c) (Int.ofNat 57) = true)
    (h6 : arith BinOp.add IntKind.i64 (Int.ofNat i) (Int.ofNat 1) = some (AV.int IntKind.i64 (Int.ofNat (i + 1)))) :
    RunF Tryd.prog Tryd.f19 none call [1, 1, 0, 1, 0, 0] (SSt.mk [(0, AV.str s), (3, AV.int IntKind.i64 (Int.ofNat i))] [] Rc.none h) (AEx.nrm)
      (SSt.mk [(0, AV.str s), (3, AV.int IntKind.i64 (Int.ofNat (i + 1)))] [] Rc.none h) :=
  sxF_run [0, 2, 3] (hs := [Hint.b true, Hint.v (AV.int IntKind.u8 (Int.ofNat c)), Hint.b false, Hint.b false, Hint.b false, Hint.b false, Hint.b false, Hint.b false, Hint.b true, Hint.b true, Hint.b false, Hint.b true, Hint.b false, Hint.b true, Hint.b true, Hint.b true, Hint.b true, Hint.b true, Hint.b true, Hint.b false, Hint.v (AV.int IntKind.i64 (Int.ofNat (i + 1)))]) (by kernel_rfl) <| .cons h1 <| .cons h2 <| .cons h3 <| .cons h3 <| .cons h3 <| .cons (by kernel_rfl : false = false) <| .cons (by kernel_rfl : false = false) <| .cons (by kernel_rfl : false = false) <| .cons h4 <| .cons h4 <| .cons (by kernel_rfl : false = false) <| .cons h4 <| .cons (by kernel_rfl : false = false) <| .cons h5 <| .cons h5 <| .cons h5 <| .cons (by kernel_rfl : true = true) <| .cons (by kernel_rfl : true = true) <| .cons (by kernel_rfl : true = true) <| .cons (by kernel_rfl : (!true) = false) <| .cons h6 <| .nil
theorem rseg_round_10 (call : CallT → List AV → AHeap → FRes) (s : List UInt8) (i : Nat) (c : Nat) (h : AHeap) 
    (h1 : ltI (Int.ofNat i) (Int.ofNat (List.length s)) = true)
    (h2 : idxS i s = some (AV.int IntKind.u8 (Int.ofNat c)))
    (h3 : leI (Int.ofNat 97) (Int.ofNat c) = false)
    (h4 : leI (Int.ofNat 48) (Int.ofNat c) = true)
    (h5 : leI (Int.ofNat c) (Int.ofNat 57) = false)
    (h6 : eqI (Int.ofNat c) (Int.ofNat 95) = true)
    (h7 : arith BinOp.add IntKind.i64 (Int.ofNat i) (Int.ofNat 1) = some (AV.int IntKind.i64 (Int.ofNat (i + 1)))) :
    RunF Tryd.prog Tryd.f19 none call [1, 1, 0, 1, 0, 0] (SSt.mk [(0, AV.str s), (3, AV.int IntKind.i64 (Int.ofNat i))] [] Rc.none h) (AEx.nrm)
      (SSt.mk [(0, AV.str s), (3, AV.int IntKind.i64 (Int.ofNat (i + 1)))] [] Rc.none h) :=
  sxF_run [0, 2, 3] (hs := [Hint.b true, Hint.v (AV.int IntKind.u8 (Int.ofNat c)), Hint.b false, Hint.b false, Hint.b false, Hint.b false, Hint.b false, Hint.b false, Hint.b true, Hint.b true, Hint.b false, Hint.b true, Hint.b false, Hint.b false, Hint.b false, Hint.b false, Hint.b true, Hint.b true, Hint.b true, Hint.b false, Hint.v (AV.int IntKind.i64 (Int.ofNat (i + 1)))]) (by kernel_rfl) <| .cons h1 <| .cons h2 <| .cons h3 <| .cons h3 <| .cons h3 <| .cons (by kernel_rfl : false = false) <| .cons (by kernel_rfl : false = false) <| .cons (by kernel_rfl : false = false) <| .cons h4 <| .cons h4 <| .cons (by kernel_rfl : false = false) <| .cons h4 <| .cons (by kernel_rfl : false = false) <| .cons h5 <| .cons h5 <| .cons h5 <| .cons h6 <| .cons h6 <| .cons h6 <| .cons (by kernel_rfl : (!true) = false) <| .cons h7 <| .nil
theorem rseg_round_11 (call : CallT → List AV → AHeap → FRes) (s : List UInt8) (i : Nat) (c : Nat) (h : AHeap) 
    (h1 : ltI (Int.ofNat i) (Int.ofNat (List.length s)) = true)
    (h2 : idxS i s = some (AV.int IntKind.u8 (Int.ofNat c)))
    (h3 : leI (Int.ofNat 97) (Int.ofNat c) = false)
    (h4 : leI (Int.ofNat 48) (Int.ofNat c) = true)
    (h5 : leI (Int.ofNat c) (Int.ofNat 57) = false)
    (h6 : eqI (Int.ofNat c) (Int.ofNat 95) = false)
    (h7 : (!eqI (Int.ofNat c) (Int.ofNat 45)) = true) :
    RunF Tryd.prog Tryd.f19 none call [1, 1, 0, 1, 0, 0] (SSt.mk [(0, AV.str s), (3, AV.int IntKind.i64 (Int.ofNat i))] [] Rc.none h) (AEx.ret)
      (SSt.mk [(0, AV.str s), (2, AV.bool false), (3, AV.int IntKind.i64 (Int.ofNat i))] [] Rc.none h) :=
  sxF_run [0, 2, 3] (hs := [Hint.b true, Hint.v (AV.int IntKind.u8 (Int.ofNat c)), Hint.b false, Hint.b false, Hint.b false, Hint.b false, Hint.b false, Hint.b false, Hint.b true, Hint.b true, Hint.b false, Hint.b true, Hint.b false, Hint.b false, Hint.b false, Hint.b false, Hint.b false, Hint.b false, Hint.b false, Hint.b true]) (by kernel_rfl) <| .cons h1 <| .cons h2 <| .cons h3 <| .cons h3 <| .cons h3 <| .cons (by kernel_rfl : false = false) <| .cons (by kernel_rfl : false = false) <| .cons (by kernel_rfl : false = false) <| .cons h4 <| .cons h4 <| .cons (by kernel_rfl : false = false) <| .cons h4 <| .cons (by kernel_rfl : false = false) <| .cons h5 <| .cons h5 <| .cons h5 <| .cons h6 <| .cons h6 <| .cons h6 <| .cons h7 <| .nil
theorem rseg_round_12 (call : CallT → List AV → AHeap → FRes) (s : List UInt8) (i : Nat) (c : Nat) (h : AHeap) 
    (h1 : ltI (Int.ofNat i) (Int.ofNat (List.length s)) = true)
    (h2 : idxS i s = some (AV.int IntKind.u8 (Int.ofNat c)))
    (h3 : leI (Int.ofNat 97) (Int.ofNat c) = false)
    (h4 : leI (Int.ofNat 48) (Int.ofNat c) = true)
    (h5 : leI (Int.ofNat c) (Int.ofNat 57) = false)
    (h6 : eqI (Int.ofNat c) (Int.ofNat 95) = false)
    (h7 : (!eqI (Int.ofNat c) (Int.ofNat 45)) = false)
    (h8 : arith BinOp.add IntKind.i64 (Int.ofNat i) (Int.ofNat 1) = some (AV.int IntKind.i64 (Int.ofNat (i + 1)))) :
    RunF Tryd.prog Tryd.f19 none call [1, 1, 0, 1, 0, 0] (SSt.mk [(0, AV.str s), (3, AV.int IntKind.i64 (Int.ofNat i))] [] Rc.none h) (AEx.nrm)
      (SSt.mk [(0, AV.str s), (3, AV.int IntKind.i64 (Int.ofNat (i + 1)))] [] Rc.none h) :=
  sxF_run [0, 2, 3] (hs := [Hint.b true, Hint.v (AV.int IntKind.u8 (Int.ofNat c)), Hint.b false, Hint.b false, Hint.b false, Hint.b false, Hint.b false, Hint.b false, Hint.b true, Hint.b true, Hint.b false, Hint.b true, Hint.b false, Hint.b false, Hint.b false, Hint.b false, Hint.b false, Hint.b false, Hint.b false, Hint.b false, Hint.v (AV.int IntKind.i64 (Int.ofNat (i + 1)))]) (by kernel_rfl) <| .cons h1 <| .cons h2 <| .cons h3 <| .cons h3 <| .cons h3 <| .cons (by kernel_rfl : false = false) <| .cons (by kernel_rfl : false = false) <| .cons (by kernel_rfl : false = false) <| .cons h4 <| .cons h4 <| .cons (by kernel_rfl : false = false) <| .cons h4 <| .cons (by kernel_rfl : false = false) <| .cons h5 <| .cons h5 <| .cons h5 <| .cons h6 <| .cons h6 <| .cons h6 <| .cons h7 <| .cons h8 <| .nil
theorem rseg_round_13 (call : CallT → List AV → AHeap → FRes) (s : List UInt8) (i : Nat) (c : Nat) (h : AHeap) 
    (h1 : ltI (Int.ofNat i) (Int.ofNat (List.length s)) = true)
    (h2 : idxS i s = some (AV.int IntKind.u8 (Int.ofNat c)))
    (h3 : leI (Int.ofNat 97) (Int.ofNat c) = false)
    (h4 : leI (Int.ofNat 48) (Int.ofNat c) = false)
    (h5 : eqI (Int.ofNat c) (Int.ofNat 95) = true)
    (h6 : arith BinOp.add IntKind.i64 (Int.ofNat i) (Int.ofNat 1) = some (AV.int IntKind.i64 (Int.ofNat (i + 1)))) :
    RunF Tryd.prog Tryd.f19 none call [1, 1, 0, 1, 0, 0] (SSt.mk [(0, AV.str s), (3, AV.int IntKind.i64 (Int.ofNat i))] [] Rc.none h) (AEx.nrm)
      (SSt.mk [(0, AV.str s), (3, AV.int IntKind.i64 (Int.ofNat (i + 1)))] [] Rc.none h) :=
  sxF_run [0, 2, 3] (hs := [Hint.b true, Hint.v (AV.int IntKind.u8 (Int.ofNat c)), Hint.b false, Hint.b false, Hint.b false, Hint.b false, Hint.b false, Hint.b false, Hint.b false, Hint.b false, Hint.b false, Hint.b false, Hint.b false, Hint.b false, Hint.b false, Hint.b false, Hint.b true, Hint.b true, Hint.b true, Hint.b false, Hint.v (AV.int IntKind.i64 (Int.ofNat (i + 1)))]) (by kernel_rfl) <| .cons h1 <| .cons h2 <| .cons h3 <| .cons h3 <| .cons h3 <| .cons (by kernel_rfl : false = false) <| .cons (by kernel_rfl : false = false) <| .cons (by kernel_rfl : false = false) <| .cons h4 <| .cons h4 <| .cons (by kernel_rfl : false = false) <| .cons h4 <| .cons (by kernel_rfl : false = false) <| .cons (by kernel_rfl : false = false) <| .cons (by kernel_rfl : false = false) <| .cons (by kernel_rfl : false = false) <| .cons h5 <| .cons h5 <| .cons h5 <| .cons (by kernel_rfl : (!true) = false) <| .cons h6 <| .nil
theorem rseg_round_14 (call : CallT → List AV → AHeap → FRes) (s : List UInt8) (i : Nat) (c : Nat) (h : AHeap) 
    (h1 : ltI (Int.ofNat i) (Int.ofNat (List.length s)) = true)
    (h2 : idxS i s = some (AV.int IntKind.u8 (Int.ofNat c)))
    (h3 : leI (Int.ofNat 97) (Int.ofNat c) = false)
    (h4 : leI (Int.ofNat 48) (Int.ofNat c) = false)
    (h5 : eqI (Int.ofNat c) (Int.ofNat 95) = false)
    (h6 : (!eqI (Int.ofNat c) (Int.ofNat 45)) = true) :
    RunF Tryd.prog Tryd.f19 none call [1, 1, 0, 1, 0, 0] (SSt.mk [(0, AV.str s), (3, AV.int IntKind.i64 (Int.ofNat i))] [] Rc.none h) (AEx.ret)
      (SSt.mk [(0, AV.str s), (2, AV.bool false), (3, AV.int IntKind.i64 (Int.ofNat i))] [] Rc.none h) :=
  sxF_run [0, 2, 3] (hs := [Hint.b true, Hint.v (AV.int IntKind.u8 (Int.ofNat c)), Hint.b false, Hint.b false, Hint.b false, Hint.b false, Hint.b false, Hint.b false, Hint.b false, Hint.b false, Hint.b false, Hint.b false, Hint.b false, Hint.b false, Hint.b false, Hint.b false, Hint.b false, Hint.b false, Hint.b false, Hint.b true]) (by kernel_rfl) <| .cons h1 <| .cons h2 <| .cons h3 <| .cons h3 <| .cons h3 <| .cons (by kernel_rfl : false = false) <| .cons (by kernel_rfl : false = false) <| .cons (by kernel_rfl : false = false) <| .cons h4 <| .cons h4 <| .cons (by kernel_rfl : false = false) <| .cons h4 <| .cons (by kernel_rfl : false = false) <| .cons (by kernel_rfl : false = false) <| .cons (by kernel_rfl : false = false) <| .cons (by kernel_rfl : false = false) <| .cons h5 <| .cons h5 <| .cons h5 <| .cons h6 <| .nil
theorem rseg_round_15 (call : CallT → List AV → AHeap → FRes) (s : List UInt8) (i : Nat) (c : Nat) (h : AHeap) 
    (h1 : ltI (Int.ofNat i) (Int.ofNat (List.length s)) = true)
    (h2 : idxS i s = some (AV.int IntKind.u8 (Int.ofNat c)))
    (h3 : leI (Int.ofNat 97) (Int.ofNat c) = false)
    (h4 : leI (Int.ofNat 48) (Int.ofNat c) = false)
    (h5 : eqI (Int.ofNat c) (Int.ofNat 95) = false)
    (h6 : (!eqI (Int.ofNat c) (Int.ofNat 45)) = false)
    (h7 : arith BinOp.add IntKind.i64 (Int.ofNat i) (Int.ofNat 1) = some (AV.int IntKind.i64 (Int.ofNat (i + 1)))) :
    RunF Tryd.prog Tryd.f19 none call [1, 1, 0, 1, 0, 0] (SSt.mk [(0, AV.str s), (3, AV.int IntKind.i64 (Int.ofNat i))] [] Rc.none h) (AEx.nrm)
      (SSt.mk [(0, AV.str s), (3, AV.int IntKind.i64 (Int.ofNat (i + 1)))] [] Rc.none h) :=
  sxF_run [0, 2, 3] (hs := [Hint.b true, Hint.v (AV.int IntKind.u8 (Int.ofNat c)), Hint.b false, Hint.b false, Hint.b false, Hint.b false, Hint.b false, Hint.b false, Hint.b false, Hint.b false, Hint.b false, Hint.b false, Hint.b false, Hint.b false, Hint.b false, Hint.b false, Hint.b false, Hint.b false, Hint.b false, Hint.b false, Hint.v (AV.int IntKind.i64 (Int.ofNat (i + 1)))]) (by kernel_rfl) <| .cons h1 <| .cons h2 <| .cons h3 <| .cons h3 <| .cons h3 <| .cons (by kernel_rfl : false = false) <| .cons (by kernel_rfl : false = false) <| .cons (by kernel_rfl : false = false) <| .cons h4 <| .cons h4 <| .cons (by kernel_rfl : false = false) <| .cons h4 <| .cons (by kernel_rfl : false = false) <| .cons (by kernel_rfl : false = false) <| .cons (by kernel_rfl : false = false) <| .cons (by kernel_rfl : false = false) <| .cons h5 <| .cons h5 <| .cons h5 <| .cons h6 <| .cons h7 <| .nil
theorem rseg_round_16 (call : CallT → List AV → AHeap → FRes) (s : List UInt8) (i : Nat) (c : Nat) (h : AHeap) 
    (h1 : ltI (Int.ofNat i) (Int.ofNat (List.length s)) = false) :
    RunF Tryd.prog Tryd.f19 none call [1, 1, 0, 1, 0, 0] (SSt.mk [(0, AV.str s), (3, AV.int IntKind.i64 (Int.ofNat i))] [] Rc.none h) (AEx.exit 0)
      (SSt.mk [(0, AV.str s), (3, AV.int IntKind.i64 (Int.ofNat i))] [] Rc.none h) :=
  sxF_run [0, 2, 3] (hs := [Hint.b false]) (by kernel_rfl) <| .cons h1 <| .nil
theorem rseg_tail (call : CallT → List AV → AHeap → FRes) (s : List UInt8) (h : AHeap)  :
    RunF Tryd.prog Tryd.f19 none call [1, 1, 1] (SSt.mk [(0, AV.str s)] [] Rc.none h) (AEx.ret)
      (SSt.mk [(2, AV.bool true)] [] Rc.none h) :=
  sxF_run [2] (hs := []) (by kernel_rfl) <| .nil

theorem leI_n (a b : Nat) : leI (Int.ofNat a) (Int.ofNat b) = decide (a ≤ b) := by
  unfold leI
  have : (Int.ofNat a ≤ Int.ofNat b) ↔ a ≤ b := by
    have h1 : Int.ofNat a = (a : Int) := rfl
    have h2 : Int.ofNat b = (b : Int) := rfl
    rw [h1, h2]; omega
  simp only [this]
theorem eqI_n (a b : Nat) : eqI (Int.ofNat a) (Int.ofNat b) = decide (a = b) := by
  unfold eqI
  have h1 : Int.ofNat a = (a : Int) := rfl
  have h2 : Int.ofNat b = (b : Int) := rfl
  rw [h1, h2, Bool.eq_iff_iff]
  simp only [beq_iff_eq, decide_eq_true_eq]
  omega
theorem oddB_eq (c : Nat) : oddB c = !((leI (Int.ofNat 97) (Int.ofNat c) && leI (Int.ofNat c) (Int.ofNat 122)) || (leI (Int.ofNat 48) (Int.ofNat c) && leI (Int.ofNat c) (Int.ofNat 57)) || eqI (Int.ofNat c) (Int.ofNat 95) || eqI (Int.ofNat c) (Int.ofNat 45)) := by
  simp only [leI_n, eqI_n, oddB, Bool.decide_and]

theorem rseg_rd (call : CallT → List AV → AHeap → FRes) (s : List UInt8) (i c : Nat) (h : AHeap) (h1 : ltI (Int.ofNat i) (Int.ofNat (List.length s)) = true)
    (h2 : idxS i s = some (AV.int IntKind.u8 (Int.ofNat c))) (hadd : arith BinOp.add IntKind.i64 (Int.ofNat i) (Int.ofNat 1) = some (AV.int IntKind.i64 (Int.ofNat (i + 1)))) :
    (oddB c = true → ∃ Γ, RunF Tryd.prog Tryd.f19 none call [1, 1, 0, 1, 0, 0] ⟨[(0, .str s), (3, .int .i64 (Int.ofNat i))], [], .none, h⟩ .ret ⟨(2, .bool false) :: Γ, [], .none, h⟩) ∧
    (oddB c = false → RunF Tryd.prog Tryd.f19 none call [1, 1, 0, 1, 0, 0] ⟨[(0, .str s), (3, .int .i64 (Int.ofNat i))], [], .none, h⟩ .nrm ⟨[(0, .str s), (3, .int .i64 (Int.ofNat (i + 1)))], [], .none, h⟩) := by
  rw [oddB_eq]
  have fix : ∀ {st : SSt} {Γ : Env}, RunF Tryd.prog Tryd.f19 none call [1, 1, 0, 1, 0, 0] st .ret ⟨[(0, .str s), (2, .bool false), (3, .int .i64 (Int.ofNat i))], [], .none, h⟩ → ∃ Γ, RunF Tryd.prog Tryd.f19 none call [1, 1, 0, 1, 0, 0] st .ret ⟨(2, .bool false) :: Γ, [], .none, h⟩ := fun hr =>
    ⟨[], RunP.post hr ⟨rfl, trivial⟩⟩
  cases h3 : leI (Int.ofNat 97) (Int.ofNat c) <;> cases h4 : leI (Int.ofNat c) (Int.ofNat 122) <;> cases h5 : leI (Int.ofNat 48) (Int.ofNat c) <;> cases h6 : leI (Int.ofNat c) (Int.ofNat 57) <;> cases h7 : eqI (Int.ofNat c) (Int.ofNat 95) <;> cases h8 : eqI (Int.ofNat c) (Int.ofNat 45) <;>
    (refine ⟨fun ho => ?_, fun ho => ?_⟩ <;> first
      | (simp at ho; done)
      | (apply rseg_round_1 <;> assumption)
      | (apply rseg_round_2 <;> assumption)
      | (apply rseg_round_3 <;> assumption)
      | (apply rseg_round_5 <;> first | assumption | (rw [h8]; rfl))
      | (apply rseg_round_6 <;> assumption)
      | (apply rseg_round_8 <;> first | assumption | (rw [h8]; rfl))
      | (apply rseg_round_9 <;> assumption)
      | (apply rseg_round_10 <;> assumption)
      | (apply rseg_round_12 <;> first | assumption | (rw [h8]; rfl))
      | (apply rseg_round_13 <;> assumption)
      | (apply rseg_round_15 <;> first | assumption | (rw [h8]; rfl))
      | (refine fix (Γ := []) ?_; apply rseg_round_4 <;> first | assumption | (rw [h8]; rfl))
      | (refine fix (Γ := []) ?_; apply rseg_round_7 <;> first | assumption | (rw [h8]; rfl))
      | (refine fix (Γ := []) ?_; apply rseg_round_11 <;> first | assumption | (rw [h8]; rfl))
      | (refine fix (Γ := []) ?_; apply rseg_round_14 <;> first | assumption | (rw [h8]; rfl)))
end Go.Proofs.P05

namespace Go.Proofs.P05
open Go AEv Go.Proofs
set_option maxRecDepth 100000

theorem rseg_loop (call : CallT → List AV → AHeap → FRes) (s : List UInt8) (h : AHeap) (hs : s.length ≤ 50000) : ∀ (k i : Nat), s.length - i = k → i ≤ s.length →
    ((s.drop i).all (fun c => !oddB c.toNat) = true → LoopF Tryd.prog Tryd.f19 none call [1, 1, 0, 1, 0] (k + 1) ⟨[(0, .str s), (3, .int .i64 (Int.ofNat i))], [], .none, h⟩ (.exit 0) ⟨[(0, .str s)], [], .none, h⟩) ∧
    ((s.drop i).all (fun c => !oddB c.toNat) = false → LoopF Tryd.prog Tryd.f19 none call [1, 1, 0, 1, 0] (k + 1) ⟨[(0, .str s), (3, .int .i64 (Int.ofNat i))], [], .none, h⟩ .ret ⟨[(2, .bool false)], [], .none, h⟩)
  | 0, i, hk, hi => by
    have : s.drop i = [] := List.drop_eq_nil_of_le (by omega)
    rw [this]
    exact ⟨fun _ => .exit (rseg_end _ s i h (lt_f (by omega))) (by simp), fun h => by simp at h⟩
  | k + 1, i, hk, hi => by
    have hlt : i < s.length := by omega
    have hd : s.drop i = s[i] :: s.drop (i + 1) := List.drop_eq_getElem_cons hlt
    obtain ⟨ih1, ih2⟩ := rseg_loop call s h hs k (i + 1) (by omega) (by omega)
    obtain ⟨r1, r2⟩ := rseg_rd call s i _ h (lt_t hlt) (idx_t hlt) (add1 hlt (by omega))
    rw [hd, List.all_cons]
    cases ho : oddB (s[i]).toNat with
    | true =>
      obtain ⟨Γ, hr⟩ := r1 ho
      exact ⟨fun h => by simp at h, fun _ => .exit (RunP.post hr ⟨rfl, trivial⟩) (by simp)⟩
    | false =>
      have hn := r2 ho
      simp only [Bool.not_false, Bool.true_and]
      exact ⟨fun ha => .step hn (ih1 ha), fun ha => .step hn (ih2 ha)⟩

theorem rseg_c (n : Nat) (s : List UInt8) (h : AHeap) (hs : s.length ≤ 50000) : C (n + 1) (.fn 19) [.str s] h = .ret (.bool (segL s)) h := by
  obtain ⟨l1, l2⟩ := rseg_loop (C n) s h hs s.length 0 (by omega) (by omega)
  rw [List.drop_zero] at l1 l2
  have main : ∃ e Γ, (e = .ret ∨ e = .nrm) ∧ RunF Tryd.prog Tryd.f19 none (C n) [] ⟨argsG 0 [.str s], [], .none, h⟩ e ⟨Γ, [], .none, h⟩ ∧ resS Tryd.prog (needFn Tryd.f19) Tryd.f19 Γ h = some (.bool (segL s)) := by
    have h0 := rseg_z (C n) s h
    by_cases h1 : s.length < 1
    · have : segL s = false := by
        have : s = [] := by cases s <;> simp at h1 ⊢
        simp [segL, this]
      rw [this]
      exact ⟨.ret, _, .inl rfl, RunF.seq (p := []) (by kernel_rfl) h0 (RunF.seqx (p := [1]) (by kernel_rfl) (rseg_short_1 _ s h (lt_t h1)) (by simp)), by kernel_rfl⟩
    · by_cases h2 : 16 < s.length
      · have : segL s = false := by
          have : decide (s.length ≤ 16) = false := by simp; omega
          simp [segL, this]
        rw [this]
        exact ⟨.ret, _, .inl rfl, RunF.seq (p := []) (by kernel_rfl) h0 (RunF.seqx (p := [1]) (by kernel_rfl) (rseg_short_2 _ s h (lt_f h1) (lt_t h2)) (by simp)), by kernel_rfl⟩
      · have hsh := rseg_short_3 (C n) s h (lt_f h1) (lt_f h2)
        have hi := rseg_i (C n) s h
        have hne : s.isEmpty = false := by cases s <;> simp at h1 ⊢
        have hle : decide (s.length ≤ 16) = true := by simp; omega
        cases ha : s.all (fun c => !oddB c.toNat) with
        | true =>
          have hloop := RunF.block (p := [1, 1, 0, 1]) (id := 0) (by kernel_rfl) (LoopF.run (p := [1, 1, 0, 1, 0]) (by kernel_rfl) (l1 ha) (by omega))
          have : segL s = true := by simp [segL, ha, hne, hle]
          rw [this]
          exact ⟨.ret, _, .inl rfl, RunF.seq (p := []) (by kernel_rfl) h0 (RunF.seq (p := [1]) (by kernel_rfl) hsh (RunF.seq (p := [1, 1]) (by kernel_rfl) (RunF.seq (p := [1, 1, 0]) (by kernel_rfl) hi hloop) (rseg_tail (C n) s h))), by kernel_rfl⟩
        | false =>
          have hloop := RunF.blockx (p := [1, 1, 0, 1]) (id := 0) (by kernel_rfl) (LoopF.run (p := [1, 1, 0, 1, 0]) (by kernel_rfl) (l2 ha) (by omega)) (by simp)
          have : segL s = false := by simp [segL, ha]
          rw [this]
          exact ⟨.ret, _, .inl rfl, RunF.seq (p := []) (by kernel_rfl) h0 (RunF.seq (p := [1]) (by kernel_rfl) hsh (RunF.seqx (p := [1, 1]) (by kernel_rfl) (RunF.seq (p := [1, 1, 0]) (by kernel_rfl) hi hloop) (by simp))), by kernel_rfl⟩
  obtain ⟨e, Γ, he, hr, hres⟩ := main
  exact fn_runF (n := n) Tryd.func19 (by kernel_rfl) rfl (by kernel_rfl) hr he hres
end Go.Proofs.P05

namespace Go.Proofs.P05
open Go AEv Go.Proofs
set_option maxRecDepth 100000

/-- The pieces of a text, the first one begun. -/
def pcs : List UInt8 → List UInt8 → List (List UInt8)
  | cur, [] => [cur]
  | cur, c :: l => if c = 47 then cur :: pcs [] l else pcs (cur ++ [c]) l

theorem str_under : Tryd.prog.underlying 9 = some .string := by kernel_rfl
theorem app27 {B : Nat} {h : AHeap} {v : AV} {x : List UInt8} {xs : List AV} (hB : B ≤ h.n) (hl : xs.length ≤ 100000) (hxs : xs.all AV.isCell = true) (hr : Row1 B 9 h v xs) :
    ∃ v' h', appendA Tryd.prog (h.push (.cells [.str x] 9 .own 0 0)) 27 (some 27) v (.slice h.n 0 1 (.exact 1)) = some (v', h') ∧ Row1 B 9 h' v' (xs ++ [.str x]) ∧ Ext B h h' := by
  have hi : (Tryd.prog.info? 9).map (fun i => (i.size, i.bytes)) = some (1, 16) := by kernel_rfl
  cases hii : Tryd.prog.info? 9 with
  | none => rw [hii] at hi; cases hi
  | some i =>
    rw [hii] at hi
    simp only [Option.map_some, Option.some.injEq, Prod.mk.injEq] at hi
    refine append1 hB (e := 9) (by kernel_rfl) (by kernel_rfl) hii hi.1 (z := .str []) (by kernel_rfl) rfl ?_ rfl hxs hr
    rw [hi.2]
    have : (4 * (xs.length + 1) + 2048) * (16 + 1) ≤ 281474976710656 := by omega
    simpa [roomOK] using this
theorem map_cell (l : List (List UInt8)) : (l.map AV.str).all AV.isCell = true := by
  induction l with
  | nil => rfl
  | cons a l ih => simp [AV.isCell]

theorem pcs_loop (call : CallT → List AV → AHeap → FRes) (s : List UInt8) (B : Nat) (hs : s.length ≤ 50000) : ∀ (k i : Nat) (h : AHeap) (out : AV) (cur : List UInt8) (done : List (List UInt8)), s.length - i = k → i ≤ s.length → B ≤ h.n → Row1 B 9 h out (done.map .str) → done.length ≤ i → cur.length ≤ i →
    ∃ out' h' done' cur', LoopF Tryd.prog Tryd.f18 none call [1, 1, 1, 0, 1, 0] (k + 1) ⟨[(0, .str s), (3, out), (4, .str cur), (5, .int .i64 (Int.ofNat i))], [], .none, h⟩ (.exit 0) ⟨[(3, out'), (4, .str cur')], [], .none, h'⟩ ∧
      Row1 B 9 h' out' (done'.map .str) ∧ done' ++ [cur'] = done ++ pcs cur (s.drop i) ∧ Ext B h h' ∧ done'.length ≤ s.length
  | 0, i, h, out, cur, done, hk, hi, hB, hr, hd, hc => by
    have e : s.drop i = [] := List.drop_eq_nil_of_le (by omega)
    exact ⟨out, h, done, cur, .exit (pcs_end call s cur i out h (lt_f (by omega))) (by simp), hr, by rw [e]; rfl, Ext.refl _ _, by omega⟩
  | k + 1, i, h, out, cur, done, hk, hi, hB, hr, hd, hc => by
    have hlt : i < s.length := by omega
    have e : s.drop i = s[i] :: s.drop (i + 1) := List.drop_eq_getElem_cons hlt
    by_cases h47 : s[i] = 47
    · obtain ⟨v', h', ha, hr', he⟩ := app27 (x := cur) hB (by simp; omega) (map_cell done) hr
      have hst := pcs_slash call s cur i _ out v' h h' (lt_t hlt) (idx_t hlt) (by rw [h47]; rfl) ha (add1 hlt (by omega))
      obtain ⟨out', h2, done', cur', q1, q2, q3, q4, q5⟩ := pcs_loop call s B hs k (i + 1) h' v' [] (done ++ [cur]) (by omega) (by omega) (Nat.le_trans hB he.n) (by simpa using hr') (by simp; omega) (by simp)
      refine ⟨out', h2, done', cur', .step hst q1, q2, ?_, he.trans (Nat.le_refl _) q4, q5⟩
      rw [q3, e]
      simp [pcs, h47]
    · have hn : eqI (Int.ofNat (s[i]).toNat) (Int.ofNat 47) = false := by
        rw [eqI_n, decide_eq_false_iff_not]
        intro hh
        exact h47 (UInt8.toNat_inj.1 hh)
      have hsl : sliceA Tryd.prog h 9 (.str s) (some (.int .i64 (Int.ofNat i))) (some (.int .i64 (Int.ofNat (i + 1)))) none = some (.str [s[i]]) := by
        rw [slice_str str_under (by omega) (by omega)]
        have : i + 1 - i = 1 := by omega
        rw [this, e]; rfl
      have hst := pcs_other call s cur [s[i]] i _ out h (lt_t hlt) (idx_t hlt) hn (add1 hlt (by omega)) hsl (str_add (by simp; omega))
      obtain ⟨out', h2, done', cur', q1, q2, q3, q4, q5⟩ := pcs_loop call s B hs k (i + 1) h out (cur ++ [s[i]]) done (by omega) (by omega) hB hr (by omega) (by simp; omega)
      refine ⟨out', h2, done', cur', .step hst q1, q2, ?_, q4, q5⟩
      rw [q3, e]
      simp [pcs, h47]

theorem pieces_c (n : Nat) (s : List UInt8) (h : AHeap) (hs : s.length ≤ 50000) : ∃ v h', C (n + 1) (.fn 18) [.str s] h = .ret v h' ∧ Row1 h.n 9 h' v ((pcs [] s).map .str) ∧ Ext h.n h h' ∧ (pcs [] s).length ≤ s.length + 1 := by
  obtain ⟨out', h2, done', cur', q1, q2, q3, q4, q5⟩ := pcs_loop (C n) s h.n hs s.length 0 h .nilS [] [] (by omega) (by omega) (Nat.le_refl _) (.inl ⟨rfl, rfl⟩) (by simp) (by simp)
  rw [List.drop_zero, List.nil_append] at q3
  obtain ⟨v', h', ha, hr', he⟩ := app27 (x := cur') (Nat.le_trans (Nat.le_refl _) q4.n) (by simp; omega) (map_cell done') q2
  have hloop := RunF.block (p := [1, 1, 1, 0, 1]) (id := 0) (by kernel_rfl) (LoopF.run (p := [1, 1, 1, 0, 1, 0]) (by kernel_rfl) q1 (by omega))
  have htail := pcs_tail (C n) cur' out' v' h2 h' ha
  have hrun : RunF Tryd.prog Tryd.f18 none (C n) [] ⟨argsG 0 [.str s], [], .none, h⟩ .ret ⟨[(2, v')], [], .none, h'⟩ :=
    RunF.seq (p := []) (by kernel_rfl) (pcs_pre (C n) s h) (RunP.pre (RunF.seq (p := [1]) (by kernel_rfl) (pcs_pre1 (C n) s h) (RunF.seq (p := [1, 1]) (by kernel_rfl) (pcs_pre2 (C n) s h) (RunF.seq (p := [1, 1, 1]) (by kernel_rfl) (RunF.seq (p := [1, 1, 1, 0]) (by kernel_rfl) (pcs_pre3 (C n) s h) hloop) htail))) ⟨rfl, trivial⟩ rfl rfl rfl)
  refine ⟨v', h', fn_runF (n := n) Tryd.func18 (by kernel_rfl) rfl (by kernel_rfl) hrun (.inl rfl) (by kernel_rfl), ?_, q4.trans (Nat.le_refl _) he, ?_⟩
  · rw [← q3]; simpa using hr'
  · rw [← q3]; simp; omega
end Go.Proofs.P05

namespace Go.Proofs.P05
open Go AEv Go.Proofs
set_option maxRecDepth 100000

theorem rmay_z (call : CallT → List AV → AHeap → FRes) (s : List UInt8) (h : AHeap)  :
    RunF Tryd.prog Tryd.f10 none call [0] (SSt.mk [(0, AV.str s)] [] Rc.none h) (AEx.nrm)
      (SSt.mk [(0, AV.str s)] [] Rc.none h) :=
  sxF_run [0] (hs := []) (by kernel_rfl) <| .nil
theorem rmay_i (call : CallT → List AV → AHeap → FRes) (v : AV) (h : AHeap)  :
    RunF Tryd.prog Tryd.f10 none call [1, 1, 0, 0] (SSt.mk [(3, v)] [] Rc.none h) (AEx.nrm)
      (SSt.mk [(3, v), (4, AV.int IntKind.i64 (Int.ofNat 0))] [] Rc.none h) :=
  sxF_run [3, 4] (hs := []) (by kernel_rfl) <| .nil
theorem rcl_z (call : CallT → List AV → AHeap → FRes) (s : List UInt8) (h : AHeap)  :
    RunF Tryd.prog Tryd.f8 none call [0] (SSt.mk [(0, AV.str s)] [] Rc.none h) (AEx.nrm)
      (SSt.mk [(0, AV.str s), (2, AV.str []), (3, AV.int IntKind.i64 (Int.ofNat 0))] [] Rc.none h) :=
  sxF_run [0, 2, 3] (hs := []) (by kernel_rfl) <| .nil
theorem rcl_l (call : CallT → List AV → AHeap → FRes) (s : List UInt8) (h : AHeap)  :
    RunF Tryd.prog Tryd.f8 none call [1, 0] (SSt.mk [(0, AV.str s)] [] Rc.none h) (AEx.nrm)
      (SSt.mk [(0, AV.str s), (4, AV.nilS)] [] Rc.none h) :=
  sxF_run [0, 4] (hs := []) (by kernel_rfl) <| .nil
theorem rcl_p (call : CallT → List AV → AHeap → FRes) (s : List UInt8) (v : AV) (h : AHeap) (h' : AHeap) 
    (h1 : call (CallT.fn 18) [AV.str s] h = FRes.ret v h') :
    RunF Tryd.prog Tryd.f8 none call [1, 1, 0] (SSt.mk [(0, AV.str s), (4, AV.nilS)] [] Rc.none h) (AEx.nrm)
      (SSt.mk [(4, AV.nilS), (5, v)] [] Rc.none h') :=
  sxF_run [4, 5] (hs := [Hint.c v h']) (by kernel_rfl) <| .cons h1 <| .nil
theorem rcl_i (call : CallT → List AV → AHeap → FRes) (v : AV) (h : AHeap)  :
    RunF Tryd.prog Tryd.f8 none call [1, 1, 1, 0, 0] (SSt.mk [(4, AV.nilS), (5, v)] [] Rc.none h) (AEx.nrm)
      (SSt.mk [(4, AV.nilS), (5, v), (6, AV.int IntKind.i64 (Int.ofNat 0))] [] Rc.none h) :=
  sxF_run [4, 5, 6] (hs := []) (by kernel_rfl) <| .nil
theorem rcl_end (call : CallT → List AV → AHeap → FRes) (l : AV) (b : Nat) (off : Nat) (n : Nat) (i : Nat) (cap : Cap) (h : AHeap) 
    (h1 : ltI (Int.ofNat i) (Int.ofNat n) = false) :
    RunF Tryd.prog Tryd.f8 none call [1, 1, 1, 0, 1, 0, 0] (SSt.mk [(4, l), (5, AV.slice b off n cap), (6, AV.int IntKind.i64 (Int.ofNat i))] [] Rc.none h) (AEx.exit 0)
      (SSt.mk [(4, l)] [] Rc.none h) :=
  sxF_run [4] (hs := [Hint.b false]) (by kernel_rfl) <| .cons h1 <| .nil
theorem rcl_get (call : CallT → List AV → AHeap → FRes) (l : AV) (b : Nat) (off : Nat) (n : Nat) (i : Nat) (cap : Cap) (x : List UInt8) (h : AHeap) 
    (h1 : Nat.le (Nat.succ i) n ∧ AV.ptr b (off + i * 1) = AV.ptr b (off + i * 1))
    (h2 : load1 h b (off + i * 1) = some (AV.str x)) :
    RunF Tryd.prog Tryd.f8 none call [1, 1, 1, 0, 1, 0, 0, 1, 0, 0, 0] (SSt.mk [(4, l), (5, AV.slice b off n cap), (6, AV.int IntKind.i64 (Int.ofNat i))] [] Rc.none h) (AEx.nrm)
      (SSt.mk [(4, l), (5, AV.slice b off n cap), (6, AV.int IntKind.i64 (Int.ofNat i)), (7, AV.str x)] [] Rc.none h) :=
  sxF_run [4, 5, 6, 7] (hs := [Hint.v (AV.ptr b (off + i * 1)), Hint.v (AV.str x)]) (by kernel_rfl) <| .cons h1 <| .cons h2 <| .nil
theorem rcl_inc (call : CallT → List AV → AHeap → FRes) (l : AV) (v : AV) (i : Nat) (h : AHeap) 
    (h1 : arith BinOp.add IntKind.i64 (Int.ofNat i) (Int.ofNat 1) = some (AV.int IntKind.i64 (Int.ofNat (i + 1)))) :
    RunF Tryd.prog Tryd.f8 none call [1, 1, 1, 0, 1, 0, 0, 1, 1] (SSt.mk [(4, l), (5, v), (6, AV.int IntKind.i64 (Int.ofNat i))] [] Rc.none h) (AEx.nrm)
      (SSt.mk [(4, l), (5, v), (6, AV.int IntKind.i64 (Int.ofNat (i + 1)))] [] Rc.none h) :=
  sxF_run [4, 5, 6] (hs := [Hint.v (AV.int IntKind.i64 (Int.ofNat (i + 1)))]) (by kernel_rfl) <| .cons h1 <| .nil
theorem rcl_dot (call : CallT → List AV → AHeap → FRes) (l : AV) (v : AV) (x : List UInt8) (i : Nat) (h : AHeap) 
    (h1 : beqBytes x [] = true) :
    RunF Tryd.prog Tryd.f8 none call [1, 1, 1, 0, 1, 0, 0, 1, 0, 0, 1] (SSt.mk [(4, l), (5, v), (6, AV.int IntKind.i64 (Int.ofNat i)), (7, AV.str x)] [] Rc.none h) (AEx.nrm)
      (SSt.mk [(4, l), (5, v), (6, AV.int IntKind.i64 (Int.ofNat i))] [] Rc.none h) :=
  sxF_run [2, 3, 4, 5, 6] (hs := [Hint.b true, Hint.b true, Hint.b true, Hint.b true]) (by kernel_rfl) <| .cons h1 <| .cons h1 <| .cons h1 <| .cons (by kernel_rfl : true = true) <| .nil
theorem rcl_dot1 (call : CallT → List AV → AHeap → FRes) (l : AV) (v : AV) (x : List UInt8) (i : Nat) (h : AHeap) 
    (h1 : beqBytes x [] = false)
    (h2 : beqBytes x [46] = true) :
    RunF Tryd.prog Tryd.f8 none call [1, 1, 1, 0, 1, 0, 0, 1, 0, 0, 1] (SSt.mk [(4, l), (5, v), (6, AV.int IntKind.i64 (Int.ofNat i)), (7, AV.str x)] [] Rc.none h) (AEx.nrm)
      (SSt.mk [(4, l), (5, v), (6, AV.int IntKind.i64 (Int.ofNat i))] [] Rc.none h) :=
  sxF_run [2, 3, 4, 5, 6] (hs := [Hint.b false, Hint.b false, Hint.b false, Hint.b true]) (by kernel_rfl) <| .cons h1 <| .cons h1 <| .cons h1 <| .cons h2 <| .nil
theorem rcl_up0 (call : CallT → List AV → AHeap → FRes) (v : AV) (x : List UInt8) (i : Nat) (h : AHeap) 
    (h1 : beqBytes x [] = false)
    (h2 : beqBytes x [46] = false)
    (h3 : beqBytes x [46, 46] = true) :
    RunF Tryd.prog Tryd.f8 none call [1, 1, 1, 0, 1, 0, 0, 1, 0, 0, 1] (SSt.mk [(4, AV.nilS), (5, v), (6, AV.int IntKind.i64 (Int.ofNat i)), (7, AV.str x)] [] Rc.none h) (AEx.ret)
      (SSt.mk [(2, AV.str []), (3, AV.int IntKind.i64 (Int.ofNat 6))] [] Rc.none h) :=
  sxF_run [2, 3] (hs := [Hint.b false, Hint.b false, Hint.b false, Hint.b false, Hint.b true, Hint.b true]) (by kernel_rfl) <| .cons h1 <| .cons h1 <| .cons h1 <| .cons h2 <| .cons h3 <| .cons (by kernel_rfl : eqI (Int.ofNat 0) (Int.ofNat 0) = true) <| .nil
theorem rcl_up (call : CallT → List AV → AHeap → FRes) (v : AV) (l' : AV) (b : Nat) (off : Nat) (n : Nat) (cap : Cap) (x : List UInt8) (i : Nat) (m : Nat) (h : AHeap) 
    (h1 : beqBytes x [] = false)
    (h2 : beqBytes x [46] = false)
    (h3 : beqBytes x [46, 46] = true)
    (h4 : eqI (Int.ofNat n) (Int.ofNat 0) = false)
    (h5 : arith BinOp.sub IntKind.i64 (Int.ofNat n) (Int.ofNat 1) = some (AV.int IntKind.i64 (Int.ofNat m)))
    (h6 : sliceA Tryd.prog h 27 (AV.slice b off n cap) none (some (AV.int IntKind.i64 (Int.ofNat m))) none = some l') :
    RunF Tryd.prog Tryd.f8 none call [1, 1, 1, 0, 1, 0, 0, 1, 0, 0, 1] (SSt.mk [(4, AV.slice b off n cap), (5, v), (6, AV.int IntKind.i64 (Int.ofNat i)), (7, AV.str x)] [] Rc.none h) (AEx.nrm)
      (SSt.mk [(4, l'), (5, v), (6, AV.int IntKind.i64 (Int.ofNat i))] [] Rc.none h) :=
  sxF_run [2, 3, 4, 5, 6] (hs := [Hint.b false, Hint.b false, Hint.b false, Hint.b false, Hint.b true, Hint.b false, Hint.v (AV.int IntKind.i64 (Int.ofNat m)), Hint.v l']) (by kernel_rfl) <| .cons h1 <| .cons h1 <| .cons h1 <| .cons h2 <| .cons h3 <| .cons h4 <| .cons h5 <| .cons h6 <| .nil
theorem rcl_up1 (call : CallT → List AV → AHeap → FRes) (v : AV) (l' : AV) (b : Nat) (off : Nat) (n : Nat) (cap : Cap) (x : List UInt8) (i : Nat) (m : Nat) (h : AHeap) 
    (h1 : beqBytes x [] = false)
    (h2 : beqBytes x [46] = false)
    (h3 : beqBytes x [46, 46] = true)
    (h4 : eqI (Int.ofNat n) (Int.ofNat 0) = true) :
    RunF Tryd.prog Tryd.f8 none call [1, 1, 1, 0, 1, 0, 0, 1, 0, 0, 1] (SSt.mk [(4, AV.slice b off n cap), (5, v), (6, AV.int IntKind.i64 (Int.ofNat i)), (7, AV.str x)] [] Rc.none h) (AEx.ret)
      (SSt.mk [(2, AV.str []), (3, AV.int IntKind.i64 (Int.ofNat 6))] [] Rc.none h) :=
  sxF_run [2, 3] (hs := [Hint.b false, Hint.b false, Hint.b false, Hint.b false, Hint.b true, Hint.b true]) (by kernel_rfl) <| .cons h1 <| .cons h1 <| .cons h1 <| .cons h2 <| .cons h3 <| .cons h4 <| .nil
theorem rcl_bad (call : CallT → List AV → AHeap → FRes) (l : AV) (v : AV) (x : List UInt8) (i : Nat) (h : AHeap) 
    (h1 : beqBytes x [] = false)
    (h2 : beqBytes x [46] = false)
    (h3 : beqBytes x [46, 46] = false)
    (h4 : call (CallT.fn 19) [AV.str x] h = FRes.ret (AV.bool false) h) :
    RunF Tryd.prog Tryd.f8 none call [1, 1, 1, 0, 1, 0, 0, 1, 0, 0, 1] (SSt.mk [(4, l), (5, v), (6, AV.int IntKind.i64 (Int.ofNat i)), (7, AV.str x)] [] Rc.none h) (AEx.ret)
      (SSt.mk [(2, AV.str []), (3, AV.int IntKind.i64 (Int.ofNat 6))] [] Rc.none h) :=
  sxF_run [2, 3] (hs := [Hint.b false, Hint.b false, Hint.b false, Hint.b false, Hint.b false, Hint.c (AV.bool false) h, Hint.b true]) (by kernel_rfl) <| .cons h1 <| .cons h1 <| .cons h1 <| .cons h2 <| .cons h3 <| .cons h4 <| .cons (by kernel_rfl : (!false) = true) <| .nil
theorem rcl_add (call : CallT → List AV → AHeap → FRes) (l : AV) (l' : AV) (v : AV) (x : List UInt8) (i : Nat) (h : AHeap) (h' : AHeap) 
    (h1 : beqBytes x [] = false)
    (h2 : beqBytes x [46] = false)
    (h3 : beqBytes x [46, 46] = false)
    (h4 : call (CallT.fn 19) [AV.str x] h = FRes.ret (AV.bool true) h)
    (h5 : appendA Tryd.prog (AHeap.push h (AObj.cells [AV.str x] 9 BK.own 0 0)) 27 (some 27) l (AV.slice (AHeap.n h) 0 1 (Cap.exact 1)) = some (l', h')) :
    RunF Tryd.prog Tryd.f8 none call [1, 1, 1, 0, 1, 0, 0, 1, 0, 0, 1] (SSt.mk [(4, l), (5, v), (6, AV.int IntKind.i64 (Int.ofNat i)), (7, AV.str x)] [] Rc.none h) (AEx.nrm)
      (SSt.mk [(4, l'), (5, v), (6, AV.int IntKind.i64 (Int.ofNat i))] [] Rc.none h') :=
  sxF_run [4, 5, 6] (hs := [Hint.b false, Hint.b false, Hint.b false, Hint.b false, Hint.b false, Hint.c (AV.bool true) h, Hint.b false, Hint.vh l' h']) (by kernel_rfl) <| .cons h1 <| .cons h1 <| .cons h1 <| .cons h2 <| .cons h3 <| .cons h4 <| .cons (by kernel_rfl : (!true) = false) <| .cons h5 <| .nil
theorem rcl_cond (call : CallT → List AV → AHeap → FRes) (l : AV) (b : Nat) (off : Nat) (n : Nat) (i : Nat) (cap : Cap) (h : AHeap) 
    (h1 : ltI (Int.ofNat i) (Int.ofNat n) = true) :
    RunF Tryd.prog Tryd.f8 none call [1, 1, 1, 0, 1, 0, 0, 0] (SSt.mk [(4, l), (5, AV.slice b off n cap), (6, AV.int IntKind.i64 (Int.ofNat i))] [] Rc.none h) (AEx.nrm)
      (SSt.mk [(4, l), (5, AV.slice b off n cap), (6, AV.int IntKind.i64 (Int.ofNat i))] [] Rc.none h) :=
  sxF_run [4, 5, 6] (hs := [Hint.b true]) (by kernel_rfl) <| .cons h1 <| .nil
theorem rcl_none_1 (call : CallT → List AV → AHeap → FRes) (h : AHeap)  :
    RunF Tryd.prog Tryd.f8 none call [1, 1, 1, 1, 0] (SSt.mk [(4, AV.nilS)] [] Rc.none h) (AEx.ret)
      (SSt.mk [(2, AV.str []), (3, AV.int IntKind.i64 (Int.ofNat 6))] [] Rc.none h) :=
  sxF_run [2, 3] (hs := [Hint.b true, Hint.b true, Hint.b true, Hint.b true, Hint.b true]) (by kernel_rfl) <| .cons (by kernel_rfl : eqI (Int.ofNat 0) (Int.ofNat 0) = true) <| .cons (by kernel_rfl : eqI (Int.ofNat 0) (Int.ofNat 0) = true) <| .cons (by kernel_rfl : eqI (Int.ofNat 0) (Int.ofNat 0) = true) <| .cons (by kernel_rfl : eqI (Int.ofNat 0) (Int.ofNat 0) = true) <| .cons (by kernel_rfl : true = true) <| .nil
theorem rcl_few_1 (call : CallT → List AV → AHeap → FRes) (b : Nat) (off : Nat) (n : Nat) (cap : Cap) (h : AHeap) 
    (h1 : eqI (Int.ofNat n) (Int.ofNat 0) = true) :
    RunF Tryd.prog Tryd.f8 none call [1, 1, 1, 1, 0] (SSt.mk [(4, AV.slice b off n cap)] [] Rc.none h) (AEx.ret)
      (SSt.mk [(2, AV.str []), (3, AV.int IntKind.i64 (Int.ofNat 6)), (4, AV.slice b off n cap)] [] Rc.none h) :=
  sxF_run [2, 3, 4] (hs := [Hint.b true, Hint.b true, Hint.b true, Hint.b true, Hint.b true]) (by kernel_rfl) <| .cons h1 <| .cons h1 <| .cons h1 <| .cons h1 <| .cons (by kernel_rfl : true = true) <| .nil
theorem rcl_few_2 (call : CallT → List AV → AHeap → FRes) (b : Nat) (off : Nat) (n : Nat) (cap : Cap) (h : AHeap) 
    (h1 : eqI (Int.ofNat n) (Int.ofNat 0) = false)
    (h2 : ltI (Int.ofNat 8) (Int.ofNat n) = true) :
    RunF Tryd.prog Tryd.f8 none call [1, 1, 1, 1, 0] (SSt.mk [(4, AV.slice b off n cap)] [] Rc.none h) (AEx.ret)
      (SSt.mk [(2, AV.str []), (3, AV.int IntKind.i64 (Int.ofNat 6)), (4, AV.slice b off n cap)] [] Rc.none h) :=
  sxF_run [2, 3, 4] (hs := [Hint.b false, Hint.b false, Hint.b false, Hint.b false, Hint.b true]) (by kernel_rfl) <| .cons h1 <| .cons h1 <| .cons h1 <| .cons h1 <| .cons h2 <| .nil
theorem rcl_few_3 (call : CallT → List AV → AHeap → FRes) (b : Nat) (off : Nat) (n : Nat) (cap : Cap) (h : AHeap) 
    (h1 : eqI (Int.ofNat n) (Int.ofNat 0) = false)
    (h2 : ltI (Int.ofNat 8) (Int.ofNat n) = false) :
    RunF Tryd.prog Tryd.f8 none call [1, 1, 1, 1, 0] (SSt.mk [(4, AV.slice b off n cap)] [] Rc.none h) (AEx.nrm)
      (SSt.mk [(4, AV.slice b off n cap)] [] Rc.none h) :=
  sxF_run [2, 3, 4] (hs := [Hint.b false, Hint.b false, Hint.b false, Hint.b false, Hint.b false]) (by kernel_rfl) <| .cons h1 <| .cons h1 <| .cons h1 <| .cons h1 <| .cons h2 <| .nil
theorem rcl_first (call : CallT → List AV → AHeap → FRes) (b : Nat) (off : Nat) (n : Nat) (cap : Cap) (x : List UInt8) (h : AHeap) 
    (h1 : Nat.le 1 n ∧ AV.ptr b (off + 0 * 1) = AV.ptr b (off + 0 * 1))
    (h2 : load1 h b (off + 0 * 1) = some (AV.str x)) :
    RunF Tryd.prog Tryd.f8 none call [1, 1, 1, 1, 1, 0] (SSt.mk [(4, AV.slice b off n cap)] [] Rc.none h) (AEx.nrm)
      (SSt.mk [(4, AV.slice b off n cap), (8, AV.str x)] [] Rc.none h) :=
  sxF_run [4, 8] (hs := [Hint.v (AV.ptr b (off + 0 * 1)), Hint.v (AV.str x)]) (by kernel_rfl) <| .cons h1 <| .cons h2 <| .nil
theorem rcl_j (call : CallT → List AV → AHeap → FRes) (l : AV) (x : List UInt8) (h : AHeap)  :
    RunF Tryd.prog Tryd.f8 none call [1, 1, 1, 1, 1, 1, 0, 0] (SSt.mk [(4, l), (8, AV.str x)] [] Rc.none h) (AEx.nrm)
      (SSt.mk [(4, l), (8, AV.str x), (9, AV.int IntKind.i64 (Int.ofNat 1))] [] Rc.none h) :=
  sxF_run [4, 8, 9] (hs := []) (by kernel_rfl) <| .nil
theorem rcl_jend (call : CallT → List AV → AHeap → FRes) (b : Nat) (off : Nat) (n : Nat) (i : Nat) (cap : Cap) (x : List UInt8) (h : AHeap) 
    (h1 : ltI (Int.ofNat i) (Int.ofNat n) = false) :
    RunF Tryd.prog Tryd.f8 none call [1, 1, 1, 1, 1, 1, 0, 1, 0, 0] (SSt.mk [(4, AV.slice b off n cap), (8, AV.str x), (9, AV.int IntKind.i64 (Int.ofNat i))] [] Rc.none h) (AEx.exit 3)
      (SSt.mk [(8, AV.str x)] [] Rc.none h) :=
  sxF_run [8] (hs := [Hint.b false]) (by kernel_rfl) <| .cons h1 <| .nil
theorem rcl_jrd (call : CallT → List AV → AHeap → FRes) (b : Nat) (off : Nat) (n : Nat) (i : Nat) (cap : Cap) (x : List UInt8) (y : List UInt8) (h : AHeap) 
    (h1 : ltI (Int.ofNat i) (Int.ofNat n) = true)
    (h2 : strOp BinOp.add x [47] = some (AV.str (x ++ [47])))
    (h3 : Nat.le (Nat.succ i) n ∧ AV.ptr b (off + i * 1) = AV.ptr b (off + i * 1))
    (h4 : load1 h b (off + i * 1) = some (AV.str y))
    (h5 : strOp BinOp.add (x ++ [47]) y = some (AV.str (x ++ [47] ++ y)))
    (h6 : arith BinOp.add IntKind.i64 (Int.ofNat i) (Int.ofNat 1) = some (AV.int IntKind.i64 (Int.ofNat (i + 1)))) :
    RunF Tryd.prog Tryd.f8 none call [1, 1, 1, 1, 1, 1, 0, 1, 0, 0] (SSt.mk [(4, AV.slice b off n cap), (8, AV.str x), (9, AV.int IntKind.i64 (Int.ofNat i))] [] Rc.none h) (AEx.nrm)
      (SSt.mk [(4, AV.slice b off n cap), (8, AV.str (x ++ [47] ++ y)), (9, AV.int IntKind.i64 (Int.ofNat (i + 1)))] [] Rc.none h) :=
  sxF_run [4, 8, 9] (hs := [Hint.b true, Hint.v (AV.str (x ++ [47])), Hint.v (AV.ptr b (off + i * 1)), Hint.v (AV.str y), Hint.v (AV.str (x ++ [47] ++ y)), Hint.v (AV.int IntKind.i64 (Int.ofNat (i + 1)))]) (by kernel_rfl) <| .cons h1 <| .cons h2 <| .cons h3 <| .cons h4 <| .cons h5 <| .cons h6 <| .nil
theorem rcl_ok (call : CallT → List AV → AHeap → FRes) (x : List UInt8) (h : AHeap)  :
    RunF Tryd.prog Tryd.f8 none call [1, 1, 1, 1, 1, 1, 1] (SSt.mk [(8, AV.str x)] [] Rc.none h) (AEx.ret)
      (SSt.mk [(2, AV.str x), (3, AV.int IntKind.i64 (Int.ofNat 0))] [] Rc.none h) :=
  sxF_run [2, 3] (hs := []) (by kernel_rfl) <| .nil

/-- The segments that are left of pieces: two dots take the last one away. -/
def fold : List (List UInt8) → List (List UInt8) → Option (List (List UInt8))
  | st, [] => some st
  | st, x :: l => if x = [] ∨ x = [46] then fold st l else if x = [46, 46] then (if st = [] then none else fold st.dropLast l) else if segL x = true then fold (st ++ [x]) l else none
def join1 : List UInt8 → List (List UInt8) → List UInt8
  | acc, [] => acc
  | acc, y :: l => join1 (acc ++ [47] ++ y) l
/-- The path of a text. -/
def cleanL (s : List UInt8) : Option (List UInt8) := match fold [] (pcs [] s) with
  | some (x :: l) => if l.length < 8 then some (join1 x l) else none
  | _ => none

theorem beqB (a b : List UInt8) : beqBytes a b = decide (a = b) := by
  rw [beqBytes_eq, Bool.eq_iff_iff]; simp
theorem bb_t {a b : List UInt8} (h : a = b) : beqBytes a b = true := by rw [beqB]; simp [h]
theorem bb_f {a b : List UInt8} (h : ¬ a = b) : beqBytes a b = false := by rw [beqB]; simp [h]
theorem eq_t {a b : Nat} (h : a = b) : eqI (Int.ofNat a) (Int.ofNat b) = true := by rw [eqI_n]; simp [h]
theorem eq_f {a b : Nat} (h : ¬ a = b) : eqI (Int.ofNat a) (Int.ofNat b) = false := by rw [eqI_n]; simp [h]
theorem sub1 {n : Nat} (h : 0 < n) (hn : n ≤ 1000000) : arith BinOp.sub IntKind.i64 (Int.ofNat n) (Int.ofNat 1) = some (AV.int IntKind.i64 (Int.ofNat (n - 1))) := by
  have h1 := wrap_nat (n - 1) (by omega)
  have e : Int.ofNat n - Int.ofNat 1 = ((n - 1 : Nat) : Int) := by
    have e1 : Int.ofNat n = (n : Int) := rfl
    have e2 : Int.ofNat 1 = (1 : Int) := rfl
    rw [e1, e2]; omega
  simp only [arith, e, h1]; rfl

section
variable {call : CallT → List AV → AHeap → FRes}

theorem rcl_rd {l l' : AV} {b n i : Nat} {x : List UInt8} {h h' : AHeap} (hi : i < n) (hn : n ≤ 100000) (hx : load1 h b (0 + i * 1) = some (.str x))
    (h2 : RunF Tryd.prog Tryd.f8 none call [1, 1, 1, 0, 1, 0, 0, 1, 0, 0, 1] ⟨[(4, l), (5, .slice b 0 n (.opn 1)), (6, .int .i64 (Int.ofNat i)), (7, .str x)], [], .none, h⟩ .nrm ⟨[(4, l'), (5, .slice b 0 n (.opn 1)), (6, .int .i64 (Int.ofNat i))], [], .none, h'⟩) :
    RunF Tryd.prog Tryd.f8 none call [1, 1, 1, 0, 1, 0, 0] ⟨[(4, l), (5, .slice b 0 n (.opn 1)), (6, .int .i64 (Int.ofNat i))], [], .none, h⟩ .nrm ⟨[(4, l'), (5, .slice b 0 n (.opn 1)), (6, .int .i64 (Int.ofNat (i + 1)))], [], .none, h'⟩ :=
  RunF.seq (p := [1, 1, 1, 0, 1, 0, 0]) (by kernel_rfl) (rcl_cond call l b 0 n i (.opn 1) h (lt_t hi))
    (RunF.seq (p := [1, 1, 1, 0, 1, 0, 0, 1]) (by kernel_rfl)
      (RunF.blockx (p := [1, 1, 1, 0, 1, 0, 0, 1, 0]) (id := 1) (by kernel_rfl) (RunF.seq (p := [1, 1, 1, 0, 1, 0, 0, 1, 0, 0]) (by kernel_rfl) (rcl_get call l b 0 n i (.opn 1) x h ⟨hi, rfl⟩ hx) h2) (by simp))
      (rcl_inc call l' _ i h' (add1 hi (by omega))))
theorem rcl_rdx {l : AV} {b n i : Nat} {x : List UInt8} {h h' : AHeap} (hi : i < n) (hx : load1 h b (0 + i * 1) = some (.str x)) {Γ : Env}
    (h2 : RunF Tryd.prog Tryd.f8 none call [1, 1, 1, 0, 1, 0, 0, 1, 0, 0, 1] ⟨[(4, l), (5, .slice b 0 n (.opn 1)), (6, .int .i64 (Int.ofNat i)), (7, .str x)], [], .none, h⟩ .ret ⟨Γ, [], .none, h'⟩) :
    RunF Tryd.prog Tryd.f8 none call [1, 1, 1, 0, 1, 0, 0] ⟨[(4, l), (5, .slice b 0 n (.opn 1)), (6, .int .i64 (Int.ofNat i))], [], .none, h⟩ .ret ⟨Γ, [], .none, h'⟩ :=
  RunF.seq (p := [1, 1, 1, 0, 1, 0, 0]) (by kernel_rfl) (rcl_cond call l b 0 n i (.opn 1) h (lt_t hi))
    (RunF.seqx (p := [1, 1, 1, 0, 1, 0, 0, 1]) (by kernel_rfl)
      (RunF.blockx (p := [1, 1, 1, 0, 1, 0, 0, 1, 0]) (id := 1) (by kernel_rfl) (RunF.seq (p := [1, 1, 1, 0, 1, 0, 0, 1, 0, 0]) (by kernel_rfl) (rcl_get call l b 0 n i (.opn 1) x h ⟨hi, rfl⟩ hx) h2) (by simp)) (by simp))
end

theorem load_at {h : AHeap} {b e lo hi : Nat} {k : BK} {xs : List (List UInt8)} {rest : List AV} (hg : h.get b = some (.cells (xs.map .str ++ rest) e k lo hi)) {i : Nat} (hi : i < xs.length) : load1 h b (0 + i * 1) = some (.str xs[i]) := by
  simp only [load1, hg, nth_eq, Nat.zero_add, Nat.mul_one]
  rw [List.getElem?_append_left (by simpa using hi)]
  simp [hi]
theorem list_under : Tryd.prog.underlying 27 = some (.slice 9) := by kernel_rfl
theorem size9 : sizeT Tryd.prog 9 = some 1 := by kernel_rfl
theorem slice_down {h : AHeap} {b n : Nat} (hn : 0 < n) : sliceA Tryd.prog h 27 (.slice b 0 n (.opn 1)) none (some (.int .i64 (Int.ofNat (n - 1)))) none = some (.slice b 0 (n - 1) (.opn 1)) := by
  have b1 : Nat.ble n n = true := by simp
  have b2 : Nat.ble (n - 1) n = true := by simp
  have b3 : Nat.ble 0 (n - 1) = true := by simp
  simp only [sliceA, list_under, size9, bounds, optN, asN, b1, b2, b3, if_true]

theorem rcl_loop (m : Nat) (xs : List (List UInt8)) (B vb : Nat) (rest : List AV) (h1 : AHeap) (hv : h1.get vb = some (.cells (xs.map .str ++ rest) 9 .opn 0 0)) (hvb : vb < B) (hlen : xs.length ≤ 50001) (hxl : ∀ x ∈ xs, x.length ≤ 50000) :
    ∀ (k i : Nat) (h : AHeap) (l : AV) (st : List (List UInt8)), xs.length - i = k → i ≤ xs.length → B ≤ h.n → Ext B h1 h → Row1 B 9 h l (st.map .str) → st.length ≤ i →
    match fold st (xs.drop i) with
    | some st' => ∃ l' h', LoopF Tryd.prog Tryd.f8 none (C (m + 1)) [1, 1, 1, 0, 1, 0] (k + 1) ⟨[(4, l), (5, .slice vb 0 xs.length (.opn 1)), (6, .int .i64 (Int.ofNat i))], [], .none, h⟩ (.exit 0) ⟨[(4, l')], [], .none, h'⟩ ∧ Row1 B 9 h' l' (st'.map .str) ∧ Ext B h1 h' ∧ st'.length ≤ xs.length
    | none => ∃ h', LoopF Tryd.prog Tryd.f8 none (C (m + 1)) [1, 1, 1, 0, 1, 0] (k + 1) ⟨[(4, l), (5, .slice vb 0 xs.length (.opn 1)), (6, .int .i64 (Int.ofNat i))], [], .none, h⟩ .ret ⟨[(2, .str []), (3, .int .i64 (Int.ofNat 6))], [], .none, h'⟩ ∧ Ext B h1 h'
  | 0, i, h, l, st, hk, hi, hB, he, hr, hst => by
    have e : xs.drop i = [] := List.drop_eq_nil_of_le (by omega)
    rw [e]
    exact ⟨l, h, .exit (rcl_end _ l vb 0 xs.length i (.opn 1) h (lt_f (by omega))) (by simp), hr, he, by omega⟩
  | k + 1, i, h, l, st, hk, hi, hB, he, hr, hst => by
    have hlt : i < xs.length := by omega
    have e : xs.drop i = xs[i] :: xs.drop (i + 1) := List.drop_eq_getElem_cons hlt
    have hg : h.get vb = some (.cells (xs.map .str ++ rest) 9 .opn 0 0) := (he.get vb hvb).trans hv
    have hx := load_at hg hlt
    have hxlen := hxl xs[i] (List.getElem_mem hlt)
    generalize xs[i] = x at e hx hxlen
    rw [e]
    simp only [fold]
    have go : ∀ (l' : AV) (h' : AHeap) (st' : List (List UInt8)), RunF Tryd.prog Tryd.f8 none (C (m + 1)) [1, 1, 1, 0, 1, 0, 0, 1, 0, 0, 1] ⟨[(4, l), (5, .slice vb 0 xs.length (.opn 1)), (6, .int .i64 (Int.ofNat i)), (7, .str x)], [], .none, h⟩ .nrm ⟨[(4, l'), (5, .slice vb 0 xs.length (.opn 1)), (6, .int .i64 (Int.ofNat i))], [], .none, h'⟩ →
        B ≤ h'.n → Ext B h1 h' → Row1 B 9 h' l' (st'.map .str) → st'.length ≤ i + 1 →
        match fold st' (xs.drop (i + 1)) with
        | some st' => ∃ l' h', LoopF Tryd.prog Tryd.f8 none (C (m + 1)) [1, 1, 1, 0, 1, 0] (k + 1 + 1) ⟨[(4, l), (5, .slice vb 0 xs.length (.opn 1)), (6, .int .i64 (Int.ofNat i))], [], .none, h⟩ (.exit 0) ⟨[(4, l')], [], .none, h'⟩ ∧ Row1 B 9 h' l' (st'.map .str) ∧ Ext B h1 h' ∧ st'.length ≤ xs.length
        | none => ∃ h', LoopF Tryd.prog Tryd.f8 none (C (m + 1)) [1, 1, 1, 0, 1, 0] (k + 1 + 1) ⟨[(4, l), (5, .slice vb 0 xs.length (.opn 1)), (6, .int .i64 (Int.ofNat i))], [], .none, h⟩ .ret ⟨[(2, .str []), (3, .int .i64 (Int.ofNat 6))], [], .none, h'⟩ ∧ Ext B h1 h' := by
      intro l' h' st' hrun q1 q2 q3 q4
      have hrd := rcl_rd hlt (by omega) hx hrun
      have ih := rcl_loop m xs B vb rest h1 hv hvb hlen hxl k (i + 1) h' l' st' (by omega) (by omega) q1 q2 q3 q4
      cases hf : fold st' (xs.drop (i + 1)) with
      | some st2 => rw [hf] at ih; obtain ⟨l2, h2, a1, a2⟩ := ih; exact ⟨l2, h2, .step hrd a1, a2⟩
      | none => rw [hf] at ih; obtain ⟨h2, a1, a2⟩ := ih; exact ⟨h2, .step hrd a1, a2⟩
    by_cases hd : x = [] ∨ x = [46]
    · rw [if_pos hd]
      refine go l h st ?_ hB he hr (by omega)
      by_cases hd0 : x = []
      · exact RunP.post (rcl_dot _ l _ x i h (bb_t hd0)) ⟨rfl, rfl, rfl, trivial⟩
      · exact rcl_dot1 _ l _ x i h (bb_f hd0) (bb_t (hd.resolve_left hd0))
    · rw [if_neg hd]
      have n1 : ¬ x = [] := fun h => hd (.inl h)
      have n2 : ¬ x = [46] := fun h => hd (.inr h)
      by_cases hup : x = [46, 46]
      · rw [if_pos hup]
        rcases hr with ⟨rfl, hst0⟩ | ⟨b, rs, rfl, hgb, hb1, hb2, hrs⟩
        · have hst0' : st = [] := by simpa using hst0
          rw [if_pos hst0']
          exact ⟨h, .exit (rcl_rdx hlt hx (rcl_up0 _ _ x i h (bb_f n1) (bb_f n2) (bb_t hup))) (by simp), he⟩
        · by_cases hst0 : st = []
          · rw [if_pos hst0]
            exact ⟨h, .exit (rcl_rdx hlt hx (rcl_up1 _ _ .nilS b 0 _ (.opn 1) x i 0 h (bb_f n1) (bb_f n2) (bb_t hup) (eq_t (by simp [hst0])))) (by simp), he⟩
          · rw [if_neg hst0]
            have hpos : 0 < st.length := by cases st <;> simp at hst0 ⊢
            have hml : (st.map AV.str).length = st.length := by simp
            refine go (.slice b 0 (st.length - 1) (.opn 1)) h st.dropLast ?_ hB he ?_ (by simp; omega)
            · rw [hml]
              exact RunP.post (rcl_up _ _ (.slice b 0 (st.length - 1) (.opn 1)) b 0 st.length (.opn 1) x i (st.length - 1) h (bb_f n1) (bb_f n2) (bb_t hup) (eq_f (by omega)) (sub1 hpos (by omega)) (slice_down hpos)) ⟨rfl, rfl, rfl, trivial⟩
            · refine .inr ⟨b, .str (st.getLast hst0) :: rs, by simp, ?_, hb1, hb2, by rw [List.all_cons, hrs]; rfl⟩
              rw [hgb]
              have : st.map AV.str = st.dropLast.map AV.str ++ [.str (st.getLast hst0)] := by
                conv => lhs; rw [← List.dropLast_concat_getLast hst0]
                simp
              rw [this]; simp
      · rw [if_neg hup]
        have hseg := rseg_c m x h hxlen
        cases hs : segL x with
        | false =>
          rw [hs] at hseg
          simp only [Bool.false_eq_true, if_false]
          exact ⟨h, .exit (rcl_rdx hlt hx (rcl_bad _ l _ x i h (bb_f n1) (bb_f n2) (bb_f hup) hseg)) (by simp), he⟩
        | true =>
          rw [hs] at hseg
          simp only [if_true]
          obtain ⟨v', h', ha, hr', hee⟩ := app27 (x := x) hB (by simp; omega) (map_cell st) hr
          exact go v' h' (st ++ [x]) (rcl_add _ l v' _ x i h h' (bb_f n1) (bb_f n2) (bb_f hup) hseg ha) (Nat.le_trans hB hee.n) (he.trans (Nat.le_refl _) hee) (by simpa using hr') (by simp; omega)
end Go.Proofs.P05

namespace Go.Proofs.P05
open Go AEv Go.Proofs
set_option maxRecDepth 100000

theorem rcl_jloop (call : CallT → List AV → AHeap → FRes) (xs : List (List UInt8)) (vb : Nat) (rest : List AV) (h : AHeap) (hv : h.get vb = some (.cells (xs.map .str ++ rest) 9 .opn 0 0)) (hlen : xs.length ≤ 10) (hxl : ∀ x ∈ xs, x.length ≤ 50000) :
    ∀ (k i : Nat) (acc : List UInt8), xs.length - i = k → i ≤ xs.length → acc.length ≤ 60000 * i → LoopF Tryd.prog Tryd.f8 none call [1, 1, 1, 1, 1, 1, 0, 1, 0] (k + 1) ⟨[(4, .slice vb 0 xs.length (.opn 1)), (8, .str acc), (9, .int .i64 (Int.ofNat i))], [], .none, h⟩ (.exit 3) ⟨[(8, .str (join1 acc (xs.drop i)))], [], .none, h⟩
  | 0, i, acc, hk, hi, ha => by
    have e : xs.drop i = [] := List.drop_eq_nil_of_le (by omega)
    rw [e]
    exact .exit (rcl_jend call vb 0 xs.length i (.opn 1) acc h (lt_f (by omega))) (by simp)
  | k + 1, i, acc, hk, hi, ha => by
    have hlt : i < xs.length := by omega
    have e : xs.drop i = xs[i] :: xs.drop (i + 1) := List.drop_eq_getElem_cons hlt
    have hx := load_at hv hlt
    have hxl' := hxl xs[i] (List.getElem_mem hlt)
    rw [e]
    refine .step (rcl_jrd call vb 0 xs.length i (.opn 1) acc xs[i] h (lt_t hlt) (str_add (by simp; omega)) ⟨hlt, rfl⟩ hx (str_add (by simp; omega)) (add1 hlt (by omega))) ?_
    exact rcl_jloop call xs vb rest h hv hlen hxl k (i + 1) _ (by omega) (by omega) (by simp; omega)

theorem pcs_len : ∀ (s cur : List UInt8) (n : Nat), cur.length + s.length ≤ n → ∀ x ∈ pcs cur s, x.length ≤ n
  | [], cur, n, h, x, hx => by simp [pcs] at hx; subst hx; simpa using h
  | c :: s, cur, n, h, x, hx => by
    simp only [pcs] at hx
    split at hx
    · rcases List.mem_cons.1 hx with rfl | hx
      · simp at h; omega
      · exact pcs_len s [] n (by simp at h ⊢; omega) x hx
    · exact pcs_len s (cur ++ [c]) n (by simp at h ⊢; omega) x hx
theorem pcs_ne : ∀ (s cur : List UInt8), pcs cur s ≠ []
  | [], cur => by simp [pcs]
  | c :: s, cur => by
    simp only [pcs]
    split
    · simp
    · exact pcs_ne s _
/-- What a fold leaves is a segment each. -/
theorem fold_seg : ∀ (l st st' : List (List UInt8)), fold st l = some st' → (∀ x ∈ st, segL x = true) → ∀ x ∈ st', segL x = true
  | [], st, st', h, hs => by cases h; exact hs
  | x :: l, st, st', h, hs => by
    simp only [fold] at h
    split at h
    · exact fold_seg l st st' h hs
    · split at h
      · split at h
        · cases h
        · exact fold_seg l _ st' h (fun y hy => hs y ((List.dropLast_sublist _).subset hy))
      · split at h
        · rename_i hx
          refine fold_seg l _ st' h (fun y hy => ?_)
          rcases List.mem_append.1 hy with hy | hy
          · exact hs y hy
          · simp at hy; subst hy; exact hx
        · cases h
theorem seg_len {x : List UInt8} (h : segL x = true) : x.length ≤ 16 := by
  simp only [segL, Bool.and_eq_true, decide_eq_true_eq] at h
  exact h.2

/-- The reference's Clean. -/
theorem rclean_c (m : Nat) (s : List UInt8) (h : AHeap) (hs : s.length ≤ 50000) :
    ∃ h', C (m + 2) (.fn 8) [.str s] h = .ret (match cleanL s with | some p => .tup [.str p, .int .i64 (Int.ofNat 0)] | none => .tup [.str [], .int .i64 (Int.ofNat 6)]) h' ∧ Ext h.n h h' := by
  obtain ⟨v, h1, c1, r1, e1, l1⟩ := pieces_c m s h hs
  have hne : pcs [] s ≠ [] := pcs_ne s []
  rcases r1 with ⟨_, hnil⟩ | ⟨vb, rest, rfl, hg, hb1, hb2, _⟩
  · exact absurd (by simpa using hnil) hne
  have hml : ((pcs [] s).map AV.str).length = (pcs [] s).length := by simp
  rw [hml] at c1
  have hloop := rcl_loop m (pcs [] s) h1.n vb rest h1 hg hb2 (by omega) (pcs_len s [] 50000 (by simpa using hs)) (pcs [] s).length 0 h1 .nilS [] (by omega) (by omega) (Nat.le_refl _) (Ext.refl _ _) (.inl ⟨rfl, rfl⟩) (by simp)
  rw [List.drop_zero] at hloop
  have z := rcl_z (C (m + 1)) s h
  have zl := rcl_l (C (m + 1)) s h
  have zp := rcl_p (C (m + 1)) s (.slice vb 0 (pcs [] s).length (.opn 1)) h h1 c1
  have zi := rcl_i (C (m + 1)) (.slice vb 0 (pcs [] s).length (.opn 1)) h1
  -- from what the part behind the list of pieces does
  have up : ∀ {e : AEx} {Γ : Env} {h' : AHeap}, RunF Tryd.prog Tryd.f8 none (C (m + 1)) [1, 1, 1] ⟨[(4, .nilS), (5, .slice vb 0 (pcs [] s).length (.opn 1))], [], .none, h1⟩ e ⟨Γ, [], .none, h'⟩ → RunF Tryd.prog Tryd.f8 none (C (m + 1)) [] ⟨argsG 0 [.str s], [], .none, h⟩ e ⟨Γ, [], .none, h'⟩ := fun hr =>
    RunF.seq (p := []) (by kernel_rfl) (RunP.post z ⟨rfl, trivial⟩ : RunF _ _ _ _ _ _ _ ⟨[(0, .str s)], [], .none, h⟩) (RunF.seq (p := [1]) (by kernel_rfl) zl (RunF.seq (p := [1, 1]) (by kernel_rfl) zp hr))
  have isl : isLoop (sub (bodyOf Tryd.f8) [1, 1, 1, 0, 1, 0]) = true := by kernel_rfl
  unfold cleanL
  cases hf : fold [] (pcs [] s) with
  | none =>
    rw [hf] at hloop
    obtain ⟨h2, a1, a2⟩ := hloop
    have hl := RunF.blockx (p := [1, 1, 1, 0, 1]) (id := 0) (by kernel_rfl) (LoopF.run (p := [1, 1, 1, 0, 1, 0]) isl a1 (by omega)) (by simp)
    have hrun := up (RunF.seqx (p := [1, 1, 1]) (by kernel_rfl) (RunF.seq (p := [1, 1, 1, 0]) (by kernel_rfl) zi hl) (by simp))
    exact ⟨h2, fn_runF (n := m + 1) Tryd.func8 (by kernel_rfl) rfl (by kernel_rfl) hrun (.inl rfl) (by kernel_rfl), e1.trans e1.n a2⟩
  | some st' =>
    rw [hf] at hloop
    obtain ⟨l', h2, a1, a2, a3, a4⟩ := hloop
    have hl := RunF.block (p := [1, 1, 1, 0, 1]) (id := 0) (by kernel_rfl) (LoopF.run (p := [1, 1, 1, 0, 1, 0]) isl a1 (by omega))
    have hl2 := RunF.seq (p := [1, 1, 1, 0]) (by kernel_rfl) zi hl
    have up2 : ∀ {e : AEx} {Γ : Env} {h' : AHeap}, RunF Tryd.prog Tryd.f8 none (C (m + 1)) [1, 1, 1, 1] ⟨[(4, l')], [], .none, h2⟩ e ⟨Γ, [], .none, h'⟩ → RunF Tryd.prog Tryd.f8 none (C (m + 1)) [] ⟨argsG 0 [.str s], [], .none, h⟩ e ⟨Γ, [], .none, h'⟩ := fun hr =>
      up (RunF.seq (p := [1, 1, 1]) (by kernel_rfl) hl2 hr)
    have hext : Ext h.n h h2 := e1.trans e1.n a3
    have fin : ∀ {Γ : Env} {v : AV}, RunF Tryd.prog Tryd.f8 none (C (m + 1)) [] ⟨argsG 0 [.str s], [], .none, h⟩ .ret ⟨Γ, [], .none, h2⟩ → resS Tryd.prog (needFn Tryd.f8) Tryd.f8 Γ h2 = some v → ∃ h', C (m + 2) (.fn 8) [.str s] h = .ret v h' ∧ Ext h.n h h' := fun hr hres =>
      ⟨h2, fn_runF (n := m + 1) Tryd.func8 (by kernel_rfl) rfl (by kernel_rfl) hr (.inl rfl) hres, hext⟩
    rcases a2 with ⟨rfl, hst⟩ | ⟨b, rs, rfl, hgb, hb3, hb4, hrs⟩
    · have : st' = [] := by simpa using hst
      subst this
      exact fin (up2 (RunF.seqx (p := [1, 1, 1, 1]) (by kernel_rfl) (rcl_none_1 _ h2) (by simp))) (by kernel_rfl)
    · have hml2 : (st'.map AV.str).length = st'.length := by simp
      rw [hml2] at up2
      cases st' with
      | nil => exact fin (up2 (RunF.seqx (p := [1, 1, 1, 1]) (by kernel_rfl) (rcl_few_1 _ b 0 _ (.opn 1) h2 (eq_t (by simp))) (by simp))) (by kernel_rfl)
      | cons x l =>
        simp only
        by_cases h8 : l.length < 8
        · rw [if_pos h8]
          have hsg := fold_seg _ _ _ hf (fun y hy => by cases hy)
          have hseg : ∀ y ∈ x :: l, y.length ≤ 50000 := fun y hy => by have := seg_len (hsg y hy); omega
          have hx0 := load_at hgb (i := 0) (by simp)
          have hx0' : load1 h2 b (0 + 0 * 1) = some (.str x) := hx0
          have hx16 := seg_len (hsg x (by simp))
          have j := rcl_jloop (C (m + 1)) (x :: l) b rs h2 hgb (by simp; omega) hseg ((x :: l).length - 1) 1 x rfl (by simp) (by omega)
          have jl := RunF.block (p := [1, 1, 1, 1, 1, 1, 0, 1]) (id := 3) (by kernel_rfl) (LoopF.run (p := [1, 1, 1, 1, 1, 1, 0, 1, 0]) (by kernel_rfl) j (by simp; omega))
          have hrun := up2 (RunF.seq (p := [1, 1, 1, 1]) (by kernel_rfl) (rcl_few_3 _ b 0 _ (.opn 1) h2 (eq_f (by simp)) (lt_f (by simp; omega)))
            (RunF.seq (p := [1, 1, 1, 1, 1]) (by kernel_rfl) (rcl_first _ b 0 _ (.opn 1) x h2 ⟨by simp, rfl⟩ hx0')
              (RunF.seq (p := [1, 1, 1, 1, 1, 1]) (by kernel_rfl) (RunF.seq (p := [1, 1, 1, 1, 1, 1, 0]) (by kernel_rfl) (rcl_j _ _ x h2) jl) (rcl_ok _ _ h2))))
          exact fin hrun (by kernel_rfl)
        · rw [if_neg h8]
          exact fin (up2 (RunF.seqx (p := [1, 1, 1, 1]) (by kernel_rfl) (rcl_few_2 _ b 0 _ (.opn 1) h2 (eq_f (by simp)) (lt_t (by simp; omega))) (by simp))) (by kernel_rfl)
end Go.Proofs.P05

namespace Go.Proofs.P05
open Go AEv Go.Proofs
set_option maxRecDepth 100000

/-- Is a text a path. -/
def mayL (s : List UInt8) : Bool := (pcs [] s).all segL && decide ((pcs [] s).length ≤ 8)
theorem rmay_loop (m : Nat) (xs : List (List UInt8)) (vb : Nat) (rest : List AV) (h : AHeap) (hv : h.get vb = some (.cells (xs.map .str ++ rest) 9 .opn 0 0)) (hlen : xs.length ≤ 50001) (hxl : ∀ x ∈ xs, x.length ≤ 50000) : ∀ (k i : Nat), xs.length - i = k → i ≤ xs.length →
    ((xs.drop i).all segL = true → LoopF Tryd.prog Tryd.f10 none (C (m + 1)) [1, 1, 0, 1, 0] (k + 1) ⟨[(3, .slice vb 0 xs.length (.opn 1)), (4, .int .i64 (Int.ofNat i))], [], .none, h⟩ (.exit 0) ⟨[(3, .slice vb 0 xs.length (.opn 1))], [], .none, h⟩) ∧
    ((xs.drop i).all segL = false → LoopF Tryd.prog Tryd.f10 none (C (m + 1)) [1, 1, 0, 1, 0] (k + 1) ⟨[(3, .slice vb 0 xs.length (.opn 1)), (4, .int .i64 (Int.ofNat i))], [], .none, h⟩ .ret ⟨[(2, .bool false)], [], .none, h⟩)
  | 0, i, hk, hi => by
    have : xs.drop i = [] := List.drop_eq_nil_of_le (by omega)
    rw [this]
    exact ⟨fun _ => .exit (rmay_end _ vb 0 xs.length i (.opn 1) h (lt_f (by omega))) (by simp), fun h => by simp at h⟩
  | k + 1, i, hk, hi => by
    have hlt : i < xs.length := by omega
    have hd : xs.drop i = xs[i] :: xs.drop (i + 1) := List.drop_eq_getElem_cons hlt
    obtain ⟨ih1, ih2⟩ := rmay_loop m xs vb rest h hv hlen hxl k (i + 1) (by omega) (by omega)
    have hx := load_at hv hlt
    have hs := rseg_c m xs[i] h (hxl _ (List.getElem_mem hlt))
    rw [hd, List.all_cons]
    cases ho : segL xs[i] with
    | true =>
      rw [ho] at hs
      have hn := rmay_next _ vb 0 xs.length i (.opn 1) xs[i] h (lt_t hlt) ⟨hlt, rfl⟩ hx hs (add1 hlt (by omega))
      simp only [Bool.true_and]
      exact ⟨fun ha => .step hn (ih1 ha), fun ha => .step hn (ih2 ha)⟩
    | false =>
      rw [ho] at hs
      exact ⟨fun h => by simp at h, fun _ => .exit (rmay_no _ vb 0 xs.length i (.opn 1) xs[i] h (lt_t hlt) ⟨hlt, rfl⟩ hx hs) (by simp)⟩
/-- The reference's May. -/
theorem rmay_c (m : Nat) (s : List UInt8) (h : AHeap) (hs : s.length ≤ 50000) : ∃ h', C (m + 2) (.fn 10) [.str s] h = .ret (.bool (mayL s)) h' ∧ Ext h.n h h' := by
  obtain ⟨v, h1, c1, r1, e1, l1⟩ := pieces_c m s h hs
  have hne : pcs [] s ≠ [] := pcs_ne s []
  rcases r1 with ⟨_, hnil⟩ | ⟨vb, rest, rfl, hg, hb1, hb2, _⟩
  · exact absurd (by simpa using hnil) hne
  have hml : ((pcs [] s).map AV.str).length = (pcs [] s).length := by simp
  rw [hml] at c1
  obtain ⟨q1, q2⟩ := rmay_loop m (pcs [] s) vb rest h1 hg (by omega) (pcs_len s [] 50000 (by simpa using hs)) (pcs [] s).length 0 (by omega) (by omega)
  rw [List.drop_zero] at q1 q2
  have z := rmay_z (C (m + 1)) s h
  have zp := rmay_pre (C (m + 1)) s (.slice vb 0 (pcs [] s).length (.opn 1)) h h1 c1
  have zi := rmay_i (C (m + 1)) (.slice vb 0 (pcs [] s).length (.opn 1)) h1
  have up : ∀ {e : AEx} {Γ : Env} {h' : AHeap}, RunF Tryd.prog Tryd.f10 none (C (m + 1)) [1, 1] ⟨[(3, .slice vb 0 (pcs [] s).length (.opn 1))], [], .none, h1⟩ e ⟨Γ, [], .none, h'⟩ → RunF Tryd.prog Tryd.f10 none (C (m + 1)) [] ⟨argsG 0 [.str s], [], .none, h⟩ e ⟨Γ, [], .none, h'⟩ := fun hr =>
    RunF.seq (p := []) (by kernel_rfl) (RunP.post z ⟨rfl, trivial⟩ : RunF _ _ _ _ _ _ _ ⟨[(0, .str s)], [], .none, h⟩) (RunF.seq (p := [1]) (by kernel_rfl) zp hr)
  have isl : isLoop (sub (bodyOf Tryd.f10) [1, 1, 0, 1, 0]) = true := by kernel_rfl
  unfold mayL
  cases ha : (pcs [] s).all segL with
  | false =>
    have hl := RunF.blockx (p := [1, 1, 0, 1]) (id := 0) (by kernel_rfl) (LoopF.run (p := [1, 1, 0, 1, 0]) isl (q2 ha) (by omega)) (by simp)
    have hrun := up (RunF.seqx (p := [1, 1]) (by kernel_rfl) (RunF.seq (p := [1, 1, 0]) (by kernel_rfl) zi hl) (by simp))
    exact ⟨h1, fn_runF (n := m + 1) Tryd.func10 (by kernel_rfl) rfl (by kernel_rfl) hrun (.inl rfl) (by kernel_rfl), e1⟩
  | true =>
    have hl := RunF.block (p := [1, 1, 0, 1]) (id := 0) (by kernel_rfl) (LoopF.run (p := [1, 1, 0, 1, 0]) isl (q1 ha) (by omega))
    have hrun := up (RunF.seq (p := [1, 1]) (by kernel_rfl) (RunF.seq (p := [1, 1, 0]) (by kernel_rfl) zi hl) (rmay_tail (C (m + 1)) vb 0 (pcs [] s).length (.opn 1) h1))
    rw [leI_n] at hrun
    exact ⟨h1, fn_runF (n := m + 1) Tryd.func10 (by kernel_rfl) rfl (by kernel_rfl) hrun (.inl rfl) (by kernel_rfl), e1⟩
end Go.Proofs.P05
