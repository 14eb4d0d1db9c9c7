/-
  PROVED HERE: contracts of functions (Dp). No condition beside each statement's own.
-/
import Derived.Test.YtbndinilpflomaaDb
import Derived.Test.YtbndinilpflomaaSxa
set_option linter.unusedVariables false
set_option linter.unusedSimpArgs false
namespace Go.Proofs.Wire
open Go AEv Go.Proofs Go.Proofs.Enc
set_option maxRecDepth 100000

theorem c3 (call : CallT → List AV → AHeap → FRes) (a b : Nat) (a1 a2 a3 : List UInt8) (e : AEx) (Γ : Env) (h h2 : AHeap)
    (H1 : AEv.loadCells h a 0 3 = some [.str a1, .str a2, .str a3])
    (H2 : RunF Try.prog Try.f72 none call [1, 0, 1, 0] (SSt.mk [(6, .int .i64 (.ofNat 0)), (5, .agg [.str a1, .str a2, .str a3]), (2, .int .i64 (.ofNat 0)), (0, .ptr a 0), (1, .ptr b 0)] [] .none h) (.exit 0) (SSt.mk [] [] .none h2)) :
    RunF Try.prog Try.f72 none call [] (SSt.mk [(0, .ptr a 0), (1, .ptr b 0)] [] .none h) (.ret)
      (SSt.mk [(2, .int .i64 (.ofNat 0))] [] .none h2) :=
  sxF_run [2] (hs := [Hint.v (AV.agg [AV.str a1, AV.str a2, AV.str a3]), Hint.loop (AEx.exit 0) (SSt.mk [] [] Rc.none h2)]) (by kernel_rfl) <| .cons H1 <| .cons H2 <| .nil
/-! ### msg: requests -/
/-- Which texts a kind has. -/
def own (k : Nat) : Nat → Bool := match k with
  | 1 => sel3 false false true
  | 2 | 7 | 8 => sel3 true false false
  | 4 | 6 => sel3 true true false
  | _ => sel3 true true true
def bad2 (k : Nat) (a b c : List UInt8) (i : Nat) : Bool := !beqBytes (sel3 a b c i) [] && !(own k i)
def bad3 (a b c : List UInt8) (i : Nat) : Bool := ltI (Int.ofNat (sel3 64 200 5000 i)) (Int.ofNat (sel3 a b c i).length)
def chkN (k : Int) (a b c : List UInt8) : Nat := if 1 ≤ k ∧ k ≤ 9 then (if anyF (bad2 k.toNat a b c) 3 0 then 2 else if anyF (bad3 a b c) 3 0 then 3 else 0) else 2

end Go.Proofs.Wire

namespace Go.Proofs.Wire
open Go AEv Go.Proofs Go.Proofs.Enc
set_option maxRecDepth 100000
set_option maxHeartbeats 400000

/-! ### Requests: laid -/
/-! ### The document's answer -/
/-! ### The law -/
theorem works27_c (m : Nat) (h : AHeap) : C (m + 1) (.fn 32) [] h = .ret (.bool true) h := tab_c (by kernel_rfl)
end Go.Proofs.Wire
