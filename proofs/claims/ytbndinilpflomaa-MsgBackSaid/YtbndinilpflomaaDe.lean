/-
  PROVED HERE: contracts of functions (De). No condition beside each statement's own.
-/
import Derived.Test.YtbndinilpflomaaDd
set_option linter.unusedVariables false
set_option linter.unusedSimpArgs false
namespace Go.Proofs.Wire
open Go AEv Go.Proofs Go.Proofs.Enc
set_option maxRecDepth 100000
set_option maxHeartbeats 1000000

theorem d1 (call : CallT → List AV → AHeap → FRes) (v y : AV) (h : AHeap) :
    RunF Try.prog Try.f3 none call [0] (SSt.mk [(0, v), (1, y)] [] .none h) (.nrm)
      (SSt.mk [(0, v), (1, y)] [] .none h) :=
  sxF_run [0, 1] (hs := []) (by kernel_rfl) <| .nil
theorem d2 (call : CallT → List AV → AHeap → FRes) (b o n m : Nat) (y : AV) (c c2 : Cap) (h : AHeap)
    (H1 : foldA minA (AV.int IntKind.i64 (Int.ofNat n)) [AV.int IntKind.i64 (Int.ofNat 300)] = some (AV.int IntKind.i64 (Int.ofNat m)))
    (H2 : sliceA Try.prog h 22 (AV.slice b o n c) none (some (AV.int IntKind.i64 (Int.ofNat m))) none = some (AV.slice b o m c2)) :
    RunF Try.prog Try.f3 none call [1, 0] (SSt.mk [(0, .slice b o n c), (1, y)] [] .none h) (.nrm)
      (SSt.mk [(0, .slice b o m c2), (1, y)] [] .none h) :=
  sxF_run [0, 1] (hs := [.v (.int .i64 (.ofNat m)), .v (.slice b o m c2)]) (by kernel_rfl) <| .cons H1 <| .cons H2 <| .nil
theorem d3 (call : CallT → List AV → AHeap → FRes) (v y : AV) (h : AHeap) :
    RunF Try.prog Try.f3 none call [1, 1, 0] (SSt.mk [(0, v), (1, y)] [] .none h) (.nrm)
      (SSt.mk [(0, v), (1, y), (5, .nilS)] [] .none h) :=
  sxF_run [0, 1, 5] (hs := []) (by kernel_rfl) <| .nil
/-! ### The document's order -/
/-! ### Appending, whatever there is -/
/-- A row of one's own, all of its block. -/
def OutR (B : Nat) (h : AHeap) (w : AV) (ds : List Dg) : Prop :=
  (w = .nilS ∧ ds = []) ∨ ∃ p, w = .slice p 0 ds.length (.opn 3) ∧ 0 < ds.length ∧ h.get p = some (.cells (rowL encD ds) 35 .opn 0 0) ∧ B ≤ p ∧ p < h.n
theorem OutR.mono {B B' : Nat} {h h' : AHeap} {w : AV} {ds : List Dg} (e : Ext B' h h') (hB : h.n ≤ B') : OutR B h w ds → OutR B h' w ds
  | .inl h => .inl h
  | .inr ⟨p, h1, h2, h3, h4, h5⟩ => .inr ⟨p, h1, h2, (e.get p (by omega)).trans h3, h4, Nat.lt_of_lt_of_le h5 e.n⟩
end Go.Proofs.Wire

namespace Go.Proofs.Wire
open Go AEv Go.Proofs Go.Proofs.Enc
set_option maxRecDepth 100000
set_option maxHeartbeats 1000000

/-! ### The document's sorting -/
end Go.Proofs.Wire

namespace Go.Proofs.Wire
open Go AEv Go.Proofs Go.Proofs.Enc
set_option maxRecDepth 100000
set_option maxHeartbeats 1000000

/-! ### The document's sorting, whole; its bytes; words -/
end Go.Proofs.Wire

namespace Go.Proofs.Wire
open Go AEv Go.Proofs Go.Proofs.Enc
set_option maxRecDepth 100000
set_option maxHeartbeats 1000000

/-! ### The document's bytes; words; DiagSorts -/
/-! ### DiagSorts -/
end Go.Proofs.Wire
