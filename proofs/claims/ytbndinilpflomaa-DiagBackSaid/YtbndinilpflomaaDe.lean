/-
  PROVED HERE: contracts of functions (De). No condition beside each statement's own.
-/
import Derived.Test.YtbndinilpflomaaDd
set_option linter.unusedVariables false
set_option linter.unusedSimpArgs false
namespace Go.Proofs.Wire
open Go AEv Go.Proofs Go.Proofs.Enc
set_option maxRecDepth 100000
set_option maxHeartbeats 1000000

theorem d1 (call : CallT → List AV → AHeap → FRes) (v : AV) (y : AV) (h : AHeap)  :
    RunF Try.prog Try.f3 none call [0] (SSt.mk [(0, v), (1, y)] [] Rc.none h) (AEx.nrm)
      (SSt.mk [(0, v), (1, y)] [] Rc.none h) :=
  sxF_run [0, 1] (hs := []) (by kernel_rfl) <| .nil
theorem d2 (call : CallT → List AV → AHeap → FRes) (b : Nat) (o : Nat) (n : Nat) (m : Nat) (y : AV) (c : Cap) (c2 : Cap) (h : AHeap) 
    (H1 : foldA minA (AV.int IntKind.i64 (Int.ofNat n)) [AV.int IntKind.i64 (Int.ofNat 300)] = some (AV.int IntKind.i64 (Int.ofNat m)))
    (H2 : sliceA Try.prog h 22 (AV.slice b o n c) none (some (AV.int IntKind.i64 (Int.ofNat m))) none = some (AV.slice b o m c2)) :
    RunF Try.prog Try.f3 none call [1, 0] (SSt.mk [(0, AV.slice b o n c), (1, y)] [] Rc.none h) (AEx.nrm)
      (SSt.mk [(0, AV.slice b o m c2), (1, y)] [] Rc.none h) :=
  sxF_run [0, 1] (hs := [Hint.v (AV.int IntKind.i64 (Int.ofNat m)), Hint.v (AV.slice b o m c2)]) (by kernel_rfl) <| .cons H1 <| .cons H2 <| .nil
theorem d3 (call : CallT → List AV → AHeap → FRes) (v : AV) (y : AV) (h : AHeap)  :
    RunF Try.prog Try.f3 none call [1, 1, 0] (SSt.mk [(0, v), (1, y)] [] Rc.none h) (AEx.nrm)
      (SSt.mk [(0, v), (1, y), (5, AV.nilS)] [] Rc.none h) :=
  sxF_run [0, 1, 5] (hs := []) (by kernel_rfl) <| .nil
/-! ### The document's order -/
/-! ### Appending, whatever there is -/
/-- A row of one's own, all of its block. -/
def OutR (B : Nat) (h : AHeap) (w : AV) (ds : List Dg) : Prop :=
  (w = .nilS ∧ ds = []) ∨ ∃ p, w = .slice p 0 ds.length (.opn 3) ∧ 0 < ds.length ∧ h.get p = some (.cells (rowL encD ds) 35 .opn 0 0) ∧ B ≤ p ∧ p < h.n
theorem OutR.le {B B' : Nat} {h : AHeap} {w : AV} {ds : List Dg} (hB : B ≤ B') : OutR B' h w ds → OutR B h w ds
  | .inl h => .inl h
  | .inr ⟨p, h1, h2, h3, h4, h5⟩ => .inr ⟨p, h1, h2, h3, Nat.le_trans hB h4, h5⟩
theorem OutR.mono {B B' : Nat} {h h' : AHeap} {w : AV} {ds : List Dg} (e : Ext B' h h') (hB : h.n ≤ B') : OutR B h w ds → OutR B h' w ds
  | .inl h => .inl h
  | .inr ⟨p, h1, h2, h3, h4, h5⟩ => .inr ⟨p, h1, h2, (e.get p (by omega)).trans h3, h4, Nat.lt_of_lt_of_le h5 e.n⟩
end Go.Proofs.Wire

namespace Go.Proofs.Wire
open Go AEv Go.Proofs Go.Proofs.Enc
set_option maxRecDepth 100000
set_option maxHeartbeats 1000000

/-! ### The document's sorting -/
/-- What is there so far. -/
def SoFar (l ds : List Dg) : Prop := Rise ds ∧ (∀ x, x ∈ ds ↔ x ∈ l ∧ mayB x = true) ∧ ds.length ≤ l.length
theorem SoFar.skip {l ds : List Dg} {d : Dg} (h : SoFar l ds) (hd : mayB d = false ∨ d ∈ ds) : SoFar (l ++ [d]) ds := by
  refine ⟨h.1, fun x => ?_, by rw [List.length_append]; exact Nat.le_trans h.2.2 (by omega)⟩
  rw [h.2.1 x, List.mem_append, List.mem_singleton]
  constructor
  · rintro ⟨h1, h2⟩; exact ⟨.inl h1, h2⟩
  · rintro ⟨h1 | rfl, h2⟩
    · exact ⟨h1, h2⟩
    · rcases hd with hd | hd
      · rw [hd] at h2; cases h2
      · exact (h.2.1 x).1 hd
end Go.Proofs.Wire

namespace Go.Proofs.Wire
open Go AEv Go.Proofs Go.Proofs.Enc
set_option maxRecDepth 100000
set_option maxHeartbeats 1000000

/-! ### The document's sorting, whole; its bytes; words -/
end Go.Proofs.Wire

namespace Go.Proofs.Wire
open Go AEv Go.Proofs Go.Proofs.Enc
set_option maxRecDepth 100000
set_option maxHeartbeats 1000000

/-! ### The document's bytes; words; DiagSorts -/
/-! ### DiagSorts -/
theorem RowIn.src {h : AHeap} {v : AV} {ds : List Dg} (hr : RowIn h v ds) : srcCells h 3 v = some (ds.length, rowL encD ds) := by
  rcases hr with ⟨rfl, rfl⟩ | ⟨b, off, c, rfl, hb, hs⟩
  · rfl
  · exact hs h rfl
theorem OutR.rowR {B : Nat} {h : AHeap} {w : AV} {ds : List Dg} (ho : OutR B h w ds) : RowR h w ds := by
  rcases ho with h | ⟨p, h1, h2, h3, h4, h5⟩
  · exact .inl h
  · exact .inr ⟨p, _, h1, fun _ => h5, fun i hi => row_load (off := 0 + i * 3) (rest := []) encD_len (by rw [List.append_nil]; exact h3) hi (by omega)⟩
end Go.Proofs.Wire
