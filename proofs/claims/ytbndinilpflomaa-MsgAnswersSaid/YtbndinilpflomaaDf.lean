/-
  PROVED HERE: contracts of functions (Df). No condition beside each statement's own.
-/
import Derived.Test.YtbndinilpflomaaDb
set_option linter.unusedVariables false
set_option linter.unusedSimpArgs false
namespace Go.Proofs.Enc
open Go AEv

/-! ### Numbers and texts that are read -/
def szOf (b : Nat) : Nat := if b ≤ 240 then 0 else if b ≤ 248 then 1 else if b = 249 then 2 else b - 247
def lowN : Nat → List UInt8 → Nat
  | a, [] => a
  | a, c :: t => lowN (a * 256 + c.toNat) t
def vlOf (b : Nat) (t : List UInt8) : Nat := if b ≤ 240 then b else if b ≤ 248 then 240 + 256 * (b - 241) + lowN 0 t else if b = 249 then 2288 + lowN 0 t else lowN 0 t
/-- The number that stands ahead, and what is behind it. -/
def rdNum : List UInt8 → Option (Nat × List UInt8)
  | [] => none
  | b :: t => if t.length < szOf b.toNat then none else if numL (vlOf b.toNat (t.take (szOf b.toNat))) = b :: t.take (szOf b.toNat) then some (vlOf b.toNat (t.take (szOf b.toNat)), t.drop (szOf b.toNat)) else none
/-- A reader: what is ahead; spent: none. -/
abbrev RdS := Option (List UInt8)
def numS : RdS → Nat × RdS
  | none => (0, none)
  | some s => match rdNum s with
    | none => (0, none)
    | some (n, r) => (n, some r)
def cutS (n : Nat) : RdS → List UInt8 × RdS
  | none => ([], none)
  | some s => if n ≤ s.length then (s.take n, some (s.drop n)) else ([], none)
def textS (st : RdS) : List UInt8 × RdS := cutS (numS st).1 (numS st).2
def left : RdS → List UInt8
  | none => []
  | some s => s
end Go.Proofs.Enc

namespace Go.Proofs.Wire
open Go AEv Go.Proofs Go.Proofs.Enc
set_option maxRecDepth 100000
set_option maxHeartbeats 1000000

theorem ok1 (call : CallT → List AV → AHeap → FRes) (p : Nat) (h : AHeap) (b_1 : Bool)
    (H1 : load1 h p (0 + 1) = some (.bool b_1)) :
    RunF Try.prog Try.f57 none call [] (SSt.mk [(0, .ptr p 0)] [] .none h) (.ret)
      (SSt.mk [(2, .bool !b_1)] [] .none h) :=
  sxF_run [2] (hs := [.v (.bool !false), .b true, .b true, .b true, .b true, .v (.bool b_1), .b true, .b true]) (by kernel_rfl) <| .cons (by kernel_rfl : binA Try.prog h BinOp.neq 72 (Operand.tmp 3) (Operand.const (Value.pointer none)) (AV.ptr p 0) AV.nilP = some (AV.bool !false)) <| .cons (by kernel_rfl : (!false) = true) <| .cons (by kernel_rfl : (!false) = true) <| .cons (by kernel_rfl : (!false) = true) <| .cons (by kernel_rfl : (!false) = true) <| .cons H1 <| .cons (by kernel_rfl : (!false) = true) <| .cons (by kernel_rfl : (!false) = true) <| .nil
/-! ### Numbers -/
/-! ### The document's reader -/
def endS : RdS → Bool
  | none => false
  | some s => s.isEmpty
end Go.Proofs.Wire

namespace Go.Proofs.Wire
open Go AEv Go.Proofs Go.Proofs.Enc
set_option maxRecDepth 100000
set_option maxHeartbeats 1000000

/-! ### wire.Reader -/
end Go.Proofs.Wire

namespace Go.Proofs.Wire
open Go AEv Go.Proofs Go.Proofs.Enc
set_option maxRecDepth 100000
set_option maxHeartbeats 1000000

/-! ### wire.says, Num, Text -/
def srtK : Nat → Nat × Nat × Nat × Nat
  | 0 => (0, 240, 0, 0)
  | 1 => (240, 2287, 241, 1)
  | 2 => (2288, 67823, 249, 2)
  | k => (0, 256 ^ k - 1, 247 + k, k)
section
variable (m l : Nat) (I : Nat → AHeap → Prop) (Q : AHeap → Prop)
  (hy : ∀ k x, k < 9 → I k x → (∃ x', C m (.yld l) [.agg (srtV (srtK k))] x = .ret (.bool true) x' ∧ I (k + 1) x') ∨ (∃ x', C m (.yld l) [.agg (srtV (srtK k))] x = .ret (.bool false) x' ∧ Q x'))
include hy
end

end Go.Proofs.Wire

namespace Go.Proofs.Wire
open Go AEv Go.Proofs Go.Proofs.Enc
set_option maxRecDepth 100000
set_option maxHeartbeats 1000000

/-! ### wire.says, Num, Text: joined -/
end Go.Proofs.Wire

namespace Go.Proofs.Wire
open Go AEv Go.Proofs Go.Proofs.Enc
set_option maxRecDepth 100000
set_option maxHeartbeats 1000000

/-! ### wire.Reader: Num, Text -/
end Go.Proofs.Wire
