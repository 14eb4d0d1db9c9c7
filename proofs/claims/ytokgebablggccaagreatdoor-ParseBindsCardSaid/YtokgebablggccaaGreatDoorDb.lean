/-
  PROVED HERE: contracts of functions (Db). No condition beside each statement's own.
-/
import Derived.Test.YtokgebablggccaaGreatDoorSxa
set_option linter.unusedVariables false
set_option linter.unusedSimpArgs false
namespace Lexp
open Go AEv

/-! ### Characters in UTF-8, in plain words -/
def cont : List UInt8 → Bool
  | b :: _ => b.toNat / 64 == 2
  | [] => false
def hd (l : List UInt8) : Nat := match l with
  | b :: _ => b.toNat
  | [] => 0
def vld (c : Nat) : Bool := Utf8.valid (c : Int)
/-- The first character's number and how many bytes it has (65533 and 1: there is none). -/
def decP : List UInt8 → Nat × Nat
  | [] => (65533, 1)
  | b :: t =>
    let b0 := b.toNat
    if b0 < 128 then (b0, 1)
    else if b0 / 32 == 6 && cont t then
      let c := (b0 % 32) * 64 + hd t % 64
      if c ≥ 128 then (c, 2) else (65533, 1)
    else if b0 / 16 == 14 && cont t && cont (t.drop 1) then
      let c := (b0 % 16) * 4096 + (hd t % 64) * 64 + hd (t.drop 1) % 64
      if c ≥ 2048 && vld c then (c, 3) else (65533, 1)
    else if b0 / 8 == 30 && cont t && cont (t.drop 1) && cont (t.drop 2) then
      let c := (b0 % 8) * 262144 + (hd t % 64) * 4096 + (hd (t.drop 1) % 64) * 64 + hd (t.drop 2) % 64
      if c ≥ 65536 && vld c then (c, 4) else (65533, 1)
    else (65533, 1)
/-- From where to where the second byte may be, and how many bytes there are. -/
def second (c : Nat) : Nat × Nat × Nat :=
  if 194 ≤ c ∧ c ≤ 223 then (128, 191, 2)
  else if c = 224 then (160, 191, 3)
  else if c = 237 then (128, 159, 3)
  else if 224 < c ∧ c ≤ 239 then (128, 191, 3)
  else if c = 240 then (144, 191, 4)
  else if 240 < c ∧ c ≤ 243 then (128, 191, 4)
  else if c = 244 then (128, 143, 4)
  else (0, 0, 0)
def win (l : List UInt8) (lo hi : Nat) : Bool := match l with
  | b :: _ => decide (lo ≤ b.toNat) && decide (b.toNat ≤ hi)
  | [] => false
/-- How many bytes the first character has; 0: there is none. -/
def chr : List UInt8 → Nat
  | [] => 0
  | b :: t => if b.toNat < 128 then 1 else
    match second b.toNat with
    | (lo, hi, 2) => if win t lo hi then 2 else 0
    | (lo, hi, 3) => if win t lo hi && win (t.drop 1) 128 191 then 3 else 0
    | (lo, hi, 4) => if win t lo hi && win (t.drop 1) 128 191 && win (t.drop 2) 128 191 then 4 else 0
    | _ => 0
end Lexp

namespace Lexp
open Go AEv

/-! ### A source as tokens, in plain words -/
def letterB (b : UInt8) : Bool := (decide (97 ≤ b.toNat) && decide (b.toNat ≤ 122)) || (decide (65 ≤ b.toNat) && decide (b.toNat ≤ 90)) || b.toNat == 95
def digitB (b : UInt8) : Bool := decide (48 ≤ b.toNat) && decide (b.toNat ≤ 57)
def blankB (b : UInt8) : Bool := b.toNat == 32 || b.toNat == 9 || b.toNat == 10 || b.toNat == 13
def words : List (List UInt8) := [[105, 109, 112, 111, 114, 116], [97, 115], [116, 121, 112, 101], [108, 101, 116], [102, 117, 110], [102, 110], [105, 102], [116, 104, 101, 110], [101, 108, 115, 101], [105, 110], [97, 110, 100], [111, 114], [110, 111, 116], [114, 111, 108, 108], [117, 110, 114, 111, 108, 108], [116, 114, 117, 101], [102, 97, 108, 115, 101], [110, 105, 108], [105, 110, 116], [98, 111, 111, 108], [115, 116, 114], [97, 110, 121]]
def inW (s : List UInt8) : Bool := words.any fun w => beqBytes w s
/-- The signs, longer ones ahead of their beginnings. -/
def signs : List (List UInt8) := [[45, 62], [61, 62], [61, 61], [46, 46], [61], [58], [46], [44], [40], [41], [123], [125], [124], [60], [43], [45], [42]]
def sgn (s : List UInt8) : Option (List UInt8) := signs.find? fun g => g.isPrefixOf s
/-- A remark: to the line's end, or where there is no character. -/
def remk : Nat → List UInt8 → Nat → Bool × Nat
  | 0, _, off => (true, off)
  | f + 1, s, off => match s with
    | [] => (true, off)
    | b :: t => if b.toNat = 10 then (true, off) else match chr (b :: t) with
      | 0 => (false, off)
      | n + 1 => remk f (t.drop n) (off + (n + 1))
inductive TR where
  | ok (out : List UInt8) (off : Nat)
  | bad (off : Nat)
/-- A text in quotes, behind the first one, which stands at 0. -/
def txt : Nat → List UInt8 → Nat → List UInt8 → TR
  | 0, _, _, _ => .bad 0
  | f + 1, s, off, out => match s with
    | [] => .bad 0
    | b :: t => if b.toNat = 10 then .bad 0
      else if b.toNat = 34 then .ok out (off + 1)
      else if b.toNat = 92 then match t with
        | [] => .bad off
        | e :: t' => if e.toNat = 34 ∨ e.toNat = 92 then txt f t' (off + 2) (out ++ [e])
          else if e.toNat = 110 then txt f t' (off + 2) (out ++ [10])
          else .bad off
      else match chr (b :: t) with
        | 0 => .bad off
        | n + 1 => txt f (t.drop n) (off + (n + 1)) (out ++ b :: t.take n)
/-- The number that digits tell; none: it is too great. -/
def numV : List UInt8 → Nat → Option Nat
  | [], n => some n
  | b :: t, n => let d := b.toNat - 48
    if n > (9223372036854775807 - d) / 10 then none else numV t (10 * n + d)
inductive El where
  | skip (n : Nat)
  | tok (k : Nat) (t : List UInt8) (v n : Nat)
  | bad (off : Nat)
/-- What stands first in a source that is not empty. -/
def el (s : List UInt8) : El := match s with
  | [] => .bad 0
  | c :: r =>
    if blankB c then .skip 1
    else if c.toNat = 35 then match remk s.length s 0 with
      | (true, n) => .skip n
      | (false, n) => .bad n
    else if letterB c then
      let w := s.takeWhile fun b => letterB b || digitB b
      if w.length > 24 then .bad 0 else .tok (if inW w then 2 else 1) w 0 w.length
    else if digitB c then
      let w := s.takeWhile digitB
      match numV w 0 with
      | none => .bad 0
      | some v => .tok 3 [] v w.length
    else if c.toNat = 34 then match txt s.length r 1 [] with
      | .ok t n => .tok 4 t 0 n
      | .bad n => .bad n
    else match sgn s with
      | none => .bad 0
      | some g => .tok 5 g 0 g.length
/-! ### Each element has bytes, and lies in the source -/
end Lexp

namespace Lexp
open Go AEv

/-! ### Characters do not go over a line's end -/
end Lexp
