/-
  No cell of these rows narrows 'for every input' (looked for: loops, veiled, ifaces, maps, wideKeys, modest, calm, conditions, laid).
  DERIVED. THE GIVEN ROWS OF THIS SEAT. 11 by the template 'for every input the law returns true; each argument reads behind the call as it read before'; 0 by the template 'total and deterministic' (their statements: YtbndinilpflomaaTotals.lean).
  GIVEN WITH THE SEED: the statements are not yours to turn. If you find one false, say at which input.
  Laid BY PROGRAM, IN A SANDBOX (cutbox-rows.mjs): the forced cells as the released guide's own fill.sh prints them over the translation 6823fb06b1fff74d… (all of the seat's roots in one cut). By AI agents, Wed Nov 11 2026. No macro, syntax, notation, axiom, sorry.
-/
import Derived.Test.YtbndinilpflomaaChecked
import GoSem.Claim
import GoSem.ClaimJoined
import GoSem.ClaimMapViews
import Derived.JoinedTies
import Derived.KernelRfl
namespace Go.Proofs.Ytbndinilpflomaa
/- THE CELL 'sum', in the pinned program and in every row, IS THE sha256 OF THE DUMP (.gsa) THAT YtbndinilpflomaaProg.lean LOADS. Nothing in Lean hashes anything: it is a label: what it is worth is what the hold of that sum in a sandbox is worth. -/
noncomputable def Try.pinned : Pinned := { name := "ytbndinilpflomaa", sum := "6823fb06b1fff74df774fa2ffd175bb6eb02813dc3af41d953526e62f6a1bac8", checked := Try.checked }
namespace Rows
def none {H : Type} : Left H := { results := [], args := [] }

/-- 'lodgerlaw26.DiagSorts': WHATEVER THE INPUT: true; the input reads as it did. -/
def diagSortsSpec : ChangeSpec := { name := "diagSorts", fn := fun _ => fun
  | [d1, d2] => { results := [.lit (.bool true)], args := [d1, d2] }
  | _ => none }
def diagSortsRow : OpenClaim := { program := "ytbndinilpflomaa", sum := "6823fb06b1fff74df774fa2ffd175bb6eb02813dc3af41d953526e62f6a1bac8", func := "lodger/lodgerlaw26.DiagSorts", spec := "diagSorts", unfollowed := true, recurses := true, apart := false }
def DiagSortsSaid : Prop := diagSortsRow.holds Try.pinned (OpenSpec.ofChange diagSortsSpec)

/-- ITS FALSE NEIGHBOUR: 'it returns false'. Refute it at one input. -/
def diagSortsWrong : ChangeSpec := { name := "diagSorts", fn := fun _ => fun
  | [d1, d2] => { results := [.lit (.bool false)], args := [d1, d2] }
  | _ => none }
def DiagSortsWrongFalsely : Prop := diagSortsRow.holds Try.pinned (OpenSpec.ofChange diagSortsWrong)

/-- 'lodgerlaw26.DiagReads': WHATEVER THE INPUT: true; the input reads as it did. -/
def diagReadsSpec : ChangeSpec := { name := "diagReads", fn := fun _ => fun
  | [d] => { results := [.lit (.bool true)], args := [d] }
  | _ => none }
def diagReadsRow : OpenClaim := { program := "ytbndinilpflomaa", sum := "6823fb06b1fff74df774fa2ffd175bb6eb02813dc3af41d953526e62f6a1bac8", func := "lodger/lodgerlaw26.DiagReads", spec := "diagReads", unfollowed := true, recurses := true, apart := false }
def DiagReadsSaid : Prop := diagReadsRow.holds Try.pinned (OpenSpec.ofChange diagReadsSpec)

/-- ITS FALSE NEIGHBOUR: 'it returns false'. Refute it at one input. -/
def diagReadsWrong : ChangeSpec := { name := "diagReads", fn := fun _ => fun
  | [d] => { results := [.lit (.bool false)], args := [d] }
  | _ => none }
def DiagReadsWrongFalsely : Prop := diagReadsRow.holds Try.pinned (OpenSpec.ofChange diagReadsWrong)

/-- 'lodgerlaw26.DiagBack': WHATEVER THE INPUT: true; the input reads as it did. -/
def diagBackSpec : ChangeSpec := { name := "diagBack", fn := fun _ => fun
  | [d1, d2] => { results := [.lit (.bool true)], args := [d1, d2] }
  | _ => none }
def diagBackRow : OpenClaim := { program := "ytbndinilpflomaa", sum := "6823fb06b1fff74df774fa2ffd175bb6eb02813dc3af41d953526e62f6a1bac8", func := "lodger/lodgerlaw26.DiagBack", spec := "diagBack", unfollowed := true, recurses := true, apart := false }
def DiagBackSaid : Prop := diagBackRow.holds Try.pinned (OpenSpec.ofChange diagBackSpec)

/-- ITS FALSE NEIGHBOUR: 'it returns false'. Refute it at one input. -/
def diagBackWrong : ChangeSpec := { name := "diagBack", fn := fun _ => fun
  | [d1, d2] => { results := [.lit (.bool false)], args := [d1, d2] }
  | _ => none }
def DiagBackWrongFalsely : Prop := diagBackRow.holds Try.pinned (OpenSpec.ofChange diagBackWrong)

/-- 'lodgerlaw26.DiagOrder': WHATEVER THE INPUT: true; the input reads as it did. -/
def diagOrderSpec : ChangeSpec := { name := "diagOrder", fn := fun _ => fun
  | [d1, d2] => { results := [.lit (.bool true)], args := [d1, d2] }
  | _ => none }
def diagOrderRow : OpenClaim := { program := "ytbndinilpflomaa", sum := "6823fb06b1fff74df774fa2ffd175bb6eb02813dc3af41d953526e62f6a1bac8", func := "lodger/lodgerlaw26.DiagOrder", spec := "diagOrder", unfollowed := true, recurses := true, apart := false }
def DiagOrderSaid : Prop := diagOrderRow.holds Try.pinned (OpenSpec.ofChange diagOrderSpec)

/-- ITS FALSE NEIGHBOUR: 'it returns false'. Refute it at one input. -/
def diagOrderWrong : ChangeSpec := { name := "diagOrder", fn := fun _ => fun
  | [d1, d2] => { results := [.lit (.bool false)], args := [d1, d2] }
  | _ => none }
def DiagOrderWrongFalsely : Prop := diagOrderRow.holds Try.pinned (OpenSpec.ofChange diagOrderWrong)

/-- 'lodgerlaw26.DiagKnown': WHATEVER THE INPUT: true; the input reads as it did. -/
def diagKnownSpec : ChangeSpec := { name := "diagKnown", fn := fun _ => fun
  | [] => { results := [.lit (.bool true)], args := [] }
  | _ => none }
def diagKnownRow : OpenClaim := { program := "ytbndinilpflomaa", sum := "6823fb06b1fff74df774fa2ffd175bb6eb02813dc3af41d953526e62f6a1bac8", func := "lodger/lodgerlaw26.DiagKnown", spec := "diagKnown", unfollowed := true, recurses := true, apart := false }
def DiagKnownSaid : Prop := diagKnownRow.holds Try.pinned (OpenSpec.ofChange diagKnownSpec)

/-- ITS FALSE NEIGHBOUR: 'it returns false'. Refute it at one input. -/
def diagKnownWrong : ChangeSpec := { name := "diagKnown", fn := fun _ => fun
  | [] => { results := [.lit (.bool false)], args := [] }
  | _ => none }
def DiagKnownWrongFalsely : Prop := diagKnownRow.holds Try.pinned (OpenSpec.ofChange diagKnownWrong)

/-- 'lodgerlaw27.MsgAsks': WHATEVER THE INPUT: true; the input reads as it did. -/
def msgAsksSpec : ChangeSpec := { name := "msgAsks", fn := fun _ => fun
  | [d1, d2] => { results := [.lit (.bool true)], args := [d1, d2] }
  | _ => none }
def msgAsksRow : OpenClaim := { program := "ytbndinilpflomaa", sum := "6823fb06b1fff74df774fa2ffd175bb6eb02813dc3af41d953526e62f6a1bac8", func := "lodger/lodgerlaw27.MsgAsks", spec := "msgAsks", unfollowed := true, recurses := true, apart := false }
def MsgAsksSaid : Prop := msgAsksRow.holds Try.pinned (OpenSpec.ofChange msgAsksSpec)

/-- ITS FALSE NEIGHBOUR: 'it returns false'. Refute it at one input. -/
def msgAsksWrong : ChangeSpec := { name := "msgAsks", fn := fun _ => fun
  | [d1, d2] => { results := [.lit (.bool false)], args := [d1, d2] }
  | _ => none }
def MsgAsksWrongFalsely : Prop := msgAsksRow.holds Try.pinned (OpenSpec.ofChange msgAsksWrong)

/-- 'lodgerlaw27.MsgReads': WHATEVER THE INPUT: true; the input reads as it did. -/
def msgReadsSpec : ChangeSpec := { name := "msgReads", fn := fun _ => fun
  | [d] => { results := [.lit (.bool true)], args := [d] }
  | _ => none }
def msgReadsRow : OpenClaim := { program := "ytbndinilpflomaa", sum := "6823fb06b1fff74df774fa2ffd175bb6eb02813dc3af41d953526e62f6a1bac8", func := "lodger/lodgerlaw27.MsgReads", spec := "msgReads", unfollowed := true, recurses := true, apart := false }
def MsgReadsSaid : Prop := msgReadsRow.holds Try.pinned (OpenSpec.ofChange msgReadsSpec)

/-- ITS FALSE NEIGHBOUR: 'it returns false'. Refute it at one input. -/
def msgReadsWrong : ChangeSpec := { name := "msgReads", fn := fun _ => fun
  | [d] => { results := [.lit (.bool false)], args := [d] }
  | _ => none }
def MsgReadsWrongFalsely : Prop := msgReadsRow.holds Try.pinned (OpenSpec.ofChange msgReadsWrong)

/-- 'lodgerlaw27.MsgAnswers': WHATEVER THE INPUT: true; the input reads as it did. -/
def msgAnswersSpec : ChangeSpec := { name := "msgAnswers", fn := fun _ => fun
  | [d] => { results := [.lit (.bool true)], args := [d] }
  | _ => none }
def msgAnswersRow : OpenClaim := { program := "ytbndinilpflomaa", sum := "6823fb06b1fff74df774fa2ffd175bb6eb02813dc3af41d953526e62f6a1bac8", func := "lodger/lodgerlaw27.MsgAnswers", spec := "msgAnswers", unfollowed := true, recurses := true, apart := false }
def MsgAnswersSaid : Prop := msgAnswersRow.holds Try.pinned (OpenSpec.ofChange msgAnswersSpec)

/-- ITS FALSE NEIGHBOUR: 'it returns false'. Refute it at one input. -/
def msgAnswersWrong : ChangeSpec := { name := "msgAnswers", fn := fun _ => fun
  | [d] => { results := [.lit (.bool false)], args := [d] }
  | _ => none }
def MsgAnswersWrongFalsely : Prop := msgAnswersRow.holds Try.pinned (OpenSpec.ofChange msgAnswersWrong)

/-- 'lodgerlaw27.MsgBack': WHATEVER THE INPUT: true; the input reads as it did. -/
def msgBackSpec : ChangeSpec := { name := "msgBack", fn := fun _ => fun
  | [d1, d2, d3] => { results := [.lit (.bool true)], args := [d1, d2, d3] }
  | _ => none }
def msgBackRow : OpenClaim := { program := "ytbndinilpflomaa", sum := "6823fb06b1fff74df774fa2ffd175bb6eb02813dc3af41d953526e62f6a1bac8", func := "lodger/lodgerlaw27.MsgBack", spec := "msgBack", unfollowed := true, recurses := true, apart := false }
def MsgBackSaid : Prop := msgBackRow.holds Try.pinned (OpenSpec.ofChange msgBackSpec)

/-- ITS FALSE NEIGHBOUR: 'it returns false'. Refute it at one input. -/
def msgBackWrong : ChangeSpec := { name := "msgBack", fn := fun _ => fun
  | [d1, d2, d3] => { results := [.lit (.bool false)], args := [d1, d2, d3] }
  | _ => none }
def MsgBackWrongFalsely : Prop := msgBackRow.holds Try.pinned (OpenSpec.ofChange msgBackWrong)

/-- 'lodgerlaw27.MsgOnce': WHATEVER THE INPUT: true; the input reads as it did. -/
def msgOnceSpec : ChangeSpec := { name := "msgOnce", fn := fun _ => fun
  | [d] => { results := [.lit (.bool true)], args := [d] }
  | _ => none }
def msgOnceRow : OpenClaim := { program := "ytbndinilpflomaa", sum := "6823fb06b1fff74df774fa2ffd175bb6eb02813dc3af41d953526e62f6a1bac8", func := "lodger/lodgerlaw27.MsgOnce", spec := "msgOnce", unfollowed := true, recurses := true, apart := false }
def MsgOnceSaid : Prop := msgOnceRow.holds Try.pinned (OpenSpec.ofChange msgOnceSpec)

/-- ITS FALSE NEIGHBOUR: 'it returns false'. Refute it at one input. -/
def msgOnceWrong : ChangeSpec := { name := "msgOnce", fn := fun _ => fun
  | [d] => { results := [.lit (.bool false)], args := [d] }
  | _ => none }
def MsgOnceWrongFalsely : Prop := msgOnceRow.holds Try.pinned (OpenSpec.ofChange msgOnceWrong)

/-- 'lodgerlaw27.MsgKnown': WHATEVER THE INPUT: true; the input reads as it did. -/
def msgKnownSpec : ChangeSpec := { name := "msgKnown", fn := fun _ => fun
  | [] => { results := [.lit (.bool true)], args := [] }
  | _ => none }
def msgKnownRow : OpenClaim := { program := "ytbndinilpflomaa", sum := "6823fb06b1fff74df774fa2ffd175bb6eb02813dc3af41d953526e62f6a1bac8", func := "lodger/lodgerlaw27.MsgKnown", spec := "msgKnown", unfollowed := true, recurses := true, apart := false }
def MsgKnownSaid : Prop := msgKnownRow.holds Try.pinned (OpenSpec.ofChange msgKnownSpec)

/-- ITS FALSE NEIGHBOUR: 'it returns false'. Refute it at one input. -/
def msgKnownWrong : ChangeSpec := { name := "msgKnown", fn := fun _ => fun
  | [] => { results := [.lit (.bool false)], args := [] }
  | _ => none }
def MsgKnownWrongFalsely : Prop := msgKnownRow.holds Try.pinned (OpenSpec.ofChange msgKnownWrong)

/- THE SECOND FORM. 'bulk': how many values and letters a reading holds, each counted each time it is reached (what is shared counts as often as it is met; a slice's spare places count too). A statement '..UptoSaid' is the law's where the arguments, and the package variables that the reading takes, are together of bulk at most 1048576: NARROWER than '..Said'. Prove '..Said' where nothing that the law and all that it calls make is longer than what came in: it says more and counts as full. Else prove '..UptoSaid'. A law counts once. -/
mutual
def uptoBulk {H : Type} : DataW H → Nat
  | .lit (.string bytes) => bytes.length + 1
  | .lit _ => 1
  | .nil => 1
  | .ptr d => uptoBulk d + 1
  | .slice elems spare => uptoBulkAll elems + uptoBulkAll spare + 1
  | .agg parts => uptoBulkAll parts + 1
  | .iface _ d => uptoBulk d + 1
  | .map entries => uptoBulkEntries entries + 1
  | .held _ => 1
def uptoBulkAll {H : Type} : List (DataW H) → Nat
  | [] => 0
  | d :: r => uptoBulk d + uptoBulkAll r
def uptoBulkEntries {H : Type} : List (Lit × DataW H) → Nat
  | [] => 0
  | x :: r => uptoBulkEntry x + uptoBulkEntries r
def uptoBulkEntry {H : Type} : Lit × DataW H → Nat
  | (.string bytes, d) => bytes.length + uptoBulk d + 1
  | (_, d) => uptoBulk d + 1
 end
def uptoSmall : (H : Type) → List (DataW H) → Bool := fun _ ds => decide (uptoBulkAll ds ≤ 1048576)
def OpenSpec.upto (s : _root_.Go.ChangeSpec) : _root_.Go.OpenSpec := { _root_.Go.OpenSpec.ofChange s with cond := some uptoSmall }

/-- 'lodgerlaw26.DiagSorts', WHERE WHAT IT READS IS OF BULK AT MOST 1048576: true; the input reads as it did. -/
def diagSortsUptoRow : OpenClaim := { program := "ytbndinilpflomaa", sum := "6823fb06b1fff74df774fa2ffd175bb6eb02813dc3af41d953526e62f6a1bac8", func := "lodger/lodgerlaw26.DiagSorts", spec := "diagSorts", unfollowed := true, recurses := true, apart := false, narrowed := true }
def DiagSortsUptoSaid : Prop := diagSortsUptoRow.holds Try.pinned (OpenSpec.upto diagSortsSpec)

/-- 'lodgerlaw26.DiagReads', WHERE WHAT IT READS IS OF BULK AT MOST 1048576: true; the input reads as it did. -/
def diagReadsUptoRow : OpenClaim := { program := "ytbndinilpflomaa", sum := "6823fb06b1fff74df774fa2ffd175bb6eb02813dc3af41d953526e62f6a1bac8", func := "lodger/lodgerlaw26.DiagReads", spec := "diagReads", unfollowed := true, recurses := true, apart := false, narrowed := true }
def DiagReadsUptoSaid : Prop := diagReadsUptoRow.holds Try.pinned (OpenSpec.upto diagReadsSpec)

/-- 'lodgerlaw26.DiagBack', WHERE WHAT IT READS IS OF BULK AT MOST 1048576: true; the input reads as it did. -/
def diagBackUptoRow : OpenClaim := { program := "ytbndinilpflomaa", sum := "6823fb06b1fff74df774fa2ffd175bb6eb02813dc3af41d953526e62f6a1bac8", func := "lodger/lodgerlaw26.DiagBack", spec := "diagBack", unfollowed := true, recurses := true, apart := false, narrowed := true }
def DiagBackUptoSaid : Prop := diagBackUptoRow.holds Try.pinned (OpenSpec.upto diagBackSpec)

/-- 'lodgerlaw26.DiagOrder', WHERE WHAT IT READS IS OF BULK AT MOST 1048576: true; the input reads as it did. -/
def diagOrderUptoRow : OpenClaim := { program := "ytbndinilpflomaa", sum := "6823fb06b1fff74df774fa2ffd175bb6eb02813dc3af41d953526e62f6a1bac8", func := "lodger/lodgerlaw26.DiagOrder", spec := "diagOrder", unfollowed := true, recurses := true, apart := false, narrowed := true }
def DiagOrderUptoSaid : Prop := diagOrderUptoRow.holds Try.pinned (OpenSpec.upto diagOrderSpec)

/-- 'lodgerlaw26.DiagKnown', WHERE WHAT IT READS IS OF BULK AT MOST 1048576: true; the input reads as it did. -/
def diagKnownUptoRow : OpenClaim := { program := "ytbndinilpflomaa", sum := "6823fb06b1fff74df774fa2ffd175bb6eb02813dc3af41d953526e62f6a1bac8", func := "lodger/lodgerlaw26.DiagKnown", spec := "diagKnown", unfollowed := true, recurses := true, apart := false, narrowed := true }
def DiagKnownUptoSaid : Prop := diagKnownUptoRow.holds Try.pinned (OpenSpec.upto diagKnownSpec)

/-- 'lodgerlaw27.MsgAsks', WHERE WHAT IT READS IS OF BULK AT MOST 1048576: true; the input reads as it did. -/
def msgAsksUptoRow : OpenClaim := { program := "ytbndinilpflomaa", sum := "6823fb06b1fff74df774fa2ffd175bb6eb02813dc3af41d953526e62f6a1bac8", func := "lodger/lodgerlaw27.MsgAsks", spec := "msgAsks", unfollowed := true, recurses := true, apart := false, narrowed := true }
def MsgAsksUptoSaid : Prop := msgAsksUptoRow.holds Try.pinned (OpenSpec.upto msgAsksSpec)

/-- 'lodgerlaw27.MsgReads', WHERE WHAT IT READS IS OF BULK AT MOST 1048576: true; the input reads as it did. -/
def msgReadsUptoRow : OpenClaim := { program := "ytbndinilpflomaa", sum := "6823fb06b1fff74df774fa2ffd175bb6eb02813dc3af41d953526e62f6a1bac8", func := "lodger/lodgerlaw27.MsgReads", spec := "msgReads", unfollowed := true, recurses := true, apart := false, narrowed := true }
def MsgReadsUptoSaid : Prop := msgReadsUptoRow.holds Try.pinned (OpenSpec.upto msgReadsSpec)

/-- 'lodgerlaw27.MsgAnswers', WHERE WHAT IT READS IS OF BULK AT MOST 1048576: true; the input reads as it did. -/
def msgAnswersUptoRow : OpenClaim := { program := "ytbndinilpflomaa", sum := "6823fb06b1fff74df774fa2ffd175bb6eb02813dc3af41d953526e62f6a1bac8", func := "lodger/lodgerlaw27.MsgAnswers", spec := "msgAnswers", unfollowed := true, recurses := true, apart := false, narrowed := true }
def MsgAnswersUptoSaid : Prop := msgAnswersUptoRow.holds Try.pinned (OpenSpec.upto msgAnswersSpec)

/-- 'lodgerlaw27.MsgBack', WHERE WHAT IT READS IS OF BULK AT MOST 1048576: true; the input reads as it did. -/
def msgBackUptoRow : OpenClaim := { program := "ytbndinilpflomaa", sum := "6823fb06b1fff74df774fa2ffd175bb6eb02813dc3af41d953526e62f6a1bac8", func := "lodger/lodgerlaw27.MsgBack", spec := "msgBack", unfollowed := true, recurses := true, apart := false, narrowed := true }
def MsgBackUptoSaid : Prop := msgBackUptoRow.holds Try.pinned (OpenSpec.upto msgBackSpec)

/-- 'lodgerlaw27.MsgOnce', WHERE WHAT IT READS IS OF BULK AT MOST 1048576: true; the input reads as it did. -/
def msgOnceUptoRow : OpenClaim := { program := "ytbndinilpflomaa", sum := "6823fb06b1fff74df774fa2ffd175bb6eb02813dc3af41d953526e62f6a1bac8", func := "lodger/lodgerlaw27.MsgOnce", spec := "msgOnce", unfollowed := true, recurses := true, apart := false, narrowed := true }
def MsgOnceUptoSaid : Prop := msgOnceUptoRow.holds Try.pinned (OpenSpec.upto msgOnceSpec)

/-- 'lodgerlaw27.MsgKnown', WHERE WHAT IT READS IS OF BULK AT MOST 1048576: true; the input reads as it did. -/
def msgKnownUptoRow : OpenClaim := { program := "ytbndinilpflomaa", sum := "6823fb06b1fff74df774fa2ffd175bb6eb02813dc3af41d953526e62f6a1bac8", func := "lodger/lodgerlaw27.MsgKnown", spec := "msgKnown", unfollowed := true, recurses := true, apart := false, narrowed := true }
def MsgKnownUptoSaid : Prop := msgKnownUptoRow.holds Try.pinned (OpenSpec.upto msgKnownSpec)

end Rows
end Go.Proofs.Ytbndinilpflomaa
