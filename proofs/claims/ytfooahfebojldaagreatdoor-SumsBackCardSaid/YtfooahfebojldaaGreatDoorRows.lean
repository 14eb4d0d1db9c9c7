/-
  NARROWER THAN 'FOR EVERY INPUT', by the rows' own cells (each row's printed sentence says how): SumsReads: laid · SumsKeys: laid · SumsLays: laid · SumsBack: laid · SumsApart: laid · SumsKnown: laid.
  DERIVED. THE GIVEN ROWS OF THIS SEAT. 6 by the template 'for every input the law returns true; each argument reads behind the call as it read before'; 0 by the template 'total and deterministic' (their statements: YtfooahfebojldaaGreatDoorTotals.lean).
  GIVEN WITH THE SEED: the statements are not yours to turn. If you find one false, say at which input.
  Laid BY PROGRAM, IN A SANDBOX (cutbox-rows.mjs): the forced cells as the released guide's own fill.sh prints them over the translation eceffe365c7028d9… (all of the seat's roots in one cut). By AI agents, Wed Nov 11 2026. No macro, syntax, notation, axiom, sorry.
-/
import Derived.Test.YtfooahfebojldaaGreatDoorChecked
import GoSem.PinnedTables
import GoSem.Claim
import GoSem.ClaimJoined
import GoSem.ClaimMapViews
import Derived.JoinedTies
import Derived.KernelRfl
namespace Go.Proofs.YtfooahfebojldaaGreatDoor
/- THE CELL 'sum', in the pinned program and in every row, IS THE sha256 OF THE DUMP (.gsa) THAT YtfooahfebojldaaGreatDoorProg.lean LOADS. Nothing in Lean hashes anything: it is a label: what it is worth is what the hold of that sum in a sandbox is worth. -/
noncomputable def Tryz.pinned : Pinned := { name := "ytfooahfebojldaagreatdoor", sum := "eceffe365c7028d972a92b1d3c081ddf4cdced3045c691406c7486dbbb566a39", checked := Tryz.checked }
namespace Rows
def none {H : Type} : Left H := { results := [], args := [] }

/- WHAT THE LISTED PACKAGE-LEVEL VARIABLES READ AS WHEN THE CALL BEGINS. Each datum BY PROGRAM (the guide's laid-datum.mjs) off the statement by which the dump's own 'gosem.cut.vars' lays the variable. In a bare row this is a premise. The card (YtfooahfebojldaaGreatDoorCards.lean) ties it to the program's text. -/
def laid_unicode_utf8_acceptRanges {H : Type} : DataW H := .agg [.agg [.lit (.int .u8 128), .lit (.int .u8 191)], .agg [.lit (.int .u8 160), .lit (.int .u8 191)], .agg [.lit (.int .u8 128), .lit (.int .u8 159)], .agg [.lit (.int .u8 144), .lit (.int .u8 191)], .agg [.lit (.int .u8 128), .lit (.int .u8 143)], .agg [.lit (.int .u8 0), .lit (.int .u8 0)], .agg [.lit (.int .u8 0), .lit (.int .u8 0)], .agg [.lit (.int .u8 0), .lit (.int .u8 0)], .agg [.lit (.int .u8 0), .lit (.int .u8 0)], .agg [.lit (.int .u8 0), .lit (.int .u8 0)], .agg [.lit (.int .u8 0), .lit (.int .u8 0)], .agg [.lit (.int .u8 0), .lit (.int .u8 0)], .agg [.lit (.int .u8 0), .lit (.int .u8 0)], .agg [.lit (.int .u8 0), .lit (.int .u8 0)], .agg [.lit (.int .u8 0), .lit (.int .u8 0)], .agg [.lit (.int .u8 0), .lit (.int .u8 0)]]
/-- One of Go's own tables, pinned by name: the form's constant. -/
def laid_unicode_utf8_first : DataW Unit := Go.Pinned.utf8First

/-- 'lodgerlaw19.SumsReads': WHATEVER THE INPUT: true; the input reads as it did. -/
def sumsReadsSpec : ChangeSpec := { name := "sumsReads", fn := fun _ => fun
  | [d] => { results := [.lit (.bool true)], args := [d] }
  | _ => none }
def sumsReadsRow : OpenClaim := { program := "ytfooahfebojldaagreatdoor", sum := "eceffe365c7028d972a92b1d3c081ddf4cdced3045c691406c7486dbbb566a39", func := "lodger/lodgerlaw19.SumsReads", spec := "sumsReads", inPlace := ["internal/bytealg.IndexByteString", "internal/bytealg.IndexString", "internal/abi.NoEscape"], unfollowed := true, recurses := true, named := ["unicode/utf8.first", "unicode/utf8.acceptRanges", "internal/bytealg.MaxLen"], apart := false, laid := [("unicode/utf8.acceptRanges", laid_unicode_utf8_acceptRanges), ("unicode/utf8.first", laid_unicode_utf8_first)] }
def SumsReadsSaid : Prop := sumsReadsRow.holds Tryz.pinned (OpenSpec.ofChange sumsReadsSpec)

/-- ITS FALSE NEIGHBOUR: 'it returns false'. Refute it at one input. -/
def sumsReadsWrong : ChangeSpec := { name := "sumsReads", fn := fun _ => fun
  | [d] => { results := [.lit (.bool false)], args := [d] }
  | _ => none }
def SumsReadsWrongFalsely : Prop := sumsReadsRow.holds Tryz.pinned (OpenSpec.ofChange sumsReadsWrong)

/-- 'lodgerlaw19.SumsKeys': WHATEVER THE INPUT: true; the input reads as it did. -/
def sumsKeysSpec : ChangeSpec := { name := "sumsKeys", fn := fun _ => fun
  | [d1, d2, d3] => { results := [.lit (.bool true)], args := [d1, d2, d3] }
  | _ => none }
def sumsKeysRow : OpenClaim := { program := "ytfooahfebojldaagreatdoor", sum := "eceffe365c7028d972a92b1d3c081ddf4cdced3045c691406c7486dbbb566a39", func := "lodger/lodgerlaw19.SumsKeys", spec := "sumsKeys", inPlace := ["internal/bytealg.IndexByteString", "internal/bytealg.IndexString", "internal/abi.NoEscape"], unfollowed := true, recurses := true, named := ["unicode/utf8.first", "unicode/utf8.acceptRanges", "internal/bytealg.MaxLen"], apart := false, laid := [("unicode/utf8.acceptRanges", laid_unicode_utf8_acceptRanges), ("unicode/utf8.first", laid_unicode_utf8_first)] }
def SumsKeysSaid : Prop := sumsKeysRow.holds Tryz.pinned (OpenSpec.ofChange sumsKeysSpec)

/-- ITS FALSE NEIGHBOUR: 'it returns false'. Refute it at one input. -/
def sumsKeysWrong : ChangeSpec := { name := "sumsKeys", fn := fun _ => fun
  | [d1, d2, d3] => { results := [.lit (.bool false)], args := [d1, d2, d3] }
  | _ => none }
def SumsKeysWrongFalsely : Prop := sumsKeysRow.holds Tryz.pinned (OpenSpec.ofChange sumsKeysWrong)

/-- 'lodgerlaw19.SumsLays': WHATEVER THE INPUT: true; the input reads as it did. -/
def sumsLaysSpec : ChangeSpec := { name := "sumsLays", fn := fun _ => fun
  | [d1, d2] => { results := [.lit (.bool true)], args := [d1, d2] }
  | _ => none }
def sumsLaysRow : OpenClaim := { program := "ytfooahfebojldaagreatdoor", sum := "eceffe365c7028d972a92b1d3c081ddf4cdced3045c691406c7486dbbb566a39", func := "lodger/lodgerlaw19.SumsLays", spec := "sumsLays", inPlace := ["internal/bytealg.IndexByteString", "internal/bytealg.IndexString", "internal/abi.NoEscape"], unfollowed := true, recurses := true, named := ["unicode/utf8.first", "unicode/utf8.acceptRanges", "internal/bytealg.MaxLen"], apart := false, laid := [("unicode/utf8.acceptRanges", laid_unicode_utf8_acceptRanges), ("unicode/utf8.first", laid_unicode_utf8_first)] }
def SumsLaysSaid : Prop := sumsLaysRow.holds Tryz.pinned (OpenSpec.ofChange sumsLaysSpec)

/-- ITS FALSE NEIGHBOUR: 'it returns false'. Refute it at one input. -/
def sumsLaysWrong : ChangeSpec := { name := "sumsLays", fn := fun _ => fun
  | [d1, d2] => { results := [.lit (.bool false)], args := [d1, d2] }
  | _ => none }
def SumsLaysWrongFalsely : Prop := sumsLaysRow.holds Tryz.pinned (OpenSpec.ofChange sumsLaysWrong)

/-- 'lodgerlaw19.SumsBack': WHATEVER THE INPUT: true; the input reads as it did. -/
def sumsBackSpec : ChangeSpec := { name := "sumsBack", fn := fun _ => fun
  | [d1, d2, d3] => { results := [.lit (.bool true)], args := [d1, d2, d3] }
  | _ => none }
def sumsBackRow : OpenClaim := { program := "ytfooahfebojldaagreatdoor", sum := "eceffe365c7028d972a92b1d3c081ddf4cdced3045c691406c7486dbbb566a39", func := "lodger/lodgerlaw19.SumsBack", spec := "sumsBack", inPlace := ["internal/bytealg.IndexByteString", "internal/bytealg.IndexString", "internal/abi.NoEscape"], unfollowed := true, recurses := true, named := ["unicode/utf8.first", "unicode/utf8.acceptRanges", "internal/bytealg.MaxLen"], apart := false, laid := [("unicode/utf8.acceptRanges", laid_unicode_utf8_acceptRanges), ("unicode/utf8.first", laid_unicode_utf8_first)] }
def SumsBackSaid : Prop := sumsBackRow.holds Tryz.pinned (OpenSpec.ofChange sumsBackSpec)

/-- ITS FALSE NEIGHBOUR: 'it returns false'. Refute it at one input. -/
def sumsBackWrong : ChangeSpec := { name := "sumsBack", fn := fun _ => fun
  | [d1, d2, d3] => { results := [.lit (.bool false)], args := [d1, d2, d3] }
  | _ => none }
def SumsBackWrongFalsely : Prop := sumsBackRow.holds Tryz.pinned (OpenSpec.ofChange sumsBackWrong)

/-- 'lodgerlaw19.SumsApart': WHATEVER THE INPUT: true; the input reads as it did. -/
def sumsApartSpec : ChangeSpec := { name := "sumsApart", fn := fun _ => fun
  | [d1, d2, d3] => { results := [.lit (.bool true)], args := [d1, d2, d3] }
  | _ => none }
def sumsApartRow : OpenClaim := { program := "ytfooahfebojldaagreatdoor", sum := "eceffe365c7028d972a92b1d3c081ddf4cdced3045c691406c7486dbbb566a39", func := "lodger/lodgerlaw19.SumsApart", spec := "sumsApart", inPlace := ["internal/bytealg.IndexByteString", "internal/bytealg.IndexString", "internal/abi.NoEscape"], unfollowed := true, recurses := true, named := ["unicode/utf8.first", "unicode/utf8.acceptRanges", "internal/bytealg.MaxLen"], apart := false, laid := [("unicode/utf8.acceptRanges", laid_unicode_utf8_acceptRanges), ("unicode/utf8.first", laid_unicode_utf8_first)] }
def SumsApartSaid : Prop := sumsApartRow.holds Tryz.pinned (OpenSpec.ofChange sumsApartSpec)

/-- ITS FALSE NEIGHBOUR: 'it returns false'. Refute it at one input. -/
def sumsApartWrong : ChangeSpec := { name := "sumsApart", fn := fun _ => fun
  | [d1, d2, d3] => { results := [.lit (.bool false)], args := [d1, d2, d3] }
  | _ => none }
def SumsApartWrongFalsely : Prop := sumsApartRow.holds Tryz.pinned (OpenSpec.ofChange sumsApartWrong)

/-- 'lodgerlaw19.SumsKnown': WHATEVER THE INPUT: true; the input reads as it did. -/
def sumsKnownSpec : ChangeSpec := { name := "sumsKnown", fn := fun _ => fun
  | [] => { results := [.lit (.bool true)], args := [] }
  | _ => none }
def sumsKnownRow : OpenClaim := { program := "ytfooahfebojldaagreatdoor", sum := "eceffe365c7028d972a92b1d3c081ddf4cdced3045c691406c7486dbbb566a39", func := "lodger/lodgerlaw19.SumsKnown", spec := "sumsKnown", inPlace := ["internal/bytealg.IndexByteString", "internal/bytealg.IndexString", "internal/abi.NoEscape"], unfollowed := true, recurses := true, named := ["unicode/utf8.first", "unicode/utf8.acceptRanges", "internal/bytealg.MaxLen"], apart := false, laid := [("unicode/utf8.acceptRanges", laid_unicode_utf8_acceptRanges), ("unicode/utf8.first", laid_unicode_utf8_first)] }
def SumsKnownSaid : Prop := sumsKnownRow.holds Tryz.pinned (OpenSpec.ofChange sumsKnownSpec)

/-- ITS FALSE NEIGHBOUR: 'it returns false'. Refute it at one input. -/
def sumsKnownWrong : ChangeSpec := { name := "sumsKnown", fn := fun _ => fun
  | [] => { results := [.lit (.bool false)], args := [] }
  | _ => none }
def SumsKnownWrongFalsely : Prop := sumsKnownRow.holds Tryz.pinned (OpenSpec.ofChange sumsKnownWrong)

/- THE SECOND FORM. 'bulk': how many values and letters a reading holds, each counted each time it is reached (what is shared counts as often as it is met; a slice's spare places count too). A statement '..UptoSaid' is the law's where the arguments, and the package variables that the reading takes, are together of bulk at most 1048576: NARROWER than '..Said'. Prove '..Said' where nothing that the law and all that it calls make is longer than what came in: it says more and counts as full. Else prove '..UptoSaid'. A law counts once. -/
mutual
def uptoBulk {H : Type} : DataW H → Nat
  | .lit (.string bytes) => bytes.length + 1
  | .lit _ => 1
  | .nil => 1
  | .ptr d => uptoBulk d + 1
  | .slice elems spare => uptoBulkAll elems + uptoBulkAll spare + 1
  | .agg parts => uptoBulkAll parts + 1
  | .iface _ d => uptoBulk d + 1
  | .map entries => uptoBulkEntries entries + 1
  | .held _ => 1
def uptoBulkAll {H : Type} : List (DataW H) → Nat
  | [] => 0
  | d :: r => uptoBulk d + uptoBulkAll r
def uptoBulkEntries {H : Type} : List (Lit × DataW H) → Nat
  | [] => 0
  | x :: r => uptoBulkEntry x + uptoBulkEntries r
def uptoBulkEntry {H : Type} : Lit × DataW H → Nat
  | (.string bytes, d) => bytes.length + uptoBulk d + 1
  | (_, d) => uptoBulk d + 1
 end
def uptoSmall : (H : Type) → List (DataW H) → Bool := fun _ ds => decide (uptoBulkAll ds ≤ 1048576)
def OpenSpec.upto (s : _root_.Go.ChangeSpec) : _root_.Go.OpenSpec := { _root_.Go.OpenSpec.ofChange s with cond := some uptoSmall }

/-- 'lodgerlaw19.SumsReads', WHERE WHAT IT READS IS OF BULK AT MOST 1048576: true; the input reads as it did. -/
def sumsReadsUptoRow : OpenClaim := { program := "ytfooahfebojldaagreatdoor", sum := "eceffe365c7028d972a92b1d3c081ddf4cdced3045c691406c7486dbbb566a39", func := "lodger/lodgerlaw19.SumsReads", spec := "sumsReads", inPlace := ["internal/bytealg.IndexByteString", "internal/bytealg.IndexString", "internal/abi.NoEscape"], unfollowed := true, recurses := true, named := ["unicode/utf8.first", "unicode/utf8.acceptRanges", "internal/bytealg.MaxLen"], apart := false, laid := [("unicode/utf8.acceptRanges", laid_unicode_utf8_acceptRanges), ("unicode/utf8.first", laid_unicode_utf8_first)], narrowed := true }
def SumsReadsUptoSaid : Prop := sumsReadsUptoRow.holds Tryz.pinned (OpenSpec.upto sumsReadsSpec)

/-- 'lodgerlaw19.SumsKeys', WHERE WHAT IT READS IS OF BULK AT MOST 1048576: true; the input reads as it did. -/
def sumsKeysUptoRow : OpenClaim := { program := "ytfooahfebojldaagreatdoor", sum := "eceffe365c7028d972a92b1d3c081ddf4cdced3045c691406c7486dbbb566a39", func := "lodger/lodgerlaw19.SumsKeys", spec := "sumsKeys", inPlace := ["internal/bytealg.IndexByteString", "internal/bytealg.IndexString", "internal/abi.NoEscape"], unfollowed := true, recurses := true, named := ["unicode/utf8.first", "unicode/utf8.acceptRanges", "internal/bytealg.MaxLen"], apart := false, laid := [("unicode/utf8.acceptRanges", laid_unicode_utf8_acceptRanges), ("unicode/utf8.first", laid_unicode_utf8_first)], narrowed := true }
def SumsKeysUptoSaid : Prop := sumsKeysUptoRow.holds Tryz.pinned (OpenSpec.upto sumsKeysSpec)

/-- 'lodgerlaw19.SumsLays', WHERE WHAT IT READS IS OF BULK AT MOST 1048576: true; the input reads as it did. -/
def sumsLaysUptoRow : OpenClaim := { program := "ytfooahfebojldaagreatdoor", sum := "eceffe365c7028d972a92b1d3c081ddf4cdced3045c691406c7486dbbb566a39", func := "lodger/lodgerlaw19.SumsLays", spec := "sumsLays", inPlace := ["internal/bytealg.IndexByteString", "internal/bytealg.IndexString", "internal/abi.NoEscape"], unfollowed := true, recurses := true, named := ["unicode/utf8.first", "unicode/utf8.acceptRanges", "internal/bytealg.MaxLen"], apart := false, laid := [("unicode/utf8.acceptRanges", laid_unicode_utf8_acceptRanges), ("unicode/utf8.first", laid_unicode_utf8_first)], narrowed := true }
def SumsLaysUptoSaid : Prop := sumsLaysUptoRow.holds Tryz.pinned (OpenSpec.upto sumsLaysSpec)

/-- 'lodgerlaw19.SumsBack', WHERE WHAT IT READS IS OF BULK AT MOST 1048576: true; the input reads as it did. -/
def sumsBackUptoRow : OpenClaim := { program := "ytfooahfebojldaagreatdoor", sum := "eceffe365c7028d972a92b1d3c081ddf4cdced3045c691406c7486dbbb566a39", func := "lodger/lodgerlaw19.SumsBack", spec := "sumsBack", inPlace := ["internal/bytealg.IndexByteString", "internal/bytealg.IndexString", "internal/abi.NoEscape"], unfollowed := true, recurses := true, named := ["unicode/utf8.first", "unicode/utf8.acceptRanges", "internal/bytealg.MaxLen"], apart := false, laid := [("unicode/utf8.acceptRanges", laid_unicode_utf8_acceptRanges), ("unicode/utf8.first", laid_unicode_utf8_first)], narrowed := true }
def SumsBackUptoSaid : Prop := sumsBackUptoRow.holds Tryz.pinned (OpenSpec.upto sumsBackSpec)

/-- 'lodgerlaw19.SumsApart', WHERE WHAT IT READS IS OF BULK AT MOST 1048576: true; the input reads as it did. -/
def sumsApartUptoRow : OpenClaim := { program := "ytfooahfebojldaagreatdoor", sum := "eceffe365c7028d972a92b1d3c081ddf4cdced3045c691406c7486dbbb566a39", func := "lodger/lodgerlaw19.SumsApart", spec := "sumsApart", inPlace := ["internal/bytealg.IndexByteString", "internal/bytealg.IndexString", "internal/abi.NoEscape"], unfollowed := true, recurses := true, named := ["unicode/utf8.first", "unicode/utf8.acceptRanges", "internal/bytealg.MaxLen"], apart := false, laid := [("unicode/utf8.acceptRanges", laid_unicode_utf8_acceptRanges), ("unicode/utf8.first", laid_unicode_utf8_first)], narrowed := true }
def SumsApartUptoSaid : Prop := sumsApartUptoRow.holds Tryz.pinned (OpenSpec.upto sumsApartSpec)

/-- 'lodgerlaw19.SumsKnown', WHERE WHAT IT READS IS OF BULK AT MOST 1048576: true; the input reads as it did. -/
def sumsKnownUptoRow : OpenClaim := { program := "ytfooahfebojldaagreatdoor", sum := "eceffe365c7028d972a92b1d3c081ddf4cdced3045c691406c7486dbbb566a39", func := "lodger/lodgerlaw19.SumsKnown", spec := "sumsKnown", inPlace := ["internal/bytealg.IndexByteString", "internal/bytealg.IndexString", "internal/abi.NoEscape"], unfollowed := true, recurses := true, named := ["unicode/utf8.first", "unicode/utf8.acceptRanges", "internal/bytealg.MaxLen"], apart := false, laid := [("unicode/utf8.acceptRanges", laid_unicode_utf8_acceptRanges), ("unicode/utf8.first", laid_unicode_utf8_first)], narrowed := true }
def SumsKnownUptoSaid : Prop := sumsKnownUptoRow.holds Tryz.pinned (OpenSpec.upto sumsKnownSpec)

end Rows
end Go.Proofs.YtfooahfebojldaaGreatDoor
