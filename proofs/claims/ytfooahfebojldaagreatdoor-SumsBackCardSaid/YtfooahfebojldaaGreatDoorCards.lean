/-
  DERIVED. GIVEN WITH THE SEED: THE CARDS: each row of YtfooahfebojldaaGreatDoorRows.lean that lists a variable, with what it lists TIED to the program's text (the seventh form; the later family's looks); each row that meets fmt, with fmt's text TOLD by the authors' own Lean function (tested against real Go, not proved from fmt's source: count such statements apart). THE CARD IS WHAT COUNTS. Prove the row's statement (the work); the ties are given (YtfooahfebojldaaGreatDoorTie.lean); close each card by the builder's one call (the guide's Derived/Test/ToyasCard.lean, 'card_holds'). Laid BY PROGRAM, IN A SANDBOX (cutbox-door.mjs). By AI agents, Wed Nov 11 2026. No macro, syntax, notation, axiom, sorry.
-/
import Derived.Test.YtfooahfebojldaaGreatDoorRows
import GoSem.ClaimSeven
namespace Go.Proofs.YtfooahfebojldaaGreatDoor
namespace Rows

/-- THE TIED CARD OF 'lodgerlaw19.SumsReads'. -/
def sumsReadsCard : Claim7 := { stood := { row := sumsReadsRow, standIns := [], harness := (true, "c0573774f6049cb0526f7cf2d328633f841b19acab48d8170e88c3ef1576b465"), looks := true }, kinds := [], alts := [], laidByText := true, laidKinds := [.data, .pinned], laidTests := true, laidLooks := .later }
def SumsReadsCardSaid : Prop := Claim7.holds Tryz.pinned (.plain (OpenSpec.ofChange sumsReadsSpec)) sumsReadsCard

/-- THE TIED CARD OF 'lodgerlaw19.SumsKeys'. -/
def sumsKeysCard : Claim7 := { stood := { row := sumsKeysRow, standIns := [], harness := (true, "c0573774f6049cb0526f7cf2d328633f841b19acab48d8170e88c3ef1576b465"), looks := true }, kinds := [], alts := [], laidByText := true, laidKinds := [.data, .pinned], laidTests := true, laidLooks := .later }
def SumsKeysCardSaid : Prop := Claim7.holds Tryz.pinned (.plain (OpenSpec.ofChange sumsKeysSpec)) sumsKeysCard

/-- THE TIED CARD OF 'lodgerlaw19.SumsLays'. -/
def sumsLaysCard : Claim7 := { stood := { row := sumsLaysRow, standIns := [], harness := (true, "c0573774f6049cb0526f7cf2d328633f841b19acab48d8170e88c3ef1576b465"), looks := true }, kinds := [], alts := [], laidByText := true, laidKinds := [.data, .pinned], laidTests := true, laidLooks := .later }
def SumsLaysCardSaid : Prop := Claim7.holds Tryz.pinned (.plain (OpenSpec.ofChange sumsLaysSpec)) sumsLaysCard

/-- THE TIED CARD OF 'lodgerlaw19.SumsBack'. -/
def sumsBackCard : Claim7 := { stood := { row := sumsBackRow, standIns := [], harness := (true, "c0573774f6049cb0526f7cf2d328633f841b19acab48d8170e88c3ef1576b465"), looks := true }, kinds := [], alts := [], laidByText := true, laidKinds := [.data, .pinned], laidTests := true, laidLooks := .later }
def SumsBackCardSaid : Prop := Claim7.holds Tryz.pinned (.plain (OpenSpec.ofChange sumsBackSpec)) sumsBackCard

/-- THE TIED CARD OF 'lodgerlaw19.SumsApart'. -/
def sumsApartCard : Claim7 := { stood := { row := sumsApartRow, standIns := [], harness := (true, "c0573774f6049cb0526f7cf2d328633f841b19acab48d8170e88c3ef1576b465"), looks := true }, kinds := [], alts := [], laidByText := true, laidKinds := [.data, .pinned], laidTests := true, laidLooks := .later }
def SumsApartCardSaid : Prop := Claim7.holds Tryz.pinned (.plain (OpenSpec.ofChange sumsApartSpec)) sumsApartCard

/-- THE TIED CARD OF 'lodgerlaw19.SumsKnown'. -/
def sumsKnownCard : Claim7 := { stood := { row := sumsKnownRow, standIns := [], harness := (true, "c0573774f6049cb0526f7cf2d328633f841b19acab48d8170e88c3ef1576b465"), looks := true }, kinds := [], alts := [], laidByText := true, laidKinds := [.data, .pinned], laidTests := true, laidLooks := .later }
def SumsKnownCardSaid : Prop := Claim7.holds Tryz.pinned (.plain (OpenSpec.ofChange sumsKnownSpec)) sumsKnownCard

/-- THE SECOND FORM's CARD OF 'lodgerlaw19.SumsReads'. -/
def sumsReadsUptoCard : Claim7 := { stood := { row := sumsReadsUptoRow, standIns := [], harness := (true, "c0573774f6049cb0526f7cf2d328633f841b19acab48d8170e88c3ef1576b465"), looks := true }, kinds := [], alts := [], laidByText := true, laidKinds := [.data, .pinned], laidTests := true, laidLooks := .later }
def SumsReadsUptoCardSaid : Prop := Claim7.holds Tryz.pinned (.plain (OpenSpec.upto sumsReadsSpec)) sumsReadsUptoCard

/-- THE SECOND FORM's CARD OF 'lodgerlaw19.SumsKeys'. -/
def sumsKeysUptoCard : Claim7 := { stood := { row := sumsKeysUptoRow, standIns := [], harness := (true, "c0573774f6049cb0526f7cf2d328633f841b19acab48d8170e88c3ef1576b465"), looks := true }, kinds := [], alts := [], laidByText := true, laidKinds := [.data, .pinned], laidTests := true, laidLooks := .later }
def SumsKeysUptoCardSaid : Prop := Claim7.holds Tryz.pinned (.plain (OpenSpec.upto sumsKeysSpec)) sumsKeysUptoCard

/-- THE SECOND FORM's CARD OF 'lodgerlaw19.SumsLays'. -/
def sumsLaysUptoCard : Claim7 := { stood := { row := sumsLaysUptoRow, standIns := [], harness := (true, "c0573774f6049cb0526f7cf2d328633f841b19acab48d8170e88c3ef1576b465"), looks := true }, kinds := [], alts := [], laidByText := true, laidKinds := [.data, .pinned], laidTests := true, laidLooks := .later }
def SumsLaysUptoCardSaid : Prop := Claim7.holds Tryz.pinned (.plain (OpenSpec.upto sumsLaysSpec)) sumsLaysUptoCard

/-- THE SECOND FORM's CARD OF 'lodgerlaw19.SumsBack'. -/
def sumsBackUptoCard : Claim7 := { stood := { row := sumsBackUptoRow, standIns := [], harness := (true, "c0573774f6049cb0526f7cf2d328633f841b19acab48d8170e88c3ef1576b465"), looks := true }, kinds := [], alts := [], laidByText := true, laidKinds := [.data, .pinned], laidTests := true, laidLooks := .later }
def SumsBackUptoCardSaid : Prop := Claim7.holds Tryz.pinned (.plain (OpenSpec.upto sumsBackSpec)) sumsBackUptoCard

/-- THE SECOND FORM's CARD OF 'lodgerlaw19.SumsApart'. -/
def sumsApartUptoCard : Claim7 := { stood := { row := sumsApartUptoRow, standIns := [], harness := (true, "c0573774f6049cb0526f7cf2d328633f841b19acab48d8170e88c3ef1576b465"), looks := true }, kinds := [], alts := [], laidByText := true, laidKinds := [.data, .pinned], laidTests := true, laidLooks := .later }
def SumsApartUptoCardSaid : Prop := Claim7.holds Tryz.pinned (.plain (OpenSpec.upto sumsApartSpec)) sumsApartUptoCard

/-- THE SECOND FORM's CARD OF 'lodgerlaw19.SumsKnown'. -/
def sumsKnownUptoCard : Claim7 := { stood := { row := sumsKnownUptoRow, standIns := [], harness := (true, "c0573774f6049cb0526f7cf2d328633f841b19acab48d8170e88c3ef1576b465"), looks := true }, kinds := [], alts := [], laidByText := true, laidKinds := [.data, .pinned], laidTests := true, laidLooks := .later }
def SumsKnownUptoCardSaid : Prop := Claim7.holds Tryz.pinned (.plain (OpenSpec.upto sumsKnownSpec)) sumsKnownUptoCard
end Rows
end Go.Proofs.YtfooahfebojldaaGreatDoor
