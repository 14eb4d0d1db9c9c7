/-
  DERIVED. GIVEN WITH THE SEED: THE CARDS: each row of YtlelojncabdnoaaDoorRows.lean that lists a variable, with what it lists TIED to the program's text (the seventh form; the later family's looks); each row that meets fmt, with fmt's text TOLD by the authors' own Lean function (tested against real Go, not proved from fmt's source: count such statements apart). THE CARD IS WHAT COUNTS. Prove the row's statement (the work); the ties are given (YtlelojncabdnoaaDoorTie.lean); close each card by the builder's one call (the guide's Derived/Test/ToyasCard.lean, 'card_holds'). Laid BY PROGRAM, IN A SANDBOX (cutbox-door.mjs). By AI agents, Wed Nov 11 2026. No macro, syntax, notation, axiom, sorry.
-/
import Derived.Test.YtlelojncabdnoaaDoorRows
import GoSem.ClaimSeven
namespace Go.Proofs.YtlelojncabdnoaaDoor
namespace Rows

/-- THE TIED CARD OF 'lodgerlaw07.VfsHolds'. -/
def vfsHoldsCard : Claim7 := { stood := { row := vfsHoldsRow, standIns := [], harness := (true, "dae1913e748e28fcac2054cb47c076656b715ccc66b6921e12ea90f1ad0967c7"), looks := true }, kinds := [], alts := [], laidByText := true, laidKinds := [.data, .pinned], laidTests := true, laidLooks := .later }
def VfsHoldsCardSaid : Prop := Claim7.holds Tryd.pinned (.plain (OpenSpec.ofChange vfsHoldsSpec)) vfsHoldsCard

/-- THE TIED CARD OF 'lodgerlaw07.VfsPlays'. -/
def vfsPlaysCard : Claim7 := { stood := { row := vfsPlaysRow, standIns := [], harness := (true, "dae1913e748e28fcac2054cb47c076656b715ccc66b6921e12ea90f1ad0967c7"), looks := true }, kinds := [], alts := [], laidByText := true, laidKinds := [.data, .pinned], laidTests := true, laidLooks := .later }
def VfsPlaysCardSaid : Prop := Claim7.holds Tryd.pinned (.plain (OpenSpec.ofChange vfsPlaysSpec)) vfsPlaysCard

/-- THE TIED CARD OF 'lodgerlaw07.VfsKnown'. -/
def vfsKnownCard : Claim7 := { stood := { row := vfsKnownRow, standIns := [], harness := (true, "dae1913e748e28fcac2054cb47c076656b715ccc66b6921e12ea90f1ad0967c7"), looks := true }, kinds := [], alts := [], laidByText := true, laidKinds := [.data, .pinned], laidTests := true, laidLooks := .later }
def VfsKnownCardSaid : Prop := Claim7.holds Tryd.pinned (.plain (OpenSpec.ofChange vfsKnownSpec)) vfsKnownCard

/-- THE SECOND FORM's CARD OF 'lodgerlaw07.VfsHolds'. -/
def vfsHoldsUptoCard : Claim7 := { stood := { row := vfsHoldsUptoRow, standIns := [], harness := (true, "dae1913e748e28fcac2054cb47c076656b715ccc66b6921e12ea90f1ad0967c7"), looks := true }, kinds := [], alts := [], laidByText := true, laidKinds := [.data, .pinned], laidTests := true, laidLooks := .later }
def VfsHoldsUptoCardSaid : Prop := Claim7.holds Tryd.pinned (.plain (OpenSpec.upto vfsHoldsSpec)) vfsHoldsUptoCard

/-- THE SECOND FORM's CARD OF 'lodgerlaw07.VfsPlays'. -/
def vfsPlaysUptoCard : Claim7 := { stood := { row := vfsPlaysUptoRow, standIns := [], harness := (true, "dae1913e748e28fcac2054cb47c076656b715ccc66b6921e12ea90f1ad0967c7"), looks := true }, kinds := [], alts := [], laidByText := true, laidKinds := [.data, .pinned], laidTests := true, laidLooks := .later }
def VfsPlaysUptoCardSaid : Prop := Claim7.holds Tryd.pinned (.plain (OpenSpec.upto vfsPlaysSpec)) vfsPlaysUptoCard

/-- THE SECOND FORM's CARD OF 'lodgerlaw07.VfsKnown'. -/
def vfsKnownUptoCard : Claim7 := { stood := { row := vfsKnownUptoRow, standIns := [], harness := (true, "dae1913e748e28fcac2054cb47c076656b715ccc66b6921e12ea90f1ad0967c7"), looks := true }, kinds := [], alts := [], laidByText := true, laidKinds := [.data, .pinned], laidTests := true, laidLooks := .later }
def VfsKnownUptoCardSaid : Prop := Claim7.holds Tryd.pinned (.plain (OpenSpec.upto vfsKnownSpec)) vfsKnownUptoCard
end Rows
end Go.Proofs.YtlelojncabdnoaaDoor
