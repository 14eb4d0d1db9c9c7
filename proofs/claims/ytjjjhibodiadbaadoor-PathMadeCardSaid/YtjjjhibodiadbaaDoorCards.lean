/-
  DERIVED. GIVEN WITH THE SEED: THE CARDS: each row of YtjjjhibodiadbaaDoorRows.lean that lists a variable, with what it lists TIED to the program's text (the seventh form; the later family's looks); each row that meets fmt, with fmt's text TOLD by the authors' own Lean function (tested against real Go, not proved from fmt's source: count such statements apart). THE CARD IS WHAT COUNTS. Prove the row's statement (the work); the ties are given (YtjjjhibodiadbaaDoorTie.lean); close each card by the builder's one call (the guide's Derived/Test/ToyasCard.lean, 'card_holds'). Laid BY PROGRAM, IN A SANDBOX (cutbox-door.mjs). By AI agents, Wed Nov 11 2026. No macro, syntax, notation, axiom, sorry.
-/
import Derived.Test.YtjjjhibodiadbaaDoorRows
import GoSem.ClaimSeven
namespace Go.Proofs.YtjjjhibodiadbaaDoor
namespace Rows

/-- THE TIED CARD OF 'lodgerlaw05.PathCleans'. -/
def pathCleansCard : Claim7 := { stood := { row := pathCleansRow, standIns := [], harness := (true, "45d2f5be674768749e738d7d3d972b9f885badf9e1adc4639f57094677be46ac"), looks := true }, kinds := [], alts := [], laidByText := true, laidKinds := [.data, .pinned], laidTests := true, laidLooks := .later }
def PathCleansCardSaid : Prop := Claim7.holds Tryd.pinned (.plain (OpenSpec.ofChange pathCleansSpec)) pathCleansCard

/-- THE TIED CARD OF 'lodgerlaw05.PathMade'. -/
def pathMadeCard : Claim7 := { stood := { row := pathMadeRow, standIns := [], harness := (true, "45d2f5be674768749e738d7d3d972b9f885badf9e1adc4639f57094677be46ac"), looks := true }, kinds := [], alts := [], laidByText := true, laidKinds := [.data, .pinned], laidTests := true, laidLooks := .later }
def PathMadeCardSaid : Prop := Claim7.holds Tryd.pinned (.plain (OpenSpec.ofChange pathMadeSpec)) pathMadeCard

/-- THE TIED CARD OF 'lodgerlaw05.PathOnce'. -/
def pathOnceCard : Claim7 := { stood := { row := pathOnceRow, standIns := [], harness := (true, "45d2f5be674768749e738d7d3d972b9f885badf9e1adc4639f57094677be46ac"), looks := true }, kinds := [], alts := [], laidByText := true, laidKinds := [.data, .pinned], laidTests := true, laidLooks := .later }
def PathOnceCardSaid : Prop := Claim7.holds Tryd.pinned (.plain (OpenSpec.ofChange pathOnceSpec)) pathOnceCard

/-- THE TIED CARD OF 'lodgerlaw05.PathKnown'. -/
def pathKnownCard : Claim7 := { stood := { row := pathKnownRow, standIns := [], harness := (true, "45d2f5be674768749e738d7d3d972b9f885badf9e1adc4639f57094677be46ac"), looks := true }, kinds := [], alts := [], laidByText := true, laidKinds := [.data, .pinned], laidTests := true, laidLooks := .later }
def PathKnownCardSaid : Prop := Claim7.holds Tryd.pinned (.plain (OpenSpec.ofChange pathKnownSpec)) pathKnownCard

/-- THE SECOND FORM's CARD OF 'lodgerlaw05.PathCleans'. -/
def pathCleansUptoCard : Claim7 := { stood := { row := pathCleansUptoRow, standIns := [], harness := (true, "45d2f5be674768749e738d7d3d972b9f885badf9e1adc4639f57094677be46ac"), looks := true }, kinds := [], alts := [], laidByText := true, laidKinds := [.data, .pinned], laidTests := true, laidLooks := .later }
def PathCleansUptoCardSaid : Prop := Claim7.holds Tryd.pinned (.plain (OpenSpec.upto pathCleansSpec)) pathCleansUptoCard

/-- THE SECOND FORM's CARD OF 'lodgerlaw05.PathMade'. -/
def pathMadeUptoCard : Claim7 := { stood := { row := pathMadeUptoRow, standIns := [], harness := (true, "45d2f5be674768749e738d7d3d972b9f885badf9e1adc4639f57094677be46ac"), looks := true }, kinds := [], alts := [], laidByText := true, laidKinds := [.data, .pinned], laidTests := true, laidLooks := .later }
def PathMadeUptoCardSaid : Prop := Claim7.holds Tryd.pinned (.plain (OpenSpec.upto pathMadeSpec)) pathMadeUptoCard

/-- THE SECOND FORM's CARD OF 'lodgerlaw05.PathOnce'. -/
def pathOnceUptoCard : Claim7 := { stood := { row := pathOnceUptoRow, standIns := [], harness := (true, "45d2f5be674768749e738d7d3d972b9f885badf9e1adc4639f57094677be46ac"), looks := true }, kinds := [], alts := [], laidByText := true, laidKinds := [.data, .pinned], laidTests := true, laidLooks := .later }
def PathOnceUptoCardSaid : Prop := Claim7.holds Tryd.pinned (.plain (OpenSpec.upto pathOnceSpec)) pathOnceUptoCard

/-- THE SECOND FORM's CARD OF 'lodgerlaw05.PathKnown'. -/
def pathKnownUptoCard : Claim7 := { stood := { row := pathKnownUptoRow, standIns := [], harness := (true, "45d2f5be674768749e738d7d3d972b9f885badf9e1adc4639f57094677be46ac"), looks := true }, kinds := [], alts := [], laidByText := true, laidKinds := [.data, .pinned], laidTests := true, laidLooks := .later }
def PathKnownUptoCardSaid : Prop := Claim7.holds Tryd.pinned (.plain (OpenSpec.upto pathKnownSpec)) pathKnownUptoCard
end Rows
end Go.Proofs.YtjjjhibodiadbaaDoor
