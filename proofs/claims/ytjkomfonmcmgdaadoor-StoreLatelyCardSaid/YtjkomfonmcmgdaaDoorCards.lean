/-
  DERIVED. GIVEN WITH THE SEED: THE CARDS: each row of YtjkomfonmcmgdaaDoorRows.lean that lists a variable, with what it lists TIED to the program's text (the seventh form; the later family's looks); each row that meets fmt, with fmt's text TOLD by the authors' own Lean function (tested against real Go, not proved from fmt's source: count such statements apart). THE CARD IS WHAT COUNTS. Prove the row's statement (the work); the ties are given (YtjkomfonmcmgdaaDoorTie.lean); close each card by the builder's one call (the guide's Derived/Test/ToyasCard.lean, 'card_holds'). Laid BY PROGRAM, IN A SANDBOX (cutbox-door.mjs). By AI agents, Wed Nov 11 2026. No macro, syntax, notation, axiom, sorry.
-/
import Derived.Test.YtjkomfonmcmgdaaDoorRows
import GoSem.ClaimSeven
namespace Go.Proofs.YtjkomfonmcmgdaaDoor
namespace Rows

/-- THE TIED CARD OF 'lodgerlaw14.StoreLately'. -/
def storeLatelyCard : Claim7 := { stood := { row := storeLatelyRow, standIns := [], harness := (true, "b6b6592530cdcab72710ca3b920938f105b3c50e43c14f2e5d615de2374441aa"), looks := false }, kinds := [], alts := [], laidByText := true, laidKinds := [.data, .pinned], laidTests := true, laidLooks := .later }
def StoreLatelyCardSaid : Prop := Claim7.holds Tryd.pinned (.plain (OpenSpec.ofChange storeLatelySpec)) storeLatelyCard

/-- THE TIED CARD OF 'lodgerlaw14.StoreKnown'. -/
def storeKnownCard : Claim7 := { stood := { row := storeKnownRow, standIns := [], harness := (true, "b6b6592530cdcab72710ca3b920938f105b3c50e43c14f2e5d615de2374441aa"), looks := false }, kinds := [], alts := [], laidByText := true, laidKinds := [.data, .pinned], laidTests := true, laidLooks := .later }
def StoreKnownCardSaid : Prop := Claim7.holds Tryd.pinned (.plain (OpenSpec.ofChange storeKnownSpec)) storeKnownCard

/-- THE SECOND FORM's CARD OF 'lodgerlaw14.StoreLately'. -/
def storeLatelyUptoCard : Claim7 := { stood := { row := storeLatelyUptoRow, standIns := [], harness := (true, "b6b6592530cdcab72710ca3b920938f105b3c50e43c14f2e5d615de2374441aa"), looks := false }, kinds := [], alts := [], laidByText := true, laidKinds := [.data, .pinned], laidTests := true, laidLooks := .later }
def StoreLatelyUptoCardSaid : Prop := Claim7.holds Tryd.pinned (.plain (OpenSpec.upto storeLatelySpec)) storeLatelyUptoCard

/-- THE SECOND FORM's CARD OF 'lodgerlaw14.StoreKnown'. -/
def storeKnownUptoCard : Claim7 := { stood := { row := storeKnownUptoRow, standIns := [], harness := (true, "b6b6592530cdcab72710ca3b920938f105b3c50e43c14f2e5d615de2374441aa"), looks := false }, kinds := [], alts := [], laidByText := true, laidKinds := [.data, .pinned], laidTests := true, laidLooks := .later }
def StoreKnownUptoCardSaid : Prop := Claim7.holds Tryd.pinned (.plain (OpenSpec.upto storeKnownSpec)) storeKnownUptoCard
end Rows
end Go.Proofs.YtjkomfonmcmgdaaDoor
