/-
  DERIVED. GIVEN WITH THE SEED: THE CARDS: each row of YtjkomfonmcmgdaaGreatDoorRows.lean that lists a variable, with what it lists TIED to the program's text (the seventh form; the later family's looks); each row that meets fmt, with fmt's text TOLD by the authors' own Lean function (tested against real Go, not proved from fmt's source: count such statements apart). THE CARD IS WHAT COUNTS. Prove the row's statement (the work); the ties are given (YtjkomfonmcmgdaaGreatDoorTie.lean); close each card by the builder's one call (the guide's Derived/Test/ToyasCard.lean, 'card_holds'). Laid BY PROGRAM, IN A SANDBOX (cutbox-door.mjs). By AI agents, Wed Nov 11 2026. No macro, syntax, notation, axiom, sorry.
-/
import Derived.Test.YtjkomfonmcmgdaaGreatDoorRows
import GoSem.ClaimSeven
namespace Go.Proofs.YtjkomfonmcmgdaaGreatDoor
namespace Rows

/-- THE TIED CARD OF 'lodgerlaw14.StorePlays'. -/
def storePlaysCard : Claim7 := { stood := { row := storePlaysRow, standIns := [], harness := (true, "7b785f11f1ad7ad39492cb8fd689bf19dea406622b85d9cf7741175f89cf8e70"), looks := false }, kinds := [], alts := [], laidByText := true, laidKinds := [.data, .pinned], laidTests := true, laidLooks := .later }
def StorePlaysCardSaid : Prop := Claim7.holds Tryz.pinned (.plain (OpenSpec.ofChange storePlaysSpec)) storePlaysCard

/-- THE TIED CARD OF 'lodgerlaw14.StoreRoom'. -/
def storeRoomCard : Claim7 := { stood := { row := storeRoomRow, standIns := [], harness := (true, "7b785f11f1ad7ad39492cb8fd689bf19dea406622b85d9cf7741175f89cf8e70"), looks := false }, kinds := [], alts := [], laidByText := true, laidKinds := [.data, .pinned], laidTests := true, laidLooks := .later }
def StoreRoomCardSaid : Prop := Claim7.holds Tryz.pinned (.plain (OpenSpec.ofChange storeRoomSpec)) storeRoomCard

/-- THE TIED CARD OF 'lodgerlaw14.StoreNever'. -/
def storeNeverCard : Claim7 := { stood := { row := storeNeverRow, standIns := [], harness := (true, "7b785f11f1ad7ad39492cb8fd689bf19dea406622b85d9cf7741175f89cf8e70"), looks := false }, kinds := [], alts := [], laidByText := true, laidKinds := [.data, .pinned], laidTests := true, laidLooks := .later }
def StoreNeverCardSaid : Prop := Claim7.holds Tryz.pinned (.plain (OpenSpec.ofChange storeNeverSpec)) storeNeverCard

/-- THE TIED CARD OF 'lodgerlaw14.StoreOnce'. -/
def storeOnceCard : Claim7 := { stood := { row := storeOnceRow, standIns := [], harness := (true, "7b785f11f1ad7ad39492cb8fd689bf19dea406622b85d9cf7741175f89cf8e70"), looks := false }, kinds := [], alts := [], laidByText := true, laidKinds := [.data, .pinned], laidTests := true, laidLooks := .later }
def StoreOnceCardSaid : Prop := Claim7.holds Tryz.pinned (.plain (OpenSpec.ofChange storeOnceSpec)) storeOnceCard

/-- THE SECOND FORM's CARD OF 'lodgerlaw14.StorePlays'. -/
def storePlaysUptoCard : Claim7 := { stood := { row := storePlaysUptoRow, standIns := [], harness := (true, "7b785f11f1ad7ad39492cb8fd689bf19dea406622b85d9cf7741175f89cf8e70"), looks := false }, kinds := [], alts := [], laidByText := true, laidKinds := [.data, .pinned], laidTests := true, laidLooks := .later }
def StorePlaysUptoCardSaid : Prop := Claim7.holds Tryz.pinned (.plain (OpenSpec.upto storePlaysSpec)) storePlaysUptoCard

/-- THE SECOND FORM's CARD OF 'lodgerlaw14.StoreRoom'. -/
def storeRoomUptoCard : Claim7 := { stood := { row := storeRoomUptoRow, standIns := [], harness := (true, "7b785f11f1ad7ad39492cb8fd689bf19dea406622b85d9cf7741175f89cf8e70"), looks := false }, kinds := [], alts := [], laidByText := true, laidKinds := [.data, .pinned], laidTests := true, laidLooks := .later }
def StoreRoomUptoCardSaid : Prop := Claim7.holds Tryz.pinned (.plain (OpenSpec.upto storeRoomSpec)) storeRoomUptoCard

/-- THE SECOND FORM's CARD OF 'lodgerlaw14.StoreNever'. -/
def storeNeverUptoCard : Claim7 := { stood := { row := storeNeverUptoRow, standIns := [], harness := (true, "7b785f11f1ad7ad39492cb8fd689bf19dea406622b85d9cf7741175f89cf8e70"), looks := false }, kinds := [], alts := [], laidByText := true, laidKinds := [.data, .pinned], laidTests := true, laidLooks := .later }
def StoreNeverUptoCardSaid : Prop := Claim7.holds Tryz.pinned (.plain (OpenSpec.upto storeNeverSpec)) storeNeverUptoCard

/-- THE SECOND FORM's CARD OF 'lodgerlaw14.StoreOnce'. -/
def storeOnceUptoCard : Claim7 := { stood := { row := storeOnceUptoRow, standIns := [], harness := (true, "7b785f11f1ad7ad39492cb8fd689bf19dea406622b85d9cf7741175f89cf8e70"), looks := false }, kinds := [], alts := [], laidByText := true, laidKinds := [.data, .pinned], laidTests := true, laidLooks := .later }
def StoreOnceUptoCardSaid : Prop := Claim7.holds Tryz.pinned (.plain (OpenSpec.upto storeOnceSpec)) storeOnceUptoCard
end Rows
end Go.Proofs.YtjkomfonmcmgdaaGreatDoor
