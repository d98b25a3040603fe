/-
  DERIVED. GIVEN WITH THE SEED: THE CARDS: each row of YtfabaenfglionaaGreatDoorRows.lean that lists a variable, with what it lists TIED to the program's text (the seventh form; the later family's looks); each row that meets fmt, with fmt's text TOLD by the authors' own Lean function (tested against real Go, not proved from fmt's source: count such statements apart). THE CARD IS WHAT COUNTS. Prove the row's statement (the work); the ties are given (YtfabaenfglionaaGreatDoorTie.lean); close each card by the builder's one call (the guide's Derived/Test/ToyasCard.lean, 'card_holds'). Laid BY PROGRAM, IN A SANDBOX (cutbox-door.mjs). By AI agents, Wed Nov 11 2026. No macro, syntax, notation, axiom, sorry.
-/
import Derived.Test.YtfabaenfglionaaGreatDoorRows
import GoSem.ClaimSeven
namespace Go.Proofs.YtfabaenfglionaaGreatDoor
namespace Rows

/-- THE TIED CARD OF 'letterboxlaw19.ShowParses'. -/
def showParsesCard : Claim7 := { stood := { row := showParsesRow, standIns := [], harness := (true, "741362ad41460a6ee97255b3a75cf15e81628a4def4ea5dbdd8015457519821e"), looks := false }, kinds := [], alts := [], laidByText := true, laidKinds := [.data, .data, .data, .data, .pinned], laidTests := true, laidLooks := .later }
def ShowParsesCardSaid : Prop := Claim7.holds Tryz.pinned (.plain (OpenSpec.ofChange showParsesSpec)) showParsesCard

/-- THE TIED CARD OF 'letterboxlaw19.ShowUIDs'. -/
def showUIDsCard : Claim7 := { stood := { row := showUIDsRow, standIns := [], harness := (true, "741362ad41460a6ee97255b3a75cf15e81628a4def4ea5dbdd8015457519821e"), looks := false }, kinds := [], alts := [], laidByText := true, laidKinds := [.data, .data, .data, .data, .pinned], laidTests := true, laidLooks := .later }
def ShowUIDsCardSaid : Prop := Claim7.holds Tryz.pinned (.plain (OpenSpec.ofChange showUIDsSpec)) showUIDsCard

/-- THE TIED CARD OF 'letterboxlaw19.ShowBodies'. -/
def showBodiesCard : Claim7 := { stood := { row := showBodiesRow, standIns := [], harness := (true, "741362ad41460a6ee97255b3a75cf15e81628a4def4ea5dbdd8015457519821e"), looks := false }, kinds := [], alts := [], laidByText := true, laidKinds := [.data, .data, .data, .data, .pinned], laidTests := true, laidLooks := .later }
def ShowBodiesCardSaid : Prop := Claim7.holds Tryz.pinned (.plain (OpenSpec.ofChange showBodiesSpec)) showBodiesCard

/-- THE TIED CARD OF 'letterboxlaw19.ShowPaths'. -/
def showPathsCard : Claim7 := { stood := { row := showPathsRow, standIns := [], harness := (true, "741362ad41460a6ee97255b3a75cf15e81628a4def4ea5dbdd8015457519821e"), looks := false }, kinds := [], alts := [], laidByText := true, laidKinds := [.data, .data, .data, .data, .pinned], laidTests := true, laidLooks := .later }
def ShowPathsCardSaid : Prop := Claim7.holds Tryz.pinned (.plain (OpenSpec.ofChange showPathsSpec)) showPathsCard

/-- THE SECOND FORM's CARD OF 'letterboxlaw19.ShowParses'. -/
def showParsesUptoCard : Claim7 := { stood := { row := showParsesUptoRow, standIns := [], harness := (true, "741362ad41460a6ee97255b3a75cf15e81628a4def4ea5dbdd8015457519821e"), looks := false }, kinds := [], alts := [], laidByText := true, laidKinds := [.data, .data, .data, .data, .pinned], laidTests := true, laidLooks := .later }
def ShowParsesUptoCardSaid : Prop := Claim7.holds Tryz.pinned (.plain (OpenSpec.upto showParsesSpec)) showParsesUptoCard

/-- THE SECOND FORM's CARD OF 'letterboxlaw19.ShowUIDs'. -/
def showUIDsUptoCard : Claim7 := { stood := { row := showUIDsUptoRow, standIns := [], harness := (true, "741362ad41460a6ee97255b3a75cf15e81628a4def4ea5dbdd8015457519821e"), looks := false }, kinds := [], alts := [], laidByText := true, laidKinds := [.data, .data, .data, .data, .pinned], laidTests := true, laidLooks := .later }
def ShowUIDsUptoCardSaid : Prop := Claim7.holds Tryz.pinned (.plain (OpenSpec.upto showUIDsSpec)) showUIDsUptoCard

/-- THE SECOND FORM's CARD OF 'letterboxlaw19.ShowBodies'. -/
def showBodiesUptoCard : Claim7 := { stood := { row := showBodiesUptoRow, standIns := [], harness := (true, "741362ad41460a6ee97255b3a75cf15e81628a4def4ea5dbdd8015457519821e"), looks := false }, kinds := [], alts := [], laidByText := true, laidKinds := [.data, .data, .data, .data, .pinned], laidTests := true, laidLooks := .later }
def ShowBodiesUptoCardSaid : Prop := Claim7.holds Tryz.pinned (.plain (OpenSpec.upto showBodiesSpec)) showBodiesUptoCard

/-- THE SECOND FORM's CARD OF 'letterboxlaw19.ShowPaths'. -/
def showPathsUptoCard : Claim7 := { stood := { row := showPathsUptoRow, standIns := [], harness := (true, "741362ad41460a6ee97255b3a75cf15e81628a4def4ea5dbdd8015457519821e"), looks := false }, kinds := [], alts := [], laidByText := true, laidKinds := [.data, .data, .data, .data, .pinned], laidTests := true, laidLooks := .later }
def ShowPathsUptoCardSaid : Prop := Claim7.holds Tryz.pinned (.plain (OpenSpec.upto showPathsSpec)) showPathsUptoCard
end Rows
end Go.Proofs.YtfabaenfglionaaGreatDoor
