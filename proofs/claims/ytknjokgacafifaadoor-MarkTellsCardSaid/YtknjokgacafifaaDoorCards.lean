/-
  DERIVED. GIVEN WITH THE SEED: THE CARDS: each row of YtknjokgacafifaaDoorRows.lean that lists a variable, with what it lists TIED to the program's text (the seventh form; the later family's looks); each row that meets fmt, with fmt's text TOLD by the authors' own Lean function (tested against real Go, not proved from fmt's source: count such statements apart). THE CARD IS WHAT COUNTS. Prove the row's statement (the work); the ties are given (YtknjokgacafifaaDoorTie.lean); close each card by the builder's one call (the guide's Derived/Test/ToyasCard.lean, 'card_holds'). Laid BY PROGRAM, IN A SANDBOX (cutbox-door.mjs). By AI agents, Wed Nov 11 2026. No macro, syntax, notation, axiom, sorry.
-/
import Derived.Test.YtknjokgacafifaaDoorRows
import GoSem.ClaimSeven
namespace Go.Proofs.YtknjokgacafifaaDoor
namespace Rows

/-- THE TIED CARD OF 'letterboxlaw11.MarkBack'. -/
def markBackCard : Claim7 := { stood := { row := markBackRow, standIns := [], harness := (true, "fb6fbb34d1145def343a820a2916315a7d83fa1e63c96f6e41c6cb5d35160a1c"), looks := false }, kinds := [], alts := [], laidByText := true, laidKinds := [.data, .data, .data, .pinned, .pinned], laidTests := true, laidLooks := .later }
def MarkBackCardSaid : Prop := Claim7.holds Tryd.pinned (.plain (OpenSpec.ofChange markBackSpec)) markBackCard

/-- THE TIED CARD OF 'letterboxlaw11.MarkModes'. -/
def markModesCard : Claim7 := { stood := { row := markModesRow, standIns := [], harness := (true, "fb6fbb34d1145def343a820a2916315a7d83fa1e63c96f6e41c6cb5d35160a1c"), looks := false }, kinds := [], alts := [], laidByText := true, laidKinds := [.data, .data, .data, .pinned, .pinned], laidTests := true, laidLooks := .later }
def MarkModesCardSaid : Prop := Claim7.holds Tryd.pinned (.plain (OpenSpec.ofChange markModesSpec)) markModesCard

/-- THE TIED CARD OF 'letterboxlaw11.MarkNone'. -/
def markNoneCard : Claim7 := { stood := { row := markNoneRow, standIns := [], harness := (true, "fb6fbb34d1145def343a820a2916315a7d83fa1e63c96f6e41c6cb5d35160a1c"), looks := false }, kinds := [], alts := [], laidByText := true, laidKinds := [.data, .data, .data, .pinned, .pinned], laidTests := true, laidLooks := .later }
def MarkNoneCardSaid : Prop := Claim7.holds Tryd.pinned (.plain (OpenSpec.ofChange markNoneSpec)) markNoneCard

/-- THE TIED CARD OF 'letterboxlaw11.MarkTells'. -/
def markTellsCard : Claim7 := { stood := { row := markTellsRow, standIns := [], harness := (true, "fb6fbb34d1145def343a820a2916315a7d83fa1e63c96f6e41c6cb5d35160a1c"), looks := false }, kinds := [], alts := [], laidByText := true, laidKinds := [.data, .data, .data, .pinned, .pinned], laidTests := true, laidLooks := .later }
def MarkTellsCardSaid : Prop := Claim7.holds Tryd.pinned (.plain (OpenSpec.ofChange markTellsSpec)) markTellsCard

/-- THE SECOND FORM's CARD OF 'letterboxlaw11.MarkBack'. -/
def markBackUptoCard : Claim7 := { stood := { row := markBackUptoRow, standIns := [], harness := (true, "fb6fbb34d1145def343a820a2916315a7d83fa1e63c96f6e41c6cb5d35160a1c"), looks := false }, kinds := [], alts := [], laidByText := true, laidKinds := [.data, .data, .data, .pinned, .pinned], laidTests := true, laidLooks := .later }
def MarkBackUptoCardSaid : Prop := Claim7.holds Tryd.pinned (.plain (OpenSpec.upto markBackSpec)) markBackUptoCard

/-- THE SECOND FORM's CARD OF 'letterboxlaw11.MarkModes'. -/
def markModesUptoCard : Claim7 := { stood := { row := markModesUptoRow, standIns := [], harness := (true, "fb6fbb34d1145def343a820a2916315a7d83fa1e63c96f6e41c6cb5d35160a1c"), looks := false }, kinds := [], alts := [], laidByText := true, laidKinds := [.data, .data, .data, .pinned, .pinned], laidTests := true, laidLooks := .later }
def MarkModesUptoCardSaid : Prop := Claim7.holds Tryd.pinned (.plain (OpenSpec.upto markModesSpec)) markModesUptoCard

/-- THE SECOND FORM's CARD OF 'letterboxlaw11.MarkNone'. -/
def markNoneUptoCard : Claim7 := { stood := { row := markNoneUptoRow, standIns := [], harness := (true, "fb6fbb34d1145def343a820a2916315a7d83fa1e63c96f6e41c6cb5d35160a1c"), looks := false }, kinds := [], alts := [], laidByText := true, laidKinds := [.data, .data, .data, .pinned, .pinned], laidTests := true, laidLooks := .later }
def MarkNoneUptoCardSaid : Prop := Claim7.holds Tryd.pinned (.plain (OpenSpec.upto markNoneSpec)) markNoneUptoCard

/-- THE SECOND FORM's CARD OF 'letterboxlaw11.MarkTells'. -/
def markTellsUptoCard : Claim7 := { stood := { row := markTellsUptoRow, standIns := [], harness := (true, "fb6fbb34d1145def343a820a2916315a7d83fa1e63c96f6e41c6cb5d35160a1c"), looks := false }, kinds := [], alts := [], laidByText := true, laidKinds := [.data, .data, .data, .pinned, .pinned], laidTests := true, laidLooks := .later }
def MarkTellsUptoCardSaid : Prop := Claim7.holds Tryd.pinned (.plain (OpenSpec.upto markTellsSpec)) markTellsUptoCard
end Rows
end Go.Proofs.YtknjokgacafifaaDoor
