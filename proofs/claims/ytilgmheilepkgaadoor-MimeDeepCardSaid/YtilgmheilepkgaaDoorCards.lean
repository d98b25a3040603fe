/-
  DERIVED. GIVEN WITH THE SEED: THE CARDS: each row of YtilgmheilepkgaaDoorRows.lean that lists a variable, with what it lists TIED to the program's text (the seventh form; the later family's looks); each row that meets fmt, with fmt's text TOLD by the authors' own Lean function (tested against real Go, not proved from fmt's source: count such statements apart). THE CARD IS WHAT COUNTS. Prove the row's statement (the work); the ties are given (YtilgmheilepkgaaDoorTie.lean); close each card by the builder's one call (the guide's Derived/Test/ToyasCard.lean, 'card_holds'). Laid BY PROGRAM, IN A SANDBOX (cutbox-door.mjs). By AI agents, Wed Nov 11 2026. No macro, syntax, notation, axiom, sorry.
-/
import Derived.Test.YtilgmheilepkgaaDoorRows
import GoSem.ClaimSeven
namespace Go.Proofs.YtilgmheilepkgaaDoor
namespace Rows

/-- THE TIED CARD OF 'letterboxlaw10.MimeDeep'. -/
def mimeDeepCard : Claim7 := { stood := { row := mimeDeepRow, standIns := [], harness := (true, "ac0b1f3eb95f624f6c265a9848cc4e520927acca9fb942add92852c94317b83d"), looks := false }, kinds := [], alts := [], laidByText := true, laidKinds := [.data, .pinned], laidTests := true, laidLooks := .later }
def MimeDeepCardSaid : Prop := Claim7.holds Tryd.pinned (.plain (OpenSpec.ofChange mimeDeepSpec)) mimeDeepCard

/-- THE TIED CARD OF 'letterboxlaw10.MimeMany'. -/
def mimeManyCard : Claim7 := { stood := { row := mimeManyRow, standIns := [], harness := (true, "ac0b1f3eb95f624f6c265a9848cc4e520927acca9fb942add92852c94317b83d"), looks := false }, kinds := [], alts := [], laidByText := true, laidKinds := [.data, .pinned], laidTests := true, laidLooks := .later }
def MimeManyCardSaid : Prop := Claim7.holds Tryd.pinned (.plain (OpenSpec.ofChange mimeManySpec)) mimeManyCard

/-- THE TIED CARD OF 'letterboxlaw10.MimeParts'. -/
def mimePartsCard : Claim7 := { stood := { row := mimePartsRow, standIns := [], harness := (true, "ac0b1f3eb95f624f6c265a9848cc4e520927acca9fb942add92852c94317b83d"), looks := false }, kinds := [], alts := [], laidByText := true, laidKinds := [.data, .pinned], laidTests := true, laidLooks := .later }
def MimePartsCardSaid : Prop := Claim7.holds Tryd.pinned (.plain (OpenSpec.ofChange mimePartsSpec)) mimePartsCard

/-- THE TIED CARD OF 'letterboxlaw10.MimeTypes'. -/
def mimeTypesCard : Claim7 := { stood := { row := mimeTypesRow, standIns := [], harness := (true, "ac0b1f3eb95f624f6c265a9848cc4e520927acca9fb942add92852c94317b83d"), looks := false }, kinds := [], alts := [], laidByText := true, laidKinds := [.data, .pinned], laidTests := true, laidLooks := .later }
def MimeTypesCardSaid : Prop := Claim7.holds Tryd.pinned (.plain (OpenSpec.ofChange mimeTypesSpec)) mimeTypesCard

/-- THE TIED CARD OF 'letterboxlaw10.MimeWithin'. -/
def mimeWithinCard : Claim7 := { stood := { row := mimeWithinRow, standIns := [], harness := (true, "ac0b1f3eb95f624f6c265a9848cc4e520927acca9fb942add92852c94317b83d"), looks := false }, kinds := [], alts := [], laidByText := true, laidKinds := [.data, .pinned], laidTests := true, laidLooks := .later }
def MimeWithinCardSaid : Prop := Claim7.holds Tryd.pinned (.plain (OpenSpec.ofChange mimeWithinSpec)) mimeWithinCard

/-- THE SECOND FORM's CARD OF 'letterboxlaw10.MimeDeep'. -/
def mimeDeepUptoCard : Claim7 := { stood := { row := mimeDeepUptoRow, standIns := [], harness := (true, "ac0b1f3eb95f624f6c265a9848cc4e520927acca9fb942add92852c94317b83d"), looks := false }, kinds := [], alts := [], laidByText := true, laidKinds := [.data, .pinned], laidTests := true, laidLooks := .later }
def MimeDeepUptoCardSaid : Prop := Claim7.holds Tryd.pinned (.plain (OpenSpec.upto mimeDeepSpec)) mimeDeepUptoCard

/-- THE SECOND FORM's CARD OF 'letterboxlaw10.MimeMany'. -/
def mimeManyUptoCard : Claim7 := { stood := { row := mimeManyUptoRow, standIns := [], harness := (true, "ac0b1f3eb95f624f6c265a9848cc4e520927acca9fb942add92852c94317b83d"), looks := false }, kinds := [], alts := [], laidByText := true, laidKinds := [.data, .pinned], laidTests := true, laidLooks := .later }
def MimeManyUptoCardSaid : Prop := Claim7.holds Tryd.pinned (.plain (OpenSpec.upto mimeManySpec)) mimeManyUptoCard

/-- THE SECOND FORM's CARD OF 'letterboxlaw10.MimeParts'. -/
def mimePartsUptoCard : Claim7 := { stood := { row := mimePartsUptoRow, standIns := [], harness := (true, "ac0b1f3eb95f624f6c265a9848cc4e520927acca9fb942add92852c94317b83d"), looks := false }, kinds := [], alts := [], laidByText := true, laidKinds := [.data, .pinned], laidTests := true, laidLooks := .later }
def MimePartsUptoCardSaid : Prop := Claim7.holds Tryd.pinned (.plain (OpenSpec.upto mimePartsSpec)) mimePartsUptoCard

/-- THE SECOND FORM's CARD OF 'letterboxlaw10.MimeTypes'. -/
def mimeTypesUptoCard : Claim7 := { stood := { row := mimeTypesUptoRow, standIns := [], harness := (true, "ac0b1f3eb95f624f6c265a9848cc4e520927acca9fb942add92852c94317b83d"), looks := false }, kinds := [], alts := [], laidByText := true, laidKinds := [.data, .pinned], laidTests := true, laidLooks := .later }
def MimeTypesUptoCardSaid : Prop := Claim7.holds Tryd.pinned (.plain (OpenSpec.upto mimeTypesSpec)) mimeTypesUptoCard

/-- THE SECOND FORM's CARD OF 'letterboxlaw10.MimeWithin'. -/
def mimeWithinUptoCard : Claim7 := { stood := { row := mimeWithinUptoRow, standIns := [], harness := (true, "ac0b1f3eb95f624f6c265a9848cc4e520927acca9fb942add92852c94317b83d"), looks := false }, kinds := [], alts := [], laidByText := true, laidKinds := [.data, .pinned], laidTests := true, laidLooks := .later }
def MimeWithinUptoCardSaid : Prop := Claim7.holds Tryd.pinned (.plain (OpenSpec.upto mimeWithinSpec)) mimeWithinUptoCard
end Rows
end Go.Proofs.YtilgmheilepkgaaDoor
