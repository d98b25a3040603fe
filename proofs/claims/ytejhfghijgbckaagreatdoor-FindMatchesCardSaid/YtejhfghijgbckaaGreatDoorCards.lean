/-
  DERIVED. GIVEN WITH THE SEED: THE CARDS: each row of YtejhfghijgbckaaGreatDoorRows.lean that lists a variable, with what it lists TIED to the program's text (the seventh form; the later family's looks); each row that meets fmt, with fmt's text TOLD by the authors' own Lean function (tested against real Go, not proved from fmt's source: count such statements apart). THE CARD IS WHAT COUNTS. Prove the row's statement (the work); the ties are given (YtejhfghijgbckaaGreatDoorTie.lean); close each card by the builder's one call (the guide's Derived/Test/ToyasCard.lean, 'card_holds'). Laid BY PROGRAM, IN A SANDBOX (cutbox-door.mjs). By AI agents, Wed Nov 11 2026. No macro, syntax, notation, axiom, sorry.
-/
import Derived.Test.YtejhfghijgbckaaGreatDoorRows
import GoSem.ClaimSeven
namespace Go.Proofs.YtejhfghijgbckaaGreatDoor
namespace Rows

/-- THE TIED CARD OF 'letterboxlaw18.FindParses'. -/
def findParsesCard : Claim7 := { stood := { row := findParsesRow, standIns := [], harness := (true, "efe5ddaeefa475923c69fb0dfc1081bafa4d45b795cd287fe2678c36f4f293a7"), looks := true }, kinds := [], alts := [], laidByText := true, laidKinds := [.data, .data, .data, .data, .sentinel, .sentinel, .pinned], laidTests := true, laidLooks := .later }
def FindParsesCardSaid : Prop := Claim7.holds Tryz.pinned (.plain (OpenSpec.ofChange findParsesSpec)) findParsesCard

/-- THE TIED CARD OF 'letterboxlaw18.FindNot'. -/
def findNotCard : Claim7 := { stood := { row := findNotRow, standIns := [], harness := (true, "efe5ddaeefa475923c69fb0dfc1081bafa4d45b795cd287fe2678c36f4f293a7"), looks := true }, kinds := [], alts := [], laidByText := true, laidKinds := [.data, .data, .data, .data, .sentinel, .sentinel, .pinned], laidTests := true, laidLooks := .later }
def FindNotCardSaid : Prop := Claim7.holds Tryz.pinned (.plain (OpenSpec.ofChange findNotSpec)) findNotCard

/-- THE TIED CARD OF 'letterboxlaw18.FindFlags'. -/
def findFlagsCard : Claim7 := { stood := { row := findFlagsRow, standIns := [], harness := (true, "efe5ddaeefa475923c69fb0dfc1081bafa4d45b795cd287fe2678c36f4f293a7"), looks := true }, kinds := [], alts := [], laidByText := true, laidKinds := [.data, .data, .data, .data, .sentinel, .sentinel, .pinned], laidTests := true, laidLooks := .later }
def FindFlagsCardSaid : Prop := Claim7.holds Tryz.pinned (.plain (OpenSpec.ofChange findFlagsSpec)) findFlagsCard

/-- THE TIED CARD OF 'letterboxlaw18.FindTexts'. -/
def findTextsCard : Claim7 := { stood := { row := findTextsRow, standIns := [], harness := (true, "efe5ddaeefa475923c69fb0dfc1081bafa4d45b795cd287fe2678c36f4f293a7"), looks := true }, kinds := [], alts := [], laidByText := true, laidKinds := [.data, .data, .data, .data, .sentinel, .sentinel, .pinned], laidTests := true, laidLooks := .later }
def FindTextsCardSaid : Prop := Claim7.holds Tryz.pinned (.plain (OpenSpec.ofChange findTextsSpec)) findTextsCard

/-- THE TIED CARD OF 'letterboxlaw18.FindDeep'. -/
def findDeepCard : Claim7 := { stood := { row := findDeepRow, standIns := [], harness := (true, "efe5ddaeefa475923c69fb0dfc1081bafa4d45b795cd287fe2678c36f4f293a7"), looks := true }, kinds := [], alts := [], laidByText := true, laidKinds := [.data, .data, .data, .data, .sentinel, .sentinel, .pinned], laidTests := true, laidLooks := .later }
def FindDeepCardSaid : Prop := Claim7.holds Tryz.pinned (.plain (OpenSpec.ofChange findDeepSpec)) findDeepCard

/-- THE TIED CARD OF 'letterboxlaw18.FindSets'. -/
def findSetsCard : Claim7 := { stood := { row := findSetsRow, standIns := [], harness := (true, "efe5ddaeefa475923c69fb0dfc1081bafa4d45b795cd287fe2678c36f4f293a7"), looks := true }, kinds := [], alts := [], laidByText := true, laidKinds := [.data, .data, .data, .data, .sentinel, .sentinel, .pinned], laidTests := true, laidLooks := .later }
def FindSetsCardSaid : Prop := Claim7.holds Tryz.pinned (.plain (OpenSpec.ofChange findSetsSpec)) findSetsCard

/-- THE TIED CARD OF 'letterboxlaw18.FindMatches'. -/
def findMatchesCard : Claim7 := { stood := { row := findMatchesRow, standIns := [], harness := (true, "efe5ddaeefa475923c69fb0dfc1081bafa4d45b795cd287fe2678c36f4f293a7"), looks := true }, kinds := [], alts := [], laidByText := true, laidKinds := [.data, .data, .data, .data, .sentinel, .sentinel, .pinned], laidTests := true, laidLooks := .later }
def FindMatchesCardSaid : Prop := Claim7.holds Tryz.pinned (.plain (OpenSpec.ofChange findMatchesSpec)) findMatchesCard

/-- THE SECOND FORM's CARD OF 'letterboxlaw18.FindParses'. -/
def findParsesUptoCard : Claim7 := { stood := { row := findParsesUptoRow, standIns := [], harness := (true, "efe5ddaeefa475923c69fb0dfc1081bafa4d45b795cd287fe2678c36f4f293a7"), looks := true }, kinds := [], alts := [], laidByText := true, laidKinds := [.data, .data, .data, .data, .sentinel, .sentinel, .pinned], laidTests := true, laidLooks := .later }
def FindParsesUptoCardSaid : Prop := Claim7.holds Tryz.pinned (.plain (OpenSpec.upto findParsesSpec)) findParsesUptoCard

/-- THE SECOND FORM's CARD OF 'letterboxlaw18.FindNot'. -/
def findNotUptoCard : Claim7 := { stood := { row := findNotUptoRow, standIns := [], harness := (true, "efe5ddaeefa475923c69fb0dfc1081bafa4d45b795cd287fe2678c36f4f293a7"), looks := true }, kinds := [], alts := [], laidByText := true, laidKinds := [.data, .data, .data, .data, .sentinel, .sentinel, .pinned], laidTests := true, laidLooks := .later }
def FindNotUptoCardSaid : Prop := Claim7.holds Tryz.pinned (.plain (OpenSpec.upto findNotSpec)) findNotUptoCard

/-- THE SECOND FORM's CARD OF 'letterboxlaw18.FindFlags'. -/
def findFlagsUptoCard : Claim7 := { stood := { row := findFlagsUptoRow, standIns := [], harness := (true, "efe5ddaeefa475923c69fb0dfc1081bafa4d45b795cd287fe2678c36f4f293a7"), looks := true }, kinds := [], alts := [], laidByText := true, laidKinds := [.data, .data, .data, .data, .sentinel, .sentinel, .pinned], laidTests := true, laidLooks := .later }
def FindFlagsUptoCardSaid : Prop := Claim7.holds Tryz.pinned (.plain (OpenSpec.upto findFlagsSpec)) findFlagsUptoCard

/-- THE SECOND FORM's CARD OF 'letterboxlaw18.FindTexts'. -/
def findTextsUptoCard : Claim7 := { stood := { row := findTextsUptoRow, standIns := [], harness := (true, "efe5ddaeefa475923c69fb0dfc1081bafa4d45b795cd287fe2678c36f4f293a7"), looks := true }, kinds := [], alts := [], laidByText := true, laidKinds := [.data, .data, .data, .data, .sentinel, .sentinel, .pinned], laidTests := true, laidLooks := .later }
def FindTextsUptoCardSaid : Prop := Claim7.holds Tryz.pinned (.plain (OpenSpec.upto findTextsSpec)) findTextsUptoCard

/-- THE SECOND FORM's CARD OF 'letterboxlaw18.FindDeep'. -/
def findDeepUptoCard : Claim7 := { stood := { row := findDeepUptoRow, standIns := [], harness := (true, "efe5ddaeefa475923c69fb0dfc1081bafa4d45b795cd287fe2678c36f4f293a7"), looks := true }, kinds := [], alts := [], laidByText := true, laidKinds := [.data, .data, .data, .data, .sentinel, .sentinel, .pinned], laidTests := true, laidLooks := .later }
def FindDeepUptoCardSaid : Prop := Claim7.holds Tryz.pinned (.plain (OpenSpec.upto findDeepSpec)) findDeepUptoCard

/-- THE SECOND FORM's CARD OF 'letterboxlaw18.FindSets'. -/
def findSetsUptoCard : Claim7 := { stood := { row := findSetsUptoRow, standIns := [], harness := (true, "efe5ddaeefa475923c69fb0dfc1081bafa4d45b795cd287fe2678c36f4f293a7"), looks := true }, kinds := [], alts := [], laidByText := true, laidKinds := [.data, .data, .data, .data, .sentinel, .sentinel, .pinned], laidTests := true, laidLooks := .later }
def FindSetsUptoCardSaid : Prop := Claim7.holds Tryz.pinned (.plain (OpenSpec.upto findSetsSpec)) findSetsUptoCard

/-- THE SECOND FORM's CARD OF 'letterboxlaw18.FindMatches'. -/
def findMatchesUptoCard : Claim7 := { stood := { row := findMatchesUptoRow, standIns := [], harness := (true, "efe5ddaeefa475923c69fb0dfc1081bafa4d45b795cd287fe2678c36f4f293a7"), looks := true }, kinds := [], alts := [], laidByText := true, laidKinds := [.data, .data, .data, .data, .sentinel, .sentinel, .pinned], laidTests := true, laidLooks := .later }
def FindMatchesUptoCardSaid : Prop := Claim7.holds Tryz.pinned (.plain (OpenSpec.upto findMatchesSpec)) findMatchesUptoCard
end Rows
end Go.Proofs.YtejhfghijgbckaaGreatDoor
