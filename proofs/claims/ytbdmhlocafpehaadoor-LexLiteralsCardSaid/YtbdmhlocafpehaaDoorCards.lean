/-
  DERIVED. GIVEN WITH THE SEED: THE CARDS: each row of YtbdmhlocafpehaaDoorRows.lean that lists a variable, with what it lists TIED to the program's text (the seventh form; the later family's looks); each row that meets fmt, with fmt's text TOLD by the authors' own Lean function (tested against real Go, not proved from fmt's source: count such statements apart). THE CARD IS WHAT COUNTS. Prove the row's statement (the work); the ties are given (YtbdmhlocafpehaaDoorTie.lean); close each card by the builder's one call (the guide's Derived/Test/ToyasCard.lean, 'card_holds'). Laid BY PROGRAM, IN A SANDBOX (cutbox-door.mjs). By AI agents, Wed Nov 11 2026. No macro, syntax, notation, axiom, sorry.
-/
import Derived.Test.YtbdmhlocafpehaaDoorRows
import GoSem.ClaimSeven
namespace Go.Proofs.YtbdmhlocafpehaaDoor
namespace Rows

/-- THE TIED CARD OF 'letterboxlaw17.LexAtoms'. -/
def lexAtomsCard : Claim7 := { stood := { row := lexAtomsRow, standIns := [], harness := (true, "246b1a503da03a21919936f4c57be22816233f483fffb150b45db91b88e6f778"), looks := true }, kinds := [], alts := [], laidByText := true, laidKinds := [.data, .data, .data, .data, .sentinel, .sentinel, .pinned], laidTests := true, laidLooks := .later }
def LexAtomsCardSaid : Prop := Claim7.holds Tryd.pinned (.plain (OpenSpec.ofChange lexAtomsSpec)) lexAtomsCard

/-- THE TIED CARD OF 'letterboxlaw17.LexBad'. -/
def lexBadCard : Claim7 := { stood := { row := lexBadRow, standIns := [], harness := (true, "246b1a503da03a21919936f4c57be22816233f483fffb150b45db91b88e6f778"), looks := true }, kinds := [], alts := [], laidByText := true, laidKinds := [.data, .data, .data, .data, .sentinel, .sentinel, .pinned], laidTests := true, laidLooks := .later }
def LexBadCardSaid : Prop := Claim7.holds Tryd.pinned (.plain (OpenSpec.ofChange lexBadSpec)) lexBadCard

/-- THE TIED CARD OF 'letterboxlaw17.LexLiterals'. -/
def lexLiteralsCard : Claim7 := { stood := { row := lexLiteralsRow, standIns := [], harness := (true, "246b1a503da03a21919936f4c57be22816233f483fffb150b45db91b88e6f778"), looks := true }, kinds := [], alts := [], laidByText := true, laidKinds := [.data, .data, .data, .data, .sentinel, .sentinel, .pinned], laidTests := true, laidLooks := .later }
def LexLiteralsCardSaid : Prop := Claim7.holds Tryd.pinned (.plain (OpenSpec.ofChange lexLiteralsSpec)) lexLiteralsCard

/-- THE TIED CARD OF 'letterboxlaw17.LexWant'. -/
def lexWantCard : Claim7 := { stood := { row := lexWantRow, standIns := [], harness := (true, "246b1a503da03a21919936f4c57be22816233f483fffb150b45db91b88e6f778"), looks := true }, kinds := [], alts := [], laidByText := true, laidKinds := [.data, .data, .data, .data, .sentinel, .sentinel, .pinned], laidTests := true, laidLooks := .later }
def LexWantCardSaid : Prop := Claim7.holds Tryd.pinned (.plain (OpenSpec.ofChange lexWantSpec)) lexWantCard

/-- THE SECOND FORM's CARD OF 'letterboxlaw17.LexAtoms'. -/
def lexAtomsUptoCard : Claim7 := { stood := { row := lexAtomsUptoRow, standIns := [], harness := (true, "246b1a503da03a21919936f4c57be22816233f483fffb150b45db91b88e6f778"), looks := true }, kinds := [], alts := [], laidByText := true, laidKinds := [.data, .data, .data, .data, .sentinel, .sentinel, .pinned], laidTests := true, laidLooks := .later }
def LexAtomsUptoCardSaid : Prop := Claim7.holds Tryd.pinned (.plain (OpenSpec.upto lexAtomsSpec)) lexAtomsUptoCard

/-- THE SECOND FORM's CARD OF 'letterboxlaw17.LexBad'. -/
def lexBadUptoCard : Claim7 := { stood := { row := lexBadUptoRow, standIns := [], harness := (true, "246b1a503da03a21919936f4c57be22816233f483fffb150b45db91b88e6f778"), looks := true }, kinds := [], alts := [], laidByText := true, laidKinds := [.data, .data, .data, .data, .sentinel, .sentinel, .pinned], laidTests := true, laidLooks := .later }
def LexBadUptoCardSaid : Prop := Claim7.holds Tryd.pinned (.plain (OpenSpec.upto lexBadSpec)) lexBadUptoCard

/-- THE SECOND FORM's CARD OF 'letterboxlaw17.LexLiterals'. -/
def lexLiteralsUptoCard : Claim7 := { stood := { row := lexLiteralsUptoRow, standIns := [], harness := (true, "246b1a503da03a21919936f4c57be22816233f483fffb150b45db91b88e6f778"), looks := true }, kinds := [], alts := [], laidByText := true, laidKinds := [.data, .data, .data, .data, .sentinel, .sentinel, .pinned], laidTests := true, laidLooks := .later }
def LexLiteralsUptoCardSaid : Prop := Claim7.holds Tryd.pinned (.plain (OpenSpec.upto lexLiteralsSpec)) lexLiteralsUptoCard

/-- THE SECOND FORM's CARD OF 'letterboxlaw17.LexWant'. -/
def lexWantUptoCard : Claim7 := { stood := { row := lexWantUptoRow, standIns := [], harness := (true, "246b1a503da03a21919936f4c57be22816233f483fffb150b45db91b88e6f778"), looks := true }, kinds := [], alts := [], laidByText := true, laidKinds := [.data, .data, .data, .data, .sentinel, .sentinel, .pinned], laidTests := true, laidLooks := .later }
def LexWantUptoCardSaid : Prop := Claim7.holds Tryd.pinned (.plain (OpenSpec.upto lexWantSpec)) lexWantUptoCard
end Rows
end Go.Proofs.YtbdmhlocafpehaaDoor
