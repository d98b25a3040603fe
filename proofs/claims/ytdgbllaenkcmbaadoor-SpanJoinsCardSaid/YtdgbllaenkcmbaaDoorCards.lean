/-
  DERIVED. GIVEN WITH THE SEED: THE CARDS: each row of YtdgbllaenkcmbaaDoorRows.lean that lists a variable, with what it lists TIED to the program's text (the seventh form; the later family's looks); each row that meets fmt, with fmt's text TOLD by the authors' own Lean function (tested against real Go, not proved from fmt's source: count such statements apart). THE CARD IS WHAT COUNTS. Prove the row's statement (the work); the ties are given (YtdgbllaenkcmbaaDoorTie.lean); close each card by the builder's one call (the guide's Derived/Test/ToyasCard.lean, 'card_holds'). Laid BY PROGRAM, IN A SANDBOX (cutbox-door.mjs). By AI agents, Wed Nov 11 2026. No macro, syntax, notation, axiom, sorry.
-/
import Derived.Test.YtdgbllaenkcmbaaDoorRows
import GoSem.ClaimSeven
namespace Go.Proofs.YtdgbllaenkcmbaaDoor
namespace Rows

/-- THE TIED CARD OF 'letterboxlaw12.SpanBack'. -/
def spanBackCard : Claim7 := { stood := { row := spanBackRow, standIns := [], harness := (true, "2a96d32244e6c82c86acefecb1a206e59962ba38587e453c0800c7ccd7f39ae1"), looks := true }, kinds := [], alts := [], laidByText := true, laidKinds := [.data, .data, .data, .data, .sentinel, .sentinel, .pinned], laidTests := true, laidLooks := .later }
def SpanBackCardSaid : Prop := Claim7.holds Tryd.pinned (.plain (OpenSpec.ofChange spanBackSpec)) spanBackCard

/-- THE TIED CARD OF 'letterboxlaw12.SpanEnds'. -/
def spanEndsCard : Claim7 := { stood := { row := spanEndsRow, standIns := [], harness := (true, "2a96d32244e6c82c86acefecb1a206e59962ba38587e453c0800c7ccd7f39ae1"), looks := true }, kinds := [], alts := [], laidByText := true, laidKinds := [.data, .data, .data, .data, .sentinel, .sentinel, .pinned], laidTests := true, laidLooks := .later }
def SpanEndsCardSaid : Prop := Claim7.holds Tryd.pinned (.plain (OpenSpec.ofChange spanEndsSpec)) spanEndsCard

/-- THE TIED CARD OF 'letterboxlaw12.SpanJoins'. -/
def spanJoinsCard : Claim7 := { stood := { row := spanJoinsRow, standIns := [], harness := (true, "2a96d32244e6c82c86acefecb1a206e59962ba38587e453c0800c7ccd7f39ae1"), looks := true }, kinds := [], alts := [], laidByText := true, laidKinds := [.data, .data, .data, .data, .sentinel, .sentinel, .pinned], laidTests := true, laidLooks := .later }
def SpanJoinsCardSaid : Prop := Claim7.holds Tryd.pinned (.plain (OpenSpec.ofChange spanJoinsSpec)) spanJoinsCard

/-- THE TIED CARD OF 'letterboxlaw12.SpanMany'. -/
def spanManyCard : Claim7 := { stood := { row := spanManyRow, standIns := [], harness := (true, "2a96d32244e6c82c86acefecb1a206e59962ba38587e453c0800c7ccd7f39ae1"), looks := true }, kinds := [], alts := [], laidByText := true, laidKinds := [.data, .data, .data, .data, .sentinel, .sentinel, .pinned], laidTests := true, laidLooks := .later }
def SpanManyCardSaid : Prop := Claim7.holds Tryd.pinned (.plain (OpenSpec.ofChange spanManySpec)) spanManyCard

/-- THE TIED CARD OF 'letterboxlaw12.SpanNone'. -/
def spanNoneCard : Claim7 := { stood := { row := spanNoneRow, standIns := [], harness := (true, "2a96d32244e6c82c86acefecb1a206e59962ba38587e453c0800c7ccd7f39ae1"), looks := true }, kinds := [], alts := [], laidByText := true, laidKinds := [.data, .data, .data, .data, .sentinel, .sentinel, .pinned], laidTests := true, laidLooks := .later }
def SpanNoneCardSaid : Prop := Claim7.holds Tryd.pinned (.plain (OpenSpec.ofChange spanNoneSpec)) spanNoneCard

/-- THE TIED CARD OF 'letterboxlaw12.SpanTells'. -/
def spanTellsCard : Claim7 := { stood := { row := spanTellsRow, standIns := [], harness := (true, "2a96d32244e6c82c86acefecb1a206e59962ba38587e453c0800c7ccd7f39ae1"), looks := true }, kinds := [], alts := [], laidByText := true, laidKinds := [.data, .data, .data, .data, .sentinel, .sentinel, .pinned], laidTests := true, laidLooks := .later }
def SpanTellsCardSaid : Prop := Claim7.holds Tryd.pinned (.plain (OpenSpec.ofChange spanTellsSpec)) spanTellsCard

/-- THE SECOND FORM's CARD OF 'letterboxlaw12.SpanBack'. -/
def spanBackUptoCard : Claim7 := { stood := { row := spanBackUptoRow, standIns := [], harness := (true, "2a96d32244e6c82c86acefecb1a206e59962ba38587e453c0800c7ccd7f39ae1"), looks := true }, kinds := [], alts := [], laidByText := true, laidKinds := [.data, .data, .data, .data, .sentinel, .sentinel, .pinned], laidTests := true, laidLooks := .later }
def SpanBackUptoCardSaid : Prop := Claim7.holds Tryd.pinned (.plain (OpenSpec.upto spanBackSpec)) spanBackUptoCard

/-- THE SECOND FORM's CARD OF 'letterboxlaw12.SpanEnds'. -/
def spanEndsUptoCard : Claim7 := { stood := { row := spanEndsUptoRow, standIns := [], harness := (true, "2a96d32244e6c82c86acefecb1a206e59962ba38587e453c0800c7ccd7f39ae1"), looks := true }, kinds := [], alts := [], laidByText := true, laidKinds := [.data, .data, .data, .data, .sentinel, .sentinel, .pinned], laidTests := true, laidLooks := .later }
def SpanEndsUptoCardSaid : Prop := Claim7.holds Tryd.pinned (.plain (OpenSpec.upto spanEndsSpec)) spanEndsUptoCard

/-- THE SECOND FORM's CARD OF 'letterboxlaw12.SpanJoins'. -/
def spanJoinsUptoCard : Claim7 := { stood := { row := spanJoinsUptoRow, standIns := [], harness := (true, "2a96d32244e6c82c86acefecb1a206e59962ba38587e453c0800c7ccd7f39ae1"), looks := true }, kinds := [], alts := [], laidByText := true, laidKinds := [.data, .data, .data, .data, .sentinel, .sentinel, .pinned], laidTests := true, laidLooks := .later }
def SpanJoinsUptoCardSaid : Prop := Claim7.holds Tryd.pinned (.plain (OpenSpec.upto spanJoinsSpec)) spanJoinsUptoCard

/-- THE SECOND FORM's CARD OF 'letterboxlaw12.SpanMany'. -/
def spanManyUptoCard : Claim7 := { stood := { row := spanManyUptoRow, standIns := [], harness := (true, "2a96d32244e6c82c86acefecb1a206e59962ba38587e453c0800c7ccd7f39ae1"), looks := true }, kinds := [], alts := [], laidByText := true, laidKinds := [.data, .data, .data, .data, .sentinel, .sentinel, .pinned], laidTests := true, laidLooks := .later }
def SpanManyUptoCardSaid : Prop := Claim7.holds Tryd.pinned (.plain (OpenSpec.upto spanManySpec)) spanManyUptoCard

/-- THE SECOND FORM's CARD OF 'letterboxlaw12.SpanNone'. -/
def spanNoneUptoCard : Claim7 := { stood := { row := spanNoneUptoRow, standIns := [], harness := (true, "2a96d32244e6c82c86acefecb1a206e59962ba38587e453c0800c7ccd7f39ae1"), looks := true }, kinds := [], alts := [], laidByText := true, laidKinds := [.data, .data, .data, .data, .sentinel, .sentinel, .pinned], laidTests := true, laidLooks := .later }
def SpanNoneUptoCardSaid : Prop := Claim7.holds Tryd.pinned (.plain (OpenSpec.upto spanNoneSpec)) spanNoneUptoCard

/-- THE SECOND FORM's CARD OF 'letterboxlaw12.SpanTells'. -/
def spanTellsUptoCard : Claim7 := { stood := { row := spanTellsUptoRow, standIns := [], harness := (true, "2a96d32244e6c82c86acefecb1a206e59962ba38587e453c0800c7ccd7f39ae1"), looks := true }, kinds := [], alts := [], laidByText := true, laidKinds := [.data, .data, .data, .data, .sentinel, .sentinel, .pinned], laidTests := true, laidLooks := .later }
def SpanTellsUptoCardSaid : Prop := Claim7.holds Tryd.pinned (.plain (OpenSpec.upto spanTellsSpec)) spanTellsUptoCard
end Rows
end Go.Proofs.YtdgbllaenkcmbaaDoor
