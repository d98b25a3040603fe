/-
  DERIVED. GIVEN WITH THE SEED: THE CARDS: each row of YtlicjigofnbpjaaDoorRows.lean that lists a variable, with what it lists TIED to the program's text (the seventh form; the later family's looks); each row that meets fmt, with fmt's text TOLD by the authors' own Lean function (tested against real Go, not proved from fmt's source: count such statements apart). THE CARD IS WHAT COUNTS. Prove the row's statement (the work); the ties are given (YtlicjigofnbpjaaDoorTie.lean); close each card by the builder's one call (the guide's Derived/Test/ToyasCard.lean, 'card_holds'). Laid BY PROGRAM, IN A SANDBOX (cutbox-door.mjs). By AI agents, Wed Nov 11 2026. No macro, syntax, notation, axiom, sorry.
-/
import Derived.Test.YtlicjigofnbpjaaDoorRows
import GoSem.ClaimSeven
namespace Go.Proofs.YtlicjigofnbpjaaDoor
namespace Rows

/-- THE TIED CARD OF 'letterboxlaw9.HeadFields'. -/
def headFieldsCard : Claim7 := { stood := { row := headFieldsRow, standIns := [], harness := (true, "092781f1a0ce4908c3f463cf6c48c06d194c3762e64476589071c8f20800b238"), looks := false }, kinds := [], alts := [], laidByText := true, laidKinds := [.data, .pinned], laidTests := true, laidLooks := .later }
def HeadFieldsCardSaid : Prop := Claim7.holds Tryd.pinned (.plain (OpenSpec.ofChange headFieldsSpec)) headFieldsCard

/-- THE TIED CARD OF 'letterboxlaw9.HeadLines'. -/
def headLinesCard : Claim7 := { stood := { row := headLinesRow, standIns := [], harness := (true, "092781f1a0ce4908c3f463cf6c48c06d194c3762e64476589071c8f20800b238"), looks := false }, kinds := [], alts := [], laidByText := true, laidKinds := [.data, .pinned], laidTests := true, laidLooks := .later }
def HeadLinesCardSaid : Prop := Claim7.holds Tryd.pinned (.plain (OpenSpec.ofChange headLinesSpec)) headLinesCard

/-- THE TIED CARD OF 'letterboxlaw9.HeadNone'. -/
def headNoneCard : Claim7 := { stood := { row := headNoneRow, standIns := [], harness := (true, "092781f1a0ce4908c3f463cf6c48c06d194c3762e64476589071c8f20800b238"), looks := false }, kinds := [], alts := [], laidByText := true, laidKinds := [.data, .pinned], laidTests := true, laidLooks := .later }
def HeadNoneCardSaid : Prop := Claim7.holds Tryd.pinned (.plain (OpenSpec.ofChange headNoneSpec)) headNoneCard

/-- THE TIED CARD OF 'letterboxlaw9.HeadOne'. -/
def headOneCard : Claim7 := { stood := { row := headOneRow, standIns := [], harness := (true, "092781f1a0ce4908c3f463cf6c48c06d194c3762e64476589071c8f20800b238"), looks := false }, kinds := [], alts := [], laidByText := true, laidKinds := [.data, .pinned], laidTests := true, laidLooks := .later }
def HeadOneCardSaid : Prop := Claim7.holds Tryd.pinned (.plain (OpenSpec.ofChange headOneSpec)) headOneCard

/-- THE TIED CARD OF 'letterboxlaw9.HeadOwn'. -/
def headOwnCard : Claim7 := { stood := { row := headOwnRow, standIns := [], harness := (true, "092781f1a0ce4908c3f463cf6c48c06d194c3762e64476589071c8f20800b238"), looks := false }, kinds := [], alts := [], laidByText := true, laidKinds := [.data, .pinned], laidTests := true, laidLooks := .later }
def HeadOwnCardSaid : Prop := Claim7.holds Tryd.pinned (.plain (OpenSpec.ofChange headOwnSpec)) headOwnCard

/-- THE TIED CARD OF 'letterboxlaw9.HeadStuffs'. -/
def headStuffsCard : Claim7 := { stood := { row := headStuffsRow, standIns := [], harness := (true, "092781f1a0ce4908c3f463cf6c48c06d194c3762e64476589071c8f20800b238"), looks := false }, kinds := [], alts := [], laidByText := true, laidKinds := [.data, .pinned], laidTests := true, laidLooks := .later }
def HeadStuffsCardSaid : Prop := Claim7.holds Tryd.pinned (.plain (OpenSpec.ofChange headStuffsSpec)) headStuffsCard

/-- THE TIED CARD OF 'letterboxlaw9.HeadTells'. -/
def headTellsCard : Claim7 := { stood := { row := headTellsRow, standIns := [], harness := (true, "092781f1a0ce4908c3f463cf6c48c06d194c3762e64476589071c8f20800b238"), looks := false }, kinds := [], alts := [], laidByText := true, laidKinds := [.data, .pinned], laidTests := true, laidLooks := .later }
def HeadTellsCardSaid : Prop := Claim7.holds Tryd.pinned (.plain (OpenSpec.ofChange headTellsSpec)) headTellsCard

/-- THE TIED CARD OF 'letterboxlaw9.HeadTop'. -/
def headTopCard : Claim7 := { stood := { row := headTopRow, standIns := [], harness := (true, "092781f1a0ce4908c3f463cf6c48c06d194c3762e64476589071c8f20800b238"), looks := false }, kinds := [], alts := [], laidByText := true, laidKinds := [.data, .pinned], laidTests := true, laidLooks := .later }
def HeadTopCardSaid : Prop := Claim7.holds Tryd.pinned (.plain (OpenSpec.ofChange headTopSpec)) headTopCard

/-- THE TIED CARD OF 'letterboxlaw9.HeadWhole'. -/
def headWholeCard : Claim7 := { stood := { row := headWholeRow, standIns := [], harness := (true, "092781f1a0ce4908c3f463cf6c48c06d194c3762e64476589071c8f20800b238"), looks := false }, kinds := [], alts := [], laidByText := true, laidKinds := [.data, .pinned], laidTests := true, laidLooks := .later }
def HeadWholeCardSaid : Prop := Claim7.holds Tryd.pinned (.plain (OpenSpec.ofChange headWholeSpec)) headWholeCard

/-- THE SECOND FORM's CARD OF 'letterboxlaw9.HeadFields'. -/
def headFieldsUptoCard : Claim7 := { stood := { row := headFieldsUptoRow, standIns := [], harness := (true, "092781f1a0ce4908c3f463cf6c48c06d194c3762e64476589071c8f20800b238"), looks := false }, kinds := [], alts := [], laidByText := true, laidKinds := [.data, .pinned], laidTests := true, laidLooks := .later }
def HeadFieldsUptoCardSaid : Prop := Claim7.holds Tryd.pinned (.plain (OpenSpec.upto headFieldsSpec)) headFieldsUptoCard

/-- THE SECOND FORM's CARD OF 'letterboxlaw9.HeadLines'. -/
def headLinesUptoCard : Claim7 := { stood := { row := headLinesUptoRow, standIns := [], harness := (true, "092781f1a0ce4908c3f463cf6c48c06d194c3762e64476589071c8f20800b238"), looks := false }, kinds := [], alts := [], laidByText := true, laidKinds := [.data, .pinned], laidTests := true, laidLooks := .later }
def HeadLinesUptoCardSaid : Prop := Claim7.holds Tryd.pinned (.plain (OpenSpec.upto headLinesSpec)) headLinesUptoCard

/-- THE SECOND FORM's CARD OF 'letterboxlaw9.HeadNone'. -/
def headNoneUptoCard : Claim7 := { stood := { row := headNoneUptoRow, standIns := [], harness := (true, "092781f1a0ce4908c3f463cf6c48c06d194c3762e64476589071c8f20800b238"), looks := false }, kinds := [], alts := [], laidByText := true, laidKinds := [.data, .pinned], laidTests := true, laidLooks := .later }
def HeadNoneUptoCardSaid : Prop := Claim7.holds Tryd.pinned (.plain (OpenSpec.upto headNoneSpec)) headNoneUptoCard

/-- THE SECOND FORM's CARD OF 'letterboxlaw9.HeadOne'. -/
def headOneUptoCard : Claim7 := { stood := { row := headOneUptoRow, standIns := [], harness := (true, "092781f1a0ce4908c3f463cf6c48c06d194c3762e64476589071c8f20800b238"), looks := false }, kinds := [], alts := [], laidByText := true, laidKinds := [.data, .pinned], laidTests := true, laidLooks := .later }
def HeadOneUptoCardSaid : Prop := Claim7.holds Tryd.pinned (.plain (OpenSpec.upto headOneSpec)) headOneUptoCard

/-- THE SECOND FORM's CARD OF 'letterboxlaw9.HeadOwn'. -/
def headOwnUptoCard : Claim7 := { stood := { row := headOwnUptoRow, standIns := [], harness := (true, "092781f1a0ce4908c3f463cf6c48c06d194c3762e64476589071c8f20800b238"), looks := false }, kinds := [], alts := [], laidByText := true, laidKinds := [.data, .pinned], laidTests := true, laidLooks := .later }
def HeadOwnUptoCardSaid : Prop := Claim7.holds Tryd.pinned (.plain (OpenSpec.upto headOwnSpec)) headOwnUptoCard

/-- THE SECOND FORM's CARD OF 'letterboxlaw9.HeadStuffs'. -/
def headStuffsUptoCard : Claim7 := { stood := { row := headStuffsUptoRow, standIns := [], harness := (true, "092781f1a0ce4908c3f463cf6c48c06d194c3762e64476589071c8f20800b238"), looks := false }, kinds := [], alts := [], laidByText := true, laidKinds := [.data, .pinned], laidTests := true, laidLooks := .later }
def HeadStuffsUptoCardSaid : Prop := Claim7.holds Tryd.pinned (.plain (OpenSpec.upto headStuffsSpec)) headStuffsUptoCard

/-- THE SECOND FORM's CARD OF 'letterboxlaw9.HeadTells'. -/
def headTellsUptoCard : Claim7 := { stood := { row := headTellsUptoRow, standIns := [], harness := (true, "092781f1a0ce4908c3f463cf6c48c06d194c3762e64476589071c8f20800b238"), looks := false }, kinds := [], alts := [], laidByText := true, laidKinds := [.data, .pinned], laidTests := true, laidLooks := .later }
def HeadTellsUptoCardSaid : Prop := Claim7.holds Tryd.pinned (.plain (OpenSpec.upto headTellsSpec)) headTellsUptoCard

/-- THE SECOND FORM's CARD OF 'letterboxlaw9.HeadTop'. -/
def headTopUptoCard : Claim7 := { stood := { row := headTopUptoRow, standIns := [], harness := (true, "092781f1a0ce4908c3f463cf6c48c06d194c3762e64476589071c8f20800b238"), looks := false }, kinds := [], alts := [], laidByText := true, laidKinds := [.data, .pinned], laidTests := true, laidLooks := .later }
def HeadTopUptoCardSaid : Prop := Claim7.holds Tryd.pinned (.plain (OpenSpec.upto headTopSpec)) headTopUptoCard

/-- THE SECOND FORM's CARD OF 'letterboxlaw9.HeadWhole'. -/
def headWholeUptoCard : Claim7 := { stood := { row := headWholeUptoRow, standIns := [], harness := (true, "092781f1a0ce4908c3f463cf6c48c06d194c3762e64476589071c8f20800b238"), looks := false }, kinds := [], alts := [], laidByText := true, laidKinds := [.data, .pinned], laidTests := true, laidLooks := .later }
def HeadWholeUptoCardSaid : Prop := Claim7.holds Tryd.pinned (.plain (OpenSpec.upto headWholeSpec)) headWholeUptoCard
end Rows
end Go.Proofs.YtlicjigofnbpjaaDoor
