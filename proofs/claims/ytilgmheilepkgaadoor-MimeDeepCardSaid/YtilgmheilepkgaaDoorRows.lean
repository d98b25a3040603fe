/-
  NARROWER THAN 'FOR EVERY INPUT', by the rows' own cells (each row's printed sentence says how): MimeDeep: laid · MimeMany: laid · MimeParts: laid · MimeTypes: laid · MimeWithin: laid.
  DERIVED. THE GIVEN ROWS OF THIS SEAT. 5 by the template 'for every input the law returns true; each argument reads behind the call as it read before'; 0 by the template 'total and deterministic' (their statements: YtilgmheilepkgaaDoorTotals.lean).
  GIVEN WITH THE SEED: the statements are not yours to turn. If you find one false, say at which input.
  Laid BY PROGRAM, IN A SANDBOX (cutbox-rows.mjs): the forced cells as the released guide's own fill.sh prints them over the translation 632ee1476756e3da… (all of the seat's roots in one cut). By AI agents, Wed Nov 11 2026. No macro, syntax, notation, axiom, sorry.
-/
import Derived.Test.YtilgmheilepkgaaDoorChecked
import GoSem.PinnedTables
import GoSem.Claim
import GoSem.ClaimJoined
import GoSem.ClaimMapViews
import Derived.JoinedTies
import Derived.KernelRfl
namespace Go.Proofs.YtilgmheilepkgaaDoor
/- THE CELL 'sum', in the pinned program and in every row, IS THE sha256 OF THE DUMP (.gsa) THAT YtilgmheilepkgaaDoorProg.lean LOADS. Nothing in Lean hashes anything: it is a label: what it is worth is what the hold of that sum in a sandbox is worth. -/
noncomputable def Tryd.pinned : Pinned := { name := "ytilgmheilepkgaadoor", sum := "632ee1476756e3da0ace028415146774da648c09ca76a2f9ca6e48524b6071f8", checked := Tryd.checked }
namespace Rows
def none {H : Type} : Left H := { results := [], args := [] }

/- WHAT THE LISTED PACKAGE-LEVEL VARIABLES READ AS WHEN THE CALL BEGINS. Each datum BY PROGRAM (the guide's laid-datum.mjs) off the statement by which the dump's own 'gosem.cut.vars' lays the variable. In a bare row this is a premise. The card (YtilgmheilepkgaaDoorCards.lean) ties it to the program's text. -/
def laid_unicode_utf8_acceptRanges {H : Type} : DataW H := .agg [.agg [.lit (.int .u8 128), .lit (.int .u8 191)], .agg [.lit (.int .u8 160), .lit (.int .u8 191)], .agg [.lit (.int .u8 128), .lit (.int .u8 159)], .agg [.lit (.int .u8 144), .lit (.int .u8 191)], .agg [.lit (.int .u8 128), .lit (.int .u8 143)], .agg [.lit (.int .u8 0), .lit (.int .u8 0)], .agg [.lit (.int .u8 0), .lit (.int .u8 0)], .agg [.lit (.int .u8 0), .lit (.int .u8 0)], .agg [.lit (.int .u8 0), .lit (.int .u8 0)], .agg [.lit (.int .u8 0), .lit (.int .u8 0)], .agg [.lit (.int .u8 0), .lit (.int .u8 0)], .agg [.lit (.int .u8 0), .lit (.int .u8 0)], .agg [.lit (.int .u8 0), .lit (.int .u8 0)], .agg [.lit (.int .u8 0), .lit (.int .u8 0)], .agg [.lit (.int .u8 0), .lit (.int .u8 0)], .agg [.lit (.int .u8 0), .lit (.int .u8 0)]]
/-- One of Go's own tables, pinned by name: the form's constant. -/
def laid_unicode_utf8_first : DataW Unit := Go.Pinned.utf8First

/-- 'letterboxlaw10.MimeDeep': WHATEVER THE INPUT: true; the input reads as it did. -/
def mimeDeepSpec : ChangeSpec := { name := "mimeDeep", fn := fun _ => fun
  | [d1, d2] => { results := [.lit (.bool true)], args := [d1, d2] }
  | _ => none }
def mimeDeepRow : OpenClaim := { program := "ytilgmheilepkgaadoor", sum := "632ee1476756e3da0ace028415146774da648c09ca76a2f9ca6e48524b6071f8", func := "letterbox/letterboxlaw10.MimeDeep", spec := "mimeDeep", inPlace := ["internal/bytealg.Count", "internal/bytealg.IndexByte", "internal/bytealg.Index", "internal/bytealg.IndexByteString", "internal/bytealg.IndexString", "internal/bytealg.CountString"], recurses := true, named := ["unicode/utf8.first", "unicode/utf8.acceptRanges", "internal/bytealg.MaxLen"], apart := false, laid := [("unicode/utf8.acceptRanges", laid_unicode_utf8_acceptRanges), ("unicode/utf8.first", laid_unicode_utf8_first)] }
def MimeDeepSaid : Prop := mimeDeepRow.holds Tryd.pinned (OpenSpec.ofChange mimeDeepSpec)

/-- ITS FALSE NEIGHBOUR: 'it returns false'. Refute it at one input. -/
def mimeDeepWrong : ChangeSpec := { name := "mimeDeep", fn := fun _ => fun
  | [d1, d2] => { results := [.lit (.bool false)], args := [d1, d2] }
  | _ => none }
def MimeDeepWrongFalsely : Prop := mimeDeepRow.holds Tryd.pinned (OpenSpec.ofChange mimeDeepWrong)

/-- 'letterboxlaw10.MimeMany': WHATEVER THE INPUT: true; the input reads as it did. -/
def mimeManySpec : ChangeSpec := { name := "mimeMany", fn := fun _ => fun
  | [d] => { results := [.lit (.bool true)], args := [d] }
  | _ => none }
def mimeManyRow : OpenClaim := { program := "ytilgmheilepkgaadoor", sum := "632ee1476756e3da0ace028415146774da648c09ca76a2f9ca6e48524b6071f8", func := "letterbox/letterboxlaw10.MimeMany", spec := "mimeMany", inPlace := ["internal/bytealg.Count", "internal/bytealg.IndexByte", "internal/bytealg.Index", "internal/bytealg.IndexByteString", "internal/bytealg.IndexString", "internal/bytealg.CountString"], recurses := true, named := ["unicode/utf8.first", "unicode/utf8.acceptRanges", "internal/bytealg.MaxLen"], apart := false, laid := [("unicode/utf8.acceptRanges", laid_unicode_utf8_acceptRanges), ("unicode/utf8.first", laid_unicode_utf8_first)] }
def MimeManySaid : Prop := mimeManyRow.holds Tryd.pinned (OpenSpec.ofChange mimeManySpec)

/-- ITS FALSE NEIGHBOUR: 'it returns false'. Refute it at one input. -/
def mimeManyWrong : ChangeSpec := { name := "mimeMany", fn := fun _ => fun
  | [d] => { results := [.lit (.bool false)], args := [d] }
  | _ => none }
def MimeManyWrongFalsely : Prop := mimeManyRow.holds Tryd.pinned (OpenSpec.ofChange mimeManyWrong)

/-- 'letterboxlaw10.MimeParts': WHATEVER THE INPUT: true; the input reads as it did. -/
def mimePartsSpec : ChangeSpec := { name := "mimeParts", fn := fun _ => fun
  | [d1, d2, d3] => { results := [.lit (.bool true)], args := [d1, d2, d3] }
  | _ => none }
def mimePartsRow : OpenClaim := { program := "ytilgmheilepkgaadoor", sum := "632ee1476756e3da0ace028415146774da648c09ca76a2f9ca6e48524b6071f8", func := "letterbox/letterboxlaw10.MimeParts", spec := "mimeParts", inPlace := ["internal/bytealg.Count", "internal/bytealg.IndexByte", "internal/bytealg.Index", "internal/bytealg.IndexByteString", "internal/bytealg.IndexString", "internal/bytealg.CountString"], recurses := true, named := ["unicode/utf8.first", "unicode/utf8.acceptRanges", "internal/bytealg.MaxLen"], apart := false, laid := [("unicode/utf8.acceptRanges", laid_unicode_utf8_acceptRanges), ("unicode/utf8.first", laid_unicode_utf8_first)] }
def MimePartsSaid : Prop := mimePartsRow.holds Tryd.pinned (OpenSpec.ofChange mimePartsSpec)

/-- ITS FALSE NEIGHBOUR: 'it returns false'. Refute it at one input. -/
def mimePartsWrong : ChangeSpec := { name := "mimeParts", fn := fun _ => fun
  | [d1, d2, d3] => { results := [.lit (.bool false)], args := [d1, d2, d3] }
  | _ => none }
def MimePartsWrongFalsely : Prop := mimePartsRow.holds Tryd.pinned (OpenSpec.ofChange mimePartsWrong)

/-- 'letterboxlaw10.MimeTypes': WHATEVER THE INPUT: true; the input reads as it did. -/
def mimeTypesSpec : ChangeSpec := { name := "mimeTypes", fn := fun _ => fun
  | [d1, d2, d3] => { results := [.lit (.bool true)], args := [d1, d2, d3] }
  | _ => none }
def mimeTypesRow : OpenClaim := { program := "ytilgmheilepkgaadoor", sum := "632ee1476756e3da0ace028415146774da648c09ca76a2f9ca6e48524b6071f8", func := "letterbox/letterboxlaw10.MimeTypes", spec := "mimeTypes", inPlace := ["internal/bytealg.Count", "internal/bytealg.IndexByte", "internal/bytealg.Index", "internal/bytealg.IndexByteString", "internal/bytealg.IndexString", "internal/bytealg.CountString"], recurses := true, named := ["unicode/utf8.first", "unicode/utf8.acceptRanges", "internal/bytealg.MaxLen"], apart := false, laid := [("unicode/utf8.acceptRanges", laid_unicode_utf8_acceptRanges), ("unicode/utf8.first", laid_unicode_utf8_first)] }
def MimeTypesSaid : Prop := mimeTypesRow.holds Tryd.pinned (OpenSpec.ofChange mimeTypesSpec)

/-- ITS FALSE NEIGHBOUR: 'it returns false'. Refute it at one input. -/
def mimeTypesWrong : ChangeSpec := { name := "mimeTypes", fn := fun _ => fun
  | [d1, d2, d3] => { results := [.lit (.bool false)], args := [d1, d2, d3] }
  | _ => none }
def MimeTypesWrongFalsely : Prop := mimeTypesRow.holds Tryd.pinned (OpenSpec.ofChange mimeTypesWrong)

/-- 'letterboxlaw10.MimeWithin': WHATEVER THE INPUT: true; the input reads as it did. -/
def mimeWithinSpec : ChangeSpec := { name := "mimeWithin", fn := fun _ => fun
  | [d] => { results := [.lit (.bool true)], args := [d] }
  | _ => none }
def mimeWithinRow : OpenClaim := { program := "ytilgmheilepkgaadoor", sum := "632ee1476756e3da0ace028415146774da648c09ca76a2f9ca6e48524b6071f8", func := "letterbox/letterboxlaw10.MimeWithin", spec := "mimeWithin", inPlace := ["internal/bytealg.Count", "internal/bytealg.IndexByte", "internal/bytealg.Index", "internal/bytealg.IndexByteString", "internal/bytealg.IndexString", "internal/bytealg.CountString"], recurses := true, named := ["unicode/utf8.first", "unicode/utf8.acceptRanges", "internal/bytealg.MaxLen"], apart := false, laid := [("unicode/utf8.acceptRanges", laid_unicode_utf8_acceptRanges), ("unicode/utf8.first", laid_unicode_utf8_first)] }
def MimeWithinSaid : Prop := mimeWithinRow.holds Tryd.pinned (OpenSpec.ofChange mimeWithinSpec)

/-- ITS FALSE NEIGHBOUR: 'it returns false'. Refute it at one input. -/
def mimeWithinWrong : ChangeSpec := { name := "mimeWithin", fn := fun _ => fun
  | [d] => { results := [.lit (.bool false)], args := [d] }
  | _ => none }
def MimeWithinWrongFalsely : Prop := mimeWithinRow.holds Tryd.pinned (OpenSpec.ofChange mimeWithinWrong)

/- THE SECOND FORM. 'bulk': how many values and letters a reading holds, each counted each time it is reached (what is shared counts as often as it is met; a slice's spare places count too). A statement '..UptoSaid' is the law's where the arguments, and the package variables that the reading takes, are together of bulk at most 1048576: NARROWER than '..Said'. Prove '..Said' where nothing that the law and all that it calls make is longer than what came in: it says more and counts as full. Else prove '..UptoSaid'. A law counts once. -/
mutual
def uptoBulk {H : Type} : DataW H → Nat
  | .lit (.string bytes) => bytes.length + 1
  | .lit _ => 1
  | .nil => 1
  | .ptr d => uptoBulk d + 1
  | .slice elems spare => uptoBulkAll elems + uptoBulkAll spare + 1
  | .agg parts => uptoBulkAll parts + 1
  | .iface _ d => uptoBulk d + 1
  | .map entries => uptoBulkEntries entries + 1
  | .held _ => 1
def uptoBulkAll {H : Type} : List (DataW H) → Nat
  | [] => 0
  | d :: r => uptoBulk d + uptoBulkAll r
def uptoBulkEntries {H : Type} : List (Lit × DataW H) → Nat
  | [] => 0
  | x :: r => uptoBulkEntry x + uptoBulkEntries r
def uptoBulkEntry {H : Type} : Lit × DataW H → Nat
  | (.string bytes, d) => bytes.length + uptoBulk d + 1
  | (_, d) => uptoBulk d + 1
 end
def uptoSmall : (H : Type) → List (DataW H) → Bool := fun _ ds => decide (uptoBulkAll ds ≤ 1048576)
def OpenSpec.upto (s : _root_.Go.ChangeSpec) : _root_.Go.OpenSpec := { _root_.Go.OpenSpec.ofChange s with cond := some uptoSmall }

/-- 'letterboxlaw10.MimeDeep', WHERE WHAT IT READS IS OF BULK AT MOST 1048576: true; the input reads as it did. -/
def mimeDeepUptoRow : OpenClaim := { program := "ytilgmheilepkgaadoor", sum := "632ee1476756e3da0ace028415146774da648c09ca76a2f9ca6e48524b6071f8", func := "letterbox/letterboxlaw10.MimeDeep", spec := "mimeDeep", inPlace := ["internal/bytealg.Count", "internal/bytealg.IndexByte", "internal/bytealg.Index", "internal/bytealg.IndexByteString", "internal/bytealg.IndexString", "internal/bytealg.CountString"], recurses := true, named := ["unicode/utf8.first", "unicode/utf8.acceptRanges", "internal/bytealg.MaxLen"], apart := false, laid := [("unicode/utf8.acceptRanges", laid_unicode_utf8_acceptRanges), ("unicode/utf8.first", laid_unicode_utf8_first)], narrowed := true }
def MimeDeepUptoSaid : Prop := mimeDeepUptoRow.holds Tryd.pinned (OpenSpec.upto mimeDeepSpec)

/-- 'letterboxlaw10.MimeMany', WHERE WHAT IT READS IS OF BULK AT MOST 1048576: true; the input reads as it did. -/
def mimeManyUptoRow : OpenClaim := { program := "ytilgmheilepkgaadoor", sum := "632ee1476756e3da0ace028415146774da648c09ca76a2f9ca6e48524b6071f8", func := "letterbox/letterboxlaw10.MimeMany", spec := "mimeMany", inPlace := ["internal/bytealg.Count", "internal/bytealg.IndexByte", "internal/bytealg.Index", "internal/bytealg.IndexByteString", "internal/bytealg.IndexString", "internal/bytealg.CountString"], recurses := true, named := ["unicode/utf8.first", "unicode/utf8.acceptRanges", "internal/bytealg.MaxLen"], apart := false, laid := [("unicode/utf8.acceptRanges", laid_unicode_utf8_acceptRanges), ("unicode/utf8.first", laid_unicode_utf8_first)], narrowed := true }
def MimeManyUptoSaid : Prop := mimeManyUptoRow.holds Tryd.pinned (OpenSpec.upto mimeManySpec)

/-- 'letterboxlaw10.MimeParts', WHERE WHAT IT READS IS OF BULK AT MOST 1048576: true; the input reads as it did. -/
def mimePartsUptoRow : OpenClaim := { program := "ytilgmheilepkgaadoor", sum := "632ee1476756e3da0ace028415146774da648c09ca76a2f9ca6e48524b6071f8", func := "letterbox/letterboxlaw10.MimeParts", spec := "mimeParts", inPlace := ["internal/bytealg.Count", "internal/bytealg.IndexByte", "internal/bytealg.Index", "internal/bytealg.IndexByteString", "internal/bytealg.IndexString", "internal/bytealg.CountString"], recurses := true, named := ["unicode/utf8.first", "unicode/utf8.acceptRanges", "internal/bytealg.MaxLen"], apart := false, laid := [("unicode/utf8.acceptRanges", laid_unicode_utf8_acceptRanges), ("unicode/utf8.first", laid_unicode_utf8_first)], narrowed := true }
def MimePartsUptoSaid : Prop := mimePartsUptoRow.holds Tryd.pinned (OpenSpec.upto mimePartsSpec)

/-- 'letterboxlaw10.MimeTypes', WHERE WHAT IT READS IS OF BULK AT MOST 1048576: true; the input reads as it did. -/
def mimeTypesUptoRow : OpenClaim := { program := "ytilgmheilepkgaadoor", sum := "632ee1476756e3da0ace028415146774da648c09ca76a2f9ca6e48524b6071f8", func := "letterbox/letterboxlaw10.MimeTypes", spec := "mimeTypes", inPlace := ["internal/bytealg.Count", "internal/bytealg.IndexByte", "internal/bytealg.Index", "internal/bytealg.IndexByteString", "internal/bytealg.IndexString", "internal/bytealg.CountString"], recurses := true, named := ["unicode/utf8.first", "unicode/utf8.acceptRanges", "internal/bytealg.MaxLen"], apart := false, laid := [("unicode/utf8.acceptRanges", laid_unicode_utf8_acceptRanges), ("unicode/utf8.first", laid_unicode_utf8_first)], narrowed := true }
def MimeTypesUptoSaid : Prop := mimeTypesUptoRow.holds Tryd.pinned (OpenSpec.upto mimeTypesSpec)

/-- 'letterboxlaw10.MimeWithin', WHERE WHAT IT READS IS OF BULK AT MOST 1048576: true; the input reads as it did. -/
def mimeWithinUptoRow : OpenClaim := { program := "ytilgmheilepkgaadoor", sum := "632ee1476756e3da0ace028415146774da648c09ca76a2f9ca6e48524b6071f8", func := "letterbox/letterboxlaw10.MimeWithin", spec := "mimeWithin", inPlace := ["internal/bytealg.Count", "internal/bytealg.IndexByte", "internal/bytealg.Index", "internal/bytealg.IndexByteString", "internal/bytealg.IndexString", "internal/bytealg.CountString"], recurses := true, named := ["unicode/utf8.first", "unicode/utf8.acceptRanges", "internal/bytealg.MaxLen"], apart := false, laid := [("unicode/utf8.acceptRanges", laid_unicode_utf8_acceptRanges), ("unicode/utf8.first", laid_unicode_utf8_first)], narrowed := true }
def MimeWithinUptoSaid : Prop := mimeWithinUptoRow.holds Tryd.pinned (OpenSpec.upto mimeWithinSpec)

end Rows
end Go.Proofs.YtilgmheilepkgaaDoor
