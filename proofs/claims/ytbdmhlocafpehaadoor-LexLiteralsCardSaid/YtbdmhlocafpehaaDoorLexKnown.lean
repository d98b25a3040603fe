/- The lex laws' known is true. -/
import Derived.Test.YtbdmhlocafpehaaDoorPx2
namespace Go.Proofs.YtbdmhlocafpehaaDoor
open Go.RowKit Go.Proofs.YtbdmhlocafpehaaDoor.P Go.Proofs.YtbdmhlocafpehaaDoorW.PrintWords Go.Proofs.YtbdmhlocafpehaaDoorW.PrintLast Go.Proofs.YtbdmhlocafpehaaDoorW.PrintMore
theorem known_small : letterboxlaw17_known.f 20 = some true := by kernel_rfl
theorem known_true : ∀ k, letterboxlaw17_known.f (20 + k) = some true
  | 0 => known_small
  | k + 1 => letterboxlaw17_known.mono (20 + k) true (known_true k)
end Go.Proofs.YtbdmhlocafpehaaDoor
