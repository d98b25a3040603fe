/- The show laws' known is true. -/
import Derived.Test.YtalabkaalbllgaaGreatDoorPx1
namespace Go.Proofs.YtalabkaalbllgaaGreatDoor
open Go.RowKit Go.Proofs.YtalabkaalbllgaaGreatDoor.P Go.Proofs.YtalabkaalbllgaaGreatDoorW.PrintWords Go.Proofs.YtalabkaalbllgaaGreatDoorW.PrintLast Go.Proofs.YtalabkaalbllgaaGreatDoorW.PrintMore
theorem known_small : letterboxlaw19_known.f 20 = some true := by kernel_rfl
theorem known_true : ∀ k, letterboxlaw19_known.f (20 + k) = some true
  | 0 => known_small
  | k + 1 => letterboxlaw19_known.mono (20 + k) true (known_true k)
end Go.Proofs.YtalabkaalbllgaaGreatDoor
