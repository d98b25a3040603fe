/- A row of tokens that is an argument, opened in the printed contracts' words, with the reach's bound on its texts. -/
import Derived.Deep.SlicePairs
import Derived.SizedLaws
import Derived.Test.YtejhfghijgbckaaGreatDoorAux
import Derived.Test.YtejhfghijgbckaaGreatDoorPx0
namespace Go.Proofs.YtejhfghijgbckaaGreatDoor
open Go.RowKit Go.Proofs.YtejhfghijgbckaaGreatDoor.P Go.Proofs.YtejhfghijgbckaaGreatDoorW.PrintWords Go.Proofs.YtejhfghijgbckaaGreatDoorW.PrintLast Go.Proofs.YtejhfghijgbckaaGreatDoorW.PrintMore
instance : Inhabited S42 := ⟨z42⟩
end Go.Proofs.YtejhfghijgbckaaGreatDoor
