/- '[]byte(s)' of a text, in the printed walks' form. -/
import Derived.Test.YtejhfghijgbckaaGreatDoorAux
import Derived.Test.YtejhfghijgbckaaGreatDoorBytes
namespace Go.Proofs.YtejhfghijgbckaaGreatDoor
open Go.RowKit Go.Proofs.YtejhfghijgbckaaGreatDoorW.PrintWords Go.Proofs.YtejhfghijgbckaaGreatDoorW.PrintLast Go.Proofs.YtejhfghijgbckaaGreatDoorW.PrintMore

end Go.Proofs.YtejhfghijgbckaaGreatDoor
