/- '[]byte(s)' of a text, in the printed walks' form. -/
import Derived.Test.YtejhfghijgbckaaGreatDoorAux
import Derived.Test.YtejhfghijgbckaaGreatDoorBytes
namespace Go.Proofs.YtejhfghijgbckaaGreatDoor
open Go.RowKit Go.Proofs.YtejhfghijgbckaaGreatDoorW.PrintWords Go.Proofs.YtejhfghijgbckaaGreatDoorW.PrintLast Go.Proofs.YtejhfghijgbckaaGreatDoorW.PrintMore

def conv_9_35.f (s : ByteArray) : Option (List Int) := if s.size ≤ 9223372036854775807 then some (bytesOf s) else none
theorem conv_9_35.calls (a0 : ByteArray) (r : List Int) (w : World) (h : conv_9_35.f a0 = some r) :
    ConvC Tryz.prog 9 35 a0 w fun e w' => ∃ v0_ : Value, e = .returned v0_ ∧ Kd.V (Kd.int .u8) 5 w' w.heap.size (fun k_ => w.heap.size ≤ k_) v0_ r ∧ Below w.heap.size w w' := by
  unfold conv_9_35.f at h
  split at h
  · rename_i hb
    obtain rfl := Option.some.inj h
    exact conv_V 9 35 5 a0 Tryz.underlying9 Tryz.underlying35 Tryz.underlying5 hb
  · cases h
end Go.Proofs.YtejhfghijgbckaaGreatDoor
