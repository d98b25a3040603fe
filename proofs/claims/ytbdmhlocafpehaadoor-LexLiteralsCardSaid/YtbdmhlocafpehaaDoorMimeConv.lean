/- '[]byte(s)' of a text, in the printed walks' form. -/
import Derived.Test.YtbdmhlocafpehaaDoorAux
import Derived.Test.YtbdmhlocafpehaaDoorBytes
namespace Go.Proofs.YtbdmhlocafpehaaDoor
open Go.RowKit Go.Proofs.YtbdmhlocafpehaaDoorW.PrintWords Go.Proofs.YtbdmhlocafpehaaDoorW.PrintLast Go.Proofs.YtbdmhlocafpehaaDoorW.PrintMore

/-- '[]byte(s)' of a text. -/
def conv_9_23.f (s : ByteArray) : Option (List Int) := if s.size ≤ 9223372036854775807 then some (bytesOf s) else none
theorem conv_9_23.calls (a0 : ByteArray) (r : List Int) (w : World) (h : conv_9_23.f a0 = some r) :
    ConvC Tryd.prog 9 23 a0 w fun e w' => ∃ v0_ : Value, e = .returned v0_ ∧ Kd.V (Kd.int .u8) 5 w' w.heap.size (fun k_ => w.heap.size ≤ k_) v0_ r ∧ Below w.heap.size w w' := by
  unfold conv_9_23.f at h
  split at h
  · rename_i hb
    obtain rfl := Option.some.inj h
    exact conv_V 9 23 5 a0 Tryd.underlying9 Tryd.underlying23 Tryd.underlying5 hb
  · cases h
end Go.Proofs.YtbdmhlocafpehaaDoor
