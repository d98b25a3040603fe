/- LexBad over texts and lists alone. -/
import Derived.Test.YtbdmhlocafpehaaDoorPx104
namespace Go.Proofs.YtbdmhlocafpehaaDoor.Pure
open Go.RowKit Go.Proofs.YtbdmhlocafpehaaDoor Go.Proofs.YtbdmhlocafpehaaDoor.P Go.Proofs.YtbdmhlocafpehaaDoorW.PrintWords Go.Proofs.YtbdmhlocafpehaaDoorW.PrintLast Go.Proofs.YtbdmhlocafpehaaDoorW.PrintMore

theorem LexBad (a0 : Int) (a1 : ByteArray) (h0 : (Lit.int .u8 a0).wf = true) (h1 : a1.size ≤ 140737488351232) : ∃ k, letterboxlaw17_LexBad.f k a0 a1 = some true := by
  refine ⟨200, ?_⟩
  have hb : 0 ≤ a0 ∧ a0 < 256 := by
    simp [Lit.wf, IntKind.min, IntKind.max, IntKind.signed, IntKind.bits] at h0
    omega
  unfold letterboxlaw17_LexBad.f
  rw [if_pos ⟨hb.1, hb.2, h1, Nat.le_refl _⟩]
end Go.Proofs.YtbdmhlocafpehaaDoor.Pure
