/- MimeMany over numbers alone: each of the numbers that are looked at is reckoned. -/
import Derived.Test.YtilgmheilepkgaaDoorMimeParts
import Derived.Test.YtilgmheilepkgaaDoorPx104
namespace Go.Proofs.YtilgmheilepkgaaDoor.Pure
open Go.RowKit Go.Proofs.YtilgmheilepkgaaDoor Go.Proofs.YtilgmheilepkgaaDoor.P Go.Proofs.YtilgmheilepkgaaDoor.Spec Go.Proofs.YtilgmheilepkgaaDoorW.PrintWords Go.Proofs.YtilgmheilepkgaaDoorW.PrintLast Go.Proofs.YtilgmheilepkgaaDoorW.PrintMore

theorem many_each : ∀ n : Fin 21, letterboxlaw10_MimeMany.f 2000 (n.val : Int) = some true := by decide +kernel
theorem MimeMany (n : Int) (_ : (Lit.int .i64 n).wf = true) : ∃ k, letterboxlaw10_MimeMany.f k n = some true := by
  refine ⟨2000, ?_⟩
  by_cases h1 : n < 0
  · unfold letterboxlaw10_MimeMany.f
    rw [if_pos h1, letterboxlaw10_MimeMany.j0, if_pos rfl, known_at 1999 (by omega)]
    rfl
  · by_cases h2 : n > 20
    · unfold letterboxlaw10_MimeMany.f
      rw [if_neg h1, decide_eq_true h2, letterboxlaw10_MimeMany.j0, if_pos rfl, known_at 1999 (by omega)]
      rfl
    · have := many_each ⟨n.toNat, by omega⟩
      rwa [show ((⟨n.toNat, by omega⟩ : Fin 21).val : Int) = n from Int.toNat_of_nonneg (by omega)] at this
end Go.Proofs.YtilgmheilepkgaaDoor.Pure
