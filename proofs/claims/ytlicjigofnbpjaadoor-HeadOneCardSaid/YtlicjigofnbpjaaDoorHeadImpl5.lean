/- The one known case, at any number of rounds; what a law asks of its input. -/
import Derived.Test.YtlicjigofnbpjaaDoorHeadImpl3
import Derived.Test.YtlicjigofnbpjaaDoorPx5
namespace Go.Proofs.YtlicjigofnbpjaaDoor.Pure
open Go.RowKit Go.Proofs.YtlicjigofnbpjaaDoor Go.Proofs.YtlicjigofnbpjaaDoor.P Go.Proofs.YtlicjigofnbpjaaDoor.Spec Go.Proofs.YtlicjigofnbpjaaDoorW.PrintWords Go.Proofs.YtlicjigofnbpjaaDoorW.PrintLast Go.Proofs.YtlicjigofnbpjaaDoorW.PrintMore

theorem known_first : letterboxlaw9_known.f 100 = some true := by decide +kernel
theorem known_at (k : Nat) (h : 100 ≤ k) : letterboxlaw9_known.f k = some true := by
  obtain ⟨j, rfl⟩ : ∃ j, k = 100 + j := ⟨k - 100, by omega⟩
  clear h
  induction j with
  | zero => exact known_first
  | succ j ih => exact letterboxlaw9_known.mono (100 + j) _ ih
theorem Byt.of {l : List Int} (h : ∀ x ∈ l, (Lit.int .u8 x).wf = true) : Byt l := by
  intro x hx
  have := h x hx
  simp [Lit.wf, IntKind.min, IntKind.max, IntKind.signed, IntKind.bits] at this
  omega
end Go.Proofs.YtlicjigofnbpjaaDoor.Pure
