/- The one known case, at any number of rounds; what a law asks of its input. -/
import Derived.Test.YtaodjbigceamjaaDoorHeadImpl3
import Derived.Test.YtaodjbigceamjaaDoorPx5
namespace Go.Proofs.YtaodjbigceamjaaDoor.Pure
open Go.RowKit Go.Proofs.YtaodjbigceamjaaDoor Go.Proofs.YtaodjbigceamjaaDoor.P Go.Proofs.YtaodjbigceamjaaDoor.Spec Go.Proofs.YtaodjbigceamjaaDoorW.PrintWords Go.Proofs.YtaodjbigceamjaaDoorW.PrintLast Go.Proofs.YtaodjbigceamjaaDoorW.PrintMore

theorem known_first : letterboxlaw9_known.f 100 = some true := by decide +kernel
theorem known_at (k : Nat) (h : 100 ≤ k) : letterboxlaw9_known.f k = some true := by
  obtain ⟨j, rfl⟩ : ∃ j, k = 100 + j := ⟨k - 100, by omega⟩
  clear h
  induction j with
  | zero => exact known_first
  | succ j ih => exact letterboxlaw9_known.mono (100 + j) _ ih
theorem Byt.of {l : List Int} (h : ∀ x ∈ l, (Lit.int .u8 x).wf = true) : Byt l := by
  intro x hx
  have := h x hx
  simp [Lit.wf, IntKind.min, IntKind.max, IntKind.signed, IntKind.bits] at this
  omega
end Go.Proofs.YtaodjbigceamjaaDoor.Pure
