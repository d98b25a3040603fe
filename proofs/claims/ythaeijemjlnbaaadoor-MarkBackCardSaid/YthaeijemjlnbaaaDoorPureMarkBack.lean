/- MarkBack over numbers and lists alone: the thirty-two numbers of flags are each printed, parsed and found again, by reckoning; any other number asks the one known case alone. -/
import Derived.Test.YthaeijemjlnbaaaDoorPx1
namespace Go.Proofs.YthaeijemjlnbaaaDoor.Pure
open Go.RowKit Go.Proofs.YthaeijemjlnbaaaDoor Go.Proofs.YthaeijemjlnbaaaDoor.P Go.Proofs.YthaeijemjlnbaaaDoorW.PrintWords Go.Proofs.YthaeijemjlnbaaaDoorW.PrintLast

theorem known_true : letterboxlaw11_known.f 60 = some true := by decide +kernel
theorem MarkBack (a0 : Int) (_ : (Lit.int .i64 a0).wf = true) : ∃ k, letterboxlaw11_MarkBack.f k a0 = some true := by
  by_cases h0 : a0 < 0
  · refine ⟨61, ?_⟩
    unfold letterboxlaw11_MarkBack.f
    rw [if_pos h0]
    simp only [letterboxlaw11_MarkBack.j0]
    rw [if_pos trivial, known_true]
    rfl
  · by_cases h1 : a0 > 31
    · refine ⟨61, ?_⟩
      unfold letterboxlaw11_MarkBack.f
      rw [if_neg h0, decide_eq_true h1]
      simp only [letterboxlaw11_MarkBack.j0]
      rw [if_pos trivial, known_true]
      rfl
    · refine ⟨200, ?_⟩
      have hall : (List.range 32).all (fun n => letterboxlaw11_MarkBack.f 200 (n : Int) == some true) = true := by decide +kernel
      have := List.all_eq_true.1 hall a0.toNat (List.mem_range.2 (by omega))
      rw [show ((a0.toNat : Nat) : Int) = a0 by omega] at this
      simpa using this
end Go.Proofs.YthaeijemjlnbaaaDoor.Pure
