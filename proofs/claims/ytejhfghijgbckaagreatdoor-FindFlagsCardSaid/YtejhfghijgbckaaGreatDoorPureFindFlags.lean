/- FindFlags holds of every input: the plain part. -/
import Derived.Test.YtejhfghijgbckaaGreatDoorFindC
import Derived.Test.YtejhfghijgbckaaGreatDoorPx105
namespace Go.Proofs.YtejhfghijgbckaaGreatDoor.Pure
set_option linter.unusedVariables false
open Go.RowKit Go.Proofs.YtejhfghijgbckaaGreatDoor Go.Proofs.YtejhfghijgbckaaGreatDoor.P Go.Proofs.YtejhfghijgbckaaGreatDoorW.PrintWords Go.Proofs.YtejhfghijgbckaaGreatDoorW.PrintLast Go.Proofs.YtejhfghijgbckaaGreatDoorW.PrintMore
theorem flags_known (a0 a1 : Int) : letterboxlaw18_FindFlags.j0 21 a0 a1 true = some true := by
  show ((letterboxlaw18_known.f 20).bind fun t => some t) = some true
  rw [known_small]
  rfl
def flagsAll : Bool := (List.range 32).all fun a => (List.range 5).all fun b => letterboxlaw18_FindFlags.f 60 (a : Int) (b : Int) == some true
theorem flagsAll_true : flagsAll = true := by kernel_rfl
theorem FindFlags (a0 a1 : Int) (w0 : (Lit.int .i64 a0).wf = true) (w1 : (Lit.int .i64 a1).wf = true) : ∃ k, letterboxlaw18_FindFlags.f k a0 a1 = some true := by
  by_cases h1 : a0 < 0
  · exact ⟨21, by unfold letterboxlaw18_FindFlags.f; rw [if_pos h1]; exact flags_known a0 a1⟩
  by_cases h2 : a0 > 31
  · exact ⟨21, by unfold letterboxlaw18_FindFlags.f; rw [if_neg h1, if_pos h2]; exact flags_known a0 a1⟩
  by_cases h3 : a1 < 0
  · exact ⟨21, by unfold letterboxlaw18_FindFlags.f; rw [if_neg h1, if_neg h2, if_pos h3]; exact flags_known a0 a1⟩
  by_cases h4 : a1 > 4
  · exact ⟨21, by unfold letterboxlaw18_FindFlags.f; rw [if_neg h1, if_neg h2, if_neg h3, decide_eq_true h4]; exact flags_known a0 a1⟩
  obtain ⟨a, rfl⟩ := Int.eq_ofNat_of_zero_le (show 0 ≤ a0 by omega)
  obtain ⟨b, rfl⟩ := Int.eq_ofNat_of_zero_le (show 0 ≤ a1 by omega)
  have h := List.all_eq_true.1 (List.all_eq_true.1 flagsAll_true a (List.mem_range.2 (by omega))) b (List.mem_range.2 (by omega))
  exact ⟨60, by simpa using h⟩
end Go.Proofs.YtejhfghijgbckaaGreatDoor.Pure
