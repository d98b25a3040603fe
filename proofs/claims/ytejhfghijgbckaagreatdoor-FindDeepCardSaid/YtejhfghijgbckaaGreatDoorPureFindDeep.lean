/- FindDeep holds of every input: the plain part. -/
import Derived.Test.YtejhfghijgbckaaGreatDoorFindC
import Derived.Test.YtejhfghijgbckaaGreatDoorPx107
namespace Go.Proofs.YtejhfghijgbckaaGreatDoor.Pure
set_option linter.unusedVariables false
open Go.RowKit Go.Proofs.YtejhfghijgbckaaGreatDoor Go.Proofs.YtejhfghijgbckaaGreatDoor.P Go.Proofs.YtejhfghijgbckaaGreatDoorW.PrintWords Go.Proofs.YtejhfghijgbckaaGreatDoorW.PrintLast Go.Proofs.YtejhfghijgbckaaGreatDoorW.PrintMore
theorem deep_known (a0 : Int) (a1 : Bool) : letterboxlaw18_FindDeep.j0 21 a0 a1 true = some true := by
  show ((letterboxlaw18_known.f 20).bind fun t => some t) = some true
  rw [known_small]
  rfl
set_option maxRecDepth 100000 in
theorem FindDeep (a0 : Int) (a1 : Bool) (w0 : (Lit.int .i64 a0).wf = true) : ∃ k, letterboxlaw18_FindDeep.f k a0 a1 = some true := by
  by_cases h1 : a0 < 0
  · exact ⟨21, by unfold letterboxlaw18_FindDeep.f; rw [if_pos h1]; exact deep_known a0 a1⟩
  by_cases h2 : a0 > 8
  · exact ⟨21, by unfold letterboxlaw18_FindDeep.f; rw [if_neg h1, decide_eq_true h2]; exact deep_known a0 a1⟩
  have h : a0 = 0 ∨ a0 = 1 ∨ a0 = 2 ∨ a0 = 3 ∨ a0 = 4 ∨ a0 = 5 ∨ a0 = 6 ∨ a0 = 7 ∨ a0 = 8 := by omega
  refine ⟨100, ?_⟩
  clear h1 h2 w0
  cases a1 <;> rcases h with rfl | rfl | rfl | rfl | rfl | rfl | rfl | rfl | rfl <;> kernel_rfl
end Go.Proofs.YtejhfghijgbckaaGreatDoor.Pure
