/- MarkModes over numbers and lists alone: each two numbers of flags below thirty-two, by reckoning; any others ask the one known case alone. -/
import Derived.Test.YthaeijemjlnbaaaDoorPx3
namespace Go.Proofs.YthaeijemjlnbaaaDoor.Pure
open Go.RowKit Go.Proofs.YthaeijemjlnbaaaDoor Go.Proofs.YthaeijemjlnbaaaDoor.P Go.Proofs.YthaeijemjlnbaaaDoorW.PrintWords Go.Proofs.YthaeijemjlnbaaaDoorW.PrintLast

theorem known_yes : letterboxlaw11_known.f 60 = some true := by decide +kernel
theorem modes_out (a b : Int) : letterboxlaw11_MarkModes.j0 61 a b true = some true := by
  simp only [letterboxlaw11_MarkModes.j0]
  rw [if_pos trivial, known_yes]
  rfl
def modesIn (x0 x1 : Int) : Option Bool := (mark_Apply.f 0 x0 x1).bind fun t168 => ((mark_Apply.f 1 x0 x1).bind fun t169 => ((mark_Apply.f 2 x0 x1).bind fun t170 => (if t168 = x1 then (if (Go.bits .and .i64 t169 x1) = x1 then (if (Go.bits .andNot .i64 t169 x1) = (Go.bits .andNot .i64 x0 x1) then (if (Go.bits .and .i64 t170 x1) = 0 then (if (Go.bits .andNot .i64 t170 x1) = (Go.bits .andNot .i64 x0 x1) then ((mark_Apply.f 9 x0 x1).bind fun t171 => (if t171 = x0 then ((some true).bind fun t172 => (some t172)) else (some false))) else (some false)) else (some false)) else (some false)) else (some false)) else (some false))))
theorem modes_in (a b : Int) : letterboxlaw11_MarkModes.j0 61 a b false = modesIn a b := by
  simp only [letterboxlaw11_MarkModes.j0]
  rw [if_neg (by decide), known_yes]
  rfl
theorem modes_all : (List.range 32).all (fun n => (List.range 32).all fun m => modesIn (n : Int) (m : Int) == some true) = true := by decide +kernel
theorem MarkModes (a0 a1 : Int) (_ : (Lit.int .i64 a0).wf = true) (_ : (Lit.int .i64 a1).wf = true) : ∃ k, letterboxlaw11_MarkModes.f k a0 a1 = some true := by
  refine ⟨61, ?_⟩
  unfold letterboxlaw11_MarkModes.f
  by_cases c1 : a0 < 0
  · rw [if_pos c1]; exact modes_out _ _
  · rw [if_neg c1]
    by_cases c2 : a0 > 31
    · rw [if_pos c2]; exact modes_out _ _
    · rw [if_neg c2]
      by_cases c3 : a1 < 0
      · rw [if_pos c3]; exact modes_out _ _
      · rw [if_neg c3]
        by_cases c4 : a1 > 31
        · rw [decide_eq_true c4]; exact modes_out _ _
        · rw [decide_eq_false c4, modes_in]
          have h1 := List.all_eq_true.1 modes_all a0.toNat (List.mem_range.2 (by omega))
          have h2 := List.all_eq_true.1 h1 a1.toNat (List.mem_range.2 (by omega))
          rw [show ((a0.toNat : Nat) : Int) = a0 by omega, show ((a1.toNat : Nat) : Int) = a1 by omega] at h2
          simpa using h2
end Go.Proofs.YthaeijemjlnbaaaDoor.Pure
