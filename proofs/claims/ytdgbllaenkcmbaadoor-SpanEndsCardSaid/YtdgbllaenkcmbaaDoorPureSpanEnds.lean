/- SpanEnds over numbers alone. -/
import Derived.Test.YtdgbllaenkcmbaaDoorSpanKnown
import Derived.Test.YtdgbllaenkcmbaaDoorPx104
namespace Go.Proofs.YtdgbllaenkcmbaaDoor.Pure
open Go.RowKit Go.Proofs.YtdgbllaenkcmbaaDoor Go.Proofs.YtdgbllaenkcmbaaDoor.P Go.Proofs.YtdgbllaenkcmbaaDoor.Spec Go.Proofs.YtdgbllaenkcmbaaDoorW.PrintWords Go.Proofs.YtdgbllaenkcmbaaDoorW.PrintLast Go.Proofs.YtdgbllaenkcmbaaDoorW.PrintMore

theorem has_one (a b n last : Int) : span_Has.f [⟨a, b⟩] n last = some (decide (1 ≤ n) && (decide (mn (endOf last a) (endOf last b) ≤ n) && decide (n ≤ mx (endOf last a) (endOf last b)))) := by
  unfold span_Has.f within
  rw [List.any_cons, List.any_nil, Bool.or_false]
theorem mn_comm (a b : Int) : mn a b = mn b a := by unfold mn; split <;> split <;> omega
theorem mx_comm (a b : Int) : mx a b = mx b a := by unfold mx; split <;> split <;> omega
theorem SpanEnds (a b n last : Int) (_ : (Lit.int .i64 a).wf = true) (_ : (Lit.int .i64 b).wf = true) (_ : (Lit.int .i64 n).wf = true) (_ : (Lit.int .i64 last).wf = true) : ∃ k, letterboxlaw12_SpanEnds.f k a b n last = some true := by
  refine ⟨101, ?_⟩
  have j0t : letterboxlaw12_SpanEnds.j0 101 a b n last true = some true := by rw [letterboxlaw12_SpanEnds.j0, if_pos rfl]
  unfold letterboxlaw12_SpanEnds.f
  by_cases h1 : a < 1
  · rw [if_pos h1, j0t]
  by_cases h2 : a > 9999999
  · rw [if_neg h1, if_pos h2, j0t]
  by_cases h3 : b < 1
  · rw [if_neg h1, if_neg h2, if_pos h3, j0t]
  by_cases h4 : b > 9999999
  · rw [if_neg h1, if_neg h2, if_neg h3, if_pos h4, j0t]
  by_cases h5 : n < 1
  · rw [if_neg h1, if_neg h2, if_neg h3, if_neg h4, if_pos h5, j0t]
  by_cases h6 : n > 9999999
  · rw [if_neg h1, if_neg h2, if_neg h3, if_neg h4, if_neg h5, if_pos h6, j0t]
  by_cases h7 : last < 1
  · rw [if_neg h1, if_neg h2, if_neg h3, if_neg h4, if_neg h5, if_neg h6, if_pos h7, j0t]
  rw [if_neg h1, if_neg h2, if_neg h3, if_neg h4, if_neg h5, if_neg h6, if_neg h7]
  by_cases h8 : last > 9999999
  · rw [decide_eq_true h8, j0t]
  rw [decide_eq_false h8, letterboxlaw12_SpanEnds.j0, if_neg Bool.false_ne_true]
  have ea : endOf last a = a := if_neg (by omega)
  have eb : endOf last b = b := if_neg (by omega)
  have es : endOf last 1073741824 = last := if_pos rfl
  have s1 : span_Has.f [⟨1073741824, 1073741824⟩] last last = some true := by
    rw [has_one, es, decide_eq_true (by omega), decide_eq_true (by unfold mn; split <;> omega), decide_eq_true (by unfold mx; split <;> omega)]
    rfl
  have s2 : span_Has.f [⟨a, 1073741824⟩] last last = some true := by
    rw [has_one, ea, es, decide_eq_true (by omega), decide_eq_true (by unfold mn; split <;> omega), decide_eq_true (by unfold mx; split <;> omega)]
    rfl
  have kn := known_eq 100 (by omega)
  have x1 : span_Has.f [⟨a, b⟩] n last = some (decide (mn a b ≤ n) && decide (n ≤ mx a b)) := by rw [has_one, ea, eb, decide_eq_true (by omega), Bool.true_and]
  have x2 : span_Has.f [⟨b, a⟩] n last = some (decide (mn a b ≤ n) && decide (n ≤ mx a b)) := by rw [has_one, ea, eb, decide_eq_true (by omega), Bool.true_and, mn_comm b a, mx_comm b a]
  rw [x1, Option.bind_some, x2, Option.bind_some, beq_self_eq_true, if_pos rfl]
  by_cases h9 : mn a b ≤ n
  · rw [if_pos h9, decide_eq_true h9, Bool.true_and, beq_self_eq_true, if_pos rfl, s1, Option.bind_some, if_pos rfl, s2, Option.bind_some, if_pos rfl, kn]
    rfl
  · rw [if_neg h9, decide_eq_false h9, Bool.false_and, beq_self_eq_true, if_pos rfl, s1, Option.bind_some, if_pos rfl, s2, Option.bind_some, if_pos rfl, kn]
    rfl
end Go.Proofs.YtdgbllaenkcmbaaDoor.Pure
