/- SpanMany over numbers and lists alone. -/
import Derived.Test.YtdgbllaenkcmbaaDoorSpanKnown
import Derived.Test.YtdgbllaenkcmbaaDoorPx106
namespace Go.Proofs.YtdgbllaenkcmbaaDoor.Pure
open Go.RowKit Go.Proofs.YtdgbllaenkcmbaaDoor Go.Proofs.YtdgbllaenkcmbaaDoor.P Go.Proofs.YtdgbllaenkcmbaaDoor.Spec Go.Proofs.YtdgbllaenkcmbaaDoorW.PrintWords Go.Proofs.YtdgbllaenkcmbaaDoorW.PrintLast Go.Proofs.YtdgbllaenkcmbaaDoorW.PrintMore

theorem SpanMany_l0 (l : List S32) (n last : Int) (hl : l.length ≤ 40) : ∀ (m i k : Nat), i + m = l.length → m + 101 ≤ k → letterboxlaw12_SpanMany.l0 k l n last (decide (1 ≤ n) && (l.take i).any (within n last)) i = some true
  | 0, i, k, hi, hk => by
    obtain ⟨k, rfl⟩ : ∃ m, k = m + 1 := ⟨k - 1, by omega⟩
    have hh : span_Has.f l n last = some (decide (1 ≤ n) && l.any (within n last)) := rfl
    rw [letterboxlaw12_SpanMany.l0, if_neg (by omega), List.take_of_length_le (by omega), hh, Option.bind_some, beq_self_eq_true, if_pos rfl, known_eq k (by omega)]
    rfl
  | m + 1, i, k, hi, hk => by
    obtain ⟨k, rfl⟩ : ∃ m, k = m + 1 := ⟨k - 1, by omega⟩
    have hlt : i < l.length := by omega
    have next := SpanMany_l0 l n last hl m (i + 1) k (by omega) (by omega)
    have hw : wrap64 ((i : Int) + 1) = ((i + 1 : Nat) : Int) := w64 _ (by omega) (by omega)
    rw [List.take_succ_eq_append_getElem hlt, List.any_append, List.any_cons, List.any_nil, Bool.or_false] at next
    rw [letterboxlaw12_SpanMany.l0, if_pos (by omega), hw]
    cases hq : decide (1 ≤ n) && (l.take i).any (within n last) with
    | true =>
      have : (decide (1 ≤ n) && ((l.take i).any (within n last) || within n last l[i])) = true := by
        rw [Bool.and_eq_true] at hq
        rw [hq.1, hq.2]
        rfl
      rw [this] at next
      rw [if_pos rfl]
      exact next
    | false =>
      have e : (l.take (i + 1)).drop i = [l[i]] := by
        rw [List.take_succ_eq_append_getElem hlt, List.drop_append_of_le_length (by rw [List.length_take]; omega), List.drop_of_length_le (by rw [List.length_take]; omega)]
        rfl
      have hh : span_Has.f [l[i]] n last = some (decide (1 ≤ n) && ((l.take i).any (within n last) || within n last l[i])) := by
        unfold span_Has.f
        rw [List.any_cons, List.any_nil, Bool.or_false, Bool.and_or_distrib_left, hq, Bool.false_or]
      rw [if_neg Bool.false_ne_true, if_pos (by omega), if_pos (by omega), if_pos (by omega), Int.toNat_natCast, Int.toNat_natCast, e, hh, Option.bind_some]
      exact next
theorem SpanMany (l : List S32) (n last : Int) (_ : ∀ r ∈ l, WfR r) (_ : (Lit.int .i64 n).wf = true) (_ : (Lit.int .i64 last).wf = true) : ∃ k, letterboxlaw12_SpanMany.f k l n last = some true := by
  refine ⟨l.length + 101, ?_⟩
  unfold letterboxlaw12_SpanMany.f
  by_cases h : (l.length : Int) > 40
  · rw [if_pos h]
  · rw [if_neg h]
    have := SpanMany_l0 l n last (by omega) l.length 0 (l.length + 101) (by omega) (by omega)
    rw [List.take_zero, List.any_nil, Bool.and_false] at this
    exact this
end Go.Proofs.YtdgbllaenkcmbaaDoor.Pure
