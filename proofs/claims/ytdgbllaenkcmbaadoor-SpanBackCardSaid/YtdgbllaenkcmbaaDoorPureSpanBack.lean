/- SpanBack over lists alone. -/
import Derived.Test.YtdgbllaenkcmbaaDoorSpanBack
import Derived.Test.YtdgbllaenkcmbaaDoorPx103
namespace Go.Proofs.YtdgbllaenkcmbaaDoor.Pure
open Go.RowKit Go.Proofs.YtdgbllaenkcmbaaDoor Go.Proofs.YtdgbllaenkcmbaaDoor.P Go.Proofs.YtdgbllaenkcmbaaDoor.Spec Go.Proofs.YtdgbllaenkcmbaaDoorW.PrintWords Go.Proofs.YtdgbllaenkcmbaaDoorW.PrintLast Go.Proofs.YtdgbllaenkcmbaaDoorW.PrintMore

theorem SpanBack (l : List S32) (_ : ∀ r ∈ l, WfR r) : ∃ k, letterboxlaw12_SpanBack.f k l = some true := by
  refine ⟨1001, ?_⟩
  have j0t : letterboxlaw12_SpanBack.j0 1001 l true = some true := by rw [letterboxlaw12_SpanBack.j0, if_pos rfl]
  unfold letterboxlaw12_SpanBack.f
  by_cases h1 : (l.length : Int) > 40
  · rw [if_pos h1, j0t]
  rw [if_neg h1, RIs_eq _ l (by omega) (by omega), Option.bind_some]
  by_cases h2 : okSet l = true
  · have h3 := h2
    unfold okSet at h3
    simp only [Bool.and_eq_true, decide_eq_true_eq] at h3
    have hlen := texts_len l h3.2.2
    rw [h2, Bool.not_true, letterboxlaw12_SpanBack.j0, if_neg Bool.false_ne_true, UPrint_eq _ l (by omega), Option.bind_some, if_pos h2, UParse_eq _ (texts l) (by omega) (by omega), Option.bind_some, parse_texts l h2]
    show (if (0 : Int) = 0 then _ else _) = _
    rw [if_pos rfl]
    show ((letterboxref12_Same.f 1000 l l).bind _) = _
    rw [RSame_eq _ l l (by omega) (by omega), Option.bind_some, eqL_refl, if_pos rfl, known_eq _ (by omega)]
    rfl
  · rw [show okSet l = false by simpa using h2, Bool.not_false, j0t]
end Go.Proofs.YtdgbllaenkcmbaaDoor.Pure
