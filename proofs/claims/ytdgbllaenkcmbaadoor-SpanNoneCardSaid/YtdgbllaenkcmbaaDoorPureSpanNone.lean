/- SpanNone over numbers and lists alone. -/
import Derived.Test.YtdgbllaenkcmbaaDoorSpanKnown
import Derived.Test.YtdgbllaenkcmbaaDoorPx107
namespace Go.Proofs.YtdgbllaenkcmbaaDoor.Pure
open Go.RowKit Go.Proofs.YtdgbllaenkcmbaaDoor Go.Proofs.YtdgbllaenkcmbaaDoor.P Go.Proofs.YtdgbllaenkcmbaaDoor.Spec Go.Proofs.YtdgbllaenkcmbaaDoorW.PrintWords Go.Proofs.YtdgbllaenkcmbaaDoorW.PrintLast Go.Proofs.YtdgbllaenkcmbaaDoorW.PrintMore

theorem SpanNone (l : List S32) (n last : Int) (_ : ∀ r ∈ l, WfR r) (_ : (Lit.int .i64 n).wf = true) (_ : (Lit.int .i64 last).wf = true) : ∃ k, letterboxlaw12_SpanNone.f k l n last = some true := by
  refine ⟨101, ?_⟩
  have j0t : letterboxlaw12_SpanNone.j0 101 l n last true = some true := by rw [letterboxlaw12_SpanNone.j0, if_pos rfl]
  unfold letterboxlaw12_SpanNone.f
  by_cases h1 : (l.length : Int) > 40
  · rw [if_pos h1, j0t]
  rw [if_neg h1]
  by_cases h2 : n > 0
  · rw [decide_eq_true h2, j0t]
  rw [decide_eq_false h2, letterboxlaw12_SpanNone.j0, if_neg Bool.false_ne_true, Option.bind_some]
  have hh : span_Has.f l n last = some false := by
    unfold span_Has.f
    rw [decide_eq_false (by omega), Bool.false_and]
  have e : (⟨#[]⟩ : ByteArray).toList = ([] : List UInt8) := mk_toList []
  have p1 : span_Print.f 100 [] = some ⟨#[]⟩ := by rw [UPrint_eq _ _ (by decide), if_neg (by decide)]
  have p2 : span_Print.f 100 (([⟨1, 1⟩] : List S32) ++ List.replicate 20 z32) = some ⟨#[]⟩ := by rw [UPrint_eq _ _ (by decide), if_neg (by decide)]
  have p3 : span_Print.f 100 [⟨0, 1⟩] = some ⟨#[]⟩ := by rw [UPrint_eq _ _ (by decide), if_neg (by decide)]
  rw [if_pos (by decide), hh, Option.bind_some, if_neg Bool.false_ne_true, p1, Option.bind_some, if_pos e, p2, Option.bind_some, if_pos e, p3, Option.bind_some, if_pos e, known_eq 100 (by omega)]
  rfl
end Go.Proofs.YtdgbllaenkcmbaaDoor.Pure
