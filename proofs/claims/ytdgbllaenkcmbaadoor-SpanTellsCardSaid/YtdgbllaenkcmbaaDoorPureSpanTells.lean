/- SpanTells over numbers, texts and lists alone. -/
import Derived.Test.YtdgbllaenkcmbaaDoorSpanKnown
import Derived.Test.YtdgbllaenkcmbaaDoorPx108
namespace Go.Proofs.YtdgbllaenkcmbaaDoor.Pure
open Go.RowKit Go.Proofs.YtdgbllaenkcmbaaDoor Go.Proofs.YtdgbllaenkcmbaaDoor.P Go.Proofs.YtdgbllaenkcmbaaDoor.Spec Go.Proofs.YtdgbllaenkcmbaaDoorW.PrintWords Go.Proofs.YtdgbllaenkcmbaaDoorW.PrintLast Go.Proofs.YtdgbllaenkcmbaaDoorW.PrintMore

theorem goP_len : ∀ (ps : List (List UInt8)) (acc l : List S32), goP ps acc = some l → acc.length ≤ 16 → l.length ≤ 16
  | [], acc, l, h, ha => by cases h; exact ha
  | p :: ps, acc, l, h, ha => by
    unfold goP at h
    cases hr : rng p with
    | none => rw [hr] at h; cases h
    | some r =>
      rw [hr] at h
      simp only at h
      by_cases h3 : 16 ≤ acc.length
      · rw [if_pos h3] at h; cases h
      · rw [if_neg h3] at h
        exact goP_len ps _ l h (by rw [List.length_append]; simp; omega)
theorem ans_len (l : List UInt8) : (ans (goP (pieces 44 l) [])).1.length ≤ 16 := by
  cases h : goP (pieces 44 l) [] with
  | none => exact Nat.zero_le _
  | some r => exact goP_len _ _ r h (Nat.zero_le _)
theorem SpanTells (s : ByteArray) (l m : List S32) (n last : Int) (_ : s.size ≤ 140737488351232) (_ : ∀ r ∈ l, WfR r) (_ : ∀ r ∈ m, WfR r) (_ : (Lit.int .i64 n).wf = true) (_ : (Lit.int .i64 last).wf = true) : ∃ k, letterboxlaw12_SpanTells.f k s l m n last = some true := by
  refine ⟨10001, ?_⟩
  obtain ⟨b, rfl⟩ : ∃ b, s = mk b := ⟨s.data.toList, (mk_of s).symm⟩
  have j0t : letterboxlaw12_SpanTells.j0 10001 (mk b) l m n last true = some true := by rw [letterboxlaw12_SpanTells.j0, if_pos rfl]
  unfold letterboxlaw12_SpanTells.f
  rw [mk_size]
  by_cases h1 : (b.length : Int) > 300
  · rw [if_pos h1, j0t]
  rw [if_neg h1]
  by_cases h2 : (l.length : Int) > 40
  · rw [if_pos h2, j0t]
  rw [if_neg h2]
  by_cases h3 : (m.length : Int) > 40
  · rw [decide_eq_true h3, j0t]
  have hal := ans_len b
  have hh : span_Has.f l n last = some (decide (1 ≤ n) && l.any (within n last)) := rfl
  rw [decide_eq_false h3, letterboxlaw12_SpanTells.j0, if_neg Bool.false_ne_true, UParse_eq _ b (by omega) (by omega), Option.bind_some, RParse_eq _ b (by omega) (by omega), Option.bind_some, RSame_eq _ _ _ (by omega) (by omega), Option.bind_some, eqL_refl, if_pos rfl, if_pos rfl,
    UPrint_eq _ l (by omega), Option.bind_some, RPrint_eq _ l (by omega) (by omega), Option.bind_some, if_pos rfl, RHas_eq _ l n last (by omega) (by omega), hh, Option.bind_some, Option.bind_some, beq_self_eq_true, if_pos rfl, USame_eq _ l m (by omega) (by omega), Option.bind_some, RSame_eq _ l m (by omega) (by omega), Option.bind_some, beq_self_eq_true, if_pos rfl, known_eq _ (by omega)]
  rfl
end Go.Proofs.YtdgbllaenkcmbaaDoor.Pure
