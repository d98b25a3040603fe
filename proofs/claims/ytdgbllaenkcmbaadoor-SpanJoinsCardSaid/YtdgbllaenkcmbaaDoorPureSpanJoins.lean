/- SpanJoins over texts alone. -/
import Derived.Test.YtdgbllaenkcmbaaDoorSpanBack
import Derived.Test.YtdgbllaenkcmbaaDoorPx105
namespace Go.Proofs.YtdgbllaenkcmbaaDoor.Pure
open Go.RowKit Go.Proofs.YtdgbllaenkcmbaaDoor Go.Proofs.YtdgbllaenkcmbaaDoor.P Go.Proofs.YtdgbllaenkcmbaaDoor.Spec Go.Proofs.YtdgbllaenkcmbaaDoorW.PrintWords Go.Proofs.YtdgbllaenkcmbaaDoorW.PrintLast Go.Proofs.YtdgbllaenkcmbaaDoorW.PrintMore

def yes (ps : List (List UInt8)) : Bool := (ps.all fun p => (rng p).isSome) && decide (ps.length ≤ 16)
theorem ans_yes (ps : List (List UInt8)) : ans (goP ps []) = if yes ps = true then (ps.filterMap rng, 0) else ([], 3) := by
  rw [goP_closed ps [] (Nat.zero_le _), List.length_nil, Nat.zero_add]
  unfold yes
  by_cases h : (ps.all fun p => (rng p).isSome) = true ∧ ps.length ≤ 16
  · rw [if_pos h, if_pos (by rw [h.1, decide_eq_true h.2]; rfl)]
    rfl
  · rw [if_neg h, if_neg (by intro e; rw [Bool.and_eq_true, decide_eq_true_eq] at e; exact h e)]
    rfl
theorem SpanJoins (a b : ByteArray) (ha : a.size ≤ 140737488351232) (hb : b.size ≤ 140737488351232) : ∃ k, letterboxlaw12_SpanJoins.f k a b = some true := by
  refine ⟨1001, ?_⟩
  obtain ⟨x, rfl⟩ : ∃ x, a = mk x := ⟨a.data.toList, (mk_of a).symm⟩
  obtain ⟨y, rfl⟩ : ∃ y, b = mk y := ⟨b.data.toList, (mk_of b).symm⟩
  rw [mk_size] at ha hb
  unfold letterboxlaw12_SpanJoins.f
  rw [mk_size, mk_size, w64 _ (by omega) (by omega)]
  by_cases h1 : (x.length : Int) + (y.length : Int) > 200
  · rw [if_pos h1]
  have happ : mk x ++ (⟨#[44]⟩ : ByteArray) ++ mk y = mk (x ++ 44 :: y) := by
    rw [show (⟨#[44]⟩ : ByteArray) = mk [44] from rfl, mk_app, mk_app, List.append_assoc]
    rfl
  have hl : (x ++ 44 :: y).length = x.length + (y.length + 1) := by rw [List.length_append, List.length_cons]
  have kn := known_eq 1000 (by omega)
  rw [if_neg h1, UParse_eq _ x (by omega) (by omega), Option.bind_some, UParse_eq _ y (by omega) (by omega), Option.bind_some, if_pos (by omega), if_pos (by omega), happ, UParse_eq _ _ (by omega) (by omega), Option.bind_some, pieces_comma, ans_yes, ans_yes, ans_yes]
  generalize pieces 44 x = P
  generalize pieces 44 y = Q
  have hyes : yes (P ++ Q) = ((P.all fun p => (rng p).isSome) && (Q.all fun p => (rng p).isSome) && decide (P.length + Q.length ≤ 16)) := by
    unfold yes
    rw [List.all_append, List.length_append]
  by_cases hP : yes P = true
  · by_cases hQ : yes Q = true
    · have hP2 := hP
      have hQ2 := hQ
      unfold yes at hP2 hQ2
      rw [Bool.and_eq_true, decide_eq_true_eq] at hP2 hQ2
      have lP := filter_len P hP2.1
      have lQ := filter_len Q hQ2.1
      rw [if_pos hP, if_pos hQ, if_pos rfl]
      show letterboxlaw12_SpanJoins.j0 1001 (P.filterMap rng) (Q.filterMap rng) _ _ ((0 : Int) != 0) = _
      rw [show ((0 : Int) != 0) = false from rfl, letterboxlaw12_SpanJoins.j0, if_neg Bool.false_ne_true, w64 _ (by omega) (by omega), lP, lQ]
      by_cases h16 : P.length + Q.length ≤ 16
      · have hy : yes (P ++ Q) = true := by rw [hyes, hP2.1, hQ2.1, decide_eq_true h16]; rfl
        rw [if_neg (by omega), if_pos hy, if_pos rfl, Option.bind_some, if_pos (by rw [List.length_nil]; omega), Option.bind_some, List.nil_append, if_pos (by rw [lP]; omega), List.filterMap_append,
          USame_eq _ _ _ (by rw [List.length_append]; omega) (by rw [List.length_append]; omega), Option.bind_some, eqL_refl, if_pos rfl, kn]
        rfl
      · have hn : ¬ yes (P ++ Q) = true := by rw [hyes, hP2.1, hQ2.1, decide_eq_false h16]; simp
        rw [if_pos (by omega), if_neg hn, if_pos rfl, kn]
        rfl
    · have hn : yes (P ++ Q) ≠ true := by
        intro h
        rw [hyes, Bool.and_eq_true, Bool.and_eq_true, decide_eq_true_eq] at h
        refine hQ ?_
        unfold yes
        rw [h.1.2, decide_eq_true (by omega)]
        rfl
      rw [if_pos hP, if_neg hQ, if_neg hn, if_pos rfl]
      show letterboxlaw12_SpanJoins.j0 1001 _ _ ([] : List S32) 3 ((3 : Int) != 0) = _
      rw [show ((3 : Int) != 0) = true from rfl, letterboxlaw12_SpanJoins.j0, if_pos rfl, if_pos rfl, if_pos (show ((([] : List S32).length : Nat) : Int) = 0 from rfl), kn]
      rfl
  · have hn : yes (P ++ Q) ≠ true := by
      intro h
      rw [hyes, Bool.and_eq_true, Bool.and_eq_true, decide_eq_true_eq] at h
      refine hP ?_
      unfold yes
      rw [h.1.1, decide_eq_true (by omega)]
      rfl
    rw [if_neg hP, if_neg hn, if_neg (show ¬ ((3 : Int) = 0) by decide)]
    show letterboxlaw12_SpanJoins.j0 1001 _ _ ([] : List S32) 3 true = _
    rw [letterboxlaw12_SpanJoins.j0, if_pos rfl, if_pos rfl, if_pos (show ((([] : List S32).length : Nat) : Int) = 0 from rfl), kn]
    rfl
end Go.Proofs.YtdgbllaenkcmbaaDoor.Pure
