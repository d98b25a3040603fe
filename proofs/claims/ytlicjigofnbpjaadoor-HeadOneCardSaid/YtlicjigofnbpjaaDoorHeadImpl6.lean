/- How lines are sent; what is behind the head. -/
import Derived.Test.YtlicjigofnbpjaaDoorHeadImpl5
namespace Go.Proofs.YtlicjigofnbpjaaDoor.Spec

theorem fl_until {m r : List Int} (h : ¬ (10 : Int) ∈ m) : fl (m ++ 10 :: r) = m.length + 1 := by
  induction m with
  | nil => rw [List.nil_append, fl_ten rfl]; rfl
  | cons c m ih =>
    rw [List.cons_append, fl_other (by intro hc; exact h (by simp [hc])), ih (fun hm => h (List.mem_cons_of_mem _ hm))]
    rfl
theorem lines_until {m r : List Int} (h : ¬ (10 : Int) ∈ m) : lines (m ++ 10 :: r) = (m ++ [10]) :: lines r := by
  rw [lines_ne (by simp), fl_until h]
  congr 1
  · rw [List.take_append, List.take_of_length_le (by omega), show m.length + 1 - m.length = 1 by omega]
    rfl
  · congr 1
    rw [List.drop_append, List.drop_of_length_le (by omega), show m.length + 1 - m.length = 1 by omega]
    rfl
theorem strip_concat (c x : Int) (m : List Int) : strip c (m ++ [x]) = if x = c then m else m ++ [x] := by
  unfold strip
  rw [List.getLast?_concat]
  simp only [Option.some.injEq, List.dropLast_concat]
theorem txt_crlf (m : List Int) : txt (m ++ [13, 10]) = m := by
  unfold txt
  rw [show m ++ [(13 : Int), 10] = (m ++ [13]) ++ [10] by simp, strip_concat, if_pos rfl, strip_concat, if_pos rfl]
theorem take_fl_out : ∀ l : List Int, ¬ (10 : Int) ∈ (l.take (fl l)).dropLast
  | [] => by simp
  | c :: l => by
    by_cases hc : c = 10
    · rw [fl_ten hc]; simp
    · rw [fl_other hc, List.take_succ_cons]
      cases hm : l.take (fl l) with
      | nil => simp
      | cons d m =>
        rw [List.dropLast_cons_of_ne_nil (by simp)]
        intro h
        rcases List.mem_cons.1 h with h1 | h1
        · exact hc h1.symm
        · rw [← hm] at h1
          exact take_fl_out l h1
theorem strip_out {x : List Int} (h : ¬ (10 : Int) ∈ x.dropLast) : ¬ (10 : Int) ∈ strip 10 x := by
  rcases List.eq_nil_or_concat x with rfl | ⟨m, c, rfl⟩
  · intro h; cases h
  · rw [List.concat_eq_append] at h ⊢
    rw [List.dropLast_concat] at h
    rw [strip_concat]
    split
    · exact h
    · rename_i hc
      intro hm
      rcases List.mem_append.1 hm with h1 | h1
      · exact h h1
      · exact hc (List.mem_singleton.1 h1).symm
theorem line_out {l x : List Int} (h : x ∈ lines l) : ¬ (10 : Int) ∈ txt x := by
  induction l using line_ind with
  | h0 => cases h
  | h1 l hl ih =>
    rw [lines_ne hl] at h
    rcases List.mem_cons.1 h with rfl | h
    · intro hm
      exact strip_out (take_fl_out l) (strip_mem hm)
    · exact ih h
theorem strip_head {c : Int} (hc : c ≠ 46) (l : List Int) : (strip c l).head? = some 46 ↔ l.head? = some 46 := by
  rcases List.eq_nil_or_concat l with rfl | ⟨m, x, rfl⟩
  · rfl
  · rw [List.concat_eq_append, strip_concat]
    split
    · rename_i hx
      cases m with
      | nil => subst hx; simp [hc]
      | cons d m => simp
    · rfl
theorem txt_head (l : List Int) : (txt l).head? = some 46 ↔ l.head? = some 46 := (strip_head (by decide) _).trans (strip_head (by decide) _)
/-- A text as it is sent, without its end. -/
def dot (t : List Int) : List Int := if t.head? = some 46 then 46 :: t else t
/-- Texts as they are sent. -/
def sent (ts : List (List Int)) : List Int := (ts.map fun t => dot t ++ [13, 10]).flatten ++ [46, 13, 10]
theorem dot_out {t : List Int} (h : ¬ (10 : Int) ∈ t) : ¬ (10 : Int) ∈ dot t := by
  unfold dot
  split
  · intro hm
    rcases List.mem_cons.1 hm with h1 | h1
    · exact absurd h1 (by decide)
    · exact h h1
  · exact h
theorem lines_crlf {m r : List Int} (h : ¬ (10 : Int) ∈ m) : lines (m ++ [13, 10] ++ r) = (m ++ [13, 10]) :: lines r := by
  have h2 : ¬ (10 : Int) ∈ m ++ [13] := by
    intro hm
    rcases List.mem_append.1 hm with h1 | h1
    · exact h h1
    · exact absurd (List.mem_singleton.1 h1) (by decide)
  have := lines_until (r := r) h2
  simpa using this
theorem lines_ends : ∀ (ts : List (List Int)) (r : List Int), (∀ t ∈ ts, ¬ (10 : Int) ∈ t) → lines ((ts.map fun t => t ++ [13, 10]).flatten ++ r) = (ts.map fun t => t ++ [13, 10]) ++ lines r
  | [], _, _ => rfl
  | t :: ts, r, h => by
    rw [List.map_cons, List.flatten_cons, List.append_assoc, lines_crlf (h t List.mem_cons_self), lines_ends ts r (fun t ht => h t (List.mem_cons_of_mem _ ht))]
    rfl
theorem texts_crlf : ∀ ts : List (List Int), (ts.map fun t => t ++ [13, 10]).map txt = ts
  | [] => rfl
  | t :: ts => by rw [List.map_cons, List.map_cons, txt_crlf, texts_crlf ts]
theorem lines_sent (ts : List (List Int)) (h : ∀ t ∈ ts, ¬ (10 : Int) ∈ t) : (lines (sent ts)).map txt = ts.map dot ++ [[46]] := by
  have hm : (ts.map fun t => dot t ++ [13, 10]) = ((ts.map dot).map fun t => t ++ [13, 10]) := by rw [List.map_map]; rfl
  unfold sent
  rw [hm, lines_ends _ _ (fun t ht => by
    obtain ⟨u, hu, rfl⟩ := List.mem_map.1 ht
    exact dot_out (h u hu)), List.map_append, texts_crlf]
  rfl
theorem sent_length (ts : List (List Int)) : (sent ts).length ≤ ts.flatten.length + 3 * ts.length + 3 := by
  unfold sent
  rw [List.length_append]
  have : ∀ ts : List (List Int), ((ts.map fun t => dot t ++ [13, 10]).flatten).length ≤ ts.flatten.length + 3 * ts.length := by
    intro ts
    induction ts with
    | nil => simp
    | cons t ts ih =>
      have : (dot t).length ≤ t.length + 1 := by unfold dot; split <;> simp
      rw [List.map_cons, List.flatten_cons, List.flatten_cons, List.length_append, List.length_append, List.length_append, List.length_cons]
      simp only [List.length_cons, List.length_nil]
      omega
  have := this ts
  simp only [List.length_cons, List.length_nil]
  omega
end Go.Proofs.YtlicjigofnbpjaaDoor.Spec
namespace Go.Proofs.YtlicjigofnbpjaaDoor.Pure
open Go.RowKit Go.Proofs.YtlicjigofnbpjaaDoor Go.Proofs.YtlicjigofnbpjaaDoor.P Go.Proofs.YtlicjigofnbpjaaDoor.Spec Go.Proofs.YtlicjigofnbpjaaDoorW.PrintWords Go.Proofs.YtlicjigofnbpjaaDoorW.PrintLast Go.Proofs.YtlicjigofnbpjaaDoorW.PrintMore

theorem heads_split (l : List Int) : lines l = heads (lines l) ++ lines (l.drop (hend l)) := by
  induction l using line_ind with
  | h0 => rfl
  | h1 l hl ih =>
    have hle := fl_le l
    have hx : (l.take (fl l)).length = fl l := by rw [List.length_take]; omega
    unfold hend at ih ⊢
    rw [lines_ne hl, heads_cons, upto_cons, hx]
    by_cases ht : txt (l.take (fl l)) = []
    · rw [if_pos ht, if_pos ht]
      rfl
    · rw [if_neg ht, if_neg ht, List.cons_append, ← List.drop_drop, ← ih]
theorem heads_inner : ∀ (ls : List (List Int)) (i : Nat), i + 1 < (heads ls).length → txt ((heads ls).getD i []) ≠ []
  | [], i, h => by simp [heads] at h
  | x :: xs, i, h => by
    rw [heads_cons] at h ⊢
    by_cases ht : txt x = []
    · rw [if_pos ht] at h
      simp at h
    · rw [if_neg ht] at h ⊢
      cases i with
      | zero => exact ht
      | succ i => exact heads_inner xs i (by simpa using h)
theorem heads_last : ∀ (ls : List (List Int)), upto ls < ls.flatten.length → (heads ls) ≠ [] ∧ txt ((heads ls).getD ((heads ls).length - 1) []) = []
  | [], h => by simp [upto] at h
  | x :: xs, h => by
    rw [upto_cons, List.flatten_cons, List.length_append] at h
    rw [heads_cons]
    by_cases ht : txt x = []
    · rw [if_pos ht]
      exact ⟨by simp, ht⟩
    · rw [if_neg ht] at h ⊢
      have ih := heads_last xs (by omega)
      have hp := List.length_pos_iff.2 ih.1
      refine ⟨by simp, ?_⟩
      rw [List.length_cons, show (heads xs).length + 1 - 1 = ((heads xs).length - 1) + 1 by omega]
      exact ih.2
end Go.Proofs.YtlicjigofnbpjaaDoor.Pure
