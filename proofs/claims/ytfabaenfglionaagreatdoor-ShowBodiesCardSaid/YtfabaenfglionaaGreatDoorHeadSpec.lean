/- Lines, texts and heads of bytes, as plain lists of numbers; no program in sight. -/
namespace Go.Proofs.YtfabaenfglionaaGreatDoor.Spec

def fl : List Int → Nat
  | [] => 0
  | c :: l => if c = 10 then 1 else fl l + 1
def pieces : List Int → List (List Int)
  | [] => [[]]
  | c :: l => if c = 10 then [10] :: pieces l else
    match pieces l with
    | [] => [[c]]
    | x :: xs => (c :: x) :: xs
def lines : List Int → List (List Int)
  | [] => []
  | c :: l => if c = 10 then [10] :: lines l else
    match lines l with
    | [] => [[c]]
    | x :: xs => (c :: x) :: xs

theorem fl_le : ∀ l, fl l ≤ l.length
  | [] => Nat.le_refl _
  | c :: l => by
    have := fl_le l
    unfold fl
    split <;> simp <;> omega
theorem fl_pos {l : List Int} (h : l ≠ []) : 0 < fl l := by
  cases l with
  | nil => exact absurd rfl h
  | cons c l => unfold fl; split <;> omega
theorem lines_ten {c : Int} (hc : c = 10) (l : List Int) : lines (c :: l) = [10] :: lines l := by
  conv => lhs; unfold lines
  rw [if_pos hc]
theorem lines_other {c : Int} (hc : ¬ c = 10) (l : List Int) : lines (c :: l) = match lines l with | [] => [[c]] | x :: xs => (c :: x) :: xs := by
  conv => lhs; unfold lines
  rw [if_neg hc]
theorem fl_ten {c : Int} (hc : c = 10) (l : List Int) : fl (c :: l) = 1 := by
  conv => lhs; unfold fl
  rw [if_pos hc]
theorem fl_other {c : Int} (hc : ¬ c = 10) (l : List Int) : fl (c :: l) = fl l + 1 := by
  conv => lhs; unfold fl
  rw [if_neg hc]
theorem lines_ne {l : List Int} (h : l ≠ []) : lines l = l.take (fl l) :: lines (l.drop (fl l)) := by
  induction l with
  | nil => exact absurd rfl h
  | cons c l ih =>
    by_cases hc : c = 10
    · rw [lines_ten hc, fl_ten hc]
      simp [hc]
    · rw [fl_other hc]
      cases l with
      | nil => rw [lines_other hc]; rfl
      | cons d l =>
        rw [lines_other hc, ih (by simp), List.drop_succ_cons, List.take_succ_cons]
theorem lines_nil : lines [] = [] := rfl
theorem line_ind {M : List Int → Prop} (h0 : M []) (h1 : ∀ l, l ≠ [] → M (l.drop (fl l)) → M l) : ∀ l, M l := by
  intro l
  generalize hn : l.length = n
  induction n using Nat.strongRecOn generalizing l with
  | _ n ih =>
    by_cases hl : l = []
    · rw [hl]; exact h0
    · have h2 := fl_pos hl
      have h3 := fl_le l
      exact h1 l hl (ih _ (by rw [List.length_drop]; omega) _ rfl)
theorem lines_flatten (l : List Int) : (lines l).flatten = l := by
  induction l using line_ind with
  | h0 => rfl
  | h1 l hl ih => rw [lines_ne hl, List.flatten_cons, ih, List.take_append_drop]
theorem lines_mem_mem {l x : List Int} {c : Int} (h : x ∈ lines l) (hc : c ∈ x) : c ∈ l := by
  rw [← lines_flatten l]
  exact List.mem_flatten.2 ⟨x, h, hc⟩
theorem lines_length_le (l : List Int) : (lines l).length ≤ l.length := by
  induction l using line_ind with
  | h0 => exact Nat.le_refl _
  | h1 l hl ih =>
    have h2 := fl_pos hl
    have h3 := fl_le l
    rw [lines_ne hl, List.length_cons]
    rw [List.length_drop] at ih
    omega
theorem pieces_lines (l : List Int) : (∃ x xs, pieces l = xs ++ [x] ∧ x ≠ [] ∧ lines l = xs ++ [x]) ∨ (pieces l = lines l ++ [[]]) := by
  induction l with
  | nil => exact .inr rfl
  | cons c l ih =>
    unfold pieces lines
    by_cases hc : c = 10
    · rw [if_pos hc, if_pos hc]
      rcases ih with ⟨x, xs, h1, h2, h3⟩ | h
      · exact .inl ⟨x, [10] :: xs, by rw [h1]; rfl, h2, by rw [h3]; rfl⟩
      · exact .inr (by rw [h]; rfl)
    · rw [if_neg hc, if_neg hc]
      rcases ih with ⟨x, xs, h1, h2, h3⟩ | h
      · rw [h1, h3]
        cases xs with
        | nil => exact .inl ⟨c :: x, [], rfl, by simp, rfl⟩
        | cons y ys => exact .inl ⟨x, (c :: y) :: ys, rfl, h2, rfl⟩
      · rw [h]
        cases hl : lines l with
        | nil => exact .inl ⟨[c], [], rfl, by simp, rfl⟩
        | cons y ys => exact .inr rfl

def strip (c : Int) (l : List Int) : List Int := if l.getLast? = some c then l.dropLast else l
def txt (l : List Int) : List Int := strip 13 (strip 10 l)
theorem strip_le (c : Int) (l : List Int) : (strip c l).length ≤ l.length := by
  unfold strip
  split
  · simp
  · exact Nat.le_refl _
theorem txt_le (l : List Int) : (txt l).length ≤ l.length := Nat.le_trans (strip_le _ _) (strip_le _ _)
theorem strip_mem {c x : Int} {l : List Int} (h : x ∈ strip c l) : x ∈ l := by
  unfold strip at h
  split at h
  · exact (List.dropLast_sublist l).mem h
  · exact h
theorem txt_mem {x : Int} {l : List Int} (h : x ∈ txt l) : x ∈ l := strip_mem (strip_mem h)
def upto : List (List Int) → Nat
  | [] => 0
  | x :: xs => if txt x = [] then x.length else x.length + upto xs
theorem upto_le : ∀ ls : List (List Int), upto ls ≤ ls.flatten.length
  | [] => Nat.le_refl _
  | x :: xs => by
    have := upto_le xs
    unfold upto
    rw [List.flatten_cons, List.length_append]
    split <;> omega
def hend (l : List Int) : Nat := upto (lines l)
theorem hend_le (l : List Int) : hend l ≤ l.length := by
  have := upto_le (lines l)
  rwa [lines_flatten] at this
end Go.Proofs.YtfabaenfglionaaGreatDoor.Spec
