/- What the reference's functions of chapter 9 compute: next, Text, Split, End, Head, Body, Top. -/
import Derived.Test.YtlicjigofnbpjaaDoorHeadSpec
import Derived.Test.YtlicjigofnbpjaaDoorPx3
namespace Go.Proofs.YtlicjigofnbpjaaDoor.Pure
open Go.RowKit Go.Proofs.YtlicjigofnbpjaaDoor Go.Proofs.YtlicjigofnbpjaaDoor.P Go.Proofs.YtlicjigofnbpjaaDoor.Spec Go.Proofs.YtlicjigofnbpjaaDoorW.PrintWords Go.Proofs.YtlicjigofnbpjaaDoorW.PrintLast Go.Proofs.YtlicjigofnbpjaaDoorW.PrintMore

theorem w64 (x : Int) (h0 : -4611686018427387904 ≤ x) (h1 : x ≤ 4611686018427387904) : wrap64 x = x := by
  unfold wrap64
  omega
theorem rd_nat (l : List Int) (i : Nat) : rd l (i : Int) = l.getD i 0 := by unfold rd; rw [Int.toNat_natCast]
theorem drop_at {l : List Int} {i : Nat} (h : i < l.length) : l.drop i = l.getD i 0 :: l.drop (i + 1) := by
  rw [List.drop_eq_getElem_cons h, List.getD_eq_getElem?_getD, List.getElem?_eq_getElem h]
  rfl

theorem next_eq (l : List Int) (hl : l.length ≤ 1000000) : ∀ (k i : Nat), i ≤ l.length → l.length - i < k → letterboxref9_next.l0 k l i = some ((i + fl (l.drop i) : Nat) : Int)
  | 0, _, _, h => absurd h (by omega)
  | k + 1, i, hi, hk => by
    unfold letterboxref9_next.l0
    by_cases hlt : i < l.length
    · rw [if_pos (by omega), if_pos (by omega), rd_nat, drop_at hlt]
      by_cases hc : l.getD i 0 = 10
      · rw [if_pos hc, fl_ten hc, w64 _ (by omega) (by omega)]
        unfold mn
        rw [if_neg (by omega)]
        rfl
      · rw [if_neg hc, fl_other hc, w64 _ (by omega) (by omega), show ((i : Int) + 1) = ((i + 1 : Nat) : Int) from rfl, next_eq l hl k (i + 1) (by omega) (by omega)]
        congr 2
        omega
    · obtain rfl : i = l.length := by omega
      rw [if_neg (by omega), List.drop_length, w64 _ (by omega) (by omega)]
      unfold mn
      rw [if_pos (by omega)]
      rfl

theorem strip_last {l : List Int} (h : l ≠ []) (c : Int) : strip c l = if l.getD (l.length - 1) 0 = c then l.take (l.length - 1) else l := by
  have hp : l.length - 1 < l.length := by have := List.length_pos_iff.2 h; omega
  unfold strip
  rw [List.getLast?_eq_getElem?, List.getElem?_eq_getElem hp, List.getD_eq_getElem?_getD, List.getElem?_eq_getElem hp, ← List.dropLast_eq_take]
  simp only [Option.some.injEq, Option.getD_some]
theorem strip_nil (c : Int) : strip c [] = [] := rfl
theorem Text_j0 (k : Nat) (l : List Int) (hl : l.length ≤ 1000000) (b : Bool) (hb : b = true ↔ (l ≠ [] ∧ l.getD (l.length - 1) 0 = 10)) : letterboxref9_Text.j0 (k + 1) l b = some (txt l) := by
  have tail : ∀ y : List Int, y.length ≤ 1000000 → (if (y.length : Int) > 0 then (if 0 ≤ (wrap64 ((y.length : Int) - 1)) then (if (wrap64 ((y.length : Int) - 1)) < (y.length : Int) then (if (rd y (wrap64 ((y.length : Int) - 1))) = 13 then (if (wrap64 ((y.length : Int) - 1)) ≤ (y.length : Int) then (some (y.take ((wrap64 ((y.length : Int) - 1)) : Int).toNat)) else (none)) else (some y)) else (none)) else (none)) else (some y)) = some (strip 13 y) := by
    intro y hy
    by_cases h0 : y = []
    · subst h0
      rfl
    · have hp := List.length_pos_iff.2 h0
      rw [if_pos (by omega), w64 _ (by omega) (by omega), show ((y.length : Int) - 1) = ((y.length - 1 : Nat) : Int) by omega, if_pos (by omega), if_pos (by omega), rd_nat, strip_last h0]
      split
      · rw [if_pos (by omega), Int.toNat_natCast]
      · rfl
  rw [letterboxref9_Text.j0]
  by_cases h : b = true
  · obtain ⟨h0, h10⟩ := hb.1 h
    have hp := List.length_pos_iff.2 h0
    rw [if_pos h, w64 ((l.length : Int) - 1) (by omega) (by omega), if_pos (by omega), if_pos (by omega), Option.bind_some, tail _ (by rw [List.length_take]; omega)]
    unfold txt
    rw [strip_last h0 10, if_pos h10, show ((l.length : Int) - 1).toNat = l.length - 1 by omega]
  · rw [if_neg h, tail l hl]
    unfold txt
    by_cases h0 : l = []
    · subst h0; rfl
    · rw [strip_last h0 10, if_neg (fun h10 => h (hb.2 ⟨h0, h10⟩))]
theorem Text_eq (k : Nat) (l : List Int) (hl : l.length ≤ 1000000) (hk : 0 < k) : letterboxref9_Text.f k l = some (txt l) := by
  obtain ⟨k, rfl⟩ : ∃ j, k = j + 1 := ⟨k - 1, by omega⟩
  unfold letterboxref9_Text.f
  by_cases h0 : l = []
  · rw [if_neg (by simp [h0])]
    exact Text_j0 k l hl _ (by simp [h0])
  · have hp := List.length_pos_iff.2 h0
    rw [if_pos (by omega), w64 _ (by omega) (by omega), show ((l.length : Int) - 1) = ((l.length - 1 : Nat) : Int) by omega, if_pos (by omega), if_pos (by omega), rd_nat]
    exact Text_j0 k l hl _ (by simp [h0])
theorem piece_at (l : List Int) (i : Nat) : (l.take (i + fl (l.drop i))).drop i = (l.drop i).take (fl (l.drop i)) := by
  rw [List.drop_take]
  congr 1
  omega
theorem RefSplit_l0 (l : List Int) (hl : l.length ≤ 1000000) : ∀ (k i : Nat) (acc : List (List Int)), i ≤ l.length → l.length - i + 1 < k → acc.length + (l.length - i) ≤ 1000000 → letterboxref9_Split.l0 k l acc i = some (acc ++ (lines (l.drop i)).map txt)
  | 0, _, _, _, h, _ => absurd h (by omega)
  | k + 1, i, acc, hi, hk, ha => by
    unfold letterboxref9_Split.l0
    by_cases hlt : i < l.length
    · have hne : l.drop i ≠ [] := by rw [drop_at hlt]; simp
      have hp := fl_pos hne
      have hle := fl_le (l.drop i)
      rw [List.length_drop] at hle
      rw [if_pos (by omega)]
      unfold letterboxref9_next.f
      rw [next_eq l hl k i hi (by omega), Option.bind_some, if_pos (by omega), if_pos (by omega), if_pos (by omega), Int.toNat_natCast, Int.toNat_natCast, piece_at, Text_eq _ _ (by rw [List.length_take, List.length_drop]; omega) (by omega), Option.bind_some, if_pos (by omega), RefSplit_l0 l hl k _ _ (by omega) (by omega) (by simp; omega), lines_ne hne, List.map_cons, List.drop_drop, List.append_assoc]
      rfl
    · obtain rfl : i = l.length := by omega
      rw [if_neg (by omega), List.drop_length, lines_nil, List.map_nil, List.append_nil]
theorem RefSplit_eq (k : Nat) (l : List Int) (hl : l.length ≤ 1000000) (hk : l.length + 1 < k) : letterboxref9_Split.f k l = some ((lines l).map txt) := by
  unfold letterboxref9_Split.f
  exact RefSplit_l0 l hl k 0 [] (by omega) (by omega) (by simp; omega)
theorem RefEnd_l0 (l : List Int) (hl : l.length ≤ 1000000) : ∀ (k i : Nat), i ≤ l.length → l.length - i + 1 < k → letterboxref9_End.l0 k l i = some ((i + upto (lines (l.drop i)) : Nat) : Int)
  | 0, _, _, h => absurd h (by omega)
  | k + 1, i, hi, hk => by
    unfold letterboxref9_End.l0
    by_cases hlt : i < l.length
    · have hne : l.drop i ≠ [] := by rw [drop_at hlt]; simp
      have hp := fl_pos hne
      have hle := fl_le (l.drop i)
      rw [List.length_drop] at hle
      rw [if_pos (by omega)]
      unfold letterboxref9_next.f
      rw [next_eq l hl k i hi (by omega), Option.bind_some, if_pos (by omega), if_pos (by omega), if_pos (by omega), Int.toNat_natCast, Int.toNat_natCast, piece_at, Text_eq _ _ (by rw [List.length_take, List.length_drop]; omega) (by omega), Option.bind_some, lines_ne hne]
      unfold upto
      by_cases ht : txt ((l.drop i).take (fl (l.drop i))) = []
      · rw [if_pos (by rw [ht]; rfl), if_pos ht, List.length_take, List.length_drop]
        congr 2
        omega
      · rw [if_neg (by intro h; exact ht (List.eq_nil_of_length_eq_zero (by omega))), if_neg ht, RefEnd_l0 l hl k _ (by omega) (by omega), List.length_take, List.length_drop, List.drop_drop]
        congr 2
        omega
    · obtain rfl : i = l.length := by omega
      rw [if_neg (by omega), List.drop_length, lines_nil]
      rfl
theorem RefEnd_eq (k : Nat) (l : List Int) (hl : l.length ≤ 1000000) (hk : l.length + 1 < k) : letterboxref9_End.f k l = some (hend l : Int) := by
  unfold letterboxref9_End.f
  rw [show (0 : Int) = ((0 : Nat) : Int) from rfl, RefEnd_l0 l hl k 0 (by omega) (by omega), Nat.zero_add]
  rfl
theorem RefHead_eq (k : Nat) (l : List Int) (hl : l.length ≤ 1000000) (hk : l.length + 1 < k) : letterboxref9_Head.f k l = some (l.take (hend l)) := by
  have := hend_le l
  unfold letterboxref9_Head.f
  rw [RefEnd_eq k l hl hk, Option.bind_some, if_pos (by omega), if_pos (by omega), Int.toNat_natCast]
end Go.Proofs.YtlicjigofnbpjaaDoor.Pure
