/- HeadTells over numbers, texts and lists alone. -/
import Derived.Test.YtlicjigofnbpjaaDoorHeadImpl8
import Derived.Test.YtlicjigofnbpjaaDoorPx121
import Derived.Test.YtlicjigofnbpjaaDoorPx8
import Derived.Test.YtlicjigofnbpjaaDoorPx8
import Derived.Test.YtlicjigofnbpjaaDoorPx109
namespace Go.Proofs.YtlicjigofnbpjaaDoor.Pure
open Go.RowKit Go.Proofs.YtlicjigofnbpjaaDoor Go.Proofs.YtlicjigofnbpjaaDoor.P Go.Proofs.YtlicjigofnbpjaaDoor.Spec Go.Proofs.YtlicjigofnbpjaaDoorW.PrintWords Go.Proofs.YtlicjigofnbpjaaDoorW.PrintLast Go.Proofs.YtlicjigofnbpjaaDoorW.PrintMore

theorem RStuff_l0 (T : List (List Int)) (hn : T.length ≤ 100000) : ∀ (k i : Nat) (acc : List Int), i ≤ T.length → T.length - i < k → acc.length + (T.drop i).flatten.length + 3 * (T.length - i) ≤ 1000000 → letterboxref9_Stuff.l0 k acc T i = some (acc ++ body (T.drop i) ++ [46, 13, 10])
  | 0, _, _, _, h, _ => absurd h (by omega)
  | k + 1, i, acc, hi, hk, ha => by
    have two : ([13, 10] : List Int).length = 2 := rfl
    have three : ([46, 13, 10] : List Int).length = 3 := rfl
    unfold letterboxref9_Stuff.l0
    by_cases hlt : i < T.length
    · have hf := flat_at hlt
      rw [if_pos (by omega), if_pos (by omega), rd_L1_nat, drop_atL hlt, body_cons, w64 ((i : Int) + 1) (by omega) (by omega), show ((i : Int) + 1) = ((i + 1 : Nat) : Int) from rfl]
      generalize T.getD i [] = t at hf
      have next := fun acc' => RStuff_l0 T hn k (i + 1) acc' (by omega) (by omega)
      have l2 : (acc ++ t).length = acc.length + t.length := List.length_append
      have plain : dot t = t → (if acc.length + t.length < 140737488355328 then ((some (acc ++ t : List Int)).bind fun y432 => ((some (([13, 10] : List Int) : List Int)).bind fun y435 => (if y432.length + y435.length < 140737488355328 then (letterboxref9_Stuff.l0 k (y432 ++ y435) T ((i + 1 : Nat) : Int)) else (none)))) else (none)) = some (acc ++ (dot t ++ [13, 10] ++ body (T.drop (i + 1))) ++ [46, 13, 10]) := by
        intro hd
        rw [if_pos (by omega), Option.bind_some, Option.bind_some, if_pos (by rw [two, l2]; omega), next _ (by rw [List.length_append, l2, two]; omega), hd]
        simp
      by_cases h0 : t = []
      · have hd : dot t = t := by rw [h0]; rfl
        rw [if_neg (by simp [h0])]
        exact plain hd
      · have hp := List.length_pos_iff.2 h0
        have e0 : rd t 0 = t.getD 0 0 := rd_nat t 0
        rw [if_pos (by omega), if_pos (by omega), e0]
        by_cases h46 : t.getD 0 0 = 46
        · have hd : dot t = 46 :: t := by unfold dot; rw [if_pos (by rw [head_getD h0, h46])]
          have l1 : (acc ++ [(46 : Int)]).length = acc.length + 1 := by simp
          have l3 : (acc ++ [(46 : Int)] ++ t).length = acc.length + 1 + t.length := by rw [List.length_append, l1]
          rw [if_pos h46, if_pos (by omega), Option.bind_some, if_pos (by omega), Option.bind_some, Option.bind_some, if_pos (by rw [two, l3]; omega), next _ (by rw [List.length_append, l3, two]; omega), hd]
          simp
        · have hd : dot t = t := by
            unfold dot
            rw [if_neg]
            rw [head_getD h0]
            intro h
            injection h with h
            exact h46 h
          rw [if_neg h46]
          exact plain hd
    · obtain rfl : i = T.length := by omega
      rw [if_neg (by omega), Option.bind_some, if_pos (by rw [three]; omega), List.drop_length]
      simp [body]
theorem RStuff_eq (k : Nat) (l : List Int) (hl : l.length ≤ 50000) (hk : l.length + 1 < k) : letterboxref9_Stuff.f k l = some (sent ((lines l).map txt)) := by
  have h1 := lines_length_le l
  have hTl : ((lines l).map txt).flatten.length ≤ l.length := by
    have := map_txt_flat (lines l)
    rwa [lines_flatten] at this
  unfold letterboxref9_Stuff.f
  rw [RefSplit_eq k l (by omega) hk, Option.bind_some, show (0 : Int) = ((0 : Nat) : Int) from rfl, RStuff_l0 _ (by rw [List.length_map]; omega) k 0 [] (by omega) (by rw [List.length_map]; omega) (by rw [List.drop_zero, List.length_map]; simp only [List.length_nil]; omega), List.drop_zero]
  rfl
theorem UTop_any (k : Nat) (l : List Int) (n : Int) (hb : Byt l) (hl : l.length ≤ 50000) (hk : l.length + 1 < k) : head_Top.f k l n = some (utop l n) := by
  have h1 := hend_le l
  have h2 := lines_length_le (l.drop (hend l))
  rw [List.length_drop] at h2
  have h3 := tlines_le l n
  have h4 : (tlines l n).length ≤ (lines (l.drop (hend l))).length := by unfold tlines; rw [List.length_take]; omega
  have h5 : 0 ≤ mn (mx n 0) ((lines (l.drop (hend l))).length : Int) ∧ mn (mx n 0) ((lines (l.drop (hend l))).length : Int) ≤ ((lines (l.drop (hend l))).length : Int) := by
    unfold mn mx
    constructor <;> (repeat' split) <;> omega
  unfold head_Top.f
  rw [end_eq k l hb (by omega) hk, Option.bind_some, if_pos (by omega), if_pos (by omega), Int.toNat_natCast, cut_eq k _ (hb.drop _) (by rw [List.length_drop]; omega) (by rw [List.length_drop]; omega), Option.bind_some, if_pos h5.1, if_pos h5.2, Option.bind_some]
  have := UTop_l0 l hl (tlines l n) (by omega) k 0 (hend l) (by omega) (by omega) (by rw [List.drop_zero]; exact h3)
  rw [List.drop_zero] at this
  exact this
theorem RBody_eq (k : Nat) (l : List Int) (hl : l.length ≤ 1000000) (hk : l.length + 1 < k) : letterboxref9_Body.f k l = some (l.drop (hend l)) := by
  have := hend_le l
  unfold letterboxref9_Body.f
  rw [RefEnd_eq k l hl hk, Option.bind_some, if_pos (by omega), if_pos (by omega), Int.toNat_natCast]
theorem RTop_l0 (l : List Int) (hl : l.length ≤ 1000000) (n : Int) : ∀ (k i at_ : Nat), at_ ≤ l.length → l.length - at_ + 1 < k → i + (l.length - at_) ≤ 2000000 → letterboxref9_Top.l0 k l n at_ i = some (l.take (at_ + ((lines (l.drop at_)).take (n - i).toNat).flatten.length))
  | 0, _, _, _, h, _ => absurd h (by omega)
  | k + 1, i, a, ha, hk, hi => by
    unfold letterboxref9_Top.l0
    by_cases hin : (i : Int) < n
    · by_cases hlt : a < l.length
      · have hne : l.drop a ≠ [] := by rw [drop_at hlt]; simp
        have hp := fl_pos hne
        have hle := fl_le (l.drop a)
        rw [List.length_drop] at hle
        rw [if_pos hin, if_pos (by omega)]
        unfold letterboxref9_next.f
        rw [next_eq l hl k a ha (by omega), Option.bind_some, w64 ((i : Int) + 1) (by omega) (by omega), show ((i : Int) + 1) = ((i + 1 : Nat) : Int) from rfl, RTop_l0 l hl n k (i + 1) _ (by omega) (by omega) (by omega), lines_ne hne, show (n - (i : Int)).toNat = (n - ((i + 1 : Nat) : Int)).toNat + 1 by omega, List.take_succ_cons, List.flatten_cons, List.length_append, List.length_take, List.length_drop, List.drop_drop]
        congr 2
        omega
      · obtain rfl : a = l.length := by omega
        rw [if_pos hin, if_neg (by omega), if_pos (by omega), if_pos (by omega), Int.toNat_natCast, List.drop_length, lines_nil]
        simp
    · rw [if_neg hin, if_pos (by omega), if_pos (by omega), Int.toNat_natCast, show (n - (i : Int)).toNat = 0 by omega]
      simp
theorem RTop_eq (k : Nat) (l : List Int) (n : Int) (hl : l.length ≤ 1000000) (hk : l.length + 1 < k) : letterboxref9_Top.f k l n = some (utop l n) := by
  have h1 := hend_le l
  unfold letterboxref9_Top.f
  rw [RefEnd_eq k l hl hk, Option.bind_some, show (0 : Int) = ((0 : Nat) : Int) from rfl, RTop_l0 l hl n k 0 (hend l) (by omega) (by omega) (by omega)]
  unfold utop tlines
  congr 4
  generalize lines (l.drop (hend l)) = T
  have hx : 0 ≤ n → mx n 0 = n := fun h => by unfold mx; (repeat' split) <;> omega
  have hy : n ≤ 0 → mx n 0 = 0 := fun h => by unfold mx; (repeat' split) <;> omega
  rcases Int.le_total 0 n with h | h
  · rw [hx h]
    by_cases hb : (T.length : Int) < n
    · have hm : mn n (T.length : Int) = T.length := by unfold mn; rw [if_pos hb]
      rw [hm, Int.toNat_natCast, List.take_of_length_le (by omega), List.take_of_length_le (Nat.le_refl _)]
    · have hm : mn n (T.length : Int) = n := by unfold mn; rw [if_neg hb]
      rw [hm, show n - ((0 : Nat) : Int) = n by omega]
  · have hm : mn 0 (T.length : Int) = 0 := by unfold mn; rw [if_neg (by omega)]
    rw [hy h, hm, show (n - ((0 : Nat) : Int)).toNat = 0 by omega]
    rfl
theorem HeadTells_l0 (l : List Int) (n : Int) (hb : Byt l) (hl : l.length ≤ 1500) (hn : -9223372036854775808 ≤ n ∧ n ≤ 9223372036854775807) (T : List (List Int)) (hT : T = (lines l).map txt) : ∀ (m i k : Nat), i + m = T.length → 10000 ≤ k → letterboxlaw9_HeadTells.l0 (k + m + 1) l n T T i = some true
  | 0, i, k, hi, hk => by
    have hll := lines_length_le l
    have hTl : T.length = (lines l).length := by rw [hT, List.length_map]
    rw [letterboxlaw9_HeadTells.l0, if_neg (by omega), UHead_eq _ l hb (by omega) (by omega), Option.bind_some, RefHead_eq _ l (by omega) (by omega), Option.bind_some, if_pos rfl, UBody_eq _ l hb (by omega) (by omega), Option.bind_some, RBody_eq _ l (by omega) (by omega), Option.bind_some, if_pos rfl, ULines_eq _ l hb (by omega) (by omega), Option.bind_some, if_pos (by omega), UTop_any _ l n hb (by omega) (by omega), Option.bind_some, RTop_eq _ l n (by omega) (by omega), Option.bind_some, if_pos rfl, UStuff_eq _ l hb (by omega) (by omega), Option.bind_some, RStuff_eq _ l (by omega) (by omega), Option.bind_some, if_pos rfl, known_at _ (by omega)]
    rfl
  | m + 1, i, k, hi, hk => by
    have hll := lines_length_le l
    have hTl : T.length = (lines l).length := by rw [hT, List.length_map]
    rw [letterboxlaw9_HeadTells.l0, if_pos (by omega), if_pos (by omega), if_pos (by omega), if_pos rfl, w64 _ (by omega) (by omega)]
    exact HeadTells_l0 l n hb hl hn T hT m (i + 1) k (by omega) hk
theorem HeadTells (l : List Int) (n : Int) (hw : ∀ x ∈ l, (Lit.int .u8 x).wf = true) (hn : (Lit.int .i64 n).wf = true) : ∃ k, letterboxlaw9_HeadTells.f k l n = some true := by
  have hb := Byt.of hw
  have hn2 : -9223372036854775808 ≤ n ∧ n ≤ 9223372036854775807 := by
    simp [Lit.wf, IntKind.min, IntKind.max, IntKind.signed, IntKind.bits] at hn
    omega
  refine ⟨10000 + ((lines l).map txt).length + 1, ?_⟩
  unfold letterboxlaw9_HeadTells.f
  by_cases h1 : (l.length : Int) > 1500
  · rw [if_pos h1]
  · rw [if_neg h1, USplit_eq _ l hb (by omega) (by omega), Option.bind_some, RefSplit_eq _ l (by omega) (by omega), Option.bind_some, if_pos rfl]
    exact HeadTells_l0 l n hb (by omega) hn2 _ rfl ((lines l).map txt).length 0 10000 (by omega) (by omega)
end Go.Proofs.YtlicjigofnbpjaaDoor.Pure
