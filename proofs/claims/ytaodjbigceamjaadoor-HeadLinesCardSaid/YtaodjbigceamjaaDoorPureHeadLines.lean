/- HeadLines over numbers, texts and lists alone. -/
import Derived.Test.YtaodjbigceamjaaDoorHeadImpl7
import Derived.Test.YtaodjbigceamjaaDoorPx128
import Derived.Test.YtaodjbigceamjaaDoorPx109
namespace Go.Proofs.YtaodjbigceamjaaDoor.Pure
open Go.RowKit Go.Proofs.YtaodjbigceamjaaDoor Go.Proofs.YtaodjbigceamjaaDoor.P Go.Proofs.YtaodjbigceamjaaDoor.Spec Go.Proofs.YtaodjbigceamjaaDoorW.PrintWords Go.Proofs.YtaodjbigceamjaaDoorW.PrintLast Go.Proofs.YtaodjbigceamjaaDoorW.PrintMore

theorem RStuff_l0 (T : List (List Int)) (hn : T.length ≤ 100000) : ∀ (k i : Nat) (acc : List Int), i ≤ T.length → T.length - i < k → acc.length + (T.drop i).flatten.length + 3 * (T.length - i) ≤ 1000000 → letterboxref9_Stuff.l0 k acc T i = some (acc ++ body (T.drop i) ++ [46, 13, 10])
  | 0, _, _, _, h, _ => absurd h (by omega)
  | k + 1, i, acc, hi, hk, ha => by
    have two : ([13, 10] : List Int).length = 2 := rfl
    have three : ([46, 13, 10] : List Int).length = 3 := rfl
    unfold letterboxref9_Stuff.l0
    by_cases hlt : i < T.length
    · have hf := flat_at hlt
      rw [if_pos (by omega), if_pos (by omega), rd_L1_nat, drop_atL hlt, body_cons, w64 ((i : Int) + 1) (by omega) (by omega), show ((i : Int) + 1) = ((i + 1 : Nat) : Int) from rfl]
      generalize T.getD i [] = t at hf
      have next := fun acc' => RStuff_l0 T hn k (i + 1) acc' (by omega) (by omega)
      have l2 : (acc ++ t).length = acc.length + t.length := List.length_append
      have plain : dot t = t → (if acc.length + t.length < 140737488355328 then ((some (acc ++ t : List Int)).bind fun y432 => ((some (([13, 10] : List Int) : List Int)).bind fun y435 => (if y432.length + y435.length < 140737488355328 then (letterboxref9_Stuff.l0 k (y432 ++ y435) T ((i + 1 : Nat) : Int)) else (none)))) else (none)) = some (acc ++ (dot t ++ [13, 10] ++ body (T.drop (i + 1))) ++ [46, 13, 10]) := by
        intro hd
        rw [if_pos (by omega), Option.bind_some, Option.bind_some, if_pos (by rw [two, l2]; omega), next _ (by rw [List.length_append, l2, two]; omega), hd]
        simp
      by_cases h0 : t = []
      · have hd : dot t = t := by rw [h0]; rfl
        rw [if_neg (by simp [h0])]
        exact plain hd
      · have hp := List.length_pos_iff.2 h0
        have e0 : rd t 0 = t.getD 0 0 := rd_nat t 0
        rw [if_pos (by omega), if_pos (by omega), e0]
        by_cases h46 : t.getD 0 0 = 46
        · have hd : dot t = 46 :: t := by unfold dot; rw [if_pos (by rw [head_getD h0, h46])]
          have l1 : (acc ++ [(46 : Int)]).length = acc.length + 1 := by simp
          have l3 : (acc ++ [(46 : Int)] ++ t).length = acc.length + 1 + t.length := by rw [List.length_append, l1]
          rw [if_pos h46, if_pos (by omega), Option.bind_some, if_pos (by omega), Option.bind_some, Option.bind_some, if_pos (by rw [two, l3]; omega), next _ (by rw [List.length_append, l3, two]; omega), hd]
          simp
        · have hd : dot t = t := by
            unfold dot
            rw [if_neg]
            rw [head_getD h0]
            intro h
            injection h with h
            exact h46 h
          rw [if_neg h46]
          exact plain hd
    · obtain rfl : i = T.length := by omega
      rw [if_neg (by omega), Option.bind_some, if_pos (by rw [three]; omega), List.drop_length]
      simp [body]
theorem RStuff_eq (k : Nat) (l : List Int) (hl : l.length ≤ 50000) (hk : l.length + 1 < k) : letterboxref9_Stuff.f k l = some (sent ((lines l).map txt)) := by
  have h1 := lines_length_le l
  have hTl : ((lines l).map txt).flatten.length ≤ l.length := by
    have := map_txt_flat (lines l)
    rwa [lines_flatten] at this
  unfold letterboxref9_Stuff.f
  rw [RefSplit_eq k l (by omega) hk, Option.bind_some, show (0 : Int) = ((0 : Nat) : Int) from rfl, RStuff_l0 _ (by rw [List.length_map]; omega) k 0 [] (by omega) (by rw [List.length_map]; omega) (by rw [List.drop_zero, List.length_map]; simp only [List.length_nil]; omega), List.drop_zero]
  rfl
/-- Lines with right ends. -/
def ends (ts : List (List Int)) : List Int := (ts.map fun t => t ++ [13, 10]).flatten
theorem ends_cons (t : List Int) (ts : List (List Int)) : ends (t :: ts) = t ++ [13, 10] ++ ends ts := rfl
theorem ends_length : ∀ ts : List (List Int), (ends ts).length = ts.flatten.length + 2 * ts.length
  | [] => rfl
  | t :: ts => by
    rw [ends_cons, List.flatten_cons, List.length_append, List.length_append, List.length_append, ends_length ts, List.length_cons]
    simp only [List.length_cons, List.length_nil]
    omega
theorem getD_memI {t : List Int} {j : Nat} (h : j < t.length) : t.getD j 0 ∈ t := by
  rw [List.getD_eq_getElem?_getD, List.getElem?_eq_getElem h]
  exact List.getElem_mem h
theorem HeadLines_l1 (l : List Int) (T : List (List Int)) (acc : List Int) (i : Nat) (hi : i < T.length) (hno : ¬ (10 : Int) ∈ T.getD i []) (hn : T.length ≤ 100000) (hlen : (T.getD i []).length ≤ 100000) (ha : acc.length ≤ 1000000) (kk : Nat) (h : letterboxlaw9_HeadLines.l0 kk l T (acc ++ T.getD i [] ++ [13, 10]) ((i + 1 : Nat) : Int) = some true) :
    ∀ (m j : Nat), j + m = (T.getD i []).length → letterboxlaw9_HeadLines.l1 (kk + m + 1) l T acc i j = some true
  | 0, j, hj => by
    have two : ([13, 10] : List Int).length = 2 := rfl
    have l2 : (acc ++ T.getD i []).length = acc.length + (T.getD i []).length := List.length_append
    unfold letterboxlaw9_HeadLines.l1
    rw [if_pos (by omega), if_pos (by omega), rd_L1_nat, if_neg (by omega), if_pos (by omega), Option.bind_some, Option.bind_some, if_pos (by rw [two, l2]; omega), w64 ((i : Int) + 1) (by omega) (by omega)]
    exact h
  | m + 1, j, hj => by
    have hjl : j < (T.getD i []).length := by omega
    have hne : (T.getD i []).getD j 0 ≠ 10 := by
      intro h10
      apply hno
      rw [← h10]
      exact getD_memI hjl
    unfold letterboxlaw9_HeadLines.l1
    rw [if_pos (by omega), if_pos (by omega), rd_L1_nat, if_pos (by omega), if_pos (by omega), rd_nat, if_neg hne, w64 ((j : Int) + 1) (by omega) (by omega)]
    exact HeadLines_l1 l T acc i hi hno hn hlen ha kk h m (j + 1) (by omega)
theorem HeadLines_l0 (l : List Int) (hb : Byt l) (hl : l.length ≤ 1500) (T : List (List Int)) (hT : T = (lines l).map txt) (hno : ∀ t ∈ T, ¬ (10 : Int) ∈ t) (hTb : ∀ t ∈ T, Byt t) (hTl : T.flatten.length ≤ l.length) (hTn : T.length ≤ l.length) : ∀ (m i : Nat) (acc : List Int), i + m = T.length → acc ++ ends (T.drop i) = ends T → ∃ k, letterboxlaw9_HeadLines.l0 k l T acc i = some true
  | 0, i, acc, hi, hacc => by
    obtain rfl : i = T.length := by omega
    rw [List.drop_length] at hacc
    have hc : acc = ends T := by simpa [ends] using hacc
    have hel := ends_length T
    have hlines : lines (ends T) = T.map fun t => t ++ [13, 10] := by
      have := lines_ends T [] hno
      rw [List.append_nil, lines_nil, List.append_nil] at this
      exact this
    have hcb : Byt (ends T) := by
      intro x hx
      obtain ⟨u, hu, hxu⟩ := List.mem_flatten.1 hx
      obtain ⟨t, ht, rfl⟩ := List.mem_map.1 hu
      rcases List.mem_append.1 hxu with h | h
      · exact hTb t ht x h
      · simp at h
        omega
    have htx : (lines (ends T)).map txt = T := by rw [hlines, texts_crlf]
    obtain ⟨K, hK⟩ : ∃ K, K = 20000 := ⟨_, rfl⟩
    refine ⟨K + 1, ?_⟩
    unfold letterboxlaw9_HeadLines.l0
    rw [if_neg (by omega), hc, UStuff_eq _ _ hcb (by omega) (by omega), Option.bind_some, RStuff_eq _ l (by omega) (by omega), Option.bind_some, htx, ← hT, if_pos rfl, USplit_eq _ _ hcb (by omega) (by omega), Option.bind_some, htx, if_pos rfl, known_at _ (by omega)]
    rfl
  | m + 1, i, acc, hi, hacc => by
    have hlt : i < T.length := by omega
    have hm := getD_mem hlt
    have hle := mem_flat_le hm
    have hel := ends_length T
    have hd := drop_atL hlt
    rw [hd, ends_cons] at hacc
    have hal := congrArg List.length hacc
    rw [List.length_append] at hal
    obtain ⟨k, hk⟩ := HeadLines_l0 l hb hl T hT hno hTb hTl hTn m (i + 1) (acc ++ T.getD i [] ++ [13, 10]) (by omega) (by rw [← hacc]; simp)
    refine ⟨k + (T.getD i []).length + 1 + 1, ?_⟩
    unfold letterboxlaw9_HeadLines.l0
    rw [if_pos (by omega)]
    exact HeadLines_l1 l T acc i hlt (hno _ hm) (by omega) (by omega) (by omega) k hk (T.getD i []).length 0 (by omega)
theorem HeadLines (l : List Int) (hw : ∀ x ∈ l, (Lit.int .u8 x).wf = true) : ∃ k, letterboxlaw9_HeadLines.f k l = some true := by
  have hb := Byt.of hw
  by_cases h1 : (l.length : Int) > 1500
  · exact ⟨0, by unfold letterboxlaw9_HeadLines.f; rw [if_pos h1]⟩
  · have hll := lines_length_le l
    have hTl : ((lines l).map txt).flatten.length ≤ l.length := by
      have := map_txt_flat (lines l)
      rwa [lines_flatten] at this
    obtain ⟨k, hk⟩ := HeadLines_l0 l hb (by omega) ((lines l).map txt) rfl (fun t ht => by
        obtain ⟨x, hx, rfl⟩ := List.mem_map.1 ht
        exact line_out hx) (fun t ht => by
        obtain ⟨x, hx, rfl⟩ := List.mem_map.1 ht
        exact (hb.line hx).txt) hTl (by rw [List.length_map]; omega) ((lines l).map txt).length 0 [] (by omega) (by rw [List.drop_zero]; rfl)
    have up : ∀ j, letterboxlaw9_HeadLines.l0 (k + j) l ((lines l).map txt) [] (0 : Nat) = some true := by
      intro j
      induction j with
      | zero => exact hk
      | succ j ih => exact letterboxlaw9_HeadLines.mono_l (k + j) |>.1 _ _ _ _ _ ih
    refine ⟨k + (l.length + 10), ?_⟩
    unfold letterboxlaw9_HeadLines.f
    rw [if_neg h1, USplit_eq _ l hb (by omega) (by omega), Option.bind_some]
    exact up _
end Go.Proofs.YtaodjbigceamjaaDoor.Pure
