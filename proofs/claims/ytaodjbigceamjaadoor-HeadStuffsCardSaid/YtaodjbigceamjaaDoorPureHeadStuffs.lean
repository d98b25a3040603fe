/- HeadStuffs over numbers, texts and lists alone. -/
import Derived.Test.YtaodjbigceamjaaDoorHeadImpl7
import Derived.Test.YtaodjbigceamjaaDoorPx106
namespace Go.Proofs.YtaodjbigceamjaaDoor.Pure
open Go.RowKit Go.Proofs.YtaodjbigceamjaaDoor Go.Proofs.YtaodjbigceamjaaDoor.P Go.Proofs.YtaodjbigceamjaaDoor.Spec Go.Proofs.YtaodjbigceamjaaDoorW.PrintWords Go.Proofs.YtaodjbigceamjaaDoorW.PrintLast Go.Proofs.YtaodjbigceamjaaDoorW.PrintMore

theorem HeadStuffs_l0 (s : List Int) (T : List (List Int)) (hb : ∀ t ∈ T, Byt t) (hTl : ∀ t ∈ T, t.length ≤ 1000000) (hn : T.length ≤ 100000) (hs : s = body T ++ [46, 13, 10]) (hsl : s.length ≤ 1000000) : ∀ (m i k : Nat), i + m = T.length → 10000 ≤ k → letterboxlaw9_HeadStuffs.l0 (k + 2 * m + 1) s (T.map dot ++ [[46]]) T i = some true
  | 0, i, k, hi, hk => by
    have h3 : s.length = (body T).length + 3 := by rw [hs, List.length_append]; rfl
    unfold letterboxlaw9_HeadStuffs.l0
    have hdrop : s.drop ((s.length : Int) - 3).toNat = [46, 13, 10] := by
      rw [show ((s.length : Int) - 3).toNat = (body T).length by omega, hs, List.drop_left']
      rfl
    rw [if_neg (by omega), if_pos (by omega), w64 _ (by omega) (by omega), if_pos (by omega), if_pos (by omega), hdrop, if_pos (by rw [str_toList]; rfl), known_at _ (by omega)]
    rfl
  | m + 1, i, k, hi, hk => by
    have hlt : i < T.length := by omega
    have hm := getD_mem hlt
    have hlen := hTl _ hm
    have hat : (T.map dot ++ [[46]]).getD i [] = dot (T.getD i []) := by
      rw [List.getD_eq_getElem?_getD, List.getElem?_append_left (by simpa using hlt), List.getElem?_map, List.getElem?_eq_getElem hlt, List.getD_eq_getElem?_getD, List.getElem?_eq_getElem hlt]
      rfl
    have hl2 : ((T.map dot ++ [[46]]).length : Int) = T.length + 1 := by simp
    have hss : ∀ t : List Int, (strOfNums t).size = t.length := fun t => by simp [strOfNums, ByteArray.size]
    have hrec := HeadStuffs_l0 s T hb hTl hn hs hsl m (i + 1) k (by omega) hk
    rw [show k + 2 * (m + 1) + 1 = (k + 2 * m + 1) + 1 + 1 by omega]
    unfold letterboxlaw9_HeadStuffs.l0
    rw [if_pos (by omega), if_pos (by omega), rd_L1_nat]
    by_cases h0 : T.getD i [] = []
    · rw [h0, if_neg (by rw [hss]; decide)]
      unfold letterboxlaw9_HeadStuffs.j2
      rw [if_neg (by decide), if_pos (by omega), if_pos (by omega), rd_L1_nat, hat, h0, show dot ([] : List Int) = [] from rfl, if_pos rfl, if_neg (by rw [str_toList]; decide), w64 _ (by omega) (by omega)]
      exact hrec
    · have hp := List.length_pos_iff.2 h0
      have hB := hb _ hm
      rw [if_pos (by rw [hss]; omega), if_pos (by rw [hss]; omega), bt_str hB h0]
      unfold letterboxlaw9_HeadStuffs.j2
      by_cases h46 : (T.getD i []).getD 0 0 = 46
      · have hh : (T.getD i []).head? = some 46 := by rw [head_getD h0, h46]
        rw [if_pos (by rw [h46]; rfl), if_pos (by rw [hss]; omega), if_pos (by omega), if_pos (by omega), rd_L1_nat, hat, if_pos (dot_str hh), if_neg, w64 _ (by omega) (by omega)]
        · exact hrec
        · intro h
          have := congrArg List.length h
          rw [← dot_str hh, str_toList, List.length_map] at this
          have hd : dot (T.getD i []) = 46 :: T.getD i [] := by unfold dot; rw [if_pos hh]
          rw [hd, List.length_cons, List.length_singleton] at this
          omega
      · have hd : dot (T.getD i []) = T.getD i [] := by
          unfold dot
          rw [if_neg]
          rw [head_getD h0]
          intro h
          injection h with h
          exact h46 h
        rw [if_neg (by simpa using h46), if_pos (by omega), if_pos (by omega), rd_L1_nat, hat, hd, if_pos rfl, if_neg, w64 _ (by omega) (by omega)]
        · exact hrec
        · intro h
          have h0b : (strOfNums (T.getD i [])).data.toList = first (T.getD i []) :: _ := str_list h0
          rw [Lib.toList_data, h0b] at h
          injection h with h _
          have h5 := bt_str hB h0
          have h6 := bt_nat (strOfNums (T.getD i [])) 0 (first (T.getD i [])) (by rw [h0b]; rfl)
          rw [h] at h6
          exact h46 (h5.symm.trans h6)
theorem HeadStuffs (l : List Int) (hw : ∀ x ∈ l, (Lit.int .u8 x).wf = true) : ∃ k, letterboxlaw9_HeadStuffs.f k l = some true := by
  have hb := Byt.of hw
  refine ⟨10000 + 2 * l.length + 2 * (lines l).length + 2, ?_⟩
  unfold letterboxlaw9_HeadStuffs.f
  by_cases h1 : (l.length : Int) > 1500
  · rw [if_pos h1]
  · have hll := lines_length_le l
    have hT : ∀ t ∈ (lines l).map txt, ¬ (10 : Int) ∈ t := fun t ht => by
      obtain ⟨x, hx, rfl⟩ := List.mem_map.1 ht
      exact line_out hx
    have hTb : ∀ t ∈ (lines l).map txt, Byt t := fun t ht => by
      obtain ⟨x, hx, rfl⟩ := List.mem_map.1 ht
      exact (hb.line hx).txt
    have hTl : ((lines l).map txt).flatten.length ≤ l.length := by
      have := map_txt_flat (lines l)
      rwa [lines_flatten] at this
    have hsl := sent_length ((lines l).map txt)
    rw [List.length_map] at hsl
    rw [if_neg h1, UStuff_eq _ l hb (by omega) (by omega), Option.bind_some, RefSplit_eq _ _ (by omega) (by omega), Option.bind_some, RefSplit_eq _ l (by omega) (by omega), Option.bind_some, lines_sent _ hT]
    have hlen : (((lines l).map txt).map dot ++ [[(46 : Int)]]).length = (lines l).length + 1 := by simp
    rw [hlen, List.length_map, w64 ((lines l).length + 1) (by omega) (by omega), if_pos (by omega), w64 _ (by omega) (by omega), if_pos (by omega), if_pos (by omega), show (((lines l).length + 1 : Nat) : Int) - 1 = ((lines l).length : Int) by omega, rd_L1_nat]
    have hlast : (((lines l).map txt).map dot ++ [[(46 : Int)]]).getD (lines l).length [] = [46] := by
      rw [List.getD_eq_getElem?_getD, List.getElem?_append_right (by simp)]
      simp
    rw [hlast, letterboxlaw9_HeadStuffs.j0, if_neg (by rw [str_toList]; decide)]
    have := HeadStuffs_l0 (sent ((lines l).map txt)) ((lines l).map txt) hTb (fun t ht => by have := mem_flat_le ht; omega) (by rw [List.length_map]; omega) rfl (by omega) (lines l).length 0 (10000 + 2 * l.length) (by simp) (by omega)
    rw [show (0 : Int) = ((0 : Nat) : Int) from rfl]
    exact this
end Go.Proofs.YtaodjbigceamjaaDoor.Pure
