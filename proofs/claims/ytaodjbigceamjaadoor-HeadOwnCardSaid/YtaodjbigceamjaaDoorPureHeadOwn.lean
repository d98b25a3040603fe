/- HeadOwn over numbers, texts and lists alone. -/
import Derived.Test.YtaodjbigceamjaaDoorHeadImpl8
import Derived.Test.YtaodjbigceamjaaDoorPx110
namespace Go.Proofs.YtaodjbigceamjaaDoor.Pure
open Go.RowKit Go.Proofs.YtaodjbigceamjaaDoor Go.Proofs.YtaodjbigceamjaaDoor.P Go.Proofs.YtaodjbigceamjaaDoor.Spec Go.Proofs.YtaodjbigceamjaaDoorW.PrintWords Go.Proofs.YtaodjbigceamjaaDoorW.PrintLast Go.Proofs.YtaodjbigceamjaaDoorW.PrintMore

theorem rd_L1_set (T : List (List Int)) (i j : Nat) (x : List Int) : (rd_L1 (T.set i x) (j : Int)) = if i = j ∧ i < T.length then x else rd_L1 T (j : Int) := by
  rw [rd_L1_nat, rd_L1_nat, List.getD_eq_getElem?_getD, List.getD_eq_getElem?_getD, List.getElem?_set]
  by_cases h : i = j
  · subst h
    by_cases hl : i < T.length
    · simp [hl]
    · simp [hl]
  · simp [h]
theorem own_l4 (l : List Int) (w : ByteArray) (h t : List Int) (i : Nat) (n : Nat) (hn : n ≤ 1000000) (rest : ∀ T : List (List Int), T.length = n → ∃ k, letterboxlaw9_HeadOwn.l3 k l w h t T ((i + 1 : Nat) : Int) = some true) : ∀ (m j : Nat) (T : List (List Int)), T.length = n → i < n → j + m = (rd_L1 T (i : Int)).length → (rd_L1 T (i : Int)).length ≤ 1000000 → ∃ k, letterboxlaw9_HeadOwn.l4 k l w h t T i j = some true
  | 0, j, T, hT, hi, hj, hb => by
    obtain ⟨k, hk⟩ := rest T hT
    refine ⟨k + 1, ?_⟩
    unfold letterboxlaw9_HeadOwn.l4
    rw [if_pos (by omega), if_pos (by omega), if_neg (by omega), w64 ((i : Int) + 1) (by omega) (by omega)]
    exact hk
  | m + 1, j, T, hT, hi, hj, hb => by
    have hrow : ∀ x : List Int, rd_L1 (T.set i x) (i : Int) = x := fun x => by rw [rd_L1_set, if_pos ⟨rfl, by omega⟩]
    have hlen : ((rd_L1 T (i : Int)).set j (Go.bits .xor .u8 (rd (rd_L1 T (i : Int)) (j : Int)) 1)).length = (rd_L1 T (i : Int)).length := List.length_set ..
    obtain ⟨k, hk⟩ := own_l4 l w h t i n hn rest m (j + 1) (T.set i ((rd_L1 T (i : Int)).set j (Go.bits .xor .u8 (rd (rd_L1 T (i : Int)) (j : Int)) 1))) (by rw [List.length_set]; exact hT) hi (by rw [hrow, hlen]; omega) (by rw [hrow, hlen]; omega)
    refine ⟨k + 1, ?_⟩
    unfold letterboxlaw9_HeadOwn.l4
    rw [if_pos (by omega), if_pos (by omega), if_pos (by omega), if_pos (by omega), w64 ((j : Int) + 1) (by omega) (by omega), Int.toNat_natCast, Int.toNat_natCast]
    exact hk
theorem own_l3 (l : List Int) (h t : List Int) (hl : l.length ≤ 1500) (hs : h.length + t.length = l.length) (n : Nat) (hn : n ≤ 1000000) (B : Nat) (hB : B ≤ 1000000) : ∀ (m i : Nat) (T : List (List Int)), T.length = n → i + m = n → (∀ j : Nat, i ≤ j → (rd_L1 T (j : Int)).length ≤ B) → ∃ k, letterboxlaw9_HeadOwn.l3 k l (strOfNums l) h t T i = some true
  | 0, i, T, hT, hi, _ => by
    refine ⟨1000 + 1, ?_⟩
    rw [letterboxlaw9_HeadOwn.l3, if_neg (by omega), if_pos rfl, w64 ((h.length : Int) + (t.length : Int)) (by omega) (by omega), if_pos (by omega), known_at _ (by omega)]
    rfl
  | m + 1, i, T, hT, hi, hb => by
    have step : ∃ k, letterboxlaw9_HeadOwn.l4 k l (strOfNums l) h t T i ((0 : Nat) : Int) = some true := by
      -- the rows behind this one stay as they were
      have key : ∀ (m2 j : Nat) (T2 : List (List Int)), T2.length = n → j + m2 = (rd_L1 T2 (i : Int)).length → (rd_L1 T2 (i : Int)).length ≤ B → (∀ q : Nat, i + 1 ≤ q → (rd_L1 T2 (q : Int)).length ≤ B) → ∃ k, letterboxlaw9_HeadOwn.l4 k l (strOfNums l) h t T2 i j = some true := by
        intro m2
        induction m2 with
        | zero =>
          intro j T2 h2 hj hbi hq
          obtain ⟨k, hk⟩ := own_l3 l h t hl hs n hn B hB m (i + 1) T2 h2 (by omega) hq
          refine ⟨k + 1, ?_⟩
          unfold letterboxlaw9_HeadOwn.l4
          rw [if_pos (by omega), if_pos (by omega), if_neg (by omega), w64 ((i : Int) + 1) (by omega) (by omega)]
          exact hk
        | succ m2 ih =>
          intro j T2 h2 hj hbi hq
          have hrow : ∀ x : List Int, rd_L1 (T2.set i x) (i : Int) = x := fun x => by rw [rd_L1_set, if_pos ⟨rfl, by omega⟩]
          have hlen : ((rd_L1 T2 (i : Int)).set j (Go.bits .xor .u8 (rd (rd_L1 T2 (i : Int)) (j : Int)) 1)).length = (rd_L1 T2 (i : Int)).length := List.length_set ..
          obtain ⟨k, hk⟩ := ih (j + 1) (T2.set i ((rd_L1 T2 (i : Int)).set j (Go.bits .xor .u8 (rd (rd_L1 T2 (i : Int)) (j : Int)) 1))) (by rw [List.length_set]; exact h2) (by rw [hrow, hlen]; omega) (by rw [hrow, hlen]; exact hbi) (fun q hq2 => by rw [rd_L1_set, if_neg (by omega)]; exact hq q hq2)
          refine ⟨k + 1, ?_⟩
          unfold letterboxlaw9_HeadOwn.l4
          rw [if_pos (by omega), if_pos (by omega), if_pos (by omega), if_pos (by omega), w64 ((j : Int) + 1) (by omega) (by omega), Int.toNat_natCast, Int.toNat_natCast]
          exact hk
      exact key (rd_L1 T (i : Int)).length 0 T hT (by omega) (hb i (Nat.le_refl _)) (fun q hq => hb q (by omega))
    obtain ⟨k, hk⟩ := step
    refine ⟨k + 1, ?_⟩
    unfold letterboxlaw9_HeadOwn.l3
    rw [if_pos (by omega)]
    exact hk
theorem own_l2 (l : List Int) (w : ByteArray) (h t : List Int) (T : List (List Int)) (rest : ∃ k, letterboxlaw9_HeadOwn.l3 k l w h t T ((0 : Nat) : Int) = some true) : ∀ (m i : Nat) (p : List Int), i + m = p.length → p.length ≤ 1000000 → ∃ k, letterboxlaw9_HeadOwn.l2 k l w h t p T i = some true
  | 0, i, p, hi, _ => by
    obtain ⟨k, hk⟩ := rest
    refine ⟨k + 1, ?_⟩
    unfold letterboxlaw9_HeadOwn.l2
    rw [if_neg (by omega)]
    exact hk
  | m + 1, i, p, hi, hb => by
    obtain ⟨k, hk⟩ := own_l2 l w h t T rest m (i + 1) (p.set i (Go.bits .xor .u8 (rd p (i : Int)) 1)) (by rw [List.length_set]; omega) (by rw [List.length_set]; omega)
    refine ⟨k + 1, ?_⟩
    unfold letterboxlaw9_HeadOwn.l2
    rw [if_pos (by omega), if_pos (by omega), w64 ((i : Int) + 1) (by omega) (by omega), Int.toNat_natCast]
    exact hk
theorem own_l1 (l : List Int) (w : ByteArray) (h p : List Int) (T : List (List Int)) (hp : p.length ≤ 1000000) (n : Nat) (rest : ∀ t : List Int, t.length = n → ∃ k, letterboxlaw9_HeadOwn.l3 k l w h t T ((0 : Nat) : Int) = some true) : ∀ (m i : Nat) (t : List Int), t.length = n → i + m = n → n ≤ 1000000 → ∃ k, letterboxlaw9_HeadOwn.l1 k l w h t p T i = some true
  | 0, i, t, ht, hi, _ => by
    obtain ⟨k, hk⟩ := own_l2 l w h t T (rest t ht) p.length 0 p (by omega) hp
    refine ⟨k + 1, ?_⟩
    unfold letterboxlaw9_HeadOwn.l1
    rw [if_neg (by omega)]
    exact hk
  | m + 1, i, t, ht, hi, hb => by
    obtain ⟨k, hk⟩ := own_l1 l w h p T hp n rest m (i + 1) (t.set i (Go.bits .xor .u8 (rd t (i : Int)) 1)) (by rw [List.length_set]; omega) (by omega) hb
    refine ⟨k + 1, ?_⟩
    unfold letterboxlaw9_HeadOwn.l1
    rw [if_pos (by omega), if_pos (by omega), w64 ((i : Int) + 1) (by omega) (by omega), Int.toNat_natCast]
    exact hk
theorem own_l0 (l : List Int) (w : ByteArray) (t p : List Int) (T : List (List Int)) (hp : p.length ≤ 1000000) (ht : t.length ≤ 1000000) (n : Nat) (rest : ∀ h t2 : List Int, h.length = n → t2.length = t.length → ∃ k, letterboxlaw9_HeadOwn.l3 k l w h t2 T ((0 : Nat) : Int) = some true) : ∀ (m i : Nat) (h : List Int), h.length = n → i + m = n → n ≤ 1000000 → ∃ k, letterboxlaw9_HeadOwn.l0 k l w h t p T i = some true
  | 0, i, h, hh, hi, _ => by
    obtain ⟨k, hk⟩ := own_l1 l w h p T hp t.length (fun t2 h2 => rest h t2 hh h2) t.length 0 t rfl (by omega) ht
    refine ⟨k + 1, ?_⟩
    unfold letterboxlaw9_HeadOwn.l0
    rw [if_neg (by omega)]
    exact hk
  | m + 1, i, h, hh, hi, hb => by
    obtain ⟨k, hk⟩ := own_l0 l w t p T hp ht n rest m (i + 1) (h.set i (Go.bits .xor .u8 (rd h (i : Int)) 1)) (by rw [List.length_set]; omega) (by omega) hb
    refine ⟨k + 1, ?_⟩
    unfold letterboxlaw9_HeadOwn.l0
    rw [if_pos (by omega), if_pos (by omega), w64 ((i : Int) + 1) (by omega) (by omega), Int.toNat_natCast]
    exact hk
theorem HeadOwn (l : List Int) (hw : ∀ x ∈ l, (Lit.int .u8 x).wf = true) : ∃ k, letterboxlaw9_HeadOwn.f k l = some true := by
  have hb := Byt.of hw
  have hle := hend_le l
  by_cases h1 : (l.length : Int) < 1
  · exact ⟨1, by unfold letterboxlaw9_HeadOwn.f; rw [if_pos h1]; rfl⟩
  · by_cases h2 : (l.length : Int) > 1500
    · exact ⟨1, by unfold letterboxlaw9_HeadOwn.f; rw [if_neg h1, decide_eq_true h2]; rfl⟩
    · have hll := lines_length_le l
      have hTl : ((lines l).map txt).flatten.length ≤ l.length := by
        have := map_txt_flat (lines l)
        rwa [lines_flatten] at this
      have hcell : ∀ (T : List (List Int)), T = (lines l).map txt → ∀ j : Nat, 0 ≤ j → (rd_L1 T (j : Int)).length ≤ l.length := by
        intro T hT j _
        rw [rd_L1_nat]
        by_cases hj : j < T.length
        · have := mem_flat_le (getD_mem hj)
          rw [hT] at this ⊢
          omega
        · rw [List.getD_eq_getElem?_getD, List.getElem?_eq_none (by omega)]
          simp
      obtain ⟨k, hk⟩ := own_l0 l (strOfNums l) (l.drop (hend l)) (utop l 3) ((lines l).map txt) (by have := utop_le l 3; omega) (by rw [List.length_drop]; omega) (l.take (hend l)).length
        (fun h t2 hh ht2 => own_l3 l h t2 (by omega) (by rw [hh, ht2, List.length_take, List.length_drop]; omega) ((lines l).map txt).length (by rw [List.length_map]; omega) l.length (by omega) ((lines l).map txt).length 0 _ rfl (by omega) (hcell _ rfl))
        (l.take (hend l)).length 0 (l.take (hend l)) rfl (by omega) (by rw [List.length_take]; omega)
      have up : ∀ j, letterboxlaw9_HeadOwn.l0 (k + j) l (strOfNums l) (l.take (hend l)) (l.drop (hend l)) (utop l 3) ((lines l).map txt) (0 : Nat) = some true := by
        intro j
        induction j with
        | zero => exact hk
        | succ j ih => exact (letterboxlaw9_HeadOwn.mono_l (k + j)).2.1 _ _ _ _ _ _ _ _ ih
      refine ⟨k + (l.length + 10) + 1, ?_⟩
      unfold letterboxlaw9_HeadOwn.f
      rw [if_neg h1, decide_eq_false h2, letterboxlaw9_HeadOwn.j0, if_neg (by decide), UHead_eq _ l hb (by omega) (by omega), Option.bind_some, UBody_eq _ l hb (by omega) (by omega), Option.bind_some, UTop_eq _ l 3 hb (by omega) (by omega) (by omega) (by omega), Option.bind_some, USplit_eq _ l hb (by omega) (by omega), Option.bind_some]
      exact up _
end Go.Proofs.YtaodjbigceamjaaDoor.Pure
