/- HeadWhole over numbers, texts and lists alone. -/
import Derived.Test.YtaodjbigceamjaaDoorHeadImpl7
import Derived.Test.YtaodjbigceamjaaDoorPx107
namespace Go.Proofs.YtaodjbigceamjaaDoor.Pure
open Go.RowKit Go.Proofs.YtaodjbigceamjaaDoor Go.Proofs.YtaodjbigceamjaaDoor.P Go.Proofs.YtaodjbigceamjaaDoor.Spec Go.Proofs.YtaodjbigceamjaaDoorW.PrintWords Go.Proofs.YtaodjbigceamjaaDoorW.PrintLast Go.Proofs.YtaodjbigceamjaaDoorW.PrintMore

theorem HeadWhole_l0 (l : List Int) (hb : Byt l) (hl : l.length ≤ 1500) (T : List (List Int)) (hT : T = (heads (lines l)).map txt) : ∀ (m i k : Nat), i + m + 1 = T.length ∨ (T.length = 0 ∧ m = 0 ∧ i = 0) → 10000 ≤ k → letterboxlaw9_HeadWhole.l0 (k + m + 1) l (l.take (hend l)) (l.drop (hend l)) T i = some true
  | 0, i, k, hi, hk => by
    have hle := hend_le l
    have hsp := congrArg List.length (heads_split l)
    rw [List.length_append] at hsp
    have hTl : T.length = (heads (lines l)).length := by rw [hT, List.length_map]
    have hll := lines_length_le l
    have hll2 := lines_length_le (l.drop (hend l))
    rw [List.length_drop] at hll2
    have hss : ∀ t : List Int, (strOfNums t).size = t.length := fun t => by simp [strOfNums, ByteArray.size]
    unfold letterboxlaw9_HeadWhole.l0
    have hcat : ((strOfNums (l.take (hend l))) ++ (strOfNums (l.drop (hend l)))).toList = (strOfNums l).toList := by
      rw [Lib.toList_data, ByteArray.data_append, Array.toList_append, strOfNums_data, strOfNums_data, ← List.map_append, List.take_append_drop, Lib.toList_data, strOfNums_data]
    have fin : (head_Lines.f (k + 0) l).bind (fun t363 => (head_Lines.f (k + 0) (l.drop (hend l))).bind fun t364 => (if t363 = (wrap64 ((T.length : Int) + t364)) then ((letterboxlaw9_known.f (k + 0)).bind fun t365 => (some t365)) else (some false))) = some true := by
      rw [ULines_eq _ _ hb (by omega) (by omega), Option.bind_some, ULines_eq _ _ (hb.drop _) (by rw [List.length_drop]; omega) (by rw [List.length_drop]; omega), Option.bind_some, w64 _ (by omega) (by omega), if_pos (by omega), known_at _ (by omega)]
      rfl
    rw [w64 ((i : Int) + 1) (by omega) (by omega), if_neg (by omega), if_pos (by rw [hss, hss, List.length_take, List.length_drop]; omega), if_pos hcat]
    by_cases h0 : ((l.drop (hend l)).length : Int) = 0
    · rw [if_pos h0]
      exact fin
    · have hlast := heads_last (lines l) (by rw [lines_flatten]; show hend l < _; rw [List.length_drop] at h0; omega)
      have hp := List.length_pos_iff.2 hlast.1
      have hT0 : T.getD (T.length - 1) [] = [] := by
        rw [hTl, hT, getD_txt _ _ (by omega)]
        exact hlast.2
      rw [if_neg h0, if_pos (by omega), w64 ((T.length : Int) - 1) (by omega) (by omega), if_pos (by omega), if_pos (by omega), show ((T.length : Int) - 1) = ((T.length - 1 : Nat) : Int) by omega, rd_L1_nat, hT0, if_pos (show (([] : List Int).length : Int) = 0 from rfl)]
      exact fin
  | m + 1, i, k, hi, hk => by
    have hll := lines_length_le l
    have hll2 := congrArg List.length (heads_split l)
    rw [List.length_append] at hll2
    have hTl : T.length = (heads (lines l)).length := by rw [hT, List.length_map]
    have hin := heads_inner (lines l) i (by omega)
    unfold letterboxlaw9_HeadWhole.l0
    rw [w64 ((i : Int) + 1) (by omega) (by omega), if_pos (by omega), if_pos (by omega), if_pos (by omega), rd_L1_nat, hT, getD_txt _ _ (by omega), if_neg (by intro h; exact hin (List.eq_nil_of_length_eq_zero (by omega))), ← hT]
    exact HeadWhole_l0 l hb hl T hT m (i + 1) k (by omega) hk
theorem HeadWhole (l : List Int) (hw : ∀ x ∈ l, (Lit.int .u8 x).wf = true) : ∃ k, letterboxlaw9_HeadWhole.f k l = some true := by
  have hb := Byt.of hw
  have hle := hend_le l
  refine ⟨10000 + l.length + (((heads (lines l)).map txt).length - 1) + 1, ?_⟩
  unfold letterboxlaw9_HeadWhole.f
  by_cases h1 : (l.length : Int) > 1500
  · rw [if_pos h1]
  · rw [if_neg h1, UHead_eq _ l hb (by omega) (by omega), Option.bind_some, UBody_eq _ l hb (by omega) (by omega), Option.bind_some, USplit_eq _ _ (hb.take _) (by rw [List.length_take]; omega) (by rw [List.length_take]; omega), Option.bind_some, lines_head]
    have := HeadWhole_l0 l hb (by omega) ((heads (lines l)).map txt) rfl (((heads (lines l)).map txt).length - 1) 0 (10000 + l.length) (by omega) (by omega)
    rw [show (0 : Int) = ((0 : Nat) : Int) from rfl]
    exact this
end Go.Proofs.YtaodjbigceamjaaDoor.Pure
