/- HeadTop over numbers, texts and lists alone. -/
import Derived.Test.YtaodjbigceamjaaDoorHeadImpl8
import Derived.Test.YtaodjbigceamjaaDoorPx108
namespace Go.Proofs.YtaodjbigceamjaaDoor.Pure
open Go.RowKit Go.Proofs.YtaodjbigceamjaaDoor Go.Proofs.YtaodjbigceamjaaDoor.P Go.Proofs.YtaodjbigceamjaaDoor.Spec Go.Proofs.YtaodjbigceamjaaDoorW.PrintWords Go.Proofs.YtaodjbigceamjaaDoorW.PrintLast Go.Proofs.YtaodjbigceamjaaDoorW.PrintMore

theorem lines_some (l : List Int) : ∀ j, lines (l.take ((lines l).take j).flatten.length) = (lines l).take j := by
  induction l using line_ind with
  | h0 => intro j; simp [lines_nil]
  | h1 l hl ih =>
    intro j
    cases j with
    | zero => simp [lines_nil]
    | succ j =>
      have hle := fl_le l
      have hx : (l.take (fl l)).length = fl l := by rw [List.length_take]; omega
      rw [lines_ne hl, List.take_succ_cons, List.flatten_cons, List.length_append, hx, lines_take hl, ih]
theorem HeadTop (l : List Int) (n : Int) (hw : ∀ x ∈ l, (Lit.int .u8 x).wf = true) (_ : (Lit.int .i64 n).wf = true) : ∃ k, letterboxlaw9_HeadTop.f k l n = some true := by
  have hb := Byt.of hw
  have hle := hend_le l
  by_cases h1 : (l.length : Int) > 1500
  · exact ⟨1, by unfold letterboxlaw9_HeadTop.f; rw [if_pos h1]; rfl⟩
  · by_cases h2 : n < 0
    · exact ⟨1, by unfold letterboxlaw9_HeadTop.f; rw [if_neg h1, if_pos h2]; rfl⟩
    · by_cases h3 : n > 2000
      · exact ⟨1, by unfold letterboxlaw9_HeadTop.f; rw [if_neg h1, if_neg h2, decide_eq_true h3]; rfl⟩
      · have htl := tlines_le l n
        have hul : (utop l n).length = hend l + (tlines l n).flatten.length := by unfold utop; rw [List.length_take]; omega
        have hhl : (l.take (hend l)).length = hend l := by rw [List.length_take]; omega
        have hut : l.take (utop l n).length = utop l n := by rw [hul]; rfl
        have hdr : (utop l n).drop (hend l) = (l.drop (hend l)).take (tlines l n).flatten.length := by
          unfold utop
          rw [List.drop_take]
          congr 1
          omega
        have hlt : lines ((utop l n).drop (hend l)) = tlines l n := by
          rw [hdr]
          exact lines_some (l.drop (hend l)) _
        have hmn : mn (mx n 0) ((lines (l.drop (hend l))).length : Int) = mn n ((lines (l.drop (hend l))).length : Int) := by
          have : mx n 0 = n := by unfold mx; (repeat' split) <;> omega
          rw [this]
        have hcount : ((tlines l n).length : Int) = mn n ((lines (l.drop (hend l))).length : Int) := by
          unfold tlines
          rw [List.length_take, hmn]
          unfold mn
          split <;> omega
        obtain ⟨K, hK⟩ : ∃ K, K = 20000 := ⟨_, rfl⟩
        refine ⟨K + 1 + 1, ?_⟩
        unfold letterboxlaw9_HeadTop.f
        rw [if_neg h1, if_neg h2, decide_eq_false h3]
        rw [letterboxlaw9_HeadTop.j0]
        rw [if_neg (by decide), UTop_eq _ l n hb (by omega) (by omega) (by omega) (by omega), Option.bind_some, UHead_eq _ l hb (by omega) (by omega), Option.bind_some, if_neg (by omega), if_neg (by omega), if_pos (by omega), if_pos (by omega), Int.toNat_natCast, hut]
        rw [letterboxlaw9_HeadTop.j1]
        rw [if_neg (by simp), if_pos (by omega), if_pos (by omega), Int.toNat_natCast, hhl, ULines_eq _ ((utop l n).drop (hend l)) (fun x hx => hb x (List.mem_of_mem_take (List.mem_of_mem_drop hx))) (by rw [List.length_drop]; omega) (by rw [List.length_drop]; omega), Option.bind_some, UBody_eq _ l hb (by omega) (by omega), Option.bind_some, ULines_eq _ _ (hb.drop _) (by rw [List.length_drop]; omega) (by rw [List.length_drop]; omega), Option.bind_some, hlt, if_pos hcount, known_at _ (by omega)]
        rfl
end Go.Proofs.YtaodjbigceamjaaDoor.Pure
