/- The walks of the seat's functions, one contract a function: printed by a program of this session's (wip/gen). Not trusted: Lean checks it. -/
import Derived.Test.YtbdmhlocafpehaaDoorPx1
import Derived.Test.YtbdmhlocafpehaaDoorPx2
import Derived.Test.YtbdmhlocafpehaaDoorLexLex
import Derived.Test.YtbdmhlocafpehaaDoorAux
import Derived.Test.YtbdmhlocafpehaaDoorBytes
import Derived.Test.YtbdmhlocafpehaaDoorConvA
import Derived.Test.YtbdmhlocafpehaaDoorMimeConv
namespace Go.Proofs.YtbdmhlocafpehaaDoor.P
open Go.RowKit Go.Proofs.YtbdmhlocafpehaaDoorW.PrintWords Go.Proofs.YtbdmhlocafpehaaDoorW.PrintLast Go.Proofs.YtbdmhlocafpehaaDoorW.PrintMore
attribute [local go_sem] max2_int min2_int max_two min_two max_three min_three max_four min_four   -- for this text's walks alone
set_option linter.unusedVariables false
set_option linter.unusedSimpArgs false

attribute [local go_sem high] eqA31
/-! ### letterboxlaw17_LexAtoms: function 3 -/
mutual
def letterboxlaw17_LexAtoms.j0 : Nat → Int → Int → ByteArray → Bool → Option (Bool)
  | 0, _, _, _, _ => none
  | k + 1, x0, x1, x2, x37 => if x37 = true then (some true) else (letterboxlaw17_LexAtoms.l0 k x0 x1 x2 0)
def letterboxlaw17_LexAtoms.l0 : Nat → Int → Int → ByteArray → Int → Option (Bool)
  | 0, _, _, _, _ => none
  | k + 1, x0, x1, x2, x7 => if x7 < (x2.size : Int) then (if 0 ≤ x7 then (if (bt x2 x7) = 93 then (some true) else (letterboxlaw17_LexAtoms.l0 k x0 x1 x2 (wrap64 (x7 + 1)))) else (none)) else (letterboxlaw17_LexAtoms.l1 k x0 x1 x2 ([] : List Int) 0)
def letterboxlaw17_LexAtoms.l1 : Nat → Int → Int → ByteArray → List Int → Int → Option (Bool)
  | 0, _, _, _, _, _ => none
  | k + 1, x0, x1, x2, x8, x9 => if x9 < x0 then (if 2 + x2.size ≤ 9223372036854775807 then (if 2 + x2.size + 2 ≤ 9223372036854775807 then ((conv_9_23.f (((⟨#[97, 91]⟩ : ByteArray) ++ x2) ++ (⟨#[93, 122]⟩ : ByteArray))).bind fun t118 => (if x8.length + t118.length < 140737488355328 then (letterboxlaw17_LexAtoms.l2 k x0 x1 x2 (x8 ++ t118) x9 0) else (none))) else (none)) else (none)) else ((lex_Lex.f k (([x8] : List (List Int))) ([] : List (List Int))).bind fun bt130 => (if x0 > 64 then (if bt130.2 = 5 then (if (bt130.1.length : Int) = 0 then ((letterboxlaw17_known.f k).bind fun t134 => (some t134)) else (some false)) else (some false)) else (if bt130.2 = 0 then (letterboxlaw17_LexAtoms.j4 k x0 x2 bt130.1 ((bt130.1.length : Int) != x0)) else (letterboxlaw17_LexAtoms.j4 k x0 x2 bt130.1 true))))
def letterboxlaw17_LexAtoms.l2 : Nat → Int → Int → ByteArray → List Int → Int → Int → Option (Bool)
  | 0, _, _, _, _, _, _ => none
  | k + 1, x0, x1, x2, x8, x9, x10 => if x10 < x1 then (if x8.length < 140737488355328 then (letterboxlaw17_LexAtoms.l2 k x0 x1 x2 (x8 ++ [32]) x9 (wrap64 (x10 + 1))) else (none)) else (letterboxlaw17_LexAtoms.l1 k x0 x1 x2 x8 (wrap64 (x9 + 1)))
def letterboxlaw17_LexAtoms.j4 : Nat → Int → ByteArray → List (S31) → Bool → Option (Bool)
  | 0, _, _, _, _ => none
  | k + 1, x0, x2, x11, x92 => if x92 = true then (some false) else (letterboxlaw17_LexAtoms.l3 k x0 x2 x11 0)
def letterboxlaw17_LexAtoms.l3 : Nat → Int → ByteArray → List (S31) → Int → Option (Bool)
  | 0, _, _, _, _ => none
  | k + 1, x0, x2, x11, x13 => if x13 < x0 then (if 0 ≤ x13 then (if x13 < (x11.length : Int) then (if 2 + x2.size ≤ 9223372036854775807 then (if 2 + x2.size + 2 ≤ 9223372036854775807 then (if (!(((rd_T31 x11 x13).f0) == 1) || (!((((rd_T31 x11 x13).f1).toList) == ((((⟨#[97, 91]⟩ : ByteArray) ++ x2) ++ (⟨#[93, 122]⟩ : ByteArray)).toList)))) = true then (some false) else (letterboxlaw17_LexAtoms.l3 k x0 x2 x11 (wrap64 (x13 + 1)))) else (none)) else (none)) else (none)) else (none)) else ((letterboxlaw17_known.f k).bind fun t136 => (some t136))
end
def letterboxlaw17_LexAtoms.f (k : Nat) (a0 : Int) (a1 : Int) (a2 : ByteArray) : Option (Bool) := if a0 < 0 then (letterboxlaw17_LexAtoms.j0 k a0 a1 a2 true) else (if a0 > 80 then (letterboxlaw17_LexAtoms.j0 k a0 a1 a2 true) else (if a1 < 1 then (letterboxlaw17_LexAtoms.j0 k a0 a1 a2 true) else (if a1 > 5 then (letterboxlaw17_LexAtoms.j0 k a0 a1 a2 true) else (if (a2.size : Int) > 40 then (letterboxlaw17_LexAtoms.j0 k a0 a1 a2 true) else ((letterboxlaw17_plain.f k a2).bind fun t117 => (letterboxlaw17_LexAtoms.j0 k a0 a1 a2 (!t117)))))))
theorem letterboxlaw17_LexAtoms.mono_l : ∀ k, (∀ y0 y1 y2 y3, LeO (letterboxlaw17_LexAtoms.j0 k y0 y1 y2 y3) (letterboxlaw17_LexAtoms.j0 (k + 1) y0 y1 y2 y3)) ∧ (∀ y0 y1 y2 y3, LeO (letterboxlaw17_LexAtoms.l0 k y0 y1 y2 y3) (letterboxlaw17_LexAtoms.l0 (k + 1) y0 y1 y2 y3)) ∧ (∀ y0 y1 y2 y3 y4, LeO (letterboxlaw17_LexAtoms.l1 k y0 y1 y2 y3 y4) (letterboxlaw17_LexAtoms.l1 (k + 1) y0 y1 y2 y3 y4)) ∧ (∀ y0 y1 y2 y3 y4 y5, LeO (letterboxlaw17_LexAtoms.l2 k y0 y1 y2 y3 y4 y5) (letterboxlaw17_LexAtoms.l2 (k + 1) y0 y1 y2 y3 y4 y5)) ∧ (∀ y0 y1 y2 y3, LeO (letterboxlaw17_LexAtoms.j4 k y0 y1 y2 y3) (letterboxlaw17_LexAtoms.j4 (k + 1) y0 y1 y2 y3)) ∧ (∀ y0 y1 y2 y3, LeO (letterboxlaw17_LexAtoms.l3 k y0 y1 y2 y3) (letterboxlaw17_LexAtoms.l3 (k + 1) y0 y1 y2 y3))
  | 0 => ⟨fun _ _ _ _ r h => by simp [letterboxlaw17_LexAtoms.j0] at h, fun _ _ _ _ r h => by simp [letterboxlaw17_LexAtoms.l0] at h, fun _ _ _ _ _ r h => by simp [letterboxlaw17_LexAtoms.l1] at h, fun _ _ _ _ _ _ r h => by simp [letterboxlaw17_LexAtoms.l2] at h, fun _ _ _ _ r h => by simp [letterboxlaw17_LexAtoms.j4] at h, fun _ _ _ _ r h => by simp [letterboxlaw17_LexAtoms.l3] at h⟩
  | k + 1 => by
    obtain ⟨ih0, ih1, ih2, ih3, ih4, ih5⟩ := letterboxlaw17_LexAtoms.mono_l k
    refine ⟨?_, ?_, ?_, ?_, ?_, ?_⟩
    · intro y0 y1 y2 y3
      unfold letterboxlaw17_LexAtoms.j0
      repeat' first
      | (with_reducible exact ih0 _ _ _ _)
      | (with_reducible exact ih1 _ _ _ _)
      | (with_reducible exact ih2 _ _ _ _ _)
      | (with_reducible exact ih3 _ _ _ _ _ _)
      | (with_reducible exact ih4 _ _ _ _)
      | (with_reducible exact ih5 _ _ _ _)
      | (with_reducible exact letterboxlaw17_known.mono _)
      | (with_reducible exact letterboxlaw17_plain.mono _ _)
      | (with_reducible exact lex_Lex.mono _ _ _)
      | (with_reducible exact LeO.refl _)
      | (with_reducible exact LeO.none _)
      | (with_reducible refine LeO.ite ?_ ?_)
      | (with_reducible refine LeO.bind ?_ (fun _ => ?_))
      | exact ih0 _ _ _ _
      | exact ih1 _ _ _ _
      | exact ih2 _ _ _ _ _
      | exact ih3 _ _ _ _ _ _
      | exact ih4 _ _ _ _
      | exact ih5 _ _ _ _
      | exact letterboxlaw17_known.mono _
      | exact letterboxlaw17_plain.mono _ _
      | exact lex_Lex.mono _ _ _
      | exact LeO.none _
      | refine LeO.ite ?_ ?_
      | refine LeO.bind ?_ (fun _ => ?_)
    · intro y0 y1 y2 y3
      unfold letterboxlaw17_LexAtoms.l0
      repeat' first
      | (with_reducible exact ih0 _ _ _ _)
      | (with_reducible exact ih1 _ _ _ _)
      | (with_reducible exact ih2 _ _ _ _ _)
      | (with_reducible exact ih3 _ _ _ _ _ _)
      | (with_reducible exact ih4 _ _ _ _)
      | (with_reducible exact ih5 _ _ _ _)
      | (with_reducible exact letterboxlaw17_known.mono _)
      | (with_reducible exact letterboxlaw17_plain.mono _ _)
      | (with_reducible exact lex_Lex.mono _ _ _)
      | (with_reducible exact LeO.refl _)
      | (with_reducible exact LeO.none _)
      | (with_reducible refine LeO.ite ?_ ?_)
      | (with_reducible refine LeO.bind ?_ (fun _ => ?_))
      | exact ih0 _ _ _ _
      | exact ih1 _ _ _ _
      | exact ih2 _ _ _ _ _
      | exact ih3 _ _ _ _ _ _
      | exact ih4 _ _ _ _
      | exact ih5 _ _ _ _
      | exact letterboxlaw17_known.mono _
      | exact letterboxlaw17_plain.mono _ _
      | exact lex_Lex.mono _ _ _
      | exact LeO.none _
      | refine LeO.ite ?_ ?_
      | refine LeO.bind ?_ (fun _ => ?_)
    · intro y0 y1 y2 y3 y4
      unfold letterboxlaw17_LexAtoms.l1
      repeat' first
      | (with_reducible exact ih0 _ _ _ _)
      | (with_reducible exact ih1 _ _ _ _)
      | (with_reducible exact ih2 _ _ _ _ _)
      | (with_reducible exact ih3 _ _ _ _ _ _)
      | (with_reducible exact ih4 _ _ _ _)
      | (with_reducible exact ih5 _ _ _ _)
      | (with_reducible exact letterboxlaw17_known.mono _)
      | (with_reducible exact letterboxlaw17_plain.mono _ _)
      | (with_reducible exact lex_Lex.mono _ _ _)
      | (with_reducible exact LeO.refl _)
      | (with_reducible exact LeO.none _)
      | (with_reducible refine LeO.ite ?_ ?_)
      | (with_reducible refine LeO.bind ?_ (fun _ => ?_))
      | exact ih0 _ _ _ _
      | exact ih1 _ _ _ _
      | exact ih2 _ _ _ _ _
      | exact ih3 _ _ _ _ _ _
      | exact ih4 _ _ _ _
      | exact ih5 _ _ _ _
      | exact letterboxlaw17_known.mono _
      | exact letterboxlaw17_plain.mono _ _
      | exact lex_Lex.mono _ _ _
      | exact LeO.none _
      | refine LeO.ite ?_ ?_
      | refine LeO.bind ?_ (fun _ => ?_)
    · intro y0 y1 y2 y3 y4 y5
      unfold letterboxlaw17_LexAtoms.l2
      repeat' first
      | (with_reducible exact ih0 _ _ _ _)
      | (with_reducible exact ih1 _ _ _ _)
      | (with_reducible exact ih2 _ _ _ _ _)
      | (with_reducible exact ih3 _ _ _ _ _ _)
      | (with_reducible exact ih4 _ _ _ _)
      | (with_reducible exact ih5 _ _ _ _)
      | (with_reducible exact letterboxlaw17_known.mono _)
      | (with_reducible exact letterboxlaw17_plain.mono _ _)
      | (with_reducible exact lex_Lex.mono _ _ _)
      | (with_reducible exact LeO.refl _)
      | (with_reducible exact LeO.none _)
      | (with_reducible refine LeO.ite ?_ ?_)
      | (with_reducible refine LeO.bind ?_ (fun _ => ?_))
      | exact ih0 _ _ _ _
      | exact ih1 _ _ _ _
      | exact ih2 _ _ _ _ _
      | exact ih3 _ _ _ _ _ _
      | exact ih4 _ _ _ _
      | exact ih5 _ _ _ _
      | exact letterboxlaw17_known.mono _
      | exact letterboxlaw17_plain.mono _ _
      | exact lex_Lex.mono _ _ _
      | exact LeO.none _
      | refine LeO.ite ?_ ?_
      | refine LeO.bind ?_ (fun _ => ?_)
    · intro y0 y1 y2 y3
      unfold letterboxlaw17_LexAtoms.j4
      repeat' first
      | (with_reducible exact ih0 _ _ _ _)
      | (with_reducible exact ih1 _ _ _ _)
      | (with_reducible exact ih2 _ _ _ _ _)
      | (with_reducible exact ih3 _ _ _ _ _ _)
      | (with_reducible exact ih4 _ _ _ _)
      | (with_reducible exact ih5 _ _ _ _)
      | (with_reducible exact letterboxlaw17_known.mono _)
      | (with_reducible exact letterboxlaw17_plain.mono _ _)
      | (with_reducible exact lex_Lex.mono _ _ _)
      | (with_reducible exact LeO.refl _)
      | (with_reducible exact LeO.none _)
      | (with_reducible refine LeO.ite ?_ ?_)
      | (with_reducible refine LeO.bind ?_ (fun _ => ?_))
      | exact ih0 _ _ _ _
      | exact ih1 _ _ _ _
      | exact ih2 _ _ _ _ _
      | exact ih3 _ _ _ _ _ _
      | exact ih4 _ _ _ _
      | exact ih5 _ _ _ _
      | exact letterboxlaw17_known.mono _
      | exact letterboxlaw17_plain.mono _ _
      | exact lex_Lex.mono _ _ _
      | exact LeO.none _
      | refine LeO.ite ?_ ?_
      | refine LeO.bind ?_ (fun _ => ?_)
    · intro y0 y1 y2 y3
      unfold letterboxlaw17_LexAtoms.l3
      repeat' first
      | (with_reducible exact ih0 _ _ _ _)
      | (with_reducible exact ih1 _ _ _ _)
      | (with_reducible exact ih2 _ _ _ _ _)
      | (with_reducible exact ih3 _ _ _ _ _ _)
      | (with_reducible exact ih4 _ _ _ _)
      | (with_reducible exact ih5 _ _ _ _)
      | (with_reducible exact letterboxlaw17_known.mono _)
      | (with_reducible exact letterboxlaw17_plain.mono _ _)
      | (with_reducible exact lex_Lex.mono _ _ _)
      | (with_reducible exact LeO.refl _)
      | (with_reducible exact LeO.none _)
      | (with_reducible refine LeO.ite ?_ ?_)
      | (with_reducible refine LeO.bind ?_ (fun _ => ?_))
      | exact ih0 _ _ _ _
      | exact ih1 _ _ _ _
      | exact ih2 _ _ _ _ _
      | exact ih3 _ _ _ _ _ _
      | exact ih4 _ _ _ _
      | exact ih5 _ _ _ _
      | exact letterboxlaw17_known.mono _
      | exact letterboxlaw17_plain.mono _ _
      | exact lex_Lex.mono _ _ _
      | exact LeO.none _
      | refine LeO.ite ?_ ?_
      | refine LeO.bind ?_ (fun _ => ?_)
theorem letterboxlaw17_LexAtoms.mono : ∀ a0 a1 a2 k, LeO (letterboxlaw17_LexAtoms.f k a0 a1 a2) (letterboxlaw17_LexAtoms.f (k + 1) a0 a1 a2) := by
  intro a0 a1 a2 k
  obtain ⟨ih0, ih1, ih2, ih3, ih4, ih5⟩ := letterboxlaw17_LexAtoms.mono_l k
  unfold letterboxlaw17_LexAtoms.f
  repeat' first
      | (with_reducible exact ih0 _ _ _ _)
      | (with_reducible exact ih1 _ _ _ _)
      | (with_reducible exact ih2 _ _ _ _ _)
      | (with_reducible exact ih3 _ _ _ _ _ _)
      | (with_reducible exact ih4 _ _ _ _)
      | (with_reducible exact ih5 _ _ _ _)
      | (with_reducible exact letterboxlaw17_known.mono _)
      | (with_reducible exact letterboxlaw17_plain.mono _ _)
      | (with_reducible exact lex_Lex.mono _ _ _)
      | (with_reducible exact LeO.refl _)
      | (with_reducible exact LeO.none _)
      | (with_reducible refine LeO.ite ?_ ?_)
      | (with_reducible refine LeO.bind ?_ (fun _ => ?_))
      | exact ih0 _ _ _ _
      | exact ih1 _ _ _ _
      | exact ih2 _ _ _ _ _
      | exact ih3 _ _ _ _ _ _
      | exact ih4 _ _ _ _
      | exact ih5 _ _ _ _
      | exact letterboxlaw17_known.mono _
      | exact letterboxlaw17_plain.mono _ _
      | exact lex_Lex.mono _ _ _
      | exact LeO.none _
      | refine LeO.ite ?_ ?_
      | refine LeO.bind ?_ (fun _ => ?_)
set_option maxHeartbeats 8000000 in
set_option maxRecDepth 100000 in
theorem letterboxlaw17_LexAtoms.calls (k : Nat) (a0 : Int) (a1 : Int) (a2 : ByteArray) (w : World) (h : letterboxlaw17_LexAtoms.f k a0 a1 a2 = some true) :
    Calls Tryd.prog 3 #[.int .i64 a0, .int .i64 a1, .string a2] w fun e w' => e = .returned (.bool true) ∧ Below w.heap.size w w' := by
  have hu31 := Tryd.underlying31
  have HB := Aside0.mk (Below.refl w.heap.size w)
  have H : (if a0 < 0 then (letterboxlaw17_LexAtoms.j0 k a0 a1 a2 true) else (if a0 > 80 then (letterboxlaw17_LexAtoms.j0 k a0 a1 a2 true) else (if a1 < 1 then (letterboxlaw17_LexAtoms.j0 k a0 a1 a2 true) else (if a1 > 5 then (letterboxlaw17_LexAtoms.j0 k a0 a1 a2 true) else (if (a2.size : Int) > 40 then (letterboxlaw17_LexAtoms.j0 k a0 a1 a2 true) else ((letterboxlaw17_plain.f k a2).bind fun t117 => (letterboxlaw17_LexAtoms.j0 k a0 a1 a2 (!t117)))))))) = some true := h
  clear h
  have HC4 := Aside0.mk H
  clear H
  go_enter Tryd.func3, Tryd.ntmps3
  go_upto_region 1 with (fail)
  go_cut [37] (fun v37 wc => ∃ (kq : Nat) (x37_3 : Bool), v37 = .bool x37_3 ∧ Aside0 (letterboxlaw17_LexAtoms.j0 kq a0 a1 a2 x37_3 = some true) ∧ Aside0 (kq ≤ k) ∧ Aside0 (Below w.heap.size w wc))
  case first =>
    have H := HC4.out
    clear HC4
    by_cases c5 : a0 < 0
    · rw [if_pos c5] at H
      have c5b0 : decide (a0 < 0) = true := decide_eq_true c5
      clear c5
      (first | rw [c5b0] | (simp only [i64_w, i32_w]; rw [c5b0]) | skip)
      have H' := Aside0.mk H
      clear H
      go_wp2
      go_meet
      case rel => exact ⟨_, (true), (by first | rfl | (simp; done) | (simp [*]; done)), H', ⟨by first | omega | exact Nat.le_refl _⟩, ⟨by repeat (first | (with_reducible first | exact HB.out | apply below_alloc | apply pw_below_drewN | apply below_drew1) | exact HB.out)⟩⟩
    · rw [if_neg c5] at H
      have c5b0 : decide (a0 < 0) = false := decide_eq_false c5
      clear c5
      (first | rw [c5b0] | (simp only [i64_w, i32_w]; rw [c5b0]) | skip)
      by_cases c6 : a0 > 80
      · rw [if_pos c6] at H
        have c6b0 : decide (80 < a0) = true := decide_eq_true c6
        clear c6
        have H' := Aside0.mk H
        clear H
        go_wp2
        go_meet
        case rel => exact ⟨_, (true), (by first | rfl | (simp; done) | (simp [*]; done)), H', ⟨by first | omega | exact Nat.le_refl _⟩, ⟨by repeat (first | (with_reducible first | exact HB.out | apply below_alloc | apply pw_below_drewN | apply below_drew1) | exact HB.out)⟩⟩
      · rw [if_neg c6] at H
        have c6b0 : decide (80 < a0) = false := decide_eq_false c6
        clear c6
        by_cases c7 : a1 < 1
        · rw [if_pos c7] at H
          have c7b0 : decide (a1 < 1) = true := decide_eq_true c7
          clear c7
          have H' := Aside0.mk H
          clear H
          go_wp2
          go_meet
          case rel => exact ⟨_, (true), (by first | rfl | (simp; done) | (simp [*]; done)), H', ⟨by first | omega | exact Nat.le_refl _⟩, ⟨by repeat (first | (with_reducible first | exact HB.out | apply below_alloc | apply pw_below_drewN | apply below_drew1) | exact HB.out)⟩⟩
        · rw [if_neg c7] at H
          have c7b0 : decide (a1 < 1) = false := decide_eq_false c7
          clear c7
          by_cases c8 : a1 > 5
          · rw [if_pos c8] at H
            have c8b0 : decide (5 < a1) = true := decide_eq_true c8
            clear c8
            have H' := Aside0.mk H
            clear H
            go_wp2
            go_meet
            case rel => exact ⟨_, (true), (by first | rfl | (simp; done) | (simp [*]; done)), H', ⟨by first | omega | exact Nat.le_refl _⟩, ⟨by repeat (first | (with_reducible first | exact HB.out | apply below_alloc | apply pw_below_drewN | apply below_drew1) | exact HB.out)⟩⟩
          · rw [if_neg c8] at H
            have c8b0 : decide (5 < a1) = false := decide_eq_false c8
            clear c8
            by_cases c9 : (a2.size : Int) > 40
            · rw [if_pos c9] at H
              have c9b0 : decide (40 < (a2.size : Int)) = true := decide_eq_true c9
              have c9b1 : decide (40 < a2.size) = true := decide_eq_true (by omega)
              clear c9
              have H' := Aside0.mk H
              clear H
              go_wp2
              go_meet
              case rel => exact ⟨_, (true), (by first | rfl | (simp; done) | (simp [*]; done)), H', ⟨by first | omega | exact Nat.le_refl _⟩, ⟨by repeat (first | (with_reducible first | exact HB.out | apply below_alloc | apply pw_below_drewN | apply below_drew1) | exact HB.out)⟩⟩
            · rw [if_neg c9] at H
              have c9b0 : decide (40 < (a2.size : Int)) = false := decide_eq_false c9
              have c9b1 : decide (40 < a2.size) = false := decide_eq_false (by omega)
              clear c9
              replace H := Option.bind_eq_some_iff.mp H
              obtain ⟨t117, A100, H⟩ := H
              replace H : (letterboxlaw17_LexAtoms.j0 k a0 a1 a2 (!t117)) = some true := H
              have A10 := Aside0.mk A100
              clear A100
              have H' := Aside0.mk H
              clear H
              go_wp2_with (first | (go_at_call 7; (with_reducible refine (letterboxlaw17_plain.calls k a2 t117 _ A10.out).mono ?_); rintro e w' ⟨rfl, ⟨nd, rfl⟩⟩))
              go_meet
              case rel => exact ⟨_, (!t117), (by first | rfl | (simp; done) | (simp [*]; done)), H', ⟨by first | omega | exact Nat.le_refl _⟩, ⟨by repeat (first | (with_reducible first | exact HB.out | apply below_alloc | apply pw_below_drewN | apply below_drew1) | exact HB.out)⟩⟩
  case rest =>
    clear HC4
    try clear p2
    try clear c3
    try clear c5
    try clear c5b0
    try clear c6
    try clear c6b0
    try clear c7
    try clear c7b0
    try clear c8
    try clear c8b0
    try clear c9
    try clear c9b0
    try clear c9b1
    obtain ⟨kq, x37_3, rfl, HA, HJ3, HB⟩ := hcut
    cases kq with
    | zero => exact absurd HA.out (by simp [letterboxlaw17_LexAtoms.j0])
    | succ kj3 =>
      have H := HA.out
      clear HA
      simp only [letterboxlaw17_LexAtoms.j0] at H
      by_cases c11 : x37_3 = true
      · subst c11
        have H1 : (some true) = some true := rfl
        clear H
        have H := H1
        clear H1
        first | (obtain rfl := Option.some.inj H) | (have Hr_ := Option.some.inj H)
        go_wp2
        go_ret
        exact ⟨by first | rfl | (simp [errW_none, errW_some] <;> rfl) | (simp [*, errW_none, errW_some] <;> rfl), by repeat (first | (with_reducible first | exact HB.out | apply below_alloc | apply pw_below_drewN | apply below_drew1) | exact HB.out)⟩
      · replace c11 := Bool.eq_false_iff.mpr c11
        subst c11
        have H1 : (letterboxlaw17_LexAtoms.l0 kj3 a0 a1 a2 0) = some true := by rw [if_neg (show ¬ (false = true) by decide)] at H; exact H
        clear H
        have H := H1
        clear H1
        have H' := Aside0.mk H
        clear H
        go_wp2
        go_loopg [7] kj3 (fun kq v7 w' => ∃ (x7_2 : Int), v7 = .int .i64 x7_2 ∧ Aside0 (letterboxlaw17_LexAtoms.l0 kq a0 a1 a2 x7_2 = some true) ∧ Aside0 (kq ≤ kj3) ∧ Aside0 (Below w.heap.size w w'))
        case atStart => exact ⟨(0), (by first | rfl | (simp; done) | (simp [*]; done)), H', ⟨Nat.le_refl _⟩, ⟨by repeat (first | (with_reducible first | exact HB.out | apply below_alloc | apply pw_below_drewN | apply below_drew1) | exact HB.out)⟩⟩
        case round =>
          clear H'
          try clear c1
          try clear p2
          try clear c3
          try clear c5
          try clear c5b0
          try clear c6
          try clear c6b0
          try clear c7
          try clear c7b0
          try clear c8
          try clear c8b0
          try clear c9
          try clear c9b0
          try clear c9b1
          try clear c11
          try clear p2
          obtain ⟨x7_2, rfl, HA, HK2, HB⟩ := hrel
          cases gk with
          | zero => exact absurd HA.out (by simp [letterboxlaw17_LexAtoms.l0])
          | succ k2 =>
            have H := HA.out
            clear HA
            simp only [letterboxlaw17_LexAtoms.l0] at H
            by_cases c12 : x7_2 < (a2.size : Int)
            · rw [if_pos c12] at H
              have c12b0 : decide (x7_2 < (a2.size : Int)) = true := decide_eq_true c12
              clear c12
              by_cases c13 : 0 ≤ x7_2
              · rw [if_pos c13] at H
                have c13b0 : decide (0 ≤ x7_2) = true := decide_eq_true c13
                clear c13
                by_cases c15 : (bt a2 x7_2) = 93
                · rw [if_pos c15] at H
                  have c15b0 : ((bt a2 x7_2) == 93) = true := beq_iff_eq.mpr c15
                  have c15b1 : ((bt a2 x7_2) != 93) = false := bne_eq_false_iff_eq.mpr c15
                  clear c15
                  first | (obtain rfl := Option.some.inj H) | (have Hr_ := Option.some.inj H)
                  have p14 : 0 ≤ (x7_2 : Int) := of_decide_eq_true (by first | (with_reducible assumption) | assumption)
                  have q14 : x7_2 < (a2.size : Int) := of_decide_eq_true (by first | (with_reducible assumption) | assumption)
                  have hx14 := bt_at a2 x7_2
                  replace p14 := eq_true p14
                  replace q14 := eq_true q14
                  go_wp2
                  go_ret
                  exact ⟨by first | rfl | (simp [errW_none, errW_some] <;> rfl) | (simp [*, errW_none, errW_some] <;> rfl), by repeat (first | (with_reducible first | exact HB.out | apply below_alloc | apply pw_below_drewN | apply below_drew1) | exact HB.out)⟩
                · rw [if_neg c15] at H
                  have c15b0 : ((bt a2 x7_2) == 93) = false := beq_eq_false_iff_ne.mpr c15
                  have c15b1 : ((bt a2 x7_2) != 93) = true := bne_iff_ne.mpr c15
                  have H' := Aside0.mk H
                  clear H
                  have p14 : 0 ≤ (x7_2 : Int) := of_decide_eq_true (by first | (with_reducible assumption) | assumption)
                  have q14 : x7_2 < (a2.size : Int) := of_decide_eq_true (by first | (with_reducible assumption) | assumption)
                  have hx14 := bt_at a2 x7_2
                  replace p14 := eq_true p14
                  replace q14 := eq_true q14
                  go_wp2
                  go_roundg k2
                  case measure => have := HJ3.out; have := HK2.out; omega
                  case rel => exact ⟨(wrap64 (x7_2 + 1)), (by first | rfl | (simp; done) | (simp [*]; done)), H', ⟨by have := HJ3.out; have := HK2.out; omega⟩, ⟨by repeat (first | (with_reducible first | exact HB.out | apply below_alloc | apply pw_below_drewN | apply below_drew1) | exact HB.out)⟩⟩
              · rw [if_neg c13] at H
                exact absurd H (by simp)
            · rw [if_neg c12] at H
              have c12b0 : decide (x7_2 < (a2.size : Int)) = false := decide_eq_false c12
              clear c12
              have H' := Aside0.mk H
              clear H
              go_wp2
              go_loopg [8, 9] k2 (fun kq v8 v9 w' => ∃ (x8_3 : List Int) (x9_3 : Int), v9 = .int .i64 x9_3 ∧ Aside0 (letterboxlaw17_LexAtoms.l1 kq a0 a1 a2 x8_3 x9_3 = some true) ∧ Aside0 (kq ≤ k2) ∧ Aside0 (Kd.R (Kd.int .u8) 5 w' w.heap.size (fun _ => True) v8 x8_3) ∧ Aside0 (Below w.heap.size w w'))
              case atStart => exact ⟨(([] : List Int)), (0), (by first | rfl | (simp; done) | (simp [*]; done)), H', ⟨Nat.le_refl _⟩, ⟨by first | exact Kd.R_nil _ _ _ _ _ | exact Kd.N_nil _ _ _ _ _ | exact Kd.V_nil _ _ _ _ _ | exact Kd.Q_nil _ _ _ _ _ | exact Kd.S_nil _ _ _ _ _⟩, ⟨by repeat (first | (with_reducible first | exact HB.out | apply below_alloc | apply pw_below_drewN | apply below_drew1) | exact HB.out)⟩⟩
              case round =>
                clear H'
                try clear c1
                try clear p1
                try clear q1
                try clear hx1
                try clear p2
                try clear c3
                try clear c5
                try clear c5b0
                try clear c6
                try clear c6b0
                try clear p6
                try clear c7
                try clear c7b0
                try clear c8
                try clear c8b0
                try clear c9
                try clear c9b0
                try clear c9b1
                try clear c11
                try clear c12
                try clear c12b0
                try clear c13
                try clear c13b0
                try clear p14
                try clear q14
                try clear hx14
                try clear c15
                try clear c15b0
                try clear c15b1
                try clear p14
                try clear p2
                try clear q14
                obtain ⟨x8_3, x9_3, rfl, HA, HK3, HO_8, HB⟩ := hrel
                cases gk with
                | zero => exact absurd HA.out (by simp [letterboxlaw17_LexAtoms.l1])
                | succ k3 =>
                  have H := HA.out
                  clear HA
                  simp only [letterboxlaw17_LexAtoms.l1] at H
                  by_cases c16 : x9_3 < a0
                  · rw [if_pos c16] at H
                    have c16b0 : decide (x9_3 < a0) = true := decide_eq_true c16
                    clear c16
                    by_cases c17 : 2 + a2.size ≤ 9223372036854775807
                    · rw [if_pos c17] at H
                      have c17b0 := eq_true c17
                      have c17b1 : decide (2 + a2.size ≤ 9223372036854775807) = true := decide_eq_true c17
                      try have c17b2 : (9223372036854775807 < 2 + a2.size) = False := eq_false (Nat.not_lt.2 c17)
                      by_cases c18 : 2 + a2.size + 2 ≤ 9223372036854775807
                      · rw [if_pos c18] at H
                        have c18b0 := eq_true c18
                        have c18b1 : decide (2 + a2.size + 2 ≤ 9223372036854775807) = true := decide_eq_true c18
                        try have c18b2 : (9223372036854775807 < 2 + a2.size + 2) = False := eq_false (Nat.not_lt.2 c18)
                        replace H := Option.bind_eq_some_iff.mp H
                        obtain ⟨t118, A190, H⟩ := H
                        replace H : (if x8_3.length + t118.length < 140737488355328 then (letterboxlaw17_LexAtoms.l2 k3 a0 a1 a2 (x8_3 ++ t118) x9_3 0) else (none)) = some true := H
                        have A19 := Aside0.mk A190
                        clear A190
                        by_cases c20 : x8_3.length + t118.length < 140737488355328
                        · rw [if_pos c20] at H
                          have LMc20 := Aside0.mk c20
                          clear c20
                          obtain ⟨y121, hy121⟩ : ∃ y_ : List Int, y_ = (x8_3 ++ t118) := ⟨_, rfl⟩
                          replace H : (letterboxlaw17_LexAtoms.l2 k3 a0 a1 a2 y121 x9_3 0) = some true := by first | (rw [hy121]; with_reducible exact H) | (have H2_ := (Option.bind_some _ _).symm.trans H; rw [hy121]; with_reducible exact H2_) | (have H2_ := (Option.bind_some _ _).symm.trans H; with_reducible exact H2_) | with_reducible exact H | (rw [hy121]; exact H) | exact H
                          have Ny121 := Aside0.mk hy121
                          clear hy121
                          have H' := Aside0.mk H
                          clear H
                          go_wp2_with (first | ((with_reducible refine gate_dst (N := 57) rfl ?_); refine convL_ (some 57) rfl rfl (s := (((⟨#[97, 91]⟩ : ByteArray) ++ a2) ++ (⟨#[93, 122]⟩ : ByteArray))) rfl (by (try simp only [List.map_toArray, List.map_cons, List.map_nil]); first | done | rfl | (simp only [List.length_drop, List.length_take]; rfl)) ?_; (with_reducible refine (conv_9_23.calls (((⟨#[97, 91]⟩ : ByteArray) ++ a2) ++ (⟨#[93, 122]⟩ : ByteArray)) t118 _ A19.out).mono ?_); rintro e w21 ⟨v119, rfl, ho0, hb⟩; refine ⟨_, rfl, ?_⟩; have n0_ := Aside0.mk (Kd.R_below (by (with_reducible repeat (first | apply Kd.R_alloc | apply Kd.R_drewN | apply Kd.R_drew)); exact HO_8.out) hb); have n1_ := Aside0.mk (Kd.V_lower (Kd.V_mono (ok' := fun k_ => some k_ ≠ (u8 : Value).ownBlock) ho0 (fun k_ hk_ => (Kd.fresh' (Kd.R_lt (by (with_reducible repeat (first | apply Kd.R_alloc | apply Kd.R_drewN | apply Kd.R_drew)); exact HO_8.out)) k_ hk_))) (below_size (by repeat (first | (with_reducible first | exact HB.out | apply below_alloc | apply pw_below_drewN | apply below_drew1) | exact HB.out)))); have n2_ := Aside0.mk (below_step (by repeat (first | (with_reducible first | exact HB.out | apply below_alloc | apply pw_below_drewN | apply below_drew1) | exact HB.out)) hb); clear HO_8; clear HB; have HO_8 := n0_; have HO120 := n1_; have HB := n2_; clear n0_ n1_ n2_; (try clear hb); (try clear hb2); (try clear hk); (try clear hi); (try clear ho0); obtain ⟨Ao23, co23, eo23⟩ := Kd.V_slice HO120.out; subst eo23) | ((with_reducible refine gate_builtin (b := .append) (xs := #[.tmp 53, .tmp 57]) rfl ?_); (try (refine gate_guard (by rfl) ?_; dsimp only)); at_builtin; refine Kd.R_append_rows (Kd.int .u8) (w0 := w) w.heap.size rfl (.tmp 53) (.tmp 57) 23 5 (.int .u8 0) 1 rfl Tryd.underlying23 info5 rfl (by decide) (by omega) u8 x8_3 t118 _ _ _ (fun _ => True) (fun _ => False) rfl rfl ?aO ?aR (fun _ _ h => h) (fun _ h => h.elim) ?aF ?aB ?aS ?aL ?_; (case aR => repeat (first | exact (Kd.V_reads' HO120.out).2.2 | (with_reducible refine Kd.C_alloc ?_ _) | (with_reducible refine Kd.C_drewN ?_ _) | (with_reducible refine Kd.C_drew ?_))); (case aB => exact (by repeat (first | (with_reducible first | exact HB.out | apply below_alloc | apply pw_below_drewN | apply below_drew1) | exact HB.out))); (case aF => exact (fun _ _ => trivial)); (case aO => exact (by (with_reducible repeat (first | apply Kd.R_alloc | apply Kd.R_drewN | apply Kd.R_drew)); exact HO_8.out)); (case aS => exact (below_size (by repeat (first | (with_reducible first | exact HB.out | apply below_alloc | apply pw_below_drewN | apply below_drew1) | exact HB.out)))); (case aL => have := LMc20.out; omega); intro v122 w22 ho hb hg hat; (first | rw [← Ny121.out] at ho | (simp only [Int.reduceToNat] at ho; rw [← Ny121.out] at ho)); have n0_ := Aside0.mk (Kd.V_afterv (ok := (fun _ => True)) (by (with_reducible repeat (first | apply Kd.V_alloc | apply Kd.V_drewN | apply Kd.V_drew)); exact Kd.V_mono HO120.out (fun _ hk => ⟨trivial, hk⟩)) hg hat); have n1_ := Aside0.mk (hb); have n2_ := Aside0.mk (ho); clear HO120; clear HB; clear HO_8; have HO120 := n0_; have HB := n1_; have HO123 := n2_; clear n0_ n1_ n2_; clear ho hb hg hat))
                          go_loopg [8, 10] k3 (fun kq v8 v10 w' => ∃ (x8_4 : List Int) (x10_4 : Int), v10 = .int .i64 x10_4 ∧ Aside0 (letterboxlaw17_LexAtoms.l2 kq a0 a1 a2 x8_4 x9_3 x10_4 = some true) ∧ Aside0 (kq ≤ k3) ∧ Aside0 (Kd.R (Kd.int .u8) 5 w' w.heap.size (fun _ => True) v8 x8_4) ∧ Aside0 (Below w.heap.size w w'))
                          case atStart => exact ⟨(y121), (0), (by first | rfl | (simp; done) | (simp [*]; done)), H', ⟨Nat.le_refl _⟩, ⟨by (with_reducible repeat (first | apply Kd.R_alloc | apply Kd.R_drewN | apply Kd.R_drew)); exact HO123.out⟩, ⟨by repeat (first | (with_reducible first | exact HB.out | apply below_alloc | apply pw_below_drewN | apply below_drew1) | exact HB.out)⟩⟩
                          case round =>
                            clear H'
                            try clear c1
                            try clear p1
                            try clear q1
                            try clear hx1
                            try clear c2
                            try clear p2
                            try clear c3
                            try clear c5
                            try clear c5b0
                            try clear c6
                            try clear c6b0
                            try clear p6
                            try clear c7
                            try clear c7b0
                            try clear c8
                            try clear c8b0
                            try clear c9
                            try clear c9b0
                            try clear c9b1
                            try clear c11
                            try clear c12
                            try clear c12b0
                            try clear c13
                            try clear c13b0
                            try clear p14
                            try clear q14
                            try clear hx14
                            try clear c15
                            try clear c15b0
                            try clear c15b1
                            try clear c16
                            try clear c16b0
                            try clear c17
                            try clear c17b0
                            try clear c17b1
                            try clear c17b2
                            try clear c18
                            try clear c18b0
                            try clear c18b1
                            try clear c18b2
                            try clear c20
                            try clear p1
                            try clear p14
                            try clear p2
                            try clear p6
                            try clear q1
                            try clear q14
                            obtain ⟨x8_4, x10_4, rfl, HA, HK4, HO_8, HB⟩ := hrel
                            cases gk with
                            | zero => exact absurd HA.out (by simp [letterboxlaw17_LexAtoms.l2])
                            | succ k4 =>
                              have H := HA.out
                              clear HA
                              simp only [letterboxlaw17_LexAtoms.l2] at H
                              by_cases c24 : x10_4 < a1
                              · rw [if_pos c24] at H
                                have c24b0 : decide (x10_4 < a1) = true := decide_eq_true c24
                                clear c24
                                by_cases c25 : x8_4.length < 140737488355328
                                · rw [if_pos c25] at H
                                  have LMc25 := Aside0.mk c25
                                  clear c25
                                  obtain ⟨y124, hy124⟩ : ∃ y_ : List Int, y_ = (x8_4 ++ [32]) := ⟨_, rfl⟩
                                  replace H : (letterboxlaw17_LexAtoms.l2 k4 a0 a1 a2 y124 x9_3 (wrap64 (x10_4 + 1))) = some true := by first | (rw [hy124]; with_reducible exact H) | (have H2_ := (Option.bind_some _ _).symm.trans H; rw [hy124]; with_reducible exact H2_) | (have H2_ := (Option.bind_some _ _).symm.trans H; with_reducible exact H2_) | with_reducible exact H | (rw [hy124]; exact H) | exact H
                                  have Ny124 := Aside0.mk hy124
                                  clear hy124
                                  have H' := Aside0.mk H
                                  clear H
                                  go_wp2_with (first | ((with_reducible refine gate_builtin (b := .append) (xs := #[.tmp 64, .tmp 65]) rfl ?_); (try (refine gate_guard (by rfl) ?_; dsimp only)); at_builtin; refine Kd.R_append (Kd.int .u8) (w0 := w) w.heap.size rfl (.tmp 64) (.tmp 65) 23 5 (.int .u8 0) 1 rfl Tryd.underlying23 info5 rfl (by decide) (by omega) u8 x8_4 32 [.int .u8 32] (fun _ => True) (fun _ => False) rfl rfl ?aP (fun _ hk => hk.elim) ?aF ?aO ?aB ?aS ?aL ?_; (case aP => exact rfl); (case aB => exact (by repeat (first | (with_reducible first | exact HB.out | apply below_alloc | apply pw_below_drewN | apply below_drew1) | exact HB.out))); (case aF => exact (fun _ _ => trivial)); (case aO => exact (by (with_reducible repeat (first | apply Kd.R_alloc | apply Kd.R_drewN | apply Kd.R_drew)); exact HO_8.out)); (case aS => exact (below_size (by repeat (first | (with_reducible first | exact HB.out | apply below_alloc | apply pw_below_drewN | apply below_drew1) | exact HB.out)))); (case aL => have := LMc25.out; omega); intro v125 w26 ho hb hg hat; (first | rw [← Ny124.out] at ho | (simp only [Int.reduceToNat] at ho; rw [← Ny124.out] at ho)); have n0_ := Aside0.mk (hb); have n1_ := Aside0.mk (ho); clear HB; clear HO_8; have HB := n0_; have HO126 := n1_; clear n0_ n1_; clear ho hb hg hat))
                                  go_roundg k4
                                  case measure => have := HJ3.out; have := HK2.out; have := HK3.out; have := HK4.out; omega
                                  case rel => exact ⟨(y124), (wrap64 (x10_4 + 1)), (by first | rfl | (simp; done) | (simp [*]; done)), H', ⟨by have := HJ3.out; have := HK2.out; have := HK3.out; have := HK4.out; omega⟩, ⟨by (with_reducible repeat (first | apply Kd.R_alloc | apply Kd.R_drewN | apply Kd.R_drew)); exact HO126.out⟩, ⟨by repeat (first | (with_reducible first | exact HB.out | apply below_alloc | apply pw_below_drewN | apply below_drew1) | exact HB.out)⟩⟩
                                · rw [if_neg c25] at H
                                  exact absurd H (by simp)
                              · rw [if_neg c24] at H
                                have c24b0 : decide (x10_4 < a1) = false := decide_eq_false c24
                                clear c24
                                have H' := Aside0.mk H
                                clear H
                                go_wp2
                                go_roundg k4
                                case measure => have := HJ3.out; have := HK2.out; have := HK3.out; have := HK4.out; omega
                                case rel => exact ⟨(x8_4), (wrap64 (x9_3 + 1)), (by first | rfl | (simp; done) | (simp [*]; done)), H', ⟨by have := HJ3.out; have := HK2.out; have := HK3.out; have := HK4.out; omega⟩, ⟨by (with_reducible repeat (first | apply Kd.R_alloc | apply Kd.R_drewN | apply Kd.R_drew)); exact HO_8.out⟩, ⟨by repeat (first | (with_reducible first | exact HB.out | apply below_alloc | apply pw_below_drewN | apply below_drew1) | exact HB.out)⟩⟩
                        · rw [if_neg c20] at H
                          exact absurd H (by simp)
                      · rw [if_neg c18] at H
                        exact absurd H (by simp)
                    · rw [if_neg c17] at H
                      exact absurd H (by simp)
                  · rw [if_neg c16] at H
                    have c16b0 : decide (x9_3 < a0) = false := decide_eq_false c16
                    clear c16
                    obtain ⟨y127, hy127⟩ : ∃ y_ : List (List Int), y_ = (([x8_3] : List (List Int))) := ⟨_, rfl⟩
                    replace H : ((lex_Lex.f k3 y127 ([] : List (List Int))).bind fun bt130 => (if a0 > 64 then (if bt130.2 = 5 then (if (bt130.1.length : Int) = 0 then ((letterboxlaw17_known.f k3).bind fun t134 => (some t134)) else (some false)) else (some false)) else (if bt130.2 = 0 then (letterboxlaw17_LexAtoms.j4 k3 a0 a2 bt130.1 ((bt130.1.length : Int) != a0)) else (letterboxlaw17_LexAtoms.j4 k3 a0 a2 bt130.1 true)))) = some true := by first | (rw [hy127]; with_reducible exact H) | (have H2_ := (Option.bind_some _ _).symm.trans H; rw [hy127]; with_reducible exact H2_) | (have H2_ := (Option.bind_some _ _).symm.trans H; with_reducible exact H2_) | with_reducible exact H | (rw [hy127]; exact H) | exact H
                    have Ny127 := Aside0.mk hy127
                    clear hy127
                    replace H := Option.bind_eq_some_iff.mp H
                    obtain ⟨⟨t130, t133⟩, A270, H⟩ := H
                    replace H : (if a0 > 64 then (if t133 = 5 then (if (t130.length : Int) = 0 then ((letterboxlaw17_known.f k3).bind fun t134 => (some t134)) else (some false)) else (some false)) else (if t133 = 0 then (letterboxlaw17_LexAtoms.j4 k3 a0 a2 t130 ((t130.length : Int) != a0)) else (letterboxlaw17_LexAtoms.j4 k3 a0 a2 t130 true))) = some true := H
                    have A27 := Aside0.mk A270
                    clear A270
                    by_cases c28 : a0 > 64
                    · rw [if_pos c28] at H
                      have c28b0 : decide (64 < a0) = true := decide_eq_true c28
                      clear c28
                      by_cases c29 : t133 = 5
                      · rw [if_pos c29] at H
                        have c29b0 : (t133 == 5) = true := beq_iff_eq.mpr c29
                        have c29b1 : (t133 != 5) = false := bne_eq_false_iff_eq.mpr c29
                        clear c29
                        by_cases c30 : (t130.length : Int) = 0
                        · rw [if_pos c30] at H
                          have c30b0 : ((t130.length : Int) == 0) = true := beq_iff_eq.mpr c30
                          have c30b1 : ((t130.length : Int) != 0) = false := bne_eq_false_iff_eq.mpr c30
                          clear c30
                          replace H := Option.bind_eq_some_iff.mp H
                          obtain ⟨t134, A310, H⟩ := H
                          replace H : (some t134) = some true := H
                          have A31 := Aside0.mk A310
                          clear A310
                          have Hr_ := Option.some.inj H
                          obtain ⟨Ao32, co32, eo32⟩ := Kd.R_slice HO_8.out
                          subst eo32
                          go_wp2_with (first | ((with_reducible refine gate_dst (N := 69) rfl ?_); (try (refine gate_guard (by rfl) ?_; dsimp only)); refine Kd.N_lit (Kd.slice 5 (Kd.int .u8)) _ 23 ?hg (N' := 69) ?hd (xs := ([x8_3] : List (List Int))) (inner := [.slice Ao32 x8_3.length co32]) (ok := (fun _ => True)) (okp := (fun _ => True)) ?hr ?hp (fun _ hk => hk) ((show ∀ k_, wr.heap.size ≤ k_ → (fun _ => True) k_ from fun k_ hk => trivial) _ (Nat.le_refl _)) (Below.refl _ _) (Nat.le_refl _) (by simp) ?_; (case hd => rfl); (case hg => rfl); (case hr => first | (go_simp; done) | (go_simp; rfl)); (case hp => exact (Reps.one (show Kd.FK (Kd.slice 5 (Kd.int .u8)) _ _ x8_3 [.slice Ao32 x8_3.length co32] from (Kd.FK_slice_mk (Kd.R_reads' (Kd.R_mono (ok' := (fun _ => True)) (HO_8.out) (fun k_ hk => trivial))).2.1 (Kd.R_F (Kd.R_mono (ok' := (fun _ => True)) (HO_8.out) (fun k_ hk => trivial))))) (Reps.none _ _))); intro v128 w33 ho34 hb hg_ hnew_; clear hg_ hnew_; (first | rw [← Ny127.out] at ho34 | (simp only [Int.reduceToNat] at ho34; rw [← Ny127.out] at ho34)); have n0_ := Aside0.mk (Kd.N_lower ho34 (below_size (by repeat (first | (with_reducible first | exact HB.out | apply below_alloc | apply pw_below_drewN | apply below_drew1) | exact HB.out)))); have n1_ := Aside0.mk (below_step (by repeat (first | (with_reducible first | exact HB.out | apply below_alloc | apply pw_below_drewN | apply below_drew1) | exact HB.out)) hb); clear HB; clear HO_8; have HO129 := n0_; have HB := n1_; clear n0_ n1_; clear hb ho34; obtain ⟨Ao35, co35, eo35⟩ := Kd.N_slice HO129.out; subst eo35) | ((with_reducible refine gate_callee (f := 8) rfl ?_); refine goesL_ (some 70) rfl rfl Tryd.func8 (by kernel_rfl) rfl #[.slice Ao35 y127.length co35, .slice none 0 0] rfl (by (try simp only [List.map_toArray, List.map_cons, List.map_nil]); first | done | rfl | (simp only [List.length_drop, List.length_take]; rfl)) ?_; (refine (lex_Lex.calls k3 _ _ y127 _ _ ([] : List (List Int)) t130 t133 _ ?side1 ?side2 ?side3 ?side4 A27.out).mono ?_); (case side1 => repeat (first | exact (Kd.N_reads' HO129.out).2.2 | (with_reducible refine Kd.C_alloc ?_ _) | (with_reducible refine Kd.C_drewN ?_ _) | (with_reducible refine Kd.C_drew ?_))); (case side2 => exact (Kd.N_reads' HO129.out).2.1); (case side3 => exact Kd.C_nil _ _); (case side4 => exact Nat.le_refl _); rintro e w36 ⟨v131, rfl, ho0, hb⟩; refine ⟨_, rfl, ?_⟩; have n0_ := Aside0.mk (Kd.N_below (by (with_reducible repeat (first | apply Kd.N_alloc | apply Kd.N_drewN | apply Kd.N_drew)); exact HO129.out) hb); have n1_ := Aside0.mk (Kd.V_lower (Kd.V_mono (ok' := fun k_ => some k_ ≠ (.slice Ao35 y127.length co35 : Value).ownBlock) ho0 (fun k_ hk_ => (Kd.fresh' (Kd.N_lt (by (with_reducible repeat (first | apply Kd.N_alloc | apply Kd.N_drewN | apply Kd.N_drew)); exact HO129.out)) k_ hk_))) (below_size (by repeat (first | (with_reducible first | exact HB.out | apply below_alloc | apply pw_below_drewN | apply below_drew1) | exact HB.out)))); have n2_ := Aside0.mk (below_step (by repeat (first | (with_reducible first | exact HB.out | apply below_alloc | apply pw_below_drewN | apply below_drew1) | exact HB.out)) hb); clear HO129; clear HB; have HO129 := n0_; have HO132 := n1_; have HB := n2_; clear n0_ n1_ n2_; (try clear hb); (try clear hb2); (try clear hk); (try clear hi); (try clear ho0); obtain ⟨Ao37, co37, eo37⟩ := Kd.V_slice HO132.out; subst eo37) | (go_at_call 9; (with_reducible refine (letterboxlaw17_known.calls k3  t134 _ A31.out).mono ?_); rintro e w38 ⟨rfl, hb⟩; have n0_ := Aside0.mk (Kd.N_below (by (with_reducible repeat (first | apply Kd.N_alloc | apply Kd.N_drewN | apply Kd.N_drew)); exact HO129.out) hb); have n1_ := Aside0.mk (Kd.V_below (by (with_reducible repeat (first | apply Kd.V_alloc | apply Kd.V_drewN | apply Kd.V_drew)); exact HO132.out) hb); have n2_ := Aside0.mk (below_step (by repeat (first | (with_reducible first | exact HB.out | apply below_alloc | apply pw_below_drewN | apply below_drew1) | exact HB.out)) hb); clear HO129; clear HO132; clear HB; have HO129 := n0_; have HO132 := n1_; have HB := n2_; clear n0_ n1_ n2_; (try clear hb); (try clear hb2); (try clear hk); (try clear hi)))
                          go_ret
                          exact ⟨by first | (rw [Hr_]; done) | rfl | (simp [errW_none, errW_some] <;> rfl) | (simp [*, errW_none, errW_some] <;> rfl), by repeat (first | (with_reducible first | exact HB.out | apply below_alloc | apply pw_below_drewN | apply below_drew1) | exact HB.out)⟩
                        · rw [if_neg c30] at H
                          have c30b0 : ((t130.length : Int) == 0) = false := beq_eq_false_iff_ne.mpr c30
                          have c30b1 : ((t130.length : Int) != 0) = true := bne_iff_ne.mpr c30
                          have c30b2 : ¬ (t130 = []) := fun h_ => c30 (by rw [h_]; rfl)
                          exact absurd H (by repeat' first | exact NT.none | exact NT.false | refine NT.ite ?_ ?_ | refine NT.bind (fun _ => ?_))
                      · rw [if_neg c29] at H
                        have c29b0 : (t133 == 5) = false := beq_eq_false_iff_ne.mpr c29
                        have c29b1 : (t133 != 5) = true := bne_iff_ne.mpr c29
                        exact absurd H (by repeat' first | exact NT.none | exact NT.false | refine NT.ite ?_ ?_ | refine NT.bind (fun _ => ?_))
                    · rw [if_neg c28] at H
                      have c28b0 : decide (64 < a0) = false := decide_eq_false c28
                      clear c28
                      have HC39 := Aside0.mk H
                      clear H
                      obtain ⟨Ao40, co40, eo40⟩ := Kd.R_slice HO_8.out
                      subst eo40
                      go_upto_region 20 with (first | ((with_reducible refine gate_dst (N := 69) rfl ?_); (try (refine gate_guard (by rfl) ?_; dsimp only)); refine Kd.N_lit (Kd.slice 5 (Kd.int .u8)) _ 23 ?hg (N' := 69) ?hd (xs := ([x8_3] : List (List Int))) (inner := [.slice Ao40 x8_3.length co40]) (ok := (fun _ => True)) (okp := (fun _ => True)) ?hr ?hp (fun _ hk => hk) ((show ∀ k_, wr.heap.size ≤ k_ → (fun _ => True) k_ from fun k_ hk => trivial) _ (Nat.le_refl _)) (Below.refl _ _) (Nat.le_refl _) (by simp) ?_; (case hd => rfl); (case hg => rfl); (case hr => first | (go_simp; done) | (go_simp; rfl)); (case hp => exact (Reps.one (show Kd.FK (Kd.slice 5 (Kd.int .u8)) _ _ x8_3 [.slice Ao40 x8_3.length co40] from (Kd.FK_slice_mk (Kd.R_reads' (Kd.R_mono (ok' := (fun _ => True)) (HO_8.out) (fun k_ hk => trivial))).2.1 (Kd.R_F (Kd.R_mono (ok' := (fun _ => True)) (HO_8.out) (fun k_ hk => trivial))))) (Reps.none _ _))); intro v128 w41 ho42 hb hg_ hnew_; clear hg_ hnew_; (first | rw [← Ny127.out] at ho42 | (simp only [Int.reduceToNat] at ho42; rw [← Ny127.out] at ho42)); have n0_ := Aside0.mk (Kd.N_lower ho42 (below_size (by repeat (first | (with_reducible first | exact HB.out | apply below_alloc | apply pw_below_drewN | apply below_drew1) | exact HB.out)))); have n1_ := Aside0.mk (below_step (by repeat (first | (with_reducible first | exact HB.out | apply below_alloc | apply pw_below_drewN | apply below_drew1) | exact HB.out)) hb); clear HB; clear HO_8; have HO129 := n0_; have HB := n1_; clear n0_ n1_; clear hb ho42; obtain ⟨Ao43, co43, eo43⟩ := Kd.N_slice HO129.out; subst eo43) | ((with_reducible refine gate_callee (f := 8) rfl ?_); refine goesL_ (some 70) rfl rfl Tryd.func8 (by kernel_rfl) rfl #[.slice Ao43 y127.length co43, .slice none 0 0] rfl (by (try simp only [List.map_toArray, List.map_cons, List.map_nil]); first | done | rfl | (simp only [List.length_drop, List.length_take]; rfl)) ?_; (refine (lex_Lex.calls k3 _ _ y127 _ _ ([] : List (List Int)) t130 t133 _ ?side1 ?side2 ?side3 ?side4 A27.out).mono ?_); (case side1 => repeat (first | exact (Kd.N_reads' HO129.out).2.2 | (with_reducible refine Kd.C_alloc ?_ _) | (with_reducible refine Kd.C_drewN ?_ _) | (with_reducible refine Kd.C_drew ?_))); (case side2 => exact (Kd.N_reads' HO129.out).2.1); (case side3 => exact Kd.C_nil _ _); (case side4 => exact Nat.le_refl _); rintro e w44 ⟨v131, rfl, ho0, hb⟩; refine ⟨_, rfl, ?_⟩; have n0_ := Aside0.mk (Kd.N_below (by (with_reducible repeat (first | apply Kd.N_alloc | apply Kd.N_drewN | apply Kd.N_drew)); exact HO129.out) hb); have n1_ := Aside0.mk (Kd.V_lower (Kd.V_mono (ok' := fun k_ => some k_ ≠ (.slice Ao43 y127.length co43 : Value).ownBlock) ho0 (fun k_ hk_ => (Kd.fresh' (Kd.N_lt (by (with_reducible repeat (first | apply Kd.N_alloc | apply Kd.N_drewN | apply Kd.N_drew)); exact HO129.out)) k_ hk_))) (below_size (by repeat (first | (with_reducible first | exact HB.out | apply below_alloc | apply pw_below_drewN | apply below_drew1) | exact HB.out)))); have n2_ := Aside0.mk (below_step (by repeat (first | (with_reducible first | exact HB.out | apply below_alloc | apply pw_below_drewN | apply below_drew1) | exact HB.out)) hb); clear HO129; clear HB; have HO129 := n0_; have HO132 := n1_; have HB := n2_; clear n0_ n1_ n2_; (try clear hb); (try clear hb2); (try clear hk); (try clear hi); (try clear ho0)))
                      (try simp only [Act.put, List.setIfInBounds_toArray, List.set_cons_zero, List.set_cons_succ])
                      go_cut [92] (fun v92 wc => ∃ (kq : Nat) (x92_38 : Bool), v92 = .bool x92_38 ∧ Aside0 (letterboxlaw17_LexAtoms.j4 kq a0 a2 t130 x92_38 = some true) ∧ Aside0 (kq ≤ k3) ∧ Aside0 (Kd.V k31 31 wc w.heap.size (fun _ => True) v131 t130) ∧ Aside0 (Below w.heap.size w wc))
                      case first =>
                        have H := HC39.out
                        clear HC39
                        by_cases c45 : t133 = 0
                        · rw [if_pos c45] at H
                          have c45b0 : (t133 == 0) = true := beq_iff_eq.mpr c45
                          have c45b1 : (t133 != 0) = false := bne_eq_false_iff_eq.mpr c45
                          clear c45
                          (first | rw [c45b0] | (simp only [i64_w, i32_w]; rw [c45b0]) | skip)
                          have H' := Aside0.mk H
                          clear H
                          obtain ⟨Ao46, co46, eo46⟩ := Kd.V_slice HO132.out
                          subst eo46
                          go_wp2
                          go_meet
                          case rel => exact ⟨_, (((t130.length : Int) != a0)), (by first | rfl | (simp; done) | (simp [*]; done)), H', ⟨by have := HJ3.out; have := HK2.out; have := HK3.out; first | omega | exact Nat.le_refl _⟩, ⟨by (with_reducible repeat (first | apply Kd.V_alloc | apply Kd.V_drewN | apply Kd.V_drew)); exact Kd.V_mono HO132.out (fun _ hk => trivial)⟩, ⟨by repeat (first | (with_reducible first | exact HB.out | apply below_alloc | apply pw_below_drewN | apply below_drew1) | exact HB.out)⟩⟩
                        · rw [if_neg c45] at H
                          have c45b0 : (t133 == 0) = false := beq_eq_false_iff_ne.mpr c45
                          have c45b1 : (t133 != 0) = true := bne_iff_ne.mpr c45
                          (first | rw [c45b0] | (simp only [i64_w, i32_w]; rw [c45b0]) | skip)
                          have H' := Aside0.mk H
                          clear H
                          go_wp2
                          go_meet
                          case rel => exact ⟨_, (true), (by first | rfl | (simp; done) | (simp [*]; done)), H', ⟨by have := HJ3.out; have := HK2.out; have := HK3.out; first | omega | exact Nat.le_refl _⟩, ⟨by (with_reducible repeat (first | apply Kd.V_alloc | apply Kd.V_drewN | apply Kd.V_drew)); exact Kd.V_mono HO132.out (fun _ hk => trivial)⟩, ⟨by repeat (first | (with_reducible first | exact HB.out | apply below_alloc | apply pw_below_drewN | apply below_drew1) | exact HB.out)⟩⟩
                      case rest =>
                        clear HC39
                        try clear c1
                        try clear p1
                        try clear q1
                        try clear hx1
                        try clear c2
                        try clear p2
                        try clear c3
                        try clear c4
                        try clear c5
                        try clear c5b0
                        try clear c6
                        try clear c6b0
                        try clear p6
                        try clear c7
                        try clear c7b0
                        try clear c8
                        try clear c8b0
                        try clear c9
                        try clear c9b0
                        try clear c9b1
                        try clear c11
                        try clear c12
                        try clear c12b0
                        try clear c13
                        try clear c13b0
                        try clear p14
                        try clear q14
                        try clear hx14
                        try clear c15
                        try clear c15b0
                        try clear c15b1
                        try clear c16
                        try clear c16b0
                        try clear c17
                        try clear c17b0
                        try clear c17b1
                        try clear c17b2
                        try clear c18
                        try clear c18b0
                        try clear c18b1
                        try clear c18b2
                        try clear c20
                        try clear c24
                        try clear c24b0
                        try clear c25
                        try clear c28
                        try clear c28b0
                        try clear c29
                        try clear c29b0
                        try clear c29b1
                        try clear c30
                        try clear c30b0
                        try clear c30b1
                        try clear c30b2
                        try clear c45
                        try clear c45b0
                        try clear c45b1
                        try clear p1
                        try clear p14
                        try clear p2
                        try clear p6
                        try clear q1
                        try clear q14
                        obtain ⟨kq, x92_38, rfl, HA, HJ38, HO_11, HB⟩ := hcut
                        cases kq with
                        | zero => exact absurd HA.out (by simp [letterboxlaw17_LexAtoms.j4])
                        | succ kj38 =>
                          have H := HA.out
                          clear HA
                          simp only [letterboxlaw17_LexAtoms.j4] at H
                          by_cases c47 : x92_38 = true
                          · subst c47
                            have H1 : (some false) = some true := by rw [if_pos rfl] at H; exact H
                            clear H
                            have H := H1
                            clear H1
                            exact absurd H (by repeat' first | exact NT.none | exact NT.false | refine NT.ite ?_ ?_ | refine NT.bind (fun _ => ?_))
                          · replace c47 := Bool.eq_false_iff.mpr c47
                            subst c47
                            have H1 : (letterboxlaw17_LexAtoms.l3 kj38 a0 a2 t130 0) = some true := by rw [if_neg (show ¬ (false = true) by decide)] at H; exact H
                            clear H
                            have H := H1
                            clear H1
                            have H' := Aside0.mk H
                            clear H
                            go_wp2
                            go_loopg [13] kj38 (fun kq v13 w' => ∃ (x13_5 : Int), v13 = .int .i64 x13_5 ∧ Aside0 (letterboxlaw17_LexAtoms.l3 kq a0 a2 t130 x13_5 = some true) ∧ Aside0 (kq ≤ kj38) ∧ Aside0 (Kd.V k31 31 w' w.heap.size (fun _ => True) v131 t130) ∧ Aside0 (Below w.heap.size w w'))
                            case atStart => exact ⟨(0), (by first | rfl | (simp; done) | (simp [*]; done)), H', ⟨Nat.le_refl _⟩, ⟨by (with_reducible repeat (first | apply Kd.V_alloc | apply Kd.V_drewN | apply Kd.V_drew)); exact HO_11.out⟩, ⟨by repeat (first | (with_reducible first | exact HB.out | apply below_alloc | apply pw_below_drewN | apply below_drew1) | exact HB.out)⟩⟩
                            case round =>
                              clear H'
                              try clear c1
                              try clear p1
                              try clear q1
                              try clear hx1
                              try clear c2
                              try clear p2
                              try clear c3
                              try clear c4
                              try clear c5
                              try clear c5b0
                              try clear c6
                              try clear c6b0
                              try clear p6
                              try clear c7
                              try clear c7b0
                              try clear c8
                              try clear c8b0
                              try clear c9
                              try clear c9b0
                              try clear c9b1
                              try clear c11
                              try clear c12
                              try clear c12b0
                              try clear c13
                              try clear c13b0
                              try clear p14
                              try clear q14
                              try clear hx14
                              try clear c15
                              try clear c15b0
                              try clear c15b1
                              try clear c16
                              try clear c16b0
                              try clear c17
                              try clear c17b0
                              try clear c17b1
                              try clear c17b2
                              try clear c18
                              try clear c18b0
                              try clear c18b1
                              try clear c18b2
                              try clear c20
                              try clear c24
                              try clear c24b0
                              try clear c25
                              try clear c28
                              try clear c28b0
                              try clear c29
                              try clear c29b0
                              try clear c29b1
                              try clear c30
                              try clear c30b0
                              try clear c30b1
                              try clear c30b2
                              try clear c45
                              try clear c45b0
                              try clear c45b1
                              try clear c47
                              try clear p1
                              try clear p14
                              try clear p2
                              try clear p6
                              try clear q1
                              try clear q14
                              obtain ⟨x13_5, rfl, HA, HK5, HO_11, HB⟩ := hrel
                              cases gk with
                              | zero => exact absurd HA.out (by simp [letterboxlaw17_LexAtoms.l3])
                              | succ k5 =>
                                have H := HA.out
                                clear HA
                                simp only [letterboxlaw17_LexAtoms.l3] at H
                                by_cases c48 : x13_5 < a0
                                · rw [if_pos c48] at H
                                  have c48b0 : decide (x13_5 < a0) = true := decide_eq_true c48
                                  clear c48
                                  by_cases c49 : 0 ≤ x13_5
                                  · rw [if_pos c49] at H
                                    have c49b0 : decide (0 ≤ x13_5) = true := decide_eq_true c49
                                    clear c49
                                    by_cases c50 : x13_5 < (t130.length : Int)
                                    · rw [if_pos c50] at H
                                      have c50b0 : decide (x13_5 < (t130.length : Int)) = true := decide_eq_true c50
                                      clear c50
                                      by_cases c51 : 2 + a2.size ≤ 9223372036854775807
                                      · rw [if_pos c51] at H
                                        have c51b0 := eq_true c51
                                        have c51b1 : decide (2 + a2.size ≤ 9223372036854775807) = true := decide_eq_true c51
                                        try have c51b2 : (9223372036854775807 < 2 + a2.size) = False := eq_false (Nat.not_lt.2 c51)
                                        by_cases c52 : 2 + a2.size + 2 ≤ 9223372036854775807
                                        · rw [if_pos c52] at H
                                          have c52b0 := eq_true c52
                                          have c52b1 : decide (2 + a2.size + 2 ≤ 9223372036854775807) = true := decide_eq_true c52
                                          try have c52b2 : (9223372036854775807 < 2 + a2.size + 2) = False := eq_false (Nat.not_lt.2 c52)
                                          by_cases c53 : (!(((rd_T31 t130 x13_5).f0) == 1) || (!((((rd_T31 t130 x13_5).f1).toList) == ((((⟨#[97, 91]⟩ : ByteArray) ++ a2) ++ (⟨#[93, 122]⟩ : ByteArray)).toList)))) = true
                                          · rw [if_pos c53] at H
                                            have c53b0 : (!(((rd_T31 t130 x13_5).f0) == 1) || (!((((rd_T31 t130 x13_5).f1).toList) == ((((⟨#[97, 91]⟩ : ByteArray) ++ a2) ++ (⟨#[93, 122]⟩ : ByteArray)).toList)))) = true := c53
                                            clear c53
                                            exact absurd H (by repeat' first | exact NT.none | exact NT.false | refine NT.ite ?_ ?_ | refine NT.bind (fun _ => ?_))
                                          · rw [if_neg c53] at H
                                            have c53b0 : (!(((rd_T31 t130 x13_5).f0) == 1) || (!((((rd_T31 t130 x13_5).f1).toList) == ((((⟨#[97, 91]⟩ : ByteArray) ++ a2) ++ (⟨#[93, 122]⟩ : ByteArray)).toList)))) = false := by simpa using c53
                                            clear c53
                                            have H' := Aside0.mk H
                                            clear H
                                            obtain ⟨Ao54, co54, eo54⟩ := Kd.V_slice HO_11.out
                                            subst eo54
                                            have p135 : 0 ≤ (x13_5 : Int) := of_decide_eq_true (by first | (with_reducible assumption) | assumption)
                                            have q135 : x13_5 < (t130.length : Int) := of_decide_eq_true (by first | (with_reducible assumption) | assumption)
                                            obtain ⟨ad135, e135, hx135_0, hx135_1⟩ := at_T31 (Kd.V_reads' HO_11.out).2.2 x13_5 p135 q135
                                            cases e135
                                            replace p135 := eq_true p135
                                            replace q135 := eq_true q135
                                            go_wp2
                                            go_roundg k5
                                            case measure => have := HJ3.out; have := HK2.out; have := HK3.out; have := HJ38.out; have := HK5.out; omega
                                            case rel => exact ⟨(wrap64 (x13_5 + 1)), (by first | rfl | (simp; done) | (simp [*]; done)), H', ⟨by have := HJ3.out; have := HK2.out; have := HK3.out; have := HJ38.out; have := HK5.out; omega⟩, ⟨by (with_reducible repeat (first | apply Kd.V_alloc | apply Kd.V_drewN | apply Kd.V_drew)); exact HO_11.out⟩, ⟨by repeat (first | (with_reducible first | exact HB.out | apply below_alloc | apply pw_below_drewN | apply below_drew1) | exact HB.out)⟩⟩
                                        · rw [if_neg c52] at H
                                          exact absurd H (by simp)
                                      · rw [if_neg c51] at H
                                        exact absurd H (by simp)
                                    · rw [if_neg c50] at H
                                      exact absurd H (by simp)
                                  · rw [if_neg c49] at H
                                    exact absurd H (by simp)
                                · rw [if_neg c48] at H
                                  have c48b0 : decide (x13_5 < a0) = false := decide_eq_false c48
                                  clear c48
                                  replace H := Option.bind_eq_some_iff.mp H
                                  obtain ⟨t136, A550, H⟩ := H
                                  replace H : (some t136) = some true := H
                                  have A55 := Aside0.mk A550
                                  clear A550
                                  have Hr_ := Option.some.inj H
                                  go_wp2_with (first | ((with_reducible refine gate_callee (f := 9) rfl ?_); refine goesL_ (some 107) rfl rfl Tryd.func9 (by kernel_rfl) rfl #[] rfl (by (try simp only [List.map_toArray, List.map_cons, List.map_nil]); first | done | rfl | (simp only [List.length_drop, List.length_take]; rfl)) ?_; (with_reducible refine (letterboxlaw17_known.calls k5  t136 _ A55.out).mono ?_); rintro e w56 ⟨rfl, hb⟩; refine ⟨_, rfl, ?_⟩; have n0_ := Aside0.mk (Kd.V_below (by (with_reducible repeat (first | apply Kd.V_alloc | apply Kd.V_drewN | apply Kd.V_drew)); exact HO_11.out) hb); have n1_ := Aside0.mk (below_step (by repeat (first | (with_reducible first | exact HB.out | apply below_alloc | apply pw_below_drewN | apply below_drew1) | exact HB.out)) hb); clear HO_11; clear HB; have HO_11 := n0_; have HB := n1_; clear n0_ n1_; (try clear hb); (try clear hb2); (try clear hk); (try clear hi)))
                                  go_ret
                                  exact ⟨by first | (rw [Hr_]; done) | rfl | (simp [errW_none, errW_some] <;> rfl) | (simp [*, errW_none, errW_some] <;> rfl), by repeat (first | (with_reducible first | exact HB.out | apply below_alloc | apply pw_below_drewN | apply below_drew1) | exact HB.out)⟩

-- NOT PRINTED: function 4 (letterboxlaw17_LexBad)

end Go.Proofs.YtbdmhlocafpehaaDoor.P
