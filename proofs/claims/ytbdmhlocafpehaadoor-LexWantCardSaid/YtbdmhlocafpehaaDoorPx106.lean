/- The walks of the seat's functions, one contract a function: printed by a program of this session's (wip/gen). Not trusted: Lean checks it. -/
import Derived.Test.YtbdmhlocafpehaaDoorPx1
import Derived.Test.YtbdmhlocafpehaaDoorPx2
import Derived.Test.YtbdmhlocafpehaaDoorLexLex
import Derived.Test.YtbdmhlocafpehaaDoorAux
import Derived.Test.YtbdmhlocafpehaaDoorBytes
import Derived.Test.YtbdmhlocafpehaaDoorConvA
import Derived.Test.YtbdmhlocafpehaaDoorMimeConv
import Derived.Test.YtbdmhlocafpehaaDoorGRow
namespace Go.Proofs.YtbdmhlocafpehaaDoor.P
open Go.RowKit Go.Proofs.YtbdmhlocafpehaaDoorW.PrintWords Go.Proofs.YtbdmhlocafpehaaDoorW.PrintLast Go.Proofs.YtbdmhlocafpehaaDoorW.PrintMore
attribute [local go_sem] max2_int min2_int max_two min_two max_three min_three max_four min_four   -- for this text's walks alone
set_option linter.unusedVariables false
set_option linter.unusedSimpArgs false

/-! ### letterboxlaw17_LexWant: function 6 -/
mutual
def letterboxlaw17_LexWant.j0 : Nat → Int → Int → Bool → Option (Bool)
  | 0, _, _, _ => none
  | k + 1, x0, x1, x33 => if x33 = true then (some true) else ((letterboxlaw17_dec.f k x0).bind fun t218 => (letterboxlaw17_LexWant.l0 k x0 x1 t218))
def letterboxlaw17_LexWant.l0 : Nat → Int → Int → ByteArray → Option (Bool)
  | 0, _, _, _ => none
  | k + 1, x0, x1, x7 => if (x7.size : Int) < x1 then (if 1 + x7.size ≤ 9223372036854775807 then (letterboxlaw17_LexWant.l0 k x0 x1 ((⟨#[48]⟩ : ByteArray) ++ x7)) else (none)) else (if 3 + x7.size ≤ 9223372036854775807 then (if 3 + x7.size + 1 ≤ 9223372036854775807 then ((conv_9_23.f (((⟨#[97, 32, 123]⟩ : ByteArray) ++ x7) ++ (⟨#[125]⟩ : ByteArray))).bind fun t219 => ((lex_Wants.f k t219).bind fun bt222 => (if 3 + x7.size + 2 ≤ 9223372036854775807 then ((conv_9_23.f (((⟨#[97, 32, 123]⟩ : ByteArray) ++ x7) ++ (⟨#[125, 120]⟩ : ByteArray))).bind fun t224 => ((lex_Wants.f k t224).bind fun bt227 => ((lex_Wants.f k (([97, 32, 123, 125] : List Int))).bind fun bt232 => (if (bt222.2 == (decide ((x7.size : Int) ≤ 7))) = true then (if bt222.2 = true then (if bt222.1 = x0 then (if bt227.2 = true then (some false) else (if bt232.2 = true then (some false) else ((letterboxlaw17_known.f k).bind fun t234 => (some t234)))) else (some false)) else (if bt227.2 = true then (some false) else (if bt232.2 = true then (some false) else ((letterboxlaw17_known.f k).bind fun t235 => (some t235))))) else (some false))))) else (none)))) else (none)) else (none))
end
def letterboxlaw17_LexWant.f (k : Nat) (a0 : Int) (a1 : Int) (a2 : ByteArray) : Option (Bool) := if a0 < 0 then (letterboxlaw17_LexWant.j0 k a0 a1 true) else (if a0 > 9999999 then (letterboxlaw17_LexWant.j0 k a0 a1 true) else (if a1 < 0 then (letterboxlaw17_LexWant.j0 k a0 a1 true) else (if a1 > 9 then (letterboxlaw17_LexWant.j0 k a0 a1 true) else (letterboxlaw17_LexWant.j0 k a0 a1 (decide ((a2.size : Int) > 20))))))
theorem letterboxlaw17_LexWant.mono_l : ∀ k, (∀ y0 y1 y2, LeO (letterboxlaw17_LexWant.j0 k y0 y1 y2) (letterboxlaw17_LexWant.j0 (k + 1) y0 y1 y2)) ∧ (∀ y0 y1 y2, LeO (letterboxlaw17_LexWant.l0 k y0 y1 y2) (letterboxlaw17_LexWant.l0 (k + 1) y0 y1 y2))
  | 0 => ⟨fun _ _ _ r h => by simp [letterboxlaw17_LexWant.j0] at h, fun _ _ _ r h => by simp [letterboxlaw17_LexWant.l0] at h⟩
  | k + 1 => by
    obtain ⟨ih0, ih1⟩ := letterboxlaw17_LexWant.mono_l k
    refine ⟨?_, ?_⟩
    · intro y0 y1 y2
      unfold letterboxlaw17_LexWant.j0
      repeat' first
      | (with_reducible exact ih0 _ _ _)
      | (with_reducible exact ih1 _ _ _)
      | (with_reducible exact letterboxlaw17_dec.mono _ _)
      | (with_reducible exact letterboxlaw17_known.mono _)
      | (with_reducible exact lex_Wants.mono _ _)
      | (with_reducible exact LeO.refl _)
      | (with_reducible exact LeO.none _)
      | (with_reducible refine LeO.ite ?_ ?_)
      | (with_reducible refine LeO.bind ?_ (fun _ => ?_))
      | exact ih0 _ _ _
      | exact ih1 _ _ _
      | exact letterboxlaw17_dec.mono _ _
      | exact letterboxlaw17_known.mono _
      | exact lex_Wants.mono _ _
      | exact LeO.none _
      | refine LeO.ite ?_ ?_
      | refine LeO.bind ?_ (fun _ => ?_)
    · intro y0 y1 y2
      unfold letterboxlaw17_LexWant.l0
      repeat' first
      | (with_reducible exact ih0 _ _ _)
      | (with_reducible exact ih1 _ _ _)
      | (with_reducible exact letterboxlaw17_dec.mono _ _)
      | (with_reducible exact letterboxlaw17_known.mono _)
      | (with_reducible exact lex_Wants.mono _ _)
      | (with_reducible exact LeO.refl _)
      | (with_reducible exact LeO.none _)
      | (with_reducible refine LeO.ite ?_ ?_)
      | (with_reducible refine LeO.bind ?_ (fun _ => ?_))
      | exact ih0 _ _ _
      | exact ih1 _ _ _
      | exact letterboxlaw17_dec.mono _ _
      | exact letterboxlaw17_known.mono _
      | exact lex_Wants.mono _ _
      | exact LeO.none _
      | refine LeO.ite ?_ ?_
      | refine LeO.bind ?_ (fun _ => ?_)
theorem letterboxlaw17_LexWant.mono : ∀ a0 a1 a2 k, LeO (letterboxlaw17_LexWant.f k a0 a1 a2) (letterboxlaw17_LexWant.f (k + 1) a0 a1 a2) := by
  intro a0 a1 a2 k
  obtain ⟨ih0, ih1⟩ := letterboxlaw17_LexWant.mono_l k
  unfold letterboxlaw17_LexWant.f
  repeat' first
      | (with_reducible exact ih0 _ _ _)
      | (with_reducible exact ih1 _ _ _)
      | (with_reducible exact letterboxlaw17_dec.mono _ _)
      | (with_reducible exact letterboxlaw17_known.mono _)
      | (with_reducible exact lex_Wants.mono _ _)
      | (with_reducible exact LeO.refl _)
      | (with_reducible exact LeO.none _)
      | (with_reducible refine LeO.ite ?_ ?_)
      | (with_reducible refine LeO.bind ?_ (fun _ => ?_))
      | exact ih0 _ _ _
      | exact ih1 _ _ _
      | exact letterboxlaw17_dec.mono _ _
      | exact letterboxlaw17_known.mono _
      | exact lex_Wants.mono _ _
      | exact LeO.none _
      | refine LeO.ite ?_ ?_
      | refine LeO.bind ?_ (fun _ => ?_)
set_option maxHeartbeats 8000000 in
set_option maxRecDepth 100000 in
theorem letterboxlaw17_LexWant.calls (k : Nat) (a0 : Int) (a1 : Int) (a2 : ByteArray) (w : World) (h : letterboxlaw17_LexWant.f k a0 a1 a2 = some true) :
    Calls Tryd.prog 6 #[.int .i64 a0, .int .i64 a1, .string a2] w fun e w' => e = .returned (.bool true) ∧ Below w.heap.size w w' := by
  have HB := Aside0.mk (Below.refl w.heap.size w)
  have H : (if a0 < 0 then (letterboxlaw17_LexWant.j0 k a0 a1 true) else (if a0 > 9999999 then (letterboxlaw17_LexWant.j0 k a0 a1 true) else (if a1 < 0 then (letterboxlaw17_LexWant.j0 k a0 a1 true) else (if a1 > 9 then (letterboxlaw17_LexWant.j0 k a0 a1 true) else (letterboxlaw17_LexWant.j0 k a0 a1 (decide ((a2.size : Int) > 20))))))) = some true := h
  clear h
  have HC4 := Aside0.mk H
  clear H
  go_enter Tryd.func6, Tryd.ntmps6
  go_upto_region 1 with (fail)
  go_cut [33] (fun v33 wc => ∃ (kq : Nat) (x33_3 : Bool), v33 = .bool x33_3 ∧ Aside0 (letterboxlaw17_LexWant.j0 kq a0 a1 x33_3 = some true) ∧ Aside0 (kq ≤ k) ∧ Aside0 (Below w.heap.size w wc))
  case first =>
    have H := HC4.out
    clear HC4
    by_cases c5 : a0 < 0
    · rw [if_pos c5] at H
      have c5b0 : decide (a0 < 0) = true := decide_eq_true c5
      clear c5
      (first | rw [c5b0] | (simp only [i64_w, i32_w]; rw [c5b0]) | skip)
      have H' := Aside0.mk H
      clear H
      go_wp2
      go_meet
      case rel => exact ⟨_, (true), (by first | rfl | (simp; done) | (simp [*]; done)), H', ⟨by first | omega | exact Nat.le_refl _⟩, ⟨by repeat (first | (with_reducible first | exact HB.out | apply below_alloc | apply pw_below_drewN | apply below_drew1) | exact HB.out)⟩⟩
    · rw [if_neg c5] at H
      have c5b0 : decide (a0 < 0) = false := decide_eq_false c5
      clear c5
      (first | rw [c5b0] | (simp only [i64_w, i32_w]; rw [c5b0]) | skip)
      by_cases c6 : a0 > 9999999
      · rw [if_pos c6] at H
        have c6b0 : decide (9999999 < a0) = true := decide_eq_true c6
        clear c6
        have H' := Aside0.mk H
        clear H
        go_wp2
        go_meet
        case rel => exact ⟨_, (true), (by first | rfl | (simp; done) | (simp [*]; done)), H', ⟨by first | omega | exact Nat.le_refl _⟩, ⟨by repeat (first | (with_reducible first | exact HB.out | apply below_alloc | apply pw_below_drewN | apply below_drew1) | exact HB.out)⟩⟩
      · rw [if_neg c6] at H
        have c6b0 : decide (9999999 < a0) = false := decide_eq_false c6
        clear c6
        by_cases c7 : a1 < 0
        · rw [if_pos c7] at H
          have c7b0 : decide (a1 < 0) = true := decide_eq_true c7
          clear c7
          have H' := Aside0.mk H
          clear H
          go_wp2
          go_meet
          case rel => exact ⟨_, (true), (by first | rfl | (simp; done) | (simp [*]; done)), H', ⟨by first | omega | exact Nat.le_refl _⟩, ⟨by repeat (first | (with_reducible first | exact HB.out | apply below_alloc | apply pw_below_drewN | apply below_drew1) | exact HB.out)⟩⟩
        · rw [if_neg c7] at H
          have c7b0 : decide (a1 < 0) = false := decide_eq_false c7
          clear c7
          by_cases c8 : a1 > 9
          · rw [if_pos c8] at H
            have c8b0 : decide (9 < a1) = true := decide_eq_true c8
            clear c8
            have H' := Aside0.mk H
            clear H
            go_wp2
            go_meet
            case rel => exact ⟨_, (true), (by first | rfl | (simp; done) | (simp [*]; done)), H', ⟨by first | omega | exact Nat.le_refl _⟩, ⟨by repeat (first | (with_reducible first | exact HB.out | apply below_alloc | apply pw_below_drewN | apply below_drew1) | exact HB.out)⟩⟩
          · rw [if_neg c8] at H
            have c8b0 : decide (9 < a1) = false := decide_eq_false c8
            clear c8
            have H' := Aside0.mk H
            clear H
            go_wp2
            go_meet
            case rel => exact ⟨_, (decide ((a2.size : Int) > 20)), (by first | rfl | (simp; done) | (simp [*]; done)), H', ⟨by first | omega | exact Nat.le_refl _⟩, ⟨by repeat (first | (with_reducible first | exact HB.out | apply below_alloc | apply pw_below_drewN | apply below_drew1) | exact HB.out)⟩⟩
  case rest =>
    clear HC4
    try clear p2
    try clear c5
    try clear c5b0
    try clear c6
    try clear c6b0
    try clear c7
    try clear c7b0
    try clear c8
    try clear c8b0
    obtain ⟨kq, x33_3, rfl, HA, HJ3, HB⟩ := hcut
    cases kq with
    | zero => exact absurd HA.out (by simp [letterboxlaw17_LexWant.j0])
    | succ kj3 =>
      have H := HA.out
      clear HA
      simp only [letterboxlaw17_LexWant.j0] at H
      by_cases c9 : x33_3 = true
      · subst c9
        have H1 : (some true) = some true := rfl
        clear H
        have H := H1
        clear H1
        first | (obtain rfl := Option.some.inj H) | (have Hr_ := Option.some.inj H)
        go_wp2
        go_ret
        exact ⟨by first | rfl | (simp [errW_none, errW_some] <;> rfl) | (simp [*, errW_none, errW_some] <;> rfl), by repeat (first | (with_reducible first | exact HB.out | apply below_alloc | apply pw_below_drewN | apply below_drew1) | exact HB.out)⟩
      · replace c9 := Bool.eq_false_iff.mpr c9
        subst c9
        have H1 : ((letterboxlaw17_dec.f kj3 a0).bind fun t218 => (letterboxlaw17_LexWant.l0 kj3 a0 a1 t218)) = some true := by rw [if_neg (show ¬ (false = true) by decide)] at H; exact H
        clear H
        have H := H1
        clear H1
        replace H := Option.bind_eq_some_iff.mp H
        obtain ⟨t218, A100, H⟩ := H
        replace H : (letterboxlaw17_LexWant.l0 kj3 a0 a1 t218) = some true := H
        have A10 := Aside0.mk A100
        clear A100
        have H' := Aside0.mk H
        clear H
        go_wp2_with (first | ((with_reducible refine gate_callee (f := 11) rfl ?_); refine goesL_ (some 35) rfl rfl Tryd.func11 (by kernel_rfl) rfl #[.int .i64 a0] rfl (by (try simp only [List.map_toArray, List.map_cons, List.map_nil]); first | done | rfl | (simp only [List.length_drop, List.length_take]; rfl)) ?_; (with_reducible refine (letterboxlaw17_dec.calls kj3 a0 t218 _ A10.out).mono ?_); rintro e w11 ⟨rfl, hb⟩; refine ⟨_, rfl, ?_⟩; have n0_ := Aside0.mk (below_step (by repeat (first | (with_reducible first | exact HB.out | apply below_alloc | apply pw_below_drewN | apply below_drew1) | exact HB.out)) hb); clear HB; have HB := n0_; clear n0_; (try clear hb); (try clear hb2); (try clear hk); (try clear hi)))
        go_loopg [7] kj3 (fun kq v7 w' => ∃ (x7_2 : ByteArray), v7 = .string x7_2 ∧ Aside0 (letterboxlaw17_LexWant.l0 kq a0 a1 x7_2 = some true) ∧ Aside0 (kq ≤ kj3) ∧ Aside0 (Below w.heap.size w w'))
        case atStart => exact ⟨(t218), (by first | rfl | (simp; done) | (simp [*]; done)), H', ⟨Nat.le_refl _⟩, ⟨by repeat (first | (with_reducible first | exact HB.out | apply below_alloc | apply pw_below_drewN | apply below_drew1) | exact HB.out)⟩⟩
        case round =>
          clear H'
          try clear c1
          try clear p2
          try clear c5
          try clear c5b0
          try clear c6
          try clear c6b0
          try clear c7
          try clear c7b0
          try clear c8
          try clear c8b0
          try clear c9
          try clear c11
          try clear p2
          obtain ⟨x7_2, rfl, HA, HK2, HB⟩ := hrel
          cases gk with
          | zero => exact absurd HA.out (by simp [letterboxlaw17_LexWant.l0])
          | succ k2 =>
            have H := HA.out
            clear HA
            simp only [letterboxlaw17_LexWant.l0] at H
            by_cases c12 : (x7_2.size : Int) < a1
            · rw [if_pos c12] at H
              have c12b0 : decide ((x7_2.size : Int) < a1) = true := decide_eq_true c12
              clear c12
              by_cases c13 : 1 + x7_2.size ≤ 9223372036854775807
              · rw [if_pos c13] at H
                have c13b0 := eq_true c13
                have c13b1 : decide (1 + x7_2.size ≤ 9223372036854775807) = true := decide_eq_true c13
                try have c13b2 : (9223372036854775807 < 1 + x7_2.size) = False := eq_false (Nat.not_lt.2 c13)
                have H' := Aside0.mk H
                clear H
                go_wp2
                go_roundg k2
                case measure => have := HJ3.out; have := HK2.out; omega
                case rel => exact ⟨((⟨#[48]⟩ : ByteArray) ++ x7_2), (by first | rfl | (simp; done) | (simp [*]; done)), H', ⟨by have := HJ3.out; have := HK2.out; omega⟩, ⟨by repeat (first | (with_reducible first | exact HB.out | apply below_alloc | apply pw_below_drewN | apply below_drew1) | exact HB.out)⟩⟩
              · rw [if_neg c13] at H
                exact absurd H (by simp)
            · rw [if_neg c12] at H
              have c12b0 : decide ((x7_2.size : Int) < a1) = false := decide_eq_false c12
              clear c12
              by_cases c14 : 3 + x7_2.size ≤ 9223372036854775807
              · rw [if_pos c14] at H
                have c14b0 := eq_true c14
                have c14b1 : decide (3 + x7_2.size ≤ 9223372036854775807) = true := decide_eq_true c14
                try have c14b2 : (9223372036854775807 < 3 + x7_2.size) = False := eq_false (Nat.not_lt.2 c14)
                by_cases c15 : 3 + x7_2.size + 1 ≤ 9223372036854775807
                · rw [if_pos c15] at H
                  have c15b0 := eq_true c15
                  have c15b1 : decide (3 + x7_2.size + 1 ≤ 9223372036854775807) = true := decide_eq_true c15
                  try have c15b2 : (9223372036854775807 < 3 + x7_2.size + 1) = False := eq_false (Nat.not_lt.2 c15)
                  replace H := Option.bind_eq_some_iff.mp H
                  obtain ⟨t219, A160, H⟩ := H
                  replace H : ((lex_Wants.f k2 t219).bind fun bt222 => (if 3 + x7_2.size + 2 ≤ 9223372036854775807 then ((conv_9_23.f (((⟨#[97, 32, 123]⟩ : ByteArray) ++ x7_2) ++ (⟨#[125, 120]⟩ : ByteArray))).bind fun t224 => ((lex_Wants.f k2 t224).bind fun bt227 => ((lex_Wants.f k2 (([97, 32, 123, 125] : List Int))).bind fun bt232 => (if (bt222.2 == (decide ((x7_2.size : Int) ≤ 7))) = true then (if bt222.2 = true then (if bt222.1 = a0 then (if bt227.2 = true then (some false) else (if bt232.2 = true then (some false) else ((letterboxlaw17_known.f k2).bind fun t234 => (some t234)))) else (some false)) else (if bt227.2 = true then (some false) else (if bt232.2 = true then (some false) else ((letterboxlaw17_known.f k2).bind fun t235 => (some t235))))) else (some false))))) else (none))) = some true := H
                  have A16 := Aside0.mk A160
                  clear A160
                  replace H := Option.bind_eq_some_iff.mp H
                  obtain ⟨⟨t222, t223⟩, A170, H⟩ := H
                  replace H : (if 3 + x7_2.size + 2 ≤ 9223372036854775807 then ((conv_9_23.f (((⟨#[97, 32, 123]⟩ : ByteArray) ++ x7_2) ++ (⟨#[125, 120]⟩ : ByteArray))).bind fun t224 => ((lex_Wants.f k2 t224).bind fun bt227 => ((lex_Wants.f k2 (([97, 32, 123, 125] : List Int))).bind fun bt232 => (if (t223 == (decide ((x7_2.size : Int) ≤ 7))) = true then (if t223 = true then (if t222 = a0 then (if bt227.2 = true then (some false) else (if bt232.2 = true then (some false) else ((letterboxlaw17_known.f k2).bind fun t234 => (some t234)))) else (some false)) else (if bt227.2 = true then (some false) else (if bt232.2 = true then (some false) else ((letterboxlaw17_known.f k2).bind fun t235 => (some t235))))) else (some false))))) else (none)) = some true := H
                  have A17 := Aside0.mk A170
                  clear A170
                  by_cases c18 : 3 + x7_2.size + 2 ≤ 9223372036854775807
                  · rw [if_pos c18] at H
                    have c18b0 := eq_true c18
                    have c18b1 : decide (3 + x7_2.size + 2 ≤ 9223372036854775807) = true := decide_eq_true c18
                    try have c18b2 : (9223372036854775807 < 3 + x7_2.size + 2) = False := eq_false (Nat.not_lt.2 c18)
                    replace H := Option.bind_eq_some_iff.mp H
                    obtain ⟨t224, A190, H⟩ := H
                    replace H : ((lex_Wants.f k2 t224).bind fun bt227 => ((lex_Wants.f k2 (([97, 32, 123, 125] : List Int))).bind fun bt232 => (if (t223 == (decide ((x7_2.size : Int) ≤ 7))) = true then (if t223 = true then (if t222 = a0 then (if bt227.2 = true then (some false) else (if bt232.2 = true then (some false) else ((letterboxlaw17_known.f k2).bind fun t234 => (some t234)))) else (some false)) else (if bt227.2 = true then (some false) else (if bt232.2 = true then (some false) else ((letterboxlaw17_known.f k2).bind fun t235 => (some t235))))) else (some false)))) = some true := H
                    have A19 := Aside0.mk A190
                    clear A190
                    replace H := Option.bind_eq_some_iff.mp H
                    obtain ⟨⟨t227, t228⟩, A200, H⟩ := H
                    replace H : ((lex_Wants.f k2 (([97, 32, 123, 125] : List Int))).bind fun bt232 => (if (t223 == (decide ((x7_2.size : Int) ≤ 7))) = true then (if t223 = true then (if t222 = a0 then (if t228 = true then (some false) else (if bt232.2 = true then (some false) else ((letterboxlaw17_known.f k2).bind fun t234 => (some t234)))) else (some false)) else (if t228 = true then (some false) else (if bt232.2 = true then (some false) else ((letterboxlaw17_known.f k2).bind fun t235 => (some t235))))) else (some false))) = some true := H
                    have A20 := Aside0.mk A200
                    clear A200
                    obtain ⟨y229, hy229⟩ : ∃ y_ : List Int, y_ = (([97, 32, 123, 125] : List Int)) := ⟨_, rfl⟩
                    replace H : ((lex_Wants.f k2 y229).bind fun bt232 => (if (t223 == (decide ((x7_2.size : Int) ≤ 7))) = true then (if t223 = true then (if t222 = a0 then (if t228 = true then (some false) else (if bt232.2 = true then (some false) else ((letterboxlaw17_known.f k2).bind fun t234 => (some t234)))) else (some false)) else (if t228 = true then (some false) else (if bt232.2 = true then (some false) else ((letterboxlaw17_known.f k2).bind fun t235 => (some t235))))) else (some false))) = some true := by first | (rw [hy229]; with_reducible exact H) | (have H2_ := (Option.bind_some _ _).symm.trans H; rw [hy229]; with_reducible exact H2_) | (have H2_ := (Option.bind_some _ _).symm.trans H; with_reducible exact H2_) | with_reducible exact H | (rw [hy229]; exact H) | exact H
                    have Ny229 := Aside0.mk hy229
                    clear hy229
                    replace H := Option.bind_eq_some_iff.mp H
                    obtain ⟨⟨t232, t233⟩, A210, H⟩ := H
                    replace H : (if (t223 == (decide ((x7_2.size : Int) ≤ 7))) = true then (if t223 = true then (if t222 = a0 then (if t228 = true then (some false) else (if t233 = true then (some false) else ((letterboxlaw17_known.f k2).bind fun t234 => (some t234)))) else (some false)) else (if t228 = true then (some false) else (if t233 = true then (some false) else ((letterboxlaw17_known.f k2).bind fun t235 => (some t235))))) else (some false)) = some true := H
                    have A21 := Aside0.mk A210
                    clear A210
                    by_cases c22 : (t223 == (decide ((x7_2.size : Int) ≤ 7))) = true
                    · rw [if_pos c22] at H
                      have c22b0 : (t223 == (decide ((x7_2.size : Int) ≤ 7))) = true := c22
                      (try (have c22b1 : decide (t223 = (decide ((x7_2.size : Int) ≤ 7))) = true := by simpa using c22))
                      (try (have c22b2 : (t223 == (decide ((x7_2.size : Int) ≤ 7))) = true := by simpa using c22))
                      clear c22
                      by_cases c23 : t223 = true
                      · subst c23
                        have H1 : (if t222 = a0 then (if t228 = true then (some false) else (if t233 = true then (some false) else ((letterboxlaw17_known.f k2).bind fun t234 => (some t234)))) else (some false)) = some true := by rw [if_pos rfl] at H; exact H
                        clear H
                        have H := H1
                        clear H1
                        by_cases c24 : t222 = a0
                        · rw [if_pos c24] at H
                          have c24b0 : (t222 == a0) = true := beq_iff_eq.mpr c24
                          have c24b1 : (t222 != a0) = false := bne_eq_false_iff_eq.mpr c24
                          clear c24
                          by_cases c25 : t228 = true
                          · subst c25
                            have H1 : (some false) = some true := by rw [if_pos rfl] at H; exact H
                            clear H
                            have H := H1
                            clear H1
                            exact absurd H (by repeat' first | exact NT.none | exact NT.false | refine NT.ite ?_ ?_ | refine NT.bind (fun _ => ?_))
                          · replace c25 := Bool.eq_false_iff.mpr c25
                            subst c25
                            have H1 : (if t233 = true then (some false) else ((letterboxlaw17_known.f k2).bind fun t234 => (some t234))) = some true := by rw [if_neg (show ¬ (false = true) by decide)] at H; exact H
                            clear H
                            have H := H1
                            clear H1
                            by_cases c26 : t233 = true
                            · subst c26
                              have H1 : (some false) = some true := by rw [if_pos rfl] at H; exact H
                              clear H
                              have H := H1
                              clear H1
                              exact absurd H (by repeat' first | exact NT.none | exact NT.false | refine NT.ite ?_ ?_ | refine NT.bind (fun _ => ?_))
                            · replace c26 := Bool.eq_false_iff.mpr c26
                              subst c26
                              have H1 : ((letterboxlaw17_known.f k2).bind fun t234 => (some t234)) = some true := by rw [if_neg (show ¬ (false = true) by decide)] at H; exact H
                              clear H
                              have H := H1
                              clear H1
                              replace H := Option.bind_eq_some_iff.mp H
                              obtain ⟨t234, A270, H⟩ := H
                              replace H : (some t234) = some true := H
                              have A27 := Aside0.mk A270
                              clear A270
                              have Hr_ := Option.some.inj H
                              go_wp2_with (first | ((with_reducible refine gate_dst (N := 46) rfl ?_); refine convL_ (some 46) rfl rfl (s := (((⟨#[97, 32, 123]⟩ : ByteArray) ++ x7_2) ++ (⟨#[125]⟩ : ByteArray))) rfl (by (try simp only [List.map_toArray, List.map_cons, List.map_nil]); first | done | rfl | (simp only [List.length_drop, List.length_take]; rfl)) ?_; (with_reducible refine (conv_9_23.calls (((⟨#[97, 32, 123]⟩ : ByteArray) ++ x7_2) ++ (⟨#[125]⟩ : ByteArray)) t219 _ A16.out).mono ?_); rintro e w28 ⟨v220, rfl, ho0, hb⟩; refine ⟨_, rfl, ?_⟩; have n0_ := Aside0.mk (Kd.V_lower (Kd.V_mono (ok' := fun k_ => True) ho0 (fun k_ hk_ => trivial)) (below_size (by repeat (first | (with_reducible first | exact HB.out | apply below_alloc | apply pw_below_drewN | apply below_drew1) | exact HB.out)))); have n1_ := Aside0.mk (below_step (by repeat (first | (with_reducible first | exact HB.out | apply below_alloc | apply pw_below_drewN | apply below_drew1) | exact HB.out)) hb); clear HB; have HO221 := n0_; have HB := n1_; clear n0_ n1_; (try clear hb); (try clear hb2); (try clear hk); (try clear hi); (try clear ho0); obtain ⟨Ao29, co29, eo29⟩ := Kd.V_slice HO221.out; subst eo29) | ((with_reducible refine gate_callee (f := 12) rfl ?_); refine goesL_ (some 47) rfl rfl Tryd.func12 (by kernel_rfl) rfl #[.slice Ao29 t219.length co29] rfl (by (try simp only [List.map_toArray, List.map_cons, List.map_nil]); first | done | rfl | (simp only [List.length_drop, List.length_take]; rfl)) ?_; (with_reducible refine (lex_Wants.calls k2 _ _ t219 t222 true _ ?side1 ?side2 A17.out).mono ?_); (case side1 => repeat (first | exact (Kd.V_reads' HO221.out).2.2 | (with_reducible refine Kd.C_alloc ?_ _) | (with_reducible refine Kd.C_drewN ?_ _) | (with_reducible refine Kd.C_drew ?_))); (case side2 => exact (Kd.V_reads' HO221.out).2.1); rintro e w30 ⟨rfl, hb⟩; refine ⟨_, rfl, ?_⟩; have n0_ := Aside0.mk (Kd.V_below (by (with_reducible repeat (first | apply Kd.V_alloc | apply Kd.V_drewN | apply Kd.V_drew)); exact HO221.out) hb); have n1_ := Aside0.mk (below_step (by repeat (first | (with_reducible first | exact HB.out | apply below_alloc | apply pw_below_drewN | apply below_drew1) | exact HB.out)) hb); clear HO221; clear HB; have HO221 := n0_; have HB := n1_; clear n0_ n1_; (try clear hb); (try clear hb2); (try clear hk); (try clear hi)) | ((with_reducible refine gate_dst (N := 57) rfl ?_); refine convL_ (some 57) rfl rfl (s := (((⟨#[97, 32, 123]⟩ : ByteArray) ++ x7_2) ++ (⟨#[125, 120]⟩ : ByteArray))) rfl (by (try simp only [List.map_toArray, List.map_cons, List.map_nil]); first | done | rfl | (simp only [List.length_drop, List.length_take]; rfl)) ?_; (with_reducible refine (conv_9_23.calls (((⟨#[97, 32, 123]⟩ : ByteArray) ++ x7_2) ++ (⟨#[125, 120]⟩ : ByteArray)) t224 _ A19.out).mono ?_); rintro e w31 ⟨v225, rfl, ho0, hb⟩; refine ⟨_, rfl, ?_⟩; have n0_ := Aside0.mk (Kd.V_below (by (with_reducible repeat (first | apply Kd.V_alloc | apply Kd.V_drewN | apply Kd.V_drew)); exact HO221.out) hb); have n1_ := Aside0.mk (Kd.V_lower (Kd.V_mono (ok' := fun k_ => True) ho0 (fun k_ hk_ => trivial)) (below_size (by repeat (first | (with_reducible first | exact HB.out | apply below_alloc | apply pw_below_drewN | apply below_drew1) | exact HB.out)))); have n2_ := Aside0.mk (below_step (by repeat (first | (with_reducible first | exact HB.out | apply below_alloc | apply pw_below_drewN | apply below_drew1) | exact HB.out)) hb); clear HO221; clear HB; have HO221 := n0_; have HO226 := n1_; have HB := n2_; clear n0_ n1_ n2_; (try clear hb); (try clear hb2); (try clear hk); (try clear hi); (try clear ho0); obtain ⟨Ao32, co32, eo32⟩ := Kd.V_slice HO226.out; subst eo32) | ((with_reducible refine gate_callee (f := 12) rfl ?_); refine goesL_ (some 58) rfl rfl Tryd.func12 (by kernel_rfl) rfl #[.slice Ao32 t224.length co32] rfl (by (try simp only [List.map_toArray, List.map_cons, List.map_nil]); first | done | rfl | (simp only [List.length_drop, List.length_take]; rfl)) ?_; (with_reducible refine (lex_Wants.calls k2 _ _ t224 t227 false _ ?side1 ?side2 A20.out).mono ?_); (case side1 => repeat (first | exact (Kd.V_reads' HO226.out).2.2 | (with_reducible refine Kd.C_alloc ?_ _) | (with_reducible refine Kd.C_drewN ?_ _) | (with_reducible refine Kd.C_drew ?_))); (case side2 => exact (Kd.V_reads' HO226.out).2.1); rintro e w33 ⟨rfl, hb⟩; refine ⟨_, rfl, ?_⟩; have n0_ := Aside0.mk (Kd.V_below (by (with_reducible repeat (first | apply Kd.V_alloc | apply Kd.V_drewN | apply Kd.V_drew)); exact HO221.out) hb); have n1_ := Aside0.mk (Kd.V_below (by (with_reducible repeat (first | apply Kd.V_alloc | apply Kd.V_drewN | apply Kd.V_drew)); exact HO226.out) hb); have n2_ := Aside0.mk (below_step (by repeat (first | (with_reducible first | exact HB.out | apply below_alloc | apply pw_below_drewN | apply below_drew1) | exact HB.out)) hb); clear HO221; clear HO226; clear HB; have HO221 := n0_; have HO226 := n1_; have HB := n2_; clear n0_ n1_ n2_; (try clear hb); (try clear hb2); (try clear hk); (try clear hi)) | ((with_reducible refine gate_dst (N := 63) rfl ?_); refine litC_ [97, 32, 123, 125] y229 Ny229.out (some 63) rfl rfl rfl rfl (by rw [Ny229.out]; rfl) (by rw [Ny229.out]; decide) ?_; intro w34 hG_ hb; have n0_ := Aside0.mk (Kd.V_below HO221.out hb); have n1_ := Aside0.mk (Kd.V_below HO226.out hb); have n2_ := Aside0.mk (G_Vb w.heap.size hG_); have n3_ := Aside0.mk (below_step HB.out hb); clear HO221 HO226 HB; have HO221 := n0_; have HO226 := n1_; have HO231 := n2_; have HB := n3_; clear n0_ n1_ n2_ n3_; clear hb hG_) | ((with_reducible refine gate_callee (f := 12) rfl ?_); refine goesL_ (some 64) rfl rfl Tryd.func12 (by kernel_rfl) rfl #[.slice (some ⟨w33.heap.size, 0, none⟩) y229.length y229.length] rfl (by (try simp only [List.map_toArray, List.map_cons, List.map_nil]); first | done | rfl | (simp only [List.length_drop, List.length_take]; rfl)) ?_; (with_reducible refine (lex_Wants.calls k2 _ _ y229 t232 false _ ?side1 ?side2 A21.out).mono ?_); (case side1 => repeat (first | exact (Kd.V_reads' HO231.out).2.2 | (with_reducible refine Kd.C_alloc ?_ _) | (with_reducible refine Kd.C_drewN ?_ _) | (with_reducible refine Kd.C_drew ?_))); (case side2 => exact (Kd.V_reads' HO231.out).2.1); rintro e w37 ⟨rfl, hb⟩; refine ⟨_, rfl, ?_⟩; have n0_ := Aside0.mk (Kd.V_below (by (with_reducible repeat (first | apply Kd.V_alloc | apply Kd.V_drewN | apply Kd.V_drew)); exact HO221.out) hb); have n1_ := Aside0.mk (Kd.V_below (by (with_reducible repeat (first | apply Kd.V_alloc | apply Kd.V_drewN | apply Kd.V_drew)); exact HO226.out) hb); have n2_ := Aside0.mk (Kd.V_below HO231.out hb); have n3_ := Aside0.mk (below_step (by repeat (first | (with_reducible first | exact HB.out | apply below_alloc | apply pw_below_drewN | apply below_drew1) | exact HB.out)) hb); clear HO221; clear HO226; clear HO231; clear HB; have HO221 := n0_; have HO226 := n1_; have HO231 := n2_; have HB := n3_; clear n0_ n1_ n2_ n3_; (try clear hb); (try clear hb2); (try clear hk); (try clear hi)) | (go_at_call 9; (with_reducible refine (letterboxlaw17_known.calls k2  t234 _ A27.out).mono ?_); rintro e w38 ⟨rfl, hb⟩; have n0_ := Aside0.mk (Kd.V_below (by (with_reducible repeat (first | apply Kd.V_alloc | apply Kd.V_drewN | apply Kd.V_drew)); exact HO221.out) hb); have n1_ := Aside0.mk (Kd.V_below (by (with_reducible repeat (first | apply Kd.V_alloc | apply Kd.V_drewN | apply Kd.V_drew)); exact HO226.out) hb); have n2_ := Aside0.mk (Kd.V_below HO231.out hb); have n3_ := Aside0.mk (below_step (by repeat (first | (with_reducible first | exact HB.out | apply below_alloc | apply pw_below_drewN | apply below_drew1) | exact HB.out)) hb); clear HO221; clear HO226; clear HO231; clear HB; have HO221 := n0_; have HO226 := n1_; have HO231 := n2_; have HB := n3_; clear n0_ n1_ n2_ n3_; (try clear hb); (try clear hb2); (try clear hk); (try clear hi)))
                              go_ret
                              exact ⟨by first | (rw [Hr_]; done) | rfl | (simp [errW_none, errW_some] <;> rfl) | (simp [*, errW_none, errW_some] <;> rfl), by repeat (first | (with_reducible first | exact HB.out | apply below_alloc | apply pw_below_drewN | apply below_drew1) | exact HB.out)⟩
                        · rw [if_neg c24] at H
                          have c24b0 : (t222 == a0) = false := beq_eq_false_iff_ne.mpr c24
                          have c24b1 : (t222 != a0) = true := bne_iff_ne.mpr c24
                          exact absurd H (by repeat' first | exact NT.none | exact NT.false | refine NT.ite ?_ ?_ | refine NT.bind (fun _ => ?_))
                      · replace c23 := Bool.eq_false_iff.mpr c23
                        subst c23
                        have H1 : (if t228 = true then (some false) else (if t233 = true then (some false) else ((letterboxlaw17_known.f k2).bind fun t235 => (some t235)))) = some true := by rw [if_neg (show ¬ (false = true) by decide)] at H; exact H
                        clear H
                        have H := H1
                        clear H1
                        by_cases c39 : t228 = true
                        · subst c39
                          have H1 : (some false) = some true := by rw [if_pos rfl] at H; exact H
                          clear H
                          have H := H1
                          clear H1
                          exact absurd H (by repeat' first | exact NT.none | exact NT.false | refine NT.ite ?_ ?_ | refine NT.bind (fun _ => ?_))
                        · replace c39 := Bool.eq_false_iff.mpr c39
                          subst c39
                          have H1 : (if t233 = true then (some false) else ((letterboxlaw17_known.f k2).bind fun t235 => (some t235))) = some true := by rw [if_neg (show ¬ (false = true) by decide)] at H; exact H
                          clear H
                          have H := H1
                          clear H1
                          by_cases c40 : t233 = true
                          · subst c40
                            have H1 : (some false) = some true := by rw [if_pos rfl] at H; exact H
                            clear H
                            have H := H1
                            clear H1
                            exact absurd H (by repeat' first | exact NT.none | exact NT.false | refine NT.ite ?_ ?_ | refine NT.bind (fun _ => ?_))
                          · replace c40 := Bool.eq_false_iff.mpr c40
                            subst c40
                            have H1 : ((letterboxlaw17_known.f k2).bind fun t235 => (some t235)) = some true := by rw [if_neg (show ¬ (false = true) by decide)] at H; exact H
                            clear H
                            have H := H1
                            clear H1
                            replace H := Option.bind_eq_some_iff.mp H
                            obtain ⟨t235, A410, H⟩ := H
                            replace H : (some t235) = some true := H
                            have A41 := Aside0.mk A410
                            clear A410
                            have Hr_ := Option.some.inj H
                            go_wp2_with (first | ((with_reducible refine gate_dst (N := 46) rfl ?_); refine convL_ (some 46) rfl rfl (s := (((⟨#[97, 32, 123]⟩ : ByteArray) ++ x7_2) ++ (⟨#[125]⟩ : ByteArray))) rfl (by (try simp only [List.map_toArray, List.map_cons, List.map_nil]); first | done | rfl | (simp only [List.length_drop, List.length_take]; rfl)) ?_; (with_reducible refine (conv_9_23.calls (((⟨#[97, 32, 123]⟩ : ByteArray) ++ x7_2) ++ (⟨#[125]⟩ : ByteArray)) t219 _ A16.out).mono ?_); rintro e w42 ⟨v220, rfl, ho0, hb⟩; refine ⟨_, rfl, ?_⟩; have n0_ := Aside0.mk (Kd.V_lower (Kd.V_mono (ok' := fun k_ => True) ho0 (fun k_ hk_ => trivial)) (below_size (by repeat (first | (with_reducible first | exact HB.out | apply below_alloc | apply pw_below_drewN | apply below_drew1) | exact HB.out)))); have n1_ := Aside0.mk (below_step (by repeat (first | (with_reducible first | exact HB.out | apply below_alloc | apply pw_below_drewN | apply below_drew1) | exact HB.out)) hb); clear HB; have HO221 := n0_; have HB := n1_; clear n0_ n1_; (try clear hb); (try clear hb2); (try clear hk); (try clear hi); (try clear ho0); obtain ⟨Ao43, co43, eo43⟩ := Kd.V_slice HO221.out; subst eo43) | ((with_reducible refine gate_callee (f := 12) rfl ?_); refine goesL_ (some 47) rfl rfl Tryd.func12 (by kernel_rfl) rfl #[.slice Ao43 t219.length co43] rfl (by (try simp only [List.map_toArray, List.map_cons, List.map_nil]); first | done | rfl | (simp only [List.length_drop, List.length_take]; rfl)) ?_; (with_reducible refine (lex_Wants.calls k2 _ _ t219 t222 false _ ?side1 ?side2 A17.out).mono ?_); (case side1 => repeat (first | exact (Kd.V_reads' HO221.out).2.2 | (with_reducible refine Kd.C_alloc ?_ _) | (with_reducible refine Kd.C_drewN ?_ _) | (with_reducible refine Kd.C_drew ?_))); (case side2 => exact (Kd.V_reads' HO221.out).2.1); rintro e w44 ⟨rfl, hb⟩; refine ⟨_, rfl, ?_⟩; have n0_ := Aside0.mk (Kd.V_below (by (with_reducible repeat (first | apply Kd.V_alloc | apply Kd.V_drewN | apply Kd.V_drew)); exact HO221.out) hb); have n1_ := Aside0.mk (below_step (by repeat (first | (with_reducible first | exact HB.out | apply below_alloc | apply pw_below_drewN | apply below_drew1) | exact HB.out)) hb); clear HO221; clear HB; have HO221 := n0_; have HB := n1_; clear n0_ n1_; (try clear hb); (try clear hb2); (try clear hk); (try clear hi)) | ((with_reducible refine gate_dst (N := 57) rfl ?_); refine convL_ (some 57) rfl rfl (s := (((⟨#[97, 32, 123]⟩ : ByteArray) ++ x7_2) ++ (⟨#[125, 120]⟩ : ByteArray))) rfl (by (try simp only [List.map_toArray, List.map_cons, List.map_nil]); first | done | rfl | (simp only [List.length_drop, List.length_take]; rfl)) ?_; (with_reducible refine (conv_9_23.calls (((⟨#[97, 32, 123]⟩ : ByteArray) ++ x7_2) ++ (⟨#[125, 120]⟩ : ByteArray)) t224 _ A19.out).mono ?_); rintro e w45 ⟨v225, rfl, ho0, hb⟩; refine ⟨_, rfl, ?_⟩; have n0_ := Aside0.mk (Kd.V_below (by (with_reducible repeat (first | apply Kd.V_alloc | apply Kd.V_drewN | apply Kd.V_drew)); exact HO221.out) hb); have n1_ := Aside0.mk (Kd.V_lower (Kd.V_mono (ok' := fun k_ => True) ho0 (fun k_ hk_ => trivial)) (below_size (by repeat (first | (with_reducible first | exact HB.out | apply below_alloc | apply pw_below_drewN | apply below_drew1) | exact HB.out)))); have n2_ := Aside0.mk (below_step (by repeat (first | (with_reducible first | exact HB.out | apply below_alloc | apply pw_below_drewN | apply below_drew1) | exact HB.out)) hb); clear HO221; clear HB; have HO221 := n0_; have HO226 := n1_; have HB := n2_; clear n0_ n1_ n2_; (try clear hb); (try clear hb2); (try clear hk); (try clear hi); (try clear ho0); obtain ⟨Ao46, co46, eo46⟩ := Kd.V_slice HO226.out; subst eo46) | ((with_reducible refine gate_callee (f := 12) rfl ?_); refine goesL_ (some 58) rfl rfl Tryd.func12 (by kernel_rfl) rfl #[.slice Ao46 t224.length co46] rfl (by (try simp only [List.map_toArray, List.map_cons, List.map_nil]); first | done | rfl | (simp only [List.length_drop, List.length_take]; rfl)) ?_; (with_reducible refine (lex_Wants.calls k2 _ _ t224 t227 false _ ?side1 ?side2 A20.out).mono ?_); (case side1 => repeat (first | exact (Kd.V_reads' HO226.out).2.2 | (with_reducible refine Kd.C_alloc ?_ _) | (with_reducible refine Kd.C_drewN ?_ _) | (with_reducible refine Kd.C_drew ?_))); (case side2 => exact (Kd.V_reads' HO226.out).2.1); rintro e w47 ⟨rfl, hb⟩; refine ⟨_, rfl, ?_⟩; have n0_ := Aside0.mk (Kd.V_below (by (with_reducible repeat (first | apply Kd.V_alloc | apply Kd.V_drewN | apply Kd.V_drew)); exact HO221.out) hb); have n1_ := Aside0.mk (Kd.V_below (by (with_reducible repeat (first | apply Kd.V_alloc | apply Kd.V_drewN | apply Kd.V_drew)); exact HO226.out) hb); have n2_ := Aside0.mk (below_step (by repeat (first | (with_reducible first | exact HB.out | apply below_alloc | apply pw_below_drewN | apply below_drew1) | exact HB.out)) hb); clear HO221; clear HO226; clear HB; have HO221 := n0_; have HO226 := n1_; have HB := n2_; clear n0_ n1_ n2_; (try clear hb); (try clear hb2); (try clear hk); (try clear hi)) | ((with_reducible refine gate_dst (N := 63) rfl ?_); refine litC_ [97, 32, 123, 125] y229 Ny229.out (some 63) rfl rfl rfl rfl (by rw [Ny229.out]; rfl) (by rw [Ny229.out]; decide) ?_; intro w48 hG_ hb; have n0_ := Aside0.mk (Kd.V_below HO221.out hb); have n1_ := Aside0.mk (Kd.V_below HO226.out hb); have n2_ := Aside0.mk (G_Vb w.heap.size hG_); have n3_ := Aside0.mk (below_step HB.out hb); clear HO221 HO226 HB; have HO221 := n0_; have HO226 := n1_; have HO231 := n2_; have HB := n3_; clear n0_ n1_ n2_ n3_; clear hb hG_) | ((with_reducible refine gate_callee (f := 12) rfl ?_); refine goesL_ (some 64) rfl rfl Tryd.func12 (by kernel_rfl) rfl #[.slice (some ⟨w47.heap.size, 0, none⟩) y229.length y229.length] rfl (by (try simp only [List.map_toArray, List.map_cons, List.map_nil]); first | done | rfl | (simp only [List.length_drop, List.length_take]; rfl)) ?_; (with_reducible refine (lex_Wants.calls k2 _ _ y229 t232 false _ ?side1 ?side2 A21.out).mono ?_); (case side1 => repeat (first | exact (Kd.V_reads' HO231.out).2.2 | (with_reducible refine Kd.C_alloc ?_ _) | (with_reducible refine Kd.C_drewN ?_ _) | (with_reducible refine Kd.C_drew ?_))); (case side2 => exact (Kd.V_reads' HO231.out).2.1); rintro e w51 ⟨rfl, hb⟩; refine ⟨_, rfl, ?_⟩; have n0_ := Aside0.mk (Kd.V_below (by (with_reducible repeat (first | apply Kd.V_alloc | apply Kd.V_drewN | apply Kd.V_drew)); exact HO221.out) hb); have n1_ := Aside0.mk (Kd.V_below (by (with_reducible repeat (first | apply Kd.V_alloc | apply Kd.V_drewN | apply Kd.V_drew)); exact HO226.out) hb); have n2_ := Aside0.mk (Kd.V_below HO231.out hb); have n3_ := Aside0.mk (below_step (by repeat (first | (with_reducible first | exact HB.out | apply below_alloc | apply pw_below_drewN | apply below_drew1) | exact HB.out)) hb); clear HO221; clear HO226; clear HO231; clear HB; have HO221 := n0_; have HO226 := n1_; have HO231 := n2_; have HB := n3_; clear n0_ n1_ n2_ n3_; (try clear hb); (try clear hb2); (try clear hk); (try clear hi)) | (go_at_call 9; (with_reducible refine (letterboxlaw17_known.calls k2  t235 _ A41.out).mono ?_); rintro e w52 ⟨rfl, hb⟩; have n0_ := Aside0.mk (Kd.V_below (by (with_reducible repeat (first | apply Kd.V_alloc | apply Kd.V_drewN | apply Kd.V_drew)); exact HO221.out) hb); have n1_ := Aside0.mk (Kd.V_below (by (with_reducible repeat (first | apply Kd.V_alloc | apply Kd.V_drewN | apply Kd.V_drew)); exact HO226.out) hb); have n2_ := Aside0.mk (Kd.V_below HO231.out hb); have n3_ := Aside0.mk (below_step (by repeat (first | (with_reducible first | exact HB.out | apply below_alloc | apply pw_below_drewN | apply below_drew1) | exact HB.out)) hb); clear HO221; clear HO226; clear HO231; clear HB; have HO221 := n0_; have HO226 := n1_; have HO231 := n2_; have HB := n3_; clear n0_ n1_ n2_ n3_; (try clear hb); (try clear hb2); (try clear hk); (try clear hi)))
                            go_ret
                            exact ⟨by first | (rw [Hr_]; done) | rfl | (simp [errW_none, errW_some] <;> rfl) | (simp [*, errW_none, errW_some] <;> rfl), by repeat (first | (with_reducible first | exact HB.out | apply below_alloc | apply pw_below_drewN | apply below_drew1) | exact HB.out)⟩
                    · rw [if_neg c22] at H
                      have c22b0 : (t223 == (decide ((x7_2.size : Int) ≤ 7))) = false := by simpa using c22
                      (try (have c22b1 : decide (t223 = (decide ((x7_2.size : Int) ≤ 7))) = false := by simpa using c22))
                      (try (have c22b2 : (t223 == (decide ((x7_2.size : Int) ≤ 7))) = false := by simpa using c22))
                      (try (have c22b3 : ¬ (t223 = (decide ((x7_2.size : Int) ≤ 7))) := by simpa using c22))
                      clear c22
                      exact absurd H (by repeat' first | exact NT.none | exact NT.false | refine NT.ite ?_ ?_ | refine NT.bind (fun _ => ?_))
                  · rw [if_neg c18] at H
                    exact absurd H (by simp)
                · rw [if_neg c15] at H
                  exact absurd H (by simp)
              · rw [if_neg c14] at H
                exact absurd H (by simp)

end Go.Proofs.YtbdmhlocafpehaaDoor.P
