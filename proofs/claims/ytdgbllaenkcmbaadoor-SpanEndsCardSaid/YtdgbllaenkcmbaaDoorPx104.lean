/- The walks of the seat's functions, one contract a function: printed by a program of this session's (wip/gen). Not trusted: Lean checks it. -/
import Derived.Test.YtdgbllaenkcmbaaDoorPx1
import Derived.Test.YtdgbllaenkcmbaaDoorPx2
import Derived.Test.YtdgbllaenkcmbaaDoorPx3
namespace Go.Proofs.YtdgbllaenkcmbaaDoor.P
open Go.RowKit Go.Proofs.YtdgbllaenkcmbaaDoorW.PrintWords Go.Proofs.YtdgbllaenkcmbaaDoorW.PrintLast Go.Proofs.YtdgbllaenkcmbaaDoorW.PrintMore
attribute [local go_sem] max2_int min2_int max_two min_two max_three min_three max_four min_four   -- for this text's walks alone
set_option linter.unusedVariables false
set_option linter.unusedSimpArgs false

attribute [local go_sem high] eqA32
/-! ### letterboxlaw12_SpanEnds: function 4 -/
def letterboxlaw12_SpanEnds.j0 : Nat → Int → Int → Int → Int → Bool → Option (Bool)
  | 0, _, _, _, _, _ => none
  | k + 1, x0, x1, x2, x3, x40 => if x40 = true then (some true) else ((span_Has.f (([(⟨x0, x1⟩ : S32)] : List (S32))) x2 x3).bind fun t158 => ((span_Has.f (([(⟨x1, x0⟩ : S32)] : List (S32))) x2 x3).bind fun t162 => (if (t158 == t162) = true then (if x2 ≥ (mn x0 x1) then (if (t158 == (decide (x2 ≤ (mx x0 x1)))) = true then ((span_Has.f (([(⟨1073741824, 1073741824⟩ : S32)] : List (S32))) x3 x3).bind fun t166 => (if t166 = true then ((span_Has.f (([(⟨x0, 1073741824⟩ : S32)] : List (S32))) x3 x3).bind fun t170 => (if t170 = true then ((letterboxlaw12_known.f k).bind fun t171 => (some t171)) else (some false))) else (some false))) else (some false)) else (if (t158 == false) = true then ((span_Has.f (([(⟨1073741824, 1073741824⟩ : S32)] : List (S32))) x3 x3).bind fun t175 => (if t175 = true then ((span_Has.f (([(⟨x0, 1073741824⟩ : S32)] : List (S32))) x3 x3).bind fun t179 => (if t179 = true then ((letterboxlaw12_known.f k).bind fun t180 => (some t180)) else (some false))) else (some false))) else (some false))) else (some false))))
def letterboxlaw12_SpanEnds.f (k : Nat) (a0 : Int) (a1 : Int) (a2 : Int) (a3 : Int) : Option (Bool) := if a0 < 1 then (letterboxlaw12_SpanEnds.j0 k a0 a1 a2 a3 true) else (if a0 > 9999999 then (letterboxlaw12_SpanEnds.j0 k a0 a1 a2 a3 true) else (if a1 < 1 then (letterboxlaw12_SpanEnds.j0 k a0 a1 a2 a3 true) else (if a1 > 9999999 then (letterboxlaw12_SpanEnds.j0 k a0 a1 a2 a3 true) else (if a2 < 1 then (letterboxlaw12_SpanEnds.j0 k a0 a1 a2 a3 true) else (if a2 > 9999999 then (letterboxlaw12_SpanEnds.j0 k a0 a1 a2 a3 true) else (if a3 < 1 then (letterboxlaw12_SpanEnds.j0 k a0 a1 a2 a3 true) else (letterboxlaw12_SpanEnds.j0 k a0 a1 a2 a3 (decide (a3 > 9999999)))))))))
theorem letterboxlaw12_SpanEnds.mono_l : ∀ k, (∀ y0 y1 y2 y3 y4, LeO (letterboxlaw12_SpanEnds.j0 k y0 y1 y2 y3 y4) (letterboxlaw12_SpanEnds.j0 (k + 1) y0 y1 y2 y3 y4))
  | 0 => fun _ _ _ _ _ r h => by simp [letterboxlaw12_SpanEnds.j0] at h
  | k + 1 => by
    have ih0 := letterboxlaw12_SpanEnds.mono_l k
    · intro y0 y1 y2 y3 y4
      unfold letterboxlaw12_SpanEnds.j0
      repeat' first
      | (with_reducible exact ih0 _ _ _ _ _)
      | (with_reducible exact letterboxlaw12_known.mono _)
      | (with_reducible exact LeO.refl _)
      | (with_reducible exact LeO.none _)
      | (with_reducible refine LeO.ite ?_ ?_)
      | (with_reducible refine LeO.bind ?_ (fun _ => ?_))
      | exact ih0 _ _ _ _ _
      | exact letterboxlaw12_known.mono _
      | exact LeO.none _
      | refine LeO.ite ?_ ?_
      | refine LeO.bind ?_ (fun _ => ?_)
theorem letterboxlaw12_SpanEnds.mono : ∀ a0 a1 a2 a3 k, LeO (letterboxlaw12_SpanEnds.f k a0 a1 a2 a3) (letterboxlaw12_SpanEnds.f (k + 1) a0 a1 a2 a3) := by
  intro a0 a1 a2 a3 k
  have ih0 := letterboxlaw12_SpanEnds.mono_l k
  unfold letterboxlaw12_SpanEnds.f
  repeat' first
      | (with_reducible exact ih0 _ _ _ _ _)
      | (with_reducible exact letterboxlaw12_known.mono _)
      | (with_reducible exact LeO.refl _)
      | (with_reducible exact LeO.none _)
      | (with_reducible refine LeO.ite ?_ ?_)
      | (with_reducible refine LeO.bind ?_ (fun _ => ?_))
      | exact ih0 _ _ _ _ _
      | exact letterboxlaw12_known.mono _
      | exact LeO.none _
      | refine LeO.ite ?_ ?_
      | refine LeO.bind ?_ (fun _ => ?_)
set_option maxHeartbeats 8000000 in
set_option maxRecDepth 100000 in
theorem letterboxlaw12_SpanEnds.calls (k : Nat) (a0 : Int) (a1 : Int) (a2 : Int) (a3 : Int) (w : World) (HL0 : Laid w) (h : letterboxlaw12_SpanEnds.f k a0 a1 a2 a3 = some true) :
    Calls Tryd.prog 4 #[.int .i64 a0, .int .i64 a1, .int .i64 a2, .int .i64 a3] w fun e w' => e = .returned (.bool true) ∧ Below w.heap.size w w' := by
  have HLd := Aside0.mk HL0
  clear HL0
  have hu32 := Tryd.underlying32
  have HB := Aside0.mk (Below.refl w.heap.size w)
  have H : (if a0 < 1 then (letterboxlaw12_SpanEnds.j0 k a0 a1 a2 a3 true) else (if a0 > 9999999 then (letterboxlaw12_SpanEnds.j0 k a0 a1 a2 a3 true) else (if a1 < 1 then (letterboxlaw12_SpanEnds.j0 k a0 a1 a2 a3 true) else (if a1 > 9999999 then (letterboxlaw12_SpanEnds.j0 k a0 a1 a2 a3 true) else (if a2 < 1 then (letterboxlaw12_SpanEnds.j0 k a0 a1 a2 a3 true) else (if a2 > 9999999 then (letterboxlaw12_SpanEnds.j0 k a0 a1 a2 a3 true) else (if a3 < 1 then (letterboxlaw12_SpanEnds.j0 k a0 a1 a2 a3 true) else (letterboxlaw12_SpanEnds.j0 k a0 a1 a2 a3 (decide (a3 > 9999999)))))))))) = some true := h
  clear h
  have HC5 := Aside0.mk H
  clear H
  go_enter Tryd.func4, Tryd.ntmps4
  go_upto_region 1 with (fail)
  go_cut [40] (fun v40 wc => ∃ (kq : Nat) (x40_4 : Bool), v40 = .bool x40_4 ∧ Aside0 (letterboxlaw12_SpanEnds.j0 kq a0 a1 a2 a3 x40_4 = some true) ∧ Aside0 (kq ≤ k) ∧ Aside0 (Below w.heap.size w wc))
  case first =>
    have H := HC5.out
    clear HC5
    by_cases c6 : a0 < 1
    · rw [if_pos c6] at H
      have c6b0 : decide (a0 < 1) = true := decide_eq_true c6
      clear c6
      (first | rw [c6b0] | (simp only [i64_w, i32_w]; rw [c6b0]) | skip)
      have H' := Aside0.mk H
      clear H
      go_wp2
      go_meet
      case rel => exact ⟨_, (true), (by first | rfl | (simp; done) | (simp [*]; done)), H', ⟨by first | omega | exact Nat.le_refl _⟩, ⟨by repeat (first | (with_reducible first | exact HB.out | apply below_alloc | apply pw_below_drewN | apply below_drew1) | exact HB.out)⟩⟩
    · rw [if_neg c6] at H
      have c6b0 : decide (a0 < 1) = false := decide_eq_false c6
      clear c6
      (first | rw [c6b0] | (simp only [i64_w, i32_w]; rw [c6b0]) | skip)
      by_cases c7 : a0 > 9999999
      · rw [if_pos c7] at H
        have c7b0 : decide (9999999 < a0) = true := decide_eq_true c7
        clear c7
        have H' := Aside0.mk H
        clear H
        go_wp2
        go_meet
        case rel => exact ⟨_, (true), (by first | rfl | (simp; done) | (simp [*]; done)), H', ⟨by first | omega | exact Nat.le_refl _⟩, ⟨by repeat (first | (with_reducible first | exact HB.out | apply below_alloc | apply pw_below_drewN | apply below_drew1) | exact HB.out)⟩⟩
      · rw [if_neg c7] at H
        have c7b0 : decide (9999999 < a0) = false := decide_eq_false c7
        clear c7
        by_cases c8 : a1 < 1
        · rw [if_pos c8] at H
          have c8b0 : decide (a1 < 1) = true := decide_eq_true c8
          clear c8
          have H' := Aside0.mk H
          clear H
          go_wp2
          go_meet
          case rel => exact ⟨_, (true), (by first | rfl | (simp; done) | (simp [*]; done)), H', ⟨by first | omega | exact Nat.le_refl _⟩, ⟨by repeat (first | (with_reducible first | exact HB.out | apply below_alloc | apply pw_below_drewN | apply below_drew1) | exact HB.out)⟩⟩
        · rw [if_neg c8] at H
          have c8b0 : decide (a1 < 1) = false := decide_eq_false c8
          clear c8
          by_cases c9 : a1 > 9999999
          · rw [if_pos c9] at H
            have c9b0 : decide (9999999 < a1) = true := decide_eq_true c9
            clear c9
            have H' := Aside0.mk H
            clear H
            go_wp2
            go_meet
            case rel => exact ⟨_, (true), (by first | rfl | (simp; done) | (simp [*]; done)), H', ⟨by first | omega | exact Nat.le_refl _⟩, ⟨by repeat (first | (with_reducible first | exact HB.out | apply below_alloc | apply pw_below_drewN | apply below_drew1) | exact HB.out)⟩⟩
          · rw [if_neg c9] at H
            have c9b0 : decide (9999999 < a1) = false := decide_eq_false c9
            clear c9
            by_cases c10 : a2 < 1
            · rw [if_pos c10] at H
              have c10b0 : decide (a2 < 1) = true := decide_eq_true c10
              clear c10
              have H' := Aside0.mk H
              clear H
              go_wp2
              go_meet
              case rel => exact ⟨_, (true), (by first | rfl | (simp; done) | (simp [*]; done)), H', ⟨by first | omega | exact Nat.le_refl _⟩, ⟨by repeat (first | (with_reducible first | exact HB.out | apply below_alloc | apply pw_below_drewN | apply below_drew1) | exact HB.out)⟩⟩
            · rw [if_neg c10] at H
              have c10b0 : decide (a2 < 1) = false := decide_eq_false c10
              clear c10
              by_cases c11 : a2 > 9999999
              · rw [if_pos c11] at H
                have c11b0 : decide (9999999 < a2) = true := decide_eq_true c11
                clear c11
                have H' := Aside0.mk H
                clear H
                go_wp2
                go_meet
                case rel => exact ⟨_, (true), (by first | rfl | (simp; done) | (simp [*]; done)), H', ⟨by first | omega | exact Nat.le_refl _⟩, ⟨by repeat (first | (with_reducible first | exact HB.out | apply below_alloc | apply pw_below_drewN | apply below_drew1) | exact HB.out)⟩⟩
              · rw [if_neg c11] at H
                have c11b0 : decide (9999999 < a2) = false := decide_eq_false c11
                clear c11
                by_cases c12 : a3 < 1
                · rw [if_pos c12] at H
                  have c12b0 : decide (a3 < 1) = true := decide_eq_true c12
                  clear c12
                  have H' := Aside0.mk H
                  clear H
                  go_wp2
                  go_meet
                  case rel => exact ⟨_, (true), (by first | rfl | (simp; done) | (simp [*]; done)), H', ⟨by first | omega | exact Nat.le_refl _⟩, ⟨by repeat (first | (with_reducible first | exact HB.out | apply below_alloc | apply pw_below_drewN | apply below_drew1) | exact HB.out)⟩⟩
                · rw [if_neg c12] at H
                  have c12b0 : decide (a3 < 1) = false := decide_eq_false c12
                  clear c12
                  have H' := Aside0.mk H
                  clear H
                  go_wp2
                  go_meet
                  case rel => exact ⟨_, (decide (a3 > 9999999)), (by first | rfl | (simp; done) | (simp [*]; done)), H', ⟨by first | omega | exact Nat.le_refl _⟩, ⟨by repeat (first | (with_reducible first | exact HB.out | apply below_alloc | apply pw_below_drewN | apply below_drew1) | exact HB.out)⟩⟩
  case rest =>
    clear HC5
    try clear c1
    try clear p2
    try clear c4
    try clear c6
    try clear c6b0
    try clear c7
    try clear c7b0
    try clear c8
    try clear c8b0
    try clear c9
    try clear c9b0
    try clear c10
    try clear c10b0
    try clear c11
    try clear c11b0
    try clear c12
    try clear c12b0
    obtain ⟨kq, x40_4, rfl, HA, HJ4, HB⟩ := hcut
    cases kq with
    | zero => exact absurd HA.out (by simp [letterboxlaw12_SpanEnds.j0])
    | succ kj4 =>
      have H := HA.out
      clear HA
      simp only [letterboxlaw12_SpanEnds.j0] at H
      by_cases c13 : x40_4 = true
      · subst c13
        have H1 : (some true) = some true := rfl
        clear H
        have H := H1
        clear H1
        first | (obtain rfl := Option.some.inj H) | (have Hr_ := Option.some.inj H)
        go_wp2
        go_ret
        exact ⟨by first | rfl | (simp [errW_none, errW_some] <;> rfl) | (simp [*, errW_none, errW_some] <;> rfl), by repeat (first | (with_reducible first | exact HB.out | apply below_alloc | apply pw_below_drewN | apply below_drew1) | exact HB.out)⟩
      · replace c13 := Bool.eq_false_iff.mpr c13
        subst c13
        have H1 : ((span_Has.f (([(⟨a0, a1⟩ : S32)] : List (S32))) a2 a3).bind fun t158 => ((span_Has.f (([(⟨a1, a0⟩ : S32)] : List (S32))) a2 a3).bind fun t162 => (if (t158 == t162) = true then (if a2 ≥ (mn a0 a1) then (if (t158 == (decide (a2 ≤ (mx a0 a1)))) = true then ((span_Has.f (([(⟨1073741824, 1073741824⟩ : S32)] : List (S32))) a3 a3).bind fun t166 => (if t166 = true then ((span_Has.f (([(⟨a0, 1073741824⟩ : S32)] : List (S32))) a3 a3).bind fun t170 => (if t170 = true then ((letterboxlaw12_known.f kj4).bind fun t171 => (some t171)) else (some false))) else (some false))) else (some false)) else (if (t158 == false) = true then ((span_Has.f (([(⟨1073741824, 1073741824⟩ : S32)] : List (S32))) a3 a3).bind fun t175 => (if t175 = true then ((span_Has.f (([(⟨a0, 1073741824⟩ : S32)] : List (S32))) a3 a3).bind fun t179 => (if t179 = true then ((letterboxlaw12_known.f kj4).bind fun t180 => (some t180)) else (some false))) else (some false))) else (some false))) else (some false)))) = some true := by rw [if_neg (show ¬ (false = true) by decide)] at H; exact H
        clear H
        have H := H1
        clear H1
        obtain ⟨y155, hy155⟩ : ∃ y_ : List (S32), y_ = (([(⟨a0, a1⟩ : S32)] : List (S32))) := ⟨_, rfl⟩
        replace H : ((span_Has.f y155 a2 a3).bind fun t158 => ((span_Has.f (([(⟨a1, a0⟩ : S32)] : List (S32))) a2 a3).bind fun t162 => (if (t158 == t162) = true then (if a2 ≥ (mn a0 a1) then (if (t158 == (decide (a2 ≤ (mx a0 a1)))) = true then ((span_Has.f (([(⟨1073741824, 1073741824⟩ : S32)] : List (S32))) a3 a3).bind fun t166 => (if t166 = true then ((span_Has.f (([(⟨a0, 1073741824⟩ : S32)] : List (S32))) a3 a3).bind fun t170 => (if t170 = true then ((letterboxlaw12_known.f kj4).bind fun t171 => (some t171)) else (some false))) else (some false))) else (some false)) else (if (t158 == false) = true then ((span_Has.f (([(⟨1073741824, 1073741824⟩ : S32)] : List (S32))) a3 a3).bind fun t175 => (if t175 = true then ((span_Has.f (([(⟨a0, 1073741824⟩ : S32)] : List (S32))) a3 a3).bind fun t179 => (if t179 = true then ((letterboxlaw12_known.f kj4).bind fun t180 => (some t180)) else (some false))) else (some false))) else (some false))) else (some false)))) = some true := by first | (rw [hy155]; with_reducible exact H) | (have H2_ := (Option.bind_some _ _).symm.trans H; rw [hy155]; with_reducible exact H2_) | (have H2_ := (Option.bind_some _ _).symm.trans H; with_reducible exact H2_) | with_reducible exact H | (rw [hy155]; exact H) | exact H
        have Ny155 := Aside0.mk hy155
        clear hy155
        replace H := Option.bind_eq_some_iff.mp H
        obtain ⟨t158, A140, H⟩ := H
        replace H : ((span_Has.f (([(⟨a1, a0⟩ : S32)] : List (S32))) a2 a3).bind fun t162 => (if (t158 == t162) = true then (if a2 ≥ (mn a0 a1) then (if (t158 == (decide (a2 ≤ (mx a0 a1)))) = true then ((span_Has.f (([(⟨1073741824, 1073741824⟩ : S32)] : List (S32))) a3 a3).bind fun t166 => (if t166 = true then ((span_Has.f (([(⟨a0, 1073741824⟩ : S32)] : List (S32))) a3 a3).bind fun t170 => (if t170 = true then ((letterboxlaw12_known.f kj4).bind fun t171 => (some t171)) else (some false))) else (some false))) else (some false)) else (if (t158 == false) = true then ((span_Has.f (([(⟨1073741824, 1073741824⟩ : S32)] : List (S32))) a3 a3).bind fun t175 => (if t175 = true then ((span_Has.f (([(⟨a0, 1073741824⟩ : S32)] : List (S32))) a3 a3).bind fun t179 => (if t179 = true then ((letterboxlaw12_known.f kj4).bind fun t180 => (some t180)) else (some false))) else (some false))) else (some false))) else (some false))) = some true := H
        have A14 := Aside0.mk A140
        clear A140
        obtain ⟨y159, hy159⟩ : ∃ y_ : List (S32), y_ = (([(⟨a1, a0⟩ : S32)] : List (S32))) := ⟨_, rfl⟩
        replace H : ((span_Has.f y159 a2 a3).bind fun t162 => (if (t158 == t162) = true then (if a2 ≥ (mn a0 a1) then (if (t158 == (decide (a2 ≤ (mx a0 a1)))) = true then ((span_Has.f (([(⟨1073741824, 1073741824⟩ : S32)] : List (S32))) a3 a3).bind fun t166 => (if t166 = true then ((span_Has.f (([(⟨a0, 1073741824⟩ : S32)] : List (S32))) a3 a3).bind fun t170 => (if t170 = true then ((letterboxlaw12_known.f kj4).bind fun t171 => (some t171)) else (some false))) else (some false))) else (some false)) else (if (t158 == false) = true then ((span_Has.f (([(⟨1073741824, 1073741824⟩ : S32)] : List (S32))) a3 a3).bind fun t175 => (if t175 = true then ((span_Has.f (([(⟨a0, 1073741824⟩ : S32)] : List (S32))) a3 a3).bind fun t179 => (if t179 = true then ((letterboxlaw12_known.f kj4).bind fun t180 => (some t180)) else (some false))) else (some false))) else (some false))) else (some false))) = some true := by first | (rw [hy159]; with_reducible exact H) | (have H2_ := (Option.bind_some _ _).symm.trans H; rw [hy159]; with_reducible exact H2_) | (have H2_ := (Option.bind_some _ _).symm.trans H; with_reducible exact H2_) | with_reducible exact H | (rw [hy159]; exact H) | exact H
        have Ny159 := Aside0.mk hy159
        clear hy159
        replace H := Option.bind_eq_some_iff.mp H
        obtain ⟨t162, A150, H⟩ := H
        replace H : (if (t158 == t162) = true then (if a2 ≥ (mn a0 a1) then (if (t158 == (decide (a2 ≤ (mx a0 a1)))) = true then ((span_Has.f (([(⟨1073741824, 1073741824⟩ : S32)] : List (S32))) a3 a3).bind fun t166 => (if t166 = true then ((span_Has.f (([(⟨a0, 1073741824⟩ : S32)] : List (S32))) a3 a3).bind fun t170 => (if t170 = true then ((letterboxlaw12_known.f kj4).bind fun t171 => (some t171)) else (some false))) else (some false))) else (some false)) else (if (t158 == false) = true then ((span_Has.f (([(⟨1073741824, 1073741824⟩ : S32)] : List (S32))) a3 a3).bind fun t175 => (if t175 = true then ((span_Has.f (([(⟨a0, 1073741824⟩ : S32)] : List (S32))) a3 a3).bind fun t179 => (if t179 = true then ((letterboxlaw12_known.f kj4).bind fun t180 => (some t180)) else (some false))) else (some false))) else (some false))) else (some false)) = some true := H
        have A15 := Aside0.mk A150
        clear A150
        by_cases c16 : (t158 == t162) = true
        · rw [if_pos c16] at H
          have c16b0 : (t158 == t162) = true := c16
          (try (have c16b1 : decide (t158 = t162) = true := by simpa using c16))
          (try (have c16b2 : (t158 == t162) = true := by simpa using c16))
          clear c16
          obtain ⟨ji17, hji17⟩ : ∃ j_ : Int, (mn a0 a1) = j_ := ⟨_, rfl⟩
          replace H : (if a2 ≥ (ji17) then (if (t158 == (decide (a2 ≤ (mx a0 a1)))) = true then ((span_Has.f (([(⟨1073741824, 1073741824⟩ : S32)] : List (S32))) a3 a3).bind fun t166 => (if t166 = true then ((span_Has.f (([(⟨a0, 1073741824⟩ : S32)] : List (S32))) a3 a3).bind fun t170 => (if t170 = true then ((letterboxlaw12_known.f kj4).bind fun t171 => (some t171)) else (some false))) else (some false))) else (some false)) else (if (t158 == false) = true then ((span_Has.f (([(⟨1073741824, 1073741824⟩ : S32)] : List (S32))) a3 a3).bind fun t175 => (if t175 = true then ((span_Has.f (([(⟨a0, 1073741824⟩ : S32)] : List (S32))) a3 a3).bind fun t179 => (if t179 = true then ((letterboxlaw12_known.f kj4).bind fun t180 => (some t180)) else (some false))) else (some false))) else (some false))) = some true := by first | (rw [hji17] at H; exact H) | (simp only [hji17] at H ⊢; exact H)
          (try rw [hji17] at A14)
          (try rw [hji17] at A15)
          have hji17_ : (if a1 < a0 then a1 else a0) = ji17 := hji17
          by_cases c18 : a2 ≥ (ji17)
          · rw [if_pos c18] at H
            have c18b0 : decide ((ji17) ≤ a2) = true := decide_eq_true c18
            clear c18
            obtain ⟨ji19, hji19⟩ : ∃ j_ : Int, (mx a0 a1) = j_ := ⟨_, rfl⟩
            replace H : (if (t158 == (decide (a2 ≤ (ji19)))) = true then ((span_Has.f (([(⟨1073741824, 1073741824⟩ : S32)] : List (S32))) a3 a3).bind fun t166 => (if t166 = true then ((span_Has.f (([(⟨a0, 1073741824⟩ : S32)] : List (S32))) a3 a3).bind fun t170 => (if t170 = true then ((letterboxlaw12_known.f kj4).bind fun t171 => (some t171)) else (some false))) else (some false))) else (some false)) = some true := by first | (rw [hji19] at H; exact H) | (simp only [hji19] at H ⊢; exact H)
            (try rw [hji19] at A14)
            (try rw [hji19] at A15)
            have hji19_ : (if a0 < a1 then a1 else a0) = ji19 := hji19
            by_cases c20 : (t158 == (decide (a2 ≤ (ji19)))) = true
            · rw [if_pos c20] at H
              have c20b0 : (t158 == (decide (a2 ≤ (ji19)))) = true := c20
              (try (have c20b1 : decide (t158 = (decide (a2 ≤ (ji19)))) = true := by simpa using c20))
              (try (have c20b2 : (t158 == (decide (a2 ≤ (ji19)))) = true := by simpa using c20))
              clear c20
              obtain ⟨y163, hy163⟩ : ∃ y_ : List (S32), y_ = (([(⟨1073741824, 1073741824⟩ : S32)] : List (S32))) := ⟨_, rfl⟩
              replace H : ((span_Has.f y163 a3 a3).bind fun t166 => (if t166 = true then ((span_Has.f (([(⟨a0, 1073741824⟩ : S32)] : List (S32))) a3 a3).bind fun t170 => (if t170 = true then ((letterboxlaw12_known.f kj4).bind fun t171 => (some t171)) else (some false))) else (some false))) = some true := by first | (rw [hy163]; with_reducible exact H) | (have H2_ := (Option.bind_some _ _).symm.trans H; rw [hy163]; with_reducible exact H2_) | (have H2_ := (Option.bind_some _ _).symm.trans H; with_reducible exact H2_) | with_reducible exact H | (rw [hy163]; exact H) | exact H
              have Ny163 := Aside0.mk hy163
              clear hy163
              replace H := Option.bind_eq_some_iff.mp H
              obtain ⟨t166, A210, H⟩ := H
              replace H : (if t166 = true then ((span_Has.f (([(⟨a0, 1073741824⟩ : S32)] : List (S32))) a3 a3).bind fun t170 => (if t170 = true then ((letterboxlaw12_known.f kj4).bind fun t171 => (some t171)) else (some false))) else (some false)) = some true := H
              have A21 := Aside0.mk A210
              clear A210
              by_cases c22 : t166 = true
              · subst c22
                have H1 : ((span_Has.f (([(⟨a0, 1073741824⟩ : S32)] : List (S32))) a3 a3).bind fun t170 => (if t170 = true then ((letterboxlaw12_known.f kj4).bind fun t171 => (some t171)) else (some false))) = some true := by rw [if_pos rfl] at H; exact H
                clear H
                have H := H1
                clear H1
                obtain ⟨y167, hy167⟩ : ∃ y_ : List (S32), y_ = (([(⟨a0, 1073741824⟩ : S32)] : List (S32))) := ⟨_, rfl⟩
                replace H : ((span_Has.f y167 a3 a3).bind fun t170 => (if t170 = true then ((letterboxlaw12_known.f kj4).bind fun t171 => (some t171)) else (some false))) = some true := by first | (rw [hy167]; with_reducible exact H) | (have H2_ := (Option.bind_some _ _).symm.trans H; rw [hy167]; with_reducible exact H2_) | (have H2_ := (Option.bind_some _ _).symm.trans H; with_reducible exact H2_) | with_reducible exact H | (rw [hy167]; exact H) | exact H
                have Ny167 := Aside0.mk hy167
                clear hy167
                replace H := Option.bind_eq_some_iff.mp H
                obtain ⟨t170, A230, H⟩ := H
                replace H : (if t170 = true then ((letterboxlaw12_known.f kj4).bind fun t171 => (some t171)) else (some false)) = some true := H
                have A23 := Aside0.mk A230
                clear A230
                by_cases c24 : t170 = true
                · subst c24
                  have H1 : ((letterboxlaw12_known.f kj4).bind fun t171 => (some t171)) = some true := by rw [if_pos rfl] at H; exact H
                  clear H
                  have H := H1
                  clear H1
                  replace H := Option.bind_eq_some_iff.mp H
                  obtain ⟨t171, A250, H⟩ := H
                  replace H : (some t171) = some true := H
                  have A25 := Aside0.mk A250
                  clear A250
                  have Hr_ := Option.some.inj H
                  go_wp2_with (first | ((with_reducible refine gate_dst (N := 44) rfl ?_); (try (refine gate_guard (by rfl) ?_; dsimp only)); refine Kd.R_lit k32 _ 32 ?hg (N := 44) ?hd (xs := ([(⟨a0, a1⟩ : S32)] : List (S32))) (inner := [.int .i64 a0, .int .i64 a1]) (ok := fun _ => True) (okp := fun _ => True) ?hr ?hp (fun _ hk => hk) trivial (Below.refl _ _) (Nat.le_refl _) (by simp) ?_; (case hd => rfl); (case hg => rfl); (case hr => first | (go_simp; done) | (go_simp; rfl)); (case hp => exact (Reps.c2 (show Kd.M k32 _ _ _ (⟨a0, a1⟩ : S32) [.int .i64 a0, .int .i64 a1] from (k32_mkM _ _ _ (⟨a0, a1⟩ : S32) )) (Reps.none _ _))); intro v156 w26 ho27 hb hg_ hnew_; clear hg_ hnew_; (first | rw [← Ny155.out] at ho27 | (simp only [Int.reduceToNat] at ho27; rw [← Ny155.out] at ho27)); have n0_ := Aside0.mk (Kd.R_lower ho27 (below_size (by repeat (first | (with_reducible first | exact HB.out | apply below_alloc | apply pw_below_drewN | apply below_drew1) | exact HB.out)))); have n1_ := Aside0.mk (below_step (by repeat (first | (with_reducible first | exact HB.out | apply below_alloc | apply pw_below_drewN | apply below_drew1) | exact HB.out)) hb); clear HB; have HO157 := n0_; have HB := n1_; clear n0_ n1_; clear hb ho27; obtain ⟨Ao28, co28, eo28⟩ := Kd.R_slice HO157.out; subst eo28) | ((with_reducible refine gate_callee (f := 14) rfl ?_); refine goesL_ (some 47) rfl rfl Tryd.func14 (by kernel_rfl) rfl #[.slice Ao28 y155.length co28, .int .i64 a2, .int .i64 a3] rfl (by (try simp only [List.map_toArray, List.map_cons, List.map_nil]); first | done | rfl | (simp only [List.length_drop, List.length_take]; rfl)) ?_; (with_reducible refine (span_Has.calls _ _ y155 a2 a3 t158 _ ?side1 ?side2 A14.out).mono ?_); (case side1 => repeat (first | exact (Kd.R_reads' HO157.out).2.2 | (with_reducible refine Kd.C_alloc ?_ _) | (with_reducible refine Kd.C_drewN ?_ _) | (with_reducible refine Kd.C_drew ?_))); (case side2 => exact (Kd.R_reads' HO157.out).2.1); rintro e w29 ⟨rfl, hb⟩; refine ⟨_, rfl, ?_⟩; have n0_ := Aside0.mk (Kd.R_below (by (with_reducible repeat (first | apply Kd.R_alloc | apply Kd.R_drewN | apply Kd.R_drew)); exact HO157.out) hb); have n1_ := Aside0.mk (below_step (by repeat (first | (with_reducible first | exact HB.out | apply below_alloc | apply pw_below_drewN | apply below_drew1) | exact HB.out)) hb); clear HO157; clear HB; have HO157 := n0_; have HB := n1_; clear n0_ n1_; (try clear hb); (try clear hb2); (try clear hk); (try clear hi)) | ((with_reducible refine gate_dst (N := 51) rfl ?_); (try (refine gate_guard (by rfl) ?_; dsimp only)); refine Kd.R_lit k32 _ 32 ?hg (N := 51) ?hd (xs := ([(⟨a1, a0⟩ : S32)] : List (S32))) (inner := [.int .i64 a1, .int .i64 a0]) (ok := fun _ => True) (okp := fun _ => True) ?hr ?hp (fun _ hk => hk) trivial (Below.refl _ _) (Nat.le_refl _) (by simp) ?_; (case hd => rfl); (case hg => rfl); (case hr => first | (go_simp; done) | (go_simp; rfl)); (case hp => exact (Reps.c2 (show Kd.M k32 _ _ _ (⟨a1, a0⟩ : S32) [.int .i64 a1, .int .i64 a0] from (k32_mkM _ _ _ (⟨a1, a0⟩ : S32) )) (Reps.none _ _))); intro v160 w30 ho31 hb hg_ hnew_; clear hg_ hnew_; (first | rw [← Ny159.out] at ho31 | (simp only [Int.reduceToNat] at ho31; rw [← Ny159.out] at ho31)); have n0_ := Aside0.mk (Kd.R_elder' (by (with_reducible repeat (first | apply Kd.R_alloc | apply Kd.R_drewN | apply Kd.R_drew)); exact HO157.out) (Kd.R_base ho31) hb); have n1_ := Aside0.mk (Kd.R_lower (Kd.R_new' ho31 (Kd.R_lt (by (with_reducible repeat (first | apply Kd.R_alloc | apply Kd.R_drewN | apply Kd.R_drew)); exact HO157.out))) (below_size (by repeat (first | (with_reducible first | exact HB.out | apply below_alloc | apply pw_below_drewN | apply below_drew1) | exact HB.out)))); have n2_ := Aside0.mk (below_step (by repeat (first | (with_reducible first | exact HB.out | apply below_alloc | apply pw_below_drewN | apply below_drew1) | exact HB.out)) hb); clear HO157; clear HB; have HO157 := n0_; have HO161 := n1_; have HB := n2_; clear n0_ n1_ n2_; clear hb ho31; obtain ⟨Ao32, co32, eo32⟩ := Kd.R_slice HO161.out; subst eo32) | ((with_reducible refine gate_callee (f := 14) rfl ?_); refine goesL_ (some 54) rfl rfl Tryd.func14 (by kernel_rfl) rfl #[.slice Ao32 y159.length co32, .int .i64 a2, .int .i64 a3] rfl (by (try simp only [List.map_toArray, List.map_cons, List.map_nil]); first | done | rfl | (simp only [List.length_drop, List.length_take]; rfl)) ?_; (with_reducible refine (span_Has.calls _ _ y159 a2 a3 t162 _ ?side1 ?side2 A15.out).mono ?_); (case side1 => repeat (first | exact (Kd.R_reads' HO161.out).2.2 | (with_reducible refine Kd.C_alloc ?_ _) | (with_reducible refine Kd.C_drewN ?_ _) | (with_reducible refine Kd.C_drew ?_))); (case side2 => exact (Kd.R_reads' HO161.out).2.1); rintro e w33 ⟨rfl, hb⟩; refine ⟨_, rfl, ?_⟩; have n0_ := Aside0.mk (Kd.R_below (by (with_reducible repeat (first | apply Kd.R_alloc | apply Kd.R_drewN | apply Kd.R_drew)); exact HO157.out) hb); have n1_ := Aside0.mk (Kd.R_below (by (with_reducible repeat (first | apply Kd.R_alloc | apply Kd.R_drewN | apply Kd.R_drew)); exact HO161.out) hb); have n2_ := Aside0.mk (below_step (by repeat (first | (with_reducible first | exact HB.out | apply below_alloc | apply pw_below_drewN | apply below_drew1) | exact HB.out)) hb); clear HO157; clear HO161; clear HB; have HO157 := n0_; have HO161 := n1_; have HB := n2_; clear n0_ n1_ n2_; (try clear hb); (try clear hb2); (try clear hk); (try clear hi)) | ((with_reducible refine gate_dst (N := 76) rfl ?_); (try (refine gate_guard (by rfl) ?_; dsimp only)); refine Kd.R_lit k32 _ 32 ?hg (N := 76) ?hd (xs := ([(⟨1073741824, 1073741824⟩ : S32)] : List (S32))) (inner := [.int .i64 1073741824, .int .i64 1073741824]) (ok := fun _ => True) (okp := fun _ => True) ?hr ?hp (fun _ hk => hk) trivial (Below.refl _ _) (Nat.le_refl _) (by simp) ?_; (case hd => rfl); (case hg => rfl); (case hr => first | (go_simp; done) | (go_simp; rfl)); (case hp => exact (Reps.c2 (show Kd.M k32 _ _ _ (⟨1073741824, 1073741824⟩ : S32) [.int .i64 1073741824, .int .i64 1073741824] from (k32_mkM _ _ _ (⟨1073741824, 1073741824⟩ : S32) )) (Reps.none _ _))); intro v164 w34 ho35 hb hg_ hnew_; clear hg_ hnew_; (first | rw [← Ny163.out] at ho35 | (simp only [Int.reduceToNat] at ho35; rw [← Ny163.out] at ho35)); have n0_ := Aside0.mk (Kd.R_elder' (by (with_reducible repeat (first | apply Kd.R_alloc | apply Kd.R_drewN | apply Kd.R_drew)); exact HO157.out) (Kd.R_base ho35) hb); have n1_ := Aside0.mk (Kd.R_elder' (by (with_reducible repeat (first | apply Kd.R_alloc | apply Kd.R_drewN | apply Kd.R_drew)); exact HO161.out) (Kd.R_base ho35) hb); have n2_ := Aside0.mk (Kd.R_lower (Kd.R_new' (Kd.R_new' ho35 (Kd.R_lt (by (with_reducible repeat (first | apply Kd.R_alloc | apply Kd.R_drewN | apply Kd.R_drew)); exact HO157.out))) (Kd.R_lt (by (with_reducible repeat (first | apply Kd.R_alloc | apply Kd.R_drewN | apply Kd.R_drew)); exact HO161.out))) (below_size (by repeat (first | (with_reducible first | exact HB.out | apply below_alloc | apply pw_below_drewN | apply below_drew1) | exact HB.out)))); have n3_ := Aside0.mk (below_step (by repeat (first | (with_reducible first | exact HB.out | apply below_alloc | apply pw_below_drewN | apply below_drew1) | exact HB.out)) hb); clear HO157; clear HO161; clear HB; have HO157 := n0_; have HO161 := n1_; have HO165 := n2_; have HB := n3_; clear n0_ n1_ n2_ n3_; clear hb ho35; obtain ⟨Ao36, co36, eo36⟩ := Kd.R_slice HO165.out; subst eo36) | (go_at_call 14; (with_reducible refine (span_Has.calls _ _ y163 a3 a3 true _ ?side1 ?side2 A21.out).mono ?_); (case side1 => repeat (first | exact (Kd.R_reads' HO165.out).2.2 | (with_reducible refine Kd.C_alloc ?_ _) | (with_reducible refine Kd.C_drewN ?_ _) | (with_reducible refine Kd.C_drew ?_))); (case side2 => exact (Kd.R_reads' HO165.out).2.1); rintro e w37 ⟨rfl, hb⟩; have n0_ := Aside0.mk (Kd.R_below (by (with_reducible repeat (first | apply Kd.R_alloc | apply Kd.R_drewN | apply Kd.R_drew)); exact HO157.out) hb); have n1_ := Aside0.mk (Kd.R_below (by (with_reducible repeat (first | apply Kd.R_alloc | apply Kd.R_drewN | apply Kd.R_drew)); exact HO161.out) hb); have n2_ := Aside0.mk (Kd.R_below (by (with_reducible repeat (first | apply Kd.R_alloc | apply Kd.R_drewN | apply Kd.R_drew)); exact HO165.out) hb); have n3_ := Aside0.mk (below_step (by repeat (first | (with_reducible first | exact HB.out | apply below_alloc | apply pw_below_drewN | apply below_drew1) | exact HB.out)) hb); clear HO157; clear HO161; clear HO165; clear HB; have HO157 := n0_; have HO161 := n1_; have HO165 := n2_; have HB := n3_; clear n0_ n1_ n2_ n3_; (try clear hb); (try clear hb2); (try clear hk); (try clear hi)) | ((with_reducible refine gate_dst (N := 84) rfl ?_); (try (refine gate_guard (by rfl) ?_; dsimp only)); refine Kd.R_lit k32 _ 32 ?hg (N := 84) ?hd (xs := ([(⟨a0, 1073741824⟩ : S32)] : List (S32))) (inner := [.int .i64 a0, .int .i64 1073741824]) (ok := fun _ => True) (okp := fun _ => True) ?hr ?hp (fun _ hk => hk) trivial (Below.refl _ _) (Nat.le_refl _) (by simp) ?_; (case hd => rfl); (case hg => rfl); (case hr => first | (go_simp; done) | (go_simp; rfl)); (case hp => exact (Reps.c2 (show Kd.M k32 _ _ _ (⟨a0, 1073741824⟩ : S32) [.int .i64 a0, .int .i64 1073741824] from (k32_mkM _ _ _ (⟨a0, 1073741824⟩ : S32) )) (Reps.none _ _))); intro v168 w38 ho39 hb hg_ hnew_; clear hg_ hnew_; (first | rw [← Ny167.out] at ho39 | (simp only [Int.reduceToNat] at ho39; rw [← Ny167.out] at ho39)); have n0_ := Aside0.mk (Kd.R_elder' (by (with_reducible repeat (first | apply Kd.R_alloc | apply Kd.R_drewN | apply Kd.R_drew)); exact HO157.out) (Kd.R_base ho39) hb); have n1_ := Aside0.mk (Kd.R_elder' (by (with_reducible repeat (first | apply Kd.R_alloc | apply Kd.R_drewN | apply Kd.R_drew)); exact HO161.out) (Kd.R_base ho39) hb); have n2_ := Aside0.mk (Kd.R_elder' (by (with_reducible repeat (first | apply Kd.R_alloc | apply Kd.R_drewN | apply Kd.R_drew)); exact HO165.out) (Kd.R_base ho39) hb); have n3_ := Aside0.mk (Kd.R_lower (Kd.R_new' (Kd.R_new' (Kd.R_new' ho39 (Kd.R_lt (by (with_reducible repeat (first | apply Kd.R_alloc | apply Kd.R_drewN | apply Kd.R_drew)); exact HO157.out))) (Kd.R_lt (by (with_reducible repeat (first | apply Kd.R_alloc | apply Kd.R_drewN | apply Kd.R_drew)); exact HO161.out))) (Kd.R_lt (by (with_reducible repeat (first | apply Kd.R_alloc | apply Kd.R_drewN | apply Kd.R_drew)); exact HO165.out))) (below_size (by repeat (first | (with_reducible first | exact HB.out | apply below_alloc | apply pw_below_drewN | apply below_drew1) | exact HB.out)))); have n4_ := Aside0.mk (below_step (by repeat (first | (with_reducible first | exact HB.out | apply below_alloc | apply pw_below_drewN | apply below_drew1) | exact HB.out)) hb); clear HO157; clear HO161; clear HO165; clear HB; have HO157 := n0_; have HO161 := n1_; have HO165 := n2_; have HO169 := n3_; have HB := n4_; clear n0_ n1_ n2_ n3_ n4_; clear hb ho39; obtain ⟨Ao40, co40, eo40⟩ := Kd.R_slice HO169.out; subst eo40) | (go_at_call 14; (with_reducible refine (span_Has.calls _ _ y167 a3 a3 true _ ?side1 ?side2 A23.out).mono ?_); (case side1 => repeat (first | exact (Kd.R_reads' HO169.out).2.2 | (with_reducible refine Kd.C_alloc ?_ _) | (with_reducible refine Kd.C_drewN ?_ _) | (with_reducible refine Kd.C_drew ?_))); (case side2 => exact (Kd.R_reads' HO169.out).2.1); rintro e w41 ⟨rfl, hb⟩; have n0_ := Aside0.mk (Kd.R_below (by (with_reducible repeat (first | apply Kd.R_alloc | apply Kd.R_drewN | apply Kd.R_drew)); exact HO157.out) hb); have n1_ := Aside0.mk (Kd.R_below (by (with_reducible repeat (first | apply Kd.R_alloc | apply Kd.R_drewN | apply Kd.R_drew)); exact HO161.out) hb); have n2_ := Aside0.mk (Kd.R_below (by (with_reducible repeat (first | apply Kd.R_alloc | apply Kd.R_drewN | apply Kd.R_drew)); exact HO165.out) hb); have n3_ := Aside0.mk (Kd.R_below (by (with_reducible repeat (first | apply Kd.R_alloc | apply Kd.R_drewN | apply Kd.R_drew)); exact HO169.out) hb); have n4_ := Aside0.mk (below_step (by repeat (first | (with_reducible first | exact HB.out | apply below_alloc | apply pw_below_drewN | apply below_drew1) | exact HB.out)) hb); clear HO157; clear HO161; clear HO165; clear HO169; clear HB; have HO157 := n0_; have HO161 := n1_; have HO165 := n2_; have HO169 := n3_; have HB := n4_; clear n0_ n1_ n2_ n3_ n4_; (try clear hb); (try clear hb2); (try clear hk); (try clear hi)) | (go_at_call 13; (with_reducible refine (letterboxlaw12_known.calls kj4  t171 _ (Laid.below HLd.out (by repeat (first | (with_reducible first | exact HB.out | apply below_alloc | apply pw_below_drewN | apply below_drew1) | exact HB.out))) A25.out).mono ?_); rintro e w42 ⟨rfl, hb⟩; have n0_ := Aside0.mk (Kd.R_below (by (with_reducible repeat (first | apply Kd.R_alloc | apply Kd.R_drewN | apply Kd.R_drew)); exact HO157.out) hb); have n1_ := Aside0.mk (Kd.R_below (by (with_reducible repeat (first | apply Kd.R_alloc | apply Kd.R_drewN | apply Kd.R_drew)); exact HO161.out) hb); have n2_ := Aside0.mk (Kd.R_below (by (with_reducible repeat (first | apply Kd.R_alloc | apply Kd.R_drewN | apply Kd.R_drew)); exact HO165.out) hb); have n3_ := Aside0.mk (Kd.R_below (by (with_reducible repeat (first | apply Kd.R_alloc | apply Kd.R_drewN | apply Kd.R_drew)); exact HO169.out) hb); have n4_ := Aside0.mk (below_step (by repeat (first | (with_reducible first | exact HB.out | apply below_alloc | apply pw_below_drewN | apply below_drew1) | exact HB.out)) hb); clear HO157; clear HO161; clear HO165; clear HO169; clear HB; have HO157 := n0_; have HO161 := n1_; have HO165 := n2_; have HO169 := n3_; have HB := n4_; clear n0_ n1_ n2_ n3_ n4_; (try clear hb); (try clear hb2); (try clear hk); (try clear hi)))
                  go_ret
                  exact ⟨by first | (rw [Hr_]; done) | rfl | (simp [errW_none, errW_some] <;> rfl) | (simp only [← hji17, ← hji19]; first | rfl | (simp [errW_none, errW_some] <;> rfl)) | (simp [*, errW_none, errW_some] <;> rfl), by repeat (first | (with_reducible first | exact HB.out | apply below_alloc | apply pw_below_drewN | apply below_drew1) | exact HB.out)⟩
                · replace c24 := Bool.eq_false_iff.mpr c24
                  subst c24
                  have H1 : (some false) = some true := by rw [if_neg (show ¬ (false = true) by decide)] at H; exact H
                  clear H
                  have H := H1
                  clear H1
                  exact absurd H (by repeat' first | exact NT.none | exact NT.false | refine NT.ite ?_ ?_ | refine NT.bind (fun _ => ?_))
              · replace c22 := Bool.eq_false_iff.mpr c22
                subst c22
                have H1 : (some false) = some true := by rw [if_neg (show ¬ (false = true) by decide)] at H; exact H
                clear H
                have H := H1
                clear H1
                exact absurd H (by repeat' first | exact NT.none | exact NT.false | refine NT.ite ?_ ?_ | refine NT.bind (fun _ => ?_))
            · rw [if_neg c20] at H
              have c20b0 : (t158 == (decide (a2 ≤ (ji19)))) = false := by simpa using c20
              (try (have c20b1 : decide (t158 = (decide (a2 ≤ (ji19)))) = false := by simpa using c20))
              (try (have c20b2 : (t158 == (decide (a2 ≤ (ji19)))) = false := by simpa using c20))
              (try (have c20b3 : ¬ (t158 = (decide (a2 ≤ (ji19)))) := by simpa using c20))
              clear c20
              exact absurd H (by repeat' first | exact NT.none | exact NT.false | refine NT.ite ?_ ?_ | refine NT.bind (fun _ => ?_))
          · rw [if_neg c18] at H
            have c18b0 : decide ((ji17) ≤ a2) = false := decide_eq_false c18
            clear c18
            by_cases c43 : (t158 == false) = true
            · rw [if_pos c43] at H
              have c43b0 : (t158 == false) = true := c43
              (try (have c43b1 : decide (t158 = false) = true := by simpa using c43))
              (try (have c43b2 : (t158 == false) = true := by simpa using c43))
              clear c43
              obtain ⟨y172, hy172⟩ : ∃ y_ : List (S32), y_ = (([(⟨1073741824, 1073741824⟩ : S32)] : List (S32))) := ⟨_, rfl⟩
              replace H : ((span_Has.f y172 a3 a3).bind fun t175 => (if t175 = true then ((span_Has.f (([(⟨a0, 1073741824⟩ : S32)] : List (S32))) a3 a3).bind fun t179 => (if t179 = true then ((letterboxlaw12_known.f kj4).bind fun t180 => (some t180)) else (some false))) else (some false))) = some true := by first | (rw [hy172]; with_reducible exact H) | (have H2_ := (Option.bind_some _ _).symm.trans H; rw [hy172]; with_reducible exact H2_) | (have H2_ := (Option.bind_some _ _).symm.trans H; with_reducible exact H2_) | with_reducible exact H | (rw [hy172]; exact H) | exact H
              have Ny172 := Aside0.mk hy172
              clear hy172
              replace H := Option.bind_eq_some_iff.mp H
              obtain ⟨t175, A440, H⟩ := H
              replace H : (if t175 = true then ((span_Has.f (([(⟨a0, 1073741824⟩ : S32)] : List (S32))) a3 a3).bind fun t179 => (if t179 = true then ((letterboxlaw12_known.f kj4).bind fun t180 => (some t180)) else (some false))) else (some false)) = some true := H
              have A44 := Aside0.mk A440
              clear A440
              by_cases c45 : t175 = true
              · subst c45
                have H1 : ((span_Has.f (([(⟨a0, 1073741824⟩ : S32)] : List (S32))) a3 a3).bind fun t179 => (if t179 = true then ((letterboxlaw12_known.f kj4).bind fun t180 => (some t180)) else (some false))) = some true := by rw [if_pos rfl] at H; exact H
                clear H
                have H := H1
                clear H1
                obtain ⟨y176, hy176⟩ : ∃ y_ : List (S32), y_ = (([(⟨a0, 1073741824⟩ : S32)] : List (S32))) := ⟨_, rfl⟩
                replace H : ((span_Has.f y176 a3 a3).bind fun t179 => (if t179 = true then ((letterboxlaw12_known.f kj4).bind fun t180 => (some t180)) else (some false))) = some true := by first | (rw [hy176]; with_reducible exact H) | (have H2_ := (Option.bind_some _ _).symm.trans H; rw [hy176]; with_reducible exact H2_) | (have H2_ := (Option.bind_some _ _).symm.trans H; with_reducible exact H2_) | with_reducible exact H | (rw [hy176]; exact H) | exact H
                have Ny176 := Aside0.mk hy176
                clear hy176
                replace H := Option.bind_eq_some_iff.mp H
                obtain ⟨t179, A460, H⟩ := H
                replace H : (if t179 = true then ((letterboxlaw12_known.f kj4).bind fun t180 => (some t180)) else (some false)) = some true := H
                have A46 := Aside0.mk A460
                clear A460
                by_cases c47 : t179 = true
                · subst c47
                  have H1 : ((letterboxlaw12_known.f kj4).bind fun t180 => (some t180)) = some true := by rw [if_pos rfl] at H; exact H
                  clear H
                  have H := H1
                  clear H1
                  replace H := Option.bind_eq_some_iff.mp H
                  obtain ⟨t180, A480, H⟩ := H
                  replace H : (some t180) = some true := H
                  have A48 := Aside0.mk A480
                  clear A480
                  have Hr_ := Option.some.inj H
                  go_wp2_with (first | ((with_reducible refine gate_dst (N := 44) rfl ?_); (try (refine gate_guard (by rfl) ?_; dsimp only)); refine Kd.R_lit k32 _ 32 ?hg (N := 44) ?hd (xs := ([(⟨a0, a1⟩ : S32)] : List (S32))) (inner := [.int .i64 a0, .int .i64 a1]) (ok := fun _ => True) (okp := fun _ => True) ?hr ?hp (fun _ hk => hk) trivial (Below.refl _ _) (Nat.le_refl _) (by simp) ?_; (case hd => rfl); (case hg => rfl); (case hr => first | (go_simp; done) | (go_simp; rfl)); (case hp => exact (Reps.c2 (show Kd.M k32 _ _ _ (⟨a0, a1⟩ : S32) [.int .i64 a0, .int .i64 a1] from (k32_mkM _ _ _ (⟨a0, a1⟩ : S32) )) (Reps.none _ _))); intro v156 w49 ho50 hb hg_ hnew_; clear hg_ hnew_; (first | rw [← Ny155.out] at ho50 | (simp only [Int.reduceToNat] at ho50; rw [← Ny155.out] at ho50)); have n0_ := Aside0.mk (Kd.R_lower ho50 (below_size (by repeat (first | (with_reducible first | exact HB.out | apply below_alloc | apply pw_below_drewN | apply below_drew1) | exact HB.out)))); have n1_ := Aside0.mk (below_step (by repeat (first | (with_reducible first | exact HB.out | apply below_alloc | apply pw_below_drewN | apply below_drew1) | exact HB.out)) hb); clear HB; have HO157 := n0_; have HB := n1_; clear n0_ n1_; clear hb ho50; obtain ⟨Ao51, co51, eo51⟩ := Kd.R_slice HO157.out; subst eo51) | ((with_reducible refine gate_callee (f := 14) rfl ?_); refine goesL_ (some 47) rfl rfl Tryd.func14 (by kernel_rfl) rfl #[.slice Ao51 y155.length co51, .int .i64 a2, .int .i64 a3] rfl (by (try simp only [List.map_toArray, List.map_cons, List.map_nil]); first | done | rfl | (simp only [List.length_drop, List.length_take]; rfl)) ?_; (with_reducible refine (span_Has.calls _ _ y155 a2 a3 t158 _ ?side1 ?side2 A14.out).mono ?_); (case side1 => repeat (first | exact (Kd.R_reads' HO157.out).2.2 | (with_reducible refine Kd.C_alloc ?_ _) | (with_reducible refine Kd.C_drewN ?_ _) | (with_reducible refine Kd.C_drew ?_))); (case side2 => exact (Kd.R_reads' HO157.out).2.1); rintro e w52 ⟨rfl, hb⟩; refine ⟨_, rfl, ?_⟩; have n0_ := Aside0.mk (Kd.R_below (by (with_reducible repeat (first | apply Kd.R_alloc | apply Kd.R_drewN | apply Kd.R_drew)); exact HO157.out) hb); have n1_ := Aside0.mk (below_step (by repeat (first | (with_reducible first | exact HB.out | apply below_alloc | apply pw_below_drewN | apply below_drew1) | exact HB.out)) hb); clear HO157; clear HB; have HO157 := n0_; have HB := n1_; clear n0_ n1_; (try clear hb); (try clear hb2); (try clear hk); (try clear hi)) | ((with_reducible refine gate_dst (N := 51) rfl ?_); (try (refine gate_guard (by rfl) ?_; dsimp only)); refine Kd.R_lit k32 _ 32 ?hg (N := 51) ?hd (xs := ([(⟨a1, a0⟩ : S32)] : List (S32))) (inner := [.int .i64 a1, .int .i64 a0]) (ok := fun _ => True) (okp := fun _ => True) ?hr ?hp (fun _ hk => hk) trivial (Below.refl _ _) (Nat.le_refl _) (by simp) ?_; (case hd => rfl); (case hg => rfl); (case hr => first | (go_simp; done) | (go_simp; rfl)); (case hp => exact (Reps.c2 (show Kd.M k32 _ _ _ (⟨a1, a0⟩ : S32) [.int .i64 a1, .int .i64 a0] from (k32_mkM _ _ _ (⟨a1, a0⟩ : S32) )) (Reps.none _ _))); intro v160 w53 ho54 hb hg_ hnew_; clear hg_ hnew_; (first | rw [← Ny159.out] at ho54 | (simp only [Int.reduceToNat] at ho54; rw [← Ny159.out] at ho54)); have n0_ := Aside0.mk (Kd.R_elder' (by (with_reducible repeat (first | apply Kd.R_alloc | apply Kd.R_drewN | apply Kd.R_drew)); exact HO157.out) (Kd.R_base ho54) hb); have n1_ := Aside0.mk (Kd.R_lower (Kd.R_new' ho54 (Kd.R_lt (by (with_reducible repeat (first | apply Kd.R_alloc | apply Kd.R_drewN | apply Kd.R_drew)); exact HO157.out))) (below_size (by repeat (first | (with_reducible first | exact HB.out | apply below_alloc | apply pw_below_drewN | apply below_drew1) | exact HB.out)))); have n2_ := Aside0.mk (below_step (by repeat (first | (with_reducible first | exact HB.out | apply below_alloc | apply pw_below_drewN | apply below_drew1) | exact HB.out)) hb); clear HO157; clear HB; have HO157 := n0_; have HO161 := n1_; have HB := n2_; clear n0_ n1_ n2_; clear hb ho54; obtain ⟨Ao55, co55, eo55⟩ := Kd.R_slice HO161.out; subst eo55) | ((with_reducible refine gate_callee (f := 14) rfl ?_); refine goesL_ (some 54) rfl rfl Tryd.func14 (by kernel_rfl) rfl #[.slice Ao55 y159.length co55, .int .i64 a2, .int .i64 a3] rfl (by (try simp only [List.map_toArray, List.map_cons, List.map_nil]); first | done | rfl | (simp only [List.length_drop, List.length_take]; rfl)) ?_; (with_reducible refine (span_Has.calls _ _ y159 a2 a3 t162 _ ?side1 ?side2 A15.out).mono ?_); (case side1 => repeat (first | exact (Kd.R_reads' HO161.out).2.2 | (with_reducible refine Kd.C_alloc ?_ _) | (with_reducible refine Kd.C_drewN ?_ _) | (with_reducible refine Kd.C_drew ?_))); (case side2 => exact (Kd.R_reads' HO161.out).2.1); rintro e w56 ⟨rfl, hb⟩; refine ⟨_, rfl, ?_⟩; have n0_ := Aside0.mk (Kd.R_below (by (with_reducible repeat (first | apply Kd.R_alloc | apply Kd.R_drewN | apply Kd.R_drew)); exact HO157.out) hb); have n1_ := Aside0.mk (Kd.R_below (by (with_reducible repeat (first | apply Kd.R_alloc | apply Kd.R_drewN | apply Kd.R_drew)); exact HO161.out) hb); have n2_ := Aside0.mk (below_step (by repeat (first | (with_reducible first | exact HB.out | apply below_alloc | apply pw_below_drewN | apply below_drew1) | exact HB.out)) hb); clear HO157; clear HO161; clear HB; have HO157 := n0_; have HO161 := n1_; have HB := n2_; clear n0_ n1_ n2_; (try clear hb); (try clear hb2); (try clear hk); (try clear hi)) | ((with_reducible refine gate_dst (N := 76) rfl ?_); (try (refine gate_guard (by rfl) ?_; dsimp only)); refine Kd.R_lit k32 _ 32 ?hg (N := 76) ?hd (xs := ([(⟨1073741824, 1073741824⟩ : S32)] : List (S32))) (inner := [.int .i64 1073741824, .int .i64 1073741824]) (ok := fun _ => True) (okp := fun _ => True) ?hr ?hp (fun _ hk => hk) trivial (Below.refl _ _) (Nat.le_refl _) (by simp) ?_; (case hd => rfl); (case hg => rfl); (case hr => first | (go_simp; done) | (go_simp; rfl)); (case hp => exact (Reps.c2 (show Kd.M k32 _ _ _ (⟨1073741824, 1073741824⟩ : S32) [.int .i64 1073741824, .int .i64 1073741824] from (k32_mkM _ _ _ (⟨1073741824, 1073741824⟩ : S32) )) (Reps.none _ _))); intro v173 w57 ho58 hb hg_ hnew_; clear hg_ hnew_; (first | rw [← Ny172.out] at ho58 | (simp only [Int.reduceToNat] at ho58; rw [← Ny172.out] at ho58)); have n0_ := Aside0.mk (Kd.R_elder' (by (with_reducible repeat (first | apply Kd.R_alloc | apply Kd.R_drewN | apply Kd.R_drew)); exact HO157.out) (Kd.R_base ho58) hb); have n1_ := Aside0.mk (Kd.R_elder' (by (with_reducible repeat (first | apply Kd.R_alloc | apply Kd.R_drewN | apply Kd.R_drew)); exact HO161.out) (Kd.R_base ho58) hb); have n2_ := Aside0.mk (Kd.R_lower (Kd.R_new' (Kd.R_new' ho58 (Kd.R_lt (by (with_reducible repeat (first | apply Kd.R_alloc | apply Kd.R_drewN | apply Kd.R_drew)); exact HO157.out))) (Kd.R_lt (by (with_reducible repeat (first | apply Kd.R_alloc | apply Kd.R_drewN | apply Kd.R_drew)); exact HO161.out))) (below_size (by repeat (first | (with_reducible first | exact HB.out | apply below_alloc | apply pw_below_drewN | apply below_drew1) | exact HB.out)))); have n3_ := Aside0.mk (below_step (by repeat (first | (with_reducible first | exact HB.out | apply below_alloc | apply pw_below_drewN | apply below_drew1) | exact HB.out)) hb); clear HO157; clear HO161; clear HB; have HO157 := n0_; have HO161 := n1_; have HO174 := n2_; have HB := n3_; clear n0_ n1_ n2_ n3_; clear hb ho58; obtain ⟨Ao59, co59, eo59⟩ := Kd.R_slice HO174.out; subst eo59) | (go_at_call 14; (with_reducible refine (span_Has.calls _ _ y172 a3 a3 true _ ?side1 ?side2 A44.out).mono ?_); (case side1 => repeat (first | exact (Kd.R_reads' HO174.out).2.2 | (with_reducible refine Kd.C_alloc ?_ _) | (with_reducible refine Kd.C_drewN ?_ _) | (with_reducible refine Kd.C_drew ?_))); (case side2 => exact (Kd.R_reads' HO174.out).2.1); rintro e w60 ⟨rfl, hb⟩; have n0_ := Aside0.mk (Kd.R_below (by (with_reducible repeat (first | apply Kd.R_alloc | apply Kd.R_drewN | apply Kd.R_drew)); exact HO157.out) hb); have n1_ := Aside0.mk (Kd.R_below (by (with_reducible repeat (first | apply Kd.R_alloc | apply Kd.R_drewN | apply Kd.R_drew)); exact HO161.out) hb); have n2_ := Aside0.mk (Kd.R_below (by (with_reducible repeat (first | apply Kd.R_alloc | apply Kd.R_drewN | apply Kd.R_drew)); exact HO174.out) hb); have n3_ := Aside0.mk (below_step (by repeat (first | (with_reducible first | exact HB.out | apply below_alloc | apply pw_below_drewN | apply below_drew1) | exact HB.out)) hb); clear HO157; clear HO161; clear HO174; clear HB; have HO157 := n0_; have HO161 := n1_; have HO174 := n2_; have HB := n3_; clear n0_ n1_ n2_ n3_; (try clear hb); (try clear hb2); (try clear hk); (try clear hi)) | ((with_reducible refine gate_dst (N := 84) rfl ?_); (try (refine gate_guard (by rfl) ?_; dsimp only)); refine Kd.R_lit k32 _ 32 ?hg (N := 84) ?hd (xs := ([(⟨a0, 1073741824⟩ : S32)] : List (S32))) (inner := [.int .i64 a0, .int .i64 1073741824]) (ok := fun _ => True) (okp := fun _ => True) ?hr ?hp (fun _ hk => hk) trivial (Below.refl _ _) (Nat.le_refl _) (by simp) ?_; (case hd => rfl); (case hg => rfl); (case hr => first | (go_simp; done) | (go_simp; rfl)); (case hp => exact (Reps.c2 (show Kd.M k32 _ _ _ (⟨a0, 1073741824⟩ : S32) [.int .i64 a0, .int .i64 1073741824] from (k32_mkM _ _ _ (⟨a0, 1073741824⟩ : S32) )) (Reps.none _ _))); intro v177 w61 ho62 hb hg_ hnew_; clear hg_ hnew_; (first | rw [← Ny176.out] at ho62 | (simp only [Int.reduceToNat] at ho62; rw [← Ny176.out] at ho62)); have n0_ := Aside0.mk (Kd.R_elder' (by (with_reducible repeat (first | apply Kd.R_alloc | apply Kd.R_drewN | apply Kd.R_drew)); exact HO157.out) (Kd.R_base ho62) hb); have n1_ := Aside0.mk (Kd.R_elder' (by (with_reducible repeat (first | apply Kd.R_alloc | apply Kd.R_drewN | apply Kd.R_drew)); exact HO161.out) (Kd.R_base ho62) hb); have n2_ := Aside0.mk (Kd.R_elder' (by (with_reducible repeat (first | apply Kd.R_alloc | apply Kd.R_drewN | apply Kd.R_drew)); exact HO174.out) (Kd.R_base ho62) hb); have n3_ := Aside0.mk (Kd.R_lower (Kd.R_new' (Kd.R_new' (Kd.R_new' ho62 (Kd.R_lt (by (with_reducible repeat (first | apply Kd.R_alloc | apply Kd.R_drewN | apply Kd.R_drew)); exact HO157.out))) (Kd.R_lt (by (with_reducible repeat (first | apply Kd.R_alloc | apply Kd.R_drewN | apply Kd.R_drew)); exact HO161.out))) (Kd.R_lt (by (with_reducible repeat (first | apply Kd.R_alloc | apply Kd.R_drewN | apply Kd.R_drew)); exact HO174.out))) (below_size (by repeat (first | (with_reducible first | exact HB.out | apply below_alloc | apply pw_below_drewN | apply below_drew1) | exact HB.out)))); have n4_ := Aside0.mk (below_step (by repeat (first | (with_reducible first | exact HB.out | apply below_alloc | apply pw_below_drewN | apply below_drew1) | exact HB.out)) hb); clear HO157; clear HO161; clear HO174; clear HB; have HO157 := n0_; have HO161 := n1_; have HO174 := n2_; have HO178 := n3_; have HB := n4_; clear n0_ n1_ n2_ n3_ n4_; clear hb ho62; obtain ⟨Ao63, co63, eo63⟩ := Kd.R_slice HO178.out; subst eo63) | (go_at_call 14; (with_reducible refine (span_Has.calls _ _ y176 a3 a3 true _ ?side1 ?side2 A46.out).mono ?_); (case side1 => repeat (first | exact (Kd.R_reads' HO178.out).2.2 | (with_reducible refine Kd.C_alloc ?_ _) | (with_reducible refine Kd.C_drewN ?_ _) | (with_reducible refine Kd.C_drew ?_))); (case side2 => exact (Kd.R_reads' HO178.out).2.1); rintro e w64 ⟨rfl, hb⟩; have n0_ := Aside0.mk (Kd.R_below (by (with_reducible repeat (first | apply Kd.R_alloc | apply Kd.R_drewN | apply Kd.R_drew)); exact HO157.out) hb); have n1_ := Aside0.mk (Kd.R_below (by (with_reducible repeat (first | apply Kd.R_alloc | apply Kd.R_drewN | apply Kd.R_drew)); exact HO161.out) hb); have n2_ := Aside0.mk (Kd.R_below (by (with_reducible repeat (first | apply Kd.R_alloc | apply Kd.R_drewN | apply Kd.R_drew)); exact HO174.out) hb); have n3_ := Aside0.mk (Kd.R_below (by (with_reducible repeat (first | apply Kd.R_alloc | apply Kd.R_drewN | apply Kd.R_drew)); exact HO178.out) hb); have n4_ := Aside0.mk (below_step (by repeat (first | (with_reducible first | exact HB.out | apply below_alloc | apply pw_below_drewN | apply below_drew1) | exact HB.out)) hb); clear HO157; clear HO161; clear HO174; clear HO178; clear HB; have HO157 := n0_; have HO161 := n1_; have HO174 := n2_; have HO178 := n3_; have HB := n4_; clear n0_ n1_ n2_ n3_ n4_; (try clear hb); (try clear hb2); (try clear hk); (try clear hi)) | (go_at_call 13; (with_reducible refine (letterboxlaw12_known.calls kj4  t180 _ (Laid.below HLd.out (by repeat (first | (with_reducible first | exact HB.out | apply below_alloc | apply pw_below_drewN | apply below_drew1) | exact HB.out))) A48.out).mono ?_); rintro e w65 ⟨rfl, hb⟩; have n0_ := Aside0.mk (Kd.R_below (by (with_reducible repeat (first | apply Kd.R_alloc | apply Kd.R_drewN | apply Kd.R_drew)); exact HO157.out) hb); have n1_ := Aside0.mk (Kd.R_below (by (with_reducible repeat (first | apply Kd.R_alloc | apply Kd.R_drewN | apply Kd.R_drew)); exact HO161.out) hb); have n2_ := Aside0.mk (Kd.R_below (by (with_reducible repeat (first | apply Kd.R_alloc | apply Kd.R_drewN | apply Kd.R_drew)); exact HO174.out) hb); have n3_ := Aside0.mk (Kd.R_below (by (with_reducible repeat (first | apply Kd.R_alloc | apply Kd.R_drewN | apply Kd.R_drew)); exact HO178.out) hb); have n4_ := Aside0.mk (below_step (by repeat (first | (with_reducible first | exact HB.out | apply below_alloc | apply pw_below_drewN | apply below_drew1) | exact HB.out)) hb); clear HO157; clear HO161; clear HO174; clear HO178; clear HB; have HO157 := n0_; have HO161 := n1_; have HO174 := n2_; have HO178 := n3_; have HB := n4_; clear n0_ n1_ n2_ n3_ n4_; (try clear hb); (try clear hb2); (try clear hk); (try clear hi)))
                  go_ret
                  exact ⟨by first | (rw [Hr_]; done) | rfl | (simp [errW_none, errW_some] <;> rfl) | (simp only [← hji17]; first | rfl | (simp [errW_none, errW_some] <;> rfl)) | (simp [*, errW_none, errW_some] <;> rfl), by repeat (first | (with_reducible first | exact HB.out | apply below_alloc | apply pw_below_drewN | apply below_drew1) | exact HB.out)⟩
                · replace c47 := Bool.eq_false_iff.mpr c47
                  subst c47
                  have H1 : (some false) = some true := by rw [if_neg (show ¬ (false = true) by decide)] at H; exact H
                  clear H
                  have H := H1
                  clear H1
                  exact absurd H (by repeat' first | exact NT.none | exact NT.false | refine NT.ite ?_ ?_ | refine NT.bind (fun _ => ?_))
              · replace c45 := Bool.eq_false_iff.mpr c45
                subst c45
                have H1 : (some false) = some true := by rw [if_neg (show ¬ (false = true) by decide)] at H; exact H
                clear H
                have H := H1
                clear H1
                exact absurd H (by repeat' first | exact NT.none | exact NT.false | refine NT.ite ?_ ?_ | refine NT.bind (fun _ => ?_))
            · rw [if_neg c43] at H
              have c43b0 : (t158 == false) = false := by simpa using c43
              (try (have c43b1 : decide (t158 = false) = false := by simpa using c43))
              (try (have c43b2 : (t158 == false) = false := by simpa using c43))
              (try (have c43b3 : ¬ (t158 = false) := by simpa using c43))
              clear c43
              exact absurd H (by repeat' first | exact NT.none | exact NT.false | refine NT.ite ?_ ?_ | refine NT.bind (fun _ => ?_))
        · rw [if_neg c16] at H
          have c16b0 : (t158 == t162) = false := by simpa using c16
          (try (have c16b1 : decide (t158 = t162) = false := by simpa using c16))
          (try (have c16b2 : (t158 == t162) = false := by simpa using c16))
          (try (have c16b3 : ¬ (t158 = t162) := by simpa using c16))
          clear c16
          exact absurd H (by repeat' first | exact NT.none | exact NT.false | refine NT.ite ?_ ?_ | refine NT.bind (fun _ => ?_))

end Go.Proofs.YtdgbllaenkcmbaaDoor.P
