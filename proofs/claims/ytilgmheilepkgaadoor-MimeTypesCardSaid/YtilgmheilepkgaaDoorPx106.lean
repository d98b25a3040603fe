/- The walks of the seat's functions, one contract a function: printed by a program of this session's (wip/gen). Not trusted: Lean checks it. -/
import Derived.Test.YtilgmheilepkgaaDoorPx1
import Derived.Test.YtilgmheilepkgaaDoorPx2
import Derived.Test.YtilgmheilepkgaaDoorPx4
import Derived.Test.YtilgmheilepkgaaDoorPx110
import Derived.Test.YtilgmheilepkgaaDoorMimeConv
namespace Go.Proofs.YtilgmheilepkgaaDoor.P
open Go.RowKit Go.Proofs.YtilgmheilepkgaaDoorW.PrintWords Go.Proofs.YtilgmheilepkgaaDoorW.PrintLast Go.Proofs.YtilgmheilepkgaaDoorW.PrintMore
attribute [local go_sem] max2_int min2_int max_two min_two max_three min_three max_four min_four   -- for this text's walks alone
set_option linter.unusedVariables false
set_option linter.unusedSimpArgs false

/-! ### letterboxlaw10_MimeTypes: function 6 -/
mutual
def letterboxlaw10_MimeTypes.j0 : Nat → ByteArray → ByteArray → ByteArray → Bool → Option (Bool)
  | 0, _, _, _, _ => none
  | k + 1, x0, x1, x2, x26 => if x26 = true then (some true) else (letterboxlaw10_MimeTypes.l0 k x0 x1 x2 0)
def letterboxlaw10_MimeTypes.l0 : Nat → ByteArray → ByteArray → ByteArray → Int → Option (Bool)
  | 0, _, _, _, _ => none
  | k + 1, x0, x1, x2, x7 => if x7 < (x2.size : Int) then (if 0 ≤ x7 then (if (bt x2 x7) < 97 then (some true) else (if (bt x2 x7) > 122 then (some true) else (letterboxlaw10_MimeTypes.l0 k x0 x1 x2 (wrap64 (x7 + 1))))) else (none)) else (if 15 + x0.size ≤ 9223372036854775807 then (if 15 + x0.size + 1 ≤ 9223372036854775807 then (if 15 + x0.size + 1 + x1.size ≤ 9223372036854775807 then (if 15 + x0.size + 1 + x1.size + 3 ≤ 9223372036854775807 then (if 15 + x0.size + 1 + x1.size + 3 + x2.size ≤ 9223372036854775807 then (if 15 + x0.size + 1 + x1.size + 3 + x2.size + 4 ≤ 9223372036854775807 then ((conv_9_22.f (((((((⟨#[67, 79, 78, 84, 69, 78, 84, 45, 84, 89, 80, 69, 58, 32, 32]⟩ : ByteArray) ++ x0) ++ (⟨#[47]⟩ : ByteArray)) ++ x1) ++ (⟨#[32, 59, 32]⟩ : ByteArray)) ++ x2) ++ (⟨#[13, 10, 13, 10]⟩ : ByteArray))).bind fun t339 => ((mime_Type.f k t339).bind fun bt342 => (if 14 + x0.size ≤ 9223372036854775807 then (if 14 + x0.size + 4 ≤ 9223372036854775807 then ((conv_9_22.f (((⟨#[67, 111, 110, 116, 101, 110, 116, 45, 84, 121, 112, 101, 58, 32]⟩ : ByteArray) ++ x0) ++ (⟨#[13, 10, 13, 10]⟩ : ByteArray))).bind fun t345 => ((mime_Type.f k t345).bind fun bt348 => (if bt342.1.toList = x0.toList then (if bt342.2.1.toList = x1.toList then (if bt342.2.2.toList = ([] : List UInt8) then (if bt348.1.toList = ([116, 101, 120, 116] : List UInt8) then (if bt348.2.1.toList = ([112, 108, 97, 105, 110] : List UInt8) then (if bt348.2.2.toList = ([] : List UInt8) then ((letterboxlaw10_known.f k).bind fun t351 => (some t351)) else (some false)) else (some false)) else (some false)) else (some false)) else (some false)) else (some false)))) else (none)) else (none)))) else (none)) else (none)) else (none)) else (none)) else (none)) else (none))
end
def letterboxlaw10_MimeTypes.f (k : Nat) (a0 : ByteArray) (a1 : ByteArray) (a2 : ByteArray) : Option (Bool) := (letterboxlaw10_clean.f k a0).bind fun t337 => (if t337 = true then ((letterboxlaw10_clean.f k a1).bind fun t338 => (if t338 = true then (letterboxlaw10_MimeTypes.j0 k a0 a1 a2 (decide ((a2.size : Int) > 100))) else (letterboxlaw10_MimeTypes.j0 k a0 a1 a2 true))) else (letterboxlaw10_MimeTypes.j0 k a0 a1 a2 true))
theorem letterboxlaw10_MimeTypes.mono_l : ∀ k, (∀ y0 y1 y2 y3, LeO (letterboxlaw10_MimeTypes.j0 k y0 y1 y2 y3) (letterboxlaw10_MimeTypes.j0 (k + 1) y0 y1 y2 y3)) ∧ (∀ y0 y1 y2 y3, LeO (letterboxlaw10_MimeTypes.l0 k y0 y1 y2 y3) (letterboxlaw10_MimeTypes.l0 (k + 1) y0 y1 y2 y3))
  | 0 => ⟨fun _ _ _ _ r h => by simp [letterboxlaw10_MimeTypes.j0] at h, fun _ _ _ _ r h => by simp [letterboxlaw10_MimeTypes.l0] at h⟩
  | k + 1 => by
    obtain ⟨ih0, ih1⟩ := letterboxlaw10_MimeTypes.mono_l k
    refine ⟨?_, ?_⟩
    · intro y0 y1 y2 y3
      unfold letterboxlaw10_MimeTypes.j0
      repeat' first
      | (with_reducible exact ih0 _ _ _ _)
      | (with_reducible exact ih1 _ _ _ _)
      | (with_reducible exact letterboxlaw10_clean.mono _ _)
      | (with_reducible exact letterboxlaw10_known.mono _)
      | (with_reducible exact mime_Type.mono _ _)
      | (with_reducible exact LeO.refl _)
      | (with_reducible exact LeO.none _)
      | (with_reducible refine LeO.ite ?_ ?_)
      | (with_reducible refine LeO.bind ?_ (fun _ => ?_))
      | exact ih0 _ _ _ _
      | exact ih1 _ _ _ _
      | exact letterboxlaw10_clean.mono _ _
      | exact letterboxlaw10_known.mono _
      | exact mime_Type.mono _ _
      | exact LeO.none _
      | refine LeO.ite ?_ ?_
      | refine LeO.bind ?_ (fun _ => ?_)
    · intro y0 y1 y2 y3
      unfold letterboxlaw10_MimeTypes.l0
      repeat' first
      | (with_reducible exact ih0 _ _ _ _)
      | (with_reducible exact ih1 _ _ _ _)
      | (with_reducible exact letterboxlaw10_clean.mono _ _)
      | (with_reducible exact letterboxlaw10_known.mono _)
      | (with_reducible exact mime_Type.mono _ _)
      | (with_reducible exact LeO.refl _)
      | (with_reducible exact LeO.none _)
      | (with_reducible refine LeO.ite ?_ ?_)
      | (with_reducible refine LeO.bind ?_ (fun _ => ?_))
      | exact ih0 _ _ _ _
      | exact ih1 _ _ _ _
      | exact letterboxlaw10_clean.mono _ _
      | exact letterboxlaw10_known.mono _
      | exact mime_Type.mono _ _
      | exact LeO.none _
      | refine LeO.ite ?_ ?_
      | refine LeO.bind ?_ (fun _ => ?_)
theorem letterboxlaw10_MimeTypes.mono : ∀ a0 a1 a2 k, LeO (letterboxlaw10_MimeTypes.f k a0 a1 a2) (letterboxlaw10_MimeTypes.f (k + 1) a0 a1 a2) := by
  intro a0 a1 a2 k
  obtain ⟨ih0, ih1⟩ := letterboxlaw10_MimeTypes.mono_l k
  unfold letterboxlaw10_MimeTypes.f
  repeat' first
      | (with_reducible exact ih0 _ _ _ _)
      | (with_reducible exact ih1 _ _ _ _)
      | (with_reducible exact letterboxlaw10_clean.mono _ _)
      | (with_reducible exact letterboxlaw10_known.mono _)
      | (with_reducible exact mime_Type.mono _ _)
      | (with_reducible exact LeO.refl _)
      | (with_reducible exact LeO.none _)
      | (with_reducible refine LeO.ite ?_ ?_)
      | (with_reducible refine LeO.bind ?_ (fun _ => ?_))
      | exact ih0 _ _ _ _
      | exact ih1 _ _ _ _
      | exact letterboxlaw10_clean.mono _ _
      | exact letterboxlaw10_known.mono _
      | exact mime_Type.mono _ _
      | exact LeO.none _
      | refine LeO.ite ?_ ?_
      | refine LeO.bind ?_ (fun _ => ?_)
set_option maxHeartbeats 8000000 in
set_option maxRecDepth 100000 in
theorem letterboxlaw10_MimeTypes.calls (k : Nat) (a0 : ByteArray) (a1 : ByteArray) (a2 : ByteArray) (w : World) (h : letterboxlaw10_MimeTypes.f k a0 a1 a2 = some true) :
    Calls Tryd.prog 6 #[.string a0, .string a1, .string a2] w fun e w' => e = .returned (.bool true) ∧ Below w.heap.size w w' := by
  have HB := Aside0.mk (Below.refl w.heap.size w)
  have H : ((letterboxlaw10_clean.f k a0).bind fun t337 => (if t337 = true then ((letterboxlaw10_clean.f k a1).bind fun t338 => (if t338 = true then (letterboxlaw10_MimeTypes.j0 k a0 a1 a2 (decide ((a2.size : Int) > 100))) else (letterboxlaw10_MimeTypes.j0 k a0 a1 a2 true))) else (letterboxlaw10_MimeTypes.j0 k a0 a1 a2 true))) = some true := h
  clear h
  have HC4 := Aside0.mk H
  clear H
  go_enter Tryd.func6, Tryd.ntmps6
  go_upto_region 1 with (fail)
  go_cut [26] (fun v26 wc => ∃ (kq : Nat) (x26_3 : Bool), v26 = .bool x26_3 ∧ Aside0 (letterboxlaw10_MimeTypes.j0 kq a0 a1 a2 x26_3 = some true) ∧ Aside0 (kq ≤ k) ∧ Aside0 (Below w.heap.size w wc))
  case first =>
    have H := HC4.out
    clear HC4
    replace H := Option.bind_eq_some_iff.mp H
    obtain ⟨t337, A50, H⟩ := H
    replace H : (if t337 = true then ((letterboxlaw10_clean.f k a1).bind fun t338 => (if t338 = true then (letterboxlaw10_MimeTypes.j0 k a0 a1 a2 (decide ((a2.size : Int) > 100))) else (letterboxlaw10_MimeTypes.j0 k a0 a1 a2 true))) else (letterboxlaw10_MimeTypes.j0 k a0 a1 a2 true)) = some true := H
    have A5 := Aside0.mk A50
    clear A50
    by_cases c6 : t337 = true
    · subst c6
      have H1 : ((letterboxlaw10_clean.f k a1).bind fun t338 => (if t338 = true then (letterboxlaw10_MimeTypes.j0 k a0 a1 a2 (decide ((a2.size : Int) > 100))) else (letterboxlaw10_MimeTypes.j0 k a0 a1 a2 true))) = some true := by rw [if_pos rfl] at H; exact H
      clear H
      have H := H1
      clear H1
      replace H := Option.bind_eq_some_iff.mp H
      obtain ⟨t338, A70, H⟩ := H
      replace H : (if t338 = true then (letterboxlaw10_MimeTypes.j0 k a0 a1 a2 (decide ((a2.size : Int) > 100))) else (letterboxlaw10_MimeTypes.j0 k a0 a1 a2 true)) = some true := H
      have A7 := Aside0.mk A70
      clear A70
      by_cases c8 : t338 = true
      · subst c8
        have H1 : (letterboxlaw10_MimeTypes.j0 k a0 a1 a2 (decide ((a2.size : Int) > 100))) = some true := by rw [if_pos rfl] at H; exact H
        clear H
        have H := H1
        clear H1
        have H' := Aside0.mk H
        clear H
        go_wp2_with (first | ((with_reducible refine gate_callee (f := 13) rfl ?_); refine goesL_ (some 15) rfl rfl Tryd.func13 (by kernel_rfl) rfl #[.string a0] rfl (by (try simp only [List.map_toArray, List.map_cons, List.map_nil]); first | done | rfl | (simp only [List.length_drop, List.length_take]; rfl)) ?_; (with_reducible refine (letterboxlaw10_clean.calls k a0 true _ A5.out).mono ?_); rintro e w' ⟨rfl, ⟨nd, rfl⟩⟩; refine ⟨_, rfl, ?_⟩) | (go_at_call 13; (with_reducible refine (letterboxlaw10_clean.calls k a1 true _ A7.out).mono ?_); rintro e w' ⟨rfl, ⟨nd, rfl⟩⟩))
        go_meet
        case rel => exact ⟨_, (decide ((a2.size : Int) > 100)), (by first | rfl | (simp; done) | (simp [*]; done)), H', ⟨by first | omega | exact Nat.le_refl _⟩, ⟨by repeat (first | (with_reducible first | exact HB.out | apply below_alloc | apply pw_below_drewN | apply below_drew1) | exact HB.out)⟩⟩
      · replace c8 := Bool.eq_false_iff.mpr c8
        subst c8
        have H1 : (letterboxlaw10_MimeTypes.j0 k a0 a1 a2 true) = some true := by rw [if_neg (show ¬ (false = true) by decide)] at H; exact H
        clear H
        have H := H1
        clear H1
        have H' := Aside0.mk H
        clear H
        go_wp2_with (first | ((with_reducible refine gate_callee (f := 13) rfl ?_); refine goesL_ (some 15) rfl rfl Tryd.func13 (by kernel_rfl) rfl #[.string a0] rfl (by (try simp only [List.map_toArray, List.map_cons, List.map_nil]); first | done | rfl | (simp only [List.length_drop, List.length_take]; rfl)) ?_; (with_reducible refine (letterboxlaw10_clean.calls k a0 true _ A5.out).mono ?_); rintro e w' ⟨rfl, ⟨nd, rfl⟩⟩; refine ⟨_, rfl, ?_⟩) | (go_at_call 13; (with_reducible refine (letterboxlaw10_clean.calls k a1 false _ A7.out).mono ?_); rintro e w' ⟨rfl, ⟨nd, rfl⟩⟩))
        go_meet
        case rel => exact ⟨_, (true), (by first | rfl | (simp; done) | (simp [*]; done)), H', ⟨by first | omega | exact Nat.le_refl _⟩, ⟨by repeat (first | (with_reducible first | exact HB.out | apply below_alloc | apply pw_below_drewN | apply below_drew1) | exact HB.out)⟩⟩
    · replace c6 := Bool.eq_false_iff.mpr c6
      subst c6
      have H1 : (letterboxlaw10_MimeTypes.j0 k a0 a1 a2 true) = some true := by rw [if_neg (show ¬ (false = true) by decide)] at H; exact H
      clear H
      have H := H1
      clear H1
      have H' := Aside0.mk H
      clear H
      go_wp2_with (first | ((with_reducible refine gate_callee (f := 13) rfl ?_); refine goesL_ (some 15) rfl rfl Tryd.func13 (by kernel_rfl) rfl #[.string a0] rfl (by (try simp only [List.map_toArray, List.map_cons, List.map_nil]); first | done | rfl | (simp only [List.length_drop, List.length_take]; rfl)) ?_; (with_reducible refine (letterboxlaw10_clean.calls k a0 false _ A5.out).mono ?_); rintro e w' ⟨rfl, ⟨nd, rfl⟩⟩; refine ⟨_, rfl, ?_⟩))
      go_meet
      case rel => exact ⟨_, (true), (by first | rfl | (simp; done) | (simp [*]; done)), H', ⟨by first | omega | exact Nat.le_refl _⟩, ⟨by repeat (first | (with_reducible first | exact HB.out | apply below_alloc | apply pw_below_drewN | apply below_drew1) | exact HB.out)⟩⟩
  case rest =>
    clear HC4
    try clear c1
    try clear p2
    try clear c6
    try clear c8
    obtain ⟨kq, x26_3, rfl, HA, HJ3, HB⟩ := hcut
    cases kq with
    | zero => exact absurd HA.out (by simp [letterboxlaw10_MimeTypes.j0])
    | succ kj3 =>
      have H := HA.out
      clear HA
      simp only [letterboxlaw10_MimeTypes.j0] at H
      by_cases c9 : x26_3 = true
      · subst c9
        have H1 : (some true) = some true := rfl
        clear H
        have H := H1
        clear H1
        first | (obtain rfl := Option.some.inj H) | (have Hr_ := Option.some.inj H)
        go_wp2
        go_ret
        exact ⟨by first | rfl | (simp [errW_none, errW_some] <;> rfl) | (simp [*, errW_none, errW_some] <;> rfl), by repeat (first | (with_reducible first | exact HB.out | apply below_alloc | apply pw_below_drewN | apply below_drew1) | exact HB.out)⟩
      · replace c9 := Bool.eq_false_iff.mpr c9
        subst c9
        have H1 : (letterboxlaw10_MimeTypes.l0 kj3 a0 a1 a2 0) = some true := by rw [if_neg (show ¬ (false = true) by decide)] at H; exact H
        clear H
        have H := H1
        clear H1
        have H' := Aside0.mk H
        clear H
        go_wp2
        go_loopg [7] kj3 (fun kq v7 w' => ∃ (x7_2 : Int), v7 = .int .i64 x7_2 ∧ Aside0 (letterboxlaw10_MimeTypes.l0 kq a0 a1 a2 x7_2 = some true) ∧ Aside0 (kq ≤ kj3) ∧ Aside0 (Below w.heap.size w w'))
        case atStart => exact ⟨(0), (by first | rfl | (simp; done) | (simp [*]; done)), H', ⟨Nat.le_refl _⟩, ⟨by repeat (first | (with_reducible first | exact HB.out | apply below_alloc | apply pw_below_drewN | apply below_drew1) | exact HB.out)⟩⟩
        case round =>
          clear H'
          try clear c1
          try clear p2
          try clear c6
          try clear c8
          try clear c9
          try clear p2
          obtain ⟨x7_2, rfl, HA, HK2, HB⟩ := hrel
          cases gk with
          | zero => exact absurd HA.out (by simp [letterboxlaw10_MimeTypes.l0])
          | succ k2 =>
            have H := HA.out
            clear HA
            simp only [letterboxlaw10_MimeTypes.l0] at H
            by_cases c10 : x7_2 < (a2.size : Int)
            · rw [if_pos c10] at H
              have c10b0 : decide (x7_2 < (a2.size : Int)) = true := decide_eq_true c10
              clear c10
              by_cases c11 : 0 ≤ x7_2
              · rw [if_pos c11] at H
                have c11b0 : decide (0 ≤ x7_2) = true := decide_eq_true c11
                clear c11
                by_cases c13 : (bt a2 x7_2) < 97
                · rw [if_pos c13] at H
                  have c13b0 : decide ((bt a2 x7_2) < 97) = true := decide_eq_true c13
                  clear c13
                  first | (obtain rfl := Option.some.inj H) | (have Hr_ := Option.some.inj H)
                  have p12 : 0 ≤ (x7_2 : Int) := of_decide_eq_true (by first | (with_reducible assumption) | assumption)
                  have q12 : x7_2 < (a2.size : Int) := of_decide_eq_true (by first | (with_reducible assumption) | assumption)
                  have hx12 := bt_at a2 x7_2
                  replace p12 := eq_true p12
                  replace q12 := eq_true q12
                  go_wp2
                  go_ret
                  exact ⟨by first | rfl | (simp [errW_none, errW_some] <;> rfl) | (simp [*, errW_none, errW_some] <;> rfl), by repeat (first | (with_reducible first | exact HB.out | apply below_alloc | apply pw_below_drewN | apply below_drew1) | exact HB.out)⟩
                · rw [if_neg c13] at H
                  have c13b0 : decide ((bt a2 x7_2) < 97) = false := decide_eq_false c13
                  clear c13
                  by_cases c15 : (bt a2 x7_2) > 122
                  · rw [if_pos c15] at H
                    have c15b0 : decide (122 < (bt a2 x7_2)) = true := decide_eq_true c15
                    clear c15
                    first | (obtain rfl := Option.some.inj H) | (have Hr_ := Option.some.inj H)
                    have p12 : 0 ≤ (x7_2 : Int) := of_decide_eq_true (by first | (with_reducible assumption) | assumption)
                    have q12 : x7_2 < (a2.size : Int) := of_decide_eq_true (by first | (with_reducible assumption) | assumption)
                    have hx12 := bt_at a2 x7_2
                    replace p12 := eq_true p12
                    replace q12 := eq_true q12
                    have p14 : 0 ≤ (x7_2 : Int) := of_decide_eq_true (by first | (with_reducible assumption) | assumption)
                    have q14 : x7_2 < (a2.size : Int) := of_decide_eq_true (by first | (with_reducible assumption) | assumption)
                    have hx14 := bt_at a2 x7_2
                    replace p14 := eq_true p14
                    replace q14 := eq_true q14
                    go_wp2
                    go_ret
                    exact ⟨by first | rfl | (simp [errW_none, errW_some] <;> rfl) | (simp [*, errW_none, errW_some] <;> rfl), by repeat (first | (with_reducible first | exact HB.out | apply below_alloc | apply pw_below_drewN | apply below_drew1) | exact HB.out)⟩
                  · rw [if_neg c15] at H
                    have c15b0 : decide (122 < (bt a2 x7_2)) = false := decide_eq_false c15
                    clear c15
                    have H' := Aside0.mk H
                    clear H
                    have p12 : 0 ≤ (x7_2 : Int) := of_decide_eq_true (by first | (with_reducible assumption) | assumption)
                    have q12 : x7_2 < (a2.size : Int) := of_decide_eq_true (by first | (with_reducible assumption) | assumption)
                    have hx12 := bt_at a2 x7_2
                    replace p12 := eq_true p12
                    replace q12 := eq_true q12
                    have p14 : 0 ≤ (x7_2 : Int) := of_decide_eq_true (by first | (with_reducible assumption) | assumption)
                    have q14 : x7_2 < (a2.size : Int) := of_decide_eq_true (by first | (with_reducible assumption) | assumption)
                    have hx14 := bt_at a2 x7_2
                    replace p14 := eq_true p14
                    replace q14 := eq_true q14
                    go_wp2
                    go_roundg k2
                    case measure => have := HJ3.out; have := HK2.out; omega
                    case rel => exact ⟨(wrap64 (x7_2 + 1)), (by first | rfl | (simp; done) | (simp [*]; done)), H', ⟨by have := HJ3.out; have := HK2.out; omega⟩, ⟨by repeat (first | (with_reducible first | exact HB.out | apply below_alloc | apply pw_below_drewN | apply below_drew1) | exact HB.out)⟩⟩
              · rw [if_neg c11] at H
                exact absurd H (by simp)
            · rw [if_neg c10] at H
              have c10b0 : decide (x7_2 < (a2.size : Int)) = false := decide_eq_false c10
              clear c10
              by_cases c16 : 15 + a0.size ≤ 9223372036854775807
              · rw [if_pos c16] at H
                have c16b0 := eq_true c16
                have c16b1 : decide (15 + a0.size ≤ 9223372036854775807) = true := decide_eq_true c16
                try have c16b2 : (9223372036854775807 < 15 + a0.size) = False := eq_false (Nat.not_lt.2 c16)
                by_cases c17 : 15 + a0.size + 1 ≤ 9223372036854775807
                · rw [if_pos c17] at H
                  have c17b0 := eq_true c17
                  have c17b1 : decide (15 + a0.size + 1 ≤ 9223372036854775807) = true := decide_eq_true c17
                  try have c17b2 : (9223372036854775807 < 15 + a0.size + 1) = False := eq_false (Nat.not_lt.2 c17)
                  by_cases c18 : 15 + a0.size + 1 + a1.size ≤ 9223372036854775807
                  · rw [if_pos c18] at H
                    have c18b0 := eq_true c18
                    have c18b1 : decide (15 + a0.size + 1 + a1.size ≤ 9223372036854775807) = true := decide_eq_true c18
                    try have c18b2 : (9223372036854775807 < 15 + a0.size + 1 + a1.size) = False := eq_false (Nat.not_lt.2 c18)
                    by_cases c19 : 15 + a0.size + 1 + a1.size + 3 ≤ 9223372036854775807
                    · rw [if_pos c19] at H
                      have c19b0 := eq_true c19
                      have c19b1 : decide (15 + a0.size + 1 + a1.size + 3 ≤ 9223372036854775807) = true := decide_eq_true c19
                      try have c19b2 : (9223372036854775807 < 15 + a0.size + 1 + a1.size + 3) = False := eq_false (Nat.not_lt.2 c19)
                      by_cases c20 : 15 + a0.size + 1 + a1.size + 3 + a2.size ≤ 9223372036854775807
                      · rw [if_pos c20] at H
                        have c20b0 := eq_true c20
                        have c20b1 : decide (15 + a0.size + 1 + a1.size + 3 + a2.size ≤ 9223372036854775807) = true := decide_eq_true c20
                        try have c20b2 : (9223372036854775807 < 15 + a0.size + 1 + a1.size + 3 + a2.size) = False := eq_false (Nat.not_lt.2 c20)
                        by_cases c21 : 15 + a0.size + 1 + a1.size + 3 + a2.size + 4 ≤ 9223372036854775807
                        · rw [if_pos c21] at H
                          have c21b0 := eq_true c21
                          have c21b1 : decide (15 + a0.size + 1 + a1.size + 3 + a2.size + 4 ≤ 9223372036854775807) = true := decide_eq_true c21
                          try have c21b2 : (9223372036854775807 < 15 + a0.size + 1 + a1.size + 3 + a2.size + 4) = False := eq_false (Nat.not_lt.2 c21)
                          replace H := Option.bind_eq_some_iff.mp H
                          obtain ⟨t339, A220, H⟩ := H
                          replace H : ((mime_Type.f k2 t339).bind fun bt342 => (if 14 + a0.size ≤ 9223372036854775807 then (if 14 + a0.size + 4 ≤ 9223372036854775807 then ((conv_9_22.f (((⟨#[67, 111, 110, 116, 101, 110, 116, 45, 84, 121, 112, 101, 58, 32]⟩ : ByteArray) ++ a0) ++ (⟨#[13, 10, 13, 10]⟩ : ByteArray))).bind fun t345 => ((mime_Type.f k2 t345).bind fun bt348 => (if bt342.1.toList = a0.toList then (if bt342.2.1.toList = a1.toList then (if bt342.2.2.toList = ([] : List UInt8) then (if bt348.1.toList = ([116, 101, 120, 116] : List UInt8) then (if bt348.2.1.toList = ([112, 108, 97, 105, 110] : List UInt8) then (if bt348.2.2.toList = ([] : List UInt8) then ((letterboxlaw10_known.f k2).bind fun t351 => (some t351)) else (some false)) else (some false)) else (some false)) else (some false)) else (some false)) else (some false)))) else (none)) else (none))) = some true := H
                          have A22 := Aside0.mk A220
                          clear A220
                          replace H := Option.bind_eq_some_iff.mp H
                          obtain ⟨⟨t342, t343, t344⟩, A230, H⟩ := H
                          replace H : (if 14 + a0.size ≤ 9223372036854775807 then (if 14 + a0.size + 4 ≤ 9223372036854775807 then ((conv_9_22.f (((⟨#[67, 111, 110, 116, 101, 110, 116, 45, 84, 121, 112, 101, 58, 32]⟩ : ByteArray) ++ a0) ++ (⟨#[13, 10, 13, 10]⟩ : ByteArray))).bind fun t345 => ((mime_Type.f k2 t345).bind fun bt348 => (if t342.toList = a0.toList then (if t343.toList = a1.toList then (if t344.toList = ([] : List UInt8) then (if bt348.1.toList = ([116, 101, 120, 116] : List UInt8) then (if bt348.2.1.toList = ([112, 108, 97, 105, 110] : List UInt8) then (if bt348.2.2.toList = ([] : List UInt8) then ((letterboxlaw10_known.f k2).bind fun t351 => (some t351)) else (some false)) else (some false)) else (some false)) else (some false)) else (some false)) else (some false)))) else (none)) else (none)) = some true := H
                          have A23 := Aside0.mk A230
                          clear A230
                          by_cases c24 : 14 + a0.size ≤ 9223372036854775807
                          · rw [if_pos c24] at H
                            have c24b0 := eq_true c24
                            have c24b1 : decide (14 + a0.size ≤ 9223372036854775807) = true := decide_eq_true c24
                            try have c24b2 : (9223372036854775807 < 14 + a0.size) = False := eq_false (Nat.not_lt.2 c24)
                            by_cases c25 : 14 + a0.size + 4 ≤ 9223372036854775807
                            · rw [if_pos c25] at H
                              have c25b0 := eq_true c25
                              have c25b1 : decide (14 + a0.size + 4 ≤ 9223372036854775807) = true := decide_eq_true c25
                              try have c25b2 : (9223372036854775807 < 14 + a0.size + 4) = False := eq_false (Nat.not_lt.2 c25)
                              replace H := Option.bind_eq_some_iff.mp H
                              obtain ⟨t345, A260, H⟩ := H
                              replace H : ((mime_Type.f k2 t345).bind fun bt348 => (if t342.toList = a0.toList then (if t343.toList = a1.toList then (if t344.toList = ([] : List UInt8) then (if bt348.1.toList = ([116, 101, 120, 116] : List UInt8) then (if bt348.2.1.toList = ([112, 108, 97, 105, 110] : List UInt8) then (if bt348.2.2.toList = ([] : List UInt8) then ((letterboxlaw10_known.f k2).bind fun t351 => (some t351)) else (some false)) else (some false)) else (some false)) else (some false)) else (some false)) else (some false))) = some true := H
                              have A26 := Aside0.mk A260
                              clear A260
                              replace H := Option.bind_eq_some_iff.mp H
                              obtain ⟨⟨t348, t349, t350⟩, A270, H⟩ := H
                              replace H : (if t342.toList = a0.toList then (if t343.toList = a1.toList then (if t344.toList = ([] : List UInt8) then (if t348.toList = ([116, 101, 120, 116] : List UInt8) then (if t349.toList = ([112, 108, 97, 105, 110] : List UInt8) then (if t350.toList = ([] : List UInt8) then ((letterboxlaw10_known.f k2).bind fun t351 => (some t351)) else (some false)) else (some false)) else (some false)) else (some false)) else (some false)) else (some false)) = some true := H
                              have A27 := Aside0.mk A270
                              clear A270
                              by_cases c28 : t342.toList = a0.toList
                              · rw [if_pos c28] at H
                                have c28b0 : (t342.toList == a0.toList) = true := beq_iff_eq.mpr c28
                                have c28b1 : (t342.toList != a0.toList) = false := bne_eq_false_iff_eq.mpr c28
                                clear c28
                                by_cases c29 : t343.toList = a1.toList
                                · rw [if_pos c29] at H
                                  have c29b0 : (t343.toList == a1.toList) = true := beq_iff_eq.mpr c29
                                  have c29b1 : (t343.toList != a1.toList) = false := bne_eq_false_iff_eq.mpr c29
                                  clear c29
                                  by_cases c30 : t344.toList = ([] : List UInt8)
                                  · rw [if_pos c30] at H
                                    have c30b0 : (t344.toList == ([] : List UInt8)) = true := beq_iff_eq.mpr c30
                                    have c30b1 : (t344.toList != ([] : List UInt8)) = false := bne_eq_false_iff_eq.mpr c30
                                    clear c30
                                    by_cases c31 : t348.toList = ([116, 101, 120, 116] : List UInt8)
                                    · rw [if_pos c31] at H
                                      have c31b0 : (t348.toList == ([116, 101, 120, 116] : List UInt8)) = true := beq_iff_eq.mpr c31
                                      have c31b1 : (t348.toList != ([116, 101, 120, 116] : List UInt8)) = false := bne_eq_false_iff_eq.mpr c31
                                      clear c31
                                      by_cases c32 : t349.toList = ([112, 108, 97, 105, 110] : List UInt8)
                                      · rw [if_pos c32] at H
                                        have c32b0 : (t349.toList == ([112, 108, 97, 105, 110] : List UInt8)) = true := beq_iff_eq.mpr c32
                                        have c32b1 : (t349.toList != ([112, 108, 97, 105, 110] : List UInt8)) = false := bne_eq_false_iff_eq.mpr c32
                                        clear c32
                                        by_cases c33 : t350.toList = ([] : List UInt8)
                                        · rw [if_pos c33] at H
                                          have c33b0 : (t350.toList == ([] : List UInt8)) = true := beq_iff_eq.mpr c33
                                          have c33b1 : (t350.toList != ([] : List UInt8)) = false := bne_eq_false_iff_eq.mpr c33
                                          clear c33
                                          replace H := Option.bind_eq_some_iff.mp H
                                          obtain ⟨t351, A340, H⟩ := H
                                          replace H : (some t351) = some true := H
                                          have A34 := Aside0.mk A340
                                          clear A340
                                          have Hr_ := Option.some.inj H
                                          go_wp2_with (first | ((with_reducible refine gate_dst (N := 53) rfl ?_); refine convL_ (some 53) rfl rfl (s := (((((((⟨#[67, 79, 78, 84, 69, 78, 84, 45, 84, 89, 80, 69, 58, 32, 32]⟩ : ByteArray) ++ a0) ++ (⟨#[47]⟩ : ByteArray)) ++ a1) ++ (⟨#[32, 59, 32]⟩ : ByteArray)) ++ a2) ++ (⟨#[13, 10, 13, 10]⟩ : ByteArray))) rfl (by (try simp only [List.map_toArray, List.map_cons, List.map_nil]); first | done | rfl | (simp only [List.length_drop, List.length_take]; rfl)) ?_; (with_reducible refine (conv_9_22.calls (((((((⟨#[67, 79, 78, 84, 69, 78, 84, 45, 84, 89, 80, 69, 58, 32, 32]⟩ : ByteArray) ++ a0) ++ (⟨#[47]⟩ : ByteArray)) ++ a1) ++ (⟨#[32, 59, 32]⟩ : ByteArray)) ++ a2) ++ (⟨#[13, 10, 13, 10]⟩ : ByteArray)) t339 _ A22.out).mono ?_); rintro e w35 ⟨v340, rfl, ho0, hb⟩; refine ⟨_, rfl, ?_⟩; have n0_ := Aside0.mk (Kd.V_lower (Kd.V_mono (ok' := fun k_ => True) ho0 (fun k_ hk_ => trivial)) (below_size (by repeat (first | (with_reducible first | exact HB.out | apply below_alloc | apply pw_below_drewN | apply below_drew1) | exact HB.out)))); have n1_ := Aside0.mk (below_step (by repeat (first | (with_reducible first | exact HB.out | apply below_alloc | apply pw_below_drewN | apply below_drew1) | exact HB.out)) hb); clear HB; have HO341 := n0_; have HB := n1_; clear n0_ n1_; (try clear hb); (try clear hb2); (try clear hk); (try clear hi); (try clear ho0); obtain ⟨Ao36, co36, eo36⟩ := Kd.V_slice HO341.out; subst eo36) | ((with_reducible refine gate_callee (f := 14) rfl ?_); refine goesL_ (some 54) rfl rfl Tryd.func14 (by kernel_rfl) rfl #[.slice Ao36 t339.length co36] rfl (by (try simp only [List.map_toArray, List.map_cons, List.map_nil]); first | done | rfl | (simp only [List.length_drop, List.length_take]; rfl)) ?_; (with_reducible refine (mime_Type.calls k2 _ _ t339 t342 t343 t344 _ ?side1 ?side2 A23.out).mono ?_); (case side1 => repeat (first | exact (Kd.V_reads' HO341.out).2.2 | (with_reducible refine Kd.C_alloc ?_ _) | (with_reducible refine Kd.C_drewN ?_ _) | (with_reducible refine Kd.C_drew ?_))); (case side2 => exact (Kd.V_reads' HO341.out).2.1); rintro e w37 ⟨rfl, hb⟩; refine ⟨_, rfl, ?_⟩; have n0_ := Aside0.mk (Kd.V_below (by (with_reducible repeat (first | apply Kd.V_alloc | apply Kd.V_drewN | apply Kd.V_drew)); exact HO341.out) hb); have n1_ := Aside0.mk (below_step (by repeat (first | (with_reducible first | exact HB.out | apply below_alloc | apply pw_below_drewN | apply below_drew1) | exact HB.out)) hb); clear HO341; clear HB; have HO341 := n0_; have HB := n1_; clear n0_ n1_; (try clear hb); (try clear hb2); (try clear hk); (try clear hi)) | ((with_reducible refine gate_dst (N := 62) rfl ?_); refine convL_ (some 62) rfl rfl (s := (((⟨#[67, 111, 110, 116, 101, 110, 116, 45, 84, 121, 112, 101, 58, 32]⟩ : ByteArray) ++ a0) ++ (⟨#[13, 10, 13, 10]⟩ : ByteArray))) rfl (by (try simp only [List.map_toArray, List.map_cons, List.map_nil]); first | done | rfl | (simp only [List.length_drop, List.length_take]; rfl)) ?_; (with_reducible refine (conv_9_22.calls (((⟨#[67, 111, 110, 116, 101, 110, 116, 45, 84, 121, 112, 101, 58, 32]⟩ : ByteArray) ++ a0) ++ (⟨#[13, 10, 13, 10]⟩ : ByteArray)) t345 _ A26.out).mono ?_); rintro e w38 ⟨v346, rfl, ho0, hb⟩; refine ⟨_, rfl, ?_⟩; have n0_ := Aside0.mk (Kd.V_below (by (with_reducible repeat (first | apply Kd.V_alloc | apply Kd.V_drewN | apply Kd.V_drew)); exact HO341.out) hb); have n1_ := Aside0.mk (Kd.V_lower (Kd.V_mono (ok' := fun k_ => True) ho0 (fun k_ hk_ => trivial)) (below_size (by repeat (first | (with_reducible first | exact HB.out | apply below_alloc | apply pw_below_drewN | apply below_drew1) | exact HB.out)))); have n2_ := Aside0.mk (below_step (by repeat (first | (with_reducible first | exact HB.out | apply below_alloc | apply pw_below_drewN | apply below_drew1) | exact HB.out)) hb); clear HO341; clear HB; have HO341 := n0_; have HO347 := n1_; have HB := n2_; clear n0_ n1_ n2_; (try clear hb); (try clear hb2); (try clear hk); (try clear hi); (try clear ho0); obtain ⟨Ao39, co39, eo39⟩ := Kd.V_slice HO347.out; subst eo39) | ((with_reducible refine gate_callee (f := 14) rfl ?_); refine goesL_ (some 63) rfl rfl Tryd.func14 (by kernel_rfl) rfl #[.slice Ao39 t345.length co39] rfl (by (try simp only [List.map_toArray, List.map_cons, List.map_nil]); first | done | rfl | (simp only [List.length_drop, List.length_take]; rfl)) ?_; (with_reducible refine (mime_Type.calls k2 _ _ t345 t348 t349 t350 _ ?side1 ?side2 A27.out).mono ?_); (case side1 => repeat (first | exact (Kd.V_reads' HO347.out).2.2 | (with_reducible refine Kd.C_alloc ?_ _) | (with_reducible refine Kd.C_drewN ?_ _) | (with_reducible refine Kd.C_drew ?_))); (case side2 => exact (Kd.V_reads' HO347.out).2.1); rintro e w40 ⟨rfl, hb⟩; refine ⟨_, rfl, ?_⟩; have n0_ := Aside0.mk (Kd.V_below (by (with_reducible repeat (first | apply Kd.V_alloc | apply Kd.V_drewN | apply Kd.V_drew)); exact HO341.out) hb); have n1_ := Aside0.mk (Kd.V_below (by (with_reducible repeat (first | apply Kd.V_alloc | apply Kd.V_drewN | apply Kd.V_drew)); exact HO347.out) hb); have n2_ := Aside0.mk (below_step (by repeat (first | (with_reducible first | exact HB.out | apply below_alloc | apply pw_below_drewN | apply below_drew1) | exact HB.out)) hb); clear HO341; clear HO347; clear HB; have HO341 := n0_; have HO347 := n1_; have HB := n2_; clear n0_ n1_ n2_; (try clear hb); (try clear hb2); (try clear hk); (try clear hi)) | (go_at_call 10; (with_reducible refine (letterboxlaw10_known.calls k2  t351 _ A34.out).mono ?_); rintro e w41 ⟨rfl, hb⟩; have n0_ := Aside0.mk (Kd.V_below (by (with_reducible repeat (first | apply Kd.V_alloc | apply Kd.V_drewN | apply Kd.V_drew)); exact HO341.out) hb); have n1_ := Aside0.mk (Kd.V_below (by (with_reducible repeat (first | apply Kd.V_alloc | apply Kd.V_drewN | apply Kd.V_drew)); exact HO347.out) hb); have n2_ := Aside0.mk (below_step (by repeat (first | (with_reducible first | exact HB.out | apply below_alloc | apply pw_below_drewN | apply below_drew1) | exact HB.out)) hb); clear HO341; clear HO347; clear HB; have HO341 := n0_; have HO347 := n1_; have HB := n2_; clear n0_ n1_ n2_; (try clear hb); (try clear hb2); (try clear hk); (try clear hi)))
                                          go_ret
                                          exact ⟨by first | (rw [Hr_]; done) | rfl | (simp [errW_none, errW_some] <;> rfl) | (simp [*, errW_none, errW_some] <;> rfl), by repeat (first | (with_reducible first | exact HB.out | apply below_alloc | apply pw_below_drewN | apply below_drew1) | exact HB.out)⟩
                                        · rw [if_neg c33] at H
                                          have c33b0 : (t350.toList == ([] : List UInt8)) = false := beq_eq_false_iff_ne.mpr c33
                                          have c33b1 : (t350.toList != ([] : List UInt8)) = true := bne_iff_ne.mpr c33
                                          exact absurd H (by repeat' first | exact NT.none | exact NT.false | refine NT.ite ?_ ?_ | refine NT.bind (fun _ => ?_))
                                      · rw [if_neg c32] at H
                                        have c32b0 : (t349.toList == ([112, 108, 97, 105, 110] : List UInt8)) = false := beq_eq_false_iff_ne.mpr c32
                                        have c32b1 : (t349.toList != ([112, 108, 97, 105, 110] : List UInt8)) = true := bne_iff_ne.mpr c32
                                        exact absurd H (by repeat' first | exact NT.none | exact NT.false | refine NT.ite ?_ ?_ | refine NT.bind (fun _ => ?_))
                                    · rw [if_neg c31] at H
                                      have c31b0 : (t348.toList == ([116, 101, 120, 116] : List UInt8)) = false := beq_eq_false_iff_ne.mpr c31
                                      have c31b1 : (t348.toList != ([116, 101, 120, 116] : List UInt8)) = true := bne_iff_ne.mpr c31
                                      exact absurd H (by repeat' first | exact NT.none | exact NT.false | refine NT.ite ?_ ?_ | refine NT.bind (fun _ => ?_))
                                  · rw [if_neg c30] at H
                                    have c30b0 : (t344.toList == ([] : List UInt8)) = false := beq_eq_false_iff_ne.mpr c30
                                    have c30b1 : (t344.toList != ([] : List UInt8)) = true := bne_iff_ne.mpr c30
                                    exact absurd H (by repeat' first | exact NT.none | exact NT.false | refine NT.ite ?_ ?_ | refine NT.bind (fun _ => ?_))
                                · rw [if_neg c29] at H
                                  have c29b0 : (t343.toList == a1.toList) = false := beq_eq_false_iff_ne.mpr c29
                                  have c29b1 : (t343.toList != a1.toList) = true := bne_iff_ne.mpr c29
                                  exact absurd H (by repeat' first | exact NT.none | exact NT.false | refine NT.ite ?_ ?_ | refine NT.bind (fun _ => ?_))
                              · rw [if_neg c28] at H
                                have c28b0 : (t342.toList == a0.toList) = false := beq_eq_false_iff_ne.mpr c28
                                have c28b1 : (t342.toList != a0.toList) = true := bne_iff_ne.mpr c28
                                exact absurd H (by repeat' first | exact NT.none | exact NT.false | refine NT.ite ?_ ?_ | refine NT.bind (fun _ => ?_))
                            · rw [if_neg c25] at H
                              exact absurd H (by simp)
                          · rw [if_neg c24] at H
                            exact absurd H (by simp)
                        · rw [if_neg c21] at H
                          exact absurd H (by simp)
                      · rw [if_neg c20] at H
                        exact absurd H (by simp)
                    · rw [if_neg c19] at H
                      exact absurd H (by simp)
                  · rw [if_neg c18] at H
                    exact absurd H (by simp)
                · rw [if_neg c17] at H
                  exact absurd H (by simp)
              · rw [if_neg c16] at H
                exact absurd H (by simp)

end Go.Proofs.YtilgmheilepkgaaDoor.P
