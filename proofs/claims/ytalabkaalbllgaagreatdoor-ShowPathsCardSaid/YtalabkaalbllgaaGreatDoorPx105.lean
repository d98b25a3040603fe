/- The walks of the seat's functions, one contract a function: printed by a program of this session's (wip/gen). Not trusted: Lean checks it. -/
import Derived.Test.YtalabkaalbllgaaGreatDoorPx1
import Derived.Test.YtalabkaalbllgaaGreatDoorShowShow
import Derived.Test.YtalabkaalbllgaaGreatDoorAux
import Derived.Test.YtalabkaalbllgaaGreatDoorBytes
import Derived.Test.YtalabkaalbllgaaGreatDoorMimeConv
namespace Go.Proofs.YtalabkaalbllgaaGreatDoor.P
open Go.RowKit Go.Proofs.YtalabkaalbllgaaGreatDoorW.PrintWords Go.Proofs.YtalabkaalbllgaaGreatDoorW.PrintLast Go.Proofs.YtalabkaalbllgaaGreatDoorW.PrintMore
attribute [local go_sem] max2_int min2_int max_two min_two max_three min_three max_four min_four   -- for this text's walks alone
set_option linter.unusedVariables false
set_option linter.unusedSimpArgs false

/-! ### letterboxlaw19_ShowPaths: function 5 -/
mutual
def letterboxlaw19_ShowPaths.j0 : Nat → List Int → Bool → Option (Bool)
  | 0, _, _ => none
  | k + 1, x0, x16 => if x16 = true then (some true) else (letterboxlaw19_ShowPaths.l0 k x0 (⟨#[66, 79, 68, 89, 46, 112, 101, 101, 107, 91]⟩ : ByteArray) (decide ((x0.length : Int) ≤ 4)) 0)
def letterboxlaw19_ShowPaths.l0 : Nat → List Int → ByteArray → Bool → Int → Option (Bool)
  | 0, _, _, _, _ => none
  | k + 1, x0, x3, x4, x5 => if x5 < (x0.length : Int) then (if 0 ≤ x5 then (if (rd x0 x5) < 0 then (letterboxlaw19_ShowPaths.j2 k x0 x3 x4 x5 true) else (letterboxlaw19_ShowPaths.j2 k x0 x3 x4 x5 (decide ((rd x0 x5) > 9)))) else (none)) else (if x3.size + 1 ≤ 9223372036854775807 then ((show_Parse.f k (([(⟨1, x3 ++ (⟨#[93]⟩ : ByteArray)⟩ : S38)] : List (S38)))).bind fun bt231 => (if x4 = true then (if bt231.2 = 0 then (if (bt231.1.length : Int) = 1 then (if 0 < (bt231.1.length : Int) then (if ((rd_T28 bt231.1 0).f0) = 5 then (letterboxlaw19_ShowPaths.j3 k x0 bt231.1 ((((rd_T28 bt231.1 0).f1).length : Int) != (x0.length : Int))) else (letterboxlaw19_ShowPaths.j3 k x0 bt231.1 true)) else (none)) else (letterboxlaw19_ShowPaths.j3 k x0 bt231.1 true)) else (letterboxlaw19_ShowPaths.j3 k x0 bt231.1 true)) else (if bt231.2 = 3 then ((letterboxlaw19_known.f k).bind fun t235 => (some t235)) else (some false)))) else (none))
def letterboxlaw19_ShowPaths.j2 : Nat → List Int → ByteArray → Bool → Int → Bool → Option (Bool)
  | 0, _, _, _, _, _ => none
  | k + 1, x0, x3, x4, x5, x37 => if x37 = true then (some true) else (if x4 = true then (if 0 ≤ x5 then (if x5 < (x0.length : Int) then (if x5 > 0 then (if x3.size + 1 ≤ 9223372036854775807 then ((some (([(wrap64 (48 + (rd x0 x5))) % 256] : List Int) : List Int)).bind fun y213 => (if x3.size + 1 + (strOfNums y213).size ≤ 9223372036854775807 then (letterboxlaw19_ShowPaths.l0 k x0 ((x3 ++ (⟨#[46]⟩ : ByteArray)) ++ (strOfNums y213)) (decide ((rd x0 x5) ≥ 1)) (wrap64 (x5 + 1))) else (none))) else (none)) else ((some (([(wrap64 (48 + (rd x0 x5))) % 256] : List Int) : List Int)).bind fun y217 => (if x3.size + (strOfNums y217).size ≤ 9223372036854775807 then (letterboxlaw19_ShowPaths.l0 k x0 (x3 ++ (strOfNums y217)) (decide ((rd x0 x5) ≥ 1)) (wrap64 (x5 + 1))) else (none)))) else (none)) else (none)) else (if x5 > 0 then (if x3.size + 1 ≤ 9223372036854775807 then (if 0 ≤ x5 then (if x5 < (x0.length : Int) then ((some (([(wrap64 (48 + (rd x0 x5))) % 256] : List Int) : List Int)).bind fun y221 => (if x3.size + 1 + (strOfNums y221).size ≤ 9223372036854775807 then (letterboxlaw19_ShowPaths.l0 k x0 ((x3 ++ (⟨#[46]⟩ : ByteArray)) ++ (strOfNums y221)) false (wrap64 (x5 + 1))) else (none))) else (none)) else (none)) else (none)) else (if 0 ≤ x5 then (if x5 < (x0.length : Int) then ((some (([(wrap64 (48 + (rd x0 x5))) % 256] : List Int) : List Int)).bind fun y225 => (if x3.size + (strOfNums y225).size ≤ 9223372036854775807 then (letterboxlaw19_ShowPaths.l0 k x0 (x3 ++ (strOfNums y225)) false (wrap64 (x5 + 1))) else (none))) else (none)) else (none))))
def letterboxlaw19_ShowPaths.j3 : Nat → List Int → List (S28) → Bool → Option (Bool)
  | 0, _, _, _ => none
  | k + 1, x0, x6, x98 => if x98 = true then (some false) else (letterboxlaw19_ShowPaths.l1 k x0 x6 0)
def letterboxlaw19_ShowPaths.l1 : Nat → List Int → List (S28) → Int → Option (Bool)
  | 0, _, _, _ => none
  | k + 1, x0, x6, x8 => if x8 < (x0.length : Int) then (if 0 < (x6.length : Int) then (if 0 ≤ x8 then (if x8 < (((rd_T28 x6 0).f1).length : Int) then (if (rd ((rd_T28 x6 0).f1) x8) = (rd x0 x8) then (letterboxlaw19_ShowPaths.l1 k x0 x6 (wrap64 (x8 + 1))) else (some false)) else (none)) else (none)) else (none)) else ((letterboxlaw19_known.f k).bind fun t241 => (some t241))
end
def letterboxlaw19_ShowPaths.f (k : Nat) (l0 : List Int) : Option (Bool) := if (l0.length : Int) < 1 then (letterboxlaw19_ShowPaths.j0 k l0 true) else (letterboxlaw19_ShowPaths.j0 k l0 (decide ((l0.length : Int) > 8)))
theorem letterboxlaw19_ShowPaths.mono_l : ∀ k, (∀ y0 y1, LeO (letterboxlaw19_ShowPaths.j0 k y0 y1) (letterboxlaw19_ShowPaths.j0 (k + 1) y0 y1)) ∧ (∀ y0 y1 y2 y3, LeO (letterboxlaw19_ShowPaths.l0 k y0 y1 y2 y3) (letterboxlaw19_ShowPaths.l0 (k + 1) y0 y1 y2 y3)) ∧ (∀ y0 y1 y2 y3 y4, LeO (letterboxlaw19_ShowPaths.j2 k y0 y1 y2 y3 y4) (letterboxlaw19_ShowPaths.j2 (k + 1) y0 y1 y2 y3 y4)) ∧ (∀ y0 y1 y2, LeO (letterboxlaw19_ShowPaths.j3 k y0 y1 y2) (letterboxlaw19_ShowPaths.j3 (k + 1) y0 y1 y2)) ∧ (∀ y0 y1 y2, LeO (letterboxlaw19_ShowPaths.l1 k y0 y1 y2) (letterboxlaw19_ShowPaths.l1 (k + 1) y0 y1 y2))
  | 0 => ⟨fun _ _ r h => by simp [letterboxlaw19_ShowPaths.j0] at h, fun _ _ _ _ r h => by simp [letterboxlaw19_ShowPaths.l0] at h, fun _ _ _ _ _ r h => by simp [letterboxlaw19_ShowPaths.j2] at h, fun _ _ _ r h => by simp [letterboxlaw19_ShowPaths.j3] at h, fun _ _ _ r h => by simp [letterboxlaw19_ShowPaths.l1] at h⟩
  | k + 1 => by
    obtain ⟨ih0, ih1, ih2, ih3, ih4⟩ := letterboxlaw19_ShowPaths.mono_l k
    refine ⟨?_, ?_, ?_, ?_, ?_⟩
    · intro y0 y1
      unfold letterboxlaw19_ShowPaths.j0
      repeat' first
      | (with_reducible exact ih0 _ _)
      | (with_reducible exact ih1 _ _ _ _)
      | (with_reducible exact ih2 _ _ _ _ _)
      | (with_reducible exact ih3 _ _ _)
      | (with_reducible exact ih4 _ _ _)
      | (with_reducible exact letterboxlaw19_known.mono _)
      | (with_reducible exact show_Parse.mono _ _)
      | (with_reducible exact LeO.refl _)
      | (with_reducible exact LeO.none _)
      | (with_reducible refine LeO.ite ?_ ?_)
      | (with_reducible refine LeO.bind ?_ (fun _ => ?_))
      | exact ih0 _ _
      | exact ih1 _ _ _ _
      | exact ih2 _ _ _ _ _
      | exact ih3 _ _ _
      | exact ih4 _ _ _
      | exact letterboxlaw19_known.mono _
      | exact show_Parse.mono _ _
      | exact LeO.none _
      | refine LeO.ite ?_ ?_
      | refine LeO.bind ?_ (fun _ => ?_)
    · intro y0 y1 y2 y3
      unfold letterboxlaw19_ShowPaths.l0
      repeat' first
      | (with_reducible exact ih0 _ _)
      | (with_reducible exact ih1 _ _ _ _)
      | (with_reducible exact ih2 _ _ _ _ _)
      | (with_reducible exact ih3 _ _ _)
      | (with_reducible exact ih4 _ _ _)
      | (with_reducible exact letterboxlaw19_known.mono _)
      | (with_reducible exact show_Parse.mono _ _)
      | (with_reducible exact LeO.refl _)
      | (with_reducible exact LeO.none _)
      | (with_reducible refine LeO.ite ?_ ?_)
      | (with_reducible refine LeO.bind ?_ (fun _ => ?_))
      | exact ih0 _ _
      | exact ih1 _ _ _ _
      | exact ih2 _ _ _ _ _
      | exact ih3 _ _ _
      | exact ih4 _ _ _
      | exact letterboxlaw19_known.mono _
      | exact show_Parse.mono _ _
      | exact LeO.none _
      | refine LeO.ite ?_ ?_
      | refine LeO.bind ?_ (fun _ => ?_)
    · intro y0 y1 y2 y3 y4
      unfold letterboxlaw19_ShowPaths.j2
      repeat' first
      | (with_reducible exact ih0 _ _)
      | (with_reducible exact ih1 _ _ _ _)
      | (with_reducible exact ih2 _ _ _ _ _)
      | (with_reducible exact ih3 _ _ _)
      | (with_reducible exact ih4 _ _ _)
      | (with_reducible exact letterboxlaw19_known.mono _)
      | (with_reducible exact show_Parse.mono _ _)
      | (with_reducible exact LeO.refl _)
      | (with_reducible exact LeO.none _)
      | (with_reducible refine LeO.ite ?_ ?_)
      | (with_reducible refine LeO.bind ?_ (fun _ => ?_))
      | exact ih0 _ _
      | exact ih1 _ _ _ _
      | exact ih2 _ _ _ _ _
      | exact ih3 _ _ _
      | exact ih4 _ _ _
      | exact letterboxlaw19_known.mono _
      | exact show_Parse.mono _ _
      | exact LeO.none _
      | refine LeO.ite ?_ ?_
      | refine LeO.bind ?_ (fun _ => ?_)
    · intro y0 y1 y2
      unfold letterboxlaw19_ShowPaths.j3
      repeat' first
      | (with_reducible exact ih0 _ _)
      | (with_reducible exact ih1 _ _ _ _)
      | (with_reducible exact ih2 _ _ _ _ _)
      | (with_reducible exact ih3 _ _ _)
      | (with_reducible exact ih4 _ _ _)
      | (with_reducible exact letterboxlaw19_known.mono _)
      | (with_reducible exact show_Parse.mono _ _)
      | (with_reducible exact LeO.refl _)
      | (with_reducible exact LeO.none _)
      | (with_reducible refine LeO.ite ?_ ?_)
      | (with_reducible refine LeO.bind ?_ (fun _ => ?_))
      | exact ih0 _ _
      | exact ih1 _ _ _ _
      | exact ih2 _ _ _ _ _
      | exact ih3 _ _ _
      | exact ih4 _ _ _
      | exact letterboxlaw19_known.mono _
      | exact show_Parse.mono _ _
      | exact LeO.none _
      | refine LeO.ite ?_ ?_
      | refine LeO.bind ?_ (fun _ => ?_)
    · intro y0 y1 y2
      unfold letterboxlaw19_ShowPaths.l1
      repeat' first
      | (with_reducible exact ih0 _ _)
      | (with_reducible exact ih1 _ _ _ _)
      | (with_reducible exact ih2 _ _ _ _ _)
      | (with_reducible exact ih3 _ _ _)
      | (with_reducible exact ih4 _ _ _)
      | (with_reducible exact letterboxlaw19_known.mono _)
      | (with_reducible exact show_Parse.mono _ _)
      | (with_reducible exact LeO.refl _)
      | (with_reducible exact LeO.none _)
      | (with_reducible refine LeO.ite ?_ ?_)
      | (with_reducible refine LeO.bind ?_ (fun _ => ?_))
      | exact ih0 _ _
      | exact ih1 _ _ _ _
      | exact ih2 _ _ _ _ _
      | exact ih3 _ _ _
      | exact ih4 _ _ _
      | exact letterboxlaw19_known.mono _
      | exact show_Parse.mono _ _
      | exact LeO.none _
      | refine LeO.ite ?_ ?_
      | refine LeO.bind ?_ (fun _ => ?_)
theorem letterboxlaw19_ShowPaths.mono : ∀ a0 k, LeO (letterboxlaw19_ShowPaths.f k a0) (letterboxlaw19_ShowPaths.f (k + 1) a0) := by
  intro a0 k
  obtain ⟨ih0, ih1, ih2, ih3, ih4⟩ := letterboxlaw19_ShowPaths.mono_l k
  unfold letterboxlaw19_ShowPaths.f
  repeat' first
      | (with_reducible exact ih0 _ _)
      | (with_reducible exact ih1 _ _ _ _)
      | (with_reducible exact ih2 _ _ _ _ _)
      | (with_reducible exact ih3 _ _ _)
      | (with_reducible exact ih4 _ _ _)
      | (with_reducible exact letterboxlaw19_known.mono _)
      | (with_reducible exact show_Parse.mono _ _)
      | (with_reducible exact LeO.refl _)
      | (with_reducible exact LeO.none _)
      | (with_reducible refine LeO.ite ?_ ?_)
      | (with_reducible refine LeO.bind ?_ (fun _ => ?_))
      | exact ih0 _ _
      | exact ih1 _ _ _ _
      | exact ih2 _ _ _ _ _
      | exact ih3 _ _ _
      | exact ih4 _ _ _
      | exact letterboxlaw19_known.mono _
      | exact show_Parse.mono _ _
      | exact LeO.none _
      | refine LeO.ite ?_ ?_
      | refine LeO.bind ?_ (fun _ => ?_)
set_option maxHeartbeats 8000000 in
set_option maxRecDepth 100000 in
theorem letterboxlaw19_ShowPaths.calls (k : Nat) (A0 : Option Addr) (c0 : Nat) (l0 : List Int) (w : World) (hr0 : Kd.C (Kd.int .i64) w A0 l0.length l0) (hc0 : l0.length ≤ c0) (h : letterboxlaw19_ShowPaths.f k l0 = some true) :
    Calls Tryz.prog 5 #[.slice A0 l0.length c0] w fun e w' => e = .returned (.bool true) ∧ Below w.heap.size w w' := by
  have hu38 := Tryz.underlying38
  have HR0 := Aside0.mk hr0
  have HC0 := Aside0.mk hc0
  clear hr0 hc0
  have HB := Aside0.mk (Below.refl w.heap.size w)
  have H : (if (l0.length : Int) < 1 then (letterboxlaw19_ShowPaths.j0 k l0 true) else (letterboxlaw19_ShowPaths.j0 k l0 (decide ((l0.length : Int) > 8)))) = some true := h
  clear h
  have HC2 := Aside0.mk H
  clear H
  go_enter Tryz.func5, Tryz.ntmps5
  go_upto_region 1 with (fail)
  repeat (go_quiet (fail); go_upto_region 1 with (fail))
  go_cut [16] (fun v16 wc => ∃ (kq : Nat) (x16_1 : Bool), v16 = .bool x16_1 ∧ Aside0 (letterboxlaw19_ShowPaths.j0 kq l0 x16_1 = some true) ∧ Aside0 (kq ≤ k) ∧ Aside0 (Below w.heap.size w wc))
  case first =>
    have H := HC2.out
    clear HC2
    by_cases c3 : (l0.length : Int) < 1
    · rw [if_pos c3] at H
      have c3b0 : decide ((l0.length : Int) < 1) = true := decide_eq_true c3
      have c3b1 : decide (l0.length < 1) = true := decide_eq_true (by omega)
      clear c3
      (first | rw [c3b0] | (simp only [i64_w, i32_w]; rw [c3b0]) | skip)
      have H' := Aside0.mk H
      clear H
      go_wp2
      repeat (go_quiet (fail); try go_wp2)
      go_meet
      case rel => exact ⟨_, (true), (by first | rfl | (simp; done) | (simp [*]; done)), H', ⟨by first | omega | exact Nat.le_refl _⟩, ⟨by repeat (first | (with_reducible first | exact HB.out | apply below_alloc | apply pw_below_drewN | apply below_drew1) | exact HB.out)⟩⟩
    · rw [if_neg c3] at H
      have c3b0 : decide ((l0.length : Int) < 1) = false := decide_eq_false c3
      have c3b1 : decide (l0.length < 1) = false := decide_eq_false (by omega)
      clear c3
      (first | rw [c3b0] | (simp only [i64_w, i32_w]; rw [c3b0]) | skip)
      have H' := Aside0.mk H
      clear H
      go_wp2
      repeat (go_quiet (fail); try go_wp2)
      go_meet
      case rel => exact ⟨_, (decide ((l0.length : Int) > 8)), (by first | rfl | (simp; done) | (simp [*]; done)), H', ⟨by first | omega | exact Nat.le_refl _⟩, ⟨by repeat (first | (with_reducible first | exact HB.out | apply below_alloc | apply pw_below_drewN | apply below_drew1) | exact HB.out)⟩⟩
  case rest =>
    clear HC2
    try clear p2
    try clear c3
    try clear c3b0
    try clear c3b1
    obtain ⟨kq, x16_1, rfl, HA, HJ1, HB⟩ := hcut
    cases kq with
    | zero => exact absurd HA.out (by simp [letterboxlaw19_ShowPaths.j0])
    | succ kj1 =>
      have H := HA.out
      clear HA
      simp only [letterboxlaw19_ShowPaths.j0] at H
      by_cases c4 : x16_1 = true
      · subst c4
        have H1 : (some true) = some true := rfl
        clear H
        have H := H1
        clear H1
        first | (obtain rfl := Option.some.inj H) | (have Hr_ := Option.some.inj H)
        go_wp2
        repeat (go_quiet (fail); try go_wp2)
        go_ret
        exact ⟨by first | rfl | (simp [errW_none, errW_some] <;> rfl) | (simp [*, errW_none, errW_some] <;> rfl), by repeat (first | (with_reducible first | exact HB.out | apply below_alloc | apply pw_below_drewN | apply below_drew1) | exact HB.out)⟩
      · replace c4 := Bool.eq_false_iff.mpr c4
        subst c4
        have H1 : (letterboxlaw19_ShowPaths.l0 kj1 l0 (⟨#[66, 79, 68, 89, 46, 112, 101, 101, 107, 91]⟩ : ByteArray) (decide ((l0.length : Int) ≤ 4)) 0) = some true := by rw [if_neg (show ¬ (false = true) by decide)] at H; exact H
        clear H
        have H := H1
        clear H1
        have H' := Aside0.mk H
        clear H
        go_wp2
        repeat (go_quiet (fail); try go_wp2)
        go_loopg [3, 4, 5] kj1 (fun kq v3 v4 v5 w' => ∃ (x3_2 : ByteArray) (x4_2 : Bool) (x5_2 : Int), v3 = .string x3_2 ∧ v4 = .bool x4_2 ∧ v5 = .int .i64 x5_2 ∧ Aside0 (letterboxlaw19_ShowPaths.l0 kq l0 x3_2 x4_2 x5_2 = some true) ∧ Aside0 (kq ≤ kj1) ∧ Aside0 (Below w.heap.size w w'))
        case atStart => exact ⟨((⟨#[66, 79, 68, 89, 46, 112, 101, 101, 107, 91]⟩ : ByteArray)), (decide ((l0.length : Int) ≤ 4)), (0), (by first | rfl | (simp; done) | (simp [*]; done)), (by first | rfl | (simp; done) | (simp [*]; done)), (by first | rfl | (simp; done) | (simp [*]; done)), H', ⟨Nat.le_refl _⟩, ⟨by repeat (first | (with_reducible first | exact HB.out | apply below_alloc | apply pw_below_drewN | apply below_drew1) | exact HB.out)⟩⟩
        case round =>
          clear H'
          try clear p2
          try clear c3
          try clear c3b0
          try clear c3b1
          try clear c4
          try clear p2
          obtain ⟨x3_2, x4_2, x5_2, rfl, rfl, rfl, HA, HK2, HB⟩ := hrel
          cases gk with
          | zero => exact absurd HA.out (by simp [letterboxlaw19_ShowPaths.l0])
          | succ k2 =>
            have H := HA.out
            clear HA
            simp only [letterboxlaw19_ShowPaths.l0] at H
            by_cases c5 : x5_2 < (l0.length : Int)
            · rw [if_pos c5] at H
              have c5b0 : decide (x5_2 < (l0.length : Int)) = true := decide_eq_true c5
              clear c5
              have HC6 := Aside0.mk H
              clear H
              go_upto_region 8 with (fail)
              repeat (go_quiet (fail); go_upto_region 8 with (fail))
              go_cut [37] (fun v37 wc => ∃ (kq : Nat) (x37_5 : Bool), v37 = .bool x37_5 ∧ Aside0 (letterboxlaw19_ShowPaths.j2 kq l0 x3_2 x4_2 x5_2 x37_5 = some true) ∧ Aside0 (kq ≤ k2) ∧ Aside0 (Below w.heap.size w wc))
              case first =>
                have H := HC6.out
                clear HC6
                by_cases c7 : 0 ≤ x5_2
                · rw [if_pos c7] at H
                  have c7b0 : decide (0 ≤ x5_2) = true := decide_eq_true c7
                  clear c7
                  (first | rw [c7b0] | (simp only [i64_w, i32_w]; rw [c7b0]) | skip)
                  by_cases c8 : (rd l0 x5_2) < 0
                  · rw [if_pos c8] at H
                    have c8b0 : decide ((rd l0 x5_2) < 0) = true := decide_eq_true c8
                    clear c8
                    have H' := Aside0.mk H
                    clear H
                    have p209 : 0 ≤ (x5_2 : Int) := of_decide_eq_true (by first | (with_reducible assumption) | assumption)
                    have q209 : x5_2 < (l0.length : Int) := of_decide_eq_true (by first | (with_reducible assumption) | assumption)
                    obtain ⟨ad209, e209, hx209_0⟩ := Kd.at_int HR0.out x5_2 p209 q209
                    cases e209
                    replace hx209_0 := (HB.out.cell (World.block_lt_of_cell? w _ hx209_0)).trans hx209_0
                    replace p209 := eq_true p209
                    replace q209 := eq_true q209
                    go_wp2
                    repeat (go_quiet (fail); try go_wp2)
                    go_meet
                    case rel => exact ⟨_, (true), (by first | rfl | (simp; done) | (simp [*]; done)), H', ⟨by have := HJ1.out; have := HK2.out; first | omega | exact Nat.le_refl _⟩, ⟨by repeat (first | (with_reducible first | exact HB.out | apply below_alloc | apply pw_below_drewN | apply below_drew1) | exact HB.out)⟩⟩
                  · rw [if_neg c8] at H
                    have c8b0 : decide ((rd l0 x5_2) < 0) = false := decide_eq_false c8
                    clear c8
                    have H' := Aside0.mk H
                    clear H
                    have p209 : 0 ≤ (x5_2 : Int) := of_decide_eq_true (by first | (with_reducible assumption) | assumption)
                    have q209 : x5_2 < (l0.length : Int) := of_decide_eq_true (by first | (with_reducible assumption) | assumption)
                    obtain ⟨ad209, e209, hx209_0⟩ := Kd.at_int HR0.out x5_2 p209 q209
                    cases e209
                    replace hx209_0 := (HB.out.cell (World.block_lt_of_cell? w _ hx209_0)).trans hx209_0
                    replace p209 := eq_true p209
                    replace q209 := eq_true q209
                    have p210 : 0 ≤ (x5_2 : Int) := of_decide_eq_true (by first | (with_reducible assumption) | assumption)
                    have q210 : x5_2 < (l0.length : Int) := of_decide_eq_true (by first | (with_reducible assumption) | assumption)
                    obtain ⟨ad210, e210, hx210_0⟩ := Kd.at_int HR0.out x5_2 p210 q210
                    obtain rfl : ad209 = ad210 := (by injection e210)
                    replace hx210_0 := (HB.out.cell (World.block_lt_of_cell? w _ hx210_0)).trans hx210_0
                    replace p210 := eq_true p210
                    replace q210 := eq_true q210
                    go_wp2
                    repeat (go_quiet (fail); try go_wp2)
                    go_meet
                    case rel => exact ⟨_, (decide ((rd l0 x5_2) > 9)), (by first | rfl | (simp; done) | (simp [*]; done)), H', ⟨by have := HJ1.out; have := HK2.out; first | omega | exact Nat.le_refl _⟩, ⟨by repeat (first | (with_reducible first | exact HB.out | apply below_alloc | apply pw_below_drewN | apply below_drew1) | exact HB.out)⟩⟩
                · rw [if_neg c7] at H
                  exact absurd H (by simp)
              case rest =>
                clear HC6
                try clear p2
                try clear q2
                try clear hx2
                try clear c3
                try clear c3b0
                try clear c3b1
                try clear c4
                try clear c5
                try clear c5b0
                try clear c7
                try clear c7b0
                try clear c8
                try clear c8b0
                try clear hx209_0
                try clear hx210_0
                try clear p2
                try clear p209
                try clear p210
                try clear q209
                try clear q210
                obtain ⟨kq, x37_5, rfl, HA, HJ5, HB⟩ := hcut
                cases kq with
                | zero => exact absurd HA.out (by simp [letterboxlaw19_ShowPaths.j2])
                | succ kj5 =>
                  have H := HA.out
                  clear HA
                  simp only [letterboxlaw19_ShowPaths.j2] at H
                  by_cases c9 : x37_5 = true
                  · subst c9
                    have H1 : (some true) = some true := rfl
                    clear H
                    have H := H1
                    clear H1
                    first | (obtain rfl := Option.some.inj H) | (have Hr_ := Option.some.inj H)
                    go_wp2
                    repeat (go_quiet (fail); try go_wp2)
                    go_ret
                    exact ⟨by first | rfl | (simp [errW_none, errW_some] <;> rfl) | (simp [*, errW_none, errW_some] <;> rfl), by repeat (first | (with_reducible first | exact HB.out | apply below_alloc | apply pw_below_drewN | apply below_drew1) | exact HB.out)⟩
                  · replace c9 := Bool.eq_false_iff.mpr c9
                    subst c9
                    have H1 : (if x4_2 = true then (if 0 ≤ x5_2 then (if x5_2 < (l0.length : Int) then (if x5_2 > 0 then (if x3_2.size + 1 ≤ 9223372036854775807 then ((some (([(wrap64 (48 + (rd l0 x5_2))) % 256] : List Int) : List Int)).bind fun y213 => (if x3_2.size + 1 + (strOfNums y213).size ≤ 9223372036854775807 then (letterboxlaw19_ShowPaths.l0 kj5 l0 ((x3_2 ++ (⟨#[46]⟩ : ByteArray)) ++ (strOfNums y213)) (decide ((rd l0 x5_2) ≥ 1)) (wrap64 (x5_2 + 1))) else (none))) else (none)) else ((some (([(wrap64 (48 + (rd l0 x5_2))) % 256] : List Int) : List Int)).bind fun y217 => (if x3_2.size + (strOfNums y217).size ≤ 9223372036854775807 then (letterboxlaw19_ShowPaths.l0 kj5 l0 (x3_2 ++ (strOfNums y217)) (decide ((rd l0 x5_2) ≥ 1)) (wrap64 (x5_2 + 1))) else (none)))) else (none)) else (none)) else (if x5_2 > 0 then (if x3_2.size + 1 ≤ 9223372036854775807 then (if 0 ≤ x5_2 then (if x5_2 < (l0.length : Int) then ((some (([(wrap64 (48 + (rd l0 x5_2))) % 256] : List Int) : List Int)).bind fun y221 => (if x3_2.size + 1 + (strOfNums y221).size ≤ 9223372036854775807 then (letterboxlaw19_ShowPaths.l0 kj5 l0 ((x3_2 ++ (⟨#[46]⟩ : ByteArray)) ++ (strOfNums y221)) false (wrap64 (x5_2 + 1))) else (none))) else (none)) else (none)) else (none)) else (if 0 ≤ x5_2 then (if x5_2 < (l0.length : Int) then ((some (([(wrap64 (48 + (rd l0 x5_2))) % 256] : List Int) : List Int)).bind fun y225 => (if x3_2.size + (strOfNums y225).size ≤ 9223372036854775807 then (letterboxlaw19_ShowPaths.l0 kj5 l0 (x3_2 ++ (strOfNums y225)) false (wrap64 (x5_2 + 1))) else (none))) else (none)) else (none)))) = some true := by rw [if_neg (show ¬ (false = true) by decide)] at H; exact H
                    clear H
                    have H := H1
                    clear H1
                    by_cases c10 : x4_2 = true
                    · subst c10
                      have H1 : (if 0 ≤ x5_2 then (if x5_2 < (l0.length : Int) then (if x5_2 > 0 then (if x3_2.size + 1 ≤ 9223372036854775807 then ((some (([(wrap64 (48 + (rd l0 x5_2))) % 256] : List Int) : List Int)).bind fun y213 => (if x3_2.size + 1 + (strOfNums y213).size ≤ 9223372036854775807 then (letterboxlaw19_ShowPaths.l0 kj5 l0 ((x3_2 ++ (⟨#[46]⟩ : ByteArray)) ++ (strOfNums y213)) (decide ((rd l0 x5_2) ≥ 1)) (wrap64 (x5_2 + 1))) else (none))) else (none)) else ((some (([(wrap64 (48 + (rd l0 x5_2))) % 256] : List Int) : List Int)).bind fun y217 => (if x3_2.size + (strOfNums y217).size ≤ 9223372036854775807 then (letterboxlaw19_ShowPaths.l0 kj5 l0 (x3_2 ++ (strOfNums y217)) (decide ((rd l0 x5_2) ≥ 1)) (wrap64 (x5_2 + 1))) else (none)))) else (none)) else (none)) = some true := by rw [if_pos rfl] at H; exact H
                      clear H
                      have H := H1
                      clear H1
                      by_cases c11 : 0 ≤ x5_2
                      · rw [if_pos c11] at H
                        have c11b0 : decide (0 ≤ x5_2) = true := decide_eq_true c11
                        clear c11
                        by_cases c12 : x5_2 < (l0.length : Int)
                        · rw [if_pos c12] at H
                          have c12b0 : decide (x5_2 < (l0.length : Int)) = true := decide_eq_true c12
                          clear c12
                          by_cases c13 : x5_2 > 0
                          · rw [if_pos c13] at H
                            have c13b0 : decide (0 < x5_2) = true := decide_eq_true c13
                            clear c13
                            by_cases c14 : x3_2.size + 1 ≤ 9223372036854775807
                            · rw [if_pos c14] at H
                              have c14b0 := eq_true c14
                              have c14b1 : decide (x3_2.size + 1 ≤ 9223372036854775807) = true := decide_eq_true c14
                              try have c14b2 : (9223372036854775807 < x3_2.size + 1) = False := eq_false (Nat.not_lt.2 c14)
                              obtain ⟨y213, hy213⟩ : ∃ y_ : List Int, y_ = (([(wrap64 (48 + (rd l0 x5_2))) % 256] : List Int)) := ⟨_, rfl⟩
                              replace H : (if x3_2.size + 1 + (strOfNums y213).size ≤ 9223372036854775807 then (letterboxlaw19_ShowPaths.l0 kj5 l0 ((x3_2 ++ (⟨#[46]⟩ : ByteArray)) ++ (strOfNums y213)) (decide ((rd l0 x5_2) ≥ 1)) (wrap64 (x5_2 + 1))) else (none)) = some true := by first | (rw [hy213]; with_reducible exact H) | (have H2_ := (Option.bind_some _ _).symm.trans H; rw [hy213]; with_reducible exact H2_) | (have H2_ := (Option.bind_some _ _).symm.trans H; with_reducible exact H2_) | with_reducible exact H | (rw [hy213]; exact H) | exact H
                              have Ny213 := Aside0.mk hy213
                              clear hy213
                              by_cases c15 : x3_2.size + 1 + (strOfNums y213).size ≤ 9223372036854775807
                              · rw [if_pos c15] at H
                                have c15b0 := eq_true c15
                                have c15b1 : decide (x3_2.size + 1 + (strOfNums y213).size ≤ 9223372036854775807) = true := decide_eq_true c15
                                try have c15b2 : (9223372036854775807 < x3_2.size + 1 + (strOfNums y213).size) = False := eq_false (Nat.not_lt.2 c15)
                                have H' := Aside0.mk H
                                clear H
                                have p211 : 0 ≤ (x5_2 : Int) := of_decide_eq_true (by first | (with_reducible assumption) | assumption)
                                have q211 : x5_2 < (l0.length : Int) := of_decide_eq_true (by first | (with_reducible assumption) | assumption)
                                obtain ⟨ad211, e211, hx211_0⟩ := Kd.at_int HR0.out x5_2 p211 q211
                                cases e211
                                replace hx211_0 := (HB.out.cell (World.block_lt_of_cell? w _ hx211_0)).trans hx211_0
                                replace p211 := eq_true p211
                                replace q211 := eq_true q211
                                have p212 : 0 ≤ (x5_2 : Int) := of_decide_eq_true (by first | (with_reducible assumption) | assumption)
                                have q212 : x5_2 < (l0.length : Int) := of_decide_eq_true (by first | (with_reducible assumption) | assumption)
                                obtain ⟨ad212, e212, hx212_0⟩ := Kd.at_int HR0.out x5_2 p212 q212
                                obtain rfl : ad211 = ad212 := (by injection e212)
                                replace hx212_0 := (HB.out.cell (World.block_lt_of_cell? w _ hx212_0)).trans hx212_0
                                replace p212 := eq_true p212
                                replace q212 := eq_true q212
                                go_wp2_with (first | ((with_reducible refine gate_dst (N := 57) rfl ?_); (try (refine gate_guard (by rfl) ?_; dsimp only)); refine Kd.R_lit (Kd.int .u8) _ 5 ?hg (N := 57) ?hd (xs := ([(wrap64 (48 + (rd l0 x5_2))) % 256] : List Int)) (inner := [.int .u8 ((wrap64 (48 + (rd l0 x5_2))) % 256)]) (ok := fun _ => True) (okp := fun _ => True) ?hr ?hp (fun _ hk => hk) trivial (Below.refl _ _) (Nat.le_refl _) (by simp) ?_; (case hd => rfl); (case hg => rfl); (case hr => first | (go_simp; done) | (go_simp; rfl)); (case hp => exact (Reps.one (show Kd.M (Kd.int .u8) _ _ _ ((wrap64 (48 + (rd l0 x5_2))) % 256) [.int .u8 ((wrap64 (48 + (rd l0 x5_2))) % 256)] from rfl) (Reps.none _ _))); intro v214 w16 ho17 hb hg_ hnew_; clear hg_ hnew_; (first | rw [← Ny213.out] at ho17 | (simp only [Int.reduceToNat] at ho17; rw [← Ny213.out] at ho17)); have n0_ := Aside0.mk (Kd.R_lower ho17 (below_size (by repeat (first | (with_reducible first | exact HB.out | apply below_alloc | apply pw_below_drewN | apply below_drew1) | exact HB.out)))); have n1_ := Aside0.mk (below_step (by repeat (first | (with_reducible first | exact HB.out | apply below_alloc | apply pw_below_drewN | apply below_drew1) | exact HB.out)) hb); clear HB; have HO215 := n0_; have HB := n1_; clear n0_ n1_; clear hb ho17; (first | have hcv18 := own_string (P := Tryz.prog) Tryz.underlying22 Tryz.underlying5 Tryz.underlying9 (Kd.own_of_R HO215.out) | have hcv18 := V_string (P := Tryz.prog) Tryz.underlying22 Tryz.underlying5 Tryz.underlying9 HO215.out)))
                                repeat (go_quiet (first | ((with_reducible refine gate_dst (N := 57) rfl ?_); (try (refine gate_guard (by rfl) ?_; dsimp only)); refine Kd.R_lit (Kd.int .u8) _ 5 ?hg (N := 57) ?hd (xs := ([(wrap64 (48 + (rd l0 x5_2))) % 256] : List Int)) (inner := [.int .u8 ((wrap64 (48 + (rd l0 x5_2))) % 256)]) (ok := fun _ => True) (okp := fun _ => True) ?hr ?hp (fun _ hk => hk) trivial (Below.refl _ _) (Nat.le_refl _) (by simp) ?_; (case hd => rfl); (case hg => rfl); (case hr => first | (go_simp; done) | (go_simp; rfl)); (case hp => exact (Reps.one (show Kd.M (Kd.int .u8) _ _ _ ((wrap64 (48 + (rd l0 x5_2))) % 256) [.int .u8 ((wrap64 (48 + (rd l0 x5_2))) % 256)] from rfl) (Reps.none _ _))); intro v214 w16 ho17 hb hg_ hnew_; clear hg_ hnew_; (first | rw [← Ny213.out] at ho17 | (simp only [Int.reduceToNat] at ho17; rw [← Ny213.out] at ho17)); have n0_ := Aside0.mk (Kd.R_lower ho17 (below_size (by repeat (first | (with_reducible first | exact HB.out | apply below_alloc | apply pw_below_drewN | apply below_drew1) | exact HB.out)))); have n1_ := Aside0.mk (below_step (by repeat (first | (with_reducible first | exact HB.out | apply below_alloc | apply pw_below_drewN | apply below_drew1) | exact HB.out)) hb); clear HB; have HO215 := n0_; have HB := n1_; clear n0_ n1_; clear hb ho17; (first | have hcv18 := own_string (P := Tryz.prog) Tryz.underlying22 Tryz.underlying5 Tryz.underlying9 (Kd.own_of_R HO215.out) | have hcv18 := V_string (P := Tryz.prog) Tryz.underlying22 Tryz.underlying5 Tryz.underlying9 HO215.out))); try go_wp2_with (first | ((with_reducible refine gate_dst (N := 57) rfl ?_); (try (refine gate_guard (by rfl) ?_; dsimp only)); refine Kd.R_lit (Kd.int .u8) _ 5 ?hg (N := 57) ?hd (xs := ([(wrap64 (48 + (rd l0 x5_2))) % 256] : List Int)) (inner := [.int .u8 ((wrap64 (48 + (rd l0 x5_2))) % 256)]) (ok := fun _ => True) (okp := fun _ => True) ?hr ?hp (fun _ hk => hk) trivial (Below.refl _ _) (Nat.le_refl _) (by simp) ?_; (case hd => rfl); (case hg => rfl); (case hr => first | (go_simp; done) | (go_simp; rfl)); (case hp => exact (Reps.one (show Kd.M (Kd.int .u8) _ _ _ ((wrap64 (48 + (rd l0 x5_2))) % 256) [.int .u8 ((wrap64 (48 + (rd l0 x5_2))) % 256)] from rfl) (Reps.none _ _))); intro v214 w16 ho17 hb hg_ hnew_; clear hg_ hnew_; (first | rw [← Ny213.out] at ho17 | (simp only [Int.reduceToNat] at ho17; rw [← Ny213.out] at ho17)); have n0_ := Aside0.mk (Kd.R_lower ho17 (below_size (by repeat (first | (with_reducible first | exact HB.out | apply below_alloc | apply pw_below_drewN | apply below_drew1) | exact HB.out)))); have n1_ := Aside0.mk (below_step (by repeat (first | (with_reducible first | exact HB.out | apply below_alloc | apply pw_below_drewN | apply below_drew1) | exact HB.out)) hb); clear HB; have HO215 := n0_; have HB := n1_; clear n0_ n1_; clear hb ho17; (first | have hcv18 := own_string (P := Tryz.prog) Tryz.underlying22 Tryz.underlying5 Tryz.underlying9 (Kd.own_of_R HO215.out) | have hcv18 := V_string (P := Tryz.prog) Tryz.underlying22 Tryz.underlying5 Tryz.underlying9 HO215.out))))
                                go_roundg kj5
                                case measure => have := HJ1.out; have := HK2.out; have := HJ5.out; omega
                                case rel => exact ⟨((x3_2 ++ (⟨#[46]⟩ : ByteArray)) ++ (strOfNums y213)), (decide ((rd l0 x5_2) ≥ 1)), (wrap64 (x5_2 + 1)), (by first | rfl | (simp; done) | (simp [*]; done)), (by first | rfl | (simp; done) | (simp [*]; done)), (by first | rfl | (simp; done) | (simp [*]; done)), H', ⟨by have := HJ1.out; have := HK2.out; have := HJ5.out; omega⟩, ⟨by repeat (first | (with_reducible first | exact HB.out | apply below_alloc | apply pw_below_drewN | apply below_drew1) | exact HB.out)⟩⟩
                              · rw [if_neg c15] at H
                                exact absurd H (by simp)
                            · rw [if_neg c14] at H
                              exact absurd H (by simp)
                          · rw [if_neg c13] at H
                            have c13b0 : decide (0 < x5_2) = false := decide_eq_false c13
                            clear c13
                            obtain ⟨y217, hy217⟩ : ∃ y_ : List Int, y_ = (([(wrap64 (48 + (rd l0 x5_2))) % 256] : List Int)) := ⟨_, rfl⟩
                            replace H : (if x3_2.size + (strOfNums y217).size ≤ 9223372036854775807 then (letterboxlaw19_ShowPaths.l0 kj5 l0 (x3_2 ++ (strOfNums y217)) (decide ((rd l0 x5_2) ≥ 1)) (wrap64 (x5_2 + 1))) else (none)) = some true := by first | (rw [hy217]; with_reducible exact H) | (have H2_ := (Option.bind_some _ _).symm.trans H; rw [hy217]; with_reducible exact H2_) | (have H2_ := (Option.bind_some _ _).symm.trans H; with_reducible exact H2_) | with_reducible exact H | (rw [hy217]; exact H) | exact H
                            have Ny217 := Aside0.mk hy217
                            clear hy217
                            by_cases c19 : x3_2.size + (strOfNums y217).size ≤ 9223372036854775807
                            · rw [if_pos c19] at H
                              have c19b0 := eq_true c19
                              have c19b1 : decide (x3_2.size + (strOfNums y217).size ≤ 9223372036854775807) = true := decide_eq_true c19
                              try have c19b2 : (9223372036854775807 < x3_2.size + (strOfNums y217).size) = False := eq_false (Nat.not_lt.2 c19)
                              have H' := Aside0.mk H
                              clear H
                              have p211 : 0 ≤ (x5_2 : Int) := of_decide_eq_true (by first | (with_reducible assumption) | assumption)
                              have q211 : x5_2 < (l0.length : Int) := of_decide_eq_true (by first | (with_reducible assumption) | assumption)
                              obtain ⟨ad211, e211, hx211_0⟩ := Kd.at_int HR0.out x5_2 p211 q211
                              cases e211
                              replace hx211_0 := (HB.out.cell (World.block_lt_of_cell? w _ hx211_0)).trans hx211_0
                              replace p211 := eq_true p211
                              replace q211 := eq_true q211
                              have p216 : 0 ≤ (x5_2 : Int) := of_decide_eq_true (by first | (with_reducible assumption) | assumption)
                              have q216 : x5_2 < (l0.length : Int) := of_decide_eq_true (by first | (with_reducible assumption) | assumption)
                              obtain ⟨ad216, e216, hx216_0⟩ := Kd.at_int HR0.out x5_2 p216 q216
                              obtain rfl : ad211 = ad216 := (by injection e216)
                              replace hx216_0 := (HB.out.cell (World.block_lt_of_cell? w _ hx216_0)).trans hx216_0
                              replace p216 := eq_true p216
                              replace q216 := eq_true q216
                              go_wp2_with (first | ((with_reducible refine gate_dst (N := 57) rfl ?_); (try (refine gate_guard (by rfl) ?_; dsimp only)); refine Kd.R_lit (Kd.int .u8) _ 5 ?hg (N := 57) ?hd (xs := ([(wrap64 (48 + (rd l0 x5_2))) % 256] : List Int)) (inner := [.int .u8 ((wrap64 (48 + (rd l0 x5_2))) % 256)]) (ok := fun _ => True) (okp := fun _ => True) ?hr ?hp (fun _ hk => hk) trivial (Below.refl _ _) (Nat.le_refl _) (by simp) ?_; (case hd => rfl); (case hg => rfl); (case hr => first | (go_simp; done) | (go_simp; rfl)); (case hp => exact (Reps.one (show Kd.M (Kd.int .u8) _ _ _ ((wrap64 (48 + (rd l0 x5_2))) % 256) [.int .u8 ((wrap64 (48 + (rd l0 x5_2))) % 256)] from rfl) (Reps.none _ _))); intro v218 w20 ho21 hb hg_ hnew_; clear hg_ hnew_; (first | rw [← Ny217.out] at ho21 | (simp only [Int.reduceToNat] at ho21; rw [← Ny217.out] at ho21)); have n0_ := Aside0.mk (Kd.R_lower ho21 (below_size (by repeat (first | (with_reducible first | exact HB.out | apply below_alloc | apply pw_below_drewN | apply below_drew1) | exact HB.out)))); have n1_ := Aside0.mk (below_step (by repeat (first | (with_reducible first | exact HB.out | apply below_alloc | apply pw_below_drewN | apply below_drew1) | exact HB.out)) hb); clear HB; have HO219 := n0_; have HB := n1_; clear n0_ n1_; clear hb ho21; (first | have hcv22 := own_string (P := Tryz.prog) Tryz.underlying22 Tryz.underlying5 Tryz.underlying9 (Kd.own_of_R HO219.out) | have hcv22 := V_string (P := Tryz.prog) Tryz.underlying22 Tryz.underlying5 Tryz.underlying9 HO219.out)))
                              repeat (go_quiet (first | ((with_reducible refine gate_dst (N := 57) rfl ?_); (try (refine gate_guard (by rfl) ?_; dsimp only)); refine Kd.R_lit (Kd.int .u8) _ 5 ?hg (N := 57) ?hd (xs := ([(wrap64 (48 + (rd l0 x5_2))) % 256] : List Int)) (inner := [.int .u8 ((wrap64 (48 + (rd l0 x5_2))) % 256)]) (ok := fun _ => True) (okp := fun _ => True) ?hr ?hp (fun _ hk => hk) trivial (Below.refl _ _) (Nat.le_refl _) (by simp) ?_; (case hd => rfl); (case hg => rfl); (case hr => first | (go_simp; done) | (go_simp; rfl)); (case hp => exact (Reps.one (show Kd.M (Kd.int .u8) _ _ _ ((wrap64 (48 + (rd l0 x5_2))) % 256) [.int .u8 ((wrap64 (48 + (rd l0 x5_2))) % 256)] from rfl) (Reps.none _ _))); intro v218 w20 ho21 hb hg_ hnew_; clear hg_ hnew_; (first | rw [← Ny217.out] at ho21 | (simp only [Int.reduceToNat] at ho21; rw [← Ny217.out] at ho21)); have n0_ := Aside0.mk (Kd.R_lower ho21 (below_size (by repeat (first | (with_reducible first | exact HB.out | apply below_alloc | apply pw_below_drewN | apply below_drew1) | exact HB.out)))); have n1_ := Aside0.mk (below_step (by repeat (first | (with_reducible first | exact HB.out | apply below_alloc | apply pw_below_drewN | apply below_drew1) | exact HB.out)) hb); clear HB; have HO219 := n0_; have HB := n1_; clear n0_ n1_; clear hb ho21; (first | have hcv22 := own_string (P := Tryz.prog) Tryz.underlying22 Tryz.underlying5 Tryz.underlying9 (Kd.own_of_R HO219.out) | have hcv22 := V_string (P := Tryz.prog) Tryz.underlying22 Tryz.underlying5 Tryz.underlying9 HO219.out))); try go_wp2_with (first | ((with_reducible refine gate_dst (N := 57) rfl ?_); (try (refine gate_guard (by rfl) ?_; dsimp only)); refine Kd.R_lit (Kd.int .u8) _ 5 ?hg (N := 57) ?hd (xs := ([(wrap64 (48 + (rd l0 x5_2))) % 256] : List Int)) (inner := [.int .u8 ((wrap64 (48 + (rd l0 x5_2))) % 256)]) (ok := fun _ => True) (okp := fun _ => True) ?hr ?hp (fun _ hk => hk) trivial (Below.refl _ _) (Nat.le_refl _) (by simp) ?_; (case hd => rfl); (case hg => rfl); (case hr => first | (go_simp; done) | (go_simp; rfl)); (case hp => exact (Reps.one (show Kd.M (Kd.int .u8) _ _ _ ((wrap64 (48 + (rd l0 x5_2))) % 256) [.int .u8 ((wrap64 (48 + (rd l0 x5_2))) % 256)] from rfl) (Reps.none _ _))); intro v218 w20 ho21 hb hg_ hnew_; clear hg_ hnew_; (first | rw [← Ny217.out] at ho21 | (simp only [Int.reduceToNat] at ho21; rw [← Ny217.out] at ho21)); have n0_ := Aside0.mk (Kd.R_lower ho21 (below_size (by repeat (first | (with_reducible first | exact HB.out | apply below_alloc | apply pw_below_drewN | apply below_drew1) | exact HB.out)))); have n1_ := Aside0.mk (below_step (by repeat (first | (with_reducible first | exact HB.out | apply below_alloc | apply pw_below_drewN | apply below_drew1) | exact HB.out)) hb); clear HB; have HO219 := n0_; have HB := n1_; clear n0_ n1_; clear hb ho21; (first | have hcv22 := own_string (P := Tryz.prog) Tryz.underlying22 Tryz.underlying5 Tryz.underlying9 (Kd.own_of_R HO219.out) | have hcv22 := V_string (P := Tryz.prog) Tryz.underlying22 Tryz.underlying5 Tryz.underlying9 HO219.out))))
                              go_roundg kj5
                              case measure => have := HJ1.out; have := HK2.out; have := HJ5.out; omega
                              case rel => exact ⟨(x3_2 ++ (strOfNums y217)), (decide ((rd l0 x5_2) ≥ 1)), (wrap64 (x5_2 + 1)), (by first | rfl | (simp; done) | (simp [*]; done)), (by first | rfl | (simp; done) | (simp [*]; done)), (by first | rfl | (simp; done) | (simp [*]; done)), H', ⟨by have := HJ1.out; have := HK2.out; have := HJ5.out; omega⟩, ⟨by repeat (first | (with_reducible first | exact HB.out | apply below_alloc | apply pw_below_drewN | apply below_drew1) | exact HB.out)⟩⟩
                            · rw [if_neg c19] at H
                              exact absurd H (by simp)
                        · rw [if_neg c12] at H
                          exact absurd H (by simp)
                      · rw [if_neg c11] at H
                        exact absurd H (by simp)
                    · replace c10 := Bool.eq_false_iff.mpr c10
                      subst c10
                      have H1 : (if x5_2 > 0 then (if x3_2.size + 1 ≤ 9223372036854775807 then (if 0 ≤ x5_2 then (if x5_2 < (l0.length : Int) then ((some (([(wrap64 (48 + (rd l0 x5_2))) % 256] : List Int) : List Int)).bind fun y221 => (if x3_2.size + 1 + (strOfNums y221).size ≤ 9223372036854775807 then (letterboxlaw19_ShowPaths.l0 kj5 l0 ((x3_2 ++ (⟨#[46]⟩ : ByteArray)) ++ (strOfNums y221)) false (wrap64 (x5_2 + 1))) else (none))) else (none)) else (none)) else (none)) else (if 0 ≤ x5_2 then (if x5_2 < (l0.length : Int) then ((some (([(wrap64 (48 + (rd l0 x5_2))) % 256] : List Int) : List Int)).bind fun y225 => (if x3_2.size + (strOfNums y225).size ≤ 9223372036854775807 then (letterboxlaw19_ShowPaths.l0 kj5 l0 (x3_2 ++ (strOfNums y225)) false (wrap64 (x5_2 + 1))) else (none))) else (none)) else (none))) = some true := by rw [if_neg (show ¬ (false = true) by decide)] at H; exact H
                      clear H
                      have H := H1
                      clear H1
                      by_cases c23 : x5_2 > 0
                      · rw [if_pos c23] at H
                        have c23b0 : decide (0 < x5_2) = true := decide_eq_true c23
                        clear c23
                        by_cases c24 : x3_2.size + 1 ≤ 9223372036854775807
                        · rw [if_pos c24] at H
                          have c24b0 := eq_true c24
                          have c24b1 : decide (x3_2.size + 1 ≤ 9223372036854775807) = true := decide_eq_true c24
                          try have c24b2 : (9223372036854775807 < x3_2.size + 1) = False := eq_false (Nat.not_lt.2 c24)
                          by_cases c25 : 0 ≤ x5_2
                          · rw [if_pos c25] at H
                            have c25b0 : decide (0 ≤ x5_2) = true := decide_eq_true c25
                            clear c25
                            by_cases c26 : x5_2 < (l0.length : Int)
                            · rw [if_pos c26] at H
                              have c26b0 : decide (x5_2 < (l0.length : Int)) = true := decide_eq_true c26
                              clear c26
                              obtain ⟨y221, hy221⟩ : ∃ y_ : List Int, y_ = (([(wrap64 (48 + (rd l0 x5_2))) % 256] : List Int)) := ⟨_, rfl⟩
                              replace H : (if x3_2.size + 1 + (strOfNums y221).size ≤ 9223372036854775807 then (letterboxlaw19_ShowPaths.l0 kj5 l0 ((x3_2 ++ (⟨#[46]⟩ : ByteArray)) ++ (strOfNums y221)) false (wrap64 (x5_2 + 1))) else (none)) = some true := by first | (rw [hy221]; with_reducible exact H) | (have H2_ := (Option.bind_some _ _).symm.trans H; rw [hy221]; with_reducible exact H2_) | (have H2_ := (Option.bind_some _ _).symm.trans H; with_reducible exact H2_) | with_reducible exact H | (rw [hy221]; exact H) | exact H
                              have Ny221 := Aside0.mk hy221
                              clear hy221
                              by_cases c27 : x3_2.size + 1 + (strOfNums y221).size ≤ 9223372036854775807
                              · rw [if_pos c27] at H
                                have c27b0 := eq_true c27
                                have c27b1 : decide (x3_2.size + 1 + (strOfNums y221).size ≤ 9223372036854775807) = true := decide_eq_true c27
                                try have c27b2 : (9223372036854775807 < x3_2.size + 1 + (strOfNums y221).size) = False := eq_false (Nat.not_lt.2 c27)
                                have H' := Aside0.mk H
                                clear H
                                have p220 : 0 ≤ (x5_2 : Int) := of_decide_eq_true (by first | (with_reducible assumption) | assumption)
                                have q220 : x5_2 < (l0.length : Int) := of_decide_eq_true (by first | (with_reducible assumption) | assumption)
                                obtain ⟨ad220, e220, hx220_0⟩ := Kd.at_int HR0.out x5_2 p220 q220
                                cases e220
                                replace hx220_0 := (HB.out.cell (World.block_lt_of_cell? w _ hx220_0)).trans hx220_0
                                replace p220 := eq_true p220
                                replace q220 := eq_true q220
                                go_wp2_with (first | ((with_reducible refine gate_dst (N := 57) rfl ?_); (try (refine gate_guard (by rfl) ?_; dsimp only)); refine Kd.R_lit (Kd.int .u8) _ 5 ?hg (N := 57) ?hd (xs := ([(wrap64 (48 + (rd l0 x5_2))) % 256] : List Int)) (inner := [.int .u8 ((wrap64 (48 + (rd l0 x5_2))) % 256)]) (ok := fun _ => True) (okp := fun _ => True) ?hr ?hp (fun _ hk => hk) trivial (Below.refl _ _) (Nat.le_refl _) (by simp) ?_; (case hd => rfl); (case hg => rfl); (case hr => first | (go_simp; done) | (go_simp; rfl)); (case hp => exact (Reps.one (show Kd.M (Kd.int .u8) _ _ _ ((wrap64 (48 + (rd l0 x5_2))) % 256) [.int .u8 ((wrap64 (48 + (rd l0 x5_2))) % 256)] from rfl) (Reps.none _ _))); intro v222 w28 ho29 hb hg_ hnew_; clear hg_ hnew_; (first | rw [← Ny221.out] at ho29 | (simp only [Int.reduceToNat] at ho29; rw [← Ny221.out] at ho29)); have n0_ := Aside0.mk (Kd.R_lower ho29 (below_size (by repeat (first | (with_reducible first | exact HB.out | apply below_alloc | apply pw_below_drewN | apply below_drew1) | exact HB.out)))); have n1_ := Aside0.mk (below_step (by repeat (first | (with_reducible first | exact HB.out | apply below_alloc | apply pw_below_drewN | apply below_drew1) | exact HB.out)) hb); clear HB; have HO223 := n0_; have HB := n1_; clear n0_ n1_; clear hb ho29; (first | have hcv30 := own_string (P := Tryz.prog) Tryz.underlying22 Tryz.underlying5 Tryz.underlying9 (Kd.own_of_R HO223.out) | have hcv30 := V_string (P := Tryz.prog) Tryz.underlying22 Tryz.underlying5 Tryz.underlying9 HO223.out)))
                                repeat (go_quiet (first | ((with_reducible refine gate_dst (N := 57) rfl ?_); (try (refine gate_guard (by rfl) ?_; dsimp only)); refine Kd.R_lit (Kd.int .u8) _ 5 ?hg (N := 57) ?hd (xs := ([(wrap64 (48 + (rd l0 x5_2))) % 256] : List Int)) (inner := [.int .u8 ((wrap64 (48 + (rd l0 x5_2))) % 256)]) (ok := fun _ => True) (okp := fun _ => True) ?hr ?hp (fun _ hk => hk) trivial (Below.refl _ _) (Nat.le_refl _) (by simp) ?_; (case hd => rfl); (case hg => rfl); (case hr => first | (go_simp; done) | (go_simp; rfl)); (case hp => exact (Reps.one (show Kd.M (Kd.int .u8) _ _ _ ((wrap64 (48 + (rd l0 x5_2))) % 256) [.int .u8 ((wrap64 (48 + (rd l0 x5_2))) % 256)] from rfl) (Reps.none _ _))); intro v222 w28 ho29 hb hg_ hnew_; clear hg_ hnew_; (first | rw [← Ny221.out] at ho29 | (simp only [Int.reduceToNat] at ho29; rw [← Ny221.out] at ho29)); have n0_ := Aside0.mk (Kd.R_lower ho29 (below_size (by repeat (first | (with_reducible first | exact HB.out | apply below_alloc | apply pw_below_drewN | apply below_drew1) | exact HB.out)))); have n1_ := Aside0.mk (below_step (by repeat (first | (with_reducible first | exact HB.out | apply below_alloc | apply pw_below_drewN | apply below_drew1) | exact HB.out)) hb); clear HB; have HO223 := n0_; have HB := n1_; clear n0_ n1_; clear hb ho29; (first | have hcv30 := own_string (P := Tryz.prog) Tryz.underlying22 Tryz.underlying5 Tryz.underlying9 (Kd.own_of_R HO223.out) | have hcv30 := V_string (P := Tryz.prog) Tryz.underlying22 Tryz.underlying5 Tryz.underlying9 HO223.out))); try go_wp2_with (first | ((with_reducible refine gate_dst (N := 57) rfl ?_); (try (refine gate_guard (by rfl) ?_; dsimp only)); refine Kd.R_lit (Kd.int .u8) _ 5 ?hg (N := 57) ?hd (xs := ([(wrap64 (48 + (rd l0 x5_2))) % 256] : List Int)) (inner := [.int .u8 ((wrap64 (48 + (rd l0 x5_2))) % 256)]) (ok := fun _ => True) (okp := fun _ => True) ?hr ?hp (fun _ hk => hk) trivial (Below.refl _ _) (Nat.le_refl _) (by simp) ?_; (case hd => rfl); (case hg => rfl); (case hr => first | (go_simp; done) | (go_simp; rfl)); (case hp => exact (Reps.one (show Kd.M (Kd.int .u8) _ _ _ ((wrap64 (48 + (rd l0 x5_2))) % 256) [.int .u8 ((wrap64 (48 + (rd l0 x5_2))) % 256)] from rfl) (Reps.none _ _))); intro v222 w28 ho29 hb hg_ hnew_; clear hg_ hnew_; (first | rw [← Ny221.out] at ho29 | (simp only [Int.reduceToNat] at ho29; rw [← Ny221.out] at ho29)); have n0_ := Aside0.mk (Kd.R_lower ho29 (below_size (by repeat (first | (with_reducible first | exact HB.out | apply below_alloc | apply pw_below_drewN | apply below_drew1) | exact HB.out)))); have n1_ := Aside0.mk (below_step (by repeat (first | (with_reducible first | exact HB.out | apply below_alloc | apply pw_below_drewN | apply below_drew1) | exact HB.out)) hb); clear HB; have HO223 := n0_; have HB := n1_; clear n0_ n1_; clear hb ho29; (first | have hcv30 := own_string (P := Tryz.prog) Tryz.underlying22 Tryz.underlying5 Tryz.underlying9 (Kd.own_of_R HO223.out) | have hcv30 := V_string (P := Tryz.prog) Tryz.underlying22 Tryz.underlying5 Tryz.underlying9 HO223.out))))
                                go_roundg kj5
                                case measure => have := HJ1.out; have := HK2.out; have := HJ5.out; omega
                                case rel => exact ⟨((x3_2 ++ (⟨#[46]⟩ : ByteArray)) ++ (strOfNums y221)), (false), (wrap64 (x5_2 + 1)), (by first | rfl | (simp; done) | (simp [*]; done)), (by first | rfl | (simp; done) | (simp [*]; done)), (by first | rfl | (simp; done) | (simp [*]; done)), H', ⟨by have := HJ1.out; have := HK2.out; have := HJ5.out; omega⟩, ⟨by repeat (first | (with_reducible first | exact HB.out | apply below_alloc | apply pw_below_drewN | apply below_drew1) | exact HB.out)⟩⟩
                              · rw [if_neg c27] at H
                                exact absurd H (by simp)
                            · rw [if_neg c26] at H
                              exact absurd H (by simp)
                          · rw [if_neg c25] at H
                            exact absurd H (by simp)
                        · rw [if_neg c24] at H
                          exact absurd H (by simp)
                      · rw [if_neg c23] at H
                        have c23b0 : decide (0 < x5_2) = false := decide_eq_false c23
                        clear c23
                        by_cases c31 : 0 ≤ x5_2
                        · rw [if_pos c31] at H
                          have c31b0 : decide (0 ≤ x5_2) = true := decide_eq_true c31
                          clear c31
                          by_cases c32 : x5_2 < (l0.length : Int)
                          · rw [if_pos c32] at H
                            have c32b0 : decide (x5_2 < (l0.length : Int)) = true := decide_eq_true c32
                            clear c32
                            obtain ⟨y225, hy225⟩ : ∃ y_ : List Int, y_ = (([(wrap64 (48 + (rd l0 x5_2))) % 256] : List Int)) := ⟨_, rfl⟩
                            replace H : (if x3_2.size + (strOfNums y225).size ≤ 9223372036854775807 then (letterboxlaw19_ShowPaths.l0 kj5 l0 (x3_2 ++ (strOfNums y225)) false (wrap64 (x5_2 + 1))) else (none)) = some true := by first | (rw [hy225]; with_reducible exact H) | (have H2_ := (Option.bind_some _ _).symm.trans H; rw [hy225]; with_reducible exact H2_) | (have H2_ := (Option.bind_some _ _).symm.trans H; with_reducible exact H2_) | with_reducible exact H | (rw [hy225]; exact H) | exact H
                            have Ny225 := Aside0.mk hy225
                            clear hy225
                            by_cases c33 : x3_2.size + (strOfNums y225).size ≤ 9223372036854775807
                            · rw [if_pos c33] at H
                              have c33b0 := eq_true c33
                              have c33b1 : decide (x3_2.size + (strOfNums y225).size ≤ 9223372036854775807) = true := decide_eq_true c33
                              try have c33b2 : (9223372036854775807 < x3_2.size + (strOfNums y225).size) = False := eq_false (Nat.not_lt.2 c33)
                              have H' := Aside0.mk H
                              clear H
                              have p224 : 0 ≤ (x5_2 : Int) := of_decide_eq_true (by first | (with_reducible assumption) | assumption)
                              have q224 : x5_2 < (l0.length : Int) := of_decide_eq_true (by first | (with_reducible assumption) | assumption)
                              obtain ⟨ad224, e224, hx224_0⟩ := Kd.at_int HR0.out x5_2 p224 q224
                              cases e224
                              replace hx224_0 := (HB.out.cell (World.block_lt_of_cell? w _ hx224_0)).trans hx224_0
                              replace p224 := eq_true p224
                              replace q224 := eq_true q224
                              go_wp2_with (first | ((with_reducible refine gate_dst (N := 57) rfl ?_); (try (refine gate_guard (by rfl) ?_; dsimp only)); refine Kd.R_lit (Kd.int .u8) _ 5 ?hg (N := 57) ?hd (xs := ([(wrap64 (48 + (rd l0 x5_2))) % 256] : List Int)) (inner := [.int .u8 ((wrap64 (48 + (rd l0 x5_2))) % 256)]) (ok := fun _ => True) (okp := fun _ => True) ?hr ?hp (fun _ hk => hk) trivial (Below.refl _ _) (Nat.le_refl _) (by simp) ?_; (case hd => rfl); (case hg => rfl); (case hr => first | (go_simp; done) | (go_simp; rfl)); (case hp => exact (Reps.one (show Kd.M (Kd.int .u8) _ _ _ ((wrap64 (48 + (rd l0 x5_2))) % 256) [.int .u8 ((wrap64 (48 + (rd l0 x5_2))) % 256)] from rfl) (Reps.none _ _))); intro v226 w34 ho35 hb hg_ hnew_; clear hg_ hnew_; (first | rw [← Ny225.out] at ho35 | (simp only [Int.reduceToNat] at ho35; rw [← Ny225.out] at ho35)); have n0_ := Aside0.mk (Kd.R_lower ho35 (below_size (by repeat (first | (with_reducible first | exact HB.out | apply below_alloc | apply pw_below_drewN | apply below_drew1) | exact HB.out)))); have n1_ := Aside0.mk (below_step (by repeat (first | (with_reducible first | exact HB.out | apply below_alloc | apply pw_below_drewN | apply below_drew1) | exact HB.out)) hb); clear HB; have HO227 := n0_; have HB := n1_; clear n0_ n1_; clear hb ho35; (first | have hcv36 := own_string (P := Tryz.prog) Tryz.underlying22 Tryz.underlying5 Tryz.underlying9 (Kd.own_of_R HO227.out) | have hcv36 := V_string (P := Tryz.prog) Tryz.underlying22 Tryz.underlying5 Tryz.underlying9 HO227.out)))
                              repeat (go_quiet (first | ((with_reducible refine gate_dst (N := 57) rfl ?_); (try (refine gate_guard (by rfl) ?_; dsimp only)); refine Kd.R_lit (Kd.int .u8) _ 5 ?hg (N := 57) ?hd (xs := ([(wrap64 (48 + (rd l0 x5_2))) % 256] : List Int)) (inner := [.int .u8 ((wrap64 (48 + (rd l0 x5_2))) % 256)]) (ok := fun _ => True) (okp := fun _ => True) ?hr ?hp (fun _ hk => hk) trivial (Below.refl _ _) (Nat.le_refl _) (by simp) ?_; (case hd => rfl); (case hg => rfl); (case hr => first | (go_simp; done) | (go_simp; rfl)); (case hp => exact (Reps.one (show Kd.M (Kd.int .u8) _ _ _ ((wrap64 (48 + (rd l0 x5_2))) % 256) [.int .u8 ((wrap64 (48 + (rd l0 x5_2))) % 256)] from rfl) (Reps.none _ _))); intro v226 w34 ho35 hb hg_ hnew_; clear hg_ hnew_; (first | rw [← Ny225.out] at ho35 | (simp only [Int.reduceToNat] at ho35; rw [← Ny225.out] at ho35)); have n0_ := Aside0.mk (Kd.R_lower ho35 (below_size (by repeat (first | (with_reducible first | exact HB.out | apply below_alloc | apply pw_below_drewN | apply below_drew1) | exact HB.out)))); have n1_ := Aside0.mk (below_step (by repeat (first | (with_reducible first | exact HB.out | apply below_alloc | apply pw_below_drewN | apply below_drew1) | exact HB.out)) hb); clear HB; have HO227 := n0_; have HB := n1_; clear n0_ n1_; clear hb ho35; (first | have hcv36 := own_string (P := Tryz.prog) Tryz.underlying22 Tryz.underlying5 Tryz.underlying9 (Kd.own_of_R HO227.out) | have hcv36 := V_string (P := Tryz.prog) Tryz.underlying22 Tryz.underlying5 Tryz.underlying9 HO227.out))); try go_wp2_with (first | ((with_reducible refine gate_dst (N := 57) rfl ?_); (try (refine gate_guard (by rfl) ?_; dsimp only)); refine Kd.R_lit (Kd.int .u8) _ 5 ?hg (N := 57) ?hd (xs := ([(wrap64 (48 + (rd l0 x5_2))) % 256] : List Int)) (inner := [.int .u8 ((wrap64 (48 + (rd l0 x5_2))) % 256)]) (ok := fun _ => True) (okp := fun _ => True) ?hr ?hp (fun _ hk => hk) trivial (Below.refl _ _) (Nat.le_refl _) (by simp) ?_; (case hd => rfl); (case hg => rfl); (case hr => first | (go_simp; done) | (go_simp; rfl)); (case hp => exact (Reps.one (show Kd.M (Kd.int .u8) _ _ _ ((wrap64 (48 + (rd l0 x5_2))) % 256) [.int .u8 ((wrap64 (48 + (rd l0 x5_2))) % 256)] from rfl) (Reps.none _ _))); intro v226 w34 ho35 hb hg_ hnew_; clear hg_ hnew_; (first | rw [← Ny225.out] at ho35 | (simp only [Int.reduceToNat] at ho35; rw [← Ny225.out] at ho35)); have n0_ := Aside0.mk (Kd.R_lower ho35 (below_size (by repeat (first | (with_reducible first | exact HB.out | apply below_alloc | apply pw_below_drewN | apply below_drew1) | exact HB.out)))); have n1_ := Aside0.mk (below_step (by repeat (first | (with_reducible first | exact HB.out | apply below_alloc | apply pw_below_drewN | apply below_drew1) | exact HB.out)) hb); clear HB; have HO227 := n0_; have HB := n1_; clear n0_ n1_; clear hb ho35; (first | have hcv36 := own_string (P := Tryz.prog) Tryz.underlying22 Tryz.underlying5 Tryz.underlying9 (Kd.own_of_R HO227.out) | have hcv36 := V_string (P := Tryz.prog) Tryz.underlying22 Tryz.underlying5 Tryz.underlying9 HO227.out))))
                              go_roundg kj5
                              case measure => have := HJ1.out; have := HK2.out; have := HJ5.out; omega
                              case rel => exact ⟨(x3_2 ++ (strOfNums y225)), (false), (wrap64 (x5_2 + 1)), (by first | rfl | (simp; done) | (simp [*]; done)), (by first | rfl | (simp; done) | (simp [*]; done)), (by first | rfl | (simp; done) | (simp [*]; done)), H', ⟨by have := HJ1.out; have := HK2.out; have := HJ5.out; omega⟩, ⟨by repeat (first | (with_reducible first | exact HB.out | apply below_alloc | apply pw_below_drewN | apply below_drew1) | exact HB.out)⟩⟩
                            · rw [if_neg c33] at H
                              exact absurd H (by simp)
                          · rw [if_neg c32] at H
                            exact absurd H (by simp)
                        · rw [if_neg c31] at H
                          exact absurd H (by simp)
            · rw [if_neg c5] at H
              have c5b0 : decide (x5_2 < (l0.length : Int)) = false := decide_eq_false c5
              clear c5
              by_cases c37 : x3_2.size + 1 ≤ 9223372036854775807
              · rw [if_pos c37] at H
                have c37b0 := eq_true c37
                have c37b1 : decide (x3_2.size + 1 ≤ 9223372036854775807) = true := decide_eq_true c37
                try have c37b2 : (9223372036854775807 < x3_2.size + 1) = False := eq_false (Nat.not_lt.2 c37)
                obtain ⟨y228, hy228⟩ : ∃ y_ : List (S38), y_ = (([(⟨1, x3_2 ++ (⟨#[93]⟩ : ByteArray)⟩ : S38)] : List (S38))) := ⟨_, rfl⟩
                replace H : ((show_Parse.f k2 y228).bind fun bt231 => (if x4_2 = true then (if bt231.2 = 0 then (if (bt231.1.length : Int) = 1 then (if 0 < (bt231.1.length : Int) then (if ((rd_T28 bt231.1 0).f0) = 5 then (letterboxlaw19_ShowPaths.j3 k2 l0 bt231.1 ((((rd_T28 bt231.1 0).f1).length : Int) != (l0.length : Int))) else (letterboxlaw19_ShowPaths.j3 k2 l0 bt231.1 true)) else (none)) else (letterboxlaw19_ShowPaths.j3 k2 l0 bt231.1 true)) else (letterboxlaw19_ShowPaths.j3 k2 l0 bt231.1 true)) else (if bt231.2 = 3 then ((letterboxlaw19_known.f k2).bind fun t235 => (some t235)) else (some false)))) = some true := by first | (rw [hy228]; with_reducible exact H) | (have H2_ := (Option.bind_some _ _).symm.trans H; rw [hy228]; with_reducible exact H2_) | (have H2_ := (Option.bind_some _ _).symm.trans H; with_reducible exact H2_) | with_reducible exact H | (rw [hy228]; exact H) | exact H
                have Ny228 := Aside0.mk hy228
                clear hy228
                replace H := Option.bind_eq_some_iff.mp H
                obtain ⟨⟨t231, t234⟩, A380, H⟩ := H
                replace H : (if x4_2 = true then (if t234 = 0 then (if (t231.length : Int) = 1 then (if 0 < (t231.length : Int) then (if ((rd_T28 t231 0).f0) = 5 then (letterboxlaw19_ShowPaths.j3 k2 l0 t231 ((((rd_T28 t231 0).f1).length : Int) != (l0.length : Int))) else (letterboxlaw19_ShowPaths.j3 k2 l0 t231 true)) else (none)) else (letterboxlaw19_ShowPaths.j3 k2 l0 t231 true)) else (letterboxlaw19_ShowPaths.j3 k2 l0 t231 true)) else (if t234 = 3 then ((letterboxlaw19_known.f k2).bind fun t235 => (some t235)) else (some false))) = some true := H
                have A38 := Aside0.mk A380
                clear A380
                by_cases c39 : x4_2 = true
                · subst c39
                  have H1 : (if t234 = 0 then (if (t231.length : Int) = 1 then (if 0 < (t231.length : Int) then (if ((rd_T28 t231 0).f0) = 5 then (letterboxlaw19_ShowPaths.j3 k2 l0 t231 ((((rd_T28 t231 0).f1).length : Int) != (l0.length : Int))) else (letterboxlaw19_ShowPaths.j3 k2 l0 t231 true)) else (none)) else (letterboxlaw19_ShowPaths.j3 k2 l0 t231 true)) else (letterboxlaw19_ShowPaths.j3 k2 l0 t231 true)) = some true := by rw [if_pos rfl] at H; exact H
                  clear H
                  have H := H1
                  clear H1
                  have HC40 := Aside0.mk H
                  clear H
                  go_upto_region 17 with (first | ((with_reducible refine gate_dst (N := 64) rfl ?_); (try (refine gate_guard (by rfl) ?_; dsimp only)); refine Kd.R_lit k38 _ 38 ?hg (N := 64) ?hd (xs := ([(⟨1, x3_2 ++ (⟨#[93]⟩ : ByteArray)⟩ : S38)] : List (S38))) (inner := [.int .i64 1, .string (x3_2 ++ (⟨#[93]⟩ : ByteArray))]) (ok := fun _ => True) (okp := fun _ => True) ?hr ?hp (fun _ hk => hk) trivial (Below.refl _ _) (Nat.le_refl _) (by simp) ?_; (case hd => rfl); (case hg => rfl); (case hr => first | (go_simp; done) | (go_simp; rfl)); (case hp => exact (Reps.c2 (show Kd.M k38 _ _ _ (⟨1, x3_2 ++ (⟨#[93]⟩ : ByteArray)⟩ : S38) [.int .i64 1, .string (x3_2 ++ (⟨#[93]⟩ : ByteArray))] from (k38_mkM _ _ _ (⟨1, x3_2 ++ (⟨#[93]⟩ : ByteArray)⟩ : S38) )) (Reps.none _ _))); intro v229 w41 ho42 hb hg_ hnew_; clear hg_ hnew_; (first | rw [← Ny228.out] at ho42 | (simp only [Int.reduceToNat] at ho42; rw [← Ny228.out] at ho42)); have n0_ := Aside0.mk (Kd.R_lower ho42 (below_size (by repeat (first | (with_reducible first | exact HB.out | apply below_alloc | apply pw_below_drewN | apply below_drew1) | exact HB.out)))); have n1_ := Aside0.mk (below_step (by repeat (first | (with_reducible first | exact HB.out | apply below_alloc | apply pw_below_drewN | apply below_drew1) | exact HB.out)) hb); clear HB; have HO230 := n0_; have HB := n1_; clear n0_ n1_; clear hb ho42; obtain ⟨Ao43, co43, eo43⟩ := Kd.R_slice HO230.out; subst eo43) | (go_at_call 12; (with_reducible refine (show_Parse.calls k2 (fun k_ => some k_ = (.slice Ao43 y228.length co43 : Value).ownBlock) _ _ y228 t231 t234 _ ?side1 A38.out).mono ?_); (case side1 => exact Kd.R_V (Kd.R_tight rfl (HO230.out))); rintro e w44 ⟨v232, rfl, ho0, hb⟩; have n0_ := Aside0.mk (Kd.R_below (by (with_reducible repeat (first | apply Kd.R_alloc | apply Kd.R_drewN | apply Kd.R_drew)); exact HO230.out) hb); have n1_ := Aside0.mk (Kd.S_lower (Kd.S_mono (ok' := fun k_ => True) ho0 (fun _ hk_ => trivial)) (below_size (by repeat (first | (with_reducible first | exact HB.out | apply below_alloc | apply pw_below_drewN | apply below_drew1) | exact HB.out)))); have n2_ := Aside0.mk (below_step (by repeat (first | (with_reducible first | exact HB.out | apply below_alloc | apply pw_below_drewN | apply below_drew1) | exact HB.out)) hb); clear HO230; clear HB; have HO230 := n0_; have HO233 := n1_; have HB := n2_; clear n0_ n1_ n2_; (try clear hb); (try clear hb2); (try clear hk); (try clear hi); (try clear ho0)))
                  repeat (go_quiet (first | ((with_reducible refine gate_dst (N := 64) rfl ?_); (try (refine gate_guard (by rfl) ?_; dsimp only)); refine Kd.R_lit k38 _ 38 ?hg (N := 64) ?hd (xs := ([(⟨1, x3_2 ++ (⟨#[93]⟩ : ByteArray)⟩ : S38)] : List (S38))) (inner := [.int .i64 1, .string (x3_2 ++ (⟨#[93]⟩ : ByteArray))]) (ok := fun _ => True) (okp := fun _ => True) ?hr ?hp (fun _ hk => hk) trivial (Below.refl _ _) (Nat.le_refl _) (by simp) ?_; (case hd => rfl); (case hg => rfl); (case hr => first | (go_simp; done) | (go_simp; rfl)); (case hp => exact (Reps.c2 (show Kd.M k38 _ _ _ (⟨1, x3_2 ++ (⟨#[93]⟩ : ByteArray)⟩ : S38) [.int .i64 1, .string (x3_2 ++ (⟨#[93]⟩ : ByteArray))] from (k38_mkM _ _ _ (⟨1, x3_2 ++ (⟨#[93]⟩ : ByteArray)⟩ : S38) )) (Reps.none _ _))); intro v229 w41 ho42 hb hg_ hnew_; clear hg_ hnew_; (first | rw [← Ny228.out] at ho42 | (simp only [Int.reduceToNat] at ho42; rw [← Ny228.out] at ho42)); have n0_ := Aside0.mk (Kd.R_lower ho42 (below_size (by repeat (first | (with_reducible first | exact HB.out | apply below_alloc | apply pw_below_drewN | apply below_drew1) | exact HB.out)))); have n1_ := Aside0.mk (below_step (by repeat (first | (with_reducible first | exact HB.out | apply below_alloc | apply pw_below_drewN | apply below_drew1) | exact HB.out)) hb); clear HB; have HO230 := n0_; have HB := n1_; clear n0_ n1_; clear hb ho42; obtain ⟨Ao43, co43, eo43⟩ := Kd.R_slice HO230.out; subst eo43) | (go_at_call 12; (with_reducible refine (show_Parse.calls k2 (fun k_ => some k_ = (.slice Ao43 y228.length co43 : Value).ownBlock) _ _ y228 t231 t234 _ ?side1 A38.out).mono ?_); (case side1 => exact Kd.R_V (Kd.R_tight rfl (HO230.out))); rintro e w44 ⟨v232, rfl, ho0, hb⟩; have n0_ := Aside0.mk (Kd.R_below (by (with_reducible repeat (first | apply Kd.R_alloc | apply Kd.R_drewN | apply Kd.R_drew)); exact HO230.out) hb); have n1_ := Aside0.mk (Kd.S_lower (Kd.S_mono (ok' := fun k_ => True) ho0 (fun _ hk_ => trivial)) (below_size (by repeat (first | (with_reducible first | exact HB.out | apply below_alloc | apply pw_below_drewN | apply below_drew1) | exact HB.out)))); have n2_ := Aside0.mk (below_step (by repeat (first | (with_reducible first | exact HB.out | apply below_alloc | apply pw_below_drewN | apply below_drew1) | exact HB.out)) hb); clear HO230; clear HB; have HO230 := n0_; have HO233 := n1_; have HB := n2_; clear n0_ n1_ n2_; (try clear hb); (try clear hb2); (try clear hk); (try clear hi); (try clear ho0))); go_upto_region 17 with (first | ((with_reducible refine gate_dst (N := 64) rfl ?_); (try (refine gate_guard (by rfl) ?_; dsimp only)); refine Kd.R_lit k38 _ 38 ?hg (N := 64) ?hd (xs := ([(⟨1, x3_2 ++ (⟨#[93]⟩ : ByteArray)⟩ : S38)] : List (S38))) (inner := [.int .i64 1, .string (x3_2 ++ (⟨#[93]⟩ : ByteArray))]) (ok := fun _ => True) (okp := fun _ => True) ?hr ?hp (fun _ hk => hk) trivial (Below.refl _ _) (Nat.le_refl _) (by simp) ?_; (case hd => rfl); (case hg => rfl); (case hr => first | (go_simp; done) | (go_simp; rfl)); (case hp => exact (Reps.c2 (show Kd.M k38 _ _ _ (⟨1, x3_2 ++ (⟨#[93]⟩ : ByteArray)⟩ : S38) [.int .i64 1, .string (x3_2 ++ (⟨#[93]⟩ : ByteArray))] from (k38_mkM _ _ _ (⟨1, x3_2 ++ (⟨#[93]⟩ : ByteArray)⟩ : S38) )) (Reps.none _ _))); intro v229 w41 ho42 hb hg_ hnew_; clear hg_ hnew_; (first | rw [← Ny228.out] at ho42 | (simp only [Int.reduceToNat] at ho42; rw [← Ny228.out] at ho42)); have n0_ := Aside0.mk (Kd.R_lower ho42 (below_size (by repeat (first | (with_reducible first | exact HB.out | apply below_alloc | apply pw_below_drewN | apply below_drew1) | exact HB.out)))); have n1_ := Aside0.mk (below_step (by repeat (first | (with_reducible first | exact HB.out | apply below_alloc | apply pw_below_drewN | apply below_drew1) | exact HB.out)) hb); clear HB; have HO230 := n0_; have HB := n1_; clear n0_ n1_; clear hb ho42; obtain ⟨Ao43, co43, eo43⟩ := Kd.R_slice HO230.out; subst eo43) | (go_at_call 12; (with_reducible refine (show_Parse.calls k2 (fun k_ => some k_ = (.slice Ao43 y228.length co43 : Value).ownBlock) _ _ y228 t231 t234 _ ?side1 A38.out).mono ?_); (case side1 => exact Kd.R_V (Kd.R_tight rfl (HO230.out))); rintro e w44 ⟨v232, rfl, ho0, hb⟩; have n0_ := Aside0.mk (Kd.R_below (by (with_reducible repeat (first | apply Kd.R_alloc | apply Kd.R_drewN | apply Kd.R_drew)); exact HO230.out) hb); have n1_ := Aside0.mk (Kd.S_lower (Kd.S_mono (ok' := fun k_ => True) ho0 (fun _ hk_ => trivial)) (below_size (by repeat (first | (with_reducible first | exact HB.out | apply below_alloc | apply pw_below_drewN | apply below_drew1) | exact HB.out)))); have n2_ := Aside0.mk (below_step (by repeat (first | (with_reducible first | exact HB.out | apply below_alloc | apply pw_below_drewN | apply below_drew1) | exact HB.out)) hb); clear HO230; clear HB; have HO230 := n0_; have HO233 := n1_; have HB := n2_; clear n0_ n1_ n2_; (try clear hb); (try clear hb2); (try clear hk); (try clear hi); (try clear ho0))))
                  (try simp only [Act.put, List.setIfInBounds_toArray, List.set_cons_zero, List.set_cons_succ])
                  go_cut [98] (fun v98 wc => ∃ (kq : Nat) (x98_39 : Bool), v98 = .bool x98_39 ∧ Aside0 (letterboxlaw19_ShowPaths.j3 kq l0 t231 x98_39 = some true) ∧ Aside0 (kq ≤ k2) ∧ Aside0 (Kd.S k28 28 wc w.heap.size (fun _ => True) v232 t231) ∧ Aside0 (Below w.heap.size w wc))
                  case first =>
                    have H := HC40.out
                    clear HC40
                    by_cases c45 : t234 = 0
                    · rw [if_pos c45] at H
                      have c45b0 : (t234 == 0) = true := beq_iff_eq.mpr c45
                      have c45b1 : (t234 != 0) = false := bne_eq_false_iff_eq.mpr c45
                      clear c45
                      (first | rw [c45b0] | (simp only [i64_w, i32_w]; rw [c45b0]) | skip)
                      by_cases c46 : (t231.length : Int) = 1
                      · rw [if_pos c46] at H
                        have c46b0 : ((t231.length : Int) == 1) = true := beq_iff_eq.mpr c46
                        have c46b1 : ((t231.length : Int) != 1) = false := bne_eq_false_iff_eq.mpr c46
                        clear c46
                        by_cases c47 : 0 < (t231.length : Int)
                        · rw [if_pos c47] at H
                          have c47b0 : decide (0 < (t231.length : Int)) = true := decide_eq_true c47
                          have c47b1 : decide (0 < t231.length) = true := decide_eq_true (by omega)
                          clear c47
                          by_cases c48 : ((rd_T28 t231 0).f0) = 5
                          · rw [if_pos c48] at H
                            have c48b0 : (((rd_T28 t231 0).f0) == 5) = true := beq_iff_eq.mpr c48
                            have c48b1 : (((rd_T28 t231 0).f0) != 5) = false := bne_eq_false_iff_eq.mpr c48
                            clear c48
                            have H' := Aside0.mk H
                            clear H
                            obtain ⟨Ao49, co49, eo49⟩ := Kd.S_slice HO233.out
                            subst eo49
                            have p236 : 0 ≤ (0 : Int) := (by omega)
                            have q236 : 0 < (t231.length : Int) := of_decide_eq_true (by first | (with_reducible assumption) | assumption)
                            obtain ⟨ad236, A236_1, c236_1, e236, hx236_0, hx236_1, hl236_1, hi236_1⟩ := at_T28 (Kd.S_reads' HO233.out).2.2 0 p236 q236
                            cases e236
                            obtain ⟨ce236, hce236, hMe236, hcc236⟩ := Kd.S_get HO233.out z28 0 p236 (by first | exact q236 | exact of_decide_eq_true (by first | (with_reducible assumption) | assumption) | (have e_ := (Kd.S_reads' HO233.out).1; omega))
                            obtain ⟨ve236_1, rfl, ge236_1⟩ := k28_openM hMe236
                            have hv236_1 := hcc236 1 _ rfl
                            rw [add_field _ _ 1 (by omega)] at hv236_1
                            replace hv236_1 := Option.some.inj (hv236_1.symm.trans hx236_1)
                            rw [hv236_1] at ge236_1
                            have HL236_1 := Aside0.mk (show Kd.R (Kd.int .i64) 3 _ _ _ _ ((rd_T28 t231 0).f1) from ge236_1)
                            clear hv236_1 ge236_1
                            clear hcc236 hce236
                            have qi236 : (0 < t231.length) = True := eq_true (by omega)
                            (try rw [show ((0 : Int)).toNat = 0 from rfl] at hx236_0)
                            (try rw [show 0 * 2 = 0 from rfl] at hx236_0)
                            (try rw [Addr.add_zero'] at hx236_0)
                            (try rw [show ((0 : Int)).toNat = 0 from rfl] at hx236_1)
                            (try rw [show 0 * 2 = 0 from rfl] at hx236_1)
                            (try rw [Addr.add_zero'] at hx236_1)
                            have HR236_1 := Aside0.mk hi236_1
                            have HC236_1 := Aside0.mk hl236_1
                            clear hi236_1 hl236_1
                            replace p236 := eq_true p236
                            replace q236 := eq_true q236
                            have p237 : 0 ≤ (0 : Int) := (by omega)
                            have q237 : 0 < (t231.length : Int) := of_decide_eq_true (by first | (with_reducible assumption) | assumption)
                            obtain ⟨ad237, A237_1, c237_1, e237, hx237_0, hx237_1, hl237_1, hi237_1⟩ := at_T28 (Kd.S_reads' HO233.out).2.2 0 p237 q237
                            obtain rfl : ad236 = ad237 := (by injection e237)
                            obtain ⟨ce237, hce237, hMe237, hcc237⟩ := Kd.S_get HO233.out z28 0 p237 (by first | exact q237 | exact of_decide_eq_true (by first | (with_reducible assumption) | assumption) | (have e_ := (Kd.S_reads' HO233.out).1; omega))
                            obtain ⟨ve237_1, rfl, ge237_1⟩ := k28_openM hMe237
                            have hv237_1 := hcc237 1 _ rfl
                            rw [add_field _ _ 1 (by omega)] at hv237_1
                            replace hv237_1 := Option.some.inj (hv237_1.symm.trans hx237_1)
                            rw [hv237_1] at ge237_1
                            have HL237_1 := Aside0.mk (show Kd.R (Kd.int .i64) 3 _ _ _ _ ((rd_T28 t231 0).f1) from ge237_1)
                            clear hv237_1 ge237_1
                            clear hcc237 hce237
                            have qi237 : (0 < t231.length) = True := eq_true (by omega)
                            (try rw [show ((0 : Int)).toNat = 0 from rfl] at hx237_0)
                            (try rw [show 0 * 2 = 0 from rfl] at hx237_0)
                            (try rw [Addr.add_zero'] at hx237_0)
                            (try rw [show ((0 : Int)).toNat = 0 from rfl] at hx237_1)
                            (try rw [show 0 * 2 = 0 from rfl] at hx237_1)
                            (try rw [Addr.add_zero'] at hx237_1)
                            have HR237_1 := Aside0.mk hi237_1
                            have HC237_1 := Aside0.mk hl237_1
                            clear hi237_1 hl237_1
                            replace p237 := eq_true p237
                            replace q237 := eq_true q237
                            have ea_ := Option.some.inj (hx236_1.symm.trans hx237_1)
                            injection ea_ with ea_ en_ ec_
                            subst ea_
                            subst ec_
                            clear en_
                            go_wp2
                            repeat (go_quiet (fail); try go_wp2)
                            go_meet
                            case rel => exact ⟨_, (((((rd_T28 t231 0).f1).length : Int) != (l0.length : Int))), (by first | rfl | (simp; done) | (simp [*]; done)), H', ⟨by have := HJ1.out; have := HK2.out; first | omega | exact Nat.le_refl _⟩, ⟨by (with_reducible repeat (first | apply Kd.S_alloc | apply Kd.S_drewN | apply Kd.S_drew)); exact HO233.out⟩, ⟨by repeat (first | (with_reducible first | exact HB.out | apply below_alloc | apply pw_below_drewN | apply below_drew1) | exact HB.out)⟩⟩
                          · rw [if_neg c48] at H
                            have c48b0 : (((rd_T28 t231 0).f0) == 5) = false := beq_eq_false_iff_ne.mpr c48
                            have c48b1 : (((rd_T28 t231 0).f0) != 5) = true := bne_iff_ne.mpr c48
                            have H' := Aside0.mk H
                            clear H
                            obtain ⟨Ao50, co50, eo50⟩ := Kd.S_slice HO233.out
                            subst eo50
                            have p236 : 0 ≤ (0 : Int) := (by omega)
                            have q236 : 0 < (t231.length : Int) := of_decide_eq_true (by first | (with_reducible assumption) | assumption)
                            obtain ⟨ad236, A236_1, c236_1, e236, hx236_0, hx236_1, hl236_1, hi236_1⟩ := at_T28 (Kd.S_reads' HO233.out).2.2 0 p236 q236
                            cases e236
                            obtain ⟨ce236, hce236, hMe236, hcc236⟩ := Kd.S_get HO233.out z28 0 p236 (by first | exact q236 | exact of_decide_eq_true (by first | (with_reducible assumption) | assumption) | (have e_ := (Kd.S_reads' HO233.out).1; omega))
                            obtain ⟨ve236_1, rfl, ge236_1⟩ := k28_openM hMe236
                            have hv236_1 := hcc236 1 _ rfl
                            rw [add_field _ _ 1 (by omega)] at hv236_1
                            replace hv236_1 := Option.some.inj (hv236_1.symm.trans hx236_1)
                            rw [hv236_1] at ge236_1
                            have HL236_1 := Aside0.mk (show Kd.R (Kd.int .i64) 3 _ _ _ _ ((rd_T28 t231 0).f1) from ge236_1)
                            clear hv236_1 ge236_1
                            clear hcc236 hce236
                            have qi236 : (0 < t231.length) = True := eq_true (by omega)
                            (try rw [show ((0 : Int)).toNat = 0 from rfl] at hx236_0)
                            (try rw [show 0 * 2 = 0 from rfl] at hx236_0)
                            (try rw [Addr.add_zero'] at hx236_0)
                            (try rw [show ((0 : Int)).toNat = 0 from rfl] at hx236_1)
                            (try rw [show 0 * 2 = 0 from rfl] at hx236_1)
                            (try rw [Addr.add_zero'] at hx236_1)
                            have HR236_1 := Aside0.mk hi236_1
                            have HC236_1 := Aside0.mk hl236_1
                            clear hi236_1 hl236_1
                            replace p236 := eq_true p236
                            replace q236 := eq_true q236
                            go_wp2
                            repeat (go_quiet (fail); try go_wp2)
                            go_meet
                            case rel => exact ⟨_, (true), (by first | rfl | (simp; done) | (simp [*]; done)), H', ⟨by have := HJ1.out; have := HK2.out; first | omega | exact Nat.le_refl _⟩, ⟨by (with_reducible repeat (first | apply Kd.S_alloc | apply Kd.S_drewN | apply Kd.S_drew)); exact HO233.out⟩, ⟨by repeat (first | (with_reducible first | exact HB.out | apply below_alloc | apply pw_below_drewN | apply below_drew1) | exact HB.out)⟩⟩
                        · rw [if_neg c47] at H
                          exact absurd H (by simp)
                      · rw [if_neg c46] at H
                        have c46b0 : ((t231.length : Int) == 1) = false := beq_eq_false_iff_ne.mpr c46
                        have c46b1 : ((t231.length : Int) != 1) = true := bne_iff_ne.mpr c46
                        have H' := Aside0.mk H
                        clear H
                        obtain ⟨Ao51, co51, eo51⟩ := Kd.S_slice HO233.out
                        subst eo51
                        go_wp2
                        repeat (go_quiet (fail); try go_wp2)
                        go_meet
                        case rel => exact ⟨_, (true), (by first | rfl | (simp; done) | (simp [*]; done)), H', ⟨by have := HJ1.out; have := HK2.out; first | omega | exact Nat.le_refl _⟩, ⟨by (with_reducible repeat (first | apply Kd.S_alloc | apply Kd.S_drewN | apply Kd.S_drew)); exact HO233.out⟩, ⟨by repeat (first | (with_reducible first | exact HB.out | apply below_alloc | apply pw_below_drewN | apply below_drew1) | exact HB.out)⟩⟩
                    · rw [if_neg c45] at H
                      have c45b0 : (t234 == 0) = false := beq_eq_false_iff_ne.mpr c45
                      have c45b1 : (t234 != 0) = true := bne_iff_ne.mpr c45
                      (first | rw [c45b0] | (simp only [i64_w, i32_w]; rw [c45b0]) | skip)
                      have H' := Aside0.mk H
                      clear H
                      go_wp2
                      repeat (go_quiet (fail); try go_wp2)
                      go_meet
                      case rel => exact ⟨_, (true), (by first | rfl | (simp; done) | (simp [*]; done)), H', ⟨by have := HJ1.out; have := HK2.out; first | omega | exact Nat.le_refl _⟩, ⟨by (with_reducible repeat (first | apply Kd.S_alloc | apply Kd.S_drewN | apply Kd.S_drew)); exact HO233.out⟩, ⟨by repeat (first | (with_reducible first | exact HB.out | apply below_alloc | apply pw_below_drewN | apply below_drew1) | exact HB.out)⟩⟩
                  case rest =>
                    clear HC40
                    try clear c1
                    try clear hcv1
                    try clear c2
                    try clear p2
                    try clear q2
                    try clear hx2
                    try clear hcv2
                    try clear qi2
                    try clear c3
                    try clear c3b0
                    try clear c3b1
                    try clear hcv3
                    try clear c4
                    try clear c5
                    try clear c5b0
                    try clear p6
                    try clear c7
                    try clear c7b0
                    try clear c8
                    try clear c8b0
                    try clear c9
                    try clear c10
                    try clear c11
                    try clear c11b0
                    try clear c12
                    try clear c12b0
                    try clear c13
                    try clear c13b0
                    try clear c14
                    try clear c14b0
                    try clear c14b1
                    try clear c14b2
                    try clear c15
                    try clear c15b0
                    try clear c15b1
                    try clear c15b2
                    try clear hcv18
                    try clear c19
                    try clear c19b0
                    try clear c19b1
                    try clear c19b2
                    try clear p20
                    try clear q20
                    try clear hx20
                    try clear p21
                    try clear q21
                    try clear hx21
                    try clear p22
                    try clear q22
                    try clear hx22
                    try clear hcv22
                    try clear c23
                    try clear c23b0
                    try clear p23
                    try clear q23
                    try clear hx23
                    try clear qi23
                    try clear c24
                    try clear c24b0
                    try clear c24b1
                    try clear c24b2
                    try clear c25
                    try clear c25b0
                    try clear c26
                    try clear c26b0
                    try clear c27
                    try clear c27b0
                    try clear c27b1
                    try clear c27b2
                    try clear hcv30
                    try clear c31
                    try clear c31b0
                    try clear c32
                    try clear c32b0
                    try clear c33
                    try clear c33b0
                    try clear c33b1
                    try clear c33b2
                    try clear hcv36
                    try clear c37
                    try clear c37b0
                    try clear c37b1
                    try clear c37b2
                    try clear c39
                    try clear c45
                    try clear c45b0
                    try clear c45b1
                    try clear c46
                    try clear c46b0
                    try clear c46b1
                    try clear c47
                    try clear c47b0
                    try clear c47b1
                    try clear c48
                    try clear c48b0
                    try clear c48b1
                    try clear hx209_0
                    try clear hx210_0
                    try clear hx211_0
                    try clear hx212_0
                    try clear hx216_0
                    try clear hx220_0
                    try clear hx224_0
                    try clear hx236_0
                    try clear hx236_1
                    try clear hx237_0
                    try clear hx237_1
                    try clear p2
                    try clear p209
                    try clear p210
                    try clear p211
                    try clear p212
                    try clear p216
                    try clear p220
                    try clear p224
                    try clear p236
                    try clear p237
                    try clear q2
                    try clear q209
                    try clear q210
                    try clear q211
                    try clear q212
                    try clear q216
                    try clear q220
                    try clear q224
                    try clear q236
                    try clear q237
                    obtain ⟨kq, x98_39, rfl, HA, HJ39, HO_6, HB⟩ := hcut
                    cases kq with
                    | zero => exact absurd HA.out (by simp [letterboxlaw19_ShowPaths.j3])
                    | succ kj39 =>
                      have H := HA.out
                      clear HA
                      simp only [letterboxlaw19_ShowPaths.j3] at H
                      by_cases c52 : x98_39 = true
                      · subst c52
                        have H1 : (some false) = some true := by rw [if_pos rfl] at H; exact H
                        clear H
                        have H := H1
                        clear H1
                        exact absurd H (by repeat' first | exact NT.none | exact NT.false | refine NT.ite ?_ ?_ | refine NT.bind (fun _ => ?_))
                      · replace c52 := Bool.eq_false_iff.mpr c52
                        subst c52
                        have H1 : (letterboxlaw19_ShowPaths.l1 kj39 l0 t231 0) = some true := by rw [if_neg (show ¬ (false = true) by decide)] at H; exact H
                        clear H
                        have H := H1
                        clear H1
                        have H' := Aside0.mk H
                        clear H
                        go_wp2
                        repeat (go_quiet (fail); try go_wp2)
                        go_loopg [8] kj39 (fun kq v8 w' => ∃ (x8_4 : Int), v8 = .int .i64 x8_4 ∧ Aside0 (letterboxlaw19_ShowPaths.l1 kq l0 t231 x8_4 = some true) ∧ Aside0 (kq ≤ kj39) ∧ Aside0 (Kd.S k28 28 w' w.heap.size (fun _ => True) v232 t231) ∧ Aside0 (Below w.heap.size w w'))
                        case atStart => exact ⟨(0), (by first | rfl | (simp; done) | (simp [*]; done)), H', ⟨Nat.le_refl _⟩, ⟨by (with_reducible repeat (first | apply Kd.S_alloc | apply Kd.S_drewN | apply Kd.S_drew)); exact HO_6.out⟩, ⟨by repeat (first | (with_reducible first | exact HB.out | apply below_alloc | apply pw_below_drewN | apply below_drew1) | exact HB.out)⟩⟩
                        case round =>
                          clear H'
                          try clear c1
                          try clear hcv1
                          try clear c2
                          try clear p2
                          try clear q2
                          try clear hx2
                          try clear hcv2
                          try clear qi2
                          try clear c3
                          try clear c3b0
                          try clear c3b1
                          try clear hcv3
                          try clear c4
                          try clear c5
                          try clear c5b0
                          try clear p6
                          try clear c7
                          try clear c7b0
                          try clear c8
                          try clear c8b0
                          try clear c9
                          try clear c10
                          try clear c11
                          try clear c11b0
                          try clear c12
                          try clear c12b0
                          try clear c13
                          try clear c13b0
                          try clear c14
                          try clear c14b0
                          try clear c14b1
                          try clear c14b2
                          try clear c15
                          try clear c15b0
                          try clear c15b1
                          try clear c15b2
                          try clear hcv18
                          try clear c19
                          try clear c19b0
                          try clear c19b1
                          try clear c19b2
                          try clear p20
                          try clear q20
                          try clear hx20
                          try clear p21
                          try clear q21
                          try clear hx21
                          try clear p22
                          try clear q22
                          try clear hx22
                          try clear hcv22
                          try clear c23
                          try clear c23b0
                          try clear p23
                          try clear q23
                          try clear hx23
                          try clear qi23
                          try clear c24
                          try clear c24b0
                          try clear c24b1
                          try clear c24b2
                          try clear c25
                          try clear c25b0
                          try clear c26
                          try clear c26b0
                          try clear c27
                          try clear c27b0
                          try clear c27b1
                          try clear c27b2
                          try clear hcv30
                          try clear c31
                          try clear c31b0
                          try clear c32
                          try clear c32b0
                          try clear c33
                          try clear c33b0
                          try clear c33b1
                          try clear c33b2
                          try clear hcv36
                          try clear c37
                          try clear c37b0
                          try clear c37b1
                          try clear c37b2
                          try clear c39
                          try clear c45
                          try clear c45b0
                          try clear c45b1
                          try clear c46
                          try clear c46b0
                          try clear c46b1
                          try clear c47
                          try clear c47b0
                          try clear c47b1
                          try clear c48
                          try clear c48b0
                          try clear c48b1
                          try clear c52
                          try clear hx209_0
                          try clear hx210_0
                          try clear hx211_0
                          try clear hx212_0
                          try clear hx216_0
                          try clear hx220_0
                          try clear hx224_0
                          try clear hx236_0
                          try clear hx236_1
                          try clear hx237_0
                          try clear hx237_1
                          try clear p2
                          try clear p20
                          try clear p209
                          try clear p21
                          try clear p210
                          try clear p211
                          try clear p212
                          try clear p216
                          try clear p22
                          try clear p220
                          try clear p224
                          try clear p23
                          try clear p236
                          try clear p237
                          try clear p6
                          try clear q2
                          try clear q20
                          try clear q209
                          try clear q21
                          try clear q210
                          try clear q211
                          try clear q212
                          try clear q216
                          try clear q22
                          try clear q220
                          try clear q224
                          try clear q23
                          try clear q236
                          try clear q237
                          obtain ⟨x8_4, rfl, HA, HK4, HO_6, HB⟩ := hrel
                          cases gk with
                          | zero => exact absurd HA.out (by simp [letterboxlaw19_ShowPaths.l1])
                          | succ k4 =>
                            have H := HA.out
                            clear HA
                            simp only [letterboxlaw19_ShowPaths.l1] at H
                            by_cases c53 : x8_4 < (l0.length : Int)
                            · rw [if_pos c53] at H
                              have c53b0 : decide (x8_4 < (l0.length : Int)) = true := decide_eq_true c53
                              clear c53
                              by_cases c54 : 0 < (t231.length : Int)
                              · rw [if_pos c54] at H
                                have c54b0 : decide (0 < (t231.length : Int)) = true := decide_eq_true c54
                                have c54b1 : decide (0 < t231.length) = true := decide_eq_true (by omega)
                                clear c54
                                by_cases c55 : 0 ≤ x8_4
                                · rw [if_pos c55] at H
                                  have c55b0 : decide (0 ≤ x8_4) = true := decide_eq_true c55
                                  clear c55
                                  by_cases c56 : x8_4 < (((rd_T28 t231 0).f1).length : Int)
                                  · rw [if_pos c56] at H
                                    have c56b0 : decide (x8_4 < (((rd_T28 t231 0).f1).length : Int)) = true := decide_eq_true c56
                                    clear c56
                                    by_cases c57 : (rd ((rd_T28 t231 0).f1) x8_4) = (rd l0 x8_4)
                                    · rw [if_pos c57] at H
                                      have c57b0 : ((rd ((rd_T28 t231 0).f1) x8_4) == (rd l0 x8_4)) = true := beq_iff_eq.mpr c57
                                      have c57b1 : ((rd ((rd_T28 t231 0).f1) x8_4) != (rd l0 x8_4)) = false := bne_eq_false_iff_eq.mpr c57
                                      clear c57
                                      have H' := Aside0.mk H
                                      clear H
                                      obtain ⟨Ao58, co58, eo58⟩ := Kd.S_slice HO_6.out
                                      subst eo58
                                      have p238 : 0 ≤ (0 : Int) := (by omega)
                                      have q238 : 0 < (t231.length : Int) := of_decide_eq_true (by first | (with_reducible assumption) | assumption)
                                      obtain ⟨ad238, A238_1, c238_1, e238, hx238_0, hx238_1, hl238_1, hi238_1⟩ := at_T28 (Kd.S_reads' HO_6.out).2.2 0 p238 q238
                                      cases e238
                                      obtain ⟨ce238, hce238, hMe238, hcc238⟩ := Kd.S_get HO_6.out z28 0 p238 (by first | exact q238 | exact of_decide_eq_true (by first | (with_reducible assumption) | assumption) | (have e_ := (Kd.S_reads' HO_6.out).1; omega))
                                      obtain ⟨ve238_1, rfl, ge238_1⟩ := k28_openM hMe238
                                      have hv238_1 := hcc238 1 _ rfl
                                      rw [add_field _ _ 1 (by omega)] at hv238_1
                                      replace hv238_1 := Option.some.inj (hv238_1.symm.trans hx238_1)
                                      rw [hv238_1] at ge238_1
                                      have HL238_1 := Aside0.mk (show Kd.R (Kd.int .i64) 3 _ _ _ _ ((rd_T28 t231 0).f1) from ge238_1)
                                      clear hv238_1 ge238_1
                                      clear hcc238 hce238
                                      have qi238 : (0 < t231.length) = True := eq_true (by omega)
                                      (try rw [show ((0 : Int)).toNat = 0 from rfl] at hx238_0)
                                      (try rw [show 0 * 2 = 0 from rfl] at hx238_0)
                                      (try rw [Addr.add_zero'] at hx238_0)
                                      (try rw [show ((0 : Int)).toNat = 0 from rfl] at hx238_1)
                                      (try rw [show 0 * 2 = 0 from rfl] at hx238_1)
                                      (try rw [Addr.add_zero'] at hx238_1)
                                      have HR238_1 := Aside0.mk hi238_1
                                      have HC238_1 := Aside0.mk hl238_1
                                      clear hi238_1 hl238_1
                                      replace p238 := eq_true p238
                                      replace q238 := eq_true q238
                                      have p239 : 0 ≤ (x8_4 : Int) := of_decide_eq_true (by first | (with_reducible assumption) | assumption)
                                      have q239 : x8_4 < (((rd_T28 t231 0).f1).length : Int) := of_decide_eq_true (by first | (with_reducible assumption) | assumption)
                                      obtain ⟨ad239, e239, hx239_0⟩ := Kd.at_int (by repeat (first | (with_reducible exact HR238_1.out) | (with_reducible refine Kd.C_alloc ?_ _) | (with_reducible refine Kd.C_drewN ?_ _) | (with_reducible refine Kd.C_drew ?_) | exact HR238_1.out)) x8_4 p239 q239
                                      cases e239
                                      replace p239 := eq_true p239
                                      replace q239 := eq_true q239
                                      have p240 : 0 ≤ (x8_4 : Int) := of_decide_eq_true (by first | (with_reducible assumption) | assumption)
                                      have q240 : x8_4 < (l0.length : Int) := of_decide_eq_true (by first | (with_reducible assumption) | assumption)
                                      obtain ⟨ad240, e240, hx240_0⟩ := Kd.at_int HR0.out x8_4 p240 q240
                                      cases e240
                                      replace hx240_0 := (HB.out.cell (World.block_lt_of_cell? w _ hx240_0)).trans hx240_0
                                      replace p240 := eq_true p240
                                      replace q240 := eq_true q240
                                      go_wp2
                                      repeat (go_quiet (fail); try go_wp2)
                                      go_roundg k4
                                      case measure => have := HJ1.out; have := HK2.out; have := HJ39.out; have := HK4.out; omega
                                      case rel => exact ⟨(wrap64 (x8_4 + 1)), (by first | rfl | (simp; done) | (simp [*]; done)), H', ⟨by have := HJ1.out; have := HK2.out; have := HJ39.out; have := HK4.out; omega⟩, ⟨by (with_reducible repeat (first | apply Kd.S_alloc | apply Kd.S_drewN | apply Kd.S_drew)); exact HO_6.out⟩, ⟨by repeat (first | (with_reducible first | exact HB.out | apply below_alloc | apply pw_below_drewN | apply below_drew1) | exact HB.out)⟩⟩
                                    · rw [if_neg c57] at H
                                      have c57b0 : ((rd ((rd_T28 t231 0).f1) x8_4) == (rd l0 x8_4)) = false := beq_eq_false_iff_ne.mpr c57
                                      have c57b1 : ((rd ((rd_T28 t231 0).f1) x8_4) != (rd l0 x8_4)) = true := bne_iff_ne.mpr c57
                                      exact absurd H (by repeat' first | exact NT.none | exact NT.false | refine NT.ite ?_ ?_ | refine NT.bind (fun _ => ?_))
                                  · rw [if_neg c56] at H
                                    exact absurd H (by simp)
                                · rw [if_neg c55] at H
                                  exact absurd H (by simp)
                              · rw [if_neg c54] at H
                                exact absurd H (by simp)
                            · rw [if_neg c53] at H
                              have c53b0 : decide (x8_4 < (l0.length : Int)) = false := decide_eq_false c53
                              clear c53
                              replace H := Option.bind_eq_some_iff.mp H
                              obtain ⟨t241, A590, H⟩ := H
                              replace H : (some t241) = some true := H
                              have A59 := Aside0.mk A590
                              clear A590
                              have Hr_ := Option.some.inj H
                              go_wp2_with (first | (go_at_call 11; (with_reducible refine (letterboxlaw19_known.calls k4  t241 _ A59.out).mono ?_); rintro e w60 ⟨rfl, hb⟩; have n0_ := Aside0.mk (Kd.S_below (by (with_reducible repeat (first | apply Kd.S_alloc | apply Kd.S_drewN | apply Kd.S_drew)); exact HO_6.out) hb); have n1_ := Aside0.mk (below_step (by repeat (first | (with_reducible first | exact HB.out | apply below_alloc | apply pw_below_drewN | apply below_drew1) | exact HB.out)) hb); clear HO_6; clear HB; have HO_6 := n0_; have HB := n1_; clear n0_ n1_; (try clear hb); (try clear hb2); (try clear hk); (try clear hi)))
                              repeat (go_quiet (first | (go_at_call 11; (with_reducible refine (letterboxlaw19_known.calls k4  t241 _ A59.out).mono ?_); rintro e w60 ⟨rfl, hb⟩; have n0_ := Aside0.mk (Kd.S_below (by (with_reducible repeat (first | apply Kd.S_alloc | apply Kd.S_drewN | apply Kd.S_drew)); exact HO_6.out) hb); have n1_ := Aside0.mk (below_step (by repeat (first | (with_reducible first | exact HB.out | apply below_alloc | apply pw_below_drewN | apply below_drew1) | exact HB.out)) hb); clear HO_6; clear HB; have HO_6 := n0_; have HB := n1_; clear n0_ n1_; (try clear hb); (try clear hb2); (try clear hk); (try clear hi))); try go_wp2_with (first | (go_at_call 11; (with_reducible refine (letterboxlaw19_known.calls k4  t241 _ A59.out).mono ?_); rintro e w60 ⟨rfl, hb⟩; have n0_ := Aside0.mk (Kd.S_below (by (with_reducible repeat (first | apply Kd.S_alloc | apply Kd.S_drewN | apply Kd.S_drew)); exact HO_6.out) hb); have n1_ := Aside0.mk (below_step (by repeat (first | (with_reducible first | exact HB.out | apply below_alloc | apply pw_below_drewN | apply below_drew1) | exact HB.out)) hb); clear HO_6; clear HB; have HO_6 := n0_; have HB := n1_; clear n0_ n1_; (try clear hb); (try clear hb2); (try clear hk); (try clear hi))))
                              go_ret
                              exact ⟨by first | (rw [Hr_]; done) | rfl | (simp [errW_none, errW_some] <;> rfl) | (simp [*, errW_none, errW_some] <;> rfl), by repeat (first | (with_reducible first | exact HB.out | apply below_alloc | apply pw_below_drewN | apply below_drew1) | exact HB.out)⟩
                · replace c39 := Bool.eq_false_iff.mpr c39
                  subst c39
                  have H1 : (if t234 = 3 then ((letterboxlaw19_known.f k2).bind fun t235 => (some t235)) else (some false)) = some true := by rw [if_neg (show ¬ (false = true) by decide)] at H; exact H
                  clear H
                  have H := H1
                  clear H1
                  by_cases c61 : t234 = 3
                  · rw [if_pos c61] at H
                    have c61b0 : (t234 == 3) = true := beq_iff_eq.mpr c61
                    have c61b1 : (t234 != 3) = false := bne_eq_false_iff_eq.mpr c61
                    clear c61
                    replace H := Option.bind_eq_some_iff.mp H
                    obtain ⟨t235, A620, H⟩ := H
                    replace H : (some t235) = some true := H
                    have A62 := Aside0.mk A620
                    clear A620
                    have Hr_ := Option.some.inj H
                    go_wp2_with (first | ((with_reducible refine gate_dst (N := 64) rfl ?_); (try (refine gate_guard (by rfl) ?_; dsimp only)); refine Kd.R_lit k38 _ 38 ?hg (N := 64) ?hd (xs := ([(⟨1, x3_2 ++ (⟨#[93]⟩ : ByteArray)⟩ : S38)] : List (S38))) (inner := [.int .i64 1, .string (x3_2 ++ (⟨#[93]⟩ : ByteArray))]) (ok := fun _ => True) (okp := fun _ => True) ?hr ?hp (fun _ hk => hk) trivial (Below.refl _ _) (Nat.le_refl _) (by simp) ?_; (case hd => rfl); (case hg => rfl); (case hr => first | (go_simp; done) | (go_simp; rfl)); (case hp => exact (Reps.c2 (show Kd.M k38 _ _ _ (⟨1, x3_2 ++ (⟨#[93]⟩ : ByteArray)⟩ : S38) [.int .i64 1, .string (x3_2 ++ (⟨#[93]⟩ : ByteArray))] from (k38_mkM _ _ _ (⟨1, x3_2 ++ (⟨#[93]⟩ : ByteArray)⟩ : S38) )) (Reps.none _ _))); intro v229 w63 ho64 hb hg_ hnew_; clear hg_ hnew_; (first | rw [← Ny228.out] at ho64 | (simp only [Int.reduceToNat] at ho64; rw [← Ny228.out] at ho64)); have n0_ := Aside0.mk (Kd.R_lower ho64 (below_size (by repeat (first | (with_reducible first | exact HB.out | apply below_alloc | apply pw_below_drewN | apply below_drew1) | exact HB.out)))); have n1_ := Aside0.mk (below_step (by repeat (first | (with_reducible first | exact HB.out | apply below_alloc | apply pw_below_drewN | apply below_drew1) | exact HB.out)) hb); clear HB; have HO230 := n0_; have HB := n1_; clear n0_ n1_; clear hb ho64; obtain ⟨Ao65, co65, eo65⟩ := Kd.R_slice HO230.out; subst eo65) | (go_at_call 12; (with_reducible refine (show_Parse.calls k2 (fun k_ => some k_ = (.slice Ao65 y228.length co65 : Value).ownBlock) _ _ y228 t231 t234 _ ?side1 A38.out).mono ?_); (case side1 => exact Kd.R_V (Kd.R_tight rfl (HO230.out))); rintro e w66 ⟨v232, rfl, ho0, hb⟩; have n0_ := Aside0.mk (Kd.R_below (by (with_reducible repeat (first | apply Kd.R_alloc | apply Kd.R_drewN | apply Kd.R_drew)); exact HO230.out) hb); have n1_ := Aside0.mk (Kd.S_lower (Kd.S_mono (ok' := fun k_ => True) ho0 (fun _ hk_ => trivial)) (below_size (by repeat (first | (with_reducible first | exact HB.out | apply below_alloc | apply pw_below_drewN | apply below_drew1) | exact HB.out)))); have n2_ := Aside0.mk (below_step (by repeat (first | (with_reducible first | exact HB.out | apply below_alloc | apply pw_below_drewN | apply below_drew1) | exact HB.out)) hb); clear HO230; clear HB; have HO230 := n0_; have HO233 := n1_; have HB := n2_; clear n0_ n1_ n2_; (try clear hb); (try clear hb2); (try clear hk); (try clear hi); (try clear ho0)) | (go_at_call 11; (with_reducible refine (letterboxlaw19_known.calls k2  t235 _ A62.out).mono ?_); rintro e w67 ⟨rfl, hb⟩; have n0_ := Aside0.mk (Kd.R_below (by (with_reducible repeat (first | apply Kd.R_alloc | apply Kd.R_drewN | apply Kd.R_drew)); exact HO230.out) hb); have n1_ := Aside0.mk (Kd.S_below (by (with_reducible repeat (first | apply Kd.S_alloc | apply Kd.S_drewN | apply Kd.S_drew)); exact HO233.out) hb); have n2_ := Aside0.mk (below_step (by repeat (first | (with_reducible first | exact HB.out | apply below_alloc | apply pw_below_drewN | apply below_drew1) | exact HB.out)) hb); clear HO230; clear HO233; clear HB; have HO230 := n0_; have HO233 := n1_; have HB := n2_; clear n0_ n1_ n2_; (try clear hb); (try clear hb2); (try clear hk); (try clear hi)))
                    repeat (go_quiet (first | ((with_reducible refine gate_dst (N := 64) rfl ?_); (try (refine gate_guard (by rfl) ?_; dsimp only)); refine Kd.R_lit k38 _ 38 ?hg (N := 64) ?hd (xs := ([(⟨1, x3_2 ++ (⟨#[93]⟩ : ByteArray)⟩ : S38)] : List (S38))) (inner := [.int .i64 1, .string (x3_2 ++ (⟨#[93]⟩ : ByteArray))]) (ok := fun _ => True) (okp := fun _ => True) ?hr ?hp (fun _ hk => hk) trivial (Below.refl _ _) (Nat.le_refl _) (by simp) ?_; (case hd => rfl); (case hg => rfl); (case hr => first | (go_simp; done) | (go_simp; rfl)); (case hp => exact (Reps.c2 (show Kd.M k38 _ _ _ (⟨1, x3_2 ++ (⟨#[93]⟩ : ByteArray)⟩ : S38) [.int .i64 1, .string (x3_2 ++ (⟨#[93]⟩ : ByteArray))] from (k38_mkM _ _ _ (⟨1, x3_2 ++ (⟨#[93]⟩ : ByteArray)⟩ : S38) )) (Reps.none _ _))); intro v229 w63 ho64 hb hg_ hnew_; clear hg_ hnew_; (first | rw [← Ny228.out] at ho64 | (simp only [Int.reduceToNat] at ho64; rw [← Ny228.out] at ho64)); have n0_ := Aside0.mk (Kd.R_lower ho64 (below_size (by repeat (first | (with_reducible first | exact HB.out | apply below_alloc | apply pw_below_drewN | apply below_drew1) | exact HB.out)))); have n1_ := Aside0.mk (below_step (by repeat (first | (with_reducible first | exact HB.out | apply below_alloc | apply pw_below_drewN | apply below_drew1) | exact HB.out)) hb); clear HB; have HO230 := n0_; have HB := n1_; clear n0_ n1_; clear hb ho64; obtain ⟨Ao65, co65, eo65⟩ := Kd.R_slice HO230.out; subst eo65) | (go_at_call 12; (with_reducible refine (show_Parse.calls k2 (fun k_ => some k_ = (.slice Ao65 y228.length co65 : Value).ownBlock) _ _ y228 t231 t234 _ ?side1 A38.out).mono ?_); (case side1 => exact Kd.R_V (Kd.R_tight rfl (HO230.out))); rintro e w66 ⟨v232, rfl, ho0, hb⟩; have n0_ := Aside0.mk (Kd.R_below (by (with_reducible repeat (first | apply Kd.R_alloc | apply Kd.R_drewN | apply Kd.R_drew)); exact HO230.out) hb); have n1_ := Aside0.mk (Kd.S_lower (Kd.S_mono (ok' := fun k_ => True) ho0 (fun _ hk_ => trivial)) (below_size (by repeat (first | (with_reducible first | exact HB.out | apply below_alloc | apply pw_below_drewN | apply below_drew1) | exact HB.out)))); have n2_ := Aside0.mk (below_step (by repeat (first | (with_reducible first | exact HB.out | apply below_alloc | apply pw_below_drewN | apply below_drew1) | exact HB.out)) hb); clear HO230; clear HB; have HO230 := n0_; have HO233 := n1_; have HB := n2_; clear n0_ n1_ n2_; (try clear hb); (try clear hb2); (try clear hk); (try clear hi); (try clear ho0)) | (go_at_call 11; (with_reducible refine (letterboxlaw19_known.calls k2  t235 _ A62.out).mono ?_); rintro e w67 ⟨rfl, hb⟩; have n0_ := Aside0.mk (Kd.R_below (by (with_reducible repeat (first | apply Kd.R_alloc | apply Kd.R_drewN | apply Kd.R_drew)); exact HO230.out) hb); have n1_ := Aside0.mk (Kd.S_below (by (with_reducible repeat (first | apply Kd.S_alloc | apply Kd.S_drewN | apply Kd.S_drew)); exact HO233.out) hb); have n2_ := Aside0.mk (below_step (by repeat (first | (with_reducible first | exact HB.out | apply below_alloc | apply pw_below_drewN | apply below_drew1) | exact HB.out)) hb); clear HO230; clear HO233; clear HB; have HO230 := n0_; have HO233 := n1_; have HB := n2_; clear n0_ n1_ n2_; (try clear hb); (try clear hb2); (try clear hk); (try clear hi))); try go_wp2_with (first | ((with_reducible refine gate_dst (N := 64) rfl ?_); (try (refine gate_guard (by rfl) ?_; dsimp only)); refine Kd.R_lit k38 _ 38 ?hg (N := 64) ?hd (xs := ([(⟨1, x3_2 ++ (⟨#[93]⟩ : ByteArray)⟩ : S38)] : List (S38))) (inner := [.int .i64 1, .string (x3_2 ++ (⟨#[93]⟩ : ByteArray))]) (ok := fun _ => True) (okp := fun _ => True) ?hr ?hp (fun _ hk => hk) trivial (Below.refl _ _) (Nat.le_refl _) (by simp) ?_; (case hd => rfl); (case hg => rfl); (case hr => first | (go_simp; done) | (go_simp; rfl)); (case hp => exact (Reps.c2 (show Kd.M k38 _ _ _ (⟨1, x3_2 ++ (⟨#[93]⟩ : ByteArray)⟩ : S38) [.int .i64 1, .string (x3_2 ++ (⟨#[93]⟩ : ByteArray))] from (k38_mkM _ _ _ (⟨1, x3_2 ++ (⟨#[93]⟩ : ByteArray)⟩ : S38) )) (Reps.none _ _))); intro v229 w63 ho64 hb hg_ hnew_; clear hg_ hnew_; (first | rw [← Ny228.out] at ho64 | (simp only [Int.reduceToNat] at ho64; rw [← Ny228.out] at ho64)); have n0_ := Aside0.mk (Kd.R_lower ho64 (below_size (by repeat (first | (with_reducible first | exact HB.out | apply below_alloc | apply pw_below_drewN | apply below_drew1) | exact HB.out)))); have n1_ := Aside0.mk (below_step (by repeat (first | (with_reducible first | exact HB.out | apply below_alloc | apply pw_below_drewN | apply below_drew1) | exact HB.out)) hb); clear HB; have HO230 := n0_; have HB := n1_; clear n0_ n1_; clear hb ho64; obtain ⟨Ao65, co65, eo65⟩ := Kd.R_slice HO230.out; subst eo65) | (go_at_call 12; (with_reducible refine (show_Parse.calls k2 (fun k_ => some k_ = (.slice Ao65 y228.length co65 : Value).ownBlock) _ _ y228 t231 t234 _ ?side1 A38.out).mono ?_); (case side1 => exact Kd.R_V (Kd.R_tight rfl (HO230.out))); rintro e w66 ⟨v232, rfl, ho0, hb⟩; have n0_ := Aside0.mk (Kd.R_below (by (with_reducible repeat (first | apply Kd.R_alloc | apply Kd.R_drewN | apply Kd.R_drew)); exact HO230.out) hb); have n1_ := Aside0.mk (Kd.S_lower (Kd.S_mono (ok' := fun k_ => True) ho0 (fun _ hk_ => trivial)) (below_size (by repeat (first | (with_reducible first | exact HB.out | apply below_alloc | apply pw_below_drewN | apply below_drew1) | exact HB.out)))); have n2_ := Aside0.mk (below_step (by repeat (first | (with_reducible first | exact HB.out | apply below_alloc | apply pw_below_drewN | apply below_drew1) | exact HB.out)) hb); clear HO230; clear HB; have HO230 := n0_; have HO233 := n1_; have HB := n2_; clear n0_ n1_ n2_; (try clear hb); (try clear hb2); (try clear hk); (try clear hi); (try clear ho0)) | (go_at_call 11; (with_reducible refine (letterboxlaw19_known.calls k2  t235 _ A62.out).mono ?_); rintro e w67 ⟨rfl, hb⟩; have n0_ := Aside0.mk (Kd.R_below (by (with_reducible repeat (first | apply Kd.R_alloc | apply Kd.R_drewN | apply Kd.R_drew)); exact HO230.out) hb); have n1_ := Aside0.mk (Kd.S_below (by (with_reducible repeat (first | apply Kd.S_alloc | apply Kd.S_drewN | apply Kd.S_drew)); exact HO233.out) hb); have n2_ := Aside0.mk (below_step (by repeat (first | (with_reducible first | exact HB.out | apply below_alloc | apply pw_below_drewN | apply below_drew1) | exact HB.out)) hb); clear HO230; clear HO233; clear HB; have HO230 := n0_; have HO233 := n1_; have HB := n2_; clear n0_ n1_ n2_; (try clear hb); (try clear hb2); (try clear hk); (try clear hi))))
                    go_ret
                    exact ⟨by first | (rw [Hr_]; done) | rfl | (simp [errW_none, errW_some] <;> rfl) | (simp [*, errW_none, errW_some] <;> rfl), by repeat (first | (with_reducible first | exact HB.out | apply below_alloc | apply pw_below_drewN | apply below_drew1) | exact HB.out)⟩
                  · rw [if_neg c61] at H
                    have c61b0 : (t234 == 3) = false := beq_eq_false_iff_ne.mpr c61
                    have c61b1 : (t234 != 3) = true := bne_iff_ne.mpr c61
                    exact absurd H (by repeat' first | exact NT.none | exact NT.false | refine NT.ite ?_ ?_ | refine NT.bind (fun _ => ?_))
              · rw [if_neg c37] at H
                exact absurd H (by simp)

end Go.Proofs.YtalabkaalbllgaaGreatDoor.P
