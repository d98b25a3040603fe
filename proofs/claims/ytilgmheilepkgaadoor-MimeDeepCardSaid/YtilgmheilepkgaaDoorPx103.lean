/- The walks of the seat's functions, one contract a function: printed by a program of this session's (wip/gen). Not trusted: Lean checks it. -/
import Derived.Test.YtilgmheilepkgaaDoorPx1
import Derived.Test.YtilgmheilepkgaaDoorPx109
import Derived.Test.YtilgmheilepkgaaDoorPx110
import Derived.Test.YtilgmheilepkgaaDoorPx111
import Derived.Test.YtilgmheilepkgaaDoorMimeMessage
-- halved
namespace Go.Proofs.YtilgmheilepkgaaDoor.P
open Go.RowKit Go.Proofs.YtilgmheilepkgaaDoorW.PrintWords Go.Proofs.YtilgmheilepkgaaDoorW.PrintLast Go.Proofs.YtilgmheilepkgaaDoorW.PrintMore
attribute [local go_sem] max2_int min2_int max_two min_two max_three min_three max_four min_four   -- for this text's walks alone
set_option linter.unusedVariables false
set_option linter.unusedSimpArgs false

/-! ### letterboxlaw10_MimeDeep: function 3 -/
mutual
def letterboxlaw10_MimeDeep.j0 : Nat → List Int → Int → Bool → Option (Bool)
 | 0, _, _, _ => none
 | k + 1, x0, x1, x22 => if x22 = true then (some true) else (letterboxlaw10_MimeDeep.l0 k x0 x1 0)
def letterboxlaw10_MimeDeep.l0 : Nat → List Int → Int → Int → Option (Bool)
 | 0, _, _, _ => none
 | k + 1, x0, x1, x5 => if x5 < (x0.length : Int) then (if 0 ≤ x5 then (if (rd x0 x5) < 97 then (some true) else (if (rd x0 x5) > 122 then (some true) else (letterboxlaw10_MimeDeep.l0 k x0 x1 (wrap64 (x5 + 1))))) else (none)) else ((some (([13, 10] : List Int) : List Int)).bind fun y298 => (if y298.length + x0.length < 140737488355328 then (letterboxlaw10_MimeDeep.l1 k x0 x1 (y298 ++ x0) ([] : List Int) 0) else (none)))
def letterboxlaw10_MimeDeep.l1 : Nat → List Int → Int → List Int → List Int → Int → Option (Bool)
 | 0, _, _, _, _, _ => none
 | k + 1, x0, x1, x6, x7, x8 => if x8 < x1 then ((letterboxlaw10_message.f (strOfNums (([(wrap64 (97 + x8)) % 256] : List Int))) (([(([13, 10, 120] : List Int)), x6] : List (List Int))) ((Int.tmod x8 2) == 0)).bind fun t313 => (if x7.length < 17592186044416 then (letterboxlaw10_MimeDeep.l1 k x0 x1 t313 (x7 ++ [2]) (wrap64 (x8 + 1))) else (none))) else ((mime_Section.f k x6 x7).bind fun bt319 => ((some (([13, 10] : List Int) : List Int)).bind fun y323 => (if y323.length + x0.length < 140737488355328 then (if x1 > 4 then (if bt319.2 = true then (some false) else ((letterboxlaw10_known.f k).bind fun t329 => (some t329))) else (if bt319.2 = true then (if (strOfNums bt319.1).toList = (strOfNums (y323 ++ x0)).toList then ((mime_Count.f k x6).bind fun t330 => (if t330 = (wrap64 (x1 + 1)) then ((letterboxlaw10_known.f k).bind fun t331 => (some t331)) else (some false))) else (some false)) else (some false))) else (none))))
end
def letterboxlaw10_MimeDeep.f (k : Nat) (l0 : List Int) (a1 : Int) : Option (Bool) := if (l0.length : Int) > 200 then (letterboxlaw10_MimeDeep.j0 k l0 a1 true) else (if a1 < 0 then (letterboxlaw10_MimeDeep.j0 k l0 a1 true) else (letterboxlaw10_MimeDeep.j0 k l0 a1 (decide (a1 > 6))))
theorem letterboxlaw10_MimeDeep.mono_l : ∀ k, (∀ y0 y1 y2, LeO (letterboxlaw10_MimeDeep.j0 k y0 y1 y2) (letterboxlaw10_MimeDeep.j0 (k + 1) y0 y1 y2)) ∧ (∀ y0 y1 y2, LeO (letterboxlaw10_MimeDeep.l0 k y0 y1 y2) (letterboxlaw10_MimeDeep.l0 (k + 1) y0 y1 y2)) ∧ (∀ y0 y1 y2 y3 y4, LeO (letterboxlaw10_MimeDeep.l1 k y0 y1 y2 y3 y4) (letterboxlaw10_MimeDeep.l1 (k + 1) y0 y1 y2 y3 y4))
 | 0 => ⟨fun _ _ _ r h => by simp [letterboxlaw10_MimeDeep.j0] at h, fun _ _ _ r h => by simp [letterboxlaw10_MimeDeep.l0] at h, fun _ _ _ _ _ r h => by simp [letterboxlaw10_MimeDeep.l1] at h⟩
 | k + 1 => by
  obtain ⟨ih0, ih1, ih2⟩ := letterboxlaw10_MimeDeep.mono_l k
  refine ⟨?_, ?_, ?_⟩
  ·intro y0 y1 y2
   unfold letterboxlaw10_MimeDeep.j0
   repeat' first
   | (with_reducible exact ih0 _ _ _)
   | (with_reducible exact ih1 _ _ _)
   | (with_reducible exact ih2 _ _ _ _ _)
   | (with_reducible exact letterboxlaw10_known.mono _)
   | (with_reducible exact mime_Count.mono _ _)
   | (with_reducible exact mime_Section.mono _ _ _)
   | (with_reducible exact LeO.refl _)
   | (with_reducible exact LeO.none _)
   | (with_reducible refine LeO.ite ?_ ?_)
   | (with_reducible refine LeO.bind ?_ (fun _ => ?_))
   | exact ih0 _ _ _
   | exact ih1 _ _ _
   | exact ih2 _ _ _ _ _
   | exact letterboxlaw10_known.mono _
   | exact mime_Count.mono _ _
   | exact mime_Section.mono _ _ _
   | exact LeO.none _
   | refine LeO.ite ?_ ?_
   | refine LeO.bind ?_ (fun _ => ?_)
  ·intro y0 y1 y2
   unfold letterboxlaw10_MimeDeep.l0
   repeat' first
   | (with_reducible exact ih0 _ _ _)
   | (with_reducible exact ih1 _ _ _)
   | (with_reducible exact ih2 _ _ _ _ _)
   | (with_reducible exact letterboxlaw10_known.mono _)
   | (with_reducible exact mime_Count.mono _ _)
   | (with_reducible exact mime_Section.mono _ _ _)
   | (with_reducible exact LeO.refl _)
   | (with_reducible exact LeO.none _)
   | (with_reducible refine LeO.ite ?_ ?_)
   | (with_reducible refine LeO.bind ?_ (fun _ => ?_))
   | exact ih0 _ _ _
   | exact ih1 _ _ _
   | exact ih2 _ _ _ _ _
   | exact letterboxlaw10_known.mono _
   | exact mime_Count.mono _ _
   | exact mime_Section.mono _ _ _
   | exact LeO.none _
   | refine LeO.ite ?_ ?_
   | refine LeO.bind ?_ (fun _ => ?_)
  ·intro y0 y1 y2 y3 y4
   unfold letterboxlaw10_MimeDeep.l1
   repeat' first
   | (with_reducible exact ih0 _ _ _)
   | (with_reducible exact ih1 _ _ _)
   | (with_reducible exact ih2 _ _ _ _ _)
   | (with_reducible exact letterboxlaw10_known.mono _)
   | (with_reducible exact mime_Count.mono _ _)
   | (with_reducible exact mime_Section.mono _ _ _)
   | (with_reducible exact LeO.refl _)
   | (with_reducible exact LeO.none _)
   | (with_reducible refine LeO.ite ?_ ?_)
   | (with_reducible refine LeO.bind ?_ (fun _ => ?_))
   | exact ih0 _ _ _
   | exact ih1 _ _ _
   | exact ih2 _ _ _ _ _
   | exact letterboxlaw10_known.mono _
   | exact mime_Count.mono _ _
   | exact mime_Section.mono _ _ _
   | exact LeO.none _
   | refine LeO.ite ?_ ?_
   | refine LeO.bind ?_ (fun _ => ?_)
theorem letterboxlaw10_MimeDeep.mono : ∀ a0 a1 k, LeO (letterboxlaw10_MimeDeep.f k a0 a1) (letterboxlaw10_MimeDeep.f (k + 1) a0 a1) := by
 intro a0 a1 k
 obtain ⟨ih0, ih1, ih2⟩ := letterboxlaw10_MimeDeep.mono_l k
 unfold letterboxlaw10_MimeDeep.f
 repeat' first
   | (with_reducible exact ih0 _ _ _)
   | (with_reducible exact ih1 _ _ _)
   | (with_reducible exact ih2 _ _ _ _ _)
   | (with_reducible exact letterboxlaw10_known.mono _)
   | (with_reducible exact mime_Count.mono _ _)
   | (with_reducible exact mime_Section.mono _ _ _)
   | (with_reducible exact LeO.refl _)
   | (with_reducible exact LeO.none _)
   | (with_reducible refine LeO.ite ?_ ?_)
   | (with_reducible refine LeO.bind ?_ (fun _ => ?_))
   | exact ih0 _ _ _
   | exact ih1 _ _ _
   | exact ih2 _ _ _ _ _
   | exact letterboxlaw10_known.mono _
   | exact mime_Count.mono _ _
   | exact mime_Section.mono _ _ _
   | exact LeO.none _
   | refine LeO.ite ?_ ?_
   | refine LeO.bind ?_ (fun _ => ?_)
set_option maxHeartbeats 8000000 in
set_option maxRecDepth 100000 in
theorem letterboxlaw10_MimeDeep.calls (k : Nat) (A0 : Option Addr) (c0 : Nat) (l0 : List Int) (a1 : Int) (w : World) (hr0 : Kd.C (Kd.int .u8) w A0 l0.length l0) (hc0 : l0.length ≤ c0) (h : letterboxlaw10_MimeDeep.f k l0 a1 = some true) :
  Calls Tryd.prog 3 #[.slice A0 l0.length c0, .int .i64 a1] w fun e w' => e = .returned (.bool true) ∧ Below w.heap.size w w' := by
 have HR0 := Aside0.mk hr0
 have HC0 := Aside0.mk hc0
 clear hr0 hc0
 have HB := Aside0.mk (Below.refl w.heap.size w)
 have H : (if (l0.length : Int) > 200 then (letterboxlaw10_MimeDeep.j0 k l0 a1 true) else (if a1 < 0 then (letterboxlaw10_MimeDeep.j0 k l0 a1 true) else (letterboxlaw10_MimeDeep.j0 k l0 a1 (decide (a1 > 6))))) = some true := h
 clear h
 have HC3 := Aside0.mk H
 clear H
 go_enter Tryd.func3, Tryd.ntmps3
 go_upto_region 1 with (fail)
 go_cut [22] (fun v22 wc => ∃ (kq : Nat) (x22_2 : Bool), v22 = .bool x22_2 ∧ Aside0 (letterboxlaw10_MimeDeep.j0 kq l0 a1 x22_2 = some true) ∧ Aside0 (kq ≤ k) ∧ Aside0 (Below w.heap.size w wc))
 case first =>
  have H := HC3.out
  clear HC3
  by_cases c4 : (l0.length : Int) > 200
  ·rw [if_pos c4] at H
   have c4b0 : decide (200 < (l0.length : Int)) = true := decide_eq_true c4
   have c4b1 : decide (200 < l0.length) = true := decide_eq_true (by omega)
   clear c4
   (first | rw [c4b0] | (simp only [i64_w, i32_w]; rw [c4b0]) | skip)
   have H' := Aside0.mk H
   clear H
   go_wp2
   go_meet
   case rel => exact ⟨_, (true), (by first | rfl | (simp; done) | (simp [*]; done)), H', ⟨by first | omega | exact Nat.le_refl _⟩, ⟨by repeat (first | (with_reducible first | exact HB.out | apply below_alloc | apply pw_below_drewN | apply below_drew1) | exact HB.out)⟩⟩
  ·rw [if_neg c4] at H
   have c4b0 : decide (200 < (l0.length : Int)) = false := decide_eq_false c4
   have c4b1 : decide (200 < l0.length) = false := decide_eq_false (by omega)
   clear c4
   (first | rw [c4b0] | (simp only [i64_w, i32_w]; rw [c4b0]) | skip)
   by_cases c5 : a1 < 0
   ·rw [if_pos c5] at H
    have c5b0 : decide (a1 < 0) = true := decide_eq_true c5
    clear c5
    have H' := Aside0.mk H
    clear H
    go_wp2
    go_meet
    case rel => exact ⟨_, (true), (by first | rfl | (simp; done) | (simp [*]; done)), H', ⟨by first | omega | exact Nat.le_refl _⟩, ⟨by repeat (first | (with_reducible first | exact HB.out | apply below_alloc | apply pw_below_drewN | apply below_drew1) | exact HB.out)⟩⟩
   ·rw [if_neg c5] at H
    have c5b0 : decide (a1 < 0) = false := decide_eq_false c5
    clear c5
    have H' := Aside0.mk H
    clear H
    go_wp2
    go_meet
    case rel => exact ⟨_, (decide (a1 > 6)), (by first | rfl | (simp; done) | (simp [*]; done)), H', ⟨by first | omega | exact Nat.le_refl _⟩, ⟨by repeat (first | (with_reducible first | exact HB.out | apply below_alloc | apply pw_below_drewN | apply below_drew1) | exact HB.out)⟩⟩
 case rest =>
  clear HC3
  try clear p2
  try clear c3
  try clear c4
  try clear c4b0
  try clear c4b1
  try clear c5
  try clear c5b0
  obtain ⟨kq, x22_2, rfl, HA, HJ2, HB⟩ := hcut
  cases kq with
  | zero => exact absurd HA.out (by simp [letterboxlaw10_MimeDeep.j0])
  | succ kj2 =>
   have H := HA.out
   clear HA
   simp only [letterboxlaw10_MimeDeep.j0] at H
   by_cases c6 : x22_2 = true
   ·subst c6
    have H1 : (some true) = some true := rfl
    clear H
    have H := H1
    clear H1
    first | (obtain rfl := Option.some.inj H) | (have Hr_ := Option.some.inj H)
    go_wp2
    go_ret
    exact ⟨by first | rfl | (simp [errW_none, errW_some] <;> rfl) | (simp [*, errW_none, errW_some] <;> rfl), by repeat (first | (with_reducible first | exact HB.out | apply below_alloc | apply pw_below_drewN | apply below_drew1) | exact HB.out)⟩
   ·replace c6 := Bool.eq_false_iff.mpr c6
    subst c6
    have H1 : (letterboxlaw10_MimeDeep.l0 kj2 l0 a1 0) = some true := by rw [if_neg (show ¬ (false = true) by decide)] at H; exact H
    clear H
    have H := H1
    clear H1
    have H' := Aside0.mk H
    clear H
    go_wp2
    go_loopg [5] kj2 (fun kq v5 w' => ∃ (x5_2 : Int), v5 = .int .i64 x5_2 ∧ Aside0 (letterboxlaw10_MimeDeep.l0 kq l0 a1 x5_2 = some true) ∧ Aside0 (kq ≤ kj2) ∧ Aside0 (Below w.heap.size w w'))
    case atStart => exact ⟨(0), (by first | rfl | (simp; done) | (simp [*]; done)), H', ⟨Nat.le_refl _⟩, ⟨by repeat (first | (with_reducible first | exact HB.out | apply below_alloc | apply pw_below_drewN | apply below_drew1) | exact HB.out)⟩⟩
    case round =>
     clear H'
     try clear p2
     try clear c3
     try clear c4
     try clear c4b0
     try clear c4b1
     try clear c5
     try clear c5b0
     try clear c6
     try clear p2
     obtain ⟨x5_2, rfl, HA, HK2, HB⟩ := hrel
     cases gk with
     | zero => exact absurd HA.out (by simp [letterboxlaw10_MimeDeep.l0])
     | succ k2 =>
      have H := HA.out
      clear HA
      simp only [letterboxlaw10_MimeDeep.l0] at H
      by_cases c7 : x5_2 < (l0.length : Int)
      ·rw [if_pos c7] at H
       have c7b0 : decide (x5_2 < (l0.length : Int)) = true := decide_eq_true c7
       clear c7
       by_cases c8 : 0 ≤ x5_2
       ·rw [if_pos c8] at H
        have c8b0 : decide (0 ≤ x5_2) = true := decide_eq_true c8
        clear c8
        by_cases c9 : (rd l0 x5_2) < 97
        ·rw [if_pos c9] at H
         have c9b0 : decide ((rd l0 x5_2) < 97) = true := decide_eq_true c9
         clear c9
         first | (obtain rfl := Option.some.inj H) | (have Hr_ := Option.some.inj H)
         have p296 : 0 ≤ (x5_2 : Int) := of_decide_eq_true (by first | (with_reducible assumption) | assumption)
         have q296 : x5_2 < (l0.length : Int) := of_decide_eq_true (by first | (with_reducible assumption) | assumption)
         obtain ⟨ad296, e296, hx296_0⟩ := Kd.at_int HR0.out x5_2 p296 q296
         cases e296
         replace hx296_0 := (HB.out.cell (World.block_lt_of_cell? w _ hx296_0)).trans hx296_0
         replace p296 := eq_true p296
         replace q296 := eq_true q296
         go_wp2
         go_ret
         exact ⟨by first | rfl | (simp [errW_none, errW_some] <;> rfl) | (simp [*, errW_none, errW_some] <;> rfl), by repeat (first | (with_reducible first | exact HB.out | apply below_alloc | apply pw_below_drewN | apply below_drew1) | exact HB.out)⟩
        ·rw [if_neg c9] at H
         have c9b0 : decide ((rd l0 x5_2) < 97) = false := decide_eq_false c9
         clear c9
         by_cases c10 : (rd l0 x5_2) > 122
         ·rw [if_pos c10] at H
          have c10b0 : decide (122 < (rd l0 x5_2)) = true := decide_eq_true c10
          clear c10
          first | (obtain rfl := Option.some.inj H) | (have Hr_ := Option.some.inj H)
          have p296 : 0 ≤ (x5_2 : Int) := of_decide_eq_true (by first | (with_reducible assumption) | assumption)
          have q296 : x5_2 < (l0.length : Int) := of_decide_eq_true (by first | (with_reducible assumption) | assumption)
          obtain ⟨ad296, e296, hx296_0⟩ := Kd.at_int HR0.out x5_2 p296 q296
          cases e296
          replace hx296_0 := (HB.out.cell (World.block_lt_of_cell? w _ hx296_0)).trans hx296_0
          replace p296 := eq_true p296
          replace q296 := eq_true q296
          have p297 : 0 ≤ (x5_2 : Int) := of_decide_eq_true (by first | (with_reducible assumption) | assumption)
          have q297 : x5_2 < (l0.length : Int) := of_decide_eq_true (by first | (with_reducible assumption) | assumption)
          obtain ⟨ad297, e297, hx297_0⟩ := Kd.at_int HR0.out x5_2 p297 q297
          obtain rfl : ad296 = ad297 := (by injection e297)
          replace hx297_0 := (HB.out.cell (World.block_lt_of_cell? w _ hx297_0)).trans hx297_0
          replace p297 := eq_true p297
          replace q297 := eq_true q297
          go_wp2
          go_ret
          exact ⟨by first | rfl | (simp [errW_none, errW_some] <;> rfl) | (simp [*, errW_none, errW_some] <;> rfl), by repeat (first | (with_reducible first | exact HB.out | apply below_alloc | apply pw_below_drewN | apply below_drew1) | exact HB.out)⟩
         ·rw [if_neg c10] at H
          have c10b0 : decide (122 < (rd l0 x5_2)) = false := decide_eq_false c10
          clear c10
          have H' := Aside0.mk H
          clear H
          have p296 : 0 ≤ (x5_2 : Int) := of_decide_eq_true (by first | (with_reducible assumption) | assumption)
          have q296 : x5_2 < (l0.length : Int) := of_decide_eq_true (by first | (with_reducible assumption) | assumption)
          obtain ⟨ad296, e296, hx296_0⟩ := Kd.at_int HR0.out x5_2 p296 q296
          cases e296
          replace hx296_0 := (HB.out.cell (World.block_lt_of_cell? w _ hx296_0)).trans hx296_0
          replace p296 := eq_true p296
          replace q296 := eq_true q296
          have p297 : 0 ≤ (x5_2 : Int) := of_decide_eq_true (by first | (with_reducible assumption) | assumption)
          have q297 : x5_2 < (l0.length : Int) := of_decide_eq_true (by first | (with_reducible assumption) | assumption)
          obtain ⟨ad297, e297, hx297_0⟩ := Kd.at_int HR0.out x5_2 p297 q297
          obtain rfl : ad296 = ad297 := (by injection e297)
          replace hx297_0 := (HB.out.cell (World.block_lt_of_cell? w _ hx297_0)).trans hx297_0
          replace p297 := eq_true p297
          replace q297 := eq_true q297
          go_wp2
          go_roundg k2
          case measure => have := HJ2.out; have := HK2.out; omega
          case rel => exact ⟨(wrap64 (x5_2 + 1)), (by first | rfl | (simp; done) | (simp [*]; done)), H', ⟨by have := HJ2.out; have := HK2.out; omega⟩, ⟨by repeat (first | (with_reducible first | exact HB.out | apply below_alloc | apply pw_below_drewN | apply below_drew1) | exact HB.out)⟩⟩
       ·rw [if_neg c8] at H
        exact absurd H (by simp)
      ·rw [if_neg c7] at H
       have c7b0 : decide (x5_2 < (l0.length : Int)) = false := decide_eq_false c7
       clear c7
       obtain ⟨y298, hy298⟩ : ∃ y_ : List Int, y_ = (([13, 10] : List Int)) := ⟨_, rfl⟩
       replace H : (if y298.length + l0.length < 140737488355328 then (letterboxlaw10_MimeDeep.l1 k2 l0 a1 (y298 ++ l0) ([] : List Int) 0) else (none)) = some true := by first | (rw [hy298]; with_reducible exact H) | (have H2_ := (Option.bind_some _ _).symm.trans H; rw [hy298]; with_reducible exact H2_) | (have H2_ := (Option.bind_some _ _).symm.trans H; with_reducible exact H2_) | with_reducible exact H | (rw [hy298]; exact H) | exact H
       have Ny298 := Aside0.mk hy298
       clear hy298
       by_cases c11 : y298.length + l0.length < 140737488355328
       ·rw [if_pos c11] at H
        have LMc11 := Aside0.mk c11
        clear c11
        obtain ⟨y301, hy301⟩ : ∃ y_ : List Int, y_ = (y298 ++ l0) := ⟨_, rfl⟩
        replace H : (letterboxlaw10_MimeDeep.l1 k2 l0 a1 y301 ([] : List Int) 0) = some true := by first | (rw [hy301]; with_reducible exact H) | (have H2_ := (Option.bind_some _ _).symm.trans H; rw [hy301]; with_reducible exact H2_) | (have H2_ := (Option.bind_some _ _).symm.trans H; with_reducible exact H2_) | with_reducible exact H | (rw [hy301]; exact H) | exact H
        have Ny301 := Aside0.mk hy301
        clear hy301
        have H' := Aside0.mk H
        clear H
        go_wp2_with (first | ((with_reducible refine gate_dst  (N := 42) rfl ?_); refine litC_ [13, 10] y298 Ny298.out (some 42) rfl rfl rfl rfl (by rw [Ny298.out]; rfl) (by rw [Ny298.out]; decide) ?_; intro w12 hG13 hb; have n0_ := Aside0.mk (G_lower hG13 HB.out.size); have n1_ := Aside0.mk (below_step HB.out hb); clear HB; have HO300 := n0_; have HB := n1_; clear n0_ n1_; clear hb hG13) | ((with_reducible refine gate_dst (N := 44) rfl ?_); refine appG_ (some 44) rfl rfl rfl (xs := y298) (ys := l0) rfl rfl w.heap.size HB.out.size HO300.out (Kd.C_below HR0.out HB.out) HC0.out (by have := LMc11.out; omega) ?_; intro v302 w14 hG hb; rw [← Ny301.out] at hG; have n0_ := Aside0.mk (HB.out.trans hb); have n1_ := Aside0.mk hG; clear HB HO300; have HB := n0_; have HO303 := n1_; clear n0_ n1_; clear hG hb))
        go_loopg [6, 7, 8] k2 (fun kq v6 v7 v8 w' => ∃ (x6_3 : List Int) (x7_3 : List Int) (x8_3 : Int), v8 = .int .i64 x8_3 ∧ Aside0 (letterboxlaw10_MimeDeep.l1 kq l0 a1 x6_3 x7_3 x8_3 = some true) ∧ Aside0 (kq ≤ k2) ∧ Aside0 (Kd.V (Kd.int .u8) 5 w' w.heap.size (fun k_ => some k_ ≠ (v7 : Value).ownBlock) v6 x6_3) ∧ Aside0 (Kd.R (Kd.int .i64) 3 w' w.heap.size (fun _ => True) v7 x7_3) ∧ Aside0 (Below w.heap.size w w'))
        case atStart => exact ⟨(y301), (([] : List Int)), (0), (by first | rfl | (simp; done) | (simp [*]; done)), H', ⟨Nat.le_refl _⟩, ⟨Kd.V_mono (G_V HO303.out) (fun _ _ => by simp [Value.ownBlock])⟩, ⟨by first | exact Kd.R_nil _ _ _ _ _ | exact Kd.N_nil _ _ _ _ _ | exact Kd.V_nil _ _ _ _ _ | exact Kd.Q_nil _ _ _ _ _ | exact Kd.S_nil _ _ _ _ _⟩, ⟨by repeat (first | (with_reducible first | exact HB.out | apply below_alloc | apply pw_below_drewN | apply below_drew1) | exact HB.out)⟩⟩
        case round =>
         clear H'
         try clear c1
         try clear p2
         try clear q2
         try clear hx2
         try clear c3
         try clear c4
         try clear c4b0
         try clear c4b1
         try clear c5
         try clear c5b0
         try clear c6
         try clear p6
         try clear c7
         try clear c7b0
         try clear c8
         try clear c8b0
         try clear c9
         try clear c9b0
         try clear c10
         try clear c10b0
         try clear c11
         try clear hx296_0
         try clear hx297_0
         try clear p2
         try clear p296
         try clear p297
         try clear q296
         try clear q297
         obtain ⟨x6_3, x7_3, x8_3, rfl, HA, HK3, HO_6, HO_7, HB⟩ := hrel
         cases gk with
         | zero => exact absurd HA.out (by simp [letterboxlaw10_MimeDeep.l1])
         | succ k3 =>
          have H := HA.out
          clear HA
          simp only [letterboxlaw10_MimeDeep.l1] at H
          by_cases c15 : x8_3 < a1
          ·rw [if_pos c15] at H
           have c15b0 : decide (x8_3 < a1) = true := decide_eq_true c15
           clear c15
           obtain ⟨y304, hy304⟩ : ∃ y_ : List Int, y_ = (([(wrap64 (97 + x8_3)) % 256] : List Int)) := ⟨_, rfl⟩
           replace H : ((letterboxlaw10_message.f (strOfNums y304) (([(([13, 10, 120] : List Int)), x6_3] : List (List Int))) ((Int.tmod x8_3 2) == 0)).bind fun t313 => (if x7_3.length < 17592186044416 then (letterboxlaw10_MimeDeep.l1 k3 l0 a1 t313 (x7_3 ++ [2]) (wrap64 (x8_3 + 1))) else (none))) = some true := by first | (rw [hy304]; with_reducible exact H) | (have H2_ := (Option.bind_some _ _).symm.trans H; rw [hy304]; with_reducible exact H2_) | (have H2_ := (Option.bind_some _ _).symm.trans H; with_reducible exact H2_) | with_reducible exact H | (rw [hy304]; exact H) | exact H
           have Ny304 := Aside0.mk hy304
           clear hy304
           obtain ⟨y307, hy307⟩ : ∃ y_ : List Int, y_ = (([13, 10, 120] : List Int)) := ⟨_, rfl⟩
           replace H : ((letterboxlaw10_message.f (strOfNums y304) (([y307, x6_3] : List (List Int))) ((Int.tmod x8_3 2) == 0)).bind fun t313 => (if x7_3.length < 17592186044416 then (letterboxlaw10_MimeDeep.l1 k3 l0 a1 t313 (x7_3 ++ [2]) (wrap64 (x8_3 + 1))) else (none))) = some true := by first | (rw [hy307]; with_reducible exact H) | (have H2_ := (Option.bind_some _ _).symm.trans H; rw [hy307]; with_reducible exact H2_) | (have H2_ := (Option.bind_some _ _).symm.trans H; with_reducible exact H2_) | with_reducible exact H | (rw [hy307]; exact H) | exact H
           have Ny307 := Aside0.mk hy307
           clear hy307
           obtain ⟨y310, hy310⟩ : ∃ y_ : List (List Int), y_ = (([y307, x6_3] : List (List Int))) := ⟨_, rfl⟩
           replace H : ((letterboxlaw10_message.f (strOfNums y304) y310 ((Int.tmod x8_3 2) == 0)).bind fun t313 => (if x7_3.length < 17592186044416 then (letterboxlaw10_MimeDeep.l1 k3 l0 a1 t313 (x7_3 ++ [2]) (wrap64 (x8_3 + 1))) else (none))) = some true := by first | (rw [hy310]; with_reducible exact H) | (have H2_ := (Option.bind_some _ _).symm.trans H; rw [hy310]; with_reducible exact H2_) | (have H2_ := (Option.bind_some _ _).symm.trans H; with_reducible exact H2_) | with_reducible exact H | (rw [hy310]; exact H) | exact H
           have Ny310 := Aside0.mk hy310
           clear hy310
           replace H := Option.bind_eq_some_iff.mp H
           obtain ⟨t313, A160, H⟩ := H
           replace H : (if x7_3.length < 17592186044416 then (letterboxlaw10_MimeDeep.l1 k3 l0 a1 t313 (x7_3 ++ [2]) (wrap64 (x8_3 + 1))) else (none)) = some true := H
           have A16 := Aside0.mk A160
           clear A160
           by_cases c17 : x7_3.length < 17592186044416
           ·rw [if_pos c17] at H
            have LMc17 := Aside0.mk c17
            clear c17
            obtain ⟨y316, hy316⟩ : ∃ y_ : List Int, y_ = (x7_3 ++ [2]) := ⟨_, rfl⟩
            replace H : (letterboxlaw10_MimeDeep.l1 k3 l0 a1 t313 y316 (wrap64 (x8_3 + 1))) = some true := by first | (rw [hy316]; with_reducible exact H) | (have H2_ := (Option.bind_some _ _).symm.trans H; rw [hy316]; with_reducible exact H2_) | (have H2_ := (Option.bind_some _ _).symm.trans H; with_reducible exact H2_) | with_reducible exact H | (rw [hy316]; exact H) | exact H
            have Ny316 := Aside0.mk hy316
            clear hy316
            have H' := Aside0.mk H
            clear H
            go_wp2_with (first | ((with_reducible refine gate_dst (N := 53) rfl ?_); refine Kd.R_lit (Kd.int .u8) _ 5 ?hg (N := 53) ?hd (xs := ([(wrap64 (97 + x8_3)) % 256] : List Int)) (inner := [.int .u8 ((wrap64 (97 + x8_3)) % 256)]) (ok := fun _ => True) (okp := fun _ => True) ?hr ?hp (fun _ hk => hk) trivial (Below.refl _ _) (Nat.le_refl _) (by simp) ?_; (case hd => rfl); (case hg => rfl); (case hr => first | (go_simp; done) | (go_simp; rfl)); (case hp => exact (Reps.one (show Kd.M (Kd.int .u8) _ _ _ ((wrap64 (97 + x8_3)) % 256) [.int .u8 ((wrap64 (97 + x8_3)) % 256)] from rfl) (Reps.none _ _))); intro v305 w18 ho19 hb hg_ hnew_; clear hg_ hnew_; (first | rw [← Ny304.out] at ho19 | (simp only [Int.reduceToNat] at ho19; rw [← Ny304.out] at ho19)); have n0_ := Aside0.mk (Kd.V_elder' (by (with_reducible repeat (first | apply Kd.V_alloc | apply Kd.V_drewN | apply Kd.V_drew)); exact HO_6.out) (Kd.R_base ho19) hb); have n1_ := Aside0.mk (Kd.R_below (by (with_reducible repeat (first | apply Kd.R_alloc | apply Kd.R_drewN | apply Kd.R_drew)); exact HO_7.out) hb); have n2_ := Aside0.mk (Kd.R_lower ho19 (below_size (by repeat (first | (with_reducible first | exact HB.out | apply below_alloc | apply pw_below_drewN | apply below_drew1) | exact HB.out)))); have n3_ := Aside0.mk (below_step (by repeat (first | (with_reducible first | exact HB.out | apply below_alloc | apply pw_below_drewN | apply below_drew1) | exact HB.out)) hb); clear HO_6; clear HO_7; clear HB; have HO_6 := n0_; have HO_7 := n1_; have HO306 := n2_; have HB := n3_; clear n0_ n1_ n2_ n3_; clear hb ho19; (first | have hcv20 := own_string (P := Tryd.prog) Tryd.underlying22 Tryd.underlying5 Tryd.underlying9 (Kd.own_of_R HO306.out) | have hcv20 := V_string (P := Tryd.prog) Tryd.underlying22 Tryd.underlying5 Tryd.underlying9 HO306.out)) | ((with_reducible refine gate_dst  (N := 56) rfl ?_); refine litC_ [13, 10, 120] y307 Ny307.out (some 56) rfl rfl rfl rfl (by rw [Ny307.out]; rfl) (by rw [Ny307.out]; decide) ?_; intro w21 hG22 hb; have n0_ := Aside0.mk (Kd.V_below HO_6.out hb); have n1_ := Aside0.mk (Kd.R_below HO_7.out hb); have n2_ := Aside0.mk (Kd.R_below HO306.out hb); have n3_ := Aside0.mk (Kd.V_mono (ok' := (fun k_ => some k_ ≠ (u7 : Value).ownBlock ∧ some k_ ≠ (v305 : Value).ownBlock)) (G_Vb w.heap.size hG22) (fun k_ hk => ⟨Kd.fresh' (Kd.R_lt HO_7.out) k_ hk, Kd.fresh' (Kd.R_lt HO306.out) k_ hk⟩)); have n4_ := Aside0.mk (below_step HB.out hb); clear HO_6 HO_7 HO306 HB; have HO_6 := n0_; have HO_7 := n1_; have HO306 := n2_; have HO309 := n3_; have HB := n4_; clear n0_ n1_ n2_ n3_ n4_; clear hb hG22; obtain ⟨Ao24, co24, eo24⟩ := Kd.V_slice HO_6.out; subst eo24) | ((with_reducible refine gate_dst (N := 58) rfl ?_); refine Kd.N_lit (Kd.slice 5 (Kd.int .u8)) _ 22 ?hg (N' := 58) ?hd (xs := ([y307, x6_3] : List (List Int))) (inner := [.slice (some ⟨w18.heap.size, 0, none⟩) y307.length y307.length, .slice Ao24 x6_3.length co24]) (ok := (fun k_ => some k_ ≠ (u7 : Value).ownBlock ∧ some k_ ≠ (v305 : Value).ownBlock)) (okp := (fun k_ => some k_ ≠ (u7 : Value).ownBlock ∧ some k_ ≠ (v305 : Value).ownBlock)) ?hr ?hp (fun _ hk => hk) ((show ∀ k_, w21.heap.size ≤ k_ → (fun k_ => some k_ ≠ (u7 : Value).ownBlock ∧ some k_ ≠ (v305 : Value).ownBlock) k_ from fun k_ hk => ⟨Kd.fresh' (Kd.R_lt (by (with_reducible repeat (first | apply Kd.R_alloc | apply Kd.R_drewN | apply Kd.R_drew)); exact HO_7.out)) k_ hk, Kd.fresh' (Kd.R_lt (by (with_reducible repeat (first | apply Kd.R_alloc | apply Kd.R_drewN | apply Kd.R_drew)); exact HO306.out)) k_ hk⟩) _ (Nat.le_refl _)) (Below.refl _ _) (Nat.le_refl _) (by simp) ?_; (case hd => rfl); (case hg => rfl); (case hr => first | (go_simp; done) | (go_simp; rfl)); (case hp => exact (Reps.one (show Kd.FK (Kd.slice 5 (Kd.int .u8)) _ _ y307 [.slice (some ⟨w18.heap.size, 0, none⟩) y307.length y307.length] from (Kd.FK_slice_mk (Kd.V_reads' HO309.out).2.1 (Kd.V_F HO309.out))) (Reps.one (show Kd.FK (Kd.slice 5 (Kd.int .u8)) _ _ x6_3 [.slice Ao24 x6_3.length co24] from (Kd.FK_slice_mk (Kd.V_reads' (Kd.V_mono (ok' := (fun k_ => some k_ ≠ (u7 : Value).ownBlock ∧ some k_ ≠ (v305 : Value).ownBlock)) (HO_6.out) (fun k_ hk => ⟨hk.1, hk.2⟩))).2.1 (Kd.V_F (Kd.V_mono (ok' := (fun k_ => some k_ ≠ (u7 : Value).ownBlock ∧ some k_ ≠ (v305 : Value).ownBlock)) (HO_6.out) (fun k_ hk => ⟨hk.1, hk.2⟩))))) (Reps.none _ _)))); intro v311 w25 ho26 hb hg_ hnew_; clear hg_ hnew_; (first | rw [← Ny310.out] at ho26 | (simp only [Int.reduceToNat] at ho26; rw [← Ny310.out] at ho26)); have n0_ := Aside0.mk (Kd.V_elder' (by (with_reducible repeat (first | apply Kd.V_alloc | apply Kd.V_drewN | apply Kd.V_drew)); exact HO_6.out) (Kd.N_base ho26) hb); have n1_ := Aside0.mk (Kd.R_below (by (with_reducible repeat (first | apply Kd.R_alloc | apply Kd.R_drewN | apply Kd.R_drew)); exact HO_7.out) hb); have n2_ := Aside0.mk (Kd.R_below (by (with_reducible repeat (first | apply Kd.R_alloc | apply Kd.R_drewN | apply Kd.R_drew)); exact HO306.out) hb); have n3_ := Aside0.mk (Kd.N_lower ho26 (below_size (by repeat (first | (with_reducible first | exact HB.out | apply below_alloc | apply pw_below_drewN | apply below_drew1) | exact HB.out)))); have n4_ := Aside0.mk (below_step (by repeat (first | (with_reducible first | exact HB.out | apply below_alloc | apply pw_below_drewN | apply below_drew1) | exact HB.out)) hb); clear HO_6; clear HO_7; clear HO306; clear HB; clear HO309; have HO_6 := n0_; have HO_7 := n1_; have HO306 := n2_; have HO312 := n3_; have HB := n4_; clear n0_ n1_ n2_ n3_ n4_; clear hb ho26; obtain ⟨Ao27, co27, eo27⟩ := Kd.N_slice HO312.out; subst eo27) | ((with_reducible refine gate_callee (f := 8) rfl ?_); refine goesL_ (some 62) rfl rfl Tryd.func8 (by kernel_rfl) rfl #[.string (strOfNums y304), .slice Ao27 y310.length co27, .bool ((Int.tmod x8_3 2) == 0)] rfl (by (try simp only [List.map_toArray, List.map_cons, List.map_nil]); first | done | rfl | (simp only [List.length_drop, List.length_take]; rfl)) ?_; (with_reducible refine (letterboxlaw10_message.calls (strOfNums y304) _ _ y310 ((Int.tmod x8_3 2) == 0) t313 _ ?side1 ?side2 A16.out).mono ?_); (case side1 => repeat (first | exact (Kd.N_reads' HO312.out).2.2 | (with_reducible refine Kd.C_alloc ?_ _) | (with_reducible refine Kd.C_drewN ?_ _) | (with_reducible refine Kd.C_drew ?_))); (case side2 => exact (Kd.N_reads' HO312.out).2.1); rintro e w28 ⟨v314, rfl, ho0, hb⟩; refine ⟨_, rfl, ?_⟩; have n0_ := Aside0.mk (Kd.V_below (by (with_reducible repeat (first | apply Kd.V_alloc | apply Kd.V_drewN | apply Kd.V_drew)); exact HO_6.out) hb); have n1_ := Aside0.mk (Kd.R_below (by (with_reducible repeat (first | apply Kd.R_alloc | apply Kd.R_drewN | apply Kd.R_drew)); exact HO_7.out) hb); have n2_ := Aside0.mk (Kd.R_below (by (with_reducible repeat (first | apply Kd.R_alloc | apply Kd.R_drewN | apply Kd.R_drew)); exact HO306.out) hb); have n3_ := Aside0.mk (Kd.N_below (by (with_reducible repeat (first | apply Kd.N_alloc | apply Kd.N_drewN | apply Kd.N_drew)); exact HO312.out) hb); have n4_ := Aside0.mk (Kd.V_lower (Kd.V_mono (ok' := fun k_ => some k_ ≠ (u7 : Value).ownBlock ∧ some k_ ≠ (v305 : Value).ownBlock ∧ some k_ ≠ (.slice Ao27 y310.length co27 : Value).ownBlock) ho0 (fun k_ hk_ => ⟨(Kd.fresh' (Kd.R_lt (by (with_reducible repeat (first | apply Kd.R_alloc | apply Kd.R_drewN | apply Kd.R_drew)); exact HO_7.out)) k_ hk_), (Kd.fresh' (Kd.R_lt (by (with_reducible repeat (first | apply Kd.R_alloc | apply Kd.R_drewN | apply Kd.R_drew)); exact HO306.out)) k_ hk_), (Kd.fresh' (Kd.N_lt (by (with_reducible repeat (first | apply Kd.N_alloc | apply Kd.N_drewN | apply Kd.N_drew)); exact HO312.out)) k_ hk_)⟩)) (below_size (by repeat (first | (with_reducible first | exact HB.out | apply below_alloc | apply pw_below_drewN | apply below_drew1) | exact HB.out)))); have n5_ := Aside0.mk (below_step (by repeat (first | (with_reducible first | exact HB.out | apply below_alloc | apply pw_below_drewN | apply below_drew1) | exact HB.out)) hb); clear HO_6; clear HO_7; clear HO306; clear HO312; clear HB; have HO_6 := n0_; have HO_7 := n1_; have HO306 := n2_; have HO312 := n3_; have HO315 := n4_; have HB := n5_; clear n0_ n1_ n2_ n3_ n4_ n5_; (try clear hb); (try clear hb2); (try clear hk); (try clear hi); (try clear ho0)) | ((with_reducible refine gate_builtin (b := .append) (xs := #[.tmp 63, .tmp 64]) rfl ?_); at_builtin; refine Kd.R_append (Kd.int .i64) (w0 := w) w.heap.size rfl (.tmp 63) (.tmp 64) 23 3 (.int .i64 0) 8 rfl Tryd.underlying23 info3 rfl (by decide) (by omega) u7 x7_3 2 [.int .i64 2] (fun _ => True) (fun _ => False) rfl rfl ?aP (fun _ hk => hk.elim) ?aF ?aO ?aB ?aS ?aL ?_; (case aP => exact rfl); (case aB => exact (by repeat (first | (with_reducible first | exact HB.out | apply below_alloc | apply pw_below_drewN | apply below_drew1) | exact HB.out))); (case aF => exact (fun _ _ => trivial)); (case aO => exact (by (with_reducible repeat (first | apply Kd.R_alloc | apply Kd.R_drewN | apply Kd.R_drew)); exact HO_7.out)); (case aS => exact (below_size (by repeat (first | (with_reducible first | exact HB.out | apply below_alloc | apply pw_below_drewN | apply below_drew1) | exact HB.out)))); (case aL => have := LMc17.out; omega); intro v317 w29 ho hb hg hat; (first | rw [← Ny316.out] at ho | (simp only [Int.reduceToNat] at ho; rw [← Ny316.out] at ho)); have n0_ := Aside0.mk (Kd.V_afterv (ok := (fun k_ => some k_ ≠ (v305 : Value).ownBlock ∧ some k_ ≠ (.slice Ao27 y310.length co27 : Value).ownBlock)) (by (with_reducible repeat (first | apply Kd.V_alloc | apply Kd.V_drewN | apply Kd.V_drew)); exact Kd.V_mono HO_6.out (fun _ hk => ⟨⟨hk.1.2, hk.2⟩, hk.1.1⟩)) hg hat); have n1_ := Aside0.mk (Kd.R_over' (by (with_reducible repeat (first | apply Kd.R_alloc | apply Kd.R_drewN | apply Kd.R_drew)); exact HO306.out) (Kd.R_typed (by (with_reducible repeat (first | apply Kd.R_alloc | apply Kd.R_drewN | apply Kd.R_drew)); exact HO_7.out)) (by decide) hg); have n2_ := Aside0.mk (Kd.N_afterv (ok := (fun k_ => some k_ ≠ (v305 : Value).ownBlock)) (by (with_reducible repeat (first | apply Kd.N_alloc | apply Kd.N_drewN | apply Kd.N_drew)); exact Kd.N_mono HO312.out (fun _ hk => ⟨hk.2, hk.1⟩)) hg hat); have n3_ := Aside0.mk (Kd.V_afterv (ok := (fun k_ => some k_ ≠ (v305 : Value).ownBlock ∧ some k_ ≠ (.slice Ao27 y310.length co27 : Value).ownBlock)) (by (with_reducible repeat (first | apply Kd.V_alloc | apply Kd.V_drewN | apply Kd.V_drew)); exact Kd.V_mono HO315.out (fun _ hk => ⟨⟨hk.2.1, hk.2.2⟩, hk.1⟩)) hg hat); have n4_ := Aside0.mk (hb); have n5_ := Aside0.mk (ho); clear HO_6; clear HO306; clear HO312; clear HO315; clear HB; clear HO_7; have HO_6 := n0_; have HO306 := n1_; have HO312 := n2_; have HO315 := n3_; have HB := n4_; have HO318 := n5_; clear n0_ n1_ n2_ n3_ n4_ n5_; clear ho hb hg hat))
            go_roundg k3
            case measure => have := HJ2.out; have := HK2.out; have := HK3.out; omega
            case rel => exact ⟨(t313), (y316), (wrap64 (x8_3 + 1)), (by first | rfl | (simp; done) | (simp [*]; done)), H', ⟨by have := HJ2.out; have := HK2.out; have := HK3.out; omega⟩, ⟨by (with_reducible repeat (first | apply Kd.V_alloc | apply Kd.V_drewN | apply Kd.V_drew)); exact Kd.V_mono HO315.out (fun _ hk => hk.2)⟩, ⟨by (with_reducible repeat (first | apply Kd.R_alloc | apply Kd.R_drewN | apply Kd.R_drew)); exact HO318.out⟩, ⟨by repeat (first | (with_reducible first | exact HB.out | apply below_alloc | apply pw_below_drewN | apply below_drew1) | exact HB.out)⟩⟩
           ·rw [if_neg c17] at H
            exact absurd H (by simp)
          ·rw [if_neg c15] at H
           have c15b0 : decide (x8_3 < a1) = false := decide_eq_false c15
           clear c15
           replace H := Option.bind_eq_some_iff.mp H
           obtain ⟨⟨t319, t322⟩, A300, H⟩ := H
           replace H : ((some (([13, 10] : List Int) : List Int)).bind fun y323 => (if y323.length + l0.length < 140737488355328 then (if a1 > 4 then (if t322 = true then (some false) else ((letterboxlaw10_known.f k3).bind fun t329 => (some t329))) else (if t322 = true then (if (strOfNums t319).toList = (strOfNums (y323 ++ l0)).toList then ((mime_Count.f k3 x6_3).bind fun t330 => (if t330 = (wrap64 (a1 + 1)) then ((letterboxlaw10_known.f k3).bind fun t331 => (some t331)) else (some false))) else (some false)) else (some false))) else (none))) = some true := H
           have A30 := Aside0.mk A300
           clear A300
           obtain ⟨y323, hy323⟩ : ∃ y_ : List Int, y_ = (([13, 10] : List Int)) := ⟨_, rfl⟩
           replace H : (if y323.length + l0.length < 140737488355328 then (if a1 > 4 then (if t322 = true then (some false) else ((letterboxlaw10_known.f k3).bind fun t329 => (some t329))) else (if t322 = true then (if (strOfNums t319).toList = (strOfNums (y323 ++ l0)).toList then ((mime_Count.f k3 x6_3).bind fun t330 => (if t330 = (wrap64 (a1 + 1)) then ((letterboxlaw10_known.f k3).bind fun t331 => (some t331)) else (some false))) else (some false)) else (some false))) else (none)) = some true := by first | (rw [hy323]; with_reducible exact H) | (have H2_ := (Option.bind_some _ _).symm.trans H; rw [hy323]; with_reducible exact H2_) | (have H2_ := (Option.bind_some _ _).symm.trans H; with_reducible exact H2_) | with_reducible exact H | (rw [hy323]; exact H) | exact H
           have Ny323 := Aside0.mk hy323
           clear hy323
           by_cases c31 : y323.length + l0.length < 140737488355328
           ·rw [if_pos c31] at H
            have LMc31 := Aside0.mk c31
            clear c31
            obtain ⟨y326, hy326⟩ : ∃ y_ : List Int, y_ = (y323 ++ l0) := ⟨_, rfl⟩
            replace H : (if a1 > 4 then (if t322 = true then (some false) else ((letterboxlaw10_known.f k3).bind fun t329 => (some t329))) else (if t322 = true then (if (strOfNums t319).toList = (strOfNums y326).toList then ((mime_Count.f k3 x6_3).bind fun t330 => (if t330 = (wrap64 (a1 + 1)) then ((letterboxlaw10_known.f k3).bind fun t331 => (some t331)) else (some false))) else (some false)) else (some false))) = some true := by first | (rw [hy326]; with_reducible exact H) | (have H2_ := (Option.bind_some _ _).symm.trans H; rw [hy326]; with_reducible exact H2_) | (have H2_ := (Option.bind_some _ _).symm.trans H; with_reducible exact H2_) | with_reducible exact H | (rw [hy326]; exact H) | exact H
            have Ny326 := Aside0.mk hy326
            clear hy326
            by_cases c32 : a1 > 4
            ·rw [if_pos c32] at H
             have c32b0 : decide (4 < a1) = true := decide_eq_true c32
             clear c32
             by_cases c33 : t322 = true
             ·subst c33
              have H1 : (some false) = some true := by rw [if_pos rfl] at H; exact H
              clear H
              have H := H1
              clear H1
              exact absurd H (by repeat' first | exact NT.none | exact NT.false | refine NT.ite ?_ ?_ | refine NT.bind (fun _ => ?_))
             ·replace c33 := Bool.eq_false_iff.mpr c33
              subst c33
              have H1 : ((letterboxlaw10_known.f k3).bind fun t329 => (some t329)) = some true := by rw [if_neg (show ¬ (false = true) by decide)] at H; exact H
              clear H
              have H := H1
              clear H1
              replace H := Option.bind_eq_some_iff.mp H
              obtain ⟨t329, A340, H⟩ := H
              replace H : (some t329) = some true := H
              have A34 := Aside0.mk A340
              clear A340
              have Hr_ := Option.some.inj H
              obtain ⟨Ao35, co35, eo35⟩ := Kd.V_slice HO_6.out
              subst eo35
              obtain ⟨Ao36, co36, eo36⟩ := Kd.R_slice HO_7.out
              subst eo36
              go_wp2_with (first | ((with_reducible refine gate_callee (f := 9) rfl ?_); refine goesL_ (some 69) rfl rfl Tryd.func9 (by kernel_rfl) rfl #[.slice Ao35 x6_3.length co35, .slice Ao36 x7_3.length co36] rfl (by (try simp only [List.map_toArray, List.map_cons, List.map_nil]); first | done | rfl | (simp only [List.length_drop, List.length_take]; rfl)) ?_; (with_reducible refine (mime_Section.calls k3 (fun k_ => some k_ ≠ (.slice Ao36 x7_3.length co36 : Value).ownBlock) _ _ x6_3 _ _ x7_3 t319 false _ ?side1 ?side2 ?side3 A30.out).mono ?_); (case side1 => exact HO_6.out); (case side2 => repeat (first | exact (Kd.R_reads' HO_7.out).2.2 | (with_reducible refine Kd.C_alloc ?_ _) | (with_reducible refine Kd.C_drewN ?_ _) | (with_reducible refine Kd.C_drew ?_))); (case side3 => exact (Kd.R_reads' HO_7.out).2.1); rintro e w37 ⟨v320, rfl, ho0, hb⟩; refine ⟨_, rfl, ?_⟩; have n0_ := Aside0.mk (Kd.V_elder' (by (with_reducible repeat (first | apply Kd.V_alloc | apply Kd.V_drewN | apply Kd.V_drew)); exact HO_6.out) (Kd.R_base ho0) hb); have n1_ := Aside0.mk (Kd.R_below (by (with_reducible repeat (first | apply Kd.R_alloc | apply Kd.R_drewN | apply Kd.R_drew)); exact HO_7.out) hb); have n2_ := Aside0.mk (Kd.R_lower (Kd.R_mono (ok' := fun k_ => True) ho0 (fun _ hk_ => trivial)) (below_size (by repeat (first | (with_reducible first | exact HB.out | apply below_alloc | apply pw_below_drewN | apply below_drew1) | exact HB.out)))); have n3_ := Aside0.mk (below_step (by repeat (first | (with_reducible first | exact HB.out | apply below_alloc | apply pw_below_drewN | apply below_drew1) | exact HB.out)) hb); clear HO_6; clear HO_7; clear HB; have HO_6 := n0_; have HO_7 := n1_; have HO321 := n2_; have HB := n3_; clear n0_ n1_ n2_ n3_; (try clear hb); (try clear hb2); (try clear hk); (try clear hi); (try clear ho0)) | ((with_reducible refine gate_dst  (N := 73) rfl ?_); refine litC_ [13, 10] y323 Ny323.out (some 73) rfl rfl rfl rfl (by rw [Ny323.out]; rfl) (by rw [Ny323.out]; decide) ?_; intro w38 hG hb; have HO325 := Aside0.mk hG; have HBl := Aside0.mk hb; clear hb hG) | ((with_reducible refine gate_dst (N := 75) rfl ?_); refine appG_ (some 75) rfl rfl rfl (xs := y323) (ys := l0) rfl rfl w37.heap.size HBl.out.size HO325.out (Kd.C_below HR0.out (below_step HB.out HBl.out)) HC0.out (by have := LMc31.out; omega) ?_; intro v327 w40 hG hb; rw [← Ny326.out] at hG; replace hb := HBl.out.trans hb; have n0_ := Aside0.mk (Kd.V_below HO_6.out hb); have n1_ := Aside0.mk (Kd.R_below HO_7.out hb); have n2_ := Aside0.mk (Kd.R_below HO321.out hb); have n3_ := Aside0.mk (below_step HB.out hb); have n4_ := Aside0.mk (G_Vb w.heap.size hG); clear HO_6 HO_7 HO321 HB HO325 HBl; have HO_6 := n0_; have HO_7 := n1_; have HO321 := n2_; have HB := n3_; have HO328 := n4_; clear n0_ n1_ n2_ n3_ n4_; clear hG hb) | (go_at_call 10; (with_reducible refine (letterboxlaw10_known.calls k3  t329 _ A34.out).mono ?_); rintro e w41 ⟨rfl, hb⟩; have n0_ := Aside0.mk (Kd.V_below (by (with_reducible repeat (first | apply Kd.V_alloc | apply Kd.V_drewN | apply Kd.V_drew)); exact HO_6.out) hb); have n1_ := Aside0.mk (Kd.R_below (by (with_reducible repeat (first | apply Kd.R_alloc | apply Kd.R_drewN | apply Kd.R_drew)); exact HO_7.out) hb); have n2_ := Aside0.mk (Kd.R_below (by (with_reducible repeat (first | apply Kd.R_alloc | apply Kd.R_drewN | apply Kd.R_drew)); exact HO321.out) hb); have n3_ := Aside0.mk (Kd.V_below HO328.out hb); have n4_ := Aside0.mk (below_step (by repeat (first | (with_reducible first | exact HB.out | apply below_alloc | apply pw_below_drewN | apply below_drew1) | exact HB.out)) hb); clear HO_6; clear HO_7; clear HO321; clear HO328; clear HB; have HO_6 := n0_; have HO_7 := n1_; have HO321 := n2_; have HO328 := n3_; have HB := n4_; clear n0_ n1_ n2_ n3_ n4_; (try clear hb); (try clear hb2); (try clear hk); (try clear hi)))
              go_ret
              exact ⟨by first | (rw [Hr_]; done) | rfl | (simp [errW_none, errW_some] <;> rfl) | (simp [*, errW_none, errW_some] <;> rfl), by repeat (first | (with_reducible first | exact HB.out | apply below_alloc | apply pw_below_drewN | apply below_drew1) | exact HB.out)⟩
            ·rw [if_neg c32] at H
             have c32b0 : decide (4 < a1) = false := decide_eq_false c32
             clear c32
             by_cases c42 : t322 = true
             ·subst c42
              have H1 : (if (strOfNums t319).toList = (strOfNums y326).toList then ((mime_Count.f k3 x6_3).bind fun t330 => (if t330 = (wrap64 (a1 + 1)) then ((letterboxlaw10_known.f k3).bind fun t331 => (some t331)) else (some false))) else (some false)) = some true := by rw [if_pos rfl] at H; exact H
              clear H
              have H := H1
              clear H1
              by_cases c43 : (strOfNums t319).toList = (strOfNums y326).toList
              ·rw [if_pos c43] at H
               have c43b0 : ((strOfNums t319).toList == (strOfNums y326).toList) = true := beq_iff_eq.mpr c43
               have c43b1 : ((strOfNums t319).toList != (strOfNums y326).toList) = false := bne_eq_false_iff_eq.mpr c43
               clear c43
               replace H := Option.bind_eq_some_iff.mp H
               obtain ⟨t330, A440, H⟩ := H
               replace H : (if t330 = (wrap64 (a1 + 1)) then ((letterboxlaw10_known.f k3).bind fun t331 => (some t331)) else (some false)) = some true := H
               have A44 := Aside0.mk A440
               clear A440
               by_cases c45 : t330 = (wrap64 (a1 + 1))
               ·rw [if_pos c45] at H
                have c45b0 : (t330 == (wrap64 (a1 + 1))) = true := beq_iff_eq.mpr c45
                have c45b1 : (t330 != (wrap64 (a1 + 1))) = false := bne_eq_false_iff_eq.mpr c45
                clear c45
                replace H := Option.bind_eq_some_iff.mp H
                obtain ⟨t331, A460, H⟩ := H
                replace H : (some t331) = some true := H
                have A46 := Aside0.mk A460
                clear A460
                have Hr_ := Option.some.inj H
                obtain ⟨Ao47, co47, eo47⟩ := Kd.V_slice HO_6.out
                subst eo47
                obtain ⟨Ao48, co48, eo48⟩ := Kd.R_slice HO_7.out
                subst eo48
                go_wp2_with (first | ((with_reducible refine gate_callee (f := 9) rfl ?_); refine goesL_ (some 69) rfl rfl Tryd.func9 (by kernel_rfl) rfl #[.slice Ao47 x6_3.length co47, .slice Ao48 x7_3.length co48] rfl (by (try simp only [List.map_toArray, List.map_cons, List.map_nil]); first | done | rfl | (simp only [List.length_drop, List.length_take]; rfl)) ?_; (with_reducible refine (mime_Section.calls k3 (fun k_ => some k_ ≠ (.slice Ao48 x7_3.length co48 : Value).ownBlock) _ _ x6_3 _ _ x7_3 t319 true _ ?side1 ?side2 ?side3 A30.out).mono ?_); (case side1 => exact HO_6.out); (case side2 => repeat (first | exact (Kd.R_reads' HO_7.out).2.2 | (with_reducible refine Kd.C_alloc ?_ _) | (with_reducible refine Kd.C_drewN ?_ _) | (with_reducible refine Kd.C_drew ?_))); (case side3 => exact (Kd.R_reads' HO_7.out).2.1); rintro e w49 ⟨v320, rfl, ho0, hb⟩; refine ⟨_, rfl, ?_⟩; have n0_ := Aside0.mk (Kd.V_elder' (by (with_reducible repeat (first | apply Kd.V_alloc | apply Kd.V_drewN | apply Kd.V_drew)); exact HO_6.out) (Kd.R_base ho0) hb); have n1_ := Aside0.mk (Kd.R_below (by (with_reducible repeat (first | apply Kd.R_alloc | apply Kd.R_drewN | apply Kd.R_drew)); exact HO_7.out) hb); have n2_ := Aside0.mk (Kd.R_lower (Kd.R_mono (ok' := fun k_ => True) ho0 (fun _ hk_ => trivial)) (below_size (by repeat (first | (with_reducible first | exact HB.out | apply below_alloc | apply pw_below_drewN | apply below_drew1) | exact HB.out)))); have n3_ := Aside0.mk (below_step (by repeat (first | (with_reducible first | exact HB.out | apply below_alloc | apply pw_below_drewN | apply below_drew1) | exact HB.out)) hb); clear HO_6; clear HO_7; clear HB; have HO_6 := n0_; have HO_7 := n1_; have HO321 := n2_; have HB := n3_; clear n0_ n1_ n2_ n3_; (try clear hb); (try clear hb2); (try clear hk); (try clear hi); (try clear ho0)) | ((with_reducible refine gate_dst  (N := 73) rfl ?_); refine litC_ [13, 10] y323 Ny323.out (some 73) rfl rfl rfl rfl (by rw [Ny323.out]; rfl) (by rw [Ny323.out]; decide) ?_; intro w50 hG hb; have HO325 := Aside0.mk hG; have HBl := Aside0.mk hb; clear hb hG) | ((with_reducible refine gate_dst (N := 75) rfl ?_); refine appG_ (some 75) rfl rfl rfl (xs := y323) (ys := l0) rfl rfl w49.heap.size HBl.out.size HO325.out (Kd.C_below HR0.out (below_step HB.out HBl.out)) HC0.out (by have := LMc31.out; omega) ?_; intro v327 w52 hG hb; rw [← Ny326.out] at hG; replace hb := HBl.out.trans hb; have n0_ := Aside0.mk (Kd.V_below HO_6.out hb); have n1_ := Aside0.mk (Kd.R_below HO_7.out hb); have n2_ := Aside0.mk (Kd.R_below HO321.out hb); have n3_ := Aside0.mk (below_step HB.out hb); have n4_ := Aside0.mk (G_Vb w.heap.size hG); clear HO_6 HO_7 HO321 HB HO325 HBl; have HO_6 := n0_; have HO_7 := n1_; have HO321 := n2_; have HB := n3_; have HO328 := n4_; clear n0_ n1_ n2_ n3_ n4_; clear hG hb; (first | have hcv53 := own_string (P := Tryd.prog) Tryd.underlying22 Tryd.underlying5 Tryd.underlying9 (Kd.own_of_R HO321.out) | have hcv53 := V_string (P := Tryd.prog) Tryd.underlying22 Tryd.underlying5 Tryd.underlying9 HO321.out); (first | have hcv54 := own_string (P := Tryd.prog) Tryd.underlying22 Tryd.underlying5 Tryd.underlying9 (Kd.own_of_R HO328.out) | have hcv54 := V_string (P := Tryd.prog) Tryd.underlying22 Tryd.underlying5 Tryd.underlying9 HO328.out)) | (go_at_call 11; (with_reducible refine (mime_Count.calls k3 _ _ x6_3 t330 _ ?side1 ?side2 A44.out).mono ?_); (case side1 => repeat (first | exact (Kd.V_reads' HO_6.out).2.2 | (with_reducible refine Kd.C_alloc ?_ _) | (with_reducible refine Kd.C_drewN ?_ _) | (with_reducible refine Kd.C_drew ?_))); (case side2 => exact (Kd.V_reads' HO_6.out).2.1); rintro e w55 ⟨rfl, hb⟩; have n0_ := Aside0.mk (Kd.V_below (by (with_reducible repeat (first | apply Kd.V_alloc | apply Kd.V_drewN | apply Kd.V_drew)); exact HO_6.out) hb); have n1_ := Aside0.mk (Kd.R_below (by (with_reducible repeat (first | apply Kd.R_alloc | apply Kd.R_drewN | apply Kd.R_drew)); exact HO_7.out) hb); have n2_ := Aside0.mk (Kd.R_below (by (with_reducible repeat (first | apply Kd.R_alloc | apply Kd.R_drewN | apply Kd.R_drew)); exact HO321.out) hb); have n3_ := Aside0.mk (Kd.V_below HO328.out hb); have n4_ := Aside0.mk (below_step (by repeat (first | (with_reducible first | exact HB.out | apply below_alloc | apply pw_below_drewN | apply below_drew1) | exact HB.out)) hb); clear HO_6; clear HO_7; clear HO321; clear HO328; clear HB; have HO_6 := n0_; have HO_7 := n1_; have HO321 := n2_; have HO328 := n3_; have HB := n4_; clear n0_ n1_ n2_ n3_ n4_; (try clear hb); (try clear hb2); (try clear hk); (try clear hi)) | (go_at_call 10; (with_reducible refine (letterboxlaw10_known.calls k3  t331 _ A46.out).mono ?_); rintro e w56 ⟨rfl, hb⟩; have n0_ := Aside0.mk (Kd.V_below (by (with_reducible repeat (first | apply Kd.V_alloc | apply Kd.V_drewN | apply Kd.V_drew)); exact HO_6.out) hb); have n1_ := Aside0.mk (Kd.R_below (by (with_reducible repeat (first | apply Kd.R_alloc | apply Kd.R_drewN | apply Kd.R_drew)); exact HO_7.out) hb); have n2_ := Aside0.mk (Kd.R_below (by (with_reducible repeat (first | apply Kd.R_alloc | apply Kd.R_drewN | apply Kd.R_drew)); exact HO321.out) hb); have n3_ := Aside0.mk (Kd.V_below HO328.out hb); have n4_ := Aside0.mk (below_step (by repeat (first | (with_reducible first | exact HB.out | apply below_alloc | apply pw_below_drewN | apply below_drew1) | exact HB.out)) hb); clear HO_6; clear HO_7; clear HO321; clear HO328; clear HB; have HO_6 := n0_; have HO_7 := n1_; have HO321 := n2_; have HO328 := n3_; have HB := n4_; clear n0_ n1_ n2_ n3_ n4_; (try clear hb); (try clear hb2); (try clear hk); (try clear hi)))
                go_ret
                exact ⟨by first | (rw [Hr_]; done) | rfl | (simp [errW_none, errW_some] <;> rfl) | (simp [*, errW_none, errW_some] <;> rfl), by repeat (first | (with_reducible first | exact HB.out | apply below_alloc | apply pw_below_drewN | apply below_drew1) | exact HB.out)⟩
               ·rw [if_neg c45] at H
                have c45b0 : (t330 == (wrap64 (a1 + 1))) = false := beq_eq_false_iff_ne.mpr c45
                have c45b1 : (t330 != (wrap64 (a1 + 1))) = true := bne_iff_ne.mpr c45
                exact absurd H (by repeat' first | exact NT.none | exact NT.false | refine NT.ite ?_ ?_ | refine NT.bind (fun _ => ?_))
              ·rw [if_neg c43] at H
               have c43b0 : ((strOfNums t319).toList == (strOfNums y326).toList) = false := beq_eq_false_iff_ne.mpr c43
               have c43b1 : ((strOfNums t319).toList != (strOfNums y326).toList) = true := bne_iff_ne.mpr c43
               exact absurd H (by repeat' first | exact NT.none | exact NT.false | refine NT.ite ?_ ?_ | refine NT.bind (fun _ => ?_))
             ·replace c42 := Bool.eq_false_iff.mpr c42
              subst c42
              have H1 : (some false) = some true := by rw [if_neg (show ¬ (false = true) by decide)] at H; exact H
              clear H
              have H := H1
              clear H1
              exact absurd H (by repeat' first | exact NT.none | exact NT.false | refine NT.ite ?_ ?_ | refine NT.bind (fun _ => ?_))
           ·rw [if_neg c31] at H
            exact absurd H (by simp)
       ·rw [if_neg c11] at H
        exact absurd H (by simp)

end Go.Proofs.YtilgmheilepkgaaDoor.P
