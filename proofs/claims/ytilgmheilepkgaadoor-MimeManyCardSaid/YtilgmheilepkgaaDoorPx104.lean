/- The walks of the seat's functions, one contract a function: printed by a program of this session's (wip/gen). Not trusted: Lean checks it. -/
import Derived.Test.YtilgmheilepkgaaDoorPx1
import Derived.Test.YtilgmheilepkgaaDoorPx3
import Derived.Test.YtilgmheilepkgaaDoorPx110
import Derived.Test.YtilgmheilepkgaaDoorGRow
namespace Go.Proofs.YtilgmheilepkgaaDoor.P
open Go.RowKit Go.Proofs.YtilgmheilepkgaaDoorW.PrintWords Go.Proofs.YtilgmheilepkgaaDoorW.PrintLast Go.Proofs.YtilgmheilepkgaaDoorW.PrintMore
attribute [local go_sem] max2_int min2_int max_two min_two max_three min_three max_four min_four   -- for this text's walks alone
set_option linter.unusedVariables false
set_option linter.unusedSimpArgs false

/-! ### letterboxlaw10_MimeMany: function 4 -/
mutual
def letterboxlaw10_MimeMany.j0 : Nat → Int → Bool → Option (Bool)
  | 0, _, _ => none
  | k + 1, x0, x12 => if x12 = true then ((letterboxlaw10_known.f k).bind fun t316 => (some t316)) else (letterboxlaw10_MimeMany.l0 k x0 (([67, 111, 110, 116, 101, 110, 116, 45, 84, 121, 112, 101, 58, 32, 109, 117, 108, 116, 105, 112, 97, 114, 116, 47, 120, 59, 32, 98, 111, 117, 110, 100, 97, 114, 121, 61, 113, 13, 10, 13, 10] : List Int)) 0)
def letterboxlaw10_MimeMany.l0 : Nat → Int → List Int → Int → Option (Bool)
  | 0, _, _, _ => none
  | k + 1, x0, x3, x4 => if x4 < x0 then ((some (([45, 45, 113, 13, 10, 120, 13, 10] : List Int) : List Int)).bind fun y320 => (if x3.length + y320.length < 140737488355328 then (letterboxlaw10_MimeMany.l0 k x0 (x3 ++ y320) (wrap64 (x4 + 1))) else (none))) else ((mime_Parts.f k x3).bind fun t326 => (if (t326.length : Int) = (mn x0 16) then (letterboxlaw10_MimeMany.l1 k x0 t326 0) else (some false)))
def letterboxlaw10_MimeMany.l1 : Nat → Int → List (S34) → Int → Option (Bool)
  | 0, _, _, _ => none
  | k + 1, x0, x5, x6 => if x6 < (x5.length : Int) then (letterboxlaw10_MimeMany.j3 k x0 x5 x6 (decide (x0 ≤ 16))) else (letterboxlaw10_MimeMany.j3 k x0 x5 x6 false)
def letterboxlaw10_MimeMany.j3 : Nat → Int → List (S34) → Int → Bool → Option (Bool)
  | 0, _, _, _, _ => none
  | k + 1, x0, x5, x6, x39 => if x39 = true then (if 0 ≤ x6 then (if x6 < (x5.length : Int) then (if (wrap64 (((rd_T34 x5 x6).f1) - ((rd_T34 x5 x6).f0))) = 1 then (letterboxlaw10_MimeMany.l1 k x0 x5 (wrap64 (x6 + 1))) else (some false)) else (none)) else (none)) else ((letterboxlaw10_known.f k).bind fun t331 => (some t331))
end
def letterboxlaw10_MimeMany.f (k : Nat) (a0 : Int) : Option (Bool) := if a0 < 0 then (letterboxlaw10_MimeMany.j0 k a0 true) else (letterboxlaw10_MimeMany.j0 k a0 (decide (a0 > 20)))
theorem letterboxlaw10_MimeMany.mono_l : ∀ k, (∀ y0 y1, LeO (letterboxlaw10_MimeMany.j0 k y0 y1) (letterboxlaw10_MimeMany.j0 (k + 1) y0 y1)) ∧ (∀ y0 y1 y2, LeO (letterboxlaw10_MimeMany.l0 k y0 y1 y2) (letterboxlaw10_MimeMany.l0 (k + 1) y0 y1 y2)) ∧ (∀ y0 y1 y2, LeO (letterboxlaw10_MimeMany.l1 k y0 y1 y2) (letterboxlaw10_MimeMany.l1 (k + 1) y0 y1 y2)) ∧ (∀ y0 y1 y2 y3, LeO (letterboxlaw10_MimeMany.j3 k y0 y1 y2 y3) (letterboxlaw10_MimeMany.j3 (k + 1) y0 y1 y2 y3))
  | 0 => ⟨fun _ _ r h => by simp [letterboxlaw10_MimeMany.j0] at h, fun _ _ _ r h => by simp [letterboxlaw10_MimeMany.l0] at h, fun _ _ _ r h => by simp [letterboxlaw10_MimeMany.l1] at h, fun _ _ _ _ r h => by simp [letterboxlaw10_MimeMany.j3] at h⟩
  | k + 1 => by
    obtain ⟨ih0, ih1, ih2, ih3⟩ := letterboxlaw10_MimeMany.mono_l k
    refine ⟨?_, ?_, ?_, ?_⟩
    · intro y0 y1
      unfold letterboxlaw10_MimeMany.j0
      repeat' first
      | (with_reducible exact ih0 _ _)
      | (with_reducible exact ih1 _ _ _)
      | (with_reducible exact ih2 _ _ _)
      | (with_reducible exact ih3 _ _ _ _)
      | (with_reducible exact letterboxlaw10_known.mono _)
      | (with_reducible exact mime_Parts.mono _ _)
      | (with_reducible exact LeO.refl _)
      | (with_reducible exact LeO.none _)
      | (with_reducible refine LeO.ite ?_ ?_)
      | (with_reducible refine LeO.bind ?_ (fun _ => ?_))
      | exact ih0 _ _
      | exact ih1 _ _ _
      | exact ih2 _ _ _
      | exact ih3 _ _ _ _
      | exact letterboxlaw10_known.mono _
      | exact mime_Parts.mono _ _
      | exact LeO.none _
      | refine LeO.ite ?_ ?_
      | refine LeO.bind ?_ (fun _ => ?_)
    · intro y0 y1 y2
      unfold letterboxlaw10_MimeMany.l0
      repeat' first
      | (with_reducible exact ih0 _ _)
      | (with_reducible exact ih1 _ _ _)
      | (with_reducible exact ih2 _ _ _)
      | (with_reducible exact ih3 _ _ _ _)
      | (with_reducible exact letterboxlaw10_known.mono _)
      | (with_reducible exact mime_Parts.mono _ _)
      | (with_reducible exact LeO.refl _)
      | (with_reducible exact LeO.none _)
      | (with_reducible refine LeO.ite ?_ ?_)
      | (with_reducible refine LeO.bind ?_ (fun _ => ?_))
      | exact ih0 _ _
      | exact ih1 _ _ _
      | exact ih2 _ _ _
      | exact ih3 _ _ _ _
      | exact letterboxlaw10_known.mono _
      | exact mime_Parts.mono _ _
      | exact LeO.none _
      | refine LeO.ite ?_ ?_
      | refine LeO.bind ?_ (fun _ => ?_)
    · intro y0 y1 y2
      unfold letterboxlaw10_MimeMany.l1
      repeat' first
      | (with_reducible exact ih0 _ _)
      | (with_reducible exact ih1 _ _ _)
      | (with_reducible exact ih2 _ _ _)
      | (with_reducible exact ih3 _ _ _ _)
      | (with_reducible exact letterboxlaw10_known.mono _)
      | (with_reducible exact mime_Parts.mono _ _)
      | (with_reducible exact LeO.refl _)
      | (with_reducible exact LeO.none _)
      | (with_reducible refine LeO.ite ?_ ?_)
      | (with_reducible refine LeO.bind ?_ (fun _ => ?_))
      | exact ih0 _ _
      | exact ih1 _ _ _
      | exact ih2 _ _ _
      | exact ih3 _ _ _ _
      | exact letterboxlaw10_known.mono _
      | exact mime_Parts.mono _ _
      | exact LeO.none _
      | refine LeO.ite ?_ ?_
      | refine LeO.bind ?_ (fun _ => ?_)
    · intro y0 y1 y2 y3
      unfold letterboxlaw10_MimeMany.j3
      repeat' first
      | (with_reducible exact ih0 _ _)
      | (with_reducible exact ih1 _ _ _)
      | (with_reducible exact ih2 _ _ _)
      | (with_reducible exact ih3 _ _ _ _)
      | (with_reducible exact letterboxlaw10_known.mono _)
      | (with_reducible exact mime_Parts.mono _ _)
      | (with_reducible exact LeO.refl _)
      | (with_reducible exact LeO.none _)
      | (with_reducible refine LeO.ite ?_ ?_)
      | (with_reducible refine LeO.bind ?_ (fun _ => ?_))
      | exact ih0 _ _
      | exact ih1 _ _ _
      | exact ih2 _ _ _
      | exact ih3 _ _ _ _
      | exact letterboxlaw10_known.mono _
      | exact mime_Parts.mono _ _
      | exact LeO.none _
      | refine LeO.ite ?_ ?_
      | refine LeO.bind ?_ (fun _ => ?_)
theorem letterboxlaw10_MimeMany.mono : ∀ a0 k, LeO (letterboxlaw10_MimeMany.f k a0) (letterboxlaw10_MimeMany.f (k + 1) a0) := by
  intro a0 k
  obtain ⟨ih0, ih1, ih2, ih3⟩ := letterboxlaw10_MimeMany.mono_l k
  unfold letterboxlaw10_MimeMany.f
  repeat' first
      | (with_reducible exact ih0 _ _)
      | (with_reducible exact ih1 _ _ _)
      | (with_reducible exact ih2 _ _ _)
      | (with_reducible exact ih3 _ _ _ _)
      | (with_reducible exact letterboxlaw10_known.mono _)
      | (with_reducible exact mime_Parts.mono _ _)
      | (with_reducible exact LeO.refl _)
      | (with_reducible exact LeO.none _)
      | (with_reducible refine LeO.ite ?_ ?_)
      | (with_reducible refine LeO.bind ?_ (fun _ => ?_))
      | exact ih0 _ _
      | exact ih1 _ _ _
      | exact ih2 _ _ _
      | exact ih3 _ _ _ _
      | exact letterboxlaw10_known.mono _
      | exact mime_Parts.mono _ _
      | exact LeO.none _
      | refine LeO.ite ?_ ?_
      | refine LeO.bind ?_ (fun _ => ?_)
set_option maxHeartbeats 8000000 in
set_option maxRecDepth 100000 in
theorem letterboxlaw10_MimeMany.calls (k : Nat) (a0 : Int) (w : World) (h : letterboxlaw10_MimeMany.f k a0 = some true) :
    Calls Tryd.prog 4 #[.int .i64 a0] w fun e w' => e = .returned (.bool true) ∧ Below w.heap.size w w' := by
  have HB := Aside0.mk (Below.refl w.heap.size w)
  have H : (if a0 < 0 then (letterboxlaw10_MimeMany.j0 k a0 true) else (letterboxlaw10_MimeMany.j0 k a0 (decide (a0 > 20)))) = some true := h
  clear h
  have HC2 := Aside0.mk H
  clear H
  go_enter Tryd.func4, Tryd.ntmps4
  go_upto_region 1 with (fail)
  repeat (go_quiet (fail); go_upto_region 1 with (fail))
  go_cut [12] (fun v12 wc => ∃ (kq : Nat) (x12_1 : Bool), v12 = .bool x12_1 ∧ Aside0 (letterboxlaw10_MimeMany.j0 kq a0 x12_1 = some true) ∧ Aside0 (kq ≤ k) ∧ Aside0 (Below w.heap.size w wc))
  case first =>
    have H := HC2.out
    clear HC2
    by_cases c3 : a0 < 0
    · rw [if_pos c3] at H
      have c3b0 : decide (a0 < 0) = true := decide_eq_true c3
      clear c3
      (first | rw [c3b0] | (simp only [i64_w, i32_w]; rw [c3b0]) | skip)
      have H' := Aside0.mk H
      clear H
      go_wp2
      repeat (go_quiet (fail); try go_wp2)
      go_meet
      case rel => exact ⟨_, (true), (by first | rfl | (simp; done) | (simp [*]; done)), H', ⟨by first | omega | exact Nat.le_refl _⟩, ⟨by repeat (first | (with_reducible first | exact HB.out | apply below_alloc | apply pw_below_drewN | apply below_drew1) | exact HB.out)⟩⟩
    · rw [if_neg c3] at H
      have c3b0 : decide (a0 < 0) = false := decide_eq_false c3
      clear c3
      (first | rw [c3b0] | (simp only [i64_w, i32_w]; rw [c3b0]) | skip)
      have H' := Aside0.mk H
      clear H
      go_wp2
      repeat (go_quiet (fail); try go_wp2)
      go_meet
      case rel => exact ⟨_, (decide (a0 > 20)), (by first | rfl | (simp; done) | (simp [*]; done)), H', ⟨by first | omega | exact Nat.le_refl _⟩, ⟨by repeat (first | (with_reducible first | exact HB.out | apply below_alloc | apply pw_below_drewN | apply below_drew1) | exact HB.out)⟩⟩
  case rest =>
    clear HC2
    try clear p2
    try clear c3
    try clear c3b0
    obtain ⟨kq, x12_1, rfl, HA, HJ1, HB⟩ := hcut
    cases kq with
    | zero => exact absurd HA.out (by simp [letterboxlaw10_MimeMany.j0])
    | succ kj1 =>
      have H := HA.out
      clear HA
      simp only [letterboxlaw10_MimeMany.j0] at H
      by_cases c4 : x12_1 = true
      · subst c4
        have H1 : ((letterboxlaw10_known.f kj1).bind fun t316 => (some t316)) = some true := by rw [if_pos rfl] at H; exact H
        clear H
        have H := H1
        clear H1
        replace H := Option.bind_eq_some_iff.mp H
        obtain ⟨t316, A50, H⟩ := H
        replace H : (some t316) = some true := H
        have A5 := Aside0.mk A50
        clear A50
        have Hr_ := Option.some.inj H
        go_wp2_with (first | (go_at_call 10; (with_reducible refine (letterboxlaw10_known.calls kj1  t316 _ A5.out).mono ?_); rintro e w6 ⟨rfl, hb⟩; have n0_ := Aside0.mk (below_step (by repeat (first | (with_reducible first | exact HB.out | apply below_alloc | apply pw_below_drewN | apply below_drew1) | exact HB.out)) hb); clear HB; have HB := n0_; clear n0_; (try clear hb); (try clear hb2); (try clear hk); (try clear hi)))
        repeat (go_quiet (first | (go_at_call 10; (with_reducible refine (letterboxlaw10_known.calls kj1  t316 _ A5.out).mono ?_); rintro e w6 ⟨rfl, hb⟩; have n0_ := Aside0.mk (below_step (by repeat (first | (with_reducible first | exact HB.out | apply below_alloc | apply pw_below_drewN | apply below_drew1) | exact HB.out)) hb); clear HB; have HB := n0_; clear n0_; (try clear hb); (try clear hb2); (try clear hk); (try clear hi))); try go_wp2_with (first | (go_at_call 10; (with_reducible refine (letterboxlaw10_known.calls kj1  t316 _ A5.out).mono ?_); rintro e w6 ⟨rfl, hb⟩; have n0_ := Aside0.mk (below_step (by repeat (first | (with_reducible first | exact HB.out | apply below_alloc | apply pw_below_drewN | apply below_drew1) | exact HB.out)) hb); clear HB; have HB := n0_; clear n0_; (try clear hb); (try clear hb2); (try clear hk); (try clear hi))))
        go_ret
        exact ⟨by first | (rw [Hr_]; done) | rfl | (simp [errW_none, errW_some] <;> rfl) | (simp [*, errW_none, errW_some] <;> rfl), by repeat (first | (with_reducible first | exact HB.out | apply below_alloc | apply pw_below_drewN | apply below_drew1) | exact HB.out)⟩
      · replace c4 := Bool.eq_false_iff.mpr c4
        subst c4
        have H1 : (letterboxlaw10_MimeMany.l0 kj1 a0 (([67, 111, 110, 116, 101, 110, 116, 45, 84, 121, 112, 101, 58, 32, 109, 117, 108, 116, 105, 112, 97, 114, 116, 47, 120, 59, 32, 98, 111, 117, 110, 100, 97, 114, 121, 61, 113, 13, 10, 13, 10] : List Int)) 0) = some true := by rw [if_neg (show ¬ (false = true) by decide)] at H; exact H
        clear H
        have H := H1
        clear H1
        obtain ⟨y317, hy317⟩ : ∃ y_ : List Int, y_ = (([67, 111, 110, 116, 101, 110, 116, 45, 84, 121, 112, 101, 58, 32, 109, 117, 108, 116, 105, 112, 97, 114, 116, 47, 120, 59, 32, 98, 111, 117, 110, 100, 97, 114, 121, 61, 113, 13, 10, 13, 10] : List Int)) := ⟨_, rfl⟩
        replace H : (letterboxlaw10_MimeMany.l0 kj1 a0 y317 0) = some true := by first | (rw [hy317]; with_reducible exact H) | (have H2_ := (Option.bind_some _ _).symm.trans H; rw [hy317]; with_reducible exact H2_) | (have H2_ := (Option.bind_some _ _).symm.trans H; with_reducible exact H2_) | with_reducible exact H | (rw [hy317]; exact H) | exact H
        have Ny317 := Aside0.mk hy317
        clear hy317
        have H' := Aside0.mk H
        clear H
        go_wp2_with (first | ((with_reducible refine gate_dst  (N := 15) rfl ?_); refine litC_ [67, 111, 110, 116, 101, 110, 116, 45, 84, 121, 112, 101, 58, 32, 109, 117, 108, 116, 105, 112, 97, 114, 116, 47, 120, 59, 32, 98, 111, 117, 110, 100, 97, 114, 121, 61, 113, 13, 10, 13, 10] y317 Ny317.out (some 15) rfl rfl rfl rfl (by rw [Ny317.out]; rfl) (by rw [Ny317.out]; decide) ?_; intro w7 hG8 hb; have n0_ := Aside0.mk (G_lower hG8 HB.out.size); have n1_ := Aside0.mk (below_step HB.out hb); clear HB; have HO319 := n0_; have HB := n1_; clear n0_ n1_; clear hb hG8))
        repeat (go_quiet (first | ((with_reducible refine gate_dst  (N := 15) rfl ?_); refine litC_ [67, 111, 110, 116, 101, 110, 116, 45, 84, 121, 112, 101, 58, 32, 109, 117, 108, 116, 105, 112, 97, 114, 116, 47, 120, 59, 32, 98, 111, 117, 110, 100, 97, 114, 121, 61, 113, 13, 10, 13, 10] y317 Ny317.out (some 15) rfl rfl rfl rfl (by rw [Ny317.out]; rfl) (by rw [Ny317.out]; decide) ?_; intro w7 hG8 hb; have n0_ := Aside0.mk (G_lower hG8 HB.out.size); have n1_ := Aside0.mk (below_step HB.out hb); clear HB; have HO319 := n0_; have HB := n1_; clear n0_ n1_; clear hb hG8)); try go_wp2_with (first | ((with_reducible refine gate_dst  (N := 15) rfl ?_); refine litC_ [67, 111, 110, 116, 101, 110, 116, 45, 84, 121, 112, 101, 58, 32, 109, 117, 108, 116, 105, 112, 97, 114, 116, 47, 120, 59, 32, 98, 111, 117, 110, 100, 97, 114, 121, 61, 113, 13, 10, 13, 10] y317 Ny317.out (some 15) rfl rfl rfl rfl (by rw [Ny317.out]; rfl) (by rw [Ny317.out]; decide) ?_; intro w7 hG8 hb; have n0_ := Aside0.mk (G_lower hG8 HB.out.size); have n1_ := Aside0.mk (below_step HB.out hb); clear HB; have HO319 := n0_; have HB := n1_; clear n0_ n1_; clear hb hG8)))
        go_loopg [3, 4] kj1 (fun kq v3 v4 w' => ∃ (x3_2 : List Int) (x4_2 : Int), v4 = .int .i64 x4_2 ∧ Aside0 (letterboxlaw10_MimeMany.l0 kq a0 x3_2 x4_2 = some true) ∧ Aside0 (kq ≤ kj1) ∧ Aside0 (GRow w' w.heap.size v3 x3_2) ∧ Aside0 (Below w.heap.size w w'))
        case atStart => exact ⟨(y317), (0), (by first | rfl | (simp; done) | (simp [*]; done)), H', ⟨Nat.le_refl _⟩, ⟨HO319.out⟩, ⟨by repeat (first | (with_reducible first | exact HB.out | apply below_alloc | apply pw_below_drewN | apply below_drew1) | exact HB.out)⟩⟩
        case round =>
          clear H'
          try clear p2
          try clear c3
          try clear c3b0
          try clear c4
          try clear p2
          obtain ⟨x3_2, x4_2, rfl, HA, HK2, HO_3, HB⟩ := hrel
          cases gk with
          | zero => exact absurd HA.out (by simp [letterboxlaw10_MimeMany.l0])
          | succ k2 =>
            have H := HA.out
            clear HA
            simp only [letterboxlaw10_MimeMany.l0] at H
            by_cases c9 : x4_2 < a0
            · rw [if_pos c9] at H
              have c9b0 : decide (x4_2 < a0) = true := decide_eq_true c9
              clear c9
              obtain ⟨y320, hy320⟩ : ∃ y_ : List Int, y_ = (([45, 45, 113, 13, 10, 120, 13, 10] : List Int)) := ⟨_, rfl⟩
              replace H : (if x3_2.length + y320.length < 140737488355328 then (letterboxlaw10_MimeMany.l0 k2 a0 (x3_2 ++ y320) (wrap64 (x4_2 + 1))) else (none)) = some true := by first | (rw [hy320]; with_reducible exact H) | (have H2_ := (Option.bind_some _ _).symm.trans H; rw [hy320]; with_reducible exact H2_) | (have H2_ := (Option.bind_some _ _).symm.trans H; with_reducible exact H2_) | with_reducible exact H | (rw [hy320]; exact H) | exact H
              have Ny320 := Aside0.mk hy320
              clear hy320
              by_cases c10 : x3_2.length + y320.length < 140737488355328
              · rw [if_pos c10] at H
                have LMc10 := Aside0.mk c10
                clear c10
                obtain ⟨y323, hy323⟩ : ∃ y_ : List Int, y_ = (x3_2 ++ y320) := ⟨_, rfl⟩
                replace H : (letterboxlaw10_MimeMany.l0 k2 a0 y323 (wrap64 (x4_2 + 1))) = some true := by first | (rw [hy323]; with_reducible exact H) | (have H2_ := (Option.bind_some _ _).symm.trans H; rw [hy323]; with_reducible exact H2_) | (have H2_ := (Option.bind_some _ _).symm.trans H; with_reducible exact H2_) | with_reducible exact H | (rw [hy323]; exact H) | exact H
                have Ny323 := Aside0.mk hy323
                clear hy323
                have H' := Aside0.mk H
                clear H
                go_wp2_with (first | ((with_reducible refine gate_dst  (N := 23) rfl ?_); refine litC_ [45, 45, 113, 13, 10, 120, 13, 10] y320 Ny320.out (some 23) rfl rfl rfl rfl (by rw [Ny320.out]; rfl) (by rw [Ny320.out]; decide) ?_; intro w11 hG12 hb; have n0_ := Aside0.mk (G_below HO_3.out hb); have n1_ := Aside0.mk (G_lower hG12 HB.out.size); have n2_ := Aside0.mk (below_step HB.out hb); clear HO_3; clear HB; have HO_3 := n0_; have HO322 := n1_; have HB := n2_; clear n0_ n1_ n2_; clear hb hG12) | ((with_reducible refine gate_dst (N := 24) rfl ?_); refine appG_ (some 24) rfl rfl rfl (xs := x3_2) (ys := y320) rfl rfl w.heap.size HB.out.size HO_3.out (G_C HO322.out).1 (G_C HO322.out).2 (by have := LMc10.out; omega) ?_; intro v324 w13 hG hb; rw [← Ny323.out] at hG; have n1_ := Aside0.mk (HB.out.trans hb); have n2_ := Aside0.mk hG; clear HO322; clear HB; clear HO_3; have HB := n1_; have HO325 := n2_; clear n1_ n2_; clear hG hb))
                repeat (go_quiet (first | ((with_reducible refine gate_dst  (N := 23) rfl ?_); refine litC_ [45, 45, 113, 13, 10, 120, 13, 10] y320 Ny320.out (some 23) rfl rfl rfl rfl (by rw [Ny320.out]; rfl) (by rw [Ny320.out]; decide) ?_; intro w11 hG12 hb; have n0_ := Aside0.mk (G_below HO_3.out hb); have n1_ := Aside0.mk (G_lower hG12 HB.out.size); have n2_ := Aside0.mk (below_step HB.out hb); clear HO_3; clear HB; have HO_3 := n0_; have HO322 := n1_; have HB := n2_; clear n0_ n1_ n2_; clear hb hG12) | ((with_reducible refine gate_dst (N := 24) rfl ?_); refine appG_ (some 24) rfl rfl rfl (xs := x3_2) (ys := y320) rfl rfl w.heap.size HB.out.size HO_3.out (G_C HO322.out).1 (G_C HO322.out).2 (by have := LMc10.out; omega) ?_; intro v324 w13 hG hb; rw [← Ny323.out] at hG; have n1_ := Aside0.mk (HB.out.trans hb); have n2_ := Aside0.mk hG; clear HO322; clear HB; clear HO_3; have HB := n1_; have HO325 := n2_; clear n1_ n2_; clear hG hb)); try go_wp2_with (first | ((with_reducible refine gate_dst  (N := 23) rfl ?_); refine litC_ [45, 45, 113, 13, 10, 120, 13, 10] y320 Ny320.out (some 23) rfl rfl rfl rfl (by rw [Ny320.out]; rfl) (by rw [Ny320.out]; decide) ?_; intro w11 hG12 hb; have n0_ := Aside0.mk (G_below HO_3.out hb); have n1_ := Aside0.mk (G_lower hG12 HB.out.size); have n2_ := Aside0.mk (below_step HB.out hb); clear HO_3; clear HB; have HO_3 := n0_; have HO322 := n1_; have HB := n2_; clear n0_ n1_ n2_; clear hb hG12) | ((with_reducible refine gate_dst (N := 24) rfl ?_); refine appG_ (some 24) rfl rfl rfl (xs := x3_2) (ys := y320) rfl rfl w.heap.size HB.out.size HO_3.out (G_C HO322.out).1 (G_C HO322.out).2 (by have := LMc10.out; omega) ?_; intro v324 w13 hG hb; rw [← Ny323.out] at hG; have n1_ := Aside0.mk (HB.out.trans hb); have n2_ := Aside0.mk hG; clear HO322; clear HB; clear HO_3; have HB := n1_; have HO325 := n2_; clear n1_ n2_; clear hG hb)))
                go_roundg k2
                case measure => have := HJ1.out; have := HK2.out; omega
                case rel => exact ⟨(y323), (wrap64 (x4_2 + 1)), (by first | rfl | (simp; done) | (simp [*]; done)), H', ⟨by have := HJ1.out; have := HK2.out; omega⟩, ⟨HO325.out⟩, ⟨by repeat (first | (with_reducible first | exact HB.out | apply below_alloc | apply pw_below_drewN | apply below_drew1) | exact HB.out)⟩⟩
              · rw [if_neg c10] at H
                exact absurd H (by simp)
            · rw [if_neg c9] at H
              have c9b0 : decide (x4_2 < a0) = false := decide_eq_false c9
              clear c9
              replace H := Option.bind_eq_some_iff.mp H
              obtain ⟨t326, A150, H⟩ := H
              replace H : (if (t326.length : Int) = (mn a0 16) then (letterboxlaw10_MimeMany.l1 k2 a0 t326 0) else (some false)) = some true := H
              have A15 := Aside0.mk A150
              clear A150
              obtain ⟨ji16, hji16⟩ : ∃ j_ : Int, (mn a0 16) = j_ := ⟨_, rfl⟩
              replace H : (if (t326.length : Int) = (ji16) then (letterboxlaw10_MimeMany.l1 k2 a0 t326 0) else (some false)) = some true := by first | (rw [hji16] at H; exact H) | (simp only [hji16] at H ⊢; exact H)
              (try rw [hji16] at A15)
              have hji16_ : (if 16 < a0 then 16 else a0) = ji16 := hji16
              by_cases c17 : (t326.length : Int) = (ji16)
              · rw [if_pos c17] at H
                have c17b0 : ((t326.length : Int) == (ji16)) = true := beq_iff_eq.mpr c17
                have c17b1 : ((t326.length : Int) != (ji16)) = false := bne_eq_false_iff_eq.mpr c17
                clear c17
                have H' := Aside0.mk H
                clear H
                obtain ⟨Ao18, co18, eo18⟩ := G_slice HO_3.out
                subst eo18
                go_wp2_with (first | (go_at_call 12; (with_reducible refine (mime_Parts.calls k2 (fun k_ => w.heap.size ≤ k_) _ _ x3_2 t326 _ ?side1 A15.out).mono ?_); (case side1 => exact G_Vb _ HO_3.out); rintro e w19 ⟨v327, rfl, ho0, hb⟩; have n0_ := Aside0.mk (G_below HO_3.out hb); have n1_ := Aside0.mk (Kd.R_lower (Kd.R_mono (ok' := fun k_ => True) ho0 (fun _ hk_ => trivial)) (below_size (by repeat (first | (with_reducible first | exact HB.out | apply below_alloc | apply pw_below_drewN | apply below_drew1) | exact HB.out)))); have n2_ := Aside0.mk (below_step (by repeat (first | (with_reducible first | exact HB.out | apply below_alloc | apply pw_below_drewN | apply below_drew1) | exact HB.out)) hb); clear HO_3; clear HB; have HO_3 := n0_; have HO328 := n1_; have HB := n2_; clear n0_ n1_ n2_; (try clear hb); (try clear hb2); (try clear hk); (try clear hi); (try clear ho0); obtain ⟨Ao20, co20, eo20⟩ := Kd.R_slice HO328.out; subst eo20))
                repeat (go_quiet (first | (go_at_call 12; (with_reducible refine (mime_Parts.calls k2 (fun k_ => w.heap.size ≤ k_) _ _ x3_2 t326 _ ?side1 A15.out).mono ?_); (case side1 => exact G_Vb _ HO_3.out); rintro e w19 ⟨v327, rfl, ho0, hb⟩; have n0_ := Aside0.mk (G_below HO_3.out hb); have n1_ := Aside0.mk (Kd.R_lower (Kd.R_mono (ok' := fun k_ => True) ho0 (fun _ hk_ => trivial)) (below_size (by repeat (first | (with_reducible first | exact HB.out | apply below_alloc | apply pw_below_drewN | apply below_drew1) | exact HB.out)))); have n2_ := Aside0.mk (below_step (by repeat (first | (with_reducible first | exact HB.out | apply below_alloc | apply pw_below_drewN | apply below_drew1) | exact HB.out)) hb); clear HO_3; clear HB; have HO_3 := n0_; have HO328 := n1_; have HB := n2_; clear n0_ n1_ n2_; (try clear hb); (try clear hb2); (try clear hk); (try clear hi); (try clear ho0); obtain ⟨Ao20, co20, eo20⟩ := Kd.R_slice HO328.out; subst eo20)); try go_wp2_with (first | (go_at_call 12; (with_reducible refine (mime_Parts.calls k2 (fun k_ => w.heap.size ≤ k_) _ _ x3_2 t326 _ ?side1 A15.out).mono ?_); (case side1 => exact G_Vb _ HO_3.out); rintro e w19 ⟨v327, rfl, ho0, hb⟩; have n0_ := Aside0.mk (G_below HO_3.out hb); have n1_ := Aside0.mk (Kd.R_lower (Kd.R_mono (ok' := fun k_ => True) ho0 (fun _ hk_ => trivial)) (below_size (by repeat (first | (with_reducible first | exact HB.out | apply below_alloc | apply pw_below_drewN | apply below_drew1) | exact HB.out)))); have n2_ := Aside0.mk (below_step (by repeat (first | (with_reducible first | exact HB.out | apply below_alloc | apply pw_below_drewN | apply below_drew1) | exact HB.out)) hb); clear HO_3; clear HB; have HO_3 := n0_; have HO328 := n1_; have HB := n2_; clear n0_ n1_ n2_; (try clear hb); (try clear hb2); (try clear hk); (try clear hi); (try clear ho0); obtain ⟨Ao20, co20, eo20⟩ := Kd.R_slice HO328.out; subst eo20)))
                go_loopg [6] k2 (fun kq v6 w' => ∃ (x6_3 : Int), v6 = .int .i64 x6_3 ∧ Aside0 (letterboxlaw10_MimeMany.l1 kq a0 t326 x6_3 = some true) ∧ Aside0 (kq ≤ k2) ∧ Aside0 (Kd.R k34 34 w' w.heap.size (fun _ => True) (.slice Ao20 t326.length co20) t326) ∧ Aside0 (Below w.heap.size w w'))
                case atStart => exact ⟨(0), (by first | rfl | (simp; done) | (simp [*]; done)), H', ⟨Nat.le_refl _⟩, ⟨by (with_reducible repeat (first | apply Kd.R_alloc | apply Kd.R_drewN | apply Kd.R_drew)); exact HO328.out⟩, ⟨by repeat (first | (with_reducible first | exact HB.out | apply below_alloc | apply pw_below_drewN | apply below_drew1) | exact HB.out)⟩⟩
                case round =>
                  clear H'
                  try clear c1
                  try clear p2
                  try clear c3
                  try clear c3b0
                  try clear c4
                  try clear p6
                  try clear c9
                  try clear c9b0
                  try clear c10
                  try clear c17
                  try clear c17b0
                  try clear c17b1
                  try clear p2
                  obtain ⟨x6_3, rfl, HA, HK3, HO_5, HB⟩ := hrel
                  cases gk with
                  | zero => exact absurd HA.out (by simp [letterboxlaw10_MimeMany.l1])
                  | succ k3 =>
                    have H := HA.out
                    clear HA
                    simp only [letterboxlaw10_MimeMany.l1] at H
                    have HC21 := Aside0.mk H
                    clear H
                    go_upto_region 12 with (fail)
                    repeat (go_quiet (fail); go_upto_region 12 with (fail))
                    go_cut [39] (fun v39 wc => ∃ (kq : Nat) (x39_20 : Bool), v39 = .bool x39_20 ∧ Aside0 (letterboxlaw10_MimeMany.j3 kq a0 t326 x6_3 x39_20 = some true) ∧ Aside0 (kq ≤ k3) ∧ Aside0 (Kd.R k34 34 wc w.heap.size (fun _ => True) (.slice Ao20 t326.length co20) t326) ∧ Aside0 (Below w.heap.size w wc))
                    case first =>
                      have H := HC21.out
                      clear HC21
                      by_cases c22 : x6_3 < (t326.length : Int)
                      · rw [if_pos c22] at H
                        have c22b0 : decide (x6_3 < (t326.length : Int)) = true := decide_eq_true c22
                        clear c22
                        (first | rw [c22b0] | (simp only [i64_w, i32_w]; rw [c22b0]) | skip)
                        have H' := Aside0.mk H
                        clear H
                        go_wp2
                        repeat (go_quiet (fail); try go_wp2)
                        go_meet
                        case rel => exact ⟨_, (decide (a0 ≤ 16)), (by first | rfl | (simp; done) | (simp [*]; done)), H', ⟨by have := HJ1.out; have := HK2.out; have := HK3.out; first | omega | exact Nat.le_refl _⟩, ⟨by (with_reducible repeat (first | apply Kd.R_alloc | apply Kd.R_drewN | apply Kd.R_drew)); exact HO_5.out⟩, ⟨by repeat (first | (with_reducible first | exact HB.out | apply below_alloc | apply pw_below_drewN | apply below_drew1) | exact HB.out)⟩⟩
                      · rw [if_neg c22] at H
                        have c22b0 : decide (x6_3 < (t326.length : Int)) = false := decide_eq_false c22
                        clear c22
                        (first | rw [c22b0] | (simp only [i64_w, i32_w]; rw [c22b0]) | skip)
                        have H' := Aside0.mk H
                        clear H
                        go_wp2
                        repeat (go_quiet (fail); try go_wp2)
                        go_meet
                        case rel => exact ⟨_, (false), (by first | rfl | (simp; done) | (simp [*]; done)), H', ⟨by have := HJ1.out; have := HK2.out; have := HK3.out; first | omega | exact Nat.le_refl _⟩, ⟨by (with_reducible repeat (first | apply Kd.R_alloc | apply Kd.R_drewN | apply Kd.R_drew)); exact HO_5.out⟩, ⟨by repeat (first | (with_reducible first | exact HB.out | apply below_alloc | apply pw_below_drewN | apply below_drew1) | exact HB.out)⟩⟩
                    case rest =>
                      clear HC21
                      try clear c1
                      try clear c2
                      try clear p2
                      try clear c3
                      try clear c3b0
                      try clear c4
                      try clear p6
                      try clear c9
                      try clear c9b0
                      try clear c10
                      try clear c17
                      try clear c17b0
                      try clear c17b1
                      try clear c22
                      try clear c22b0
                      try clear p2
                      try clear p6
                      obtain ⟨kq, x39_20, rfl, HA, HJ20, HO_5, HB⟩ := hcut
                      cases kq with
                      | zero => exact absurd HA.out (by simp [letterboxlaw10_MimeMany.j3])
                      | succ kj20 =>
                        have H := HA.out
                        clear HA
                        simp only [letterboxlaw10_MimeMany.j3] at H
                        by_cases c23 : x39_20 = true
                        · subst c23
                          have H1 : (if 0 ≤ x6_3 then (if x6_3 < (t326.length : Int) then (if (wrap64 (((rd_T34 t326 x6_3).f1) - ((rd_T34 t326 x6_3).f0))) = 1 then (letterboxlaw10_MimeMany.l1 kj20 a0 t326 (wrap64 (x6_3 + 1))) else (some false)) else (none)) else (none)) = some true := by rw [if_pos rfl] at H; exact H
                          clear H
                          have H := H1
                          clear H1
                          by_cases c24 : 0 ≤ x6_3
                          · rw [if_pos c24] at H
                            have c24b0 : decide (0 ≤ x6_3) = true := decide_eq_true c24
                            clear c24
                            by_cases c25 : x6_3 < (t326.length : Int)
                            · rw [if_pos c25] at H
                              have c25b0 : decide (x6_3 < (t326.length : Int)) = true := decide_eq_true c25
                              clear c25
                              by_cases c26 : (wrap64 (((rd_T34 t326 x6_3).f1) - ((rd_T34 t326 x6_3).f0))) = 1
                              · rw [if_pos c26] at H
                                have c26b0 : ((wrap64 (((rd_T34 t326 x6_3).f1) - ((rd_T34 t326 x6_3).f0))) == 1) = true := beq_iff_eq.mpr c26
                                have c26b1 : ((wrap64 (((rd_T34 t326 x6_3).f1) - ((rd_T34 t326 x6_3).f0))) != 1) = false := bne_eq_false_iff_eq.mpr c26
                                clear c26
                                have H' := Aside0.mk H
                                clear H
                                have p329 : 0 ≤ (x6_3 : Int) := of_decide_eq_true (by first | (with_reducible assumption) | assumption)
                                have q329 : x6_3 < (t326.length : Int) := of_decide_eq_true (by first | (with_reducible assumption) | assumption)
                                obtain ⟨ad329, e329, hx329_0, hx329_1⟩ := at_T34 (Kd.R_reads' HO_5.out).2.2 x6_3 p329 q329
                                cases e329
                                replace p329 := eq_true p329
                                replace q329 := eq_true q329
                                have p330 : 0 ≤ (x6_3 : Int) := of_decide_eq_true (by first | (with_reducible assumption) | assumption)
                                have q330 : x6_3 < (t326.length : Int) := of_decide_eq_true (by first | (with_reducible assumption) | assumption)
                                obtain ⟨ad330, e330, hx330_0, hx330_1⟩ := at_T34 (Kd.R_reads' HO_5.out).2.2 x6_3 p330 q330
                                obtain rfl : ad329 = ad330 := (by injection e330)
                                replace p330 := eq_true p330
                                replace q330 := eq_true q330
                                go_wp2
                                repeat (go_quiet (fail); try go_wp2)
                                go_roundg kj20
                                case measure => have := HJ1.out; have := HK2.out; have := HK3.out; have := HJ20.out; omega
                                case rel => exact ⟨(wrap64 (x6_3 + 1)), (by first | rfl | (simp; done) | (simp [*]; done)), H', ⟨by have := HJ1.out; have := HK2.out; have := HK3.out; have := HJ20.out; omega⟩, ⟨by (with_reducible repeat (first | apply Kd.R_alloc | apply Kd.R_drewN | apply Kd.R_drew)); exact HO_5.out⟩, ⟨by repeat (first | (with_reducible first | exact HB.out | apply below_alloc | apply pw_below_drewN | apply below_drew1) | exact HB.out)⟩⟩
                              · rw [if_neg c26] at H
                                have c26b0 : ((wrap64 (((rd_T34 t326 x6_3).f1) - ((rd_T34 t326 x6_3).f0))) == 1) = false := beq_eq_false_iff_ne.mpr c26
                                have c26b1 : ((wrap64 (((rd_T34 t326 x6_3).f1) - ((rd_T34 t326 x6_3).f0))) != 1) = true := bne_iff_ne.mpr c26
                                exact absurd H (by repeat' first | exact NT.none | exact NT.false | refine NT.ite ?_ ?_ | refine NT.bind (fun _ => ?_))
                            · rw [if_neg c25] at H
                              exact absurd H (by simp)
                          · rw [if_neg c24] at H
                            exact absurd H (by simp)
                        · replace c23 := Bool.eq_false_iff.mpr c23
                          subst c23
                          have H1 : ((letterboxlaw10_known.f kj20).bind fun t331 => (some t331)) = some true := by rw [if_neg (show ¬ (false = true) by decide)] at H; exact H
                          clear H
                          have H := H1
                          clear H1
                          replace H := Option.bind_eq_some_iff.mp H
                          obtain ⟨t331, A270, H⟩ := H
                          replace H : (some t331) = some true := H
                          have A27 := Aside0.mk A270
                          clear A270
                          have Hr_ := Option.some.inj H
                          go_wp2_with (first | (go_at_call 10; (with_reducible refine (letterboxlaw10_known.calls kj20  t331 _ A27.out).mono ?_); rintro e w28 ⟨rfl, hb⟩; have n0_ := Aside0.mk (Kd.R_below (by (with_reducible repeat (first | apply Kd.R_alloc | apply Kd.R_drewN | apply Kd.R_drew)); exact HO_5.out) hb); have n1_ := Aside0.mk (below_step (by repeat (first | (with_reducible first | exact HB.out | apply below_alloc | apply pw_below_drewN | apply below_drew1) | exact HB.out)) hb); clear HO_5; clear HB; have HO_5 := n0_; have HB := n1_; clear n0_ n1_; (try clear hb); (try clear hb2); (try clear hk); (try clear hi)))
                          repeat (go_quiet (first | (go_at_call 10; (with_reducible refine (letterboxlaw10_known.calls kj20  t331 _ A27.out).mono ?_); rintro e w28 ⟨rfl, hb⟩; have n0_ := Aside0.mk (Kd.R_below (by (with_reducible repeat (first | apply Kd.R_alloc | apply Kd.R_drewN | apply Kd.R_drew)); exact HO_5.out) hb); have n1_ := Aside0.mk (below_step (by repeat (first | (with_reducible first | exact HB.out | apply below_alloc | apply pw_below_drewN | apply below_drew1) | exact HB.out)) hb); clear HO_5; clear HB; have HO_5 := n0_; have HB := n1_; clear n0_ n1_; (try clear hb); (try clear hb2); (try clear hk); (try clear hi))); try go_wp2_with (first | (go_at_call 10; (with_reducible refine (letterboxlaw10_known.calls kj20  t331 _ A27.out).mono ?_); rintro e w28 ⟨rfl, hb⟩; have n0_ := Aside0.mk (Kd.R_below (by (with_reducible repeat (first | apply Kd.R_alloc | apply Kd.R_drewN | apply Kd.R_drew)); exact HO_5.out) hb); have n1_ := Aside0.mk (below_step (by repeat (first | (with_reducible first | exact HB.out | apply below_alloc | apply pw_below_drewN | apply below_drew1) | exact HB.out)) hb); clear HO_5; clear HB; have HO_5 := n0_; have HB := n1_; clear n0_ n1_; (try clear hb); (try clear hb2); (try clear hk); (try clear hi))))
                          go_ret
                          exact ⟨by first | (rw [Hr_]; done) | rfl | (simp [errW_none, errW_some] <;> rfl) | (simp only [← hji16]; first | rfl | (simp [errW_none, errW_some] <;> rfl)) | (simp [*, errW_none, errW_some] <;> rfl), by repeat (first | (with_reducible first | exact HB.out | apply below_alloc | apply pw_below_drewN | apply below_drew1) | exact HB.out)⟩
              · rw [if_neg c17] at H
                have c17b0 : ((t326.length : Int) == (ji16)) = false := beq_eq_false_iff_ne.mpr c17
                have c17b1 : ((t326.length : Int) != (ji16)) = true := bne_iff_ne.mpr c17
                exact absurd H (by repeat' first | exact NT.none | exact NT.false | refine NT.ite ?_ ?_ | refine NT.bind (fun _ => ?_))

end Go.Proofs.YtilgmheilepkgaaDoor.P
