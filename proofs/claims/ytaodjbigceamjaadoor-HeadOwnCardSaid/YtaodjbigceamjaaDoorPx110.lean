/- The walks of the seat's functions, one contract a function: printed by a program of this session's (wip/gen). Not trusted: Lean checks it. -/
import Derived.Test.YtaodjbigceamjaaDoorPx1
import Derived.Test.YtaodjbigceamjaaDoorPx5
import Derived.Test.YtaodjbigceamjaaDoorPx6
import Derived.Test.YtaodjbigceamjaaDoorPx127
namespace Go.Proofs.YtaodjbigceamjaaDoor.P
open Go.RowKit Go.Proofs.YtaodjbigceamjaaDoorW.PrintWords Go.Proofs.YtaodjbigceamjaaDoorW.PrintLast Go.Proofs.YtaodjbigceamjaaDoorW.PrintMore
attribute [local go_sem] max2_int min2_int max_two min_two max_three min_three max_four min_four   -- for this text's walks alone
set_option linter.unusedVariables false
set_option linter.unusedSimpArgs false

/-! ### letterboxlaw9_HeadOwn: function 10 -/
mutual
def letterboxlaw9_HeadOwn.j0 : Nat → List Int → Bool → Option (Bool)
  | 0, _, _ => none
  | k + 1, x0, x20 => if x20 = true then (some true) else ((head_Head.f k x0).bind fun t473 => ((head_Body.f k x0).bind fun t476 => ((head_Top.f k x0 3).bind fun t479 => ((head_Split.f k x0).bind fun t482 => (letterboxlaw9_HeadOwn.l0 k x0 (strOfNums x0) t473 t476 t479 t482 0)))))
def letterboxlaw9_HeadOwn.l0 : Nat → List Int → ByteArray → List Int → List Int → List Int → List (List Int) → Int → Option (Bool)
  | 0, _, _, _, _, _, _, _ => none
  | k + 1, x0, x3, x4, x5, x6, x7, x8 => if x8 < (x4.length : Int) then (if 0 ≤ x8 then (letterboxlaw9_HeadOwn.l0 k x0 x3 (x4.set (x8 : Int).toNat (Go.bits .xor .u8 (rd x4 x8) 1)) x5 x6 x7 (wrap64 (x8 + 1))) else (none)) else (letterboxlaw9_HeadOwn.l1 k x0 x3 x4 x5 x6 x7 0)
def letterboxlaw9_HeadOwn.l1 : Nat → List Int → ByteArray → List Int → List Int → List Int → List (List Int) → Int → Option (Bool)
  | 0, _, _, _, _, _, _, _ => none
  | k + 1, x0, x3, x4, x5, x6, x7, x9 => if x9 < (x5.length : Int) then (if 0 ≤ x9 then (letterboxlaw9_HeadOwn.l1 k x0 x3 x4 (x5.set (x9 : Int).toNat (Go.bits .xor .u8 (rd x5 x9) 1)) x6 x7 (wrap64 (x9 + 1))) else (none)) else (letterboxlaw9_HeadOwn.l2 k x0 x3 x4 x5 x6 x7 0)
def letterboxlaw9_HeadOwn.l2 : Nat → List Int → ByteArray → List Int → List Int → List Int → List (List Int) → Int → Option (Bool)
  | 0, _, _, _, _, _, _, _ => none
  | k + 1, x0, x3, x4, x5, x6, x7, x10 => if x10 < (x6.length : Int) then (if 0 ≤ x10 then (letterboxlaw9_HeadOwn.l2 k x0 x3 x4 x5 (x6.set (x10 : Int).toNat (Go.bits .xor .u8 (rd x6 x10) 1)) x7 (wrap64 (x10 + 1))) else (none)) else (letterboxlaw9_HeadOwn.l3 k x0 x3 x4 x5 x7 0)
def letterboxlaw9_HeadOwn.l3 : Nat → List Int → ByteArray → List Int → List Int → List (List Int) → Int → Option (Bool)
  | 0, _, _, _, _, _, _ => none
  | k + 1, x0, x3, x4, x5, x7, x11 => if x11 < (x7.length : Int) then (letterboxlaw9_HeadOwn.l4 k x0 x3 x4 x5 x7 x11 0) else (if (strOfNums x0).toList = x3.toList then (if (wrap64 ((x4.length : Int) + (x5.length : Int))) = (x0.length : Int) then ((letterboxlaw9_known.f k).bind fun t491 => (some t491)) else (some false)) else (some false))
def letterboxlaw9_HeadOwn.l4 : Nat → List Int → ByteArray → List Int → List Int → List (List Int) → Int → Int → Option (Bool)
  | 0, _, _, _, _, _, _, _ => none
  | k + 1, x0, x3, x4, x5, x7, x11, x12 => if 0 ≤ x11 then (if x11 < (x7.length : Int) then (if x12 < ((rd_L1 x7 x11).length : Int) then (if 0 ≤ x12 then (letterboxlaw9_HeadOwn.l4 k x0 x3 x4 x5 (x7.set (x11 : Int).toNat ((rd_L1 x7 x11).set (x12 : Int).toNat (Go.bits .xor .u8 (rd (rd_L1 x7 x11) x12) 1))) x11 (wrap64 (x12 + 1))) else (none)) else (letterboxlaw9_HeadOwn.l3 k x0 x3 x4 x5 x7 (wrap64 (x11 + 1)))) else (none)) else (none)
end
def letterboxlaw9_HeadOwn.f (k : Nat) (l0 : List Int) : Option (Bool) := if (l0.length : Int) < 1 then (letterboxlaw9_HeadOwn.j0 k l0 true) else (letterboxlaw9_HeadOwn.j0 k l0 (decide ((l0.length : Int) > 1500)))
theorem letterboxlaw9_HeadOwn.mono_l : ∀ k, (∀ y0 y1, LeO (letterboxlaw9_HeadOwn.j0 k y0 y1) (letterboxlaw9_HeadOwn.j0 (k + 1) y0 y1)) ∧ (∀ y0 y1 y2 y3 y4 y5 y6, LeO (letterboxlaw9_HeadOwn.l0 k y0 y1 y2 y3 y4 y5 y6) (letterboxlaw9_HeadOwn.l0 (k + 1) y0 y1 y2 y3 y4 y5 y6)) ∧ (∀ y0 y1 y2 y3 y4 y5 y6, LeO (letterboxlaw9_HeadOwn.l1 k y0 y1 y2 y3 y4 y5 y6) (letterboxlaw9_HeadOwn.l1 (k + 1) y0 y1 y2 y3 y4 y5 y6)) ∧ (∀ y0 y1 y2 y3 y4 y5 y6, LeO (letterboxlaw9_HeadOwn.l2 k y0 y1 y2 y3 y4 y5 y6) (letterboxlaw9_HeadOwn.l2 (k + 1) y0 y1 y2 y3 y4 y5 y6)) ∧ (∀ y0 y1 y2 y3 y4 y5, LeO (letterboxlaw9_HeadOwn.l3 k y0 y1 y2 y3 y4 y5) (letterboxlaw9_HeadOwn.l3 (k + 1) y0 y1 y2 y3 y4 y5)) ∧ (∀ y0 y1 y2 y3 y4 y5 y6, LeO (letterboxlaw9_HeadOwn.l4 k y0 y1 y2 y3 y4 y5 y6) (letterboxlaw9_HeadOwn.l4 (k + 1) y0 y1 y2 y3 y4 y5 y6))
  | 0 => ⟨fun _ _ r h => by simp [letterboxlaw9_HeadOwn.j0] at h, fun _ _ _ _ _ _ _ r h => by simp [letterboxlaw9_HeadOwn.l0] at h, fun _ _ _ _ _ _ _ r h => by simp [letterboxlaw9_HeadOwn.l1] at h, fun _ _ _ _ _ _ _ r h => by simp [letterboxlaw9_HeadOwn.l2] at h, fun _ _ _ _ _ _ r h => by simp [letterboxlaw9_HeadOwn.l3] at h, fun _ _ _ _ _ _ _ r h => by simp [letterboxlaw9_HeadOwn.l4] at h⟩
  | k + 1 => by
    obtain ⟨ih0, ih1, ih2, ih3, ih4, ih5⟩ := letterboxlaw9_HeadOwn.mono_l k
    refine ⟨?_, ?_, ?_, ?_, ?_, ?_⟩
    · intro y0 y1
      unfold letterboxlaw9_HeadOwn.j0
      repeat' first
      | (with_reducible exact ih0 _ _)
      | (with_reducible exact ih1 _ _ _ _ _ _ _)
      | (with_reducible exact ih2 _ _ _ _ _ _ _)
      | (with_reducible exact ih3 _ _ _ _ _ _ _)
      | (with_reducible exact ih4 _ _ _ _ _ _)
      | (with_reducible exact ih5 _ _ _ _ _ _ _)
      | (with_reducible exact head_Body.mono _ _)
      | (with_reducible exact head_Head.mono _ _)
      | (with_reducible exact head_Split.mono _ _)
      | (with_reducible exact head_Top.mono _ _ _)
      | (with_reducible exact letterboxlaw9_known.mono _)
      | (with_reducible exact LeO.refl _)
      | (with_reducible exact LeO.none _)
      | (with_reducible refine LeO.ite ?_ ?_)
      | (with_reducible refine LeO.bind ?_ (fun _ => ?_))
      | exact ih0 _ _
      | exact ih1 _ _ _ _ _ _ _
      | exact ih2 _ _ _ _ _ _ _
      | exact ih3 _ _ _ _ _ _ _
      | exact ih4 _ _ _ _ _ _
      | exact ih5 _ _ _ _ _ _ _
      | exact head_Body.mono _ _
      | exact head_Head.mono _ _
      | exact head_Split.mono _ _
      | exact head_Top.mono _ _ _
      | exact letterboxlaw9_known.mono _
      | exact LeO.none _
      | refine LeO.ite ?_ ?_
      | refine LeO.bind ?_ (fun _ => ?_)
    · intro y0 y1 y2 y3 y4 y5 y6
      unfold letterboxlaw9_HeadOwn.l0
      repeat' first
      | (with_reducible exact ih0 _ _)
      | (with_reducible exact ih1 _ _ _ _ _ _ _)
      | (with_reducible exact ih2 _ _ _ _ _ _ _)
      | (with_reducible exact ih3 _ _ _ _ _ _ _)
      | (with_reducible exact ih4 _ _ _ _ _ _)
      | (with_reducible exact ih5 _ _ _ _ _ _ _)
      | (with_reducible exact head_Body.mono _ _)
      | (with_reducible exact head_Head.mono _ _)
      | (with_reducible exact head_Split.mono _ _)
      | (with_reducible exact head_Top.mono _ _ _)
      | (with_reducible exact letterboxlaw9_known.mono _)
      | (with_reducible exact LeO.refl _)
      | (with_reducible exact LeO.none _)
      | (with_reducible refine LeO.ite ?_ ?_)
      | (with_reducible refine LeO.bind ?_ (fun _ => ?_))
      | exact ih0 _ _
      | exact ih1 _ _ _ _ _ _ _
      | exact ih2 _ _ _ _ _ _ _
      | exact ih3 _ _ _ _ _ _ _
      | exact ih4 _ _ _ _ _ _
      | exact ih5 _ _ _ _ _ _ _
      | exact head_Body.mono _ _
      | exact head_Head.mono _ _
      | exact head_Split.mono _ _
      | exact head_Top.mono _ _ _
      | exact letterboxlaw9_known.mono _
      | exact LeO.none _
      | refine LeO.ite ?_ ?_
      | refine LeO.bind ?_ (fun _ => ?_)
    · intro y0 y1 y2 y3 y4 y5 y6
      unfold letterboxlaw9_HeadOwn.l1
      repeat' first
      | (with_reducible exact ih0 _ _)
      | (with_reducible exact ih1 _ _ _ _ _ _ _)
      | (with_reducible exact ih2 _ _ _ _ _ _ _)
      | (with_reducible exact ih3 _ _ _ _ _ _ _)
      | (with_reducible exact ih4 _ _ _ _ _ _)
      | (with_reducible exact ih5 _ _ _ _ _ _ _)
      | (with_reducible exact head_Body.mono _ _)
      | (with_reducible exact head_Head.mono _ _)
      | (with_reducible exact head_Split.mono _ _)
      | (with_reducible exact head_Top.mono _ _ _)
      | (with_reducible exact letterboxlaw9_known.mono _)
      | (with_reducible exact LeO.refl _)
      | (with_reducible exact LeO.none _)
      | (with_reducible refine LeO.ite ?_ ?_)
      | (with_reducible refine LeO.bind ?_ (fun _ => ?_))
      | exact ih0 _ _
      | exact ih1 _ _ _ _ _ _ _
      | exact ih2 _ _ _ _ _ _ _
      | exact ih3 _ _ _ _ _ _ _
      | exact ih4 _ _ _ _ _ _
      | exact ih5 _ _ _ _ _ _ _
      | exact head_Body.mono _ _
      | exact head_Head.mono _ _
      | exact head_Split.mono _ _
      | exact head_Top.mono _ _ _
      | exact letterboxlaw9_known.mono _
      | exact LeO.none _
      | refine LeO.ite ?_ ?_
      | refine LeO.bind ?_ (fun _ => ?_)
    · intro y0 y1 y2 y3 y4 y5 y6
      unfold letterboxlaw9_HeadOwn.l2
      repeat' first
      | (with_reducible exact ih0 _ _)
      | (with_reducible exact ih1 _ _ _ _ _ _ _)
      | (with_reducible exact ih2 _ _ _ _ _ _ _)
      | (with_reducible exact ih3 _ _ _ _ _ _ _)
      | (with_reducible exact ih4 _ _ _ _ _ _)
      | (with_reducible exact ih5 _ _ _ _ _ _ _)
      | (with_reducible exact head_Body.mono _ _)
      | (with_reducible exact head_Head.mono _ _)
      | (with_reducible exact head_Split.mono _ _)
      | (with_reducible exact head_Top.mono _ _ _)
      | (with_reducible exact letterboxlaw9_known.mono _)
      | (with_reducible exact LeO.refl _)
      | (with_reducible exact LeO.none _)
      | (with_reducible refine LeO.ite ?_ ?_)
      | (with_reducible refine LeO.bind ?_ (fun _ => ?_))
      | exact ih0 _ _
      | exact ih1 _ _ _ _ _ _ _
      | exact ih2 _ _ _ _ _ _ _
      | exact ih3 _ _ _ _ _ _ _
      | exact ih4 _ _ _ _ _ _
      | exact ih5 _ _ _ _ _ _ _
      | exact head_Body.mono _ _
      | exact head_Head.mono _ _
      | exact head_Split.mono _ _
      | exact head_Top.mono _ _ _
      | exact letterboxlaw9_known.mono _
      | exact LeO.none _
      | refine LeO.ite ?_ ?_
      | refine LeO.bind ?_ (fun _ => ?_)
    · intro y0 y1 y2 y3 y4 y5
      unfold letterboxlaw9_HeadOwn.l3
      repeat' first
      | (with_reducible exact ih0 _ _)
      | (with_reducible exact ih1 _ _ _ _ _ _ _)
      | (with_reducible exact ih2 _ _ _ _ _ _ _)
      | (with_reducible exact ih3 _ _ _ _ _ _ _)
      | (with_reducible exact ih4 _ _ _ _ _ _)
      | (with_reducible exact ih5 _ _ _ _ _ _ _)
      | (with_reducible exact head_Body.mono _ _)
      | (with_reducible exact head_Head.mono _ _)
      | (with_reducible exact head_Split.mono _ _)
      | (with_reducible exact head_Top.mono _ _ _)
      | (with_reducible exact letterboxlaw9_known.mono _)
      | (with_reducible exact LeO.refl _)
      | (with_reducible exact LeO.none _)
      | (with_reducible refine LeO.ite ?_ ?_)
      | (with_reducible refine LeO.bind ?_ (fun _ => ?_))
      | exact ih0 _ _
      | exact ih1 _ _ _ _ _ _ _
      | exact ih2 _ _ _ _ _ _ _
      | exact ih3 _ _ _ _ _ _ _
      | exact ih4 _ _ _ _ _ _
      | exact ih5 _ _ _ _ _ _ _
      | exact head_Body.mono _ _
      | exact head_Head.mono _ _
      | exact head_Split.mono _ _
      | exact head_Top.mono _ _ _
      | exact letterboxlaw9_known.mono _
      | exact LeO.none _
      | refine LeO.ite ?_ ?_
      | refine LeO.bind ?_ (fun _ => ?_)
    · intro y0 y1 y2 y3 y4 y5 y6
      unfold letterboxlaw9_HeadOwn.l4
      repeat' first
      | (with_reducible exact ih0 _ _)
      | (with_reducible exact ih1 _ _ _ _ _ _ _)
      | (with_reducible exact ih2 _ _ _ _ _ _ _)
      | (with_reducible exact ih3 _ _ _ _ _ _ _)
      | (with_reducible exact ih4 _ _ _ _ _ _)
      | (with_reducible exact ih5 _ _ _ _ _ _ _)
      | (with_reducible exact head_Body.mono _ _)
      | (with_reducible exact head_Head.mono _ _)
      | (with_reducible exact head_Split.mono _ _)
      | (with_reducible exact head_Top.mono _ _ _)
      | (with_reducible exact letterboxlaw9_known.mono _)
      | (with_reducible exact LeO.refl _)
      | (with_reducible exact LeO.none _)
      | (with_reducible refine LeO.ite ?_ ?_)
      | (with_reducible refine LeO.bind ?_ (fun _ => ?_))
      | exact ih0 _ _
      | exact ih1 _ _ _ _ _ _ _
      | exact ih2 _ _ _ _ _ _ _
      | exact ih3 _ _ _ _ _ _ _
      | exact ih4 _ _ _ _ _ _
      | exact ih5 _ _ _ _ _ _ _
      | exact head_Body.mono _ _
      | exact head_Head.mono _ _
      | exact head_Split.mono _ _
      | exact head_Top.mono _ _ _
      | exact letterboxlaw9_known.mono _
      | exact LeO.none _
      | refine LeO.ite ?_ ?_
      | refine LeO.bind ?_ (fun _ => ?_)
theorem letterboxlaw9_HeadOwn.mono : ∀ a0 k, LeO (letterboxlaw9_HeadOwn.f k a0) (letterboxlaw9_HeadOwn.f (k + 1) a0) := by
  intro a0 k
  obtain ⟨ih0, ih1, ih2, ih3, ih4, ih5⟩ := letterboxlaw9_HeadOwn.mono_l k
  unfold letterboxlaw9_HeadOwn.f
  repeat' first
      | (with_reducible exact ih0 _ _)
      | (with_reducible exact ih1 _ _ _ _ _ _ _)
      | (with_reducible exact ih2 _ _ _ _ _ _ _)
      | (with_reducible exact ih3 _ _ _ _ _ _ _)
      | (with_reducible exact ih4 _ _ _ _ _ _)
      | (with_reducible exact ih5 _ _ _ _ _ _ _)
      | (with_reducible exact head_Body.mono _ _)
      | (with_reducible exact head_Head.mono _ _)
      | (with_reducible exact head_Split.mono _ _)
      | (with_reducible exact head_Top.mono _ _ _)
      | (with_reducible exact letterboxlaw9_known.mono _)
      | (with_reducible exact LeO.refl _)
      | (with_reducible exact LeO.none _)
      | (with_reducible refine LeO.ite ?_ ?_)
      | (with_reducible refine LeO.bind ?_ (fun _ => ?_))
      | exact ih0 _ _
      | exact ih1 _ _ _ _ _ _ _
      | exact ih2 _ _ _ _ _ _ _
      | exact ih3 _ _ _ _ _ _ _
      | exact ih4 _ _ _ _ _ _
      | exact ih5 _ _ _ _ _ _ _
      | exact head_Body.mono _ _
      | exact head_Head.mono _ _
      | exact head_Split.mono _ _
      | exact head_Top.mono _ _ _
      | exact letterboxlaw9_known.mono _
      | exact LeO.none _
      | refine LeO.ite ?_ ?_
      | refine LeO.bind ?_ (fun _ => ?_)
set_option maxHeartbeats 8000000 in
set_option maxRecDepth 100000 in
theorem letterboxlaw9_HeadOwn.calls (k : Nat) (A0 : Option Addr) (c0 : Nat) (l0 : List Int) (w : World) (hr0 : Kd.C (Kd.int .u8) w A0 l0.length l0) (hc0 : l0.length ≤ c0) (h : letterboxlaw9_HeadOwn.f k l0 = some true) :
    Calls Tryd.prog 10 #[.slice A0 l0.length c0] w fun e w' => e = .returned (.bool true) ∧ Below w.heap.size w w' := by
  have HR0 := Aside0.mk hr0
  have HC0 := Aside0.mk hc0
  clear hr0 hc0
  have HB := Aside0.mk (Below.refl w.heap.size w)
  have H : (if (l0.length : Int) < 1 then (letterboxlaw9_HeadOwn.j0 k l0 true) else (letterboxlaw9_HeadOwn.j0 k l0 (decide ((l0.length : Int) > 1500)))) = some true := h
  clear h
  have HC2 := Aside0.mk H
  clear H
  go_enter Tryd.func10, Tryd.ntmps10
  go_upto_region 1 with (fail)
  go_cut [20] (fun v20 wc => ∃ (kq : Nat) (x20_1 : Bool), v20 = .bool x20_1 ∧ Aside0 (letterboxlaw9_HeadOwn.j0 kq l0 x20_1 = some true) ∧ Aside0 (kq ≤ k) ∧ Aside0 (Below w.heap.size w wc))
  case first =>
    have H := HC2.out
    clear HC2
    by_cases c3 : (l0.length : Int) < 1
    · rw [if_pos c3] at H
      have c3b0 : decide ((l0.length : Int) < 1) = true := decide_eq_true c3
      have c3b1 : decide (l0.length < 1) = true := decide_eq_true (by omega)
      clear c3
      (first | rw [c3b0] | (simp only [i64_w, i32_w]; rw [c3b0]) | skip)
      have H' := Aside0.mk H
      clear H
      go_wp2
      go_meet
      case rel => exact ⟨_, (true), (by first | rfl | (simp; done) | (simp [*]; done)), H', ⟨by first | omega | exact Nat.le_refl _⟩, ⟨by repeat (first | (with_reducible first | exact HB.out | apply below_alloc | apply pw_below_drewN | apply below_drew1) | exact HB.out)⟩⟩
    · rw [if_neg c3] at H
      have c3b0 : decide ((l0.length : Int) < 1) = false := decide_eq_false c3
      have c3b1 : decide (l0.length < 1) = false := decide_eq_false (by omega)
      clear c3
      (first | rw [c3b0] | (simp only [i64_w, i32_w]; rw [c3b0]) | skip)
      have H' := Aside0.mk H
      clear H
      go_wp2
      go_meet
      case rel => exact ⟨_, (decide ((l0.length : Int) > 1500)), (by first | rfl | (simp; done) | (simp [*]; done)), H', ⟨by first | omega | exact Nat.le_refl _⟩, ⟨by repeat (first | (with_reducible first | exact HB.out | apply below_alloc | apply pw_below_drewN | apply below_drew1) | exact HB.out)⟩⟩
  case rest =>
    clear HC2
    try clear c1
    try clear p2
    try clear c3
    try clear c3b0
    try clear c3b1
    obtain ⟨kq, x20_1, rfl, HA, HJ1, HB⟩ := hcut
    cases kq with
    | zero => exact absurd HA.out (by simp [letterboxlaw9_HeadOwn.j0])
    | succ kj1 =>
      have H := HA.out
      clear HA
      simp only [letterboxlaw9_HeadOwn.j0] at H
      by_cases c4 : x20_1 = true
      · subst c4
        have H1 : (some true) = some true := rfl
        clear H
        have H := H1
        clear H1
        first | (obtain rfl := Option.some.inj H) | (have Hr_ := Option.some.inj H)
        go_wp2
        go_ret
        exact ⟨by first | rfl | (simp [errW_none, errW_some] <;> rfl) | (simp [*, errW_none, errW_some] <;> rfl), by repeat (first | (with_reducible first | exact HB.out | apply below_alloc | apply pw_below_drewN | apply below_drew1) | exact HB.out)⟩
      · replace c4 := Bool.eq_false_iff.mpr c4
        subst c4
        have H1 : ((head_Head.f kj1 l0).bind fun t473 => ((head_Body.f kj1 l0).bind fun t476 => ((head_Top.f kj1 l0 3).bind fun t479 => ((head_Split.f kj1 l0).bind fun t482 => (letterboxlaw9_HeadOwn.l0 kj1 l0 (strOfNums l0) t473 t476 t479 t482 0))))) = some true := by rw [if_neg (show ¬ (false = true) by decide)] at H; exact H
        clear H
        have H := H1
        clear H1
        replace H := Option.bind_eq_some_iff.mp H
        obtain ⟨t473, A50, H⟩ := H
        replace H : ((head_Body.f kj1 l0).bind fun t476 => ((head_Top.f kj1 l0 3).bind fun t479 => ((head_Split.f kj1 l0).bind fun t482 => (letterboxlaw9_HeadOwn.l0 kj1 l0 (strOfNums l0) t473 t476 t479 t482 0)))) = some true := H
        have A5 := Aside0.mk A50
        clear A50
        replace H := Option.bind_eq_some_iff.mp H
        obtain ⟨t476, A60, H⟩ := H
        replace H : ((head_Top.f kj1 l0 3).bind fun t479 => ((head_Split.f kj1 l0).bind fun t482 => (letterboxlaw9_HeadOwn.l0 kj1 l0 (strOfNums l0) t473 t476 t479 t482 0))) = some true := H
        have A6 := Aside0.mk A60
        clear A60
        replace H := Option.bind_eq_some_iff.mp H
        obtain ⟨t479, A70, H⟩ := H
        replace H : ((head_Split.f kj1 l0).bind fun t482 => (letterboxlaw9_HeadOwn.l0 kj1 l0 (strOfNums l0) t473 t476 t479 t482 0)) = some true := H
        have A7 := Aside0.mk A70
        clear A70
        replace H := Option.bind_eq_some_iff.mp H
        obtain ⟨t482, A80, H⟩ := H
        replace H : (letterboxlaw9_HeadOwn.l0 kj1 l0 (strOfNums l0) t473 t476 t479 t482 0) = some true := H
        have A8 := Aside0.mk A80
        clear A80
        have H' := Aside0.mk H
        clear H
        have hcv9 := Kd.C_string (P := Tryd.prog) (A := A0) (c := c0) Tryd.underlying22 Tryd.underlying5 Tryd.underlying9 (Kd.C_below HR0.out HB.out)
        go_wp2_with (first | ((with_reducible refine gate_callee (f := 24) rfl ?_); refine goesL_ (some 24) rfl rfl Tryd.func24 (by kernel_rfl) rfl #[.slice A0 l0.length c0] rfl (by (try simp only [List.map_toArray, List.map_cons, List.map_nil]); first | done | rfl | (simp only [List.length_drop, List.length_take]; rfl)) ?_; (with_reducible refine (head_Head.calls kj1 _ _ l0 t473 _ ?side1 ?side2 A5.out).mono ?_); (case side1 => repeat (first | exact (Kd.C_below HR0.out HB.out) | (with_reducible refine Kd.C_alloc ?_ _) | (with_reducible refine Kd.C_drewN ?_ _) | (with_reducible refine Kd.C_drew ?_))); (case side2 => exact HC0.out); rintro e w10 ⟨v474, rfl, ho0, hb⟩; refine ⟨_, rfl, ?_⟩; have n0_ := Aside0.mk (Kd.R_lower ho0 (below_size (by repeat (first | (with_reducible first | exact HB.out | apply below_alloc | apply pw_below_drewN | apply below_drew1) | exact HB.out)))); have n1_ := Aside0.mk (below_step (by repeat (first | (with_reducible first | exact HB.out | apply below_alloc | apply pw_below_drewN | apply below_drew1) | exact HB.out)) hb); clear HB; have HO475 := n0_; have HB := n1_; clear n0_ n1_; (try clear hb); (try clear hb2); (try clear hk); (try clear hi); (try clear ho0)) | ((with_reducible refine gate_callee (f := 21) rfl ?_); refine goesL_ (some 26) rfl rfl Tryd.func21 (by kernel_rfl) rfl #[.slice A0 l0.length c0] rfl (by (try simp only [List.map_toArray, List.map_cons, List.map_nil]); first | done | rfl | (simp only [List.length_drop, List.length_take]; rfl)) ?_; (with_reducible refine (head_Body.calls kj1 _ _ l0 t476 _ ?side1 ?side2 A6.out).mono ?_); (case side1 => repeat (first | exact (Kd.C_below HR0.out HB.out) | (with_reducible refine Kd.C_alloc ?_ _) | (with_reducible refine Kd.C_drewN ?_ _) | (with_reducible refine Kd.C_drew ?_))); (case side2 => exact HC0.out); rintro e w11 ⟨v477, rfl, ho0, hb⟩; refine ⟨_, rfl, ?_⟩; have n0_ := Aside0.mk (Kd.R_elder' (by (with_reducible repeat (first | apply Kd.R_alloc | apply Kd.R_drewN | apply Kd.R_drew)); exact HO475.out) (Kd.R_base ho0) hb); have n1_ := Aside0.mk (Kd.R_lower (Kd.R_new' ho0 (Kd.R_lt (by (with_reducible repeat (first | apply Kd.R_alloc | apply Kd.R_drewN | apply Kd.R_drew)); exact HO475.out))) (below_size (by repeat (first | (with_reducible first | exact HB.out | apply below_alloc | apply pw_below_drewN | apply below_drew1) | exact HB.out)))); have n2_ := Aside0.mk (below_step (by repeat (first | (with_reducible first | exact HB.out | apply below_alloc | apply pw_below_drewN | apply below_drew1) | exact HB.out)) hb); clear HO475; clear HB; have HO475 := n0_; have HO478 := n1_; have HB := n2_; clear n0_ n1_ n2_; (try clear hb); (try clear hb2); (try clear hk); (try clear hi); (try clear ho0)) | ((with_reducible refine gate_callee (f := 27) rfl ?_); refine goesL_ (some 28) rfl rfl Tryd.func27 (by kernel_rfl) rfl #[.slice A0 l0.length c0, .int .i64 3] rfl (by (try simp only [List.map_toArray, List.map_cons, List.map_nil]); first | done | rfl | (simp only [List.length_drop, List.length_take]; rfl)) ?_; (with_reducible refine (head_Top.calls kj1 _ _ l0 3 t479 _ ?side1 ?side2 A7.out).mono ?_); (case side1 => repeat (first | exact (Kd.C_below HR0.out HB.out) | (with_reducible refine Kd.C_alloc ?_ _) | (with_reducible refine Kd.C_drewN ?_ _) | (with_reducible refine Kd.C_drew ?_))); (case side2 => exact HC0.out); rintro e w12 ⟨v480, rfl, ho0, hb⟩; refine ⟨_, rfl, ?_⟩; have n0_ := Aside0.mk (Kd.R_elder' (by (with_reducible repeat (first | apply Kd.R_alloc | apply Kd.R_drewN | apply Kd.R_drew)); exact HO475.out) (Kd.R_base ho0) hb); have n1_ := Aside0.mk (Kd.R_elder' (by (with_reducible repeat (first | apply Kd.R_alloc | apply Kd.R_drewN | apply Kd.R_drew)); exact HO478.out) (Kd.R_base ho0) hb); have n2_ := Aside0.mk (Kd.R_lower (Kd.R_new' (Kd.R_new' ho0 (Kd.R_lt (by (with_reducible repeat (first | apply Kd.R_alloc | apply Kd.R_drewN | apply Kd.R_drew)); exact HO475.out))) (Kd.R_lt (by (with_reducible repeat (first | apply Kd.R_alloc | apply Kd.R_drewN | apply Kd.R_drew)); exact HO478.out))) (below_size (by repeat (first | (with_reducible first | exact HB.out | apply below_alloc | apply pw_below_drewN | apply below_drew1) | exact HB.out)))); have n3_ := Aside0.mk (below_step (by repeat (first | (with_reducible first | exact HB.out | apply below_alloc | apply pw_below_drewN | apply below_drew1) | exact HB.out)) hb); clear HO475; clear HO478; clear HB; have HO475 := n0_; have HO478 := n1_; have HO481 := n2_; have HB := n3_; clear n0_ n1_ n2_ n3_; (try clear hb); (try clear hb2); (try clear hk); (try clear hi); (try clear ho0)) | ((with_reducible refine gate_callee (f := 25) rfl ?_); refine goesL_ (some 30) rfl rfl Tryd.func25 (by kernel_rfl) rfl #[.slice A0 l0.length c0] rfl (by (try simp only [List.map_toArray, List.map_cons, List.map_nil]); first | done | rfl | (simp only [List.length_drop, List.length_take]; rfl)) ?_; (with_reducible refine (head_Split.calls kj1 _ _ l0 t482 _ ?side1 ?side2 A8.out).mono ?_); (case side1 => repeat (first | exact (Kd.C_below HR0.out HB.out) | (with_reducible refine Kd.C_alloc ?_ _) | (with_reducible refine Kd.C_drewN ?_ _) | (with_reducible refine Kd.C_drew ?_))); (case side2 => exact HC0.out); rintro e w13 ⟨v483, rfl, ho0, hb⟩; refine ⟨_, rfl, ?_⟩; have n0_ := Aside0.mk (Kd.R_below (by (with_reducible repeat (first | apply Kd.R_alloc | apply Kd.R_drewN | apply Kd.R_drew)); exact HO475.out) hb); have n1_ := Aside0.mk (Kd.R_below (by (with_reducible repeat (first | apply Kd.R_alloc | apply Kd.R_drewN | apply Kd.R_drew)); exact HO478.out) hb); have n2_ := Aside0.mk (Kd.R_below (by (with_reducible repeat (first | apply Kd.R_alloc | apply Kd.R_drewN | apply Kd.R_drew)); exact HO481.out) hb); have n3_ := Aside0.mk (Kd.S_lower (Kd.S_new' (Kd.S_new' (Kd.S_new' ho0 (Kd.R_lt (by (with_reducible repeat (first | apply Kd.R_alloc | apply Kd.R_drewN | apply Kd.R_drew)); exact HO475.out))) (Kd.R_lt (by (with_reducible repeat (first | apply Kd.R_alloc | apply Kd.R_drewN | apply Kd.R_drew)); exact HO478.out))) (Kd.R_lt (by (with_reducible repeat (first | apply Kd.R_alloc | apply Kd.R_drewN | apply Kd.R_drew)); exact HO481.out))) (below_size (by repeat (first | (with_reducible first | exact HB.out | apply below_alloc | apply pw_below_drewN | apply below_drew1) | exact HB.out)))); have n4_ := Aside0.mk (below_step (by repeat (first | (with_reducible first | exact HB.out | apply below_alloc | apply pw_below_drewN | apply below_drew1) | exact HB.out)) hb); clear HO475; clear HO478; clear HO481; clear HB; have HO475 := n0_; have HO478 := n1_; have HO481 := n2_; have HO484 := n3_; have HB := n4_; clear n0_ n1_ n2_ n3_ n4_; (try clear hb); (try clear hb2); (try clear hk); (try clear hi); (try clear ho0)))
        go_loopg [8] kj1 (fun kq v8 w' => ∃ (x4_2 : List Int) (x8_2 : Int), v8 = .int .i64 x8_2 ∧ Aside0 (letterboxlaw9_HeadOwn.l0 kq l0 (strOfNums l0) x4_2 t476 t479 t482 x8_2 = some true) ∧ Aside0 (kq ≤ kj1) ∧ Aside0 (Kd.R (Kd.int .u8) 5 w' w.heap.size (fun k_ => some k_ ≠ (v477 : Value).ownBlock ∧ some k_ ≠ (v480 : Value).ownBlock) v474 x4_2) ∧ Aside0 (Kd.R (Kd.int .u8) 5 w' w.heap.size (fun k_ => some k_ ≠ (v474 : Value).ownBlock ∧ some k_ ≠ (v480 : Value).ownBlock) v477 t476) ∧ Aside0 (Kd.R (Kd.int .u8) 5 w' w.heap.size (fun k_ => some k_ ≠ (v474 : Value).ownBlock ∧ some k_ ≠ (v477 : Value).ownBlock) v480 t479) ∧ Aside0 (Kd.S (Kd.slice 5 (Kd.int .u8)) 22 w' w.heap.size (fun k_ => some k_ ≠ (v474 : Value).ownBlock ∧ some k_ ≠ (v477 : Value).ownBlock ∧ some k_ ≠ (v480 : Value).ownBlock) v483 t482) ∧ Aside0 (Below w.heap.size w w'))
        case atStart => exact ⟨(t473), (0), (by first | rfl | (simp; done) | (simp [*]; done)), H', ⟨Nat.le_refl _⟩, ⟨by (with_reducible repeat (first | apply Kd.R_alloc | apply Kd.R_drewN | apply Kd.R_drew)); exact Kd.R_mono HO475.out (fun _ hk => ⟨hk.1.2, hk.2⟩)⟩, ⟨by (with_reducible repeat (first | apply Kd.R_alloc | apply Kd.R_drewN | apply Kd.R_drew)); exact Kd.R_mono HO478.out (fun _ hk => ⟨hk.1.2, hk.2⟩)⟩, ⟨by (with_reducible repeat (first | apply Kd.R_alloc | apply Kd.R_drewN | apply Kd.R_drew)); exact Kd.R_mono HO481.out (fun _ hk => ⟨hk.1.2, hk.2⟩)⟩, ⟨by (with_reducible repeat (first | apply Kd.S_alloc | apply Kd.S_drewN | apply Kd.S_drew)); exact Kd.S_mono HO484.out (fun _ hk => ⟨hk.1.1.2, ⟨hk.1.2, hk.2⟩⟩)⟩, ⟨by repeat (first | (with_reducible first | exact HB.out | apply below_alloc | apply pw_below_drewN | apply below_drew1) | exact HB.out)⟩⟩
        case round =>
          clear H'
          try clear c1
          try clear c2
          try clear p2
          try clear c3
          try clear c3b0
          try clear c3b1
          try clear c4
          try clear hcv9
          try clear c10
          try clear p2
          obtain ⟨x4_2, x8_2, rfl, HA, HK2, HO_4, HO_5, HO_6, HO_7, HB⟩ := hrel
          cases gk with
          | zero => exact absurd HA.out (by simp [letterboxlaw9_HeadOwn.l0])
          | succ k2 =>
            have H := HA.out
            clear HA
            simp only [letterboxlaw9_HeadOwn.l0] at H
            by_cases c14 : x8_2 < (x4_2.length : Int)
            · rw [if_pos c14] at H
              have c14b0 : decide (x8_2 < (x4_2.length : Int)) = true := decide_eq_true c14
              clear c14
              by_cases c15 : 0 ≤ x8_2
              · rw [if_pos c15] at H
                have c15b0 : decide (0 ≤ x8_2) = true := decide_eq_true c15
                clear c15
                obtain ⟨y486, hy486⟩ : ∃ y_ : List Int, y_ = (x4_2.set (x8_2 : Int).toNat (Go.bits .xor .u8 (rd x4_2 x8_2) 1)) := ⟨_, rfl⟩
                replace H : (letterboxlaw9_HeadOwn.l0 k2 l0 (strOfNums l0) y486 t476 t479 t482 (wrap64 (x8_2 + 1))) = some true := by first | (rw [hy486]; with_reducible exact H) | (have H2_ := (Option.bind_some _ _).symm.trans H; rw [hy486]; with_reducible exact H2_) | (have H2_ := (Option.bind_some _ _).symm.trans H; with_reducible exact H2_) | with_reducible exact H | (rw [hy486]; exact H) | exact H
                have Ny486 := Aside0.mk hy486
                clear hy486
                have H' := Aside0.mk H
                clear H
                obtain ⟨Ao17, co17, eo17⟩ := Kd.R_slice HO_4.out
                subst eo17
                have p485 : 0 ≤ (x8_2 : Int) := of_decide_eq_true (by first | (with_reducible assumption) | assumption)
                have q485 : x8_2 < (x4_2.length : Int) := of_decide_eq_true (by first | (with_reducible assumption) | assumption)
                obtain ⟨ad485, e485, hx485_0⟩ := Kd.at_int (Kd.R_reads' HO_4.out).2.2 x8_2 p485 q485
                cases e485
                replace p485 := eq_true p485
                replace q485 := eq_true q485
                have p16 : 0 ≤ (x8_2 : Int) := of_decide_eq_true (by first | (with_reducible assumption) | assumption)
                have q16 : (x8_2 : Int) < ((x4_2.length : Int) : Int) := of_decide_eq_true (by first | (with_reducible assumption) | assumption)
                obtain ⟨go16, co16, eo16, gb16, gl16, cl16, HG16⟩ := Kd.R_form HO_4.out (by omega)
                (first | cases eo16 | (injection eo16 with ea_ en_ ec_; (first | subst ea_ | (injection ea_ with ea_; subst ea_)); subst ec_; clear en_))
                have GB16 := Aside0.mk gb16
                have GG16 := Aside0.mk HG16
                clear gb16 gl16 HG16
                (first | simp only [add_plain] at hx485_0 | skip)
                obtain ⟨hx16_0, hf16_0⟩ := Kd.R_celln 0 HO_4.out (x8_2 : Int) p16 q16
                replace p16 := eq_true p16
                replace q16 := eq_true q16
                have HP18 := Kd.R_putg HO_4.out (x8_2 : Int) (Go.bits .xor .u8 (rd x4_2 x8_2) 1)
                go_wp2_with (first | ((with_reducible refine gate_store (t := 5) (p := 42) rfl ?_); refine store_event (t := 5) (p := 42) (v := ?vo_w19) (w1 := (wr.setCell ⟨go16, (x8_2 : Int).toNat, none⟩ (.int .u8 (Go.bits .xor .u8 (rd x4_2 x8_2) 1)))) ?hg ?ho ?hn ?hr ?_; (case ho => rfl); (case hg => rfl); (case hn => rfl); (case hr => first | (go_simp; done) | (go_simp; rfl)); intro w19 hw; have hg : wr.grownBy w19 (some go16) := (by rw [hw]; exact HP18.2); have hp_ : Kd.R (Kd.int .u8) 5 w19 w.heap.size (fun k_ => some k_ ≠ (v477 : Value).ownBlock ∧ some k_ ≠ (v480 : Value).ownBlock) (.slice (some ⟨go16, 0, none⟩) x4_2.length co17) y486 := (by rw [hw, Ny486.out]; exact HP18.1); clear HP18; have n0_ := Aside0.mk (hp_); have n1_ := Aside0.mk (Kd.R_after (v := (.slice (some ⟨go16, 0, none⟩) x4_2.length co17)) (v1 := (.slice (some ⟨go16, 0, none⟩) x4_2.length co17)) (ok := (fun k_ => some k_ ≠ (v480 : Value).ownBlock)) (by (with_reducible repeat (first | apply Kd.R_alloc | apply Kd.R_drewN | apply Kd.R_drew)); exact Kd.R_mono HO_5.out (fun _ hk => ⟨hk.2, hk.1⟩)) hg (.inl rfl)); have n2_ := Aside0.mk (Kd.R_after (v := (.slice (some ⟨go16, 0, none⟩) x4_2.length co17)) (v1 := (.slice (some ⟨go16, 0, none⟩) x4_2.length co17)) (ok := (fun k_ => some k_ ≠ (v477 : Value).ownBlock)) (by (with_reducible repeat (first | apply Kd.R_alloc | apply Kd.R_drewN | apply Kd.R_drew)); exact Kd.R_mono HO_6.out (fun _ hk => ⟨hk.2, hk.1⟩)) hg (.inl rfl)); have n3_ := Aside0.mk (Kd.S_after (v := (.slice (some ⟨go16, 0, none⟩) x4_2.length co17)) (v1 := (.slice (some ⟨go16, 0, none⟩) x4_2.length co17)) (ok := (fun k_ => some k_ ≠ (v477 : Value).ownBlock ∧ some k_ ≠ (v480 : Value).ownBlock)) (by (with_reducible repeat (first | apply Kd.S_alloc | apply Kd.S_drewN | apply Kd.S_drew)); exact Kd.S_mono HO_7.out (fun _ hk => ⟨⟨hk.2.1, hk.2.2⟩, hk.1⟩)) hg (.inl rfl)); have n4_ := Aside0.mk ((by rw [hw]; exact below_set (HB.out) GB16.out : Below w.heap.size w w19)); clear HO_4; clear HO_5; clear HO_6; clear HO_7; clear HB; have HO_4 := n0_; have HO_5 := n1_; have HO_6 := n2_; have HO_7 := n3_; have HB := n4_; clear n0_ n1_ n2_ n3_ n4_; clear hg hw hp_))
                go_roundg k2
                case measure => have := HJ1.out; have := HK2.out; omega
                case rel => exact ⟨(y486), (wrap64 (x8_2 + 1)), (by first | rfl | (simp; done) | (simp [*]; done)), H', ⟨by have := HJ1.out; have := HK2.out; omega⟩, ⟨by (with_reducible repeat (first | apply Kd.R_alloc | apply Kd.R_drewN | apply Kd.R_drew)); exact HO_4.out⟩, ⟨by (with_reducible repeat (first | apply Kd.R_alloc | apply Kd.R_drewN | apply Kd.R_drew)); exact Kd.R_mono HO_5.out (fun _ hk => ⟨hk.2, hk.1⟩)⟩, ⟨by (with_reducible repeat (first | apply Kd.R_alloc | apply Kd.R_drewN | apply Kd.R_drew)); exact Kd.R_mono HO_6.out (fun _ hk => ⟨hk.2, hk.1⟩)⟩, ⟨by (with_reducible repeat (first | apply Kd.S_alloc | apply Kd.S_drewN | apply Kd.S_drew)); exact Kd.S_mono HO_7.out (fun _ hk => ⟨hk.2, ⟨hk.1.1, hk.1.2⟩⟩)⟩, ⟨by repeat (first | (with_reducible first | exact HB.out | apply below_alloc | apply pw_below_drewN | apply below_drew1) | exact HB.out)⟩⟩
              · rw [if_neg c15] at H
                exact absurd H (by simp)
            · rw [if_neg c14] at H
              have c14b0 : decide (x8_2 < (x4_2.length : Int)) = false := decide_eq_false c14
              clear c14
              have H' := Aside0.mk H
              clear H
              obtain ⟨Ao20, co20, eo20⟩ := Kd.R_slice HO_4.out
              subst eo20
              go_wp2
              go_loopg [9] k2 (fun kq v9 w' => ∃ (x5_3 : List Int) (x9_3 : Int), v9 = .int .i64 x9_3 ∧ Aside0 (letterboxlaw9_HeadOwn.l1 kq l0 (strOfNums l0) x4_2 x5_3 t479 t482 x9_3 = some true) ∧ Aside0 (kq ≤ k2) ∧ Aside0 (Kd.R (Kd.int .u8) 5 w' w.heap.size (fun k_ => some k_ ≠ (v477 : Value).ownBlock ∧ some k_ ≠ (v480 : Value).ownBlock) (.slice Ao20 x4_2.length co20) x4_2) ∧ Aside0 (Kd.R (Kd.int .u8) 5 w' w.heap.size (fun k_ => some k_ ≠ ((.slice Ao20 x4_2.length co20) : Value).ownBlock ∧ some k_ ≠ (v480 : Value).ownBlock) v477 x5_3) ∧ Aside0 (Kd.R (Kd.int .u8) 5 w' w.heap.size (fun k_ => some k_ ≠ ((.slice Ao20 x4_2.length co20) : Value).ownBlock ∧ some k_ ≠ (v477 : Value).ownBlock) v480 t479) ∧ Aside0 (Kd.S (Kd.slice 5 (Kd.int .u8)) 22 w' w.heap.size (fun k_ => some k_ ≠ ((.slice Ao20 x4_2.length co20) : Value).ownBlock ∧ some k_ ≠ (v477 : Value).ownBlock ∧ some k_ ≠ (v480 : Value).ownBlock) v483 t482) ∧ Aside0 (Below w.heap.size w w'))
              case atStart => exact ⟨(t476), (0), (by first | rfl | (simp; done) | (simp [*]; done)), H', ⟨Nat.le_refl _⟩, ⟨by (with_reducible repeat (first | apply Kd.R_alloc | apply Kd.R_drewN | apply Kd.R_drew)); exact HO_4.out⟩, ⟨by (with_reducible repeat (first | apply Kd.R_alloc | apply Kd.R_drewN | apply Kd.R_drew)); exact HO_5.out⟩, ⟨by (with_reducible repeat (first | apply Kd.R_alloc | apply Kd.R_drewN | apply Kd.R_drew)); exact HO_6.out⟩, ⟨by (with_reducible repeat (first | apply Kd.S_alloc | apply Kd.S_drewN | apply Kd.S_drew)); exact HO_7.out⟩, ⟨by repeat (first | (with_reducible first | exact HB.out | apply below_alloc | apply pw_below_drewN | apply below_drew1) | exact HB.out)⟩⟩
              case round =>
                clear H'
                try clear c1
                try clear p1
                try clear q1
                try clear hx1
                try clear hf1
                try clear c2
                try clear p2
                try clear c3
                try clear c3b0
                try clear c3b1
                try clear c4
                try clear p4
                try clear q4
                try clear hx4
                try clear p6
                try clear hcv9
                try clear c10
                try clear c14
                try clear c14b0
                try clear c15
                try clear c15b0
                try clear p16
                try clear q16
                try clear hx16
                try clear hf16
                try clear hx16_0
                try clear hx485_0
                try clear p16
                try clear p2
                try clear p485
                try clear q16
                try clear q485
                obtain ⟨x5_3, x9_3, rfl, HA, HK3, HO_4, HO_5, HO_6, HO_7, HB⟩ := hrel
                cases gk with
                | zero => exact absurd HA.out (by simp [letterboxlaw9_HeadOwn.l1])
                | succ k3 =>
                  have H := HA.out
                  clear HA
                  simp only [letterboxlaw9_HeadOwn.l1] at H
                  by_cases c21 : x9_3 < (x5_3.length : Int)
                  · rw [if_pos c21] at H
                    have c21b0 : decide (x9_3 < (x5_3.length : Int)) = true := decide_eq_true c21
                    clear c21
                    by_cases c22 : 0 ≤ x9_3
                    · rw [if_pos c22] at H
                      have c22b0 : decide (0 ≤ x9_3) = true := decide_eq_true c22
                      clear c22
                      obtain ⟨y488, hy488⟩ : ∃ y_ : List Int, y_ = (x5_3.set (x9_3 : Int).toNat (Go.bits .xor .u8 (rd x5_3 x9_3) 1)) := ⟨_, rfl⟩
                      replace H : (letterboxlaw9_HeadOwn.l1 k3 l0 (strOfNums l0) x4_2 y488 t479 t482 (wrap64 (x9_3 + 1))) = some true := by first | (rw [hy488]; with_reducible exact H) | (have H2_ := (Option.bind_some _ _).symm.trans H; rw [hy488]; with_reducible exact H2_) | (have H2_ := (Option.bind_some _ _).symm.trans H; with_reducible exact H2_) | with_reducible exact H | (rw [hy488]; exact H) | exact H
                      have Ny488 := Aside0.mk hy488
                      clear hy488
                      have H' := Aside0.mk H
                      clear H
                      obtain ⟨Ao24, co24, eo24⟩ := Kd.R_slice HO_5.out
                      subst eo24
                      have p487 : 0 ≤ (x9_3 : Int) := of_decide_eq_true (by first | (with_reducible assumption) | assumption)
                      have q487 : x9_3 < (x5_3.length : Int) := of_decide_eq_true (by first | (with_reducible assumption) | assumption)
                      obtain ⟨ad487, e487, hx487_0⟩ := Kd.at_int (Kd.R_reads' HO_5.out).2.2 x9_3 p487 q487
                      cases e487
                      replace p487 := eq_true p487
                      replace q487 := eq_true q487
                      have p23 : 0 ≤ (x9_3 : Int) := of_decide_eq_true (by first | (with_reducible assumption) | assumption)
                      have q23 : (x9_3 : Int) < ((x5_3.length : Int) : Int) := of_decide_eq_true (by first | (with_reducible assumption) | assumption)
                      obtain ⟨go23, co23, eo23, gb23, gl23, cl23, HG23⟩ := Kd.R_form HO_5.out (by omega)
                      (first | cases eo23 | (injection eo23 with ea_ en_ ec_; (first | subst ea_ | (injection ea_ with ea_; subst ea_)); subst ec_; clear en_))
                      have GB23 := Aside0.mk gb23
                      have GG23 := Aside0.mk HG23
                      clear gb23 gl23 HG23
                      (first | simp only [add_plain] at hx487_0 | skip)
                      obtain ⟨hx23_0, hf23_0⟩ := Kd.R_celln 0 HO_5.out (x9_3 : Int) p23 q23
                      replace p23 := eq_true p23
                      replace q23 := eq_true q23
                      have HP25 := Kd.R_putg HO_5.out (x9_3 : Int) (Go.bits .xor .u8 (rd x5_3 x9_3) 1)
                      go_wp2_with (first | ((with_reducible refine gate_store (t := 5) (p := 54) rfl ?_); refine store_event (t := 5) (p := 54) (v := ?vo_w26) (w1 := (wr.setCell ⟨go23, (x9_3 : Int).toNat, none⟩ (.int .u8 (Go.bits .xor .u8 (rd x5_3 x9_3) 1)))) ?hg ?ho ?hn ?hr ?_; (case ho => rfl); (case hg => rfl); (case hn => rfl); (case hr => first | (go_simp; done) | (go_simp; rfl)); intro w26 hw; have hg : wr.grownBy w26 (some go23) := (by rw [hw]; exact HP25.2); have hp_ : Kd.R (Kd.int .u8) 5 w26 w.heap.size (fun k_ => some k_ ≠ (.slice Ao20 x4_2.length co20 : Value).ownBlock ∧ some k_ ≠ (v480 : Value).ownBlock) (.slice (some ⟨go23, 0, none⟩) x5_3.length co24) y488 := (by rw [hw, Ny488.out]; exact HP25.1); clear HP25; have n0_ := Aside0.mk (Kd.R_after (v := (.slice (some ⟨go23, 0, none⟩) x5_3.length co24)) (v1 := (.slice (some ⟨go23, 0, none⟩) x5_3.length co24)) (ok := (fun k_ => some k_ ≠ (v480 : Value).ownBlock)) (by (with_reducible repeat (first | apply Kd.R_alloc | apply Kd.R_drewN | apply Kd.R_drew)); exact Kd.R_mono HO_4.out (fun _ hk => ⟨hk.2, hk.1⟩)) hg (.inl rfl)); have n1_ := Aside0.mk (hp_); have n2_ := Aside0.mk (Kd.R_after (v := (.slice (some ⟨go23, 0, none⟩) x5_3.length co24)) (v1 := (.slice (some ⟨go23, 0, none⟩) x5_3.length co24)) (ok := (fun k_ => some k_ ≠ (.slice Ao20 x4_2.length co20 : Value).ownBlock)) (by (with_reducible repeat (first | apply Kd.R_alloc | apply Kd.R_drewN | apply Kd.R_drew)); exact HO_6.out) hg (.inl rfl)); have n3_ := Aside0.mk (Kd.S_after (v := (.slice (some ⟨go23, 0, none⟩) x5_3.length co24)) (v1 := (.slice (some ⟨go23, 0, none⟩) x5_3.length co24)) (ok := (fun k_ => some k_ ≠ (.slice Ao20 x4_2.length co20 : Value).ownBlock ∧ some k_ ≠ (v480 : Value).ownBlock)) (by (with_reducible repeat (first | apply Kd.S_alloc | apply Kd.S_drewN | apply Kd.S_drew)); exact Kd.S_mono HO_7.out (fun _ hk => ⟨⟨hk.1, hk.2.2⟩, hk.2.1⟩)) hg (.inl rfl)); have n4_ := Aside0.mk ((by rw [hw]; exact below_set (HB.out) GB23.out : Below w.heap.size w w26)); clear HO_4; clear HO_5; clear HO_6; clear HO_7; clear HB; have HO_4 := n0_; have HO_5 := n1_; have HO_6 := n2_; have HO_7 := n3_; have HB := n4_; clear n0_ n1_ n2_ n3_ n4_; clear hg hw hp_))
                      go_roundg k3
                      case measure => have := HJ1.out; have := HK2.out; have := HK3.out; omega
                      case rel => exact ⟨(y488), (wrap64 (x9_3 + 1)), (by first | rfl | (simp; done) | (simp [*]; done)), H', ⟨by have := HJ1.out; have := HK2.out; have := HK3.out; omega⟩, ⟨by (with_reducible repeat (first | apply Kd.R_alloc | apply Kd.R_drewN | apply Kd.R_drew)); exact Kd.R_mono HO_4.out (fun _ hk => ⟨hk.2, hk.1⟩)⟩, ⟨by (with_reducible repeat (first | apply Kd.R_alloc | apply Kd.R_drewN | apply Kd.R_drew)); exact HO_5.out⟩, ⟨by (with_reducible repeat (first | apply Kd.R_alloc | apply Kd.R_drewN | apply Kd.R_drew)); exact HO_6.out⟩, ⟨by (with_reducible repeat (first | apply Kd.S_alloc | apply Kd.S_drewN | apply Kd.S_drew)); exact Kd.S_mono HO_7.out (fun _ hk => ⟨hk.1.1, ⟨hk.2, hk.1.2⟩⟩)⟩, ⟨by repeat (first | (with_reducible first | exact HB.out | apply below_alloc | apply pw_below_drewN | apply below_drew1) | exact HB.out)⟩⟩
                    · rw [if_neg c22] at H
                      exact absurd H (by simp)
                  · rw [if_neg c21] at H
                    have c21b0 : decide (x9_3 < (x5_3.length : Int)) = false := decide_eq_false c21
                    clear c21
                    have H' := Aside0.mk H
                    clear H
                    obtain ⟨Ao27, co27, eo27⟩ := Kd.R_slice HO_5.out
                    subst eo27
                    go_wp2
                    go_loopg [10] k3 (fun kq v10 w' => ∃ (x6_4 : List Int) (x10_4 : Int), v10 = .int .i64 x10_4 ∧ Aside0 (letterboxlaw9_HeadOwn.l2 kq l0 (strOfNums l0) x4_2 x5_3 x6_4 t482 x10_4 = some true) ∧ Aside0 (kq ≤ k3) ∧ Aside0 (Kd.R (Kd.int .u8) 5 w' w.heap.size (fun k_ => some k_ ≠ ((.slice Ao27 x5_3.length co27) : Value).ownBlock ∧ some k_ ≠ (v480 : Value).ownBlock) (.slice Ao20 x4_2.length co20) x4_2) ∧ Aside0 (Kd.R (Kd.int .u8) 5 w' w.heap.size (fun k_ => some k_ ≠ ((.slice Ao20 x4_2.length co20) : Value).ownBlock ∧ some k_ ≠ (v480 : Value).ownBlock) (.slice Ao27 x5_3.length co27) x5_3) ∧ Aside0 (Kd.R (Kd.int .u8) 5 w' w.heap.size (fun k_ => some k_ ≠ ((.slice Ao20 x4_2.length co20) : Value).ownBlock ∧ some k_ ≠ ((.slice Ao27 x5_3.length co27) : Value).ownBlock) v480 x6_4) ∧ Aside0 (Kd.S (Kd.slice 5 (Kd.int .u8)) 22 w' w.heap.size (fun k_ => some k_ ≠ ((.slice Ao20 x4_2.length co20) : Value).ownBlock ∧ some k_ ≠ ((.slice Ao27 x5_3.length co27) : Value).ownBlock ∧ some k_ ≠ (v480 : Value).ownBlock) v483 t482) ∧ Aside0 (Below w.heap.size w w'))
                    case atStart => exact ⟨(t479), (0), (by first | rfl | (simp; done) | (simp [*]; done)), H', ⟨Nat.le_refl _⟩, ⟨by (with_reducible repeat (first | apply Kd.R_alloc | apply Kd.R_drewN | apply Kd.R_drew)); exact HO_4.out⟩, ⟨by (with_reducible repeat (first | apply Kd.R_alloc | apply Kd.R_drewN | apply Kd.R_drew)); exact HO_5.out⟩, ⟨by (with_reducible repeat (first | apply Kd.R_alloc | apply Kd.R_drewN | apply Kd.R_drew)); exact HO_6.out⟩, ⟨by (with_reducible repeat (first | apply Kd.S_alloc | apply Kd.S_drewN | apply Kd.S_drew)); exact HO_7.out⟩, ⟨by repeat (first | (with_reducible first | exact HB.out | apply below_alloc | apply pw_below_drewN | apply below_drew1) | exact HB.out)⟩⟩
                    case round =>
                      clear H'
                      try clear c1
                      try clear p1
                      try clear q1
                      try clear hx1
                      try clear hf1
                      try clear c2
                      try clear p2
                      try clear q2
                      try clear hx2
                      try clear hf2
                      try clear c3
                      try clear c3b0
                      try clear c3b1
                      try clear c4
                      try clear p4
                      try clear q4
                      try clear hx4
                      try clear p6
                      try clear hcv9
                      try clear c10
                      try clear c14
                      try clear c14b0
                      try clear c15
                      try clear c15b0
                      try clear p16
                      try clear q16
                      try clear hx16
                      try clear hf16
                      try clear c21
                      try clear c21b0
                      try clear c22
                      try clear c22b0
                      try clear p23
                      try clear q23
                      try clear hx23
                      try clear hf23
                      try clear c24
                      try clear c25
                      try clear c27
                      try clear hx16_0
                      try clear hx23_0
                      try clear hx485_0
                      try clear hx487_0
                      try clear p1
                      try clear p16
                      try clear p2
                      try clear p23
                      try clear p4
                      try clear p485
                      try clear p487
                      try clear p6
                      try clear q1
                      try clear q16
                      try clear q23
                      try clear q4
                      try clear q485
                      try clear q487
                      obtain ⟨x6_4, x10_4, rfl, HA, HK4, HO_4, HO_5, HO_6, HO_7, HB⟩ := hrel
                      cases gk with
                      | zero => exact absurd HA.out (by simp [letterboxlaw9_HeadOwn.l2])
                      | succ k4 =>
                        have H := HA.out
                        clear HA
                        simp only [letterboxlaw9_HeadOwn.l2] at H
                        by_cases c28 : x10_4 < (x6_4.length : Int)
                        · rw [if_pos c28] at H
                          have c28b0 : decide (x10_4 < (x6_4.length : Int)) = true := decide_eq_true c28
                          clear c28
                          by_cases c29 : 0 ≤ x10_4
                          · rw [if_pos c29] at H
                            have c29b0 : decide (0 ≤ x10_4) = true := decide_eq_true c29
                            clear c29
                            obtain ⟨y490, hy490⟩ : ∃ y_ : List Int, y_ = (x6_4.set (x10_4 : Int).toNat (Go.bits .xor .u8 (rd x6_4 x10_4) 1)) := ⟨_, rfl⟩
                            replace H : (letterboxlaw9_HeadOwn.l2 k4 l0 (strOfNums l0) x4_2 x5_3 y490 t482 (wrap64 (x10_4 + 1))) = some true := by first | (rw [hy490]; with_reducible exact H) | (have H2_ := (Option.bind_some _ _).symm.trans H; rw [hy490]; with_reducible exact H2_) | (have H2_ := (Option.bind_some _ _).symm.trans H; with_reducible exact H2_) | with_reducible exact H | (rw [hy490]; exact H) | exact H
                            have Ny490 := Aside0.mk hy490
                            clear hy490
                            have H' := Aside0.mk H
                            clear H
                            obtain ⟨Ao31, co31, eo31⟩ := Kd.R_slice HO_6.out
                            subst eo31
                            have p489 : 0 ≤ (x10_4 : Int) := of_decide_eq_true (by first | (with_reducible assumption) | assumption)
                            have q489 : x10_4 < (x6_4.length : Int) := of_decide_eq_true (by first | (with_reducible assumption) | assumption)
                            obtain ⟨ad489, e489, hx489_0⟩ := Kd.at_int (Kd.R_reads' HO_6.out).2.2 x10_4 p489 q489
                            cases e489
                            replace p489 := eq_true p489
                            replace q489 := eq_true q489
                            have p30 : 0 ≤ (x10_4 : Int) := of_decide_eq_true (by first | (with_reducible assumption) | assumption)
                            have q30 : (x10_4 : Int) < ((x6_4.length : Int) : Int) := of_decide_eq_true (by first | (with_reducible assumption) | assumption)
                            obtain ⟨go30, co30, eo30, gb30, gl30, cl30, HG30⟩ := Kd.R_form HO_6.out (by omega)
                            (first | cases eo30 | (injection eo30 with ea_ en_ ec_; (first | subst ea_ | (injection ea_ with ea_; subst ea_)); subst ec_; clear en_))
                            have GB30 := Aside0.mk gb30
                            have GG30 := Aside0.mk HG30
                            clear gb30 gl30 HG30
                            (first | simp only [add_plain] at hx489_0 | skip)
                            obtain ⟨hx30_0, hf30_0⟩ := Kd.R_celln 0 HO_6.out (x10_4 : Int) p30 q30
                            replace p30 := eq_true p30
                            replace q30 := eq_true q30
                            have HP32 := Kd.R_putg HO_6.out (x10_4 : Int) (Go.bits .xor .u8 (rd x6_4 x10_4) 1)
                            go_wp2_with (first | ((with_reducible refine gate_store (t := 5) (p := 66) rfl ?_); refine store_event (t := 5) (p := 66) (v := ?vo_w33) (w1 := (wr.setCell ⟨go30, (x10_4 : Int).toNat, none⟩ (.int .u8 (Go.bits .xor .u8 (rd x6_4 x10_4) 1)))) ?hg ?ho ?hn ?hr ?_; (case ho => rfl); (case hg => rfl); (case hn => rfl); (case hr => first | (go_simp; done) | (go_simp; rfl)); intro w33 hw; have hg : wr.grownBy w33 (some go30) := (by rw [hw]; exact HP32.2); have hp_ : Kd.R (Kd.int .u8) 5 w33 w.heap.size (fun k_ => some k_ ≠ (.slice Ao20 x4_2.length co20 : Value).ownBlock ∧ some k_ ≠ (.slice Ao27 x5_3.length co27 : Value).ownBlock) (.slice (some ⟨go30, 0, none⟩) x6_4.length co31) y490 := (by rw [hw, Ny490.out]; exact HP32.1); clear HP32; have n0_ := Aside0.mk (Kd.R_after (v := (.slice (some ⟨go30, 0, none⟩) x6_4.length co31)) (v1 := (.slice (some ⟨go30, 0, none⟩) x6_4.length co31)) (ok := (fun k_ => some k_ ≠ (.slice Ao27 x5_3.length co27 : Value).ownBlock)) (by (with_reducible repeat (first | apply Kd.R_alloc | apply Kd.R_drewN | apply Kd.R_drew)); exact HO_4.out) hg (.inl rfl)); have n1_ := Aside0.mk (Kd.R_after (v := (.slice (some ⟨go30, 0, none⟩) x6_4.length co31)) (v1 := (.slice (some ⟨go30, 0, none⟩) x6_4.length co31)) (ok := (fun k_ => some k_ ≠ (.slice Ao20 x4_2.length co20 : Value).ownBlock)) (by (with_reducible repeat (first | apply Kd.R_alloc | apply Kd.R_drewN | apply Kd.R_drew)); exact HO_5.out) hg (.inl rfl)); have n2_ := Aside0.mk (hp_); have n3_ := Aside0.mk (Kd.S_after (v := (.slice (some ⟨go30, 0, none⟩) x6_4.length co31)) (v1 := (.slice (some ⟨go30, 0, none⟩) x6_4.length co31)) (ok := (fun k_ => some k_ ≠ (.slice Ao20 x4_2.length co20 : Value).ownBlock ∧ some k_ ≠ (.slice Ao27 x5_3.length co27 : Value).ownBlock)) (by (with_reducible repeat (first | apply Kd.S_alloc | apply Kd.S_drewN | apply Kd.S_drew)); exact Kd.S_mono HO_7.out (fun _ hk => ⟨⟨hk.1, hk.2.1⟩, hk.2.2⟩)) hg (.inl rfl)); have n4_ := Aside0.mk ((by rw [hw]; exact below_set (HB.out) GB30.out : Below w.heap.size w w33)); clear HO_4; clear HO_5; clear HO_6; clear HO_7; clear HB; have HO_4 := n0_; have HO_5 := n1_; have HO_6 := n2_; have HO_7 := n3_; have HB := n4_; clear n0_ n1_ n2_ n3_ n4_; clear hg hw hp_))
                            go_roundg k4
                            case measure => have := HJ1.out; have := HK2.out; have := HK3.out; have := HK4.out; omega
                            case rel => exact ⟨(y490), (wrap64 (x10_4 + 1)), (by first | rfl | (simp; done) | (simp [*]; done)), H', ⟨by have := HJ1.out; have := HK2.out; have := HK3.out; have := HK4.out; omega⟩, ⟨by (with_reducible repeat (first | apply Kd.R_alloc | apply Kd.R_drewN | apply Kd.R_drew)); exact HO_4.out⟩, ⟨by (with_reducible repeat (first | apply Kd.R_alloc | apply Kd.R_drewN | apply Kd.R_drew)); exact HO_5.out⟩, ⟨by (with_reducible repeat (first | apply Kd.R_alloc | apply Kd.R_drewN | apply Kd.R_drew)); exact HO_6.out⟩, ⟨by (with_reducible repeat (first | apply Kd.S_alloc | apply Kd.S_drewN | apply Kd.S_drew)); exact Kd.S_mono HO_7.out (fun _ hk => ⟨hk.1.1, ⟨hk.1.2, hk.2⟩⟩)⟩, ⟨by repeat (first | (with_reducible first | exact HB.out | apply below_alloc | apply pw_below_drewN | apply below_drew1) | exact HB.out)⟩⟩
                          · rw [if_neg c29] at H
                            exact absurd H (by simp)
                        · rw [if_neg c28] at H
                          have c28b0 : decide (x10_4 < (x6_4.length : Int)) = false := decide_eq_false c28
                          clear c28
                          have H' := Aside0.mk H
                          clear H
                          obtain ⟨Ao34, co34, eo34⟩ := Kd.R_slice HO_6.out
                          subst eo34
                          go_wp2
                          go_loopg [11] k4 (fun kq v11 w' => ∃ (x4_5 : List Int) (x5_5 : List Int) (x7_5 : List (List Int)) (x11_5 : Int), v11 = .int .i64 x11_5 ∧ Aside0 (letterboxlaw9_HeadOwn.l3 kq l0 (strOfNums l0) x4_5 x5_5 x7_5 x11_5 = some true) ∧ Aside0 (kq ≤ k4) ∧ Aside0 (Kd.R (Kd.int .u8) 5 w' w.heap.size (fun k_ => some k_ ≠ ((.slice Ao27 x5_3.length co27) : Value).ownBlock) (.slice Ao20 x4_2.length co20) x4_5) ∧ Aside0 (Kd.R (Kd.int .u8) 5 w' w.heap.size (fun k_ => some k_ ≠ ((.slice Ao20 x4_2.length co20) : Value).ownBlock) (.slice Ao27 x5_3.length co27) x5_5) ∧ Aside0 (Kd.S (Kd.slice 5 (Kd.int .u8)) 22 w' w.heap.size (fun k_ => some k_ ≠ ((.slice Ao20 x4_2.length co20) : Value).ownBlock ∧ some k_ ≠ ((.slice Ao27 x5_3.length co27) : Value).ownBlock) v483 x7_5) ∧ Aside0 (Below w.heap.size w w'))
                          case atStart => exact ⟨(x4_2), (x5_3), (t482), (0), (by first | rfl | (simp; done) | (simp [*]; done)), H', ⟨Nat.le_refl _⟩, ⟨by (with_reducible repeat (first | apply Kd.R_alloc | apply Kd.R_drewN | apply Kd.R_drew)); exact Kd.R_mono HO_4.out (fun _ hk => hk.1)⟩, ⟨by (with_reducible repeat (first | apply Kd.R_alloc | apply Kd.R_drewN | apply Kd.R_drew)); exact Kd.R_mono HO_5.out (fun _ hk => hk.1)⟩, ⟨by (with_reducible repeat (first | apply Kd.S_alloc | apply Kd.S_drewN | apply Kd.S_drew)); exact Kd.S_mono HO_7.out (fun _ hk => ⟨hk.1, hk.2.1⟩)⟩, ⟨by repeat (first | (with_reducible first | exact HB.out | apply below_alloc | apply pw_below_drewN | apply below_drew1) | exact HB.out)⟩⟩
                          case round =>
                            clear H'
                            try clear c1
                            try clear p1
                            try clear q1
                            try clear hx1
                            try clear hf1
                            try clear c2
                            try clear p2
                            try clear q2
                            try clear hx2
                            try clear hf2
                            try clear c3
                            try clear c3b0
                            try clear c3b1
                            try clear p3
                            try clear q3
                            try clear hx3
                            try clear hf3
                            try clear c4
                            try clear p4
                            try clear q4
                            try clear hx4
                            try clear p6
                            try clear hcv9
                            try clear c10
                            try clear c14
                            try clear c14b0
                            try clear c15
                            try clear c15b0
                            try clear p16
                            try clear q16
                            try clear hx16
                            try clear hf16
                            try clear c21
                            try clear c21b0
                            try clear c22
                            try clear c22b0
                            try clear p23
                            try clear q23
                            try clear hx23
                            try clear hf23
                            try clear c24
                            try clear c25
                            try clear c27
                            try clear c28
                            try clear c28b0
                            try clear c29
                            try clear c29b0
                            try clear p30
                            try clear q30
                            try clear hx30
                            try clear hf30
                            try clear hx16_0
                            try clear hx23_0
                            try clear hx30_0
                            try clear hx485_0
                            try clear hx487_0
                            try clear hx489_0
                            try clear p1
                            try clear p16
                            try clear p2
                            try clear p23
                            try clear p30
                            try clear p4
                            try clear p485
                            try clear p487
                            try clear p489
                            try clear p6
                            try clear q1
                            try clear q16
                            try clear q2
                            try clear q23
                            try clear q30
                            try clear q4
                            try clear q485
                            try clear q487
                            try clear q489
                            obtain ⟨x4_5, x5_5, x7_5, x11_5, rfl, HA, HK5, HO_4, HO_5, HO_7, HB⟩ := hrel
                            have hl4_5 := (Kd.R_reads' HO_4.out).1
                            rw [hl4_5] at HO_4
                            (try simp only [hl4_5])
                            (try simp only [hl4_5] at HO_5)
                            (try simp only [hl4_5] at HO_7)
                            have hl5_5 := (Kd.R_reads' HO_5.out).1
                            rw [hl5_5] at HO_5
                            (try simp only [hl5_5])
                            (try simp only [hl5_5] at HO_4)
                            (try simp only [hl5_5] at HO_7)
                            cases gk with
                            | zero => exact absurd HA.out (by simp [letterboxlaw9_HeadOwn.l3])
                            | succ k5 =>
                              have H := HA.out
                              clear HA
                              simp only [letterboxlaw9_HeadOwn.l3] at H
                              by_cases c35 : x11_5 < (x7_5.length : Int)
                              · rw [if_pos c35] at H
                                have c35b0 : decide (x11_5 < (x7_5.length : Int)) = true := decide_eq_true c35
                                clear c35
                                have H' := Aside0.mk H
                                clear H
                                obtain ⟨Ao36, co36, eo36⟩ := Kd.S_slice HO_7.out
                                subst eo36
                                go_wp2
                                go_loopg [12] k5 (fun kq v12 w' => ∃ (x4_6 : List Int) (x5_6 : List Int) (x7_6 : List (List Int)) (x12_6 : Int), v12 = .int .i64 x12_6 ∧ Aside0 (letterboxlaw9_HeadOwn.l4 kq l0 (strOfNums l0) x4_6 x5_6 x7_6 x11_5 x12_6 = some true) ∧ Aside0 (kq ≤ k5) ∧ Aside0 (Kd.R (Kd.int .u8) 5 w' w.heap.size (fun k_ => some k_ ≠ ((.slice Ao27 x5_5.length co27) : Value).ownBlock) (.slice Ao20 x4_5.length co20) x4_6) ∧ Aside0 (Kd.R (Kd.int .u8) 5 w' w.heap.size (fun k_ => some k_ ≠ ((.slice Ao20 x4_5.length co20) : Value).ownBlock) (.slice Ao27 x5_5.length co27) x5_6) ∧ Aside0 (Kd.S (Kd.slice 5 (Kd.int .u8)) 22 w' w.heap.size (fun k_ => some k_ ≠ ((.slice Ao20 x4_5.length co20) : Value).ownBlock ∧ some k_ ≠ ((.slice Ao27 x5_5.length co27) : Value).ownBlock) (.slice Ao36 x7_5.length co36) x7_6) ∧ Aside0 (Below w.heap.size w w'))
                                case atStart => exact ⟨(x4_5), (x5_5), (x7_5), (0), (by first | rfl | (simp; done) | (simp [*]; done)), H', ⟨Nat.le_refl _⟩, ⟨by (try simp only [hl4_5]); (try simp only [hl5_5]); (with_reducible repeat (first | apply Kd.R_alloc | apply Kd.R_drewN | apply Kd.R_drew)); exact HO_4.out⟩, ⟨by (try simp only [hl4_5]); (try simp only [hl5_5]); (with_reducible repeat (first | apply Kd.R_alloc | apply Kd.R_drewN | apply Kd.R_drew)); exact HO_5.out⟩, ⟨by (try simp only [hl4_5]); (try simp only [hl5_5]); (with_reducible repeat (first | apply Kd.S_alloc | apply Kd.S_drewN | apply Kd.S_drew)); exact HO_7.out⟩, ⟨by repeat (first | (with_reducible first | exact HB.out | apply below_alloc | apply pw_below_drewN | apply below_drew1) | exact HB.out)⟩⟩
                                case round =>
                                  clear H'
                                  try clear c1
                                  try clear p1
                                  try clear q1
                                  try clear hx1
                                  try clear hf1
                                  try clear c2
                                  try clear p2
                                  try clear q2
                                  try clear hx2
                                  try clear hf2
                                  try clear c3
                                  try clear c3b0
                                  try clear c3b1
                                  try clear p3
                                  try clear q3
                                  try clear hx3
                                  try clear hf3
                                  try clear c4
                                  try clear p4
                                  try clear q4
                                  try clear hx4
                                  try clear p6
                                  try clear hcv9
                                  try clear c10
                                  try clear c14
                                  try clear c14b0
                                  try clear c15
                                  try clear c15b0
                                  try clear p16
                                  try clear q16
                                  try clear hx16
                                  try clear hf16
                                  try clear c21
                                  try clear c21b0
                                  try clear c22
                                  try clear c22b0
                                  try clear p23
                                  try clear q23
                                  try clear hx23
                                  try clear hf23
                                  try clear c24
                                  try clear c25
                                  try clear c27
                                  try clear c28
                                  try clear c28b0
                                  try clear c29
                                  try clear c29b0
                                  try clear p30
                                  try clear q30
                                  try clear hx30
                                  try clear hf30
                                  try clear c35
                                  try clear c35b0
                                  try clear hx16_0
                                  try clear hx23_0
                                  try clear hx30_0
                                  try clear hx485_0
                                  try clear hx487_0
                                  try clear hx489_0
                                  try clear p1
                                  try clear p16
                                  try clear p2
                                  try clear p23
                                  try clear p3
                                  try clear p30
                                  try clear p4
                                  try clear p485
                                  try clear p487
                                  try clear p489
                                  try clear p6
                                  try clear q1
                                  try clear q16
                                  try clear q2
                                  try clear q23
                                  try clear q3
                                  try clear q30
                                  try clear q4
                                  try clear q485
                                  try clear q487
                                  try clear q489
                                  obtain ⟨x4_6, x5_6, x7_6, x12_6, rfl, HA, HK6, HO_4, HO_5, HO_7, HB⟩ := hrel
                                  have hl4_6 := (Kd.R_reads' HO_4.out).1
                                  rw [hl4_6] at HO_4
                                  (try simp only [hl4_6])
                                  (try simp only [hl4_6] at HO_5)
                                  (try simp only [hl4_6] at HO_7)
                                  have hl5_6 := (Kd.R_reads' HO_5.out).1
                                  rw [hl5_6] at HO_5
                                  (try simp only [hl5_6])
                                  (try simp only [hl5_6] at HO_4)
                                  (try simp only [hl5_6] at HO_7)
                                  have hl7_6 := (Kd.S_reads' HO_7.out).1
                                  rw [hl7_6] at HO_7
                                  (try simp only [hl7_6])
                                  (try simp only [hl7_6] at HO_4)
                                  (try simp only [hl7_6] at HO_5)
                                  cases gk with
                                  | zero => exact absurd HA.out (by simp [letterboxlaw9_HeadOwn.l4])
                                  | succ k6 =>
                                    have H := HA.out
                                    clear HA
                                    simp only [letterboxlaw9_HeadOwn.l4] at H
                                    by_cases c37 : 0 ≤ x11_5
                                    · rw [if_pos c37] at H
                                      have c37b0 : decide (0 ≤ x11_5) = true := decide_eq_true c37
                                      clear c37
                                      by_cases c38 : x11_5 < (x7_6.length : Int)
                                      · rw [if_pos c38] at H
                                        have c38b0 : decide (x11_5 < (x7_6.length : Int)) = true := decide_eq_true c38
                                        clear c38
                                        by_cases c39 : x12_6 < ((rd_L1 x7_6 x11_5).length : Int)
                                        · rw [if_pos c39] at H
                                          have c39b0 : decide (x12_6 < ((rd_L1 x7_6 x11_5).length : Int)) = true := decide_eq_true c39
                                          clear c39
                                          by_cases c40 : 0 ≤ x12_6
                                          · rw [if_pos c40] at H
                                            have c40b0 : decide (0 ≤ x12_6) = true := decide_eq_true c40
                                            clear c40
                                            obtain ⟨y495, hy495⟩ : ∃ y_ : List Int, y_ = ((rd_L1 x7_6 x11_5).set (x12_6 : Int).toNat (Go.bits .xor .u8 (rd (rd_L1 x7_6 x11_5) x12_6) 1)) := ⟨_, rfl⟩
                                            replace H : (letterboxlaw9_HeadOwn.l4 k6 l0 (strOfNums l0) x4_6 x5_6 (x7_6.set (x11_5 : Int).toNat y495) x11_5 (wrap64 (x12_6 + 1))) = some true := by first | (rw [hy495]; with_reducible exact H) | (have H2_ := (Option.bind_some _ _).symm.trans H; rw [hy495]; with_reducible exact H2_) | (have H2_ := (Option.bind_some _ _).symm.trans H; with_reducible exact H2_) | with_reducible exact H | (rw [hy495]; exact H) | exact H
                                            have Ny495 := Aside0.mk hy495
                                            clear hy495
                                            obtain ⟨y497, hy497⟩ : ∃ y_ : List (List Int), y_ = (x7_6.set (x11_5 : Int).toNat y495) := ⟨_, rfl⟩
                                            replace H : (letterboxlaw9_HeadOwn.l4 k6 l0 (strOfNums l0) x4_6 x5_6 y497 x11_5 (wrap64 (x12_6 + 1))) = some true := by first | (rw [hy497]; with_reducible exact H) | (have H2_ := (Option.bind_some _ _).symm.trans H; rw [hy497]; with_reducible exact H2_) | (have H2_ := (Option.bind_some _ _).symm.trans H; with_reducible exact H2_) | with_reducible exact H | (rw [hy497]; exact H) | exact H
                                            have Ny497 := Aside0.mk hy497
                                            clear hy497
                                            have H' := Aside0.mk H
                                            clear H
                                            have p492 : 0 ≤ (x11_5 : Int) := of_decide_eq_true (by first | (with_reducible assumption) | assumption)
                                            have q492 : x11_5 < (x7_6.length : Int) := of_decide_eq_true (by first | (with_reducible assumption) | assumption)
                                            obtain ⟨ad492, A492_0, c492_0, e492, hx492_0, hl492_0, hi492_0⟩ := at_L1 (Kd.S_reads' HO_7.out).2.2 x11_5 p492 q492
                                            cases e492
                                            obtain ⟨ce492, hce492, hMe492, hcc492⟩ := Kd.S_get HO_7.out [] x11_5 p492 (by first | exact q492 | exact of_decide_eq_true (by first | (with_reducible assumption) | assumption) | (have e_ := (Kd.S_reads' HO_7.out).1; omega))
                                            obtain ⟨ve492_0, rfl, ge492_0⟩ := hMe492
                                            have hv492_0 := hcc492 0 _ rfl
                                            rw [Nat.add_zero, show ((Kd.slice 5 (Kd.int .u8))).sz = 1 from rfl, Nat.mul_one] at hv492_0
                                            replace hv492_0 := Option.some.inj (hv492_0.symm.trans hx492_0)
                                            rw [hv492_0] at ge492_0
                                            have HL492_0 := Aside0.mk (show Kd.R (Kd.int .u8) 5 _ _ _ _ (rd_L1 x7_6 x11_5) from ge492_0)
                                            clear hv492_0 ge492_0
                                            have HX492_0 := Aside0.mk hx492_0
                                            clear hcc492 hce492
                                            have HR492_0 := Aside0.mk hi492_0
                                            have HC492_0 := Aside0.mk hl492_0
                                            clear hi492_0 hl492_0
                                            replace p492 := eq_true p492
                                            replace q492 := eq_true q492
                                            have p493 : 0 ≤ (x11_5 : Int) := of_decide_eq_true (by first | (with_reducible assumption) | assumption)
                                            have q493 : x11_5 < (x7_6.length : Int) := of_decide_eq_true (by first | (with_reducible assumption) | assumption)
                                            obtain ⟨ad493, A493_0, c493_0, e493, hx493_0, hl493_0, hi493_0⟩ := at_L1 (Kd.S_reads' HO_7.out).2.2 x11_5 p493 q493
                                            obtain rfl : ad492 = ad493 := (by injection e493)
                                            obtain ⟨ce493, hce493, hMe493, hcc493⟩ := Kd.S_get HO_7.out [] x11_5 p493 (by first | exact q493 | exact of_decide_eq_true (by first | (with_reducible assumption) | assumption) | (have e_ := (Kd.S_reads' HO_7.out).1; omega))
                                            obtain ⟨ve493_0, rfl, ge493_0⟩ := hMe493
                                            have hv493_0 := hcc493 0 _ rfl
                                            rw [Nat.add_zero, show ((Kd.slice 5 (Kd.int .u8))).sz = 1 from rfl, Nat.mul_one] at hv493_0
                                            replace hv493_0 := Option.some.inj (hv493_0.symm.trans hx493_0)
                                            rw [hv493_0] at ge493_0
                                            have HL493_0 := Aside0.mk (show Kd.R (Kd.int .u8) 5 _ _ _ _ (rd_L1 x7_6 x11_5) from ge493_0)
                                            clear hv493_0 ge493_0
                                            have HX493_0 := Aside0.mk hx493_0
                                            clear hcc493 hce493
                                            have HR493_0 := Aside0.mk hi493_0
                                            have HC493_0 := Aside0.mk hl493_0
                                            clear hi493_0 hl493_0
                                            replace p493 := eq_true p493
                                            replace q493 := eq_true q493
                                            have ea_ := Option.some.inj (hx492_0.symm.trans hx493_0)
                                            injection ea_ with ea_ en_ ec_
                                            subst ea_
                                            subst ec_
                                            clear en_
                                            have p494 : 0 ≤ (x12_6 : Int) := of_decide_eq_true (by first | (with_reducible assumption) | assumption)
                                            have q494 : x12_6 < ((rd_L1 x7_6 x11_5).length : Int) := of_decide_eq_true (by first | (with_reducible assumption) | assumption)
                                            obtain ⟨ad494, e494, hx494_0⟩ := Kd.at_int (by repeat (first | (with_reducible exact HR493_0.out) | (with_reducible refine Kd.C_alloc ?_ _) | (with_reducible refine Kd.C_drewN ?_ _) | (with_reducible refine Kd.C_drew ?_) | exact HR493_0.out)) x12_6 p494 q494
                                            cases e494
                                            replace p494 := eq_true p494
                                            replace q494 := eq_true q494
                                            have p41 : 0 ≤ (x12_6 : Int) := of_decide_eq_true (by first | (with_reducible assumption) | assumption)
                                            have q41 : (x12_6 : Int) < (((rd_L1 x7_6 x11_5).length : Int) : Int) := of_decide_eq_true (by first | (with_reducible assumption) | assumption)
                                            obtain ⟨go41, co41, eo41, gb41, gl41, cl41, HG41⟩ := Kd.R_form HL493_0.out (by omega)
                                            (first | cases eo41 | (injection eo41 with ea_ en_ ec_; (first | subst ea_ | (injection ea_ with ea_; subst ea_)); subst ec_; clear en_))
                                            have GB41 := Aside0.mk gb41
                                            have GG41 := Aside0.mk HG41
                                            clear gb41 gl41 HG41
                                            (first | simp only [add_plain] at hx494_0 | skip)
                                            obtain ⟨hx41_0, hf41_0⟩ := Kd.R_celln 0 HL493_0.out (x12_6 : Int) p41 q41
                                            replace p41 := eq_true p41
                                            replace q41 := eq_true q41
                                            have hq42 : (x11_5 : Int) < (x7_6.length : Int) := (by have h_ : (x11_5 : Int) < ((x7_6.length : Int) : Int) := of_decide_eq_true (by first | (with_reducible assumption) | assumption); first | exact h_ | (have e_ := (Kd.S_reads' HO_7.out).1; omega) | simpa only [List.length_set, List.length_set] using h_)
                                            obtain ⟨oki42, ce42, hcl42, hM42, hcc42, hok42, hbk42⟩ := Kd.S_borrow HO_7.out [] (x11_5 : Int) (of_decide_eq_true (by first | (with_reducible assumption) | assumption)) hq42
                                            obtain ⟨ve42_0, rfl, ge42_0⟩ := hM42
                                            have hv42 := hcc42 0 _ rfl
                                            rw [Nat.add_zero, show ((Kd.slice 5 (Kd.int .u8))).sz = 1 from rfl, Nat.mul_one] at hv42
                                            replace hv42 := Option.some.inj (hv42.symm.trans HX493_0.out)
                                            subst hv42
                                            clear hcc42 hcl42
                                            replace ge42_0 := (show Kd.R (Kd.int .u8) 5 _ _ _ _ (rd_L1 x7_6 x11_5) from ge42_0)
                                            have HP42 := Kd.R_putg ge42_0 (x12_6 : Int) (Go.bits .xor .u8 (rd (rd_L1 x7_6 x11_5) x12_6) 1)
                                            go_wp2_with (first | ((with_reducible refine gate_store (t := 5) (p := 90) rfl ?_); refine store_event (t := 5) (p := 90) (v := ?vo_w43) (w1 := (wr.setCell ⟨go41, (x12_6 : Int).toNat, none⟩ (.int .u8 (Go.bits .xor .u8 (rd (rd_L1 x7_6 x11_5) x12_6) 1)))) ?hg ?ho ?hn ?hr ?_; (case ho => rfl); (case hg => rfl); (case hn => rfl); (case hr => first | (go_simp; done) | (go_simp; rfl)); intro w43 hw; have hg : wr.grownBy w43 (some go41) := (by rw [hw]; exact HP42.2); have hz_ : Kd.R (Kd.int .u8) 5 w43 w.heap.size oki42 (.slice (some ⟨go41, 0, none⟩) (rd_L1 x7_6 x11_5).length c492_0) y495 := (by rw [hw, Ny495.out]; exact HP42.1); have hp_ : Kd.S (Kd.slice 5 (Kd.int .u8)) 22 w43 w.heap.size (fun k_ => some k_ ≠ (.slice Ao20 x4_6.length co20 : Value).ownBlock ∧ some k_ ≠ (.slice Ao27 x5_6.length co27 : Value).ownBlock) (.slice (some ad492) x7_6.length co36) y497 := (by rw [Ny497.out]; exact hbk42 hg (fun k_ e_ => by injection e_ with e_; subst e_; exact ge42_0.1 _ rfl) (Kd.M_row hz_)); have hm_ := Kd.R_mono hz_ hok42; clear HP42 hbk42; have n0_ := Aside0.mk (Kd.R_grown1 (by (with_reducible repeat (first | apply Kd.R_alloc | apply Kd.R_drewN | apply Kd.R_drew)); exact HO_4.out) rfl hg ((HL493_0.out.1 _ rfl).1.1)); have n1_ := Aside0.mk (Kd.R_grown1 (by (with_reducible repeat (first | apply Kd.R_alloc | apply Kd.R_drewN | apply Kd.R_drew)); exact HO_5.out) rfl hg ((HL493_0.out.1 _ rfl).1.2)); have n2_ := Aside0.mk (hp_); have n3_ := Aside0.mk ((by rw [hw]; exact below_set (HB.out) GB41.out : Below w.heap.size w w43)); have n4_ := Aside0.mk (hm_); have n5_ := Aside0.mk ((Kd.R_reads' hm_).2.1); clear HO_4; clear HO_5; clear HO_7; clear HB; clear HL492_0; clear HL493_0; have HO_4 := n0_; have HO_5 := n1_; have HO_7 := n2_; have HB := n3_; have HL498 := n4_; have HC496 := n5_; clear n0_ n1_ n2_ n3_ n4_ n5_; clear hg hw hp_ hz_ hm_ hok42))
                                            (try simp only [← hl4_6, ← hl5_6, ← hl7_6])
                                            go_roundg k6
                                            case measure => have := HJ1.out; have := HK2.out; have := HK3.out; have := HK4.out; have := HK5.out; have := HK6.out; omega
                                            case rel => exact ⟨(x4_6), (x5_6), (y497), (wrap64 (x12_6 + 1)), (by first | rfl | (simp; done) | (simp [*]; done)), H', ⟨by have := HJ1.out; have := HK2.out; have := HK3.out; have := HK4.out; have := HK5.out; have := HK6.out; omega⟩, ⟨by (try simp only [hl4_5]); (try simp only [hl5_5]); (try simp only [hl4_6]); (try simp only [hl5_6]); (try simp only [hl7_6]); (with_reducible repeat (first | apply Kd.R_alloc | apply Kd.R_drewN | apply Kd.R_drew)); exact HO_4.out⟩, ⟨by (try simp only [hl4_5]); (try simp only [hl5_5]); (try simp only [hl4_6]); (try simp only [hl5_6]); (try simp only [hl7_6]); (with_reducible repeat (first | apply Kd.R_alloc | apply Kd.R_drewN | apply Kd.R_drew)); exact HO_5.out⟩, ⟨by (try simp only [hl4_5]); (try simp only [hl5_5]); (try simp only [hl4_6]); (try simp only [hl5_6]); (try simp only [hl7_6]); (with_reducible repeat (first | apply Kd.S_alloc | apply Kd.S_drewN | apply Kd.S_drew)); exact HO_7.out⟩, ⟨by repeat (first | (with_reducible first | exact HB.out | apply below_alloc | apply pw_below_drewN | apply below_drew1) | exact HB.out)⟩⟩
                                          · rw [if_neg c40] at H
                                            exact absurd H (by simp)
                                        · rw [if_neg c39] at H
                                          have c39b0 : decide (x12_6 < ((rd_L1 x7_6 x11_5).length : Int)) = false := decide_eq_false c39
                                          clear c39
                                          have H' := Aside0.mk H
                                          clear H
                                          have p492 : 0 ≤ (x11_5 : Int) := of_decide_eq_true (by first | (with_reducible assumption) | assumption)
                                          have q492 : x11_5 < (x7_6.length : Int) := of_decide_eq_true (by first | (with_reducible assumption) | assumption)
                                          obtain ⟨ad492, A492_0, c492_0, e492, hx492_0, hl492_0, hi492_0⟩ := at_L1 (Kd.S_reads' HO_7.out).2.2 x11_5 p492 q492
                                          cases e492
                                          obtain ⟨ce492, hce492, hMe492, hcc492⟩ := Kd.S_get HO_7.out [] x11_5 p492 (by first | exact q492 | exact of_decide_eq_true (by first | (with_reducible assumption) | assumption) | (have e_ := (Kd.S_reads' HO_7.out).1; omega))
                                          obtain ⟨ve492_0, rfl, ge492_0⟩ := hMe492
                                          have hv492_0 := hcc492 0 _ rfl
                                          rw [Nat.add_zero, show ((Kd.slice 5 (Kd.int .u8))).sz = 1 from rfl, Nat.mul_one] at hv492_0
                                          replace hv492_0 := Option.some.inj (hv492_0.symm.trans hx492_0)
                                          rw [hv492_0] at ge492_0
                                          have HL492_0 := Aside0.mk (show Kd.R (Kd.int .u8) 5 _ _ _ _ (rd_L1 x7_6 x11_5) from ge492_0)
                                          clear hv492_0 ge492_0
                                          have HX492_0 := Aside0.mk hx492_0
                                          clear hcc492 hce492
                                          have HR492_0 := Aside0.mk hi492_0
                                          have HC492_0 := Aside0.mk hl492_0
                                          clear hi492_0 hl492_0
                                          replace p492 := eq_true p492
                                          replace q492 := eq_true q492
                                          go_wp2
                                          (try simp only [← hl4_5, ← hl5_5, ← hl4_6, ← hl5_6, ← hl7_6])
                                          go_roundg k6
                                          case measure => have := HJ1.out; have := HK2.out; have := HK3.out; have := HK4.out; have := HK5.out; have := HK6.out; omega
                                          case rel => exact ⟨(x4_6), (x5_6), (x7_6), (wrap64 (x11_5 + 1)), (by first | rfl | (simp; done) | (simp [*]; done)), H', ⟨by have := HJ1.out; have := HK2.out; have := HK3.out; have := HK4.out; have := HK5.out; have := HK6.out; omega⟩, ⟨by (try simp only [hl4_5]); (try simp only [hl5_5]); (try simp only [hl4_6]); (try simp only [hl5_6]); (try simp only [hl7_6]); (with_reducible repeat (first | apply Kd.R_alloc | apply Kd.R_drewN | apply Kd.R_drew)); exact HO_4.out⟩, ⟨by (try simp only [hl4_5]); (try simp only [hl5_5]); (try simp only [hl4_6]); (try simp only [hl5_6]); (try simp only [hl7_6]); (with_reducible repeat (first | apply Kd.R_alloc | apply Kd.R_drewN | apply Kd.R_drew)); exact HO_5.out⟩, ⟨by (try simp only [hl4_5]); (try simp only [hl5_5]); (try simp only [hl4_6]); (try simp only [hl5_6]); (try simp only [hl7_6]); (with_reducible repeat (first | apply Kd.S_alloc | apply Kd.S_drewN | apply Kd.S_drew)); exact HO_7.out⟩, ⟨by repeat (first | (with_reducible first | exact HB.out | apply below_alloc | apply pw_below_drewN | apply below_drew1) | exact HB.out)⟩⟩
                                      · rw [if_neg c38] at H
                                        exact absurd H (by simp)
                                    · rw [if_neg c37] at H
                                      exact absurd H (by simp)
                              · rw [if_neg c35] at H
                                have c35b0 : decide (x11_5 < (x7_5.length : Int)) = false := decide_eq_false c35
                                clear c35
                                by_cases c44 : (strOfNums l0).toList = (strOfNums l0).toList
                                · first | rw [if_pos c44] at H | rw [if_pos True.intro] at H
                                  have c44b0 : ((strOfNums l0).toList == (strOfNums l0).toList) = true := beq_iff_eq.mpr c44
                                  have c44b1 : ((strOfNums l0).toList != (strOfNums l0).toList) = false := bne_eq_false_iff_eq.mpr c44
                                  clear c44
                                  by_cases c45 : (wrap64 ((x4_5.length : Int) + (x5_5.length : Int))) = (l0.length : Int)
                                  · rw [if_pos c45] at H
                                    have c45b0 : ((wrap64 ((x4_5.length : Int) + (x5_5.length : Int))) == (l0.length : Int)) = true := beq_iff_eq.mpr c45
                                    have c45b1 : ((wrap64 ((x4_5.length : Int) + (x5_5.length : Int))) != (l0.length : Int)) = false := bne_eq_false_iff_eq.mpr c45
                                    clear c45
                                    replace H := Option.bind_eq_some_iff.mp H
                                    obtain ⟨t491, A460, H⟩ := H
                                    replace H : (some t491) = some true := H
                                    have A46 := Aside0.mk A460
                                    clear A460
                                    have Hr_ := Option.some.inj H
                                    obtain ⟨Ao47, co47, eo47⟩ := Kd.S_slice HO_7.out
                                    subst eo47
                                    have hcv48 := Kd.C_string (P := Tryd.prog) (A := A0) (c := c0) Tryd.underlying22 Tryd.underlying5 Tryd.underlying9 (Kd.C_below HR0.out HB.out)
                                    go_wp2_with (first | (go_at_call 18; (with_reducible refine (letterboxlaw9_known.calls k5  t491 _ A46.out).mono ?_); rintro e w49 ⟨rfl, hb⟩; have n0_ := Aside0.mk (Kd.R_below (by (with_reducible repeat (first | apply Kd.R_alloc | apply Kd.R_drewN | apply Kd.R_drew)); exact HO_4.out) hb); have n1_ := Aside0.mk (Kd.R_below (by (with_reducible repeat (first | apply Kd.R_alloc | apply Kd.R_drewN | apply Kd.R_drew)); exact HO_5.out) hb); have n2_ := Aside0.mk (Kd.S_below (by (with_reducible repeat (first | apply Kd.S_alloc | apply Kd.S_drewN | apply Kd.S_drew)); exact HO_7.out) hb); have n3_ := Aside0.mk (below_step (by repeat (first | (with_reducible first | exact HB.out | apply below_alloc | apply pw_below_drewN | apply below_drew1) | exact HB.out)) hb); clear HO_4; clear HO_5; clear HO_7; clear HB; have HO_4 := n0_; have HO_5 := n1_; have HO_7 := n2_; have HB := n3_; clear n0_ n1_ n2_ n3_; (try clear hb); (try clear hb2); (try clear hk); (try clear hi)))
                                    go_ret
                                    exact ⟨by first | (rw [Hr_]; done) | rfl | (simp [errW_none, errW_some] <;> rfl) | (simp [*, errW_none, errW_some] <;> rfl), by repeat (first | (with_reducible first | exact HB.out | apply below_alloc | apply pw_below_drewN | apply below_drew1) | exact HB.out)⟩
                                  · rw [if_neg c45] at H
                                    have c45b0 : ((wrap64 ((x4_5.length : Int) + (x5_5.length : Int))) == (l0.length : Int)) = false := beq_eq_false_iff_ne.mpr c45
                                    have c45b1 : ((wrap64 ((x4_5.length : Int) + (x5_5.length : Int))) != (l0.length : Int)) = true := bne_iff_ne.mpr c45
                                    exact absurd H (by repeat' first | exact NT.none | exact NT.false | refine NT.ite ?_ ?_ | refine NT.bind (fun _ => ?_))
                                · exact absurd rfl c44

end Go.Proofs.YtaodjbigceamjaaDoor.P
