/- The walks of the seat's functions, one contract a function: printed by a program of this session's (wip/gen). Not trusted: Lean checks it. -/
import Derived.Test.YtilgmheilepkgaaDoorPx1
import Derived.Test.YtilgmheilepkgaaDoorPx3
import Derived.Test.YtilgmheilepkgaaDoorPx4
import Derived.Test.YtilgmheilepkgaaDoorPx109
import Derived.Test.YtilgmheilepkgaaDoorPx110
import Derived.Test.YtilgmheilepkgaaDoorMimeMessage
-- halved
namespace Go.Proofs.YtilgmheilepkgaaDoor.P
open Go.RowKit Go.Proofs.YtilgmheilepkgaaDoorW.PrintWords Go.Proofs.YtilgmheilepkgaaDoorW.PrintLast Go.Proofs.YtilgmheilepkgaaDoorW.PrintMore
attribute [local go_sem] max2_int min2_int max_two min_two max_three min_three max_four min_four   -- for this text's walks alone
set_option linter.unusedVariables false
set_option linter.unusedSimpArgs false

/-! ### letterboxlaw10_MimeParts: function 5 -/
mutual
def letterboxlaw10_MimeParts.j0 : Nat → ByteArray → List (List Int) → Bool → Bool → Option (Bool)
 | 0, _, _, _, _ => none
 | k + 1, x0, x1, x2, x24 => if x24 = true then (some true) else (letterboxlaw10_MimeParts.l0 k x0 x1 x2 0 0)
def letterboxlaw10_MimeParts.l0 : Nat → ByteArray → List (List Int) → Bool → Int → Int → Option (Bool)
 | 0, _, _, _, _, _ => none
 | k + 1, x0, x1, x2, x7, x8 => if x8 < (x1.length : Int) then (if 0 ≤ x8 then (letterboxlaw10_MimeParts.l1 k x0 x1 x2 (wrap64 ((wrap64 (x7 + 1)) + ((rd_L1 x1 x8).length : Int))) x8 0) else (none)) else (if x7 > 1500 then (some true) else ((letterboxlaw10_message.f x0 x1 x2).bind fun t353 => ((mime_Parts.f k t353).bind fun t356 => (if (t356.length : Int) = (x1.length : Int) then (letterboxlaw10_MimeParts.l2 k x1 t353 t356 0) else (some false)))))
def letterboxlaw10_MimeParts.l1 : Nat → ByteArray → List (List Int) → Bool → Int → Int → Int → Option (Bool)
 | 0, _, _, _, _, _, _ => none
 | k + 1, x0, x1, x2, x7, x8, x9 => if 0 ≤ x8 then (if x8 < (x1.length : Int) then (if x9 < ((rd_L1 x1 x8).length : Int) then (if 0 ≤ x9 then (if (rd (rd_L1 x1 x8) x9) = 45 then (some true) else (letterboxlaw10_MimeParts.l1 k x0 x1 x2 x7 x8 (wrap64 (x9 + 1)))) else (none)) else (letterboxlaw10_MimeParts.l0 k x0 x1 x2 x7 (wrap64 (x8 + 1)))) else (none)) else (none)
def letterboxlaw10_MimeParts.l2 : Nat → List (List Int) → List Int → List (S34) → Int → Option (Bool)
 | 0, _, _, _, _ => none
 | k + 1, x1, x10, x11, x12 => if x12 < (x11.length : Int) then (if 0 ≤ x12 then (if ((rd_T34 x11 x12).f0) < 0 then (letterboxlaw10_MimeParts.j4 k x1 x10 x11 x12 true) else (if ((rd_T34 x11 x12).f0) > ((rd_T34 x11 x12).f1) then (letterboxlaw10_MimeParts.j4 k x1 x10 x11 x12 true) else (if ((rd_T34 x11 x12).f1) > (x10.length : Int) then (letterboxlaw10_MimeParts.j4 k x1 x10 x11 x12 true) else (if 0 ≤ ((rd_T34 x11 x12).f0) then (if ((rd_T34 x11 x12).f0) ≤ ((rd_T34 x11 x12).f1) then (if ((rd_T34 x11 x12).f1) ≤ (x10.length : Int) then (if x12 < (x1.length : Int) then (letterboxlaw10_MimeParts.j4 k x1 x10 x11 x12 ((strOfNums ((x10.take (((rd_T34 x11 x12).f1) : Int).toNat).drop (((rd_T34 x11 x12).f0) : Int).toNat)).toList != (strOfNums (rd_L1 x1 x12)).toList)) else (none)) else (none)) else (none)) else (none))))) else (none)) else ((mime_Section.f k x10 (([wrap64 ((x1.length : Int) + 1)] : List Int))).bind fun bt362 => (if (bt362.2 == ((x1.length : Int) == 0)) = true then ((letterboxlaw10_known.f k).bind fun t366 => (some t366)) else (some false)))
def letterboxlaw10_MimeParts.j4 : Nat → List (List Int) → List Int → List (S34) → Int → Bool → Option (Bool)
 | 0, _, _, _, _, _ => none
 | k + 1, x1, x10, x11, x12, x124 => if x124 = true then (some false) else ((mime_Section.f k x10 (([wrap64 (x12 + 1)] : List Int))).bind fun bt382 => (if bt382.2 = true then (if 0 ≤ x12 then (if x12 < (x1.length : Int) then (if (strOfNums bt382.1).toList = (strOfNums (rd_L1 x1 x12)).toList then (letterboxlaw10_MimeParts.l2 k x1 x10 x11 (wrap64 (x12 + 1))) else (some false)) else (none)) else (none)) else (some false)))
end
def letterboxlaw10_MimeParts.f (k : Nat) (a0 : ByteArray) (l1 : List (List Int)) (a2 : Bool) : Option (Bool) := (letterboxlaw10_clean.f k a0).bind fun t348 => (if t348 = true then (letterboxlaw10_MimeParts.j0 k a0 l1 a2 (decide ((l1.length : Int) > 16))) else (letterboxlaw10_MimeParts.j0 k a0 l1 a2 true))
theorem letterboxlaw10_MimeParts.mono_l : ∀ k, (∀ y0 y1 y2 y3, LeO (letterboxlaw10_MimeParts.j0 k y0 y1 y2 y3) (letterboxlaw10_MimeParts.j0 (k + 1) y0 y1 y2 y3)) ∧ (∀ y0 y1 y2 y3 y4, LeO (letterboxlaw10_MimeParts.l0 k y0 y1 y2 y3 y4) (letterboxlaw10_MimeParts.l0 (k + 1) y0 y1 y2 y3 y4)) ∧ (∀ y0 y1 y2 y3 y4 y5, LeO (letterboxlaw10_MimeParts.l1 k y0 y1 y2 y3 y4 y5) (letterboxlaw10_MimeParts.l1 (k + 1) y0 y1 y2 y3 y4 y5)) ∧ (∀ y0 y1 y2 y3, LeO (letterboxlaw10_MimeParts.l2 k y0 y1 y2 y3) (letterboxlaw10_MimeParts.l2 (k + 1) y0 y1 y2 y3)) ∧ (∀ y0 y1 y2 y3 y4, LeO (letterboxlaw10_MimeParts.j4 k y0 y1 y2 y3 y4) (letterboxlaw10_MimeParts.j4 (k + 1) y0 y1 y2 y3 y4))
 | 0 => ⟨fun _ _ _ _ r h => by simp [letterboxlaw10_MimeParts.j0] at h, fun _ _ _ _ _ r h => by simp [letterboxlaw10_MimeParts.l0] at h, fun _ _ _ _ _ _ r h => by simp [letterboxlaw10_MimeParts.l1] at h, fun _ _ _ _ r h => by simp [letterboxlaw10_MimeParts.l2] at h, fun _ _ _ _ _ r h => by simp [letterboxlaw10_MimeParts.j4] at h⟩
 | k + 1 => by
  obtain ⟨ih0, ih1, ih2, ih3, ih4⟩ := letterboxlaw10_MimeParts.mono_l k
  refine ⟨?_, ?_, ?_, ?_, ?_⟩
  ·intro y0 y1 y2 y3
   unfold letterboxlaw10_MimeParts.j0
   repeat' first
   | (with_reducible exact ih0 _ _ _ _)
   | (with_reducible exact ih1 _ _ _ _ _)
   | (with_reducible exact ih2 _ _ _ _ _ _)
   | (with_reducible exact ih3 _ _ _ _)
   | (with_reducible exact ih4 _ _ _ _ _)
   | (with_reducible exact letterboxlaw10_clean.mono _ _)
   | (with_reducible exact letterboxlaw10_known.mono _)
   | (with_reducible exact mime_Parts.mono _ _)
   | (with_reducible exact mime_Section.mono _ _ _)
   | (with_reducible exact LeO.refl _)
   | (with_reducible exact LeO.none _)
   | (with_reducible refine LeO.ite ?_ ?_)
   | (with_reducible refine LeO.bind ?_ (fun _ => ?_))
   | exact ih0 _ _ _ _
   | exact ih1 _ _ _ _ _
   | exact ih2 _ _ _ _ _ _
   | exact ih3 _ _ _ _
   | exact ih4 _ _ _ _ _
   | exact letterboxlaw10_clean.mono _ _
   | exact letterboxlaw10_known.mono _
   | exact mime_Parts.mono _ _
   | exact mime_Section.mono _ _ _
   | exact LeO.none _
   | refine LeO.ite ?_ ?_
   | refine LeO.bind ?_ (fun _ => ?_)
  ·intro y0 y1 y2 y3 y4
   unfold letterboxlaw10_MimeParts.l0
   repeat' first
   | (with_reducible exact ih0 _ _ _ _)
   | (with_reducible exact ih1 _ _ _ _ _)
   | (with_reducible exact ih2 _ _ _ _ _ _)
   | (with_reducible exact ih3 _ _ _ _)
   | (with_reducible exact ih4 _ _ _ _ _)
   | (with_reducible exact letterboxlaw10_clean.mono _ _)
   | (with_reducible exact letterboxlaw10_known.mono _)
   | (with_reducible exact mime_Parts.mono _ _)
   | (with_reducible exact mime_Section.mono _ _ _)
   | (with_reducible exact LeO.refl _)
   | (with_reducible exact LeO.none _)
   | (with_reducible refine LeO.ite ?_ ?_)
   | (with_reducible refine LeO.bind ?_ (fun _ => ?_))
   | exact ih0 _ _ _ _
   | exact ih1 _ _ _ _ _
   | exact ih2 _ _ _ _ _ _
   | exact ih3 _ _ _ _
   | exact ih4 _ _ _ _ _
   | exact letterboxlaw10_clean.mono _ _
   | exact letterboxlaw10_known.mono _
   | exact mime_Parts.mono _ _
   | exact mime_Section.mono _ _ _
   | exact LeO.none _
   | refine LeO.ite ?_ ?_
   | refine LeO.bind ?_ (fun _ => ?_)
  ·intro y0 y1 y2 y3 y4 y5
   unfold letterboxlaw10_MimeParts.l1
   repeat' first
   | (with_reducible exact ih0 _ _ _ _)
   | (with_reducible exact ih1 _ _ _ _ _)
   | (with_reducible exact ih2 _ _ _ _ _ _)
   | (with_reducible exact ih3 _ _ _ _)
   | (with_reducible exact ih4 _ _ _ _ _)
   | (with_reducible exact letterboxlaw10_clean.mono _ _)
   | (with_reducible exact letterboxlaw10_known.mono _)
   | (with_reducible exact mime_Parts.mono _ _)
   | (with_reducible exact mime_Section.mono _ _ _)
   | (with_reducible exact LeO.refl _)
   | (with_reducible exact LeO.none _)
   | (with_reducible refine LeO.ite ?_ ?_)
   | (with_reducible refine LeO.bind ?_ (fun _ => ?_))
   | exact ih0 _ _ _ _
   | exact ih1 _ _ _ _ _
   | exact ih2 _ _ _ _ _ _
   | exact ih3 _ _ _ _
   | exact ih4 _ _ _ _ _
   | exact letterboxlaw10_clean.mono _ _
   | exact letterboxlaw10_known.mono _
   | exact mime_Parts.mono _ _
   | exact mime_Section.mono _ _ _
   | exact LeO.none _
   | refine LeO.ite ?_ ?_
   | refine LeO.bind ?_ (fun _ => ?_)
  ·intro y0 y1 y2 y3
   unfold letterboxlaw10_MimeParts.l2
   repeat' first
   | (with_reducible exact ih0 _ _ _ _)
   | (with_reducible exact ih1 _ _ _ _ _)
   | (with_reducible exact ih2 _ _ _ _ _ _)
   | (with_reducible exact ih3 _ _ _ _)
   | (with_reducible exact ih4 _ _ _ _ _)
   | (with_reducible exact letterboxlaw10_clean.mono _ _)
   | (with_reducible exact letterboxlaw10_known.mono _)
   | (with_reducible exact mime_Parts.mono _ _)
   | (with_reducible exact mime_Section.mono _ _ _)
   | (with_reducible exact LeO.refl _)
   | (with_reducible exact LeO.none _)
   | (with_reducible refine LeO.ite ?_ ?_)
   | (with_reducible refine LeO.bind ?_ (fun _ => ?_))
   | exact ih0 _ _ _ _
   | exact ih1 _ _ _ _ _
   | exact ih2 _ _ _ _ _ _
   | exact ih3 _ _ _ _
   | exact ih4 _ _ _ _ _
   | exact letterboxlaw10_clean.mono _ _
   | exact letterboxlaw10_known.mono _
   | exact mime_Parts.mono _ _
   | exact mime_Section.mono _ _ _
   | exact LeO.none _
   | refine LeO.ite ?_ ?_
   | refine LeO.bind ?_ (fun _ => ?_)
  ·intro y0 y1 y2 y3 y4
   unfold letterboxlaw10_MimeParts.j4
   repeat' first
   | (with_reducible exact ih0 _ _ _ _)
   | (with_reducible exact ih1 _ _ _ _ _)
   | (with_reducible exact ih2 _ _ _ _ _ _)
   | (with_reducible exact ih3 _ _ _ _)
   | (with_reducible exact ih4 _ _ _ _ _)
   | (with_reducible exact letterboxlaw10_clean.mono _ _)
   | (with_reducible exact letterboxlaw10_known.mono _)
   | (with_reducible exact mime_Parts.mono _ _)
   | (with_reducible exact mime_Section.mono _ _ _)
   | (with_reducible exact LeO.refl _)
   | (with_reducible exact LeO.none _)
   | (with_reducible refine LeO.ite ?_ ?_)
   | (with_reducible refine LeO.bind ?_ (fun _ => ?_))
   | exact ih0 _ _ _ _
   | exact ih1 _ _ _ _ _
   | exact ih2 _ _ _ _ _ _
   | exact ih3 _ _ _ _
   | exact ih4 _ _ _ _ _
   | exact letterboxlaw10_clean.mono _ _
   | exact letterboxlaw10_known.mono _
   | exact mime_Parts.mono _ _
   | exact mime_Section.mono _ _ _
   | exact LeO.none _
   | refine LeO.ite ?_ ?_
   | refine LeO.bind ?_ (fun _ => ?_)
theorem letterboxlaw10_MimeParts.mono : ∀ a0 a1 a2 k, LeO (letterboxlaw10_MimeParts.f k a0 a1 a2) (letterboxlaw10_MimeParts.f (k + 1) a0 a1 a2) := by
 intro a0 a1 a2 k
 obtain ⟨ih0, ih1, ih2, ih3, ih4⟩ := letterboxlaw10_MimeParts.mono_l k
 unfold letterboxlaw10_MimeParts.f
 repeat' first
   | (with_reducible exact ih0 _ _ _ _)
   | (with_reducible exact ih1 _ _ _ _ _)
   | (with_reducible exact ih2 _ _ _ _ _ _)
   | (with_reducible exact ih3 _ _ _ _)
   | (with_reducible exact ih4 _ _ _ _ _)
   | (with_reducible exact letterboxlaw10_clean.mono _ _)
   | (with_reducible exact letterboxlaw10_known.mono _)
   | (with_reducible exact mime_Parts.mono _ _)
   | (with_reducible exact mime_Section.mono _ _ _)
   | (with_reducible exact LeO.refl _)
   | (with_reducible exact LeO.none _)
   | (with_reducible refine LeO.ite ?_ ?_)
   | (with_reducible refine LeO.bind ?_ (fun _ => ?_))
   | exact ih0 _ _ _ _
   | exact ih1 _ _ _ _ _
   | exact ih2 _ _ _ _ _ _
   | exact ih3 _ _ _ _
   | exact ih4 _ _ _ _ _
   | exact letterboxlaw10_clean.mono _ _
   | exact letterboxlaw10_known.mono _
   | exact mime_Parts.mono _ _
   | exact mime_Section.mono _ _ _
   | exact LeO.none _
   | refine LeO.ite ?_ ?_
   | refine LeO.bind ?_ (fun _ => ?_)
set_option maxHeartbeats 8000000 in
set_option maxRecDepth 100000 in
theorem letterboxlaw10_MimeParts.calls (k : Nat) (a0 : ByteArray) (A1 : Option Addr) (c1 : Nat) (l1 : List (List Int)) (a2 : Bool) (w : World) (hr1 : Kd.C (Kd.slice 5 (Kd.int .u8)) w A1 l1.length l1) (hc1 : l1.length ≤ c1) (h : letterboxlaw10_MimeParts.f k a0 l1 a2 = some true) :
  Calls Tryd.prog 5 #[.string a0, .slice A1 l1.length c1, .bool a2] w fun e w' => e = .returned (.bool true) ∧ Below w.heap.size w w' := by
 have HR1 := Aside0.mk hr1
 have HC1 := Aside0.mk hc1
 clear hr1 hc1
 have HB := Aside0.mk (Below.refl w.heap.size w)
 have H : ((letterboxlaw10_clean.f k a0).bind fun t348 => (if t348 = true then (letterboxlaw10_MimeParts.j0 k a0 l1 a2 (decide ((l1.length : Int) > 16))) else (letterboxlaw10_MimeParts.j0 k a0 l1 a2 true))) = some true := h
 clear h
 have HC4 := Aside0.mk H
 clear H
 go_enter Tryd.func5, Tryd.ntmps5
 go_upto_region 1 with (fail)
 repeat (go_quiet (fail); go_upto_region 1 with (fail))
 go_cut [24] (fun v24 wc => ∃ (kq : Nat) (x24_3 : Bool), v24 = .bool x24_3 ∧ Aside0 (letterboxlaw10_MimeParts.j0 kq a0 l1 a2 x24_3 = some true) ∧ Aside0 (kq ≤ k) ∧ Aside0 (Below w.heap.size w wc))
 case first =>
  have H := HC4.out
  clear HC4
  replace H := Option.bind_eq_some_iff.mp H
  obtain ⟨t348, A50, H⟩ := H
  replace H : (if t348 = true then (letterboxlaw10_MimeParts.j0 k a0 l1 a2 (decide ((l1.length : Int) > 16))) else (letterboxlaw10_MimeParts.j0 k a0 l1 a2 true)) = some true := H
  have A5 := Aside0.mk A50
  clear A50
  by_cases c6 : t348 = true
  ·subst c6
   have H1 : (letterboxlaw10_MimeParts.j0 k a0 l1 a2 (decide ((l1.length : Int) > 16))) = some true := by rw [if_pos rfl] at H; exact H
   clear H
   have H := H1
   clear H1
   have H' := Aside0.mk H
   clear H
   go_wp2_with (first | (go_at_call 13; (with_reducible refine (letterboxlaw10_clean.calls k a0 true _ A5.out).mono ?_); rintro e w' ⟨rfl, ⟨nd, rfl⟩⟩; (try first | exact ⟨rfl, _, World.drewN_drewN _ _ _⟩ | exact ⟨rfl, _, Eq.trans (World.drewN_drewN _ _ _) (congrArg (World.drewN _) (Nat.add_assoc _ _ _))⟩)))
   repeat (go_quiet (first | (go_at_call 13; (with_reducible refine (letterboxlaw10_clean.calls k a0 true _ A5.out).mono ?_); rintro e w' ⟨rfl, ⟨nd, rfl⟩⟩; (try first | exact ⟨rfl, _, World.drewN_drewN _ _ _⟩ | exact ⟨rfl, _, Eq.trans (World.drewN_drewN _ _ _) (congrArg (World.drewN _) (Nat.add_assoc _ _ _))⟩))); try go_wp2_with (first | (go_at_call 13; (with_reducible refine (letterboxlaw10_clean.calls k a0 true _ A5.out).mono ?_); rintro e w' ⟨rfl, ⟨nd, rfl⟩⟩; (try first | exact ⟨rfl, _, World.drewN_drewN _ _ _⟩ | exact ⟨rfl, _, Eq.trans (World.drewN_drewN _ _ _) (congrArg (World.drewN _) (Nat.add_assoc _ _ _))⟩))))
   go_meet
   case rel => exact ⟨_, (decide ((l1.length : Int) > 16)), (by first | rfl | (simp; done) | (simp [*]; done)), H', ⟨by first | omega | exact Nat.le_refl _⟩, ⟨by repeat (first | (with_reducible first | exact HB.out | apply below_alloc | apply pw_below_drewN | apply below_drew1) | exact HB.out)⟩⟩
  ·replace c6 := Bool.eq_false_iff.mpr c6
   subst c6
   have H1 : (letterboxlaw10_MimeParts.j0 k a0 l1 a2 true) = some true := by rw [if_neg (show ¬ (false = true) by decide)] at H; exact H
   clear H
   have H := H1
   clear H1
   have H' := Aside0.mk H
   clear H
   go_wp2_with (first | (go_at_call 13; (with_reducible refine (letterboxlaw10_clean.calls k a0 false _ A5.out).mono ?_); rintro e w' ⟨rfl, ⟨nd, rfl⟩⟩; (try first | exact ⟨rfl, _, World.drewN_drewN _ _ _⟩ | exact ⟨rfl, _, Eq.trans (World.drewN_drewN _ _ _) (congrArg (World.drewN _) (Nat.add_assoc _ _ _))⟩)))
   repeat (go_quiet (first | (go_at_call 13; (with_reducible refine (letterboxlaw10_clean.calls k a0 false _ A5.out).mono ?_); rintro e w' ⟨rfl, ⟨nd, rfl⟩⟩; (try first | exact ⟨rfl, _, World.drewN_drewN _ _ _⟩ | exact ⟨rfl, _, Eq.trans (World.drewN_drewN _ _ _) (congrArg (World.drewN _) (Nat.add_assoc _ _ _))⟩))); try go_wp2_with (first | (go_at_call 13; (with_reducible refine (letterboxlaw10_clean.calls k a0 false _ A5.out).mono ?_); rintro e w' ⟨rfl, ⟨nd, rfl⟩⟩; (try first | exact ⟨rfl, _, World.drewN_drewN _ _ _⟩ | exact ⟨rfl, _, Eq.trans (World.drewN_drewN _ _ _) (congrArg (World.drewN _) (Nat.add_assoc _ _ _))⟩))))
   go_meet
   case rel => exact ⟨_, (true), (by first | rfl | (simp; done) | (simp [*]; done)), H', ⟨by first | omega | exact Nat.le_refl _⟩, ⟨by repeat (first | (with_reducible first | exact HB.out | apply below_alloc | apply pw_below_drewN | apply below_drew1) | exact HB.out)⟩⟩
 case rest =>
  clear HC4
  try clear c1
  try clear p2
  try clear c5
  try clear c6
  obtain ⟨kq, x24_3, rfl, HA, HJ3, HB⟩ := hcut
  cases kq with
  | zero => exact absurd HA.out (by simp [letterboxlaw10_MimeParts.j0])
  | succ kj3 =>
   have H := HA.out
   clear HA
   simp only [letterboxlaw10_MimeParts.j0] at H
   by_cases c7 : x24_3 = true
   ·subst c7
    have H1 : (some true) = some true := rfl
    clear H
    have H := H1
    clear H1
    first | (obtain rfl := Option.some.inj H) | (have Hr_ := Option.some.inj H)
    go_wp2
    repeat (go_quiet (fail); try go_wp2)
    go_ret
    exact ⟨by first | rfl | (simp [errW_none, errW_some] <;> rfl) | (simp [*, errW_none, errW_some] <;> rfl), by repeat (first | (with_reducible first | exact HB.out | apply below_alloc | apply pw_below_drewN | apply below_drew1) | exact HB.out)⟩
   ·replace c7 := Bool.eq_false_iff.mpr c7
    subst c7
    have H1 : (letterboxlaw10_MimeParts.l0 kj3 a0 l1 a2 0 0) = some true := by rw [if_neg (show ¬ (false = true) by decide)] at H; exact H
    clear H
    have H := H1
    clear H1
    have H' := Aside0.mk H
    clear H
    go_wp2
    repeat (go_quiet (fail); try go_wp2)
    go_loopg [7, 8] kj3 (fun kq v7 v8 w' => ∃ (x7_2 : Int) (x8_2 : Int), v7 = .int .i64 x7_2 ∧ v8 = .int .i64 x8_2 ∧ Aside0 (letterboxlaw10_MimeParts.l0 kq a0 l1 a2 x7_2 x8_2 = some true) ∧ Aside0 (kq ≤ kj3) ∧ Aside0 (Below w.heap.size w w'))
    case atStart => exact ⟨(0), (0), (by first | rfl | (simp; done) | (simp [*]; done)), (by first | rfl | (simp; done) | (simp [*]; done)), H', ⟨Nat.le_refl _⟩, ⟨by repeat (first | (with_reducible first | exact HB.out | apply below_alloc | apply pw_below_drewN | apply below_drew1) | exact HB.out)⟩⟩
    case round =>
     clear H'
     try clear c1
     try clear p2
     try clear c5
     try clear c6
     try clear c7
     try clear p2
     obtain ⟨x7_2, x8_2, rfl, rfl, HA, HK2, HB⟩ := hrel
     cases gk with
     | zero => exact absurd HA.out (by simp [letterboxlaw10_MimeParts.l0])
     | succ k2 =>
      have H := HA.out
      clear HA
      simp only [letterboxlaw10_MimeParts.l0] at H
      by_cases c8 : x8_2 < (l1.length : Int)
      ·rw [if_pos c8] at H
       have c8b0 : decide (x8_2 < (l1.length : Int)) = true := decide_eq_true c8
       clear c8
       by_cases c9 : 0 ≤ x8_2
       ·rw [if_pos c9] at H
        have c9b0 : decide (0 ≤ x8_2) = true := decide_eq_true c9
        clear c9
        have H' := Aside0.mk H
        clear H
        have p349 : 0 ≤ (x8_2 : Int) := of_decide_eq_true (by first | (with_reducible assumption) | assumption)
        have q349 : x8_2 < (l1.length : Int) := of_decide_eq_true (by first | (with_reducible assumption) | assumption)
        obtain ⟨ad349, A349_0, c349_0, e349, hx349_0, hl349_0, hi349_0⟩ := at_L1 HR1.out x8_2 p349 q349
        cases e349
        replace hx349_0 := (HB.out.cell (World.block_lt_of_cell? w _ hx349_0)).trans hx349_0
        have HR349_0 := Aside0.mk hi349_0
        have HC349_0 := Aside0.mk hl349_0
        clear hi349_0 hl349_0
        replace p349 := eq_true p349
        replace q349 := eq_true q349
        go_wp2
        repeat (go_quiet (fail); try go_wp2)
        go_loopg [9] k2 (fun kq v9 w' => ∃ (x9_3 : Int), v9 = .int .i64 x9_3 ∧ Aside0 (letterboxlaw10_MimeParts.l1 kq a0 l1 a2 (wrap64 ((wrap64 (x7_2 + 1)) + ((rd_L1 l1 x8_2).length : Int))) x8_2 x9_3 = some true) ∧ Aside0 (kq ≤ k2) ∧ Aside0 (Below w.heap.size w w'))
        case atStart => exact ⟨(0), (by first | rfl | (simp; done) | (simp [*]; done)), H', ⟨Nat.le_refl _⟩, ⟨by repeat (first | (with_reducible first | exact HB.out | apply below_alloc | apply pw_below_drewN | apply below_drew1) | exact HB.out)⟩⟩
        case round =>
         clear H'
         try clear c1
         try clear p2
         try clear c3
         try clear p3
         try clear q3
         try clear hx3
         try clear c5
         try clear c6
         try clear p6
         try clear c7
         try clear c8
         try clear c8b0
         try clear c9
         try clear c9b0
         try clear hx349_0
         try clear p2
         try clear p349
         try clear q349
         obtain ⟨x9_3, rfl, HA, HK3, HB⟩ := hrel
         cases gk with
         | zero => exact absurd HA.out (by simp [letterboxlaw10_MimeParts.l1])
         | succ k3 =>
          have H := HA.out
          clear HA
          simp only [letterboxlaw10_MimeParts.l1] at H
          by_cases c10 : 0 ≤ x8_2
          ·rw [if_pos c10] at H
           have c10b0 : decide (0 ≤ x8_2) = true := decide_eq_true c10
           clear c10
           by_cases c11 : x8_2 < (l1.length : Int)
           ·rw [if_pos c11] at H
            have c11b0 : decide (x8_2 < (l1.length : Int)) = true := decide_eq_true c11
            clear c11
            by_cases c12 : x9_3 < ((rd_L1 l1 x8_2).length : Int)
            ·rw [if_pos c12] at H
             have c12b0 : decide (x9_3 < ((rd_L1 l1 x8_2).length : Int)) = true := decide_eq_true c12
             clear c12
             by_cases c13 : 0 ≤ x9_3
             ·rw [if_pos c13] at H
              have c13b0 : decide (0 ≤ x9_3) = true := decide_eq_true c13
              clear c13
              by_cases c14 : (rd (rd_L1 l1 x8_2) x9_3) = 45
              ·rw [if_pos c14] at H
               have c14b0 : ((rd (rd_L1 l1 x8_2) x9_3) == 45) = true := beq_iff_eq.mpr c14
               have c14b1 : ((rd (rd_L1 l1 x8_2) x9_3) != 45) = false := bne_eq_false_iff_eq.mpr c14
               clear c14
               first | (obtain rfl := Option.some.inj H) | (have Hr_ := Option.some.inj H)
               have p350 : 0 ≤ (x8_2 : Int) := of_decide_eq_true (by first | (with_reducible assumption) | assumption)
               have q350 : x8_2 < (l1.length : Int) := of_decide_eq_true (by first | (with_reducible assumption) | assumption)
               obtain ⟨ad350, A350_0, c350_0, e350, hx350_0, hl350_0, hi350_0⟩ := at_L1 HR1.out x8_2 p350 q350
               obtain rfl : ad349 = ad350 := (by injection e350)
               replace hx350_0 := (HB.out.cell (World.block_lt_of_cell? w _ hx350_0)).trans hx350_0
               have HR350_0 := Aside0.mk hi350_0
               have HC350_0 := Aside0.mk hl350_0
               clear hi350_0 hl350_0
               replace p350 := eq_true p350
               replace q350 := eq_true q350
               have p351 : 0 ≤ (x8_2 : Int) := of_decide_eq_true (by first | (with_reducible assumption) | assumption)
               have q351 : x8_2 < (l1.length : Int) := of_decide_eq_true (by first | (with_reducible assumption) | assumption)
               obtain ⟨ad351, A351_0, c351_0, e351, hx351_0, hl351_0, hi351_0⟩ := at_L1 HR1.out x8_2 p351 q351
               obtain rfl : ad349 = ad351 := (by injection e351)
               replace hx351_0 := (HB.out.cell (World.block_lt_of_cell? w _ hx351_0)).trans hx351_0
               have HR351_0 := Aside0.mk hi351_0
               have HC351_0 := Aside0.mk hl351_0
               clear hi351_0 hl351_0
               replace p351 := eq_true p351
               replace q351 := eq_true q351
               have ea_ := Option.some.inj (hx350_0.symm.trans hx351_0)
               injection ea_ with ea_ en_ ec_
               subst ea_
               subst ec_
               clear en_
               have p352 : 0 ≤ (x9_3 : Int) := of_decide_eq_true (by first | (with_reducible assumption) | assumption)
               have q352 : x9_3 < ((rd_L1 l1 x8_2).length : Int) := of_decide_eq_true (by first | (with_reducible assumption) | assumption)
               obtain ⟨ad352, e352, hx352_0⟩ := Kd.at_int HR351_0.out x9_3 p352 q352
               cases e352
               replace hx352_0 := (HB.out.cell (World.block_lt_of_cell? w _ hx352_0)).trans hx352_0
               replace p352 := eq_true p352
               replace q352 := eq_true q352
               go_wp2
               repeat (go_quiet (fail); try go_wp2)
               go_ret
               exact ⟨by first | rfl | (simp [errW_none, errW_some] <;> rfl) | (simp [*, errW_none, errW_some] <;> rfl), by repeat (first | (with_reducible first | exact HB.out | apply below_alloc | apply pw_below_drewN | apply below_drew1) | exact HB.out)⟩
              ·rw [if_neg c14] at H
               have c14b0 : ((rd (rd_L1 l1 x8_2) x9_3) == 45) = false := beq_eq_false_iff_ne.mpr c14
               have c14b1 : ((rd (rd_L1 l1 x8_2) x9_3) != 45) = true := bne_iff_ne.mpr c14
               have H' := Aside0.mk H
               clear H
               have p350 : 0 ≤ (x8_2 : Int) := of_decide_eq_true (by first | (with_reducible assumption) | assumption)
               have q350 : x8_2 < (l1.length : Int) := of_decide_eq_true (by first | (with_reducible assumption) | assumption)
               obtain ⟨ad350, A350_0, c350_0, e350, hx350_0, hl350_0, hi350_0⟩ := at_L1 HR1.out x8_2 p350 q350
               obtain rfl : ad349 = ad350 := (by injection e350)
               replace hx350_0 := (HB.out.cell (World.block_lt_of_cell? w _ hx350_0)).trans hx350_0
               have HR350_0 := Aside0.mk hi350_0
               have HC350_0 := Aside0.mk hl350_0
               clear hi350_0 hl350_0
               replace p350 := eq_true p350
               replace q350 := eq_true q350
               have p351 : 0 ≤ (x8_2 : Int) := of_decide_eq_true (by first | (with_reducible assumption) | assumption)
               have q351 : x8_2 < (l1.length : Int) := of_decide_eq_true (by first | (with_reducible assumption) | assumption)
               obtain ⟨ad351, A351_0, c351_0, e351, hx351_0, hl351_0, hi351_0⟩ := at_L1 HR1.out x8_2 p351 q351
               obtain rfl : ad349 = ad351 := (by injection e351)
               replace hx351_0 := (HB.out.cell (World.block_lt_of_cell? w _ hx351_0)).trans hx351_0
               have HR351_0 := Aside0.mk hi351_0
               have HC351_0 := Aside0.mk hl351_0
               clear hi351_0 hl351_0
               replace p351 := eq_true p351
               replace q351 := eq_true q351
               have ea_ := Option.some.inj (hx350_0.symm.trans hx351_0)
               injection ea_ with ea_ en_ ec_
               subst ea_
               subst ec_
               clear en_
               have p352 : 0 ≤ (x9_3 : Int) := of_decide_eq_true (by first | (with_reducible assumption) | assumption)
               have q352 : x9_3 < ((rd_L1 l1 x8_2).length : Int) := of_decide_eq_true (by first | (with_reducible assumption) | assumption)
               obtain ⟨ad352, e352, hx352_0⟩ := Kd.at_int HR351_0.out x9_3 p352 q352
               cases e352
               replace hx352_0 := (HB.out.cell (World.block_lt_of_cell? w _ hx352_0)).trans hx352_0
               replace p352 := eq_true p352
               replace q352 := eq_true q352
               go_wp2
               repeat (go_quiet (fail); try go_wp2)
               go_roundg k3
               case measure => have := HJ3.out; have := HK2.out; have := HK3.out; omega
               case rel => exact ⟨(wrap64 (x9_3 + 1)), (by first | rfl | (simp; done) | (simp [*]; done)), H', ⟨by have := HJ3.out; have := HK2.out; have := HK3.out; omega⟩, ⟨by repeat (first | (with_reducible first | exact HB.out | apply below_alloc | apply pw_below_drewN | apply below_drew1) | exact HB.out)⟩⟩
             ·rw [if_neg c13] at H
              exact absurd H (by simp)
            ·rw [if_neg c12] at H
             have c12b0 : decide (x9_3 < ((rd_L1 l1 x8_2).length : Int)) = false := decide_eq_false c12
             clear c12
             have H' := Aside0.mk H
             clear H
             have p350 : 0 ≤ (x8_2 : Int) := of_decide_eq_true (by first | (with_reducible assumption) | assumption)
             have q350 : x8_2 < (l1.length : Int) := of_decide_eq_true (by first | (with_reducible assumption) | assumption)
             obtain ⟨ad350, A350_0, c350_0, e350, hx350_0, hl350_0, hi350_0⟩ := at_L1 HR1.out x8_2 p350 q350
             obtain rfl : ad349 = ad350 := (by injection e350)
             replace hx350_0 := (HB.out.cell (World.block_lt_of_cell? w _ hx350_0)).trans hx350_0
             have HR350_0 := Aside0.mk hi350_0
             have HC350_0 := Aside0.mk hl350_0
             clear hi350_0 hl350_0
             replace p350 := eq_true p350
             replace q350 := eq_true q350
             go_wp2
             repeat (go_quiet (fail); try go_wp2)
             go_roundg k3
             case measure => have := HJ3.out; have := HK2.out; have := HK3.out; omega
             case rel => exact ⟨((wrap64 ((wrap64 (x7_2 + 1)) + ((rd_L1 l1 x8_2).length : Int)))), (wrap64 (x8_2 + 1)), (by first | rfl | (simp; done) | (simp [*]; done)), (by first | rfl | (simp; done) | (simp [*]; done)), H', ⟨by have := HJ3.out; have := HK2.out; have := HK3.out; omega⟩, ⟨by repeat (first | (with_reducible first | exact HB.out | apply below_alloc | apply pw_below_drewN | apply below_drew1) | exact HB.out)⟩⟩
           ·rw [if_neg c11] at H
            exact absurd H (by simp)
          ·rw [if_neg c10] at H
           exact absurd H (by simp)
       ·rw [if_neg c9] at H
        exact absurd H (by simp)
      ·rw [if_neg c8] at H
       have c8b0 : decide (x8_2 < (l1.length : Int)) = false := decide_eq_false c8
       clear c8
       by_cases c15 : x7_2 > 1500
       ·rw [if_pos c15] at H
        have c15b0 : decide (1500 < x7_2) = true := decide_eq_true c15
        clear c15
        first | (obtain rfl := Option.some.inj H) | (have Hr_ := Option.some.inj H)
        go_wp2
        repeat (go_quiet (fail); try go_wp2)
        go_ret
        exact ⟨by first | rfl | (simp [errW_none, errW_some] <;> rfl) | (simp [*, errW_none, errW_some] <;> rfl), by repeat (first | (with_reducible first | exact HB.out | apply below_alloc | apply pw_below_drewN | apply below_drew1) | exact HB.out)⟩
       ·rw [if_neg c15] at H
        have c15b0 : decide (1500 < x7_2) = false := decide_eq_false c15
        clear c15
        replace H := Option.bind_eq_some_iff.mp H
        obtain ⟨t353, A160, H⟩ := H
        replace H : ((mime_Parts.f k2 t353).bind fun t356 => (if (t356.length : Int) = (l1.length : Int) then (letterboxlaw10_MimeParts.l2 k2 l1 t353 t356 0) else (some false))) = some true := H
        have A16 := Aside0.mk A160
        clear A160
        replace H := Option.bind_eq_some_iff.mp H
        obtain ⟨t356, A170, H⟩ := H
        replace H : (if (t356.length : Int) = (l1.length : Int) then (letterboxlaw10_MimeParts.l2 k2 l1 t353 t356 0) else (some false)) = some true := H
        have A17 := Aside0.mk A170
        clear A170
        by_cases c18 : (t356.length : Int) = (l1.length : Int)
        ·rw [if_pos c18] at H
         have c18b0 : ((t356.length : Int) == (l1.length : Int)) = true := beq_iff_eq.mpr c18
         have c18b1 : ((t356.length : Int) != (l1.length : Int)) = false := bne_eq_false_iff_eq.mpr c18
         have c18b2 : (t356.length == l1.length) = true := by first | simpa using c18 | (simp at c18 ⊢; omega)
         clear c18
         have H' := Aside0.mk H
         clear H
         go_wp2_with (first | (go_at_call 8; (with_reducible refine (letterboxlaw10_message.calls a0 _ _ l1 a2 t353 _ ?side1 ?side2 A16.out).mono ?_); (case side1 => repeat (first | exact (Kd.C_below HR1.out HB.out) | (with_reducible refine Kd.C_alloc ?_ _) | (with_reducible refine Kd.C_drewN ?_ _) | (with_reducible refine Kd.C_drew ?_))); (case side2 => exact HC1.out); rintro e w19 ⟨v354, rfl, ho0, hb⟩; have n0_ := Aside0.mk (Kd.V_lower (Kd.V_mono (ok' := fun k_ => True) ho0 (fun k_ hk_ => trivial)) (below_size (by repeat (first | (with_reducible first | exact HB.out | apply below_alloc | apply pw_below_drewN | apply below_drew1) | exact HB.out)))); have n1_ := Aside0.mk (below_step (by repeat (first | (with_reducible first | exact HB.out | apply below_alloc | apply pw_below_drewN | apply below_drew1) | exact HB.out)) hb); clear HB; have HO355 := n0_; have HB := n1_; clear n0_ n1_; (try clear hb); (try clear hb2); (try clear hk); (try clear hi); (try clear ho0); obtain ⟨Ao20, co20, eo20⟩ := Kd.V_slice HO355.out; subst eo20) | (go_at_call 12; (with_reducible refine (mime_Parts.calls k2 (fun k_ => True) _ _ t353 t356 _ ?side1 A17.out).mono ?_); (case side1 => exact HO355.out); rintro e w21 ⟨v357, rfl, ho0, hb⟩; have n0_ := Aside0.mk (Kd.V_elder' (by (with_reducible repeat (first | apply Kd.V_alloc | apply Kd.V_drewN | apply Kd.V_drew)); exact HO355.out) (Kd.R_base ho0) hb); have n1_ := Aside0.mk (Kd.R_lower (Kd.R_mono (ok' := fun k_ => True) ho0 (fun _ hk_ => trivial)) (below_size (by repeat (first | (with_reducible first | exact HB.out | apply below_alloc | apply pw_below_drewN | apply below_drew1) | exact HB.out)))); have n2_ := Aside0.mk (below_step (by repeat (first | (with_reducible first | exact HB.out | apply below_alloc | apply pw_below_drewN | apply below_drew1) | exact HB.out)) hb); clear HO355; clear HB; have HO355 := n0_; have HO358 := n1_; have HB := n2_; clear n0_ n1_ n2_; (try clear hb); (try clear hb2); (try clear hk); (try clear hi); (try clear ho0); obtain ⟨Ao22, co22, eo22⟩ := Kd.R_slice HO358.out; subst eo22))
         repeat (go_quiet (first | (go_at_call 8; (with_reducible refine (letterboxlaw10_message.calls a0 _ _ l1 a2 t353 _ ?side1 ?side2 A16.out).mono ?_); (case side1 => repeat (first | exact (Kd.C_below HR1.out HB.out) | (with_reducible refine Kd.C_alloc ?_ _) | (with_reducible refine Kd.C_drewN ?_ _) | (with_reducible refine Kd.C_drew ?_))); (case side2 => exact HC1.out); rintro e w19 ⟨v354, rfl, ho0, hb⟩; have n0_ := Aside0.mk (Kd.V_lower (Kd.V_mono (ok' := fun k_ => True) ho0 (fun k_ hk_ => trivial)) (below_size (by repeat (first | (with_reducible first | exact HB.out | apply below_alloc | apply pw_below_drewN | apply below_drew1) | exact HB.out)))); have n1_ := Aside0.mk (below_step (by repeat (first | (with_reducible first | exact HB.out | apply below_alloc | apply pw_below_drewN | apply below_drew1) | exact HB.out)) hb); clear HB; have HO355 := n0_; have HB := n1_; clear n0_ n1_; (try clear hb); (try clear hb2); (try clear hk); (try clear hi); (try clear ho0); obtain ⟨Ao20, co20, eo20⟩ := Kd.V_slice HO355.out; subst eo20) | (go_at_call 12; (with_reducible refine (mime_Parts.calls k2 (fun k_ => True) _ _ t353 t356 _ ?side1 A17.out).mono ?_); (case side1 => exact HO355.out); rintro e w21 ⟨v357, rfl, ho0, hb⟩; have n0_ := Aside0.mk (Kd.V_elder' (by (with_reducible repeat (first | apply Kd.V_alloc | apply Kd.V_drewN | apply Kd.V_drew)); exact HO355.out) (Kd.R_base ho0) hb); have n1_ := Aside0.mk (Kd.R_lower (Kd.R_mono (ok' := fun k_ => True) ho0 (fun _ hk_ => trivial)) (below_size (by repeat (first | (with_reducible first | exact HB.out | apply below_alloc | apply pw_below_drewN | apply below_drew1) | exact HB.out)))); have n2_ := Aside0.mk (below_step (by repeat (first | (with_reducible first | exact HB.out | apply below_alloc | apply pw_below_drewN | apply below_drew1) | exact HB.out)) hb); clear HO355; clear HB; have HO355 := n0_; have HO358 := n1_; have HB := n2_; clear n0_ n1_ n2_; (try clear hb); (try clear hb2); (try clear hk); (try clear hi); (try clear ho0); obtain ⟨Ao22, co22, eo22⟩ := Kd.R_slice HO358.out; subst eo22)); try go_wp2_with (first | (go_at_call 8; (with_reducible refine (letterboxlaw10_message.calls a0 _ _ l1 a2 t353 _ ?side1 ?side2 A16.out).mono ?_); (case side1 => repeat (first | exact (Kd.C_below HR1.out HB.out) | (with_reducible refine Kd.C_alloc ?_ _) | (with_reducible refine Kd.C_drewN ?_ _) | (with_reducible refine Kd.C_drew ?_))); (case side2 => exact HC1.out); rintro e w19 ⟨v354, rfl, ho0, hb⟩; have n0_ := Aside0.mk (Kd.V_lower (Kd.V_mono (ok' := fun k_ => True) ho0 (fun k_ hk_ => trivial)) (below_size (by repeat (first | (with_reducible first | exact HB.out | apply below_alloc | apply pw_below_drewN | apply below_drew1) | exact HB.out)))); have n1_ := Aside0.mk (below_step (by repeat (first | (with_reducible first | exact HB.out | apply below_alloc | apply pw_below_drewN | apply below_drew1) | exact HB.out)) hb); clear HB; have HO355 := n0_; have HB := n1_; clear n0_ n1_; (try clear hb); (try clear hb2); (try clear hk); (try clear hi); (try clear ho0); obtain ⟨Ao20, co20, eo20⟩ := Kd.V_slice HO355.out; subst eo20) | (go_at_call 12; (with_reducible refine (mime_Parts.calls k2 (fun k_ => True) _ _ t353 t356 _ ?side1 A17.out).mono ?_); (case side1 => exact HO355.out); rintro e w21 ⟨v357, rfl, ho0, hb⟩; have n0_ := Aside0.mk (Kd.V_elder' (by (with_reducible repeat (first | apply Kd.V_alloc | apply Kd.V_drewN | apply Kd.V_drew)); exact HO355.out) (Kd.R_base ho0) hb); have n1_ := Aside0.mk (Kd.R_lower (Kd.R_mono (ok' := fun k_ => True) ho0 (fun _ hk_ => trivial)) (below_size (by repeat (first | (with_reducible first | exact HB.out | apply below_alloc | apply pw_below_drewN | apply below_drew1) | exact HB.out)))); have n2_ := Aside0.mk (below_step (by repeat (first | (with_reducible first | exact HB.out | apply below_alloc | apply pw_below_drewN | apply below_drew1) | exact HB.out)) hb); clear HO355; clear HB; have HO355 := n0_; have HO358 := n1_; have HB := n2_; clear n0_ n1_ n2_; (try clear hb); (try clear hb2); (try clear hk); (try clear hi); (try clear ho0); obtain ⟨Ao22, co22, eo22⟩ := Kd.R_slice HO358.out; subst eo22)))
         go_loopg [12] k2 (fun kq v12 w' => ∃ (x12_3 : Int), v12 = .int .i64 x12_3 ∧ Aside0 (letterboxlaw10_MimeParts.l2 kq l1 t353 t356 x12_3 = some true) ∧ Aside0 (kq ≤ k2) ∧ Aside0 (Kd.V (Kd.int .u8) 5 w' w.heap.size (fun k_ => some k_ ≠ ((.slice Ao22 t356.length co22) : Value).ownBlock) (.slice Ao20 t353.length co20) t353) ∧ Aside0 (Kd.R k34 34 w' w.heap.size (fun _ => True) (.slice Ao22 t356.length co22) t356) ∧ Aside0 (Below w.heap.size w w'))
         case atStart => exact ⟨(0), (by first | rfl | (simp; done) | (simp [*]; done)), H', ⟨Nat.le_refl _⟩, ⟨by (with_reducible repeat (first | apply Kd.V_alloc | apply Kd.V_drewN | apply Kd.V_drew)); exact Kd.V_mono HO355.out (fun _ hk => hk.2)⟩, ⟨by (with_reducible repeat (first | apply Kd.R_alloc | apply Kd.R_drewN | apply Kd.R_drew)); exact HO358.out⟩, ⟨by repeat (first | (with_reducible first | exact HB.out | apply below_alloc | apply pw_below_drewN | apply below_drew1) | exact HB.out)⟩⟩
         case round =>
          clear H'
          try clear c1
          try clear p2
          try clear c3
          try clear p3
          try clear q3
          try clear hx3
          try clear c5
          try clear c6
          try clear p6
          try clear c7
          try clear c8
          try clear c8b0
          try clear c9
          try clear c9b0
          try clear c10
          try clear c10b0
          try clear c11
          try clear c11b0
          try clear c12
          try clear c12b0
          try clear c13
          try clear c13b0
          try clear c14
          try clear c14b0
          try clear c14b1
          try clear c15
          try clear c15b0
          try clear c18
          try clear c18b0
          try clear c18b1
          try clear c18b2
          try clear hx349_0
          try clear hx350_0
          try clear hx351_0
          try clear hx352_0
          try clear p2
          try clear p3
          try clear p349
          try clear p350
          try clear p351
          try clear p352
          try clear p6
          try clear q3
          try clear q349
          try clear q350
          try clear q351
          try clear q352
          obtain ⟨x12_3, rfl, HA, HK3, HO_10, HO_11, HB⟩ := hrel
          cases gk with
          | zero => exact absurd HA.out (by simp [letterboxlaw10_MimeParts.l2])
          | succ k3 =>
           have H := HA.out
           clear HA
           simp only [letterboxlaw10_MimeParts.l2] at H
           by_cases c23 : x12_3 < (t356.length : Int)
           ·rw [if_pos c23] at H
            have c23b0 : decide (x12_3 < (t356.length : Int)) = true := decide_eq_true c23
            clear c23
            have HC24 := Aside0.mk H
            clear H
            go_upto_region 22 with (fail)
            repeat (go_quiet (fail); go_upto_region 22 with (fail))
            go_cut [124] (fun v124 wc => ∃ (kq : Nat) (x124_23 : Bool), v124 = .bool x124_23 ∧ Aside0 (letterboxlaw10_MimeParts.j4 kq l1 t353 t356 x12_3 x124_23 = some true) ∧ Aside0 (kq ≤ k3) ∧ Aside0 (Kd.V (Kd.int .u8) 5 wc w.heap.size (fun k_ => some k_ ≠ ((.slice Ao22 t356.length co22) : Value).ownBlock) (.slice Ao20 t353.length co20) t353) ∧ Aside0 (Kd.R k34 34 wc w.heap.size (fun _ => True) (.slice Ao22 t356.length co22) t356) ∧ Aside0 (Below w.heap.size w wc))
            case first =>
             have H := HC24.out
             clear HC24
             by_cases c25 : 0 ≤ x12_3
             ·rw [if_pos c25] at H
              have c25b0 : decide (0 ≤ x12_3) = true := decide_eq_true c25
              clear c25
              (first | rw [c25b0] | (simp only [i64_w, i32_w]; rw [c25b0]) | skip)
              by_cases c26 : ((rd_T34 t356 x12_3).f0) < 0
              ·rw [if_pos c26] at H
               have c26b0 : decide (((rd_T34 t356 x12_3).f0) < 0) = true := decide_eq_true c26
               clear c26
               have H' := Aside0.mk H
               clear H
               have p367 : 0 ≤ (x12_3 : Int) := of_decide_eq_true (by first | (with_reducible assumption) | assumption)
               have q367 : x12_3 < (t356.length : Int) := of_decide_eq_true (by first | (with_reducible assumption) | assumption)
               obtain ⟨ad367, e367, hx367_0, hx367_1⟩ := at_T34 (Kd.R_reads' HO_11.out).2.2 x12_3 p367 q367
               cases e367
               replace p367 := eq_true p367
               replace q367 := eq_true q367
               go_wp2
               repeat (go_quiet (fail); try go_wp2)
               go_meet
               case rel => exact ⟨_, (true), (by first | rfl | (simp; done) | (simp [*]; done)), H', ⟨by have := HJ3.out; have := HK2.out; have := HK3.out; first | omega | exact Nat.le_refl _⟩, ⟨by (with_reducible repeat (first | apply Kd.V_alloc | apply Kd.V_drewN | apply Kd.V_drew)); exact HO_10.out⟩, ⟨by (with_reducible repeat (first | apply Kd.R_alloc | apply Kd.R_drewN | apply Kd.R_drew)); exact HO_11.out⟩, ⟨by repeat (first | (with_reducible first | exact HB.out | apply below_alloc | apply pw_below_drewN | apply below_drew1) | exact HB.out)⟩⟩
              ·rw [if_neg c26] at H
               have c26b0 : decide (((rd_T34 t356 x12_3).f0) < 0) = false := decide_eq_false c26
               clear c26
               by_cases c27 : ((rd_T34 t356 x12_3).f0) > ((rd_T34 t356 x12_3).f1)
               ·rw [if_pos c27] at H
                have c27b0 : decide (((rd_T34 t356 x12_3).f1) < ((rd_T34 t356 x12_3).f0)) = true := decide_eq_true c27
                clear c27
                have H' := Aside0.mk H
                clear H
                have p367 : 0 ≤ (x12_3 : Int) := of_decide_eq_true (by first | (with_reducible assumption) | assumption)
                have q367 : x12_3 < (t356.length : Int) := of_decide_eq_true (by first | (with_reducible assumption) | assumption)
                obtain ⟨ad367, e367, hx367_0, hx367_1⟩ := at_T34 (Kd.R_reads' HO_11.out).2.2 x12_3 p367 q367
                cases e367
                replace p367 := eq_true p367
                replace q367 := eq_true q367
                have p368 : 0 ≤ (x12_3 : Int) := of_decide_eq_true (by first | (with_reducible assumption) | assumption)
                have q368 : x12_3 < (t356.length : Int) := of_decide_eq_true (by first | (with_reducible assumption) | assumption)
                obtain ⟨ad368, e368, hx368_0, hx368_1⟩ := at_T34 (Kd.R_reads' HO_11.out).2.2 x12_3 p368 q368
                obtain rfl : ad367 = ad368 := (by injection e368)
                replace p368 := eq_true p368
                replace q368 := eq_true q368
                have p369 : 0 ≤ (x12_3 : Int) := of_decide_eq_true (by first | (with_reducible assumption) | assumption)
                have q369 : x12_3 < (t356.length : Int) := of_decide_eq_true (by first | (with_reducible assumption) | assumption)
                obtain ⟨ad369, e369, hx369_0, hx369_1⟩ := at_T34 (Kd.R_reads' HO_11.out).2.2 x12_3 p369 q369
                obtain rfl : ad367 = ad369 := (by injection e369)
                replace p369 := eq_true p369
                replace q369 := eq_true q369
                go_wp2
                repeat (go_quiet (fail); try go_wp2)
                go_meet
                case rel => exact ⟨_, (true), (by first | rfl | (simp; done) | (simp [*]; done)), H', ⟨by have := HJ3.out; have := HK2.out; have := HK3.out; first | omega | exact Nat.le_refl _⟩, ⟨by (with_reducible repeat (first | apply Kd.V_alloc | apply Kd.V_drewN | apply Kd.V_drew)); exact HO_10.out⟩, ⟨by (with_reducible repeat (first | apply Kd.R_alloc | apply Kd.R_drewN | apply Kd.R_drew)); exact HO_11.out⟩, ⟨by repeat (first | (with_reducible first | exact HB.out | apply below_alloc | apply pw_below_drewN | apply below_drew1) | exact HB.out)⟩⟩
               ·rw [if_neg c27] at H
                have c27b0 : decide (((rd_T34 t356 x12_3).f1) < ((rd_T34 t356 x12_3).f0)) = false := decide_eq_false c27
                clear c27
                by_cases c28 : ((rd_T34 t356 x12_3).f1) > (t353.length : Int)
                ·rw [if_pos c28] at H
                 have c28b0 : decide ((t353.length : Int) < ((rd_T34 t356 x12_3).f1)) = true := decide_eq_true c28
                 clear c28
                 have H' := Aside0.mk H
                 clear H
                 have p367 : 0 ≤ (x12_3 : Int) := of_decide_eq_true (by first | (with_reducible assumption) | assumption)
                 have q367 : x12_3 < (t356.length : Int) := of_decide_eq_true (by first | (with_reducible assumption) | assumption)
                 obtain ⟨ad367, e367, hx367_0, hx367_1⟩ := at_T34 (Kd.R_reads' HO_11.out).2.2 x12_3 p367 q367
                 cases e367
                 replace p367 := eq_true p367
                 replace q367 := eq_true q367
                 have p368 : 0 ≤ (x12_3 : Int) := of_decide_eq_true (by first | (with_reducible assumption) | assumption)
                 have q368 : x12_3 < (t356.length : Int) := of_decide_eq_true (by first | (with_reducible assumption) | assumption)
                 obtain ⟨ad368, e368, hx368_0, hx368_1⟩ := at_T34 (Kd.R_reads' HO_11.out).2.2 x12_3 p368 q368
                 obtain rfl : ad367 = ad368 := (by injection e368)
                 replace p368 := eq_true p368
                 replace q368 := eq_true q368
                 have p369 : 0 ≤ (x12_3 : Int) := of_decide_eq_true (by first | (with_reducible assumption) | assumption)
                 have q369 : x12_3 < (t356.length : Int) := of_decide_eq_true (by first | (with_reducible assumption) | assumption)
                 obtain ⟨ad369, e369, hx369_0, hx369_1⟩ := at_T34 (Kd.R_reads' HO_11.out).2.2 x12_3 p369 q369
                 obtain rfl : ad367 = ad369 := (by injection e369)
                 replace p369 := eq_true p369
                 replace q369 := eq_true q369
                 have p370 : 0 ≤ (x12_3 : Int) := of_decide_eq_true (by first | (with_reducible assumption) | assumption)
                 have q370 : x12_3 < (t356.length : Int) := of_decide_eq_true (by first | (with_reducible assumption) | assumption)
                 obtain ⟨ad370, e370, hx370_0, hx370_1⟩ := at_T34 (Kd.R_reads' HO_11.out).2.2 x12_3 p370 q370
                 obtain rfl : ad367 = ad370 := (by injection e370)
                 replace p370 := eq_true p370
                 replace q370 := eq_true q370
                 go_wp2
                 repeat (go_quiet (fail); try go_wp2)
                 go_meet
                 case rel => exact ⟨_, (true), (by first | rfl | (simp; done) | (simp [*]; done)), H', ⟨by have := HJ3.out; have := HK2.out; have := HK3.out; first | omega | exact Nat.le_refl _⟩, ⟨by (with_reducible repeat (first | apply Kd.V_alloc | apply Kd.V_drewN | apply Kd.V_drew)); exact HO_10.out⟩, ⟨by (with_reducible repeat (first | apply Kd.R_alloc | apply Kd.R_drewN | apply Kd.R_drew)); exact HO_11.out⟩, ⟨by repeat (first | (with_reducible first | exact HB.out | apply below_alloc | apply pw_below_drewN | apply below_drew1) | exact HB.out)⟩⟩
                ·rw [if_neg c28] at H
                 have c28b0 : decide ((t353.length : Int) < ((rd_T34 t356 x12_3).f1)) = false := decide_eq_false c28
                 clear c28
                 by_cases c29 : 0 ≤ ((rd_T34 t356 x12_3).f0)
                 ·rw [if_pos c29] at H
                  have c29b0 := eq_true c29
                  have c29b1 : decide (0 ≤ ((rd_T34 t356 x12_3).f0)) = true := decide_eq_true c29
                  clear c29
                  by_cases c30 : ((rd_T34 t356 x12_3).f0) ≤ ((rd_T34 t356 x12_3).f1)
                  ·rw [if_pos c30] at H
                   have c30b0 := eq_true c30
                   have c30b1 : decide (((rd_T34 t356 x12_3).f0) ≤ ((rd_T34 t356 x12_3).f1)) = true := decide_eq_true c30
                   clear c30
                   by_cases c31 : ((rd_T34 t356 x12_3).f1) ≤ (t353.length : Int)
                   ·rw [if_pos c31] at H
                    have c31b0 := eq_true c31
                    have c31b1 : decide (((rd_T34 t356 x12_3).f1) ≤ (t353.length : Int)) = true := decide_eq_true c31
                    clear c31
                    obtain ⟨y373, hy373⟩ : ∃ y_ : List Int, y_ = ((t353.take (((rd_T34 t356 x12_3).f1) : Int).toNat).drop (((rd_T34 t356 x12_3).f0) : Int).toNat) := ⟨_, rfl⟩
                    replace H : (if x12_3 < (l1.length : Int) then (letterboxlaw10_MimeParts.j4 k3 l1 t353 t356 x12_3 ((strOfNums y373).toList != (strOfNums (rd_L1 l1 x12_3)).toList)) else (none)) = some true := by first | (rw [hy373]; with_reducible exact H) | (have H2_ := (Option.bind_some _ _).symm.trans H; rw [hy373]; with_reducible exact H2_) | (have H2_ := (Option.bind_some _ _).symm.trans H; with_reducible exact H2_) | with_reducible exact H | (rw [hy373]; exact H) | exact H
                    have Ny373 := Aside0.mk hy373
                    clear hy373
                    by_cases c32 : x12_3 < (l1.length : Int)
                    ·rw [if_pos c32] at H
                     have c32b0 : decide (x12_3 < (l1.length : Int)) = true := decide_eq_true c32
                     clear c32
                     have H' := Aside0.mk H
                     clear H
                     have p367 : 0 ≤ (x12_3 : Int) := of_decide_eq_true (by first | (with_reducible assumption) | assumption)
                     have q367 : x12_3 < (t356.length : Int) := of_decide_eq_true (by first | (with_reducible assumption) | assumption)
                     obtain ⟨ad367, e367, hx367_0, hx367_1⟩ := at_T34 (Kd.R_reads' HO_11.out).2.2 x12_3 p367 q367
                     cases e367
                     replace p367 := eq_true p367
                     replace q367 := eq_true q367
                     have p368 : 0 ≤ (x12_3 : Int) := of_decide_eq_true (by first | (with_reducible assumption) | assumption)
                     have q368 : x12_3 < (t356.length : Int) := of_decide_eq_true (by first | (with_reducible assumption) | assumption)
                     obtain ⟨ad368, e368, hx368_0, hx368_1⟩ := at_T34 (Kd.R_reads' HO_11.out).2.2 x12_3 p368 q368
                     obtain rfl : ad367 = ad368 := (by injection e368)
                     replace p368 := eq_true p368
                     replace q368 := eq_true q368
                     have p369 : 0 ≤ (x12_3 : Int) := of_decide_eq_true (by first | (with_reducible assumption) | assumption)
                     have q369 : x12_3 < (t356.length : Int) := of_decide_eq_true (by first | (with_reducible assumption) | assumption)
                     obtain ⟨ad369, e369, hx369_0, hx369_1⟩ := at_T34 (Kd.R_reads' HO_11.out).2.2 x12_3 p369 q369
                     obtain rfl : ad367 = ad369 := (by injection e369)
                     replace p369 := eq_true p369
                     replace q369 := eq_true q369
                     have p370 : 0 ≤ (x12_3 : Int) := of_decide_eq_true (by first | (with_reducible assumption) | assumption)
                     have q370 : x12_3 < (t356.length : Int) := of_decide_eq_true (by first | (with_reducible assumption) | assumption)
                     obtain ⟨ad370, e370, hx370_0, hx370_1⟩ := at_T34 (Kd.R_reads' HO_11.out).2.2 x12_3 p370 q370
                     obtain rfl : ad367 = ad370 := (by injection e370)
                     replace p370 := eq_true p370
                     replace q370 := eq_true q370
                     have p371 : 0 ≤ (x12_3 : Int) := of_decide_eq_true (by first | (with_reducible assumption) | assumption)
                     have q371 : x12_3 < (t356.length : Int) := of_decide_eq_true (by first | (with_reducible assumption) | assumption)
                     obtain ⟨ad371, e371, hx371_0, hx371_1⟩ := at_T34 (Kd.R_reads' HO_11.out).2.2 x12_3 p371 q371
                     obtain rfl : ad367 = ad371 := (by injection e371)
                     replace p371 := eq_true p371
                     replace q371 := eq_true q371
                     have p372 : 0 ≤ (x12_3 : Int) := of_decide_eq_true (by first | (with_reducible assumption) | assumption)
                     have q372 : x12_3 < (t356.length : Int) := of_decide_eq_true (by first | (with_reducible assumption) | assumption)
                     obtain ⟨ad372, e372, hx372_0, hx372_1⟩ := at_T34 (Kd.R_reads' HO_11.out).2.2 x12_3 p372 q372
                     obtain rfl : ad367 = ad372 := (by injection e372)
                     replace p372 := eq_true p372
                     replace q372 := eq_true q372
                     have q33 : (((rd_T34 t356 x12_3).f1) : Int) ≤ ((t353.length : Int) : Int) := of_decide_eq_true (by first | (with_reducible assumption) | assumption)
                     obtain ⟨i033, hi033, _, hsz33, _⟩ := info_parts info5
                     have hroom33 : t353.length ≤ co20 := (Kd.V_reads' HO_10.out).2.1
                     have hC33 : Kd.F (Kd.int .u8) _ _ Ao20 t353.length t353 := (Kd.V_at (base := w.heap.size) HO_10.out).2.2
                     have ql33 : (((rd_T34 t356 x12_3).f0) : Int) ≤ (((rd_T34 t356 x12_3).f1) : Int) := of_decide_eq_true (by first | (with_reducible assumption) | assumption)
                     have q033 : (0 : Int) ≤ (((rd_T34 t356 x12_3).f0) : Int) := of_decide_eq_true (by first | (with_reducible assumption) | assumption)
                     have hcut33 := cut_mid (P := Tryd.prog) 22 5 .i64 .i64 Tryd.underlying22 hi033 1 hsz33 Ao20 t353.length co20 ((rd_T34 t356 x12_3).f0) ((rd_T34 t356 x12_3).f1) q033 ql33 q33 hroom33
                     have hr33 := Kd.F_mid (lo := (((rd_T34 t356 x12_3).f0) : Int).toNat) (hi := (((rd_T34 t356 x12_3).f1) : Int).toNat) (c := co20) hC33 (by omega) (by omega) hroom33
                     obtain ⟨A33, hA33⟩ : ∃ A1, A1 = (if co20 = (((rd_T34 t356 x12_3).f0) : Int).toNat then Ao20 else (Ao20 : Option Addr).map (·.add ((((rd_T34 t356 x12_3).f0) : Int).toNat * 1))) := ⟨_, rfl⟩
                     obtain ⟨c33, hc33⟩ : ∃ c1, c1 = co20 - (((rd_T34 t356 x12_3).f0) : Int).toNat := ⟨_, rfl⟩
                     have hy33 : y373.length = (((rd_T34 t356 x12_3).f1) : Int).toNat - (((rd_T34 t356 x12_3).f0) : Int).toNat := (by rw [Ny373.out, List.length_drop, List.length_take] <;> omega)
                     rw [show ((t353).take (((rd_T34 t356 x12_3).f1) : Int).toNat).drop (((rd_T34 t356 x12_3).f0) : Int).toNat = y373 from Ny373.out.symm] at hr33
                     replace hr33 : Kd.F (Kd.int .u8) _ _ A33 y373.length y373 := (by rw [hA33]; exact hr33)
                     rw [← hy33, ← hA33, ← hc33] at hcut33
                     have HO377 := Aside0.mk (show Kd.V (Kd.int .u8) 5 _ w.heap.size _ (.slice A33 y373.length c33) y373 from Kd.V_mk (by rw [hy33, hc33]; exact Nat.sub_le_sub_right (Nat.le_trans (by omega) hroom33) _) hr33)
                     have HC377 := Aside0.mk (show y373.length ≤ c33 from by rw [hy33, hc33]; exact Nat.sub_le_sub_right (Nat.le_trans (by omega) hroom33) _)
                     clear hr33 hC33 hroom33 hi033 hsz33 hc33
                     have KY33 := Aside0.mk hy33
                     have KA33 := Aside0.mk hA33
                     clear hy33 hA33
                     replace q33 := eq_true q33
                     (first | have hcv34 := own_string (P := Tryd.prog) Tryd.underlying22 Tryd.underlying5 Tryd.underlying9 (Kd.own_of_R HO377.out) | have hcv34 := V_string (P := Tryd.prog) Tryd.underlying22 Tryd.underlying5 Tryd.underlying9 HO377.out)
                     (first | have hcw34 := fun q => own_string (P := Tryd.prog) Tryd.underlying22 Tryd.underlying5 Tryd.underlying9 (Kd.own_of_R (Kd.R_drewN HO377.out q)) | have hcw34 := fun q => V_string (P := Tryd.prog) Tryd.underlying22 Tryd.underlying5 Tryd.underlying9 (Kd.V_drewN HO377.out q))
                     have p378 : 0 ≤ (x12_3 : Int) := of_decide_eq_true (by first | (with_reducible assumption) | assumption)
                     have q378 : x12_3 < (l1.length : Int) := of_decide_eq_true (by first | (with_reducible assumption) | assumption)
                     obtain ⟨ad378, A378_0, c378_0, e378, hx378_0, hl378_0, hi378_0⟩ := at_L1 HR1.out x12_3 p378 q378
                     cases e378
                     replace hx378_0 := (HB.out.cell (World.block_lt_of_cell? w _ hx378_0)).trans hx378_0
                     have HR378_0 := Aside0.mk hi378_0
                     have HC378_0 := Aside0.mk hl378_0
                     clear hi378_0 hl378_0
                     replace p378 := eq_true p378
                     replace q378 := eq_true q378
                     have hcv35 := Kd.C_string (P := Tryd.prog) (A := A378_0) (c := c378_0) Tryd.underlying22 Tryd.underlying5 Tryd.underlying9 (Kd.C_below HR378_0.out HB.out)
                     have hcw35 := fun q => Kd.C_string (P := Tryd.prog) (A := A378_0) (c := c378_0) Tryd.underlying22 Tryd.underlying5 Tryd.underlying9 (Kd.C_drewN (Kd.C_below HR378_0.out HB.out) q)
                     go_wp2
                     repeat (go_quiet (fail); try go_wp2)
                     go_meet
                     case rel => exact ⟨_, (((strOfNums y373).toList != (strOfNums (rd_L1 l1 x12_3)).toList)), (by first | rfl | (simp; done) | (simp [*]; done)), H', ⟨by have := HJ3.out; have := HK2.out; have := HK3.out; first | omega | exact Nat.le_refl _⟩, ⟨by (with_reducible repeat (first | apply Kd.V_alloc | apply Kd.V_drewN | apply Kd.V_drew)); exact HO_10.out⟩, ⟨by (with_reducible repeat (first | apply Kd.R_alloc | apply Kd.R_drewN | apply Kd.R_drew)); exact HO_11.out⟩, ⟨by repeat (first | (with_reducible first | exact HB.out | apply below_alloc | apply pw_below_drewN | apply below_drew1) | exact HB.out)⟩⟩
                    ·rw [if_neg c32] at H
                     exact absurd H (by simp)
                   ·rw [if_neg c31] at H
                    exact absurd H (by simp)
                  ·rw [if_neg c30] at H
                   exact absurd H (by simp)
                 ·rw [if_neg c29] at H
                  exact absurd H (by simp)
             ·rw [if_neg c25] at H
              exact absurd H (by simp)
            case rest =>
             clear HC24
             try clear c1
             try clear c2
             try clear p2
             try clear c3
             try clear p3
             try clear q3
             try clear hx3
             try clear hcv3
             try clear c5
             try clear c6
             try clear p6
             try clear c7
             try clear c8
             try clear c8b0
             try clear c9
             try clear c9b0
             try clear c10
             try clear c10b0
             try clear c11
             try clear c11b0
             try clear c12
             try clear c12b0
             try clear c13
             try clear c13b0
             try clear c14
             try clear c14b0
             try clear c14b1
             try clear c15
             try clear c15b0
             try clear c18
             try clear c18b0
             try clear c18b1
             try clear c18b2
             try clear c23
             try clear c23b0
             try clear c25
             try clear c25b0
             try clear c26
             try clear c26b0
             try clear c27
             try clear c27b0
             try clear c28
             try clear c28b0
             try clear c29
             try clear c29b0
             try clear c29b1
             try clear c30
             try clear c30b0
             try clear c30b1
             try clear c31
             try clear c31b0
             try clear c31b1
             try clear c32
             try clear c32b0
             try clear c33
             try clear q33
             try clear c34
             try clear p34
             try clear q34
             try clear hx34
             try clear hcv34
             try clear c35
             try clear p35
             try clear q35
             try clear hx35
             try clear hcv35
             try clear hx349_0
             try clear hx350_0
             try clear hx351_0
             try clear hx352_0
             try clear hx367_0
             try clear hx367_1
             try clear hx368_0
             try clear hx368_1
             try clear hx369_0
             try clear hx369_1
             try clear hx370_0
             try clear hx370_1
             try clear hx371_0
             try clear hx371_1
             try clear hx372_0
             try clear hx372_1
             try clear hx378_0
             try clear p2
             try clear p3
             try clear p349
             try clear p350
             try clear p351
             try clear p352
             try clear p367
             try clear p368
             try clear p369
             try clear p370
             try clear p371
             try clear p372
             try clear p378
             try clear p6
             try clear q033
             try clear q3
             try clear q33
             try clear q349
             try clear q350
             try clear q351
             try clear q352
             try clear q367
             try clear q368
             try clear q369
             try clear q370
             try clear q371
             try clear q372
             try clear q378
             obtain ⟨kq, x124_23, rfl, HA, HJ23, HO_10, HO_11, HB⟩ := hcut
             cases kq with
             | zero => exact absurd HA.out (by simp [letterboxlaw10_MimeParts.j4])
             | succ kj23 =>
              have H := HA.out
              clear HA
              simp only [letterboxlaw10_MimeParts.j4] at H
              by_cases c36 : x124_23 = true
              ·subst c36
               have H1 : (some false) = some true := by rw [if_pos rfl] at H; exact H
               clear H
               have H := H1
               clear H1
               exact absurd H (by repeat' first | exact NT.none | exact NT.false | refine NT.ite ?_ ?_ | refine NT.bind (fun _ => ?_))
              ·replace c36 := Bool.eq_false_iff.mpr c36
               subst c36
               have H1 : ((mime_Section.f kj23 t353 (([wrap64 (x12_3 + 1)] : List Int))).bind fun bt382 => (if bt382.2 = true then (if 0 ≤ x12_3 then (if x12_3 < (l1.length : Int) then (if (strOfNums bt382.1).toList = (strOfNums (rd_L1 l1 x12_3)).toList then (letterboxlaw10_MimeParts.l2 kj23 l1 t353 t356 (wrap64 (x12_3 + 1))) else (some false)) else (none)) else (none)) else (some false))) = some true := by rw [if_neg (show ¬ (false = true) by decide)] at H; exact H
               clear H
               have H := H1
               clear H1
               obtain ⟨y379, hy379⟩ : ∃ y_ : List Int, y_ = (([wrap64 (x12_3 + 1)] : List Int)) := ⟨_, rfl⟩
               replace H : ((mime_Section.f kj23 t353 y379).bind fun bt382 => (if bt382.2 = true then (if 0 ≤ x12_3 then (if x12_3 < (l1.length : Int) then (if (strOfNums bt382.1).toList = (strOfNums (rd_L1 l1 x12_3)).toList then (letterboxlaw10_MimeParts.l2 kj23 l1 t353 t356 (wrap64 (x12_3 + 1))) else (some false)) else (none)) else (none)) else (some false))) = some true := by first | (rw [hy379]; with_reducible exact H) | (have H2_ := (Option.bind_some _ _).symm.trans H; rw [hy379]; with_reducible exact H2_) | (have H2_ := (Option.bind_some _ _).symm.trans H; with_reducible exact H2_) | with_reducible exact H | (rw [hy379]; exact H) | exact H
               have Ny379 := Aside0.mk hy379
               clear hy379
               replace H := Option.bind_eq_some_iff.mp H
               obtain ⟨⟨t382, t385⟩, A370, H⟩ := H
               replace H : (if t385 = true then (if 0 ≤ x12_3 then (if x12_3 < (l1.length : Int) then (if (strOfNums t382).toList = (strOfNums (rd_L1 l1 x12_3)).toList then (letterboxlaw10_MimeParts.l2 kj23 l1 t353 t356 (wrap64 (x12_3 + 1))) else (some false)) else (none)) else (none)) else (some false)) = some true := H
               have A37 := Aside0.mk A370
               clear A370
               by_cases c38 : t385 = true
               ·subst c38
                have H1 : (if 0 ≤ x12_3 then (if x12_3 < (l1.length : Int) then (if (strOfNums t382).toList = (strOfNums (rd_L1 l1 x12_3)).toList then (letterboxlaw10_MimeParts.l2 kj23 l1 t353 t356 (wrap64 (x12_3 + 1))) else (some false)) else (none)) else (none)) = some true := by rw [if_pos rfl] at H; exact H
                clear H
                have H := H1
                clear H1
                by_cases c39 : 0 ≤ x12_3
                ·rw [if_pos c39] at H
                 have c39b0 : decide (0 ≤ x12_3) = true := decide_eq_true c39
                 clear c39
                 by_cases c40 : x12_3 < (l1.length : Int)
                 ·rw [if_pos c40] at H
                  have c40b0 : decide (x12_3 < (l1.length : Int)) = true := decide_eq_true c40
                  clear c40
                  by_cases c41 : (strOfNums t382).toList = (strOfNums (rd_L1 l1 x12_3)).toList
                  ·rw [if_pos c41] at H
                   have c41b0 : ((strOfNums t382).toList == (strOfNums (rd_L1 l1 x12_3)).toList) = true := beq_iff_eq.mpr c41
                   have c41b1 : ((strOfNums t382).toList != (strOfNums (rd_L1 l1 x12_3)).toList) = false := bne_eq_false_iff_eq.mpr c41
                   clear c41
                   have H' := Aside0.mk H
                   clear H
                   go_wp2_with (first | ((with_reducible refine gate_dst (N := 129) rfl ?_); (try (refine gate_guard (by rfl) ?_; dsimp only)); refine Kd.R_lit (Kd.int .i64) _ 3 ?hg (N := 129) ?hd (xs := ([wrap64 (x12_3 + 1)] : List Int)) (inner := [.int .i64 (wrap64 (x12_3 + 1))]) (ok := fun _ => True) (okp := fun _ => True) ?hr ?hp (fun _ hk => hk) trivial (Below.refl _ _) (Nat.le_refl _) (by simp) ?_; (case hd => rfl); (case hg => rfl); (case hr => first | (go_simp; done) | (go_simp; rfl)); (case hp => exact (Reps.one (show Kd.M (Kd.int .i64) _ _ _ (wrap64 (x12_3 + 1)) [.int .i64 (wrap64 (x12_3 + 1))] from rfl) (Reps.none _ _))); intro v380 w42 ho43 hb hg_ hnew_; clear hg_ hnew_; (first | rw [← Ny379.out] at ho43 | (simp only [Int.reduceToNat] at ho43; rw [← Ny379.out] at ho43)); have n0_ := Aside0.mk (Kd.V_elder' (by (with_reducible repeat (first | apply Kd.V_alloc | apply Kd.V_drewN | apply Kd.V_drew)); exact HO_10.out) (Kd.R_base ho43) hb); have n1_ := Aside0.mk (Kd.R_below (by (with_reducible repeat (first | apply Kd.R_alloc | apply Kd.R_drewN | apply Kd.R_drew)); exact HO_11.out) hb); have n2_ := Aside0.mk (Kd.R_lower ho43 (below_size (by repeat (first | (with_reducible first | exact HB.out | apply below_alloc | apply pw_below_drewN | apply below_drew1) | exact HB.out)))); have n3_ := Aside0.mk (below_step (by repeat (first | (with_reducible first | exact HB.out | apply below_alloc | apply pw_below_drewN | apply below_drew1) | exact HB.out)) hb); clear HO_10; clear HO_11; clear HB; have HO_10 := n0_; have HO_11 := n1_; have HO381 := n2_; have HB := n3_; clear n0_ n1_ n2_ n3_; clear hb ho43; obtain ⟨Ao44, co44, eo44⟩ := Kd.R_slice HO381.out; subst eo44) | (go_at_call 9; (with_reducible refine (mime_Section.calls kj23 (fun k_ => (some k_ ≠ (.slice Ao22 t356.length co22 : Value).ownBlock ∧ some k_ ≠ (.slice Ao44 y379.length co44 : Value).ownBlock)) _ _ t353 _ _ y379 t382 true _ ?side1 ?side2 ?side3 A37.out).mono ?_); (case side1 => exact HO_10.out); (case side2 => repeat (first | exact (Kd.R_reads' HO381.out).2.2 | (with_reducible refine Kd.C_alloc ?_ _) | (with_reducible refine Kd.C_drewN ?_ _) | (with_reducible refine Kd.C_drew ?_))); (case side3 => exact (Kd.R_reads' HO381.out).2.1); rintro e w45 ⟨v383, rfl, ho0, hb⟩; have n0_ := Aside0.mk (Kd.V_elder' (by (with_reducible repeat (first | apply Kd.V_alloc | apply Kd.V_drewN | apply Kd.V_drew)); exact HO_10.out) (Kd.R_base ho0) hb); have n1_ := Aside0.mk (Kd.R_below (by (with_reducible repeat (first | apply Kd.R_alloc | apply Kd.R_drewN | apply Kd.R_drew)); exact HO_11.out) hb); have n2_ := Aside0.mk (Kd.R_below (by (with_reducible repeat (first | apply Kd.R_alloc | apply Kd.R_drewN | apply Kd.R_drew)); exact HO381.out) hb); have n3_ := Aside0.mk (Kd.R_lower (Kd.R_mono (ok' := fun k_ => True) ho0 (fun _ hk_ => trivial)) (below_size (by repeat (first | (with_reducible first | exact HB.out | apply below_alloc | apply pw_below_drewN | apply below_drew1) | exact HB.out)))); have n4_ := Aside0.mk (below_step (by repeat (first | (with_reducible first | exact HB.out | apply below_alloc | apply pw_below_drewN | apply below_drew1) | exact HB.out)) hb); clear HO_10; clear HO_11; clear HO381; clear HB; have HO_10 := n0_; have HO_11 := n1_; have HO381 := n2_; have HO384 := n3_; have HB := n4_; clear n0_ n1_ n2_ n3_ n4_; (try clear hb); (try clear hb2); (try clear hk); (try clear hi); (try clear ho0); (first | have hcv46 := own_string (P := Tryd.prog) Tryd.underlying22 Tryd.underlying5 Tryd.underlying9 (Kd.own_of_R HO384.out) | have hcv46 := V_string (P := Tryd.prog) Tryd.underlying22 Tryd.underlying5 Tryd.underlying9 HO384.out); (first | have hcw46 := fun q => own_string (P := Tryd.prog) Tryd.underlying22 Tryd.underlying5 Tryd.underlying9 (Kd.own_of_R (Kd.R_drewN HO384.out q)) | have hcw46 := fun q => V_string (P := Tryd.prog) Tryd.underlying22 Tryd.underlying5 Tryd.underlying9 (Kd.V_drewN HO384.out q)); have p386 : 0 ≤ (x12_3 : Int) := of_decide_eq_true (by first | (with_reducible assumption) | assumption); have q386 : x12_3 < (l1.length : Int) := of_decide_eq_true (by first | (with_reducible assumption) | assumption); obtain ⟨ad386, A386_0, c386_0, e386, hx386_0, hl386_0, hi386_0⟩ := at_L1 HR1.out x12_3 p386 q386; cases e386; replace hx386_0 := (HB.out.cell (World.block_lt_of_cell? w _ hx386_0)).trans hx386_0; have HR386_0 := Aside0.mk hi386_0; have HC386_0 := Aside0.mk hl386_0; clear hi386_0 hl386_0; replace p386 := eq_true p386; replace q386 := eq_true q386; have hcv47 := Kd.C_string (P := Tryd.prog) (A := A386_0) (c := c386_0) Tryd.underlying22 Tryd.underlying5 Tryd.underlying9 (Kd.C_below HR386_0.out HB.out); have hcw47 := fun q => Kd.C_string (P := Tryd.prog) (A := A386_0) (c := c386_0) Tryd.underlying22 Tryd.underlying5 Tryd.underlying9 (Kd.C_drewN (Kd.C_below HR386_0.out HB.out) q)))
                   repeat (go_quiet (first | ((with_reducible refine gate_dst (N := 129) rfl ?_); (try (refine gate_guard (by rfl) ?_; dsimp only)); refine Kd.R_lit (Kd.int .i64) _ 3 ?hg (N := 129) ?hd (xs := ([wrap64 (x12_3 + 1)] : List Int)) (inner := [.int .i64 (wrap64 (x12_3 + 1))]) (ok := fun _ => True) (okp := fun _ => True) ?hr ?hp (fun _ hk => hk) trivial (Below.refl _ _) (Nat.le_refl _) (by simp) ?_; (case hd => rfl); (case hg => rfl); (case hr => first | (go_simp; done) | (go_simp; rfl)); (case hp => exact (Reps.one (show Kd.M (Kd.int .i64) _ _ _ (wrap64 (x12_3 + 1)) [.int .i64 (wrap64 (x12_3 + 1))] from rfl) (Reps.none _ _))); intro v380 w42 ho43 hb hg_ hnew_; clear hg_ hnew_; (first | rw [← Ny379.out] at ho43 | (simp only [Int.reduceToNat] at ho43; rw [← Ny379.out] at ho43)); have n0_ := Aside0.mk (Kd.V_elder' (by (with_reducible repeat (first | apply Kd.V_alloc | apply Kd.V_drewN | apply Kd.V_drew)); exact HO_10.out) (Kd.R_base ho43) hb); have n1_ := Aside0.mk (Kd.R_below (by (with_reducible repeat (first | apply Kd.R_alloc | apply Kd.R_drewN | apply Kd.R_drew)); exact HO_11.out) hb); have n2_ := Aside0.mk (Kd.R_lower ho43 (below_size (by repeat (first | (with_reducible first | exact HB.out | apply below_alloc | apply pw_below_drewN | apply below_drew1) | exact HB.out)))); have n3_ := Aside0.mk (below_step (by repeat (first | (with_reducible first | exact HB.out | apply below_alloc | apply pw_below_drewN | apply below_drew1) | exact HB.out)) hb); clear HO_10; clear HO_11; clear HB; have HO_10 := n0_; have HO_11 := n1_; have HO381 := n2_; have HB := n3_; clear n0_ n1_ n2_ n3_; clear hb ho43; obtain ⟨Ao44, co44, eo44⟩ := Kd.R_slice HO381.out; subst eo44) | (go_at_call 9; (with_reducible refine (mime_Section.calls kj23 (fun k_ => (some k_ ≠ (.slice Ao22 t356.length co22 : Value).ownBlock ∧ some k_ ≠ (.slice Ao44 y379.length co44 : Value).ownBlock)) _ _ t353 _ _ y379 t382 true _ ?side1 ?side2 ?side3 A37.out).mono ?_); (case side1 => exact HO_10.out); (case side2 => repeat (first | exact (Kd.R_reads' HO381.out).2.2 | (with_reducible refine Kd.C_alloc ?_ _) | (with_reducible refine Kd.C_drewN ?_ _) | (with_reducible refine Kd.C_drew ?_))); (case side3 => exact (Kd.R_reads' HO381.out).2.1); rintro e w45 ⟨v383, rfl, ho0, hb⟩; have n0_ := Aside0.mk (Kd.V_elder' (by (with_reducible repeat (first | apply Kd.V_alloc | apply Kd.V_drewN | apply Kd.V_drew)); exact HO_10.out) (Kd.R_base ho0) hb); have n1_ := Aside0.mk (Kd.R_below (by (with_reducible repeat (first | apply Kd.R_alloc | apply Kd.R_drewN | apply Kd.R_drew)); exact HO_11.out) hb); have n2_ := Aside0.mk (Kd.R_below (by (with_reducible repeat (first | apply Kd.R_alloc | apply Kd.R_drewN | apply Kd.R_drew)); exact HO381.out) hb); have n3_ := Aside0.mk (Kd.R_lower (Kd.R_mono (ok' := fun k_ => True) ho0 (fun _ hk_ => trivial)) (below_size (by repeat (first | (with_reducible first | exact HB.out | apply below_alloc | apply pw_below_drewN | apply below_drew1) | exact HB.out)))); have n4_ := Aside0.mk (below_step (by repeat (first | (with_reducible first | exact HB.out | apply below_alloc | apply pw_below_drewN | apply below_drew1) | exact HB.out)) hb); clear HO_10; clear HO_11; clear HO381; clear HB; have HO_10 := n0_; have HO_11 := n1_; have HO381 := n2_; have HO384 := n3_; have HB := n4_; clear n0_ n1_ n2_ n3_ n4_; (try clear hb); (try clear hb2); (try clear hk); (try clear hi); (try clear ho0); (first | have hcv46 := own_string (P := Tryd.prog) Tryd.underlying22 Tryd.underlying5 Tryd.underlying9 (Kd.own_of_R HO384.out) | have hcv46 := V_string (P := Tryd.prog) Tryd.underlying22 Tryd.underlying5 Tryd.underlying9 HO384.out); (first | have hcw46 := fun q => own_string (P := Tryd.prog) Tryd.underlying22 Tryd.underlying5 Tryd.underlying9 (Kd.own_of_R (Kd.R_drewN HO384.out q)) | have hcw46 := fun q => V_string (P := Tryd.prog) Tryd.underlying22 Tryd.underlying5 Tryd.underlying9 (Kd.V_drewN HO384.out q)); have p386 : 0 ≤ (x12_3 : Int) := of_decide_eq_true (by first | (with_reducible assumption) | assumption); have q386 : x12_3 < (l1.length : Int) := of_decide_eq_true (by first | (with_reducible assumption) | assumption); obtain ⟨ad386, A386_0, c386_0, e386, hx386_0, hl386_0, hi386_0⟩ := at_L1 HR1.out x12_3 p386 q386; cases e386; replace hx386_0 := (HB.out.cell (World.block_lt_of_cell? w _ hx386_0)).trans hx386_0; have HR386_0 := Aside0.mk hi386_0; have HC386_0 := Aside0.mk hl386_0; clear hi386_0 hl386_0; replace p386 := eq_true p386; replace q386 := eq_true q386; have hcv47 := Kd.C_string (P := Tryd.prog) (A := A386_0) (c := c386_0) Tryd.underlying22 Tryd.underlying5 Tryd.underlying9 (Kd.C_below HR386_0.out HB.out); have hcw47 := fun q => Kd.C_string (P := Tryd.prog) (A := A386_0) (c := c386_0) Tryd.underlying22 Tryd.underlying5 Tryd.underlying9 (Kd.C_drewN (Kd.C_below HR386_0.out HB.out) q))); try go_wp2_with (first | ((with_reducible refine gate_dst (N := 129) rfl ?_); (try (refine gate_guard (by rfl) ?_; dsimp only)); refine Kd.R_lit (Kd.int .i64) _ 3 ?hg (N := 129) ?hd (xs := ([wrap64 (x12_3 + 1)] : List Int)) (inner := [.int .i64 (wrap64 (x12_3 + 1))]) (ok := fun _ => True) (okp := fun _ => True) ?hr ?hp (fun _ hk => hk) trivial (Below.refl _ _) (Nat.le_refl _) (by simp) ?_; (case hd => rfl); (case hg => rfl); (case hr => first | (go_simp; done) | (go_simp; rfl)); (case hp => exact (Reps.one (show Kd.M (Kd.int .i64) _ _ _ (wrap64 (x12_3 + 1)) [.int .i64 (wrap64 (x12_3 + 1))] from rfl) (Reps.none _ _))); intro v380 w42 ho43 hb hg_ hnew_; clear hg_ hnew_; (first | rw [← Ny379.out] at ho43 | (simp only [Int.reduceToNat] at ho43; rw [← Ny379.out] at ho43)); have n0_ := Aside0.mk (Kd.V_elder' (by (with_reducible repeat (first | apply Kd.V_alloc | apply Kd.V_drewN | apply Kd.V_drew)); exact HO_10.out) (Kd.R_base ho43) hb); have n1_ := Aside0.mk (Kd.R_below (by (with_reducible repeat (first | apply Kd.R_alloc | apply Kd.R_drewN | apply Kd.R_drew)); exact HO_11.out) hb); have n2_ := Aside0.mk (Kd.R_lower ho43 (below_size (by repeat (first | (with_reducible first | exact HB.out | apply below_alloc | apply pw_below_drewN | apply below_drew1) | exact HB.out)))); have n3_ := Aside0.mk (below_step (by repeat (first | (with_reducible first | exact HB.out | apply below_alloc | apply pw_below_drewN | apply below_drew1) | exact HB.out)) hb); clear HO_10; clear HO_11; clear HB; have HO_10 := n0_; have HO_11 := n1_; have HO381 := n2_; have HB := n3_; clear n0_ n1_ n2_ n3_; clear hb ho43; obtain ⟨Ao44, co44, eo44⟩ := Kd.R_slice HO381.out; subst eo44) | (go_at_call 9; (with_reducible refine (mime_Section.calls kj23 (fun k_ => (some k_ ≠ (.slice Ao22 t356.length co22 : Value).ownBlock ∧ some k_ ≠ (.slice Ao44 y379.length co44 : Value).ownBlock)) _ _ t353 _ _ y379 t382 true _ ?side1 ?side2 ?side3 A37.out).mono ?_); (case side1 => exact HO_10.out); (case side2 => repeat (first | exact (Kd.R_reads' HO381.out).2.2 | (with_reducible refine Kd.C_alloc ?_ _) | (with_reducible refine Kd.C_drewN ?_ _) | (with_reducible refine Kd.C_drew ?_))); (case side3 => exact (Kd.R_reads' HO381.out).2.1); rintro e w45 ⟨v383, rfl, ho0, hb⟩; have n0_ := Aside0.mk (Kd.V_elder' (by (with_reducible repeat (first | apply Kd.V_alloc | apply Kd.V_drewN | apply Kd.V_drew)); exact HO_10.out) (Kd.R_base ho0) hb); have n1_ := Aside0.mk (Kd.R_below (by (with_reducible repeat (first | apply Kd.R_alloc | apply Kd.R_drewN | apply Kd.R_drew)); exact HO_11.out) hb); have n2_ := Aside0.mk (Kd.R_below (by (with_reducible repeat (first | apply Kd.R_alloc | apply Kd.R_drewN | apply Kd.R_drew)); exact HO381.out) hb); have n3_ := Aside0.mk (Kd.R_lower (Kd.R_mono (ok' := fun k_ => True) ho0 (fun _ hk_ => trivial)) (below_size (by repeat (first | (with_reducible first | exact HB.out | apply below_alloc | apply pw_below_drewN | apply below_drew1) | exact HB.out)))); have n4_ := Aside0.mk (below_step (by repeat (first | (with_reducible first | exact HB.out | apply below_alloc | apply pw_below_drewN | apply below_drew1) | exact HB.out)) hb); clear HO_10; clear HO_11; clear HO381; clear HB; have HO_10 := n0_; have HO_11 := n1_; have HO381 := n2_; have HO384 := n3_; have HB := n4_; clear n0_ n1_ n2_ n3_ n4_; (try clear hb); (try clear hb2); (try clear hk); (try clear hi); (try clear ho0); (first | have hcv46 := own_string (P := Tryd.prog) Tryd.underlying22 Tryd.underlying5 Tryd.underlying9 (Kd.own_of_R HO384.out) | have hcv46 := V_string (P := Tryd.prog) Tryd.underlying22 Tryd.underlying5 Tryd.underlying9 HO384.out); (first | have hcw46 := fun q => own_string (P := Tryd.prog) Tryd.underlying22 Tryd.underlying5 Tryd.underlying9 (Kd.own_of_R (Kd.R_drewN HO384.out q)) | have hcw46 := fun q => V_string (P := Tryd.prog) Tryd.underlying22 Tryd.underlying5 Tryd.underlying9 (Kd.V_drewN HO384.out q)); have p386 : 0 ≤ (x12_3 : Int) := of_decide_eq_true (by first | (with_reducible assumption) | assumption); have q386 : x12_3 < (l1.length : Int) := of_decide_eq_true (by first | (with_reducible assumption) | assumption); obtain ⟨ad386, A386_0, c386_0, e386, hx386_0, hl386_0, hi386_0⟩ := at_L1 HR1.out x12_3 p386 q386; cases e386; replace hx386_0 := (HB.out.cell (World.block_lt_of_cell? w _ hx386_0)).trans hx386_0; have HR386_0 := Aside0.mk hi386_0; have HC386_0 := Aside0.mk hl386_0; clear hi386_0 hl386_0; replace p386 := eq_true p386; replace q386 := eq_true q386; have hcv47 := Kd.C_string (P := Tryd.prog) (A := A386_0) (c := c386_0) Tryd.underlying22 Tryd.underlying5 Tryd.underlying9 (Kd.C_below HR386_0.out HB.out); have hcw47 := fun q => Kd.C_string (P := Tryd.prog) (A := A386_0) (c := c386_0) Tryd.underlying22 Tryd.underlying5 Tryd.underlying9 (Kd.C_drewN (Kd.C_below HR386_0.out HB.out) q))))
                   go_roundg kj23
                   case measure => have := HJ3.out; have := HK2.out; have := HK3.out; have := HJ23.out; omega
                   case rel => exact ⟨(wrap64 (x12_3 + 1)), (by first | rfl | (simp; done) | (simp [*]; done)), H', ⟨by have := HJ3.out; have := HK2.out; have := HK3.out; have := HJ23.out; omega⟩, ⟨by (with_reducible repeat (first | apply Kd.V_alloc | apply Kd.V_drewN | apply Kd.V_drew)); exact Kd.V_mono HO_10.out (fun _ hk => hk.1.1)⟩, ⟨by (with_reducible repeat (first | apply Kd.R_alloc | apply Kd.R_drewN | apply Kd.R_drew)); exact HO_11.out⟩, ⟨by repeat (first | (with_reducible first | exact HB.out | apply below_alloc | apply pw_below_drewN | apply below_drew1) | exact HB.out)⟩⟩
                  ·rw [if_neg c41] at H
                   have c41b0 : ((strOfNums t382).toList == (strOfNums (rd_L1 l1 x12_3)).toList) = false := beq_eq_false_iff_ne.mpr c41
                   have c41b1 : ((strOfNums t382).toList != (strOfNums (rd_L1 l1 x12_3)).toList) = true := bne_iff_ne.mpr c41
                   exact absurd H (by repeat' first | exact NT.none | exact NT.false | refine NT.ite ?_ ?_ | refine NT.bind (fun _ => ?_))
                 ·rw [if_neg c40] at H
                  exact absurd H (by simp)
                ·rw [if_neg c39] at H
                 exact absurd H (by simp)
               ·replace c38 := Bool.eq_false_iff.mpr c38
                subst c38
                have H1 : (some false) = some true := by rw [if_neg (show ¬ (false = true) by decide)] at H; exact H
                clear H
                have H := H1
                clear H1
                exact absurd H (by repeat' first | exact NT.none | exact NT.false | refine NT.ite ?_ ?_ | refine NT.bind (fun _ => ?_))
           ·rw [if_neg c23] at H
            have c23b0 : decide (x12_3 < (t356.length : Int)) = false := decide_eq_false c23
            clear c23
            obtain ⟨y359, hy359⟩ : ∃ y_ : List Int, y_ = (([wrap64 ((l1.length : Int) + 1)] : List Int)) := ⟨_, rfl⟩
            replace H : ((mime_Section.f k3 t353 y359).bind fun bt362 => (if (bt362.2 == ((l1.length : Int) == 0)) = true then ((letterboxlaw10_known.f k3).bind fun t366 => (some t366)) else (some false))) = some true := by first | (rw [hy359]; with_reducible exact H) | (have H2_ := (Option.bind_some _ _).symm.trans H; rw [hy359]; with_reducible exact H2_) | (have H2_ := (Option.bind_some _ _).symm.trans H; with_reducible exact H2_) | with_reducible exact H | (rw [hy359]; exact H) | exact H
            have Ny359 := Aside0.mk hy359
            clear hy359
            replace H := Option.bind_eq_some_iff.mp H
            obtain ⟨⟨t362, t365⟩, A480, H⟩ := H
            replace H : (if (t365 == ((l1.length : Int) == 0)) = true then ((letterboxlaw10_known.f k3).bind fun t366 => (some t366)) else (some false)) = some true := H
            have A48 := Aside0.mk A480
            clear A480
            by_cases c49 : (t365 == ((l1.length : Int) == 0)) = true
            ·rw [if_pos c49] at H
             have c49b0 : (t365 == ((l1.length : Int) == 0)) = true := c49
             (try (have c49b1 : decide (t365 = ((l1.length : Int) == 0)) = true := by simpa using c49))
             (try (have c49b2 : (t365 == ((l1.length : Int) == 0)) = true := by simpa using c49))
             clear c49
             replace H := Option.bind_eq_some_iff.mp H
             obtain ⟨t366, A500, H⟩ := H
             replace H : (some t366) = some true := H
             have A50 := Aside0.mk A500
             clear A500
             have Hr_ := Option.some.inj H
             go_wp2_with (first | ((with_reducible refine gate_dst (N := 150) rfl ?_); (try (refine gate_guard (by rfl) ?_; dsimp only)); refine Kd.R_lit (Kd.int .i64) _ 3 ?hg (N := 150) ?hd (xs := ([wrap64 ((l1.length : Int) + 1)] : List Int)) (inner := [.int .i64 (wrap64 ((l1.length : Int) + 1))]) (ok := fun _ => True) (okp := fun _ => True) ?hr ?hp (fun _ hk => hk) trivial (Below.refl _ _) (Nat.le_refl _) (by simp) ?_; (case hd => rfl); (case hg => rfl); (case hr => first | (go_simp; done) | (go_simp; rfl)); (case hp => exact (Reps.one (show Kd.M (Kd.int .i64) _ _ _ (wrap64 ((l1.length : Int) + 1)) [.int .i64 (wrap64 ((l1.length : Int) + 1))] from rfl) (Reps.none _ _))); intro v360 w51 ho52 hb hg_ hnew_; clear hg_ hnew_; (first | rw [← Ny359.out] at ho52 | (simp only [Int.reduceToNat] at ho52; rw [← Ny359.out] at ho52)); have n0_ := Aside0.mk (Kd.V_elder' (by (with_reducible repeat (first | apply Kd.V_alloc | apply Kd.V_drewN | apply Kd.V_drew)); exact HO_10.out) (Kd.R_base ho52) hb); have n1_ := Aside0.mk (Kd.R_below (by (with_reducible repeat (first | apply Kd.R_alloc | apply Kd.R_drewN | apply Kd.R_drew)); exact HO_11.out) hb); have n2_ := Aside0.mk (Kd.R_lower ho52 (below_size (by repeat (first | (with_reducible first | exact HB.out | apply below_alloc | apply pw_below_drewN | apply below_drew1) | exact HB.out)))); have n3_ := Aside0.mk (below_step (by repeat (first | (with_reducible first | exact HB.out | apply below_alloc | apply pw_below_drewN | apply below_drew1) | exact HB.out)) hb); clear HO_10; clear HO_11; clear HB; have HO_10 := n0_; have HO_11 := n1_; have HO361 := n2_; have HB := n3_; clear n0_ n1_ n2_ n3_; clear hb ho52; obtain ⟨Ao53, co53, eo53⟩ := Kd.R_slice HO361.out; subst eo53) | (go_at_call 9; (with_reducible refine (mime_Section.calls k3 (fun k_ => (some k_ ≠ (.slice Ao22 t356.length co22 : Value).ownBlock ∧ some k_ ≠ (.slice Ao53 y359.length co53 : Value).ownBlock)) _ _ t353 _ _ y359 t362 t365 _ ?side1 ?side2 ?side3 A48.out).mono ?_); (case side1 => exact HO_10.out); (case side2 => repeat (first | exact (Kd.R_reads' HO361.out).2.2 | (with_reducible refine Kd.C_alloc ?_ _) | (with_reducible refine Kd.C_drewN ?_ _) | (with_reducible refine Kd.C_drew ?_))); (case side3 => exact (Kd.R_reads' HO361.out).2.1); rintro e w54 ⟨v363, rfl, ho0, hb⟩; have n0_ := Aside0.mk (Kd.V_elder' (by (with_reducible repeat (first | apply Kd.V_alloc | apply Kd.V_drewN | apply Kd.V_drew)); exact HO_10.out) (Kd.R_base ho0) hb); have n1_ := Aside0.mk (Kd.R_below (by (with_reducible repeat (first | apply Kd.R_alloc | apply Kd.R_drewN | apply Kd.R_drew)); exact HO_11.out) hb); have n2_ := Aside0.mk (Kd.R_below (by (with_reducible repeat (first | apply Kd.R_alloc | apply Kd.R_drewN | apply Kd.R_drew)); exact HO361.out) hb); have n3_ := Aside0.mk (Kd.R_lower (Kd.R_mono (ok' := fun k_ => True) ho0 (fun _ hk_ => trivial)) (below_size (by repeat (first | (with_reducible first | exact HB.out | apply below_alloc | apply pw_below_drewN | apply below_drew1) | exact HB.out)))); have n4_ := Aside0.mk (below_step (by repeat (first | (with_reducible first | exact HB.out | apply below_alloc | apply pw_below_drewN | apply below_drew1) | exact HB.out)) hb); clear HO_10; clear HO_11; clear HO361; clear HB; have HO_10 := n0_; have HO_11 := n1_; have HO361 := n2_; have HO364 := n3_; have HB := n4_; clear n0_ n1_ n2_ n3_ n4_; (try clear hb); (try clear hb2); (try clear hk); (try clear hi); (try clear ho0)) | (go_at_call 10; (with_reducible refine (letterboxlaw10_known.calls k3  t366 _ A50.out).mono ?_); rintro e w55 ⟨rfl, hb⟩; have n0_ := Aside0.mk (Kd.V_below (by (with_reducible repeat (first | apply Kd.V_alloc | apply Kd.V_drewN | apply Kd.V_drew)); exact HO_10.out) hb); have n1_ := Aside0.mk (Kd.R_below (by (with_reducible repeat (first | apply Kd.R_alloc | apply Kd.R_drewN | apply Kd.R_drew)); exact HO_11.out) hb); have n2_ := Aside0.mk (Kd.R_below (by (with_reducible repeat (first | apply Kd.R_alloc | apply Kd.R_drewN | apply Kd.R_drew)); exact HO361.out) hb); have n3_ := Aside0.mk (Kd.R_below (by (with_reducible repeat (first | apply Kd.R_alloc | apply Kd.R_drewN | apply Kd.R_drew)); exact HO364.out) hb); have n4_ := Aside0.mk (below_step (by repeat (first | (with_reducible first | exact HB.out | apply below_alloc | apply pw_below_drewN | apply below_drew1) | exact HB.out)) hb); clear HO_10; clear HO_11; clear HO361; clear HO364; clear HB; have HO_10 := n0_; have HO_11 := n1_; have HO361 := n2_; have HO364 := n3_; have HB := n4_; clear n0_ n1_ n2_ n3_ n4_; (try clear hb); (try clear hb2); (try clear hk); (try clear hi)))
             repeat (go_quiet (first | ((with_reducible refine gate_dst (N := 150) rfl ?_); (try (refine gate_guard (by rfl) ?_; dsimp only)); refine Kd.R_lit (Kd.int .i64) _ 3 ?hg (N := 150) ?hd (xs := ([wrap64 ((l1.length : Int) + 1)] : List Int)) (inner := [.int .i64 (wrap64 ((l1.length : Int) + 1))]) (ok := fun _ => True) (okp := fun _ => True) ?hr ?hp (fun _ hk => hk) trivial (Below.refl _ _) (Nat.le_refl _) (by simp) ?_; (case hd => rfl); (case hg => rfl); (case hr => first | (go_simp; done) | (go_simp; rfl)); (case hp => exact (Reps.one (show Kd.M (Kd.int .i64) _ _ _ (wrap64 ((l1.length : Int) + 1)) [.int .i64 (wrap64 ((l1.length : Int) + 1))] from rfl) (Reps.none _ _))); intro v360 w51 ho52 hb hg_ hnew_; clear hg_ hnew_; (first | rw [← Ny359.out] at ho52 | (simp only [Int.reduceToNat] at ho52; rw [← Ny359.out] at ho52)); have n0_ := Aside0.mk (Kd.V_elder' (by (with_reducible repeat (first | apply Kd.V_alloc | apply Kd.V_drewN | apply Kd.V_drew)); exact HO_10.out) (Kd.R_base ho52) hb); have n1_ := Aside0.mk (Kd.R_below (by (with_reducible repeat (first | apply Kd.R_alloc | apply Kd.R_drewN | apply Kd.R_drew)); exact HO_11.out) hb); have n2_ := Aside0.mk (Kd.R_lower ho52 (below_size (by repeat (first | (with_reducible first | exact HB.out | apply below_alloc | apply pw_below_drewN | apply below_drew1) | exact HB.out)))); have n3_ := Aside0.mk (below_step (by repeat (first | (with_reducible first | exact HB.out | apply below_alloc | apply pw_below_drewN | apply below_drew1) | exact HB.out)) hb); clear HO_10; clear HO_11; clear HB; have HO_10 := n0_; have HO_11 := n1_; have HO361 := n2_; have HB := n3_; clear n0_ n1_ n2_ n3_; clear hb ho52; obtain ⟨Ao53, co53, eo53⟩ := Kd.R_slice HO361.out; subst eo53) | (go_at_call 9; (with_reducible refine (mime_Section.calls k3 (fun k_ => (some k_ ≠ (.slice Ao22 t356.length co22 : Value).ownBlock ∧ some k_ ≠ (.slice Ao53 y359.length co53 : Value).ownBlock)) _ _ t353 _ _ y359 t362 t365 _ ?side1 ?side2 ?side3 A48.out).mono ?_); (case side1 => exact HO_10.out); (case side2 => repeat (first | exact (Kd.R_reads' HO361.out).2.2 | (with_reducible refine Kd.C_alloc ?_ _) | (with_reducible refine Kd.C_drewN ?_ _) | (with_reducible refine Kd.C_drew ?_))); (case side3 => exact (Kd.R_reads' HO361.out).2.1); rintro e w54 ⟨v363, rfl, ho0, hb⟩; have n0_ := Aside0.mk (Kd.V_elder' (by (with_reducible repeat (first | apply Kd.V_alloc | apply Kd.V_drewN | apply Kd.V_drew)); exact HO_10.out) (Kd.R_base ho0) hb); have n1_ := Aside0.mk (Kd.R_below (by (with_reducible repeat (first | apply Kd.R_alloc | apply Kd.R_drewN | apply Kd.R_drew)); exact HO_11.out) hb); have n2_ := Aside0.mk (Kd.R_below (by (with_reducible repeat (first | apply Kd.R_alloc | apply Kd.R_drewN | apply Kd.R_drew)); exact HO361.out) hb); have n3_ := Aside0.mk (Kd.R_lower (Kd.R_mono (ok' := fun k_ => True) ho0 (fun _ hk_ => trivial)) (below_size (by repeat (first | (with_reducible first | exact HB.out | apply below_alloc | apply pw_below_drewN | apply below_drew1) | exact HB.out)))); have n4_ := Aside0.mk (below_step (by repeat (first | (with_reducible first | exact HB.out | apply below_alloc | apply pw_below_drewN | apply below_drew1) | exact HB.out)) hb); clear HO_10; clear HO_11; clear HO361; clear HB; have HO_10 := n0_; have HO_11 := n1_; have HO361 := n2_; have HO364 := n3_; have HB := n4_; clear n0_ n1_ n2_ n3_ n4_; (try clear hb); (try clear hb2); (try clear hk); (try clear hi); (try clear ho0)) | (go_at_call 10; (with_reducible refine (letterboxlaw10_known.calls k3  t366 _ A50.out).mono ?_); rintro e w55 ⟨rfl, hb⟩; have n0_ := Aside0.mk (Kd.V_below (by (with_reducible repeat (first | apply Kd.V_alloc | apply Kd.V_drewN | apply Kd.V_drew)); exact HO_10.out) hb); have n1_ := Aside0.mk (Kd.R_below (by (with_reducible repeat (first | apply Kd.R_alloc | apply Kd.R_drewN | apply Kd.R_drew)); exact HO_11.out) hb); have n2_ := Aside0.mk (Kd.R_below (by (with_reducible repeat (first | apply Kd.R_alloc | apply Kd.R_drewN | apply Kd.R_drew)); exact HO361.out) hb); have n3_ := Aside0.mk (Kd.R_below (by (with_reducible repeat (first | apply Kd.R_alloc | apply Kd.R_drewN | apply Kd.R_drew)); exact HO364.out) hb); have n4_ := Aside0.mk (below_step (by repeat (first | (with_reducible first | exact HB.out | apply below_alloc | apply pw_below_drewN | apply below_drew1) | exact HB.out)) hb); clear HO_10; clear HO_11; clear HO361; clear HO364; clear HB; have HO_10 := n0_; have HO_11 := n1_; have HO361 := n2_; have HO364 := n3_; have HB := n4_; clear n0_ n1_ n2_ n3_ n4_; (try clear hb); (try clear hb2); (try clear hk); (try clear hi))); try go_wp2_with (first | ((with_reducible refine gate_dst (N := 150) rfl ?_); (try (refine gate_guard (by rfl) ?_; dsimp only)); refine Kd.R_lit (Kd.int .i64) _ 3 ?hg (N := 150) ?hd (xs := ([wrap64 ((l1.length : Int) + 1)] : List Int)) (inner := [.int .i64 (wrap64 ((l1.length : Int) + 1))]) (ok := fun _ => True) (okp := fun _ => True) ?hr ?hp (fun _ hk => hk) trivial (Below.refl _ _) (Nat.le_refl _) (by simp) ?_; (case hd => rfl); (case hg => rfl); (case hr => first | (go_simp; done) | (go_simp; rfl)); (case hp => exact (Reps.one (show Kd.M (Kd.int .i64) _ _ _ (wrap64 ((l1.length : Int) + 1)) [.int .i64 (wrap64 ((l1.length : Int) + 1))] from rfl) (Reps.none _ _))); intro v360 w51 ho52 hb hg_ hnew_; clear hg_ hnew_; (first | rw [← Ny359.out] at ho52 | (simp only [Int.reduceToNat] at ho52; rw [← Ny359.out] at ho52)); have n0_ := Aside0.mk (Kd.V_elder' (by (with_reducible repeat (first | apply Kd.V_alloc | apply Kd.V_drewN | apply Kd.V_drew)); exact HO_10.out) (Kd.R_base ho52) hb); have n1_ := Aside0.mk (Kd.R_below (by (with_reducible repeat (first | apply Kd.R_alloc | apply Kd.R_drewN | apply Kd.R_drew)); exact HO_11.out) hb); have n2_ := Aside0.mk (Kd.R_lower ho52 (below_size (by repeat (first | (with_reducible first | exact HB.out | apply below_alloc | apply pw_below_drewN | apply below_drew1) | exact HB.out)))); have n3_ := Aside0.mk (below_step (by repeat (first | (with_reducible first | exact HB.out | apply below_alloc | apply pw_below_drewN | apply below_drew1) | exact HB.out)) hb); clear HO_10; clear HO_11; clear HB; have HO_10 := n0_; have HO_11 := n1_; have HO361 := n2_; have HB := n3_; clear n0_ n1_ n2_ n3_; clear hb ho52; obtain ⟨Ao53, co53, eo53⟩ := Kd.R_slice HO361.out; subst eo53) | (go_at_call 9; (with_reducible refine (mime_Section.calls k3 (fun k_ => (some k_ ≠ (.slice Ao22 t356.length co22 : Value).ownBlock ∧ some k_ ≠ (.slice Ao53 y359.length co53 : Value).ownBlock)) _ _ t353 _ _ y359 t362 t365 _ ?side1 ?side2 ?side3 A48.out).mono ?_); (case side1 => exact HO_10.out); (case side2 => repeat (first | exact (Kd.R_reads' HO361.out).2.2 | (with_reducible refine Kd.C_alloc ?_ _) | (with_reducible refine Kd.C_drewN ?_ _) | (with_reducible refine Kd.C_drew ?_))); (case side3 => exact (Kd.R_reads' HO361.out).2.1); rintro e w54 ⟨v363, rfl, ho0, hb⟩; have n0_ := Aside0.mk (Kd.V_elder' (by (with_reducible repeat (first | apply Kd.V_alloc | apply Kd.V_drewN | apply Kd.V_drew)); exact HO_10.out) (Kd.R_base ho0) hb); have n1_ := Aside0.mk (Kd.R_below (by (with_reducible repeat (first | apply Kd.R_alloc | apply Kd.R_drewN | apply Kd.R_drew)); exact HO_11.out) hb); have n2_ := Aside0.mk (Kd.R_below (by (with_reducible repeat (first | apply Kd.R_alloc | apply Kd.R_drewN | apply Kd.R_drew)); exact HO361.out) hb); have n3_ := Aside0.mk (Kd.R_lower (Kd.R_mono (ok' := fun k_ => True) ho0 (fun _ hk_ => trivial)) (below_size (by repeat (first | (with_reducible first | exact HB.out | apply below_alloc | apply pw_below_drewN | apply below_drew1) | exact HB.out)))); have n4_ := Aside0.mk (below_step (by repeat (first | (with_reducible first | exact HB.out | apply below_alloc | apply pw_below_drewN | apply below_drew1) | exact HB.out)) hb); clear HO_10; clear HO_11; clear HO361; clear HB; have HO_10 := n0_; have HO_11 := n1_; have HO361 := n2_; have HO364 := n3_; have HB := n4_; clear n0_ n1_ n2_ n3_ n4_; (try clear hb); (try clear hb2); (try clear hk); (try clear hi); (try clear ho0)) | (go_at_call 10; (with_reducible refine (letterboxlaw10_known.calls k3  t366 _ A50.out).mono ?_); rintro e w55 ⟨rfl, hb⟩; have n0_ := Aside0.mk (Kd.V_below (by (with_reducible repeat (first | apply Kd.V_alloc | apply Kd.V_drewN | apply Kd.V_drew)); exact HO_10.out) hb); have n1_ := Aside0.mk (Kd.R_below (by (with_reducible repeat (first | apply Kd.R_alloc | apply Kd.R_drewN | apply Kd.R_drew)); exact HO_11.out) hb); have n2_ := Aside0.mk (Kd.R_below (by (with_reducible repeat (first | apply Kd.R_alloc | apply Kd.R_drewN | apply Kd.R_drew)); exact HO361.out) hb); have n3_ := Aside0.mk (Kd.R_below (by (with_reducible repeat (first | apply Kd.R_alloc | apply Kd.R_drewN | apply Kd.R_drew)); exact HO364.out) hb); have n4_ := Aside0.mk (below_step (by repeat (first | (with_reducible first | exact HB.out | apply below_alloc | apply pw_below_drewN | apply below_drew1) | exact HB.out)) hb); clear HO_10; clear HO_11; clear HO361; clear HO364; clear HB; have HO_10 := n0_; have HO_11 := n1_; have HO361 := n2_; have HO364 := n3_; have HB := n4_; clear n0_ n1_ n2_ n3_ n4_; (try clear hb); (try clear hb2); (try clear hk); (try clear hi))))
             go_ret
             exact ⟨by first | (rw [Hr_]; done) | rfl | (simp [errW_none, errW_some] <;> rfl) | (simp [*, errW_none, errW_some] <;> rfl), by repeat (first | (with_reducible first | exact HB.out | apply below_alloc | apply pw_below_drewN | apply below_drew1) | exact HB.out)⟩
            ·rw [if_neg c49] at H
             have c49b0 : (t365 == ((l1.length : Int) == 0)) = false := by simpa using c49
             (try (have c49b1 : decide (t365 = ((l1.length : Int) == 0)) = false := by simpa using c49))
             (try (have c49b2 : (t365 == ((l1.length : Int) == 0)) = false := by simpa using c49))
             (try (have c49b3 : ¬ (t365 = ((l1.length : Int) == 0)) := by simpa using c49))
             clear c49
             exact absurd H (by repeat' first | exact NT.none | exact NT.false | refine NT.ite ?_ ?_ | refine NT.bind (fun _ => ?_))
        ·rw [if_neg c18] at H
         have c18b0 : ((t356.length : Int) == (l1.length : Int)) = false := beq_eq_false_iff_ne.mpr c18
         have c18b1 : ((t356.length : Int) != (l1.length : Int)) = true := bne_iff_ne.mpr c18
         have c18b2 : (t356.length == l1.length) = false := by first | simpa using c18 | (simp at c18 ⊢; omega)
         exact absurd H (by repeat' first | exact NT.none | exact NT.false | refine NT.ite ?_ ?_ | refine NT.bind (fun _ => ?_))

end Go.Proofs.YtilgmheilepkgaaDoor.P
