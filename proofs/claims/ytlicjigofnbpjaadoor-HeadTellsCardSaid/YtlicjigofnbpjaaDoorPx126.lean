/- The walks of the seat's functions, one contract a function: printed by a program of this session's (wip/gen). Not trusted: Lean checks it. -/
import Derived.Test.YtlicjigofnbpjaaDoorPx1
import Derived.Test.YtlicjigofnbpjaaDoorPx2
-- halved
namespace Go.Proofs.YtlicjigofnbpjaaDoor.P
open Go.RowKit Go.Proofs.YtlicjigofnbpjaaDoorW.PrintWords Go.Proofs.YtlicjigofnbpjaaDoorW.PrintLast Go.Proofs.YtlicjigofnbpjaaDoorW.PrintMore
attribute [local go_sem] max2_int min2_int max_two min_two max_three min_three max_four min_four   -- for this text's walks alone
set_option linter.unusedVariables false
set_option linter.unusedSimpArgs false

/-! ### head_Top: function 26 -/
def head_Top.l0 : Nat → List Int → Int → List (List Int) → Int → Int → Option (List Int)
 | 0, _, _, _, _, _ => none
 | k + 1, x0, x5, x21, x22, x23 => if x23 < x22 then (if 0 ≤ x23 then (if x23 < (x21.length : Int) then (head_Top.l0 k x0 (wrap64 (x5 + ((rd_L1 x21 x23).length : Int))) x21 x22 (wrap64 (x23 + 1))) else (none)) else (none)) else (if 0 ≤ x5 then (if x5 ≤ (x0.length : Int) then ((bytes_Clone.f (x0.take (x5 : Int).toNat)).bind fun t414 => (some t414)) else (none)) else (none))
def head_Top.f (k : Nat) (l0 : List Int) (a1 : Int) : Option (List Int) := (head_end.f k l0).bind fun t402 => (if 0 ≤ t402 then (if t402 ≤ (l0.length : Int) then ((head_cut.f k (l0.drop (t402 : Int).toNat)).bind fun t404 => (if 0 ≤ (mn (mx a1 0) (t404.length : Int)) then (if (mn (mx a1 0) (t404.length : Int)) ≤ (t404.length : Int) then ((some (t404.take ((mn (mx a1 0) (t404.length : Int)) : Int).toNat : List (List Int))).bind fun y407 => (head_Top.l0 k l0 t402 y407 (y407.length : Int) 0)) else (none)) else (none))) else (none)) else (none))
theorem head_Top.mono_l : ∀ k, (∀ y0 y1 y2 y3 y4, LeO (head_Top.l0 k y0 y1 y2 y3 y4) (head_Top.l0 (k + 1) y0 y1 y2 y3 y4))
 | 0 => fun _ _ _ _ _ r h => by simp [head_Top.l0] at h
 | k + 1 => by
  have ih0 := head_Top.mono_l k
  ·intro y0 y1 y2 y3 y4
   unfold head_Top.l0
   repeat' first
   | (with_reducible exact ih0 _ _ _ _ _)
   | (with_reducible exact head_cut.mono _ _)
   | (with_reducible exact head_end.mono _ _)
   | (with_reducible exact LeO.refl _)
   | (with_reducible exact LeO.none _)
   | (with_reducible refine LeO.ite ?_ ?_)
   | (with_reducible refine LeO.bind ?_ (fun _ => ?_))
   | exact ih0 _ _ _ _ _
   | exact head_cut.mono _ _
   | exact head_end.mono _ _
   | exact LeO.none _
   | refine LeO.ite ?_ ?_
   | refine LeO.bind ?_ (fun _ => ?_)
theorem head_Top.mono : ∀ a0 a1 k, LeO (head_Top.f k a0 a1) (head_Top.f (k + 1) a0 a1) := by
 intro a0 a1 k
 have ih0 := head_Top.mono_l k
 unfold head_Top.f
 repeat' first
   | (with_reducible exact ih0 _ _ _ _ _)
   | (with_reducible exact head_cut.mono _ _)
   | (with_reducible exact head_end.mono _ _)
   | (with_reducible exact LeO.refl _)
   | (with_reducible exact LeO.none _)
   | (with_reducible refine LeO.ite ?_ ?_)
   | (with_reducible refine LeO.bind ?_ (fun _ => ?_))
   | exact ih0 _ _ _ _ _
   | exact head_cut.mono _ _
   | exact head_end.mono _ _
   | exact LeO.none _
   | refine LeO.ite ?_ ?_
   | refine LeO.bind ?_ (fun _ => ?_)
set_option maxHeartbeats 8000000 in
set_option maxRecDepth 100000 in
theorem head_Top.calls (k : Nat) (A0 : Option Addr) (c0 : Nat) (l0 : List Int) (a1 : Int) (r : List Int) (w : World) (hr0 : Kd.C (Kd.int .u8) w A0 l0.length l0) (hc0 : l0.length ≤ c0) (h : head_Top.f k l0 a1 = some r) :
  Calls Tryd.prog 26 #[.slice A0 l0.length c0, .int .i64 a1] w fun e w' => ∃ v0_ : Value, e = .returned (v0_) ∧ Kd.R (Kd.int .u8) 5 w' w.heap.size (fun _ => True) v0_ r ∧ Below w.heap.size w w' := by
 have HR0 := Aside0.mk hr0
 have HC0 := Aside0.mk hc0
 clear hr0 hc0
 have HB := Aside0.mk (Below.refl w.heap.size w)
 have H : ((head_end.f k l0).bind fun t402 => (if 0 ≤ t402 then (if t402 ≤ (l0.length : Int) then ((head_cut.f k (l0.drop (t402 : Int).toNat)).bind fun t404 => (if 0 ≤ (mn (mx a1 0) (t404.length : Int)) then (if (mn (mx a1 0) (t404.length : Int)) ≤ (t404.length : Int) then ((some (t404.take ((mn (mx a1 0) (t404.length : Int)) : Int).toNat : List (List Int))).bind fun y407 => (head_Top.l0 k l0 t402 y407 (y407.length : Int) 0)) else (none)) else (none))) else (none)) else (none))) = some r := h
 clear h
 replace H := Option.bind_eq_some_iff.mp H
 obtain ⟨t402, A30, H⟩ := H
 replace H : (if 0 ≤ t402 then (if t402 ≤ (l0.length : Int) then ((head_cut.f k (l0.drop (t402 : Int).toNat)).bind fun t404 => (if 0 ≤ (mn (mx a1 0) (t404.length : Int)) then (if (mn (mx a1 0) (t404.length : Int)) ≤ (t404.length : Int) then ((some (t404.take ((mn (mx a1 0) (t404.length : Int)) : Int).toNat : List (List Int))).bind fun y407 => (head_Top.l0 k l0 t402 y407 (y407.length : Int) 0)) else (none)) else (none))) else (none)) else (none)) = some r := H
 have A3 := Aside0.mk A30
 clear A30
 by_cases c4 : 0 ≤ t402
 ·rw [if_pos c4] at H
  have c4b0 := eq_true c4
  have c4b1 : decide (0 ≤ t402) = true := decide_eq_true c4
  clear c4
  by_cases c5 : t402 ≤ (l0.length : Int)
  ·rw [if_pos c5] at H
   have c5b0 := eq_true c5
   have c5b1 : decide (t402 ≤ (l0.length : Int)) = true := decide_eq_true c5
   clear c5
   replace H := Option.bind_eq_some_iff.mp H
   obtain ⟨t404, A60, H⟩ := H
   replace H : (if 0 ≤ (mn (mx a1 0) (t404.length : Int)) then (if (mn (mx a1 0) (t404.length : Int)) ≤ (t404.length : Int) then ((some (t404.take ((mn (mx a1 0) (t404.length : Int)) : Int).toNat : List (List Int))).bind fun y407 => (head_Top.l0 k l0 t402 y407 (y407.length : Int) 0)) else (none)) else (none)) = some r := H
   have A6 := Aside0.mk A60
   clear A60
   obtain ⟨ji7, hji7⟩ : ∃ j_ : Int, (mx a1 0) = j_ := ⟨_, rfl⟩
   replace H : (if 0 ≤ (mn (ji7) (t404.length : Int)) then (if (mn (ji7) (t404.length : Int)) ≤ (t404.length : Int) then ((some (t404.take ((mn (ji7) (t404.length : Int)) : Int).toNat : List (List Int))).bind fun y407 => (head_Top.l0 k l0 t402 y407 (y407.length : Int) 0)) else (none)) else (none)) = some r := by first | (rw [hji7] at H; exact H) | (simp only [hji7] at H ⊢; exact H)
   (try rw [hji7] at A3)
   (try rw [hji7] at A6)
   (try (have hji7l : 0 ≤ ji7 := by (rw [← hji7]; unfold mx; (repeat' split) <;> omega)))
   (try (have hji7m : 0 ≤ ji7 := by omega))
   have hji7_ : (if a1 < 0 then 0 else a1) = ji7 := hji7
   obtain ⟨ji8, hji8⟩ : ∃ j_ : Int, (mn (ji7) (t404.length : Int)) = j_ := ⟨_, rfl⟩
   replace H : (if 0 ≤ (ji8) then (if (ji8) ≤ (t404.length : Int) then ((some (t404.take ((ji8) : Int).toNat : List (List Int))).bind fun y407 => (head_Top.l0 k l0 t402 y407 (y407.length : Int) 0)) else (none)) else (none)) = some r := by first | (rw [hji8] at H; exact H) | (simp only [hji8] at H ⊢; exact H)
   (try rw [hji8] at A3)
   (try rw [hji8] at A6)
   have hji8_ : (if (t404.length : Int) < (ji7) then (t404.length : Int) else (ji7)) = ji8 := hji8
   by_cases c9 : 0 ≤ (ji8)
   ·rw [if_pos c9] at H
    have c9b0 := eq_true c9
    have c9b1 : decide (0 ≤ (ji8)) = true := decide_eq_true c9
    clear c9
    by_cases c10 : (ji8) ≤ (t404.length : Int)
    ·rw [if_pos c10] at H
     have c10b0 := eq_true c10
     have c10b1 : decide ((ji8) ≤ (t404.length : Int)) = true := decide_eq_true c10
     clear c10
     obtain ⟨y407, hy407⟩ : ∃ y_ : List (List Int), y_ = (t404.take ((ji8) : Int).toNat) := ⟨_, rfl⟩
     replace H : (head_Top.l0 k l0 t402 y407 (y407.length : Int) 0) = some r := by first | (rw [hy407]; with_reducible exact H) | (have H2_ := (Option.bind_some _ _).symm.trans H; rw [hy407]; with_reducible exact H2_) | (have H2_ := (Option.bind_some _ _).symm.trans H; with_reducible exact H2_) | with_reducible exact H | (rw [hy407]; exact H) | exact H
     have Ny407 := Aside0.mk hy407
     clear hy407
     have H' := Aside0.mk H
     clear H
     go_enter Tryd.func26, Tryd.ntmps26
     go_wp2_with (first | ((with_reducible refine gate_callee (f := 33) rfl ?_); refine goesL_ (some 10) rfl rfl Tryd.func33 (by kernel_rfl) rfl #[.slice A0 l0.length c0] rfl (by (try simp only [List.map_toArray, List.map_cons, List.map_nil]); first | done | rfl | (simp only [List.length_drop, List.length_take]; rfl)) ?_; (with_reducible refine (head_end.calls k _ _ l0 t402 _ ?side1 ?side2 A3.out).mono ?_); (case side1 => repeat (first | exact HR0.out | (with_reducible refine Kd.C_alloc ?_ _) | (with_reducible refine Kd.C_drewN ?_ _) | (with_reducible refine Kd.C_drew ?_))); (case side2 => exact HC0.out); rintro e w11 ⟨rfl, hb⟩; refine ⟨_, rfl, ?_⟩; have n0_ := Aside0.mk (below_step (by repeat (first | (with_reducible first | exact HB.out | apply below_alloc | apply pw_below_drewN | apply below_drew1) | exact HB.out)) hb); clear HB; have HB := n0_; clear n0_; (try clear hb); (try clear hb2); (try clear hk); (try clear hi); obtain ⟨i012, hi012, _, hsz12, _⟩ := info_parts info5; obtain ⟨A12, hcut12, hA12, hC12⟩ := print_drop_of (P := Tryd.prog) (Value.int .u8) 0 22 5 .i64 Tryd.underlying22 hi012 hsz12 A0 c0 l0 t402 (of_decide_eq_true (by first | (with_reducible assumption) | assumption)) (of_decide_eq_true (by first | (with_reducible assumption) | assumption)) HC0.out; have HR403 := Aside0.mk (Kd.C_of_reads (h1 := fun _ => rfl) (hA12 _ (Kd.reads_of_C HR0.out))); have HC403 := Aside0.mk hC12; clear hA12 hC12 hi012 hsz12) | ((with_reducible refine gate_callee (f := 32) rfl ?_); refine goesL_ (some 14) rfl rfl Tryd.func32 (by kernel_rfl) rfl #[.slice A12 (l0.drop (t402 : Int).toNat).length (c0 - t402.toNat)] rfl (by (try simp only [List.map_toArray, List.map_cons, List.map_nil]); first | done | (rw [show (l0.drop (t402 : Int).toNat).length = (l0.length - t402.toNat) from List.length_drop] <;> rfl) | rfl | (simp only [List.length_drop, List.length_take]; rfl)) ?_; (with_reducible refine (head_cut.calls k (fun k_ => k_ < w.heap.size) _ _ (l0.drop (t402 : Int).toNat) t404 _ ?side1 A6.out).mono ?_); (case side1 => exact Kd.V_mk HC403.out (Kd.F_below (Kd.C_F (Kd.heap_int .u8) HR403.out) (by repeat (first | (with_reducible first | exact HB.out | apply below_alloc | apply pw_below_drewN | apply below_drew1) | exact HB.out)))); rintro e w13 ⟨v405, rfl, ho0, hb⟩; refine ⟨_, rfl, ?_⟩; have n0_ := Aside0.mk (Kd.V_lower (Kd.V_mono (ok' := fun k_ => True) ho0 (fun k_ hk_ => trivial)) (below_size (by repeat (first | (with_reducible first | exact HB.out | apply below_alloc | apply pw_below_drewN | apply below_drew1) | exact HB.out)))); have n1_ := Aside0.mk (below_step (by repeat (first | (with_reducible first | exact HB.out | apply below_alloc | apply pw_below_drewN | apply below_drew1) | exact HB.out)) hb); clear HB; have HO406 := n0_; have HB := n1_; clear n0_ n1_; (try clear hb); (try clear hb2); (try clear hk); (try clear hi); (try clear ho0); obtain ⟨Ao14, co14, eo14⟩ := Kd.V_slice HO406.out; subst eo14; have q15 : ((ji8) : Int) ≤ ((t404.length : Int) : Int) := of_decide_eq_true (by first | (with_reducible assumption) | assumption); obtain ⟨i015, hi015, _, hsz15, _⟩ := info_parts info22; have hroom15 : t404.length ≤ co14 := (Kd.V_reads' HO406.out).2.1; have hC15 : Kd.F (Kd.slice 5 (Kd.int .u8)) _ _ Ao14 t404.length t404 := (Kd.V_at (base := w.heap.size) HO406.out).2.2; have hcut15 := cut_to (P := Tryd.prog) 32 22 .i64 Tryd.underlying32 hi015 Ao14 t404.length co14 (ji8) (of_decide_eq_true (by first | (with_reducible assumption) | assumption)) q15 hroom15; have hr15 := Kd.F_take (m := ((ji8) : Int).toNat) hC15 (by omega); have hy15 : y407.length = ((ji8) : Int).toNat := (by rw [Ny407.out, List.length_take]; omega); rw [← Ny407.out] at hr15; rw [← hy15] at hcut15; have HO411 := Aside0.mk (show Kd.V (Kd.slice 5 (Kd.int .u8)) 22 _ w.heap.size _ (.slice Ao14 y407.length co14) y407 from Kd.V_mk (by omega) hr15); have HC411 := Aside0.mk (show y407.length ≤ co14 from by omega); clear hr15 hC15 hroom15 hi015 hsz15; have KY15 := Aside0.mk hy15; clear hy15; replace q15 := eq_true q15))
     go_loopg [5, 23] k (fun kq v5 v23 w' => ∃ (x5_1 : Int) (x23_1 : Int), v5 = .int .i64 x5_1 ∧ v23 = .int .i64 x23_1 ∧ Aside0 (head_Top.l0 kq l0 x5_1 y407 (y407.length : Int) x23_1 = some r) ∧ Aside0 (kq ≤ k) ∧ Aside0 (Kd.V (Kd.slice 5 (Kd.int .u8)) 22 w' w.heap.size (fun _ => True) (.slice Ao14 y407.length co14) y407) ∧ Aside0 (Below w.heap.size w w'))
     case atStart => exact ⟨(t402), (0), (by first | rfl | (simp; done) | (simp [*]; done)), (by first | rfl | (simp; done) | (simp [*]; done)), H', ⟨Nat.le_refl _⟩, ⟨by (with_reducible repeat (first | apply Kd.V_alloc | apply Kd.V_drewN | apply Kd.V_drew)); exact HO411.out⟩, ⟨by repeat (first | (with_reducible first | exact HB.out | apply below_alloc | apply pw_below_drewN | apply below_drew1) | exact HB.out)⟩⟩
     case round =>
      clear H'
      try clear c1
      try clear q1
      try clear c2
      try clear p2
      try clear c3
      try clear c4
      try clear c4b0
      try clear c4b1
      try clear c5
      try clear c5b0
      try clear c5b1
      try clear c9
      try clear c9b0
      try clear c9b1
      try clear c10
      try clear c10b0
      try clear c10b1
      try clear q15
      try clear q15
      obtain ⟨x5_1, x23_1, rfl, rfl, HA, HK1, HO_21, HB⟩ := hrel
      cases gk with
      | zero => exact absurd HA.out (by simp [head_Top.l0])
      | succ k1 =>
       have H := HA.out
       clear HA
       simp only [head_Top.l0] at H
       by_cases c16 : x23_1 < (y407.length : Int)
       ·rw [if_pos c16] at H
        have c16b0 : decide (x23_1 < (y407.length : Int)) = true := decide_eq_true c16
        clear c16
        by_cases c17 : 0 ≤ x23_1
        ·rw [if_pos c17] at H
         have c17b0 : decide (0 ≤ x23_1) = true := decide_eq_true c17
         clear c17
         by_cases c18 : x23_1 < (y407.length : Int)
         ·rw [if_pos c18] at H
          have c18b0 : decide (x23_1 < (y407.length : Int)) = true := decide_eq_true c18
          clear c18
          have H' := Aside0.mk H
          clear H
          have p412 : 0 ≤ (x23_1 : Int) := of_decide_eq_true (by first | (with_reducible assumption) | assumption)
          have q412 : x23_1 < (y407.length : Int) := of_decide_eq_true (by first | (with_reducible assumption) | assumption)
          obtain ⟨ad412, A412_0, c412_0, e412, hx412_0, hl412_0, hi412_0⟩ := at_L1 (Kd.V_reads' HO_21.out).2.2 x23_1 p412 q412
          cases e412
          obtain ⟨ce412, hce412, hMe412, hcc412⟩ := Kd.V_get HO_21.out [] x23_1 p412 (by first | exact q412 | exact of_decide_eq_true (by first | (with_reducible assumption) | assumption) | (have e_ := (Kd.V_reads' HO_21.out).1; omega))
          obtain ⟨ua412_0, uc412_0, rfl, ul412_0, ge412_0⟩ := Kd.FK_slice_open hMe412
          have hv412_0 := hcc412 0 _ rfl
          rw [Nat.add_zero, show ((Kd.slice 5 (Kd.int .u8))).sz = 1 from rfl, Nat.mul_one] at hv412_0
          replace hv412_0 := Option.some.inj (hv412_0.symm.trans hx412_0)
          injection hv412_0 with hva_ hvn_ hvc_
          rw [hva_] at ge412_0
          rw [hvc_] at ul412_0
          have HL412_0 := Aside0.mk (show Kd.V (Kd.int .u8) 5 _ w.heap.size _ _ (rd_L1 y407 x23_1) from Kd.V_mk ul412_0 ge412_0)
          clear hva_ hvn_ hvc_ ge412_0 ul412_0
          clear hcc412 hce412
          have HR412_0 := Aside0.mk hi412_0
          have HC412_0 := Aside0.mk hl412_0
          clear hi412_0 hl412_0
          replace p412 := eq_true p412
          replace q412 := eq_true q412
          go_wp2
          go_roundg k1
          case measure => have := HK1.out; omega
          case rel => exact ⟨(wrap64 (x5_1 + ((rd_L1 y407 x23_1).length : Int))), (wrap64 (x23_1 + 1)), (by first | rfl | (simp; done) | (simp [*]; done)), (by first | rfl | (simp; done) | (simp [*]; done)), H', ⟨by have := HK1.out; omega⟩, ⟨by (with_reducible repeat (first | apply Kd.V_alloc | apply Kd.V_drewN | apply Kd.V_drew)); exact HO_21.out⟩, ⟨by repeat (first | (with_reducible first | exact HB.out | apply below_alloc | apply pw_below_drewN | apply below_drew1) | exact HB.out)⟩⟩
         ·rw [if_neg c18] at H
          exact absurd H (by simp)
        ·rw [if_neg c17] at H
         exact absurd H (by simp)
       ·rw [if_neg c16] at H
        have c16b0 : decide (x23_1 < (y407.length : Int)) = false := decide_eq_false c16
        clear c16
        by_cases c19 : 0 ≤ x5_1
        ·rw [if_pos c19] at H
         have c19b0 := eq_true c19
         have c19b1 : decide (0 ≤ x5_1) = true := decide_eq_true c19
         clear c19
         by_cases c20 : x5_1 ≤ (l0.length : Int)
         ·rw [if_pos c20] at H
          have c20b0 := eq_true c20
          have c20b1 : decide (x5_1 ≤ (l0.length : Int)) = true := decide_eq_true c20
          clear c20
          replace H := Option.bind_eq_some_iff.mp H
          obtain ⟨t414, A210, H⟩ := H
          replace H : (some t414) = some r := H
          have A21 := Aside0.mk A210
          clear A210
          obtain rfl := Option.some.inj H
          obtain ⟨i022, hi022, _, hsz22, _⟩ := info_parts info5
          obtain ⟨hcut22, hA22, hC22⟩ := print_take_of (P := Tryd.prog) (Value.int .u8) 0 22 5 .i64 Tryd.underlying22 hi022 hsz22 A0 c0 l0 x5_1 (of_decide_eq_true (by first | (with_reducible assumption) | assumption)) (of_decide_eq_true (by first | (with_reducible assumption) | assumption)) HC0.out
          have HR413 := Aside0.mk (Kd.C_of_reads (h1 := fun _ => rfl) (hA22 _ (Kd.reads_of_C HR0.out)))
          have HC413 := Aside0.mk hC22
          clear hA22 hC22 hi022 hsz22
          go_wp2_with (first | ((with_reducible refine gate_callee (f := 41) rfl ?_); refine goesL_ (some 35) rfl rfl Tryd.func41 (by kernel_rfl) rfl #[.slice A0 (l0.take (x5_1 : Int).toNat).length c0] rfl (by (try simp only [List.map_toArray, List.map_cons, List.map_nil]); first | done | (rw [show (l0.take (x5_1 : Int).toNat).length = x5_1.toNat from (by rw [List.length_take]; have h_ : (x5_1 : Int) ≤ (l0.length : Int) := of_decide_eq_true (by first | (with_reducible assumption) | assumption); omega)] <;> rfl) | rfl | (simp only [List.length_drop, List.length_take]; rfl)) ?_; (with_reducible refine (bytes_Clone.calls _ _ (l0.take (x5_1 : Int).toNat) t414 _ ?side1 ?side2 A21.out).mono ?_); (case side1 => repeat (first | exact (Kd.C_below HR413.out HB.out) | (with_reducible refine Kd.C_alloc ?_ _) | (with_reducible refine Kd.C_drewN ?_ _) | (with_reducible refine Kd.C_drew ?_))); (case side2 => exact HC413.out); rintro e w23 ⟨v415, rfl, ho0, hb⟩; refine ⟨_, rfl, ?_⟩; have n0_ := Aside0.mk (Kd.V_elder' (by (with_reducible repeat (first | apply Kd.V_alloc | apply Kd.V_drewN | apply Kd.V_drew)); exact HO_21.out) (Kd.R_base ho0) hb); have n1_ := Aside0.mk (Kd.R_lower ho0 (below_size (by repeat (first | (with_reducible first | exact HB.out | apply below_alloc | apply pw_below_drewN | apply below_drew1) | exact HB.out)))); have n2_ := Aside0.mk (below_step (by repeat (first | (with_reducible first | exact HB.out | apply below_alloc | apply pw_below_drewN | apply below_drew1) | exact HB.out)) hb); clear HO_21; clear HB; have HO_21 := n0_; have HO416 := n1_; have HB := n2_; clear n0_ n1_ n2_; (try clear hb); (try clear hb2); (try clear hk); (try clear hi); (try clear ho0)))
          go_ret
          exact ⟨_, by first | rfl | (simp [errW_none, errW_some] <;> rfl) | (simp only [← hji7, ← hji8]; first | rfl | (simp [errW_none, errW_some] <;> rfl)) | (simp [*, errW_none, errW_some] <;> rfl), by (with_reducible repeat (first | apply Kd.R_alloc | apply Kd.R_drewN | apply Kd.R_drew)); exact HO416.out, by repeat (first | (with_reducible first | exact HB.out | apply below_alloc | apply pw_below_drewN | apply below_drew1) | exact HB.out)⟩
         ·rw [if_neg c20] at H
          exact absurd H (by simp)
        ·rw [if_neg c19] at H
         exact absurd H (by simp)
    ·rw [if_neg c10] at H
     exact absurd H (by simp)
   ·rw [if_neg c9] at H
    exact absurd H (by simp)
  ·rw [if_neg c5] at H
   exact absurd H (by simp)
 ·rw [if_neg c4] at H
  exact absurd H (by simp)

end Go.Proofs.YtlicjigofnbpjaaDoor.P
