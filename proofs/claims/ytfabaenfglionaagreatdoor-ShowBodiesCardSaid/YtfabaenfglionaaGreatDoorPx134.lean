/- The walks of the seat's functions, one contract a function: printed by a program of this session's (wip/gen). Not trusted: Lean checks it. -/
import Derived.Test.YtfabaenfglionaaGreatDoorShort
import Derived.Test.YtfabaenfglionaaGreatDoorPx1
import Derived.Test.YtfabaenfglionaaGreatDoorPx2
import Derived.Test.YtfabaenfglionaaGreatDoorPx3
import Derived.Test.YtfabaenfglionaaGreatDoorUidShow
-- halved
namespace Go.Proofs.YtfabaenfglionaaGreatDoor.P
open Go.RowKit Go.Proofs.YtfabaenfglionaaGreatDoorW.PrintWords Go.Proofs.YtfabaenfglionaaGreatDoorW.PrintLast Go.Proofs.YtfabaenfglionaaGreatDoorW.PrintMore
attribute [local go_sem] max2_int min2_int max_two min_two max_three min_three max_four min_four   -- for this text's walks alone
set_option linter.unusedVariables false
set_option linter.unusedSimpArgs false

/-! ### mime_Section: function 34 -/
mutual
def mime_Section.l0 : Nat → List Int → List Int → List Int → Int → Int → Option (List Int × Bool)
 | 0, _, _, _, _, _ => none
 | k + 1, x0, x1, x12, x13, x14 => if x14 < x13 then (if 0 ≤ x14 then (if x14 < (x12.length : Int) then ((mime_Parts.f k x0).bind fun t317 => (if (t317.length : Int) = 0 then (if (rd x12 x14) = 1 then (mime_Section.j1 k x0 x1 (rd x12 x14) t317 x12 x13 x14 (x14 == (wrap64 ((x1.length : Int) - 1)))) else (mime_Section.j1 k x0 x1 (rd x12 x14) t317 x12 x13 x14 false)) else (mime_Section.j1 k x0 x1 (rd x12 x14) t317 x12 x13 x14 false))) else (none)) else (none)) else ((bytes_Clone.f x0).bind fun t313 => (some (t313, true)))
def mime_Section.j1 : Nat → List Int → List Int → Int → List (S59) → List Int → Int → Int → Bool → Option (List Int × Bool)
 | 0, _, _, _, _, _, _, _, _ => none
 | k + 1, x0, x1, x7, x8, x12, x13, x14, x21 => if x21 = true then ((head_Body.f k x0).bind fun t320 => (some (t320, true))) else (if x7 < 1 then (some (([] : List Int), false)) else (if x7 > (x8.length : Int) then (some (([] : List Int), false)) else (if 0 ≤ (wrap64 (x7 - 1)) then (if (wrap64 (x7 - 1)) < (x8.length : Int) then (if 0 ≤ ((rd_T59 x8 (wrap64 (x7 - 1))).f0) then (if ((rd_T59 x8 (wrap64 (x7 - 1))).f0) ≤ ((rd_T59 x8 (wrap64 (x7 - 1))).f1) then (if ((rd_T59 x8 (wrap64 (x7 - 1))).f1) ≤ (x0.length : Int) then (mime_Section.l0 k ((x0.take (((rd_T59 x8 (wrap64 (x7 - 1))).f1) : Int).toNat).drop (((rd_T59 x8 (wrap64 (x7 - 1))).f0) : Int).toNat) x1 x12 x13 (wrap64 (x14 + 1))) else (none)) else (none)) else (none)) else (none)) else (none))))
end
def mime_Section.f (k : Nat) (l0 : List Int) (l1 : List Int) : Option (List Int × Bool) := if (l1.length : Int) > 4 then (some (([] : List Int), false)) else (mime_Section.l0 k l0 l1 l1 (l1.length : Int) 0)
set_option maxHeartbeats 8000000 in
set_option maxRecDepth 100000 in
theorem mime_Section.calls (k : Nat) (P0_ : Nat → Prop) (A0 : Option Addr) (c0 : Nat) (l0 : List Int) (A1 : Option Addr) (c1 : Nat) (l1 : List Int) (r1 : List Int) (r2 : Bool) (w : World) (hs0 : Kd.V (Kd.int .u8) 5 w w.heap.size (fun k_ => P0_ k_) (.slice A0 l0.length c0) l0) (hr1 : Kd.C (Kd.int .i64) w A1 l1.length l1) (hc1 : l1.length ≤ c1) (h : mime_Section.f k l0 l1 = some (r1, r2)) :
  Calls Tryz.prog 34 #[.slice A0 l0.length c0, .slice A1 l1.length c1] w fun e w' => ∃ v0_ : Value, e = .returned (.tuple #[v0_, .bool r2]) ∧ Kd.R (Kd.int .u8) 5 w' w.heap.size (fun k_ => (w.heap.size ≤ k_)) v0_ r1 ∧ Below w.heap.size w w' := by
 have HO0 := am (show Kd.V (Kd.int .u8) 5 w w.heap.size (fun k_ => (P0_ k_ ∨ w.heap.size ≤ k_)) (.slice A0 l0.length c0) l0 from Kd.V_mono hs0 (fun k_ hk => .inl hk)); have HR1 := am hr1; have HC1 := am hc1; clear hr1 hc1; have HB := am (Below.refl w.heap.size w); have H : (if (l1.length : Int) > 4 then (some (([] : List Int), false)) else (mime_Section.l0 k l0 l1 l1 (l1.length : Int) 0)) = some (r1, r2) := h; clear h
 by_cases c3 : (l1.length : Int) > 4
 ·rw [if_pos c3] at H; have c3b0 : decide (4 < (l1.length : Int)) = true := decide_eq_true c3; have c3b1 : decide (4 < l1.length) = true := decide_eq_true (by omega); clear c3; simp only [Option.some.injEq, Prod.mk.injEq] at H; obtain ⟨rfl, rfl⟩ := H
  go_enter Tryz.func34, Tryz.ntmps34
  go_wp2
  repeat (go_quiet (fail); try go_wp2)
  go_ret2
  exact ⟨_, ez, nl, bz⟩
 rw [if_neg c3] at H; have c3b0 : decide (4 < (l1.length : Int)) = false := decide_eq_false c3; have c3b1 : decide (4 < l1.length) = false := decide_eq_false (by omega); clear c3; have H' := am H; clear H
 go_enter Tryz.func34, Tryz.ntmps34
 go_wp2
 repeat (go_quiet (fail); try go_wp2)
 go_loopg [0, 14] k (fun kq v0 v14 w' => ∃ (x0_1 : List Int) (x14_1 : Int), v14 = .int .i64 x14_1 ∧ Aside0 (mime_Section.l0 kq x0_1 l1 l1 (l1.length : Int) x14_1 = some (r1, r2)) ∧ Aside0 (kq ≤ k) ∧ Aside0 (Kd.V (Kd.int .u8) 5 w' w.heap.size (fun k_ => (P0_ k_ ∨ w.heap.size ≤ k_)) v0 x0_1) ∧ Aside0 (Below w.heap.size w w'))
 case atStart => exact ⟨(l0), (0), sz, H', ⟨Nat.le_refl _⟩, ⟨vz HO0.out⟩, ⟨bz⟩⟩
 case round =>
  clear H'; (try clear c1); (try clear p2); (try clear c3); (try clear c3b0); (try clear c3b1); obtain ⟨x0_1, x14_1, rfl, HA, HK1, HO_0, HB⟩ := hrel
  cases gk with
  | zero => exact absurd HA.out (by simp [mime_Section.l0])
  | succ k1 =>
   have H := HA.out; clear HA; simp only [mime_Section.l0] at H
   by_cases c4 : x14_1 < (l1.length : Int)
   ·rw [if_pos c4] at H; have c4b0 : decide (x14_1 < (l1.length : Int)) = true := decide_eq_true c4; clear c4
    by_cases c5 : 0 ≤ x14_1
    ·rw [if_pos c5] at H; have c5b0 : decide (0 ≤ x14_1) = true := decide_eq_true c5; clear c5
     by_cases c6 : x14_1 < (l1.length : Int)
     ·rw [if_pos c6] at H; have c6b0 : decide (x14_1 < (l1.length : Int)) = true := decide_eq_true c6; clear c6; replace H := Option.bind_eq_some_iff.mp H; obtain ⟨t317, A70, H⟩ := H; (try dsimp only at H); have A7 := am A70; clear A70; have HC8 := am H; clear H; have p316 : 0 ≤ (x14_1 : Int) := of_decide_eq_true az; have q316 : x14_1 < (l1.length : Int) := of_decide_eq_true az; obtain ⟨ad316, e316, hx316_0⟩ := Kd.at_int HR1.out x14_1 p316 q316
      cases e316
      replace hx316_0 := (HB.out.cell (World.block_lt_of_cell? w _ hx316_0)).trans hx316_0; replace p316 := eq_true p316; replace q316 := eq_true q316; obtain ⟨Ao9, co9, eo9⟩ := Kd.V_slice HO_0.out; subst eo9
      go_upto_region 7 with (first | (go_at_call 49; (with_reducible refine (mime_Parts.calls k1 (fun k_ => (P0_ k_ ∨ w.heap.size ≤ k_)) _ _ x0_1 t317 _ ?side1 A7.out).mono ?_); (case side1 => exact HO_0.out); rintro e w10 ⟨v318, rfl, ho0, hb⟩; have n0_ := am (Kd.V_elder' (vz HO_0.out) (Kd.R_base ho0) hb); have n1_ := am (Kd.R_lower (Kd.R_newM (M := fun k_ => (w.heap.size ≤ k_)) (Kd.R_mono (ok' := fun k_ => True) ho0 (fun _ hk_ => trivial)) (below_size bz) (fun k_ h_ => h_)) (below_size bz)); have n2_ := am (below_step bz hb); clear HO_0 HB; have HO_0 := n0_; have HO319 := n1_; have HB := n2_; clear n0_ n1_ n2_; (try clear hb); (try clear hb2); (try clear hk); (try clear hi); (try clear ho0)))
      repeat (go_quiet (first | (go_at_call 49; (with_reducible refine (mime_Parts.calls k1 (fun k_ => (P0_ k_ ∨ w.heap.size ≤ k_)) _ _ x0_1 t317 _ ?side1 A7.out).mono ?_); (case side1 => exact HO_0.out); rintro e w10 ⟨v318, rfl, ho0, hb⟩; have n0_ := am (Kd.V_elder' (vz HO_0.out) (Kd.R_base ho0) hb); have n1_ := am (Kd.R_lower (Kd.R_newM (M := fun k_ => (w.heap.size ≤ k_)) (Kd.R_mono (ok' := fun k_ => True) ho0 (fun _ hk_ => trivial)) (below_size bz) (fun k_ h_ => h_)) (below_size bz)); have n2_ := am (below_step bz hb); clear HO_0 HB; have HO_0 := n0_; have HO319 := n1_; have HB := n2_; clear n0_ n1_ n2_; (try clear hb); (try clear hb2); (try clear hk); (try clear hi); (try clear ho0))); go_upto_region 7 with (first | (go_at_call 49; (with_reducible refine (mime_Parts.calls k1 (fun k_ => (P0_ k_ ∨ w.heap.size ≤ k_)) _ _ x0_1 t317 _ ?side1 A7.out).mono ?_); (case side1 => exact HO_0.out); rintro e w10 ⟨v318, rfl, ho0, hb⟩; have n0_ := am (Kd.V_elder' (vz HO_0.out) (Kd.R_base ho0) hb); have n1_ := am (Kd.R_lower (Kd.R_newM (M := fun k_ => (w.heap.size ≤ k_)) (Kd.R_mono (ok' := fun k_ => True) ho0 (fun _ hk_ => trivial)) (below_size bz) (fun k_ h_ => h_)) (below_size bz)); have n2_ := am (below_step bz hb); clear HO_0 HB; have HO_0 := n0_; have HO319 := n1_; have HB := n2_; clear n0_ n1_ n2_; (try clear hb); (try clear hb2); (try clear hk); (try clear hi); (try clear ho0))))
      (try simp only [Act.put, List.setIfInBounds_toArray, List.set_cons_zero, List.set_cons_succ])
      go_cut [21] (fun v21 wc => ∃ (kq : Nat) (x21_7 : Bool), v21 = .bool x21_7 ∧ Aside0 (mime_Section.j1 kq x0_1 l1 (rd l1 x14_1) t317 l1 (l1.length : Int) x14_1 x21_7 = some (r1, r2)) ∧ Aside0 (kq ≤ k1) ∧ Aside0 (Kd.V (Kd.int .u8) 5 wc w.heap.size (fun k_ => (P0_ k_ ∨ w.heap.size ≤ k_) ∧ some k_ ≠ (v318 : Value).ownBlock) (.slice Ao9 x0_1.length co9) x0_1) ∧ Aside0 (Kd.R k59 59 wc w.heap.size (fun k_ => (w.heap.size ≤ k_)) v318 t317) ∧ Aside0 (Below w.heap.size w wc))
      case first =>
       have H := HC8.out; clear HC8
       by_cases c11 : (t317.length : Int) = 0
       ·rw [if_pos c11] at H; have c11b0 : ((t317.length : Int) == 0) = true := beq_iff_eq.mpr c11; have c11b1 : ((t317.length : Int) != 0) = false := bne_eq_false_iff_eq.mpr c11; clear c11
        (first | rw [c11b0] | (simp only [i64_w, i32_w]; rw [c11b0]) | skip)
        by_cases c12 : (rd l1 x14_1) = 1
        ·rw [if_pos c12] at H; have c12b0 : ((rd l1 x14_1) == 1) = true := beq_iff_eq.mpr c12; have c12b1 : ((rd l1 x14_1) != 1) = false := bne_eq_false_iff_eq.mpr c12; clear c12; have H' := am H; clear H; obtain ⟨Ao13, co13, eo13⟩ := Kd.R_slice HO319.out; subst eo13
         go_wp2
         repeat (go_quiet (fail); try go_wp2)
         go_meet
         case rel => exact ⟨_, ((x14_1 == (wrap64 ((l1.length : Int) - 1)))), sz, H', ⟨by have := HK1.out; first | omega | exact Nat.le_refl _⟩, ⟨vz HO_0.out⟩, ⟨by (with_reducible repeat first | apply rA | apply rN | apply rD); exact Kd.R_mono HO319.out (fun _ hk => hk.1)⟩, ⟨bz⟩⟩
        rw [if_neg c12] at H; have c12b0 : ((rd l1 x14_1) == 1) = false := beq_eq_false_iff_ne.mpr c12; have c12b1 : ((rd l1 x14_1) != 1) = true := bne_iff_ne.mpr c12; have H' := am H; clear H; obtain ⟨Ao14, co14, eo14⟩ := Kd.R_slice HO319.out; subst eo14
        go_wp2
        repeat (go_quiet (fail); try go_wp2)
        go_meet
        case rel => exact ⟨_, (false), sz, H', ⟨by have := HK1.out; first | omega | exact Nat.le_refl _⟩, ⟨vz HO_0.out⟩, ⟨by (with_reducible repeat first | apply rA | apply rN | apply rD); exact Kd.R_mono HO319.out (fun _ hk => hk.1)⟩, ⟨bz⟩⟩
       rw [if_neg c11] at H; have c11b0 : ((t317.length : Int) == 0) = false := beq_eq_false_iff_ne.mpr c11; have c11b1 : ((t317.length : Int) != 0) = true := bne_iff_ne.mpr c11
       have c11b2 : ¬ (t317 = []) := fun h_ => c11 (by rw [h_]; rfl)
       (first | rw [c11b0] | (simp only [i64_w, i32_w]; rw [c11b0]) | skip)
       have H' := am H; clear H; obtain ⟨Ao15, co15, eo15⟩ := Kd.R_slice HO319.out; subst eo15
       go_wp2
       repeat (go_quiet (fail); try go_wp2)
       go_meet
       case rel => exact ⟨_, (false), sz, H', ⟨by have := HK1.out; first | omega | exact Nat.le_refl _⟩, ⟨vz HO_0.out⟩, ⟨by (with_reducible repeat first | apply rA | apply rN | apply rD); exact Kd.R_mono HO319.out (fun _ hk => hk.1)⟩, ⟨bz⟩⟩
      case rest =>
       clear HC8; (try clear c1); (try clear p2); (try clear c3); (try clear c3b0); (try clear c3b1); (try clear p3); (try clear q3); (try clear hx3); (try clear c4); (try clear c4b0); (try clear c5); (try clear c5b0); (try clear c6); (try clear c6b0); (try clear p6); (try clear c11); (try clear c11b0); (try clear c11b1); (try clear c11b2); (try clear c12); (try clear c12b0); (try clear c12b1); (try clear hx316_0); (try clear p2); (try clear p316); (try clear q316); obtain ⟨kq, x21_7, rfl, HA, HJ7, HO_0, HO_8, HB⟩ := hcut
       cases kq with
       | zero => exact absurd HA.out (by simp [mime_Section.j1])
       | succ kj7 =>
        have H := HA.out; clear HA; simp only [mime_Section.j1] at H
        by_cases c16 : x21_7 = true
        ·subst c16
         have H1 : ((head_Body.f kj7 x0_1).bind fun t320 => (some (t320, true))) = some (r1, r2) := by rw [if_pos rfl] at H; exact H
         clear H; have H := H1; clear H1; replace H := Option.bind_eq_some_iff.mp H; obtain ⟨t320, A170, H⟩ := H; replace H : (some (t320, true)) = some (r1, r2) := H; have A17 := am A170; clear A170; simp only [Option.some.injEq, Prod.mk.injEq] at H; obtain ⟨rfl, rfl⟩ := H
         go_wp2_with (first | (go_at_call 33; (with_reducible refine (head_Body.calls kj7 _ _ x0_1 t320 _ ?side1 ?side2 A17.out).mono ?_); (case side1 => exact cz (Kd.V_reads' HO_0.out).2.2); (case side2 => exact (Kd.V_reads' HO_0.out).2.1); rintro e w18 ⟨v321, rfl, ho0, hb⟩; have n0_ := am (Kd.V_elder' (vz HO_0.out) (Kd.R_base ho0) hb); have n1_ := am (Kd.R_below (rz HO_8.out) hb); have n2_ := am (Kd.R_lower (Kd.R_newM (M := fun k_ => (w.heap.size ≤ k_)) ho0 (below_size bz) (fun k_ h_ => h_)) (below_size bz)); have n3_ := am (below_step bz hb); clear HO_0 HO_8 HB; have HO_0 := n0_; have HO_8 := n1_; have HO322 := n2_; have HB := n3_; clear n0_ n1_ n2_ n3_; (try clear hb); (try clear hb2); (try clear hk); (try clear hi); (try clear ho0)))
         repeat (go_quiet (first | (go_at_call 33; (with_reducible refine (head_Body.calls kj7 _ _ x0_1 t320 _ ?side1 ?side2 A17.out).mono ?_); (case side1 => exact cz (Kd.V_reads' HO_0.out).2.2); (case side2 => exact (Kd.V_reads' HO_0.out).2.1); rintro e w18 ⟨v321, rfl, ho0, hb⟩; have n0_ := am (Kd.V_elder' (vz HO_0.out) (Kd.R_base ho0) hb); have n1_ := am (Kd.R_below (rz HO_8.out) hb); have n2_ := am (Kd.R_lower (Kd.R_newM (M := fun k_ => (w.heap.size ≤ k_)) ho0 (below_size bz) (fun k_ h_ => h_)) (below_size bz)); have n3_ := am (below_step bz hb); clear HO_0 HO_8 HB; have HO_0 := n0_; have HO_8 := n1_; have HO322 := n2_; have HB := n3_; clear n0_ n1_ n2_ n3_; (try clear hb); (try clear hb2); (try clear hk); (try clear hi); (try clear ho0))); try go_wp2_with (first | (go_at_call 33; (with_reducible refine (head_Body.calls kj7 _ _ x0_1 t320 _ ?side1 ?side2 A17.out).mono ?_); (case side1 => exact cz (Kd.V_reads' HO_0.out).2.2); (case side2 => exact (Kd.V_reads' HO_0.out).2.1); rintro e w18 ⟨v321, rfl, ho0, hb⟩; have n0_ := am (Kd.V_elder' (vz HO_0.out) (Kd.R_base ho0) hb); have n1_ := am (Kd.R_below (rz HO_8.out) hb); have n2_ := am (Kd.R_lower (Kd.R_newM (M := fun k_ => (w.heap.size ≤ k_)) ho0 (below_size bz) (fun k_ h_ => h_)) (below_size bz)); have n3_ := am (below_step bz hb); clear HO_0 HO_8 HB; have HO_0 := n0_; have HO_8 := n1_; have HO322 := n2_; have HB := n3_; clear n0_ n1_ n2_ n3_; (try clear hb); (try clear hb2); (try clear hk); (try clear hi); (try clear ho0))))
         go_ret2
         exact ⟨_, ez, by (with_reducible repeat first | apply rA | apply rN | apply rD); exact Kd.R_mono HO322.out (fun _ hk => hk.1), bz⟩
        replace c16 := Bool.eq_false_iff.mpr c16; subst c16
        have H1 : (if (rd l1 x14_1) < 1 then (some (([] : List Int), false)) else (if (rd l1 x14_1) > (t317.length : Int) then (some (([] : List Int), false)) else (if 0 ≤ (wrap64 ((rd l1 x14_1) - 1)) then (if (wrap64 ((rd l1 x14_1) - 1)) < (t317.length : Int) then (if 0 ≤ ((rd_T59 t317 (wrap64 ((rd l1 x14_1) - 1))).f0) then (if ((rd_T59 t317 (wrap64 ((rd l1 x14_1) - 1))).f0) ≤ ((rd_T59 t317 (wrap64 ((rd l1 x14_1) - 1))).f1) then (if ((rd_T59 t317 (wrap64 ((rd l1 x14_1) - 1))).f1) ≤ (x0_1.length : Int) then (mime_Section.l0 kj7 ((x0_1.take (((rd_T59 t317 (wrap64 ((rd l1 x14_1) - 1))).f1) : Int).toNat).drop (((rd_T59 t317 (wrap64 ((rd l1 x14_1) - 1))).f0) : Int).toNat) l1 l1 (l1.length : Int) (wrap64 (x14_1 + 1))) else (none)) else (none)) else (none)) else (none)) else (none)))) = some (r1, r2) := by rw [if_neg (show ¬ (false = true) by decide)] at H; exact H
        clear H; have H := H1; clear H1
        by_cases c19 : (rd l1 x14_1) < 1
        ·rw [if_pos c19] at H; have c19b0 : decide ((rd l1 x14_1) < 1) = true := decide_eq_true c19; clear c19; simp only [Option.some.injEq, Prod.mk.injEq] at H; obtain ⟨rfl, rfl⟩ := H
         go_wp2
         repeat (go_quiet (fail); try go_wp2)
         go_ret2
         exact ⟨_, ez, nl, bz⟩
        rw [if_neg c19] at H; have c19b0 : decide ((rd l1 x14_1) < 1) = false := decide_eq_false c19; clear c19
        by_cases c20 : (rd l1 x14_1) > (t317.length : Int)
        ·rw [if_pos c20] at H; have c20b0 : decide ((t317.length : Int) < (rd l1 x14_1)) = true := decide_eq_true c20; clear c20; simp only [Option.some.injEq, Prod.mk.injEq] at H; obtain ⟨rfl, rfl⟩ := H; obtain ⟨Ao21, co21, eo21⟩ := Kd.R_slice HO_8.out; subst eo21
         go_wp2
         repeat (go_quiet (fail); try go_wp2)
         go_ret2
         exact ⟨_, ez, nl, bz⟩
        rw [if_neg c20] at H; have c20b0 : decide ((t317.length : Int) < (rd l1 x14_1)) = false := decide_eq_false c20; clear c20; obtain ⟨ji22, hji22⟩ : ∃ j_ : Int, (wrap64 ((rd l1 x14_1) - 1)) = j_ := ⟨_, rfl⟩
        replace H : (if 0 ≤ (ji22) then (if (ji22) < (t317.length : Int) then (if 0 ≤ ((rd_T59 t317 (ji22)).f0) then (if ((rd_T59 t317 (ji22)).f0) ≤ ((rd_T59 t317 (ji22)).f1) then (if ((rd_T59 t317 (ji22)).f1) ≤ (x0_1.length : Int) then (mime_Section.l0 kj7 ((x0_1.take (((rd_T59 t317 (ji22)).f1) : Int).toNat).drop (((rd_T59 t317 (ji22)).f0) : Int).toNat) l1 l1 (l1.length : Int) (wrap64 (x14_1 + 1))) else (none)) else (none)) else (none)) else (none)) else (none)) = some (r1, r2) := by first | (rw [hji22] at H; exact H) | (simp only [hji22] at H ⊢; exact H)
        have hji22w : (IntKind.i64.wrap ((rd l1 x14_1) - 1)) = ji22 := (i64_w _).trans hji22
        by_cases c23 : 0 ≤ (ji22)
        ·rw [if_pos c23] at H; have c23b0 : decide (0 ≤ (ji22)) = true := decide_eq_true c23; clear c23
         by_cases c24 : (ji22) < (t317.length : Int)
         ·rw [if_pos c24] at H; have c24b0 : decide ((ji22) < (t317.length : Int)) = true := decide_eq_true c24; clear c24
          by_cases c25 : 0 ≤ ((rd_T59 t317 (ji22)).f0)
          ·rw [if_pos c25] at H; have c25b0 := eq_true c25; have c25b1 : decide (0 ≤ ((rd_T59 t317 (ji22)).f0)) = true := decide_eq_true c25; clear c25
           by_cases c26 : ((rd_T59 t317 (ji22)).f0) ≤ ((rd_T59 t317 (ji22)).f1)
           ·rw [if_pos c26] at H; have c26b0 := eq_true c26; have c26b1 : decide (((rd_T59 t317 (ji22)).f0) ≤ ((rd_T59 t317 (ji22)).f1)) = true := decide_eq_true c26; clear c26
            by_cases c27 : ((rd_T59 t317 (ji22)).f1) ≤ (x0_1.length : Int)
            ·rw [if_pos c27] at H; have c27b0 := eq_true c27; have c27b1 : decide (((rd_T59 t317 (ji22)).f1) ≤ (x0_1.length : Int)) = true := decide_eq_true c27; clear c27; obtain ⟨y325, hy325⟩ : ∃ y_ : List Int, y_ = ((x0_1.take (((rd_T59 t317 (ji22)).f1) : Int).toNat).drop (((rd_T59 t317 (ji22)).f0) : Int).toNat) := ⟨_, rfl⟩
             replace H : (mime_Section.l0 kj7 y325 l1 l1 (l1.length : Int) (wrap64 (x14_1 + 1))) = some (r1, r2) := by first | (rw [hy325]; with_reducible exact H) | (have H2_ := (Option.bind_some _ _).symm.trans H; rw [hy325]; with_reducible exact H2_) | (have H2_ := (Option.bind_some _ _).symm.trans H; with_reducible exact H2_) | with_reducible exact H | (rw [hy325]; exact H) | exact H
             have Ny325 := am hy325; clear hy325; have H' := am H; clear H; obtain ⟨Ao28, co28, eo28⟩ := Kd.R_slice HO_8.out; subst eo28; have p323 : 0 ≤ ((ji22) : Int) := of_decide_eq_true az; have q323 : (ji22) < (t317.length : Int) := of_decide_eq_true az; obtain ⟨ad323, e323, hx323_0, hx323_1⟩ := at_T59 (Kd.R_reads' HO_8.out).2.2 (ji22) p323 q323
             cases e323
             replace p323 := eq_true p323; replace q323 := eq_true q323; have p324 : 0 ≤ ((ji22) : Int) := of_decide_eq_true az; have q324 : (ji22) < (t317.length : Int) := of_decide_eq_true az; obtain ⟨ad324, e324, hx324_0, hx324_1⟩ := at_T59 (Kd.R_reads' HO_8.out).2.2 (ji22) p324 q324; obtain rfl : ad323 = ad324 := (by injection e324); replace p324 := eq_true p324; replace q324 := eq_true q324; have q29 : (((rd_T59 t317 (ji22)).f1) : Int) ≤ ((x0_1.length : Int) : Int) := of_decide_eq_true az; obtain ⟨i029, hi029, _, hsz29, _⟩ := info_parts info5; have hroom29 : x0_1.length ≤ co9 := (Kd.V_reads' HO_0.out).2.1; have hC29 : Kd.F (Kd.int .u8) _ _ Ao9 x0_1.length x0_1 := (Kd.V_at (base := w.heap.size) HO_0.out).2.2; have ql29 : (((rd_T59 t317 (ji22)).f0) : Int) ≤ (((rd_T59 t317 (ji22)).f1) : Int) := of_decide_eq_true az; have q029 : (0 : Int) ≤ (((rd_T59 t317 (ji22)).f0) : Int) := of_decide_eq_true az; have hcut29 := cut_mid (P := Tryz.prog) 34 5 .i64 .i64 Tryz.underlying34 hi029 1 hsz29 Ao9 x0_1.length co9 ((rd_T59 t317 (ji22)).f0) ((rd_T59 t317 (ji22)).f1) q029 ql29 q29 hroom29; have hr29 := Kd.F_mid (lo := (((rd_T59 t317 (ji22)).f0) : Int).toNat) (hi := (((rd_T59 t317 (ji22)).f1) : Int).toNat) (c := co9) hC29 (by omega) (by omega) hroom29
             obtain ⟨A29, hA29⟩ : ∃ A1, A1 = (if co9 = (((rd_T59 t317 (ji22)).f0) : Int).toNat then Ao9 else (Ao9 : Option Addr).map (·.add ((((rd_T59 t317 (ji22)).f0) : Int).toNat * 1))) := ⟨_, rfl⟩; obtain ⟨c29, hc29⟩ : ∃ c1, c1 = co9 - (((rd_T59 t317 (ji22)).f0) : Int).toNat := ⟨_, rfl⟩; have hy29 : y325.length = (((rd_T59 t317 (ji22)).f1) : Int).toNat - (((rd_T59 t317 (ji22)).f0) : Int).toNat := (by rw [Ny325.out, List.length_drop, List.length_take] <;> omega); rw [show ((x0_1).take (((rd_T59 t317 (ji22)).f1) : Int).toNat).drop (((rd_T59 t317 (ji22)).f0) : Int).toNat = y325 from Ny325.out.symm] at hr29; replace hr29 : Kd.F (Kd.int .u8) _ _ A29 y325.length y325 := (by rw [hA29]; exact hr29)
             rw [← hy29, ← hA29, ← hc29] at hcut29; have HO329 := am (show Kd.V (Kd.int .u8) 5 _ w.heap.size _ (.slice A29 y325.length c29) y325 from Kd.V_mk (by rw [hy29, hc29]; exact Nat.sub_le_sub_right (Nat.le_trans (by omega) hroom29) _) hr29)
             have HC329 := am (show y325.length ≤ c29 from by rw [hy29, hc29]; exact Nat.sub_le_sub_right (Nat.le_trans (by omega) hroom29) _); clear hr29 hC29 hroom29 hi029 hsz29 hc29; have KY29 := am hy29; have KA29 := am hA29; clear hy29 hA29; replace q29 := eq_true q29
             go_wp2
             repeat (go_quiet (fail); try go_wp2)
             go_roundg kj7
             case measure => have := HK1.out; have := HJ7.out; omega
             case rel => exact ⟨(y325), (wrap64 (x14_1 + 1)), sz, H', ⟨by have := HK1.out; have := HJ7.out; omega⟩, ⟨by (with_reducible repeat (first | apply Kd.V_alloc | apply Kd.V_drewN | apply Kd.V_drew)); exact Kd.V_mono HO329.out (fun _ hk => hk.1)⟩, ⟨bz⟩⟩
            rw [if_neg c27] at H
            exact absurd H (by simp)
           rw [if_neg c26] at H
           exact absurd H (by simp)
          rw [if_neg c25] at H
          exact absurd H (by simp)
         rw [if_neg c24] at H
         exact absurd H (by simp)
        rw [if_neg c23] at H
        exact absurd H (by simp)
     rw [if_neg c6] at H
     exact absurd H (by simp)
    rw [if_neg c5] at H
    exact absurd H (by simp)
   rw [if_neg c4] at H; have c4b0 : decide (x14_1 < (l1.length : Int)) = false := decide_eq_false c4; clear c4; replace H := Option.bind_eq_some_iff.mp H; obtain ⟨t313, A300, H⟩ := H; replace H : (some (t313, true)) = some (r1, r2) := H; have A30 := am A300; clear A300; simp only [Option.some.injEq, Prod.mk.injEq] at H; obtain ⟨rfl, rfl⟩ := H; obtain ⟨Ao31, co31, eo31⟩ := Kd.V_slice HO_0.out; subst eo31
   go_wp2_with (first | (go_at_call 47; (with_reducible refine (bytes_Clone.calls _ _ x0_1 t313 _ ?side1 ?side2 A30.out).mono ?_); (case side1 => exact cz (Kd.V_reads' HO_0.out).2.2); (case side2 => exact (Kd.V_reads' HO_0.out).2.1); rintro e w32 ⟨v314, rfl, ho0, hb⟩; have n0_ := am (Kd.V_elder' (vz HO_0.out) (Kd.R_base ho0) hb); have n1_ := am (Kd.R_lower (Kd.R_newM (M := fun k_ => (w.heap.size ≤ k_)) ho0 (below_size bz) (fun k_ h_ => h_)) (below_size bz)); have n2_ := am (below_step bz hb); clear HO_0 HB; have HO_0 := n0_; have HO315 := n1_; have HB := n2_; clear n0_ n1_ n2_; (try clear hb); (try clear hb2); (try clear hk); (try clear hi); (try clear ho0)))
   repeat (go_quiet (first | (go_at_call 47; (with_reducible refine (bytes_Clone.calls _ _ x0_1 t313 _ ?side1 ?side2 A30.out).mono ?_); (case side1 => exact cz (Kd.V_reads' HO_0.out).2.2); (case side2 => exact (Kd.V_reads' HO_0.out).2.1); rintro e w32 ⟨v314, rfl, ho0, hb⟩; have n0_ := am (Kd.V_elder' (vz HO_0.out) (Kd.R_base ho0) hb); have n1_ := am (Kd.R_lower (Kd.R_newM (M := fun k_ => (w.heap.size ≤ k_)) ho0 (below_size bz) (fun k_ h_ => h_)) (below_size bz)); have n2_ := am (below_step bz hb); clear HO_0 HB; have HO_0 := n0_; have HO315 := n1_; have HB := n2_; clear n0_ n1_ n2_; (try clear hb); (try clear hb2); (try clear hk); (try clear hi); (try clear ho0))); try go_wp2_with (first | (go_at_call 47; (with_reducible refine (bytes_Clone.calls _ _ x0_1 t313 _ ?side1 ?side2 A30.out).mono ?_); (case side1 => exact cz (Kd.V_reads' HO_0.out).2.2); (case side2 => exact (Kd.V_reads' HO_0.out).2.1); rintro e w32 ⟨v314, rfl, ho0, hb⟩; have n0_ := am (Kd.V_elder' (vz HO_0.out) (Kd.R_base ho0) hb); have n1_ := am (Kd.R_lower (Kd.R_newM (M := fun k_ => (w.heap.size ≤ k_)) ho0 (below_size bz) (fun k_ h_ => h_)) (below_size bz)); have n2_ := am (below_step bz hb); clear HO_0 HB; have HO_0 := n0_; have HO315 := n1_; have HB := n2_; clear n0_ n1_ n2_; (try clear hb); (try clear hb2); (try clear hk); (try clear hi); (try clear ho0))))
   go_ret2
   exact ⟨_, ez, by (with_reducible repeat first | apply rA | apply rN | apply rD); exact Kd.R_mono HO315.out (fun _ hk => hk.1), bz⟩

end Go.Proofs.YtfabaenfglionaaGreatDoor.P
