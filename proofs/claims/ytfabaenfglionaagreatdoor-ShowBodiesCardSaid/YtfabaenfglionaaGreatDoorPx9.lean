/- The walks of the seat's functions, one contract a function: printed by a program of this session's (wip/gen). Not trusted: Lean checks it. -/
import Derived.Test.YtfabaenfglionaaGreatDoorShort
import Derived.Test.YtfabaenfglionaaGreatDoorPx0
import Derived.Test.YtfabaenfglionaaGreatDoorPx6
import Derived.Test.YtfabaenfglionaaGreatDoorPx7
import Derived.Test.YtfabaenfglionaaGreatDoorPx8
import Derived.Test.YtfabaenfglionaaGreatDoorUidShow
-- halved
namespace Go.Proofs.YtfabaenfglionaaGreatDoor.P
open Go.RowKit Go.Proofs.YtfabaenfglionaaGreatDoorW.PrintWords Go.Proofs.YtfabaenfglionaaGreatDoorW.PrintLast Go.Proofs.YtfabaenfglionaaGreatDoorW.PrintMore
attribute [local go_sem] max2_int min2_int max_two min_two max_three min_three max_four min_four   -- for this text's walks alone
set_option linter.unusedVariables false
set_option linter.unusedSimpArgs false

/-! ### letterboxref10_Type: function 39 -/
mutual
def letterboxref10_Type.l0 : Nat → List ByteArray → ByteArray → Int → ByteArray → Int → Option (ByteArray × ByteArray × ByteArray)
 | 0, _, _, _, _, _ => none
 | k + 1, x7, x8, x9, x10, x11 => if x11 ≥ 1 then (if 0 ≤ x11 then (if x11 < (x7.length : Int) then ((letterboxref9_Colon.f k (rdOf ByteArray.empty x7 x11) 61).bind fun t489 => (if t489 < 0 then (letterboxref10_Type.j1 k x7 x8 x9 x10 x11 t489 true) else (if 0 ≤ t489 then (if t489 ≤ ((rdOf ByteArray.empty x7 x11).size : Int) then ((letterboxref9_Trim.f k ((rdOf ByteArray.empty x7 x11).extract 0 (t489 : Int).toNat)).bind fun t491 => ((letterboxref9_Same.f t491 (⟨#[98, 111, 117, 110, 100, 97, 114, 121]⟩ : ByteArray)).bind fun t492 => (letterboxref10_Type.j1 k x7 x8 x9 x10 x11 t489 (!t492)))) else (none)) else (none)))) else (none)) else (none)) else (if x9 < 1 then (some ((⟨#[116, 101, 120, 116]⟩ : ByteArray), (⟨#[112, 108, 97, 105, 110]⟩ : ByteArray), x10)) else (if x9 = (wrap64 ((x8.size : Int) - 1)) then (some ((⟨#[116, 101, 120, 116]⟩ : ByteArray), (⟨#[112, 108, 97, 105, 110]⟩ : ByteArray), x10)) else (if 0 ≤ x9 then (if x9 ≤ (x8.size : Int) then (if 0 ≤ (wrap64 (x9 + 1)) then (if (wrap64 (x9 + 1)) ≤ (x8.size : Int) then (some (x8.extract 0 (x9 : Int).toNat, x8.extract ((wrap64 (x9 + 1)) : Int).toNat x8.size, x10)) else (none)) else (none)) else (none)) else (none))))
def letterboxref10_Type.j1 : Nat → List ByteArray → ByteArray → Int → ByteArray → Int → Int → Bool → Option (ByteArray × ByteArray × ByteArray)
 | 0, _, _, _, _, _, _, _ => none
 | k + 1, x7, x8, x9, x10, x11, x12, x53 => if x53 = true then (letterboxref10_Type.l0 k x7 x8 x9 x10 (wrap64 (x11 - 1))) else (if 0 ≤ x11 then (if x11 < (x7.length : Int) then (if 0 ≤ (wrap64 (x12 + 1)) then (if (wrap64 (x12 + 1)) ≤ ((rdOf ByteArray.empty x7 x11).size : Int) then ((letterboxref9_Trim.f k ((rdOf ByteArray.empty x7 x11).extract ((wrap64 (x12 + 1)) : Int).toNat (rdOf ByteArray.empty x7 x11).size)).bind fun t494 => (if (t494.size : Int) ≥ 2 then (if 0 < (t494.size : Int) then (if (bt t494 0) = 34 then (if 0 ≤ (wrap64 ((t494.size : Int) - 1)) then (if (wrap64 ((t494.size : Int) - 1)) < (t494.size : Int) then (if (bt t494 (wrap64 ((t494.size : Int) - 1))) = 34 then (if 1 ≤ (wrap64 ((t494.size : Int) - 1)) then (if (wrap64 ((t494.size : Int) - 1)) ≤ (t494.size : Int) then (letterboxref10_Type.l0 k x7 x8 x9 (t494.extract 1 ((wrap64 ((t494.size : Int) - 1)) : Int).toNat) (wrap64 (x11 - 1))) else (none)) else (none)) else (letterboxref10_Type.l0 k x7 x8 x9 t494 (wrap64 (x11 - 1)))) else (none)) else (none)) else (letterboxref10_Type.l0 k x7 x8 x9 t494 (wrap64 (x11 - 1)))) else (none)) else (letterboxref10_Type.l0 k x7 x8 x9 t494 (wrap64 (x11 - 1))))) else (none)) else (none)) else (none)) else (none))
end
def letterboxref10_Type.f (k : Nat) (l0 : List Int) : Option (ByteArray × ByteArray × ByteArray) := (letterboxref9_Get.f k l0 (⟨#[67, 111, 110, 116, 101, 110, 116, 45, 84, 121, 112, 101]⟩ : ByteArray)).bind fun bt479 => (if bt479.2 = true then ((letterboxref10_pieces.f k bt479.1 59).bind fun t481 => (if 0 < (t481.length : Int) then ((letterboxref9_Trim.f k (rdOf ByteArray.empty t481 0)).bind fun t485 => ((letterboxref9_Low.f t485).bind fun t486 => ((letterboxref9_Colon.f k t486 47).bind fun t487 => (letterboxref10_Type.l0 k t481 t486 t487 (⟨#[]⟩ : ByteArray) (wrap64 ((t481.length : Int) - 1)))))) else (none))) else (some ((⟨#[116, 101, 120, 116]⟩ : ByteArray), (⟨#[112, 108, 97, 105, 110]⟩ : ByteArray), (⟨#[]⟩ : ByteArray))))
set_option maxHeartbeats 8000000 in
set_option maxRecDepth 100000 in
theorem letterboxref10_Type.calls (k : Nat) (A0 : Option Addr) (c0 : Nat) (l0 : List Int) (r1 : ByteArray) (r2 : ByteArray) (r3 : ByteArray) (w : World) (hr0 : Kd.C (Kd.int .u8) w A0 l0.length l0) (hc0 : l0.length ≤ c0) (h : letterboxref10_Type.f k l0 = some (r1, r2, r3)) :
  Calls Tryz.prog 39 #[.slice A0 l0.length c0] w fun e w' => e = .returned (.tuple #[.string r1, .string r2, .string r3]) ∧ Below w.heap.size w w' := by
 have HR0 := am hr0; have HC0 := am hc0; clear hr0 hc0; have HB := am (Below.refl w.heap.size w); have H : ((letterboxref9_Get.f k l0 (⟨#[67, 111, 110, 116, 101, 110, 116, 45, 84, 121, 112, 101]⟩ : ByteArray)).bind fun bt479 => (if bt479.2 = true then ((letterboxref10_pieces.f k bt479.1 59).bind fun t481 => (if 0 < (t481.length : Int) then ((letterboxref9_Trim.f k (rdOf ByteArray.empty t481 0)).bind fun t485 => ((letterboxref9_Low.f t485).bind fun t486 => ((letterboxref9_Colon.f k t486 47).bind fun t487 => (letterboxref10_Type.l0 k t481 t486 t487 (⟨#[]⟩ : ByteArray) (wrap64 ((t481.length : Int) - 1)))))) else (none))) else (some ((⟨#[116, 101, 120, 116]⟩ : ByteArray), (⟨#[112, 108, 97, 105, 110]⟩ : ByteArray), (⟨#[]⟩ : ByteArray))))) = some (r1, r2, r3) := h; clear h; replace H := Option.bind_eq_some_iff.mp H; obtain ⟨⟨t479, t480⟩, A20, H⟩ := H; (try dsimp only at H); have A2 := am A20; clear A20
 by_cases c3 : t480 = true
 ·subst c3
  have H1 : ((letterboxref10_pieces.f k t479 59).bind fun t481 => (if 0 < (t481.length : Int) then ((letterboxref9_Trim.f k (rdOf ByteArray.empty t481 0)).bind fun t485 => ((letterboxref9_Low.f t485).bind fun t486 => ((letterboxref9_Colon.f k t486 47).bind fun t487 => (letterboxref10_Type.l0 k t481 t486 t487 (⟨#[]⟩ : ByteArray) (wrap64 ((t481.length : Int) - 1)))))) else (none))) = some (r1, r2, r3) := by rw [if_pos rfl] at H; exact H
  clear H; have H := H1; clear H1; replace H := Option.bind_eq_some_iff.mp H; obtain ⟨t481, A40, H⟩ := H; (try dsimp only at H); have A4 := am A40; clear A40
  by_cases c5 : 0 < (t481.length : Int)
  ·rw [if_pos c5] at H; have c5b0 : decide (0 < (t481.length : Int)) = true := decide_eq_true c5; have c5b1 : decide (0 < t481.length) = true := decide_eq_true (by omega); clear c5; replace H := Option.bind_eq_some_iff.mp H; obtain ⟨t485, A60, H⟩ := H; (try dsimp only at H); have A6 := am A60; clear A60; replace H := Option.bind_eq_some_iff.mp H; obtain ⟨t486, A70, H⟩ := H; (try dsimp only at H); have A7 := am A70; clear A70; replace H := Option.bind_eq_some_iff.mp H; obtain ⟨t487, A80, H⟩ := H; replace H : (letterboxref10_Type.l0 k t481 t486 t487 (⟨#[]⟩ : ByteArray) (wrap64 ((t481.length : Int) - 1))) = some (r1, r2, r3) := H; have A8 := am A80; clear A80; have H' := am H; clear H
   go_enter Tryz.func39, Tryz.ntmps39
   go_wp2_with (first | (go_at_call 53; (with_reducible refine (letterboxref9_Get.calls k _ _ l0 (⟨#[67, 111, 110, 116, 101, 110, 116, 45, 84, 121, 112, 101]⟩ : ByteArray) t479 true _ ?side1 ?side2 A2.out).mono ?_); (case side1 => exact cz HR0.out); (case side2 => exact HC0.out); rintro e w9 ⟨rfl, hb⟩; replace HB := am (below_step bz hb); (try clear hb); (try clear hb2); (try clear hk); (try clear hi)) | (go_at_call 54; (with_reducible refine (letterboxref10_pieces.calls k t479 59 t481 _ A4.out).mono ?_); rintro e w10 ⟨v482, rfl, ho0, hb⟩; have n0_ := am (Kd.R_lower ho0 (below_size bz)); have n1_ := am (below_step bz hb); clear HB; have HO483 := n0_; have HB := n1_; clear n0_ n1_; (try clear hb); (try clear hb2); (try clear hk); (try clear hi); (try clear ho0); obtain ⟨Ao11, co11, eo11⟩ := Kd.R_slice HO483.out; subst eo11; have p484 : 0 ≤ (0 : Int) := (by omega); have q484 : 0 < (t481.length : Int) := of_decide_eq_true az; obtain ⟨ad484, e484, hx484_0⟩ := Kd.at_string (Kd.R_reads' HO483.out).2.2 0 p484 q484; cases e484; have qi484 : (0 < t481.length) = True := eq_true (by omega); (try rw [show ((0 : Int)).toNat = 0 from rfl] at hx484_0); (try rw [Addr.add_zero'] at hx484_0); replace p484 := eq_true p484; replace q484 := eq_true q484) | (go_at_call 55; (with_reducible refine (letterboxref9_Trim.calls k (rdOf ByteArray.empty t481 0) t485 _ A6.out).mono ?_); rintro e w' ⟨rfl, ⟨nd, rfl⟩⟩; (try exact dz)) | (go_at_call 28; (with_reducible refine (letterboxref9_Low.calls t485 t486 _ A7.out).mono ?_); rintro e w12 ⟨rfl, hb⟩; replace HO483 := am (rx HO483.out hb); replace HB := am (below_step bz hb); (try clear hb); (try clear hb2); (try clear hk); (try clear hi)) | (go_at_call 56; (with_reducible refine (letterboxref9_Colon.calls k t486 47 t487 _ A8.out).mono ?_); rintro e w' ⟨rfl, ⟨nd, rfl⟩⟩; (try exact dz)))
   repeat (go_quiet (first | (go_at_call 53; (with_reducible refine (letterboxref9_Get.calls k _ _ l0 (⟨#[67, 111, 110, 116, 101, 110, 116, 45, 84, 121, 112, 101]⟩ : ByteArray) t479 true _ ?side1 ?side2 A2.out).mono ?_); (case side1 => exact cz HR0.out); (case side2 => exact HC0.out); rintro e w9 ⟨rfl, hb⟩; replace HB := am (below_step bz hb); (try clear hb); (try clear hb2); (try clear hk); (try clear hi)) | (go_at_call 54; (with_reducible refine (letterboxref10_pieces.calls k t479 59 t481 _ A4.out).mono ?_); rintro e w10 ⟨v482, rfl, ho0, hb⟩; have n0_ := am (Kd.R_lower ho0 (below_size bz)); have n1_ := am (below_step bz hb); clear HB; have HO483 := n0_; have HB := n1_; clear n0_ n1_; (try clear hb); (try clear hb2); (try clear hk); (try clear hi); (try clear ho0); obtain ⟨Ao11, co11, eo11⟩ := Kd.R_slice HO483.out; subst eo11; have p484 : 0 ≤ (0 : Int) := (by omega); have q484 : 0 < (t481.length : Int) := of_decide_eq_true az; obtain ⟨ad484, e484, hx484_0⟩ := Kd.at_string (Kd.R_reads' HO483.out).2.2 0 p484 q484; cases e484; have qi484 : (0 < t481.length) = True := eq_true (by omega); (try rw [show ((0 : Int)).toNat = 0 from rfl] at hx484_0); (try rw [Addr.add_zero'] at hx484_0); replace p484 := eq_true p484; replace q484 := eq_true q484) | (go_at_call 55; (with_reducible refine (letterboxref9_Trim.calls k (rdOf ByteArray.empty t481 0) t485 _ A6.out).mono ?_); rintro e w' ⟨rfl, ⟨nd, rfl⟩⟩; (try exact dz)) | (go_at_call 28; (with_reducible refine (letterboxref9_Low.calls t485 t486 _ A7.out).mono ?_); rintro e w12 ⟨rfl, hb⟩; replace HO483 := am (rx HO483.out hb); replace HB := am (below_step bz hb); (try clear hb); (try clear hb2); (try clear hk); (try clear hi)) | (go_at_call 56; (with_reducible refine (letterboxref9_Colon.calls k t486 47 t487 _ A8.out).mono ?_); rintro e w' ⟨rfl, ⟨nd, rfl⟩⟩; (try exact dz))); try go_wp2_with (first | (go_at_call 53; (with_reducible refine (letterboxref9_Get.calls k _ _ l0 (⟨#[67, 111, 110, 116, 101, 110, 116, 45, 84, 121, 112, 101]⟩ : ByteArray) t479 true _ ?side1 ?side2 A2.out).mono ?_); (case side1 => exact cz HR0.out); (case side2 => exact HC0.out); rintro e w9 ⟨rfl, hb⟩; replace HB := am (below_step bz hb); (try clear hb); (try clear hb2); (try clear hk); (try clear hi)) | (go_at_call 54; (with_reducible refine (letterboxref10_pieces.calls k t479 59 t481 _ A4.out).mono ?_); rintro e w10 ⟨v482, rfl, ho0, hb⟩; have n0_ := am (Kd.R_lower ho0 (below_size bz)); have n1_ := am (below_step bz hb); clear HB; have HO483 := n0_; have HB := n1_; clear n0_ n1_; (try clear hb); (try clear hb2); (try clear hk); (try clear hi); (try clear ho0); obtain ⟨Ao11, co11, eo11⟩ := Kd.R_slice HO483.out; subst eo11; have p484 : 0 ≤ (0 : Int) := (by omega); have q484 : 0 < (t481.length : Int) := of_decide_eq_true az; obtain ⟨ad484, e484, hx484_0⟩ := Kd.at_string (Kd.R_reads' HO483.out).2.2 0 p484 q484; cases e484; have qi484 : (0 < t481.length) = True := eq_true (by omega); (try rw [show ((0 : Int)).toNat = 0 from rfl] at hx484_0); (try rw [Addr.add_zero'] at hx484_0); replace p484 := eq_true p484; replace q484 := eq_true q484) | (go_at_call 55; (with_reducible refine (letterboxref9_Trim.calls k (rdOf ByteArray.empty t481 0) t485 _ A6.out).mono ?_); rintro e w' ⟨rfl, ⟨nd, rfl⟩⟩; (try exact dz)) | (go_at_call 28; (with_reducible refine (letterboxref9_Low.calls t485 t486 _ A7.out).mono ?_); rintro e w12 ⟨rfl, hb⟩; replace HO483 := am (rx HO483.out hb); replace HB := am (below_step bz hb); (try clear hb); (try clear hb2); (try clear hk); (try clear hi)) | (go_at_call 56; (with_reducible refine (letterboxref9_Colon.calls k t486 47 t487 _ A8.out).mono ?_); rintro e w' ⟨rfl, ⟨nd, rfl⟩⟩; (try exact dz))))
   go_loopg [10, 11] k (fun kq v10 v11 w' => ∃ (x10_1 : ByteArray) (x11_1 : Int), v10 = .string x10_1 ∧ v11 = .int .i64 x11_1 ∧ Aside0 (letterboxref10_Type.l0 kq t481 t486 t487 x10_1 x11_1 = some (r1, r2, r3)) ∧ Aside0 (kq ≤ k) ∧ Aside0 (Kd.R Kd.string 9 w' w.heap.size (fun _ => True) (.slice (some ad484) t481.length co11) t481) ∧ Aside0 (Below w.heap.size w w'))
   case atStart => exact ⟨((⟨#[]⟩ : ByteArray)), (wrap64 ((t481.length : Int) - 1)), sz, sz, H', ⟨Nat.le_refl _⟩, ⟨rz HO483.out⟩, ⟨bz⟩⟩
   case round =>
    clear H'; (try clear p2); (try clear c3); (try clear p4); (try clear q4); (try clear hx4); (try clear qi4); (try clear c5); (try clear c5b0); (try clear c5b1); (try clear p6); (try clear hx484_0); (try clear p484); (try clear q484); obtain ⟨x10_1, x11_1, rfl, rfl, HA, HK1, HO_7, HB⟩ := hrel
    cases gk with
    | zero => exact absurd HA.out (by simp [letterboxref10_Type.l0])
    | succ k1 =>
     have H := HA.out; clear HA; simp only [letterboxref10_Type.l0] at H
     by_cases c13 : x11_1 ≥ 1
     ·rw [if_pos c13] at H; have c13b0 : decide (1 ≤ x11_1) = true := decide_eq_true c13; clear c13
      by_cases c14 : 0 ≤ x11_1
      ·rw [if_pos c14] at H; have c14b0 : decide (0 ≤ x11_1) = true := decide_eq_true c14; clear c14
       by_cases c15 : x11_1 < (t481.length : Int)
       ·rw [if_pos c15] at H; have c15b0 : decide (x11_1 < (t481.length : Int)) = true := decide_eq_true c15; clear c15; replace H := Option.bind_eq_some_iff.mp H; obtain ⟨t489, A160, H⟩ := H; (try dsimp only at H); have A16 := am A160; clear A160; have HC17 := am H; clear H; have p488 : 0 ≤ (x11_1 : Int) := of_decide_eq_true az; have q488 : x11_1 < (t481.length : Int) := of_decide_eq_true az; obtain ⟨ad488, e488, hx488_0⟩ := Kd.at_string (Kd.R_reads' HO_7.out).2.2 x11_1 p488 q488; obtain rfl : ad484 = ad488 := (by injection e488); replace p488 := eq_true p488; replace q488 := eq_true q488
        go_upto_region 12 with (first | (go_at_call 56; (with_reducible refine (letterboxref9_Colon.calls k1 (rdOf ByteArray.empty t481 x11_1) 61 t489 _ A16.out).mono ?_); rintro e w' ⟨rfl, ⟨nd, rfl⟩⟩; (try exact dz)))
        repeat (go_quiet (first | (go_at_call 56; (with_reducible refine (letterboxref9_Colon.calls k1 (rdOf ByteArray.empty t481 x11_1) 61 t489 _ A16.out).mono ?_); rintro e w' ⟨rfl, ⟨nd, rfl⟩⟩; (try exact dz))); go_upto_region 12 with (first | (go_at_call 56; (with_reducible refine (letterboxref9_Colon.calls k1 (rdOf ByteArray.empty t481 x11_1) 61 t489 _ A16.out).mono ?_); rintro e w' ⟨rfl, ⟨nd, rfl⟩⟩; (try exact dz))))
        (try simp only [Act.put, List.setIfInBounds_toArray, List.set_cons_zero, List.set_cons_succ])
        go_cut [53] (fun v53 wc => ∃ (kq : Nat) (x53_16 : Bool), v53 = .bool x53_16 ∧ Aside0 (letterboxref10_Type.j1 kq t481 t486 t487 x10_1 x11_1 t489 x53_16 = some (r1, r2, r3)) ∧ Aside0 (kq ≤ k1) ∧ Aside0 (Kd.R Kd.string 9 wc w.heap.size (fun _ => True) (.slice (some ad484) t481.length co11) t481) ∧ Aside0 (Below w.heap.size w wc))
        case first =>
         have H := HC17.out; clear HC17
         by_cases c18 : t489 < 0
         ·rw [if_pos c18] at H; have c18b0 : decide (t489 < 0) = true := decide_eq_true c18; clear c18
          (first | rw [c18b0] | (simp only [i64_w, i32_w]; rw [c18b0]) | skip)
          have H' := am H; clear H
          go_wp2
          repeat (go_quiet (fail); try go_wp2)
          go_meet
          case rel => exact ⟨_, (true), sz, H', ⟨by have := HK1.out; first | omega | exact Nat.le_refl _⟩, ⟨rz HO_7.out⟩, ⟨bz⟩⟩
         rw [if_neg c18] at H; have c18b0 : decide (t489 < 0) = false := decide_eq_false c18; clear c18
         (first | rw [c18b0] | (simp only [i64_w, i32_w]; rw [c18b0]) | skip)
         by_cases c19 : 0 ≤ t489
         ·rw [if_pos c19] at H; have c19b0 := eq_true c19; have c19b1 : decide (0 ≤ t489) = true := decide_eq_true c19; clear c19
          by_cases c20 : t489 ≤ ((rdOf ByteArray.empty t481 x11_1).size : Int)
          ·rw [if_pos c20] at H; have c20b0 := eq_true c20; have c20b1 : decide (t489 ≤ ((rdOf ByteArray.empty t481 x11_1).size : Int)) = true := decide_eq_true c20; clear c20; replace H := Option.bind_eq_some_iff.mp H; obtain ⟨t491, A210, H⟩ := H; (try dsimp only at H); have A21 := am A210; clear A210; replace H := Option.bind_eq_some_iff.mp H; obtain ⟨t492, A220, H⟩ := H; replace H : (letterboxref10_Type.j1 k1 t481 t486 t487 x10_1 x11_1 t489 (!t492)) = some (r1, r2, r3) := H; have A22 := am A220; clear A220; have H' := am H; clear H; have p490 : 0 ≤ (x11_1 : Int) := of_decide_eq_true az; have q490 : x11_1 < (t481.length : Int) := of_decide_eq_true az; obtain ⟨ad490, e490, hx490_0⟩ := Kd.at_string (Kd.R_reads' HO_7.out).2.2 x11_1 p490 q490; obtain rfl : ad484 = ad490 := (by injection e490); replace p490 := eq_true p490; replace q490 := eq_true q490
           go_wp2_with (first | (go_at_call 55; (with_reducible refine (letterboxref9_Trim.calls k1 ((rdOf ByteArray.empty t481 x11_1).extract 0 (t489 : Int).toNat) t491 _ A21.out).mono ?_); rintro e w' ⟨rfl, ⟨nd, rfl⟩⟩; (try exact dz)) | (go_at_call 57; (with_reducible refine (letterboxref9_Same.calls t491 (⟨#[98, 111, 117, 110, 100, 97, 114, 121]⟩ : ByteArray) t492 _ A22.out).mono ?_); rintro e w23 ⟨rfl, hb⟩; replace HO_7 := am (Kd.R_below (rz HO_7.out) hb); replace HB := am (below_step bz hb); (try clear hb); (try clear hb2); (try clear hk); (try clear hi)))
           repeat (go_quiet (first | (go_at_call 55; (with_reducible refine (letterboxref9_Trim.calls k1 ((rdOf ByteArray.empty t481 x11_1).extract 0 (t489 : Int).toNat) t491 _ A21.out).mono ?_); rintro e w' ⟨rfl, ⟨nd, rfl⟩⟩; (try exact dz)) | (go_at_call 57; (with_reducible refine (letterboxref9_Same.calls t491 (⟨#[98, 111, 117, 110, 100, 97, 114, 121]⟩ : ByteArray) t492 _ A22.out).mono ?_); rintro e w23 ⟨rfl, hb⟩; replace HO_7 := am (Kd.R_below (rz HO_7.out) hb); replace HB := am (below_step bz hb); (try clear hb); (try clear hb2); (try clear hk); (try clear hi))); try go_wp2_with (first | (go_at_call 55; (with_reducible refine (letterboxref9_Trim.calls k1 ((rdOf ByteArray.empty t481 x11_1).extract 0 (t489 : Int).toNat) t491 _ A21.out).mono ?_); rintro e w' ⟨rfl, ⟨nd, rfl⟩⟩; (try exact dz)) | (go_at_call 57; (with_reducible refine (letterboxref9_Same.calls t491 (⟨#[98, 111, 117, 110, 100, 97, 114, 121]⟩ : ByteArray) t492 _ A22.out).mono ?_); rintro e w23 ⟨rfl, hb⟩; replace HO_7 := am (Kd.R_below (rz HO_7.out) hb); replace HB := am (below_step bz hb); (try clear hb); (try clear hb2); (try clear hk); (try clear hi))))
           go_meet
           case rel => exact ⟨_, (!t492), sz, H', ⟨by have := HK1.out; first | omega | exact Nat.le_refl _⟩, ⟨rz HO_7.out⟩, ⟨bz⟩⟩
          rw [if_neg c20] at H
          exact absurd H (by simp)
         rw [if_neg c19] at H
         exact absurd H (by simp)
        case rest =>
         clear HC17; (try clear c1); (try clear c2); (try clear p2); (try clear c3); (try clear p4); (try clear q4); (try clear hx4); (try clear qi4); (try clear c5); (try clear c5b0); (try clear c5b1); (try clear p6); (try clear c13); (try clear c13b0); (try clear c14); (try clear c14b0); (try clear c15); (try clear c15b0); (try clear c18); (try clear c18b0); (try clear c19); (try clear c19b0); (try clear c19b1); (try clear c20); (try clear c20b0); (try clear c20b1); (try clear hx484_0); (try clear hx488_0); (try clear hx490_0); (try clear p2); (try clear p4); (try clear p484); (try clear p488); (try clear p490); (try clear p6); (try clear q4); (try clear q484); (try clear q488); (try clear q490); obtain ⟨kq, x53_16, rfl, HA, HJ16, HO_7, HB⟩ := hcut
         cases kq with
         | zero => exact absurd HA.out (by simp [letterboxref10_Type.j1])
         | succ kj16 =>
          have H := HA.out; clear HA; simp only [letterboxref10_Type.j1] at H
          by_cases c24 : x53_16 = true
          ·subst c24
           have H1 : (letterboxref10_Type.l0 kj16 t481 t486 t487 x10_1 (wrap64 (x11_1 - 1))) = some (r1, r2, r3) := by rw [if_pos rfl] at H; exact H
           clear H; have H := H1; clear H1; have H' := am H; clear H
           go_wp2
           repeat (go_quiet (fail); try go_wp2)
           go_roundg kj16
           case measure => have := HK1.out; have := HJ16.out; omega
           case rel => exact ⟨(x10_1), (wrap64 (x11_1 - 1)), sz, sz, H', ⟨by have := HK1.out; have := HJ16.out; omega⟩, ⟨rz HO_7.out⟩, ⟨bz⟩⟩
          replace c24 := Bool.eq_false_iff.mpr c24; subst c24
          have H1 : (if 0 ≤ x11_1 then (if x11_1 < (t481.length : Int) then (if 0 ≤ (wrap64 (t489 + 1)) then (if (wrap64 (t489 + 1)) ≤ ((rdOf ByteArray.empty t481 x11_1).size : Int) then ((letterboxref9_Trim.f kj16 ((rdOf ByteArray.empty t481 x11_1).extract ((wrap64 (t489 + 1)) : Int).toNat (rdOf ByteArray.empty t481 x11_1).size)).bind fun t494 => (if (t494.size : Int) ≥ 2 then (if 0 < (t494.size : Int) then (if (bt t494 0) = 34 then (if 0 ≤ (wrap64 ((t494.size : Int) - 1)) then (if (wrap64 ((t494.size : Int) - 1)) < (t494.size : Int) then (if (bt t494 (wrap64 ((t494.size : Int) - 1))) = 34 then (if 1 ≤ (wrap64 ((t494.size : Int) - 1)) then (if (wrap64 ((t494.size : Int) - 1)) ≤ (t494.size : Int) then (letterboxref10_Type.l0 kj16 t481 t486 t487 (t494.extract 1 ((wrap64 ((t494.size : Int) - 1)) : Int).toNat) (wrap64 (x11_1 - 1))) else (none)) else (none)) else (letterboxref10_Type.l0 kj16 t481 t486 t487 t494 (wrap64 (x11_1 - 1)))) else (none)) else (none)) else (letterboxref10_Type.l0 kj16 t481 t486 t487 t494 (wrap64 (x11_1 - 1)))) else (none)) else (letterboxref10_Type.l0 kj16 t481 t486 t487 t494 (wrap64 (x11_1 - 1))))) else (none)) else (none)) else (none)) else (none)) = some (r1, r2, r3) := by rw [if_neg (show ¬ (false = true) by decide)] at H; exact H
          clear H; have H := H1; clear H1
          by_cases c25 : 0 ≤ x11_1
          ·rw [if_pos c25] at H; have c25b0 : decide (0 ≤ x11_1) = true := decide_eq_true c25; clear c25
           by_cases c26 : x11_1 < (t481.length : Int)
           ·rw [if_pos c26] at H; have c26b0 : decide (x11_1 < (t481.length : Int)) = true := decide_eq_true c26; clear c26; obtain ⟨ji27, hji27⟩ : ∃ j_ : Int, (wrap64 (t489 + 1)) = j_ := ⟨_, rfl⟩
            replace H : (if 0 ≤ (ji27) then (if (ji27) ≤ ((rdOf ByteArray.empty t481 x11_1).size : Int) then ((letterboxref9_Trim.f kj16 ((rdOf ByteArray.empty t481 x11_1).extract ((ji27) : Int).toNat (rdOf ByteArray.empty t481 x11_1).size)).bind fun t494 => (if (t494.size : Int) ≥ 2 then (if 0 < (t494.size : Int) then (if (bt t494 0) = 34 then (if 0 ≤ (wrap64 ((t494.size : Int) - 1)) then (if (wrap64 ((t494.size : Int) - 1)) < (t494.size : Int) then (if (bt t494 (wrap64 ((t494.size : Int) - 1))) = 34 then (if 1 ≤ (wrap64 ((t494.size : Int) - 1)) then (if (wrap64 ((t494.size : Int) - 1)) ≤ (t494.size : Int) then (letterboxref10_Type.l0 kj16 t481 t486 t487 (t494.extract 1 ((wrap64 ((t494.size : Int) - 1)) : Int).toNat) (wrap64 (x11_1 - 1))) else (none)) else (none)) else (letterboxref10_Type.l0 kj16 t481 t486 t487 t494 (wrap64 (x11_1 - 1)))) else (none)) else (none)) else (letterboxref10_Type.l0 kj16 t481 t486 t487 t494 (wrap64 (x11_1 - 1)))) else (none)) else (letterboxref10_Type.l0 kj16 t481 t486 t487 t494 (wrap64 (x11_1 - 1))))) else (none)) else (none)) = some (r1, r2, r3) := by first | (rw [hji27] at H; exact H) | (simp only [hji27] at H ⊢; exact H)
            have hji27w : (IntKind.i64.wrap (t489 + 1)) = ji27 := (i64_w _).trans hji27
            by_cases c28 : 0 ≤ (ji27)
            ·rw [if_pos c28] at H; have c28b0 := eq_true c28; have c28b1 : decide (0 ≤ (ji27)) = true := decide_eq_true c28; clear c28
             by_cases c29 : (ji27) ≤ ((rdOf ByteArray.empty t481 x11_1).size : Int)
             ·rw [if_pos c29] at H; have c29b0 := eq_true c29; have c29b1 : decide ((ji27) ≤ ((rdOf ByteArray.empty t481 x11_1).size : Int)) = true := decide_eq_true c29; clear c29; replace H := Option.bind_eq_some_iff.mp H; obtain ⟨t494, A300, H⟩ := H; (try dsimp only at H); have A30 := am A300; clear A300
              by_cases c31 : (t494.size : Int) ≥ 2
              ·rw [if_pos c31] at H; have c31b0 : decide (2 ≤ (t494.size : Int)) = true := decide_eq_true c31; have c31b1 : decide (2 ≤ t494.size) = true := decide_eq_true (by omega); clear c31
               by_cases c32 : 0 < (t494.size : Int)
               ·rw [if_pos c32] at H; have c32b0 : decide (0 < (t494.size : Int)) = true := decide_eq_true c32; have c32b1 : decide (0 < t494.size) = true := decide_eq_true (by omega); clear c32
                by_cases c34 : (bt t494 0) = 34
                ·rw [if_pos c34] at H; have c34b0 : ((bt t494 0) == 34) = true := beq_iff_eq.mpr c34; have c34b1 : ((bt t494 0) != 34) = false := bne_eq_false_iff_eq.mpr c34; clear c34; obtain ⟨ji35, hji35⟩ : ∃ j_ : Int, (wrap64 ((t494.size : Int) - 1)) = j_ := ⟨_, rfl⟩
                 replace H : (if 0 ≤ (ji35) then (if (ji35) < (t494.size : Int) then (if (bt t494 (ji35)) = 34 then (if 1 ≤ (ji35) then (if (ji35) ≤ (t494.size : Int) then (letterboxref10_Type.l0 kj16 t481 t486 t487 (t494.extract 1 ((ji35) : Int).toNat) (wrap64 (x11_1 - 1))) else (none)) else (none)) else (letterboxref10_Type.l0 kj16 t481 t486 t487 t494 (wrap64 (x11_1 - 1)))) else (none)) else (none)) = some (r1, r2, r3) := by first | (rw [hji35] at H; exact H) | (simp only [hji35] at H ⊢; exact H)
                 (try rw [hji35] at A30); have hji35w : (IntKind.i64.wrap ((t494.size : Int) - 1)) = ji35 := (i64_w _).trans hji35
                 by_cases c36 : 0 ≤ (ji35)
                 ·rw [if_pos c36] at H; have c36b0 : decide (0 ≤ (ji35)) = true := decide_eq_true c36; clear c36
                  by_cases c37 : (ji35) < (t494.size : Int)
                  ·rw [if_pos c37] at H; have c37b0 : decide ((ji35) < (t494.size : Int)) = true := decide_eq_true c37; clear c37
                   by_cases c39 : (bt t494 (ji35)) = 34
                   ·rw [if_pos c39] at H; have c39b0 : ((bt t494 (ji35)) == 34) = true := beq_iff_eq.mpr c39; have c39b1 : ((bt t494 (ji35)) != 34) = false := bne_eq_false_iff_eq.mpr c39; clear c39
                    by_cases c40 : 1 ≤ (ji35)
                    ·rw [if_pos c40] at H; have c40b0 := eq_true c40; have c40b1 : decide (1 ≤ (ji35)) = true := decide_eq_true c40; clear c40
                     by_cases c41 : (ji35) ≤ (t494.size : Int)
                     ·rw [if_pos c41] at H; have c41b0 := eq_true c41; have c41b1 : decide ((ji35) ≤ (t494.size : Int)) = true := decide_eq_true c41; clear c41; have H' := am H; clear H; have p493 : 0 ≤ (x11_1 : Int) := of_decide_eq_true az; have q493 : x11_1 < (t481.length : Int) := of_decide_eq_true az; obtain ⟨ad493, e493, hx493_0⟩ := Kd.at_string (Kd.R_reads' HO_7.out).2.2 x11_1 p493 q493; obtain rfl : ad484 = ad493 := (by injection e493); replace p493 := eq_true p493; replace q493 := eq_true q493
                      go_wp2_with (first | (go_at_call 55; (with_reducible refine (letterboxref9_Trim.calls kj16 ((rdOf ByteArray.empty t481 x11_1).extract ((ji27) : Int).toNat (rdOf ByteArray.empty t481 x11_1).size) t494 _ A30.out).mono ?_); rintro e w' ⟨rfl, ⟨nd, rfl⟩⟩; (try exact dz); have p33 : 0 ≤ (0 : Int) := (by omega); have q33 : 0 < t494.size := (by have : (0 : Int) < (t494.size : Int) := of_decide_eq_true az; omega); have hx33 : ∀ h : 0 < t494.size, ((t494[0]'h).toNat : Int) = bt t494 0 := bt_at t494 0; clear p33; have qi33 : (0 < (t494.size : Int)) = True := eq_true (of_decide_eq_true az); replace q33 := eq_true q33; have p38 : 0 ≤ ((ji35) : Int) := of_decide_eq_true az; have q38 : (ji35) < (t494.size : Int) := of_decide_eq_true az; have hx38 := bt_at t494 (ji35); replace p38 := eq_true p38; replace q38 := eq_true q38))
                      repeat (go_quiet (first | (go_at_call 55; (with_reducible refine (letterboxref9_Trim.calls kj16 ((rdOf ByteArray.empty t481 x11_1).extract ((ji27) : Int).toNat (rdOf ByteArray.empty t481 x11_1).size) t494 _ A30.out).mono ?_); rintro e w' ⟨rfl, ⟨nd, rfl⟩⟩; (try exact dz); have p33 : 0 ≤ (0 : Int) := (by omega); have q33 : 0 < t494.size := (by have : (0 : Int) < (t494.size : Int) := of_decide_eq_true az; omega); have hx33 : ∀ h : 0 < t494.size, ((t494[0]'h).toNat : Int) = bt t494 0 := bt_at t494 0; clear p33; have qi33 : (0 < (t494.size : Int)) = True := eq_true (of_decide_eq_true az); replace q33 := eq_true q33; have p38 : 0 ≤ ((ji35) : Int) := of_decide_eq_true az; have q38 : (ji35) < (t494.size : Int) := of_decide_eq_true az; have hx38 := bt_at t494 (ji35); replace p38 := eq_true p38; replace q38 := eq_true q38)); try go_wp2_with (first | (go_at_call 55; (with_reducible refine (letterboxref9_Trim.calls kj16 ((rdOf ByteArray.empty t481 x11_1).extract ((ji27) : Int).toNat (rdOf ByteArray.empty t481 x11_1).size) t494 _ A30.out).mono ?_); rintro e w' ⟨rfl, ⟨nd, rfl⟩⟩; (try exact dz); have p33 : 0 ≤ (0 : Int) := (by omega); have q33 : 0 < t494.size := (by have : (0 : Int) < (t494.size : Int) := of_decide_eq_true az; omega); have hx33 : ∀ h : 0 < t494.size, ((t494[0]'h).toNat : Int) = bt t494 0 := bt_at t494 0; clear p33; have qi33 : (0 < (t494.size : Int)) = True := eq_true (of_decide_eq_true az); replace q33 := eq_true q33; have p38 : 0 ≤ ((ji35) : Int) := of_decide_eq_true az; have q38 : (ji35) < (t494.size : Int) := of_decide_eq_true az; have hx38 := bt_at t494 (ji35); replace p38 := eq_true p38; replace q38 := eq_true q38)))
                      go_roundg kj16
                      case measure => have := HK1.out; have := HJ16.out; omega
                      case rel => exact ⟨(t494.extract 1 ((ji35) : Int).toNat), (wrap64 (x11_1 - 1)), (by first | rfl | (simp; done) | (simp only [← hji35] <;> (first | rfl | simp)) | (simp [*]; done)), sz, H', ⟨by have := HK1.out; have := HJ16.out; omega⟩, ⟨rz HO_7.out⟩, ⟨bz⟩⟩
                     rw [if_neg c41] at H
                     exact absurd H (by simp)
                    rw [if_neg c40] at H
                    exact absurd H (by simp)
                   rw [if_neg c39] at H; have c39b0 : ((bt t494 (ji35)) == 34) = false := beq_eq_false_iff_ne.mpr c39; have c39b1 : ((bt t494 (ji35)) != 34) = true := bne_iff_ne.mpr c39; have H' := am H; clear H; have p493 : 0 ≤ (x11_1 : Int) := of_decide_eq_true az; have q493 : x11_1 < (t481.length : Int) := of_decide_eq_true az; obtain ⟨ad493, e493, hx493_0⟩ := Kd.at_string (Kd.R_reads' HO_7.out).2.2 x11_1 p493 q493; obtain rfl : ad484 = ad493 := (by injection e493); replace p493 := eq_true p493; replace q493 := eq_true q493
                   go_wp2_with (first | (go_at_call 55; (with_reducible refine (letterboxref9_Trim.calls kj16 ((rdOf ByteArray.empty t481 x11_1).extract ((ji27) : Int).toNat (rdOf ByteArray.empty t481 x11_1).size) t494 _ A30.out).mono ?_); rintro e w' ⟨rfl, ⟨nd, rfl⟩⟩; (try exact dz); have p33 : 0 ≤ (0 : Int) := (by omega); have q33 : 0 < t494.size := (by have : (0 : Int) < (t494.size : Int) := of_decide_eq_true az; omega); have hx33 : ∀ h : 0 < t494.size, ((t494[0]'h).toNat : Int) = bt t494 0 := bt_at t494 0; clear p33; have qi33 : (0 < (t494.size : Int)) = True := eq_true (of_decide_eq_true az); replace q33 := eq_true q33; have p38 : 0 ≤ ((ji35) : Int) := of_decide_eq_true az; have q38 : (ji35) < (t494.size : Int) := of_decide_eq_true az; have hx38 := bt_at t494 (ji35); replace p38 := eq_true p38; replace q38 := eq_true q38))
                   repeat (go_quiet (first | (go_at_call 55; (with_reducible refine (letterboxref9_Trim.calls kj16 ((rdOf ByteArray.empty t481 x11_1).extract ((ji27) : Int).toNat (rdOf ByteArray.empty t481 x11_1).size) t494 _ A30.out).mono ?_); rintro e w' ⟨rfl, ⟨nd, rfl⟩⟩; (try exact dz); have p33 : 0 ≤ (0 : Int) := (by omega); have q33 : 0 < t494.size := (by have : (0 : Int) < (t494.size : Int) := of_decide_eq_true az; omega); have hx33 : ∀ h : 0 < t494.size, ((t494[0]'h).toNat : Int) = bt t494 0 := bt_at t494 0; clear p33; have qi33 : (0 < (t494.size : Int)) = True := eq_true (of_decide_eq_true az); replace q33 := eq_true q33; have p38 : 0 ≤ ((ji35) : Int) := of_decide_eq_true az; have q38 : (ji35) < (t494.size : Int) := of_decide_eq_true az; have hx38 := bt_at t494 (ji35); replace p38 := eq_true p38; replace q38 := eq_true q38)); try go_wp2_with (first | (go_at_call 55; (with_reducible refine (letterboxref9_Trim.calls kj16 ((rdOf ByteArray.empty t481 x11_1).extract ((ji27) : Int).toNat (rdOf ByteArray.empty t481 x11_1).size) t494 _ A30.out).mono ?_); rintro e w' ⟨rfl, ⟨nd, rfl⟩⟩; (try exact dz); have p33 : 0 ≤ (0 : Int) := (by omega); have q33 : 0 < t494.size := (by have : (0 : Int) < (t494.size : Int) := of_decide_eq_true az; omega); have hx33 : ∀ h : 0 < t494.size, ((t494[0]'h).toNat : Int) = bt t494 0 := bt_at t494 0; clear p33; have qi33 : (0 < (t494.size : Int)) = True := eq_true (of_decide_eq_true az); replace q33 := eq_true q33; have p38 : 0 ≤ ((ji35) : Int) := of_decide_eq_true az; have q38 : (ji35) < (t494.size : Int) := of_decide_eq_true az; have hx38 := bt_at t494 (ji35); replace p38 := eq_true p38; replace q38 := eq_true q38)))
                   go_roundg kj16
                   case measure => have := HK1.out; have := HJ16.out; omega
                   case rel => exact ⟨(t494), (wrap64 (x11_1 - 1)), sz, sz, H', ⟨by have := HK1.out; have := HJ16.out; omega⟩, ⟨rz HO_7.out⟩, ⟨bz⟩⟩
                  rw [if_neg c37] at H
                  exact absurd H (by simp)
                 rw [if_neg c36] at H
                 exact absurd H (by simp)
                rw [if_neg c34] at H; have c34b0 : ((bt t494 0) == 34) = false := beq_eq_false_iff_ne.mpr c34; have c34b1 : ((bt t494 0) != 34) = true := bne_iff_ne.mpr c34; have H' := am H; clear H; have p493 : 0 ≤ (x11_1 : Int) := of_decide_eq_true az; have q493 : x11_1 < (t481.length : Int) := of_decide_eq_true az; obtain ⟨ad493, e493, hx493_0⟩ := Kd.at_string (Kd.R_reads' HO_7.out).2.2 x11_1 p493 q493; obtain rfl : ad484 = ad493 := (by injection e493); replace p493 := eq_true p493; replace q493 := eq_true q493
                go_wp2_with (first | (go_at_call 55; (with_reducible refine (letterboxref9_Trim.calls kj16 ((rdOf ByteArray.empty t481 x11_1).extract ((ji27) : Int).toNat (rdOf ByteArray.empty t481 x11_1).size) t494 _ A30.out).mono ?_); rintro e w' ⟨rfl, ⟨nd, rfl⟩⟩; (try exact dz); have p33 : 0 ≤ (0 : Int) := (by omega); have q33 : 0 < t494.size := (by have : (0 : Int) < (t494.size : Int) := of_decide_eq_true az; omega); have hx33 : ∀ h : 0 < t494.size, ((t494[0]'h).toNat : Int) = bt t494 0 := bt_at t494 0; clear p33; have qi33 : (0 < (t494.size : Int)) = True := eq_true (of_decide_eq_true az); replace q33 := eq_true q33))
                repeat (go_quiet (first | (go_at_call 55; (with_reducible refine (letterboxref9_Trim.calls kj16 ((rdOf ByteArray.empty t481 x11_1).extract ((ji27) : Int).toNat (rdOf ByteArray.empty t481 x11_1).size) t494 _ A30.out).mono ?_); rintro e w' ⟨rfl, ⟨nd, rfl⟩⟩; (try exact dz); have p33 : 0 ≤ (0 : Int) := (by omega); have q33 : 0 < t494.size := (by have : (0 : Int) < (t494.size : Int) := of_decide_eq_true az; omega); have hx33 : ∀ h : 0 < t494.size, ((t494[0]'h).toNat : Int) = bt t494 0 := bt_at t494 0; clear p33; have qi33 : (0 < (t494.size : Int)) = True := eq_true (of_decide_eq_true az); replace q33 := eq_true q33)); try go_wp2_with (first | (go_at_call 55; (with_reducible refine (letterboxref9_Trim.calls kj16 ((rdOf ByteArray.empty t481 x11_1).extract ((ji27) : Int).toNat (rdOf ByteArray.empty t481 x11_1).size) t494 _ A30.out).mono ?_); rintro e w' ⟨rfl, ⟨nd, rfl⟩⟩; (try exact dz); have p33 : 0 ≤ (0 : Int) := (by omega); have q33 : 0 < t494.size := (by have : (0 : Int) < (t494.size : Int) := of_decide_eq_true az; omega); have hx33 : ∀ h : 0 < t494.size, ((t494[0]'h).toNat : Int) = bt t494 0 := bt_at t494 0; clear p33; have qi33 : (0 < (t494.size : Int)) = True := eq_true (of_decide_eq_true az); replace q33 := eq_true q33)))
                go_roundg kj16
                case measure => have := HK1.out; have := HJ16.out; omega
                case rel => exact ⟨(t494), (wrap64 (x11_1 - 1)), sz, sz, H', ⟨by have := HK1.out; have := HJ16.out; omega⟩, ⟨rz HO_7.out⟩, ⟨bz⟩⟩
               rw [if_neg c32] at H
               exact absurd H (by simp)
              rw [if_neg c31] at H; have c31b0 : decide (2 ≤ (t494.size : Int)) = false := decide_eq_false c31; have c31b1 : decide (2 ≤ t494.size) = false := decide_eq_false (by omega); clear c31; have H' := am H; clear H; have p493 : 0 ≤ (x11_1 : Int) := of_decide_eq_true az; have q493 : x11_1 < (t481.length : Int) := of_decide_eq_true az; obtain ⟨ad493, e493, hx493_0⟩ := Kd.at_string (Kd.R_reads' HO_7.out).2.2 x11_1 p493 q493; obtain rfl : ad484 = ad493 := (by injection e493); replace p493 := eq_true p493; replace q493 := eq_true q493
              go_wp2_with (first | (go_at_call 55; (with_reducible refine (letterboxref9_Trim.calls kj16 ((rdOf ByteArray.empty t481 x11_1).extract ((ji27) : Int).toNat (rdOf ByteArray.empty t481 x11_1).size) t494 _ A30.out).mono ?_); rintro e w' ⟨rfl, ⟨nd, rfl⟩⟩; (try exact dz)))
              repeat (go_quiet (first | (go_at_call 55; (with_reducible refine (letterboxref9_Trim.calls kj16 ((rdOf ByteArray.empty t481 x11_1).extract ((ji27) : Int).toNat (rdOf ByteArray.empty t481 x11_1).size) t494 _ A30.out).mono ?_); rintro e w' ⟨rfl, ⟨nd, rfl⟩⟩; (try exact dz))); try go_wp2_with (first | (go_at_call 55; (with_reducible refine (letterboxref9_Trim.calls kj16 ((rdOf ByteArray.empty t481 x11_1).extract ((ji27) : Int).toNat (rdOf ByteArray.empty t481 x11_1).size) t494 _ A30.out).mono ?_); rintro e w' ⟨rfl, ⟨nd, rfl⟩⟩; (try exact dz))))
              go_roundg kj16
              case measure => have := HK1.out; have := HJ16.out; omega
              case rel => exact ⟨(t494), (wrap64 (x11_1 - 1)), sz, sz, H', ⟨by have := HK1.out; have := HJ16.out; omega⟩, ⟨rz HO_7.out⟩, ⟨bz⟩⟩
             rw [if_neg c29] at H
             exact absurd H (by simp)
            rw [if_neg c28] at H
            exact absurd H (by simp)
           rw [if_neg c26] at H
           exact absurd H (by simp)
          rw [if_neg c25] at H
          exact absurd H (by simp)
       rw [if_neg c15] at H
       exact absurd H (by simp)
      rw [if_neg c14] at H
      exact absurd H (by simp)
     rw [if_neg c13] at H; have c13b0 : decide (1 ≤ x11_1) = false := decide_eq_false c13; clear c13
     by_cases c42 : t487 < 1
     ·rw [if_pos c42] at H; have c42b0 : decide (t487 < 1) = true := decide_eq_true c42; clear c42; simp only [Option.some.injEq, Prod.mk.injEq] at H; obtain ⟨rfl, rfl, rfl⟩ := H
      go_wp2
      repeat (go_quiet (fail); try go_wp2)
      go_ret3
      exact ⟨ez, bz⟩
     rw [if_neg c42] at H; have c42b0 : decide (t487 < 1) = false := decide_eq_false c42; clear c42
     by_cases c43 : t487 = (wrap64 ((t486.size : Int) - 1))
     ·rw [if_pos c43] at H; have c43b0 : (t487 == (wrap64 ((t486.size : Int) - 1))) = true := beq_iff_eq.mpr c43; have c43b1 : (t487 != (wrap64 ((t486.size : Int) - 1))) = false := bne_eq_false_iff_eq.mpr c43; clear c43; simp only [Option.some.injEq, Prod.mk.injEq] at H; obtain ⟨rfl, rfl, rfl⟩ := H
      go_wp2
      repeat (go_quiet (fail); try go_wp2)
      go_ret3
      exact ⟨ez, bz⟩
     rw [if_neg c43] at H; have c43b0 : (t487 == (wrap64 ((t486.size : Int) - 1))) = false := beq_eq_false_iff_ne.mpr c43; have c43b1 : (t487 != (wrap64 ((t486.size : Int) - 1))) = true := bne_iff_ne.mpr c43
     by_cases c44 : 0 ≤ t487
     ·rw [if_pos c44] at H; have c44b0 := eq_true c44; have c44b1 : decide (0 ≤ t487) = true := decide_eq_true c44; clear c44
      by_cases c45 : t487 ≤ (t486.size : Int)
      ·rw [if_pos c45] at H; have c45b0 := eq_true c45; have c45b1 : decide (t487 ≤ (t486.size : Int)) = true := decide_eq_true c45; clear c45; obtain ⟨ji46, hji46⟩ : ∃ j_ : Int, (wrap64 (t487 + 1)) = j_ := ⟨_, rfl⟩
       replace H : (if 0 ≤ (ji46) then (if (ji46) ≤ (t486.size : Int) then (some (t486.extract 0 (t487 : Int).toNat, t486.extract ((ji46) : Int).toNat t486.size, x10_1)) else (none)) else (none)) = some (r1, r2, r3) := by first | (rw [hji46] at H; exact H) | (simp only [hji46] at H ⊢; exact H)
       have hji46w : (IntKind.i64.wrap (t487 + 1)) = ji46 := (i64_w _).trans hji46
       by_cases c47 : 0 ≤ (ji46)
       ·rw [if_pos c47] at H; have c47b0 := eq_true c47; have c47b1 : decide (0 ≤ (ji46)) = true := decide_eq_true c47; clear c47
        by_cases c48 : (ji46) ≤ (t486.size : Int)
        ·rw [if_pos c48] at H; have c48b0 := eq_true c48; have c48b1 : decide ((ji46) ≤ (t486.size : Int)) = true := decide_eq_true c48; clear c48; simp only [Option.some.injEq, Prod.mk.injEq] at H; obtain ⟨rfl, rfl, rfl⟩ := H
         go_wp2
         repeat (go_quiet (fail); try go_wp2)
         go_ret3
         exact ⟨by first | rfl | (simp [errW_none, errW_some] <;> rfl) | (simp only [← hji46]; first | rfl | (simp [errW_none, errW_some] <;> rfl)) | (simp [*, errW_none, errW_some] <;> rfl), bz⟩
        rw [if_neg c48] at H
        exact absurd H (by simp)
       rw [if_neg c47] at H
       exact absurd H (by simp)
      rw [if_neg c45] at H
      exact absurd H (by simp)
     rw [if_neg c44] at H
     exact absurd H (by simp)
  rw [if_neg c5] at H
  exact absurd H (by simp)
 replace c3 := Bool.eq_false_iff.mpr c3; subst c3
 have H1 : (some ((⟨#[116, 101, 120, 116]⟩ : ByteArray), (⟨#[112, 108, 97, 105, 110]⟩ : ByteArray), (⟨#[]⟩ : ByteArray))) = some (r1, r2, r3) := by rw [if_neg (show ¬ (false = true) by decide)] at H; exact H
 clear H; have H := H1; clear H1; simp only [Option.some.injEq, Prod.mk.injEq] at H; obtain ⟨rfl, rfl, rfl⟩ := H
 go_enter Tryz.func39, Tryz.ntmps39
 go_wp2_with (first | (go_at_call 53; (with_reducible refine (letterboxref9_Get.calls k _ _ l0 (⟨#[67, 111, 110, 116, 101, 110, 116, 45, 84, 121, 112, 101]⟩ : ByteArray) t479 false _ ?side1 ?side2 A2.out).mono ?_); (case side1 => exact cz HR0.out); (case side2 => exact HC0.out); rintro e w49 ⟨rfl, hb⟩; replace HB := am (below_step bz hb); (try clear hb); (try clear hb2); (try clear hk); (try clear hi)))
 repeat (go_quiet (first | (go_at_call 53; (with_reducible refine (letterboxref9_Get.calls k _ _ l0 (⟨#[67, 111, 110, 116, 101, 110, 116, 45, 84, 121, 112, 101]⟩ : ByteArray) t479 false _ ?side1 ?side2 A2.out).mono ?_); (case side1 => exact cz HR0.out); (case side2 => exact HC0.out); rintro e w49 ⟨rfl, hb⟩; replace HB := am (below_step bz hb); (try clear hb); (try clear hb2); (try clear hk); (try clear hi))); try go_wp2_with (first | (go_at_call 53; (with_reducible refine (letterboxref9_Get.calls k _ _ l0 (⟨#[67, 111, 110, 116, 101, 110, 116, 45, 84, 121, 112, 101]⟩ : ByteArray) t479 false _ ?side1 ?side2 A2.out).mono ?_); (case side1 => exact cz HR0.out); (case side2 => exact HC0.out); rintro e w49 ⟨rfl, hb⟩; replace HB := am (below_step bz hb); (try clear hb); (try clear hb2); (try clear hk); (try clear hi))))
 go_ret3
 exact ⟨ez, bz⟩

/-! ### letterboxref10_cut: function 42 -/
def letterboxref10_cut.j0 : Nat → List Int → Int → Int → Bool → Option (Int)
 | 0, _, _, _, _ => none
 | k + 1, x0, x1, x2, x17 => if x17 = true then (if (wrap64 (x2 - 1)) > x1 then (if 0 ≤ (wrap64 ((wrap64 (x2 - 1)) - 1)) then (if (wrap64 ((wrap64 (x2 - 1)) - 1)) < (x0.length : Int) then (if (rd x0 (wrap64 ((wrap64 (x2 - 1)) - 1))) = 13 then (some (wrap64 ((wrap64 (x2 - 1)) - 1))) else (some (wrap64 (x2 - 1)))) else (none)) else (none)) else (some (wrap64 (x2 - 1)))) else (some x2)
def letterboxref10_cut.f (k : Nat) (l0 : List Int) (a1 : Int) (a2 : Int) : Option (Int) := if a2 > a1 then (if 0 ≤ (wrap64 (a2 - 1)) then (if (wrap64 (a2 - 1)) < (l0.length : Int) then (letterboxref10_cut.j0 k l0 a1 a2 ((rd l0 (wrap64 (a2 - 1))) == 10)) else (none)) else (none)) else (letterboxref10_cut.j0 k l0 a1 a2 false)
set_option maxHeartbeats 8000000 in
set_option maxRecDepth 100000 in
theorem letterboxref10_cut.calls (k : Nat) (A0 : Option Addr) (c0 : Nat) (l0 : List Int) (a1 : Int) (a2 : Int) (r : Int) (w : World) (hr0 : Kd.C (Kd.int .u8) w A0 l0.length l0) (hc0 : l0.length ≤ c0) (h : letterboxref10_cut.f k l0 a1 a2 = some r) :
  Calls Tryz.prog 42 #[.slice A0 l0.length c0, .int .i64 a1, .int .i64 a2] w fun e w' => e = .returned (.int .i64 r) ∧ Drawn0 w w' := by
 have HR0 := am hr0; have HC0 := am hc0; clear hr0 hc0; have H : (if a2 > a1 then (if 0 ≤ (wrap64 (a2 - 1)) then (if (wrap64 (a2 - 1)) < (l0.length : Int) then (letterboxref10_cut.j0 k l0 a1 a2 ((rd l0 (wrap64 (a2 - 1))) == 10)) else (none)) else (none)) else (letterboxref10_cut.j0 k l0 a1 a2 false)) = some r := h; clear h; have HC4 := am H; clear H
 go_enter Tryz.func42, Tryz.ntmps42
 go_upto_region 1 with (fail)
 go_cut [17] (fun v17 wc => ∃ (kq : Nat) (x17_3 : Bool), v17 = .bool x17_3 ∧ Aside0 (letterboxref10_cut.j0 kq l0 a1 a2 x17_3 = some r) ∧ Aside0 (kq ≤ k) ∧ Drawn0 w wc)
 case first =>
  have H := HC4.out; clear HC4
  by_cases c5 : a2 > a1
  ·rw [if_pos c5] at H; have c5b0 : decide (a1 < a2) = true := decide_eq_true c5; clear c5
   (first | rw [c5b0] | (simp only [i64_w, i32_w]; rw [c5b0]) | skip)
   obtain ⟨ji6, hji6⟩ : ∃ j_ : Int, (wrap64 (a2 - 1)) = j_ := ⟨_, rfl⟩
   replace H : (if 0 ≤ (ji6) then (if (ji6) < (l0.length : Int) then (letterboxref10_cut.j0 k l0 a1 a2 ((rd l0 (ji6)) == 10)) else (none)) else (none)) = some r := by first | (rw [hji6] at H; exact H) | (simp only [hji6] at H ⊢; exact H)
   have hji6w : (IntKind.i64.wrap (a2 - 1)) = ji6 := (i64_w _).trans hji6
   by_cases c7 : 0 ≤ (ji6)
   ·rw [if_pos c7] at H; have c7b0 : decide (0 ≤ (ji6)) = true := decide_eq_true c7; clear c7
    by_cases c8 : (ji6) < (l0.length : Int)
    ·rw [if_pos c8] at H; have c8b0 : decide ((ji6) < (l0.length : Int)) = true := decide_eq_true c8; clear c8; have H' := am H; clear H; have p495 : 0 ≤ ((ji6) : Int) := of_decide_eq_true az; have q495 : (ji6) < (l0.length : Int) := of_decide_eq_true az; obtain ⟨ad495, e495, hx495_0⟩ := Kd.at_int HR0.out (ji6) p495 q495
     cases e495
     replace p495 := eq_true p495; replace q495 := eq_true q495
     go_wp2
     go_meet
     case rel => exact ⟨_, (((rd l0 (ji6)) == 10)), (by first | rfl | (simp; done) | (simp only [← hji6] <;> (first | rfl | simp)) | (simp [*]; done)), H', ⟨by first | omega | exact Nat.le_refl _⟩, by repeat (first | exact Drawn0.refl _ | apply Drawn0.step)⟩
    rw [if_neg c8] at H
    exact absurd H (by simp)
   rw [if_neg c7] at H
   exact absurd H (by simp)
  rw [if_neg c5] at H; have c5b0 : decide (a1 < a2) = false := decide_eq_false c5; clear c5
  (first | rw [c5b0] | (simp only [i64_w, i32_w]; rw [c5b0]) | skip)
  have H' := am H; clear H
  go_wp2
  go_meet
  case rel => exact ⟨_, (false), sz, H', ⟨by first | omega | exact Nat.le_refl _⟩, by repeat (first | exact Drawn0.refl _ | apply Drawn0.step)⟩
 case rest =>
  clear HC4; (try clear p2); (try clear c4); (try clear p4); (try clear q4); (try clear hx4); (try clear c5); (try clear c5b0); (try clear p6); (try clear c7); (try clear c7b0); (try clear c8); (try clear c8b0); (try clear hx495_0); (try clear p495); (try clear q495); obtain ⟨kq, x17_3, rfl, HA, HJ3, ⟨mc3, rfl⟩⟩ := hcut
  cases kq with
  | zero => exact absurd HA.out (by simp [letterboxref10_cut.j0])
  | succ kj3 =>
   have H := HA.out; clear HA; simp only [letterboxref10_cut.j0] at H
   by_cases c9 : x17_3 = true
   ·subst c9
    have H1 : (if (wrap64 (a2 - 1)) > a1 then (if 0 ≤ (wrap64 ((wrap64 (a2 - 1)) - 1)) then (if (wrap64 ((wrap64 (a2 - 1)) - 1)) < (l0.length : Int) then (if (rd l0 (wrap64 ((wrap64 (a2 - 1)) - 1))) = 13 then (some (wrap64 ((wrap64 (a2 - 1)) - 1))) else (some (wrap64 (a2 - 1)))) else (none)) else (none)) else (some (wrap64 (a2 - 1)))) = some r := by rw [if_pos rfl] at H; exact H
    clear H; have H := H1; clear H1
    by_cases c10 : (wrap64 (a2 - 1)) > a1
    ·rw [if_pos c10] at H; have c10b0 : decide (a1 < (wrap64 (a2 - 1))) = true := decide_eq_true c10; clear c10; obtain ⟨ji11, hji11⟩ : ∃ j_ : Int, (wrap64 ((wrap64 (a2 - 1)) - 1)) = j_ := ⟨_, rfl⟩
     replace H : (if 0 ≤ (ji11) then (if (ji11) < (l0.length : Int) then (if (rd l0 (ji11)) = 13 then (some ji11) else (some (wrap64 (a2 - 1)))) else (none)) else (none)) = some r := by first | (rw [hji11] at H; exact H) | (simp only [hji11] at H ⊢; exact H)
     have hji11w : (IntKind.i64.wrap ((wrap64 (a2 - 1)) - 1)) = ji11 := (i64_w _).trans hji11
     by_cases c12 : 0 ≤ (ji11)
     ·rw [if_pos c12] at H; have c12b0 : decide (0 ≤ (ji11)) = true := decide_eq_true c12; clear c12
      by_cases c13 : (ji11) < (l0.length : Int)
      ·rw [if_pos c13] at H; have c13b0 : decide ((ji11) < (l0.length : Int)) = true := decide_eq_true c13; clear c13
       by_cases c14 : (rd l0 (ji11)) = 13
       ·rw [if_pos c14] at H; have c14b0 : ((rd l0 (ji11)) == 13) = true := beq_iff_eq.mpr c14; have c14b1 : ((rd l0 (ji11)) != 13) = false := bne_eq_false_iff_eq.mpr c14; clear c14; obtain rfl := Option.some.inj H; have p496 : 0 ≤ ((ji11) : Int) := of_decide_eq_true az; have q496 : (ji11) < (l0.length : Int) := of_decide_eq_true az; obtain ⟨ad496, e496, hx496_0⟩ := Kd.at_int HR0.out (ji11) p496 q496
        cases e496
        replace p496 := eq_true p496; replace q496 := eq_true q496
        go_wp2
        go_ret
        exact ⟨by first | rfl | (simp; done) | (simp only [← hji11] <;> (first | rfl | simp)) | (simp [*]; done), by repeat (first | exact Drawn0.refl _ | apply Drawn0.step)⟩
       rw [if_neg c14] at H; have c14b0 : ((rd l0 (ji11)) == 13) = false := beq_eq_false_iff_ne.mpr c14; have c14b1 : ((rd l0 (ji11)) != 13) = true := bne_iff_ne.mpr c14; obtain rfl := Option.some.inj H; have p496 : 0 ≤ ((ji11) : Int) := of_decide_eq_true az; have q496 : (ji11) < (l0.length : Int) := of_decide_eq_true az; obtain ⟨ad496, e496, hx496_0⟩ := Kd.at_int HR0.out (ji11) p496 q496
       cases e496
       replace p496 := eq_true p496; replace q496 := eq_true q496
       go_wp2
       go_ret
       exact ⟨by first | rfl | (simp; done) | (simp only [← hji11] <;> (first | rfl | simp)) | (simp [*]; done), by repeat (first | exact Drawn0.refl _ | apply Drawn0.step)⟩
      rw [if_neg c13] at H
      exact absurd H (by simp)
     rw [if_neg c12] at H
     exact absurd H (by simp)
    rw [if_neg c10] at H; have c10b0 : decide (a1 < (wrap64 (a2 - 1))) = false := decide_eq_false c10; clear c10; obtain rfl := Option.some.inj H
    go_wp2
    go_ret
    exact ⟨sz, by repeat (first | exact Drawn0.refl _ | apply Drawn0.step)⟩
   replace c9 := Bool.eq_false_iff.mpr c9; subst c9
   have H1 : (some a2) = some r := by rw [if_neg (show ¬ (false = true) by decide)] at H; exact H
   clear H; have H := H1; clear H1; obtain rfl := Option.some.inj H
   go_wp2
   go_ret
   exact ⟨sz, by repeat (first | exact Drawn0.refl _ | apply Drawn0.step)⟩

end Go.Proofs.YtfabaenfglionaaGreatDoor.P
