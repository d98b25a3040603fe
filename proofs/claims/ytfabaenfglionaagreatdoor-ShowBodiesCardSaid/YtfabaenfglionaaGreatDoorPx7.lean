/- The walks of the seat's functions, one contract a function: printed by a program of this session's (wip/gen). Not trusted: Lean checks it. -/
import Derived.Test.YtfabaenfglionaaGreatDoorShort
import Derived.Test.YtfabaenfglionaaGreatDoorPx0
import Derived.Test.YtfabaenfglionaaGreatDoorPx6
import Derived.Test.YtfabaenfglionaaGreatDoorUidShow
-- halved
namespace Go.Proofs.YtfabaenfglionaaGreatDoor.P
open Go.RowKit Go.Proofs.YtfabaenfglionaaGreatDoorW.PrintWords Go.Proofs.YtfabaenfglionaaGreatDoorW.PrintLast Go.Proofs.YtfabaenfglionaaGreatDoorW.PrintMore
attribute [local go_sem] max2_int min2_int max_two min_two max_three min_three max_four min_four   -- for this text's walks alone
set_option linter.unusedVariables false
set_option linter.unusedSimpArgs false

/-! ### letterboxref9_Trim: function 55 -/
mutual
def letterboxref9_Trim.j1 : Nat → ByteArray → Option (ByteArray)
 | 0, _ => none
 | k + 1, x0 => letterboxref9_Trim.l1 k x0
def letterboxref9_Trim.l1 : Nat → ByteArray → Option (ByteArray)
 | 0, _ => none
 | k + 1, x0 => if (x0.size : Int) > 0 then (if 0 ≤ (wrap64 ((x0.size : Int) - 1)) then (if (wrap64 ((x0.size : Int) - 1)) < (x0.size : Int) then ((letterboxref9_blank.f (bt x0 (wrap64 ((x0.size : Int) - 1)))).bind fun t405 => (if t405 = true then (if (wrap64 ((x0.size : Int) - 1)) ≤ (x0.size : Int) then (letterboxref9_Trim.l1 k (x0.extract 0 ((wrap64 ((x0.size : Int) - 1)) : Int).toNat)) else (none)) else (some x0))) else (none)) else (none)) else (some x0)
def letterboxref9_Trim.l0 : Nat → ByteArray → Option (ByteArray)
 | 0, _ => none
 | k + 1, x0 => if (x0.size : Int) > 0 then (if 0 < (x0.size : Int) then ((letterboxref9_blank.f (bt x0 0)).bind fun t404 => (if t404 = true then (if 1 ≤ (x0.size : Int) then (letterboxref9_Trim.l0 k (x0.extract 1 x0.size)) else (none)) else (letterboxref9_Trim.j1 k x0))) else (none)) else (letterboxref9_Trim.j1 k x0)
end
def letterboxref9_Trim.f (k : Nat) (a0 : ByteArray) : Option (ByteArray) := letterboxref9_Trim.l0 k a0
set_option maxHeartbeats 8000000 in
set_option maxRecDepth 100000 in
theorem letterboxref9_Trim.calls (k : Nat) (a0 : ByteArray) (r : ByteArray) (w : World) (h : letterboxref9_Trim.f k a0 = some r) :
  Calls Tryz.prog 55 #[.string a0] w fun e w' => e = .returned (.string r) ∧ Drawn0 w w' := by
 have H : (letterboxref9_Trim.l0 k a0) = some r := h; clear h; have HC2 := am H; clear H
 go_enter Tryz.func55, Tryz.ntmps55
 go_upto_block 0 with (fail)
 go_cut [0] (fun v0 wc => ∃ (kq : Nat) (x0_1 : ByteArray), v0 = .string x0_1 ∧ Aside0 (letterboxref9_Trim.j1 kq x0_1 = some r) ∧ Aside0 (kq ≤ k) ∧ Drawn0 w wc)
 case first =>
  have H := HC2.out; clear HC2; have H' := am H; clear H
  go_wp2
  go_loopg [0] k (fun kq v0 w' => ∃ (x0_1 : ByteArray), v0 = .string x0_1 ∧ Aside0 (letterboxref9_Trim.l0 kq x0_1 = some r) ∧ Aside0 (kq ≤ k) ∧ Drawn0 w w')
  case atStart => exact ⟨(a0), sz, H', ⟨Nat.le_refl _⟩, by repeat (first | exact Drawn0.refl _ | apply Drawn0.step)⟩
  case round =>
   clear H'; (try clear p2); obtain ⟨x0_1, rfl, HA, HK1, ⟨m1, rfl⟩⟩ := hrel
   cases gk with
   | zero => exact absurd HA.out (by simp [letterboxref9_Trim.l0])
   | succ k1 =>
    have H := HA.out; clear HA; simp only [letterboxref9_Trim.l0] at H
    by_cases c3 : (x0_1.size : Int) > 0
    ·rw [if_pos c3] at H; have c3b0 : decide (0 < (x0_1.size : Int)) = true := decide_eq_true c3; have c3b1 : decide (0 < x0_1.size) = true := decide_eq_true (by omega); clear c3
     (first | rw [c3b0] | (simp only [i64_w, i32_w]; rw [c3b0]) | skip)
     by_cases c4 : 0 < (x0_1.size : Int)
     ·rw [if_pos c4] at H; have c4b0 : decide (0 < (x0_1.size : Int)) = true := decide_eq_true c4; have c4b1 : decide (0 < x0_1.size) = true := decide_eq_true (by omega); clear c4; replace H := Option.bind_eq_some_iff.mp H; obtain ⟨t404, A60, H⟩ := H; (try dsimp only at H); have A6 := am A60; clear A60
      by_cases c7 : t404 = true
      ·subst c7
       have H1 : (if 1 ≤ (x0_1.size : Int) then (letterboxref9_Trim.l0 k1 (x0_1.extract 1 x0_1.size)) else (none)) = some r := by rw [if_pos rfl] at H; exact H
       clear H; have H := H1; clear H1
       by_cases c8 : 1 ≤ (x0_1.size : Int)
       ·rw [if_pos c8] at H; have c8b0 := eq_true c8; have c8b1 : decide (1 ≤ (x0_1.size : Int)) = true := decide_eq_true c8; clear c8; have H' := am H; clear H; have p5 : 0 ≤ (0 : Int) := (by omega); have q5 : 0 < x0_1.size := (by have : (0 : Int) < (x0_1.size : Int) := of_decide_eq_true az; omega)
        have hx5 : ∀ h : 0 < x0_1.size, ((x0_1[0]'h).toNat : Int) = bt x0_1 0 := bt_at x0_1 0; clear p5; have qi5 : (0 < (x0_1.size : Int)) = True := eq_true (of_decide_eq_true az); replace q5 := eq_true q5
        go_wp2_with (first | (go_at_call 75; (with_reducible refine (letterboxref9_blank.calls (bt x0_1 0) true _ A6.out).mono ?_); rintro e w' ⟨rfl, ⟨nd, rfl⟩⟩))
        go_roundg k1
        case measure => have := HK1.out; omega
        case rel => exact ⟨(x0_1.extract 1 x0_1.size), sz, H', ⟨by have := HK1.out; omega⟩, by repeat (first | exact Drawn0.refl _ | apply Drawn0.step)⟩
       rw [if_neg c8] at H
       exact absurd H (by simp)
      replace c7 := Bool.eq_false_iff.mpr c7; subst c7
      have H1 : (letterboxref9_Trim.j1 k1 x0_1) = some r := by rw [if_neg (show ¬ (false = true) by decide)] at H; exact H
      clear H; have H := H1; clear H1; have H' := am H; clear H; have p5 : 0 ≤ (0 : Int) := (by omega); have q5 : 0 < x0_1.size := (by have : (0 : Int) < (x0_1.size : Int) := of_decide_eq_true az; omega)
      have hx5 : ∀ h : 0 < x0_1.size, ((x0_1[0]'h).toNat : Int) = bt x0_1 0 := bt_at x0_1 0; clear p5; have qi5 : (0 < (x0_1.size : Int)) = True := eq_true (of_decide_eq_true az); replace q5 := eq_true q5
      go_wp2_with (first | (go_at_call 75; (with_reducible refine (letterboxref9_blank.calls (bt x0_1 0) false _ A6.out).mono ?_); rintro e w' ⟨rfl, ⟨nd, rfl⟩⟩))
      go_meet
      case rel => exact ⟨_, (x0_1), sz, H', ⟨by have := HK1.out; first | omega | exact Nat.le_refl _⟩, by repeat (first | exact Drawn0.refl _ | apply Drawn0.step)⟩
     rw [if_neg c4] at H
     exact absurd H (by simp)
    rw [if_neg c3] at H; have c3b0 : decide (0 < (x0_1.size : Int)) = false := decide_eq_false c3; have c3b1 : decide (0 < x0_1.size) = false := decide_eq_false (by omega); clear c3
    (first | rw [c3b0] | (simp only [i64_w, i32_w]; rw [c3b0]) | skip)
    have H' := am H; clear H
    go_wp2
    go_meet
    case rel => exact ⟨_, (x0_1), sz, H', ⟨by have := HK1.out; first | omega | exact Nat.le_refl _⟩, by repeat (first | exact Drawn0.refl _ | apply Drawn0.step)⟩
 case rest =>
  clear HC2; (try clear p2); (try clear c3); (try clear c3b0); (try clear c3b1); (try clear c4); (try clear c4b0); (try clear c4b1); (try clear c5); (try clear p5); (try clear q5); (try clear hx5); (try clear qi5); (try clear c7); (try clear c8); (try clear c8b0); (try clear c8b1); (try clear p2); (try clear p5); (try clear q5); obtain ⟨kq, x0_1, rfl, HA, HJ1, ⟨mc1, rfl⟩⟩ := hcut
  cases kq with
  | zero => exact absurd HA.out (by simp [letterboxref9_Trim.j1])
  | succ kj1 =>
   have H := HA.out; clear HA; simp only [letterboxref9_Trim.j1] at H; have H' := am H; clear H
   go_wp2
   go_loopg [0] kj1 (fun kq v0 w' => ∃ (x0_2 : ByteArray), v0 = .string x0_2 ∧ Aside0 (letterboxref9_Trim.l1 kq x0_2 = some r) ∧ Aside0 (kq ≤ kj1) ∧ Drawn0 w w')
   case atStart => exact ⟨(x0_1), sz, H', ⟨Nat.le_refl _⟩, by repeat (first | exact Drawn0.refl _ | apply Drawn0.step)⟩
   case round =>
    clear H'; (try clear c1); (try clear p2); (try clear c3); (try clear c3b0); (try clear c3b1); (try clear c4); (try clear c4b0); (try clear c4b1); (try clear c5); (try clear p5); (try clear q5); (try clear hx5); (try clear qi5); (try clear c7); (try clear c8); (try clear c8b0); (try clear c8b1); (try clear p2); (try clear p5); (try clear q5); obtain ⟨x0_2, rfl, HA, HK2, ⟨m2, rfl⟩⟩ := hrel
    cases gk with
    | zero => exact absurd HA.out (by simp [letterboxref9_Trim.l1])
    | succ k2 =>
     have H := HA.out; clear HA; simp only [letterboxref9_Trim.l1] at H
     by_cases c9 : (x0_2.size : Int) > 0
     ·rw [if_pos c9] at H; have c9b0 : decide (0 < (x0_2.size : Int)) = true := decide_eq_true c9; have c9b1 : decide (0 < x0_2.size) = true := decide_eq_true (by omega); clear c9; obtain ⟨ji10, hji10⟩ : ∃ j_ : Int, (wrap64 ((x0_2.size : Int) - 1)) = j_ := ⟨_, rfl⟩
      replace H : (if 0 ≤ (ji10) then (if (ji10) < (x0_2.size : Int) then ((letterboxref9_blank.f (bt x0_2 (ji10))).bind fun t405 => (if t405 = true then (if (ji10) ≤ (x0_2.size : Int) then (letterboxref9_Trim.l1 k2 (x0_2.extract 0 ((ji10) : Int).toNat)) else (none)) else (some x0_2))) else (none)) else (none)) = some r := by first | (rw [hji10] at H; exact H) | (simp only [hji10] at H ⊢; exact H)
      have hji10w : (IntKind.i64.wrap ((x0_2.size : Int) - 1)) = ji10 := (i64_w _).trans hji10
      by_cases c11 : 0 ≤ (ji10)
      ·rw [if_pos c11] at H; have c11b0 : decide (0 ≤ (ji10)) = true := decide_eq_true c11; clear c11
       by_cases c12 : (ji10) < (x0_2.size : Int)
       ·rw [if_pos c12] at H; have c12b0 : decide ((ji10) < (x0_2.size : Int)) = true := decide_eq_true c12; clear c12; replace H := Option.bind_eq_some_iff.mp H; obtain ⟨t405, A140, H⟩ := H; (try dsimp only at H); have A14 := am A140; clear A140
        by_cases c15 : t405 = true
        ·subst c15
         have H1 : (if (ji10) ≤ (x0_2.size : Int) then (letterboxref9_Trim.l1 k2 (x0_2.extract 0 ((ji10) : Int).toNat)) else (none)) = some r := by rw [if_pos rfl] at H; exact H
         clear H; have H := H1; clear H1; have c16b0 := eq_true (of_decide_eq_true az : 0 ≤ (ji10))
         by_cases c17 : (ji10) ≤ (x0_2.size : Int)
         ·rw [if_pos c17] at H; have c17b0 := eq_true c17; have c17b1 : decide ((ji10) ≤ (x0_2.size : Int)) = true := decide_eq_true c17; clear c17; have H' := am H; clear H; have p13 : 0 ≤ ((ji10) : Int) := of_decide_eq_true az; have q13 : (ji10) < (x0_2.size : Int) := of_decide_eq_true az; have hx13 := bt_at x0_2 (ji10); replace p13 := eq_true p13; replace q13 := eq_true q13
          go_wp2_with (first | (go_at_call 75; (with_reducible refine (letterboxref9_blank.calls (bt x0_2 (ji10)) true _ A14.out).mono ?_); rintro e w' ⟨rfl, ⟨nd, rfl⟩⟩))
          go_roundg k2
          case measure => have := HJ1.out; have := HK2.out; omega
          case rel => exact ⟨(x0_2.extract 0 ((ji10) : Int).toNat), (by first | rfl | (simp; done) | (simp only [← hji10] <;> (first | rfl | simp)) | (simp [*]; done)), H', ⟨by have := HJ1.out; have := HK2.out; omega⟩, by repeat (first | exact Drawn0.refl _ | apply Drawn0.step)⟩
         rw [if_neg c17] at H
         exact absurd H (by simp)
        replace c15 := Bool.eq_false_iff.mpr c15; subst c15
        have H1 : (some x0_2) = some r := by rw [if_neg (show ¬ (false = true) by decide)] at H; exact H
        clear H; have H := H1; clear H1; obtain rfl := Option.some.inj H; have p13 : 0 ≤ ((ji10) : Int) := of_decide_eq_true az; have q13 : (ji10) < (x0_2.size : Int) := of_decide_eq_true az; have hx13 := bt_at x0_2 (ji10); replace p13 := eq_true p13; replace q13 := eq_true q13
        go_wp2_with (first | (go_at_call 75; (with_reducible refine (letterboxref9_blank.calls (bt x0_2 (ji10)) false _ A14.out).mono ?_); rintro e w' ⟨rfl, ⟨nd, rfl⟩⟩))
        go_ret
        exact ⟨by first | rfl | (simp; done) | (simp only [← hji10] <;> (first | rfl | simp)) | (simp [*]; done), by repeat (first | exact Drawn0.refl _ | apply Drawn0.step)⟩
       rw [if_neg c12] at H
       exact absurd H (by simp)
      rw [if_neg c11] at H
      exact absurd H (by simp)
     rw [if_neg c9] at H; have c9b0 : decide (0 < (x0_2.size : Int)) = false := decide_eq_false c9; have c9b1 : decide (0 < x0_2.size) = false := decide_eq_false (by omega); clear c9; obtain rfl := Option.some.inj H
     go_wp2
     go_ret
     exact ⟨sz, by repeat (first | exact Drawn0.refl _ | apply Drawn0.step)⟩

/-! ### letterboxref9_Colon: function 56 -/
def letterboxref9_Colon.l0 : Nat → ByteArray → Int → Int → Option (Int)
 | 0, _, _, _ => none
 | k + 1, x0, x1, x5 => if x5 < (x0.size : Int) then (if 0 ≤ x5 then (if (bt x0 x5) = x1 then (some x5) else (letterboxref9_Colon.l0 k x0 x1 (wrap64 (x5 + 1)))) else (none)) else (some (-1))
def letterboxref9_Colon.f (k : Nat) (a0 : ByteArray) (a1 : Int) : Option (Int) := letterboxref9_Colon.l0 k a0 a1 0
set_option maxHeartbeats 8000000 in
set_option maxRecDepth 100000 in
theorem letterboxref9_Colon.calls (k : Nat) (a0 : ByteArray) (a1 : Int) (r : Int) (w : World) (h : letterboxref9_Colon.f k a0 a1 = some r) :
  Calls Tryz.prog 56 #[.string a0, .int .u8 a1] w fun e w' => e = .returned (.int .i64 r) ∧ Drawn0 w w' := by
 have H : (letterboxref9_Colon.l0 k a0 a1 0) = some r := h; clear h; have H' := am H; clear H
 go_enter Tryz.func56, Tryz.ntmps56
 go_wp2
 go_loopg [5] k (fun kq v5 w' => ∃ (x5_1 : Int), v5 = .int .i64 x5_1 ∧ Aside0 (letterboxref9_Colon.l0 kq a0 a1 x5_1 = some r) ∧ Aside0 (kq ≤ k) ∧ Drawn0 w w')
 case atStart => exact ⟨(0), sz, H', ⟨Nat.le_refl _⟩, by repeat (first | exact Drawn0.refl _ | apply Drawn0.step)⟩
 case round =>
  clear H'; (try clear p2); obtain ⟨x5_1, rfl, HA, HK1, ⟨m1, rfl⟩⟩ := hrel
  cases gk with
  | zero => exact absurd HA.out (by simp [letterboxref9_Colon.l0])
  | succ k1 =>
   have H := HA.out; clear HA; simp only [letterboxref9_Colon.l0] at H
   by_cases c3 : x5_1 < (a0.size : Int)
   ·rw [if_pos c3] at H; have c3b0 : decide (x5_1 < (a0.size : Int)) = true := decide_eq_true c3; clear c3
    by_cases c4 : 0 ≤ x5_1
    ·rw [if_pos c4] at H; have c4b0 : decide (0 ≤ x5_1) = true := decide_eq_true c4; clear c4
     by_cases c6 : (bt a0 x5_1) = a1
     ·rw [if_pos c6] at H; have c6b0 : ((bt a0 x5_1) == a1) = true := beq_iff_eq.mpr c6; have c6b1 : ((bt a0 x5_1) != a1) = false := bne_eq_false_iff_eq.mpr c6; clear c6; obtain rfl := Option.some.inj H; have p5 : 0 ≤ (x5_1 : Int) := of_decide_eq_true az; have q5 : x5_1 < (a0.size : Int) := of_decide_eq_true az; have hx5 := bt_at a0 x5_1; replace p5 := eq_true p5; replace q5 := eq_true q5
      go_wp2
      go_ret
      exact ⟨sz, by repeat (first | exact Drawn0.refl _ | apply Drawn0.step)⟩
     rw [if_neg c6] at H; have c6b0 : ((bt a0 x5_1) == a1) = false := beq_eq_false_iff_ne.mpr c6; have c6b1 : ((bt a0 x5_1) != a1) = true := bne_iff_ne.mpr c6; have H' := am H; clear H; have p5 : 0 ≤ (x5_1 : Int) := of_decide_eq_true az; have q5 : x5_1 < (a0.size : Int) := of_decide_eq_true az; have hx5 := bt_at a0 x5_1; replace p5 := eq_true p5; replace q5 := eq_true q5
     go_wp2
     go_roundg k1
     case measure => have := HK1.out; omega
     case rel => exact ⟨(wrap64 (x5_1 + 1)), sz, H', ⟨by have := HK1.out; omega⟩, by repeat (first | exact Drawn0.refl _ | apply Drawn0.step)⟩
    rw [if_neg c4] at H
    exact absurd H (by simp)
   rw [if_neg c3] at H; have c3b0 : decide (x5_1 < (a0.size : Int)) = false := decide_eq_false c3; clear c3; obtain rfl := Option.some.inj H
   go_wp2
   go_ret
   exact ⟨sz, by repeat (first | exact Drawn0.refl _ | apply Drawn0.step)⟩

/-! ### letterboxref9_Text: function 41 -/
def letterboxref9_Text.j0 : Nat → List Int → Bool → Option (List Int)
 | 0, _, _ => none
 | k + 1, x0, x14 => if x14 = true then (if 0 ≤ (wrap64 ((x0.length : Int) - 1)) then (if (wrap64 ((x0.length : Int) - 1)) ≤ (x0.length : Int) then ((some (x0.take ((wrap64 ((x0.length : Int) - 1)) : Int).toNat : List Int)).bind fun y407 => (if (y407.length : Int) > 0 then (if 0 ≤ (wrap64 ((y407.length : Int) - 1)) then (if (wrap64 ((y407.length : Int) - 1)) < (y407.length : Int) then (if (rd y407 (wrap64 ((y407.length : Int) - 1))) = 13 then (if (wrap64 ((y407.length : Int) - 1)) ≤ (y407.length : Int) then (some (y407.take ((wrap64 ((y407.length : Int) - 1)) : Int).toNat)) else (none)) else (some y407)) else (none)) else (none)) else (some y407))) else (none)) else (none)) else (if (x0.length : Int) > 0 then (if 0 ≤ (wrap64 ((x0.length : Int) - 1)) then (if (wrap64 ((x0.length : Int) - 1)) < (x0.length : Int) then (if (rd x0 (wrap64 ((x0.length : Int) - 1))) = 13 then (if (wrap64 ((x0.length : Int) - 1)) ≤ (x0.length : Int) then (some (x0.take ((wrap64 ((x0.length : Int) - 1)) : Int).toNat)) else (none)) else (some x0)) else (none)) else (none)) else (some x0))
def letterboxref9_Text.f (k : Nat) (l0 : List Int) : Option (List Int) := if (l0.length : Int) > 0 then (if 0 ≤ (wrap64 ((l0.length : Int) - 1)) then (if (wrap64 ((l0.length : Int) - 1)) < (l0.length : Int) then (letterboxref9_Text.j0 k l0 ((rd l0 (wrap64 ((l0.length : Int) - 1))) == 10)) else (none)) else (none)) else (letterboxref9_Text.j0 k l0 false)
set_option maxHeartbeats 8000000 in
set_option maxRecDepth 100000 in
theorem letterboxref9_Text.calls (k : Nat) (P0_ : Nat → Prop) (A0 : Option Addr) (c0 : Nat) (l0 : List Int) (r : List Int) (w : World) (hs0 : Kd.V (Kd.int .u8) 5 w w.heap.size (fun k_ => P0_ k_) (.slice A0 l0.length c0) l0) (h : letterboxref9_Text.f k l0 = some r) :
  Calls Tryz.prog 41 #[.slice A0 l0.length c0] w fun e w' => ∃ v0_ : Value, e = .returned (v0_) ∧ Kd.V (Kd.int .u8) 5 w' w.heap.size (fun k_ => (P0_ k_ ∨ w.heap.size ≤ k_)) v0_ r ∧ Below w.heap.size w w' := by
 have HO0 := am (show Kd.V (Kd.int .u8) 5 w w.heap.size (fun k_ => (P0_ k_ ∨ w.heap.size ≤ k_)) (.slice A0 l0.length c0) l0 from Kd.V_mono hs0 (fun k_ hk => .inl hk)); have HB := am (Below.refl w.heap.size w); have H : (if (l0.length : Int) > 0 then (if 0 ≤ (wrap64 ((l0.length : Int) - 1)) then (if (wrap64 ((l0.length : Int) - 1)) < (l0.length : Int) then (letterboxref9_Text.j0 k l0 ((rd l0 (wrap64 ((l0.length : Int) - 1))) == 10)) else (none)) else (none)) else (letterboxref9_Text.j0 k l0 false)) = some r := h; clear h; have HC2 := am H; clear H
 go_enter Tryz.func41, Tryz.ntmps41
 go_upto_region 1 with (fail)
 go_cut [14] (fun v14 wc => ∃ (kq : Nat) (x14_1 : Bool), v14 = .bool x14_1 ∧ Aside0 (letterboxref9_Text.j0 kq l0 x14_1 = some r) ∧ Aside0 (kq ≤ k) ∧ Aside0 (Kd.V (Kd.int .u8) 5 wc w.heap.size (fun k_ => (P0_ k_ ∨ w.heap.size ≤ k_)) (.slice A0 l0.length c0) l0) ∧ Aside0 (Below w.heap.size w wc))
 case first =>
  have H := HC2.out; clear HC2
  by_cases c3 : (l0.length : Int) > 0
  ·rw [if_pos c3] at H; have c3b0 : decide (0 < (l0.length : Int)) = true := decide_eq_true c3; have c3b1 : decide (0 < l0.length) = true := decide_eq_true (by omega); clear c3
   (first | rw [c3b0] | (simp only [i64_w, i32_w]; rw [c3b0]) | skip)
   obtain ⟨ji4, hji4⟩ : ∃ j_ : Int, (wrap64 ((l0.length : Int) - 1)) = j_ := ⟨_, rfl⟩
   replace H : (if 0 ≤ (ji4) then (if (ji4) < (l0.length : Int) then (letterboxref9_Text.j0 k l0 ((rd l0 (ji4)) == 10)) else (none)) else (none)) = some r := by first | (rw [hji4] at H; exact H) | (simp only [hji4] at H ⊢; exact H)
   have hji4w : (IntKind.i64.wrap ((l0.length : Int) - 1)) = ji4 := (i64_w _).trans hji4
   by_cases c5 : 0 ≤ (ji4)
   ·rw [if_pos c5] at H; have c5b0 : decide (0 ≤ (ji4)) = true := decide_eq_true c5; clear c5
    by_cases c6 : (ji4) < (l0.length : Int)
    ·rw [if_pos c6] at H; have c6b0 : decide ((ji4) < (l0.length : Int)) = true := decide_eq_true c6; clear c6; have H' := am H; clear H; have p406 : 0 ≤ ((ji4) : Int) := of_decide_eq_true az; have q406 : (ji4) < (l0.length : Int) := of_decide_eq_true az; obtain ⟨ad406, e406, hx406_0⟩ := Kd.at_int (Kd.V_reads' HO0.out).2.2 (ji4) p406 q406
     cases e406
     replace p406 := eq_true p406; replace q406 := eq_true q406
     go_wp2
     go_meet
     case rel => exact ⟨_, (((rd l0 (ji4)) == 10)), (by first | rfl | (simp; done) | (simp only [← hji4] <;> (first | rfl | simp)) | (simp [*]; done)), H', ⟨by first | omega | exact Nat.le_refl _⟩, ⟨vz HO0.out⟩, ⟨bz⟩⟩
    rw [if_neg c6] at H
    exact absurd H (by simp)
   rw [if_neg c5] at H
   exact absurd H (by simp)
  rw [if_neg c3] at H; have c3b0 : decide (0 < (l0.length : Int)) = false := decide_eq_false c3; have c3b1 : decide (0 < l0.length) = false := decide_eq_false (by omega); clear c3
  (first | rw [c3b0] | (simp only [i64_w, i32_w]; rw [c3b0]) | skip)
  have H' := am H; clear H
  go_wp2
  go_meet
  case rel => exact ⟨_, (false), sz, H', ⟨by first | omega | exact Nat.le_refl _⟩, ⟨vz HO0.out⟩, ⟨bz⟩⟩
 case rest =>
  clear HC2; (try clear p2); (try clear c3); (try clear c3b0); (try clear c3b1); (try clear c4); (try clear p4); (try clear q4); (try clear hx4); (try clear c5); (try clear c5b0); (try clear c6); (try clear c6b0); (try clear p6); (try clear hx406_0); (try clear p406); (try clear q406); obtain ⟨kq, x14_1, rfl, HA, HJ1, HO_0, HB⟩ := hcut
  cases kq with
  | zero => exact absurd HA.out (by simp [letterboxref9_Text.j0])
  | succ kj1 =>
   have H := HA.out; clear HA; simp only [letterboxref9_Text.j0] at H
   by_cases c7 : x14_1 = true
   ·subst c7
    have H1 : (if 0 ≤ (wrap64 ((l0.length : Int) - 1)) then (if (wrap64 ((l0.length : Int) - 1)) ≤ (l0.length : Int) then ((some (l0.take ((wrap64 ((l0.length : Int) - 1)) : Int).toNat : List Int)).bind fun y407 => (if (y407.length : Int) > 0 then (if 0 ≤ (wrap64 ((y407.length : Int) - 1)) then (if (wrap64 ((y407.length : Int) - 1)) < (y407.length : Int) then (if (rd y407 (wrap64 ((y407.length : Int) - 1))) = 13 then (if (wrap64 ((y407.length : Int) - 1)) ≤ (y407.length : Int) then (some (y407.take ((wrap64 ((y407.length : Int) - 1)) : Int).toNat)) else (none)) else (some y407)) else (none)) else (none)) else (some y407))) else (none)) else (none)) = some r := by rw [if_pos rfl] at H; exact H
    clear H; have H := H1; clear H1; obtain ⟨ji8, hji8⟩ : ∃ j_ : Int, (wrap64 ((l0.length : Int) - 1)) = j_ := ⟨_, rfl⟩
    replace H : (if 0 ≤ (ji8) then (if (ji8) ≤ (l0.length : Int) then ((some (l0.take ((ji8) : Int).toNat : List Int)).bind fun y407 => (if (y407.length : Int) > 0 then (if 0 ≤ (wrap64 ((y407.length : Int) - 1)) then (if (wrap64 ((y407.length : Int) - 1)) < (y407.length : Int) then (if (rd y407 (wrap64 ((y407.length : Int) - 1))) = 13 then (if (wrap64 ((y407.length : Int) - 1)) ≤ (y407.length : Int) then (some (y407.take ((wrap64 ((y407.length : Int) - 1)) : Int).toNat)) else (none)) else (some y407)) else (none)) else (none)) else (some y407))) else (none)) else (none)) = some r := by first | (rw [hji8] at H; exact H) | (simp only [hji8] at H ⊢; exact H)
    have hji8w : (IntKind.i64.wrap ((l0.length : Int) - 1)) = ji8 := (i64_w _).trans hji8
    by_cases c9 : 0 ≤ (ji8)
    ·rw [if_pos c9] at H; have c9b0 := eq_true c9; have c9b1 : decide (0 ≤ (ji8)) = true := decide_eq_true c9; clear c9
     by_cases c10 : (ji8) ≤ (l0.length : Int)
     ·rw [if_pos c10] at H; have c10b0 := eq_true c10; have c10b1 : decide ((ji8) ≤ (l0.length : Int)) = true := decide_eq_true c10; clear c10; obtain ⟨y407, hy407⟩ : ∃ y_ : List Int, y_ = (l0.take ((ji8) : Int).toNat) := ⟨_, rfl⟩
      replace H : (if (y407.length : Int) > 0 then (if 0 ≤ (wrap64 ((y407.length : Int) - 1)) then (if (wrap64 ((y407.length : Int) - 1)) < (y407.length : Int) then (if (rd y407 (wrap64 ((y407.length : Int) - 1))) = 13 then (if (wrap64 ((y407.length : Int) - 1)) ≤ (y407.length : Int) then (some (y407.take ((wrap64 ((y407.length : Int) - 1)) : Int).toNat)) else (none)) else (some y407)) else (none)) else (none)) else (some y407)) = some r := by first | (rw [hy407]; with_reducible exact H) | (have H2_ := (Option.bind_some _ _).symm.trans H; rw [hy407]; with_reducible exact H2_) | (have H2_ := (Option.bind_some _ _).symm.trans H; with_reducible exact H2_) | with_reducible exact H | (rw [hy407]; exact H) | exact H
      have Ny407 := am hy407; clear hy407
      by_cases c11 : (y407.length : Int) > 0
      ·rw [if_pos c11] at H; have c11b0 : decide (0 < (y407.length : Int)) = true := decide_eq_true c11; have c11b1 : decide (0 < y407.length) = true := decide_eq_true (by omega); clear c11; obtain ⟨ji12, hji12⟩ : ∃ j_ : Int, (wrap64 ((y407.length : Int) - 1)) = j_ := ⟨_, rfl⟩
       replace H : (if 0 ≤ (ji12) then (if (ji12) < (y407.length : Int) then (if (rd y407 (ji12)) = 13 then (if (ji12) ≤ (y407.length : Int) then (some (y407.take ((ji12) : Int).toNat)) else (none)) else (some y407)) else (none)) else (none)) = some r := by first | (rw [hji12] at H; exact H) | (simp only [hji12] at H ⊢; exact H)
       have hji12w : (IntKind.i64.wrap ((y407.length : Int) - 1)) = ji12 := (i64_w _).trans hji12
       by_cases c13 : 0 ≤ (ji12)
       ·rw [if_pos c13] at H; have c13b0 : decide (0 ≤ (ji12)) = true := decide_eq_true c13; clear c13
        by_cases c14 : (ji12) < (y407.length : Int)
        ·rw [if_pos c14] at H; have c14b0 : decide ((ji12) < (y407.length : Int)) = true := decide_eq_true c14; clear c14
         by_cases c15 : (rd y407 (ji12)) = 13
         ·rw [if_pos c15] at H; have c15b0 : ((rd y407 (ji12)) == 13) = true := beq_iff_eq.mpr c15; have c15b1 : ((rd y407 (ji12)) != 13) = false := bne_eq_false_iff_eq.mpr c15; clear c15; have c16b0 := eq_true (of_decide_eq_true az : 0 ≤ (ji12))
          by_cases c17 : (ji12) ≤ (y407.length : Int)
          ·rw [if_pos c17] at H; have c17b0 := eq_true c17; have c17b1 : decide ((ji12) ≤ (y407.length : Int)) = true := decide_eq_true c17; clear c17; obtain ⟨y413, hy413⟩ : ∃ y_ : List Int, y_ = (y407.take ((ji12) : Int).toNat) := ⟨_, rfl⟩
           replace H : (some y413) = some r := by first | (rw [hy413]; with_reducible exact H) | (have H2_ := (Option.bind_some _ _).symm.trans H; rw [hy413]; with_reducible exact H2_) | (have H2_ := (Option.bind_some _ _).symm.trans H; with_reducible exact H2_) | with_reducible exact H | (rw [hy413]; exact H) | exact H
           have Ny413 := am hy413; clear hy413; obtain rfl := Option.some.inj H; have q18 : ((ji8) : Int) ≤ ((l0.length : Int) : Int) := of_decide_eq_true az; obtain ⟨i018, hi018, _, hsz18, _⟩ := info_parts info5; have hroom18 : l0.length ≤ c0 := (Kd.V_reads' HO_0.out).2.1; have hC18 : Kd.F (Kd.int .u8) _ _ A0 l0.length l0 := (Kd.V_at (base := w.heap.size) HO_0.out).2.2; have hcut18 := cut_to (P := Tryz.prog) 34 5 .i64 Tryz.underlying34 hi018 A0 l0.length c0 (ji8) (of_decide_eq_true az) q18 hroom18; have hr18 := Kd.F_take (m := ((ji8) : Int).toNat) hC18 (by omega); have hy18 : y407.length = ((ji8) : Int).toNat := (by rw [Ny407.out, List.length_take]; omega)
           rw [← Ny407.out] at hr18; rw [← hy18] at hcut18; have HO411 := am (show Kd.V (Kd.int .u8) 5 _ w.heap.size _ (.slice A0 y407.length c0) y407 from Kd.V_mk (by omega) hr18); have HC411 := am (show y407.length ≤ c0 from by omega); clear hr18 hC18 hroom18 hi018 hsz18; have KY18 := am hy18; clear hy18; replace q18 := eq_true q18; have p412 : 0 ≤ ((ji12) : Int) := of_decide_eq_true az; have q412 : (ji12) < (y407.length : Int) := of_decide_eq_true az; obtain ⟨ad412, e412, hx412_0⟩ := Kd.at_int (Kd.V_reads' HO411.out).2.2 (ji12) p412 q412
           cases e412
           replace p412 := eq_true p412; replace q412 := eq_true q412; have q19 : ((ji12) : Int) ≤ ((y407.length : Int) : Int) := of_decide_eq_true az; obtain ⟨i019, hi019, _, hsz19, _⟩ := info_parts info5; have hroom19 : y407.length ≤ c0 := (Kd.V_reads' HO411.out).2.1; have hC19 : Kd.F (Kd.int .u8) _ _ (some ad412) y407.length y407 := (Kd.V_at (base := w.heap.size) HO411.out).2.2; have hcut19 := cut_to (P := Tryz.prog) 34 5 .i64 Tryz.underlying34 hi019 (some ad412) y407.length c0 (ji12) (of_decide_eq_true az) q19 hroom19; have hr19 := Kd.F_take (m := ((ji12) : Int).toNat) hC19 (by omega); have hy19 : y413.length = ((ji12) : Int).toNat := (by rw [Ny413.out, List.length_take]; omega)
           rw [← Ny413.out] at hr19; rw [← hy19] at hcut19; have HO417 := am (show Kd.V (Kd.int .u8) 5 _ w.heap.size _ (.slice (some ad412) y413.length c0) y413 from Kd.V_mk (by omega) hr19); have HC417 := am (show y413.length ≤ c0 from by omega); clear hr19 hC19 hroom19 hi019 hsz19; have KY19 := am hy19; clear hy19; replace q19 := eq_true q19
           go_wp2
           go_ret
           exact ⟨_, by first | rfl | (simp [errW_none, errW_some] <;> rfl) | (simp only [← hji8, ← hji12]; first | rfl | (simp [errW_none, errW_some] <;> rfl)) | (simp [*, errW_none, errW_some] <;> rfl), vz HO417.out, bz⟩
          rw [if_neg c17] at H
          exact absurd H (by simp)
         rw [if_neg c15] at H; have c15b0 : ((rd y407 (ji12)) == 13) = false := beq_eq_false_iff_ne.mpr c15; have c15b1 : ((rd y407 (ji12)) != 13) = true := bne_iff_ne.mpr c15; obtain rfl := Option.some.inj H; have q20 : ((ji8) : Int) ≤ ((l0.length : Int) : Int) := of_decide_eq_true az; obtain ⟨i020, hi020, _, hsz20, _⟩ := info_parts info5; have hroom20 : l0.length ≤ c0 := (Kd.V_reads' HO_0.out).2.1; have hC20 : Kd.F (Kd.int .u8) _ _ A0 l0.length l0 := (Kd.V_at (base := w.heap.size) HO_0.out).2.2; have hcut20 := cut_to (P := Tryz.prog) 34 5 .i64 Tryz.underlying34 hi020 A0 l0.length c0 (ji8) (of_decide_eq_true az) q20 hroom20; have hr20 := Kd.F_take (m := ((ji8) : Int).toNat) hC20 (by omega); have hy20 : y407.length = ((ji8) : Int).toNat := (by rw [Ny407.out, List.length_take]; omega)
         rw [← Ny407.out] at hr20; rw [← hy20] at hcut20; have HO411 := am (show Kd.V (Kd.int .u8) 5 _ w.heap.size _ (.slice A0 y407.length c0) y407 from Kd.V_mk (by omega) hr20); have HC411 := am (show y407.length ≤ c0 from by omega); clear hr20 hC20 hroom20 hi020 hsz20; have KY20 := am hy20; clear hy20; replace q20 := eq_true q20; have p412 : 0 ≤ ((ji12) : Int) := of_decide_eq_true az; have q412 : (ji12) < (y407.length : Int) := of_decide_eq_true az; obtain ⟨ad412, e412, hx412_0⟩ := Kd.at_int (Kd.V_reads' HO411.out).2.2 (ji12) p412 q412
         cases e412
         replace p412 := eq_true p412; replace q412 := eq_true q412
         go_wp2
         go_ret
         exact ⟨_, by first | rfl | (simp [errW_none, errW_some] <;> rfl) | (simp only [← hji8, ← hji12]; first | rfl | (simp [errW_none, errW_some] <;> rfl)) | (simp [*, errW_none, errW_some] <;> rfl), vz HO411.out, bz⟩
        rw [if_neg c14] at H
        exact absurd H (by simp)
       rw [if_neg c13] at H
       exact absurd H (by simp)
      rw [if_neg c11] at H; have c11b0 : decide (0 < (y407.length : Int)) = false := decide_eq_false c11; have c11b1 : decide (0 < y407.length) = false := decide_eq_false (by omega); clear c11; obtain rfl := Option.some.inj H; have q21 : ((ji8) : Int) ≤ ((l0.length : Int) : Int) := of_decide_eq_true az; obtain ⟨i021, hi021, _, hsz21, _⟩ := info_parts info5; have hroom21 : l0.length ≤ c0 := (Kd.V_reads' HO_0.out).2.1; have hC21 : Kd.F (Kd.int .u8) _ _ A0 l0.length l0 := (Kd.V_at (base := w.heap.size) HO_0.out).2.2; have hcut21 := cut_to (P := Tryz.prog) 34 5 .i64 Tryz.underlying34 hi021 A0 l0.length c0 (ji8) (of_decide_eq_true az) q21 hroom21; have hr21 := Kd.F_take (m := ((ji8) : Int).toNat) hC21 (by omega); have hy21 : y407.length = ((ji8) : Int).toNat := (by rw [Ny407.out, List.length_take]; omega)
      rw [← Ny407.out] at hr21; rw [← hy21] at hcut21; have HO411 := am (show Kd.V (Kd.int .u8) 5 _ w.heap.size _ (.slice A0 y407.length c0) y407 from Kd.V_mk (by omega) hr21); have HC411 := am (show y407.length ≤ c0 from by omega); clear hr21 hC21 hroom21 hi021 hsz21; have KY21 := am hy21; clear hy21; replace q21 := eq_true q21
      go_wp2
      go_ret
      exact ⟨_, by first | rfl | (simp [errW_none, errW_some] <;> rfl) | (simp only [← hji8]; first | rfl | (simp [errW_none, errW_some] <;> rfl)) | (simp [*, errW_none, errW_some] <;> rfl), vz HO411.out, bz⟩
     rw [if_neg c10] at H
     exact absurd H (by simp)
    rw [if_neg c9] at H
    exact absurd H (by simp)
   replace c7 := Bool.eq_false_iff.mpr c7; subst c7
   have H1 : (if (l0.length : Int) > 0 then (if 0 ≤ (wrap64 ((l0.length : Int) - 1)) then (if (wrap64 ((l0.length : Int) - 1)) < (l0.length : Int) then (if (rd l0 (wrap64 ((l0.length : Int) - 1))) = 13 then (if (wrap64 ((l0.length : Int) - 1)) ≤ (l0.length : Int) then (some (l0.take ((wrap64 ((l0.length : Int) - 1)) : Int).toNat)) else (none)) else (some l0)) else (none)) else (none)) else (some l0)) = some r := by rw [if_neg (show ¬ (false = true) by decide)] at H; exact H
   clear H; have H := H1; clear H1
   by_cases c22 : (l0.length : Int) > 0
   ·rw [if_pos c22] at H; have c22b0 : decide (0 < (l0.length : Int)) = true := decide_eq_true c22; have c22b1 : decide (0 < l0.length) = true := decide_eq_true (by omega); clear c22; obtain ⟨ji23, hji23⟩ : ∃ j_ : Int, (wrap64 ((l0.length : Int) - 1)) = j_ := ⟨_, rfl⟩
    replace H : (if 0 ≤ (ji23) then (if (ji23) < (l0.length : Int) then (if (rd l0 (ji23)) = 13 then (if (ji23) ≤ (l0.length : Int) then (some (l0.take ((ji23) : Int).toNat)) else (none)) else (some l0)) else (none)) else (none)) = some r := by first | (rw [hji23] at H; exact H) | (simp only [hji23] at H ⊢; exact H)
    have hji23w : (IntKind.i64.wrap ((l0.length : Int) - 1)) = ji23 := (i64_w _).trans hji23
    by_cases c24 : 0 ≤ (ji23)
    ·rw [if_pos c24] at H; have c24b0 : decide (0 ≤ (ji23)) = true := decide_eq_true c24; clear c24
     by_cases c25 : (ji23) < (l0.length : Int)
     ·rw [if_pos c25] at H; have c25b0 : decide ((ji23) < (l0.length : Int)) = true := decide_eq_true c25; clear c25
      by_cases c26 : (rd l0 (ji23)) = 13
      ·rw [if_pos c26] at H; have c26b0 : ((rd l0 (ji23)) == 13) = true := beq_iff_eq.mpr c26; have c26b1 : ((rd l0 (ji23)) != 13) = false := bne_eq_false_iff_eq.mpr c26; clear c26; have c27b0 := eq_true (of_decide_eq_true az : 0 ≤ (ji23))
       by_cases c28 : (ji23) ≤ (l0.length : Int)
       ·rw [if_pos c28] at H; have c28b0 := eq_true c28; have c28b1 : decide ((ji23) ≤ (l0.length : Int)) = true := decide_eq_true c28; clear c28; obtain ⟨y419, hy419⟩ : ∃ y_ : List Int, y_ = (l0.take ((ji23) : Int).toNat) := ⟨_, rfl⟩
        replace H : (some y419) = some r := by first | (rw [hy419]; with_reducible exact H) | (have H2_ := (Option.bind_some _ _).symm.trans H; rw [hy419]; with_reducible exact H2_) | (have H2_ := (Option.bind_some _ _).symm.trans H; with_reducible exact H2_) | with_reducible exact H | (rw [hy419]; exact H) | exact H
        have Ny419 := am hy419; clear hy419; obtain rfl := Option.some.inj H; have p418 : 0 ≤ ((ji23) : Int) := of_decide_eq_true az; have q418 : (ji23) < (l0.length : Int) := of_decide_eq_true az; obtain ⟨ad418, e418, hx418_0⟩ := Kd.at_int (Kd.V_reads' HO_0.out).2.2 (ji23) p418 q418
        cases e418
        replace p418 := eq_true p418; replace q418 := eq_true q418; have q29 : ((ji23) : Int) ≤ ((l0.length : Int) : Int) := of_decide_eq_true az; obtain ⟨i029, hi029, _, hsz29, _⟩ := info_parts info5; have hroom29 : l0.length ≤ c0 := (Kd.V_reads' HO_0.out).2.1; have hC29 : Kd.F (Kd.int .u8) _ _ (some ad418) l0.length l0 := (Kd.V_at (base := w.heap.size) HO_0.out).2.2; have hcut29 := cut_to (P := Tryz.prog) 34 5 .i64 Tryz.underlying34 hi029 (some ad418) l0.length c0 (ji23) (of_decide_eq_true az) q29 hroom29; have hr29 := Kd.F_take (m := ((ji23) : Int).toNat) hC29 (by omega); have hy29 : y419.length = ((ji23) : Int).toNat := (by rw [Ny419.out, List.length_take]; omega)
        rw [← Ny419.out] at hr29; rw [← hy29] at hcut29; have HO423 := am (show Kd.V (Kd.int .u8) 5 _ w.heap.size _ (.slice (some ad418) y419.length c0) y419 from Kd.V_mk (by omega) hr29); have HC423 := am (show y419.length ≤ c0 from by omega); clear hr29 hC29 hroom29 hi029 hsz29; have KY29 := am hy29; clear hy29; replace q29 := eq_true q29
        go_wp2
        go_ret
        exact ⟨_, by first | rfl | (simp [errW_none, errW_some] <;> rfl) | (simp only [← hji23]; first | rfl | (simp [errW_none, errW_some] <;> rfl)) | (simp [*, errW_none, errW_some] <;> rfl), vz HO423.out, bz⟩
       rw [if_neg c28] at H
       exact absurd H (by simp)
      rw [if_neg c26] at H; have c26b0 : ((rd l0 (ji23)) == 13) = false := beq_eq_false_iff_ne.mpr c26; have c26b1 : ((rd l0 (ji23)) != 13) = true := bne_iff_ne.mpr c26; obtain rfl := Option.some.inj H; have p418 : 0 ≤ ((ji23) : Int) := of_decide_eq_true az; have q418 : (ji23) < (l0.length : Int) := of_decide_eq_true az; obtain ⟨ad418, e418, hx418_0⟩ := Kd.at_int (Kd.V_reads' HO_0.out).2.2 (ji23) p418 q418
      cases e418
      replace p418 := eq_true p418; replace q418 := eq_true q418
      go_wp2
      go_ret
      exact ⟨_, by first | rfl | (simp [errW_none, errW_some] <;> rfl) | (simp only [← hji23]; first | rfl | (simp [errW_none, errW_some] <;> rfl)) | (simp [*, errW_none, errW_some] <;> rfl), vz HO_0.out, bz⟩
     rw [if_neg c25] at H
     exact absurd H (by simp)
    rw [if_neg c24] at H
    exact absurd H (by simp)
   rw [if_neg c22] at H; have c22b0 : decide (0 < (l0.length : Int)) = false := decide_eq_false c22; have c22b1 : decide (0 < l0.length) = false := decide_eq_false (by omega); clear c22; obtain rfl := Option.some.inj H
   go_wp2
   go_ret
   exact ⟨_, ez, vz HO_0.out, bz⟩

/-! ### letterboxref9_next: function 58 -/
def letterboxref9_next.l0 : Nat → List Int → Int → Option (Int)
 | 0, _, _ => none
 | k + 1, x0, x1 => if x1 < (x0.length : Int) then (if 0 ≤ x1 then (if (rd x0 x1) = 10 then (some (mn (wrap64 (x1 + 1)) (x0.length : Int))) else (letterboxref9_next.l0 k x0 (wrap64 (x1 + 1)))) else (none)) else (some (mn (wrap64 (x1 + 1)) (x0.length : Int)))
def letterboxref9_next.f (k : Nat) (l0 : List Int) (a1 : Int) : Option (Int) := letterboxref9_next.l0 k l0 a1
set_option maxHeartbeats 8000000 in
set_option maxRecDepth 100000 in
theorem letterboxref9_next.calls (k : Nat) (A0 : Option Addr) (c0 : Nat) (l0 : List Int) (a1 : Int) (r : Int) (w : World) (hr0 : Kd.C (Kd.int .u8) w A0 l0.length l0) (hc0 : l0.length ≤ c0) (h : letterboxref9_next.f k l0 a1 = some r) :
  Calls Tryz.prog 58 #[.slice A0 l0.length c0, .int .i64 a1] w fun e w' => e = .returned (.int .i64 r) ∧ Below w.heap.size w w' := by
 have HR0 := am hr0; have HC0 := am hc0; clear hr0 hc0; have HB := am (Below.refl w.heap.size w); have H : (letterboxref9_next.l0 k l0 a1) = some r := h; clear h; have H' := am H; clear H
 go_enter Tryz.func58, Tryz.ntmps58
 go_wp2
 go_loopg [1] k (fun kq v1 w' => ∃ (x1_1 : Int), v1 = .int .i64 x1_1 ∧ Aside0 (letterboxref9_next.l0 kq l0 x1_1 = some r) ∧ Aside0 (kq ≤ k) ∧ Aside0 (Below w.heap.size w w'))
 case atStart => exact ⟨(a1), sz, H', ⟨Nat.le_refl _⟩, ⟨bz⟩⟩
 case round =>
  clear H'; (try clear p2); obtain ⟨x1_1, rfl, HA, HK1, HB⟩ := hrel
  cases gk with
  | zero => exact absurd HA.out (by simp [letterboxref9_next.l0])
  | succ k1 =>
   have H := HA.out; clear HA; simp only [letterboxref9_next.l0] at H
   by_cases c3 : x1_1 < (l0.length : Int)
   ·rw [if_pos c3] at H; have c3b0 : decide (x1_1 < (l0.length : Int)) = true := decide_eq_true c3; clear c3
    by_cases c4 : 0 ≤ x1_1
    ·rw [if_pos c4] at H; have c4b0 : decide (0 ≤ x1_1) = true := decide_eq_true c4; clear c4
     by_cases c5 : (rd l0 x1_1) = 10
     ·rw [if_pos c5] at H; have c5b0 : ((rd l0 x1_1) == 10) = true := beq_iff_eq.mpr c5; have c5b1 : ((rd l0 x1_1) != 10) = false := bne_eq_false_iff_eq.mpr c5; clear c5; obtain ⟨ji6, hji6⟩ : ∃ j_ : Int, (mn (wrap64 (x1_1 + 1)) (l0.length : Int)) = j_ := ⟨_, rfl⟩
      replace H : (some ji6) = some r := by first | (rw [hji6] at H; exact H) | (simp only [hji6] at H ⊢; exact H)
      have hji6_ : (if (l0.length : Int) < (wrap64 (x1_1 + 1)) then (l0.length : Int) else (wrap64 (x1_1 + 1))) = ji6 := hji6; obtain rfl := Option.some.inj H; have p424 : 0 ≤ (x1_1 : Int) := of_decide_eq_true az; have q424 : x1_1 < (l0.length : Int) := of_decide_eq_true az; obtain ⟨ad424, e424, hx424_0⟩ := Kd.at_int HR0.out x1_1 p424 q424
      cases e424
      replace hx424_0 := (HB.out.cell (World.block_lt_of_cell? w _ hx424_0)).trans hx424_0; replace p424 := eq_true p424; replace q424 := eq_true q424
      go_wp2
      go_ret
      exact ⟨by first | rfl | (simp [errW_none, errW_some] <;> rfl) | (simp only [← hji6]; first | rfl | (simp [errW_none, errW_some] <;> rfl)) | (simp [*, errW_none, errW_some] <;> rfl), bz⟩
     rw [if_neg c5] at H; have c5b0 : ((rd l0 x1_1) == 10) = false := beq_eq_false_iff_ne.mpr c5; have c5b1 : ((rd l0 x1_1) != 10) = true := bne_iff_ne.mpr c5; have H' := am H; clear H; have p424 : 0 ≤ (x1_1 : Int) := of_decide_eq_true az; have q424 : x1_1 < (l0.length : Int) := of_decide_eq_true az; obtain ⟨ad424, e424, hx424_0⟩ := Kd.at_int HR0.out x1_1 p424 q424
     cases e424
     replace hx424_0 := (HB.out.cell (World.block_lt_of_cell? w _ hx424_0)).trans hx424_0; replace p424 := eq_true p424; replace q424 := eq_true q424
     go_wp2
     go_roundg k1
     case measure => have := HK1.out; omega
     case rel => exact ⟨(wrap64 (x1_1 + 1)), sz, H', ⟨by have := HK1.out; omega⟩, ⟨bz⟩⟩
    rw [if_neg c4] at H
    exact absurd H (by simp)
   rw [if_neg c3] at H; have c3b0 : decide (x1_1 < (l0.length : Int)) = false := decide_eq_false c3; clear c3; obtain ⟨ji7, hji7⟩ : ∃ j_ : Int, (mn (wrap64 (x1_1 + 1)) (l0.length : Int)) = j_ := ⟨_, rfl⟩
   replace H : (some ji7) = some r := by first | (rw [hji7] at H; exact H) | (simp only [hji7] at H ⊢; exact H)
   have hji7_ : (if (l0.length : Int) < (wrap64 (x1_1 + 1)) then (l0.length : Int) else (wrap64 (x1_1 + 1))) = ji7 := hji7; obtain rfl := Option.some.inj H
   go_wp2
   go_ret
   exact ⟨by first | rfl | (simp [errW_none, errW_some] <;> rfl) | (simp only [← hji7]; first | rfl | (simp [errW_none, errW_some] <;> rfl)) | (simp [*, errW_none, errW_some] <;> rfl), bz⟩

/-! ### letterboxref9_Split: function 92 -/
def letterboxref9_Split.l0 : Nat → List Int → List (List Int) → Int → Option ((List (List Int)))
 | 0, _, _, _ => none
 | k + 1, x0, x3, x4 => if x4 < (x0.length : Int) then ((letterboxref9_next.f k x0 x4).bind fun t425 => (if 0 ≤ x4 then (if x4 ≤ t425 then (if t425 ≤ (x0.length : Int) then ((letterboxref9_Text.f k ((x0.take (t425 : Int).toNat).drop (x4 : Int).toNat)).bind fun t431 => (if x3.length < 5864062014805 then (letterboxref9_Split.l0 k x0 (x3 ++ [t431]) t425) else (none))) else (none)) else (none)) else (none))) else (some x3)
def letterboxref9_Split.f (k : Nat) (l0 : List Int) : Option ((List (List Int))) := letterboxref9_Split.l0 k l0 ([] : List (List Int)) 0
set_option maxHeartbeats 8000000 in
set_option maxRecDepth 100000 in
theorem letterboxref9_Split.calls (k : Nat) (P0_ : Nat → Prop) (A0 : Option Addr) (c0 : Nat) (l0 : List Int) (r : List (List Int)) (w : World) (hs0 : Kd.V (Kd.int .u8) 5 w w.heap.size (fun k_ => P0_ k_) (.slice A0 l0.length c0) l0) (h : letterboxref9_Split.f k l0 = some r) :
  Calls Tryz.prog 92 #[.slice A0 l0.length c0] w fun e w' => ∃ v0_ : Value, e = .returned (v0_) ∧ Kd.N (Kd.slice 5 (Kd.int .u8)) 34 w' w.heap.size (fun k_ => (P0_ k_ ∨ w.heap.size ≤ k_)) v0_ r ∧ Below w.heap.size w w' := by
 have HO0 := am (show Kd.V (Kd.int .u8) 5 w w.heap.size (fun k_ => (P0_ k_ ∨ w.heap.size ≤ k_)) (.slice A0 l0.length c0) l0 from Kd.V_mono hs0 (fun k_ hk => .inl hk)); have HB := am (Below.refl w.heap.size w); have H : (letterboxref9_Split.l0 k l0 ([] : List (List Int)) 0) = some r := h; clear h; have H' := am H; clear H
 go_enter Tryz.func92, Tryz.ntmps92
 go_wp2
 go_loopg [3, 4] k (fun kq v3 v4 w' => ∃ (x3_1 : List (List Int)) (x4_1 : Int), v4 = .int .i64 x4_1 ∧ Aside0 (letterboxref9_Split.l0 kq l0 x3_1 x4_1 = some r) ∧ Aside0 (kq ≤ k) ∧ Aside0 (Kd.V (Kd.int .u8) 5 w' w.heap.size (fun k_ => (P0_ k_ ∨ w.heap.size ≤ k_) ∧ some k_ ≠ (v3 : Value).ownBlock) (.slice A0 l0.length c0) l0) ∧ Aside0 (Kd.N (Kd.slice 5 (Kd.int .u8)) 34 w' w.heap.size (fun k_ => (P0_ k_ ∨ w.heap.size ≤ k_)) v3 x3_1) ∧ Aside0 (Below w.heap.size w w'))
 case atStart => exact ⟨(([] : List (List Int))), (0), sz, H', ⟨Nat.le_refl _⟩, ⟨by (with_reducible repeat (first | apply Kd.V_alloc | apply Kd.V_drewN | apply Kd.V_drew)); exact Kd.V_mono HO0.out (fun _ hk => ⟨hk, (by simp [Value.ownBlock])⟩)⟩, ⟨by first | exact Kd.S_nil _ _ _ _ _ | exact Kd.N_nil _ _ _ _ _ | exact Kd.V_nil _ _ _ _ _ | exact Kd.Q_nil _ _ _ _ _ | exact Kd.R_nil _ _ _ _ _⟩, ⟨bz⟩⟩
 case round =>
  clear H'; obtain ⟨x3_1, x4_1, rfl, HA, HK1, HO_0, HO_3, HB⟩ := hrel
  cases gk with
  | zero => exact absurd HA.out (by simp [letterboxref9_Split.l0])
  | succ k1 =>
   have H := HA.out; clear HA; simp only [letterboxref9_Split.l0] at H
   by_cases c2 : x4_1 < (l0.length : Int)
   ·rw [if_pos c2] at H; have c2b0 : decide (x4_1 < (l0.length : Int)) = true := decide_eq_true c2; clear c2; replace H := Option.bind_eq_some_iff.mp H; obtain ⟨t425, A30, H⟩ := H; (try dsimp only at H); have A3 := am A30; clear A30
    by_cases c4 : 0 ≤ x4_1
    ·rw [if_pos c4] at H; have c4b0 := eq_true c4; have c4b1 : decide (0 ≤ x4_1) = true := decide_eq_true c4; clear c4
     by_cases c5 : x4_1 ≤ t425
     ·rw [if_pos c5] at H; have c5b0 := eq_true c5; have c5b1 : decide (x4_1 ≤ t425) = true := decide_eq_true c5; clear c5
      by_cases c6 : t425 ≤ (l0.length : Int)
      ·rw [if_pos c6] at H; have c6b0 := eq_true c6; have c6b1 : decide (t425 ≤ (l0.length : Int)) = true := decide_eq_true c6; clear c6; obtain ⟨y426, hy426⟩ : ∃ y_ : List Int, y_ = ((l0.take (t425 : Int).toNat).drop (x4_1 : Int).toNat) := ⟨_, rfl⟩
       replace H : ((letterboxref9_Text.f k1 y426).bind fun t431 => (if x3_1.length < 5864062014805 then (letterboxref9_Split.l0 k1 l0 (x3_1 ++ [t431]) t425) else (none))) = some r := by first | (rw [hy426]; with_reducible exact H) | (have H2_ := (Option.bind_some _ _).symm.trans H; rw [hy426]; with_reducible exact H2_) | (have H2_ := (Option.bind_some _ _).symm.trans H; with_reducible exact H2_) | with_reducible exact H | (rw [hy426]; exact H) | exact H
       have Ny426 := am hy426; clear hy426; replace H := Option.bind_eq_some_iff.mp H; obtain ⟨t431, A70, H⟩ := H; replace H : (if x3_1.length < 5864062014805 then (letterboxref9_Split.l0 k1 l0 (x3_1 ++ [t431]) t425) else (none)) = some r := H; have A7 := am A70; clear A70
       by_cases c8 : x3_1.length < 5864062014805
       ·rw [if_pos c8] at H; have LMc8 := am c8; clear c8; obtain ⟨y434, hy434⟩ : ∃ y_ : List (List Int), y_ = (x3_1 ++ [t431]) := ⟨_, rfl⟩
        replace H : (letterboxref9_Split.l0 k1 l0 y434 t425) = some r := by first | (rw [hy434]; with_reducible exact H) | (have H2_ := (Option.bind_some _ _).symm.trans H; rw [hy434]; with_reducible exact H2_) | (have H2_ := (Option.bind_some _ _).symm.trans H; with_reducible exact H2_) | with_reducible exact H | (rw [hy434]; exact H) | exact H
        have Ny434 := am hy434; clear hy434; have H' := am H; clear H
        go_wp2_with (first | ((with_reducible refine gate_callee (f := 58) rfl ?_); refine goesL_ (some 12) rfl rfl Tryz.func58 (by kernel_rfl) rfl #[.slice A0 l0.length c0, .int .i64 x4_1] rfl mz ?_; (with_reducible refine (letterboxref9_next.calls k1 _ _ l0 x4_1 t425 _ ?side1 ?side2 A3.out).mono ?_); (case side1 => exact cz (Kd.V_reads' HO_0.out).2.2); (case side2 => exact (Kd.V_reads' HO_0.out).2.1); rintro e w9 ⟨rfl, hb⟩; refine ⟨_, rfl, ?_⟩; replace HO_0 := am (Kd.V_below (vz HO_0.out) hb); replace HO_3 := am (Kd.N_below (nz HO_3.out) hb); replace HB := am (below_step bz hb); (try clear hb); (try clear hb2); (try clear hk); (try clear hi); have q10 : (t425 : Int) ≤ ((l0.length : Int) : Int) := of_decide_eq_true az; obtain ⟨i010, hi010, _, hsz10, _⟩ := info_parts info5; have hroom10 : l0.length ≤ c0 := (Kd.V_reads' HO_0.out).2.1; have hC10 : Kd.F (Kd.int .u8) _ _ A0 l0.length l0 := (Kd.V_at (base := w.heap.size) HO_0.out).2.2; have ql10 : (x4_1 : Int) ≤ (t425 : Int) := of_decide_eq_true az; have q010 : (0 : Int) ≤ (x4_1 : Int) := of_decide_eq_true az; have hcut10 := cut_mid (P := Tryz.prog) 34 5 .i64 .i64 Tryz.underlying34 hi010 1 hsz10 A0 l0.length c0 x4_1 t425 q010 ql10 q10 hroom10; have hr10 := Kd.F_mid (lo := (x4_1 : Int).toNat) (hi := (t425 : Int).toNat) (c := c0) hC10 (by omega) (by omega) hroom10; obtain ⟨A10, hA10⟩ : ∃ A1, A1 = (if c0 = (x4_1 : Int).toNat then A0 else (A0 : Option Addr).map (·.add ((x4_1 : Int).toNat * 1))) := ⟨_, rfl⟩; obtain ⟨c10, hc10⟩ : ∃ c1, c1 = c0 - (x4_1 : Int).toNat := ⟨_, rfl⟩; have hy10 : y426.length = (t425 : Int).toNat - (x4_1 : Int).toNat := (by rw [Ny426.out, List.length_drop, List.length_take] <;> omega); rw [show ((l0).take (t425 : Int).toNat).drop (x4_1 : Int).toNat = y426 from Ny426.out.symm] at hr10; replace hr10 : Kd.F (Kd.int .u8) _ _ A10 y426.length y426 := (by rw [hA10]; exact hr10); rw [← hy10, ← hA10, ← hc10] at hcut10; have HO430 := am (show Kd.V (Kd.int .u8) 5 _ w.heap.size _ (.slice A10 y426.length c10) y426 from Kd.V_mk (by rw [hy10, hc10]; exact Nat.sub_le_sub_right (Nat.le_trans (by omega) hroom10) _) hr10); have HC430 := am (show y426.length ≤ c10 from by rw [hy10, hc10]; exact Nat.sub_le_sub_right (Nat.le_trans (by omega) hroom10) _); clear hr10 hC10 hroom10 hi010 hsz10 hc10; have KY10 := am hy10; have KA10 := am hA10; clear hy10 hA10; replace q10 := eq_true q10) | ((with_reducible refine gate_callee (f := 41) rfl ?_); refine goesL_ (some 18) rfl rfl Tryz.func41 (by kernel_rfl) rfl #[.slice A10 y426.length c10] rfl mz ?_; (with_reducible refine (letterboxref9_Text.calls k1 (fun k_ => ((P0_ k_ ∨ w.heap.size ≤ k_) ∧ some k_ ≠ (u3 : Value).ownBlock)) _ _ y426 t431 _ ?side1 A7.out).mono ?_); (case side1 => exact HO430.out); rintro e w11 ⟨v432, rfl, ho0, hb⟩; refine ⟨_, rfl, ?_⟩; have n0_ := am (Kd.V_below (vz HO_0.out) hb); have n1_ := am (Kd.N_below (nz HO_3.out) hb); have n2_ := am (Kd.V_below (vz HO430.out) hb); have n3_ := am (Kd.V_lower (Kd.V_mono (ok' := fun k_ => (P0_ k_ ∨ w.heap.size ≤ k_) ∧ some k_ ≠ (u3 : Value).ownBlock) ho0 (fun k_ hk_ => ⟨Or.elim hk_ (fun hs_ => hs_.1) (fun hn_ => (.inr (Nat.le_trans (below_size bz) hn_))), Or.elim hk_ (fun hs_ => hs_.2) (fun hn_ => (Kd.fresh' (Kd.N_lt (nz HO_3.out)) k_ hn_))⟩)) (below_size bz)); have n4_ := am (below_step bz hb); clear HO_0 HO_3 HO430 HB; have HO_0 := n0_; have HO_3 := n1_; have HO430 := n2_; have HO433 := n3_; have HB := n4_; clear n0_ n1_ n2_ n3_ n4_; (try clear hb); (try clear hb2); (try clear hk); (try clear hi); (try clear ho0); obtain ⟨Ao13, co13, eo13⟩ := Kd.V_slice HO433.out; subst eo13) | ((with_reducible refine gate_builtin (b := .append) (xs := #[.tmp 13, .tmp 19]) rfl ?_); at_builtin; refine Kd.N_append (Kd.slice 5 (Kd.int .u8)) (w0 := w) w.heap.size rfl (.tmp 13) (.tmp 19) 89 34 (.slice none 0 0) 24 rfl Tryz.underlying89 info34 rfl (by decide) (by omega) u3 x3_1 t431 [.slice Ao13 t431.length co13] (fun k_ => (P0_ k_ ∨ w.heap.size ≤ k_)) (fun k_ => ((fun k_ => (P0_ k_ ∨ w.heap.size ≤ k_))) k_ ∧ some k_ ≠ (u3 : Value).ownBlock) rfl rfl ?aP (fun _ hk => hk) ?aF ?aO ?aB ?aS ?aL ?_; (case aP => exact (Kd.FK_slice_mk (Kd.V_reads' (Kd.V_mono (ok' := (fun k_ => ((fun k_ => (P0_ k_ ∨ w.heap.size ≤ k_))) k_ ∧ some k_ ≠ (u3 : Value).ownBlock)) (HO433.out) (fun k_ hk => ⟨hk.1, hk.2⟩))).2.1 (Kd.V_F (Kd.V_mono (ok' := (fun k_ => ((fun k_ => (P0_ k_ ∨ w.heap.size ≤ k_))) k_ ∧ some k_ ≠ (u3 : Value).ownBlock)) (HO433.out) (fun k_ hk => ⟨hk.1, hk.2⟩))))); (case aB => exact bz); (case aF => exact (fun k_ hk => (.inr (Nat.le_trans (below_size bz) hk)))); (case aO => exact (nz HO_3.out)); (case aS => exact (below_size bz)); (case aL => have := LMc8.out; omega); intro v435 w12 ho hb hg hat; (first | rw [← Ny434.out] at ho | (simp only [Int.reduceToNat] at ho; rw [← Ny434.out] at ho)); have n0_ := am (Kd.V_afterv (ok := (fun k_ => (P0_ k_ ∨ w.heap.size ≤ k_))) (vz HO_0.out) hg hat); have n1_ := am (Kd.V_afterv (ok := (fun k_ => (P0_ k_ ∨ w.heap.size ≤ k_))) (vz HO430.out) hg hat); have n2_ := am (Kd.V_afterv (ok := (fun k_ => (P0_ k_ ∨ w.heap.size ≤ k_))) (vz HO433.out) hg hat); have n3_ := am (hb); have n4_ := am (ho); clear HO_0 HO430 HO433 HB HO_3; have HO_0 := n0_; have HO430 := n1_; have HO433 := n2_; have HB := n3_; have HO436 := n4_; clear n0_ n1_ n2_ n3_ n4_; clear ho hb hg hat))
        go_roundg k1
        case measure => have := HK1.out; omega
        case rel => exact ⟨(y434), (t425), sz, H', ⟨by have := HK1.out; omega⟩, ⟨vz HO_0.out⟩, ⟨nz HO436.out⟩, ⟨bz⟩⟩
       rw [if_neg c8] at H
       exact absurd H (by simp)
      rw [if_neg c6] at H
      exact absurd H (by simp)
     rw [if_neg c5] at H
     exact absurd H (by simp)
    rw [if_neg c4] at H
    exact absurd H (by simp)
   rw [if_neg c2] at H; have c2b0 : decide (x4_1 < (l0.length : Int)) = false := decide_eq_false c2; clear c2; obtain rfl := Option.some.inj H
   go_wp2
   go_ret
   exact ⟨_, ez, nz HO_3.out, bz⟩

/-! ### letterboxref9_End: function 40 -/
def letterboxref9_End.l0 : Nat → List Int → Int → Option (Int)
 | 0, _, _ => none
 | k + 1, x0, x3 => if x3 < (x0.length : Int) then ((letterboxref9_next.f k x0 x3).bind fun t437 => (if 0 ≤ x3 then (if x3 ≤ t437 then (if t437 ≤ (x0.length : Int) then ((letterboxref9_Text.f k ((x0.take (t437 : Int).toNat).drop (x3 : Int).toNat)).bind fun t439 => (if (t439.length : Int) = 0 then (some t437) else (letterboxref9_End.l0 k x0 t437))) else (none)) else (none)) else (none))) else (some (x0.length : Int))
def letterboxref9_End.f (k : Nat) (l0 : List Int) : Option (Int) := letterboxref9_End.l0 k l0 0
set_option maxHeartbeats 8000000 in
set_option maxRecDepth 100000 in
theorem letterboxref9_End.calls (k : Nat) (A0 : Option Addr) (c0 : Nat) (l0 : List Int) (r : Int) (w : World) (hr0 : Kd.C (Kd.int .u8) w A0 l0.length l0) (hc0 : l0.length ≤ c0) (h : letterboxref9_End.f k l0 = some r) :
  Calls Tryz.prog 40 #[.slice A0 l0.length c0] w fun e w' => e = .returned (.int .i64 r) ∧ Below w.heap.size w w' := by
 have HR0 := am hr0; have HC0 := am hc0; clear hr0 hc0; have HB := am (Below.refl w.heap.size w); have H : (letterboxref9_End.l0 k l0 0) = some r := h; clear h; have H' := am H; clear H
 go_enter Tryz.func40, Tryz.ntmps40
 go_wp2
 go_loopg [3] k (fun kq v3 w' => ∃ (x3_1 : Int), v3 = .int .i64 x3_1 ∧ Aside0 (letterboxref9_End.l0 kq l0 x3_1 = some r) ∧ Aside0 (kq ≤ k) ∧ Aside0 (Below w.heap.size w w'))
 case atStart => exact ⟨(0), sz, H', ⟨Nat.le_refl _⟩, ⟨bz⟩⟩
 case round =>
  clear H'; obtain ⟨x3_1, rfl, HA, HK1, HB⟩ := hrel
  cases gk with
  | zero => exact absurd HA.out (by simp [letterboxref9_End.l0])
  | succ k1 =>
   have H := HA.out; clear HA; simp only [letterboxref9_End.l0] at H
   by_cases c2 : x3_1 < (l0.length : Int)
   ·rw [if_pos c2] at H; have c2b0 : decide (x3_1 < (l0.length : Int)) = true := decide_eq_true c2; clear c2; replace H := Option.bind_eq_some_iff.mp H; obtain ⟨t437, A30, H⟩ := H; (try dsimp only at H); have A3 := am A30; clear A30
    by_cases c4 : 0 ≤ x3_1
    ·rw [if_pos c4] at H; have c4b0 := eq_true c4; have c4b1 : decide (0 ≤ x3_1) = true := decide_eq_true c4; clear c4
     by_cases c5 : x3_1 ≤ t437
     ·rw [if_pos c5] at H; have c5b0 := eq_true c5; have c5b1 : decide (x3_1 ≤ t437) = true := decide_eq_true c5; clear c5
      by_cases c6 : t437 ≤ (l0.length : Int)
      ·rw [if_pos c6] at H; have c6b0 := eq_true c6; have c6b1 : decide (t437 ≤ (l0.length : Int)) = true := decide_eq_true c6; clear c6; replace H := Option.bind_eq_some_iff.mp H; obtain ⟨t439, A70, H⟩ := H; replace H : (if (t439.length : Int) = 0 then (some t437) else (letterboxref9_End.l0 k1 l0 t437)) = some r := H; have A7 := am A70; clear A70
       by_cases c8 : (t439.length : Int) = 0
       ·rw [if_pos c8] at H; have c8b0 : ((t439.length : Int) == 0) = true := beq_iff_eq.mpr c8; have c8b1 : ((t439.length : Int) != 0) = false := bne_eq_false_iff_eq.mpr c8; clear c8; obtain rfl := Option.some.inj H
        go_wp2_with (first | ((with_reducible refine gate_callee (f := 58) rfl ?_); refine goesL_ (some 11) rfl rfl Tryz.func58 (by kernel_rfl) rfl #[.slice A0 l0.length c0, .int .i64 x3_1] rfl mz ?_; (with_reducible refine (letterboxref9_next.calls k1 _ _ l0 x3_1 t437 _ ?side1 ?side2 A3.out).mono ?_); (case side1 => exact cz (Kd.C_below HR0.out HB.out)); (case side2 => exact HC0.out); rintro e w9 ⟨rfl, hb⟩; refine ⟨_, rfl, ?_⟩; replace HB := am (below_step bz hb); (try clear hb); (try clear hb2); (try clear hk); (try clear hi); obtain ⟨i010, hi010, _, hsz10, _⟩ := info_parts info5; obtain ⟨A10, hcut10, hA10, hC10⟩ := print_mid_of (P := Tryz.prog) (Value.int .u8) 0 34 5 .i64 .i64 Tryz.underlying34 hi010 hsz10 A0 c0 l0 x3_1 t437 (of_decide_eq_true az) (by first | omega | exact of_decide_eq_true az) (of_decide_eq_true az) HC0.out; have HR438 := am (Kd.C_of_reads (h1 := fun _ => rfl) (hA10 _ (Kd.reads_of_C HR0.out))); have HC438 := am hC10; clear hA10 hC10 hi010 hsz10) | ((with_reducible refine gate_callee (f := 41) rfl ?_); refine goesL_ (some 16) rfl rfl Tryz.func41 (by kernel_rfl) rfl #[.slice A10 ((l0.take (t437 : Int).toNat).drop (x3_1 : Int).toNat).length (c0 - x3_1.toNat)] rfl (by (try simp only [List.map_toArray, List.map_cons, List.map_nil]); first | done | (rw [show ((l0.take (t437 : Int).toNat).drop (x3_1 : Int).toNat).length = (t437.toNat - x3_1.toNat) from (by rw [List.length_drop, List.length_take]; have h_ : (t437 : Int) ≤ (l0.length : Int) := of_decide_eq_true az; omega)] <;> rfl) | rfl | (simp only [List.length_drop, List.length_take]; rfl)) ?_; (with_reducible refine (letterboxref9_Text.calls k1 (fun k_ => k_ < w.heap.size) _ _ ((l0.take (t437 : Int).toNat).drop (x3_1 : Int).toNat) t439 _ ?side1 A7.out).mono ?_); (case side1 => exact Kd.V_mk HC438.out (Kd.F_below (Kd.C_F (Kd.heap_int .u8) HR438.out) bz)); rintro e w11 ⟨v440, rfl, ho0, hb⟩; refine ⟨_, rfl, ?_⟩; have n0_ := am (Kd.V_lower (Kd.V_mono (ok' := fun k_ => True) ho0 (fun k_ hk_ => trivial)) (below_size bz)); have n1_ := am (below_step bz hb); clear HB; have HO441 := n0_; have HB := n1_; clear n0_ n1_; (try clear hb); (try clear hb2); (try clear hk); (try clear hi); (try clear ho0); obtain ⟨Ao12, co12, eo12⟩ := Kd.V_slice HO441.out; subst eo12))
        go_ret
        exact ⟨ez, bz⟩
       rw [if_neg c8] at H; have c8b0 : ((t439.length : Int) == 0) = false := beq_eq_false_iff_ne.mpr c8; have c8b1 : ((t439.length : Int) != 0) = true := bne_iff_ne.mpr c8
       have c8b2 : ¬ (t439 = []) := fun h_ => c8 (by rw [h_]; rfl)
       have H' := am H; clear H
       go_wp2_with (first | ((with_reducible refine gate_callee (f := 58) rfl ?_); refine goesL_ (some 11) rfl rfl Tryz.func58 (by kernel_rfl) rfl #[.slice A0 l0.length c0, .int .i64 x3_1] rfl mz ?_; (with_reducible refine (letterboxref9_next.calls k1 _ _ l0 x3_1 t437 _ ?side1 ?side2 A3.out).mono ?_); (case side1 => exact cz (Kd.C_below HR0.out HB.out)); (case side2 => exact HC0.out); rintro e w13 ⟨rfl, hb⟩; refine ⟨_, rfl, ?_⟩; replace HB := am (below_step bz hb); (try clear hb); (try clear hb2); (try clear hk); (try clear hi); obtain ⟨i014, hi014, _, hsz14, _⟩ := info_parts info5; obtain ⟨A14, hcut14, hA14, hC14⟩ := print_mid_of (P := Tryz.prog) (Value.int .u8) 0 34 5 .i64 .i64 Tryz.underlying34 hi014 hsz14 A0 c0 l0 x3_1 t437 (of_decide_eq_true az) (by first | omega | exact of_decide_eq_true az) (of_decide_eq_true az) HC0.out; have HR438 := am (Kd.C_of_reads (h1 := fun _ => rfl) (hA14 _ (Kd.reads_of_C HR0.out))); have HC438 := am hC14; clear hA14 hC14 hi014 hsz14) | ((with_reducible refine gate_callee (f := 41) rfl ?_); refine goesL_ (some 16) rfl rfl Tryz.func41 (by kernel_rfl) rfl #[.slice A14 ((l0.take (t437 : Int).toNat).drop (x3_1 : Int).toNat).length (c0 - x3_1.toNat)] rfl (by (try simp only [List.map_toArray, List.map_cons, List.map_nil]); first | done | (rw [show ((l0.take (t437 : Int).toNat).drop (x3_1 : Int).toNat).length = (t437.toNat - x3_1.toNat) from (by rw [List.length_drop, List.length_take]; have h_ : (t437 : Int) ≤ (l0.length : Int) := of_decide_eq_true az; omega)] <;> rfl) | rfl | (simp only [List.length_drop, List.length_take]; rfl)) ?_; (with_reducible refine (letterboxref9_Text.calls k1 (fun k_ => k_ < w.heap.size) _ _ ((l0.take (t437 : Int).toNat).drop (x3_1 : Int).toNat) t439 _ ?side1 A7.out).mono ?_); (case side1 => exact Kd.V_mk HC438.out (Kd.F_below (Kd.C_F (Kd.heap_int .u8) HR438.out) bz)); rintro e w15 ⟨v440, rfl, ho0, hb⟩; refine ⟨_, rfl, ?_⟩; have n0_ := am (Kd.V_lower (Kd.V_mono (ok' := fun k_ => True) ho0 (fun k_ hk_ => trivial)) (below_size bz)); have n1_ := am (below_step bz hb); clear HB; have HO441 := n0_; have HB := n1_; clear n0_ n1_; (try clear hb); (try clear hb2); (try clear hk); (try clear hi); (try clear ho0); obtain ⟨Ao16, co16, eo16⟩ := Kd.V_slice HO441.out; subst eo16))
       go_roundg k1
       case measure => have := HK1.out; omega
       case rel => exact ⟨(t437), sz, H', ⟨by have := HK1.out; omega⟩, ⟨bz⟩⟩
      rw [if_neg c6] at H
      exact absurd H (by simp)
     rw [if_neg c5] at H
     exact absurd H (by simp)
    rw [if_neg c4] at H
    exact absurd H (by simp)
   rw [if_neg c2] at H; have c2b0 : decide (x3_1 < (l0.length : Int)) = false := decide_eq_false c2; clear c2; obtain rfl := Option.some.inj H
   go_wp2
   go_ret
   exact ⟨ez, bz⟩

/-! ### letterboxref9_Head: function 93 -/
def letterboxref9_Head.f (k : Nat) (l0 : List Int) : Option (List Int) := (letterboxref9_End.f k l0).bind fun t442 => (if 0 ≤ t442 then (if t442 ≤ (l0.length : Int) then (some (l0.take (t442 : Int).toNat)) else (none)) else (none))
set_option maxHeartbeats 8000000 in
set_option maxRecDepth 100000 in
theorem letterboxref9_Head.calls (k : Nat) (P0_ : Nat → Prop) (A0 : Option Addr) (c0 : Nat) (l0 : List Int) (r : List Int) (w : World) (hs0 : Kd.V (Kd.int .u8) 5 w w.heap.size (fun k_ => P0_ k_) (.slice A0 l0.length c0) l0) (h : letterboxref9_Head.f k l0 = some r) :
  Calls Tryz.prog 93 #[.slice A0 l0.length c0] w fun e w' => ∃ v0_ : Value, e = .returned (v0_) ∧ Kd.V (Kd.int .u8) 5 w' w.heap.size (fun k_ => (P0_ k_ ∨ w.heap.size ≤ k_)) v0_ r ∧ Below w.heap.size w w' := by
 have HO0 := am (show Kd.V (Kd.int .u8) 5 w w.heap.size (fun k_ => (P0_ k_ ∨ w.heap.size ≤ k_)) (.slice A0 l0.length c0) l0 from Kd.V_mono hs0 (fun k_ hk => .inl hk)); have HB := am (Below.refl w.heap.size w); have H : ((letterboxref9_End.f k l0).bind fun t442 => (if 0 ≤ t442 then (if t442 ≤ (l0.length : Int) then (some (l0.take (t442 : Int).toNat)) else (none)) else (none))) = some r := h; clear h; replace H := Option.bind_eq_some_iff.mp H; obtain ⟨t442, A20, H⟩ := H; replace H : (if 0 ≤ t442 then (if t442 ≤ (l0.length : Int) then (some (l0.take (t442 : Int).toNat)) else (none)) else (none)) = some r := H; have A2 := am A20; clear A20
 by_cases c3 : 0 ≤ t442
 ·rw [if_pos c3] at H; have c3b0 := eq_true c3; have c3b1 : decide (0 ≤ t442) = true := decide_eq_true c3; clear c3
  by_cases c4 : t442 ≤ (l0.length : Int)
  ·rw [if_pos c4] at H; have c4b0 := eq_true c4; have c4b1 : decide (t442 ≤ (l0.length : Int)) = true := decide_eq_true c4; clear c4; obtain ⟨y443, hy443⟩ : ∃ y_ : List Int, y_ = (l0.take (t442 : Int).toNat) := ⟨_, rfl⟩
   replace H : (some y443) = some r := by first | (rw [hy443]; with_reducible exact H) | (have H2_ := (Option.bind_some _ _).symm.trans H; rw [hy443]; with_reducible exact H2_) | (have H2_ := (Option.bind_some _ _).symm.trans H; with_reducible exact H2_) | with_reducible exact H | (rw [hy443]; exact H) | exact H
   have Ny443 := am hy443; clear hy443; obtain rfl := Option.some.inj H
   go_enter Tryz.func93, Tryz.ntmps93
   go_wp2_with (first | ((with_reducible refine gate_callee (f := 40) rfl ?_); refine goesL_ (some 5) rfl rfl Tryz.func40 (by kernel_rfl) rfl #[.slice A0 l0.length c0] rfl mz ?_; (with_reducible refine (letterboxref9_End.calls k _ _ l0 t442 _ ?side1 ?side2 A2.out).mono ?_); (case side1 => exact cz (Kd.V_reads' HO0.out).2.2); (case side2 => exact (Kd.V_reads' HO0.out).2.1); rintro e w5 ⟨rfl, hb⟩; refine ⟨_, rfl, ?_⟩; replace HO0 := am (Kd.V_below (vz HO0.out) hb); replace HB := am (below_step bz hb); (try clear hb); (try clear hb2); (try clear hk); (try clear hi); have q6 : (t442 : Int) ≤ ((l0.length : Int) : Int) := of_decide_eq_true az; obtain ⟨i06, hi06, _, hsz6, _⟩ := info_parts info5; have hroom6 : l0.length ≤ c0 := (Kd.V_reads' HO0.out).2.1; have hC6 : Kd.F (Kd.int .u8) _ _ A0 l0.length l0 := (Kd.V_at (base := w.heap.size) HO0.out).2.2; have hcut6 := cut_to (P := Tryz.prog) 34 5 .i64 Tryz.underlying34 hi06 A0 l0.length c0 t442 (of_decide_eq_true az) q6 hroom6; have hr6 := Kd.F_take (m := (t442 : Int).toNat) hC6 (by omega); have hy6 : y443.length = (t442 : Int).toNat := (by rw [Ny443.out, List.length_take]; omega); rw [← Ny443.out] at hr6; rw [← hy6] at hcut6; have HO447 := am (show Kd.V (Kd.int .u8) 5 _ w.heap.size _ (.slice A0 y443.length c0) y443 from Kd.V_mk (by omega) hr6); have HC447 := am (show y443.length ≤ c0 from by omega); clear hr6 hC6 hroom6 hi06 hsz6; have KY6 := am hy6; clear hy6; replace q6 := eq_true q6))
   go_ret
   exact ⟨_, ez, vz HO447.out, bz⟩
  rw [if_neg c4] at H
  exact absurd H (by simp)
 rw [if_neg c3] at H
 exact absurd H (by simp)

end Go.Proofs.YtfabaenfglionaaGreatDoor.P
