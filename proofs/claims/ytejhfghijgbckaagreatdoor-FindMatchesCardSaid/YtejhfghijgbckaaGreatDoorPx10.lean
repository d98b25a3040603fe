/- The walks of the seat's functions, one contract a function: printed by a program of this session's (wip/gen). Not trusted: Lean checks it. -/
import Derived.Test.YtejhfghijgbckaaGreatDoorShort
import Derived.Test.YtejhfghijgbckaaGreatDoorPx0
-- halved
namespace Go.Proofs.YtejhfghijgbckaaGreatDoor.P
open Go.RowKit Go.Proofs.YtejhfghijgbckaaGreatDoorW.PrintWords Go.Proofs.YtejhfghijgbckaaGreatDoorW.PrintLast Go.Proofs.YtejhfghijgbckaaGreatDoorW.PrintMore
attribute [local go_sem] max2_int min2_int max_two min_two max_three min_three max_four min_four   -- for this text's walks alone
set_option linter.unusedVariables false
set_option linter.unusedSimpArgs false

/-! ### letterboxref9_next: function 95 -/
def letterboxref9_next.l0 : Nat → List Int → Int → Option (Int)
 | 0, _, _ => none
 | k + 1, x0, x1 => if x1 < (x0.length : Int) then (if 0 ≤ x1 then (if (rd x0 x1) = 10 then (some (mn (wrap64 (x1 + 1)) (x0.length : Int))) else (letterboxref9_next.l0 k x0 (wrap64 (x1 + 1)))) else (none)) else (some (mn (wrap64 (x1 + 1)) (x0.length : Int)))
def letterboxref9_next.f (k : Nat) (l0 : List Int) (a1 : Int) : Option (Int) := letterboxref9_next.l0 k l0 a1
set_option maxHeartbeats 8000000 in
set_option maxRecDepth 100000 in
theorem letterboxref9_next.calls (k : Nat) (A0 : Option Addr) (c0 : Nat) (l0 : List Int) (a1 : Int) (r : Int) (w : World) (hr0 : Kd.C (Kd.int .u8) w A0 l0.length l0) (hc0 : l0.length ≤ c0) (h : letterboxref9_next.f k l0 a1 = some r) :
  Calls Tryz.prog 95 #[.slice A0 l0.length c0, .int .i64 a1] w fun e w' => e = .returned (.int .i64 r) ∧ Below w.heap.size w w' := by
 have HR0 := am hr0; have HC0 := am hc0; clear hr0 hc0; have HB := am (Below.refl w.heap.size w); have H : (letterboxref9_next.l0 k l0 a1) = some r := h; clear h; have H' := am H; clear H
 go_enter Tryz.func95, Tryz.ntmps95
 go_wp2
 go_loopg [1] k (fun kq v1 w' => ∃ (x1_1 : Int), v1 = .int .i64 x1_1 ∧ Aside0 (letterboxref9_next.l0 kq l0 x1_1 = some r) ∧ Aside0 (kq ≤ k) ∧ Aside0 (Below w.heap.size w w'))
 case atStart => exact ⟨(a1), (by first | rfl | (simp; done) | (simp [*]; done)), H', ⟨Nat.le_refl _⟩, ⟨by repeat (first | (with_reducible first | exact HB.out | apply bA | apply bN | apply bD) | exact HB.out)⟩⟩
 case round =>
  clear H'; (try clear p2); obtain ⟨x1_1, rfl, HA, HK1, HB⟩ := hrel
  cases gk with
  | zero => exact absurd HA.out (by simp [letterboxref9_next.l0])
  | succ k1 =>
   have H := HA.out; clear HA; simp only [letterboxref9_next.l0] at H
   by_cases c3 : x1_1 < (l0.length : Int)
   ·rw [if_pos c3] at H; have c3b0 : decide (x1_1 < (l0.length : Int)) = true := decide_eq_true c3; clear c3
    by_cases c4 : 0 ≤ x1_1
    ·rw [if_pos c4] at H; have c4b0 : decide (0 ≤ x1_1) = true := decide_eq_true c4; clear c4
     by_cases c5 : (rd l0 x1_1) = 10
     ·rw [if_pos c5] at H; have c5b0 : ((rd l0 x1_1) == 10) = true := beq_iff_eq.mpr c5; have c5b1 : ((rd l0 x1_1) != 10) = false := bne_eq_false_iff_eq.mpr c5; clear c5; obtain ⟨ji6, hji6⟩ : ∃ j_ : Int, (mn (wrap64 (x1_1 + 1)) (l0.length : Int)) = j_ := ⟨_, rfl⟩
      replace H : (some ji6) = some r := by first | (rw [hji6] at H; exact H) | (simp only [hji6] at H ⊢; exact H)
      have hji6_ : (if (l0.length : Int) < (wrap64 (x1_1 + 1)) then (l0.length : Int) else (wrap64 (x1_1 + 1))) = ji6 := hji6; obtain rfl := Option.some.inj H; have p488 : 0 ≤ (x1_1 : Int) := of_decide_eq_true (by first | (with_reducible assumption) | assumption); have q488 : x1_1 < (l0.length : Int) := of_decide_eq_true (by first | (with_reducible assumption) | assumption); obtain ⟨ad488, e488, hx488_0⟩ := Kd.at_int HR0.out x1_1 p488 q488
      cases e488
      replace hx488_0 := (HB.out.cell (World.block_lt_of_cell? w _ hx488_0)).trans hx488_0; replace p488 := eq_true p488; replace q488 := eq_true q488
      go_wp2
      go_ret
      exact ⟨by first | rfl | (simp [errW_none, errW_some] <;> rfl) | (simp only [← hji6]; first | rfl | (simp [errW_none, errW_some] <;> rfl)) | (simp [*, errW_none, errW_some] <;> rfl), by repeat (first | (with_reducible first | exact HB.out | apply bA | apply bN | apply bD) | exact HB.out)⟩
     rw [if_neg c5] at H; have c5b0 : ((rd l0 x1_1) == 10) = false := beq_eq_false_iff_ne.mpr c5; have c5b1 : ((rd l0 x1_1) != 10) = true := bne_iff_ne.mpr c5; have H' := am H; clear H; have p488 : 0 ≤ (x1_1 : Int) := of_decide_eq_true (by first | (with_reducible assumption) | assumption); have q488 : x1_1 < (l0.length : Int) := of_decide_eq_true (by first | (with_reducible assumption) | assumption); obtain ⟨ad488, e488, hx488_0⟩ := Kd.at_int HR0.out x1_1 p488 q488
     cases e488
     replace hx488_0 := (HB.out.cell (World.block_lt_of_cell? w _ hx488_0)).trans hx488_0; replace p488 := eq_true p488; replace q488 := eq_true q488
     go_wp2
     go_roundg k1
     case measure => have := HK1.out; omega
     case rel => exact ⟨(wrap64 (x1_1 + 1)), (by first | rfl | (simp; done) | (simp [*]; done)), H', ⟨by have := HK1.out; omega⟩, ⟨by repeat (first | (with_reducible first | exact HB.out | apply bA | apply bN | apply bD) | exact HB.out)⟩⟩
    rw [if_neg c4] at H
    exact absurd H (by simp)
   rw [if_neg c3] at H; have c3b0 : decide (x1_1 < (l0.length : Int)) = false := decide_eq_false c3; clear c3; obtain ⟨ji7, hji7⟩ : ∃ j_ : Int, (mn (wrap64 (x1_1 + 1)) (l0.length : Int)) = j_ := ⟨_, rfl⟩
   replace H : (some ji7) = some r := by first | (rw [hji7] at H; exact H) | (simp only [hji7] at H ⊢; exact H)
   have hji7_ : (if (l0.length : Int) < (wrap64 (x1_1 + 1)) then (l0.length : Int) else (wrap64 (x1_1 + 1))) = ji7 := hji7; obtain rfl := Option.some.inj H
   go_wp2
   go_ret
   exact ⟨by first | rfl | (simp [errW_none, errW_some] <;> rfl) | (simp only [← hji7]; first | rfl | (simp [errW_none, errW_some] <;> rfl)) | (simp [*, errW_none, errW_some] <;> rfl), by repeat (first | (with_reducible first | exact HB.out | apply bA | apply bN | apply bD) | exact HB.out)⟩

/-! ### letterboxref9_Text: function 96 -/
def letterboxref9_Text.j0 : Nat → List Int → Bool → Option (List Int)
 | 0, _, _ => none
 | k + 1, x0, x14 => if x14 = true then (if 0 ≤ (wrap64 ((x0.length : Int) - 1)) then (if (wrap64 ((x0.length : Int) - 1)) ≤ (x0.length : Int) then ((some (x0.take ((wrap64 ((x0.length : Int) - 1)) : Int).toNat : List Int)).bind fun y490 => (if (y490.length : Int) > 0 then (if 0 ≤ (wrap64 ((y490.length : Int) - 1)) then (if (wrap64 ((y490.length : Int) - 1)) < (y490.length : Int) then (if (rd y490 (wrap64 ((y490.length : Int) - 1))) = 13 then (if (wrap64 ((y490.length : Int) - 1)) ≤ (y490.length : Int) then (some (y490.take ((wrap64 ((y490.length : Int) - 1)) : Int).toNat)) else (none)) else (some y490)) else (none)) else (none)) else (some y490))) else (none)) else (none)) else (if (x0.length : Int) > 0 then (if 0 ≤ (wrap64 ((x0.length : Int) - 1)) then (if (wrap64 ((x0.length : Int) - 1)) < (x0.length : Int) then (if (rd x0 (wrap64 ((x0.length : Int) - 1))) = 13 then (if (wrap64 ((x0.length : Int) - 1)) ≤ (x0.length : Int) then (some (x0.take ((wrap64 ((x0.length : Int) - 1)) : Int).toNat)) else (none)) else (some x0)) else (none)) else (none)) else (some x0))
def letterboxref9_Text.f (k : Nat) (l0 : List Int) : Option (List Int) := if (l0.length : Int) > 0 then (if 0 ≤ (wrap64 ((l0.length : Int) - 1)) then (if (wrap64 ((l0.length : Int) - 1)) < (l0.length : Int) then (letterboxref9_Text.j0 k l0 ((rd l0 (wrap64 ((l0.length : Int) - 1))) == 10)) else (none)) else (none)) else (letterboxref9_Text.j0 k l0 false)
set_option maxHeartbeats 8000000 in
set_option maxRecDepth 100000 in
theorem letterboxref9_Text.calls (k : Nat) (P0_ : Nat → Prop) (A0 : Option Addr) (c0 : Nat) (l0 : List Int) (r : List Int) (w : World) (hs0 : Kd.V (Kd.int .u8) 5 w w.heap.size (fun k_ => P0_ k_) (.slice A0 l0.length c0) l0) (h : letterboxref9_Text.f k l0 = some r) :
  Calls Tryz.prog 96 #[.slice A0 l0.length c0] w fun e w' => ∃ v0_ : Value, e = .returned (v0_) ∧ Kd.V (Kd.int .u8) 5 w' w.heap.size (fun k_ => (P0_ k_ ∨ w.heap.size ≤ k_)) v0_ r ∧ Below w.heap.size w w' := by
 have HO0 := am (show Kd.V (Kd.int .u8) 5 w w.heap.size (fun k_ => (P0_ k_ ∨ w.heap.size ≤ k_)) (.slice A0 l0.length c0) l0 from Kd.V_mono hs0 (fun k_ hk => .inl hk)); have HB := am (Below.refl w.heap.size w); have H : (if (l0.length : Int) > 0 then (if 0 ≤ (wrap64 ((l0.length : Int) - 1)) then (if (wrap64 ((l0.length : Int) - 1)) < (l0.length : Int) then (letterboxref9_Text.j0 k l0 ((rd l0 (wrap64 ((l0.length : Int) - 1))) == 10)) else (none)) else (none)) else (letterboxref9_Text.j0 k l0 false)) = some r := h; clear h; have HC2 := am H; clear H
 go_enter Tryz.func96, Tryz.ntmps96
 go_upto_region 1 with (fail)
 go_cut [14] (fun v14 wc => ∃ (kq : Nat) (x14_1 : Bool), v14 = .bool x14_1 ∧ Aside0 (letterboxref9_Text.j0 kq l0 x14_1 = some r) ∧ Aside0 (kq ≤ k) ∧ Aside0 (Kd.V (Kd.int .u8) 5 wc w.heap.size (fun k_ => (P0_ k_ ∨ w.heap.size ≤ k_)) (.slice A0 l0.length c0) l0) ∧ Aside0 (Below w.heap.size w wc))
 case first =>
  have H := HC2.out; clear HC2
  by_cases c3 : (l0.length : Int) > 0
  ·rw [if_pos c3] at H; have c3b0 : decide (0 < (l0.length : Int)) = true := decide_eq_true c3; have c3b1 : decide (0 < l0.length) = true := decide_eq_true (by omega); clear c3
   (first | rw [c3b0] | (simp only [i64_w, i32_w]; rw [c3b0]) | skip)
   obtain ⟨ji4, hji4⟩ : ∃ j_ : Int, (wrap64 ((l0.length : Int) - 1)) = j_ := ⟨_, rfl⟩
   replace H : (if 0 ≤ (ji4) then (if (ji4) < (l0.length : Int) then (letterboxref9_Text.j0 k l0 ((rd l0 (ji4)) == 10)) else (none)) else (none)) = some r := by first | (rw [hji4] at H; exact H) | (simp only [hji4] at H ⊢; exact H)
   have hji4w : (IntKind.i64.wrap ((l0.length : Int) - 1)) = ji4 := (i64_w _).trans hji4
   by_cases c5 : 0 ≤ (ji4)
   ·rw [if_pos c5] at H; have c5b0 : decide (0 ≤ (ji4)) = true := decide_eq_true c5; clear c5
    by_cases c6 : (ji4) < (l0.length : Int)
    ·rw [if_pos c6] at H; have c6b0 : decide ((ji4) < (l0.length : Int)) = true := decide_eq_true c6; clear c6; have H' := am H; clear H; have p489 : 0 ≤ ((ji4) : Int) := of_decide_eq_true (by first | (with_reducible assumption) | assumption); have q489 : (ji4) < (l0.length : Int) := of_decide_eq_true (by first | (with_reducible assumption) | assumption); obtain ⟨ad489, e489, hx489_0⟩ := Kd.at_int (Kd.V_reads' HO0.out).2.2 (ji4) p489 q489
     cases e489
     replace p489 := eq_true p489; replace q489 := eq_true q489
     go_wp2
     go_meet
     case rel => exact ⟨_, (((rd l0 (ji4)) == 10)), (by first | rfl | (simp; done) | (simp only [← hji4] <;> (first | rfl | simp)) | (simp [*]; done)), H', ⟨by first | omega | exact Nat.le_refl _⟩, ⟨by (with_reducible repeat (first | apply Kd.V_alloc | apply Kd.V_drewN | apply Kd.V_drew)); exact HO0.out⟩, ⟨by repeat (first | (with_reducible first | exact HB.out | apply bA | apply bN | apply bD) | exact HB.out)⟩⟩
    rw [if_neg c6] at H
    exact absurd H (by simp)
   rw [if_neg c5] at H
   exact absurd H (by simp)
  rw [if_neg c3] at H; have c3b0 : decide (0 < (l0.length : Int)) = false := decide_eq_false c3; have c3b1 : decide (0 < l0.length) = false := decide_eq_false (by omega); clear c3
  (first | rw [c3b0] | (simp only [i64_w, i32_w]; rw [c3b0]) | skip)
  have H' := am H; clear H
  go_wp2
  go_meet
  case rel => exact ⟨_, (false), (by first | rfl | (simp; done) | (simp [*]; done)), H', ⟨by first | omega | exact Nat.le_refl _⟩, ⟨by (with_reducible repeat (first | apply Kd.V_alloc | apply Kd.V_drewN | apply Kd.V_drew)); exact HO0.out⟩, ⟨by repeat (first | (with_reducible first | exact HB.out | apply bA | apply bN | apply bD) | exact HB.out)⟩⟩
 case rest =>
  clear HC2; (try clear p2); (try clear c3); (try clear c3b0); (try clear c3b1); (try clear p4); (try clear q4); (try clear hx4); (try clear c5); (try clear c5b0); (try clear c6); (try clear c6b0); (try clear p6); (try clear hx489_0); (try clear p489); (try clear q489); obtain ⟨kq, x14_1, rfl, HA, HJ1, HO_0, HB⟩ := hcut
  cases kq with
  | zero => exact absurd HA.out (by simp [letterboxref9_Text.j0])
  | succ kj1 =>
   have H := HA.out; clear HA; simp only [letterboxref9_Text.j0] at H
   by_cases c7 : x14_1 = true
   ·subst c7
    have H1 : (if 0 ≤ (wrap64 ((l0.length : Int) - 1)) then (if (wrap64 ((l0.length : Int) - 1)) ≤ (l0.length : Int) then ((some (l0.take ((wrap64 ((l0.length : Int) - 1)) : Int).toNat : List Int)).bind fun y490 => (if (y490.length : Int) > 0 then (if 0 ≤ (wrap64 ((y490.length : Int) - 1)) then (if (wrap64 ((y490.length : Int) - 1)) < (y490.length : Int) then (if (rd y490 (wrap64 ((y490.length : Int) - 1))) = 13 then (if (wrap64 ((y490.length : Int) - 1)) ≤ (y490.length : Int) then (some (y490.take ((wrap64 ((y490.length : Int) - 1)) : Int).toNat)) else (none)) else (some y490)) else (none)) else (none)) else (some y490))) else (none)) else (none)) = some r := by rw [if_pos rfl] at H; exact H
    clear H; have H := H1; clear H1; obtain ⟨ji8, hji8⟩ : ∃ j_ : Int, (wrap64 ((l0.length : Int) - 1)) = j_ := ⟨_, rfl⟩
    replace H : (if 0 ≤ (ji8) then (if (ji8) ≤ (l0.length : Int) then ((some (l0.take ((ji8) : Int).toNat : List Int)).bind fun y490 => (if (y490.length : Int) > 0 then (if 0 ≤ (wrap64 ((y490.length : Int) - 1)) then (if (wrap64 ((y490.length : Int) - 1)) < (y490.length : Int) then (if (rd y490 (wrap64 ((y490.length : Int) - 1))) = 13 then (if (wrap64 ((y490.length : Int) - 1)) ≤ (y490.length : Int) then (some (y490.take ((wrap64 ((y490.length : Int) - 1)) : Int).toNat)) else (none)) else (some y490)) else (none)) else (none)) else (some y490))) else (none)) else (none)) = some r := by first | (rw [hji8] at H; exact H) | (simp only [hji8] at H ⊢; exact H)
    have hji8w : (IntKind.i64.wrap ((l0.length : Int) - 1)) = ji8 := (i64_w _).trans hji8
    by_cases c9 : 0 ≤ (ji8)
    ·rw [if_pos c9] at H; have c9b0 := eq_true c9; have c9b1 : decide (0 ≤ (ji8)) = true := decide_eq_true c9; clear c9
     by_cases c10 : (ji8) ≤ (l0.length : Int)
     ·rw [if_pos c10] at H; have c10b0 := eq_true c10; have c10b1 : decide ((ji8) ≤ (l0.length : Int)) = true := decide_eq_true c10; clear c10; obtain ⟨y490, hy490⟩ : ∃ y_ : List Int, y_ = (l0.take ((ji8) : Int).toNat) := ⟨_, rfl⟩
      replace H : (if (y490.length : Int) > 0 then (if 0 ≤ (wrap64 ((y490.length : Int) - 1)) then (if (wrap64 ((y490.length : Int) - 1)) < (y490.length : Int) then (if (rd y490 (wrap64 ((y490.length : Int) - 1))) = 13 then (if (wrap64 ((y490.length : Int) - 1)) ≤ (y490.length : Int) then (some (y490.take ((wrap64 ((y490.length : Int) - 1)) : Int).toNat)) else (none)) else (some y490)) else (none)) else (none)) else (some y490)) = some r := by first | (rw [hy490]; with_reducible exact H) | (have H2_ := (Option.bind_some _ _).symm.trans H; rw [hy490]; with_reducible exact H2_) | (have H2_ := (Option.bind_some _ _).symm.trans H; with_reducible exact H2_) | with_reducible exact H | (rw [hy490]; exact H) | exact H
      have Ny490 := am hy490; clear hy490
      by_cases c11 : (y490.length : Int) > 0
      ·rw [if_pos c11] at H; have c11b0 : decide (0 < (y490.length : Int)) = true := decide_eq_true c11; have c11b1 : decide (0 < y490.length) = true := decide_eq_true (by omega); clear c11; obtain ⟨ji12, hji12⟩ : ∃ j_ : Int, (wrap64 ((y490.length : Int) - 1)) = j_ := ⟨_, rfl⟩
       replace H : (if 0 ≤ (ji12) then (if (ji12) < (y490.length : Int) then (if (rd y490 (ji12)) = 13 then (if (ji12) ≤ (y490.length : Int) then (some (y490.take ((ji12) : Int).toNat)) else (none)) else (some y490)) else (none)) else (none)) = some r := by first | (rw [hji12] at H; exact H) | (simp only [hji12] at H ⊢; exact H)
       have hji12w : (IntKind.i64.wrap ((y490.length : Int) - 1)) = ji12 := (i64_w _).trans hji12
       by_cases c13 : 0 ≤ (ji12)
       ·rw [if_pos c13] at H; have c13b0 : decide (0 ≤ (ji12)) = true := decide_eq_true c13; clear c13
        by_cases c14 : (ji12) < (y490.length : Int)
        ·rw [if_pos c14] at H; have c14b0 : decide ((ji12) < (y490.length : Int)) = true := decide_eq_true c14; clear c14
         by_cases c15 : (rd y490 (ji12)) = 13
         ·rw [if_pos c15] at H; have c15b0 : ((rd y490 (ji12)) == 13) = true := beq_iff_eq.mpr c15; have c15b1 : ((rd y490 (ji12)) != 13) = false := bne_eq_false_iff_eq.mpr c15; clear c15; have c16b0 := eq_true (of_decide_eq_true (by first | (with_reducible assumption) | assumption) : 0 ≤ (ji12))
          by_cases c17 : (ji12) ≤ (y490.length : Int)
          ·rw [if_pos c17] at H; have c17b0 := eq_true c17; have c17b1 : decide ((ji12) ≤ (y490.length : Int)) = true := decide_eq_true c17; clear c17; obtain ⟨y496, hy496⟩ : ∃ y_ : List Int, y_ = (y490.take ((ji12) : Int).toNat) := ⟨_, rfl⟩
           replace H : (some y496) = some r := by first | (rw [hy496]; with_reducible exact H) | (have H2_ := (Option.bind_some _ _).symm.trans H; rw [hy496]; with_reducible exact H2_) | (have H2_ := (Option.bind_some _ _).symm.trans H; with_reducible exact H2_) | with_reducible exact H | (rw [hy496]; exact H) | exact H
           have Ny496 := am hy496; clear hy496; obtain rfl := Option.some.inj H; have q18 : ((ji8) : Int) ≤ ((l0.length : Int) : Int) := of_decide_eq_true (by first | (with_reducible assumption) | assumption); obtain ⟨i018, hi018, _, hsz18, _⟩ := info_parts info5; have hroom18 : l0.length ≤ c0 := (Kd.V_reads' HO_0.out).2.1; have hC18 : Kd.F (Kd.int .u8) _ _ A0 l0.length l0 := (Kd.V_at (base := w.heap.size) HO_0.out).2.2; have hcut18 := cut_to (P := Tryz.prog) 35 5 .i64 Tryz.underlying35 hi018 A0 l0.length c0 (ji8) (of_decide_eq_true (by first | (with_reducible assumption) | assumption)) q18 hroom18; have hr18 := Kd.F_take (m := ((ji8) : Int).toNat) hC18 (by omega); have hy18 : y490.length = ((ji8) : Int).toNat := (by rw [Ny490.out, List.length_take]; omega); rw [← Ny490.out] at hr18; rw [← hy18] at hcut18; have HO494 := am (show Kd.V (Kd.int .u8) 5 _ w.heap.size _ (.slice A0 y490.length c0) y490 from Kd.V_mk (by omega) hr18); have HC494 := am (show y490.length ≤ c0 from by omega); clear hr18 hC18 hroom18 hi018 hsz18; have KY18 := am hy18; clear hy18; replace q18 := eq_true q18; have p495 : 0 ≤ ((ji12) : Int) := of_decide_eq_true (by first | (with_reducible assumption) | assumption); have q495 : (ji12) < (y490.length : Int) := of_decide_eq_true (by first | (with_reducible assumption) | assumption); obtain ⟨ad495, e495, hx495_0⟩ := Kd.at_int (Kd.V_reads' HO494.out).2.2 (ji12) p495 q495
           cases e495
           replace p495 := eq_true p495; replace q495 := eq_true q495; have q19 : ((ji12) : Int) ≤ ((y490.length : Int) : Int) := of_decide_eq_true (by first | (with_reducible assumption) | assumption); obtain ⟨i019, hi019, _, hsz19, _⟩ := info_parts info5; have hroom19 : y490.length ≤ c0 := (Kd.V_reads' HO494.out).2.1; have hC19 : Kd.F (Kd.int .u8) _ _ (some ad495) y490.length y490 := (Kd.V_at (base := w.heap.size) HO494.out).2.2; have hcut19 := cut_to (P := Tryz.prog) 35 5 .i64 Tryz.underlying35 hi019 (some ad495) y490.length c0 (ji12) (of_decide_eq_true (by first | (with_reducible assumption) | assumption)) q19 hroom19; have hr19 := Kd.F_take (m := ((ji12) : Int).toNat) hC19 (by omega); have hy19 : y496.length = ((ji12) : Int).toNat := (by rw [Ny496.out, List.length_take]; omega); rw [← Ny496.out] at hr19; rw [← hy19] at hcut19; have HO500 := am (show Kd.V (Kd.int .u8) 5 _ w.heap.size _ (.slice (some ad495) y496.length c0) y496 from Kd.V_mk (by omega) hr19); have HC500 := am (show y496.length ≤ c0 from by omega); clear hr19 hC19 hroom19 hi019 hsz19; have KY19 := am hy19; clear hy19; replace q19 := eq_true q19
           go_wp2
           go_ret
           exact ⟨_, by first | rfl | (simp [errW_none, errW_some] <;> rfl) | (simp only [← hji8, ← hji12]; first | rfl | (simp [errW_none, errW_some] <;> rfl)) | (simp [*, errW_none, errW_some] <;> rfl), by (with_reducible repeat (first | apply Kd.V_alloc | apply Kd.V_drewN | apply Kd.V_drew)); exact HO500.out, by repeat (first | (with_reducible first | exact HB.out | apply bA | apply bN | apply bD) | exact HB.out)⟩
          rw [if_neg c17] at H
          exact absurd H (by simp)
         rw [if_neg c15] at H; have c15b0 : ((rd y490 (ji12)) == 13) = false := beq_eq_false_iff_ne.mpr c15; have c15b1 : ((rd y490 (ji12)) != 13) = true := bne_iff_ne.mpr c15; obtain rfl := Option.some.inj H; have q20 : ((ji8) : Int) ≤ ((l0.length : Int) : Int) := of_decide_eq_true (by first | (with_reducible assumption) | assumption); obtain ⟨i020, hi020, _, hsz20, _⟩ := info_parts info5; have hroom20 : l0.length ≤ c0 := (Kd.V_reads' HO_0.out).2.1; have hC20 : Kd.F (Kd.int .u8) _ _ A0 l0.length l0 := (Kd.V_at (base := w.heap.size) HO_0.out).2.2; have hcut20 := cut_to (P := Tryz.prog) 35 5 .i64 Tryz.underlying35 hi020 A0 l0.length c0 (ji8) (of_decide_eq_true (by first | (with_reducible assumption) | assumption)) q20 hroom20; have hr20 := Kd.F_take (m := ((ji8) : Int).toNat) hC20 (by omega); have hy20 : y490.length = ((ji8) : Int).toNat := (by rw [Ny490.out, List.length_take]; omega); rw [← Ny490.out] at hr20; rw [← hy20] at hcut20; have HO494 := am (show Kd.V (Kd.int .u8) 5 _ w.heap.size _ (.slice A0 y490.length c0) y490 from Kd.V_mk (by omega) hr20); have HC494 := am (show y490.length ≤ c0 from by omega); clear hr20 hC20 hroom20 hi020 hsz20; have KY20 := am hy20; clear hy20; replace q20 := eq_true q20; have p495 : 0 ≤ ((ji12) : Int) := of_decide_eq_true (by first | (with_reducible assumption) | assumption); have q495 : (ji12) < (y490.length : Int) := of_decide_eq_true (by first | (with_reducible assumption) | assumption); obtain ⟨ad495, e495, hx495_0⟩ := Kd.at_int (Kd.V_reads' HO494.out).2.2 (ji12) p495 q495
         cases e495
         replace p495 := eq_true p495; replace q495 := eq_true q495
         go_wp2
         go_ret
         exact ⟨_, by first | rfl | (simp [errW_none, errW_some] <;> rfl) | (simp only [← hji8, ← hji12]; first | rfl | (simp [errW_none, errW_some] <;> rfl)) | (simp [*, errW_none, errW_some] <;> rfl), by (with_reducible repeat (first | apply Kd.V_alloc | apply Kd.V_drewN | apply Kd.V_drew)); exact HO494.out, by repeat (first | (with_reducible first | exact HB.out | apply bA | apply bN | apply bD) | exact HB.out)⟩
        rw [if_neg c14] at H
        exact absurd H (by simp)
       rw [if_neg c13] at H
       exact absurd H (by simp)
      rw [if_neg c11] at H; have c11b0 : decide (0 < (y490.length : Int)) = false := decide_eq_false c11; have c11b1 : decide (0 < y490.length) = false := decide_eq_false (by omega); clear c11; obtain rfl := Option.some.inj H; have q21 : ((ji8) : Int) ≤ ((l0.length : Int) : Int) := of_decide_eq_true (by first | (with_reducible assumption) | assumption); obtain ⟨i021, hi021, _, hsz21, _⟩ := info_parts info5; have hroom21 : l0.length ≤ c0 := (Kd.V_reads' HO_0.out).2.1; have hC21 : Kd.F (Kd.int .u8) _ _ A0 l0.length l0 := (Kd.V_at (base := w.heap.size) HO_0.out).2.2; have hcut21 := cut_to (P := Tryz.prog) 35 5 .i64 Tryz.underlying35 hi021 A0 l0.length c0 (ji8) (of_decide_eq_true (by first | (with_reducible assumption) | assumption)) q21 hroom21; have hr21 := Kd.F_take (m := ((ji8) : Int).toNat) hC21 (by omega); have hy21 : y490.length = ((ji8) : Int).toNat := (by rw [Ny490.out, List.length_take]; omega); rw [← Ny490.out] at hr21; rw [← hy21] at hcut21; have HO494 := am (show Kd.V (Kd.int .u8) 5 _ w.heap.size _ (.slice A0 y490.length c0) y490 from Kd.V_mk (by omega) hr21); have HC494 := am (show y490.length ≤ c0 from by omega); clear hr21 hC21 hroom21 hi021 hsz21; have KY21 := am hy21; clear hy21; replace q21 := eq_true q21
      go_wp2
      go_ret
      exact ⟨_, by first | rfl | (simp [errW_none, errW_some] <;> rfl) | (simp only [← hji8]; first | rfl | (simp [errW_none, errW_some] <;> rfl)) | (simp [*, errW_none, errW_some] <;> rfl), by (with_reducible repeat (first | apply Kd.V_alloc | apply Kd.V_drewN | apply Kd.V_drew)); exact HO494.out, by repeat (first | (with_reducible first | exact HB.out | apply bA | apply bN | apply bD) | exact HB.out)⟩
     rw [if_neg c10] at H
     exact absurd H (by simp)
    rw [if_neg c9] at H
    exact absurd H (by simp)
   replace c7 := Bool.eq_false_iff.mpr c7; subst c7
   have H1 : (if (l0.length : Int) > 0 then (if 0 ≤ (wrap64 ((l0.length : Int) - 1)) then (if (wrap64 ((l0.length : Int) - 1)) < (l0.length : Int) then (if (rd l0 (wrap64 ((l0.length : Int) - 1))) = 13 then (if (wrap64 ((l0.length : Int) - 1)) ≤ (l0.length : Int) then (some (l0.take ((wrap64 ((l0.length : Int) - 1)) : Int).toNat)) else (none)) else (some l0)) else (none)) else (none)) else (some l0)) = some r := by rw [if_neg (show ¬ (false = true) by decide)] at H; exact H
   clear H; have H := H1; clear H1
   by_cases c22 : (l0.length : Int) > 0
   ·rw [if_pos c22] at H; have c22b0 : decide (0 < (l0.length : Int)) = true := decide_eq_true c22; have c22b1 : decide (0 < l0.length) = true := decide_eq_true (by omega); clear c22; obtain ⟨ji23, hji23⟩ : ∃ j_ : Int, (wrap64 ((l0.length : Int) - 1)) = j_ := ⟨_, rfl⟩
    replace H : (if 0 ≤ (ji23) then (if (ji23) < (l0.length : Int) then (if (rd l0 (ji23)) = 13 then (if (ji23) ≤ (l0.length : Int) then (some (l0.take ((ji23) : Int).toNat)) else (none)) else (some l0)) else (none)) else (none)) = some r := by first | (rw [hji23] at H; exact H) | (simp only [hji23] at H ⊢; exact H)
    have hji23w : (IntKind.i64.wrap ((l0.length : Int) - 1)) = ji23 := (i64_w _).trans hji23
    by_cases c24 : 0 ≤ (ji23)
    ·rw [if_pos c24] at H; have c24b0 : decide (0 ≤ (ji23)) = true := decide_eq_true c24; clear c24
     by_cases c25 : (ji23) < (l0.length : Int)
     ·rw [if_pos c25] at H; have c25b0 : decide ((ji23) < (l0.length : Int)) = true := decide_eq_true c25; clear c25
      by_cases c26 : (rd l0 (ji23)) = 13
      ·rw [if_pos c26] at H; have c26b0 : ((rd l0 (ji23)) == 13) = true := beq_iff_eq.mpr c26; have c26b1 : ((rd l0 (ji23)) != 13) = false := bne_eq_false_iff_eq.mpr c26; clear c26; have c27b0 := eq_true (of_decide_eq_true (by first | (with_reducible assumption) | assumption) : 0 ≤ (ji23))
       by_cases c28 : (ji23) ≤ (l0.length : Int)
       ·rw [if_pos c28] at H; have c28b0 := eq_true c28; have c28b1 : decide ((ji23) ≤ (l0.length : Int)) = true := decide_eq_true c28; clear c28; obtain ⟨y502, hy502⟩ : ∃ y_ : List Int, y_ = (l0.take ((ji23) : Int).toNat) := ⟨_, rfl⟩
        replace H : (some y502) = some r := by first | (rw [hy502]; with_reducible exact H) | (have H2_ := (Option.bind_some _ _).symm.trans H; rw [hy502]; with_reducible exact H2_) | (have H2_ := (Option.bind_some _ _).symm.trans H; with_reducible exact H2_) | with_reducible exact H | (rw [hy502]; exact H) | exact H
        have Ny502 := am hy502; clear hy502; obtain rfl := Option.some.inj H; have p501 : 0 ≤ ((ji23) : Int) := of_decide_eq_true (by first | (with_reducible assumption) | assumption); have q501 : (ji23) < (l0.length : Int) := of_decide_eq_true (by first | (with_reducible assumption) | assumption); obtain ⟨ad501, e501, hx501_0⟩ := Kd.at_int (Kd.V_reads' HO_0.out).2.2 (ji23) p501 q501
        cases e501
        replace p501 := eq_true p501; replace q501 := eq_true q501; have q29 : ((ji23) : Int) ≤ ((l0.length : Int) : Int) := of_decide_eq_true (by first | (with_reducible assumption) | assumption); obtain ⟨i029, hi029, _, hsz29, _⟩ := info_parts info5; have hroom29 : l0.length ≤ c0 := (Kd.V_reads' HO_0.out).2.1; have hC29 : Kd.F (Kd.int .u8) _ _ (some ad501) l0.length l0 := (Kd.V_at (base := w.heap.size) HO_0.out).2.2; have hcut29 := cut_to (P := Tryz.prog) 35 5 .i64 Tryz.underlying35 hi029 (some ad501) l0.length c0 (ji23) (of_decide_eq_true (by first | (with_reducible assumption) | assumption)) q29 hroom29; have hr29 := Kd.F_take (m := ((ji23) : Int).toNat) hC29 (by omega); have hy29 : y502.length = ((ji23) : Int).toNat := (by rw [Ny502.out, List.length_take]; omega); rw [← Ny502.out] at hr29; rw [← hy29] at hcut29; have HO506 := am (show Kd.V (Kd.int .u8) 5 _ w.heap.size _ (.slice (some ad501) y502.length c0) y502 from Kd.V_mk (by omega) hr29); have HC506 := am (show y502.length ≤ c0 from by omega); clear hr29 hC29 hroom29 hi029 hsz29; have KY29 := am hy29; clear hy29; replace q29 := eq_true q29
        go_wp2
        go_ret
        exact ⟨_, by first | rfl | (simp [errW_none, errW_some] <;> rfl) | (simp only [← hji23]; first | rfl | (simp [errW_none, errW_some] <;> rfl)) | (simp [*, errW_none, errW_some] <;> rfl), by (with_reducible repeat (first | apply Kd.V_alloc | apply Kd.V_drewN | apply Kd.V_drew)); exact HO506.out, by repeat (first | (with_reducible first | exact HB.out | apply bA | apply bN | apply bD) | exact HB.out)⟩
       rw [if_neg c28] at H
       exact absurd H (by simp)
      rw [if_neg c26] at H; have c26b0 : ((rd l0 (ji23)) == 13) = false := beq_eq_false_iff_ne.mpr c26; have c26b1 : ((rd l0 (ji23)) != 13) = true := bne_iff_ne.mpr c26; obtain rfl := Option.some.inj H; have p501 : 0 ≤ ((ji23) : Int) := of_decide_eq_true (by first | (with_reducible assumption) | assumption); have q501 : (ji23) < (l0.length : Int) := of_decide_eq_true (by first | (with_reducible assumption) | assumption); obtain ⟨ad501, e501, hx501_0⟩ := Kd.at_int (Kd.V_reads' HO_0.out).2.2 (ji23) p501 q501
      cases e501
      replace p501 := eq_true p501; replace q501 := eq_true q501
      go_wp2
      go_ret
      exact ⟨_, by first | rfl | (simp [errW_none, errW_some] <;> rfl) | (simp only [← hji23]; first | rfl | (simp [errW_none, errW_some] <;> rfl)) | (simp [*, errW_none, errW_some] <;> rfl), by (with_reducible repeat (first | apply Kd.V_alloc | apply Kd.V_drewN | apply Kd.V_drew)); exact HO_0.out, by repeat (first | (with_reducible first | exact HB.out | apply bA | apply bN | apply bD) | exact HB.out)⟩
     rw [if_neg c25] at H
     exact absurd H (by simp)
    rw [if_neg c24] at H
    exact absurd H (by simp)
   rw [if_neg c22] at H; have c22b0 : decide (0 < (l0.length : Int)) = false := decide_eq_false c22; have c22b1 : decide (0 < l0.length) = false := decide_eq_false (by omega); clear c22; obtain rfl := Option.some.inj H
   go_wp2
   go_ret
   exact ⟨_, by first | rfl | (simp [errW_none, errW_some] <;> rfl) | (simp [*, errW_none, errW_some] <;> rfl), by (with_reducible repeat (first | apply Kd.V_alloc | apply Kd.V_drewN | apply Kd.V_drew)); exact HO_0.out, by repeat (first | (with_reducible first | exact HB.out | apply bA | apply bN | apply bD) | exact HB.out)⟩

/-! ### letterboxref9_Split: function 72 -/
def letterboxref9_Split.l0 : Nat → List Int → List (List Int) → Int → Option ((List (List Int)))
 | 0, _, _, _ => none
 | k + 1, x0, x3, x4 => if x4 < (x0.length : Int) then ((letterboxref9_next.f k x0 x4).bind fun t507 => (if 0 ≤ x4 then (if x4 ≤ t507 then (if t507 ≤ (x0.length : Int) then ((letterboxref9_Text.f k ((x0.take (t507 : Int).toNat).drop (x4 : Int).toNat)).bind fun t513 => (if x3.length < 5864062014805 then (letterboxref9_Split.l0 k x0 (x3 ++ [t513]) t507) else (none))) else (none)) else (none)) else (none))) else (some x3)
def letterboxref9_Split.f (k : Nat) (l0 : List Int) : Option ((List (List Int))) := letterboxref9_Split.l0 k l0 ([] : List (List Int)) 0
set_option maxHeartbeats 8000000 in
set_option maxRecDepth 100000 in
theorem letterboxref9_Split.calls (k : Nat) (P0_ : Nat → Prop) (A0 : Option Addr) (c0 : Nat) (l0 : List Int) (r : List (List Int)) (w : World) (hs0 : Kd.V (Kd.int .u8) 5 w w.heap.size (fun k_ => P0_ k_) (.slice A0 l0.length c0) l0) (h : letterboxref9_Split.f k l0 = some r) :
  Calls Tryz.prog 72 #[.slice A0 l0.length c0] w fun e w' => ∃ v0_ : Value, e = .returned (v0_) ∧ Kd.N (Kd.slice 5 (Kd.int .u8)) 35 w' w.heap.size (fun k_ => (P0_ k_ ∨ w.heap.size ≤ k_)) v0_ r ∧ Below w.heap.size w w' := by
 have HO0 := am (show Kd.V (Kd.int .u8) 5 w w.heap.size (fun k_ => (P0_ k_ ∨ w.heap.size ≤ k_)) (.slice A0 l0.length c0) l0 from Kd.V_mono hs0 (fun k_ hk => .inl hk)); have HB := am (Below.refl w.heap.size w); have H : (letterboxref9_Split.l0 k l0 ([] : List (List Int)) 0) = some r := h; clear h; have H' := am H; clear H
 go_enter Tryz.func72, Tryz.ntmps72
 go_wp2
 go_loopg [3, 4] k (fun kq v3 v4 w' => ∃ (x3_1 : List (List Int)) (x4_1 : Int), v4 = .int .i64 x4_1 ∧ Aside0 (letterboxref9_Split.l0 kq l0 x3_1 x4_1 = some r) ∧ Aside0 (kq ≤ k) ∧ Aside0 (Kd.V (Kd.int .u8) 5 w' w.heap.size (fun k_ => (P0_ k_ ∨ w.heap.size ≤ k_) ∧ some k_ ≠ (v3 : Value).ownBlock) (.slice A0 l0.length c0) l0) ∧ Aside0 (Kd.N (Kd.slice 5 (Kd.int .u8)) 35 w' w.heap.size (fun k_ => (P0_ k_ ∨ w.heap.size ≤ k_)) v3 x3_1) ∧ Aside0 (Below w.heap.size w w'))
 case atStart => exact ⟨(([] : List (List Int))), (0), (by first | rfl | (simp; done) | (simp [*]; done)), H', ⟨Nat.le_refl _⟩, ⟨by (with_reducible repeat (first | apply Kd.V_alloc | apply Kd.V_drewN | apply Kd.V_drew)); exact Kd.V_mono HO0.out (fun _ hk => ⟨hk, (by simp [Value.ownBlock])⟩)⟩, ⟨by first | exact Kd.S_nil _ _ _ _ _ | exact Kd.N_nil _ _ _ _ _ | exact Kd.V_nil _ _ _ _ _ | exact Kd.Q_nil _ _ _ _ _ | exact Kd.R_nil _ _ _ _ _⟩, ⟨by repeat (first | (with_reducible first | exact HB.out | apply bA | apply bN | apply bD) | exact HB.out)⟩⟩
 case round =>
  clear H'; obtain ⟨x3_1, x4_1, rfl, HA, HK1, HO_0, HO_3, HB⟩ := hrel
  cases gk with
  | zero => exact absurd HA.out (by simp [letterboxref9_Split.l0])
  | succ k1 =>
   have H := HA.out; clear HA; simp only [letterboxref9_Split.l0] at H
   by_cases c2 : x4_1 < (l0.length : Int)
   ·rw [if_pos c2] at H; have c2b0 : decide (x4_1 < (l0.length : Int)) = true := decide_eq_true c2; clear c2; replace H := Option.bind_eq_some_iff.mp H; obtain ⟨t507, A30, H⟩ := H; (try dsimp only at H); have A3 := am A30; clear A30
    by_cases c4 : 0 ≤ x4_1
    ·rw [if_pos c4] at H; have c4b0 := eq_true c4; have c4b1 : decide (0 ≤ x4_1) = true := decide_eq_true c4; clear c4
     by_cases c5 : x4_1 ≤ t507
     ·rw [if_pos c5] at H; have c5b0 := eq_true c5; have c5b1 : decide (x4_1 ≤ t507) = true := decide_eq_true c5; clear c5
      by_cases c6 : t507 ≤ (l0.length : Int)
      ·rw [if_pos c6] at H; have c6b0 := eq_true c6; have c6b1 : decide (t507 ≤ (l0.length : Int)) = true := decide_eq_true c6; clear c6; obtain ⟨y508, hy508⟩ : ∃ y_ : List Int, y_ = ((l0.take (t507 : Int).toNat).drop (x4_1 : Int).toNat) := ⟨_, rfl⟩
       replace H : ((letterboxref9_Text.f k1 y508).bind fun t513 => (if x3_1.length < 5864062014805 then (letterboxref9_Split.l0 k1 l0 (x3_1 ++ [t513]) t507) else (none))) = some r := by first | (rw [hy508]; with_reducible exact H) | (have H2_ := (Option.bind_some _ _).symm.trans H; rw [hy508]; with_reducible exact H2_) | (have H2_ := (Option.bind_some _ _).symm.trans H; with_reducible exact H2_) | with_reducible exact H | (rw [hy508]; exact H) | exact H
       have Ny508 := am hy508; clear hy508; replace H := Option.bind_eq_some_iff.mp H; obtain ⟨t513, A70, H⟩ := H; replace H : (if x3_1.length < 5864062014805 then (letterboxref9_Split.l0 k1 l0 (x3_1 ++ [t513]) t507) else (none)) = some r := H; have A7 := am A70; clear A70
       by_cases c8 : x3_1.length < 5864062014805
       ·rw [if_pos c8] at H; have LMc8 := am c8; clear c8; obtain ⟨y516, hy516⟩ : ∃ y_ : List (List Int), y_ = (x3_1 ++ [t513]) := ⟨_, rfl⟩
        replace H : (letterboxref9_Split.l0 k1 l0 y516 t507) = some r := by first | (rw [hy516]; with_reducible exact H) | (have H2_ := (Option.bind_some _ _).symm.trans H; rw [hy516]; with_reducible exact H2_) | (have H2_ := (Option.bind_some _ _).symm.trans H; with_reducible exact H2_) | with_reducible exact H | (rw [hy516]; exact H) | exact H
        have Ny516 := am hy516; clear hy516; have H' := am H; clear H
        go_wp2_with (first | ((with_reducible refine gate_callee (f := 95) rfl ?_); refine goesL_ (some 12) rfl rfl Tryz.func95 (by kernel_rfl) rfl #[.slice A0 l0.length c0, .int .i64 x4_1] rfl (by (try simp only [List.map_toArray, List.map_cons, List.map_nil]); first | done | rfl | (simp only [List.length_drop, List.length_take]; rfl)) ?_; (with_reducible refine (letterboxref9_next.calls k1 _ _ l0 x4_1 t507 _ ?side1 ?side2 A3.out).mono ?_); (case side1 => repeat (first | exact (Kd.V_reads' HO_0.out).2.2 | (with_reducible refine Kd.C_alloc ?_ _) | (with_reducible refine Kd.C_drewN ?_ _) | (with_reducible refine Kd.C_drew ?_))); (case side2 => exact (Kd.V_reads' HO_0.out).2.1); rintro e w9 ⟨rfl, hb⟩; refine ⟨_, rfl, ?_⟩; have n0_ := am (Kd.V_below (by (with_reducible repeat (first | apply Kd.V_alloc | apply Kd.V_drewN | apply Kd.V_drew)); exact HO_0.out) hb); have n1_ := am (Kd.N_below (by (with_reducible repeat (first | apply Kd.N_alloc | apply Kd.N_drewN | apply Kd.N_drew)); exact HO_3.out) hb); have n2_ := am (below_step (by repeat (first | (with_reducible first | exact HB.out | apply bA | apply bN | apply bD) | exact HB.out)) hb); clear HO_0 HO_3 HB; have HO_0 := n0_; have HO_3 := n1_; have HB := n2_; clear n0_ n1_ n2_; (try clear hb); (try clear hb2); (try clear hk); (try clear hi); have q10 : (t507 : Int) ≤ ((l0.length : Int) : Int) := of_decide_eq_true (by first | (with_reducible assumption) | assumption); obtain ⟨i010, hi010, _, hsz10, _⟩ := info_parts info5; have hroom10 : l0.length ≤ c0 := (Kd.V_reads' HO_0.out).2.1; have hC10 : Kd.F (Kd.int .u8) _ _ A0 l0.length l0 := (Kd.V_at (base := w.heap.size) HO_0.out).2.2; have ql10 : (x4_1 : Int) ≤ (t507 : Int) := of_decide_eq_true (by first | (with_reducible assumption) | assumption); have q010 : (0 : Int) ≤ (x4_1 : Int) := of_decide_eq_true (by first | (with_reducible assumption) | assumption); have hcut10 := cut_mid (P := Tryz.prog) 35 5 .i64 .i64 Tryz.underlying35 hi010 1 hsz10 A0 l0.length c0 x4_1 t507 q010 ql10 q10 hroom10; have hr10 := Kd.F_mid (lo := (x4_1 : Int).toNat) (hi := (t507 : Int).toNat) (c := c0) hC10 (by omega) (by omega) hroom10; obtain ⟨A10, hA10⟩ : ∃ A1, A1 = (if c0 = (x4_1 : Int).toNat then A0 else (A0 : Option Addr).map (·.add ((x4_1 : Int).toNat * 1))) := ⟨_, rfl⟩; obtain ⟨c10, hc10⟩ : ∃ c1, c1 = c0 - (x4_1 : Int).toNat := ⟨_, rfl⟩; have hy10 : y508.length = (t507 : Int).toNat - (x4_1 : Int).toNat := (by rw [Ny508.out, List.length_drop, List.length_take] <;> omega); rw [show ((l0).take (t507 : Int).toNat).drop (x4_1 : Int).toNat = y508 from Ny508.out.symm] at hr10; replace hr10 : Kd.F (Kd.int .u8) _ _ A10 y508.length y508 := (by rw [hA10]; exact hr10); rw [← hy10, ← hA10, ← hc10] at hcut10; have HO512 := am (show Kd.V (Kd.int .u8) 5 _ w.heap.size _ (.slice A10 y508.length c10) y508 from Kd.V_mk (by rw [hy10, hc10]; exact Nat.sub_le_sub_right (Nat.le_trans (by omega) hroom10) _) hr10); have HC512 := am (show y508.length ≤ c10 from by rw [hy10, hc10]; exact Nat.sub_le_sub_right (Nat.le_trans (by omega) hroom10) _); clear hr10 hC10 hroom10 hi010 hsz10 hc10; have KY10 := am hy10; have KA10 := am hA10; clear hy10 hA10; replace q10 := eq_true q10) | ((with_reducible refine gate_callee (f := 96) rfl ?_); refine goesL_ (some 18) rfl rfl Tryz.func96 (by kernel_rfl) rfl #[.slice A10 y508.length c10] rfl (by (try simp only [List.map_toArray, List.map_cons, List.map_nil]); first | done | rfl | (simp only [List.length_drop, List.length_take]; rfl)) ?_; (with_reducible refine (letterboxref9_Text.calls k1 (fun k_ => ((P0_ k_ ∨ w.heap.size ≤ k_) ∧ some k_ ≠ (u3 : Value).ownBlock)) _ _ y508 t513 _ ?side1 A7.out).mono ?_); (case side1 => exact HO512.out); rintro e w11 ⟨v514, rfl, ho0, hb⟩; refine ⟨_, rfl, ?_⟩; have n0_ := am (Kd.V_below (by (with_reducible repeat (first | apply Kd.V_alloc | apply Kd.V_drewN | apply Kd.V_drew)); exact HO_0.out) hb); have n1_ := am (Kd.N_below (by (with_reducible repeat (first | apply Kd.N_alloc | apply Kd.N_drewN | apply Kd.N_drew)); exact HO_3.out) hb); have n2_ := am (Kd.V_below (by (with_reducible repeat (first | apply Kd.V_alloc | apply Kd.V_drewN | apply Kd.V_drew)); exact HO512.out) hb); have n3_ := am (Kd.V_lower (Kd.V_mono (ok' := fun k_ => (P0_ k_ ∨ w.heap.size ≤ k_) ∧ some k_ ≠ (u3 : Value).ownBlock) ho0 (fun k_ hk_ => ⟨Or.elim hk_ (fun hs_ => hs_.1) (fun hn_ => (.inr (Nat.le_trans (below_size (by repeat (first | (with_reducible first | exact HB.out | apply bA | apply bN | apply bD) | exact HB.out))) hn_))), Or.elim hk_ (fun hs_ => hs_.2) (fun hn_ => (Kd.fresh' (Kd.N_lt (by (with_reducible repeat (first | apply Kd.N_alloc | apply Kd.N_drewN | apply Kd.N_drew)); exact HO_3.out)) k_ hn_))⟩)) (below_size (by repeat (first | (with_reducible first | exact HB.out | apply bA | apply bN | apply bD) | exact HB.out)))); have n4_ := am (below_step (by repeat (first | (with_reducible first | exact HB.out | apply bA | apply bN | apply bD) | exact HB.out)) hb); clear HO_0 HO_3 HO512 HB; have HO_0 := n0_; have HO_3 := n1_; have HO512 := n2_; have HO515 := n3_; have HB := n4_; clear n0_ n1_ n2_ n3_ n4_; (try clear hb); (try clear hb2); (try clear hk); (try clear hi); (try clear ho0); obtain ⟨Ao13, co13, eo13⟩ := Kd.V_slice HO515.out; subst eo13) | ((with_reducible refine gate_builtin (b := .append) (xs := #[.tmp 13, .tmp 19]) rfl ?_); at_builtin; refine Kd.N_append (Kd.slice 5 (Kd.int .u8)) (w0 := w) w.heap.size rfl (.tmp 13) (.tmp 19) 90 35 (.slice none 0 0) 24 rfl Tryz.underlying90 info35 rfl (by decide) (by omega) u3 x3_1 t513 [.slice Ao13 t513.length co13] (fun k_ => (P0_ k_ ∨ w.heap.size ≤ k_)) (fun k_ => ((fun k_ => (P0_ k_ ∨ w.heap.size ≤ k_))) k_ ∧ some k_ ≠ (u3 : Value).ownBlock) rfl rfl ?aP (fun _ hk => hk) ?aF ?aO ?aB ?aS ?aL ?_; (case aP => exact (Kd.FK_slice_mk (Kd.V_reads' (Kd.V_mono (ok' := (fun k_ => ((fun k_ => (P0_ k_ ∨ w.heap.size ≤ k_))) k_ ∧ some k_ ≠ (u3 : Value).ownBlock)) (HO515.out) (fun k_ hk => ⟨hk.1, hk.2⟩))).2.1 (Kd.V_F (Kd.V_mono (ok' := (fun k_ => ((fun k_ => (P0_ k_ ∨ w.heap.size ≤ k_))) k_ ∧ some k_ ≠ (u3 : Value).ownBlock)) (HO515.out) (fun k_ hk => ⟨hk.1, hk.2⟩))))); (case aB => exact (by repeat (first | (with_reducible first | exact HB.out | apply bA | apply bN | apply bD) | exact HB.out))); (case aF => exact (fun k_ hk => (.inr (Nat.le_trans (below_size (by repeat (first | (with_reducible first | exact HB.out | apply bA | apply bN | apply bD) | exact HB.out))) hk)))); (case aO => exact (by (with_reducible repeat (first | apply Kd.N_alloc | apply Kd.N_drewN | apply Kd.N_drew)); exact HO_3.out)); (case aS => exact (below_size (by repeat (first | (with_reducible first | exact HB.out | apply bA | apply bN | apply bD) | exact HB.out)))); (case aL => have := LMc8.out; omega); intro v517 w12 ho hb hg hat; (first | rw [← Ny516.out] at ho | (simp only [Int.reduceToNat] at ho; rw [← Ny516.out] at ho)); have n0_ := am (Kd.V_afterv (ok := (fun k_ => (P0_ k_ ∨ w.heap.size ≤ k_))) (by (with_reducible repeat (first | apply Kd.V_alloc | apply Kd.V_drewN | apply Kd.V_drew)); exact HO_0.out) hg hat); have n1_ := am (Kd.V_afterv (ok := (fun k_ => (P0_ k_ ∨ w.heap.size ≤ k_))) (by (with_reducible repeat (first | apply Kd.V_alloc | apply Kd.V_drewN | apply Kd.V_drew)); exact HO512.out) hg hat); have n2_ := am (Kd.V_afterv (ok := (fun k_ => (P0_ k_ ∨ w.heap.size ≤ k_))) (by (with_reducible repeat (first | apply Kd.V_alloc | apply Kd.V_drewN | apply Kd.V_drew)); exact HO515.out) hg hat); have n3_ := am (hb); have n4_ := am (ho); clear HO_0 HO512 HO515 HB HO_3; have HO_0 := n0_; have HO512 := n1_; have HO515 := n2_; have HB := n3_; have HO518 := n4_; clear n0_ n1_ n2_ n3_ n4_; clear ho hb hg hat))
        go_roundg k1
        case measure => have := HK1.out; omega
        case rel => exact ⟨(y516), (t507), (by first | rfl | (simp; done) | (simp [*]; done)), H', ⟨by have := HK1.out; omega⟩, ⟨by (with_reducible repeat (first | apply Kd.V_alloc | apply Kd.V_drewN | apply Kd.V_drew)); exact HO_0.out⟩, ⟨by (with_reducible repeat (first | apply Kd.N_alloc | apply Kd.N_drewN | apply Kd.N_drew)); exact HO518.out⟩, ⟨by repeat (first | (with_reducible first | exact HB.out | apply bA | apply bN | apply bD) | exact HB.out)⟩⟩
       rw [if_neg c8] at H
       exact absurd H (by simp)
      rw [if_neg c6] at H
      exact absurd H (by simp)
     rw [if_neg c5] at H
     exact absurd H (by simp)
    rw [if_neg c4] at H
    exact absurd H (by simp)
   rw [if_neg c2] at H; have c2b0 : decide (x4_1 < (l0.length : Int)) = false := decide_eq_false c2; clear c2; obtain rfl := Option.some.inj H
   go_wp2
   go_ret
   exact ⟨_, by first | rfl | (simp [errW_none, errW_some] <;> rfl) | (simp [*, errW_none, errW_some] <;> rfl), by (with_reducible repeat (first | apply Kd.N_alloc | apply Kd.N_drewN | apply Kd.N_drew)); exact HO_3.out, by repeat (first | (with_reducible first | exact HB.out | apply bA | apply bN | apply bD) | exact HB.out)⟩

/-! ### letterboxref9_End: function 97 -/
def letterboxref9_End.l0 : Nat → List Int → Int → Option (Int)
 | 0, _, _ => none
 | k + 1, x0, x3 => if x3 < (x0.length : Int) then ((letterboxref9_next.f k x0 x3).bind fun t519 => (if 0 ≤ x3 then (if x3 ≤ t519 then (if t519 ≤ (x0.length : Int) then ((letterboxref9_Text.f k ((x0.take (t519 : Int).toNat).drop (x3 : Int).toNat)).bind fun t521 => (if (t521.length : Int) = 0 then (some t519) else (letterboxref9_End.l0 k x0 t519))) else (none)) else (none)) else (none))) else (some (x0.length : Int))
def letterboxref9_End.f (k : Nat) (l0 : List Int) : Option (Int) := letterboxref9_End.l0 k l0 0
set_option maxHeartbeats 8000000 in
set_option maxRecDepth 100000 in
theorem letterboxref9_End.calls (k : Nat) (A0 : Option Addr) (c0 : Nat) (l0 : List Int) (r : Int) (w : World) (hr0 : Kd.C (Kd.int .u8) w A0 l0.length l0) (hc0 : l0.length ≤ c0) (h : letterboxref9_End.f k l0 = some r) :
  Calls Tryz.prog 97 #[.slice A0 l0.length c0] w fun e w' => e = .returned (.int .i64 r) ∧ Below w.heap.size w w' := by
 have HR0 := am hr0; have HC0 := am hc0; clear hr0 hc0; have HB := am (Below.refl w.heap.size w); have H : (letterboxref9_End.l0 k l0 0) = some r := h; clear h; have H' := am H; clear H
 go_enter Tryz.func97, Tryz.ntmps97
 go_wp2
 go_loopg [3] k (fun kq v3 w' => ∃ (x3_1 : Int), v3 = .int .i64 x3_1 ∧ Aside0 (letterboxref9_End.l0 kq l0 x3_1 = some r) ∧ Aside0 (kq ≤ k) ∧ Aside0 (Below w.heap.size w w'))
 case atStart => exact ⟨(0), (by first | rfl | (simp; done) | (simp [*]; done)), H', ⟨Nat.le_refl _⟩, ⟨by repeat (first | (with_reducible first | exact HB.out | apply bA | apply bN | apply bD) | exact HB.out)⟩⟩
 case round =>
  clear H'; obtain ⟨x3_1, rfl, HA, HK1, HB⟩ := hrel
  cases gk with
  | zero => exact absurd HA.out (by simp [letterboxref9_End.l0])
  | succ k1 =>
   have H := HA.out; clear HA; simp only [letterboxref9_End.l0] at H
   by_cases c2 : x3_1 < (l0.length : Int)
   ·rw [if_pos c2] at H; have c2b0 : decide (x3_1 < (l0.length : Int)) = true := decide_eq_true c2; clear c2; replace H := Option.bind_eq_some_iff.mp H; obtain ⟨t519, A30, H⟩ := H; (try dsimp only at H); have A3 := am A30; clear A30
    by_cases c4 : 0 ≤ x3_1
    ·rw [if_pos c4] at H; have c4b0 := eq_true c4; have c4b1 : decide (0 ≤ x3_1) = true := decide_eq_true c4; clear c4
     by_cases c5 : x3_1 ≤ t519
     ·rw [if_pos c5] at H; have c5b0 := eq_true c5; have c5b1 : decide (x3_1 ≤ t519) = true := decide_eq_true c5; clear c5
      by_cases c6 : t519 ≤ (l0.length : Int)
      ·rw [if_pos c6] at H; have c6b0 := eq_true c6; have c6b1 : decide (t519 ≤ (l0.length : Int)) = true := decide_eq_true c6; clear c6; replace H := Option.bind_eq_some_iff.mp H; obtain ⟨t521, A70, H⟩ := H; replace H : (if (t521.length : Int) = 0 then (some t519) else (letterboxref9_End.l0 k1 l0 t519)) = some r := H; have A7 := am A70; clear A70
       by_cases c8 : (t521.length : Int) = 0
       ·rw [if_pos c8] at H; have c8b0 : ((t521.length : Int) == 0) = true := beq_iff_eq.mpr c8; have c8b1 : ((t521.length : Int) != 0) = false := bne_eq_false_iff_eq.mpr c8; clear c8; obtain rfl := Option.some.inj H
        go_wp2_with (first | ((with_reducible refine gate_callee (f := 95) rfl ?_); refine goesL_ (some 11) rfl rfl Tryz.func95 (by kernel_rfl) rfl #[.slice A0 l0.length c0, .int .i64 x3_1] rfl (by (try simp only [List.map_toArray, List.map_cons, List.map_nil]); first | done | rfl | (simp only [List.length_drop, List.length_take]; rfl)) ?_; (with_reducible refine (letterboxref9_next.calls k1 _ _ l0 x3_1 t519 _ ?side1 ?side2 A3.out).mono ?_); (case side1 => repeat (first | exact (Kd.C_below HR0.out HB.out) | (with_reducible refine Kd.C_alloc ?_ _) | (with_reducible refine Kd.C_drewN ?_ _) | (with_reducible refine Kd.C_drew ?_))); (case side2 => exact HC0.out); rintro e w9 ⟨rfl, hb⟩; refine ⟨_, rfl, ?_⟩; have n0_ := am (below_step (by repeat (first | (with_reducible first | exact HB.out | apply bA | apply bN | apply bD) | exact HB.out)) hb); clear HB; have HB := n0_; clear n0_; (try clear hb); (try clear hb2); (try clear hk); (try clear hi); obtain ⟨i010, hi010, _, hsz10, _⟩ := info_parts info5; obtain ⟨A10, hcut10, hA10, hC10⟩ := print_mid_of (P := Tryz.prog) (Value.int .u8) 0 35 5 .i64 .i64 Tryz.underlying35 hi010 hsz10 A0 c0 l0 x3_1 t519 (of_decide_eq_true (by first | (with_reducible assumption) | assumption)) (by first | omega | exact of_decide_eq_true (by first | (with_reducible assumption) | assumption)) (of_decide_eq_true (by first | (with_reducible assumption) | assumption)) HC0.out; have HR520 := am (Kd.C_of_reads (h1 := fun _ => rfl) (hA10 _ (Kd.reads_of_C HR0.out))); have HC520 := am hC10; clear hA10 hC10 hi010 hsz10) | ((with_reducible refine gate_callee (f := 96) rfl ?_); refine goesL_ (some 16) rfl rfl Tryz.func96 (by kernel_rfl) rfl #[.slice A10 ((l0.take (t519 : Int).toNat).drop (x3_1 : Int).toNat).length (c0 - x3_1.toNat)] rfl (by (try simp only [List.map_toArray, List.map_cons, List.map_nil]); first | done | (rw [show ((l0.take (t519 : Int).toNat).drop (x3_1 : Int).toNat).length = (t519.toNat - x3_1.toNat) from (by rw [List.length_drop, List.length_take]; have h_ : (t519 : Int) ≤ (l0.length : Int) := of_decide_eq_true (by first | (with_reducible assumption) | assumption); omega)] <;> rfl) | rfl | (simp only [List.length_drop, List.length_take]; rfl)) ?_; (with_reducible refine (letterboxref9_Text.calls k1 (fun k_ => k_ < w.heap.size) _ _ ((l0.take (t519 : Int).toNat).drop (x3_1 : Int).toNat) t521 _ ?side1 A7.out).mono ?_); (case side1 => exact Kd.V_mk HC520.out (Kd.F_below (Kd.C_F (Kd.heap_int .u8) HR520.out) (by repeat (first | (with_reducible first | exact HB.out | apply bA | apply bN | apply bD) | exact HB.out)))); rintro e w11 ⟨v522, rfl, ho0, hb⟩; refine ⟨_, rfl, ?_⟩; have n0_ := am (Kd.V_lower (Kd.V_mono (ok' := fun k_ => True) ho0 (fun k_ hk_ => trivial)) (below_size (by repeat (first | (with_reducible first | exact HB.out | apply bA | apply bN | apply bD) | exact HB.out)))); have n1_ := am (below_step (by repeat (first | (with_reducible first | exact HB.out | apply bA | apply bN | apply bD) | exact HB.out)) hb); clear HB; have HO523 := n0_; have HB := n1_; clear n0_ n1_; (try clear hb); (try clear hb2); (try clear hk); (try clear hi); (try clear ho0); obtain ⟨Ao12, co12, eo12⟩ := Kd.V_slice HO523.out; subst eo12))
        go_ret
        exact ⟨by first | rfl | (simp [errW_none, errW_some] <;> rfl) | (simp [*, errW_none, errW_some] <;> rfl), by repeat (first | (with_reducible first | exact HB.out | apply bA | apply bN | apply bD) | exact HB.out)⟩
       rw [if_neg c8] at H; have c8b0 : ((t521.length : Int) == 0) = false := beq_eq_false_iff_ne.mpr c8; have c8b1 : ((t521.length : Int) != 0) = true := bne_iff_ne.mpr c8
       have c8b2 : ¬ (t521 = []) := fun h_ => c8 (by rw [h_]; rfl)
       have H' := am H; clear H
       go_wp2_with (first | ((with_reducible refine gate_callee (f := 95) rfl ?_); refine goesL_ (some 11) rfl rfl Tryz.func95 (by kernel_rfl) rfl #[.slice A0 l0.length c0, .int .i64 x3_1] rfl (by (try simp only [List.map_toArray, List.map_cons, List.map_nil]); first | done | rfl | (simp only [List.length_drop, List.length_take]; rfl)) ?_; (with_reducible refine (letterboxref9_next.calls k1 _ _ l0 x3_1 t519 _ ?side1 ?side2 A3.out).mono ?_); (case side1 => repeat (first | exact (Kd.C_below HR0.out HB.out) | (with_reducible refine Kd.C_alloc ?_ _) | (with_reducible refine Kd.C_drewN ?_ _) | (with_reducible refine Kd.C_drew ?_))); (case side2 => exact HC0.out); rintro e w13 ⟨rfl, hb⟩; refine ⟨_, rfl, ?_⟩; have n0_ := am (below_step (by repeat (first | (with_reducible first | exact HB.out | apply bA | apply bN | apply bD) | exact HB.out)) hb); clear HB; have HB := n0_; clear n0_; (try clear hb); (try clear hb2); (try clear hk); (try clear hi); obtain ⟨i014, hi014, _, hsz14, _⟩ := info_parts info5; obtain ⟨A14, hcut14, hA14, hC14⟩ := print_mid_of (P := Tryz.prog) (Value.int .u8) 0 35 5 .i64 .i64 Tryz.underlying35 hi014 hsz14 A0 c0 l0 x3_1 t519 (of_decide_eq_true (by first | (with_reducible assumption) | assumption)) (by first | omega | exact of_decide_eq_true (by first | (with_reducible assumption) | assumption)) (of_decide_eq_true (by first | (with_reducible assumption) | assumption)) HC0.out; have HR520 := am (Kd.C_of_reads (h1 := fun _ => rfl) (hA14 _ (Kd.reads_of_C HR0.out))); have HC520 := am hC14; clear hA14 hC14 hi014 hsz14) | ((with_reducible refine gate_callee (f := 96) rfl ?_); refine goesL_ (some 16) rfl rfl Tryz.func96 (by kernel_rfl) rfl #[.slice A14 ((l0.take (t519 : Int).toNat).drop (x3_1 : Int).toNat).length (c0 - x3_1.toNat)] rfl (by (try simp only [List.map_toArray, List.map_cons, List.map_nil]); first | done | (rw [show ((l0.take (t519 : Int).toNat).drop (x3_1 : Int).toNat).length = (t519.toNat - x3_1.toNat) from (by rw [List.length_drop, List.length_take]; have h_ : (t519 : Int) ≤ (l0.length : Int) := of_decide_eq_true (by first | (with_reducible assumption) | assumption); omega)] <;> rfl) | rfl | (simp only [List.length_drop, List.length_take]; rfl)) ?_; (with_reducible refine (letterboxref9_Text.calls k1 (fun k_ => k_ < w.heap.size) _ _ ((l0.take (t519 : Int).toNat).drop (x3_1 : Int).toNat) t521 _ ?side1 A7.out).mono ?_); (case side1 => exact Kd.V_mk HC520.out (Kd.F_below (Kd.C_F (Kd.heap_int .u8) HR520.out) (by repeat (first | (with_reducible first | exact HB.out | apply bA | apply bN | apply bD) | exact HB.out)))); rintro e w15 ⟨v522, rfl, ho0, hb⟩; refine ⟨_, rfl, ?_⟩; have n0_ := am (Kd.V_lower (Kd.V_mono (ok' := fun k_ => True) ho0 (fun k_ hk_ => trivial)) (below_size (by repeat (first | (with_reducible first | exact HB.out | apply bA | apply bN | apply bD) | exact HB.out)))); have n1_ := am (below_step (by repeat (first | (with_reducible first | exact HB.out | apply bA | apply bN | apply bD) | exact HB.out)) hb); clear HB; have HO523 := n0_; have HB := n1_; clear n0_ n1_; (try clear hb); (try clear hb2); (try clear hk); (try clear hi); (try clear ho0); obtain ⟨Ao16, co16, eo16⟩ := Kd.V_slice HO523.out; subst eo16))
       go_roundg k1
       case measure => have := HK1.out; omega
       case rel => exact ⟨(t519), (by first | rfl | (simp; done) | (simp [*]; done)), H', ⟨by have := HK1.out; omega⟩, ⟨by repeat (first | (with_reducible first | exact HB.out | apply bA | apply bN | apply bD) | exact HB.out)⟩⟩
      rw [if_neg c6] at H
      exact absurd H (by simp)
     rw [if_neg c5] at H
     exact absurd H (by simp)
    rw [if_neg c4] at H
    exact absurd H (by simp)
   rw [if_neg c2] at H; have c2b0 : decide (x3_1 < (l0.length : Int)) = false := decide_eq_false c2; clear c2; obtain rfl := Option.some.inj H
   go_wp2
   go_ret
   exact ⟨by first | rfl | (simp [errW_none, errW_some] <;> rfl) | (simp [*, errW_none, errW_some] <;> rfl), by repeat (first | (with_reducible first | exact HB.out | apply bA | apply bN | apply bD) | exact HB.out)⟩

/-! ### letterboxref9_Head: function 73 -/
def letterboxref9_Head.f (k : Nat) (l0 : List Int) : Option (List Int) := (letterboxref9_End.f k l0).bind fun t524 => (if 0 ≤ t524 then (if t524 ≤ (l0.length : Int) then (some (l0.take (t524 : Int).toNat)) else (none)) else (none))
set_option maxHeartbeats 8000000 in
set_option maxRecDepth 100000 in
theorem letterboxref9_Head.calls (k : Nat) (P0_ : Nat → Prop) (A0 : Option Addr) (c0 : Nat) (l0 : List Int) (r : List Int) (w : World) (hs0 : Kd.V (Kd.int .u8) 5 w w.heap.size (fun k_ => P0_ k_) (.slice A0 l0.length c0) l0) (h : letterboxref9_Head.f k l0 = some r) :
  Calls Tryz.prog 73 #[.slice A0 l0.length c0] w fun e w' => ∃ v0_ : Value, e = .returned (v0_) ∧ Kd.V (Kd.int .u8) 5 w' w.heap.size (fun k_ => (P0_ k_ ∨ w.heap.size ≤ k_)) v0_ r ∧ Below w.heap.size w w' := by
 have HO0 := am (show Kd.V (Kd.int .u8) 5 w w.heap.size (fun k_ => (P0_ k_ ∨ w.heap.size ≤ k_)) (.slice A0 l0.length c0) l0 from Kd.V_mono hs0 (fun k_ hk => .inl hk)); have HB := am (Below.refl w.heap.size w); have H : ((letterboxref9_End.f k l0).bind fun t524 => (if 0 ≤ t524 then (if t524 ≤ (l0.length : Int) then (some (l0.take (t524 : Int).toNat)) else (none)) else (none))) = some r := h; clear h; replace H := Option.bind_eq_some_iff.mp H; obtain ⟨t524, A20, H⟩ := H; replace H : (if 0 ≤ t524 then (if t524 ≤ (l0.length : Int) then (some (l0.take (t524 : Int).toNat)) else (none)) else (none)) = some r := H; have A2 := am A20; clear A20
 by_cases c3 : 0 ≤ t524
 ·rw [if_pos c3] at H; have c3b0 := eq_true c3; have c3b1 : decide (0 ≤ t524) = true := decide_eq_true c3; clear c3
  by_cases c4 : t524 ≤ (l0.length : Int)
  ·rw [if_pos c4] at H; have c4b0 := eq_true c4; have c4b1 : decide (t524 ≤ (l0.length : Int)) = true := decide_eq_true c4; clear c4; obtain ⟨y525, hy525⟩ : ∃ y_ : List Int, y_ = (l0.take (t524 : Int).toNat) := ⟨_, rfl⟩
   replace H : (some y525) = some r := by first | (rw [hy525]; with_reducible exact H) | (have H2_ := (Option.bind_some _ _).symm.trans H; rw [hy525]; with_reducible exact H2_) | (have H2_ := (Option.bind_some _ _).symm.trans H; with_reducible exact H2_) | with_reducible exact H | (rw [hy525]; exact H) | exact H
   have Ny525 := am hy525; clear hy525; obtain rfl := Option.some.inj H
   go_enter Tryz.func73, Tryz.ntmps73
   go_wp2_with (first | ((with_reducible refine gate_callee (f := 97) rfl ?_); refine goesL_ (some 5) rfl rfl Tryz.func97 (by kernel_rfl) rfl #[.slice A0 l0.length c0] rfl (by (try simp only [List.map_toArray, List.map_cons, List.map_nil]); first | done | rfl | (simp only [List.length_drop, List.length_take]; rfl)) ?_; (with_reducible refine (letterboxref9_End.calls k _ _ l0 t524 _ ?side1 ?side2 A2.out).mono ?_); (case side1 => repeat (first | exact (Kd.V_reads' HO0.out).2.2 | (with_reducible refine Kd.C_alloc ?_ _) | (with_reducible refine Kd.C_drewN ?_ _) | (with_reducible refine Kd.C_drew ?_))); (case side2 => exact (Kd.V_reads' HO0.out).2.1); rintro e w5 ⟨rfl, hb⟩; refine ⟨_, rfl, ?_⟩; have n0_ := am (Kd.V_below (by (with_reducible repeat (first | apply Kd.V_alloc | apply Kd.V_drewN | apply Kd.V_drew)); exact HO0.out) hb); have n1_ := am (below_step (by repeat (first | (with_reducible first | exact HB.out | apply bA | apply bN | apply bD) | exact HB.out)) hb); clear HO0 HB; have HO0 := n0_; have HB := n1_; clear n0_ n1_; (try clear hb); (try clear hb2); (try clear hk); (try clear hi); have q6 : (t524 : Int) ≤ ((l0.length : Int) : Int) := of_decide_eq_true (by first | (with_reducible assumption) | assumption); obtain ⟨i06, hi06, _, hsz6, _⟩ := info_parts info5; have hroom6 : l0.length ≤ c0 := (Kd.V_reads' HO0.out).2.1; have hC6 : Kd.F (Kd.int .u8) _ _ A0 l0.length l0 := (Kd.V_at (base := w.heap.size) HO0.out).2.2; have hcut6 := cut_to (P := Tryz.prog) 35 5 .i64 Tryz.underlying35 hi06 A0 l0.length c0 t524 (of_decide_eq_true (by first | (with_reducible assumption) | assumption)) q6 hroom6; have hr6 := Kd.F_take (m := (t524 : Int).toNat) hC6 (by omega); have hy6 : y525.length = (t524 : Int).toNat := (by rw [Ny525.out, List.length_take]; omega); rw [← Ny525.out] at hr6; rw [← hy6] at hcut6; have HO529 := am (show Kd.V (Kd.int .u8) 5 _ w.heap.size _ (.slice A0 y525.length c0) y525 from Kd.V_mk (by omega) hr6); have HC529 := am (show y525.length ≤ c0 from by omega); clear hr6 hC6 hroom6 hi06 hsz6; have KY6 := am hy6; clear hy6; replace q6 := eq_true q6))
   go_ret
   exact ⟨_, by first | rfl | (simp [errW_none, errW_some] <;> rfl) | (simp [*, errW_none, errW_some] <;> rfl), by (with_reducible repeat (first | apply Kd.V_alloc | apply Kd.V_drewN | apply Kd.V_drew)); exact HO529.out, by repeat (first | (with_reducible first | exact HB.out | apply bA | apply bN | apply bD) | exact HB.out)⟩
  rw [if_neg c4] at H
  exact absurd H (by simp)
 rw [if_neg c3] at H
 exact absurd H (by simp)

/-! ### letterboxref9_blank: function 74 -/
def letterboxref9_blank.f (a0 : Int) : Option (Bool) := if a0 = 32 then (some true) else (some (a0 == 9))
set_option maxHeartbeats 8000000 in
set_option maxRecDepth 100000 in
theorem letterboxref9_blank.calls (a0 : Int) (r : Bool) (w : World) (h : letterboxref9_blank.f a0 = some r) :
  Calls Tryz.prog 74 #[.int .u8 a0] w fun e w' => e = .returned (.bool r) ∧ Drawn0 w w' := by
 have H : (if a0 = 32 then (some true) else (some (a0 == 9))) = some r := h; clear h
 by_cases c2 : a0 = 32
 ·rw [if_pos c2] at H; have c2b0 : (a0 == 32) = true := beq_iff_eq.mpr c2; have c2b1 : (a0 != 32) = false := bne_eq_false_iff_eq.mpr c2; clear c2; obtain rfl := Option.some.inj H
  go_enter Tryz.func74, Tryz.ntmps74
  go_wp2
  go_ret
  exact ⟨by first | rfl | (simp; done) | (simp [*]; done), by repeat (first | exact Drawn0.refl _ | apply Drawn0.step)⟩
 rw [if_neg c2] at H; have c2b0 : (a0 == 32) = false := beq_eq_false_iff_ne.mpr c2; have c2b1 : (a0 != 32) = true := bne_iff_ne.mpr c2; obtain rfl := Option.some.inj H
 go_enter Tryz.func74, Tryz.ntmps74
 go_wp2
 go_ret
 exact ⟨by first | rfl | (simp; done) | (simp [*]; done), by repeat (first | exact Drawn0.refl _ | apply Drawn0.step)⟩

/-! ### letterboxref9_Trim: function 75 -/
mutual
def letterboxref9_Trim.j1 : Nat → ByteArray → Option (ByteArray)
 | 0, _ => none
 | k + 1, x0 => letterboxref9_Trim.l1 k x0
def letterboxref9_Trim.l1 : Nat → ByteArray → Option (ByteArray)
 | 0, _ => none
 | k + 1, x0 => if (x0.size : Int) > 0 then (if 0 ≤ (wrap64 ((x0.size : Int) - 1)) then (if (wrap64 ((x0.size : Int) - 1)) < (x0.size : Int) then ((letterboxref9_blank.f (bt x0 (wrap64 ((x0.size : Int) - 1)))).bind fun t531 => (if t531 = true then (if (wrap64 ((x0.size : Int) - 1)) ≤ (x0.size : Int) then (letterboxref9_Trim.l1 k (x0.extract 0 ((wrap64 ((x0.size : Int) - 1)) : Int).toNat)) else (none)) else (some x0))) else (none)) else (none)) else (some x0)
def letterboxref9_Trim.l0 : Nat → ByteArray → Option (ByteArray)
 | 0, _ => none
 | k + 1, x0 => if (x0.size : Int) > 0 then (if 0 < (x0.size : Int) then ((letterboxref9_blank.f (bt x0 0)).bind fun t530 => (if t530 = true then (if 1 ≤ (x0.size : Int) then (letterboxref9_Trim.l0 k (x0.extract 1 x0.size)) else (none)) else (letterboxref9_Trim.j1 k x0))) else (none)) else (letterboxref9_Trim.j1 k x0)
end
def letterboxref9_Trim.f (k : Nat) (a0 : ByteArray) : Option (ByteArray) := letterboxref9_Trim.l0 k a0
set_option maxHeartbeats 8000000 in
set_option maxRecDepth 100000 in
theorem letterboxref9_Trim.calls (k : Nat) (a0 : ByteArray) (r : ByteArray) (w : World) (h : letterboxref9_Trim.f k a0 = some r) :
  Calls Tryz.prog 75 #[.string a0] w fun e w' => e = .returned (.string r) ∧ Drawn0 w w' := by
 have H : (letterboxref9_Trim.l0 k a0) = some r := h; clear h; have HC2 := am H; clear H
 go_enter Tryz.func75, Tryz.ntmps75
 go_upto_block 0 with (fail)
 go_cut [0] (fun v0 wc => ∃ (kq : Nat) (x0_1 : ByteArray), v0 = .string x0_1 ∧ Aside0 (letterboxref9_Trim.j1 kq x0_1 = some r) ∧ Aside0 (kq ≤ k) ∧ Drawn0 w wc)
 case first =>
  have H := HC2.out; clear HC2; have H' := am H; clear H
  go_wp2
  go_loopg [0] k (fun kq v0 w' => ∃ (x0_1 : ByteArray), v0 = .string x0_1 ∧ Aside0 (letterboxref9_Trim.l0 kq x0_1 = some r) ∧ Aside0 (kq ≤ k) ∧ Drawn0 w w')
  case atStart => exact ⟨(a0), (by first | rfl | (simp; done) | (simp [*]; done)), H', ⟨Nat.le_refl _⟩, by repeat (first | exact Drawn0.refl _ | apply Drawn0.step)⟩
  case round =>
   clear H'; (try clear p2); obtain ⟨x0_1, rfl, HA, HK1, ⟨m1, rfl⟩⟩ := hrel
   cases gk with
   | zero => exact absurd HA.out (by simp [letterboxref9_Trim.l0])
   | succ k1 =>
    have H := HA.out; clear HA; simp only [letterboxref9_Trim.l0] at H
    by_cases c3 : (x0_1.size : Int) > 0
    ·rw [if_pos c3] at H; have c3b0 : decide (0 < (x0_1.size : Int)) = true := decide_eq_true c3; have c3b1 : decide (0 < x0_1.size) = true := decide_eq_true (by omega); clear c3
     (first | rw [c3b0] | (simp only [i64_w, i32_w]; rw [c3b0]) | skip)
     by_cases c4 : 0 < (x0_1.size : Int)
     ·rw [if_pos c4] at H; have c4b0 : decide (0 < (x0_1.size : Int)) = true := decide_eq_true c4; have c4b1 : decide (0 < x0_1.size) = true := decide_eq_true (by omega); clear c4; replace H := Option.bind_eq_some_iff.mp H; obtain ⟨t530, A60, H⟩ := H; (try dsimp only at H); have A6 := am A60; clear A60
      by_cases c7 : t530 = true
      ·subst c7
       have H1 : (if 1 ≤ (x0_1.size : Int) then (letterboxref9_Trim.l0 k1 (x0_1.extract 1 x0_1.size)) else (none)) = some r := by rw [if_pos rfl] at H; exact H
       clear H; have H := H1; clear H1
       by_cases c8 : 1 ≤ (x0_1.size : Int)
       ·rw [if_pos c8] at H; have c8b0 := eq_true c8; have c8b1 : decide (1 ≤ (x0_1.size : Int)) = true := decide_eq_true c8; clear c8; have H' := am H; clear H; have p5 : 0 ≤ (0 : Int) := (by omega); have q5 : 0 < x0_1.size := (by have : (0 : Int) < (x0_1.size : Int) := of_decide_eq_true (by first | (with_reducible assumption) | assumption); omega); have hx5 : ∀ h : 0 < x0_1.size, ((x0_1[0]'h).toNat : Int) = bt x0_1 0 := bt_at x0_1 0; clear p5; have qi5 : (0 < (x0_1.size : Int)) = True := eq_true (of_decide_eq_true (by first | (with_reducible assumption) | assumption)); replace q5 := eq_true q5
        go_wp2_with (first | (go_at_call 74; (with_reducible refine (letterboxref9_blank.calls (bt x0_1 0) true _ A6.out).mono ?_); rintro e w' ⟨rfl, ⟨nd, rfl⟩⟩))
        go_roundg k1
        case measure => have := HK1.out; omega
        case rel => exact ⟨(x0_1.extract 1 x0_1.size), (by first | rfl | (simp; done) | (simp [*]; done)), H', ⟨by have := HK1.out; omega⟩, by repeat (first | exact Drawn0.refl _ | apply Drawn0.step)⟩
       rw [if_neg c8] at H
       exact absurd H (by simp)
      replace c7 := Bool.eq_false_iff.mpr c7; subst c7
      have H1 : (letterboxref9_Trim.j1 k1 x0_1) = some r := by rw [if_neg (show ¬ (false = true) by decide)] at H; exact H
      clear H; have H := H1; clear H1; have H' := am H; clear H; have p5 : 0 ≤ (0 : Int) := (by omega); have q5 : 0 < x0_1.size := (by have : (0 : Int) < (x0_1.size : Int) := of_decide_eq_true (by first | (with_reducible assumption) | assumption); omega); have hx5 : ∀ h : 0 < x0_1.size, ((x0_1[0]'h).toNat : Int) = bt x0_1 0 := bt_at x0_1 0; clear p5; have qi5 : (0 < (x0_1.size : Int)) = True := eq_true (of_decide_eq_true (by first | (with_reducible assumption) | assumption)); replace q5 := eq_true q5
      go_wp2_with (first | (go_at_call 74; (with_reducible refine (letterboxref9_blank.calls (bt x0_1 0) false _ A6.out).mono ?_); rintro e w' ⟨rfl, ⟨nd, rfl⟩⟩))
      go_meet
      case rel => exact ⟨_, (x0_1), (by first | rfl | (simp; done) | (simp [*]; done)), H', ⟨by have := HK1.out; first | omega | exact Nat.le_refl _⟩, by repeat (first | exact Drawn0.refl _ | apply Drawn0.step)⟩
     rw [if_neg c4] at H
     exact absurd H (by simp)
    rw [if_neg c3] at H; have c3b0 : decide (0 < (x0_1.size : Int)) = false := decide_eq_false c3; have c3b1 : decide (0 < x0_1.size) = false := decide_eq_false (by omega); clear c3
    (first | rw [c3b0] | (simp only [i64_w, i32_w]; rw [c3b0]) | skip)
    have H' := am H; clear H
    go_wp2
    go_meet
    case rel => exact ⟨_, (x0_1), (by first | rfl | (simp; done) | (simp [*]; done)), H', ⟨by have := HK1.out; first | omega | exact Nat.le_refl _⟩, by repeat (first | exact Drawn0.refl _ | apply Drawn0.step)⟩
 case rest =>
  clear HC2; (try clear p2); (try clear c3); (try clear c3b0); (try clear c3b1); (try clear c4); (try clear c4b0); (try clear c4b1); (try clear p5); (try clear q5); (try clear hx5); (try clear qi5); (try clear c7); (try clear c8); (try clear c8b0); (try clear c8b1); (try clear p2); (try clear p5); (try clear q5); obtain ⟨kq, x0_1, rfl, HA, HJ1, ⟨mc1, rfl⟩⟩ := hcut
  cases kq with
  | zero => exact absurd HA.out (by simp [letterboxref9_Trim.j1])
  | succ kj1 =>
   have H := HA.out; clear HA; simp only [letterboxref9_Trim.j1] at H; have H' := am H; clear H
   go_wp2
   go_loopg [0] kj1 (fun kq v0 w' => ∃ (x0_2 : ByteArray), v0 = .string x0_2 ∧ Aside0 (letterboxref9_Trim.l1 kq x0_2 = some r) ∧ Aside0 (kq ≤ kj1) ∧ Drawn0 w w')
   case atStart => exact ⟨(x0_1), (by first | rfl | (simp; done) | (simp [*]; done)), H', ⟨Nat.le_refl _⟩, by repeat (first | exact Drawn0.refl _ | apply Drawn0.step)⟩
   case round =>
    clear H'; (try clear c1); (try clear p2); (try clear c3); (try clear c3b0); (try clear c3b1); (try clear c4); (try clear c4b0); (try clear c4b1); (try clear p5); (try clear q5); (try clear hx5); (try clear qi5); (try clear c7); (try clear c8); (try clear c8b0); (try clear c8b1); (try clear p2); (try clear p5); (try clear q5); obtain ⟨x0_2, rfl, HA, HK2, ⟨m2, rfl⟩⟩ := hrel
    cases gk with
    | zero => exact absurd HA.out (by simp [letterboxref9_Trim.l1])
    | succ k2 =>
     have H := HA.out; clear HA; simp only [letterboxref9_Trim.l1] at H
     by_cases c9 : (x0_2.size : Int) > 0
     ·rw [if_pos c9] at H; have c9b0 : decide (0 < (x0_2.size : Int)) = true := decide_eq_true c9; have c9b1 : decide (0 < x0_2.size) = true := decide_eq_true (by omega); clear c9; obtain ⟨ji10, hji10⟩ : ∃ j_ : Int, (wrap64 ((x0_2.size : Int) - 1)) = j_ := ⟨_, rfl⟩
      replace H : (if 0 ≤ (ji10) then (if (ji10) < (x0_2.size : Int) then ((letterboxref9_blank.f (bt x0_2 (ji10))).bind fun t531 => (if t531 = true then (if (ji10) ≤ (x0_2.size : Int) then (letterboxref9_Trim.l1 k2 (x0_2.extract 0 ((ji10) : Int).toNat)) else (none)) else (some x0_2))) else (none)) else (none)) = some r := by first | (rw [hji10] at H; exact H) | (simp only [hji10] at H ⊢; exact H)
      have hji10w : (IntKind.i64.wrap ((x0_2.size : Int) - 1)) = ji10 := (i64_w _).trans hji10
      by_cases c11 : 0 ≤ (ji10)
      ·rw [if_pos c11] at H; have c11b0 : decide (0 ≤ (ji10)) = true := decide_eq_true c11; clear c11
       by_cases c12 : (ji10) < (x0_2.size : Int)
       ·rw [if_pos c12] at H; have c12b0 : decide ((ji10) < (x0_2.size : Int)) = true := decide_eq_true c12; clear c12; replace H := Option.bind_eq_some_iff.mp H; obtain ⟨t531, A140, H⟩ := H; (try dsimp only at H); have A14 := am A140; clear A140
        by_cases c15 : t531 = true
        ·subst c15
         have H1 : (if (ji10) ≤ (x0_2.size : Int) then (letterboxref9_Trim.l1 k2 (x0_2.extract 0 ((ji10) : Int).toNat)) else (none)) = some r := by rw [if_pos rfl] at H; exact H
         clear H; have H := H1; clear H1; have c16b0 := eq_true (of_decide_eq_true (by first | (with_reducible assumption) | assumption) : 0 ≤ (ji10))
         by_cases c17 : (ji10) ≤ (x0_2.size : Int)
         ·rw [if_pos c17] at H; have c17b0 := eq_true c17; have c17b1 : decide ((ji10) ≤ (x0_2.size : Int)) = true := decide_eq_true c17; clear c17; have H' := am H; clear H; have p13 : 0 ≤ ((ji10) : Int) := of_decide_eq_true (by first | (with_reducible assumption) | assumption); have q13 : (ji10) < (x0_2.size : Int) := of_decide_eq_true (by first | (with_reducible assumption) | assumption); have hx13 := bt_at x0_2 (ji10); replace p13 := eq_true p13; replace q13 := eq_true q13
          go_wp2_with (first | (go_at_call 74; (with_reducible refine (letterboxref9_blank.calls (bt x0_2 (ji10)) true _ A14.out).mono ?_); rintro e w' ⟨rfl, ⟨nd, rfl⟩⟩))
          go_roundg k2
          case measure => have := HJ1.out; have := HK2.out; omega
          case rel => exact ⟨(x0_2.extract 0 ((ji10) : Int).toNat), (by first | rfl | (simp; done) | (simp only [← hji10] <;> (first | rfl | simp)) | (simp [*]; done)), H', ⟨by have := HJ1.out; have := HK2.out; omega⟩, by repeat (first | exact Drawn0.refl _ | apply Drawn0.step)⟩
         rw [if_neg c17] at H
         exact absurd H (by simp)
        replace c15 := Bool.eq_false_iff.mpr c15; subst c15
        have H1 : (some x0_2) = some r := by rw [if_neg (show ¬ (false = true) by decide)] at H; exact H
        clear H; have H := H1; clear H1; obtain rfl := Option.some.inj H; have p13 : 0 ≤ ((ji10) : Int) := of_decide_eq_true (by first | (with_reducible assumption) | assumption); have q13 : (ji10) < (x0_2.size : Int) := of_decide_eq_true (by first | (with_reducible assumption) | assumption); have hx13 := bt_at x0_2 (ji10); replace p13 := eq_true p13; replace q13 := eq_true q13
        go_wp2_with (first | (go_at_call 74; (with_reducible refine (letterboxref9_blank.calls (bt x0_2 (ji10)) false _ A14.out).mono ?_); rintro e w' ⟨rfl, ⟨nd, rfl⟩⟩))
        go_ret
        exact ⟨by first | rfl | (simp; done) | (simp only [← hji10] <;> (first | rfl | simp)) | (simp [*]; done), by repeat (first | exact Drawn0.refl _ | apply Drawn0.step)⟩
       rw [if_neg c12] at H
       exact absurd H (by simp)
      rw [if_neg c11] at H
      exact absurd H (by simp)
     rw [if_neg c9] at H; have c9b0 : decide (0 < (x0_2.size : Int)) = false := decide_eq_false c9; have c9b1 : decide (0 < x0_2.size) = false := decide_eq_false (by omega); clear c9; obtain rfl := Option.some.inj H
     go_wp2
     go_ret
     exact ⟨by first | rfl | (simp; done) | (simp [*]; done), by repeat (first | exact Drawn0.refl _ | apply Drawn0.step)⟩

end Go.Proofs.YtejhfghijgbckaaGreatDoor.P
