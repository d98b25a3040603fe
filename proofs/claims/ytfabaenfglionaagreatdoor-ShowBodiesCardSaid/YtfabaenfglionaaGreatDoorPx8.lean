/- The walks of the seat's functions, one contract a function: printed by a program of this session's (wip/gen). Not trusted: Lean checks it. -/
import Derived.Test.YtfabaenfglionaaGreatDoorShort
import Derived.Test.YtfabaenfglionaaGreatDoorPx0
import Derived.Test.YtfabaenfglionaaGreatDoorPx6
import Derived.Test.YtfabaenfglionaaGreatDoorPx7
import Derived.Test.YtfabaenfglionaaGreatDoorUidShow
-- halved
namespace Go.Proofs.YtfabaenfglionaaGreatDoor.P
open Go.RowKit Go.Proofs.YtfabaenfglionaaGreatDoorW.PrintWords Go.Proofs.YtfabaenfglionaaGreatDoorW.PrintLast Go.Proofs.YtfabaenfglionaaGreatDoorW.PrintMore
attribute [local go_sem] max2_int min2_int max_two min_two max_three min_three max_four min_four   -- for this text's walks alone
set_option linter.unusedVariables false
set_option linter.unusedSimpArgs false

/-! ### letterboxref9_Fields: function 74 -/
mutual
def letterboxref9_Fields.l0 : Nat → List (S106) → Bool → List (List Int) → Int → Option ((List (S106)))
 | 0, _, _, _, _ => none
 | k + 1, x3, x4, x5, x6 => if x6 < (x5.length : Int) then (if 0 ≤ x6 then (letterboxref9_Fields.j1 k x3 x4 x5 x6 (decide (((rd_L6 x5 x6).length : Int) > 0))) else (none)) else (letterboxref9_Fields.j1 k x3 x4 x5 x6 false)
def letterboxref9_Fields.j1 : Nat → List (S106) → Bool → List (List Int) → Int → Bool → Option ((List (S106)))
 | 0, _, _, _, _, _ => none
 | k + 1, x3, x4, x5, x6, x23 => if x23 = true then (if 0 ≤ x6 then (if x6 < (x5.length : Int) then (if 0 < ((strOfNums (rd_L6 x5 x6)).size : Int) then ((letterboxref9_blank.f (bt (strOfNums (rd_L6 x5 x6)) 0)).bind fun t456 => (if t456 = true then (if x4 = true then (if 0 ≤ (wrap64 ((x3.length : Int) - 1)) then (if (wrap64 ((x3.length : Int) - 1)) < (x3.length : Int) then (if ((rd_T106 x3 (wrap64 ((x3.length : Int) - 1))).f1).size + 1 ≤ 9223372036854775807 then ((letterboxref9_Trim.f k (strOfNums (rd_L6 x5 x6))).bind fun t458 => (if ((rd_T106 x3 (wrap64 ((x3.length : Int) - 1))).f1).size + 1 + t458.size ≤ 9223372036854775807 then (letterboxref9_Fields.l0 k (x3.set ((wrap64 ((x3.length : Int) - 1)) : Int).toNat (⟨(rd_T106 x3 (wrap64 ((x3.length : Int) - 1))).f0, (((rd_T106 x3 (wrap64 ((x3.length : Int) - 1))).f1) ++ (⟨#[32]⟩ : ByteArray)) ++ t458⟩ : S106)) x4 x5 (wrap64 (x6 + 1))) else (none))) else (none)) else (none)) else (none)) else (letterboxref9_Fields.l0 k x3 x4 x5 (wrap64 (x6 + 1)))) else ((letterboxref9_Colon.f k (strOfNums (rd_L6 x5 x6)) 58).bind fun t460 => (if t460 ≥ 0 then (if 0 ≤ t460 then (if t460 ≤ ((strOfNums (rd_L6 x5 x6)).size : Int) then ((letterboxref9_Trim.f k ((strOfNums (rd_L6 x5 x6)).extract 0 (t460 : Int).toNat)).bind fun t461 => (if 0 ≤ (wrap64 (t460 + 1)) then (if (wrap64 (t460 + 1)) ≤ ((strOfNums (rd_L6 x5 x6)).size : Int) then ((letterboxref9_Trim.f k ((strOfNums (rd_L6 x5 x6)).extract ((wrap64 (t460 + 1)) : Int).toNat (strOfNums (rd_L6 x5 x6)).size)).bind fun t462 => (if x3.length < 4398046511104 then (letterboxref9_Fields.l0 k (x3 ++ [(⟨t461, t462⟩ : S106)]) (decide (t460 ≥ 0)) x5 (wrap64 (x6 + 1))) else (none))) else (none)) else (none))) else (none)) else (none)) else (letterboxref9_Fields.l0 k x3 (decide (t460 ≥ 0)) x5 (wrap64 (x6 + 1))))))) else (none)) else (none)) else (none)) else (some x3)
end
def letterboxref9_Fields.f (k : Nat) (l0 : List Int) : Option ((List (S106))) := (letterboxref9_Head.f k l0).bind fun t448 => ((letterboxref9_Split.f k t448).bind fun t451 => (letterboxref9_Fields.l0 k ([] : List (S106)) false t451 0))
def letterboxref9_Fields.T10 : Bool × List (List Nat × List Nat) := (true, [([], []), ([], []), ([1], [1]), ([2], [2]), ([], []), ([], []), ([5], [5]), ([6], [6]), ([4, 7], [4, 7]), ([8], [8]), ([9], [9]), ([10], [10]), ([], []), ([12], [12]), ([11, 13], [11, 13]), ([0, 3, 0, 1, 2, 3, 4, 5, 6, 7, 8, 9, 10, 11, 12, 13, 14], [0, 3]), ([15, 0, 1, 2, 3, 4, 5, 6, 7, 8, 9, 10, 11, 12, 13, 14], [15]), ([16, 14, 13, 0, 1, 2, 3, 4, 5, 6, 7, 8, 9, 10, 11, 12, 13, 14], [14, 16])])
def letterboxref9_Fields.B10 : List Nat := [0, 0, 2, 6, 0, 0, 32, 96, 240, 496, 1008, 2032, 0, 4096, 16368, 32767, 65535, 131071]
theorem letterboxref9_Fields.tab10 : rtab .any (opsOf Tryz.f74 10) = letterboxref9_Fields.T10 := by kernel_rfl
theorem letterboxref9_Fields.bits10 : waitsOk letterboxref9_Fields.T10.2 letterboxref9_Fields.B10 = true := by kernel_rfl
def letterboxref9_Fields.T14 : Bool × List (List Nat × List Nat) := (true, [([], []), ([], []), ([], []), ([1, 2], [1, 2]), ([3], [3]), ([], []), ([], []), ([6], [6]), ([5, 7], [5, 7]), ([8, 4], [8]), ([4, 9], [4, 9]), ([10], [10]), ([0, 11, 9], [0, 11]), ([12, 12, 0, 1, 2, 3, 4, 5, 6, 7, 8, 9, 10, 11, 12], [0, 12])])
def letterboxref9_Fields.B14 : List Nat := [0, 0, 0, 6, 14, 0, 0, 64, 224, 510, 1022, 2046, 4095, 8191]
theorem letterboxref9_Fields.tab14 : rtab .any (opsOf Tryz.f74 14) = letterboxref9_Fields.T14 := by kernel_rfl
theorem letterboxref9_Fields.bits14 : waitsOk letterboxref9_Fields.T14.2 letterboxref9_Fields.B14 = true := by kernel_rfl
set_option maxHeartbeats 8000000 in
set_option maxRecDepth 100000 in
theorem letterboxref9_Fields.calls (k : Nat) (A0 : Option Addr) (c0 : Nat) (l0 : List Int) (r : List (S106)) (w : World) (hr0 : Kd.C (Kd.int .u8) w A0 l0.length l0) (hc0 : l0.length ≤ c0) (h : letterboxref9_Fields.f k l0 = some r) :
  Calls Tryz.prog 74 #[.slice A0 l0.length c0] w fun e w' => ∃ v0_ : Value, e = .returned (v0_) ∧ Kd.R k106 106 w' w.heap.size (fun _ => True) v0_ r ∧ Below w.heap.size w w' := by
 have hu106 := Tryz.underlying106; have HR0 := am hr0; have HC0 := am hc0; clear hr0 hc0; have HB := am (Below.refl w.heap.size w); have H : ((letterboxref9_Head.f k l0).bind fun t448 => ((letterboxref9_Split.f k t448).bind fun t451 => (letterboxref9_Fields.l0 k ([] : List (S106)) false t451 0))) = some r := h; clear h; replace H := Option.bind_eq_some_iff.mp H; obtain ⟨t448, A20, H⟩ := H; replace H : ((letterboxref9_Split.f k t448).bind fun t451 => (letterboxref9_Fields.l0 k ([] : List (S106)) false t451 0)) = some r := H; have A2 := am A20; clear A20; replace H := Option.bind_eq_some_iff.mp H; obtain ⟨t451, A30, H⟩ := H; replace H : (letterboxref9_Fields.l0 k ([] : List (S106)) false t451 0) = some r := H; have A3 := am A30; clear A30; have H' := am H; clear H
 go_enter Tryz.func74, Tryz.ntmps74
 go_wp2_with (first | ((with_reducible refine gate_callee (f := 93) rfl ?_); refine goesL_ (some 10) rfl rfl Tryz.func93 (by kernel_rfl) rfl #[.slice A0 l0.length c0] rfl mz ?_; (with_reducible refine (letterboxref9_Head.calls k (fun k_ => k_ < w.heap.size) _ _ l0 t448 _ ?side1 A2.out).mono ?_); (case side1 => exact Kd.V_mk HC0.out (Kd.F_below (Kd.C_F (Kd.heap_int .u8) HR0.out) bz)); rintro e w4 ⟨v449, rfl, ho0, hb⟩; refine ⟨_, rfl, ?_⟩; have n0_ := am (Kd.V_lower (Kd.V_mono (ok' := fun k_ => True) ho0 (fun k_ hk_ => trivial)) (below_size bz)); have n1_ := am (below_step bz hb); clear HB; have HO450 := n0_; have HB := n1_; clear n0_ n1_; (try clear hb); (try clear hb2); (try clear hk); (try clear hi); (try clear ho0); obtain ⟨Ao5, co5, eo5⟩ := Kd.V_slice HO450.out; subst eo5) | ((with_reducible refine gate_callee (f := 92) rfl ?_); refine goesL_ (some 11) rfl rfl Tryz.func92 (by kernel_rfl) rfl #[.slice Ao5 t448.length co5] rfl mz ?_; (with_reducible refine (letterboxref9_Split.calls k (fun k_ => True) _ _ t448 t451 _ ?side1 A3.out).mono ?_); (case side1 => exact HO450.out); rintro e w6 ⟨v452, rfl, ho0, hb⟩; refine ⟨_, rfl, ?_⟩; have n0_ := am (Kd.V_elder' (vz HO450.out) (Kd.N_base ho0) hb); have n1_ := am (Kd.N_lower (Kd.N_mono (ok' := fun k_ => True) ho0 (fun k_ hk_ => trivial)) (below_size bz)); have n2_ := am (below_step bz hb); clear HO450 HB; have HO450 := n0_; have HO453 := n1_; have HB := n2_; clear n0_ n1_ n2_; (try clear hb); (try clear hb2); (try clear hk); (try clear hi); (try clear ho0)))
 go_loopg [3, 4, 6] k (fun kq v3 v4 v6 w' => ∃ (x3_1 : List (S106)) (x4_1 : Bool) (x6_1 : Int), v4 = .bool x4_1 ∧ v6 = .int .i64 x6_1 ∧ Aside0 (letterboxref9_Fields.l0 kq x3_1 x4_1 t451 x6_1 = some r) ∧ Aside0 (kq ≤ k) ∧ Aside0 (Kd.R k106 106 w' w.heap.size (fun _ => True) v3 x3_1) ∧ Aside0 (Kd.N (Kd.slice 5 (Kd.int .u8)) 34 w' w.heap.size (fun k_ => some k_ ≠ (v3 : Value).ownBlock) v452 t451) ∧ Aside0 (Below w.heap.size w w'))
 case atStart => exact ⟨(([] : List (S106))), (false), (0), sz, sz, H', ⟨Nat.le_refl _⟩, ⟨nl⟩, ⟨by (with_reducible repeat (first | apply Kd.N_alloc | apply Kd.N_drewN | apply Kd.N_drew)); exact Kd.N_mono HO453.out (fun _ hk => (by simp [Value.ownBlock]))⟩, ⟨bz⟩⟩
 case round =>
  clear H'; (try clear p2); obtain ⟨x3_1, x4_1, x6_1, rfl, rfl, HA, HK1, HO_3, HO_5, HB⟩ := hrel
  cases gk with
  | zero => exact absurd HA.out (by simp [letterboxref9_Fields.l0])
  | succ k1 =>
   have H := HA.out; clear HA; simp only [letterboxref9_Fields.l0] at H; have HC7 := am H; clear H
   go_upto_region 5 with (fail)
   go_cut [23] (fun v23 wc => ∃ (kq : Nat) (x23_6 : Bool), v23 = .bool x23_6 ∧ Aside0 (letterboxref9_Fields.j1 kq x3_1 x4_1 t451 x6_1 x23_6 = some r) ∧ Aside0 (kq ≤ k1) ∧ Aside0 (Kd.R k106 106 wc w.heap.size (fun _ => True) u3 x3_1) ∧ Aside0 (Kd.N (Kd.slice 5 (Kd.int .u8)) 34 wc w.heap.size (fun k_ => some k_ ≠ (u3 : Value).ownBlock) v452 t451) ∧ Aside0 (Below w.heap.size w wc))
   case first =>
    have H := HC7.out; clear HC7
    by_cases c8 : x6_1 < (t451.length : Int)
    ·rw [if_pos c8] at H; have c8b0 : decide (x6_1 < (t451.length : Int)) = true := decide_eq_true c8; clear c8
     (first | rw [c8b0] | (simp only [i64_w, i32_w]; rw [c8b0]) | skip)
     by_cases c9 : 0 ≤ x6_1
     ·rw [if_pos c9] at H; have c9b0 : decide (0 ≤ x6_1) = true := decide_eq_true c9; clear c9; have H' := am H; clear H; obtain ⟨Ao10, co10, eo10⟩ := Kd.N_slice HO_5.out; subst eo10; have p454 : 0 ≤ (x6_1 : Int) := of_decide_eq_true az; have q454 : x6_1 < (t451.length : Int) := of_decide_eq_true az; obtain ⟨ad454, A454_0, c454_0, e454, hx454_0, hl454_0, hi454_0⟩ := at_L6 (Kd.N_reads' HO_5.out).2.2 x6_1 p454 q454
      cases e454
      obtain ⟨ce454, hce454, hMe454, hcc454⟩ := Kd.N_get HO_5.out [] x6_1 p454 (by first | exact q454 | exact of_decide_eq_true az | (have e_ := (Kd.N_reads' HO_5.out).1; omega)); obtain ⟨ua454_0, uc454_0, rfl, ul454_0, ge454_0⟩ := Kd.FK_slice_open hMe454; have hv454_0 := hcc454 0 _ rfl; rw [Nat.add_zero, show ((Kd.slice 5 (Kd.int .u8))).sz = 1 from rfl, Nat.mul_one] at hv454_0; replace hv454_0 := Option.some.inj (hv454_0.symm.trans hx454_0)
      injection hv454_0 with hva_ hvn_ hvc_
      rw [hva_] at ge454_0; rw [hvc_] at ul454_0; have HL454_0 := am (show Kd.V (Kd.int .u8) 5 _ w.heap.size _ _ (rd_L6 t451 x6_1) from Kd.V_mk ul454_0 ge454_0); clear hva_ hvn_ hvc_ ge454_0 ul454_0 hcc454 hce454; have HR454_0 := am hi454_0; have HC454_0 := am hl454_0; clear hi454_0 hl454_0; replace p454 := eq_true p454; replace q454 := eq_true q454
      go_wp2
      go_meet
      case rel => exact ⟨_, (decide (((rd_L6 t451 x6_1).length : Int) > 0)), sz, H', ⟨by have := HK1.out; first | omega | exact Nat.le_refl _⟩, ⟨rz HO_3.out⟩, ⟨nz HO_5.out⟩, ⟨bz⟩⟩
     rw [if_neg c9] at H
     exact absurd H (by simp)
    rw [if_neg c8] at H; have c8b0 : decide (x6_1 < (t451.length : Int)) = false := decide_eq_false c8; clear c8
    (first | rw [c8b0] | (simp only [i64_w, i32_w]; rw [c8b0]) | skip)
    have H' := am H; clear H; obtain ⟨Ao11, co11, eo11⟩ := Kd.N_slice HO_5.out; subst eo11
    go_wp2
    go_meet
    case rel => exact ⟨_, (false), sz, H', ⟨by have := HK1.out; first | omega | exact Nat.le_refl _⟩, ⟨rz HO_3.out⟩, ⟨nz HO_5.out⟩, ⟨bz⟩⟩
   case rest =>
    clear HC7; (try clear p2); (try clear c4); (try clear p4); (try clear q4); (try clear hx4); (try clear c7); (try clear c8); (try clear c8b0); (try clear c9); (try clear c9b0); (try clear hx454_0); (try clear p2); (try clear p454); (try clear q454); obtain ⟨kq, x23_6, rfl, HA, HJ6, HO_3, HO_5, HB⟩ := hcut
    cases kq with
    | zero => exact absurd HA.out (by simp [letterboxref9_Fields.j1])
    | succ kj6 =>
     have H := HA.out; clear HA; simp only [letterboxref9_Fields.j1] at H
     by_cases c12 : x23_6 = true
     ·subst c12
      have H1 : (if 0 ≤ x6_1 then (if x6_1 < (t451.length : Int) then (if 0 < ((strOfNums (rd_L6 t451 x6_1)).size : Int) then ((letterboxref9_blank.f (bt (strOfNums (rd_L6 t451 x6_1)) 0)).bind fun t456 => (if t456 = true then (if x4_1 = true then (if 0 ≤ (wrap64 ((x3_1.length : Int) - 1)) then (if (wrap64 ((x3_1.length : Int) - 1)) < (x3_1.length : Int) then (if ((rd_T106 x3_1 (wrap64 ((x3_1.length : Int) - 1))).f1).size + 1 ≤ 9223372036854775807 then ((letterboxref9_Trim.f kj6 (strOfNums (rd_L6 t451 x6_1))).bind fun t458 => (if ((rd_T106 x3_1 (wrap64 ((x3_1.length : Int) - 1))).f1).size + 1 + t458.size ≤ 9223372036854775807 then (letterboxref9_Fields.l0 kj6 (x3_1.set ((wrap64 ((x3_1.length : Int) - 1)) : Int).toNat (⟨(rd_T106 x3_1 (wrap64 ((x3_1.length : Int) - 1))).f0, (((rd_T106 x3_1 (wrap64 ((x3_1.length : Int) - 1))).f1) ++ (⟨#[32]⟩ : ByteArray)) ++ t458⟩ : S106)) x4_1 t451 (wrap64 (x6_1 + 1))) else (none))) else (none)) else (none)) else (none)) else (letterboxref9_Fields.l0 kj6 x3_1 x4_1 t451 (wrap64 (x6_1 + 1)))) else ((letterboxref9_Colon.f kj6 (strOfNums (rd_L6 t451 x6_1)) 58).bind fun t460 => (if t460 ≥ 0 then (if 0 ≤ t460 then (if t460 ≤ ((strOfNums (rd_L6 t451 x6_1)).size : Int) then ((letterboxref9_Trim.f kj6 ((strOfNums (rd_L6 t451 x6_1)).extract 0 (t460 : Int).toNat)).bind fun t461 => (if 0 ≤ (wrap64 (t460 + 1)) then (if (wrap64 (t460 + 1)) ≤ ((strOfNums (rd_L6 t451 x6_1)).size : Int) then ((letterboxref9_Trim.f kj6 ((strOfNums (rd_L6 t451 x6_1)).extract ((wrap64 (t460 + 1)) : Int).toNat (strOfNums (rd_L6 t451 x6_1)).size)).bind fun t462 => (if x3_1.length < 4398046511104 then (letterboxref9_Fields.l0 kj6 (x3_1 ++ [(⟨t461, t462⟩ : S106)]) (decide (t460 ≥ 0)) t451 (wrap64 (x6_1 + 1))) else (none))) else (none)) else (none))) else (none)) else (none)) else (letterboxref9_Fields.l0 kj6 x3_1 (decide (t460 ≥ 0)) t451 (wrap64 (x6_1 + 1))))))) else (none)) else (none)) else (none)) = some r := by rw [if_pos rfl] at H; exact H
      clear H; have H := H1; clear H1
      by_cases c13 : 0 ≤ x6_1
      ·rw [if_pos c13] at H; have c13b0 : decide (0 ≤ x6_1) = true := decide_eq_true c13; clear c13
       by_cases c14 : x6_1 < (t451.length : Int)
       ·rw [if_pos c14] at H; have c14b0 : decide (x6_1 < (t451.length : Int)) = true := decide_eq_true c14; clear c14
        by_cases c15 : 0 < ((strOfNums (rd_L6 t451 x6_1)).size : Int)
        ·rw [if_pos c15] at H; have c15b0 : decide (0 < ((strOfNums (rd_L6 t451 x6_1)).size : Int)) = true := decide_eq_true c15; have c15b1 : decide (0 < (strOfNums (rd_L6 t451 x6_1)).size) = true := decide_eq_true (by omega); clear c15; replace H := Option.bind_eq_some_iff.mp H; obtain ⟨t456, A170, H⟩ := H; (try dsimp only at H); have A17 := am A170; clear A170
         by_cases c18 : t456 = true
         ·subst c18
          have H1 : (if x4_1 = true then (if 0 ≤ (wrap64 ((x3_1.length : Int) - 1)) then (if (wrap64 ((x3_1.length : Int) - 1)) < (x3_1.length : Int) then (if ((rd_T106 x3_1 (wrap64 ((x3_1.length : Int) - 1))).f1).size + 1 ≤ 9223372036854775807 then ((letterboxref9_Trim.f kj6 (strOfNums (rd_L6 t451 x6_1))).bind fun t458 => (if ((rd_T106 x3_1 (wrap64 ((x3_1.length : Int) - 1))).f1).size + 1 + t458.size ≤ 9223372036854775807 then (letterboxref9_Fields.l0 kj6 (x3_1.set ((wrap64 ((x3_1.length : Int) - 1)) : Int).toNat (⟨(rd_T106 x3_1 (wrap64 ((x3_1.length : Int) - 1))).f0, (((rd_T106 x3_1 (wrap64 ((x3_1.length : Int) - 1))).f1) ++ (⟨#[32]⟩ : ByteArray)) ++ t458⟩ : S106)) x4_1 t451 (wrap64 (x6_1 + 1))) else (none))) else (none)) else (none)) else (none)) else (letterboxref9_Fields.l0 kj6 x3_1 x4_1 t451 (wrap64 (x6_1 + 1)))) = some r := by rw [if_pos rfl] at H; exact H
          clear H; have H := H1; clear H1
          by_cases c19 : x4_1 = true
          ·subst c19
           have H1 : (if 0 ≤ (wrap64 ((x3_1.length : Int) - 1)) then (if (wrap64 ((x3_1.length : Int) - 1)) < (x3_1.length : Int) then (if ((rd_T106 x3_1 (wrap64 ((x3_1.length : Int) - 1))).f1).size + 1 ≤ 9223372036854775807 then ((letterboxref9_Trim.f kj6 (strOfNums (rd_L6 t451 x6_1))).bind fun t458 => (if ((rd_T106 x3_1 (wrap64 ((x3_1.length : Int) - 1))).f1).size + 1 + t458.size ≤ 9223372036854775807 then (letterboxref9_Fields.l0 kj6 (x3_1.set ((wrap64 ((x3_1.length : Int) - 1)) : Int).toNat (⟨(rd_T106 x3_1 (wrap64 ((x3_1.length : Int) - 1))).f0, (((rd_T106 x3_1 (wrap64 ((x3_1.length : Int) - 1))).f1) ++ (⟨#[32]⟩ : ByteArray)) ++ t458⟩ : S106)) true t451 (wrap64 (x6_1 + 1))) else (none))) else (none)) else (none)) else (none)) = some r := by rw [if_pos rfl] at H; exact H
           clear H; have H := H1; clear H1; obtain ⟨ji20, hji20⟩ : ∃ j_ : Int, (wrap64 ((x3_1.length : Int) - 1)) = j_ := ⟨_, rfl⟩
           replace H : (if 0 ≤ (ji20) then (if (ji20) < (x3_1.length : Int) then (if ((rd_T106 x3_1 (ji20)).f1).size + 1 ≤ 9223372036854775807 then ((letterboxref9_Trim.f kj6 (strOfNums (rd_L6 t451 x6_1))).bind fun t458 => (if ((rd_T106 x3_1 (ji20)).f1).size + 1 + t458.size ≤ 9223372036854775807 then (letterboxref9_Fields.l0 kj6 (x3_1.set ((ji20) : Int).toNat (⟨(rd_T106 x3_1 (ji20)).f0, (((rd_T106 x3_1 (ji20)).f1) ++ (⟨#[32]⟩ : ByteArray)) ++ t458⟩ : S106)) true t451 (wrap64 (x6_1 + 1))) else (none))) else (none)) else (none)) else (none)) = some r := by first | (rw [hji20] at H; exact H) | (simp only [hji20] at H ⊢; exact H)
           (try rw [hji20] at A17); have hji20w : (IntKind.i64.wrap ((x3_1.length : Int) - 1)) = ji20 := (i64_w _).trans hji20
           by_cases c21 : 0 ≤ (ji20)
           ·rw [if_pos c21] at H; have c21b0 : decide (0 ≤ (ji20)) = true := decide_eq_true c21; clear c21
            by_cases c22 : (ji20) < (x3_1.length : Int)
            ·rw [if_pos c22] at H; have c22b0 : decide ((ji20) < (x3_1.length : Int)) = true := decide_eq_true c22; clear c22
             by_cases c23 : ((rd_T106 x3_1 (ji20)).f1).size + 1 ≤ 9223372036854775807
             ·rw [if_pos c23] at H; have c23b0 := eq_true c23; have c23b1 : decide (((rd_T106 x3_1 (ji20)).f1).size + 1 ≤ 9223372036854775807) = true := decide_eq_true c23
              try have c23b2 : (9223372036854775807 < ((rd_T106 x3_1 (ji20)).f1).size + 1) = False := eq_false (Nat.not_lt.2 c23)
              replace H := Option.bind_eq_some_iff.mp H; obtain ⟨t458, A240, H⟩ := H; (try dsimp only at H); have A24 := am A240; clear A240
              by_cases c25 : ((rd_T106 x3_1 (ji20)).f1).size + 1 + t458.size ≤ 9223372036854775807
              ·rw [if_pos c25] at H; have c25b0 := eq_true c25; have c25b1 : decide (((rd_T106 x3_1 (ji20)).f1).size + 1 + t458.size ≤ 9223372036854775807) = true := decide_eq_true c25
               try have c25b2 : (9223372036854775807 < ((rd_T106 x3_1 (ji20)).f1).size + 1 + t458.size) = False := eq_false (Nat.not_lt.2 c25)
               obtain ⟨y459, hy459⟩ : ∃ y_ : List (S106), y_ = (x3_1.set ((ji20) : Int).toNat (⟨(rd_T106 x3_1 (ji20)).f0, (((rd_T106 x3_1 (ji20)).f1) ++ (⟨#[32]⟩ : ByteArray)) ++ t458⟩ : S106)) := ⟨_, rfl⟩
               replace H : (letterboxref9_Fields.l0 kj6 y459 true t451 (wrap64 (x6_1 + 1))) = some r := by first | (rw [hy459]; with_reducible exact H) | (have H2_ := (Option.bind_some _ _).symm.trans H; rw [hy459]; with_reducible exact H2_) | (have H2_ := (Option.bind_some _ _).symm.trans H; with_reducible exact H2_) | with_reducible exact H | (rw [hy459]; exact H) | exact H
               have Ny459 := am hy459; clear hy459; have H' := am H; clear H; obtain ⟨Ao27, co27, eo27⟩ := Kd.N_slice HO_5.out; subst eo27; have p455 : 0 ≤ (x6_1 : Int) := of_decide_eq_true az; have q455 : x6_1 < (t451.length : Int) := of_decide_eq_true az; obtain ⟨ad455, A455_0, c455_0, e455, hx455_0, hl455_0, hi455_0⟩ := at_L6 (Kd.N_reads' HO_5.out).2.2 x6_1 p455 q455
               cases e455
               obtain ⟨ce455, hce455, hMe455, hcc455⟩ := Kd.N_get HO_5.out [] x6_1 p455 (by first | exact q455 | exact of_decide_eq_true az | (have e_ := (Kd.N_reads' HO_5.out).1; omega)); obtain ⟨ua455_0, uc455_0, rfl, ul455_0, ge455_0⟩ := Kd.FK_slice_open hMe455; have hv455_0 := hcc455 0 _ rfl; rw [Nat.add_zero, show ((Kd.slice 5 (Kd.int .u8))).sz = 1 from rfl, Nat.mul_one] at hv455_0; replace hv455_0 := Option.some.inj (hv455_0.symm.trans hx455_0)
               injection hv455_0 with hva_ hvn_ hvc_
               rw [hva_] at ge455_0; rw [hvc_] at ul455_0; have HL455_0 := am (show Kd.V (Kd.int .u8) 5 _ w.heap.size _ _ (rd_L6 t451 x6_1) from Kd.V_mk ul455_0 ge455_0); clear hva_ hvn_ hvc_ ge455_0 ul455_0 hcc455 hce455; have HR455_0 := am hi455_0; have HC455_0 := am hl455_0; clear hi455_0 hl455_0; replace p455 := eq_true p455; replace q455 := eq_true q455; have hcv28 := Kd.C_string (P := Tryz.prog) (A := A455_0) (c := c455_0) Tryz.underlying34 Tryz.underlying5 Tryz.underlying9 (cz HR455_0.out); have p16 : 0 ≤ (0 : Int) := (by omega); have q16 : 0 < (strOfNums (rd_L6 t451 x6_1)).size := (by have : (0 : Int) < ((strOfNums (rd_L6 t451 x6_1)).size : Int) := of_decide_eq_true az; omega)
               have hx16 : ∀ h : 0 < (strOfNums (rd_L6 t451 x6_1)).size, (((strOfNums (rd_L6 t451 x6_1))[0]'h).toNat : Int) = bt (strOfNums (rd_L6 t451 x6_1)) 0 := bt_at (strOfNums (rd_L6 t451 x6_1)) 0; clear p16; have qi16 : (0 < ((strOfNums (rd_L6 t451 x6_1)).size : Int)) = True := eq_true (of_decide_eq_true az); replace q16 := eq_true q16
               try go_wp2_with (first | ((with_reducible refine gate_callee (f := 75) rfl ?_); refine goesL_ (some 33) rfl rfl Tryz.func75 (by kernel_rfl) rfl #[.int .u8 (bt (strOfNums (rd_L6 t451 x6_1)) 0)] rfl mz ?_; (with_reducible refine (letterboxref9_blank.calls (bt (strOfNums (rd_L6 t451 x6_1)) 0) true _ A17.out).mono ?_); rintro e w' ⟨rfl, ⟨nd, rfl⟩⟩; refine ⟨_, rfl, ?_⟩; (try (rw [drewN_self wc]; generalize hq_ : World.drewN wc _ = wc; have n0_ : Aside0 (Kd.V (Kd.int .u8) 5 wc w.heap.size (fun k_ => some k_ ≠ (u3 : Value).ownBlock ∧ some k_ ≠ (.slice (some ad455) t451.length co27 : Value).ownBlock) (.slice A455_0 (rd_L6 t451 x6_1).length c455_0) (rd_L6 t451 x6_1)) := ⟨by rw [← hq_]; exact (by (with_reducible repeat (first | apply Kd.V_alloc | apply Kd.V_drewN | apply Kd.V_drew)); exact HL455_0.out)⟩; have n1_ : Aside0 (Kd.R k106 106 wc w.heap.size (fun _ => True) u3 x3_1) := ⟨by rw [← hq_]; exact (rz HO_3.out)⟩; have n2_ : Aside0 (Kd.N (Kd.slice 5 (Kd.int .u8)) 34 wc w.heap.size (fun k_ => some k_ ≠ (u3 : Value).ownBlock) (.slice (some ad455) t451.length co27) t451) := ⟨by rw [← hq_]; exact (nz HO_5.out)⟩; have n3_ : Aside0 (Below w.heap.size w wc) := ⟨by rw [← hq_]; exact bz⟩; have n4_ : Aside0 (Kd.C (Kd.int .u8) wc A455_0 (rd_L6 t451 x6_1).length (rd_L6 t451 x6_1)) := ⟨by rw [← hq_]; exact (cz HR455_0.out)⟩; clear HL455_0 HO_3 HO_5 HB HR455_0 hq_; have HL455_0 := n0_; have HO_3 := n1_; have HO_5 := n2_; have HB := n3_; have HR455_0 := n4_; clear n0_ n1_ n2_ n3_ n4_))))
               have n0_ := am (Kd.R_drew HO_3.out); have n1_ := am (Kd.N_drew HO_5.out); have n2_ := am (Kd.V_drew HL455_0.out); have n3_ := am (Kd.C_drew HR455_0.out); have n4_ := am (below_drew1 HB.out); clear HO_3 HO_5 HL455_0 HR455_0 HB; have HO_3 := n0_; have HO_5 := n1_; have HL455_0 := n2_; have HR455_0 := n3_; have HB := n4_; clear n0_ n1_ n2_ n3_ n4_; obtain ⟨Ao30, co30, eo30⟩ := Kd.R_slice HO_3.out
               (first | subst eo30 | (injection eo30 with f1_ f2_ f3_; have f4_ := f1_.symm; have f5_ := f3_.symm; clear f1_ f2_ f3_; subst f4_; subst f5_))
               have p457 : 0 ≤ ((ji20) : Int) := of_decide_eq_true az; have q457 : (ji20) < (x3_1.length : Int) := of_decide_eq_true az; obtain ⟨ad457, e457, hx457_0, hx457_1⟩ := at_T106 (Kd.R_reads' HO_3.out).2.2 (ji20) p457 q457
               cases e457
               replace p457 := eq_true p457; replace q457 := eq_true q457; refine start_ (n := 18) (S := fun w' => w'.cell? (ad457.add (((ji20)).toNat * 2)) = some (.string ((rd_T106 x3_1 (ji20)).f0)) ∧ w'.cell? ⟨(ad457.add (((ji20)).toNat * 2)).block, (ad457.add (((ji20)).toNat * 2)).off + 1, none⟩ = some (.string ((rd_T106 x3_1 (ji20)).f1))) (ds := [17]) #[false, false, false, false, false, false, false, false, false, false, false, false, false, false, false, false, false, false] (by kernel_rfl) rfl rfl ⟨hx457_0, hx457_1⟩ (fun hHeld => ?_); refine with_tabW letterboxref9_Fields.tab10 letterboxref9_Fields.bits10 (fun HT_ HW_ => ?_); generalize wc.drew = w29 at HO_3 HO_5 HL455_0 HR455_0 HB hx457_0 hx457_1 hHeld ⊢; refine pure_ (i := 0) (N := some 35) (v := ?_) (a' := ?_) #[true, false, false, false, false, false, false, false, false, false, false, false, false, false, false, false, false, false] rfl rfl (any_of HT_.out (by kernel_rfl)) (fun _ _ _ h => h) (Or.inl ⟨by rfl, ?_⟩) ?_ ?_; rotate_left
               ·intro w'; go_simp; with_reducible rfl
               rotate_left
               ·simp only [Act.put, List.setIfInBounds_toArray, List.set_cons_zero, List.set_cons_succ, i64_w, i32_w]; rfl
               refine pure_ (i := 1) (N := some 36) (v := ?_) (a' := ?_) #[true, true, false, false, false, false, false, false, false, false, false, false, false, false, false, false, false, false] rfl rfl (any_of HT_.out (by kernel_rfl)) (fun _ _ _ h => h) (Or.inl ⟨by rfl, ?_⟩) ?_ ?_; rotate_left
               ·intro w'; go_simp; with_reducible rfl
               rotate_left
               ·simp only [Act.put, List.setIfInBounds_toArray, List.set_cons_zero, List.set_cons_succ, i64_w, i32_w]; rfl
               refine pure_ (i := 2) (N := some 37) (v := ?_) (a' := ?_) #[true, true, true, false, false, false, false, false, false, false, false, false, false, false, false, false, false, false] rfl rfl (any_of HT_.out (by kernel_rfl)) (fun _ _ _ h => h) (Or.inl ⟨by rfl, ?_⟩) ?_ ?_; rotate_left
               ·intro w'; go_simp; with_reducible rfl
               rotate_left
               ·simp only [Act.put, List.setIfInBounds_toArray, List.set_cons_zero, List.set_cons_succ, i64_w, i32_w]; rfl
               refine pure_ (i := 3) (N := some 38) (v := ?_) (a' := ?_) #[true, true, true, true, false, false, false, false, false, false, false, false, false, false, false, false, false, false] rfl rfl (any_of HT_.out (by kernel_rfl)) (fun _ _ _ h => h) (Or.inl ⟨by rfl, ?_⟩) ?_ ?_; rotate_left
               ·intro w'; go_simp; with_reducible rfl
               rotate_left
               ·simp only [Act.put, List.setIfInBounds_toArray, List.set_cons_zero, List.set_cons_succ, i64_w, i32_w]; rfl
               refine pure_ (i := 4) (N := some 39) (v := ?_) (a' := ?_) #[true, true, true, true, true, false, false, false, false, false, false, false, false, false, false, false, false, false] rfl rfl (any_of HT_.out (by kernel_rfl)) (fun _ _ _ h => h) (Or.inl ⟨by rfl, ?_⟩) ?_ ?_; rotate_left
               ·intro w'; go_simp; with_reducible rfl
               rotate_left
               ·simp only [Act.put, List.setIfInBounds_toArray, List.set_cons_zero, List.set_cons_succ, i64_w, i32_w]; rfl
               refine pure_ (i := 5) (N := some 40) (v := ?_) (a' := ?_) #[true, true, true, true, true, true, false, false, false, false, false, false, false, false, false, false, false, false] rfl rfl (any_of HT_.out (by kernel_rfl)) (fun _ _ _ h => h) (Or.inl ⟨by rfl, ?_⟩) ?_ ?_; rotate_left
               ·intro w'; go_simp; with_reducible rfl
               rotate_left
               ·simp only [Act.put, List.setIfInBounds_toArray, List.set_cons_zero, List.set_cons_succ, i64_w, i32_w]; rfl
               refine pure_ (i := 6) (N := some 41) (v := ?_) (a' := ?_) #[true, true, true, true, true, true, true, false, false, false, false, false, false, false, false, false, false, false] rfl rfl (any_of HT_.out (by kernel_rfl)) (fun _ _ _ h => h) (Or.inl ⟨by rfl, ?_⟩) ?_ ?_; rotate_left
               ·intro w'; go_simp; with_reducible rfl
               rotate_left
               ·simp only [Act.put, List.setIfInBounds_toArray, List.set_cons_zero, List.set_cons_succ, i64_w, i32_w]; rfl
               refine pure_ (i := 7) (N := some 42) (v := ?_) (a' := ?_) #[true, true, true, true, true, true, true, true, false, false, false, false, false, false, false, false, false, false] rfl rfl (any_of HT_.out (by kernel_rfl)) (fun _ _ _ h => h) (Or.inl ⟨by rfl, ?_⟩) ?_ ?_; rotate_left
               ·intro w'; go_simp; with_reducible rfl
               rotate_left
               ·simp only [Act.put, List.setIfInBounds_toArray, List.set_cons_zero, List.set_cons_succ, i64_w, i32_w]; rfl
               refine pure_ (i := 8) (N := some 43) (v := ?_) (a' := ?_) #[true, true, true, true, true, true, true, true, true, false, false, false, false, false, false, false, false, false] rfl rfl (any_of HT_.out (by kernel_rfl)) (fun _ _ _ h => h) (Or.inl ⟨by rfl, ?_⟩) ?_ ?_; rotate_left
               ·intro w'; go_simp; with_reducible rfl
               rotate_left
               ·simp only [Act.put, List.setIfInBounds_toArray, List.set_cons_zero, List.set_cons_succ, i64_w, i32_w]; rfl
               refine pure_ (i := 9) (N := some 44) (v := ?_) (a' := ?_) #[true, true, true, true, true, true, true, true, true, true, false, false, false, false, false, false, false, false] rfl rfl (any_of HT_.out (by kernel_rfl)) (fun _ _ _ h => h) (Or.inl ⟨by rfl, ?_⟩) ?_ ?_; rotate_left
               ·intro w'; go_simp; with_reducible rfl
               rotate_left
               ·simp only [Act.put, List.setIfInBounds_toArray, List.set_cons_zero, List.set_cons_succ, i64_w, i32_w]; rfl
               refine pure_ (i := 12) (N := some 47) (v := ?_) (a' := ?_) #[true, true, true, true, true, true, true, true, true, true, false, false, true, false, false, false, false, false] rfl rfl (any_of HT_.out (by kernel_rfl)) (fun _ _ _ h => h) (Or.inl ⟨by rfl, ?_⟩) ?_ ?_; rotate_left
               ·intro w'; go_simp; with_reducible rfl
               rotate_left
               ·simp only [Act.put, List.setIfInBounds_toArray, List.set_cons_zero, List.set_cons_succ, i64_w, i32_w]; rfl
               refine take_ (i := 10) (N := some 45) (v := ?_) (a' := ?_) #[true, true, true, true, true, true, true, true, true, true, true, false, true, false, false, false, false, false] rfl rfl (take_ofW HT_.out HW_.out (by kernel_rfl)) (fun _ _ _ h => h) (Or.inl ⟨by rfl, ?_⟩) hHeld ?_ ?_; rotate_left
               ·rintro w' ⟨s0, s1⟩; go_simp; with_reducible rfl
               rotate_left
               ·simp only [Act.put, List.setIfInBounds_toArray, List.set_cons_zero, List.set_cons_succ, i64_w, i32_w]; rfl
               refine pure_ (i := 11) (N := some 46) (v := ?_) (a' := ?_) #[true, true, true, true, true, true, true, true, true, true, true, true, true, false, false, false, false, false] rfl rfl (any_of HT_.out (by kernel_rfl)) (fun _ _ _ h => h) (Or.inl ⟨by rfl, ?_⟩) ?_ ?_; rotate_left
               ·intro w'; go_simp; with_reducible rfl
               rotate_left
               ·simp only [Act.put, List.setIfInBounds_toArray, List.set_cons_zero, List.set_cons_succ, i64_w, i32_w]; rfl
               refine one_ (i := 13) (N := some 48) #[true, true, true, true, true, true, true, true, true, true, true, true, true, true, false, false, false, false] rfl rfl (one_of HT_.out (by kernel_rfl)) (by decide) (fun K hK => ?_); refine goes_ Tryz.func55 (by kernel_rfl) rfl #[.string (strOfNums (rd_L6 t451 x6_1))] (by rfl) rfl rfl mz ?_
               with_reducible refine (letterboxref9_Trim.calls kj6 (strOfNums (rd_L6 t451 x6_1)) t458 _ A24.out).mono ?_; rintro e w' ⟨rfl, ⟨nd, rfl⟩⟩; refine ⟨_, rfl, ?_⟩; have p26 : 0 ≤ ((ji20) : Int) := of_decide_eq_true az; have q26 : ((ji20) : Int) < ((x3_1.length : Int) : Int) := of_decide_eq_true az; obtain ⟨go26, co26, eo26, gb26, gl26, cl26, HG26⟩ := Kd.R_form HO_3.out (by omega)
               (first | cases eo26 | (injection eo26 with ea_ en_ ec_; (first | subst ea_ | (injection ea_ with ea_; subst ea_)); subst ec_; clear en_))
               have GB26 := am gb26; have GG26 := am HG26; clear gb26 gl26 HG26
               (first | simp only [add_plain] at hx457_0 | skip)
               (first | simp only [add_plain] at hx457_1 | skip)
               obtain ⟨ce26, hcl26, hM26, hcc26, hfr26⟩ := Kd.R_elem HO_3.out z106 ((ji20) : Int) p26 q26; obtain rfl := k106_openM hM26; have hx26_0 : World.cell? _ ⟨go26, ((ji20) : Int).toNat * 2, none⟩ = some (.string ((rd_T106 x3_1 (ji20)).f0)) := hcc26 0 _ rfl; have hx26_1 : World.cell? _ ⟨go26, ((ji20) : Int).toNat * 2 + 1, none⟩ = some (.string ((rd_T106 x3_1 (ji20)).f1)) := hcc26 1 _ rfl; have hf26_0 : World.frozen? _ ⟨go26, ((ji20) : Int).toNat * 2, none⟩ = false := hfr26 0; have hf26_1 : World.frozen? _ ⟨go26, ((ji20) : Int).toNat * 2 + 1, none⟩ = false := hfr26 1; clear hcl26 hcc26 hfr26 hM26; replace p26 := eq_true p26; replace q26 := eq_true q26; obtain ⟨ce31, hcl31, hM31, hcc31, hfr31⟩ := Kd.R_elem HO_3.out z106 ((ji20) : Int) (of_decide_eq_true az) (by have h_ : ((ji20) : Int) < ((x3_1.length : Int) : Int) := of_decide_eq_true az; first | exact h_ | (have e_ := (Kd.R_reads' HO_3.out).1; omega) | simpa using h_)
               obtain rfl := k106_openM hM31; have HP31 := (Kd.R_seg HO_3.out ((ji20) : Int) (of_decide_eq_true az) (by have h_ : ((ji20) : Int) < ((x3_1.length : Int) : Int) := of_decide_eq_true az; first | exact h_ | (have e_ := (Kd.R_reads' HO_3.out).1; omega) | simpa using h_) (seg := [.string ((((rd_T106 x3_1 (ji20)).f1) ++ (⟨#[32]⟩ : ByteArray)) ++ t458)]) (j := 1) hcl31 hcc31 (show 2 ≤ 2 from by decide) (x' := (⟨(rd_T106 x3_1 (ji20)).f0, (((rd_T106 x3_1 (ji20)).f1) ++ (⟨#[32]⟩ : ByteArray)) ++ t458⟩ : S106)) (k106_mkM _ _ _ (⟨(rd_T106 x3_1 (ji20)).f0, (((rd_T106 x3_1 (ji20)).f1) ++ (⟨#[32]⟩ : ByteArray)) ++ t458⟩ : S106) ) (fun _ hk => hk)).1
               rw [← Ny459.out] at HP31; have HQ31 := am HP31; clear hcl31 hcc31 hfr31 hM31 HP31; refine hK.out _ _ ⟨hHeld.1, hHeld.2⟩ (fun hHeld => ?_); clear hK K; refine norm_ (a' := ?_) ?_ ?_; rotate_left
               ·show Act.put _ (some 48) _ = _
                simp only [Act.put, List.setIfInBounds_toArray, List.set_cons_zero, List.set_cons_succ, i64_w, i32_w]; rfl
               refine pure_ (i := 14) (N := some 49) (v := ?_) (a' := ?_) #[true, true, true, true, true, true, true, true, true, true, true, true, true, true, true, false, false, false] rfl rfl (any_of HT_.out (by kernel_rfl)) (fun _ _ _ h => h) (Or.inl ⟨by rfl, ?_⟩) ?_ ?_; rotate_left
               ·intro w'; go_simp; with_reducible rfl
               rotate_left
               ·simp only [Act.put, List.setIfInBounds_toArray, List.set_cons_zero, List.set_cons_succ, i64_w, i32_w]; rfl
               refine pure_ (i := 15) (N := some 50) (v := ?_) (a' := ?_) #[true, true, true, true, true, true, true, true, true, true, true, true, true, true, true, true, false, false] rfl rfl (any_of HT_.out (by kernel_rfl)) (fun _ _ _ h => h) (Or.inl ⟨by rfl, ?_⟩) ?_ ?_; rotate_left
               ·intro w'; go_simp; with_reducible rfl
               rotate_left
               ·simp only [Act.put, List.setIfInBounds_toArray, List.set_cons_zero, List.set_cons_succ, i64_w, i32_w]; rfl
               refine pure_ (i := 16) (N := some 51) (v := ?_) (a' := ?_) #[true, true, true, true, true, true, true, true, true, true, true, true, true, true, true, true, true, false] rfl rfl (any_of HT_.out (by kernel_rfl)) (fun _ _ _ h => h) (Or.inl ⟨by rfl, ?_⟩) ?_ ?_; rotate_left
               ·intro w'; go_simp; with_reducible rfl
               rotate_left
               ·simp only [Act.put, List.setIfInBounds_toArray, List.set_cons_zero, List.set_cons_succ, i64_w, i32_w]; rfl
               refine last_ (i := 17) (N := none) #[true, true, true, true, true, true, true, true, true, true, true, true, true, true, true, true, true, true] rfl rfl (one_of HT_.out (by kernel_rfl)) (by decide) (fun K hK => ?_); refine skip_ (w1 := ?_) (by rfl) rfl ?_ ?_; rotate_left
               ·go_simp; rfl
               refine hK.out _ _ ?_; clear hK K; refine done_ (done_of HT_.out (by kernel_rfl)) ?_
               try go_wp2
               go_roundg kj6
               case measure => have := HK1.out; have := HJ6.out; omega
               case rel => exact ⟨(y459), (true), (wrap64 (x6_1 + 1)), sz, sz, H', ⟨by have := HK1.out; have := HJ6.out; omega⟩, ⟨by (with_reducible repeat first | apply rA | apply rN | apply rD); exact HQ31.out⟩, ⟨by (with_reducible repeat (first | apply Kd.N_alloc | apply Kd.N_drewN | apply Kd.N_drew)); exact Kd.N_mono (Kd.N_far (p := ⟨go26, ((ji20) : Int).toNat * 2 + 1, none⟩) (Kd.N_mono HO_5.out (fun k_ hk => (⟨hk, fun e_ => hk (by rw [e_]; rfl)⟩ : _ ∧ k_ ≠ go26))) (fun _ hk => hk.2) (.string ((((rd_T106 x3_1 (ji20)).f1) ++ (⟨#[32]⟩ : ByteArray)) ++ t458))) (fun _ hk => hk.1)⟩, ⟨by repeat (first | (with_reducible first | exact HB.out | apply bA | apply bN | apply bD | refine below_set ?_ GB26.out) | exact HB.out)⟩⟩
              rw [if_neg c25] at H
              exact absurd H (by simp)
             rw [if_neg c23] at H
             exact absurd H (by simp)
            rw [if_neg c22] at H
            exact absurd H (by simp)
           rw [if_neg c21] at H
           exact absurd H (by simp)
          replace c19 := Bool.eq_false_iff.mpr c19; subst c19
          have H1 : (letterboxref9_Fields.l0 kj6 x3_1 false t451 (wrap64 (x6_1 + 1))) = some r := by rw [if_neg (show ¬ (false = true) by decide)] at H; exact H
          clear H; have H := H1; clear H1; have H' := am H; clear H; obtain ⟨Ao32, co32, eo32⟩ := Kd.N_slice HO_5.out; subst eo32; have p455 : 0 ≤ (x6_1 : Int) := of_decide_eq_true az; have q455 : x6_1 < (t451.length : Int) := of_decide_eq_true az; obtain ⟨ad455, A455_0, c455_0, e455, hx455_0, hl455_0, hi455_0⟩ := at_L6 (Kd.N_reads' HO_5.out).2.2 x6_1 p455 q455
          cases e455
          obtain ⟨ce455, hce455, hMe455, hcc455⟩ := Kd.N_get HO_5.out [] x6_1 p455 (by first | exact q455 | exact of_decide_eq_true az | (have e_ := (Kd.N_reads' HO_5.out).1; omega)); obtain ⟨ua455_0, uc455_0, rfl, ul455_0, ge455_0⟩ := Kd.FK_slice_open hMe455; have hv455_0 := hcc455 0 _ rfl; rw [Nat.add_zero, show ((Kd.slice 5 (Kd.int .u8))).sz = 1 from rfl, Nat.mul_one] at hv455_0; replace hv455_0 := Option.some.inj (hv455_0.symm.trans hx455_0)
          injection hv455_0 with hva_ hvn_ hvc_
          rw [hva_] at ge455_0; rw [hvc_] at ul455_0; have HL455_0 := am (show Kd.V (Kd.int .u8) 5 _ w.heap.size _ _ (rd_L6 t451 x6_1) from Kd.V_mk ul455_0 ge455_0); clear hva_ hvn_ hvc_ ge455_0 ul455_0 hcc455 hce455; have HR455_0 := am hi455_0; have HC455_0 := am hl455_0; clear hi455_0 hl455_0; replace p455 := eq_true p455; replace q455 := eq_true q455; have hcv33 := Kd.C_string (P := Tryz.prog) (A := A455_0) (c := c455_0) Tryz.underlying34 Tryz.underlying5 Tryz.underlying9 (cz HR455_0.out); have p16 : 0 ≤ (0 : Int) := (by omega); have q16 : 0 < (strOfNums (rd_L6 t451 x6_1)).size := (by have : (0 : Int) < ((strOfNums (rd_L6 t451 x6_1)).size : Int) := of_decide_eq_true az; omega)
          have hx16 : ∀ h : 0 < (strOfNums (rd_L6 t451 x6_1)).size, (((strOfNums (rd_L6 t451 x6_1))[0]'h).toNat : Int) = bt (strOfNums (rd_L6 t451 x6_1)) 0 := bt_at (strOfNums (rd_L6 t451 x6_1)) 0; clear p16; have qi16 : (0 < ((strOfNums (rd_L6 t451 x6_1)).size : Int)) = True := eq_true (of_decide_eq_true az); replace q16 := eq_true q16
          go_wp2_with (first | ((with_reducible refine gate_callee (f := 75) rfl ?_); refine goesL_ (some 33) rfl rfl Tryz.func75 (by kernel_rfl) rfl #[.int .u8 (bt (strOfNums (rd_L6 t451 x6_1)) 0)] rfl mz ?_; (with_reducible refine (letterboxref9_blank.calls (bt (strOfNums (rd_L6 t451 x6_1)) 0) true _ A17.out).mono ?_); rintro e w' ⟨rfl, ⟨nd, rfl⟩⟩; refine ⟨_, rfl, ?_⟩))
          go_roundg kj6
          case measure => have := HK1.out; have := HJ6.out; omega
          case rel => exact ⟨(x3_1), (false), (wrap64 (x6_1 + 1)), sz, sz, H', ⟨by have := HK1.out; have := HJ6.out; omega⟩, ⟨rz HO_3.out⟩, ⟨nz HO_5.out⟩, ⟨bz⟩⟩
         replace c18 := Bool.eq_false_iff.mpr c18; subst c18
         have H1 : ((letterboxref9_Colon.f kj6 (strOfNums (rd_L6 t451 x6_1)) 58).bind fun t460 => (if t460 ≥ 0 then (if 0 ≤ t460 then (if t460 ≤ ((strOfNums (rd_L6 t451 x6_1)).size : Int) then ((letterboxref9_Trim.f kj6 ((strOfNums (rd_L6 t451 x6_1)).extract 0 (t460 : Int).toNat)).bind fun t461 => (if 0 ≤ (wrap64 (t460 + 1)) then (if (wrap64 (t460 + 1)) ≤ ((strOfNums (rd_L6 t451 x6_1)).size : Int) then ((letterboxref9_Trim.f kj6 ((strOfNums (rd_L6 t451 x6_1)).extract ((wrap64 (t460 + 1)) : Int).toNat (strOfNums (rd_L6 t451 x6_1)).size)).bind fun t462 => (if x3_1.length < 4398046511104 then (letterboxref9_Fields.l0 kj6 (x3_1 ++ [(⟨t461, t462⟩ : S106)]) (decide (t460 ≥ 0)) t451 (wrap64 (x6_1 + 1))) else (none))) else (none)) else (none))) else (none)) else (none)) else (letterboxref9_Fields.l0 kj6 x3_1 (decide (t460 ≥ 0)) t451 (wrap64 (x6_1 + 1))))) = some r := by rw [if_neg (show ¬ (false = true) by decide)] at H; exact H
         clear H; have H := H1; clear H1; replace H := Option.bind_eq_some_iff.mp H; obtain ⟨t460, A340, H⟩ := H; (try dsimp only at H); have A34 := am A340; clear A340
         by_cases c35 : t460 ≥ 0
         ·rw [if_pos c35] at H; have c35b0 : decide (0 ≤ t460) = true := decide_eq_true c35; clear c35
          by_cases c36 : 0 ≤ t460
          ·rw [if_pos c36] at H; have c36b0 := eq_true c36; have c36b1 : decide (0 ≤ t460) = true := decide_eq_true c36; clear c36
           by_cases c37 : t460 ≤ ((strOfNums (rd_L6 t451 x6_1)).size : Int)
           ·rw [if_pos c37] at H; have c37b0 := eq_true c37; have c37b1 : decide (t460 ≤ ((strOfNums (rd_L6 t451 x6_1)).size : Int)) = true := decide_eq_true c37; clear c37; replace H := Option.bind_eq_some_iff.mp H; obtain ⟨t461, A380, H⟩ := H; (try dsimp only at H); have A38 := am A380; clear A380; obtain ⟨ji39, hji39⟩ : ∃ j_ : Int, (wrap64 (t460 + 1)) = j_ := ⟨_, rfl⟩
            replace H : (if 0 ≤ (ji39) then (if (ji39) ≤ ((strOfNums (rd_L6 t451 x6_1)).size : Int) then ((letterboxref9_Trim.f kj6 ((strOfNums (rd_L6 t451 x6_1)).extract ((ji39) : Int).toNat (strOfNums (rd_L6 t451 x6_1)).size)).bind fun t462 => (if x3_1.length < 4398046511104 then (letterboxref9_Fields.l0 kj6 (x3_1 ++ [(⟨t461, t462⟩ : S106)]) (decide (t460 ≥ 0)) t451 (wrap64 (x6_1 + 1))) else (none))) else (none)) else (none)) = some r := by first | (rw [hji39] at H; exact H) | (simp only [hji39] at H ⊢; exact H)
            (try rw [hji39] at A17); (try rw [hji39] at A34); (try rw [hji39] at A38); have hji39w : (IntKind.i64.wrap (t460 + 1)) = ji39 := (i64_w _).trans hji39
            by_cases c40 : 0 ≤ (ji39)
            ·rw [if_pos c40] at H; have c40b0 := eq_true c40; have c40b1 : decide (0 ≤ (ji39)) = true := decide_eq_true c40; clear c40
             by_cases c41 : (ji39) ≤ ((strOfNums (rd_L6 t451 x6_1)).size : Int)
             ·rw [if_pos c41] at H; have c41b0 := eq_true c41; have c41b1 : decide ((ji39) ≤ ((strOfNums (rd_L6 t451 x6_1)).size : Int)) = true := decide_eq_true c41; clear c41; replace H := Option.bind_eq_some_iff.mp H; obtain ⟨t462, A420, H⟩ := H; (try dsimp only at H); have A42 := am A420; clear A420
              by_cases c43 : x3_1.length < 4398046511104
              ·rw [if_pos c43] at H; have LMc43 := am c43; clear c43; obtain ⟨y463, hy463⟩ : ∃ y_ : List (S106), y_ = (x3_1 ++ [(⟨t461, t462⟩ : S106)]) := ⟨_, rfl⟩
               replace H : (letterboxref9_Fields.l0 kj6 y463 (decide (t460 ≥ 0)) t451 (wrap64 (x6_1 + 1))) = some r := by first | (rw [hy463]; with_reducible exact H) | (have H2_ := (Option.bind_some _ _).symm.trans H; rw [hy463]; with_reducible exact H2_) | (have H2_ := (Option.bind_some _ _).symm.trans H; with_reducible exact H2_) | with_reducible exact H | (rw [hy463]; exact H) | exact H
               have Ny463 := am hy463; clear hy463; have H' := am H; clear H; obtain ⟨Ao44, co44, eo44⟩ := Kd.N_slice HO_5.out; subst eo44; have p455 : 0 ≤ (x6_1 : Int) := of_decide_eq_true az; have q455 : x6_1 < (t451.length : Int) := of_decide_eq_true az; obtain ⟨ad455, A455_0, c455_0, e455, hx455_0, hl455_0, hi455_0⟩ := at_L6 (Kd.N_reads' HO_5.out).2.2 x6_1 p455 q455
               cases e455
               obtain ⟨ce455, hce455, hMe455, hcc455⟩ := Kd.N_get HO_5.out [] x6_1 p455 (by first | exact q455 | exact of_decide_eq_true az | (have e_ := (Kd.N_reads' HO_5.out).1; omega)); obtain ⟨ua455_0, uc455_0, rfl, ul455_0, ge455_0⟩ := Kd.FK_slice_open hMe455; have hv455_0 := hcc455 0 _ rfl; rw [Nat.add_zero, show ((Kd.slice 5 (Kd.int .u8))).sz = 1 from rfl, Nat.mul_one] at hv455_0; replace hv455_0 := Option.some.inj (hv455_0.symm.trans hx455_0)
               injection hv455_0 with hva_ hvn_ hvc_
               rw [hva_] at ge455_0; rw [hvc_] at ul455_0; have HL455_0 := am (show Kd.V (Kd.int .u8) 5 _ w.heap.size _ _ (rd_L6 t451 x6_1) from Kd.V_mk ul455_0 ge455_0); clear hva_ hvn_ hvc_ ge455_0 ul455_0 hcc455 hce455; have HR455_0 := am hi455_0; have HC455_0 := am hl455_0; clear hi455_0 hl455_0; replace p455 := eq_true p455; replace q455 := eq_true q455; have hcv45 := Kd.C_string (P := Tryz.prog) (A := A455_0) (c := c455_0) Tryz.underlying34 Tryz.underlying5 Tryz.underlying9 (cz HR455_0.out); have p16 : 0 ≤ (0 : Int) := (by omega); have q16 : 0 < (strOfNums (rd_L6 t451 x6_1)).size := (by have : (0 : Int) < ((strOfNums (rd_L6 t451 x6_1)).size : Int) := of_decide_eq_true az; omega)
               have hx16 : ∀ h : 0 < (strOfNums (rd_L6 t451 x6_1)).size, (((strOfNums (rd_L6 t451 x6_1))[0]'h).toNat : Int) = bt (strOfNums (rd_L6 t451 x6_1)) 0 := bt_at (strOfNums (rd_L6 t451 x6_1)) 0; clear p16; have qi16 : (0 < ((strOfNums (rd_L6 t451 x6_1)).size : Int)) = True := eq_true (of_decide_eq_true az); replace q16 := eq_true q16
               try go_wp2_with (first | ((with_reducible refine gate_callee (f := 75) rfl ?_); refine goesL_ (some 33) rfl rfl Tryz.func75 (by kernel_rfl) rfl #[.int .u8 (bt (strOfNums (rd_L6 t451 x6_1)) 0)] rfl mz ?_; (with_reducible refine (letterboxref9_blank.calls (bt (strOfNums (rd_L6 t451 x6_1)) 0) false _ A17.out).mono ?_); rintro e w' ⟨rfl, ⟨nd, rfl⟩⟩; refine ⟨_, rfl, ?_⟩) | ((with_reducible refine gate_callee (f := 56) rfl ?_); refine goesL_ (some 53) rfl rfl Tryz.func56 (by kernel_rfl) rfl #[.string (strOfNums (rd_L6 t451 x6_1)), .int .u8 58] rfl mz ?_; (with_reducible refine (letterboxref9_Colon.calls kj6 (strOfNums (rd_L6 t451 x6_1)) 58 t460 _ A34.out).mono ?_); rintro e w' ⟨rfl, ⟨nd, rfl⟩⟩; refine ⟨_, rfl, ?_⟩))
               (try (rw [drewN_self wc]; generalize hq_ : World.drewN wc _ = wc; have n0_ : Aside0 (Kd.V (Kd.int .u8) 5 wc w.heap.size (fun k_ => some k_ ≠ (u3 : Value).ownBlock ∧ some k_ ≠ (.slice (some ad455) t451.length co44 : Value).ownBlock) (.slice A455_0 (rd_L6 t451 x6_1).length c455_0) (rd_L6 t451 x6_1)) := ⟨by rw [← hq_]; exact (by (with_reducible repeat (first | apply Kd.V_alloc | apply Kd.V_drewN | apply Kd.V_drew)); exact HL455_0.out)⟩; have n1_ : Aside0 (Kd.R k106 106 wc w.heap.size (fun _ => True) u3 x3_1) := ⟨by rw [← hq_]; exact (rz HO_3.out)⟩; have n2_ : Aside0 (Kd.N (Kd.slice 5 (Kd.int .u8)) 34 wc w.heap.size (fun k_ => some k_ ≠ (u3 : Value).ownBlock) (.slice (some ad455) t451.length co44) t451) := ⟨by rw [← hq_]; exact (nz HO_5.out)⟩; have n3_ : Aside0 (Below w.heap.size w wc) := ⟨by rw [← hq_]; exact bz⟩; have n4_ : Aside0 (Kd.C (Kd.int .u8) wc A455_0 (rd_L6 t451 x6_1).length (rd_L6 t451 x6_1)) := ⟨by rw [← hq_]; exact (cz HR455_0.out)⟩; clear HL455_0 HO_3 HO_5 HB HR455_0 hq_; have HL455_0 := n0_; have HO_3 := n1_; have HO_5 := n2_; have HB := n3_; have HR455_0 := n4_; clear n0_ n1_ n2_ n3_ n4_))
               have n0_ := am (Kd.R_drew HO_3.out); have n1_ := am (Kd.N_drew HO_5.out); have n2_ := am (Kd.V_drew HL455_0.out); have n3_ := am (Kd.C_drew HR455_0.out); have n4_ := am (below_drew1 HB.out); clear HO_3 HO_5 HL455_0 HR455_0 HB; have HO_3 := n0_; have HO_5 := n1_; have HL455_0 := n2_; have HR455_0 := n3_; have HB := n4_; clear n0_ n1_ n2_ n3_ n4_; refine start_ (n := 14) (S := fun w' => True) (ds := []) #[false, false, false, false, false, false, false, false, false, false, false, false, false, false] (by kernel_rfl) rfl rfl trivial (fun hHeld => ?_); refine with_tabW letterboxref9_Fields.tab14 letterboxref9_Fields.bits14 (fun HT_ HW_ => ?_); generalize wc.drew = w46 at HO_3 HO_5 HL455_0 HR455_0 HB hHeld ⊢; refine pure_ (i := 0) (N := some 57) (v := ?_) (a' := ?_) #[true, false, false, false, false, false, false, false, false, false, false, false, false, false] rfl rfl (any_of HT_.out (by kernel_rfl)) (fun _ _ _ h => h) (Or.inl ⟨by rfl, ?_⟩) ?_ ?_; rotate_left
               ·intro w'; go_simp; with_reducible rfl
               rotate_left
               ·simp only [Act.put, List.setIfInBounds_toArray, List.set_cons_zero, List.set_cons_succ, i64_w, i32_w]; rfl
               refine pure_ (i := 1) (N := some 58) (v := ?_) (a' := ?_) #[true, true, false, false, false, false, false, false, false, false, false, false, false, false] rfl rfl (any_of HT_.out (by kernel_rfl)) (fun _ _ _ h => h) (Or.inl ⟨by rfl, ?_⟩) ?_ ?_; rotate_left
               ·intro w'; go_simp; with_reducible rfl
               rotate_left
               ·simp only [Act.put, List.setIfInBounds_toArray, List.set_cons_zero, List.set_cons_succ, i64_w, i32_w]; rfl
               refine pure_ (i := 2) (N := some 59) (v := ?_) (a' := ?_) #[true, true, true, false, false, false, false, false, false, false, false, false, false, false] rfl rfl (any_of HT_.out (by kernel_rfl)) (fun _ _ _ h => h) (Or.inl ⟨by rfl, ?_⟩) ?_ ?_; rotate_left
               ·intro w'; go_simp; with_reducible rfl
               rotate_left
               ·simp only [Act.put, List.setIfInBounds_toArray, List.set_cons_zero, List.set_cons_succ, i64_w, i32_w]; rfl
               refine pure_ (i := 3) (N := some 60) (v := ?_) (a' := ?_) #[true, true, true, true, false, false, false, false, false, false, false, false, false, false] rfl rfl (any_of HT_.out (by kernel_rfl)) (fun _ _ _ h => h) (Or.inl ⟨by rfl, ?_⟩) ?_ ?_; rotate_left
               ·intro w'; go_simp; with_reducible rfl
               rotate_left
               ·simp only [Act.put, List.setIfInBounds_toArray, List.set_cons_zero, List.set_cons_succ, i64_w, i32_w]; rfl
               refine pure_ (i := 5) (N := some 62) (v := ?_) (a' := ?_) #[true, true, true, true, false, true, false, false, false, false, false, false, false, false] rfl rfl (any_of HT_.out (by kernel_rfl)) (fun _ _ _ h => h) (Or.inl ⟨by rfl, ?_⟩) ?_ ?_; rotate_left
               ·intro w'; go_simp; with_reducible rfl
               rotate_left
               ·simp only [Act.put, List.setIfInBounds_toArray, List.set_cons_zero, List.set_cons_succ, i64_w, i32_w]; rfl
               refine pure_ (i := 6) (N := some 63) (v := ?_) (a' := ?_) #[true, true, true, true, false, true, true, false, false, false, false, false, false, false] rfl rfl (any_of HT_.out (by kernel_rfl)) (fun _ _ _ h => h) (Or.inl ⟨by rfl, ?_⟩) ?_ ?_; rotate_left
               ·intro w'; go_simp; with_reducible rfl
               rotate_left
               ·simp only [Act.put, List.setIfInBounds_toArray, List.set_cons_zero, List.set_cons_succ, i64_w, i32_w]; rfl
               refine pure_ (i := 7) (N := some 64) (v := ?_) (a' := ?_) #[true, true, true, true, false, true, true, true, false, false, false, false, false, false] rfl rfl (any_of HT_.out (by kernel_rfl)) (fun _ _ _ h => h) (Or.inl ⟨by rfl, ?_⟩) ?_ ?_; rotate_left
               ·intro w'; go_simp; with_reducible rfl
               rotate_left
               ·simp only [Act.put, List.setIfInBounds_toArray, List.set_cons_zero, List.set_cons_succ, i64_w, i32_w]; rfl
               refine pure_ (i := 8) (N := some 65) (v := ?_) (a' := ?_) #[true, true, true, true, false, true, true, true, true, false, false, false, false, false] rfl rfl (any_of HT_.out (by kernel_rfl)) (fun _ _ _ h => h) (Or.inl ⟨by rfl, ?_⟩) ?_ ?_; rotate_left
               ·intro w'; go_simp; with_reducible rfl
               rotate_left
               ·simp only [Act.put, List.setIfInBounds_toArray, List.set_cons_zero, List.set_cons_succ, i64_w, i32_w]; rfl
               refine one_ (i := 4) (N := some 61) #[true, true, true, true, true, true, true, true, true, false, false, false, false, false] rfl rfl (one_of HT_.out (by kernel_rfl)) (by decide) (fun K hK => ?_); refine goes_ Tryz.func55 (by kernel_rfl) rfl #[.string ((strOfNums (rd_L6 t451 x6_1)).extract 0 (t460 : Int).toNat)] (by rfl) rfl rfl mz ?_
               with_reducible refine (letterboxref9_Trim.calls kj6 ((strOfNums (rd_L6 t451 x6_1)).extract 0 (t460 : Int).toNat) t461 _ A38.out).mono ?_; rintro e w' ⟨rfl, ⟨nd, rfl⟩⟩; refine ⟨_, rfl, ?_⟩; refine hK.out _ _ trivial (fun hHeld => ?_); clear hK K; refine norm_ (a' := ?_) ?_ ?_; rotate_left
               ·show Act.put _ (some 61) _ = _
                simp only [Act.put, List.setIfInBounds_toArray, List.set_cons_zero, List.set_cons_succ, i64_w, i32_w]; rfl
               refine one_ (i := 9) (N := some 66) #[true, true, true, true, true, true, true, true, true, true, false, false, false, false] rfl rfl (one_of HT_.out (by kernel_rfl)) (by decide) (fun K hK => ?_); refine goes_ Tryz.func55 (by kernel_rfl) rfl #[.string ((strOfNums (rd_L6 t451 x6_1)).extract ((ji39) : Int).toNat (strOfNums (rd_L6 t451 x6_1)).size)] (by rfl) rfl rfl (by (try simp only [List.map_toArray, List.map_cons, List.map_nil]); first | done | (simp only [hji39]; rfl) | rfl | (simp only [List.length_drop, List.length_take]; rfl)) ?_
               with_reducible refine (letterboxref9_Trim.calls kj6 ((strOfNums (rd_L6 t451 x6_1)).extract ((ji39) : Int).toNat (strOfNums (rd_L6 t451 x6_1)).size) t462 _ A42.out).mono ?_; rintro e w' ⟨rfl, ⟨nd, rfl⟩⟩; refine ⟨_, rfl, ?_⟩; refine hK.out _ _ trivial (fun hHeld => ?_); clear hK K; refine norm_ (a' := ?_) ?_ ?_; rotate_left
               ·show Act.put _ (some 66) _ = _
                simp only [Act.put, List.setIfInBounds_toArray, List.set_cons_zero, List.set_cons_succ, i64_w, i32_w]; rfl
               refine pure_ (i := 10) (N := some 67) (v := ?_) (a' := ?_) #[true, true, true, true, true, true, true, true, true, true, true, false, false, false] rfl rfl (any_of HT_.out (by kernel_rfl)) (fun _ _ _ h => h) (Or.inl ⟨by rfl, ?_⟩) ?_ ?_; rotate_left
               ·intro w'; go_simp; with_reducible rfl
               rotate_left
               ·simp only [Act.put, List.setIfInBounds_toArray, List.set_cons_zero, List.set_cons_succ, i64_w, i32_w]; rfl
               refine one_ (i := 11) (N := some 68) #[true, true, true, true, true, true, true, true, true, true, true, true, false, false] rfl rfl (one_of HT_.out (by kernel_rfl)) (by decide) (fun K hK => ?_); refine value_ (w1 := ?_) (v := ?_) (by rfl) rfl ?_ ?_; rotate_left 2
               ·go_simp; constructor
                ·rfl
                rfl
               refine hK.out _ _ trivial (fun hHeld => ?_); clear hK K; refine norm_ (a' := ?_) ?_ ?_; rotate_left
               ·show Act.put _ (some 68) _ = _
                simp only [Act.put, List.setIfInBounds_toArray, List.set_cons_zero, List.set_cons_succ, i64_w, i32_w]; rfl
               refine one_ (i := 12) (N := some 69) #[true, true, true, true, true, true, true, true, true, true, true, true, true, false] rfl rfl (one_of HT_.out (by kernel_rfl)) (by decide) (fun K hK => ?_); refine Kd.R_append_step k106 (w0 := w) w.heap.size (by rfl) (.tmp 57) (.tmp 68) 103 106 (.agg #[(.string ⟨#[]⟩), (.string ⟨#[]⟩)]) 32 rfl Tryz.underlying103 info106 rfl (by decide) (by omega) u3 x3_1 (⟨t461, t462⟩ : S106) [.string t461, .string t462] (fun _ => True) (fun _ => False) rfl rfl ?aP (fun _ hk => hk.elim) ?aF ?aO ?aB ?aS ?aL ?_
               (case aP => exact k106_mkM _ _ _ (⟨t461, t462⟩ : S106))
               (case aB => exact bz)
               (case aF => exact (fun _ _ => trivial))
               (case aO => exact (rz HO_3.out))
               (case aS => exact (below_size bz))
               (case aL => have := LMc43.out; omega)
               intro v464 w47 ho hb hg hat; rw [← Ny463.out] at ho; have n0_ := am (Kd.N_afterv (ok := (fun _ => True)) (by (with_reducible repeat (first | apply Kd.N_alloc | apply Kd.N_drewN | apply Kd.N_drew)); exact Kd.N_mono HO_5.out (fun _ hk => ⟨trivial, hk⟩)) hg hat)
               have n1_ := am (Kd.V_afterv (ok := (fun k_ => some k_ ≠ (.slice (some ad455) t451.length co44 : Value).ownBlock)) (by (with_reducible repeat (first | apply Kd.V_alloc | apply Kd.V_drewN | apply Kd.V_drew)); exact Kd.V_mono HL455_0.out (fun _ hk => ⟨hk.2, hk.1⟩)) hg hat); have n2_ := am (hb); have n3_ := am (ho); clear HO_5 HL455_0 HB HO_3; have HO_5 := n0_; have HL455_0 := n1_; have HB := n2_; have HO465 := n3_; clear n0_ n1_ n2_ n3_ ho hb hg hat; refine hK.out _ _ trivial (fun hHeld => ?_); clear hK K; refine norm_ (a' := ?_) ?_ ?_; rotate_left
               ·show Act.put _ (some 69) _ = _
                simp only [Act.put, List.setIfInBounds_toArray, List.set_cons_zero, List.set_cons_succ, i64_w, i32_w]; rfl
               refine pure_ (i := 13) (N := some 3) (v := ?_) (a' := ?_) #[true, true, true, true, true, true, true, true, true, true, true, true, true, true] rfl rfl (any_of HT_.out (by kernel_rfl)) (fun _ _ _ h => h) (Or.inl ⟨by rfl, ?_⟩) ?_ ?_; rotate_left
               ·intro w'; go_simp; with_reducible rfl
               rotate_left
               ·simp only [Act.put, List.setIfInBounds_toArray, List.set_cons_zero, List.set_cons_succ, i64_w, i32_w]; rfl
               refine done_ (done_of HT_.out (by kernel_rfl)) ?_
               try go_wp2
               go_roundg kj6
               case measure => have := HK1.out; have := HJ6.out; omega
               case rel => exact ⟨(y463), (decide (t460 ≥ 0)), (wrap64 (x6_1 + 1)), sz, sz, H', ⟨by have := HK1.out; have := HJ6.out; omega⟩, ⟨rz HO465.out⟩, ⟨by (with_reducible repeat (first | apply Kd.N_alloc | apply Kd.N_drewN | apply Kd.N_drew)); exact Kd.N_mono HO_5.out (fun _ hk => hk.2)⟩, ⟨bz⟩⟩
              rw [if_neg c43] at H
              exact absurd H (by simp)
             rw [if_neg c41] at H
             exact absurd H (by simp)
            rw [if_neg c40] at H
            exact absurd H (by simp)
           rw [if_neg c37] at H
           exact absurd H (by simp)
          rw [if_neg c36] at H
          exact absurd H (by simp)
         rw [if_neg c35] at H; have c35b0 : decide (0 ≤ t460) = false := decide_eq_false c35; clear c35; have H' := am H; clear H; obtain ⟨Ao48, co48, eo48⟩ := Kd.N_slice HO_5.out; subst eo48; have p455 : 0 ≤ (x6_1 : Int) := of_decide_eq_true az; have q455 : x6_1 < (t451.length : Int) := of_decide_eq_true az; obtain ⟨ad455, A455_0, c455_0, e455, hx455_0, hl455_0, hi455_0⟩ := at_L6 (Kd.N_reads' HO_5.out).2.2 x6_1 p455 q455
         cases e455
         obtain ⟨ce455, hce455, hMe455, hcc455⟩ := Kd.N_get HO_5.out [] x6_1 p455 (by first | exact q455 | exact of_decide_eq_true az | (have e_ := (Kd.N_reads' HO_5.out).1; omega)); obtain ⟨ua455_0, uc455_0, rfl, ul455_0, ge455_0⟩ := Kd.FK_slice_open hMe455; have hv455_0 := hcc455 0 _ rfl; rw [Nat.add_zero, show ((Kd.slice 5 (Kd.int .u8))).sz = 1 from rfl, Nat.mul_one] at hv455_0; replace hv455_0 := Option.some.inj (hv455_0.symm.trans hx455_0)
         injection hv455_0 with hva_ hvn_ hvc_
         rw [hva_] at ge455_0; rw [hvc_] at ul455_0; have HL455_0 := am (show Kd.V (Kd.int .u8) 5 _ w.heap.size _ _ (rd_L6 t451 x6_1) from Kd.V_mk ul455_0 ge455_0); clear hva_ hvn_ hvc_ ge455_0 ul455_0 hcc455 hce455; have HR455_0 := am hi455_0; have HC455_0 := am hl455_0; clear hi455_0 hl455_0; replace p455 := eq_true p455; replace q455 := eq_true q455; have hcv49 := Kd.C_string (P := Tryz.prog) (A := A455_0) (c := c455_0) Tryz.underlying34 Tryz.underlying5 Tryz.underlying9 (cz HR455_0.out); have p16 : 0 ≤ (0 : Int) := (by omega); have q16 : 0 < (strOfNums (rd_L6 t451 x6_1)).size := (by have : (0 : Int) < ((strOfNums (rd_L6 t451 x6_1)).size : Int) := of_decide_eq_true az; omega)
         have hx16 : ∀ h : 0 < (strOfNums (rd_L6 t451 x6_1)).size, (((strOfNums (rd_L6 t451 x6_1))[0]'h).toNat : Int) = bt (strOfNums (rd_L6 t451 x6_1)) 0 := bt_at (strOfNums (rd_L6 t451 x6_1)) 0; clear p16; have qi16 : (0 < ((strOfNums (rd_L6 t451 x6_1)).size : Int)) = True := eq_true (of_decide_eq_true az); replace q16 := eq_true q16
         go_wp2_with (first | ((with_reducible refine gate_callee (f := 75) rfl ?_); refine goesL_ (some 33) rfl rfl Tryz.func75 (by kernel_rfl) rfl #[.int .u8 (bt (strOfNums (rd_L6 t451 x6_1)) 0)] rfl mz ?_; (with_reducible refine (letterboxref9_blank.calls (bt (strOfNums (rd_L6 t451 x6_1)) 0) false _ A17.out).mono ?_); rintro e w' ⟨rfl, ⟨nd, rfl⟩⟩; refine ⟨_, rfl, ?_⟩) | ((with_reducible refine gate_callee (f := 56) rfl ?_); refine goesL_ (some 53) rfl rfl Tryz.func56 (by kernel_rfl) rfl #[.string (strOfNums (rd_L6 t451 x6_1)), .int .u8 58] rfl mz ?_; (with_reducible refine (letterboxref9_Colon.calls kj6 (strOfNums (rd_L6 t451 x6_1)) 58 t460 _ A34.out).mono ?_); rintro e w' ⟨rfl, ⟨nd, rfl⟩⟩; refine ⟨_, rfl, ?_⟩))
         go_roundg kj6
         case measure => have := HK1.out; have := HJ6.out; omega
         case rel => exact ⟨(x3_1), (decide (t460 ≥ 0)), (wrap64 (x6_1 + 1)), sz, sz, H', ⟨by have := HK1.out; have := HJ6.out; omega⟩, ⟨rz HO_3.out⟩, ⟨nz HO_5.out⟩, ⟨bz⟩⟩
        rw [if_neg c15] at H
        exact absurd H (by simp)
       rw [if_neg c14] at H
       exact absurd H (by simp)
      rw [if_neg c13] at H
      exact absurd H (by simp)
     replace c12 := Bool.eq_false_iff.mpr c12; subst c12
     have H1 : (some x3_1) = some r := by rw [if_neg (show ¬ (false = true) by decide)] at H; exact H
     clear H; have H := H1; clear H1; obtain rfl := Option.some.inj H
     go_wp2
     go_ret
     exact ⟨_, ez, rz HO_3.out, bz⟩

/-! ### letterboxref9_Get: function 53 -/
def letterboxref9_Get.l0 : Nat → ByteArray → List (S106) → Int → Option (ByteArray × Bool)
 | 0, _, _, _ => none
 | k + 1, x1, x6, x7 => if x7 < (x6.length : Int) then (if 0 ≤ x7 then ((letterboxref9_Same.f ((rd_T106 x6 x7).f0) x1).bind fun t470 => (if t470 = true then (some ((rd_T106 x6 x7).f1, true)) else (letterboxref9_Get.l0 k x1 x6 (wrap64 (x7 + 1))))) else (none)) else (some ((⟨#[]⟩ : ByteArray), false))
def letterboxref9_Get.f (k : Nat) (l0 : List Int) (a1 : ByteArray) : Option (ByteArray × Bool) := (letterboxref9_Fields.f k l0).bind fun t466 => (letterboxref9_Get.l0 k a1 t466 0)
set_option maxHeartbeats 8000000 in
set_option maxRecDepth 100000 in
theorem letterboxref9_Get.calls (k : Nat) (A0 : Option Addr) (c0 : Nat) (l0 : List Int) (a1 : ByteArray) (r1 : ByteArray) (r2 : Bool) (w : World) (hr0 : Kd.C (Kd.int .u8) w A0 l0.length l0) (hc0 : l0.length ≤ c0) (h : letterboxref9_Get.f k l0 a1 = some (r1, r2)) :
  Calls Tryz.prog 53 #[.slice A0 l0.length c0, .string a1] w fun e w' => e = .returned (.tuple #[.string r1, .bool r2]) ∧ Below w.heap.size w w' := by
 have HR0 := am hr0; have HC0 := am hc0; clear hr0 hc0; have HB := am (Below.refl w.heap.size w); have H : ((letterboxref9_Fields.f k l0).bind fun t466 => (letterboxref9_Get.l0 k a1 t466 0)) = some (r1, r2) := h; clear h; replace H := Option.bind_eq_some_iff.mp H; obtain ⟨t466, A30, H⟩ := H; replace H : (letterboxref9_Get.l0 k a1 t466 0) = some (r1, r2) := H; have A3 := am A30; clear A30; have H' := am H; clear H
 go_enter Tryz.func53, Tryz.ntmps53
 go_wp2_with (first | ((with_reducible refine gate_callee (f := 74) rfl ?_); refine goesL_ (some 9) rfl rfl Tryz.func74 (by kernel_rfl) rfl #[.slice A0 l0.length c0] rfl mz ?_; (with_reducible refine (letterboxref9_Fields.calls k _ _ l0 t466 _ ?side1 ?side2 A3.out).mono ?_); (case side1 => exact cz HR0.out); (case side2 => exact HC0.out); rintro e w4 ⟨v467, rfl, ho0, hb⟩; refine ⟨_, rfl, ?_⟩; have n0_ := am (Kd.R_lower ho0 (below_size bz)); have n1_ := am (below_step bz hb); clear HB; have HO468 := n0_; have HB := n1_; clear n0_ n1_; (try clear hb); (try clear hb2); (try clear hk); (try clear hi); (try clear ho0)))
 go_loopg [7] k (fun kq v7 w' => ∃ (x7_1 : Int), v7 = .int .i64 x7_1 ∧ Aside0 (letterboxref9_Get.l0 kq a1 t466 x7_1 = some (r1, r2)) ∧ Aside0 (kq ≤ k) ∧ Aside0 (Kd.R k106 106 w' w.heap.size (fun _ => True) v467 t466) ∧ Aside0 (Below w.heap.size w w'))
 case atStart => exact ⟨(0), sz, H', ⟨Nat.le_refl _⟩, ⟨rz HO468.out⟩, ⟨bz⟩⟩
 case round =>
  clear H'; (try clear p2); obtain ⟨x7_1, rfl, HA, HK1, HO_6, HB⟩ := hrel
  cases gk with
  | zero => exact absurd HA.out (by simp [letterboxref9_Get.l0])
  | succ k1 =>
   have H := HA.out; clear HA; simp only [letterboxref9_Get.l0] at H
   by_cases c5 : x7_1 < (t466.length : Int)
   ·rw [if_pos c5] at H; have c5b0 : decide (x7_1 < (t466.length : Int)) = true := decide_eq_true c5; clear c5
    by_cases c6 : 0 ≤ x7_1
    ·rw [if_pos c6] at H; have c6b0 : decide (0 ≤ x7_1) = true := decide_eq_true c6; clear c6; replace H := Option.bind_eq_some_iff.mp H; obtain ⟨t470, A70, H⟩ := H; (try dsimp only at H); have A7 := am A70; clear A70
     by_cases c8 : t470 = true
     ·subst c8
      have H1 : (some ((rd_T106 t466 x7_1).f1, true)) = some (r1, r2) := by rw [if_pos rfl] at H; exact H
      clear H; have H := H1; clear H1; simp only [Option.some.injEq, Prod.mk.injEq] at H; obtain ⟨rfl, rfl⟩ := H; obtain ⟨Ao9, co9, eo9⟩ := Kd.R_slice HO_6.out; subst eo9; have p469 : 0 ≤ (x7_1 : Int) := of_decide_eq_true az; have q469 : x7_1 < (t466.length : Int) := of_decide_eq_true az; obtain ⟨ad469, e469, hx469_0, hx469_1⟩ := at_T106 (Kd.R_reads' HO_6.out).2.2 x7_1 p469 q469
      cases e469
      replace p469 := eq_true p469; replace q469 := eq_true q469
      go_wp2_with (first | ((with_reducible refine gate_callee (f := 57) rfl ?_); refine goesL_ (some 22) rfl rfl Tryz.func57 (by kernel_rfl) rfl #[.string ((rd_T106 t466 x7_1).f0), .string a1] rfl mz ?_; (with_reducible refine (letterboxref9_Same.calls ((rd_T106 t466 x7_1).f0) a1 true _ A7.out).mono ?_); rintro e w10 ⟨rfl, hb⟩; refine ⟨_, rfl, ?_⟩; replace HO_6 := am (Kd.R_below (rz HO_6.out) hb); replace HB := am (below_step bz hb); (try clear hb); (try clear hb2); (try clear hk); (try clear hi); have p471 : 0 ≤ (x7_1 : Int) := of_decide_eq_true az; have q471 : x7_1 < (t466.length : Int) := of_decide_eq_true az; obtain ⟨ad471, e471, hx471_0, hx471_1⟩ := at_T106 (Kd.R_reads' HO_6.out).2.2 x7_1 p471 q471; obtain rfl : ad469 = ad471 := (by injection e471); replace p471 := eq_true p471; replace q471 := eq_true q471))
      go_ret2
      exact ⟨ez, bz⟩
     replace c8 := Bool.eq_false_iff.mpr c8; subst c8
     have H1 : (letterboxref9_Get.l0 k1 a1 t466 (wrap64 (x7_1 + 1))) = some (r1, r2) := by rw [if_neg (show ¬ (false = true) by decide)] at H; exact H
     clear H; have H := H1; clear H1; have H' := am H; clear H; obtain ⟨Ao11, co11, eo11⟩ := Kd.R_slice HO_6.out; subst eo11; have p469 : 0 ≤ (x7_1 : Int) := of_decide_eq_true az; have q469 : x7_1 < (t466.length : Int) := of_decide_eq_true az; obtain ⟨ad469, e469, hx469_0, hx469_1⟩ := at_T106 (Kd.R_reads' HO_6.out).2.2 x7_1 p469 q469
     cases e469
     replace p469 := eq_true p469; replace q469 := eq_true q469
     go_wp2_with (first | ((with_reducible refine gate_callee (f := 57) rfl ?_); refine goesL_ (some 22) rfl rfl Tryz.func57 (by kernel_rfl) rfl #[.string ((rd_T106 t466 x7_1).f0), .string a1] rfl mz ?_; (with_reducible refine (letterboxref9_Same.calls ((rd_T106 t466 x7_1).f0) a1 false _ A7.out).mono ?_); rintro e w12 ⟨rfl, hb⟩; refine ⟨_, rfl, ?_⟩; replace HO_6 := am (Kd.R_below (rz HO_6.out) hb); replace HB := am (below_step bz hb); (try clear hb); (try clear hb2); (try clear hk); (try clear hi)))
     go_roundg k1
     case measure => have := HK1.out; omega
     case rel => exact ⟨(wrap64 (x7_1 + 1)), sz, H', ⟨by have := HK1.out; omega⟩, ⟨rz HO_6.out⟩, ⟨bz⟩⟩
    rw [if_neg c6] at H
    exact absurd H (by simp)
   rw [if_neg c5] at H; have c5b0 : decide (x7_1 < (t466.length : Int)) = false := decide_eq_false c5; clear c5; simp only [Option.some.injEq, Prod.mk.injEq] at H; obtain ⟨rfl, rfl⟩ := H; obtain ⟨Ao13, co13, eo13⟩ := Kd.R_slice HO_6.out; subst eo13
   go_wp2
   go_ret2
   exact ⟨ez, bz⟩

/-! ### letterboxref10_pieces: function 54 -/
def letterboxref10_pieces.l0 : Nat → ByteArray → Int → List ByteArray → Option (List ByteArray)
 | 0, _, _, _ => none
 | k + 1, x0, x1, x5 => (letterboxref9_Colon.f k x0 x1).bind fun t472 => (if t472 < 0 then (if x5.length < 8796093022208 then (some (x5 ++ [x0])) else (none)) else (if 0 ≤ t472 then (if t472 ≤ (x0.size : Int) then (if x5.length < 8796093022208 then (if 0 ≤ (wrap64 (t472 + 1)) then (if (wrap64 (t472 + 1)) ≤ (x0.size : Int) then (letterboxref10_pieces.l0 k (x0.extract ((wrap64 (t472 + 1)) : Int).toNat x0.size) x1 (x5 ++ [x0.extract 0 (t472 : Int).toNat])) else (none)) else (none)) else (none)) else (none)) else (none)))
def letterboxref10_pieces.f (k : Nat) (a0 : ByteArray) (a1 : Int) : Option (List ByteArray) := letterboxref10_pieces.l0 k a0 a1 ([] : List ByteArray)
set_option maxHeartbeats 8000000 in
set_option maxRecDepth 100000 in
theorem letterboxref10_pieces.calls (k : Nat) (a0 : ByteArray) (a1 : Int) (r : List ByteArray) (w : World) (h : letterboxref10_pieces.f k a0 a1 = some r) :
  Calls Tryz.prog 54 #[.string a0, .int .u8 a1] w fun e w' => ∃ v0_ : Value, e = .returned (v0_) ∧ Kd.R Kd.string 9 w' w.heap.size (fun _ => True) v0_ r ∧ Below w.heap.size w w' := by
 have HB := am (Below.refl w.heap.size w); have H : (letterboxref10_pieces.l0 k a0 a1 ([] : List ByteArray)) = some r := h; clear h; have H' := am H; clear H
 go_enter Tryz.func54, Tryz.ntmps54
 go_wp2
 go_loopg [0, 5] k (fun kq v0 v5 w' => ∃ (x0_1 : ByteArray) (x5_1 : List ByteArray), v0 = .string x0_1 ∧ Aside0 (letterboxref10_pieces.l0 kq x0_1 a1 x5_1 = some r) ∧ Aside0 (kq ≤ k) ∧ Aside0 (Kd.R Kd.string 9 w' w.heap.size (fun _ => True) v5 x5_1) ∧ Aside0 (Below w.heap.size w w'))
 case atStart => exact ⟨(a0), (([] : List ByteArray)), sz, H', ⟨Nat.le_refl _⟩, ⟨nl⟩, ⟨bz⟩⟩
 case round =>
  clear H'; (try clear p2); obtain ⟨x0_1, x5_1, rfl, HA, HK1, HO_5, HB⟩ := hrel
  cases gk with
  | zero => exact absurd HA.out (by simp [letterboxref10_pieces.l0])
  | succ k1 =>
   have H := HA.out; clear HA; simp only [letterboxref10_pieces.l0] at H; replace H := Option.bind_eq_some_iff.mp H; obtain ⟨t472, A30, H⟩ := H; (try dsimp only at H); have A3 := am A30; clear A30
   by_cases c4 : t472 < 0
   ·rw [if_pos c4] at H; have c4b0 : decide (t472 < 0) = true := decide_eq_true c4; clear c4
    by_cases c5 : x5_1.length < 8796093022208
    ·rw [if_pos c5] at H; have LMc5 := am c5; clear c5; obtain ⟨y473, hy473⟩ : ∃ y_ : List ByteArray, y_ = (x5_1 ++ [x0_1]) := ⟨_, rfl⟩
     replace H : (some y473) = some r := by first | (rw [hy473]; with_reducible exact H) | (have H2_ := (Option.bind_some _ _).symm.trans H; rw [hy473]; with_reducible exact H2_) | (have H2_ := (Option.bind_some _ _).symm.trans H; with_reducible exact H2_) | with_reducible exact H | (rw [hy473]; exact H) | exact H
     have Ny473 := am hy473; clear hy473; obtain rfl := Option.some.inj H
     go_wp2_with (first | ((with_reducible refine gate_callee (f := 56) rfl ?_); refine goesL_ (some 9) rfl rfl Tryz.func56 (by kernel_rfl) rfl #[.string x0_1, .int .u8 a1] rfl mz ?_; (with_reducible refine (letterboxref9_Colon.calls k1 x0_1 a1 t472 _ A3.out).mono ?_); rintro e w' ⟨rfl, ⟨nd, rfl⟩⟩; refine ⟨_, rfl, ?_⟩) | ((with_reducible refine gate_builtin (b := .append) (xs := #[.tmp 12, .tmp 14]) rfl ?_); at_builtin; refine Kd.R_append Kd.string (w0 := w) w.heap.size rfl (.tmp 12) (.tmp 14) 49 9 (.string ⟨#[]⟩) 16 rfl Tryz.underlying49 info9 rfl (by decide) (by omega) u5 x5_1 x0_1 [.string x0_1] (fun _ => True) (fun _ => False) rfl rfl ?aP (fun _ hk => hk.elim) ?aF ?aO ?aB ?aS ?aL ?_; (case aP => exact rfl); (case aB => exact bz); (case aF => exact (fun _ _ => trivial)); (case aO => exact (rz HO_5.out)); (case aS => exact (below_size bz)); (case aL => have := LMc5.out; omega); intro v474 w6 ho hb hg hat; (first | rw [← Ny473.out] at ho | (simp only [Int.reduceToNat] at ho; rw [← Ny473.out] at ho)); have n0_ := am (hb); have n1_ := am (ho); clear HB HO_5; have HB := n0_; have HO475 := n1_; clear n0_ n1_; clear ho hb hg hat))
     go_ret
     exact ⟨_, ez, rz HO475.out, bz⟩
    rw [if_neg c5] at H
    exact absurd H (by simp)
   rw [if_neg c4] at H; have c4b0 : decide (t472 < 0) = false := decide_eq_false c4; clear c4
   by_cases c7 : 0 ≤ t472
   ·rw [if_pos c7] at H; have c7b0 := eq_true c7; have c7b1 : decide (0 ≤ t472) = true := decide_eq_true c7; clear c7
    by_cases c8 : t472 ≤ (x0_1.size : Int)
    ·rw [if_pos c8] at H; have c8b0 := eq_true c8; have c8b1 : decide (t472 ≤ (x0_1.size : Int)) = true := decide_eq_true c8; clear c8
     by_cases c9 : x5_1.length < 8796093022208
     ·rw [if_pos c9] at H; have LMc9 := am c9; clear c9; obtain ⟨y476, hy476⟩ : ∃ y_ : List ByteArray, y_ = (x5_1 ++ [x0_1.extract 0 (t472 : Int).toNat]) := ⟨_, rfl⟩
      replace H : (if 0 ≤ (wrap64 (t472 + 1)) then (if (wrap64 (t472 + 1)) ≤ (x0_1.size : Int) then (letterboxref10_pieces.l0 k1 (x0_1.extract ((wrap64 (t472 + 1)) : Int).toNat x0_1.size) a1 y476) else (none)) else (none)) = some r := by first | (rw [hy476]; with_reducible exact H) | (have H2_ := (Option.bind_some _ _).symm.trans H; rw [hy476]; with_reducible exact H2_) | (have H2_ := (Option.bind_some _ _).symm.trans H; with_reducible exact H2_) | with_reducible exact H | (rw [hy476]; exact H) | exact H
      have Ny476 := am hy476; clear hy476; obtain ⟨ji10, hji10⟩ : ∃ j_ : Int, (wrap64 (t472 + 1)) = j_ := ⟨_, rfl⟩
      replace H : (if 0 ≤ (ji10) then (if (ji10) ≤ (x0_1.size : Int) then (letterboxref10_pieces.l0 k1 (x0_1.extract ((ji10) : Int).toNat x0_1.size) a1 y476) else (none)) else (none)) = some r := by first | (rw [hji10] at H; exact H) | (simp only [hji10] at H ⊢; exact H)
      (try rw [hji10] at A3); have hji10w : (IntKind.i64.wrap (t472 + 1)) = ji10 := (i64_w _).trans hji10
      by_cases c11 : 0 ≤ (ji10)
      ·rw [if_pos c11] at H; have c11b0 := eq_true c11; have c11b1 : decide (0 ≤ (ji10)) = true := decide_eq_true c11; clear c11
       by_cases c12 : (ji10) ≤ (x0_1.size : Int)
       ·rw [if_pos c12] at H; have c12b0 := eq_true c12; have c12b1 : decide ((ji10) ≤ (x0_1.size : Int)) = true := decide_eq_true c12; clear c12; have H' := am H; clear H
        go_wp2_with (first | ((with_reducible refine gate_callee (f := 56) rfl ?_); refine goesL_ (some 9) rfl rfl Tryz.func56 (by kernel_rfl) rfl #[.string x0_1, .int .u8 a1] rfl mz ?_; (with_reducible refine (letterboxref9_Colon.calls k1 x0_1 a1 t472 _ A3.out).mono ?_); rintro e w' ⟨rfl, ⟨nd, rfl⟩⟩; refine ⟨_, rfl, ?_⟩) | ((with_reducible refine gate_builtin (b := .append) (xs := #[.tmp 16, .tmp 20]) rfl ?_); at_builtin; refine Kd.R_append Kd.string (w0 := w) w.heap.size rfl (.tmp 16) (.tmp 20) 49 9 (.string ⟨#[]⟩) 16 rfl Tryz.underlying49 info9 rfl (by decide) (by omega) u5 x5_1 (x0_1.extract 0 (t472 : Int).toNat) [.string (x0_1.extract 0 (t472 : Int).toNat)] (fun _ => True) (fun _ => False) rfl rfl ?aP (fun _ hk => hk.elim) ?aF ?aO ?aB ?aS ?aL ?_; (case aP => exact rfl); (case aB => exact bz); (case aF => exact (fun _ _ => trivial)); (case aO => exact (rz HO_5.out)); (case aS => exact (below_size bz)); (case aL => have := LMc9.out; omega); intro v477 w13 ho hb hg hat; (first | rw [← Ny476.out] at ho | (simp only [Int.reduceToNat] at ho; rw [← Ny476.out] at ho)); have n0_ := am (hb); have n1_ := am (ho); clear HB HO_5; have HB := n0_; have HO478 := n1_; clear n0_ n1_; clear ho hb hg hat))
        go_roundg k1
        case measure => have := HK1.out; omega
        case rel => exact ⟨(x0_1.extract ((ji10) : Int).toNat x0_1.size), (y476), (by first | rfl | (simp; done) | (simp only [← hji10] <;> (first | rfl | simp)) | (simp [*]; done)), H', ⟨by have := HK1.out; omega⟩, ⟨rz HO478.out⟩, ⟨bz⟩⟩
       rw [if_neg c12] at H
       exact absurd H (by simp)
      rw [if_neg c11] at H
      exact absurd H (by simp)
     rw [if_neg c9] at H
     exact absurd H (by simp)
    rw [if_neg c8] at H
    exact absurd H (by simp)
   rw [if_neg c7] at H
   exact absurd H (by simp)

end Go.Proofs.YtfabaenfglionaaGreatDoor.P
