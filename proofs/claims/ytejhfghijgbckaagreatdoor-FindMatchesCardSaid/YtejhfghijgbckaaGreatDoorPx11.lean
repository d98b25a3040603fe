/- The walks of the seat's functions, one contract a function: printed by a program of this session's (wip/gen). Not trusted: Lean checks it. -/
import Derived.Test.YtejhfghijgbckaaGreatDoorShort
import Derived.Test.YtejhfghijgbckaaGreatDoorPx0
import Derived.Test.YtejhfghijgbckaaGreatDoorPx2
import Derived.Test.YtejhfghijgbckaaGreatDoorPx10
-- halved
namespace Go.Proofs.YtejhfghijgbckaaGreatDoor.P
open Go.RowKit Go.Proofs.YtejhfghijgbckaaGreatDoorW.PrintWords Go.Proofs.YtejhfghijgbckaaGreatDoorW.PrintLast Go.Proofs.YtejhfghijgbckaaGreatDoorW.PrintMore
attribute [local go_sem] max2_int min2_int max_two min_two max_three min_three max_four min_four   -- for this text's walks alone
set_option linter.unusedVariables false
set_option linter.unusedSimpArgs false

/-! ### letterboxref9_Fields: function 48 -/
mutual
def letterboxref9_Fields.l0 : Nat → List (S78) → Bool → List (List Int) → Int → Option ((List (S78)))
 | 0, _, _, _, _ => none
 | k + 1, x3, x4, x5, x6 => if x6 < (x5.length : Int) then (if 0 ≤ x6 then (letterboxref9_Fields.j1 k x3 x4 x5 x6 (decide (((rd_L7 x5 x6).length : Int) > 0))) else (none)) else (letterboxref9_Fields.j1 k x3 x4 x5 x6 false)
def letterboxref9_Fields.j1 : Nat → List (S78) → Bool → List (List Int) → Int → Bool → Option ((List (S78)))
 | 0, _, _, _, _, _ => none
 | k + 1, x3, x4, x5, x6, x23 => if x23 = true then (if 0 ≤ x6 then (if x6 < (x5.length : Int) then (if 0 < ((strOfNums (rd_L7 x5 x6)).size : Int) then ((letterboxref9_blank.f (bt (strOfNums (rd_L7 x5 x6)) 0)).bind fun t540 => (if t540 = true then (if x4 = true then (if 0 ≤ (wrap64 ((x3.length : Int) - 1)) then (if (wrap64 ((x3.length : Int) - 1)) < (x3.length : Int) then (if ((rd_T78 x3 (wrap64 ((x3.length : Int) - 1))).f1).size + 1 ≤ 9223372036854775807 then ((letterboxref9_Trim.f k (strOfNums (rd_L7 x5 x6))).bind fun t542 => (if ((rd_T78 x3 (wrap64 ((x3.length : Int) - 1))).f1).size + 1 + t542.size ≤ 9223372036854775807 then (letterboxref9_Fields.l0 k (x3.set ((wrap64 ((x3.length : Int) - 1)) : Int).toNat (⟨(rd_T78 x3 (wrap64 ((x3.length : Int) - 1))).f0, (((rd_T78 x3 (wrap64 ((x3.length : Int) - 1))).f1) ++ (⟨#[32]⟩ : ByteArray)) ++ t542⟩ : S78)) x4 x5 (wrap64 (x6 + 1))) else (none))) else (none)) else (none)) else (none)) else (letterboxref9_Fields.l0 k x3 x4 x5 (wrap64 (x6 + 1)))) else ((letterboxref9_Colon.f k (strOfNums (rd_L7 x5 x6)) 58).bind fun t544 => (if t544 ≥ 0 then (if 0 ≤ t544 then (if t544 ≤ ((strOfNums (rd_L7 x5 x6)).size : Int) then ((letterboxref9_Trim.f k ((strOfNums (rd_L7 x5 x6)).extract 0 (t544 : Int).toNat)).bind fun t545 => (if 0 ≤ (wrap64 (t544 + 1)) then (if (wrap64 (t544 + 1)) ≤ ((strOfNums (rd_L7 x5 x6)).size : Int) then ((letterboxref9_Trim.f k ((strOfNums (rd_L7 x5 x6)).extract ((wrap64 (t544 + 1)) : Int).toNat (strOfNums (rd_L7 x5 x6)).size)).bind fun t546 => (if x3.length < 4398046511104 then (letterboxref9_Fields.l0 k (x3 ++ [(⟨t545, t546⟩ : S78)]) (decide (t544 ≥ 0)) x5 (wrap64 (x6 + 1))) else (none))) else (none)) else (none))) else (none)) else (none)) else (letterboxref9_Fields.l0 k x3 (decide (t544 ≥ 0)) x5 (wrap64 (x6 + 1))))))) else (none)) else (none)) else (none)) else (some x3)
end
def letterboxref9_Fields.f (k : Nat) (l0 : List Int) : Option ((List (S78))) := (letterboxref9_Head.f k l0).bind fun t532 => ((letterboxref9_Split.f k t532).bind fun t535 => (letterboxref9_Fields.l0 k ([] : List (S78)) false t535 0))
def letterboxref9_Fields.T10 : Bool × List (List Nat × List Nat) := (true, [([], []), ([], []), ([1], [1]), ([2], [2]), ([], []), ([], []), ([5], [5]), ([6], [6]), ([4, 7], [4, 7]), ([8], [8]), ([9], [9]), ([10], [10]), ([], []), ([12], [12]), ([11, 13], [11, 13]), ([0, 3, 0, 1, 2, 3, 4, 5, 6, 7, 8, 9, 10, 11, 12, 13, 14], [0, 3]), ([15, 0, 1, 2, 3, 4, 5, 6, 7, 8, 9, 10, 11, 12, 13, 14], [15]), ([16, 14, 13, 0, 1, 2, 3, 4, 5, 6, 7, 8, 9, 10, 11, 12, 13, 14], [14, 16])])
def letterboxref9_Fields.B10 : List Nat := [0, 0, 2, 6, 0, 0, 32, 96, 240, 496, 1008, 2032, 0, 4096, 16368, 32767, 65535, 131071]
theorem letterboxref9_Fields.tab10 : rtab .any (opsOf Tryz.f48 10) = letterboxref9_Fields.T10 := by kernel_rfl
theorem letterboxref9_Fields.bits10 : waitsOk letterboxref9_Fields.T10.2 letterboxref9_Fields.B10 = true := by kernel_rfl
def letterboxref9_Fields.T14 : Bool × List (List Nat × List Nat) := (true, [([], []), ([], []), ([], []), ([1, 2], [1, 2]), ([3], [3]), ([], []), ([], []), ([6], [6]), ([5, 7], [5, 7]), ([8, 4], [8]), ([4, 9], [4, 9]), ([10], [10]), ([0, 11, 9], [0, 11]), ([12, 12, 0, 1, 2, 3, 4, 5, 6, 7, 8, 9, 10, 11, 12], [0, 12])])
def letterboxref9_Fields.B14 : List Nat := [0, 0, 0, 6, 14, 0, 0, 64, 224, 510, 1022, 2046, 4095, 8191]
theorem letterboxref9_Fields.tab14 : rtab .any (opsOf Tryz.f48 14) = letterboxref9_Fields.T14 := by kernel_rfl
theorem letterboxref9_Fields.bits14 : waitsOk letterboxref9_Fields.T14.2 letterboxref9_Fields.B14 = true := by kernel_rfl
set_option maxHeartbeats 8000000 in
set_option maxRecDepth 100000 in
theorem letterboxref9_Fields.calls (k : Nat) (A0 : Option Addr) (c0 : Nat) (l0 : List Int) (r : List (S78)) (w : World) (hr0 : Kd.C (Kd.int .u8) w A0 l0.length l0) (hc0 : l0.length ≤ c0) (h : letterboxref9_Fields.f k l0 = some r) :
  Calls Tryz.prog 48 #[.slice A0 l0.length c0] w fun e w' => ∃ v0_ : Value, e = .returned (v0_) ∧ Kd.R k78 78 w' w.heap.size (fun _ => True) v0_ r ∧ Below w.heap.size w w' := by
 have hu78 := Tryz.underlying78; have HR0 := am hr0; have HC0 := am hc0; clear hr0 hc0; have HB := am (Below.refl w.heap.size w); have H : ((letterboxref9_Head.f k l0).bind fun t532 => ((letterboxref9_Split.f k t532).bind fun t535 => (letterboxref9_Fields.l0 k ([] : List (S78)) false t535 0))) = some r := h; clear h; replace H := Option.bind_eq_some_iff.mp H; obtain ⟨t532, A20, H⟩ := H; replace H : ((letterboxref9_Split.f k t532).bind fun t535 => (letterboxref9_Fields.l0 k ([] : List (S78)) false t535 0)) = some r := H; have A2 := am A20; clear A20; replace H := Option.bind_eq_some_iff.mp H; obtain ⟨t535, A30, H⟩ := H; replace H : (letterboxref9_Fields.l0 k ([] : List (S78)) false t535 0) = some r := H; have A3 := am A30; clear A30; have H' := am H; clear H
 go_enter Tryz.func48, Tryz.ntmps48
 go_wp2_with (first | ((with_reducible refine gate_callee (f := 73) rfl ?_); refine goesL_ (some 10) rfl rfl Tryz.func73 (by kernel_rfl) rfl #[.slice A0 l0.length c0] rfl (by (try simp only [List.map_toArray, List.map_cons, List.map_nil]); first | done | rfl | (simp only [List.length_drop, List.length_take]; rfl)) ?_; (with_reducible refine (letterboxref9_Head.calls k (fun k_ => k_ < w.heap.size) _ _ l0 t532 _ ?side1 A2.out).mono ?_); (case side1 => exact Kd.V_mk HC0.out (Kd.F_below (Kd.C_F (Kd.heap_int .u8) HR0.out) (by repeat (first | (with_reducible first | exact HB.out | apply bA | apply bN | apply bD) | exact HB.out)))); rintro e w4 ⟨v533, rfl, ho0, hb⟩; refine ⟨_, rfl, ?_⟩; have n0_ := am (Kd.V_lower (Kd.V_mono (ok' := fun k_ => True) ho0 (fun k_ hk_ => trivial)) (below_size (by repeat (first | (with_reducible first | exact HB.out | apply bA | apply bN | apply bD) | exact HB.out)))); have n1_ := am (below_step (by repeat (first | (with_reducible first | exact HB.out | apply bA | apply bN | apply bD) | exact HB.out)) hb); clear HB; have HO534 := n0_; have HB := n1_; clear n0_ n1_; (try clear hb); (try clear hb2); (try clear hk); (try clear hi); (try clear ho0); obtain ⟨Ao5, co5, eo5⟩ := Kd.V_slice HO534.out; subst eo5) | ((with_reducible refine gate_callee (f := 72) rfl ?_); refine goesL_ (some 11) rfl rfl Tryz.func72 (by kernel_rfl) rfl #[.slice Ao5 t532.length co5] rfl (by (try simp only [List.map_toArray, List.map_cons, List.map_nil]); first | done | rfl | (simp only [List.length_drop, List.length_take]; rfl)) ?_; (with_reducible refine (letterboxref9_Split.calls k (fun k_ => True) _ _ t532 t535 _ ?side1 A3.out).mono ?_); (case side1 => exact HO534.out); rintro e w6 ⟨v536, rfl, ho0, hb⟩; refine ⟨_, rfl, ?_⟩; have n0_ := am (Kd.V_elder' (by (with_reducible repeat (first | apply Kd.V_alloc | apply Kd.V_drewN | apply Kd.V_drew)); exact HO534.out) (Kd.N_base ho0) hb); have n1_ := am (Kd.N_lower (Kd.N_mono (ok' := fun k_ => True) ho0 (fun k_ hk_ => trivial)) (below_size (by repeat (first | (with_reducible first | exact HB.out | apply bA | apply bN | apply bD) | exact HB.out)))); have n2_ := am (below_step (by repeat (first | (with_reducible first | exact HB.out | apply bA | apply bN | apply bD) | exact HB.out)) hb); clear HO534 HB; have HO534 := n0_; have HO537 := n1_; have HB := n2_; clear n0_ n1_ n2_; (try clear hb); (try clear hb2); (try clear hk); (try clear hi); (try clear ho0)))
 go_loopg [3, 4, 6] k (fun kq v3 v4 v6 w' => ∃ (x3_1 : List (S78)) (x4_1 : Bool) (x6_1 : Int), v4 = .bool x4_1 ∧ v6 = .int .i64 x6_1 ∧ Aside0 (letterboxref9_Fields.l0 kq x3_1 x4_1 t535 x6_1 = some r) ∧ Aside0 (kq ≤ k) ∧ Aside0 (Kd.R k78 78 w' w.heap.size (fun _ => True) v3 x3_1) ∧ Aside0 (Kd.N (Kd.slice 5 (Kd.int .u8)) 35 w' w.heap.size (fun k_ => some k_ ≠ (v3 : Value).ownBlock) v536 t535) ∧ Aside0 (Below w.heap.size w w'))
 case atStart => exact ⟨(([] : List (S78))), (false), (0), (by first | rfl | (simp; done) | (simp [*]; done)), (by first | rfl | (simp; done) | (simp [*]; done)), H', ⟨Nat.le_refl _⟩, ⟨by first | exact Kd.R_nil _ _ _ _ _ | exact Kd.N_nil _ _ _ _ _ | exact Kd.V_nil _ _ _ _ _ | exact Kd.Q_nil _ _ _ _ _ | exact Kd.S_nil _ _ _ _ _⟩, ⟨by (with_reducible repeat (first | apply Kd.N_alloc | apply Kd.N_drewN | apply Kd.N_drew)); exact Kd.N_mono HO537.out (fun _ hk => (by simp [Value.ownBlock]))⟩, ⟨by repeat (first | (with_reducible first | exact HB.out | apply bA | apply bN | apply bD) | exact HB.out)⟩⟩
 case round =>
  clear H'; (try clear p2); (try clear c4); obtain ⟨x3_1, x4_1, x6_1, rfl, rfl, HA, HK1, HO_3, HO_5, HB⟩ := hrel
  cases gk with
  | zero => exact absurd HA.out (by simp [letterboxref9_Fields.l0])
  | succ k1 =>
   have H := HA.out; clear HA; simp only [letterboxref9_Fields.l0] at H; have HC7 := am H; clear H
   go_upto_region 5 with (fail)
   go_cut [23] (fun v23 wc => ∃ (kq : Nat) (x23_6 : Bool), v23 = .bool x23_6 ∧ Aside0 (letterboxref9_Fields.j1 kq x3_1 x4_1 t535 x6_1 x23_6 = some r) ∧ Aside0 (kq ≤ k1) ∧ Aside0 (Kd.R k78 78 wc w.heap.size (fun _ => True) u3 x3_1) ∧ Aside0 (Kd.N (Kd.slice 5 (Kd.int .u8)) 35 wc w.heap.size (fun k_ => some k_ ≠ (u3 : Value).ownBlock) v536 t535) ∧ Aside0 (Below w.heap.size w wc))
   case first =>
    have H := HC7.out; clear HC7
    by_cases c8 : x6_1 < (t535.length : Int)
    ·rw [if_pos c8] at H; have c8b0 : decide (x6_1 < (t535.length : Int)) = true := decide_eq_true c8; clear c8
     (first | rw [c8b0] | (simp only [i64_w, i32_w]; rw [c8b0]) | skip)
     by_cases c9 : 0 ≤ x6_1
     ·rw [if_pos c9] at H; have c9b0 : decide (0 ≤ x6_1) = true := decide_eq_true c9; clear c9; have H' := am H; clear H; obtain ⟨Ao10, co10, eo10⟩ := Kd.N_slice HO_5.out; subst eo10; have p538 : 0 ≤ (x6_1 : Int) := of_decide_eq_true (by first | (with_reducible assumption) | assumption); have q538 : x6_1 < (t535.length : Int) := of_decide_eq_true (by first | (with_reducible assumption) | assumption); obtain ⟨ad538, A538_0, c538_0, e538, hx538_0, hl538_0, hi538_0⟩ := at_L7 (Kd.N_reads' HO_5.out).2.2 x6_1 p538 q538
      cases e538
      obtain ⟨ce538, hce538, hMe538, hcc538⟩ := Kd.N_get HO_5.out [] x6_1 p538 (by first | exact q538 | exact of_decide_eq_true (by first | (with_reducible assumption) | assumption) | (have e_ := (Kd.N_reads' HO_5.out).1; omega)); obtain ⟨ua538_0, uc538_0, rfl, ul538_0, ge538_0⟩ := Kd.FK_slice_open hMe538; have hv538_0 := hcc538 0 _ rfl; rw [Nat.add_zero, show ((Kd.slice 5 (Kd.int .u8))).sz = 1 from rfl, Nat.mul_one] at hv538_0; replace hv538_0 := Option.some.inj (hv538_0.symm.trans hx538_0)
      injection hv538_0 with hva_ hvn_ hvc_
      rw [hva_] at ge538_0; rw [hvc_] at ul538_0; have HL538_0 := am (show Kd.V (Kd.int .u8) 5 _ w.heap.size _ _ (rd_L7 t535 x6_1) from Kd.V_mk ul538_0 ge538_0); clear hva_ hvn_ hvc_ ge538_0 ul538_0 hcc538 hce538; have HR538_0 := am hi538_0; have HC538_0 := am hl538_0; clear hi538_0 hl538_0; replace p538 := eq_true p538; replace q538 := eq_true q538
      go_wp2
      go_meet
      case rel => exact ⟨_, (decide (((rd_L7 t535 x6_1).length : Int) > 0)), (by first | rfl | (simp; done) | (simp [*]; done)), H', ⟨by have := HK1.out; first | omega | exact Nat.le_refl _⟩, ⟨by (with_reducible repeat first | apply rA | apply rN | apply rD); exact HO_3.out⟩, ⟨by (with_reducible repeat (first | apply Kd.N_alloc | apply Kd.N_drewN | apply Kd.N_drew)); exact HO_5.out⟩, ⟨by repeat (first | (with_reducible first | exact HB.out | apply bA | apply bN | apply bD) | exact HB.out)⟩⟩
     rw [if_neg c9] at H
     exact absurd H (by simp)
    rw [if_neg c8] at H; have c8b0 : decide (x6_1 < (t535.length : Int)) = false := decide_eq_false c8; clear c8
    (first | rw [c8b0] | (simp only [i64_w, i32_w]; rw [c8b0]) | skip)
    have H' := am H; clear H; obtain ⟨Ao11, co11, eo11⟩ := Kd.N_slice HO_5.out; subst eo11
    go_wp2
    go_meet
    case rel => exact ⟨_, (false), (by first | rfl | (simp; done) | (simp [*]; done)), H', ⟨by have := HK1.out; first | omega | exact Nat.le_refl _⟩, ⟨by (with_reducible repeat first | apply rA | apply rN | apply rD); exact HO_3.out⟩, ⟨by (with_reducible repeat (first | apply Kd.N_alloc | apply Kd.N_drewN | apply Kd.N_drew)); exact HO_5.out⟩, ⟨by repeat (first | (with_reducible first | exact HB.out | apply bA | apply bN | apply bD) | exact HB.out)⟩⟩
   case rest =>
    clear HC7; (try clear p2); (try clear c4); (try clear c5); (try clear p5); (try clear q5); (try clear hx5); (try clear c7); (try clear c8); (try clear c8b0); (try clear c9); (try clear c9b0); (try clear hx538_0); (try clear p2); (try clear p538); (try clear q538); obtain ⟨kq, x23_6, rfl, HA, HJ6, HO_3, HO_5, HB⟩ := hcut
    cases kq with
    | zero => exact absurd HA.out (by simp [letterboxref9_Fields.j1])
    | succ kj6 =>
     have H := HA.out; clear HA; simp only [letterboxref9_Fields.j1] at H
     by_cases c12 : x23_6 = true
     ·subst c12
      have H1 : (if 0 ≤ x6_1 then (if x6_1 < (t535.length : Int) then (if 0 < ((strOfNums (rd_L7 t535 x6_1)).size : Int) then ((letterboxref9_blank.f (bt (strOfNums (rd_L7 t535 x6_1)) 0)).bind fun t540 => (if t540 = true then (if x4_1 = true then (if 0 ≤ (wrap64 ((x3_1.length : Int) - 1)) then (if (wrap64 ((x3_1.length : Int) - 1)) < (x3_1.length : Int) then (if ((rd_T78 x3_1 (wrap64 ((x3_1.length : Int) - 1))).f1).size + 1 ≤ 9223372036854775807 then ((letterboxref9_Trim.f kj6 (strOfNums (rd_L7 t535 x6_1))).bind fun t542 => (if ((rd_T78 x3_1 (wrap64 ((x3_1.length : Int) - 1))).f1).size + 1 + t542.size ≤ 9223372036854775807 then (letterboxref9_Fields.l0 kj6 (x3_1.set ((wrap64 ((x3_1.length : Int) - 1)) : Int).toNat (⟨(rd_T78 x3_1 (wrap64 ((x3_1.length : Int) - 1))).f0, (((rd_T78 x3_1 (wrap64 ((x3_1.length : Int) - 1))).f1) ++ (⟨#[32]⟩ : ByteArray)) ++ t542⟩ : S78)) x4_1 t535 (wrap64 (x6_1 + 1))) else (none))) else (none)) else (none)) else (none)) else (letterboxref9_Fields.l0 kj6 x3_1 x4_1 t535 (wrap64 (x6_1 + 1)))) else ((letterboxref9_Colon.f kj6 (strOfNums (rd_L7 t535 x6_1)) 58).bind fun t544 => (if t544 ≥ 0 then (if 0 ≤ t544 then (if t544 ≤ ((strOfNums (rd_L7 t535 x6_1)).size : Int) then ((letterboxref9_Trim.f kj6 ((strOfNums (rd_L7 t535 x6_1)).extract 0 (t544 : Int).toNat)).bind fun t545 => (if 0 ≤ (wrap64 (t544 + 1)) then (if (wrap64 (t544 + 1)) ≤ ((strOfNums (rd_L7 t535 x6_1)).size : Int) then ((letterboxref9_Trim.f kj6 ((strOfNums (rd_L7 t535 x6_1)).extract ((wrap64 (t544 + 1)) : Int).toNat (strOfNums (rd_L7 t535 x6_1)).size)).bind fun t546 => (if x3_1.length < 4398046511104 then (letterboxref9_Fields.l0 kj6 (x3_1 ++ [(⟨t545, t546⟩ : S78)]) (decide (t544 ≥ 0)) t535 (wrap64 (x6_1 + 1))) else (none))) else (none)) else (none))) else (none)) else (none)) else (letterboxref9_Fields.l0 kj6 x3_1 (decide (t544 ≥ 0)) t535 (wrap64 (x6_1 + 1))))))) else (none)) else (none)) else (none)) = some r := by rw [if_pos rfl] at H; exact H
      clear H; have H := H1; clear H1
      by_cases c13 : 0 ≤ x6_1
      ·rw [if_pos c13] at H; have c13b0 : decide (0 ≤ x6_1) = true := decide_eq_true c13; clear c13
       by_cases c14 : x6_1 < (t535.length : Int)
       ·rw [if_pos c14] at H; have c14b0 : decide (x6_1 < (t535.length : Int)) = true := decide_eq_true c14; clear c14
        by_cases c15 : 0 < ((strOfNums (rd_L7 t535 x6_1)).size : Int)
        ·rw [if_pos c15] at H; have c15b0 : decide (0 < ((strOfNums (rd_L7 t535 x6_1)).size : Int)) = true := decide_eq_true c15; have c15b1 : decide (0 < (strOfNums (rd_L7 t535 x6_1)).size) = true := decide_eq_true (by omega); clear c15; replace H := Option.bind_eq_some_iff.mp H; obtain ⟨t540, A170, H⟩ := H; (try dsimp only at H); have A17 := am A170; clear A170
         by_cases c18 : t540 = true
         ·subst c18
          have H1 : (if x4_1 = true then (if 0 ≤ (wrap64 ((x3_1.length : Int) - 1)) then (if (wrap64 ((x3_1.length : Int) - 1)) < (x3_1.length : Int) then (if ((rd_T78 x3_1 (wrap64 ((x3_1.length : Int) - 1))).f1).size + 1 ≤ 9223372036854775807 then ((letterboxref9_Trim.f kj6 (strOfNums (rd_L7 t535 x6_1))).bind fun t542 => (if ((rd_T78 x3_1 (wrap64 ((x3_1.length : Int) - 1))).f1).size + 1 + t542.size ≤ 9223372036854775807 then (letterboxref9_Fields.l0 kj6 (x3_1.set ((wrap64 ((x3_1.length : Int) - 1)) : Int).toNat (⟨(rd_T78 x3_1 (wrap64 ((x3_1.length : Int) - 1))).f0, (((rd_T78 x3_1 (wrap64 ((x3_1.length : Int) - 1))).f1) ++ (⟨#[32]⟩ : ByteArray)) ++ t542⟩ : S78)) x4_1 t535 (wrap64 (x6_1 + 1))) else (none))) else (none)) else (none)) else (none)) else (letterboxref9_Fields.l0 kj6 x3_1 x4_1 t535 (wrap64 (x6_1 + 1)))) = some r := by rw [if_pos rfl] at H; exact H
          clear H; have H := H1; clear H1
          by_cases c19 : x4_1 = true
          ·subst c19
           have H1 : (if 0 ≤ (wrap64 ((x3_1.length : Int) - 1)) then (if (wrap64 ((x3_1.length : Int) - 1)) < (x3_1.length : Int) then (if ((rd_T78 x3_1 (wrap64 ((x3_1.length : Int) - 1))).f1).size + 1 ≤ 9223372036854775807 then ((letterboxref9_Trim.f kj6 (strOfNums (rd_L7 t535 x6_1))).bind fun t542 => (if ((rd_T78 x3_1 (wrap64 ((x3_1.length : Int) - 1))).f1).size + 1 + t542.size ≤ 9223372036854775807 then (letterboxref9_Fields.l0 kj6 (x3_1.set ((wrap64 ((x3_1.length : Int) - 1)) : Int).toNat (⟨(rd_T78 x3_1 (wrap64 ((x3_1.length : Int) - 1))).f0, (((rd_T78 x3_1 (wrap64 ((x3_1.length : Int) - 1))).f1) ++ (⟨#[32]⟩ : ByteArray)) ++ t542⟩ : S78)) true t535 (wrap64 (x6_1 + 1))) else (none))) else (none)) else (none)) else (none)) = some r := by rw [if_pos rfl] at H; exact H
           clear H; have H := H1; clear H1; obtain ⟨ji20, hji20⟩ : ∃ j_ : Int, (wrap64 ((x3_1.length : Int) - 1)) = j_ := ⟨_, rfl⟩
           replace H : (if 0 ≤ (ji20) then (if (ji20) < (x3_1.length : Int) then (if ((rd_T78 x3_1 (ji20)).f1).size + 1 ≤ 9223372036854775807 then ((letterboxref9_Trim.f kj6 (strOfNums (rd_L7 t535 x6_1))).bind fun t542 => (if ((rd_T78 x3_1 (ji20)).f1).size + 1 + t542.size ≤ 9223372036854775807 then (letterboxref9_Fields.l0 kj6 (x3_1.set ((ji20) : Int).toNat (⟨(rd_T78 x3_1 (ji20)).f0, (((rd_T78 x3_1 (ji20)).f1) ++ (⟨#[32]⟩ : ByteArray)) ++ t542⟩ : S78)) true t535 (wrap64 (x6_1 + 1))) else (none))) else (none)) else (none)) else (none)) = some r := by first | (rw [hji20] at H; exact H) | (simp only [hji20] at H ⊢; exact H)
           (try rw [hji20] at A17); have hji20w : (IntKind.i64.wrap ((x3_1.length : Int) - 1)) = ji20 := (i64_w _).trans hji20
           by_cases c21 : 0 ≤ (ji20)
           ·rw [if_pos c21] at H; have c21b0 : decide (0 ≤ (ji20)) = true := decide_eq_true c21; clear c21
            by_cases c22 : (ji20) < (x3_1.length : Int)
            ·rw [if_pos c22] at H; have c22b0 : decide ((ji20) < (x3_1.length : Int)) = true := decide_eq_true c22; clear c22
             by_cases c23 : ((rd_T78 x3_1 (ji20)).f1).size + 1 ≤ 9223372036854775807
             ·rw [if_pos c23] at H; have c23b0 := eq_true c23; have c23b1 : decide (((rd_T78 x3_1 (ji20)).f1).size + 1 ≤ 9223372036854775807) = true := decide_eq_true c23
              try have c23b2 : (9223372036854775807 < ((rd_T78 x3_1 (ji20)).f1).size + 1) = False := eq_false (Nat.not_lt.2 c23)
              replace H := Option.bind_eq_some_iff.mp H; obtain ⟨t542, A240, H⟩ := H; (try dsimp only at H); have A24 := am A240; clear A240
              by_cases c25 : ((rd_T78 x3_1 (ji20)).f1).size + 1 + t542.size ≤ 9223372036854775807
              ·rw [if_pos c25] at H; have c25b0 := eq_true c25; have c25b1 : decide (((rd_T78 x3_1 (ji20)).f1).size + 1 + t542.size ≤ 9223372036854775807) = true := decide_eq_true c25
               try have c25b2 : (9223372036854775807 < ((rd_T78 x3_1 (ji20)).f1).size + 1 + t542.size) = False := eq_false (Nat.not_lt.2 c25)
               obtain ⟨y543, hy543⟩ : ∃ y_ : List (S78), y_ = (x3_1.set ((ji20) : Int).toNat (⟨(rd_T78 x3_1 (ji20)).f0, (((rd_T78 x3_1 (ji20)).f1) ++ (⟨#[32]⟩ : ByteArray)) ++ t542⟩ : S78)) := ⟨_, rfl⟩
               replace H : (letterboxref9_Fields.l0 kj6 y543 true t535 (wrap64 (x6_1 + 1))) = some r := by first | (rw [hy543]; with_reducible exact H) | (have H2_ := (Option.bind_some _ _).symm.trans H; rw [hy543]; with_reducible exact H2_) | (have H2_ := (Option.bind_some _ _).symm.trans H; with_reducible exact H2_) | with_reducible exact H | (rw [hy543]; exact H) | exact H
               have Ny543 := am hy543; clear hy543; have H' := am H; clear H; obtain ⟨Ao27, co27, eo27⟩ := Kd.N_slice HO_5.out; subst eo27; have p539 : 0 ≤ (x6_1 : Int) := of_decide_eq_true (by first | (with_reducible assumption) | assumption); have q539 : x6_1 < (t535.length : Int) := of_decide_eq_true (by first | (with_reducible assumption) | assumption); obtain ⟨ad539, A539_0, c539_0, e539, hx539_0, hl539_0, hi539_0⟩ := at_L7 (Kd.N_reads' HO_5.out).2.2 x6_1 p539 q539
               cases e539
               obtain ⟨ce539, hce539, hMe539, hcc539⟩ := Kd.N_get HO_5.out [] x6_1 p539 (by first | exact q539 | exact of_decide_eq_true (by first | (with_reducible assumption) | assumption) | (have e_ := (Kd.N_reads' HO_5.out).1; omega)); obtain ⟨ua539_0, uc539_0, rfl, ul539_0, ge539_0⟩ := Kd.FK_slice_open hMe539; have hv539_0 := hcc539 0 _ rfl; rw [Nat.add_zero, show ((Kd.slice 5 (Kd.int .u8))).sz = 1 from rfl, Nat.mul_one] at hv539_0; replace hv539_0 := Option.some.inj (hv539_0.symm.trans hx539_0)
               injection hv539_0 with hva_ hvn_ hvc_
               rw [hva_] at ge539_0; rw [hvc_] at ul539_0; have HL539_0 := am (show Kd.V (Kd.int .u8) 5 _ w.heap.size _ _ (rd_L7 t535 x6_1) from Kd.V_mk ul539_0 ge539_0); clear hva_ hvn_ hvc_ ge539_0 ul539_0 hcc539 hce539; have HR539_0 := am hi539_0; have HC539_0 := am hl539_0; clear hi539_0 hl539_0; replace p539 := eq_true p539; replace q539 := eq_true q539; have hcv28 := Kd.C_string (P := Tryz.prog) (A := A539_0) (c := c539_0) Tryz.underlying35 Tryz.underlying5 Tryz.underlying9 (by repeat (first | (with_reducible exact HR539_0.out) | (with_reducible refine Kd.C_alloc ?_ _) | (with_reducible refine Kd.C_drewN ?_ _) | (with_reducible refine Kd.C_drew ?_) | exact HR539_0.out)); have p16 : 0 ≤ (0 : Int) := (by omega); have q16 : 0 < (strOfNums (rd_L7 t535 x6_1)).size := (by have : (0 : Int) < ((strOfNums (rd_L7 t535 x6_1)).size : Int) := of_decide_eq_true (by first | (with_reducible assumption) | assumption); omega); have hx16 : ∀ h : 0 < (strOfNums (rd_L7 t535 x6_1)).size, (((strOfNums (rd_L7 t535 x6_1))[0]'h).toNat : Int) = bt (strOfNums (rd_L7 t535 x6_1)) 0 := bt_at (strOfNums (rd_L7 t535 x6_1)) 0; clear p16; have qi16 : (0 < ((strOfNums (rd_L7 t535 x6_1)).size : Int)) = True := eq_true (of_decide_eq_true (by first | (with_reducible assumption) | assumption)); replace q16 := eq_true q16
               try go_wp2_with (first | ((with_reducible refine gate_callee (f := 74) rfl ?_); refine goesL_ (some 33) rfl rfl Tryz.func74 (by kernel_rfl) rfl #[.int .u8 (bt (strOfNums (rd_L7 t535 x6_1)) 0)] rfl (by (try simp only [List.map_toArray, List.map_cons, List.map_nil]); first | done | rfl | (simp only [List.length_drop, List.length_take]; rfl)) ?_; (with_reducible refine (letterboxref9_blank.calls (bt (strOfNums (rd_L7 t535 x6_1)) 0) true _ A17.out).mono ?_); rintro e w' ⟨rfl, ⟨nd, rfl⟩⟩; refine ⟨_, rfl, ?_⟩; (try (rw [drewN_self wc]; generalize hq_ : World.drewN wc _ = wc; have n0_ : Aside0 (Kd.V (Kd.int .u8) 5 wc w.heap.size (fun k_ => some k_ ≠ (u3 : Value).ownBlock ∧ some k_ ≠ (.slice (some ad539) t535.length co27 : Value).ownBlock) (.slice A539_0 (rd_L7 t535 x6_1).length c539_0) (rd_L7 t535 x6_1)) := ⟨by rw [← hq_]; exact (by (with_reducible repeat (first | apply Kd.V_alloc | apply Kd.V_drewN | apply Kd.V_drew)); exact HL539_0.out)⟩; have n1_ : Aside0 (Kd.R k78 78 wc w.heap.size (fun _ => True) u3 x3_1) := ⟨by rw [← hq_]; exact (by (with_reducible repeat first | apply rA | apply rN | apply rD); exact HO_3.out)⟩; have n2_ : Aside0 (Kd.N (Kd.slice 5 (Kd.int .u8)) 35 wc w.heap.size (fun k_ => some k_ ≠ (u3 : Value).ownBlock) (.slice (some ad539) t535.length co27) t535) := ⟨by rw [← hq_]; exact (by (with_reducible repeat (first | apply Kd.N_alloc | apply Kd.N_drewN | apply Kd.N_drew)); exact HO_5.out)⟩; have n3_ : Aside0 (Below w.heap.size w wc) := ⟨by rw [← hq_]; exact (by repeat (first | (with_reducible first | exact HB.out | apply bA | apply bN | apply bD) | exact HB.out))⟩; have n4_ : Aside0 (Kd.C (Kd.int .u8) wc A539_0 (rd_L7 t535 x6_1).length (rd_L7 t535 x6_1)) := ⟨by rw [← hq_]; exact (by repeat (first | (with_reducible exact HR539_0.out) | (with_reducible refine Kd.C_alloc ?_ _) | (with_reducible refine Kd.C_drewN ?_ _) | (with_reducible refine Kd.C_drew ?_) | exact HR539_0.out))⟩; clear HL539_0 HO_3 HO_5 HB HR539_0 hq_; have HL539_0 := n0_; have HO_3 := n1_; have HO_5 := n2_; have HB := n3_; have HR539_0 := n4_; clear n0_ n1_ n2_ n3_ n4_))))
               have n0_ := am (Kd.R_drew HO_3.out); have n1_ := am (Kd.N_drew HO_5.out); have n2_ := am (Kd.V_drew HL539_0.out); have n3_ := am (Kd.C_drew HR539_0.out); have n4_ := am (below_drew1 HB.out); clear HO_3 HO_5 HL539_0 HR539_0 HB; have HO_3 := n0_; have HO_5 := n1_; have HL539_0 := n2_; have HR539_0 := n3_; have HB := n4_; clear n0_ n1_ n2_ n3_ n4_; obtain ⟨Ao30, co30, eo30⟩ := Kd.R_slice HO_3.out
               (first | subst eo30 | (injection eo30 with f1_ f2_ f3_; have f4_ := f1_.symm; have f5_ := f3_.symm; clear f1_ f2_ f3_; subst f4_; subst f5_))
               have p541 : 0 ≤ ((ji20) : Int) := of_decide_eq_true (by first | (with_reducible assumption) | assumption); have q541 : (ji20) < (x3_1.length : Int) := of_decide_eq_true (by first | (with_reducible assumption) | assumption); obtain ⟨ad541, e541, hx541_0, hx541_1⟩ := at_T78 (Kd.R_reads' HO_3.out).2.2 (ji20) p541 q541
               cases e541
               replace p541 := eq_true p541; replace q541 := eq_true q541; refine start_ (n := 18) (S := fun w' => w'.cell? (ad541.add (((ji20)).toNat * 2)) = some (.string ((rd_T78 x3_1 (ji20)).f0)) ∧ w'.cell? ⟨(ad541.add (((ji20)).toNat * 2)).block, (ad541.add (((ji20)).toNat * 2)).off + 1, none⟩ = some (.string ((rd_T78 x3_1 (ji20)).f1))) (ds := [17]) #[false, false, false, false, false, false, false, false, false, false, false, false, false, false, false, false, false, false] (by kernel_rfl) rfl rfl ⟨hx541_0, hx541_1⟩ (fun hHeld => ?_); refine with_tabW letterboxref9_Fields.tab10 letterboxref9_Fields.bits10 (fun HT_ HW_ => ?_); generalize wc.drew = w29 at HO_3 HO_5 HL539_0 HR539_0 HB hx541_0 hx541_1 hHeld ⊢; refine pure_ (i := 0) (N := some 35) (v := ?_) (a' := ?_) #[true, false, false, false, false, false, false, false, false, false, false, false, false, false, false, false, false, false] rfl rfl (any_of HT_.out (by kernel_rfl)) (fun _ _ _ h => h) (Or.inl ⟨by rfl, ?_⟩) ?_ ?_; rotate_left
               ·intro w'; go_simp; with_reducible rfl
               rotate_left
               ·simp only [Act.put, List.setIfInBounds_toArray, List.set_cons_zero, List.set_cons_succ, i64_w, i32_w]; rfl
               refine pure_ (i := 1) (N := some 36) (v := ?_) (a' := ?_) #[true, true, false, false, false, false, false, false, false, false, false, false, false, false, false, false, false, false] rfl rfl (any_of HT_.out (by kernel_rfl)) (fun _ _ _ h => h) (Or.inl ⟨by rfl, ?_⟩) ?_ ?_; rotate_left
               ·intro w'; go_simp; with_reducible rfl
               rotate_left
               ·simp only [Act.put, List.setIfInBounds_toArray, List.set_cons_zero, List.set_cons_succ, i64_w, i32_w]; rfl
               refine pure_ (i := 2) (N := some 37) (v := ?_) (a' := ?_) #[true, true, true, false, false, false, false, false, false, false, false, false, false, false, false, false, false, false] rfl rfl (any_of HT_.out (by kernel_rfl)) (fun _ _ _ h => h) (Or.inl ⟨by rfl, ?_⟩) ?_ ?_; rotate_left
               ·intro w'; go_simp; with_reducible rfl
               rotate_left
               ·simp only [Act.put, List.setIfInBounds_toArray, List.set_cons_zero, List.set_cons_succ, i64_w, i32_w]; rfl
               refine pure_ (i := 3) (N := some 38) (v := ?_) (a' := ?_) #[true, true, true, true, false, false, false, false, false, false, false, false, false, false, false, false, false, false] rfl rfl (any_of HT_.out (by kernel_rfl)) (fun _ _ _ h => h) (Or.inl ⟨by rfl, ?_⟩) ?_ ?_; rotate_left
               ·intro w'; go_simp; with_reducible rfl
               rotate_left
               ·simp only [Act.put, List.setIfInBounds_toArray, List.set_cons_zero, List.set_cons_succ, i64_w, i32_w]; rfl
               refine pure_ (i := 4) (N := some 39) (v := ?_) (a' := ?_) #[true, true, true, true, true, false, false, false, false, false, false, false, false, false, false, false, false, false] rfl rfl (any_of HT_.out (by kernel_rfl)) (fun _ _ _ h => h) (Or.inl ⟨by rfl, ?_⟩) ?_ ?_; rotate_left
               ·intro w'; go_simp; with_reducible rfl
               rotate_left
               ·simp only [Act.put, List.setIfInBounds_toArray, List.set_cons_zero, List.set_cons_succ, i64_w, i32_w]; rfl
               refine pure_ (i := 5) (N := some 40) (v := ?_) (a' := ?_) #[true, true, true, true, true, true, false, false, false, false, false, false, false, false, false, false, false, false] rfl rfl (any_of HT_.out (by kernel_rfl)) (fun _ _ _ h => h) (Or.inl ⟨by rfl, ?_⟩) ?_ ?_; rotate_left
               ·intro w'; go_simp; with_reducible rfl
               rotate_left
               ·simp only [Act.put, List.setIfInBounds_toArray, List.set_cons_zero, List.set_cons_succ, i64_w, i32_w]; rfl
               refine pure_ (i := 6) (N := some 41) (v := ?_) (a' := ?_) #[true, true, true, true, true, true, true, false, false, false, false, false, false, false, false, false, false, false] rfl rfl (any_of HT_.out (by kernel_rfl)) (fun _ _ _ h => h) (Or.inl ⟨by rfl, ?_⟩) ?_ ?_; rotate_left
               ·intro w'; go_simp; with_reducible rfl
               rotate_left
               ·simp only [Act.put, List.setIfInBounds_toArray, List.set_cons_zero, List.set_cons_succ, i64_w, i32_w]; rfl
               refine pure_ (i := 7) (N := some 42) (v := ?_) (a' := ?_) #[true, true, true, true, true, true, true, true, false, false, false, false, false, false, false, false, false, false] rfl rfl (any_of HT_.out (by kernel_rfl)) (fun _ _ _ h => h) (Or.inl ⟨by rfl, ?_⟩) ?_ ?_; rotate_left
               ·intro w'; go_simp; with_reducible rfl
               rotate_left
               ·simp only [Act.put, List.setIfInBounds_toArray, List.set_cons_zero, List.set_cons_succ, i64_w, i32_w]; rfl
               refine pure_ (i := 8) (N := some 43) (v := ?_) (a' := ?_) #[true, true, true, true, true, true, true, true, true, false, false, false, false, false, false, false, false, false] rfl rfl (any_of HT_.out (by kernel_rfl)) (fun _ _ _ h => h) (Or.inl ⟨by rfl, ?_⟩) ?_ ?_; rotate_left
               ·intro w'; go_simp; with_reducible rfl
               rotate_left
               ·simp only [Act.put, List.setIfInBounds_toArray, List.set_cons_zero, List.set_cons_succ, i64_w, i32_w]; rfl
               refine pure_ (i := 9) (N := some 44) (v := ?_) (a' := ?_) #[true, true, true, true, true, true, true, true, true, true, false, false, false, false, false, false, false, false] rfl rfl (any_of HT_.out (by kernel_rfl)) (fun _ _ _ h => h) (Or.inl ⟨by rfl, ?_⟩) ?_ ?_; rotate_left
               ·intro w'; go_simp; with_reducible rfl
               rotate_left
               ·simp only [Act.put, List.setIfInBounds_toArray, List.set_cons_zero, List.set_cons_succ, i64_w, i32_w]; rfl
               refine pure_ (i := 12) (N := some 47) (v := ?_) (a' := ?_) #[true, true, true, true, true, true, true, true, true, true, false, false, true, false, false, false, false, false] rfl rfl (any_of HT_.out (by kernel_rfl)) (fun _ _ _ h => h) (Or.inl ⟨by rfl, ?_⟩) ?_ ?_; rotate_left
               ·intro w'; go_simp; with_reducible rfl
               rotate_left
               ·simp only [Act.put, List.setIfInBounds_toArray, List.set_cons_zero, List.set_cons_succ, i64_w, i32_w]; rfl
               refine take_ (i := 10) (N := some 45) (v := ?_) (a' := ?_) #[true, true, true, true, true, true, true, true, true, true, true, false, true, false, false, false, false, false] rfl rfl (take_ofW HT_.out HW_.out (by kernel_rfl)) (fun _ _ _ h => h) (Or.inl ⟨by rfl, ?_⟩) hHeld ?_ ?_; rotate_left
               ·rintro w' ⟨s0, s1⟩; go_simp; with_reducible rfl
               rotate_left
               ·simp only [Act.put, List.setIfInBounds_toArray, List.set_cons_zero, List.set_cons_succ, i64_w, i32_w]; rfl
               refine pure_ (i := 11) (N := some 46) (v := ?_) (a' := ?_) #[true, true, true, true, true, true, true, true, true, true, true, true, true, false, false, false, false, false] rfl rfl (any_of HT_.out (by kernel_rfl)) (fun _ _ _ h => h) (Or.inl ⟨by rfl, ?_⟩) ?_ ?_; rotate_left
               ·intro w'; go_simp; with_reducible rfl
               rotate_left
               ·simp only [Act.put, List.setIfInBounds_toArray, List.set_cons_zero, List.set_cons_succ, i64_w, i32_w]; rfl
               refine one_ (i := 13) (N := some 48) #[true, true, true, true, true, true, true, true, true, true, true, true, true, true, false, false, false, false] rfl rfl (one_of HT_.out (by kernel_rfl)) (by decide) (fun K hK => ?_); refine goes_ Tryz.func75 (by kernel_rfl) rfl #[.string (strOfNums (rd_L7 t535 x6_1))] (by rfl) rfl rfl (by (try simp only [List.map_toArray, List.map_cons, List.map_nil]); first | done | rfl | (simp only [List.length_drop, List.length_take]; rfl)) ?_; with_reducible refine (letterboxref9_Trim.calls kj6 (strOfNums (rd_L7 t535 x6_1)) t542 _ A24.out).mono ?_; rintro e w' ⟨rfl, ⟨nd, rfl⟩⟩; refine ⟨_, rfl, ?_⟩; have p26 : 0 ≤ ((ji20) : Int) := of_decide_eq_true (by first | (with_reducible assumption) | assumption); have q26 : ((ji20) : Int) < ((x3_1.length : Int) : Int) := of_decide_eq_true (by first | (with_reducible assumption) | assumption); obtain ⟨go26, co26, eo26, gb26, gl26, cl26, HG26⟩ := Kd.R_form HO_3.out (by omega)
               (first | cases eo26 | (injection eo26 with ea_ en_ ec_; (first | subst ea_ | (injection ea_ with ea_; subst ea_)); subst ec_; clear en_))
               have GB26 := am gb26; have GG26 := am HG26; clear gb26 gl26 HG26
               (first | simp only [add_plain] at hx541_0 | skip)
               (first | simp only [add_plain] at hx541_1 | skip)
               obtain ⟨ce26, hcl26, hM26, hcc26, hfr26⟩ := Kd.R_elem HO_3.out z78 ((ji20) : Int) p26 q26; obtain rfl := k78_openM hM26; have hx26_0 : World.cell? _ ⟨go26, ((ji20) : Int).toNat * 2, none⟩ = some (.string ((rd_T78 x3_1 (ji20)).f0)) := hcc26 0 _ rfl; have hx26_1 : World.cell? _ ⟨go26, ((ji20) : Int).toNat * 2 + 1, none⟩ = some (.string ((rd_T78 x3_1 (ji20)).f1)) := hcc26 1 _ rfl; have hf26_0 : World.frozen? _ ⟨go26, ((ji20) : Int).toNat * 2, none⟩ = false := hfr26 0; have hf26_1 : World.frozen? _ ⟨go26, ((ji20) : Int).toNat * 2 + 1, none⟩ = false := hfr26 1; clear hcl26 hcc26 hfr26 hM26; replace p26 := eq_true p26; replace q26 := eq_true q26; obtain ⟨ce31, hcl31, hM31, hcc31, hfr31⟩ := Kd.R_elem HO_3.out z78 ((ji20) : Int) (of_decide_eq_true (by first | (with_reducible assumption) | assumption)) (by have h_ : ((ji20) : Int) < ((x3_1.length : Int) : Int) := of_decide_eq_true (by first | (with_reducible assumption) | assumption); first | exact h_ | (have e_ := (Kd.R_reads' HO_3.out).1; omega) | simpa using h_); obtain rfl := k78_openM hM31; have HP31 := (Kd.R_seg HO_3.out ((ji20) : Int) (of_decide_eq_true (by first | (with_reducible assumption) | assumption)) (by have h_ : ((ji20) : Int) < ((x3_1.length : Int) : Int) := of_decide_eq_true (by first | (with_reducible assumption) | assumption); first | exact h_ | (have e_ := (Kd.R_reads' HO_3.out).1; omega) | simpa using h_) (seg := [.string ((((rd_T78 x3_1 (ji20)).f1) ++ (⟨#[32]⟩ : ByteArray)) ++ t542)]) (j := 1) hcl31 hcc31 (show 2 ≤ 2 from by decide) (x' := (⟨(rd_T78 x3_1 (ji20)).f0, (((rd_T78 x3_1 (ji20)).f1) ++ (⟨#[32]⟩ : ByteArray)) ++ t542⟩ : S78)) (k78_mkM _ _ _ (⟨(rd_T78 x3_1 (ji20)).f0, (((rd_T78 x3_1 (ji20)).f1) ++ (⟨#[32]⟩ : ByteArray)) ++ t542⟩ : S78) ) (fun _ hk => hk)).1
               rw [← Ny543.out] at HP31; have HQ31 := am HP31; clear hcl31 hcc31 hfr31 hM31 HP31; refine hK.out _ _ ⟨hHeld.1, hHeld.2⟩ (fun hHeld => ?_); clear hK K; refine norm_ (a' := ?_) ?_ ?_; rotate_left
               ·show Act.put _ (some 48) _ = _
                simp only [Act.put, List.setIfInBounds_toArray, List.set_cons_zero, List.set_cons_succ, i64_w, i32_w]; rfl
               refine pure_ (i := 14) (N := some 49) (v := ?_) (a' := ?_) #[true, true, true, true, true, true, true, true, true, true, true, true, true, true, true, false, false, false] rfl rfl (any_of HT_.out (by kernel_rfl)) (fun _ _ _ h => h) (Or.inl ⟨by rfl, ?_⟩) ?_ ?_; rotate_left
               ·intro w'; go_simp; with_reducible rfl
               rotate_left
               ·simp only [Act.put, List.setIfInBounds_toArray, List.set_cons_zero, List.set_cons_succ, i64_w, i32_w]; rfl
               refine pure_ (i := 15) (N := some 50) (v := ?_) (a' := ?_) #[true, true, true, true, true, true, true, true, true, true, true, true, true, true, true, true, false, false] rfl rfl (any_of HT_.out (by kernel_rfl)) (fun _ _ _ h => h) (Or.inl ⟨by rfl, ?_⟩) ?_ ?_; rotate_left
               ·intro w'; go_simp; with_reducible rfl
               rotate_left
               ·simp only [Act.put, List.setIfInBounds_toArray, List.set_cons_zero, List.set_cons_succ, i64_w, i32_w]; rfl
               refine pure_ (i := 16) (N := some 51) (v := ?_) (a' := ?_) #[true, true, true, true, true, true, true, true, true, true, true, true, true, true, true, true, true, false] rfl rfl (any_of HT_.out (by kernel_rfl)) (fun _ _ _ h => h) (Or.inl ⟨by rfl, ?_⟩) ?_ ?_; rotate_left
               ·intro w'; go_simp; with_reducible rfl
               rotate_left
               ·simp only [Act.put, List.setIfInBounds_toArray, List.set_cons_zero, List.set_cons_succ, i64_w, i32_w]; rfl
               refine last_ (i := 17) (N := none) #[true, true, true, true, true, true, true, true, true, true, true, true, true, true, true, true, true, true] rfl rfl (one_of HT_.out (by kernel_rfl)) (by decide) (fun K hK => ?_); refine skip_ (w1 := ?_) (by rfl) rfl ?_ ?_; rotate_left
               ·go_simp; rfl
               refine hK.out _ _ ?_; clear hK K; refine done_ (done_of HT_.out (by kernel_rfl)) ?_
               try go_wp2
               go_roundg kj6
               case measure => have := HK1.out; have := HJ6.out; omega
               case rel => exact ⟨(y543), (true), (wrap64 (x6_1 + 1)), (by first | rfl | (simp; done) | (simp [*]; done)), (by first | rfl | (simp; done) | (simp [*]; done)), H', ⟨by have := HK1.out; have := HJ6.out; omega⟩, ⟨by (with_reducible repeat first | apply rA | apply rN | apply rD); exact HQ31.out⟩, ⟨by (with_reducible repeat (first | apply Kd.N_alloc | apply Kd.N_drewN | apply Kd.N_drew)); exact Kd.N_mono (Kd.N_far (p := ⟨go26, ((ji20) : Int).toNat * 2 + 1, none⟩) (Kd.N_mono HO_5.out (fun k_ hk => (⟨hk, fun e_ => hk (by rw [e_]; rfl)⟩ : _ ∧ k_ ≠ go26))) (fun _ hk => hk.2) (.string ((((rd_T78 x3_1 (ji20)).f1) ++ (⟨#[32]⟩ : ByteArray)) ++ t542))) (fun _ hk => hk.1)⟩, ⟨by repeat (first | (with_reducible first | exact HB.out | apply bA | apply bN | apply bD | refine below_set ?_ GB26.out) | exact HB.out)⟩⟩
              rw [if_neg c25] at H
              exact absurd H (by simp)
             rw [if_neg c23] at H
             exact absurd H (by simp)
            rw [if_neg c22] at H
            exact absurd H (by simp)
           rw [if_neg c21] at H
           exact absurd H (by simp)
          replace c19 := Bool.eq_false_iff.mpr c19; subst c19
          have H1 : (letterboxref9_Fields.l0 kj6 x3_1 false t535 (wrap64 (x6_1 + 1))) = some r := by rw [if_neg (show ¬ (false = true) by decide)] at H; exact H
          clear H; have H := H1; clear H1; have H' := am H; clear H; obtain ⟨Ao32, co32, eo32⟩ := Kd.N_slice HO_5.out; subst eo32; have p539 : 0 ≤ (x6_1 : Int) := of_decide_eq_true (by first | (with_reducible assumption) | assumption); have q539 : x6_1 < (t535.length : Int) := of_decide_eq_true (by first | (with_reducible assumption) | assumption); obtain ⟨ad539, A539_0, c539_0, e539, hx539_0, hl539_0, hi539_0⟩ := at_L7 (Kd.N_reads' HO_5.out).2.2 x6_1 p539 q539
          cases e539
          obtain ⟨ce539, hce539, hMe539, hcc539⟩ := Kd.N_get HO_5.out [] x6_1 p539 (by first | exact q539 | exact of_decide_eq_true (by first | (with_reducible assumption) | assumption) | (have e_ := (Kd.N_reads' HO_5.out).1; omega)); obtain ⟨ua539_0, uc539_0, rfl, ul539_0, ge539_0⟩ := Kd.FK_slice_open hMe539; have hv539_0 := hcc539 0 _ rfl; rw [Nat.add_zero, show ((Kd.slice 5 (Kd.int .u8))).sz = 1 from rfl, Nat.mul_one] at hv539_0; replace hv539_0 := Option.some.inj (hv539_0.symm.trans hx539_0)
          injection hv539_0 with hva_ hvn_ hvc_
          rw [hva_] at ge539_0; rw [hvc_] at ul539_0; have HL539_0 := am (show Kd.V (Kd.int .u8) 5 _ w.heap.size _ _ (rd_L7 t535 x6_1) from Kd.V_mk ul539_0 ge539_0); clear hva_ hvn_ hvc_ ge539_0 ul539_0 hcc539 hce539; have HR539_0 := am hi539_0; have HC539_0 := am hl539_0; clear hi539_0 hl539_0; replace p539 := eq_true p539; replace q539 := eq_true q539; have hcv33 := Kd.C_string (P := Tryz.prog) (A := A539_0) (c := c539_0) Tryz.underlying35 Tryz.underlying5 Tryz.underlying9 (by repeat (first | (with_reducible exact HR539_0.out) | (with_reducible refine Kd.C_alloc ?_ _) | (with_reducible refine Kd.C_drewN ?_ _) | (with_reducible refine Kd.C_drew ?_) | exact HR539_0.out)); have p16 : 0 ≤ (0 : Int) := (by omega); have q16 : 0 < (strOfNums (rd_L7 t535 x6_1)).size := (by have : (0 : Int) < ((strOfNums (rd_L7 t535 x6_1)).size : Int) := of_decide_eq_true (by first | (with_reducible assumption) | assumption); omega); have hx16 : ∀ h : 0 < (strOfNums (rd_L7 t535 x6_1)).size, (((strOfNums (rd_L7 t535 x6_1))[0]'h).toNat : Int) = bt (strOfNums (rd_L7 t535 x6_1)) 0 := bt_at (strOfNums (rd_L7 t535 x6_1)) 0; clear p16; have qi16 : (0 < ((strOfNums (rd_L7 t535 x6_1)).size : Int)) = True := eq_true (of_decide_eq_true (by first | (with_reducible assumption) | assumption)); replace q16 := eq_true q16
          go_wp2_with (first | ((with_reducible refine gate_callee (f := 74) rfl ?_); refine goesL_ (some 33) rfl rfl Tryz.func74 (by kernel_rfl) rfl #[.int .u8 (bt (strOfNums (rd_L7 t535 x6_1)) 0)] rfl (by (try simp only [List.map_toArray, List.map_cons, List.map_nil]); first | done | rfl | (simp only [List.length_drop, List.length_take]; rfl)) ?_; (with_reducible refine (letterboxref9_blank.calls (bt (strOfNums (rd_L7 t535 x6_1)) 0) true _ A17.out).mono ?_); rintro e w' ⟨rfl, ⟨nd, rfl⟩⟩; refine ⟨_, rfl, ?_⟩))
          go_roundg kj6
          case measure => have := HK1.out; have := HJ6.out; omega
          case rel => exact ⟨(x3_1), (false), (wrap64 (x6_1 + 1)), (by first | rfl | (simp; done) | (simp [*]; done)), (by first | rfl | (simp; done) | (simp [*]; done)), H', ⟨by have := HK1.out; have := HJ6.out; omega⟩, ⟨by (with_reducible repeat first | apply rA | apply rN | apply rD); exact HO_3.out⟩, ⟨by (with_reducible repeat (first | apply Kd.N_alloc | apply Kd.N_drewN | apply Kd.N_drew)); exact HO_5.out⟩, ⟨by repeat (first | (with_reducible first | exact HB.out | apply bA | apply bN | apply bD) | exact HB.out)⟩⟩
         replace c18 := Bool.eq_false_iff.mpr c18; subst c18
         have H1 : ((letterboxref9_Colon.f kj6 (strOfNums (rd_L7 t535 x6_1)) 58).bind fun t544 => (if t544 ≥ 0 then (if 0 ≤ t544 then (if t544 ≤ ((strOfNums (rd_L7 t535 x6_1)).size : Int) then ((letterboxref9_Trim.f kj6 ((strOfNums (rd_L7 t535 x6_1)).extract 0 (t544 : Int).toNat)).bind fun t545 => (if 0 ≤ (wrap64 (t544 + 1)) then (if (wrap64 (t544 + 1)) ≤ ((strOfNums (rd_L7 t535 x6_1)).size : Int) then ((letterboxref9_Trim.f kj6 ((strOfNums (rd_L7 t535 x6_1)).extract ((wrap64 (t544 + 1)) : Int).toNat (strOfNums (rd_L7 t535 x6_1)).size)).bind fun t546 => (if x3_1.length < 4398046511104 then (letterboxref9_Fields.l0 kj6 (x3_1 ++ [(⟨t545, t546⟩ : S78)]) (decide (t544 ≥ 0)) t535 (wrap64 (x6_1 + 1))) else (none))) else (none)) else (none))) else (none)) else (none)) else (letterboxref9_Fields.l0 kj6 x3_1 (decide (t544 ≥ 0)) t535 (wrap64 (x6_1 + 1))))) = some r := by rw [if_neg (show ¬ (false = true) by decide)] at H; exact H
         clear H; have H := H1; clear H1; replace H := Option.bind_eq_some_iff.mp H; obtain ⟨t544, A340, H⟩ := H; (try dsimp only at H); have A34 := am A340; clear A340
         by_cases c35 : t544 ≥ 0
         ·rw [if_pos c35] at H; have c35b0 : decide (0 ≤ t544) = true := decide_eq_true c35; clear c35
          by_cases c36 : 0 ≤ t544
          ·rw [if_pos c36] at H; have c36b0 := eq_true c36; have c36b1 : decide (0 ≤ t544) = true := decide_eq_true c36; clear c36
           by_cases c37 : t544 ≤ ((strOfNums (rd_L7 t535 x6_1)).size : Int)
           ·rw [if_pos c37] at H; have c37b0 := eq_true c37; have c37b1 : decide (t544 ≤ ((strOfNums (rd_L7 t535 x6_1)).size : Int)) = true := decide_eq_true c37; clear c37; replace H := Option.bind_eq_some_iff.mp H; obtain ⟨t545, A380, H⟩ := H; (try dsimp only at H); have A38 := am A380; clear A380; obtain ⟨ji39, hji39⟩ : ∃ j_ : Int, (wrap64 (t544 + 1)) = j_ := ⟨_, rfl⟩
            replace H : (if 0 ≤ (ji39) then (if (ji39) ≤ ((strOfNums (rd_L7 t535 x6_1)).size : Int) then ((letterboxref9_Trim.f kj6 ((strOfNums (rd_L7 t535 x6_1)).extract ((ji39) : Int).toNat (strOfNums (rd_L7 t535 x6_1)).size)).bind fun t546 => (if x3_1.length < 4398046511104 then (letterboxref9_Fields.l0 kj6 (x3_1 ++ [(⟨t545, t546⟩ : S78)]) (decide (t544 ≥ 0)) t535 (wrap64 (x6_1 + 1))) else (none))) else (none)) else (none)) = some r := by first | (rw [hji39] at H; exact H) | (simp only [hji39] at H ⊢; exact H)
            (try rw [hji39] at A17); (try rw [hji39] at A34); (try rw [hji39] at A38); have hji39w : (IntKind.i64.wrap (t544 + 1)) = ji39 := (i64_w _).trans hji39
            by_cases c40 : 0 ≤ (ji39)
            ·rw [if_pos c40] at H; have c40b0 := eq_true c40; have c40b1 : decide (0 ≤ (ji39)) = true := decide_eq_true c40; clear c40
             by_cases c41 : (ji39) ≤ ((strOfNums (rd_L7 t535 x6_1)).size : Int)
             ·rw [if_pos c41] at H; have c41b0 := eq_true c41; have c41b1 : decide ((ji39) ≤ ((strOfNums (rd_L7 t535 x6_1)).size : Int)) = true := decide_eq_true c41; clear c41; replace H := Option.bind_eq_some_iff.mp H; obtain ⟨t546, A420, H⟩ := H; (try dsimp only at H); have A42 := am A420; clear A420
              by_cases c43 : x3_1.length < 4398046511104
              ·rw [if_pos c43] at H; have LMc43 := am c43; clear c43; obtain ⟨y547, hy547⟩ : ∃ y_ : List (S78), y_ = (x3_1 ++ [(⟨t545, t546⟩ : S78)]) := ⟨_, rfl⟩
               replace H : (letterboxref9_Fields.l0 kj6 y547 (decide (t544 ≥ 0)) t535 (wrap64 (x6_1 + 1))) = some r := by first | (rw [hy547]; with_reducible exact H) | (have H2_ := (Option.bind_some _ _).symm.trans H; rw [hy547]; with_reducible exact H2_) | (have H2_ := (Option.bind_some _ _).symm.trans H; with_reducible exact H2_) | with_reducible exact H | (rw [hy547]; exact H) | exact H
               have Ny547 := am hy547; clear hy547; have H' := am H; clear H; obtain ⟨Ao44, co44, eo44⟩ := Kd.N_slice HO_5.out; subst eo44; have p539 : 0 ≤ (x6_1 : Int) := of_decide_eq_true (by first | (with_reducible assumption) | assumption); have q539 : x6_1 < (t535.length : Int) := of_decide_eq_true (by first | (with_reducible assumption) | assumption); obtain ⟨ad539, A539_0, c539_0, e539, hx539_0, hl539_0, hi539_0⟩ := at_L7 (Kd.N_reads' HO_5.out).2.2 x6_1 p539 q539
               cases e539
               obtain ⟨ce539, hce539, hMe539, hcc539⟩ := Kd.N_get HO_5.out [] x6_1 p539 (by first | exact q539 | exact of_decide_eq_true (by first | (with_reducible assumption) | assumption) | (have e_ := (Kd.N_reads' HO_5.out).1; omega)); obtain ⟨ua539_0, uc539_0, rfl, ul539_0, ge539_0⟩ := Kd.FK_slice_open hMe539; have hv539_0 := hcc539 0 _ rfl; rw [Nat.add_zero, show ((Kd.slice 5 (Kd.int .u8))).sz = 1 from rfl, Nat.mul_one] at hv539_0; replace hv539_0 := Option.some.inj (hv539_0.symm.trans hx539_0)
               injection hv539_0 with hva_ hvn_ hvc_
               rw [hva_] at ge539_0; rw [hvc_] at ul539_0; have HL539_0 := am (show Kd.V (Kd.int .u8) 5 _ w.heap.size _ _ (rd_L7 t535 x6_1) from Kd.V_mk ul539_0 ge539_0); clear hva_ hvn_ hvc_ ge539_0 ul539_0 hcc539 hce539; have HR539_0 := am hi539_0; have HC539_0 := am hl539_0; clear hi539_0 hl539_0; replace p539 := eq_true p539; replace q539 := eq_true q539; have hcv45 := Kd.C_string (P := Tryz.prog) (A := A539_0) (c := c539_0) Tryz.underlying35 Tryz.underlying5 Tryz.underlying9 (by repeat (first | (with_reducible exact HR539_0.out) | (with_reducible refine Kd.C_alloc ?_ _) | (with_reducible refine Kd.C_drewN ?_ _) | (with_reducible refine Kd.C_drew ?_) | exact HR539_0.out)); have p16 : 0 ≤ (0 : Int) := (by omega); have q16 : 0 < (strOfNums (rd_L7 t535 x6_1)).size := (by have : (0 : Int) < ((strOfNums (rd_L7 t535 x6_1)).size : Int) := of_decide_eq_true (by first | (with_reducible assumption) | assumption); omega); have hx16 : ∀ h : 0 < (strOfNums (rd_L7 t535 x6_1)).size, (((strOfNums (rd_L7 t535 x6_1))[0]'h).toNat : Int) = bt (strOfNums (rd_L7 t535 x6_1)) 0 := bt_at (strOfNums (rd_L7 t535 x6_1)) 0; clear p16; have qi16 : (0 < ((strOfNums (rd_L7 t535 x6_1)).size : Int)) = True := eq_true (of_decide_eq_true (by first | (with_reducible assumption) | assumption)); replace q16 := eq_true q16
               try go_wp2_with (first | ((with_reducible refine gate_callee (f := 74) rfl ?_); refine goesL_ (some 33) rfl rfl Tryz.func74 (by kernel_rfl) rfl #[.int .u8 (bt (strOfNums (rd_L7 t535 x6_1)) 0)] rfl (by (try simp only [List.map_toArray, List.map_cons, List.map_nil]); first | done | rfl | (simp only [List.length_drop, List.length_take]; rfl)) ?_; (with_reducible refine (letterboxref9_blank.calls (bt (strOfNums (rd_L7 t535 x6_1)) 0) false _ A17.out).mono ?_); rintro e w' ⟨rfl, ⟨nd, rfl⟩⟩; refine ⟨_, rfl, ?_⟩) | ((with_reducible refine gate_callee (f := 76) rfl ?_); refine goesL_ (some 53) rfl rfl Tryz.func76 (by kernel_rfl) rfl #[.string (strOfNums (rd_L7 t535 x6_1)), .int .u8 58] rfl (by (try simp only [List.map_toArray, List.map_cons, List.map_nil]); first | done | rfl | (simp only [List.length_drop, List.length_take]; rfl)) ?_; (with_reducible refine (letterboxref9_Colon.calls kj6 (strOfNums (rd_L7 t535 x6_1)) 58 t544 _ A34.out).mono ?_); rintro e w46 ⟨rfl, hb⟩; refine ⟨_, rfl, ?_⟩; have n0_ := am (Kd.R_below (by (with_reducible repeat first | apply rA | apply rN | apply rD); exact HO_3.out) hb); have n1_ := am (Kd.N_below (by (with_reducible repeat (first | apply Kd.N_alloc | apply Kd.N_drewN | apply Kd.N_drew)); exact HO_5.out) hb); have n2_ := am (Kd.V_below (by (with_reducible repeat (first | apply Kd.V_alloc | apply Kd.V_drewN | apply Kd.V_drew)); exact HL539_0.out) hb); have n3_ := am (Kd.C_below (by repeat (first | (with_reducible exact HR539_0.out) | (with_reducible refine Kd.C_alloc ?_ _) | (with_reducible refine Kd.C_drewN ?_ _) | (with_reducible refine Kd.C_drew ?_) | exact HR539_0.out)) hb); have n4_ := am (below_step (by repeat (first | (with_reducible first | exact HB.out | apply bA | apply bN | apply bD) | exact HB.out)) hb); clear HO_3 HO_5 HL539_0 HR539_0 HB; have HO_3 := n0_; have HO_5 := n1_; have HL539_0 := n2_; have HR539_0 := n3_; have HB := n4_; clear n0_ n1_ n2_ n3_ n4_; (try clear hb); (try clear hb2); (try clear hk); (try clear hi)))
               have n0_ := am (Kd.R_drew HO_3.out); have n1_ := am (Kd.N_drew HO_5.out); have n2_ := am (Kd.V_drew HL539_0.out); have n3_ := am (Kd.C_drew HR539_0.out); have n4_ := am (below_drew1 HB.out); clear HO_3 HO_5 HL539_0 HR539_0 HB; have HO_3 := n0_; have HO_5 := n1_; have HL539_0 := n2_; have HR539_0 := n3_; have HB := n4_; clear n0_ n1_ n2_ n3_ n4_; refine start_ (n := 14) (S := fun w' => True) (ds := []) #[false, false, false, false, false, false, false, false, false, false, false, false, false, false] (by kernel_rfl) rfl rfl trivial (fun hHeld => ?_); refine with_tabW letterboxref9_Fields.tab14 letterboxref9_Fields.bits14 (fun HT_ HW_ => ?_); generalize w46.drew = w47 at HO_3 HO_5 HL539_0 HR539_0 HB hHeld ⊢; refine pure_ (i := 0) (N := some 57) (v := ?_) (a' := ?_) #[true, false, false, false, false, false, false, false, false, false, false, false, false, false] rfl rfl (any_of HT_.out (by kernel_rfl)) (fun _ _ _ h => h) (Or.inl ⟨by rfl, ?_⟩) ?_ ?_; rotate_left
               ·intro w'; go_simp; with_reducible rfl
               rotate_left
               ·simp only [Act.put, List.setIfInBounds_toArray, List.set_cons_zero, List.set_cons_succ, i64_w, i32_w]; rfl
               refine pure_ (i := 1) (N := some 58) (v := ?_) (a' := ?_) #[true, true, false, false, false, false, false, false, false, false, false, false, false, false] rfl rfl (any_of HT_.out (by kernel_rfl)) (fun _ _ _ h => h) (Or.inl ⟨by rfl, ?_⟩) ?_ ?_; rotate_left
               ·intro w'; go_simp; with_reducible rfl
               rotate_left
               ·simp only [Act.put, List.setIfInBounds_toArray, List.set_cons_zero, List.set_cons_succ, i64_w, i32_w]; rfl
               refine pure_ (i := 2) (N := some 59) (v := ?_) (a' := ?_) #[true, true, true, false, false, false, false, false, false, false, false, false, false, false] rfl rfl (any_of HT_.out (by kernel_rfl)) (fun _ _ _ h => h) (Or.inl ⟨by rfl, ?_⟩) ?_ ?_; rotate_left
               ·intro w'; go_simp; with_reducible rfl
               rotate_left
               ·simp only [Act.put, List.setIfInBounds_toArray, List.set_cons_zero, List.set_cons_succ, i64_w, i32_w]; rfl
               refine pure_ (i := 3) (N := some 60) (v := ?_) (a' := ?_) #[true, true, true, true, false, false, false, false, false, false, false, false, false, false] rfl rfl (any_of HT_.out (by kernel_rfl)) (fun _ _ _ h => h) (Or.inl ⟨by rfl, ?_⟩) ?_ ?_; rotate_left
               ·intro w'; go_simp; with_reducible rfl
               rotate_left
               ·simp only [Act.put, List.setIfInBounds_toArray, List.set_cons_zero, List.set_cons_succ, i64_w, i32_w]; rfl
               refine pure_ (i := 5) (N := some 62) (v := ?_) (a' := ?_) #[true, true, true, true, false, true, false, false, false, false, false, false, false, false] rfl rfl (any_of HT_.out (by kernel_rfl)) (fun _ _ _ h => h) (Or.inl ⟨by rfl, ?_⟩) ?_ ?_; rotate_left
               ·intro w'; go_simp; with_reducible rfl
               rotate_left
               ·simp only [Act.put, List.setIfInBounds_toArray, List.set_cons_zero, List.set_cons_succ, i64_w, i32_w]; rfl
               refine pure_ (i := 6) (N := some 63) (v := ?_) (a' := ?_) #[true, true, true, true, false, true, true, false, false, false, false, false, false, false] rfl rfl (any_of HT_.out (by kernel_rfl)) (fun _ _ _ h => h) (Or.inl ⟨by rfl, ?_⟩) ?_ ?_; rotate_left
               ·intro w'; go_simp; with_reducible rfl
               rotate_left
               ·simp only [Act.put, List.setIfInBounds_toArray, List.set_cons_zero, List.set_cons_succ, i64_w, i32_w]; rfl
               refine pure_ (i := 7) (N := some 64) (v := ?_) (a' := ?_) #[true, true, true, true, false, true, true, true, false, false, false, false, false, false] rfl rfl (any_of HT_.out (by kernel_rfl)) (fun _ _ _ h => h) (Or.inl ⟨by rfl, ?_⟩) ?_ ?_; rotate_left
               ·intro w'; go_simp; with_reducible rfl
               rotate_left
               ·simp only [Act.put, List.setIfInBounds_toArray, List.set_cons_zero, List.set_cons_succ, i64_w, i32_w]; rfl
               refine pure_ (i := 8) (N := some 65) (v := ?_) (a' := ?_) #[true, true, true, true, false, true, true, true, true, false, false, false, false, false] rfl rfl (any_of HT_.out (by kernel_rfl)) (fun _ _ _ h => h) (Or.inl ⟨by rfl, ?_⟩) ?_ ?_; rotate_left
               ·intro w'; go_simp; with_reducible rfl
               rotate_left
               ·simp only [Act.put, List.setIfInBounds_toArray, List.set_cons_zero, List.set_cons_succ, i64_w, i32_w]; rfl
               refine one_ (i := 4) (N := some 61) #[true, true, true, true, true, true, true, true, true, false, false, false, false, false] rfl rfl (one_of HT_.out (by kernel_rfl)) (by decide) (fun K hK => ?_); refine goes_ Tryz.func75 (by kernel_rfl) rfl #[.string ((strOfNums (rd_L7 t535 x6_1)).extract 0 (t544 : Int).toNat)] (by rfl) rfl rfl (by (try simp only [List.map_toArray, List.map_cons, List.map_nil]); first | done | rfl | (simp only [List.length_drop, List.length_take]; rfl)) ?_; with_reducible refine (letterboxref9_Trim.calls kj6 ((strOfNums (rd_L7 t535 x6_1)).extract 0 (t544 : Int).toNat) t545 _ A38.out).mono ?_; rintro e w' ⟨rfl, ⟨nd, rfl⟩⟩; refine ⟨_, rfl, ?_⟩; refine hK.out _ _ trivial (fun hHeld => ?_); clear hK K; refine norm_ (a' := ?_) ?_ ?_; rotate_left
               ·show Act.put _ (some 61) _ = _
                simp only [Act.put, List.setIfInBounds_toArray, List.set_cons_zero, List.set_cons_succ, i64_w, i32_w]; rfl
               refine one_ (i := 9) (N := some 66) #[true, true, true, true, true, true, true, true, true, true, false, false, false, false] rfl rfl (one_of HT_.out (by kernel_rfl)) (by decide) (fun K hK => ?_); refine goes_ Tryz.func75 (by kernel_rfl) rfl #[.string ((strOfNums (rd_L7 t535 x6_1)).extract ((ji39) : Int).toNat (strOfNums (rd_L7 t535 x6_1)).size)] (by rfl) rfl rfl (by (try simp only [List.map_toArray, List.map_cons, List.map_nil]); first | done | (simp only [hji39]; rfl) | rfl | (simp only [List.length_drop, List.length_take]; rfl)) ?_; with_reducible refine (letterboxref9_Trim.calls kj6 ((strOfNums (rd_L7 t535 x6_1)).extract ((ji39) : Int).toNat (strOfNums (rd_L7 t535 x6_1)).size) t546 _ A42.out).mono ?_; rintro e w' ⟨rfl, ⟨nd, rfl⟩⟩; refine ⟨_, rfl, ?_⟩; refine hK.out _ _ trivial (fun hHeld => ?_); clear hK K; refine norm_ (a' := ?_) ?_ ?_; rotate_left
               ·show Act.put _ (some 66) _ = _
                simp only [Act.put, List.setIfInBounds_toArray, List.set_cons_zero, List.set_cons_succ, i64_w, i32_w]; rfl
               refine pure_ (i := 10) (N := some 67) (v := ?_) (a' := ?_) #[true, true, true, true, true, true, true, true, true, true, true, false, false, false] rfl rfl (any_of HT_.out (by kernel_rfl)) (fun _ _ _ h => h) (Or.inl ⟨by rfl, ?_⟩) ?_ ?_; rotate_left
               ·intro w'; go_simp; with_reducible rfl
               rotate_left
               ·simp only [Act.put, List.setIfInBounds_toArray, List.set_cons_zero, List.set_cons_succ, i64_w, i32_w]; rfl
               refine one_ (i := 11) (N := some 68) #[true, true, true, true, true, true, true, true, true, true, true, true, false, false] rfl rfl (one_of HT_.out (by kernel_rfl)) (by decide) (fun K hK => ?_); refine value_ (w1 := ?_) (v := ?_) (by rfl) rfl ?_ ?_; rotate_left 2
               ·go_simp; constructor
                ·rfl
                rfl
               refine hK.out _ _ trivial (fun hHeld => ?_); clear hK K; refine norm_ (a' := ?_) ?_ ?_; rotate_left
               ·show Act.put _ (some 68) _ = _
                simp only [Act.put, List.setIfInBounds_toArray, List.set_cons_zero, List.set_cons_succ, i64_w, i32_w]; rfl
               refine one_ (i := 12) (N := some 69) #[true, true, true, true, true, true, true, true, true, true, true, true, true, false] rfl rfl (one_of HT_.out (by kernel_rfl)) (by decide) (fun K hK => ?_); refine Kd.R_append_step k78 (w0 := w) w.heap.size (by rfl) (.tmp 57) (.tmp 68) 75 78 (.agg #[(.string ⟨#[]⟩), (.string ⟨#[]⟩)]) 32 rfl Tryz.underlying75 info78 rfl (by decide) (by omega) u3 x3_1 (⟨t545, t546⟩ : S78) [.string t545, .string t546] (fun _ => True) (fun _ => False) rfl rfl ?aP (fun _ hk => hk.elim) ?aF ?aO ?aB ?aS ?aL ?_
               (case aP => exact k78_mkM _ _ _ (⟨t545, t546⟩ : S78))
               (case aB => exact (by repeat (first | (with_reducible first | exact HB.out | apply bA | apply bN | apply bD) | exact HB.out)))
               (case aF => exact (fun _ _ => trivial))
               (case aO => exact (by (with_reducible repeat first | apply rA | apply rN | apply rD); exact HO_3.out))
               (case aS => exact (below_size (by repeat (first | (with_reducible first | exact HB.out | apply bA | apply bN | apply bD) | exact HB.out))))
               (case aL => have := LMc43.out; omega)
               intro v548 w48 ho hb hg hat; rw [← Ny547.out] at ho; have n0_ := am (Kd.N_afterv (ok := (fun _ => True)) (by (with_reducible repeat (first | apply Kd.N_alloc | apply Kd.N_drewN | apply Kd.N_drew)); exact Kd.N_mono HO_5.out (fun _ hk => ⟨trivial, hk⟩)) hg hat); have n1_ := am (Kd.V_afterv (ok := (fun k_ => some k_ ≠ (.slice (some ad539) t535.length co44 : Value).ownBlock)) (by (with_reducible repeat (first | apply Kd.V_alloc | apply Kd.V_drewN | apply Kd.V_drew)); exact Kd.V_mono HL539_0.out (fun _ hk => ⟨hk.2, hk.1⟩)) hg hat); have n2_ := am (hb); have n3_ := am (ho); clear HO_5 HL539_0 HB HO_3; have HO_5 := n0_; have HL539_0 := n1_; have HB := n2_; have HO549 := n3_; clear n0_ n1_ n2_ n3_ ho hb hg hat; refine hK.out _ _ trivial (fun hHeld => ?_); clear hK K; refine norm_ (a' := ?_) ?_ ?_; rotate_left
               ·show Act.put _ (some 69) _ = _
                simp only [Act.put, List.setIfInBounds_toArray, List.set_cons_zero, List.set_cons_succ, i64_w, i32_w]; rfl
               refine pure_ (i := 13) (N := some 3) (v := ?_) (a' := ?_) #[true, true, true, true, true, true, true, true, true, true, true, true, true, true] rfl rfl (any_of HT_.out (by kernel_rfl)) (fun _ _ _ h => h) (Or.inl ⟨by rfl, ?_⟩) ?_ ?_; rotate_left
               ·intro w'; go_simp; with_reducible rfl
               rotate_left
               ·simp only [Act.put, List.setIfInBounds_toArray, List.set_cons_zero, List.set_cons_succ, i64_w, i32_w]; rfl
               refine done_ (done_of HT_.out (by kernel_rfl)) ?_
               try go_wp2
               go_roundg kj6
               case measure => have := HK1.out; have := HJ6.out; omega
               case rel => exact ⟨(y547), (decide (t544 ≥ 0)), (wrap64 (x6_1 + 1)), (by first | rfl | (simp; done) | (simp [*]; done)), (by first | rfl | (simp; done) | (simp [*]; done)), H', ⟨by have := HK1.out; have := HJ6.out; omega⟩, ⟨by (with_reducible repeat first | apply rA | apply rN | apply rD); exact HO549.out⟩, ⟨by (with_reducible repeat (first | apply Kd.N_alloc | apply Kd.N_drewN | apply Kd.N_drew)); exact Kd.N_mono HO_5.out (fun _ hk => hk.2)⟩, ⟨by repeat (first | (with_reducible first | exact HB.out | apply bA | apply bN | apply bD) | exact HB.out)⟩⟩
              rw [if_neg c43] at H
              exact absurd H (by simp)
             rw [if_neg c41] at H
             exact absurd H (by simp)
            rw [if_neg c40] at H
            exact absurd H (by simp)
           rw [if_neg c37] at H
           exact absurd H (by simp)
          rw [if_neg c36] at H
          exact absurd H (by simp)
         rw [if_neg c35] at H; have c35b0 : decide (0 ≤ t544) = false := decide_eq_false c35; clear c35; have H' := am H; clear H; obtain ⟨Ao49, co49, eo49⟩ := Kd.N_slice HO_5.out; subst eo49; have p539 : 0 ≤ (x6_1 : Int) := of_decide_eq_true (by first | (with_reducible assumption) | assumption); have q539 : x6_1 < (t535.length : Int) := of_decide_eq_true (by first | (with_reducible assumption) | assumption); obtain ⟨ad539, A539_0, c539_0, e539, hx539_0, hl539_0, hi539_0⟩ := at_L7 (Kd.N_reads' HO_5.out).2.2 x6_1 p539 q539
         cases e539
         obtain ⟨ce539, hce539, hMe539, hcc539⟩ := Kd.N_get HO_5.out [] x6_1 p539 (by first | exact q539 | exact of_decide_eq_true (by first | (with_reducible assumption) | assumption) | (have e_ := (Kd.N_reads' HO_5.out).1; omega)); obtain ⟨ua539_0, uc539_0, rfl, ul539_0, ge539_0⟩ := Kd.FK_slice_open hMe539; have hv539_0 := hcc539 0 _ rfl; rw [Nat.add_zero, show ((Kd.slice 5 (Kd.int .u8))).sz = 1 from rfl, Nat.mul_one] at hv539_0; replace hv539_0 := Option.some.inj (hv539_0.symm.trans hx539_0)
         injection hv539_0 with hva_ hvn_ hvc_
         rw [hva_] at ge539_0; rw [hvc_] at ul539_0; have HL539_0 := am (show Kd.V (Kd.int .u8) 5 _ w.heap.size _ _ (rd_L7 t535 x6_1) from Kd.V_mk ul539_0 ge539_0); clear hva_ hvn_ hvc_ ge539_0 ul539_0 hcc539 hce539; have HR539_0 := am hi539_0; have HC539_0 := am hl539_0; clear hi539_0 hl539_0; replace p539 := eq_true p539; replace q539 := eq_true q539; have hcv50 := Kd.C_string (P := Tryz.prog) (A := A539_0) (c := c539_0) Tryz.underlying35 Tryz.underlying5 Tryz.underlying9 (by repeat (first | (with_reducible exact HR539_0.out) | (with_reducible refine Kd.C_alloc ?_ _) | (with_reducible refine Kd.C_drewN ?_ _) | (with_reducible refine Kd.C_drew ?_) | exact HR539_0.out)); have p16 : 0 ≤ (0 : Int) := (by omega); have q16 : 0 < (strOfNums (rd_L7 t535 x6_1)).size := (by have : (0 : Int) < ((strOfNums (rd_L7 t535 x6_1)).size : Int) := of_decide_eq_true (by first | (with_reducible assumption) | assumption); omega); have hx16 : ∀ h : 0 < (strOfNums (rd_L7 t535 x6_1)).size, (((strOfNums (rd_L7 t535 x6_1))[0]'h).toNat : Int) = bt (strOfNums (rd_L7 t535 x6_1)) 0 := bt_at (strOfNums (rd_L7 t535 x6_1)) 0; clear p16; have qi16 : (0 < ((strOfNums (rd_L7 t535 x6_1)).size : Int)) = True := eq_true (of_decide_eq_true (by first | (with_reducible assumption) | assumption)); replace q16 := eq_true q16
         go_wp2_with (first | ((with_reducible refine gate_callee (f := 74) rfl ?_); refine goesL_ (some 33) rfl rfl Tryz.func74 (by kernel_rfl) rfl #[.int .u8 (bt (strOfNums (rd_L7 t535 x6_1)) 0)] rfl (by (try simp only [List.map_toArray, List.map_cons, List.map_nil]); first | done | rfl | (simp only [List.length_drop, List.length_take]; rfl)) ?_; (with_reducible refine (letterboxref9_blank.calls (bt (strOfNums (rd_L7 t535 x6_1)) 0) false _ A17.out).mono ?_); rintro e w' ⟨rfl, ⟨nd, rfl⟩⟩; refine ⟨_, rfl, ?_⟩) | ((with_reducible refine gate_callee (f := 76) rfl ?_); refine goesL_ (some 53) rfl rfl Tryz.func76 (by kernel_rfl) rfl #[.string (strOfNums (rd_L7 t535 x6_1)), .int .u8 58] rfl (by (try simp only [List.map_toArray, List.map_cons, List.map_nil]); first | done | rfl | (simp only [List.length_drop, List.length_take]; rfl)) ?_; (with_reducible refine (letterboxref9_Colon.calls kj6 (strOfNums (rd_L7 t535 x6_1)) 58 t544 _ A34.out).mono ?_); rintro e w51 ⟨rfl, hb⟩; refine ⟨_, rfl, ?_⟩; have n0_ := am (Kd.R_below (by (with_reducible repeat first | apply rA | apply rN | apply rD); exact HO_3.out) hb); have n1_ := am (Kd.N_below (by (with_reducible repeat (first | apply Kd.N_alloc | apply Kd.N_drewN | apply Kd.N_drew)); exact HO_5.out) hb); have n2_ := am (Kd.V_below (by (with_reducible repeat (first | apply Kd.V_alloc | apply Kd.V_drewN | apply Kd.V_drew)); exact HL539_0.out) hb); have n3_ := am (Kd.C_below (by repeat (first | (with_reducible exact HR539_0.out) | (with_reducible refine Kd.C_alloc ?_ _) | (with_reducible refine Kd.C_drewN ?_ _) | (with_reducible refine Kd.C_drew ?_) | exact HR539_0.out)) hb); have n4_ := am (below_step (by repeat (first | (with_reducible first | exact HB.out | apply bA | apply bN | apply bD) | exact HB.out)) hb); clear HO_3 HO_5 HL539_0 HR539_0 HB; have HO_3 := n0_; have HO_5 := n1_; have HL539_0 := n2_; have HR539_0 := n3_; have HB := n4_; clear n0_ n1_ n2_ n3_ n4_; (try clear hb); (try clear hb2); (try clear hk); (try clear hi)))
         go_roundg kj6
         case measure => have := HK1.out; have := HJ6.out; omega
         case rel => exact ⟨(x3_1), (decide (t544 ≥ 0)), (wrap64 (x6_1 + 1)), (by first | rfl | (simp; done) | (simp [*]; done)), (by first | rfl | (simp; done) | (simp [*]; done)), H', ⟨by have := HK1.out; have := HJ6.out; omega⟩, ⟨by (with_reducible repeat first | apply rA | apply rN | apply rD); exact HO_3.out⟩, ⟨by (with_reducible repeat (first | apply Kd.N_alloc | apply Kd.N_drewN | apply Kd.N_drew)); exact HO_5.out⟩, ⟨by repeat (first | (with_reducible first | exact HB.out | apply bA | apply bN | apply bD) | exact HB.out)⟩⟩
        rw [if_neg c15] at H
        exact absurd H (by simp)
       rw [if_neg c14] at H
       exact absurd H (by simp)
      rw [if_neg c13] at H
      exact absurd H (by simp)
     replace c12 := Bool.eq_false_iff.mpr c12; subst c12
     have H1 : (some x3_1) = some r := by rw [if_neg (show ¬ (false = true) by decide)] at H; exact H
     clear H; have H := H1; clear H1; obtain rfl := Option.some.inj H
     go_wp2
     go_ret
     exact ⟨_, by first | rfl | (simp [errW_none, errW_some] <;> rfl) | (simp [*, errW_none, errW_some] <;> rfl), by (with_reducible repeat first | apply rA | apply rN | apply rD); exact HO_3.out, by repeat (first | (with_reducible first | exact HB.out | apply bA | apply bN | apply bD) | exact HB.out)⟩

/-! ### letterboxref9_Same: function 49 -/
def letterboxref9_Same.f (a0 : ByteArray) (a1 : ByteArray) : Option (Bool) := (letterboxref9_Low.f a0).bind fun t550 => ((letterboxref9_Low.f a1).bind fun t551 => (some (t550.toList == t551.toList)))
set_option maxHeartbeats 8000000 in
set_option maxRecDepth 100000 in
theorem letterboxref9_Same.calls (a0 : ByteArray) (a1 : ByteArray) (r : Bool) (w : World) (h : letterboxref9_Same.f a0 a1 = some r) :
  Calls Tryz.prog 49 #[.string a0, .string a1] w fun e w' => e = .returned (.bool r) ∧ Below w.heap.size w w' := by
 have HB := am (Below.refl w.heap.size w); have H : ((letterboxref9_Low.f a0).bind fun t550 => ((letterboxref9_Low.f a1).bind fun t551 => (some (t550.toList == t551.toList)))) = some r := h; clear h; replace H := Option.bind_eq_some_iff.mp H; obtain ⟨t550, A30, H⟩ := H; replace H : ((letterboxref9_Low.f a1).bind fun t551 => (some (t550.toList == t551.toList))) = some r := H; have A3 := am A30; clear A30; replace H := Option.bind_eq_some_iff.mp H; obtain ⟨t551, A40, H⟩ := H; replace H : (some (t550.toList == t551.toList)) = some r := H; have A4 := am A40; clear A40; obtain rfl := Option.some.inj H
 go_enter Tryz.func49, Tryz.ntmps49
 go_wp2_with (first | ((with_reducible refine gate_callee (f := 47) rfl ?_); refine goesL_ (some 6) rfl rfl Tryz.func47 (by kernel_rfl) rfl #[.string a0] rfl (by (try simp only [List.map_toArray, List.map_cons, List.map_nil]); first | done | rfl | (simp only [List.length_drop, List.length_take]; rfl)) ?_; (with_reducible refine (letterboxref9_Low.calls a0 t550 _ A3.out).mono ?_); rintro e w5 ⟨rfl, hb⟩; refine ⟨_, rfl, ?_⟩; have n0_ := am (below_step (by repeat (first | (with_reducible first | exact HB.out | apply bA | apply bN | apply bD) | exact HB.out)) hb); clear HB; have HB := n0_; clear n0_; (try clear hb); (try clear hb2); (try clear hk); (try clear hi)) | ((with_reducible refine gate_callee (f := 47) rfl ?_); refine goesL_ (some 8) rfl rfl Tryz.func47 (by kernel_rfl) rfl #[.string a1] rfl (by (try simp only [List.map_toArray, List.map_cons, List.map_nil]); first | done | rfl | (simp only [List.length_drop, List.length_take]; rfl)) ?_; (with_reducible refine (letterboxref9_Low.calls a1 t551 _ A4.out).mono ?_); rintro e w6 ⟨rfl, hb⟩; refine ⟨_, rfl, ?_⟩; have n0_ := am (below_step (by repeat (first | (with_reducible first | exact HB.out | apply bA | apply bN | apply bD) | exact HB.out)) hb); clear HB; have HB := n0_; clear n0_; (try clear hb); (try clear hb2); (try clear hk); (try clear hi)))
 go_ret
 exact ⟨by first | rfl | (simp [errW_none, errW_some] <;> rfl) | (simp [*, errW_none, errW_some] <;> rfl), by repeat (first | (with_reducible first | exact HB.out | apply bA | apply bN | apply bD) | exact HB.out)⟩

/-! ### letterboxref9_Get: function 32 -/
def letterboxref9_Get.l0 : Nat → ByteArray → List (S78) → Int → Option (ByteArray × Bool)
 | 0, _, _, _ => none
 | k + 1, x1, x6, x7 => if x7 < (x6.length : Int) then (if 0 ≤ x7 then ((letterboxref9_Same.f ((rd_T78 x6 x7).f0) x1).bind fun t556 => (if t556 = true then (some ((rd_T78 x6 x7).f1, true)) else (letterboxref9_Get.l0 k x1 x6 (wrap64 (x7 + 1))))) else (none)) else (some ((⟨#[]⟩ : ByteArray), false))
def letterboxref9_Get.f (k : Nat) (l0 : List Int) (a1 : ByteArray) : Option (ByteArray × Bool) := (letterboxref9_Fields.f k l0).bind fun t552 => (letterboxref9_Get.l0 k a1 t552 0)
set_option maxHeartbeats 8000000 in
set_option maxRecDepth 100000 in
theorem letterboxref9_Get.calls (k : Nat) (A0 : Option Addr) (c0 : Nat) (l0 : List Int) (a1 : ByteArray) (r1 : ByteArray) (r2 : Bool) (w : World) (hr0 : Kd.C (Kd.int .u8) w A0 l0.length l0) (hc0 : l0.length ≤ c0) (h : letterboxref9_Get.f k l0 a1 = some (r1, r2)) :
  Calls Tryz.prog 32 #[.slice A0 l0.length c0, .string a1] w fun e w' => e = .returned (.tuple #[.string r1, .bool r2]) ∧ Below w.heap.size w w' := by
 have HR0 := am hr0; have HC0 := am hc0; clear hr0 hc0; have HB := am (Below.refl w.heap.size w); have H : ((letterboxref9_Fields.f k l0).bind fun t552 => (letterboxref9_Get.l0 k a1 t552 0)) = some (r1, r2) := h; clear h; replace H := Option.bind_eq_some_iff.mp H; obtain ⟨t552, A30, H⟩ := H; replace H : (letterboxref9_Get.l0 k a1 t552 0) = some (r1, r2) := H; have A3 := am A30; clear A30; have H' := am H; clear H
 go_enter Tryz.func32, Tryz.ntmps32
 go_wp2_with (first | ((with_reducible refine gate_callee (f := 48) rfl ?_); refine goesL_ (some 9) rfl rfl Tryz.func48 (by kernel_rfl) rfl #[.slice A0 l0.length c0] rfl (by (try simp only [List.map_toArray, List.map_cons, List.map_nil]); first | done | rfl | (simp only [List.length_drop, List.length_take]; rfl)) ?_; (with_reducible refine (letterboxref9_Fields.calls k _ _ l0 t552 _ ?side1 ?side2 A3.out).mono ?_); (case side1 => repeat (first | exact HR0.out | (with_reducible refine Kd.C_alloc ?_ _) | (with_reducible refine Kd.C_drewN ?_ _) | (with_reducible refine Kd.C_drew ?_))); (case side2 => exact HC0.out); rintro e w4 ⟨v553, rfl, ho0, hb⟩; refine ⟨_, rfl, ?_⟩; have n0_ := am (Kd.R_lower ho0 (below_size (by repeat (first | (with_reducible first | exact HB.out | apply bA | apply bN | apply bD) | exact HB.out)))); have n1_ := am (below_step (by repeat (first | (with_reducible first | exact HB.out | apply bA | apply bN | apply bD) | exact HB.out)) hb); clear HB; have HO554 := n0_; have HB := n1_; clear n0_ n1_; (try clear hb); (try clear hb2); (try clear hk); (try clear hi); (try clear ho0)))
 go_loopg [7] k (fun kq v7 w' => ∃ (x7_1 : Int), v7 = .int .i64 x7_1 ∧ Aside0 (letterboxref9_Get.l0 kq a1 t552 x7_1 = some (r1, r2)) ∧ Aside0 (kq ≤ k) ∧ Aside0 (Kd.R k78 78 w' w.heap.size (fun _ => True) v553 t552) ∧ Aside0 (Below w.heap.size w w'))
 case atStart => exact ⟨(0), (by first | rfl | (simp; done) | (simp [*]; done)), H', ⟨Nat.le_refl _⟩, ⟨by (with_reducible repeat first | apply rA | apply rN | apply rD); exact HO554.out⟩, ⟨by repeat (first | (with_reducible first | exact HB.out | apply bA | apply bN | apply bD) | exact HB.out)⟩⟩
 case round =>
  clear H'; (try clear p2); (try clear c3); (try clear c4); obtain ⟨x7_1, rfl, HA, HK1, HO_6, HB⟩ := hrel
  cases gk with
  | zero => exact absurd HA.out (by simp [letterboxref9_Get.l0])
  | succ k1 =>
   have H := HA.out; clear HA; simp only [letterboxref9_Get.l0] at H
   by_cases c5 : x7_1 < (t552.length : Int)
   ·rw [if_pos c5] at H; have c5b0 : decide (x7_1 < (t552.length : Int)) = true := decide_eq_true c5; clear c5
    by_cases c6 : 0 ≤ x7_1
    ·rw [if_pos c6] at H; have c6b0 : decide (0 ≤ x7_1) = true := decide_eq_true c6; clear c6; replace H := Option.bind_eq_some_iff.mp H; obtain ⟨t556, A70, H⟩ := H; (try dsimp only at H); have A7 := am A70; clear A70
     by_cases c8 : t556 = true
     ·subst c8
      have H1 : (some ((rd_T78 t552 x7_1).f1, true)) = some (r1, r2) := by rw [if_pos rfl] at H; exact H
      clear H; have H := H1; clear H1; simp only [Option.some.injEq, Prod.mk.injEq] at H; obtain ⟨rfl, rfl⟩ := H; obtain ⟨Ao9, co9, eo9⟩ := Kd.R_slice HO_6.out; subst eo9; have p555 : 0 ≤ (x7_1 : Int) := of_decide_eq_true (by first | (with_reducible assumption) | assumption); have q555 : x7_1 < (t552.length : Int) := of_decide_eq_true (by first | (with_reducible assumption) | assumption); obtain ⟨ad555, e555, hx555_0, hx555_1⟩ := at_T78 (Kd.R_reads' HO_6.out).2.2 x7_1 p555 q555
      cases e555
      replace p555 := eq_true p555; replace q555 := eq_true q555
      go_wp2_with (first | ((with_reducible refine gate_callee (f := 49) rfl ?_); refine goesL_ (some 22) rfl rfl Tryz.func49 (by kernel_rfl) rfl #[.string ((rd_T78 t552 x7_1).f0), .string a1] rfl (by (try simp only [List.map_toArray, List.map_cons, List.map_nil]); first | done | rfl | (simp only [List.length_drop, List.length_take]; rfl)) ?_; (with_reducible refine (letterboxref9_Same.calls ((rd_T78 t552 x7_1).f0) a1 true _ A7.out).mono ?_); rintro e w10 ⟨rfl, hb⟩; refine ⟨_, rfl, ?_⟩; have n0_ := am (Kd.R_below (by (with_reducible repeat first | apply rA | apply rN | apply rD); exact HO_6.out) hb); have n1_ := am (below_step (by repeat (first | (with_reducible first | exact HB.out | apply bA | apply bN | apply bD) | exact HB.out)) hb); clear HO_6 HB; have HO_6 := n0_; have HB := n1_; clear n0_ n1_; (try clear hb); (try clear hb2); (try clear hk); (try clear hi); have p557 : 0 ≤ (x7_1 : Int) := of_decide_eq_true (by first | (with_reducible assumption) | assumption); have q557 : x7_1 < (t552.length : Int) := of_decide_eq_true (by first | (with_reducible assumption) | assumption); obtain ⟨ad557, e557, hx557_0, hx557_1⟩ := at_T78 (Kd.R_reads' HO_6.out).2.2 x7_1 p557 q557; obtain rfl : ad555 = ad557 := (by injection e557); replace p557 := eq_true p557; replace q557 := eq_true q557))
      go_ret2
      exact ⟨by first | rfl | (simp [errW_none, errW_some] <;> rfl) | (simp [*, errW_none, errW_some] <;> rfl), by repeat (first | (with_reducible first | exact HB.out | apply bA | apply bN | apply bD) | exact HB.out)⟩
     replace c8 := Bool.eq_false_iff.mpr c8; subst c8
     have H1 : (letterboxref9_Get.l0 k1 a1 t552 (wrap64 (x7_1 + 1))) = some (r1, r2) := by rw [if_neg (show ¬ (false = true) by decide)] at H; exact H
     clear H; have H := H1; clear H1; have H' := am H; clear H; obtain ⟨Ao11, co11, eo11⟩ := Kd.R_slice HO_6.out; subst eo11; have p555 : 0 ≤ (x7_1 : Int) := of_decide_eq_true (by first | (with_reducible assumption) | assumption); have q555 : x7_1 < (t552.length : Int) := of_decide_eq_true (by first | (with_reducible assumption) | assumption); obtain ⟨ad555, e555, hx555_0, hx555_1⟩ := at_T78 (Kd.R_reads' HO_6.out).2.2 x7_1 p555 q555
     cases e555
     replace p555 := eq_true p555; replace q555 := eq_true q555
     go_wp2_with (first | ((with_reducible refine gate_callee (f := 49) rfl ?_); refine goesL_ (some 22) rfl rfl Tryz.func49 (by kernel_rfl) rfl #[.string ((rd_T78 t552 x7_1).f0), .string a1] rfl (by (try simp only [List.map_toArray, List.map_cons, List.map_nil]); first | done | rfl | (simp only [List.length_drop, List.length_take]; rfl)) ?_; (with_reducible refine (letterboxref9_Same.calls ((rd_T78 t552 x7_1).f0) a1 false _ A7.out).mono ?_); rintro e w12 ⟨rfl, hb⟩; refine ⟨_, rfl, ?_⟩; have n0_ := am (Kd.R_below (by (with_reducible repeat first | apply rA | apply rN | apply rD); exact HO_6.out) hb); have n1_ := am (below_step (by repeat (first | (with_reducible first | exact HB.out | apply bA | apply bN | apply bD) | exact HB.out)) hb); clear HO_6 HB; have HO_6 := n0_; have HB := n1_; clear n0_ n1_; (try clear hb); (try clear hb2); (try clear hk); (try clear hi)))
     go_roundg k1
     case measure => have := HK1.out; omega
     case rel => exact ⟨(wrap64 (x7_1 + 1)), (by first | rfl | (simp; done) | (simp [*]; done)), H', ⟨by have := HK1.out; omega⟩, ⟨by (with_reducible repeat first | apply rA | apply rN | apply rD); exact HO_6.out⟩, ⟨by repeat (first | (with_reducible first | exact HB.out | apply bA | apply bN | apply bD) | exact HB.out)⟩⟩
    rw [if_neg c6] at H
    exact absurd H (by simp)
   rw [if_neg c5] at H; have c5b0 : decide (x7_1 < (t552.length : Int)) = false := decide_eq_false c5; clear c5; simp only [Option.some.injEq, Prod.mk.injEq] at H; obtain ⟨rfl, rfl⟩ := H; obtain ⟨Ao13, co13, eo13⟩ := Kd.R_slice HO_6.out; subst eo13
   go_wp2
   go_ret2
   exact ⟨by first | rfl | (simp [errW_none, errW_some] <;> rfl) | (simp [*, errW_none, errW_some] <;> rfl), by repeat (first | (with_reducible first | exact HB.out | apply bA | apply bN | apply bD) | exact HB.out)⟩

/-! ### letterboxref12_Has: function 33 -/
mutual
def letterboxref12_Has.l0 : Nat → List (S73) → Int → Int → Int → Option (Bool)
 | 0, _, _, _, _ => none
 | k + 1, x0, x1, x2, x7 => if x7 < (x0.length : Int) then (if 0 ≤ x7 then (if ((rd_T73 x0 x7).f0) = 1073741824 then (letterboxref12_Has.j1 k x0 x1 x2 x7 x2 ((rd_T73 x0 x7).f1)) else (letterboxref12_Has.j1 k x0 x1 x2 x7 ((rd_T73 x0 x7).f0) ((rd_T73 x0 x7).f1))) else (none)) else (some false)
def letterboxref12_Has.j1 : Nat → List (S73) → Int → Int → Int → Int → Int → Option (Bool)
 | 0, _, _, _, _, _, _ => none
 | k + 1, x0, x1, x2, x7, x8, x9 => if x9 = 1073741824 then (if x1 ≥ 1 then (if x1 ≥ (mn x8 x2) then (if x1 ≤ (mx x8 x2) then (some true) else (letterboxref12_Has.l0 k x0 x1 x2 (wrap64 (x7 + 1)))) else (letterboxref12_Has.l0 k x0 x1 x2 (wrap64 (x7 + 1)))) else (letterboxref12_Has.l0 k x0 x1 x2 (wrap64 (x7 + 1)))) else (if x1 ≥ 1 then (if x1 ≥ (mn x8 x9) then (if x1 ≤ (mx x8 x9) then (some true) else (letterboxref12_Has.l0 k x0 x1 x2 (wrap64 (x7 + 1)))) else (letterboxref12_Has.l0 k x0 x1 x2 (wrap64 (x7 + 1)))) else (letterboxref12_Has.l0 k x0 x1 x2 (wrap64 (x7 + 1))))
end
def letterboxref12_Has.f (k : Nat) (l0 : List (S73)) (a1 : Int) (a2 : Int) : Option (Bool) := letterboxref12_Has.l0 k l0 a1 a2 0
set_option maxHeartbeats 8000000 in
set_option maxRecDepth 100000 in
theorem letterboxref12_Has.calls (k : Nat) (A0 : Option Addr) (c0 : Nat) (l0 : List (S73)) (a1 : Int) (a2 : Int) (r : Bool) (w : World) (hr0 : Kd.C k73 w A0 l0.length l0) (hc0 : l0.length ≤ c0) (h : letterboxref12_Has.f k l0 a1 a2 = some r) :
  Calls Tryz.prog 33 #[.slice A0 l0.length c0, .int .i64 a1, .int .i64 a2] w fun e w' => e = .returned (.bool r) ∧ Below w.heap.size w w' := by
 have HR0 := am hr0; have HC0 := am hc0; clear hr0 hc0; have HB := am (Below.refl w.heap.size w); have H : (letterboxref12_Has.l0 k l0 a1 a2 0) = some r := h; clear h; have H' := am H; clear H
 go_enter Tryz.func33, Tryz.ntmps33
 go_wp2
 repeat (go_quiet (fail); try go_wp2)
 go_loopg [7] k (fun kq v7 w' => ∃ (x7_1 : Int), v7 = .int .i64 x7_1 ∧ Aside0 (letterboxref12_Has.l0 kq l0 a1 a2 x7_1 = some r) ∧ Aside0 (kq ≤ k) ∧ Aside0 (Below w.heap.size w w'))
 case atStart => exact ⟨(0), (by first | rfl | (simp; done) | (simp [*]; done)), H', ⟨Nat.le_refl _⟩, ⟨by repeat (first | (with_reducible first | exact HB.out | apply bA | apply bN | apply bD) | exact HB.out)⟩⟩
 case round =>
  clear H'; (try clear p2); (try clear c3); obtain ⟨x7_1, rfl, HA, HK1, HB⟩ := hrel
  cases gk with
  | zero => exact absurd HA.out (by simp [letterboxref12_Has.l0])
  | succ k1 =>
   have H := HA.out; clear HA; simp only [letterboxref12_Has.l0] at H
   by_cases c4 : x7_1 < (l0.length : Int)
   ·rw [if_pos c4] at H; have c4b0 : decide (x7_1 < (l0.length : Int)) = true := decide_eq_true c4; clear c4
    by_cases c5 : 0 ≤ x7_1
    ·rw [if_pos c5] at H; have c5b0 : decide (0 ≤ x7_1) = true := decide_eq_true c5; clear c5; have HC6 := am H; clear H; have p558 : 0 ≤ (x7_1 : Int) := of_decide_eq_true (by first | (with_reducible assumption) | assumption); have q558 : x7_1 < (l0.length : Int) := of_decide_eq_true (by first | (with_reducible assumption) | assumption); obtain ⟨ad558, e558, hx558_0, hx558_1⟩ := at_T73 HR0.out x7_1 p558 q558
     cases e558
     replace hx558_0 := (HB.out.cell (World.block_lt_of_cell? w _ hx558_0)).trans hx558_0; replace hx558_1 := (HB.out.cell (World.block_lt_of_cell? w _ hx558_1)).trans hx558_1; replace p558 := eq_true p558; replace q558 := eq_true q558; have p559 : 0 ≤ (x7_1 : Int) := of_decide_eq_true (by first | (with_reducible assumption) | assumption); have q559 : x7_1 < (l0.length : Int) := of_decide_eq_true (by first | (with_reducible assumption) | assumption); obtain ⟨ad559, e559, hx559_0, hx559_1⟩ := at_T73 HR0.out x7_1 p559 q559; obtain rfl : ad558 = ad559 := (by injection e559); replace hx559_0 := (HB.out.cell (World.block_lt_of_cell? w _ hx559_0)).trans hx559_0; replace hx559_1 := (HB.out.cell (World.block_lt_of_cell? w _ hx559_1)).trans hx559_1; replace p559 := eq_true p559; replace q559 := eq_true q559
     go_upto_if 27 with (fail)
     repeat (go_quiet (fail); go_upto_if 27 with (fail))
     go_cut [8] (fun v8 wc => ∃ (kq : Nat) (x8_5 : Int), v8 = .int .i64 x8_5 ∧ Aside0 (letterboxref12_Has.j1 kq l0 a1 a2 x7_1 x8_5 ((rd_T73 l0 x7_1).f1) = some r) ∧ Aside0 (kq ≤ k1) ∧ Aside0 (Below w.heap.size w wc))
     case first =>
      have H := HC6.out; clear HC6
      by_cases c7 : ((rd_T73 l0 x7_1).f0) = 1073741824
      ·rw [if_pos c7] at H; have c7b0 : (((rd_T73 l0 x7_1).f0) == 1073741824) = true := beq_iff_eq.mpr c7; have c7b1 : (((rd_T73 l0 x7_1).f0) != 1073741824) = false := bne_eq_false_iff_eq.mpr c7; clear c7
       (first | rw [c7b0] | (simp only [i64_w, i32_w]; rw [c7b0]) | skip)
       have H' := am H; clear H
       go_wp2
       repeat (go_quiet (fail); try go_wp2)
       go_meet
       case rel => exact ⟨_, (a2), (by first | rfl | (simp; done) | (simp [*]; done)), H', ⟨by have := HK1.out; first | omega | exact Nat.le_refl _⟩, ⟨by repeat (first | (with_reducible first | exact HB.out | apply bA | apply bN | apply bD) | exact HB.out)⟩⟩
      rw [if_neg c7] at H; have c7b0 : (((rd_T73 l0 x7_1).f0) == 1073741824) = false := beq_eq_false_iff_ne.mpr c7; have c7b1 : (((rd_T73 l0 x7_1).f0) != 1073741824) = true := bne_iff_ne.mpr c7
      (first | rw [c7b0] | (simp only [i64_w, i32_w]; rw [c7b0]) | skip)
      have H' := am H; clear H
      go_wp2
      repeat (go_quiet (fail); try go_wp2)
      go_meet
      case rel => exact ⟨_, ((rd_T73 l0 x7_1).f0), (by first | rfl | (simp; done) | (simp [*]; done)), H', ⟨by have := HK1.out; first | omega | exact Nat.le_refl _⟩, ⟨by repeat (first | (with_reducible first | exact HB.out | apply bA | apply bN | apply bD) | exact HB.out)⟩⟩
     case rest =>
      clear HC6; (try clear p2); (try clear c3); (try clear c4); (try clear c4b0); (try clear c5); (try clear c5b0); (try clear p5); (try clear q5); (try clear hx5); (try clear c7); (try clear c7b0); (try clear c7b1); (try clear hx558_0); (try clear hx558_1); (try clear hx559_0); (try clear hx559_1); (try clear p2); (try clear p558); (try clear p559); (try clear q558); (try clear q559); obtain ⟨kq, x8_5, rfl, HA, HJ5, HB⟩ := hcut
      cases kq with
      | zero => exact absurd HA.out (by simp [letterboxref12_Has.j1])
      | succ kj5 =>
       have H := HA.out; clear HA; simp only [letterboxref12_Has.j1] at H
       by_cases c8 : ((rd_T73 l0 x7_1).f1) = 1073741824
       ·rw [if_pos c8] at H; have c8b0 : (((rd_T73 l0 x7_1).f1) == 1073741824) = true := beq_iff_eq.mpr c8; have c8b1 : (((rd_T73 l0 x7_1).f1) != 1073741824) = false := bne_eq_false_iff_eq.mpr c8; clear c8
        by_cases c9 : a1 ≥ 1
        ·rw [if_pos c9] at H; have c9b0 : decide (1 ≤ a1) = true := decide_eq_true c9; clear c9; obtain ⟨ji10, hji10⟩ : ∃ j_ : Int, (mn x8_5 a2) = j_ := ⟨_, rfl⟩
         replace H : (if a1 ≥ (ji10) then (if a1 ≤ (mx x8_5 a2) then (some true) else (letterboxref12_Has.l0 kj5 l0 a1 a2 (wrap64 (x7_1 + 1)))) else (letterboxref12_Has.l0 kj5 l0 a1 a2 (wrap64 (x7_1 + 1)))) = some r := by first | (rw [hji10] at H; exact H) | (simp only [hji10] at H ⊢; exact H)
         have hji10_ : (if a2 < x8_5 then a2 else x8_5) = ji10 := hji10
         by_cases c11 : a1 ≥ (ji10)
         ·rw [if_pos c11] at H; have c11b0 : decide ((ji10) ≤ a1) = true := decide_eq_true c11; clear c11; obtain ⟨ji12, hji12⟩ : ∃ j_ : Int, (mx x8_5 a2) = j_ := ⟨_, rfl⟩
          replace H : (if a1 ≤ (ji12) then (some true) else (letterboxref12_Has.l0 kj5 l0 a1 a2 (wrap64 (x7_1 + 1)))) = some r := by first | (rw [hji12] at H; exact H) | (simp only [hji12] at H ⊢; exact H)
          have hji12_ : (if x8_5 < a2 then a2 else x8_5) = ji12 := hji12
          by_cases c13 : a1 ≤ (ji12)
          ·rw [if_pos c13] at H; have c13b0 : decide (a1 ≤ (ji12)) = true := decide_eq_true c13; clear c13; obtain rfl := Option.some.inj H
           go_wp2
           repeat (go_quiet (fail); try go_wp2)
           go_ret
           exact ⟨by first | rfl | (simp [errW_none, errW_some] <;> rfl) | (simp only [← hji10, ← hji12]; first | rfl | (simp [errW_none, errW_some] <;> rfl)) | (simp [*, errW_none, errW_some] <;> rfl), by repeat (first | (with_reducible first | exact HB.out | apply bA | apply bN | apply bD) | exact HB.out)⟩
          rw [if_neg c13] at H; have c13b0 : decide (a1 ≤ (ji12)) = false := decide_eq_false c13; clear c13; have H' := am H; clear H
          go_wp2
          repeat (go_quiet (fail); try go_wp2)
          go_roundg kj5
          case measure => have := HK1.out; have := HJ5.out; omega
          case rel => exact ⟨(wrap64 (x7_1 + 1)), (by first | rfl | (simp; done) | (simp [*]; done)), H', ⟨by have := HK1.out; have := HJ5.out; omega⟩, ⟨by repeat (first | (with_reducible first | exact HB.out | apply bA | apply bN | apply bD) | exact HB.out)⟩⟩
         rw [if_neg c11] at H; have c11b0 : decide ((ji10) ≤ a1) = false := decide_eq_false c11; clear c11; have H' := am H; clear H
         go_wp2
         repeat (go_quiet (fail); try go_wp2)
         go_roundg kj5
         case measure => have := HK1.out; have := HJ5.out; omega
         case rel => exact ⟨(wrap64 (x7_1 + 1)), (by first | rfl | (simp; done) | (simp [*]; done)), H', ⟨by have := HK1.out; have := HJ5.out; omega⟩, ⟨by repeat (first | (with_reducible first | exact HB.out | apply bA | apply bN | apply bD) | exact HB.out)⟩⟩
        rw [if_neg c9] at H; have c9b0 : decide (1 ≤ a1) = false := decide_eq_false c9; clear c9; have H' := am H; clear H
        go_wp2
        repeat (go_quiet (fail); try go_wp2)
        go_roundg kj5
        case measure => have := HK1.out; have := HJ5.out; omega
        case rel => exact ⟨(wrap64 (x7_1 + 1)), (by first | rfl | (simp; done) | (simp [*]; done)), H', ⟨by have := HK1.out; have := HJ5.out; omega⟩, ⟨by repeat (first | (with_reducible first | exact HB.out | apply bA | apply bN | apply bD) | exact HB.out)⟩⟩
       rw [if_neg c8] at H; have c8b0 : (((rd_T73 l0 x7_1).f1) == 1073741824) = false := beq_eq_false_iff_ne.mpr c8; have c8b1 : (((rd_T73 l0 x7_1).f1) != 1073741824) = true := bne_iff_ne.mpr c8
       by_cases c14 : a1 ≥ 1
       ·rw [if_pos c14] at H; have c14b0 : decide (1 ≤ a1) = true := decide_eq_true c14; clear c14; obtain ⟨ji15, hji15⟩ : ∃ j_ : Int, (mn x8_5 ((rd_T73 l0 x7_1).f1)) = j_ := ⟨_, rfl⟩
        replace H : (if a1 ≥ (ji15) then (if a1 ≤ (mx x8_5 ((rd_T73 l0 x7_1).f1)) then (some true) else (letterboxref12_Has.l0 kj5 l0 a1 a2 (wrap64 (x7_1 + 1)))) else (letterboxref12_Has.l0 kj5 l0 a1 a2 (wrap64 (x7_1 + 1)))) = some r := by first | (rw [hji15] at H; exact H) | (simp only [hji15] at H ⊢; exact H)
        have hji15_ : (if ((rd_T73 l0 x7_1).f1) < x8_5 then ((rd_T73 l0 x7_1).f1) else x8_5) = ji15 := hji15
        by_cases c16 : a1 ≥ (ji15)
        ·rw [if_pos c16] at H; have c16b0 : decide ((ji15) ≤ a1) = true := decide_eq_true c16; clear c16; obtain ⟨ji17, hji17⟩ : ∃ j_ : Int, (mx x8_5 ((rd_T73 l0 x7_1).f1)) = j_ := ⟨_, rfl⟩
         replace H : (if a1 ≤ (ji17) then (some true) else (letterboxref12_Has.l0 kj5 l0 a1 a2 (wrap64 (x7_1 + 1)))) = some r := by first | (rw [hji17] at H; exact H) | (simp only [hji17] at H ⊢; exact H)
         have hji17_ : (if x8_5 < ((rd_T73 l0 x7_1).f1) then ((rd_T73 l0 x7_1).f1) else x8_5) = ji17 := hji17
         by_cases c18 : a1 ≤ (ji17)
         ·rw [if_pos c18] at H; have c18b0 : decide (a1 ≤ (ji17)) = true := decide_eq_true c18; clear c18; obtain rfl := Option.some.inj H
          go_wp2
          repeat (go_quiet (fail); try go_wp2)
          go_ret
          exact ⟨by first | rfl | (simp [errW_none, errW_some] <;> rfl) | (simp only [← hji15, ← hji17]; first | rfl | (simp [errW_none, errW_some] <;> rfl)) | (simp [*, errW_none, errW_some] <;> rfl), by repeat (first | (with_reducible first | exact HB.out | apply bA | apply bN | apply bD) | exact HB.out)⟩
         rw [if_neg c18] at H; have c18b0 : decide (a1 ≤ (ji17)) = false := decide_eq_false c18; clear c18; have H' := am H; clear H
         go_wp2
         repeat (go_quiet (fail); try go_wp2)
         go_roundg kj5
         case measure => have := HK1.out; have := HJ5.out; omega
         case rel => exact ⟨(wrap64 (x7_1 + 1)), (by first | rfl | (simp; done) | (simp [*]; done)), H', ⟨by have := HK1.out; have := HJ5.out; omega⟩, ⟨by repeat (first | (with_reducible first | exact HB.out | apply bA | apply bN | apply bD) | exact HB.out)⟩⟩
        rw [if_neg c16] at H; have c16b0 : decide ((ji15) ≤ a1) = false := decide_eq_false c16; clear c16; have H' := am H; clear H
        go_wp2
        repeat (go_quiet (fail); try go_wp2)
        go_roundg kj5
        case measure => have := HK1.out; have := HJ5.out; omega
        case rel => exact ⟨(wrap64 (x7_1 + 1)), (by first | rfl | (simp; done) | (simp [*]; done)), H', ⟨by have := HK1.out; have := HJ5.out; omega⟩, ⟨by repeat (first | (with_reducible first | exact HB.out | apply bA | apply bN | apply bD) | exact HB.out)⟩⟩
       rw [if_neg c14] at H; have c14b0 : decide (1 ≤ a1) = false := decide_eq_false c14; clear c14; have H' := am H; clear H
       go_wp2
       repeat (go_quiet (fail); try go_wp2)
       go_roundg kj5
       case measure => have := HK1.out; have := HJ5.out; omega
       case rel => exact ⟨(wrap64 (x7_1 + 1)), (by first | rfl | (simp; done) | (simp [*]; done)), H', ⟨by have := HK1.out; have := HJ5.out; omega⟩, ⟨by repeat (first | (with_reducible first | exact HB.out | apply bA | apply bN | apply bD) | exact HB.out)⟩⟩
    rw [if_neg c5] at H
    exact absurd H (by simp)
   rw [if_neg c4] at H; have c4b0 : decide (x7_1 < (l0.length : Int)) = false := decide_eq_false c4; clear c4; obtain rfl := Option.some.inj H
   go_wp2
   repeat (go_quiet (fail); try go_wp2)
   go_ret
   exact ⟨by first | rfl | (simp [errW_none, errW_some] <;> rfl) | (simp [*, errW_none, errW_some] <;> rfl), by repeat (first | (with_reducible first | exact HB.out | apply bA | apply bN | apply bD) | exact HB.out)⟩

end Go.Proofs.YtejhfghijgbckaaGreatDoor.P
