/- The walks of the seat's functions, one contract a function: printed by a program of this session's (wip/gen). Not trusted: Lean checks it. -/
import Derived.Test.YtlicjigofnbpjaaDoorPx1
import Derived.Test.YtlicjigofnbpjaaDoorPx2
import Derived.Test.YtlicjigofnbpjaaDoorPx3
namespace Go.Proofs.YtlicjigofnbpjaaDoor.P
open Go.RowKit Go.Proofs.YtlicjigofnbpjaaDoorW.PrintWords Go.Proofs.YtlicjigofnbpjaaDoorW.PrintLast Go.Proofs.YtlicjigofnbpjaaDoorW.PrintMore
attribute [local go_sem] max2_int min2_int max_two min_two max_three min_three max_four min_four   -- for this text's walks alone
set_option linter.unusedVariables false
set_option linter.unusedSimpArgs false

/-! ### letterboxref9_Fields: function 13 -/
mutual
def letterboxref9_Fields.l0 : Nat → List (S26) → Bool → List (List Int) → Int → Option ((List (S26)))
  | 0, _, _, _, _ => none
  | k + 1, x3, x4, x5, x6 => if x6 < (x5.length : Int) then (if 0 ≤ x6 then (letterboxref9_Fields.j1 k x3 x4 x5 x6 (decide (((rd_L1 x5 x6).length : Int) > 0))) else (none)) else (letterboxref9_Fields.j1 k x3 x4 x5 x6 false)
def letterboxref9_Fields.j1 : Nat → List (S26) → Bool → List (List Int) → Int → Bool → Option ((List (S26)))
  | 0, _, _, _, _, _ => none
  | k + 1, x3, x4, x5, x6, x23 => if x23 = true then (if 0 ≤ x6 then (if x6 < (x5.length : Int) then (if 0 < ((strOfNums (rd_L1 x5 x6)).size : Int) then ((letterboxref9_blank.f (bt (strOfNums (rd_L1 x5 x6)) 0)).bind fun t215 => (if t215 = true then (if x4 = true then (if 0 ≤ (wrap64 ((x3.length : Int) - 1)) then (if (wrap64 ((x3.length : Int) - 1)) < (x3.length : Int) then (if ((rd_T26 x3 (wrap64 ((x3.length : Int) - 1))).f1).size + 1 ≤ 9223372036854775807 then ((letterboxref9_Trim.f k (strOfNums (rd_L1 x5 x6))).bind fun t217 => (if ((rd_T26 x3 (wrap64 ((x3.length : Int) - 1))).f1).size + 1 + t217.size ≤ 9223372036854775807 then (letterboxref9_Fields.l0 k (x3.set ((wrap64 ((x3.length : Int) - 1)) : Int).toNat (⟨(rd_T26 x3 (wrap64 ((x3.length : Int) - 1))).f0, (((rd_T26 x3 (wrap64 ((x3.length : Int) - 1))).f1) ++ (⟨#[32]⟩ : ByteArray)) ++ t217⟩ : S26)) x4 x5 (wrap64 (x6 + 1))) else (none))) else (none)) else (none)) else (none)) else (letterboxref9_Fields.l0 k x3 x4 x5 (wrap64 (x6 + 1)))) else ((letterboxref9_Colon.f k (strOfNums (rd_L1 x5 x6)) 58).bind fun t219 => (if t219 ≥ 0 then (if 0 ≤ t219 then (if t219 ≤ ((strOfNums (rd_L1 x5 x6)).size : Int) then ((letterboxref9_Trim.f k ((strOfNums (rd_L1 x5 x6)).extract 0 (t219 : Int).toNat)).bind fun t220 => (if 0 ≤ (wrap64 (t219 + 1)) then (if (wrap64 (t219 + 1)) ≤ ((strOfNums (rd_L1 x5 x6)).size : Int) then ((letterboxref9_Trim.f k ((strOfNums (rd_L1 x5 x6)).extract ((wrap64 (t219 + 1)) : Int).toNat (strOfNums (rd_L1 x5 x6)).size)).bind fun t221 => (if x3.length < 4398046511104 then (letterboxref9_Fields.l0 k (x3 ++ [(⟨t220, t221⟩ : S26)]) (decide (t219 ≥ 0)) x5 (wrap64 (x6 + 1))) else (none))) else (none)) else (none))) else (none)) else (none)) else (letterboxref9_Fields.l0 k x3 (decide (t219 ≥ 0)) x5 (wrap64 (x6 + 1))))))) else (none)) else (none)) else (none)) else (some x3)
end
def letterboxref9_Fields.f (k : Nat) (l0 : List Int) : Option ((List (S26))) := (letterboxref9_Head.f k l0).bind fun t207 => ((letterboxref9_Split.f k t207).bind fun t210 => (letterboxref9_Fields.l0 k ([] : List (S26)) false t210 0))
theorem letterboxref9_Fields.mono_l : ∀ k, (∀ y0 y1 y2 y3, LeO (letterboxref9_Fields.l0 k y0 y1 y2 y3) (letterboxref9_Fields.l0 (k + 1) y0 y1 y2 y3)) ∧ (∀ y0 y1 y2 y3 y4, LeO (letterboxref9_Fields.j1 k y0 y1 y2 y3 y4) (letterboxref9_Fields.j1 (k + 1) y0 y1 y2 y3 y4))
  | 0 => ⟨fun _ _ _ _ r h => by simp [letterboxref9_Fields.l0] at h, fun _ _ _ _ _ r h => by simp [letterboxref9_Fields.j1] at h⟩
  | k + 1 => by
    obtain ⟨ih0, ih1⟩ := letterboxref9_Fields.mono_l k
    refine ⟨?_, ?_⟩
    · intro y0 y1 y2 y3
      unfold letterboxref9_Fields.l0
      repeat' first
      | (with_reducible exact ih0 _ _ _ _)
      | (with_reducible exact ih1 _ _ _ _ _)
      | (with_reducible exact letterboxref9_Colon.mono _ _ _)
      | (with_reducible exact letterboxref9_Head.mono _ _)
      | (with_reducible exact letterboxref9_Split.mono _ _)
      | (with_reducible exact letterboxref9_Trim.mono _ _)
      | (with_reducible exact LeO.refl _)
      | (with_reducible exact LeO.none _)
      | (with_reducible refine LeO.ite ?_ ?_)
      | (with_reducible refine LeO.bind ?_ (fun _ => ?_))
      | exact ih0 _ _ _ _
      | exact ih1 _ _ _ _ _
      | exact letterboxref9_Colon.mono _ _ _
      | exact letterboxref9_Head.mono _ _
      | exact letterboxref9_Split.mono _ _
      | exact letterboxref9_Trim.mono _ _
      | exact LeO.none _
      | refine LeO.ite ?_ ?_
      | refine LeO.bind ?_ (fun _ => ?_)
    · intro y0 y1 y2 y3 y4
      unfold letterboxref9_Fields.j1
      repeat' first
      | (with_reducible exact ih0 _ _ _ _)
      | (with_reducible exact ih1 _ _ _ _ _)
      | (with_reducible exact letterboxref9_Colon.mono _ _ _)
      | (with_reducible exact letterboxref9_Head.mono _ _)
      | (with_reducible exact letterboxref9_Split.mono _ _)
      | (with_reducible exact letterboxref9_Trim.mono _ _)
      | (with_reducible exact LeO.refl _)
      | (with_reducible exact LeO.none _)
      | (with_reducible refine LeO.ite ?_ ?_)
      | (with_reducible refine LeO.bind ?_ (fun _ => ?_))
      | exact ih0 _ _ _ _
      | exact ih1 _ _ _ _ _
      | exact letterboxref9_Colon.mono _ _ _
      | exact letterboxref9_Head.mono _ _
      | exact letterboxref9_Split.mono _ _
      | exact letterboxref9_Trim.mono _ _
      | exact LeO.none _
      | refine LeO.ite ?_ ?_
      | refine LeO.bind ?_ (fun _ => ?_)
theorem letterboxref9_Fields.mono : ∀ a0 k, LeO (letterboxref9_Fields.f k a0) (letterboxref9_Fields.f (k + 1) a0) := by
  intro a0 k
  obtain ⟨ih0, ih1⟩ := letterboxref9_Fields.mono_l k
  unfold letterboxref9_Fields.f
  repeat' first
      | (with_reducible exact ih0 _ _ _ _)
      | (with_reducible exact ih1 _ _ _ _ _)
      | (with_reducible exact letterboxref9_Colon.mono _ _ _)
      | (with_reducible exact letterboxref9_Head.mono _ _)
      | (with_reducible exact letterboxref9_Split.mono _ _)
      | (with_reducible exact letterboxref9_Trim.mono _ _)
      | (with_reducible exact LeO.refl _)
      | (with_reducible exact LeO.none _)
      | (with_reducible refine LeO.ite ?_ ?_)
      | (with_reducible refine LeO.bind ?_ (fun _ => ?_))
      | exact ih0 _ _ _ _
      | exact ih1 _ _ _ _ _
      | exact letterboxref9_Colon.mono _ _ _
      | exact letterboxref9_Head.mono _ _
      | exact letterboxref9_Split.mono _ _
      | exact letterboxref9_Trim.mono _ _
      | exact LeO.none _
      | refine LeO.ite ?_ ?_
      | refine LeO.bind ?_ (fun _ => ?_)
def letterboxref9_Fields.T10 : Bool × List (List Nat × List Nat) := (true, [([], []), ([], []), ([1], [1]), ([2], [2]), ([], []), ([], []), ([5], [5]), ([6], [6]), ([4, 7], [4, 7]), ([8], [8]), ([9], [9]), ([10], [10]), ([], []), ([12], [12]), ([11, 13], [11, 13]), ([0, 3, 0, 1, 2, 3, 4, 5, 6, 7, 8, 9, 10, 11, 12, 13, 14], [0, 3]), ([15, 0, 1, 2, 3, 4, 5, 6, 7, 8, 9, 10, 11, 12, 13, 14], [15]), ([16, 14, 13, 0, 1, 2, 3, 4, 5, 6, 7, 8, 9, 10, 11, 12, 13, 14], [14, 16])])
def letterboxref9_Fields.B10 : List Nat := [0, 0, 2, 6, 0, 0, 32, 96, 240, 496, 1008, 2032, 0, 4096, 16368, 32767, 65535, 131071]
theorem letterboxref9_Fields.tab10 : rtab .any (opsOf Tryd.f13 10) = letterboxref9_Fields.T10 := by kernel_rfl
theorem letterboxref9_Fields.bits10 : waitsOk letterboxref9_Fields.T10.2 letterboxref9_Fields.B10 = true := by kernel_rfl
def letterboxref9_Fields.T14 : Bool × List (List Nat × List Nat) := (true, [([], []), ([], []), ([], []), ([1, 2], [1, 2]), ([3], [3]), ([], []), ([], []), ([6], [6]), ([5, 7], [5, 7]), ([8, 4], [8]), ([4, 9], [4, 9]), ([10], [10]), ([0, 11, 9], [0, 11]), ([12, 12, 0, 1, 2, 3, 4, 5, 6, 7, 8, 9, 10, 11, 12], [0, 12])])
def letterboxref9_Fields.B14 : List Nat := [0, 0, 0, 6, 14, 0, 0, 64, 224, 510, 1022, 2046, 4095, 8191]
theorem letterboxref9_Fields.tab14 : rtab .any (opsOf Tryd.f13 14) = letterboxref9_Fields.T14 := by kernel_rfl
theorem letterboxref9_Fields.bits14 : waitsOk letterboxref9_Fields.T14.2 letterboxref9_Fields.B14 = true := by kernel_rfl
set_option maxHeartbeats 8000000 in
set_option maxRecDepth 100000 in
theorem letterboxref9_Fields.calls (k : Nat) (A0 : Option Addr) (c0 : Nat) (l0 : List Int) (r : List (S26)) (w : World) (hr0 : Kd.C (Kd.int .u8) w A0 l0.length l0) (hc0 : l0.length ≤ c0) (h : letterboxref9_Fields.f k l0 = some r) :
    Calls Tryd.prog 13 #[.slice A0 l0.length c0] w fun e w' => ∃ v0_ : Value, e = .returned (v0_) ∧ Kd.R k26 26 w' w.heap.size (fun _ => True) v0_ r ∧ Below w.heap.size w w' := by
  have hu26 := Tryd.underlying26
  have HR0 := Aside0.mk hr0
  have HC0 := Aside0.mk hc0
  clear hr0 hc0
  have HB := Aside0.mk (Below.refl w.heap.size w)
  have H : ((letterboxref9_Head.f k l0).bind fun t207 => ((letterboxref9_Split.f k t207).bind fun t210 => (letterboxref9_Fields.l0 k ([] : List (S26)) false t210 0))) = some r := h
  clear h
  replace H := Option.bind_eq_some_iff.mp H
  obtain ⟨t207, A20, H⟩ := H
  replace H : ((letterboxref9_Split.f k t207).bind fun t210 => (letterboxref9_Fields.l0 k ([] : List (S26)) false t210 0)) = some r := H
  have A2 := Aside0.mk A20
  clear A20
  replace H := Option.bind_eq_some_iff.mp H
  obtain ⟨t210, A30, H⟩ := H
  replace H : (letterboxref9_Fields.l0 k ([] : List (S26)) false t210 0) = some r := H
  have A3 := Aside0.mk A30
  clear A30
  have H' := Aside0.mk H
  clear H
  go_enter Tryd.func13, Tryd.ntmps13
  go_wp2_with (first | ((with_reducible refine gate_callee (f := 28) rfl ?_); refine goesL_ (some 10) rfl rfl Tryd.func28 (by kernel_rfl) rfl #[.slice A0 l0.length c0] rfl (by (try simp only [List.map_toArray, List.map_cons, List.map_nil]); first | done | rfl | (simp only [List.length_drop, List.length_take]; rfl)) ?_; (with_reducible refine (letterboxref9_Head.calls k (fun k_ => k_ < w.heap.size) _ _ l0 t207 _ ?side1 A2.out).mono ?_); (case side1 => exact Kd.V_mk HC0.out (Kd.F_below (Kd.C_F (Kd.heap_int .u8) HR0.out) (by repeat (first | (with_reducible first | exact HB.out | apply below_alloc | apply pw_below_drewN | apply below_drew1) | exact HB.out)))); rintro e w4 ⟨v208, rfl, ho0, hb⟩; refine ⟨_, rfl, ?_⟩; have n0_ := Aside0.mk (Kd.V_lower (Kd.V_mono (ok' := fun k_ => True) ho0 (fun k_ hk_ => trivial)) (below_size (by repeat (first | (with_reducible first | exact HB.out | apply below_alloc | apply pw_below_drewN | apply below_drew1) | exact HB.out)))); have n1_ := Aside0.mk (below_step (by repeat (first | (with_reducible first | exact HB.out | apply below_alloc | apply pw_below_drewN | apply below_drew1) | exact HB.out)) hb); clear HB; have HO209 := n0_; have HB := n1_; clear n0_ n1_; (try clear hb); (try clear hb2); (try clear hk); (try clear hi); (try clear ho0); obtain ⟨Ao5, co5, eo5⟩ := Kd.V_slice HO209.out; subst eo5) | ((with_reducible refine gate_callee (f := 27) rfl ?_); refine goesL_ (some 11) rfl rfl Tryd.func27 (by kernel_rfl) rfl #[.slice Ao5 t207.length co5] rfl (by (try simp only [List.map_toArray, List.map_cons, List.map_nil]); first | done | rfl | (simp only [List.length_drop, List.length_take]; rfl)) ?_; (with_reducible refine (letterboxref9_Split.calls k (fun k_ => True) _ _ t207 t210 _ ?side1 A3.out).mono ?_); (case side1 => exact HO209.out); rintro e w6 ⟨v211, rfl, ho0, hb⟩; refine ⟨_, rfl, ?_⟩; have n0_ := Aside0.mk (Kd.V_elder' (by (with_reducible repeat (first | apply Kd.V_alloc | apply Kd.V_drewN | apply Kd.V_drew)); exact HO209.out) (Kd.N_base ho0) hb); have n1_ := Aside0.mk (Kd.N_lower (Kd.N_mono (ok' := fun k_ => True) ho0 (fun k_ hk_ => trivial)) (below_size (by repeat (first | (with_reducible first | exact HB.out | apply below_alloc | apply pw_below_drewN | apply below_drew1) | exact HB.out)))); have n2_ := Aside0.mk (below_step (by repeat (first | (with_reducible first | exact HB.out | apply below_alloc | apply pw_below_drewN | apply below_drew1) | exact HB.out)) hb); clear HO209; clear HB; have HO209 := n0_; have HO212 := n1_; have HB := n2_; clear n0_ n1_ n2_; (try clear hb); (try clear hb2); (try clear hk); (try clear hi); (try clear ho0)))
  go_loopg [3, 4, 6] k (fun kq v3 v4 v6 w' => ∃ (x3_1 : List (S26)) (x4_1 : Bool) (x6_1 : Int), v4 = .bool x4_1 ∧ v6 = .int .i64 x6_1 ∧ Aside0 (letterboxref9_Fields.l0 kq x3_1 x4_1 t210 x6_1 = some r) ∧ Aside0 (kq ≤ k) ∧ Aside0 (Kd.R k26 26 w' w.heap.size (fun _ => True) v3 x3_1) ∧ Aside0 (Kd.N (Kd.slice 5 (Kd.int .u8)) 22 w' w.heap.size (fun k_ => some k_ ≠ (v3 : Value).ownBlock) v211 t210) ∧ Aside0 (Below w.heap.size w w'))
  case atStart => exact ⟨(([] : List (S26))), (false), (0), (by first | rfl | (simp; done) | (simp [*]; done)), (by first | rfl | (simp; done) | (simp [*]; done)), H', ⟨Nat.le_refl _⟩, ⟨by first | exact Kd.R_nil _ _ _ _ _ | exact Kd.N_nil _ _ _ _ _ | exact Kd.V_nil _ _ _ _ _ | exact Kd.Q_nil _ _ _ _ _ | exact Kd.S_nil _ _ _ _ _⟩, ⟨by (with_reducible repeat (first | apply Kd.N_alloc | apply Kd.N_drewN | apply Kd.N_drew)); exact Kd.N_mono HO212.out (fun _ hk => (by simp [Value.ownBlock]))⟩, ⟨by repeat (first | (with_reducible first | exact HB.out | apply below_alloc | apply pw_below_drewN | apply below_drew1) | exact HB.out)⟩⟩
  case round =>
    clear H'
    try clear c1
    try clear c2
    try clear p2
    obtain ⟨x3_1, x4_1, x6_1, rfl, rfl, HA, HK1, HO_3, HO_5, HB⟩ := hrel
    cases gk with
    | zero => exact absurd HA.out (by simp [letterboxref9_Fields.l0])
    | succ k1 =>
      have H := HA.out
      clear HA
      simp only [letterboxref9_Fields.l0] at H
      have HC7 := Aside0.mk H
      clear H
      go_upto_region 5 with (fail)
      go_cut [23] (fun v23 wc => ∃ (kq : Nat) (x23_6 : Bool), v23 = .bool x23_6 ∧ Aside0 (letterboxref9_Fields.j1 kq x3_1 x4_1 t210 x6_1 x23_6 = some r) ∧ Aside0 (kq ≤ k1) ∧ Aside0 (Kd.R k26 26 wc w.heap.size (fun _ => True) u3 x3_1) ∧ Aside0 (Kd.N (Kd.slice 5 (Kd.int .u8)) 22 wc w.heap.size (fun k_ => some k_ ≠ (u3 : Value).ownBlock) v211 t210) ∧ Aside0 (Below w.heap.size w wc))
      case first =>
        have H := HC7.out
        clear HC7
        by_cases c8 : x6_1 < (t210.length : Int)
        · rw [if_pos c8] at H
          have c8b0 : decide (x6_1 < (t210.length : Int)) = true := decide_eq_true c8
          clear c8
          (first | rw [c8b0] | (simp only [i64_w, i32_w]; rw [c8b0]) | skip)
          by_cases c9 : 0 ≤ x6_1
          · rw [if_pos c9] at H
            have c9b0 : decide (0 ≤ x6_1) = true := decide_eq_true c9
            clear c9
            have H' := Aside0.mk H
            clear H
            obtain ⟨Ao10, co10, eo10⟩ := Kd.N_slice HO_5.out
            subst eo10
            have p213 : 0 ≤ (x6_1 : Int) := of_decide_eq_true (by first | (with_reducible assumption) | assumption)
            have q213 : x6_1 < (t210.length : Int) := of_decide_eq_true (by first | (with_reducible assumption) | assumption)
            obtain ⟨ad213, A213_0, c213_0, e213, hx213_0, hl213_0, hi213_0⟩ := at_L1 (Kd.N_reads' HO_5.out).2.2 x6_1 p213 q213
            cases e213
            obtain ⟨ce213, hce213, hMe213, hcc213⟩ := Kd.N_get HO_5.out [] x6_1 p213 (by first | exact q213 | exact of_decide_eq_true (by first | (with_reducible assumption) | assumption) | (have e_ := (Kd.N_reads' HO_5.out).1; omega))
            obtain ⟨ua213_0, uc213_0, rfl, ul213_0, ge213_0⟩ := Kd.FK_slice_open hMe213
            have hv213_0 := hcc213 0 _ rfl
            rw [Nat.add_zero, show ((Kd.slice 5 (Kd.int .u8))).sz = 1 from rfl, Nat.mul_one] at hv213_0
            replace hv213_0 := Option.some.inj (hv213_0.symm.trans hx213_0)
            injection hv213_0 with hva_ hvn_ hvc_
            rw [hva_] at ge213_0
            rw [hvc_] at ul213_0
            have HL213_0 := Aside0.mk (show Kd.V (Kd.int .u8) 5 _ w.heap.size _ _ (rd_L1 t210 x6_1) from Kd.V_mk ul213_0 ge213_0)
            clear hva_ hvn_ hvc_ ge213_0 ul213_0
            clear hcc213 hce213
            have HR213_0 := Aside0.mk hi213_0
            have HC213_0 := Aside0.mk hl213_0
            clear hi213_0 hl213_0
            replace p213 := eq_true p213
            replace q213 := eq_true q213
            go_wp2
            go_meet
            case rel => exact ⟨_, (decide (((rd_L1 t210 x6_1).length : Int) > 0)), (by first | rfl | (simp; done) | (simp [*]; done)), H', ⟨by have := HK1.out; first | omega | exact Nat.le_refl _⟩, ⟨by (with_reducible repeat (first | apply Kd.R_alloc | apply Kd.R_drewN | apply Kd.R_drew)); exact HO_3.out⟩, ⟨by (with_reducible repeat (first | apply Kd.N_alloc | apply Kd.N_drewN | apply Kd.N_drew)); exact HO_5.out⟩, ⟨by repeat (first | (with_reducible first | exact HB.out | apply below_alloc | apply pw_below_drewN | apply below_drew1) | exact HB.out)⟩⟩
          · rw [if_neg c9] at H
            exact absurd H (by simp)
        · rw [if_neg c8] at H
          have c8b0 : decide (x6_1 < (t210.length : Int)) = false := decide_eq_false c8
          clear c8
          (first | rw [c8b0] | (simp only [i64_w, i32_w]; rw [c8b0]) | skip)
          have H' := Aside0.mk H
          clear H
          obtain ⟨Ao11, co11, eo11⟩ := Kd.N_slice HO_5.out
          subst eo11
          go_wp2
          go_meet
          case rel => exact ⟨_, (false), (by first | rfl | (simp; done) | (simp [*]; done)), H', ⟨by have := HK1.out; first | omega | exact Nat.le_refl _⟩, ⟨by (with_reducible repeat (first | apply Kd.R_alloc | apply Kd.R_drewN | apply Kd.R_drew)); exact HO_3.out⟩, ⟨by (with_reducible repeat (first | apply Kd.N_alloc | apply Kd.N_drewN | apply Kd.N_drew)); exact HO_5.out⟩, ⟨by repeat (first | (with_reducible first | exact HB.out | apply below_alloc | apply pw_below_drewN | apply below_drew1) | exact HB.out)⟩⟩
      case rest =>
        clear HC7
        try clear c1
        try clear c2
        try clear p2
        try clear q2
        try clear hx2
        try clear c8
        try clear c8b0
        try clear c9
        try clear c9b0
        try clear hx213_0
        try clear p2
        try clear p213
        try clear q213
        obtain ⟨kq, x23_6, rfl, HA, HJ6, HO_3, HO_5, HB⟩ := hcut
        cases kq with
        | zero => exact absurd HA.out (by simp [letterboxref9_Fields.j1])
        | succ kj6 =>
          have H := HA.out
          clear HA
          simp only [letterboxref9_Fields.j1] at H
          by_cases c12 : x23_6 = true
          · subst c12
            have H1 : (if 0 ≤ x6_1 then (if x6_1 < (t210.length : Int) then (if 0 < ((strOfNums (rd_L1 t210 x6_1)).size : Int) then ((letterboxref9_blank.f (bt (strOfNums (rd_L1 t210 x6_1)) 0)).bind fun t215 => (if t215 = true then (if x4_1 = true then (if 0 ≤ (wrap64 ((x3_1.length : Int) - 1)) then (if (wrap64 ((x3_1.length : Int) - 1)) < (x3_1.length : Int) then (if ((rd_T26 x3_1 (wrap64 ((x3_1.length : Int) - 1))).f1).size + 1 ≤ 9223372036854775807 then ((letterboxref9_Trim.f kj6 (strOfNums (rd_L1 t210 x6_1))).bind fun t217 => (if ((rd_T26 x3_1 (wrap64 ((x3_1.length : Int) - 1))).f1).size + 1 + t217.size ≤ 9223372036854775807 then (letterboxref9_Fields.l0 kj6 (x3_1.set ((wrap64 ((x3_1.length : Int) - 1)) : Int).toNat (⟨(rd_T26 x3_1 (wrap64 ((x3_1.length : Int) - 1))).f0, (((rd_T26 x3_1 (wrap64 ((x3_1.length : Int) - 1))).f1) ++ (⟨#[32]⟩ : ByteArray)) ++ t217⟩ : S26)) x4_1 t210 (wrap64 (x6_1 + 1))) else (none))) else (none)) else (none)) else (none)) else (letterboxref9_Fields.l0 kj6 x3_1 x4_1 t210 (wrap64 (x6_1 + 1)))) else ((letterboxref9_Colon.f kj6 (strOfNums (rd_L1 t210 x6_1)) 58).bind fun t219 => (if t219 ≥ 0 then (if 0 ≤ t219 then (if t219 ≤ ((strOfNums (rd_L1 t210 x6_1)).size : Int) then ((letterboxref9_Trim.f kj6 ((strOfNums (rd_L1 t210 x6_1)).extract 0 (t219 : Int).toNat)).bind fun t220 => (if 0 ≤ (wrap64 (t219 + 1)) then (if (wrap64 (t219 + 1)) ≤ ((strOfNums (rd_L1 t210 x6_1)).size : Int) then ((letterboxref9_Trim.f kj6 ((strOfNums (rd_L1 t210 x6_1)).extract ((wrap64 (t219 + 1)) : Int).toNat (strOfNums (rd_L1 t210 x6_1)).size)).bind fun t221 => (if x3_1.length < 4398046511104 then (letterboxref9_Fields.l0 kj6 (x3_1 ++ [(⟨t220, t221⟩ : S26)]) (decide (t219 ≥ 0)) t210 (wrap64 (x6_1 + 1))) else (none))) else (none)) else (none))) else (none)) else (none)) else (letterboxref9_Fields.l0 kj6 x3_1 (decide (t219 ≥ 0)) t210 (wrap64 (x6_1 + 1))))))) else (none)) else (none)) else (none)) = some r := by rw [if_pos rfl] at H; exact H
            clear H
            have H := H1
            clear H1
            by_cases c13 : 0 ≤ x6_1
            · rw [if_pos c13] at H
              have c13b0 : decide (0 ≤ x6_1) = true := decide_eq_true c13
              clear c13
              by_cases c14 : x6_1 < (t210.length : Int)
              · rw [if_pos c14] at H
                have c14b0 : decide (x6_1 < (t210.length : Int)) = true := decide_eq_true c14
                clear c14
                by_cases c15 : 0 < ((strOfNums (rd_L1 t210 x6_1)).size : Int)
                · rw [if_pos c15] at H
                  have c15b0 : decide (0 < ((strOfNums (rd_L1 t210 x6_1)).size : Int)) = true := decide_eq_true c15
                  have c15b1 : decide (0 < (strOfNums (rd_L1 t210 x6_1)).size) = true := decide_eq_true (by omega)
                  clear c15
                  replace H := Option.bind_eq_some_iff.mp H
                  obtain ⟨t215, A170, H⟩ := H
                  replace H : (if t215 = true then (if x4_1 = true then (if 0 ≤ (wrap64 ((x3_1.length : Int) - 1)) then (if (wrap64 ((x3_1.length : Int) - 1)) < (x3_1.length : Int) then (if ((rd_T26 x3_1 (wrap64 ((x3_1.length : Int) - 1))).f1).size + 1 ≤ 9223372036854775807 then ((letterboxref9_Trim.f kj6 (strOfNums (rd_L1 t210 x6_1))).bind fun t217 => (if ((rd_T26 x3_1 (wrap64 ((x3_1.length : Int) - 1))).f1).size + 1 + t217.size ≤ 9223372036854775807 then (letterboxref9_Fields.l0 kj6 (x3_1.set ((wrap64 ((x3_1.length : Int) - 1)) : Int).toNat (⟨(rd_T26 x3_1 (wrap64 ((x3_1.length : Int) - 1))).f0, (((rd_T26 x3_1 (wrap64 ((x3_1.length : Int) - 1))).f1) ++ (⟨#[32]⟩ : ByteArray)) ++ t217⟩ : S26)) x4_1 t210 (wrap64 (x6_1 + 1))) else (none))) else (none)) else (none)) else (none)) else (letterboxref9_Fields.l0 kj6 x3_1 x4_1 t210 (wrap64 (x6_1 + 1)))) else ((letterboxref9_Colon.f kj6 (strOfNums (rd_L1 t210 x6_1)) 58).bind fun t219 => (if t219 ≥ 0 then (if 0 ≤ t219 then (if t219 ≤ ((strOfNums (rd_L1 t210 x6_1)).size : Int) then ((letterboxref9_Trim.f kj6 ((strOfNums (rd_L1 t210 x6_1)).extract 0 (t219 : Int).toNat)).bind fun t220 => (if 0 ≤ (wrap64 (t219 + 1)) then (if (wrap64 (t219 + 1)) ≤ ((strOfNums (rd_L1 t210 x6_1)).size : Int) then ((letterboxref9_Trim.f kj6 ((strOfNums (rd_L1 t210 x6_1)).extract ((wrap64 (t219 + 1)) : Int).toNat (strOfNums (rd_L1 t210 x6_1)).size)).bind fun t221 => (if x3_1.length < 4398046511104 then (letterboxref9_Fields.l0 kj6 (x3_1 ++ [(⟨t220, t221⟩ : S26)]) (decide (t219 ≥ 0)) t210 (wrap64 (x6_1 + 1))) else (none))) else (none)) else (none))) else (none)) else (none)) else (letterboxref9_Fields.l0 kj6 x3_1 (decide (t219 ≥ 0)) t210 (wrap64 (x6_1 + 1)))))) = some r := H
                  have A17 := Aside0.mk A170
                  clear A170
                  by_cases c18 : t215 = true
                  · subst c18
                    have H1 : (if x4_1 = true then (if 0 ≤ (wrap64 ((x3_1.length : Int) - 1)) then (if (wrap64 ((x3_1.length : Int) - 1)) < (x3_1.length : Int) then (if ((rd_T26 x3_1 (wrap64 ((x3_1.length : Int) - 1))).f1).size + 1 ≤ 9223372036854775807 then ((letterboxref9_Trim.f kj6 (strOfNums (rd_L1 t210 x6_1))).bind fun t217 => (if ((rd_T26 x3_1 (wrap64 ((x3_1.length : Int) - 1))).f1).size + 1 + t217.size ≤ 9223372036854775807 then (letterboxref9_Fields.l0 kj6 (x3_1.set ((wrap64 ((x3_1.length : Int) - 1)) : Int).toNat (⟨(rd_T26 x3_1 (wrap64 ((x3_1.length : Int) - 1))).f0, (((rd_T26 x3_1 (wrap64 ((x3_1.length : Int) - 1))).f1) ++ (⟨#[32]⟩ : ByteArray)) ++ t217⟩ : S26)) x4_1 t210 (wrap64 (x6_1 + 1))) else (none))) else (none)) else (none)) else (none)) else (letterboxref9_Fields.l0 kj6 x3_1 x4_1 t210 (wrap64 (x6_1 + 1)))) = some r := by rw [if_pos rfl] at H; exact H
                    clear H
                    have H := H1
                    clear H1
                    by_cases c19 : x4_1 = true
                    · subst c19
                      have H1 : (if 0 ≤ (wrap64 ((x3_1.length : Int) - 1)) then (if (wrap64 ((x3_1.length : Int) - 1)) < (x3_1.length : Int) then (if ((rd_T26 x3_1 (wrap64 ((x3_1.length : Int) - 1))).f1).size + 1 ≤ 9223372036854775807 then ((letterboxref9_Trim.f kj6 (strOfNums (rd_L1 t210 x6_1))).bind fun t217 => (if ((rd_T26 x3_1 (wrap64 ((x3_1.length : Int) - 1))).f1).size + 1 + t217.size ≤ 9223372036854775807 then (letterboxref9_Fields.l0 kj6 (x3_1.set ((wrap64 ((x3_1.length : Int) - 1)) : Int).toNat (⟨(rd_T26 x3_1 (wrap64 ((x3_1.length : Int) - 1))).f0, (((rd_T26 x3_1 (wrap64 ((x3_1.length : Int) - 1))).f1) ++ (⟨#[32]⟩ : ByteArray)) ++ t217⟩ : S26)) true t210 (wrap64 (x6_1 + 1))) else (none))) else (none)) else (none)) else (none)) = some r := by rw [if_pos rfl] at H; exact H
                      clear H
                      have H := H1
                      clear H1
                      obtain ⟨ji20, hji20⟩ : ∃ j_ : Int, (wrap64 ((x3_1.length : Int) - 1)) = j_ := ⟨_, rfl⟩
                      replace H : (if 0 ≤ (ji20) then (if (ji20) < (x3_1.length : Int) then (if ((rd_T26 x3_1 (ji20)).f1).size + 1 ≤ 9223372036854775807 then ((letterboxref9_Trim.f kj6 (strOfNums (rd_L1 t210 x6_1))).bind fun t217 => (if ((rd_T26 x3_1 (ji20)).f1).size + 1 + t217.size ≤ 9223372036854775807 then (letterboxref9_Fields.l0 kj6 (x3_1.set ((ji20) : Int).toNat (⟨(rd_T26 x3_1 (ji20)).f0, (((rd_T26 x3_1 (ji20)).f1) ++ (⟨#[32]⟩ : ByteArray)) ++ t217⟩ : S26)) true t210 (wrap64 (x6_1 + 1))) else (none))) else (none)) else (none)) else (none)) = some r := by first | (rw [hji20] at H; exact H) | (simp only [hji20] at H ⊢; exact H)
                      (try rw [hji20] at A17)
                      have hji20w : (IntKind.i64.wrap ((x3_1.length : Int) - 1)) = ji20 := (i64_w _).trans hji20
                      by_cases c21 : 0 ≤ (ji20)
                      · rw [if_pos c21] at H
                        have c21b0 : decide (0 ≤ (ji20)) = true := decide_eq_true c21
                        clear c21
                        by_cases c22 : (ji20) < (x3_1.length : Int)
                        · rw [if_pos c22] at H
                          have c22b0 : decide ((ji20) < (x3_1.length : Int)) = true := decide_eq_true c22
                          clear c22
                          by_cases c23 : ((rd_T26 x3_1 (ji20)).f1).size + 1 ≤ 9223372036854775807
                          · rw [if_pos c23] at H
                            have c23b0 := eq_true c23
                            have c23b1 : decide (((rd_T26 x3_1 (ji20)).f1).size + 1 ≤ 9223372036854775807) = true := decide_eq_true c23
                            try have c23b2 : (9223372036854775807 < ((rd_T26 x3_1 (ji20)).f1).size + 1) = False := eq_false (Nat.not_lt.2 c23)
                            replace H := Option.bind_eq_some_iff.mp H
                            obtain ⟨t217, A240, H⟩ := H
                            replace H : (if ((rd_T26 x3_1 (ji20)).f1).size + 1 + t217.size ≤ 9223372036854775807 then (letterboxref9_Fields.l0 kj6 (x3_1.set ((ji20) : Int).toNat (⟨(rd_T26 x3_1 (ji20)).f0, (((rd_T26 x3_1 (ji20)).f1) ++ (⟨#[32]⟩ : ByteArray)) ++ t217⟩ : S26)) true t210 (wrap64 (x6_1 + 1))) else (none)) = some r := H
                            have A24 := Aside0.mk A240
                            clear A240
                            by_cases c25 : ((rd_T26 x3_1 (ji20)).f1).size + 1 + t217.size ≤ 9223372036854775807
                            · rw [if_pos c25] at H
                              have c25b0 := eq_true c25
                              have c25b1 : decide (((rd_T26 x3_1 (ji20)).f1).size + 1 + t217.size ≤ 9223372036854775807) = true := decide_eq_true c25
                              try have c25b2 : (9223372036854775807 < ((rd_T26 x3_1 (ji20)).f1).size + 1 + t217.size) = False := eq_false (Nat.not_lt.2 c25)
                              obtain ⟨y218, hy218⟩ : ∃ y_ : List (S26), y_ = (x3_1.set ((ji20) : Int).toNat (⟨(rd_T26 x3_1 (ji20)).f0, (((rd_T26 x3_1 (ji20)).f1) ++ (⟨#[32]⟩ : ByteArray)) ++ t217⟩ : S26)) := ⟨_, rfl⟩
                              replace H : (letterboxref9_Fields.l0 kj6 y218 true t210 (wrap64 (x6_1 + 1))) = some r := by first | (rw [hy218]; with_reducible exact H) | (have H2_ := (Option.bind_some _ _).symm.trans H; rw [hy218]; with_reducible exact H2_) | (have H2_ := (Option.bind_some _ _).symm.trans H; with_reducible exact H2_) | with_reducible exact H | (rw [hy218]; exact H) | exact H
                              have Ny218 := Aside0.mk hy218
                              clear hy218
                              have H' := Aside0.mk H
                              clear H
                              obtain ⟨Ao27, co27, eo27⟩ := Kd.N_slice HO_5.out
                              subst eo27
                              have p214 : 0 ≤ (x6_1 : Int) := of_decide_eq_true (by first | (with_reducible assumption) | assumption)
                              have q214 : x6_1 < (t210.length : Int) := of_decide_eq_true (by first | (with_reducible assumption) | assumption)
                              obtain ⟨ad214, A214_0, c214_0, e214, hx214_0, hl214_0, hi214_0⟩ := at_L1 (Kd.N_reads' HO_5.out).2.2 x6_1 p214 q214
                              cases e214
                              obtain ⟨ce214, hce214, hMe214, hcc214⟩ := Kd.N_get HO_5.out [] x6_1 p214 (by first | exact q214 | exact of_decide_eq_true (by first | (with_reducible assumption) | assumption) | (have e_ := (Kd.N_reads' HO_5.out).1; omega))
                              obtain ⟨ua214_0, uc214_0, rfl, ul214_0, ge214_0⟩ := Kd.FK_slice_open hMe214
                              have hv214_0 := hcc214 0 _ rfl
                              rw [Nat.add_zero, show ((Kd.slice 5 (Kd.int .u8))).sz = 1 from rfl, Nat.mul_one] at hv214_0
                              replace hv214_0 := Option.some.inj (hv214_0.symm.trans hx214_0)
                              injection hv214_0 with hva_ hvn_ hvc_
                              rw [hva_] at ge214_0
                              rw [hvc_] at ul214_0
                              have HL214_0 := Aside0.mk (show Kd.V (Kd.int .u8) 5 _ w.heap.size _ _ (rd_L1 t210 x6_1) from Kd.V_mk ul214_0 ge214_0)
                              clear hva_ hvn_ hvc_ ge214_0 ul214_0
                              clear hcc214 hce214
                              have HR214_0 := Aside0.mk hi214_0
                              have HC214_0 := Aside0.mk hl214_0
                              clear hi214_0 hl214_0
                              replace p214 := eq_true p214
                              replace q214 := eq_true q214
                              have hcv28 := Kd.C_string (P := Tryd.prog) (A := A214_0) (c := c214_0) Tryd.underlying22 Tryd.underlying5 Tryd.underlying9 (by repeat (first | (with_reducible exact HR214_0.out) | (with_reducible refine Kd.C_alloc ?_ _) | (with_reducible refine Kd.C_drewN ?_ _) | (with_reducible refine Kd.C_drew ?_) | exact HR214_0.out))
                              have p16 : 0 ≤ (0 : Int) := (by omega)
                              have q16 : 0 < (strOfNums (rd_L1 t210 x6_1)).size := (by have : (0 : Int) < ((strOfNums (rd_L1 t210 x6_1)).size : Int) := of_decide_eq_true (by first | (with_reducible assumption) | assumption); omega)
                              have hx16 : ∀ h : 0 < (strOfNums (rd_L1 t210 x6_1)).size, (((strOfNums (rd_L1 t210 x6_1))[0]'h).toNat : Int) = bt (strOfNums (rd_L1 t210 x6_1)) 0 := bt_at (strOfNums (rd_L1 t210 x6_1)) 0
                              clear p16
                              have qi16 : (0 < ((strOfNums (rd_L1 t210 x6_1)).size : Int)) = True := eq_true (of_decide_eq_true (by first | (with_reducible assumption) | assumption))
                              replace q16 := eq_true q16
                              try go_wp2_with (first | ((with_reducible refine gate_callee (f := 38) rfl ?_); refine goesL_ (some 33) rfl rfl Tryd.func38 (by kernel_rfl) rfl #[.int .u8 (bt (strOfNums (rd_L1 t210 x6_1)) 0)] rfl (by (try simp only [List.map_toArray, List.map_cons, List.map_nil]); first | done | rfl | (simp only [List.length_drop, List.length_take]; rfl)) ?_; (with_reducible refine (letterboxref9_blank.calls (bt (strOfNums (rd_L1 t210 x6_1)) 0) true _ A17.out).mono ?_); rintro e w' ⟨rfl, ⟨nd, rfl⟩⟩; refine ⟨_, rfl, ?_⟩; (try (rw [drewN_self wc]; generalize hq_ : World.drewN wc _ = wc; have n0_ : Aside0 (Kd.V (Kd.int .u8) 5 wc w.heap.size (fun k_ => some k_ ≠ (u3 : Value).ownBlock ∧ some k_ ≠ (.slice (some ad214) t210.length co27 : Value).ownBlock) (.slice A214_0 (rd_L1 t210 x6_1).length c214_0) (rd_L1 t210 x6_1)) := ⟨by rw [← hq_]; exact (by (with_reducible repeat (first | apply Kd.V_alloc | apply Kd.V_drewN | apply Kd.V_drew)); exact HL214_0.out)⟩; have n1_ : Aside0 (Kd.R k26 26 wc w.heap.size (fun _ => True) u3 x3_1) := ⟨by rw [← hq_]; exact (by (with_reducible repeat (first | apply Kd.R_alloc | apply Kd.R_drewN | apply Kd.R_drew)); exact HO_3.out)⟩; have n2_ : Aside0 (Kd.N (Kd.slice 5 (Kd.int .u8)) 22 wc w.heap.size (fun k_ => some k_ ≠ (u3 : Value).ownBlock) (.slice (some ad214) t210.length co27) t210) := ⟨by rw [← hq_]; exact (by (with_reducible repeat (first | apply Kd.N_alloc | apply Kd.N_drewN | apply Kd.N_drew)); exact HO_5.out)⟩; have n3_ : Aside0 (Below w.heap.size w wc) := ⟨by rw [← hq_]; exact (by repeat (first | (with_reducible first | exact HB.out | apply below_alloc | apply pw_below_drewN | apply below_drew1) | exact HB.out))⟩; have n4_ : Aside0 (Kd.C (Kd.int .u8) wc A214_0 (rd_L1 t210 x6_1).length (rd_L1 t210 x6_1)) := ⟨by rw [← hq_]; exact (by repeat (first | (with_reducible exact HR214_0.out) | (with_reducible refine Kd.C_alloc ?_ _) | (with_reducible refine Kd.C_drewN ?_ _) | (with_reducible refine Kd.C_drew ?_) | exact HR214_0.out))⟩; clear HL214_0 HO_3 HO_5 HB HR214_0 hq_; have HL214_0 := n0_; have HO_3 := n1_; have HO_5 := n2_; have HB := n3_; have HR214_0 := n4_; clear n0_ n1_ n2_ n3_ n4_))))
                              have n0_ := Aside0.mk (Kd.R_drew HO_3.out)
                              have n1_ := Aside0.mk (Kd.N_drew HO_5.out)
                              have n2_ := Aside0.mk (Kd.V_drew HL214_0.out)
                              have n3_ := Aside0.mk (Kd.C_drew HR214_0.out)
                              have n4_ := Aside0.mk (below_drew1 HB.out)
                              clear HO_3
                              clear HO_5
                              clear HL214_0
                              clear HR214_0
                              clear HB
                              have HO_3 := n0_
                              have HO_5 := n1_
                              have HL214_0 := n2_
                              have HR214_0 := n3_
                              have HB := n4_
                              clear n0_ n1_ n2_ n3_ n4_
                              obtain ⟨Ao30, co30, eo30⟩ := Kd.R_slice HO_3.out
                              (first | subst eo30 | (injection eo30 with f1_ f2_ f3_; have f4_ := f1_.symm; have f5_ := f3_.symm; clear f1_ f2_ f3_; subst f4_; subst f5_))
                              have p216 : 0 ≤ ((ji20) : Int) := of_decide_eq_true (by first | (with_reducible assumption) | assumption)
                              have q216 : (ji20) < (x3_1.length : Int) := of_decide_eq_true (by first | (with_reducible assumption) | assumption)
                              obtain ⟨ad216, e216, hx216_0, hx216_1⟩ := at_T26 (Kd.R_reads' HO_3.out).2.2 (ji20) p216 q216
                              cases e216
                              replace p216 := eq_true p216
                              replace q216 := eq_true q216
                              refine start_ (n := 18) (S := fun w' => w'.cell? (ad216.add (((ji20)).toNat * 2)) = some (.string ((rd_T26 x3_1 (ji20)).f0)) ∧ w'.cell? ⟨(ad216.add (((ji20)).toNat * 2)).block, (ad216.add (((ji20)).toNat * 2)).off + 1, none⟩ = some (.string ((rd_T26 x3_1 (ji20)).f1))) (ds := [17]) #[false, false, false, false, false, false, false, false, false, false, false, false, false, false, false, false, false, false] (by kernel_rfl) rfl rfl ⟨hx216_0, hx216_1⟩ (fun hHeld => ?_); refine with_tabW letterboxref9_Fields.tab10 letterboxref9_Fields.bits10 (fun HT_ HW_ => ?_)
                              generalize wc.drew = w29 at HO_3 HO_5 HL214_0 HR214_0 HB hx216_0 hx216_1 hHeld ⊢
                              refine pure_ (i := 0) (N := some 35) (v := ?_) (a' := ?_) #[true, false, false, false, false, false, false, false, false, false, false, false, false, false, false, false, false, false] rfl rfl (any_of HT_.out (by kernel_rfl)) (fun _ _ _ h => h) (Or.inl ⟨by rfl, ?_⟩) ?_ ?_
                              rotate_left
                              · intro w'
                                go_simp
                                with_reducible rfl
                              rotate_left
                              · simp only [Act.put, List.setIfInBounds_toArray, List.set_cons_zero, List.set_cons_succ, i64_w, i32_w]
                                rfl
                              refine pure_ (i := 1) (N := some 36) (v := ?_) (a' := ?_) #[true, true, false, false, false, false, false, false, false, false, false, false, false, false, false, false, false, false] rfl rfl (any_of HT_.out (by kernel_rfl)) (fun _ _ _ h => h) (Or.inl ⟨by rfl, ?_⟩) ?_ ?_
                              rotate_left
                              · intro w'
                                go_simp
                                with_reducible rfl
                              rotate_left
                              · simp only [Act.put, List.setIfInBounds_toArray, List.set_cons_zero, List.set_cons_succ, i64_w, i32_w]
                                rfl
                              refine pure_ (i := 2) (N := some 37) (v := ?_) (a' := ?_) #[true, true, true, false, false, false, false, false, false, false, false, false, false, false, false, false, false, false] rfl rfl (any_of HT_.out (by kernel_rfl)) (fun _ _ _ h => h) (Or.inl ⟨by rfl, ?_⟩) ?_ ?_
                              rotate_left
                              · intro w'
                                go_simp
                                with_reducible rfl
                              rotate_left
                              · simp only [Act.put, List.setIfInBounds_toArray, List.set_cons_zero, List.set_cons_succ, i64_w, i32_w]
                                rfl
                              refine pure_ (i := 3) (N := some 38) (v := ?_) (a' := ?_) #[true, true, true, true, false, false, false, false, false, false, false, false, false, false, false, false, false, false] rfl rfl (any_of HT_.out (by kernel_rfl)) (fun _ _ _ h => h) (Or.inl ⟨by rfl, ?_⟩) ?_ ?_
                              rotate_left
                              · intro w'
                                go_simp
                                with_reducible rfl
                              rotate_left
                              · simp only [Act.put, List.setIfInBounds_toArray, List.set_cons_zero, List.set_cons_succ, i64_w, i32_w]
                                rfl
                              refine pure_ (i := 4) (N := some 39) (v := ?_) (a' := ?_) #[true, true, true, true, true, false, false, false, false, false, false, false, false, false, false, false, false, false] rfl rfl (any_of HT_.out (by kernel_rfl)) (fun _ _ _ h => h) (Or.inl ⟨by rfl, ?_⟩) ?_ ?_
                              rotate_left
                              · intro w'
                                go_simp
                                with_reducible rfl
                              rotate_left
                              · simp only [Act.put, List.setIfInBounds_toArray, List.set_cons_zero, List.set_cons_succ, i64_w, i32_w]
                                rfl
                              refine pure_ (i := 5) (N := some 40) (v := ?_) (a' := ?_) #[true, true, true, true, true, true, false, false, false, false, false, false, false, false, false, false, false, false] rfl rfl (any_of HT_.out (by kernel_rfl)) (fun _ _ _ h => h) (Or.inl ⟨by rfl, ?_⟩) ?_ ?_
                              rotate_left
                              · intro w'
                                go_simp
                                with_reducible rfl
                              rotate_left
                              · simp only [Act.put, List.setIfInBounds_toArray, List.set_cons_zero, List.set_cons_succ, i64_w, i32_w]
                                rfl
                              refine pure_ (i := 6) (N := some 41) (v := ?_) (a' := ?_) #[true, true, true, true, true, true, true, false, false, false, false, false, false, false, false, false, false, false] rfl rfl (any_of HT_.out (by kernel_rfl)) (fun _ _ _ h => h) (Or.inl ⟨by rfl, ?_⟩) ?_ ?_
                              rotate_left
                              · intro w'
                                go_simp
                                with_reducible rfl
                              rotate_left
                              · simp only [Act.put, List.setIfInBounds_toArray, List.set_cons_zero, List.set_cons_succ, i64_w, i32_w]
                                rfl
                              refine pure_ (i := 7) (N := some 42) (v := ?_) (a' := ?_) #[true, true, true, true, true, true, true, true, false, false, false, false, false, false, false, false, false, false] rfl rfl (any_of HT_.out (by kernel_rfl)) (fun _ _ _ h => h) (Or.inl ⟨by rfl, ?_⟩) ?_ ?_
                              rotate_left
                              · intro w'
                                go_simp
                                with_reducible rfl
                              rotate_left
                              · simp only [Act.put, List.setIfInBounds_toArray, List.set_cons_zero, List.set_cons_succ, i64_w, i32_w]
                                rfl
                              refine pure_ (i := 8) (N := some 43) (v := ?_) (a' := ?_) #[true, true, true, true, true, true, true, true, true, false, false, false, false, false, false, false, false, false] rfl rfl (any_of HT_.out (by kernel_rfl)) (fun _ _ _ h => h) (Or.inl ⟨by rfl, ?_⟩) ?_ ?_
                              rotate_left
                              · intro w'
                                go_simp
                                with_reducible rfl
                              rotate_left
                              · simp only [Act.put, List.setIfInBounds_toArray, List.set_cons_zero, List.set_cons_succ, i64_w, i32_w]
                                rfl
                              refine pure_ (i := 9) (N := some 44) (v := ?_) (a' := ?_) #[true, true, true, true, true, true, true, true, true, true, false, false, false, false, false, false, false, false] rfl rfl (any_of HT_.out (by kernel_rfl)) (fun _ _ _ h => h) (Or.inl ⟨by rfl, ?_⟩) ?_ ?_
                              rotate_left
                              · intro w'
                                go_simp
                                with_reducible rfl
                              rotate_left
                              · simp only [Act.put, List.setIfInBounds_toArray, List.set_cons_zero, List.set_cons_succ, i64_w, i32_w]
                                rfl
                              refine pure_ (i := 12) (N := some 47) (v := ?_) (a' := ?_) #[true, true, true, true, true, true, true, true, true, true, false, false, true, false, false, false, false, false] rfl rfl (any_of HT_.out (by kernel_rfl)) (fun _ _ _ h => h) (Or.inl ⟨by rfl, ?_⟩) ?_ ?_
                              rotate_left
                              · intro w'
                                go_simp
                                with_reducible rfl
                              rotate_left
                              · simp only [Act.put, List.setIfInBounds_toArray, List.set_cons_zero, List.set_cons_succ, i64_w, i32_w]
                                rfl
                              refine take_ (i := 10) (N := some 45) (v := ?_) (a' := ?_) #[true, true, true, true, true, true, true, true, true, true, true, false, true, false, false, false, false, false] rfl rfl (take_ofW HT_.out HW_.out (by kernel_rfl)) (fun _ _ _ h => h) (Or.inl ⟨by rfl, ?_⟩) hHeld ?_ ?_
                              rotate_left
                              · rintro w' ⟨s0, s1⟩
                                go_simp
                                with_reducible rfl
                              rotate_left
                              · simp only [Act.put, List.setIfInBounds_toArray, List.set_cons_zero, List.set_cons_succ, i64_w, i32_w]
                                rfl
                              refine pure_ (i := 11) (N := some 46) (v := ?_) (a' := ?_) #[true, true, true, true, true, true, true, true, true, true, true, true, true, false, false, false, false, false] rfl rfl (any_of HT_.out (by kernel_rfl)) (fun _ _ _ h => h) (Or.inl ⟨by rfl, ?_⟩) ?_ ?_
                              rotate_left
                              · intro w'
                                go_simp
                                with_reducible rfl
                              rotate_left
                              · simp only [Act.put, List.setIfInBounds_toArray, List.set_cons_zero, List.set_cons_succ, i64_w, i32_w]
                                rfl
                              refine one_ (i := 13) (N := some 48) #[true, true, true, true, true, true, true, true, true, true, true, true, true, true, false, false, false, false] rfl rfl (one_of HT_.out (by kernel_rfl)) (by decide) (fun K hK => ?_)
                              refine goes_ Tryd.func23 (by kernel_rfl) rfl #[.string (strOfNums (rd_L1 t210 x6_1))] (by rfl) rfl rfl (by (try simp only [List.map_toArray, List.map_cons, List.map_nil]); first | done | rfl | (simp only [List.length_drop, List.length_take]; rfl)) ?_
                              with_reducible refine (letterboxref9_Trim.calls kj6 (strOfNums (rd_L1 t210 x6_1)) t217 _ A24.out).mono ?_
                              rintro e w' ⟨rfl, ⟨nd, rfl⟩⟩
                              refine ⟨_, rfl, ?_⟩
                              have p26 : 0 ≤ ((ji20) : Int) := of_decide_eq_true (by first | (with_reducible assumption) | assumption)
                              have q26 : ((ji20) : Int) < ((x3_1.length : Int) : Int) := of_decide_eq_true (by first | (with_reducible assumption) | assumption)
                              obtain ⟨go26, co26, eo26, gb26, gl26, cl26, HG26⟩ := Kd.R_form HO_3.out (by omega)
                              (first | cases eo26 | (injection eo26 with ea_ en_ ec_; (first | subst ea_ | (injection ea_ with ea_; subst ea_)); subst ec_; clear en_))
                              have GB26 := Aside0.mk gb26
                              have GG26 := Aside0.mk HG26
                              clear gb26 gl26 HG26
                              (first | simp only [add_plain] at hx216_0 | skip)
                              (first | simp only [add_plain] at hx216_1 | skip)
                              obtain ⟨ce26, hcl26, hM26, hcc26, hfr26⟩ := Kd.R_elem HO_3.out z26 ((ji20) : Int) p26 q26
                              obtain rfl := k26_openM hM26
                              have hx26_0 : World.cell? _ ⟨go26, ((ji20) : Int).toNat * 2, none⟩ = some (.string ((rd_T26 x3_1 (ji20)).f0)) := hcc26 0 _ rfl
                              have hx26_1 : World.cell? _ ⟨go26, ((ji20) : Int).toNat * 2 + 1, none⟩ = some (.string ((rd_T26 x3_1 (ji20)).f1)) := hcc26 1 _ rfl
                              have hf26_0 : World.frozen? _ ⟨go26, ((ji20) : Int).toNat * 2, none⟩ = false := hfr26 0
                              have hf26_1 : World.frozen? _ ⟨go26, ((ji20) : Int).toNat * 2 + 1, none⟩ = false := hfr26 1
                              clear hcl26 hcc26 hfr26 hM26
                              replace p26 := eq_true p26
                              replace q26 := eq_true q26
                              obtain ⟨ce31, hcl31, hM31, hcc31, hfr31⟩ := Kd.R_elem HO_3.out z26 ((ji20) : Int) (of_decide_eq_true (by first | (with_reducible assumption) | assumption)) (by have h_ : ((ji20) : Int) < ((x3_1.length : Int) : Int) := of_decide_eq_true (by first | (with_reducible assumption) | assumption); first | exact h_ | (have e_ := (Kd.R_reads' HO_3.out).1; omega) | simpa using h_)
                              obtain rfl := k26_openM hM31
                              have HP31 := (Kd.R_seg HO_3.out ((ji20) : Int) (of_decide_eq_true (by first | (with_reducible assumption) | assumption)) (by have h_ : ((ji20) : Int) < ((x3_1.length : Int) : Int) := of_decide_eq_true (by first | (with_reducible assumption) | assumption); first | exact h_ | (have e_ := (Kd.R_reads' HO_3.out).1; omega) | simpa using h_) (seg := [.string ((((rd_T26 x3_1 (ji20)).f1) ++ (⟨#[32]⟩ : ByteArray)) ++ t217)]) (j := 1) hcl31 hcc31 (show 2 ≤ 2 from by decide) (x' := (⟨(rd_T26 x3_1 (ji20)).f0, (((rd_T26 x3_1 (ji20)).f1) ++ (⟨#[32]⟩ : ByteArray)) ++ t217⟩ : S26)) (k26_mkM _ _ _ (⟨(rd_T26 x3_1 (ji20)).f0, (((rd_T26 x3_1 (ji20)).f1) ++ (⟨#[32]⟩ : ByteArray)) ++ t217⟩ : S26) ) (fun _ hk => hk)).1
                              rw [← Ny218.out] at HP31
                              have HQ31 := Aside0.mk HP31
                              clear hcl31 hcc31 hfr31 hM31 HP31
                              refine hK.out _ _ ⟨hHeld.1, hHeld.2⟩ (fun hHeld => ?_)
                              clear hK K
                              refine norm_ (a' := ?_) ?_ ?_
                              rotate_left
                              · show Act.put _ (some 48) _ = _
                                simp only [Act.put, List.setIfInBounds_toArray, List.set_cons_zero, List.set_cons_succ, i64_w, i32_w]
                                rfl
                              refine pure_ (i := 14) (N := some 49) (v := ?_) (a' := ?_) #[true, true, true, true, true, true, true, true, true, true, true, true, true, true, true, false, false, false] rfl rfl (any_of HT_.out (by kernel_rfl)) (fun _ _ _ h => h) (Or.inl ⟨by rfl, ?_⟩) ?_ ?_
                              rotate_left
                              · intro w'
                                go_simp
                                with_reducible rfl
                              rotate_left
                              · simp only [Act.put, List.setIfInBounds_toArray, List.set_cons_zero, List.set_cons_succ, i64_w, i32_w]
                                rfl
                              refine pure_ (i := 15) (N := some 50) (v := ?_) (a' := ?_) #[true, true, true, true, true, true, true, true, true, true, true, true, true, true, true, true, false, false] rfl rfl (any_of HT_.out (by kernel_rfl)) (fun _ _ _ h => h) (Or.inl ⟨by rfl, ?_⟩) ?_ ?_
                              rotate_left
                              · intro w'
                                go_simp
                                with_reducible rfl
                              rotate_left
                              · simp only [Act.put, List.setIfInBounds_toArray, List.set_cons_zero, List.set_cons_succ, i64_w, i32_w]
                                rfl
                              refine pure_ (i := 16) (N := some 51) (v := ?_) (a' := ?_) #[true, true, true, true, true, true, true, true, true, true, true, true, true, true, true, true, true, false] rfl rfl (any_of HT_.out (by kernel_rfl)) (fun _ _ _ h => h) (Or.inl ⟨by rfl, ?_⟩) ?_ ?_
                              rotate_left
                              · intro w'
                                go_simp
                                with_reducible rfl
                              rotate_left
                              · simp only [Act.put, List.setIfInBounds_toArray, List.set_cons_zero, List.set_cons_succ, i64_w, i32_w]
                                rfl
                              refine last_ (i := 17) (N := none) #[true, true, true, true, true, true, true, true, true, true, true, true, true, true, true, true, true, true] rfl rfl (one_of HT_.out (by kernel_rfl)) (by decide) (fun K hK => ?_)
                              refine skip_ (w1 := ?_) (by rfl) rfl ?_ ?_
                              rotate_left
                              · go_simp
                                rfl
                              refine hK.out _ _ ?_
                              clear hK K
                              refine done_ (done_of HT_.out (by kernel_rfl)) ?_
                              try go_wp2
                              go_roundg kj6
                              case measure => have := HK1.out; have := HJ6.out; omega
                              case rel => exact ⟨(y218), (true), (wrap64 (x6_1 + 1)), (by first | rfl | (simp; done) | (simp [*]; done)), (by first | rfl | (simp; done) | (simp [*]; done)), H', ⟨by have := HK1.out; have := HJ6.out; omega⟩, ⟨by (with_reducible repeat (first | apply Kd.R_alloc | apply Kd.R_drewN | apply Kd.R_drew)); exact HQ31.out⟩, ⟨by (with_reducible repeat (first | apply Kd.N_alloc | apply Kd.N_drewN | apply Kd.N_drew)); exact Kd.N_mono (Kd.N_far (p := ⟨go26, ((ji20) : Int).toNat * 2 + 1, none⟩) (Kd.N_mono HO_5.out (fun k_ hk => (⟨hk, fun e_ => hk (by rw [e_]; rfl)⟩ : _ ∧ k_ ≠ go26))) (fun _ hk => hk.2) (.string ((((rd_T26 x3_1 (ji20)).f1) ++ (⟨#[32]⟩ : ByteArray)) ++ t217))) (fun _ hk => hk.1)⟩, ⟨by repeat (first | (with_reducible first | exact HB.out | apply below_alloc | apply pw_below_drewN | apply below_drew1 | refine below_set ?_ GB26.out) | exact HB.out)⟩⟩
                            · rw [if_neg c25] at H
                              exact absurd H (by simp)
                          · rw [if_neg c23] at H
                            exact absurd H (by simp)
                        · rw [if_neg c22] at H
                          exact absurd H (by simp)
                      · rw [if_neg c21] at H
                        exact absurd H (by simp)
                    · replace c19 := Bool.eq_false_iff.mpr c19
                      subst c19
                      have H1 : (letterboxref9_Fields.l0 kj6 x3_1 false t210 (wrap64 (x6_1 + 1))) = some r := by rw [if_neg (show ¬ (false = true) by decide)] at H; exact H
                      clear H
                      have H := H1
                      clear H1
                      have H' := Aside0.mk H
                      clear H
                      obtain ⟨Ao32, co32, eo32⟩ := Kd.N_slice HO_5.out
                      subst eo32
                      have p214 : 0 ≤ (x6_1 : Int) := of_decide_eq_true (by first | (with_reducible assumption) | assumption)
                      have q214 : x6_1 < (t210.length : Int) := of_decide_eq_true (by first | (with_reducible assumption) | assumption)
                      obtain ⟨ad214, A214_0, c214_0, e214, hx214_0, hl214_0, hi214_0⟩ := at_L1 (Kd.N_reads' HO_5.out).2.2 x6_1 p214 q214
                      cases e214
                      obtain ⟨ce214, hce214, hMe214, hcc214⟩ := Kd.N_get HO_5.out [] x6_1 p214 (by first | exact q214 | exact of_decide_eq_true (by first | (with_reducible assumption) | assumption) | (have e_ := (Kd.N_reads' HO_5.out).1; omega))
                      obtain ⟨ua214_0, uc214_0, rfl, ul214_0, ge214_0⟩ := Kd.FK_slice_open hMe214
                      have hv214_0 := hcc214 0 _ rfl
                      rw [Nat.add_zero, show ((Kd.slice 5 (Kd.int .u8))).sz = 1 from rfl, Nat.mul_one] at hv214_0
                      replace hv214_0 := Option.some.inj (hv214_0.symm.trans hx214_0)
                      injection hv214_0 with hva_ hvn_ hvc_
                      rw [hva_] at ge214_0
                      rw [hvc_] at ul214_0
                      have HL214_0 := Aside0.mk (show Kd.V (Kd.int .u8) 5 _ w.heap.size _ _ (rd_L1 t210 x6_1) from Kd.V_mk ul214_0 ge214_0)
                      clear hva_ hvn_ hvc_ ge214_0 ul214_0
                      clear hcc214 hce214
                      have HR214_0 := Aside0.mk hi214_0
                      have HC214_0 := Aside0.mk hl214_0
                      clear hi214_0 hl214_0
                      replace p214 := eq_true p214
                      replace q214 := eq_true q214
                      have hcv33 := Kd.C_string (P := Tryd.prog) (A := A214_0) (c := c214_0) Tryd.underlying22 Tryd.underlying5 Tryd.underlying9 (by repeat (first | (with_reducible exact HR214_0.out) | (with_reducible refine Kd.C_alloc ?_ _) | (with_reducible refine Kd.C_drewN ?_ _) | (with_reducible refine Kd.C_drew ?_) | exact HR214_0.out))
                      have p16 : 0 ≤ (0 : Int) := (by omega)
                      have q16 : 0 < (strOfNums (rd_L1 t210 x6_1)).size := (by have : (0 : Int) < ((strOfNums (rd_L1 t210 x6_1)).size : Int) := of_decide_eq_true (by first | (with_reducible assumption) | assumption); omega)
                      have hx16 : ∀ h : 0 < (strOfNums (rd_L1 t210 x6_1)).size, (((strOfNums (rd_L1 t210 x6_1))[0]'h).toNat : Int) = bt (strOfNums (rd_L1 t210 x6_1)) 0 := bt_at (strOfNums (rd_L1 t210 x6_1)) 0
                      clear p16
                      have qi16 : (0 < ((strOfNums (rd_L1 t210 x6_1)).size : Int)) = True := eq_true (of_decide_eq_true (by first | (with_reducible assumption) | assumption))
                      replace q16 := eq_true q16
                      go_wp2_with (first | ((with_reducible refine gate_callee (f := 38) rfl ?_); refine goesL_ (some 33) rfl rfl Tryd.func38 (by kernel_rfl) rfl #[.int .u8 (bt (strOfNums (rd_L1 t210 x6_1)) 0)] rfl (by (try simp only [List.map_toArray, List.map_cons, List.map_nil]); first | done | rfl | (simp only [List.length_drop, List.length_take]; rfl)) ?_; (with_reducible refine (letterboxref9_blank.calls (bt (strOfNums (rd_L1 t210 x6_1)) 0) true _ A17.out).mono ?_); rintro e w' ⟨rfl, ⟨nd, rfl⟩⟩; refine ⟨_, rfl, ?_⟩))
                      go_roundg kj6
                      case measure => have := HK1.out; have := HJ6.out; omega
                      case rel => exact ⟨(x3_1), (false), (wrap64 (x6_1 + 1)), (by first | rfl | (simp; done) | (simp [*]; done)), (by first | rfl | (simp; done) | (simp [*]; done)), H', ⟨by have := HK1.out; have := HJ6.out; omega⟩, ⟨by (with_reducible repeat (first | apply Kd.R_alloc | apply Kd.R_drewN | apply Kd.R_drew)); exact HO_3.out⟩, ⟨by (with_reducible repeat (first | apply Kd.N_alloc | apply Kd.N_drewN | apply Kd.N_drew)); exact HO_5.out⟩, ⟨by repeat (first | (with_reducible first | exact HB.out | apply below_alloc | apply pw_below_drewN | apply below_drew1) | exact HB.out)⟩⟩
                  · replace c18 := Bool.eq_false_iff.mpr c18
                    subst c18
                    have H1 : ((letterboxref9_Colon.f kj6 (strOfNums (rd_L1 t210 x6_1)) 58).bind fun t219 => (if t219 ≥ 0 then (if 0 ≤ t219 then (if t219 ≤ ((strOfNums (rd_L1 t210 x6_1)).size : Int) then ((letterboxref9_Trim.f kj6 ((strOfNums (rd_L1 t210 x6_1)).extract 0 (t219 : Int).toNat)).bind fun t220 => (if 0 ≤ (wrap64 (t219 + 1)) then (if (wrap64 (t219 + 1)) ≤ ((strOfNums (rd_L1 t210 x6_1)).size : Int) then ((letterboxref9_Trim.f kj6 ((strOfNums (rd_L1 t210 x6_1)).extract ((wrap64 (t219 + 1)) : Int).toNat (strOfNums (rd_L1 t210 x6_1)).size)).bind fun t221 => (if x3_1.length < 4398046511104 then (letterboxref9_Fields.l0 kj6 (x3_1 ++ [(⟨t220, t221⟩ : S26)]) (decide (t219 ≥ 0)) t210 (wrap64 (x6_1 + 1))) else (none))) else (none)) else (none))) else (none)) else (none)) else (letterboxref9_Fields.l0 kj6 x3_1 (decide (t219 ≥ 0)) t210 (wrap64 (x6_1 + 1))))) = some r := by rw [if_neg (show ¬ (false = true) by decide)] at H; exact H
                    clear H
                    have H := H1
                    clear H1
                    replace H := Option.bind_eq_some_iff.mp H
                    obtain ⟨t219, A340, H⟩ := H
                    replace H : (if t219 ≥ 0 then (if 0 ≤ t219 then (if t219 ≤ ((strOfNums (rd_L1 t210 x6_1)).size : Int) then ((letterboxref9_Trim.f kj6 ((strOfNums (rd_L1 t210 x6_1)).extract 0 (t219 : Int).toNat)).bind fun t220 => (if 0 ≤ (wrap64 (t219 + 1)) then (if (wrap64 (t219 + 1)) ≤ ((strOfNums (rd_L1 t210 x6_1)).size : Int) then ((letterboxref9_Trim.f kj6 ((strOfNums (rd_L1 t210 x6_1)).extract ((wrap64 (t219 + 1)) : Int).toNat (strOfNums (rd_L1 t210 x6_1)).size)).bind fun t221 => (if x3_1.length < 4398046511104 then (letterboxref9_Fields.l0 kj6 (x3_1 ++ [(⟨t220, t221⟩ : S26)]) (decide (t219 ≥ 0)) t210 (wrap64 (x6_1 + 1))) else (none))) else (none)) else (none))) else (none)) else (none)) else (letterboxref9_Fields.l0 kj6 x3_1 (decide (t219 ≥ 0)) t210 (wrap64 (x6_1 + 1)))) = some r := H
                    have A34 := Aside0.mk A340
                    clear A340
                    by_cases c35 : t219 ≥ 0
                    · rw [if_pos c35] at H
                      have c35b0 : decide (0 ≤ t219) = true := decide_eq_true c35
                      clear c35
                      by_cases c36 : 0 ≤ t219
                      · rw [if_pos c36] at H
                        have c36b0 := eq_true c36
                        have c36b1 : decide (0 ≤ t219) = true := decide_eq_true c36
                        clear c36
                        by_cases c37 : t219 ≤ ((strOfNums (rd_L1 t210 x6_1)).size : Int)
                        · rw [if_pos c37] at H
                          have c37b0 := eq_true c37
                          have c37b1 : decide (t219 ≤ ((strOfNums (rd_L1 t210 x6_1)).size : Int)) = true := decide_eq_true c37
                          clear c37
                          replace H := Option.bind_eq_some_iff.mp H
                          obtain ⟨t220, A380, H⟩ := H
                          replace H : (if 0 ≤ (wrap64 (t219 + 1)) then (if (wrap64 (t219 + 1)) ≤ ((strOfNums (rd_L1 t210 x6_1)).size : Int) then ((letterboxref9_Trim.f kj6 ((strOfNums (rd_L1 t210 x6_1)).extract ((wrap64 (t219 + 1)) : Int).toNat (strOfNums (rd_L1 t210 x6_1)).size)).bind fun t221 => (if x3_1.length < 4398046511104 then (letterboxref9_Fields.l0 kj6 (x3_1 ++ [(⟨t220, t221⟩ : S26)]) (decide (t219 ≥ 0)) t210 (wrap64 (x6_1 + 1))) else (none))) else (none)) else (none)) = some r := H
                          have A38 := Aside0.mk A380
                          clear A380
                          obtain ⟨ji39, hji39⟩ : ∃ j_ : Int, (wrap64 (t219 + 1)) = j_ := ⟨_, rfl⟩
                          replace H : (if 0 ≤ (ji39) then (if (ji39) ≤ ((strOfNums (rd_L1 t210 x6_1)).size : Int) then ((letterboxref9_Trim.f kj6 ((strOfNums (rd_L1 t210 x6_1)).extract ((ji39) : Int).toNat (strOfNums (rd_L1 t210 x6_1)).size)).bind fun t221 => (if x3_1.length < 4398046511104 then (letterboxref9_Fields.l0 kj6 (x3_1 ++ [(⟨t220, t221⟩ : S26)]) (decide (t219 ≥ 0)) t210 (wrap64 (x6_1 + 1))) else (none))) else (none)) else (none)) = some r := by first | (rw [hji39] at H; exact H) | (simp only [hji39] at H ⊢; exact H)
                          (try rw [hji39] at A17)
                          (try rw [hji39] at A34)
                          (try rw [hji39] at A38)
                          have hji39w : (IntKind.i64.wrap (t219 + 1)) = ji39 := (i64_w _).trans hji39
                          by_cases c40 : 0 ≤ (ji39)
                          · rw [if_pos c40] at H
                            have c40b0 := eq_true c40
                            have c40b1 : decide (0 ≤ (ji39)) = true := decide_eq_true c40
                            clear c40
                            by_cases c41 : (ji39) ≤ ((strOfNums (rd_L1 t210 x6_1)).size : Int)
                            · rw [if_pos c41] at H
                              have c41b0 := eq_true c41
                              have c41b1 : decide ((ji39) ≤ ((strOfNums (rd_L1 t210 x6_1)).size : Int)) = true := decide_eq_true c41
                              clear c41
                              replace H := Option.bind_eq_some_iff.mp H
                              obtain ⟨t221, A420, H⟩ := H
                              replace H : (if x3_1.length < 4398046511104 then (letterboxref9_Fields.l0 kj6 (x3_1 ++ [(⟨t220, t221⟩ : S26)]) (decide (t219 ≥ 0)) t210 (wrap64 (x6_1 + 1))) else (none)) = some r := H
                              have A42 := Aside0.mk A420
                              clear A420
                              by_cases c43 : x3_1.length < 4398046511104
                              · rw [if_pos c43] at H
                                have LMc43 := Aside0.mk c43
                                clear c43
                                obtain ⟨y222, hy222⟩ : ∃ y_ : List (S26), y_ = (x3_1 ++ [(⟨t220, t221⟩ : S26)]) := ⟨_, rfl⟩
                                replace H : (letterboxref9_Fields.l0 kj6 y222 (decide (t219 ≥ 0)) t210 (wrap64 (x6_1 + 1))) = some r := by first | (rw [hy222]; with_reducible exact H) | (have H2_ := (Option.bind_some _ _).symm.trans H; rw [hy222]; with_reducible exact H2_) | (have H2_ := (Option.bind_some _ _).symm.trans H; with_reducible exact H2_) | with_reducible exact H | (rw [hy222]; exact H) | exact H
                                have Ny222 := Aside0.mk hy222
                                clear hy222
                                have H' := Aside0.mk H
                                clear H
                                obtain ⟨Ao44, co44, eo44⟩ := Kd.N_slice HO_5.out
                                subst eo44
                                have p214 : 0 ≤ (x6_1 : Int) := of_decide_eq_true (by first | (with_reducible assumption) | assumption)
                                have q214 : x6_1 < (t210.length : Int) := of_decide_eq_true (by first | (with_reducible assumption) | assumption)
                                obtain ⟨ad214, A214_0, c214_0, e214, hx214_0, hl214_0, hi214_0⟩ := at_L1 (Kd.N_reads' HO_5.out).2.2 x6_1 p214 q214
                                cases e214
                                obtain ⟨ce214, hce214, hMe214, hcc214⟩ := Kd.N_get HO_5.out [] x6_1 p214 (by first | exact q214 | exact of_decide_eq_true (by first | (with_reducible assumption) | assumption) | (have e_ := (Kd.N_reads' HO_5.out).1; omega))
                                obtain ⟨ua214_0, uc214_0, rfl, ul214_0, ge214_0⟩ := Kd.FK_slice_open hMe214
                                have hv214_0 := hcc214 0 _ rfl
                                rw [Nat.add_zero, show ((Kd.slice 5 (Kd.int .u8))).sz = 1 from rfl, Nat.mul_one] at hv214_0
                                replace hv214_0 := Option.some.inj (hv214_0.symm.trans hx214_0)
                                injection hv214_0 with hva_ hvn_ hvc_
                                rw [hva_] at ge214_0
                                rw [hvc_] at ul214_0
                                have HL214_0 := Aside0.mk (show Kd.V (Kd.int .u8) 5 _ w.heap.size _ _ (rd_L1 t210 x6_1) from Kd.V_mk ul214_0 ge214_0)
                                clear hva_ hvn_ hvc_ ge214_0 ul214_0
                                clear hcc214 hce214
                                have HR214_0 := Aside0.mk hi214_0
                                have HC214_0 := Aside0.mk hl214_0
                                clear hi214_0 hl214_0
                                replace p214 := eq_true p214
                                replace q214 := eq_true q214
                                have hcv45 := Kd.C_string (P := Tryd.prog) (A := A214_0) (c := c214_0) Tryd.underlying22 Tryd.underlying5 Tryd.underlying9 (by repeat (first | (with_reducible exact HR214_0.out) | (with_reducible refine Kd.C_alloc ?_ _) | (with_reducible refine Kd.C_drewN ?_ _) | (with_reducible refine Kd.C_drew ?_) | exact HR214_0.out))
                                have p16 : 0 ≤ (0 : Int) := (by omega)
                                have q16 : 0 < (strOfNums (rd_L1 t210 x6_1)).size := (by have : (0 : Int) < ((strOfNums (rd_L1 t210 x6_1)).size : Int) := of_decide_eq_true (by first | (with_reducible assumption) | assumption); omega)
                                have hx16 : ∀ h : 0 < (strOfNums (rd_L1 t210 x6_1)).size, (((strOfNums (rd_L1 t210 x6_1))[0]'h).toNat : Int) = bt (strOfNums (rd_L1 t210 x6_1)) 0 := bt_at (strOfNums (rd_L1 t210 x6_1)) 0
                                clear p16
                                have qi16 : (0 < ((strOfNums (rd_L1 t210 x6_1)).size : Int)) = True := eq_true (of_decide_eq_true (by first | (with_reducible assumption) | assumption))
                                replace q16 := eq_true q16
                                try go_wp2_with (first | ((with_reducible refine gate_callee (f := 38) rfl ?_); refine goesL_ (some 33) rfl rfl Tryd.func38 (by kernel_rfl) rfl #[.int .u8 (bt (strOfNums (rd_L1 t210 x6_1)) 0)] rfl (by (try simp only [List.map_toArray, List.map_cons, List.map_nil]); first | done | rfl | (simp only [List.length_drop, List.length_take]; rfl)) ?_; (with_reducible refine (letterboxref9_blank.calls (bt (strOfNums (rd_L1 t210 x6_1)) 0) false _ A17.out).mono ?_); rintro e w' ⟨rfl, ⟨nd, rfl⟩⟩; refine ⟨_, rfl, ?_⟩) | ((with_reducible refine gate_callee (f := 39) rfl ?_); refine goesL_ (some 53) rfl rfl Tryd.func39 (by kernel_rfl) rfl #[.string (strOfNums (rd_L1 t210 x6_1)), .int .u8 58] rfl (by (try simp only [List.map_toArray, List.map_cons, List.map_nil]); first | done | rfl | (simp only [List.length_drop, List.length_take]; rfl)) ?_; (with_reducible refine (letterboxref9_Colon.calls kj6 (strOfNums (rd_L1 t210 x6_1)) 58 t219 _ A34.out).mono ?_); rintro e w' ⟨rfl, ⟨nd, rfl⟩⟩; refine ⟨_, rfl, ?_⟩))
                                (try (rw [drewN_self wc]; generalize hq_ : World.drewN wc _ = wc; have n0_ : Aside0 (Kd.V (Kd.int .u8) 5 wc w.heap.size (fun k_ => some k_ ≠ (u3 : Value).ownBlock ∧ some k_ ≠ (.slice (some ad214) t210.length co44 : Value).ownBlock) (.slice A214_0 (rd_L1 t210 x6_1).length c214_0) (rd_L1 t210 x6_1)) := ⟨by rw [← hq_]; exact (by (with_reducible repeat (first | apply Kd.V_alloc | apply Kd.V_drewN | apply Kd.V_drew)); exact HL214_0.out)⟩; have n1_ : Aside0 (Kd.R k26 26 wc w.heap.size (fun _ => True) u3 x3_1) := ⟨by rw [← hq_]; exact (by (with_reducible repeat (first | apply Kd.R_alloc | apply Kd.R_drewN | apply Kd.R_drew)); exact HO_3.out)⟩; have n2_ : Aside0 (Kd.N (Kd.slice 5 (Kd.int .u8)) 22 wc w.heap.size (fun k_ => some k_ ≠ (u3 : Value).ownBlock) (.slice (some ad214) t210.length co44) t210) := ⟨by rw [← hq_]; exact (by (with_reducible repeat (first | apply Kd.N_alloc | apply Kd.N_drewN | apply Kd.N_drew)); exact HO_5.out)⟩; have n3_ : Aside0 (Below w.heap.size w wc) := ⟨by rw [← hq_]; exact (by repeat (first | (with_reducible first | exact HB.out | apply below_alloc | apply pw_below_drewN | apply below_drew1) | exact HB.out))⟩; have n4_ : Aside0 (Kd.C (Kd.int .u8) wc A214_0 (rd_L1 t210 x6_1).length (rd_L1 t210 x6_1)) := ⟨by rw [← hq_]; exact (by repeat (first | (with_reducible exact HR214_0.out) | (with_reducible refine Kd.C_alloc ?_ _) | (with_reducible refine Kd.C_drewN ?_ _) | (with_reducible refine Kd.C_drew ?_) | exact HR214_0.out))⟩; clear HL214_0 HO_3 HO_5 HB HR214_0 hq_; have HL214_0 := n0_; have HO_3 := n1_; have HO_5 := n2_; have HB := n3_; have HR214_0 := n4_; clear n0_ n1_ n2_ n3_ n4_))
                                have n0_ := Aside0.mk (Kd.R_drew HO_3.out)
                                have n1_ := Aside0.mk (Kd.N_drew HO_5.out)
                                have n2_ := Aside0.mk (Kd.V_drew HL214_0.out)
                                have n3_ := Aside0.mk (Kd.C_drew HR214_0.out)
                                have n4_ := Aside0.mk (below_drew1 HB.out)
                                clear HO_3
                                clear HO_5
                                clear HL214_0
                                clear HR214_0
                                clear HB
                                have HO_3 := n0_
                                have HO_5 := n1_
                                have HL214_0 := n2_
                                have HR214_0 := n3_
                                have HB := n4_
                                clear n0_ n1_ n2_ n3_ n4_
                                refine start_ (n := 14) (S := fun w' => True) (ds := []) #[false, false, false, false, false, false, false, false, false, false, false, false, false, false] (by kernel_rfl) rfl rfl trivial (fun hHeld => ?_); refine with_tabW letterboxref9_Fields.tab14 letterboxref9_Fields.bits14 (fun HT_ HW_ => ?_)
                                generalize wc.drew = w46 at HO_3 HO_5 HL214_0 HR214_0 HB hHeld ⊢
                                refine pure_ (i := 0) (N := some 57) (v := ?_) (a' := ?_) #[true, false, false, false, false, false, false, false, false, false, false, false, false, false] rfl rfl (any_of HT_.out (by kernel_rfl)) (fun _ _ _ h => h) (Or.inl ⟨by rfl, ?_⟩) ?_ ?_
                                rotate_left
                                · intro w'
                                  go_simp
                                  with_reducible rfl
                                rotate_left
                                · simp only [Act.put, List.setIfInBounds_toArray, List.set_cons_zero, List.set_cons_succ, i64_w, i32_w]
                                  rfl
                                refine pure_ (i := 1) (N := some 58) (v := ?_) (a' := ?_) #[true, true, false, false, false, false, false, false, false, false, false, false, false, false] rfl rfl (any_of HT_.out (by kernel_rfl)) (fun _ _ _ h => h) (Or.inl ⟨by rfl, ?_⟩) ?_ ?_
                                rotate_left
                                · intro w'
                                  go_simp
                                  with_reducible rfl
                                rotate_left
                                · simp only [Act.put, List.setIfInBounds_toArray, List.set_cons_zero, List.set_cons_succ, i64_w, i32_w]
                                  rfl
                                refine pure_ (i := 2) (N := some 59) (v := ?_) (a' := ?_) #[true, true, true, false, false, false, false, false, false, false, false, false, false, false] rfl rfl (any_of HT_.out (by kernel_rfl)) (fun _ _ _ h => h) (Or.inl ⟨by rfl, ?_⟩) ?_ ?_
                                rotate_left
                                · intro w'
                                  go_simp
                                  with_reducible rfl
                                rotate_left
                                · simp only [Act.put, List.setIfInBounds_toArray, List.set_cons_zero, List.set_cons_succ, i64_w, i32_w]
                                  rfl
                                refine pure_ (i := 3) (N := some 60) (v := ?_) (a' := ?_) #[true, true, true, true, false, false, false, false, false, false, false, false, false, false] rfl rfl (any_of HT_.out (by kernel_rfl)) (fun _ _ _ h => h) (Or.inl ⟨by rfl, ?_⟩) ?_ ?_
                                rotate_left
                                · intro w'
                                  go_simp
                                  with_reducible rfl
                                rotate_left
                                · simp only [Act.put, List.setIfInBounds_toArray, List.set_cons_zero, List.set_cons_succ, i64_w, i32_w]
                                  rfl
                                refine pure_ (i := 5) (N := some 62) (v := ?_) (a' := ?_) #[true, true, true, true, false, true, false, false, false, false, false, false, false, false] rfl rfl (any_of HT_.out (by kernel_rfl)) (fun _ _ _ h => h) (Or.inl ⟨by rfl, ?_⟩) ?_ ?_
                                rotate_left
                                · intro w'
                                  go_simp
                                  with_reducible rfl
                                rotate_left
                                · simp only [Act.put, List.setIfInBounds_toArray, List.set_cons_zero, List.set_cons_succ, i64_w, i32_w]
                                  rfl
                                refine pure_ (i := 6) (N := some 63) (v := ?_) (a' := ?_) #[true, true, true, true, false, true, true, false, false, false, false, false, false, false] rfl rfl (any_of HT_.out (by kernel_rfl)) (fun _ _ _ h => h) (Or.inl ⟨by rfl, ?_⟩) ?_ ?_
                                rotate_left
                                · intro w'
                                  go_simp
                                  with_reducible rfl
                                rotate_left
                                · simp only [Act.put, List.setIfInBounds_toArray, List.set_cons_zero, List.set_cons_succ, i64_w, i32_w]
                                  rfl
                                refine pure_ (i := 7) (N := some 64) (v := ?_) (a' := ?_) #[true, true, true, true, false, true, true, true, false, false, false, false, false, false] rfl rfl (any_of HT_.out (by kernel_rfl)) (fun _ _ _ h => h) (Or.inl ⟨by rfl, ?_⟩) ?_ ?_
                                rotate_left
                                · intro w'
                                  go_simp
                                  with_reducible rfl
                                rotate_left
                                · simp only [Act.put, List.setIfInBounds_toArray, List.set_cons_zero, List.set_cons_succ, i64_w, i32_w]
                                  rfl
                                refine pure_ (i := 8) (N := some 65) (v := ?_) (a' := ?_) #[true, true, true, true, false, true, true, true, true, false, false, false, false, false] rfl rfl (any_of HT_.out (by kernel_rfl)) (fun _ _ _ h => h) (Or.inl ⟨by rfl, ?_⟩) ?_ ?_
                                rotate_left
                                · intro w'
                                  go_simp
                                  with_reducible rfl
                                rotate_left
                                · simp only [Act.put, List.setIfInBounds_toArray, List.set_cons_zero, List.set_cons_succ, i64_w, i32_w]
                                  rfl
                                refine one_ (i := 4) (N := some 61) #[true, true, true, true, true, true, true, true, true, false, false, false, false, false] rfl rfl (one_of HT_.out (by kernel_rfl)) (by decide) (fun K hK => ?_)
                                refine goes_ Tryd.func23 (by kernel_rfl) rfl #[.string ((strOfNums (rd_L1 t210 x6_1)).extract 0 (t219 : Int).toNat)] (by rfl) rfl rfl (by (try simp only [List.map_toArray, List.map_cons, List.map_nil]); first | done | rfl | (simp only [List.length_drop, List.length_take]; rfl)) ?_
                                with_reducible refine (letterboxref9_Trim.calls kj6 ((strOfNums (rd_L1 t210 x6_1)).extract 0 (t219 : Int).toNat) t220 _ A38.out).mono ?_
                                rintro e w' ⟨rfl, ⟨nd, rfl⟩⟩
                                refine ⟨_, rfl, ?_⟩
                                refine hK.out _ _ trivial (fun hHeld => ?_)
                                clear hK K
                                refine norm_ (a' := ?_) ?_ ?_
                                rotate_left
                                · show Act.put _ (some 61) _ = _
                                  simp only [Act.put, List.setIfInBounds_toArray, List.set_cons_zero, List.set_cons_succ, i64_w, i32_w]
                                  rfl
                                refine one_ (i := 9) (N := some 66) #[true, true, true, true, true, true, true, true, true, true, false, false, false, false] rfl rfl (one_of HT_.out (by kernel_rfl)) (by decide) (fun K hK => ?_)
                                refine goes_ Tryd.func23 (by kernel_rfl) rfl #[.string ((strOfNums (rd_L1 t210 x6_1)).extract ((ji39) : Int).toNat (strOfNums (rd_L1 t210 x6_1)).size)] (by rfl) rfl rfl (by (try simp only [List.map_toArray, List.map_cons, List.map_nil]); first | done | (simp only [hji39]; rfl) | rfl | (simp only [List.length_drop, List.length_take]; rfl)) ?_
                                with_reducible refine (letterboxref9_Trim.calls kj6 ((strOfNums (rd_L1 t210 x6_1)).extract ((ji39) : Int).toNat (strOfNums (rd_L1 t210 x6_1)).size) t221 _ A42.out).mono ?_
                                rintro e w' ⟨rfl, ⟨nd, rfl⟩⟩
                                refine ⟨_, rfl, ?_⟩
                                refine hK.out _ _ trivial (fun hHeld => ?_)
                                clear hK K
                                refine norm_ (a' := ?_) ?_ ?_
                                rotate_left
                                · show Act.put _ (some 66) _ = _
                                  simp only [Act.put, List.setIfInBounds_toArray, List.set_cons_zero, List.set_cons_succ, i64_w, i32_w]
                                  rfl
                                refine pure_ (i := 10) (N := some 67) (v := ?_) (a' := ?_) #[true, true, true, true, true, true, true, true, true, true, true, false, false, false] rfl rfl (any_of HT_.out (by kernel_rfl)) (fun _ _ _ h => h) (Or.inl ⟨by rfl, ?_⟩) ?_ ?_
                                rotate_left
                                · intro w'
                                  go_simp
                                  with_reducible rfl
                                rotate_left
                                · simp only [Act.put, List.setIfInBounds_toArray, List.set_cons_zero, List.set_cons_succ, i64_w, i32_w]
                                  rfl
                                refine one_ (i := 11) (N := some 68) #[true, true, true, true, true, true, true, true, true, true, true, true, false, false] rfl rfl (one_of HT_.out (by kernel_rfl)) (by decide) (fun K hK => ?_)
                                refine value_ (w1 := ?_) (v := ?_) (by rfl) rfl ?_ ?_
                                rotate_left 2
                                · go_simp
                                  constructor
                                  · rfl
                                  · rfl
                                refine hK.out _ _ trivial (fun hHeld => ?_)
                                clear hK K
                                refine norm_ (a' := ?_) ?_ ?_
                                rotate_left
                                · show Act.put _ (some 68) _ = _
                                  simp only [Act.put, List.setIfInBounds_toArray, List.set_cons_zero, List.set_cons_succ, i64_w, i32_w]
                                  rfl
                                refine one_ (i := 12) (N := some 69) #[true, true, true, true, true, true, true, true, true, true, true, true, true, false] rfl rfl (one_of HT_.out (by kernel_rfl)) (by decide) (fun K hK => ?_)
                                refine Kd.R_append_step k26 (w0 := w) w.heap.size (by rfl) (.tmp 57) (.tmp 68) 23 26 (.agg #[(.string ⟨#[]⟩), (.string ⟨#[]⟩)]) 32 rfl Tryd.underlying23 info26 rfl (by decide) (by omega) u3 x3_1 (⟨t220, t221⟩ : S26) [.string t220, .string t221] (fun _ => True) (fun _ => False) rfl rfl ?aP (fun _ hk => hk.elim) ?aF ?aO ?aB ?aS ?aL ?_
                                (case aP => exact k26_mkM _ _ _ (⟨t220, t221⟩ : S26))
                                (case aB => exact (by repeat (first | (with_reducible first | exact HB.out | apply below_alloc | apply pw_below_drewN | apply below_drew1) | exact HB.out)))
                                (case aF => exact (fun _ _ => trivial))
                                (case aO => exact (by (with_reducible repeat (first | apply Kd.R_alloc | apply Kd.R_drewN | apply Kd.R_drew)); exact HO_3.out))
                                (case aS => exact (below_size (by repeat (first | (with_reducible first | exact HB.out | apply below_alloc | apply pw_below_drewN | apply below_drew1) | exact HB.out))))
                                (case aL => have := LMc43.out; omega)
                                intro v223 w47 ho hb hg hat
                                rw [← Ny222.out] at ho
                                have n0_ := Aside0.mk (Kd.N_afterv (ok := (fun _ => True)) (by (with_reducible repeat (first | apply Kd.N_alloc | apply Kd.N_drewN | apply Kd.N_drew)); exact Kd.N_mono HO_5.out (fun _ hk => ⟨trivial, hk⟩)) hg hat)
                                have n1_ := Aside0.mk (Kd.V_afterv (ok := (fun k_ => some k_ ≠ (.slice (some ad214) t210.length co44 : Value).ownBlock)) (by (with_reducible repeat (first | apply Kd.V_alloc | apply Kd.V_drewN | apply Kd.V_drew)); exact Kd.V_mono HL214_0.out (fun _ hk => ⟨hk.2, hk.1⟩)) hg hat)
                                have n2_ := Aside0.mk (hb)
                                have n3_ := Aside0.mk (ho)
                                clear HO_5
                                clear HL214_0
                                clear HB
                                clear HO_3
                                have HO_5 := n0_
                                have HL214_0 := n1_
                                have HB := n2_
                                have HO224 := n3_
                                clear n0_ n1_ n2_ n3_
                                clear ho hb hg hat
                                refine hK.out _ _ trivial (fun hHeld => ?_)
                                clear hK K
                                refine norm_ (a' := ?_) ?_ ?_
                                rotate_left
                                · show Act.put _ (some 69) _ = _
                                  simp only [Act.put, List.setIfInBounds_toArray, List.set_cons_zero, List.set_cons_succ, i64_w, i32_w]
                                  rfl
                                refine pure_ (i := 13) (N := some 3) (v := ?_) (a' := ?_) #[true, true, true, true, true, true, true, true, true, true, true, true, true, true] rfl rfl (any_of HT_.out (by kernel_rfl)) (fun _ _ _ h => h) (Or.inl ⟨by rfl, ?_⟩) ?_ ?_
                                rotate_left
                                · intro w'
                                  go_simp
                                  with_reducible rfl
                                rotate_left
                                · simp only [Act.put, List.setIfInBounds_toArray, List.set_cons_zero, List.set_cons_succ, i64_w, i32_w]
                                  rfl
                                refine done_ (done_of HT_.out (by kernel_rfl)) ?_
                                try go_wp2
                                go_roundg kj6
                                case measure => have := HK1.out; have := HJ6.out; omega
                                case rel => exact ⟨(y222), (decide (t219 ≥ 0)), (wrap64 (x6_1 + 1)), (by first | rfl | (simp; done) | (simp [*]; done)), (by first | rfl | (simp; done) | (simp [*]; done)), H', ⟨by have := HK1.out; have := HJ6.out; omega⟩, ⟨by (with_reducible repeat (first | apply Kd.R_alloc | apply Kd.R_drewN | apply Kd.R_drew)); exact HO224.out⟩, ⟨by (with_reducible repeat (first | apply Kd.N_alloc | apply Kd.N_drewN | apply Kd.N_drew)); exact Kd.N_mono HO_5.out (fun _ hk => hk.2)⟩, ⟨by repeat (first | (with_reducible first | exact HB.out | apply below_alloc | apply pw_below_drewN | apply below_drew1) | exact HB.out)⟩⟩
                              · rw [if_neg c43] at H
                                exact absurd H (by simp)
                            · rw [if_neg c41] at H
                              exact absurd H (by simp)
                          · rw [if_neg c40] at H
                            exact absurd H (by simp)
                        · rw [if_neg c37] at H
                          exact absurd H (by simp)
                      · rw [if_neg c36] at H
                        exact absurd H (by simp)
                    · rw [if_neg c35] at H
                      have c35b0 : decide (0 ≤ t219) = false := decide_eq_false c35
                      clear c35
                      have H' := Aside0.mk H
                      clear H
                      obtain ⟨Ao48, co48, eo48⟩ := Kd.N_slice HO_5.out
                      subst eo48
                      have p214 : 0 ≤ (x6_1 : Int) := of_decide_eq_true (by first | (with_reducible assumption) | assumption)
                      have q214 : x6_1 < (t210.length : Int) := of_decide_eq_true (by first | (with_reducible assumption) | assumption)
                      obtain ⟨ad214, A214_0, c214_0, e214, hx214_0, hl214_0, hi214_0⟩ := at_L1 (Kd.N_reads' HO_5.out).2.2 x6_1 p214 q214
                      cases e214
                      obtain ⟨ce214, hce214, hMe214, hcc214⟩ := Kd.N_get HO_5.out [] x6_1 p214 (by first | exact q214 | exact of_decide_eq_true (by first | (with_reducible assumption) | assumption) | (have e_ := (Kd.N_reads' HO_5.out).1; omega))
                      obtain ⟨ua214_0, uc214_0, rfl, ul214_0, ge214_0⟩ := Kd.FK_slice_open hMe214
                      have hv214_0 := hcc214 0 _ rfl
                      rw [Nat.add_zero, show ((Kd.slice 5 (Kd.int .u8))).sz = 1 from rfl, Nat.mul_one] at hv214_0
                      replace hv214_0 := Option.some.inj (hv214_0.symm.trans hx214_0)
                      injection hv214_0 with hva_ hvn_ hvc_
                      rw [hva_] at ge214_0
                      rw [hvc_] at ul214_0
                      have HL214_0 := Aside0.mk (show Kd.V (Kd.int .u8) 5 _ w.heap.size _ _ (rd_L1 t210 x6_1) from Kd.V_mk ul214_0 ge214_0)
                      clear hva_ hvn_ hvc_ ge214_0 ul214_0
                      clear hcc214 hce214
                      have HR214_0 := Aside0.mk hi214_0
                      have HC214_0 := Aside0.mk hl214_0
                      clear hi214_0 hl214_0
                      replace p214 := eq_true p214
                      replace q214 := eq_true q214
                      have hcv49 := Kd.C_string (P := Tryd.prog) (A := A214_0) (c := c214_0) Tryd.underlying22 Tryd.underlying5 Tryd.underlying9 (by repeat (first | (with_reducible exact HR214_0.out) | (with_reducible refine Kd.C_alloc ?_ _) | (with_reducible refine Kd.C_drewN ?_ _) | (with_reducible refine Kd.C_drew ?_) | exact HR214_0.out))
                      have p16 : 0 ≤ (0 : Int) := (by omega)
                      have q16 : 0 < (strOfNums (rd_L1 t210 x6_1)).size := (by have : (0 : Int) < ((strOfNums (rd_L1 t210 x6_1)).size : Int) := of_decide_eq_true (by first | (with_reducible assumption) | assumption); omega)
                      have hx16 : ∀ h : 0 < (strOfNums (rd_L1 t210 x6_1)).size, (((strOfNums (rd_L1 t210 x6_1))[0]'h).toNat : Int) = bt (strOfNums (rd_L1 t210 x6_1)) 0 := bt_at (strOfNums (rd_L1 t210 x6_1)) 0
                      clear p16
                      have qi16 : (0 < ((strOfNums (rd_L1 t210 x6_1)).size : Int)) = True := eq_true (of_decide_eq_true (by first | (with_reducible assumption) | assumption))
                      replace q16 := eq_true q16
                      go_wp2_with (first | ((with_reducible refine gate_callee (f := 38) rfl ?_); refine goesL_ (some 33) rfl rfl Tryd.func38 (by kernel_rfl) rfl #[.int .u8 (bt (strOfNums (rd_L1 t210 x6_1)) 0)] rfl (by (try simp only [List.map_toArray, List.map_cons, List.map_nil]); first | done | rfl | (simp only [List.length_drop, List.length_take]; rfl)) ?_; (with_reducible refine (letterboxref9_blank.calls (bt (strOfNums (rd_L1 t210 x6_1)) 0) false _ A17.out).mono ?_); rintro e w' ⟨rfl, ⟨nd, rfl⟩⟩; refine ⟨_, rfl, ?_⟩) | ((with_reducible refine gate_callee (f := 39) rfl ?_); refine goesL_ (some 53) rfl rfl Tryd.func39 (by kernel_rfl) rfl #[.string (strOfNums (rd_L1 t210 x6_1)), .int .u8 58] rfl (by (try simp only [List.map_toArray, List.map_cons, List.map_nil]); first | done | rfl | (simp only [List.length_drop, List.length_take]; rfl)) ?_; (with_reducible refine (letterboxref9_Colon.calls kj6 (strOfNums (rd_L1 t210 x6_1)) 58 t219 _ A34.out).mono ?_); rintro e w' ⟨rfl, ⟨nd, rfl⟩⟩; refine ⟨_, rfl, ?_⟩))
                      go_roundg kj6
                      case measure => have := HK1.out; have := HJ6.out; omega
                      case rel => exact ⟨(x3_1), (decide (t219 ≥ 0)), (wrap64 (x6_1 + 1)), (by first | rfl | (simp; done) | (simp [*]; done)), (by first | rfl | (simp; done) | (simp [*]; done)), H', ⟨by have := HK1.out; have := HJ6.out; omega⟩, ⟨by (with_reducible repeat (first | apply Kd.R_alloc | apply Kd.R_drewN | apply Kd.R_drew)); exact HO_3.out⟩, ⟨by (with_reducible repeat (first | apply Kd.N_alloc | apply Kd.N_drewN | apply Kd.N_drew)); exact HO_5.out⟩, ⟨by repeat (first | (with_reducible first | exact HB.out | apply below_alloc | apply pw_below_drewN | apply below_drew1) | exact HB.out)⟩⟩
                · rw [if_neg c15] at H
                  exact absurd H (by simp)
              · rw [if_neg c14] at H
                exact absurd H (by simp)
            · rw [if_neg c13] at H
              exact absurd H (by simp)
          · replace c12 := Bool.eq_false_iff.mpr c12
            subst c12
            have H1 : (some x3_1) = some r := by rw [if_neg (show ¬ (false = true) by decide)] at H; exact H
            clear H
            have H := H1
            clear H1
            obtain rfl := Option.some.inj H
            go_wp2
            go_ret
            exact ⟨_, by first | rfl | (simp [errW_none, errW_some] <;> rfl) | (simp [*, errW_none, errW_some] <;> rfl), by (with_reducible repeat (first | apply Kd.R_alloc | apply Kd.R_drewN | apply Kd.R_drew)); exact HO_3.out, by repeat (first | (with_reducible first | exact HB.out | apply below_alloc | apply pw_below_drewN | apply below_drew1) | exact HB.out)⟩

end Go.Proofs.YtlicjigofnbpjaaDoor.P
