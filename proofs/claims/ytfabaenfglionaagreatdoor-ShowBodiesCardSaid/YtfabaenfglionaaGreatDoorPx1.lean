/- The walks of the seat's functions, one contract a function: printed by a program of this session's (wip/gen). Not trusted: Lean checks it. -/
import Derived.Test.YtfabaenfglionaaGreatDoorShort
import Derived.Test.YtfabaenfglionaaGreatDoorPx0
-- halved
namespace Go.Proofs.YtfabaenfglionaaGreatDoor.P
open Go.RowKit Go.Proofs.YtfabaenfglionaaGreatDoorW.PrintWords Go.Proofs.YtfabaenfglionaaGreatDoorW.PrintLast Go.Proofs.YtfabaenfglionaaGreatDoorW.PrintMore
attribute [local go_sem] max2_int min2_int max_two min_two max_three min_three max_four min_four   -- for this text's walks alone
set_option linter.unusedVariables false
set_option linter.unusedSimpArgs false

-- GIVEN: function 24 (show_small)

-- GIVEN: function 25 (strings_CutPrefix)

-- GIVEN: function 26 (strings_CutSuffix)

-- GIVEN: function 45 (strings_Split)

/-! ### show_item: function 15 -/
def show_item.f (k : Nat) (a0 : ByteArray) : Option (Int × List Int × Bool) := (show_small.f a0).bind fun t109 => (if t109.toList = ([102, 108, 97, 103, 115] : List UInt8) then (some (1, ([] : List Int), true)) else (none))
set_option maxHeartbeats 8000000 in
set_option maxRecDepth 100000 in
theorem show_item.calls (k : Nat) (a0 : ByteArray) (r1 : Int) (r2 : List Int) (r3 : Bool) (w : World) (h : show_item.f k a0 = some (r1, r2, r3)) :
  Calls Tryz.prog 15 #[.string a0] w fun e w' => ∃ v1_ : Value, e = .returned (.tuple #[.agg #[.int .i64 r1, v1_], .bool r3]) ∧ Kd.R (Kd.int .i64) 3 w' w.heap.size (fun _ => True) v1_ r2 ∧ Below w.heap.size w w' := by
 have hu40 := Tryz.underlying40; have HB := am (Below.refl w.heap.size w); have H : ((show_small.f a0).bind fun t109 => (if t109.toList = ([102, 108, 97, 103, 115] : List UInt8) then (some (1, ([] : List Int), true)) else (none))) = some (r1, r2, r3) := h; clear h; replace H := Option.bind_eq_some_iff.mp H; obtain ⟨t109, A20, H⟩ := H; replace H : (if t109.toList = ([102, 108, 97, 103, 115] : List UInt8) then (some (1, ([] : List Int), true)) else (none)) = some (r1, r2, r3) := H; have A2 := am A20; clear A20
 by_cases c3 : t109.toList = ([102, 108, 97, 103, 115] : List UInt8)
 ·rw [if_pos c3] at H; have c3b0 : (t109.toList == ([102, 108, 97, 103, 115] : List UInt8)) = true := beq_iff_eq.mpr c3; have c3b1 : (t109.toList != ([102, 108, 97, 103, 115] : List UInt8)) = false := bne_eq_false_iff_eq.mpr c3; clear c3; simp only [Option.some.injEq, Prod.mk.injEq] at H; obtain ⟨rfl, rfl, rfl⟩ := H
  go_enter Tryz.func15, Tryz.ntmps15
  go_wp2_with (first | ((with_reducible refine gate_dst (N := 2) rfl ?_); refine box_event ?hg (N := 2) ?hd (cs := #[.int .i64 0, .slice none 0 0]) (t := 40) ?hr ?_; (case hd => rfl); (case hg => rfl); (case hr => first | (go_simp; done) | (go_simp; rfl)); intro gb108 hg w4 hbox hb; have n0_ := am (below_step bz hb); have n1_ := am (hbox); have n2_ := am ((by rw [hg]; exact (below_size bz) : w.heap.size ≤ gb108)); have n3_ := am ((by rw [hg]; exact (below_size bz) : w.heap.size ≤ gb108)); clear HB; have HB := n0_; have BK108 := n1_; have GW108 := n2_; have GE108 := n3_; clear n0_ n1_ n2_ n3_; clear hb hbox hg) | ((with_reducible refine gate_callee (f := 24) rfl ?_); refine goesL_ (some 9) rfl rfl Tryz.func24 (by kernel_rfl) rfl #[.string a0] rfl mz ?_; (with_reducible refine (show_small.calls a0 t109 _ A2.out).mono ?_); rintro e w5 ⟨rfl, hb⟩; refine ⟨_, rfl, ?_⟩; have n0_ := am (bx BK108.out hb); have n1_ := am (below_step (by repeat (first | (with_reducible first | exact HB.out | apply bA | apply bN | apply bD | refine below_set ?_ GE108.out) | exact HB.out)) hb); clear BK108 HB; have BK108 := n0_; have HB := n1_; clear n0_ n1_; (try clear hb); (try clear hb2); (try clear hk); (try clear hi); have hcz6_0 : w5.cell? ⟨gb108, 0, none⟩ = some (.int .i64 0) := (blk_cell BK108.out 0).trans rfl; have hcz6_1 : w5.cell? ⟨gb108, 1, none⟩ = some (.slice none 0 0) := (blk_cell BK108.out 1).trans rfl; have hfz6_0 := blk_frozen BK108.out 0; have hfz6_1 := blk_frozen BK108.out 1))
  refine bodyPost_ret (results_ct rfl _ _ gb108 40 #[.int .i64 1, .slice none 0 0] (0, 0) _ rfl (by (with_reducible repeat first | refine kN ?_ _ | refine kD ?_ | refine kA ?_ _); refine blk_put (cs := #[.int .i64 1, .slice none 0 0]) ?_ 1 _ rfl; (with_reducible repeat first | refine kN ?_ _ | refine kD ?_ | refine kA ?_ _); refine blk_put (cs := #[.int .i64 0, .slice none 0 0]) ?_ 0 _ rfl; (with_reducible repeat first | refine kN ?_ _ | refine kD ?_ | refine kA ?_ _); exact BK108.out) Tryz.underlying40 rfl (by kernel_rfl)) rfl ?_
  exact ⟨_, ez, nl, by repeat (first | (with_reducible first | exact HB.out | apply bA | apply bN | apply bD | refine below_set ?_ GE108.out) | exact HB.out)⟩
 rw [if_neg c3] at H
 cases H/-! ### show_Parse: function 7 -/
mutual
def show_Parse.j0 : Nat → List (S24) → Bool → Option ((List (S40)) × Int)
 | 0, _, _ => none
 | k + 1, x0, x27 => if x27 = true then (if 1 ≤ (wrap64 ((x0.length : Int) - 1)) then (if (wrap64 ((x0.length : Int) - 1)) ≤ (x0.length : Int) then (show_Parse.j1 k ((x0.take ((wrap64 ((x0.length : Int) - 1)) : Int).toNat).drop 1)) else (none)) else (none)) else (if (x0.length : Int) = 1 then (show_Parse.j1 k x0) else (some (([] : List (S40)), 3)))
def show_Parse.j1 : Nat → List (S24) → Option ((List (S40)) × Int)
 | 0, _ => none
 | k + 1, x0 => show_Parse.l100 k x0 ([] : List (S40)) 0
def show_Parse.l100 : Nat → List (S24) → List (S40) → Int → Option ((List (S40)) × Int)
 | 0, _, _, _ => none
 | k + 1, x0, x4, x5 => if x5 ≥ (x0.length : Int) then (some (x4, 0)) else (if 0 ≤ x5 then (if x5 < (x0.length : Int) then ((show_item.f k ((rd_T24 x0 x5).f1)).bind fun bt126 => (if bt126.2.2 = true then (if ((rd_T24 x0 x5).f0) = 1 then (if x4.length < 4398046511104 then (show_Parse.l100 k x0 (x4 ++ [(⟨bt126.1, bt126.2.1⟩ : S40)]) (wrap64 (x5 + 1))) else (none)) else (some (([] : List (S40)), 3))) else (some (([] : List (S40)), 3)))) else (none)) else (none))
end
def show_Parse.f (k : Nat) (l0 : List (S24)) : Option ((List (S40)) × Int) := if (l0.length : Int) ≥ 3 then (if 0 < (l0.length : Int) then (if ((rd_T24 l0 0).f0) = 3 then (if 0 ≤ (wrap64 ((l0.length : Int) - 1)) then (if (wrap64 ((l0.length : Int) - 1)) < (l0.length : Int) then (show_Parse.j0 k l0 (((rd_T24 l0 (wrap64 ((l0.length : Int) - 1))).f0) == 4)) else (none)) else (none)) else (show_Parse.j0 k l0 false)) else (none)) else (show_Parse.j0 k l0 false)
set_option maxHeartbeats 8000000 in
set_option maxRecDepth 100000 in
theorem show_Parse.calls (k : Nat) (P0_ : Nat → Prop) (A0 : Option Addr) (c0 : Nat) (l0 : List (S24)) (r1 : List (S40)) (r2 : Int) (w : World) (hs0 : Kd.V k24 24 w w.heap.size (fun k_ => P0_ k_) (.slice A0 l0.length c0) l0) (h : show_Parse.f k l0 = some (r1, r2)) :
  Calls Tryz.prog 7 #[.slice A0 l0.length c0] w fun e w' => ∃ v0_ : Value, e = .returned (.tuple #[v0_, .int .i64 r2]) ∧ Kd.S k40 40 w' w.heap.size (fun k_ => (w.heap.size ≤ k_)) v0_ r1 ∧ Below w.heap.size w w' := by
 have hu40 := Tryz.underlying40; have HO0 := am (show Kd.V k24 24 w w.heap.size (fun k_ => (P0_ k_ ∨ w.heap.size ≤ k_)) (.slice A0 l0.length c0) l0 from Kd.V_mono hs0 (fun k_ hk => .inl hk)); have HB := am (Below.refl w.heap.size w); have H : (if (l0.length : Int) ≥ 3 then (if 0 < (l0.length : Int) then (if ((rd_T24 l0 0).f0) = 3 then (if 0 ≤ (wrap64 ((l0.length : Int) - 1)) then (if (wrap64 ((l0.length : Int) - 1)) < (l0.length : Int) then (show_Parse.j0 k l0 (((rd_T24 l0 (wrap64 ((l0.length : Int) - 1))).f0) == 4)) else (none)) else (none)) else (show_Parse.j0 k l0 false)) else (none)) else (show_Parse.j0 k l0 false)) = some (r1, r2) := h; clear h; have HC2 := am H; clear H
 go_enter Tryz.func7, Tryz.ntmps7
 try go_wp2
 refine wp_scope_sp scope_pan ?_; intro X HX; generalize hRL0 : Code.seq (Code.label 0) _ = RL0
 go_upto_region 1 with (fail)
 go_cut [27] (fun v27 wc => ∃ (kq : Nat) (x27_1 : Bool), v27 = .bool x27_1 ∧ Aside0 (show_Parse.j0 kq l0 x27_1 = some (r1, r2)) ∧ Aside0 (kq ≤ k) ∧ Aside0 (Kd.V k24 24 wc w.heap.size (fun k_ => (P0_ k_ ∨ w.heap.size ≤ k_)) (.slice A0 l0.length c0) l0) ∧ Aside0 (Below w.heap.size w wc))
 case first =>
  have H := HC2.out; clear HC2
  by_cases c3 : (l0.length : Int) ≥ 3
  ·rw [if_pos c3] at H; have c3b0 : decide (3 ≤ (l0.length : Int)) = true := decide_eq_true c3; have c3b1 : decide (3 ≤ l0.length) = true := decide_eq_true (by omega); clear c3
   (first | rw [c3b0] | (simp only [i64_w, i32_w]; rw [c3b0]) | skip)
   by_cases c4 : 0 < (l0.length : Int)
   ·rw [if_pos c4] at H; have c4b0 : decide (0 < (l0.length : Int)) = true := decide_eq_true c4; have c4b1 : decide (0 < l0.length) = true := decide_eq_true (by omega); clear c4
    by_cases c5 : ((rd_T24 l0 0).f0) = 3
    ·rw [if_pos c5] at H; have c5b0 : (((rd_T24 l0 0).f0) == 3) = true := beq_iff_eq.mpr c5; have c5b1 : (((rd_T24 l0 0).f0) != 3) = false := bne_eq_false_iff_eq.mpr c5; clear c5; obtain ⟨ji6, hji6⟩ : ∃ j_ : Int, (wrap64 ((l0.length : Int) - 1)) = j_ := ⟨_, rfl⟩
     replace H : (if 0 ≤ (ji6) then (if (ji6) < (l0.length : Int) then (show_Parse.j0 k l0 (((rd_T24 l0 (ji6)).f0) == 4)) else (none)) else (none)) = some (r1, r2) := by first | (rw [hji6] at H; exact H) | (simp only [hji6] at H ⊢; exact H)
     have hji6w : (IntKind.i64.wrap ((l0.length : Int) - 1)) = ji6 := (i64_w _).trans hji6
     by_cases c7 : 0 ≤ (ji6)
     ·rw [if_pos c7] at H; have c7b0 : decide (0 ≤ (ji6)) = true := decide_eq_true c7; clear c7
      by_cases c8 : (ji6) < (l0.length : Int)
      ·rw [if_pos c8] at H; have c8b0 : decide ((ji6) < (l0.length : Int)) = true := decide_eq_true c8; clear c8; have H' := am H; clear H; have p118 : 0 ≤ (0 : Int) := (by omega); have q118 : 0 < (l0.length : Int) := of_decide_eq_true az; obtain ⟨ad118, e118, hx118_0, hx118_1⟩ := at_T24 (Kd.V_reads' HO0.out).2.2 0 p118 q118
       cases e118
       have qi118 : (0 < l0.length) = True := eq_true (by omega); (try rw [show ((0 : Int)).toNat = 0 from rfl] at hx118_0); (try rw [show 0 * 2 = 0 from rfl] at hx118_0); (try rw [Addr.add_zero'] at hx118_0); (try rw [show ((0 : Int)).toNat = 0 from rfl] at hx118_1); (try rw [show 0 * 2 = 0 from rfl] at hx118_1); (try rw [Addr.add_zero'] at hx118_1); replace p118 := eq_true p118; replace q118 := eq_true q118; have p119 : 0 ≤ ((ji6) : Int) := of_decide_eq_true az; have q119 : (ji6) < (l0.length : Int) := of_decide_eq_true az; obtain ⟨ad119, e119, hx119_0, hx119_1⟩ := at_T24 (Kd.V_reads' HO0.out).2.2 (ji6) p119 q119; obtain rfl : ad118 = ad119 := (by injection e119); replace p119 := eq_true p119; replace q119 := eq_true q119
       go_wp2
       go_meet
       case rel => exact ⟨_, ((((rd_T24 l0 (ji6)).f0) == 4)), (by first | rfl | (simp; done) | (simp only [← hji6] <;> (first | rfl | simp)) | (simp [*]; done)), H', ⟨by first | omega | exact Nat.le_refl _⟩, ⟨vz HO0.out⟩, ⟨bz⟩⟩
      rw [if_neg c8] at H
      exact absurd H (by simp)
     rw [if_neg c7] at H
     exact absurd H (by simp)
    rw [if_neg c5] at H; have c5b0 : (((rd_T24 l0 0).f0) == 3) = false := beq_eq_false_iff_ne.mpr c5; have c5b1 : (((rd_T24 l0 0).f0) != 3) = true := bne_iff_ne.mpr c5; have H' := am H; clear H; have p118 : 0 ≤ (0 : Int) := (by omega); have q118 : 0 < (l0.length : Int) := of_decide_eq_true az; obtain ⟨ad118, e118, hx118_0, hx118_1⟩ := at_T24 (Kd.V_reads' HO0.out).2.2 0 p118 q118
    cases e118
    have qi118 : (0 < l0.length) = True := eq_true (by omega); (try rw [show ((0 : Int)).toNat = 0 from rfl] at hx118_0); (try rw [show 0 * 2 = 0 from rfl] at hx118_0); (try rw [Addr.add_zero'] at hx118_0); (try rw [show ((0 : Int)).toNat = 0 from rfl] at hx118_1); (try rw [show 0 * 2 = 0 from rfl] at hx118_1); (try rw [Addr.add_zero'] at hx118_1); replace p118 := eq_true p118; replace q118 := eq_true q118
    go_wp2
    go_meet
    case rel => exact ⟨_, (false), sz, H', ⟨by first | omega | exact Nat.le_refl _⟩, ⟨vz HO0.out⟩, ⟨bz⟩⟩
   rw [if_neg c4] at H
   exact absurd H (by simp)
  rw [if_neg c3] at H; have c3b0 : decide (3 ≤ (l0.length : Int)) = false := decide_eq_false c3; have c3b1 : decide (3 ≤ l0.length) = false := decide_eq_false (by omega); clear c3
  (first | rw [c3b0] | (simp only [i64_w, i32_w]; rw [c3b0]) | skip)
  have H' := am H; clear H
  go_wp2
  go_meet
  case rel => exact ⟨_, (false), sz, H', ⟨by first | omega | exact Nat.le_refl _⟩, ⟨vz HO0.out⟩, ⟨bz⟩⟩
 case rest =>
  clear HC2; (try clear p1); (try clear q1); (try clear hx1); (try clear qi1); (try clear p2); (try clear c3); (try clear c3b0); (try clear c3b1); (try clear c4); (try clear c4b0); (try clear c4b1); (try clear c5); (try clear c5b0); (try clear c5b1); (try clear p6); (try clear c7); (try clear c7b0); (try clear c8); (try clear c8b0); (try clear hx118_0); (try clear hx118_1); (try clear hx119_0); (try clear hx119_1); (try clear p118); (try clear p119); (try clear q118); (try clear q119); obtain ⟨kq, x27_1, rfl, HA, HJ1, HO_0, HB⟩ := hcut
  cases kq with
  | zero => exact absurd HA.out (by simp [show_Parse.j0])
  | succ kj1 =>
   have H := HA.out; clear HA; simp only [show_Parse.j0] at H; have HC9 := am H; clear H
   go_upto_if 27 with (fail)
   go_cut [0] (fun v0 wc => ∃ (kq : Nat) (x0_8 : List (S24)), Aside0 (show_Parse.j1 kq x0_8 = some (r1, r2)) ∧ Aside0 (kq ≤ kj1) ∧ Aside0 (Kd.V k24 24 wc w.heap.size (fun k_ => (P0_ k_ ∨ w.heap.size ≤ k_)) v0 x0_8) ∧ Aside0 (Below w.heap.size w wc))
   case first =>
    have H := HC9.out; clear HC9
    by_cases c10 : x27_1 = true
    ·subst c10
     have H1 : (if 1 ≤ (wrap64 ((l0.length : Int) - 1)) then (if (wrap64 ((l0.length : Int) - 1)) ≤ (l0.length : Int) then (show_Parse.j1 kj1 ((l0.take ((wrap64 ((l0.length : Int) - 1)) : Int).toNat).drop 1)) else (none)) else (none)) = some (r1, r2) := by rw [if_pos rfl] at H; exact H
     clear H; have H := H1; clear H1
     by_cases c11 : 1 ≤ (wrap64 ((l0.length : Int) - 1))
     ·rw [if_pos c11] at H; have c11b0 := eq_true c11; have c11b1 : decide (1 ≤ (wrap64 ((l0.length : Int) - 1))) = true := decide_eq_true c11; clear c11
      by_cases c12 : (wrap64 ((l0.length : Int) - 1)) ≤ (l0.length : Int)
      ·rw [if_pos c12] at H; have c12b0 := eq_true c12; have c12b1 : decide ((wrap64 ((l0.length : Int) - 1)) ≤ (l0.length : Int)) = true := decide_eq_true c12; clear c12; obtain ⟨y120, hy120⟩ : ∃ y_ : List (S24), y_ = ((l0.take ((wrap64 ((l0.length : Int) - 1)) : Int).toNat).drop 1) := ⟨_, rfl⟩
       replace H : (show_Parse.j1 kj1 y120) = some (r1, r2) := by first | (rw [hy120]; with_reducible exact H) | (have H2_ := (Option.bind_some _ _).symm.trans H; rw [hy120]; with_reducible exact H2_) | (have H2_ := (Option.bind_some _ _).symm.trans H; with_reducible exact H2_) | with_reducible exact H | (rw [hy120]; exact H) | exact H
       have Ny120 := am hy120; clear hy120; have H' := am H; clear H; have q13 : ((wrap64 ((l0.length : Int) - 1)) : Int) ≤ ((l0.length : Int) : Int) := of_decide_eq_true az; obtain ⟨i013, hi013, _, hsz13, _⟩ := info_parts info24; have hroom13 : l0.length ≤ c0 := (Kd.V_reads' HO_0.out).2.1; have hC13 : Kd.F k24 _ _ A0 l0.length l0 := (Kd.V_at (base := w.heap.size) HO_0.out).2.2; have ql13 : (1 : Int) ≤ ((wrap64 ((l0.length : Int) - 1)) : Int) := of_decide_eq_true az; have hcut13 := cut_mid (P := Tryz.prog) 22 24 .i64 .i64 Tryz.underlying22 hi013 2 hsz13 A0 l0.length c0 1 (wrap64 ((l0.length : Int) - 1)) (by omega) ql13 q13 hroom13; have hr13 := Kd.F_mid (lo := (1 : Int).toNat) (hi := ((wrap64 ((l0.length : Int) - 1)) : Int).toNat) (c := c0) hC13 (by omega) (by omega) hroom13; obtain ⟨A13, hA13⟩ : ∃ A1, A1 = (if c0 = (1 : Int).toNat then A0 else (A0 : Option Addr).map (·.add ((1 : Int).toNat * 2))) := ⟨_, rfl⟩; obtain ⟨c13, hc13⟩ : ∃ c1, c1 = c0 - (1 : Int).toNat := ⟨_, rfl⟩; have hy13 : y120.length = ((wrap64 ((l0.length : Int) - 1)) : Int).toNat - (1 : Int).toNat := (by rw [Ny120.out, List.length_drop, List.length_take] <;> omega); rw [show ((l0).take ((wrap64 ((l0.length : Int) - 1)) : Int).toNat).drop (1 : Int).toNat = y120 from Ny120.out.symm] at hr13; replace hr13 : Kd.F k24 _ _ A13 y120.length y120 := (by rw [hA13]; exact hr13)
       rw [← hy13, ← hA13, ← hc13] at hcut13; have HO124 := am (show Kd.V k24 24 _ w.heap.size _ (.slice A13 y120.length c13) y120 from Kd.V_mk (by rw [hy13, hc13]; exact Nat.sub_le_sub_right (Nat.le_trans (by omega) hroom13) _) hr13)
       have HC124 := am (show y120.length ≤ c13 from by rw [hy13, hc13]; exact Nat.sub_le_sub_right (Nat.le_trans (by omega) hroom13) _); clear hr13 hC13 hroom13 hi013 hsz13 hc13; have KY13 := am hy13; have KA13 := am hA13; clear hy13 hA13; replace q13 := eq_true q13
       go_wp2
       go_meet
       case rel => exact ⟨_, (y120), H', ⟨by have := HJ1.out; first | omega | exact Nat.le_refl _⟩, ⟨vz HO124.out⟩, ⟨bz⟩⟩
      rw [if_neg c12] at H
      exact absurd H (by simp)
     rw [if_neg c11] at H
     exact absurd H (by simp)
    replace c10 := Bool.eq_false_iff.mpr c10; subst c10
    have H1 : (if (l0.length : Int) = 1 then (show_Parse.j1 kj1 l0) else (some (([] : List (S40)), 3))) = some (r1, r2) := by rw [if_neg (show ¬ (false = true) by decide)] at H; exact H
    clear H; have H := H1; clear H1
    by_cases c14 : (l0.length : Int) = 1
    ·rw [if_pos c14] at H; have c14b0 : ((l0.length : Int) == 1) = true := beq_iff_eq.mpr c14; have c14b1 : ((l0.length : Int) != 1) = false := bne_eq_false_iff_eq.mpr c14; clear c14
     (first | rw [c14b0] | (simp only [i64_w, i32_w]; rw [c14b0]) | skip)
     have H' := am H; clear H
     go_wp2
     go_meet
     case rel => exact ⟨_, (l0), H', ⟨by have := HJ1.out; first | omega | exact Nat.le_refl _⟩, ⟨vz HO_0.out⟩, ⟨bz⟩⟩
    rw [if_neg c14] at H; have c14b0 : ((l0.length : Int) == 1) = false := beq_eq_false_iff_ne.mpr c14; have c14b1 : ((l0.length : Int) != 1) = true := bne_iff_ne.mpr c14
    (first | rw [c14b0] | (simp only [i64_w, i32_w]; rw [c14b0]) | skip)
    simp only [Option.some.injEq, Prod.mk.injEq] at H; obtain ⟨rfl, rfl⟩ := H
    go_wp2
    (try simp only [Exit.then, Exit.inBlock]); refine HX.ret ?_
    go_ret2
    exact ⟨_, ez, by first | exact Kd.S_nil _ _ _ _ _ | exact Kd.N_nil _ _ _ _ _ | exact Kd.V_nil _ _ _ _ _ | exact Kd.Q_nil _ _ _ _ _ | exact Kd.R_nil _ _ _ _ _, bz⟩
   case rest =>
    clear HC9; (try clear c1); (try clear p1); (try clear q1); (try clear hx1); (try clear qi1); (try clear p2); (try clear c3); (try clear c3b0); (try clear c3b1); (try clear c4); (try clear c4b0); (try clear c4b1); (try clear c5); (try clear c5b0); (try clear c5b1); (try clear p6); (try clear c7); (try clear c7b0); (try clear c8); (try clear c8b0); (try clear c10); (try clear c11); (try clear c11b0); (try clear c11b1); (try clear p11); (try clear q11); (try clear hx11); (try clear qi11); (try clear c12); (try clear c12b0); (try clear c12b1); (try clear c13); (try clear q13); (try clear c14); (try clear c14b0); (try clear c14b1); (try clear hx118_0); (try clear hx118_1); (try clear hx119_0); (try clear hx119_1); (try clear p1); (try clear p118); (try clear p119); (try clear p2); (try clear p6); (try clear q1); (try clear q118); (try clear q119); (try clear q13); obtain ⟨kq, x0_8, HA, HJ8, HO_0, HB⟩ := hcut
    cases kq with
    | zero => exact absurd HA.out (by simp [show_Parse.j1])
    | succ kj8 =>
     have H := HA.out; clear HA; simp only [show_Parse.j1] at H; have H' := am H; clear H
     go_wp2
     subst hRL0; refine wp_label_seq ?_; refine HX.loop (l := 0) rfl (fun (kL : Nat) (aL : Act) (wL : World) => ∃ u1 u2 u3 u4 u5 u6 u7 u8 u9 u10 u11 u12 u13 u14 u15 u16 u17 u18 u19 u20 u21 u22 u23 u24 u25 u26 u27 u28 u29 u30 u31 u32 u33 u34 u35 u36 u37 u38 u39 u40 u41 u42 u43 u44 u45 u46 u47 u48 u49 u50 u51 u52 u53 u54 u55 u56 u57 u58 u59 u60 u61 u62 u63 u64 u65 : Value, (fun kq v4 v5 w' => ∃ (x4_3 : List (S40)) (x5_3 : Int), v5 = .int .i64 x5_3 ∧ Aside0 (show_Parse.l100 kq x0_8 x4_3 x5_3 = some (r1, r2)) ∧ Aside0 (kq ≤ kj8) ∧ Aside0 (Kd.V k24 24 w' w.heap.size (fun k_ => (P0_ k_ ∨ w.heap.size ≤ k_) ∧ some k_ ≠ (v4 : Value).ownBlock) u0 x0_8) ∧ Aside0 (Kd.S k40 40 w' w.heap.size (fun k_ => (w.heap.size ≤ k_)) v4 x4_3) ∧ Aside0 (Below w.heap.size w w')) kL u4 u5 wL ∧ aL = { tmps := #[u0, u1, u2, u3, u4, u5, u6, u7, u8, u9, u10, u11, u12, u13, u14, u15, u16, u17, u18, u19, u20, u21, u22, u23, u24, u25, u26, u27, u28, u29, u30, u31, u32, u33, u34, u35, u36, u37, u38, u39, u40, u41, u42, u43, u44, u45, u46, u47, u48, u49, u50, u51, u52, u53, u54, u55, u56, u57, u58, u59, u60, u61, u62, u63, u64, u65], defers := [] }) kj8 ?atStart ?round
     case atStart => ((repeat apply Exists.intro); refine ⟨?_, rfl⟩; exact ⟨(([] : List (S40))), (0), sz, H', ⟨Nat.le_refl _⟩, ⟨by (with_reducible repeat (first | apply Kd.V_alloc | apply Kd.V_drewN | apply Kd.V_drew)); exact Kd.V_mono HO_0.out (fun _ hk => ⟨hk, (by simp [Value.ownBlock])⟩)⟩, ⟨by first | exact Kd.S_nil _ _ _ _ _ | exact Kd.N_nil _ _ _ _ _ | exact Kd.V_nil _ _ _ _ _ | exact Kd.Q_nil _ _ _ _ _ | exact Kd.R_nil _ _ _ _ _⟩, ⟨bz⟩⟩)
     case round =>
      intro gk _ wr hinv; obtain ⟨u1, u2, u3, u4, u5, u6, u7, u8, u9, u10, u11, u12, u13, u14, u15, hq_0⟩ := hinv; obtain ⟨u16, u17, u18, u19, u20, u21, u22, u23, u24, u25, u26, u27, u28, u29, u30, hq_15⟩ := hq_0; obtain ⟨u31, u32, u33, u34, u35, u36, u37, u38, u39, u40, u41, u42, u43, u44, u45, hq_30⟩ := hq_15; obtain ⟨u46, u47, u48, u49, u50, u51, u52, u53, u54, u55, u56, u57, u58, u59, u60, hq_45⟩ := hq_30; obtain ⟨u61, u62, u63, u64, u65, hq_60⟩ := hq_45; obtain ⟨hrel, ha⟩ := hq_60; subst ha
      try dsimp only
      clear HX; intro _ X _ HX; clear H'; (try clear c1); (try clear p1); (try clear q1); (try clear hx1); (try clear qi1); (try clear p2); (try clear c3); (try clear c3b0); (try clear c3b1); (try clear c4); (try clear c4b0); (try clear c4b1); (try clear c5); (try clear c5b0); (try clear c5b1); (try clear p6); (try clear c7); (try clear c7b0); (try clear c8); (try clear c8b0); (try clear c10); (try clear c11); (try clear c11b0); (try clear c11b1); (try clear p11); (try clear q11); (try clear hx11); (try clear qi11); (try clear c12); (try clear c12b0); (try clear c12b1); (try clear c13); (try clear q13); (try clear c14); (try clear c14b0); (try clear c14b1); (try clear hx118_0); (try clear hx118_1); (try clear hx119_0); (try clear hx119_1); (try clear p1); (try clear p11); (try clear p118); (try clear p119); (try clear p2); (try clear p6); (try clear q1); (try clear q11); (try clear q118); (try clear q119); (try clear q13); obtain ⟨x4_3, x5_3, rfl, HA, HK3, HO_0, HO_4, HB⟩ := hrel
      cases gk with
      | zero => exact absurd HA.out (by simp [show_Parse.l100])
      | succ k3 =>
       have H := HA.out; clear HA; simp only [show_Parse.l100] at H
       by_cases c15 : x5_3 ≥ (x0_8.length : Int)
       ·rw [if_pos c15] at H; have c15b0 : decide ((x0_8.length : Int) ≤ x5_3) = true := decide_eq_true c15; clear c15; simp only [Option.some.injEq, Prod.mk.injEq] at H; obtain ⟨rfl, rfl⟩ := H; obtain ⟨Ao16, co16, eo16⟩ := Kd.V_slice HO_0.out; subst eo16
        go_wp2
        (try simp only [Exit.then, Exit.inBlock]); refine HX.ret ?_
        go_ret2
        exact ⟨_, ez, by (with_reducible repeat (first | apply Kd.S_alloc | apply Kd.S_drewN | apply Kd.S_drew)); exact HO_4.out, bz⟩
       rw [if_neg c15] at H; have c15b0 : decide ((x0_8.length : Int) ≤ x5_3) = false := decide_eq_false c15; clear c15
       by_cases c17 : 0 ≤ x5_3
       ·rw [if_pos c17] at H; have c17b0 : decide (0 ≤ x5_3) = true := decide_eq_true c17; clear c17
        by_cases c18 : x5_3 < (x0_8.length : Int)
        ·rw [if_pos c18] at H; have c18b0 : decide (x5_3 < (x0_8.length : Int)) = true := decide_eq_true c18; clear c18; replace H := Option.bind_eq_some_iff.mp H; obtain ⟨⟨t126, t127, t130⟩, A190, H⟩ := H; (try dsimp only at H); have A19 := am A190; clear A190
         by_cases c20 : t130 = true
         ·subst c20
          have H1 : (if ((rd_T24 x0_8 x5_3).f0) = 1 then (if x4_3.length < 4398046511104 then (show_Parse.l100 k3 x0_8 (x4_3 ++ [(⟨t126, t127⟩ : S40)]) (wrap64 (x5_3 + 1))) else (none)) else (some (([] : List (S40)), 3))) = some (r1, r2) := by rw [if_pos rfl] at H; exact H
          clear H; have H := H1; clear H1
          by_cases c21 : ((rd_T24 x0_8 x5_3).f0) = 1
          ·rw [if_pos c21] at H; have c21b0 : (((rd_T24 x0_8 x5_3).f0) == 1) = true := beq_iff_eq.mpr c21; have c21b1 : (((rd_T24 x0_8 x5_3).f0) != 1) = false := bne_eq_false_iff_eq.mpr c21; clear c21
           by_cases c22 : x4_3.length < 4398046511104
           ·rw [if_pos c22] at H; have LMc22 := am c22; clear c22; obtain ⟨y133, hy133⟩ : ∃ y_ : List (S40), y_ = (x4_3 ++ [(⟨t126, t127⟩ : S40)]) := ⟨_, rfl⟩
            replace H : (show_Parse.l100 k3 x0_8 y133 (wrap64 (x5_3 + 1))) = some (r1, r2) := by first | (rw [hy133]; with_reducible exact H) | (have H2_ := (Option.bind_some _ _).symm.trans H; rw [hy133]; with_reducible exact H2_) | (have H2_ := (Option.bind_some _ _).symm.trans H; with_reducible exact H2_) | with_reducible exact H | (rw [hy133]; exact H) | exact H
            have Ny133 := am hy133; clear hy133; have H' := am H; clear H; obtain ⟨Ao23, co23, eo23⟩ := Kd.V_slice HO_0.out; subst eo23; have p125 : 0 ≤ (x5_3 : Int) := of_decide_eq_true az; have q125 : x5_3 < (x0_8.length : Int) := of_decide_eq_true az; obtain ⟨ad125, e125, hx125_0, hx125_1⟩ := at_T24 (Kd.V_reads' HO_0.out).2.2 x5_3 p125 q125
            cases e125
            replace p125 := eq_true p125; replace q125 := eq_true q125
            go_wp2_with (first | ((with_reducible refine gate_callee (f := 15) rfl ?_); refine goesL_ (some 47) rfl rfl Tryz.func15 (by kernel_rfl) rfl #[.string ((rd_T24 x0_8 x5_3).f1)] rfl mz ?_; (with_reducible refine (show_item.calls k3 ((rd_T24 x0_8 x5_3).f1) t126 t127 true _ A19.out).mono ?_); rintro e w24 ⟨v128, rfl, ho0, hb⟩; refine ⟨_, rfl, ?_⟩; have n0_ := am (Kd.V_elder' (vz HO_0.out) (Kd.R_base ho0) hb); have n1_ := am (Kd.S_elder' (by (with_reducible repeat (first | apply Kd.S_alloc | apply Kd.S_drewN | apply Kd.S_drew)); exact HO_4.out) (Kd.R_base ho0) hb); have n2_ := am (Kd.R_lower (Kd.R_newM (M := fun k_ => (w.heap.size ≤ k_)) ho0 (below_size bz) (fun k_ h_ => h_)) (below_size bz)); have n3_ := am (below_step bz hb); clear HO_0 HO_4 HB; have HO_0 := n0_; have HO_4 := n1_; have HO129 := n2_; have HB := n3_; clear n0_ n1_ n2_ n3_; (try clear hb); (try clear hb2); (try clear hk); (try clear hi); (try clear ho0)) | ((with_reducible refine gate_dst (N := 6) rfl ?_); (try (refine gate_guard (by rfl) ?_; dsimp only)); refine box_event ?hg (N := 6) ?hd (cs := #[.int .i64 0, .slice none 0 0]) (t := 40) ?hr ?_; (case hd => rfl); (case hg => rfl); (case hr => first | (go_simp; done) | (go_simp; rfl)); intro gb131 hg w25 hbox hb; have hne_ : ad125.block ≠ gb131 := (by obtain ⟨adq, eq_, hq0, hq1⟩ := at_T24 (Kd.V_reads' HO_0.out).2.2 x5_3 (of_eq_true p125) (of_eq_true q125); obtain rfl : ad125 = adq := (by injection eq_); have h_ := World.block_lt_of_cell? _ _ hq0; rw [add_block] at h_; rw [hg]; exact Nat.ne_of_lt h_); have n0_ := am (Kd.V_below (Kd.V_elderB (vz HO_0.out) gb131 (Nat.le_of_eq hg.symm)) hb); have n1_ := am (Kd.S_below (Kd.S_elderB (by (with_reducible repeat (first | apply Kd.S_alloc | apply Kd.S_drewN | apply Kd.S_drew)); exact HO_4.out) gb131 (Nat.le_of_eq hg.symm)) hb); have n2_ := am (rx HO129.out hb); have n3_ := am (below_step bz hb); have n4_ := am (hbox); have n5_ := am ((by rw [hg]; exact (below_size bz) : w.heap.size ≤ gb131)); have n6_ := am ((by rw [hg]; exact (below_size bz) : w.heap.size ≤ gb131)); clear HO_0 HO_4 HO129 HB; have HO_0 := n0_; have HO_4 := n1_; have HO129 := n2_; have HB := n3_; have BK131 := n4_; have GW131 := n5_; have GE131 := n6_; clear n0_ n1_ n2_ n3_ n4_ n5_ n6_; clear hb hbox hg; have hcz26_0 : w25.cell? ⟨gb131, 0, none⟩ = some (.int .i64 0) := (blk_cell BK131.out 0).trans rfl; have hcz26_1 : w25.cell? ⟨gb131, 1, none⟩ = some (.slice none 0 0) := (blk_cell BK131.out 1).trans rfl; have hfz26_0 := blk_frozen BK131.out 0; have hfz26_1 := blk_frozen BK131.out 1; obtain ⟨Ao27, co27, eo27⟩ := Kd.R_slice HO129.out; subst eo27) | ((with_reducible refine gate_store (t := 40) (p := 6) rfl ?_); refine store_event (t := 40) (p := 6) (v := ?vo_w28) (w1 := ((w25.setCell ⟨gb131, 0, none⟩ (.int .i64 t126)).setCell ⟨gb131, 1, none⟩ (.slice Ao27 t127.length co27))) ?hg ?ho ?hn ?hr ?_; (case ho => rfl); (case hg => rfl); (case hn => rfl); (case hr => first | (go_simp; done) | (go_simp; rfl)); intro w28 hw; have n0_ : Aside0 (Kd.V k24 24 w28 w.heap.size (fun k_ => (P0_ k_ ∨ w.heap.size ≤ k_) ∧ some k_ ≠ (u4 : Value).ownBlock ∧ some k_ ≠ (.slice Ao27 t127.length co27 : Value).ownBlock ∧ k_ ≠ gb131) (.slice (some ad125) x0_8.length co23) x0_8) := ⟨(by rw [hw]; exact (by (with_reducible repeat (first | apply Kd.V_alloc | apply Kd.V_drewN | apply Kd.V_drew)); exact Kd.V_mono (Kd.V_far (p := ⟨gb131, 1, none⟩) (Kd.V_far (p := ⟨gb131, 0, none⟩) (Kd.V_mono HO_0.out (fun k_ hk => (⟨hk, hk.2⟩ : _ ∧ k_ ≠ gb131))) (fun _ hk => hk.2) (.int .i64 t126)) (fun _ hk => hk.2) (.slice Ao27 t127.length co27)) (fun _ hk => ⟨hk.1.1.1.1, ⟨hk.1.1.1.2, ⟨hk.1.1.2, hk.1.2⟩⟩⟩)))⟩; have n1_ : Aside0 (Kd.S k40 40 w28 w.heap.size (fun k_ => (w.heap.size ≤ k_) ∧ some k_ ≠ (.slice Ao27 t127.length co27 : Value).ownBlock ∧ k_ ≠ gb131) u4 x4_3) := ⟨(by rw [hw]; exact (by (with_reducible repeat (first | apply Kd.S_alloc | apply Kd.S_drewN | apply Kd.S_drew)); exact Kd.S_mono (Kd.S_far (p := ⟨gb131, 1, none⟩) (Kd.S_far (p := ⟨gb131, 0, none⟩) (Kd.S_mono HO_4.out (fun k_ hk => (⟨hk, hk.2⟩ : _ ∧ k_ ≠ gb131))) (fun _ hk => hk.2) (.int .i64 t126)) (fun _ hk => hk.2) (.slice Ao27 t127.length co27)) (fun _ hk => ⟨hk.1.1.1, ⟨hk.1.1.2, hk.1.2⟩⟩)))⟩; have n2_ : Aside0 (Kd.R (Kd.int .i64) 3 w28 w.heap.size (fun k_ => (w.heap.size ≤ k_)) (.slice Ao27 t127.length co27) t127) := ⟨(by rw [hw]; exact (by (with_reducible repeat first | apply rA | apply rN | apply rD); exact Kd.R_mono (Kd.R_far (p := ⟨gb131, 1, none⟩) (Kd.R_far (p := ⟨gb131, 0, none⟩) (Kd.R_types HO129.out BK131.out (by decide)) (fun _ hk => hk.2) (.int .i64 t126)) (fun _ hk => hk.2) (.slice Ao27 t127.length co27)) (fun _ hk => hk.1.1)))⟩; have n3_ : Aside0 (w28.heap[gb131]? = some (.cells #[.int .i64 t126, .slice Ao27 t127.length co27] 40 (0, 0))) := ⟨(by rw [hw]; exact (by (with_reducible repeat first | refine kN ?_ _ | refine kD ?_ | refine kA ?_ _); refine blk_put (cs := #[.int .i64 t126, .slice none 0 0]) ?_ 1 _ rfl; (with_reducible repeat first | refine kN ?_ _ | refine kD ?_ | refine kA ?_ _); refine blk_put (cs := #[.int .i64 0, .slice none 0 0]) ?_ 0 _ rfl; (with_reducible repeat first | refine kN ?_ _ | refine kD ?_ | refine kA ?_ _); exact BK131.out))⟩; have n4_ : Aside0 (Below w.heap.size w w28) := ⟨(by rw [hw]; exact (by repeat (first | (with_reducible first | exact HB.out | apply bA | apply bN | apply bD | refine below_set ?_ GE131.out) | exact HB.out)))⟩; clear hw HO_0 HO_4 HO129 BK131 HB; have HO_0 := n0_; have HO_4 := n1_; have HO129 := n2_; have BK131 := n3_; have HB := n4_; clear n0_ n1_ n2_ n3_ n4_; have p132 : 0 ≤ (x5_3 : Int) := of_decide_eq_true az; have q132 : x5_3 < (x0_8.length : Int) := of_decide_eq_true az; obtain ⟨ad132, e132, hx132_0, hx132_1⟩ := at_T24 (Kd.V_reads' HO_0.out).2.2 x5_3 p132 q132; obtain rfl : ad125 = ad132 := (by injection e132); replace p132 := eq_true p132; replace q132 := eq_true q132; have hcz29_0 : w28.cell? ⟨gb131, 0, none⟩ = some (.int .i64 t126) := (blk_cell BK131.out 0).trans rfl; have hcz29_1 : w28.cell? ⟨gb131, 1, none⟩ = some (.slice Ao27 t127.length co27) := (blk_cell BK131.out 1).trans rfl; have hfz29_0 := blk_frozen BK131.out 0; have hfz29_1 := blk_frozen BK131.out 1) | ((with_reducible refine gate_builtin (b := .append) (xs := #[.tmp 60, .tmp 62]) rfl ?_); (try (refine gate_guard (by rfl) ?_; dsimp only)); at_builtin; refine Kd.S_append k40 (w0 := w) w.heap.size rfl (.tmp 60) (.tmp 62) 25 40 (.agg #[(.int .i64 0), (.slice none 0 0)]) 32 rfl Tryz.underlying25 info40 rfl (by decide) (by omega) u4 x4_3 (⟨t126, t127⟩ : S40) [.int .i64 t126, .slice Ao27 t127.length co27] (fun k_ => (w.heap.size ≤ k_) ∧ k_ ≠ gb131) (fun k_ => some k_ = (.slice Ao27 t127.length co27 : Value).ownBlock) rfl rfl ?aP (fun k_ hk_ => ((Kd.R_mono (ok' := fun k_ => ((fun k_ => (w.heap.size ≤ k_) ∧ k_ ≠ gb131)) k_ ∧ some k_ ≠ (u4 : Value).ownBlock) (Kd.R_types (Kd.R_apart' (HO129.out) (Kd.S_typed HO_4.out) (by decide)) BK131.out (by decide)) (fun k_ hk => ⟨⟨hk.1.1, hk.2⟩, hk.1.2⟩))).1 k_ hk_.symm) ?aF ?aO ?aB ?aS ?aL ?_; (case aP => exact k40_mkM _ _ _ (⟨t126, t127⟩ : S40) (Kd.R_mono (Kd.R_tight rfl (Kd.R_mono (ok' := fun k_ => ((fun k_ => (w.heap.size ≤ k_) ∧ k_ ≠ gb131)) k_ ∧ some k_ ≠ (u4 : Value).ownBlock) (Kd.R_types (Kd.R_apart' (HO129.out) (Kd.S_typed HO_4.out) (by decide)) BK131.out (by decide)) (fun k_ hk => ⟨⟨hk.1.1, hk.2⟩, hk.1.2⟩))) (fun _ h_ => h_))); (case aB => exact (by repeat (first | (with_reducible first | exact HB.out | apply bA | apply bN | apply bD | refine below_set ?_ GE131.out) | exact HB.out))); (case aF => exact (fun k_ hk => ⟨(Nat.le_trans (below_size (by repeat (first | (with_reducible first | exact HB.out | apply bA | apply bN | apply bD | refine below_set ?_ GE131.out) | exact HB.out))) hk), Kd.freshB (g := gb131) (o := .cells #[.int .i64 t126, .slice Ao27 t127.length co27] 40 (0, 0)) (by (with_reducible repeat first | refine kN ?_ _ | refine kD ?_ | refine kA ?_ _); exact BK131.out) k_ hk⟩)); (case aO => exact (by (with_reducible repeat (first | apply Kd.S_alloc | apply Kd.S_drewN | apply Kd.S_drew)); exact Kd.S_mono HO_4.out (fun k_ hk => ⟨⟨hk.1, hk.2.2⟩, fun e_ => hk.2.1 e_⟩))); (case aS => exact (below_size (by repeat (first | (with_reducible first | exact HB.out | apply bA | apply bN | apply bD | refine below_set ?_ GE131.out) | exact HB.out)))); (case aL => have := LMc22.out; omega); intro v134 w30 ho hb hg hat; (first | rw [← Ny133.out] at ho | (simp only [Int.reduceToNat] at ho; rw [← Ny133.out] at ho)); have n0_ := am (Kd.V_afterv (ok := (fun k_ => (P0_ k_ ∨ w.heap.size ≤ k_) ∧ some k_ ≠ (.slice Ao27 t127.length co27 : Value).ownBlock ∧ k_ ≠ gb131)) (by (with_reducible repeat (first | apply Kd.V_alloc | apply Kd.V_drewN | apply Kd.V_drew)); exact Kd.V_mono HO_0.out (fun _ hk => ⟨⟨hk.1, ⟨hk.2.2.1, hk.2.2.2⟩⟩, hk.2.1⟩)) hg hat); have n1_ := am (blk_grown (g := gb131) (o := .cells #[.int .i64 t126, .slice Ao27 t127.length co27] 40 (0, 0)) (by (with_reducible repeat first | refine kN ?_ _ | refine kD ?_ | refine kA ?_ _); exact BK131.out) hg (Kd.S_away HO_4.out (fun _ hk => hk.2.2))); have n2_ := am (hb); have n3_ := am (ho); clear HO_0 BK131 HB HO_4 HO129; have HO_0 := n0_; have BK131 := n1_; have HB := n2_; have HO135 := n3_; clear n0_ n1_ n2_ n3_; clear ho hb hg hat))
            go_step3
            (try simp only [Exit.then, Exit.inBlock]); refine HX.again ?_
            go_roundg k3
            case measure => have := HJ1.out; have := HJ8.out; have := HK3.out; omega
            case rel => exact ⟨(y133), (wrap64 (x5_3 + 1)), sz, H', ⟨by have := HJ1.out; have := HJ8.out; have := HK3.out; omega⟩, ⟨by (with_reducible repeat (first | apply Kd.V_alloc | apply Kd.V_drewN | apply Kd.V_drew)); exact Kd.V_mono HO_0.out (fun _ hk => ⟨hk.1.1, hk.2⟩)⟩, ⟨by (with_reducible repeat (first | apply Kd.S_alloc | apply Kd.S_drewN | apply Kd.S_drew)); exact Kd.S_mono HO135.out (fun _ hk => hk.1)⟩, ⟨by repeat (first | (with_reducible first | exact HB.out | apply bA | apply bN | apply bD | refine below_set ?_ GE131.out) | exact HB.out)⟩⟩
           rw [if_neg c22] at H
           exact absurd H (by simp)
          rw [if_neg c21] at H; have c21b0 : (((rd_T24 x0_8 x5_3).f0) == 1) = false := beq_eq_false_iff_ne.mpr c21; have c21b1 : (((rd_T24 x0_8 x5_3).f0) != 1) = true := bne_iff_ne.mpr c21; simp only [Option.some.injEq, Prod.mk.injEq] at H; obtain ⟨rfl, rfl⟩ := H; obtain ⟨Ao31, co31, eo31⟩ := Kd.V_slice HO_0.out; subst eo31; have p125 : 0 ≤ (x5_3 : Int) := of_decide_eq_true az; have q125 : x5_3 < (x0_8.length : Int) := of_decide_eq_true az; obtain ⟨ad125, e125, hx125_0, hx125_1⟩ := at_T24 (Kd.V_reads' HO_0.out).2.2 x5_3 p125 q125
          cases e125
          replace p125 := eq_true p125; replace q125 := eq_true q125
          go_wp2_with (first | ((with_reducible refine gate_callee (f := 15) rfl ?_); refine goesL_ (some 47) rfl rfl Tryz.func15 (by kernel_rfl) rfl #[.string ((rd_T24 x0_8 x5_3).f1)] rfl mz ?_; (with_reducible refine (show_item.calls k3 ((rd_T24 x0_8 x5_3).f1) t126 t127 true _ A19.out).mono ?_); rintro e w32 ⟨v128, rfl, ho0, hb⟩; refine ⟨_, rfl, ?_⟩; have n0_ := am (Kd.V_elder' (vz HO_0.out) (Kd.R_base ho0) hb); have n1_ := am (Kd.S_elder' (by (with_reducible repeat (first | apply Kd.S_alloc | apply Kd.S_drewN | apply Kd.S_drew)); exact HO_4.out) (Kd.R_base ho0) hb); have n2_ := am (Kd.R_lower (Kd.R_newM (M := fun k_ => (w.heap.size ≤ k_)) ho0 (below_size bz) (fun k_ h_ => h_)) (below_size bz)); have n3_ := am (below_step bz hb); clear HO_0 HO_4 HB; have HO_0 := n0_; have HO_4 := n1_; have HO129 := n2_; have HB := n3_; clear n0_ n1_ n2_ n3_; (try clear hb); (try clear hb2); (try clear hk); (try clear hi); (try clear ho0)) | ((with_reducible refine gate_dst (N := 6) rfl ?_); (try (refine gate_guard (by rfl) ?_; dsimp only)); refine box_event ?hg (N := 6) ?hd (cs := #[.int .i64 0, .slice none 0 0]) (t := 40) ?hr ?_; (case hd => rfl); (case hg => rfl); (case hr => first | (go_simp; done) | (go_simp; rfl)); intro gb131 hg w33 hbox hb; have hne_ : ad125.block ≠ gb131 := (by obtain ⟨adq, eq_, hq0, hq1⟩ := at_T24 (Kd.V_reads' HO_0.out).2.2 x5_3 (of_eq_true p125) (of_eq_true q125); obtain rfl : ad125 = adq := (by injection eq_); have h_ := World.block_lt_of_cell? _ _ hq0; rw [add_block] at h_; rw [hg]; exact Nat.ne_of_lt h_); have n0_ := am (Kd.V_below (Kd.V_elderB (vz HO_0.out) gb131 (Nat.le_of_eq hg.symm)) hb); have n1_ := am (Kd.S_below (Kd.S_elderB (by (with_reducible repeat (first | apply Kd.S_alloc | apply Kd.S_drewN | apply Kd.S_drew)); exact HO_4.out) gb131 (Nat.le_of_eq hg.symm)) hb); have n2_ := am (rx HO129.out hb); have n3_ := am (below_step bz hb); have n4_ := am (hbox); have n5_ := am ((by rw [hg]; exact (below_size bz) : w.heap.size ≤ gb131)); have n6_ := am ((by rw [hg]; exact (below_size bz) : w.heap.size ≤ gb131)); clear HO_0 HO_4 HO129 HB; have HO_0 := n0_; have HO_4 := n1_; have HO129 := n2_; have HB := n3_; have BK131 := n4_; have GW131 := n5_; have GE131 := n6_; clear n0_ n1_ n2_ n3_ n4_ n5_ n6_; clear hb hbox hg; have hcz34_0 : w33.cell? ⟨gb131, 0, none⟩ = some (.int .i64 0) := (blk_cell BK131.out 0).trans rfl; have hcz34_1 : w33.cell? ⟨gb131, 1, none⟩ = some (.slice none 0 0) := (blk_cell BK131.out 1).trans rfl; have hfz34_0 := blk_frozen BK131.out 0; have hfz34_1 := blk_frozen BK131.out 1; obtain ⟨Ao35, co35, eo35⟩ := Kd.R_slice HO129.out; subst eo35; have p132 : 0 ≤ (x5_3 : Int) := of_decide_eq_true az; have q132 : x5_3 < (x0_8.length : Int) := of_decide_eq_true az; obtain ⟨ad132, e132, hx132_0, hx132_1⟩ := at_T24 (Kd.V_reads' HO_0.out).2.2 x5_3 p132 q132; obtain rfl : ad125 = ad132 := (by injection e132); have hn132_0 : ad125.block ≠ gb131 := hne_; have hn132_1 : ad125.block ≠ gb131 := hne_; replace hx132_0 := (cell_far (p := ⟨gb131, 0, none⟩) (by first | (rw [add_block]; exact hn132_0) | (show (Addr.add _ _).block ≠ _; rw [add_block]; exact hn132_0) | exact hn132_0) (.int .i64 t126)).trans hx132_0; replace hx132_1 := (cell_far (p := ⟨gb131, 0, none⟩) (by first | (rw [add_block]; exact hn132_0) | (show (Addr.add _ _).block ≠ _; rw [add_block]; exact hn132_0) | exact hn132_0) (.int .i64 t126)).trans hx132_1; replace hx132_0 := (cell_far (p := ⟨gb131, 1, none⟩) (by first | (rw [add_block]; exact hn132_1) | (show (Addr.add _ _).block ≠ _; rw [add_block]; exact hn132_1) | exact hn132_1) (.slice Ao35 t127.length co35)).trans hx132_0; replace hx132_1 := (cell_far (p := ⟨gb131, 1, none⟩) (by first | (rw [add_block]; exact hn132_1) | (show (Addr.add _ _).block ≠ _; rw [add_block]; exact hn132_1) | exact hn132_1) (.slice Ao35 t127.length co35)).trans hx132_1; clear hn132_0 hn132_1; replace p132 := eq_true p132; replace q132 := eq_true q132))
          (try simp only [Exit.then, Exit.inBlock]); refine HX.ret ?_
          go_ret2
          exact ⟨_, ez, by first | exact Kd.S_nil _ _ _ _ _ | exact Kd.N_nil _ _ _ _ _ | exact Kd.V_nil _ _ _ _ _ | exact Kd.Q_nil _ _ _ _ _ | exact Kd.R_nil _ _ _ _ _, by repeat (first | (with_reducible first | exact HB.out | apply bA | apply bN | apply bD | refine below_set ?_ GE131.out) | exact HB.out)⟩
         replace c20 := Bool.eq_false_iff.mpr c20; subst c20
         have H1 : (some (([] : List (S40)), 3)) = some (r1, r2) := by rw [if_neg (show ¬ (false = true) by decide)] at H; exact H
         clear H; have H := H1; clear H1; simp only [Option.some.injEq, Prod.mk.injEq] at H; obtain ⟨rfl, rfl⟩ := H; obtain ⟨Ao36, co36, eo36⟩ := Kd.V_slice HO_0.out; subst eo36; have p125 : 0 ≤ (x5_3 : Int) := of_decide_eq_true az; have q125 : x5_3 < (x0_8.length : Int) := of_decide_eq_true az; obtain ⟨ad125, e125, hx125_0, hx125_1⟩ := at_T24 (Kd.V_reads' HO_0.out).2.2 x5_3 p125 q125
         cases e125
         replace p125 := eq_true p125; replace q125 := eq_true q125
         go_wp2_with (first | ((with_reducible refine gate_callee (f := 15) rfl ?_); refine goesL_ (some 47) rfl rfl Tryz.func15 (by kernel_rfl) rfl #[.string ((rd_T24 x0_8 x5_3).f1)] rfl mz ?_; (with_reducible refine (show_item.calls k3 ((rd_T24 x0_8 x5_3).f1) t126 t127 false _ A19.out).mono ?_); rintro e w37 ⟨v128, rfl, ho0, hb⟩; refine ⟨_, rfl, ?_⟩; have n0_ := am (Kd.V_elder' (vz HO_0.out) (Kd.R_base ho0) hb); have n1_ := am (Kd.S_elder' (by (with_reducible repeat (first | apply Kd.S_alloc | apply Kd.S_drewN | apply Kd.S_drew)); exact HO_4.out) (Kd.R_base ho0) hb); have n2_ := am (Kd.R_lower (Kd.R_newM (M := fun k_ => (w.heap.size ≤ k_)) ho0 (below_size bz) (fun k_ h_ => h_)) (below_size bz)); have n3_ := am (below_step bz hb); clear HO_0 HO_4 HB; have HO_0 := n0_; have HO_4 := n1_; have HO129 := n2_; have HB := n3_; clear n0_ n1_ n2_ n3_; (try clear hb); (try clear hb2); (try clear hk); (try clear hi); (try clear ho0)) | ((with_reducible refine gate_dst (N := 6) rfl ?_); (try (refine gate_guard (by rfl) ?_; dsimp only)); refine box_event ?hg (N := 6) ?hd (cs := #[.int .i64 0, .slice none 0 0]) (t := 40) ?hr ?_; (case hd => rfl); (case hg => rfl); (case hr => first | (go_simp; done) | (go_simp; rfl)); intro gb131 hg w38 hbox hb; have hne_ : ad125.block ≠ gb131 := (by obtain ⟨adq, eq_, hq0, hq1⟩ := at_T24 (Kd.V_reads' HO_0.out).2.2 x5_3 (of_eq_true p125) (of_eq_true q125); obtain rfl : ad125 = adq := (by injection eq_); have h_ := World.block_lt_of_cell? _ _ hq0; rw [add_block] at h_; rw [hg]; exact Nat.ne_of_lt h_); have n0_ := am (Kd.V_below (Kd.V_elderB (vz HO_0.out) gb131 (Nat.le_of_eq hg.symm)) hb); have n1_ := am (Kd.S_below (Kd.S_elderB (by (with_reducible repeat (first | apply Kd.S_alloc | apply Kd.S_drewN | apply Kd.S_drew)); exact HO_4.out) gb131 (Nat.le_of_eq hg.symm)) hb); have n2_ := am (rx HO129.out hb); have n3_ := am (below_step bz hb); have n4_ := am (hbox); have n5_ := am ((by rw [hg]; exact (below_size bz) : w.heap.size ≤ gb131)); have n6_ := am ((by rw [hg]; exact (below_size bz) : w.heap.size ≤ gb131)); clear HO_0 HO_4 HO129 HB; have HO_0 := n0_; have HO_4 := n1_; have HO129 := n2_; have HB := n3_; have BK131 := n4_; have GW131 := n5_; have GE131 := n6_; clear n0_ n1_ n2_ n3_ n4_ n5_ n6_; clear hb hbox hg; have hcz39_0 : w38.cell? ⟨gb131, 0, none⟩ = some (.int .i64 0) := (blk_cell BK131.out 0).trans rfl; have hcz39_1 : w38.cell? ⟨gb131, 1, none⟩ = some (.slice none 0 0) := (blk_cell BK131.out 1).trans rfl; have hfz39_0 := blk_frozen BK131.out 0; have hfz39_1 := blk_frozen BK131.out 1; obtain ⟨Ao40, co40, eo40⟩ := Kd.R_slice HO129.out; subst eo40))
         (try simp only [Exit.then, Exit.inBlock]); refine HX.ret ?_
         go_ret2
         exact ⟨_, ez, by first | exact Kd.S_nil _ _ _ _ _ | exact Kd.N_nil _ _ _ _ _ | exact Kd.V_nil _ _ _ _ _ | exact Kd.Q_nil _ _ _ _ _ | exact Kd.R_nil _ _ _ _ _, by repeat (first | (with_reducible first | exact HB.out | apply bA | apply bN | apply bD | refine below_set ?_ GE131.out) | exact HB.out)⟩
        rw [if_neg c18] at H
        exact absurd H (by simp)
       rw [if_neg c17] at H
       exact absurd H (by simp)

-- GIVEN: function 17 (api_Item)

-- GIVEN: function 20 (strconv_Itoa)

/-! ### show_Literal: function 13 -/
def show_Literal.f (l0 : List Int) : Option (ByteArray) := (strconv_Itoa.f (l0.length : Int)).bind fun t136 => (if 1 + t136.size ≤ 9223372036854775807 then (if 1 + t136.size + 1 ≤ 9223372036854775807 then (if 1 + t136.size + 1 + 2 ≤ 9223372036854775807 then (if 1 + t136.size + 1 + 2 + (strOfNums l0).size ≤ 9223372036854775807 then (some (((((⟨#[123]⟩ : ByteArray) ++ t136) ++ (⟨#[125]⟩ : ByteArray)) ++ (⟨#[13, 10]⟩ : ByteArray)) ++ (strOfNums l0))) else (none)) else (none)) else (none)) else (none))
def show_Literal.T1 : Bool × List (List Nat × List Nat) := (true, [([], []), ([0], [0]), ([1], [1]), ([2], [2]), ([3], [3]), ([4], [4]), ([], []), ([6], [6]), ([5, 7], [5, 7]), ([8, 2, 0, 1, 2, 3, 4, 5, 6, 7, 8], [8])])
def show_Literal.B1 : List Nat := [0, 1, 3, 7, 15, 31, 0, 64, 255, 511]
theorem show_Literal.tab1 : rtab .any (opsOf Tryz.f13 1) = show_Literal.T1 := by kernel_rfl
theorem show_Literal.bits1 : waitsOk show_Literal.T1.2 show_Literal.B1 = true := by kernel_rfl
set_option maxHeartbeats 8000000 in
set_option maxRecDepth 100000 in
theorem show_Literal.calls (A0 : Option Addr) (c0 : Nat) (l0 : List Int) (r : ByteArray) (w : World) (hr0 : Kd.C (Kd.int .u8) w A0 l0.length l0) (hc0 : l0.length ≤ c0) (HL0 : Laid w) (h : show_Literal.f l0 = some r) :
  Calls Tryz.prog 13 #[.slice A0 l0.length c0] w fun e w' => e = .returned (.string r) ∧ Below w.heap.size w w' := by
 have HLd := am HL0; clear HL0; have HR0 := am hr0; have HC0 := am hc0; clear hr0 hc0; have HB := am (Below.refl w.heap.size w); have H : ((strconv_Itoa.f (l0.length : Int)).bind fun t136 => (if 1 + t136.size ≤ 9223372036854775807 then (if 1 + t136.size + 1 ≤ 9223372036854775807 then (if 1 + t136.size + 1 + 2 ≤ 9223372036854775807 then (if 1 + t136.size + 1 + 2 + (strOfNums l0).size ≤ 9223372036854775807 then (some (((((⟨#[123]⟩ : ByteArray) ++ t136) ++ (⟨#[125]⟩ : ByteArray)) ++ (⟨#[13, 10]⟩ : ByteArray)) ++ (strOfNums l0))) else (none)) else (none)) else (none)) else (none))) = some r := h; clear h; replace H := Option.bind_eq_some_iff.mp H; obtain ⟨t136, A20, H⟩ := H; (try dsimp only at H); have A2 := am A20; clear A20
 by_cases c3 : 1 + t136.size ≤ 9223372036854775807
 ·rw [if_pos c3] at H; have c3b0 := eq_true c3; have c3b1 : decide (1 + t136.size ≤ 9223372036854775807) = true := decide_eq_true c3
  try have c3b2 : (9223372036854775807 < 1 + t136.size) = False := eq_false (Nat.not_lt.2 c3)
  by_cases c4 : 1 + t136.size + 1 ≤ 9223372036854775807
  ·rw [if_pos c4] at H; have c4b0 := eq_true c4; have c4b1 : decide (1 + t136.size + 1 ≤ 9223372036854775807) = true := decide_eq_true c4
   try have c4b2 : (9223372036854775807 < 1 + t136.size + 1) = False := eq_false (Nat.not_lt.2 c4)
   by_cases c5 : 1 + t136.size + 1 + 2 ≤ 9223372036854775807
   ·rw [if_pos c5] at H; have c5b0 := eq_true c5; have c5b1 : decide (1 + t136.size + 1 + 2 ≤ 9223372036854775807) = true := decide_eq_true c5
    try have c5b2 : (9223372036854775807 < 1 + t136.size + 1 + 2) = False := eq_false (Nat.not_lt.2 c5)
    by_cases c6 : 1 + t136.size + 1 + 2 + (strOfNums l0).size ≤ 9223372036854775807
    ·rw [if_pos c6] at H; have c6b0 := eq_true c6; have c6b1 : decide (1 + t136.size + 1 + 2 + (strOfNums l0).size ≤ 9223372036854775807) = true := decide_eq_true c6
     try have c6b2 : (9223372036854775807 < 1 + t136.size + 1 + 2 + (strOfNums l0).size) = False := eq_false (Nat.not_lt.2 c6)
     obtain rfl := Option.some.inj H
     go_enter Tryz.func13, Tryz.ntmps13
     try go_wp2
     have n0_ := am (below_drew1 HB.out); clear HB; have HB := n0_; clear n0_; refine start_ (n := 10) (S := fun w' => (convert 34 9 (.slice A0 l0.length c0)).run Tryz.prog w' = .ok (.string (strOfNums l0)) w') (ds := []) #[false, false, false, false, false, false, false, false, false, false] (by kernel_rfl) rfl rfl (Kd.C_string (P := Tryz.prog) (A := A0) (c := c0) Tryz.underlying34 Tryz.underlying5 Tryz.underlying9 (Kd.C_below HR0.out HB.out)) (fun hHeld => ?_); refine with_tabW show_Literal.tab1 show_Literal.bits1 (fun HT_ HW_ => ?_); generalize w.drew = w7 at HB hHeld ⊢; refine pure_ (i := 0) (N := some 3) (v := ?_) (a' := ?_) #[true, false, false, false, false, false, false, false, false, false] rfl rfl (any_of HT_.out (by kernel_rfl)) (fun _ _ _ h => h) (Or.inl ⟨by rfl, ?_⟩) ?_ ?_; rotate_left
     ·intro w'; go_simp; with_reducible rfl
     rotate_left
     ·simp only [Act.put, List.setIfInBounds_toArray, List.set_cons_zero, List.set_cons_succ, i64_w, i32_w]; rfl
     refine pure_ (i := 1) (N := some 4) (v := ?_) (a' := ?_) #[true, true, false, false, false, false, false, false, false, false] rfl rfl (any_of HT_.out (by kernel_rfl)) (fun _ _ _ h => h) (Or.inl ⟨by rfl, ?_⟩) ?_ ?_; rotate_left
     ·intro w'; go_simp; with_reducible rfl
     rotate_left
     ·simp only [Act.put, List.setIfInBounds_toArray, List.set_cons_zero, List.set_cons_succ, i64_w, i32_w]; rfl
     refine pure_ (i := 6) (N := some 9) (v := ?_) (a' := ?_) #[true, true, false, false, false, false, true, false, false, false] rfl rfl (any_of HT_.out (by kernel_rfl)) (fun _ _ _ h => h) (Or.inl ⟨by rfl, ?_⟩) ?_ ?_; rotate_left
     ·intro w'; go_simp; with_reducible rfl
     rotate_left
     ·simp only [Act.put, List.setIfInBounds_toArray, List.set_cons_zero, List.set_cons_succ, i64_w, i32_w]; rfl
     refine take_ (i := 7) (N := some 10) (v := ?_) (a' := ?_) #[true, true, false, false, false, false, true, true, false, false] rfl rfl (take_ofW HT_.out HW_.out (by kernel_rfl)) (fun _ _ _ h => h) (Or.inl ⟨by rfl, ?_⟩) hHeld ?_ ?_; rotate_left
     ·intro w' hs_; go_simp; with_reducible rfl
     rotate_left
     ·simp only [Act.put, List.setIfInBounds_toArray, List.set_cons_zero, List.set_cons_succ, i64_w, i32_w]; rfl
     refine one_ (i := 2) (N := some 5) #[true, true, true, false, false, false, true, true, false, false] rfl rfl (one_of HT_.out (by kernel_rfl)) (by decide) (fun K hK => ?_); refine goes_ Tryz.func20 (by kernel_rfl) rfl #[.int .i64 (l0.length : Int)] (by rfl) rfl rfl mz ?_
     with_reducible refine (strconv_Itoa.calls (l0.length : Int) t136 _ (Laid.below HLd.out bz) A2.out).mono ?_; rintro e w8 ⟨rfl, hb⟩; refine ⟨_, rfl, ?_⟩; replace HB := am (below_step bz hb); (try clear hb); (try clear hb2); (try clear hk); (try clear hi); have hcv9 := Kd.C_string (P := Tryz.prog) (A := A0) (c := c0) Tryz.underlying34 Tryz.underlying5 Tryz.underlying9 (Kd.C_below HR0.out HB.out); refine hK.out _ _ (by first | exact (Kd.C_string (P := Tryz.prog) (A := A0) (c := c0) Tryz.underlying34 Tryz.underlying5 Tryz.underlying9 (Kd.C_below HR0.out HB.out)) | exact (Kd.C_string (P := Tryz.prog) (A := A0) (c := c0) Tryz.underlying34 Tryz.underlying5 Tryz.underlying9 (Kd.C_drewN (Kd.C_below HR0.out HB.out) _))) (fun hHeld => ?_); clear hK K; refine norm_ (a' := ?_) ?_ ?_; rotate_left
     ·show Act.put _ (some 5) _ = _
      simp only [Act.put, List.setIfInBounds_toArray, List.set_cons_zero, List.set_cons_succ, i64_w, i32_w]; rfl
     refine pure_ (i := 3) (N := some 6) (v := ?_) (a' := ?_) #[true, true, true, true, false, false, true, true, false, false] rfl rfl (any_of HT_.out (by kernel_rfl)) (fun _ _ _ h => h) (Or.inl ⟨by rfl, ?_⟩) ?_ ?_; rotate_left
     ·intro w'; go_simp; with_reducible rfl
     rotate_left
     ·simp only [Act.put, List.setIfInBounds_toArray, List.set_cons_zero, List.set_cons_succ, i64_w, i32_w]; rfl
     refine pure_ (i := 4) (N := some 7) (v := ?_) (a' := ?_) #[true, true, true, true, true, false, true, true, false, false] rfl rfl (any_of HT_.out (by kernel_rfl)) (fun _ _ _ h => h) (Or.inl ⟨by rfl, ?_⟩) ?_ ?_; rotate_left
     ·intro w'; go_simp; with_reducible rfl
     rotate_left
     ·simp only [Act.put, List.setIfInBounds_toArray, List.set_cons_zero, List.set_cons_succ, i64_w, i32_w]; rfl
     refine pure_ (i := 5) (N := some 8) (v := ?_) (a' := ?_) #[true, true, true, true, true, true, true, true, false, false] rfl rfl (any_of HT_.out (by kernel_rfl)) (fun _ _ _ h => h) (Or.inl ⟨by rfl, ?_⟩) ?_ ?_; rotate_left
     ·intro w'; go_simp; with_reducible rfl
     rotate_left
     ·simp only [Act.put, List.setIfInBounds_toArray, List.set_cons_zero, List.set_cons_succ, i64_w, i32_w]; rfl
     refine pure_ (i := 8) (N := some 11) (v := ?_) (a' := ?_) #[true, true, true, true, true, true, true, true, true, false] rfl rfl (any_of HT_.out (by kernel_rfl)) (fun _ _ _ h => h) (Or.inl ⟨by rfl, ?_⟩) ?_ ?_; rotate_left
     ·intro w'; go_simp; with_reducible rfl
     rotate_left
     ·simp only [Act.put, List.setIfInBounds_toArray, List.set_cons_zero, List.set_cons_succ, i64_w, i32_w]; rfl
     refine pure_ (i := 9) (N := some 2) (v := ?_) (a' := ?_) #[true, true, true, true, true, true, true, true, true, true] rfl rfl (any_of HT_.out (by kernel_rfl)) (fun _ _ _ h => h) (Or.inl ⟨by rfl, ?_⟩) ?_ ?_; rotate_left
     ·intro w'; go_simp; with_reducible rfl
     rotate_left
     ·simp only [Act.put, List.setIfInBounds_toArray, List.set_cons_zero, List.set_cons_succ, i64_w, i32_w]; rfl
     refine done_ (done_of HT_.out (by kernel_rfl)) ?_
     try go_wp2
     go_ret
     exact ⟨ez, bz⟩
    rw [if_neg c6] at H
    exact absurd H (by simp)
   rw [if_neg c5] at H
   exact absurd H (by simp)
  rw [if_neg c4] at H
  exact absurd H (by simp)
 rw [if_neg c3] at H
 exact absurd H (by simp)

-- GIVEN: function 21 (strings_Join)

/-! ### mark_names: function 46 -/
def mark_names.f  : Option (List ByteArray) := some (([(⟨#[92, 83, 101, 101, 110]⟩ : ByteArray), (⟨#[92, 65, 110, 115, 119, 101, 114, 101, 100]⟩ : ByteArray), (⟨#[92, 70, 108, 97, 103, 103, 101, 100]⟩ : ByteArray), (⟨#[92, 68, 101, 108, 101, 116, 101, 100]⟩ : ByteArray), (⟨#[92, 68, 114, 97, 102, 116]⟩ : ByteArray)] : List ByteArray))
set_option maxHeartbeats 8000000 in
set_option maxRecDepth 100000 in
theorem mark_names.calls  (r : List ByteArray) (w : World) (h : mark_names.f  = some r) :
  Calls Tryz.prog 46 #[] w fun e w' => ∃ v0_ : Value, e = .returned (v0_) ∧ Kd.R Kd.string 9 w' w.heap.size (fun _ => True) v0_ r ∧ Below w.heap.size w w' := by
 have HB := am (Below.refl w.heap.size w); have H : (some (([(⟨#[92, 83, 101, 101, 110]⟩ : ByteArray), (⟨#[92, 65, 110, 115, 119, 101, 114, 101, 100]⟩ : ByteArray), (⟨#[92, 70, 108, 97, 103, 103, 101, 100]⟩ : ByteArray), (⟨#[92, 68, 101, 108, 101, 116, 101, 100]⟩ : ByteArray), (⟨#[92, 68, 114, 97, 102, 116]⟩ : ByteArray)] : List ByteArray))) = some r := h; clear h; obtain ⟨y137, hy137⟩ : ∃ y_ : List ByteArray, y_ = (([(⟨#[92, 83, 101, 101, 110]⟩ : ByteArray), (⟨#[92, 65, 110, 115, 119, 101, 114, 101, 100]⟩ : ByteArray), (⟨#[92, 70, 108, 97, 103, 103, 101, 100]⟩ : ByteArray), (⟨#[92, 68, 101, 108, 101, 116, 101, 100]⟩ : ByteArray), (⟨#[92, 68, 114, 97, 102, 116]⟩ : ByteArray)] : List ByteArray)) := ⟨_, rfl⟩
 replace H : (some y137) = some r := by first | (rw [hy137]; with_reducible exact H) | (have H2_ := (Option.bind_some _ _).symm.trans H; rw [hy137]; with_reducible exact H2_) | (have H2_ := (Option.bind_some _ _).symm.trans H; with_reducible exact H2_) | with_reducible exact H | (rw [hy137]; exact H) | exact H
 have Ny137 := am hy137; clear hy137; obtain rfl := Option.some.inj H
 go_enter Tryz.func46, Tryz.ntmps46
 go_wp2_with (first | ((with_reducible refine gate_dst (N := 1) rfl ?_); refine Kd.R_lit Kd.string _ 9 ?hg (N := 1) ?hd (xs := ([(⟨#[92, 83, 101, 101, 110]⟩ : ByteArray), (⟨#[92, 65, 110, 115, 119, 101, 114, 101, 100]⟩ : ByteArray), (⟨#[92, 70, 108, 97, 103, 103, 101, 100]⟩ : ByteArray), (⟨#[92, 68, 101, 108, 101, 116, 101, 100]⟩ : ByteArray), (⟨#[92, 68, 114, 97, 102, 116]⟩ : ByteArray)] : List ByteArray)) (inner := [.string (⟨#[92, 83, 101, 101, 110]⟩ : ByteArray), .string (⟨#[92, 65, 110, 115, 119, 101, 114, 101, 100]⟩ : ByteArray), .string (⟨#[92, 70, 108, 97, 103, 103, 101, 100]⟩ : ByteArray), .string (⟨#[92, 68, 101, 108, 101, 116, 101, 100]⟩ : ByteArray), .string (⟨#[92, 68, 114, 97, 102, 116]⟩ : ByteArray)]) (ok := fun _ => True) (okp := fun _ => True) ?hr ?hp (fun _ hk => hk) trivial (Below.refl _ _) (Nat.le_refl _) (by simp) ?_; (case hd => rfl); (case hg => rfl); (case hr => first | (go_simp; done) | (go_simp; rfl)); (case hp => exact (Reps.one (show Kd.M Kd.string _ _ _ (⟨#[92, 83, 101, 101, 110]⟩ : ByteArray) [.string (⟨#[92, 83, 101, 101, 110]⟩ : ByteArray)] from rfl) (Reps.one (show Kd.M Kd.string _ _ _ (⟨#[92, 65, 110, 115, 119, 101, 114, 101, 100]⟩ : ByteArray) [.string (⟨#[92, 65, 110, 115, 119, 101, 114, 101, 100]⟩ : ByteArray)] from rfl) (Reps.one (show Kd.M Kd.string _ _ _ (⟨#[92, 70, 108, 97, 103, 103, 101, 100]⟩ : ByteArray) [.string (⟨#[92, 70, 108, 97, 103, 103, 101, 100]⟩ : ByteArray)] from rfl) (Reps.one (show Kd.M Kd.string _ _ _ (⟨#[92, 68, 101, 108, 101, 116, 101, 100]⟩ : ByteArray) [.string (⟨#[92, 68, 101, 108, 101, 116, 101, 100]⟩ : ByteArray)] from rfl) (Reps.one (show Kd.M Kd.string _ _ _ (⟨#[92, 68, 114, 97, 102, 116]⟩ : ByteArray) [.string (⟨#[92, 68, 114, 97, 102, 116]⟩ : ByteArray)] from rfl) (Reps.none _ _))))))); intro v138 w1 ho2 hb hg_ hnew_; clear hg_ hnew_; (first | rw [← Ny137.out] at ho2 | (simp only [Int.reduceToNat] at ho2; rw [← Ny137.out] at ho2)); have n0_ := am (Kd.R_lower ho2 (below_size bz)); have n1_ := am (below_step bz hb); clear HB; have HO139 := n0_; have HB := n1_; clear n0_ n1_; clear hb ho2))
 go_ret
 exact ⟨_, ez, rz HO139.out, bz⟩

/-! ### mark_Print: function 31 -/
def mark_Print.l0 : Nat → Int → List ByteArray → List ByteArray → Int → Int → Option (ByteArray)
 | 0, _, _, _, _, _ => none
 | k + 1, x0, x3, x6, x7, x8 => if x8 < x7 then (if 0 ≤ x8 then (if x8 < (x6.length : Int) then (if (Go.bits .and .i64 (shr .i64 x0 x8) 1) = 1 then (if x3.length < 8796093022208 then (mark_Print.l0 k x0 (x3 ++ [rdOf ByteArray.empty x6 x8]) x6 x7 (wrap64 (x8 + 1))) else (none)) else (mark_Print.l0 k x0 x3 x6 x7 (wrap64 (x8 + 1)))) else (none)) else (none)) else ((strings_Join.f x3 (⟨#[32]⟩ : ByteArray)).bind fun t147 => (if 1 + t147.size ≤ 9223372036854775807 then (if 1 + t147.size + 1 ≤ 9223372036854775807 then (some (((⟨#[40]⟩ : ByteArray) ++ t147) ++ (⟨#[41]⟩ : ByteArray))) else (none)) else (none)))
def mark_Print.f (k : Nat) (a0 : Int) : Option (ByteArray) := (mark_names.f).bind fun t140 => (mark_Print.l0 k a0 ([] : List ByteArray) t140 (t140.length : Int) 0)
set_option maxHeartbeats 8000000 in
set_option maxRecDepth 100000 in
theorem mark_Print.calls (k : Nat) (a0 : Int) (r : ByteArray) (w : World) (h : mark_Print.f k a0 = some r) :
  Calls Tryz.prog 31 #[.int .i64 a0] w fun e w' => e = .returned (.string r) ∧ Below w.heap.size w w' := by
 have HB := am (Below.refl w.heap.size w); have H : ((mark_names.f).bind fun t140 => (mark_Print.l0 k a0 ([] : List ByteArray) t140 (t140.length : Int) 0)) = some r := h; clear h; replace H := Option.bind_eq_some_iff.mp H; obtain ⟨t140, A20, H⟩ := H; replace H : (mark_Print.l0 k a0 ([] : List ByteArray) t140 (t140.length : Int) 0) = some r := H; have A2 := am A20; clear A20; have H' := am H; clear H
 go_enter Tryz.func31, Tryz.ntmps31
 go_wp2_with (first | ((with_reducible refine gate_callee (f := 46) rfl ?_); refine goesL_ (some 6) rfl rfl Tryz.func46 (by kernel_rfl) rfl #[] rfl mz ?_; (with_reducible refine (mark_names.calls  t140 _ A2.out).mono ?_); rintro e w3 ⟨v141, rfl, ho0, hb⟩; refine ⟨_, rfl, ?_⟩; have n0_ := am (Kd.R_lower ho0 (below_size bz)); have n1_ := am (below_step bz hb); clear HB; have HO142 := n0_; have HB := n1_; clear n0_ n1_; (try clear hb); (try clear hb2); (try clear hk); (try clear hi); (try clear ho0); obtain ⟨Ao4, co4, eo4⟩ := Kd.R_slice HO142.out; subst eo4))
 go_loopg [3, 8] k (fun kq v3 v8 w' => ∃ (x3_1 : List ByteArray) (x8_1 : Int), v8 = .int .i64 x8_1 ∧ Aside0 (mark_Print.l0 kq a0 x3_1 t140 (t140.length : Int) x8_1 = some r) ∧ Aside0 (kq ≤ k) ∧ Aside0 (Kd.R Kd.string 9 w' w.heap.size (fun k_ => some k_ ≠ ((.slice Ao4 t140.length co4) : Value).ownBlock) v3 x3_1) ∧ Aside0 (Kd.R Kd.string 9 w' w.heap.size (fun k_ => some k_ ≠ (v3 : Value).ownBlock) (.slice Ao4 t140.length co4) t140) ∧ Aside0 (Below w.heap.size w w'))
 case atStart => exact ⟨(([] : List ByteArray)), (0), sz, H', ⟨Nat.le_refl _⟩, ⟨nl⟩, ⟨by (with_reducible repeat first | apply rA | apply rN | apply rD); exact Kd.R_mono HO142.out (fun _ hk => (by simp [Value.ownBlock]))⟩, ⟨bz⟩⟩
 case round =>
  clear H'; (try clear p2); (try clear c3); (try clear c4); obtain ⟨x3_1, x8_1, rfl, HA, HK1, HO_3, HO_6, HB⟩ := hrel
  cases gk with
  | zero => exact absurd HA.out (by simp [mark_Print.l0])
  | succ k1 =>
   have H := HA.out; clear HA; simp only [mark_Print.l0] at H
   by_cases c5 : x8_1 < (t140.length : Int)
   ·rw [if_pos c5] at H; have c5b0 : decide (x8_1 < (t140.length : Int)) = true := decide_eq_true c5; clear c5
    by_cases c6 : 0 ≤ x8_1
    ·rw [if_pos c6] at H; have c6b0 : decide (0 ≤ x8_1) = true := decide_eq_true c6; clear c6
     by_cases c7 : x8_1 < (t140.length : Int)
     ·rw [if_pos c7] at H; have c7b0 : decide (x8_1 < (t140.length : Int)) = true := decide_eq_true c7; clear c7; have c8b0 := eq_true (of_decide_eq_true az : 0 ≤ x8_1); obtain ⟨ji9, hji9⟩ : ∃ j_ : Int, (shr .i64 a0 x8_1) = j_ := ⟨_, rfl⟩
      replace H : (if (Go.bits .and .i64 (ji9) 1) = 1 then (if x3_1.length < 8796093022208 then (mark_Print.l0 k1 a0 (x3_1 ++ [rdOf ByteArray.empty t140 x8_1]) t140 (t140.length : Int) (wrap64 (x8_1 + 1))) else (none)) else (mark_Print.l0 k1 a0 x3_1 t140 (t140.length : Int) (wrap64 (x8_1 + 1)))) = some r := by first | (rw [hji9] at H; exact H) | (simp only [hji9] at H ⊢; exact H)
      have hji9_ : (a0 / 2 ^ min x8_1.toNat 64) = ji9 := hji9; have hji9z : x8_1 ≤ 64 → (a0 / 2 ^ x8_1.toNat) = ji9 := shr_small hji9
      by_cases c10 : (Go.bits .and .i64 (ji9) 1) = 1
      ·rw [if_pos c10] at H; have c10b0 : ((Go.bits .and .i64 (ji9) 1) == 1) = true := beq_iff_eq.mpr c10; have c10b1 : ((Go.bits .and .i64 (ji9) 1) != 1) = false := bne_eq_false_iff_eq.mpr c10; clear c10
       by_cases c11 : x3_1.length < 8796093022208
       ·rw [if_pos c11] at H; have LMc11 := am c11; clear c11; obtain ⟨y144, hy144⟩ : ∃ y_ : List ByteArray, y_ = (x3_1 ++ [rdOf ByteArray.empty t140 x8_1]) := ⟨_, rfl⟩
        replace H : (mark_Print.l0 k1 a0 y144 t140 (t140.length : Int) (wrap64 (x8_1 + 1))) = some r := by first | (rw [hy144]; with_reducible exact H) | (have H2_ := (Option.bind_some _ _).symm.trans H; rw [hy144]; with_reducible exact H2_) | (have H2_ := (Option.bind_some _ _).symm.trans H; with_reducible exact H2_) | with_reducible exact H | (rw [hy144]; exact H) | exact H
        have Ny144 := am hy144; clear hy144; have H' := am H; clear H; have p143 : 0 ≤ (x8_1 : Int) := of_decide_eq_true az; have q143 : x8_1 < (t140.length : Int) := of_decide_eq_true az; obtain ⟨ad143, e143, hx143_0⟩ := Kd.at_string (Kd.R_reads' HO_6.out).2.2 x8_1 p143 q143
        cases e143
        replace p143 := eq_true p143; replace q143 := eq_true q143
        go_wp2_with (first | ((with_reducible refine gate_builtin (b := .append) (xs := #[.tmp 18, .tmp 20]) rfl ?_); at_builtin; refine Kd.R_append Kd.string (w0 := w) w.heap.size rfl (.tmp 18) (.tmp 20) 49 9 (.string ⟨#[]⟩) 16 rfl Tryz.underlying49 info9 rfl (by decide) (by omega) u3 x3_1 (rdOf ByteArray.empty t140 x8_1) [.string (rdOf ByteArray.empty t140 x8_1)] (fun k_ => some k_ ≠ (.slice (some ad143) t140.length co4 : Value).ownBlock) (fun _ => False) rfl rfl ?aP (fun _ hk => hk.elim) ?aF ?aO ?aB ?aS ?aL ?_; (case aP => exact rfl); (case aB => exact bz); (case aF => exact (fun k_ hk => Kd.fresh' (Kd.R_lt (rz HO_6.out)) k_ hk)); (case aO => exact (rz HO_3.out)); (case aS => exact (below_size bz)); (case aL => have := LMc11.out; omega); intro v145 w12 ho hb hg hat; (first | rw [← Ny144.out] at ho | (simp only [Int.reduceToNat] at ho; rw [← Ny144.out] at ho)); have n0_ := am (Kd.R_after (ok := (fun _ => True)) (by (with_reducible repeat first | apply rA | apply rN | apply rD); exact Kd.R_mono HO_6.out (fun _ hk => ⟨trivial, hk⟩)) hg hat); have n1_ := am (hb); have n2_ := am (ho); clear HO_6 HB HO_3; have HO_6 := n0_; have HB := n1_; have HO146 := n2_; clear n0_ n1_ n2_; clear ho hb hg hat))
        go_roundg k1
        case measure => have := HK1.out; omega
        case rel => exact ⟨(y144), (wrap64 (x8_1 + 1)), sz, H', ⟨by have := HK1.out; omega⟩, ⟨rz HO146.out⟩, ⟨by (with_reducible repeat first | apply rA | apply rN | apply rD); exact Kd.R_mono HO_6.out (fun _ hk => hk.2)⟩, ⟨bz⟩⟩
       rw [if_neg c11] at H
       exact absurd H (by simp)
      rw [if_neg c10] at H; have c10b0 : ((Go.bits .and .i64 (ji9) 1) == 1) = false := beq_eq_false_iff_ne.mpr c10; have c10b1 : ((Go.bits .and .i64 (ji9) 1) != 1) = true := bne_iff_ne.mpr c10; have H' := am H; clear H; have p143 : 0 ≤ (x8_1 : Int) := of_decide_eq_true az; have q143 : x8_1 < (t140.length : Int) := of_decide_eq_true az; obtain ⟨ad143, e143, hx143_0⟩ := Kd.at_string (Kd.R_reads' HO_6.out).2.2 x8_1 p143 q143
      cases e143
      replace p143 := eq_true p143; replace q143 := eq_true q143
      go_wp2
      go_roundg k1
      case measure => have := HK1.out; omega
      case rel => exact ⟨(x3_1), (wrap64 (x8_1 + 1)), sz, H', ⟨by have := HK1.out; omega⟩, ⟨rz HO_3.out⟩, ⟨rz HO_6.out⟩, ⟨bz⟩⟩
     rw [if_neg c7] at H
     exact absurd H (by simp)
    rw [if_neg c6] at H
    exact absurd H (by simp)
   rw [if_neg c5] at H; have c5b0 : decide (x8_1 < (t140.length : Int)) = false := decide_eq_false c5; clear c5; replace H := Option.bind_eq_some_iff.mp H; obtain ⟨t147, A130, H⟩ := H; (try dsimp only at H); have A13 := am A130; clear A130
   by_cases c14 : 1 + t147.size ≤ 9223372036854775807
   ·rw [if_pos c14] at H; have c14b0 := eq_true c14; have c14b1 : decide (1 + t147.size ≤ 9223372036854775807) = true := decide_eq_true c14
    try have c14b2 : (9223372036854775807 < 1 + t147.size) = False := eq_false (Nat.not_lt.2 c14)
    by_cases c15 : 1 + t147.size + 1 ≤ 9223372036854775807
    ·rw [if_pos c15] at H; have c15b0 := eq_true c15; have c15b1 : decide (1 + t147.size + 1 ≤ 9223372036854775807) = true := decide_eq_true c15
     try have c15b2 : (9223372036854775807 < 1 + t147.size + 1) = False := eq_false (Nat.not_lt.2 c15)
     obtain rfl := Option.some.inj H; obtain ⟨Ao16, co16, eo16⟩ := Kd.R_slice HO_3.out; subst eo16
     go_wp2_with (first | ((with_reducible refine gate_callee (f := 21) rfl ?_); refine goesL_ (some 24) rfl rfl Tryz.func21 (by kernel_rfl) rfl #[.slice Ao16 x3_1.length co16, .string (⟨#[32]⟩ : ByteArray)] rfl mz ?_; (with_reducible refine (strings_Join.calls _ _ x3_1 (⟨#[32]⟩ : ByteArray) t147 _ ?side1 ?side2 A13.out).mono ?_); (case side1 => exact cz (Kd.R_reads' HO_3.out).2.2); (case side2 => exact (Kd.R_reads' HO_3.out).2.1); rintro e w17 ⟨rfl, hb⟩; refine ⟨_, rfl, ?_⟩; replace HO_3 := am (Kd.R_below (rz HO_3.out) hb); replace HO_6 := am (Kd.R_below (rz HO_6.out) hb); replace HB := am (below_step bz hb); (try clear hb); (try clear hb2); (try clear hk); (try clear hi)))
     go_ret
     exact ⟨ez, bz⟩
    rw [if_neg c15] at H
    exact absurd H (by simp)
   rw [if_neg c14] at H
   exact absurd H (by simp)

-- GIVEN: function 47 (bytes_Clone)

-- GIVEN: function 79 (bytes_SplitAfter)

/-! ### head_cut: function 62 -/
def head_cut.f (k : Nat) (l0 : List Int) : Option ((List (List Int))) := if (l0.length : Int) = 0 then (some ([] : List (List Int))) else ((bytes_SplitAfter.f k l0 (([10] : List Int))).bind fun t151 => (if 0 ≤ (wrap64 ((t151.length : Int) - 1)) then (if (wrap64 ((t151.length : Int) - 1)) < (t151.length : Int) then (if ((rd_L6 t151 (wrap64 ((t151.length : Int) - 1))).length : Int) = 0 then (if (wrap64 ((t151.length : Int) - 1)) ≤ (t151.length : Int) then (some (t151.take ((wrap64 ((t151.length : Int) - 1)) : Int).toNat)) else (none)) else (some t151)) else (none)) else (none)))
set_option maxHeartbeats 8000000 in
set_option maxRecDepth 100000 in
theorem head_cut.calls (k : Nat) (P0_ : Nat → Prop) (A0 : Option Addr) (c0 : Nat) (l0 : List Int) (r : List (List Int)) (w : World) (hs0 : Kd.V (Kd.int .u8) 5 w w.heap.size (fun k_ => P0_ k_) (.slice A0 l0.length c0) l0) (h : head_cut.f k l0 = some r) :
  Calls Tryz.prog 62 #[.slice A0 l0.length c0] w fun e w' => ∃ v0_ : Value, e = .returned (v0_) ∧ Kd.V (Kd.slice 5 (Kd.int .u8)) 34 w' w.heap.size (fun k_ => (P0_ k_ ∨ w.heap.size ≤ k_)) v0_ r ∧ Below w.heap.size w w' := by
 have HO0 := am (show Kd.V (Kd.int .u8) 5 w w.heap.size (fun k_ => (P0_ k_ ∨ w.heap.size ≤ k_)) (.slice A0 l0.length c0) l0 from Kd.V_mono hs0 (fun k_ hk => .inl hk)); have HB := am (Below.refl w.heap.size w); have H : (if (l0.length : Int) = 0 then (some ([] : List (List Int))) else ((bytes_SplitAfter.f k l0 (([10] : List Int))).bind fun t151 => (if 0 ≤ (wrap64 ((t151.length : Int) - 1)) then (if (wrap64 ((t151.length : Int) - 1)) < (t151.length : Int) then (if ((rd_L6 t151 (wrap64 ((t151.length : Int) - 1))).length : Int) = 0 then (if (wrap64 ((t151.length : Int) - 1)) ≤ (t151.length : Int) then (some (t151.take ((wrap64 ((t151.length : Int) - 1)) : Int).toNat)) else (none)) else (some t151)) else (none)) else (none)))) = some r := h; clear h
 by_cases c2 : (l0.length : Int) = 0
 ·rw [if_pos c2] at H; have c2b0 : ((l0.length : Int) == 0) = true := beq_iff_eq.mpr c2; have c2b1 : ((l0.length : Int) != 0) = false := bne_eq_false_iff_eq.mpr c2; clear c2; obtain rfl := Option.some.inj H
  go_enter Tryz.func62, Tryz.ntmps62
  go_wp2
  go_ret
  exact ⟨_, ez, Kd.V_mono (Kd.S_V (base := w.heap.size) (ok := fun k_ => w.heap.size ≤ k_) (by first | exact Kd.S_nil _ _ _ _ _ | exact Kd.N_nil _ _ _ _ _ | exact Kd.V_nil _ _ _ _ _ | exact Kd.Q_nil _ _ _ _ _ | exact Kd.R_nil _ _ _ _ _)) (fun k_ hk => by first | exact ⟨(.inr (hk.1)), hk.2⟩ | exact (.inr (hk))), bz⟩
 rw [if_neg c2] at H; have c2b0 : ((l0.length : Int) == 0) = false := beq_eq_false_iff_ne.mpr c2; have c2b1 : ((l0.length : Int) != 0) = true := bne_iff_ne.mpr c2
 have c2b2 : ¬ (l0 = []) := fun h_ => c2 (by rw [h_]; rfl)
 obtain ⟨y148, hy148⟩ : ∃ y_ : List Int, y_ = (([10] : List Int)) := ⟨_, rfl⟩
 replace H : ((bytes_SplitAfter.f k l0 y148).bind fun t151 => (if 0 ≤ (wrap64 ((t151.length : Int) - 1)) then (if (wrap64 ((t151.length : Int) - 1)) < (t151.length : Int) then (if ((rd_L6 t151 (wrap64 ((t151.length : Int) - 1))).length : Int) = 0 then (if (wrap64 ((t151.length : Int) - 1)) ≤ (t151.length : Int) then (some (t151.take ((wrap64 ((t151.length : Int) - 1)) : Int).toNat)) else (none)) else (some t151)) else (none)) else (none))) = some r := by first | (rw [hy148]; with_reducible exact H) | (have H2_ := (Option.bind_some _ _).symm.trans H; rw [hy148]; with_reducible exact H2_) | (have H2_ := (Option.bind_some _ _).symm.trans H; with_reducible exact H2_) | with_reducible exact H | (rw [hy148]; exact H) | exact H
 have Ny148 := am hy148; clear hy148; replace H := Option.bind_eq_some_iff.mp H; obtain ⟨t151, A30, H⟩ := H; (try dsimp only at H); have A3 := am A30; clear A30; obtain ⟨ji4, hji4⟩ : ∃ j_ : Int, (wrap64 ((t151.length : Int) - 1)) = j_ := ⟨_, rfl⟩
 replace H : (if 0 ≤ (ji4) then (if (ji4) < (t151.length : Int) then (if ((rd_L6 t151 (ji4)).length : Int) = 0 then (if (ji4) ≤ (t151.length : Int) then (some (t151.take ((ji4) : Int).toNat)) else (none)) else (some t151)) else (none)) else (none)) = some r := by first | (rw [hji4] at H; exact H) | (simp only [hji4] at H ⊢; exact H)
 (try rw [hji4] at A3); have hji4w : (IntKind.i64.wrap ((t151.length : Int) - 1)) = ji4 := (i64_w _).trans hji4
 by_cases c5 : 0 ≤ (ji4)
 ·rw [if_pos c5] at H; have c5b0 : decide (0 ≤ (ji4)) = true := decide_eq_true c5; clear c5
  by_cases c6 : (ji4) < (t151.length : Int)
  ·rw [if_pos c6] at H; have c6b0 : decide ((ji4) < (t151.length : Int)) = true := decide_eq_true c6; clear c6
   by_cases c7 : ((rd_L6 t151 (ji4)).length : Int) = 0
   ·rw [if_pos c7] at H; have c7b0 : (((rd_L6 t151 (ji4)).length : Int) == 0) = true := beq_iff_eq.mpr c7; have c7b1 : (((rd_L6 t151 (ji4)).length : Int) != 0) = false := bne_eq_false_iff_eq.mpr c7; clear c7; have c8b0 := eq_true (of_decide_eq_true az : 0 ≤ (ji4))
    by_cases c9 : (ji4) ≤ (t151.length : Int)
    ·rw [if_pos c9] at H; have c9b0 := eq_true c9; have c9b1 : decide ((ji4) ≤ (t151.length : Int)) = true := decide_eq_true c9; clear c9; obtain ⟨y155, hy155⟩ : ∃ y_ : List (List Int), y_ = (t151.take ((ji4) : Int).toNat) := ⟨_, rfl⟩
     replace H : (some y155) = some r := by first | (rw [hy155]; with_reducible exact H) | (have H2_ := (Option.bind_some _ _).symm.trans H; rw [hy155]; with_reducible exact H2_) | (have H2_ := (Option.bind_some _ _).symm.trans H; with_reducible exact H2_) | with_reducible exact H | (rw [hy155]; exact H) | exact H
     have Ny155 := am hy155; clear hy155; obtain rfl := Option.some.inj H
     go_enter Tryz.func62, Tryz.ntmps62
     go_wp2_with (first | ((with_reducible refine gate_dst (N := 8) rfl ?_); refine Kd.R_lit (Kd.int .u8) _ 5 ?hg (N := 8) ?hd (xs := ([10] : List Int)) (inner := [.int .u8 10]) (ok := fun _ => True) (okp := fun _ => True) ?hr ?hp (fun _ hk => hk) trivial (Below.refl _ _) (Nat.le_refl _) (by simp) ?_; (case hd => rfl); (case hg => rfl); (case hr => first | (go_simp; done) | (go_simp; rfl)); (case hp => exact (Reps.one (show Kd.M (Kd.int .u8) _ _ _ 10 [.int .u8 10] from rfl) (Reps.none _ _))); intro v149 w10 ho11 hb hg_ hnew_; clear hg_ hnew_; (first | rw [← Ny148.out] at ho11 | (simp only [Int.reduceToNat] at ho11; rw [← Ny148.out] at ho11)); have n0_ := am (Kd.V_elder' (vz HO0.out) (Kd.R_base ho11) hb); have n1_ := am (Kd.R_lower (Kd.R_newM (M := fun k_ => (w.heap.size ≤ k_)) ho11 (below_size bz) (fun k_ h_ => h_)) (below_size bz)); have n2_ := am (below_step bz hb); clear HO0 HB; have HO0 := n0_; have HO150 := n1_; have HB := n2_; clear n0_ n1_ n2_; clear hb ho11; obtain ⟨Ao12, co12, eo12⟩ := Kd.R_slice HO150.out; subst eo12) | ((with_reducible refine gate_callee (f := 79) rfl ?_); refine goesL_ (some 9) rfl rfl Tryz.func79 (by kernel_rfl) rfl #[.slice A0 l0.length c0, .slice Ao12 y148.length co12] rfl mz ?_; (with_reducible refine (bytes_SplitAfter.calls k (fun k_ => ((P0_ k_ ∨ w.heap.size ≤ k_) ∧ some k_ ≠ (.slice Ao12 y148.length co12 : Value).ownBlock)) _ _ l0 _ _ y148 t151 _ ?side1 ?side2 ?side3 A3.out).mono ?_); (case side1 => exact HO0.out); (case side2 => exact cz (Kd.R_reads' HO150.out).2.2); (case side3 => exact (Kd.R_reads' HO150.out).2.1); rintro e w13 ⟨v152, rfl, ho0, hb⟩; refine ⟨_, rfl, ?_⟩; have n0_ := am (Kd.V_below (vz HO0.out) hb); have n1_ := am (rx HO150.out hb); have n2_ := am (Kd.V_lower (Kd.V_mono (ok' := fun k_ => (P0_ k_ ∨ w.heap.size ≤ k_) ∧ some k_ ≠ (.slice Ao12 y148.length co12 : Value).ownBlock) ho0 (fun k_ hk_ => ⟨Or.elim hk_ (fun hs_ => hs_.1) (fun hn_ => (.inr (Nat.le_trans (below_size bz) hn_))), Or.elim hk_ (fun hs_ => hs_.2) (fun hn_ => (Kd.fresh' (Kd.R_lt (rz HO150.out)) k_ hn_))⟩)) (below_size bz)); have n3_ := am (below_step bz hb); clear HO0 HO150 HB; have HO0 := n0_; have HO150 := n1_; have HO153 := n2_; have HB := n3_; clear n0_ n1_ n2_ n3_; (try clear hb); (try clear hb2); (try clear hk); (try clear hi); (try clear ho0); obtain ⟨Ao14, co14, eo14⟩ := Kd.V_slice HO153.out; subst eo14; have p154 : 0 ≤ ((ji4) : Int) := of_decide_eq_true az; have q154 : (ji4) < (t151.length : Int) := of_decide_eq_true az; obtain ⟨ad154, A154_0, c154_0, e154, hx154_0, hl154_0, hi154_0⟩ := at_L6 (Kd.V_reads' HO153.out).2.2 (ji4) p154 q154; cases e154; obtain ⟨ce154, hce154, hMe154, hcc154⟩ := Kd.V_get HO153.out [] (ji4) p154 (by first | exact q154 | exact of_decide_eq_true az | (have e_ := (Kd.V_reads' HO153.out).1; omega)); obtain ⟨ua154_0, uc154_0, rfl, ul154_0, ge154_0⟩ := Kd.FK_slice_open hMe154; have hv154_0 := hcc154 0 _ rfl; rw [Nat.add_zero, show ((Kd.slice 5 (Kd.int .u8))).sz = 1 from rfl, Nat.mul_one] at hv154_0; replace hv154_0 := Option.some.inj (hv154_0.symm.trans hx154_0); injection hv154_0 with hva_ hvn_ hvc_; rw [hva_] at ge154_0; rw [hvc_] at ul154_0; have HL154_0 := am (show Kd.V (Kd.int .u8) 5 _ w.heap.size _ _ (rd_L6 t151 (ji4)) from Kd.V_mk ul154_0 ge154_0); clear hva_ hvn_ hvc_ ge154_0 ul154_0; clear hcc154 hce154; have HR154_0 := am hi154_0; have HC154_0 := am hl154_0; clear hi154_0 hl154_0; replace p154 := eq_true p154; replace q154 := eq_true q154; have q15 : ((ji4) : Int) ≤ ((t151.length : Int) : Int) := of_decide_eq_true az; obtain ⟨i015, hi015, _, hsz15, _⟩ := info_parts info34; have hroom15 : t151.length ≤ co14 := (Kd.V_reads' HO153.out).2.1; have hC15 : Kd.F (Kd.slice 5 (Kd.int .u8)) _ _ (some ad154) t151.length t151 := (Kd.V_at (base := w.heap.size) HO153.out).2.2; have hcut15 := cut_to (P := Tryz.prog) 89 34 .i64 Tryz.underlying89 hi015 (some ad154) t151.length co14 (ji4) (of_decide_eq_true az) q15 hroom15; have hr15 := Kd.F_take (m := ((ji4) : Int).toNat) hC15 (by omega); have hy15 : y155.length = ((ji4) : Int).toNat := (by rw [Ny155.out, List.length_take]; omega); rw [← Ny155.out] at hr15; rw [← hy15] at hcut15; have HO159 := am (show Kd.V (Kd.slice 5 (Kd.int .u8)) 34 _ w.heap.size _ (.slice (some ad154) y155.length co14) y155 from Kd.V_mk (by omega) hr15); have HC159 := am (show y155.length ≤ co14 from by omega); clear hr15 hC15 hroom15 hi015 hsz15; have KY15 := am hy15; clear hy15; replace q15 := eq_true q15))
     go_ret
     exact ⟨_, by first | rfl | (simp [errW_none, errW_some] <;> rfl) | (simp only [← hji4]; first | rfl | (simp [errW_none, errW_some] <;> rfl)) | (simp [*, errW_none, errW_some] <;> rfl), by (with_reducible repeat (first | apply Kd.V_alloc | apply Kd.V_drewN | apply Kd.V_drew)); exact Kd.V_mono HO159.out (fun _ hk => hk.1), bz⟩
    rw [if_neg c9] at H
    exact absurd H (by simp)
   rw [if_neg c7] at H; have c7b0 : (((rd_L6 t151 (ji4)).length : Int) == 0) = false := beq_eq_false_iff_ne.mpr c7; have c7b1 : (((rd_L6 t151 (ji4)).length : Int) != 0) = true := bne_iff_ne.mpr c7
   have c7b2 : ¬ ((rd_L6 t151 (ji4)) = []) := fun h_ => c7 (by rw [h_]; rfl)
   obtain rfl := Option.some.inj H
   go_enter Tryz.func62, Tryz.ntmps62
   go_wp2_with (first | ((with_reducible refine gate_dst (N := 8) rfl ?_); refine Kd.R_lit (Kd.int .u8) _ 5 ?hg (N := 8) ?hd (xs := ([10] : List Int)) (inner := [.int .u8 10]) (ok := fun _ => True) (okp := fun _ => True) ?hr ?hp (fun _ hk => hk) trivial (Below.refl _ _) (Nat.le_refl _) (by simp) ?_; (case hd => rfl); (case hg => rfl); (case hr => first | (go_simp; done) | (go_simp; rfl)); (case hp => exact (Reps.one (show Kd.M (Kd.int .u8) _ _ _ 10 [.int .u8 10] from rfl) (Reps.none _ _))); intro v149 w16 ho17 hb hg_ hnew_; clear hg_ hnew_; (first | rw [← Ny148.out] at ho17 | (simp only [Int.reduceToNat] at ho17; rw [← Ny148.out] at ho17)); have n0_ := am (Kd.V_elder' (vz HO0.out) (Kd.R_base ho17) hb); have n1_ := am (Kd.R_lower (Kd.R_newM (M := fun k_ => (w.heap.size ≤ k_)) ho17 (below_size bz) (fun k_ h_ => h_)) (below_size bz)); have n2_ := am (below_step bz hb); clear HO0 HB; have HO0 := n0_; have HO150 := n1_; have HB := n2_; clear n0_ n1_ n2_; clear hb ho17; obtain ⟨Ao18, co18, eo18⟩ := Kd.R_slice HO150.out; subst eo18) | ((with_reducible refine gate_callee (f := 79) rfl ?_); refine goesL_ (some 9) rfl rfl Tryz.func79 (by kernel_rfl) rfl #[.slice A0 l0.length c0, .slice Ao18 y148.length co18] rfl mz ?_; (with_reducible refine (bytes_SplitAfter.calls k (fun k_ => ((P0_ k_ ∨ w.heap.size ≤ k_) ∧ some k_ ≠ (.slice Ao18 y148.length co18 : Value).ownBlock)) _ _ l0 _ _ y148 t151 _ ?side1 ?side2 ?side3 A3.out).mono ?_); (case side1 => exact HO0.out); (case side2 => exact cz (Kd.R_reads' HO150.out).2.2); (case side3 => exact (Kd.R_reads' HO150.out).2.1); rintro e w19 ⟨v152, rfl, ho0, hb⟩; refine ⟨_, rfl, ?_⟩; have n0_ := am (Kd.V_below (vz HO0.out) hb); have n1_ := am (rx HO150.out hb); have n2_ := am (Kd.V_lower (Kd.V_mono (ok' := fun k_ => (P0_ k_ ∨ w.heap.size ≤ k_) ∧ some k_ ≠ (.slice Ao18 y148.length co18 : Value).ownBlock) ho0 (fun k_ hk_ => ⟨Or.elim hk_ (fun hs_ => hs_.1) (fun hn_ => (.inr (Nat.le_trans (below_size bz) hn_))), Or.elim hk_ (fun hs_ => hs_.2) (fun hn_ => (Kd.fresh' (Kd.R_lt (rz HO150.out)) k_ hn_))⟩)) (below_size bz)); have n3_ := am (below_step bz hb); clear HO0 HO150 HB; have HO0 := n0_; have HO150 := n1_; have HO153 := n2_; have HB := n3_; clear n0_ n1_ n2_ n3_; (try clear hb); (try clear hb2); (try clear hk); (try clear hi); (try clear ho0); obtain ⟨Ao20, co20, eo20⟩ := Kd.V_slice HO153.out; subst eo20; have p154 : 0 ≤ ((ji4) : Int) := of_decide_eq_true az; have q154 : (ji4) < (t151.length : Int) := of_decide_eq_true az; obtain ⟨ad154, A154_0, c154_0, e154, hx154_0, hl154_0, hi154_0⟩ := at_L6 (Kd.V_reads' HO153.out).2.2 (ji4) p154 q154; cases e154; obtain ⟨ce154, hce154, hMe154, hcc154⟩ := Kd.V_get HO153.out [] (ji4) p154 (by first | exact q154 | exact of_decide_eq_true az | (have e_ := (Kd.V_reads' HO153.out).1; omega)); obtain ⟨ua154_0, uc154_0, rfl, ul154_0, ge154_0⟩ := Kd.FK_slice_open hMe154; have hv154_0 := hcc154 0 _ rfl; rw [Nat.add_zero, show ((Kd.slice 5 (Kd.int .u8))).sz = 1 from rfl, Nat.mul_one] at hv154_0; replace hv154_0 := Option.some.inj (hv154_0.symm.trans hx154_0); injection hv154_0 with hva_ hvn_ hvc_; rw [hva_] at ge154_0; rw [hvc_] at ul154_0; have HL154_0 := am (show Kd.V (Kd.int .u8) 5 _ w.heap.size _ _ (rd_L6 t151 (ji4)) from Kd.V_mk ul154_0 ge154_0); clear hva_ hvn_ hvc_ ge154_0 ul154_0; clear hcc154 hce154; have HR154_0 := am hi154_0; have HC154_0 := am hl154_0; clear hi154_0 hl154_0; replace p154 := eq_true p154; replace q154 := eq_true q154))
   go_ret
   exact ⟨_, by first | rfl | (simp [errW_none, errW_some] <;> rfl) | (simp only [← hji4]; first | rfl | (simp [errW_none, errW_some] <;> rfl)) | (simp [*, errW_none, errW_some] <;> rfl), by (with_reducible repeat (first | apply Kd.V_alloc | apply Kd.V_drewN | apply Kd.V_drew)); exact Kd.V_mono HO153.out (fun _ hk => hk.1), bz⟩
  rw [if_neg c6] at H
  exact absurd H (by simp)
 rw [if_neg c5] at H
 exact absurd H (by simp)

-- GIVEN: function 86 (bytes_HasSuffix)

end Go.Proofs.YtfabaenfglionaaGreatDoor.P
