/- The walks of the seat's functions, one contract a function: printed by a program of this session's (wip/gen). Not trusted: Lean checks it. -/
import Derived.Test.YtfabaenfglionaaGreatDoorShort
import Derived.Test.YtfabaenfglionaaGreatDoorPx0
import Derived.Test.YtfabaenfglionaaGreatDoorPx1
import Derived.Test.YtfabaenfglionaaGreatDoorUidShow
-- halved
namespace Go.Proofs.YtfabaenfglionaaGreatDoor.P
open Go.RowKit Go.Proofs.YtfabaenfglionaaGreatDoorW.PrintWords Go.Proofs.YtfabaenfglionaaGreatDoorW.PrintLast Go.Proofs.YtfabaenfglionaaGreatDoorW.PrintMore
attribute [local go_sem] max2_int min2_int max_two min_two max_three min_three max_four min_four   -- for this text's walks alone
set_option linter.unusedVariables false
set_option linter.unusedSimpArgs false

/-! ### bytes_TrimSuffix: function 66 -/
def bytes_TrimSuffix.f (l0 : List Int) (l1 : List Int) : Option (List Int) := (bytes_HasSuffix.f l0 l1).bind fun t160 => (if t160 = true then (if 0 ≤ (wrap64 ((l0.length : Int) - (l1.length : Int))) then (if (wrap64 ((l0.length : Int) - (l1.length : Int))) ≤ (l0.length : Int) then (some (l0.take ((wrap64 ((l0.length : Int) - (l1.length : Int))) : Int).toNat)) else (none)) else (none)) else (some l0))
set_option maxHeartbeats 8000000 in
set_option maxRecDepth 100000 in
theorem bytes_TrimSuffix.calls (P0_ : Nat → Prop) (A0 : Option Addr) (c0 : Nat) (l0 : List Int) (A1 : Option Addr) (c1 : Nat) (l1 : List Int) (r : List Int) (w : World) (hs0 : Kd.V (Kd.int .u8) 5 w w.heap.size (fun k_ => P0_ k_) (.slice A0 l0.length c0) l0) (hr1 : Kd.C (Kd.int .u8) w A1 l1.length l1) (hc1 : l1.length ≤ c1) (h : bytes_TrimSuffix.f l0 l1 = some r) :
  Calls Tryz.prog 66 #[.slice A0 l0.length c0, .slice A1 l1.length c1] w fun e w' => ∃ v0_ : Value, e = .returned (v0_) ∧ Kd.V (Kd.int .u8) 5 w' w.heap.size (fun k_ => (P0_ k_ ∨ w.heap.size ≤ k_)) v0_ r ∧ Below w.heap.size w w' := by
 have HO0 := am (show Kd.V (Kd.int .u8) 5 w w.heap.size (fun k_ => (P0_ k_ ∨ w.heap.size ≤ k_)) (.slice A0 l0.length c0) l0 from Kd.V_mono hs0 (fun k_ hk => .inl hk)); have HR1 := am hr1; have HC1 := am hc1; clear hr1 hc1; have HB := am (Below.refl w.heap.size w); have H : ((bytes_HasSuffix.f l0 l1).bind fun t160 => (if t160 = true then (if 0 ≤ (wrap64 ((l0.length : Int) - (l1.length : Int))) then (if (wrap64 ((l0.length : Int) - (l1.length : Int))) ≤ (l0.length : Int) then (some (l0.take ((wrap64 ((l0.length : Int) - (l1.length : Int))) : Int).toNat)) else (none)) else (none)) else (some l0))) = some r := h; clear h; replace H := Option.bind_eq_some_iff.mp H; obtain ⟨t160, A30, H⟩ := H; (try dsimp only at H); have A3 := am A30; clear A30
 by_cases c4 : t160 = true
 ·subst c4
  have H1 : (if 0 ≤ (wrap64 ((l0.length : Int) - (l1.length : Int))) then (if (wrap64 ((l0.length : Int) - (l1.length : Int))) ≤ (l0.length : Int) then (some (l0.take ((wrap64 ((l0.length : Int) - (l1.length : Int))) : Int).toNat)) else (none)) else (none)) = some r := by rw [if_pos rfl] at H; exact H
  clear H; have H := H1; clear H1; obtain ⟨ji5, hji5⟩ : ∃ j_ : Int, (wrap64 ((l0.length : Int) - (l1.length : Int))) = j_ := ⟨_, rfl⟩
  replace H : (if 0 ≤ (ji5) then (if (ji5) ≤ (l0.length : Int) then (some (l0.take ((ji5) : Int).toNat)) else (none)) else (none)) = some r := by first | (rw [hji5] at H; exact H) | (simp only [hji5] at H ⊢; exact H)
  (try rw [hji5] at A3); have hji5w : (IntKind.i64.wrap ((l0.length : Int) - (l1.length : Int))) = ji5 := (i64_w _).trans hji5
  by_cases c6 : 0 ≤ (ji5)
  ·rw [if_pos c6] at H; have c6b0 := eq_true c6; have c6b1 : decide (0 ≤ (ji5)) = true := decide_eq_true c6; clear c6
   by_cases c7 : (ji5) ≤ (l0.length : Int)
   ·rw [if_pos c7] at H; have c7b0 := eq_true c7; have c7b1 : decide ((ji5) ≤ (l0.length : Int)) = true := decide_eq_true c7; clear c7; obtain ⟨y161, hy161⟩ : ∃ y_ : List Int, y_ = (l0.take ((ji5) : Int).toNat) := ⟨_, rfl⟩
    replace H : (some y161) = some r := by first | (rw [hy161]; with_reducible exact H) | (have H2_ := (Option.bind_some _ _).symm.trans H; rw [hy161]; with_reducible exact H2_) | (have H2_ := (Option.bind_some _ _).symm.trans H; with_reducible exact H2_) | with_reducible exact H | (rw [hy161]; exact H) | exact H
    have Ny161 := am hy161; clear hy161; obtain rfl := Option.some.inj H
    go_enter Tryz.func66, Tryz.ntmps66
    go_wp2_with (first | ((with_reducible refine gate_callee (f := 86) rfl ?_); refine goesL_ (some 7) rfl rfl Tryz.func86 (by kernel_rfl) rfl #[.slice A0 l0.length c0, .slice A1 l1.length c1] rfl mz ?_; (with_reducible refine (bytes_HasSuffix.calls _ _ l0 _ _ l1 true _ ?side1 ?side2 ?side3 ?side4 A3.out).mono ?_); (case side1 => exact cz (Kd.V_reads' HO0.out).2.2); (case side2 => exact (Kd.V_reads' HO0.out).2.1); (case side3 => exact cz HR1.out); (case side4 => exact HC1.out); rintro e w8 ⟨rfl, hb⟩; refine ⟨_, rfl, ?_⟩; replace HO0 := am (Kd.V_below (vz HO0.out) hb); replace HB := am (below_step bz hb); (try clear hb); (try clear hb2); (try clear hk); (try clear hi); have q9 : ((ji5) : Int) ≤ ((l0.length : Int) : Int) := of_decide_eq_true az; obtain ⟨i09, hi09, _, hsz9, _⟩ := info_parts info5; have hroom9 : l0.length ≤ c0 := (Kd.V_reads' HO0.out).2.1; have hC9 : Kd.F (Kd.int .u8) _ _ A0 l0.length l0 := (Kd.V_at (base := w.heap.size) HO0.out).2.2; have hcut9 := cut_to (P := Tryz.prog) 34 5 .i64 Tryz.underlying34 hi09 A0 l0.length c0 (ji5) (of_decide_eq_true az) q9 hroom9; have hr9 := Kd.F_take (m := ((ji5) : Int).toNat) hC9 (by omega); have hy9 : y161.length = ((ji5) : Int).toNat := (by rw [Ny161.out, List.length_take]; omega); rw [← Ny161.out] at hr9; rw [← hy9] at hcut9; have HO165 := am (show Kd.V (Kd.int .u8) 5 _ w.heap.size _ (.slice A0 y161.length c0) y161 from Kd.V_mk (by omega) hr9); have HC165 := am (show y161.length ≤ c0 from by omega); clear hr9 hC9 hroom9 hi09 hsz9; have KY9 := am hy9; clear hy9; replace q9 := eq_true q9))
    go_ret
    exact ⟨_, by first | rfl | (simp [errW_none, errW_some] <;> rfl) | (simp only [← hji5]; first | rfl | (simp [errW_none, errW_some] <;> rfl)) | (simp [*, errW_none, errW_some] <;> rfl), vz HO165.out, bz⟩
   rw [if_neg c7] at H
   exact absurd H (by simp)
  rw [if_neg c6] at H
  exact absurd H (by simp)
 replace c4 := Bool.eq_false_iff.mpr c4; subst c4
 have H1 : (some l0) = some r := by rw [if_neg (show ¬ (false = true) by decide)] at H; exact H
 clear H; have H := H1; clear H1; obtain rfl := Option.some.inj H
 go_enter Tryz.func66, Tryz.ntmps66
 go_wp2_with (first | ((with_reducible refine gate_callee (f := 86) rfl ?_); refine goesL_ (some 7) rfl rfl Tryz.func86 (by kernel_rfl) rfl #[.slice A0 l0.length c0, .slice A1 l1.length c1] rfl mz ?_; (with_reducible refine (bytes_HasSuffix.calls _ _ l0 _ _ l1 false _ ?side1 ?side2 ?side3 ?side4 A3.out).mono ?_); (case side1 => exact cz (Kd.V_reads' HO0.out).2.2); (case side2 => exact (Kd.V_reads' HO0.out).2.1); (case side3 => exact cz HR1.out); (case side4 => exact HC1.out); rintro e w10 ⟨rfl, hb⟩; refine ⟨_, rfl, ?_⟩; replace HO0 := am (Kd.V_below (vz HO0.out) hb); replace HB := am (below_step bz hb); (try clear hb); (try clear hb2); (try clear hk); (try clear hi)))
 go_ret
 exact ⟨_, ez, vz HO0.out, bz⟩

/-! ### head_text: function 63 -/
def head_text.f (l0 : List Int) : Option (List Int) := (bytes_TrimSuffix.f l0 (([10] : List Int))).bind fun t169 => ((bytes_TrimSuffix.f t169 (([13] : List Int))).bind fun t175 => (some t175))
set_option maxHeartbeats 8000000 in
set_option maxRecDepth 100000 in
theorem head_text.calls (P0_ : Nat → Prop) (A0 : Option Addr) (c0 : Nat) (l0 : List Int) (r : List Int) (w : World) (hs0 : Kd.V (Kd.int .u8) 5 w w.heap.size (fun k_ => P0_ k_) (.slice A0 l0.length c0) l0) (h : head_text.f l0 = some r) :
  Calls Tryz.prog 63 #[.slice A0 l0.length c0] w fun e w' => ∃ v0_ : Value, e = .returned (v0_) ∧ Kd.V (Kd.int .u8) 5 w' w.heap.size (fun k_ => (P0_ k_ ∨ w.heap.size ≤ k_)) v0_ r ∧ Below w.heap.size w w' := by
 have HO0 := am (show Kd.V (Kd.int .u8) 5 w w.heap.size (fun k_ => (P0_ k_ ∨ w.heap.size ≤ k_)) (.slice A0 l0.length c0) l0 from Kd.V_mono hs0 (fun k_ hk => .inl hk)); have HB := am (Below.refl w.heap.size w); have H : ((bytes_TrimSuffix.f l0 (([10] : List Int))).bind fun t169 => ((bytes_TrimSuffix.f t169 (([13] : List Int))).bind fun t175 => (some t175))) = some r := h; clear h; obtain ⟨y166, hy166⟩ : ∃ y_ : List Int, y_ = (([10] : List Int)) := ⟨_, rfl⟩
 replace H : ((bytes_TrimSuffix.f l0 y166).bind fun t169 => ((bytes_TrimSuffix.f t169 (([13] : List Int))).bind fun t175 => (some t175))) = some r := by first | (rw [hy166]; with_reducible exact H) | (have H2_ := (Option.bind_some _ _).symm.trans H; rw [hy166]; with_reducible exact H2_) | (have H2_ := (Option.bind_some _ _).symm.trans H; with_reducible exact H2_) | with_reducible exact H | (rw [hy166]; exact H) | exact H
 have Ny166 := am hy166; clear hy166; replace H := Option.bind_eq_some_iff.mp H; obtain ⟨t169, A20, H⟩ := H; replace H : ((bytes_TrimSuffix.f t169 (([13] : List Int))).bind fun t175 => (some t175)) = some r := H; have A2 := am A20; clear A20; obtain ⟨y172, hy172⟩ : ∃ y_ : List Int, y_ = (([13] : List Int)) := ⟨_, rfl⟩
 replace H : ((bytes_TrimSuffix.f t169 y172).bind fun t175 => (some t175)) = some r := by first | (rw [hy172]; with_reducible exact H) | (have H2_ := (Option.bind_some _ _).symm.trans H; rw [hy172]; with_reducible exact H2_) | (have H2_ := (Option.bind_some _ _).symm.trans H; with_reducible exact H2_) | with_reducible exact H | (rw [hy172]; exact H) | exact H
 have Ny172 := am hy172; clear hy172; replace H := Option.bind_eq_some_iff.mp H; obtain ⟨t175, A30, H⟩ := H; replace H : (some t175) = some r := H; have A3 := am A30; clear A30; obtain rfl := Option.some.inj H
 go_enter Tryz.func63, Tryz.ntmps63
 go_wp2_with (first | ((with_reducible refine gate_dst (N := 4) rfl ?_); refine Kd.R_lit (Kd.int .u8) _ 5 ?hg (N := 4) ?hd (xs := ([10] : List Int)) (inner := [.int .u8 10]) (ok := fun _ => True) (okp := fun _ => True) ?hr ?hp (fun _ hk => hk) trivial (Below.refl _ _) (Nat.le_refl _) (by simp) ?_; (case hd => rfl); (case hg => rfl); (case hr => first | (go_simp; done) | (go_simp; rfl)); (case hp => exact (Reps.one (show Kd.M (Kd.int .u8) _ _ _ 10 [.int .u8 10] from rfl) (Reps.none _ _))); intro v167 w4 ho5 hb hg_ hnew_; clear hg_ hnew_; (first | rw [← Ny166.out] at ho5 | (simp only [Int.reduceToNat] at ho5; rw [← Ny166.out] at ho5)); have n0_ := am (Kd.V_elder' (vz HO0.out) (Kd.R_base ho5) hb); have n1_ := am (Kd.R_lower (Kd.R_newM (M := fun k_ => (w.heap.size ≤ k_)) ho5 (below_size bz) (fun k_ h_ => h_)) (below_size bz)); have n2_ := am (below_step bz hb); clear HO0 HB; have HO0 := n0_; have HO168 := n1_; have HB := n2_; clear n0_ n1_ n2_; clear hb ho5; obtain ⟨Ao6, co6, eo6⟩ := Kd.R_slice HO168.out; subst eo6) | ((with_reducible refine gate_callee (f := 66) rfl ?_); refine goesL_ (some 5) rfl rfl Tryz.func66 (by kernel_rfl) rfl #[.slice A0 l0.length c0, .slice Ao6 y166.length co6] rfl mz ?_; (with_reducible refine (bytes_TrimSuffix.calls (fun k_ => ((P0_ k_ ∨ w.heap.size ≤ k_) ∧ some k_ ≠ (.slice Ao6 y166.length co6 : Value).ownBlock)) _ _ l0 _ _ y166 t169 _ ?side1 ?side2 ?side3 A2.out).mono ?_); (case side1 => exact HO0.out); (case side2 => exact cz (Kd.R_reads' HO168.out).2.2); (case side3 => exact (Kd.R_reads' HO168.out).2.1); rintro e w7 ⟨v170, rfl, ho0, hb⟩; refine ⟨_, rfl, ?_⟩; have n0_ := am (Kd.V_below (vz HO0.out) hb); have n1_ := am (rx HO168.out hb); have n2_ := am (Kd.V_lower (Kd.V_mono (ok' := fun k_ => (P0_ k_ ∨ w.heap.size ≤ k_) ∧ some k_ ≠ (.slice Ao6 y166.length co6 : Value).ownBlock) ho0 (fun k_ hk_ => ⟨Or.elim hk_ (fun hs_ => hs_.1) (fun hn_ => (.inr (Nat.le_trans (below_size bz) hn_))), Or.elim hk_ (fun hs_ => hs_.2) (fun hn_ => (Kd.fresh' (Kd.R_lt (rz HO168.out)) k_ hn_))⟩)) (below_size bz)); have n3_ := am (below_step bz hb); clear HO0 HO168 HB; have HO0 := n0_; have HO168 := n1_; have HO171 := n2_; have HB := n3_; clear n0_ n1_ n2_ n3_; (try clear hb); (try clear hb2); (try clear hk); (try clear hi); (try clear ho0)) | ((with_reducible refine gate_dst (N := 6) rfl ?_); refine Kd.R_lit (Kd.int .u8) _ 5 ?hg (N := 6) ?hd (xs := ([13] : List Int)) (inner := [.int .u8 13]) (ok := fun _ => True) (okp := fun _ => True) ?hr ?hp (fun _ hk => hk) trivial (Below.refl _ _) (Nat.le_refl _) (by simp) ?_; (case hd => rfl); (case hg => rfl); (case hr => first | (go_simp; done) | (go_simp; rfl)); (case hp => exact (Reps.one (show Kd.M (Kd.int .u8) _ _ _ 13 [.int .u8 13] from rfl) (Reps.none _ _))); intro v173 w8 ho9 hb hg_ hnew_; clear hg_ hnew_; (first | rw [← Ny172.out] at ho9 | (simp only [Int.reduceToNat] at ho9; rw [← Ny172.out] at ho9)); have n0_ := am (Kd.V_elder' (vz HO0.out) (Kd.R_base ho9) hb); have n1_ := am (Kd.R_elder' (rz HO168.out) (Kd.R_base ho9) hb); have n2_ := am (Kd.V_elder' (vz HO171.out) (Kd.R_base ho9) hb); have n3_ := am (Kd.R_lower (Kd.R_new' (Kd.R_newM (M := fun k_ => (w.heap.size ≤ k_)) ho9 (below_size bz) (fun k_ h_ => h_)) (Kd.R_lt (rz HO168.out))) (below_size bz)); have n4_ := am (below_step bz hb); clear HO0 HO168 HO171 HB; have HO0 := n0_; have HO168 := n1_; have HO171 := n2_; have HO174 := n3_; have HB := n4_; clear n0_ n1_ n2_ n3_ n4_; clear hb ho9; obtain ⟨Ao10, co10, eo10⟩ := Kd.V_slice HO171.out; subst eo10; obtain ⟨Ao11, co11, eo11⟩ := Kd.R_slice HO174.out; subst eo11) | ((with_reducible refine gate_callee (f := 66) rfl ?_); refine goesL_ (some 7) rfl rfl Tryz.func66 (by kernel_rfl) rfl #[.slice Ao10 t169.length co10, .slice Ao11 y172.length co11] rfl mz ?_; (with_reducible refine (bytes_TrimSuffix.calls (fun k_ => (((P0_ k_ ∨ w.heap.size ≤ k_) ∧ some k_ ≠ (.slice Ao6 y166.length co6 : Value).ownBlock) ∧ some k_ ≠ (.slice Ao11 y172.length co11 : Value).ownBlock)) _ _ t169 _ _ y172 t175 _ ?side1 ?side2 ?side3 A3.out).mono ?_); (case side1 => exact HO171.out); (case side2 => exact cz (Kd.R_reads' HO174.out).2.2); (case side3 => exact (Kd.R_reads' HO174.out).2.1); rintro e w12 ⟨v176, rfl, ho0, hb⟩; refine ⟨_, rfl, ?_⟩; have n0_ := am (Kd.V_below (vz HO0.out) hb); have n1_ := am (rx HO168.out hb); have n2_ := am (Kd.V_below (vz HO171.out) hb); have n3_ := am (rx HO174.out hb); have n4_ := am (Kd.V_lower (Kd.V_mono (ok' := fun k_ => (P0_ k_ ∨ w.heap.size ≤ k_) ∧ some k_ ≠ (.slice Ao6 y166.length co6 : Value).ownBlock ∧ some k_ ≠ (.slice Ao11 y172.length co11 : Value).ownBlock) ho0 (fun k_ hk_ => ⟨Or.elim hk_ (fun hs_ => hs_.1.1) (fun hn_ => (.inr (Nat.le_trans (below_size bz) hn_))), Or.elim hk_ (fun hs_ => hs_.1.2) (fun hn_ => (Kd.fresh' (Kd.R_lt (rz HO168.out)) k_ hn_)), Or.elim hk_ (fun hs_ => hs_.2) (fun hn_ => (Kd.fresh' (Kd.R_lt (rz HO174.out)) k_ hn_))⟩)) (below_size bz)); have n5_ := am (below_step bz hb); clear HO0 HO168 HO171 HO174 HB; have HO0 := n0_; have HO168 := n1_; have HO171 := n2_; have HO174 := n3_; have HO177 := n4_; have HB := n5_; clear n0_ n1_ n2_ n3_ n4_ n5_; (try clear hb); (try clear hb2); (try clear hk); (try clear hi); (try clear ho0)))
 go_ret
 exact ⟨_, ez, by (with_reducible repeat (first | apply Kd.V_alloc | apply Kd.V_drewN | apply Kd.V_drew)); exact Kd.V_mono HO177.out (fun _ hk => hk.1), bz⟩

/-! ### head_end: function 48 -/
def head_end.l0 : Nat → Int → List (List Int) → Int → Int → Option (Int)
 | 0, _, _, _, _ => none
 | k + 1, x3, x7, x8, x9 => if x9 < x8 then (if 0 ≤ x9 then (if x9 < (x7.length : Int) then ((head_text.f (rd_L6 x7 x9)).bind fun t182 => (if (t182.length : Int) = 0 then (some (wrap64 (x3 + ((rd_L6 x7 x9).length : Int)))) else (head_end.l0 k (wrap64 (x3 + ((rd_L6 x7 x9).length : Int))) x7 x8 (wrap64 (x9 + 1))))) else (none)) else (none)) else (some x3)
def head_end.f (k : Nat) (l0 : List Int) : Option (Int) := (head_cut.f k l0).bind fun t178 => (head_end.l0 k 0 t178 (t178.length : Int) 0)
set_option maxHeartbeats 8000000 in
set_option maxRecDepth 100000 in
theorem head_end.calls (k : Nat) (A0 : Option Addr) (c0 : Nat) (l0 : List Int) (r : Int) (w : World) (hr0 : Kd.C (Kd.int .u8) w A0 l0.length l0) (hc0 : l0.length ≤ c0) (h : head_end.f k l0 = some r) :
  Calls Tryz.prog 48 #[.slice A0 l0.length c0] w fun e w' => e = .returned (.int .i64 r) ∧ Below w.heap.size w w' := by
 have HR0 := am hr0; have HC0 := am hc0; clear hr0 hc0; have HB := am (Below.refl w.heap.size w); have H : ((head_cut.f k l0).bind fun t178 => (head_end.l0 k 0 t178 (t178.length : Int) 0)) = some r := h; clear h; replace H := Option.bind_eq_some_iff.mp H; obtain ⟨t178, A20, H⟩ := H; replace H : (head_end.l0 k 0 t178 (t178.length : Int) 0) = some r := H; have A2 := am A20; clear A20; have H' := am H; clear H
 go_enter Tryz.func48, Tryz.ntmps48
 go_wp2_with (first | ((with_reducible refine gate_callee (f := 62) rfl ?_); refine goesL_ (some 7) rfl rfl Tryz.func62 (by kernel_rfl) rfl #[.slice A0 l0.length c0] rfl mz ?_; (with_reducible refine (head_cut.calls k (fun k_ => k_ < w.heap.size) _ _ l0 t178 _ ?side1 A2.out).mono ?_); (case side1 => exact Kd.V_mk HC0.out (Kd.F_below (Kd.C_F (Kd.heap_int .u8) HR0.out) bz)); rintro e w3 ⟨v179, rfl, ho0, hb⟩; refine ⟨_, rfl, ?_⟩; have n0_ := am (Kd.V_lower (Kd.V_mono (ok' := fun k_ => True) ho0 (fun k_ hk_ => trivial)) (below_size bz)); have n1_ := am (below_step bz hb); clear HB; have HO180 := n0_; have HB := n1_; clear n0_ n1_; (try clear hb); (try clear hb2); (try clear hk); (try clear hi); (try clear ho0); obtain ⟨Ao4, co4, eo4⟩ := Kd.V_slice HO180.out; subst eo4))
 go_loopg [3, 9] k (fun kq v3 v9 w' => ∃ (x3_1 : Int) (x9_1 : Int), v3 = .int .i64 x3_1 ∧ v9 = .int .i64 x9_1 ∧ Aside0 (head_end.l0 kq x3_1 t178 (t178.length : Int) x9_1 = some r) ∧ Aside0 (kq ≤ k) ∧ Aside0 (Kd.V (Kd.slice 5 (Kd.int .u8)) 34 w' w.heap.size (fun _ => True) (.slice Ao4 t178.length co4) t178) ∧ Aside0 (Below w.heap.size w w'))
 case atStart => exact ⟨(0), (0), sz, sz, H', ⟨Nat.le_refl _⟩, ⟨vz HO180.out⟩, ⟨bz⟩⟩
 case round =>
  clear H'; (try clear p2); (try clear c4); obtain ⟨x3_1, x9_1, rfl, rfl, HA, HK1, HO_7, HB⟩ := hrel
  cases gk with
  | zero => exact absurd HA.out (by simp [head_end.l0])
  | succ k1 =>
   have H := HA.out; clear HA; simp only [head_end.l0] at H
   by_cases c5 : x9_1 < (t178.length : Int)
   ·rw [if_pos c5] at H; have c5b0 : decide (x9_1 < (t178.length : Int)) = true := decide_eq_true c5; clear c5
    by_cases c6 : 0 ≤ x9_1
    ·rw [if_pos c6] at H; have c6b0 : decide (0 ≤ x9_1) = true := decide_eq_true c6; clear c6
     by_cases c7 : x9_1 < (t178.length : Int)
     ·rw [if_pos c7] at H; have c7b0 : decide (x9_1 < (t178.length : Int)) = true := decide_eq_true c7; clear c7; replace H := Option.bind_eq_some_iff.mp H; obtain ⟨t182, A80, H⟩ := H; (try dsimp only at H); have A8 := am A80; clear A80
      by_cases c9 : (t182.length : Int) = 0
      ·rw [if_pos c9] at H; have c9b0 : ((t182.length : Int) == 0) = true := beq_iff_eq.mpr c9; have c9b1 : ((t182.length : Int) != 0) = false := bne_eq_false_iff_eq.mpr c9; clear c9; obtain rfl := Option.some.inj H; have p181 : 0 ≤ (x9_1 : Int) := of_decide_eq_true az; have q181 : x9_1 < (t178.length : Int) := of_decide_eq_true az; obtain ⟨ad181, A181_0, c181_0, e181, hx181_0, hl181_0, hi181_0⟩ := at_L6 (Kd.V_reads' HO_7.out).2.2 x9_1 p181 q181
       cases e181
       obtain ⟨ce181, hce181, hMe181, hcc181⟩ := Kd.V_get HO_7.out [] x9_1 p181 (by first | exact q181 | exact of_decide_eq_true az | (have e_ := (Kd.V_reads' HO_7.out).1; omega)); obtain ⟨ua181_0, uc181_0, rfl, ul181_0, ge181_0⟩ := Kd.FK_slice_open hMe181; have hv181_0 := hcc181 0 _ rfl; rw [Nat.add_zero, show ((Kd.slice 5 (Kd.int .u8))).sz = 1 from rfl, Nat.mul_one] at hv181_0; replace hv181_0 := Option.some.inj (hv181_0.symm.trans hx181_0)
       injection hv181_0 with hva_ hvn_ hvc_
       rw [hva_] at ge181_0; rw [hvc_] at ul181_0; have HL181_0 := am (show Kd.V (Kd.int .u8) 5 _ w.heap.size _ _ (rd_L6 t178 x9_1) from Kd.V_mk ul181_0 ge181_0); clear hva_ hvn_ hvc_ ge181_0 ul181_0 hcc181 hce181; have HR181_0 := am hi181_0; have HC181_0 := am hl181_0; clear hi181_0 hl181_0; replace p181 := eq_true p181; replace q181 := eq_true q181
       go_wp2_with (first | ((with_reducible refine gate_callee (f := 63) rfl ?_); refine goesL_ (some 18) rfl rfl Tryz.func63 (by kernel_rfl) rfl #[.slice A181_0 (rd_L6 t178 x9_1).length c181_0] rfl mz ?_; (with_reducible refine (head_text.calls (fun k_ => True) _ _ (rd_L6 t178 x9_1) t182 _ ?side1 A8.out).mono ?_); (case side1 => exact HL181_0.out); rintro e w10 ⟨v183, rfl, ho0, hb⟩; refine ⟨_, rfl, ?_⟩; have n0_ := am (Kd.V_below (vz HO_7.out) hb); have n1_ := am (Kd.V_below (by (with_reducible repeat (first | apply Kd.V_alloc | apply Kd.V_drewN | apply Kd.V_drew)); exact HL181_0.out) hb); have n2_ := am (Kd.V_lower (Kd.V_mono (ok' := fun k_ => True) ho0 (fun k_ hk_ => trivial)) (below_size bz)); have n3_ := am (Kd.C_below (cz HR181_0.out) hb); have n4_ := am (below_step bz hb); clear HO_7 HL181_0 HR181_0 HB; have HO_7 := n0_; have HL181_0 := n1_; have HO184 := n2_; have HR181_0 := n3_; have HB := n4_; clear n0_ n1_ n2_ n3_ n4_; (try clear hb); (try clear hb2); (try clear hk); (try clear hi); (try clear ho0); obtain ⟨Ao11, co11, eo11⟩ := Kd.V_slice HO184.out; subst eo11))
       go_ret
       exact ⟨ez, bz⟩
      rw [if_neg c9] at H; have c9b0 : ((t182.length : Int) == 0) = false := beq_eq_false_iff_ne.mpr c9; have c9b1 : ((t182.length : Int) != 0) = true := bne_iff_ne.mpr c9
      have c9b2 : ¬ (t182 = []) := fun h_ => c9 (by rw [h_]; rfl)
      have H' := am H; clear H; have p181 : 0 ≤ (x9_1 : Int) := of_decide_eq_true az; have q181 : x9_1 < (t178.length : Int) := of_decide_eq_true az; obtain ⟨ad181, A181_0, c181_0, e181, hx181_0, hl181_0, hi181_0⟩ := at_L6 (Kd.V_reads' HO_7.out).2.2 x9_1 p181 q181
      cases e181
      obtain ⟨ce181, hce181, hMe181, hcc181⟩ := Kd.V_get HO_7.out [] x9_1 p181 (by first | exact q181 | exact of_decide_eq_true az | (have e_ := (Kd.V_reads' HO_7.out).1; omega)); obtain ⟨ua181_0, uc181_0, rfl, ul181_0, ge181_0⟩ := Kd.FK_slice_open hMe181; have hv181_0 := hcc181 0 _ rfl; rw [Nat.add_zero, show ((Kd.slice 5 (Kd.int .u8))).sz = 1 from rfl, Nat.mul_one] at hv181_0; replace hv181_0 := Option.some.inj (hv181_0.symm.trans hx181_0)
      injection hv181_0 with hva_ hvn_ hvc_
      rw [hva_] at ge181_0; rw [hvc_] at ul181_0; have HL181_0 := am (show Kd.V (Kd.int .u8) 5 _ w.heap.size _ _ (rd_L6 t178 x9_1) from Kd.V_mk ul181_0 ge181_0); clear hva_ hvn_ hvc_ ge181_0 ul181_0 hcc181 hce181; have HR181_0 := am hi181_0; have HC181_0 := am hl181_0; clear hi181_0 hl181_0; replace p181 := eq_true p181; replace q181 := eq_true q181
      go_wp2_with (first | ((with_reducible refine gate_callee (f := 63) rfl ?_); refine goesL_ (some 18) rfl rfl Tryz.func63 (by kernel_rfl) rfl #[.slice A181_0 (rd_L6 t178 x9_1).length c181_0] rfl mz ?_; (with_reducible refine (head_text.calls (fun k_ => True) _ _ (rd_L6 t178 x9_1) t182 _ ?side1 A8.out).mono ?_); (case side1 => exact HL181_0.out); rintro e w12 ⟨v183, rfl, ho0, hb⟩; refine ⟨_, rfl, ?_⟩; have n0_ := am (Kd.V_below (vz HO_7.out) hb); have n1_ := am (Kd.V_below (by (with_reducible repeat (first | apply Kd.V_alloc | apply Kd.V_drewN | apply Kd.V_drew)); exact HL181_0.out) hb); have n2_ := am (Kd.V_lower (Kd.V_mono (ok' := fun k_ => True) ho0 (fun k_ hk_ => trivial)) (below_size bz)); have n3_ := am (Kd.C_below (cz HR181_0.out) hb); have n4_ := am (below_step bz hb); clear HO_7 HL181_0 HR181_0 HB; have HO_7 := n0_; have HL181_0 := n1_; have HO184 := n2_; have HR181_0 := n3_; have HB := n4_; clear n0_ n1_ n2_ n3_ n4_; (try clear hb); (try clear hb2); (try clear hk); (try clear hi); (try clear ho0); obtain ⟨Ao13, co13, eo13⟩ := Kd.V_slice HO184.out; subst eo13))
      go_roundg k1
      case measure => have := HK1.out; omega
      case rel => exact ⟨(wrap64 (x3_1 + ((rd_L6 t178 x9_1).length : Int))), (wrap64 (x9_1 + 1)), sz, sz, H', ⟨by have := HK1.out; omega⟩, ⟨vz HO_7.out⟩, ⟨bz⟩⟩
     rw [if_neg c7] at H
     exact absurd H (by simp)
    rw [if_neg c6] at H
    exact absurd H (by simp)
   rw [if_neg c5] at H; have c5b0 : decide (x9_1 < (t178.length : Int)) = false := decide_eq_false c5; clear c5; obtain rfl := Option.some.inj H
   go_wp2
   go_ret
   exact ⟨ez, bz⟩

/-! ### head_Body: function 33 -/
def head_Body.f (k : Nat) (l0 : List Int) : Option (List Int) := (head_end.f k l0).bind fun t190 => (if 0 ≤ t190 then (if t190 ≤ (l0.length : Int) then ((bytes_Clone.f (l0.drop (t190 : Int).toNat)).bind fun t192 => (some t192)) else (none)) else (none))
set_option maxHeartbeats 8000000 in
set_option maxRecDepth 100000 in
theorem head_Body.calls (k : Nat) (A0 : Option Addr) (c0 : Nat) (l0 : List Int) (r : List Int) (w : World) (hr0 : Kd.C (Kd.int .u8) w A0 l0.length l0) (hc0 : l0.length ≤ c0) (h : head_Body.f k l0 = some r) :
  Calls Tryz.prog 33 #[.slice A0 l0.length c0] w fun e w' => ∃ v0_ : Value, e = .returned (v0_) ∧ Kd.R (Kd.int .u8) 5 w' w.heap.size (fun _ => True) v0_ r ∧ Below w.heap.size w w' := by
 have HR0 := am hr0; have HC0 := am hc0; clear hr0 hc0; have HB := am (Below.refl w.heap.size w); have H : ((head_end.f k l0).bind fun t190 => (if 0 ≤ t190 then (if t190 ≤ (l0.length : Int) then ((bytes_Clone.f (l0.drop (t190 : Int).toNat)).bind fun t192 => (some t192)) else (none)) else (none))) = some r := h; clear h; replace H := Option.bind_eq_some_iff.mp H; obtain ⟨t190, A20, H⟩ := H; (try dsimp only at H); have A2 := am A20; clear A20
 by_cases c3 : 0 ≤ t190
 ·rw [if_pos c3] at H; have c3b0 := eq_true c3; have c3b1 : decide (0 ≤ t190) = true := decide_eq_true c3; clear c3
  by_cases c4 : t190 ≤ (l0.length : Int)
  ·rw [if_pos c4] at H; have c4b0 := eq_true c4; have c4b1 : decide (t190 ≤ (l0.length : Int)) = true := decide_eq_true c4; clear c4; replace H := Option.bind_eq_some_iff.mp H; obtain ⟨t192, A50, H⟩ := H; replace H : (some t192) = some r := H; have A5 := am A50; clear A50; obtain rfl := Option.some.inj H
   go_enter Tryz.func33, Tryz.ntmps33
   go_wp2_with (first | ((with_reducible refine gate_callee (f := 48) rfl ?_); refine goesL_ (some 5) rfl rfl Tryz.func48 (by kernel_rfl) rfl #[.slice A0 l0.length c0] rfl mz ?_; (with_reducible refine (head_end.calls k _ _ l0 t190 _ ?side1 ?side2 A2.out).mono ?_); (case side1 => exact cz HR0.out); (case side2 => exact HC0.out); rintro e w6 ⟨rfl, hb⟩; refine ⟨_, rfl, ?_⟩; replace HB := am (below_step bz hb); (try clear hb); (try clear hb2); (try clear hk); (try clear hi); obtain ⟨i07, hi07, _, hsz7, _⟩ := info_parts info5; obtain ⟨A7, hcut7, hA7, hC7⟩ := print_drop_of (P := Tryz.prog) (Value.int .u8) 0 34 5 .i64 Tryz.underlying34 hi07 hsz7 A0 c0 l0 t190 (of_decide_eq_true az) (of_decide_eq_true az) HC0.out; have HR191 := am (Kd.C_of_reads (h1 := fun _ => rfl) (hA7 _ (Kd.reads_of_C HR0.out))); have HC191 := am hC7; clear hA7 hC7 hi07 hsz7) | ((with_reducible refine gate_callee (f := 47) rfl ?_); refine goesL_ (some 7) rfl rfl Tryz.func47 (by kernel_rfl) rfl #[.slice A7 (l0.drop (t190 : Int).toNat).length (c0 - t190.toNat)] rfl (by (try simp only [List.map_toArray, List.map_cons, List.map_nil]); first | done | (rw [show (l0.drop (t190 : Int).toNat).length = (l0.length - t190.toNat) from List.length_drop] <;> rfl) | rfl | (simp only [List.length_drop, List.length_take]; rfl)) ?_; (with_reducible refine (bytes_Clone.calls _ _ (l0.drop (t190 : Int).toNat) t192 _ ?side1 ?side2 A5.out).mono ?_); (case side1 => exact cz (Kd.C_below HR191.out HB.out)); (case side2 => exact HC191.out); rintro e w8 ⟨v193, rfl, ho0, hb⟩; refine ⟨_, rfl, ?_⟩; have n0_ := am (Kd.R_lower ho0 (below_size bz)); have n1_ := am (below_step bz hb); clear HB; have HO194 := n0_; have HB := n1_; clear n0_ n1_; (try clear hb); (try clear hb2); (try clear hk); (try clear hi); (try clear ho0)))
   go_ret
   exact ⟨_, ez, rz HO194.out, bz⟩
  rw [if_neg c4] at H
  exact absurd H (by simp)
 rw [if_neg c3] at H
 exact absurd H (by simp)

-- GIVEN: function 97 (stringslite_Index)

/-! ### stringslite_Cut: function 103 -/
def stringslite_Cut.f (a0 : ByteArray) (a1 : ByteArray) : Option (ByteArray × ByteArray × Bool) := (stringslite_Index.f a0 a1).bind fun t195 => (if t195 ≥ 0 then (if 0 ≤ t195 then (if t195 ≤ (a0.size : Int) then (if 0 ≤ (wrap64 (t195 + (a1.size : Int))) then (if (wrap64 (t195 + (a1.size : Int))) ≤ (a0.size : Int) then (some (a0.extract 0 (t195 : Int).toNat, a0.extract ((wrap64 (t195 + (a1.size : Int))) : Int).toNat a0.size, true)) else (none)) else (none)) else (none)) else (none)) else (some (a0, (⟨#[]⟩ : ByteArray), false)))
set_option maxHeartbeats 8000000 in
set_option maxRecDepth 100000 in
theorem stringslite_Cut.calls (a0 : ByteArray) (a1 : ByteArray) (r1 : ByteArray) (r2 : ByteArray) (r3 : Bool) (w : World) (h : stringslite_Cut.f a0 a1 = some (r1, r2, r3)) :
  Calls Tryz.prog 103 #[.string a0, .string a1] w fun e w' => e = .returned (.tuple #[.string r1, .string r2, .bool r3]) ∧ Below w.heap.size w w' := by
 have HB := am (Below.refl w.heap.size w); have H : ((stringslite_Index.f a0 a1).bind fun t195 => (if t195 ≥ 0 then (if 0 ≤ t195 then (if t195 ≤ (a0.size : Int) then (if 0 ≤ (wrap64 (t195 + (a1.size : Int))) then (if (wrap64 (t195 + (a1.size : Int))) ≤ (a0.size : Int) then (some (a0.extract 0 (t195 : Int).toNat, a0.extract ((wrap64 (t195 + (a1.size : Int))) : Int).toNat a0.size, true)) else (none)) else (none)) else (none)) else (none)) else (some (a0, (⟨#[]⟩ : ByteArray), false)))) = some (r1, r2, r3) := h; clear h; replace H := Option.bind_eq_some_iff.mp H; obtain ⟨t195, A30, H⟩ := H; (try dsimp only at H); have A3 := am A30; clear A30
 by_cases c4 : t195 ≥ 0
 ·rw [if_pos c4] at H; have c4b0 : decide (0 ≤ t195) = true := decide_eq_true c4; clear c4
  by_cases c5 : 0 ≤ t195
  ·rw [if_pos c5] at H; have c5b0 := eq_true c5; have c5b1 : decide (0 ≤ t195) = true := decide_eq_true c5; clear c5
   by_cases c6 : t195 ≤ (a0.size : Int)
   ·rw [if_pos c6] at H; have c6b0 := eq_true c6; have c6b1 : decide (t195 ≤ (a0.size : Int)) = true := decide_eq_true c6; clear c6; obtain ⟨ji7, hji7⟩ : ∃ j_ : Int, (wrap64 (t195 + (a1.size : Int))) = j_ := ⟨_, rfl⟩
    replace H : (if 0 ≤ (ji7) then (if (ji7) ≤ (a0.size : Int) then (some (a0.extract 0 (t195 : Int).toNat, a0.extract ((ji7) : Int).toNat a0.size, true)) else (none)) else (none)) = some (r1, r2, r3) := by first | (rw [hji7] at H; exact H) | (simp only [hji7] at H ⊢; exact H)
    (try rw [hji7] at A3); have hji7w : (IntKind.i64.wrap (t195 + (a1.size : Int))) = ji7 := (i64_w _).trans hji7
    by_cases c8 : 0 ≤ (ji7)
    ·rw [if_pos c8] at H; have c8b0 := eq_true c8; have c8b1 : decide (0 ≤ (ji7)) = true := decide_eq_true c8; clear c8
     by_cases c9 : (ji7) ≤ (a0.size : Int)
     ·rw [if_pos c9] at H; have c9b0 := eq_true c9; have c9b1 : decide ((ji7) ≤ (a0.size : Int)) = true := decide_eq_true c9; clear c9; simp only [Option.some.injEq, Prod.mk.injEq] at H; obtain ⟨rfl, rfl, rfl⟩ := H
      go_enter Tryz.func103, Tryz.ntmps103
      go_wp2_with (first | (go_at_call 97; (with_reducible refine (stringslite_Index.calls a0 a1 t195 _ A3.out).mono ?_); rintro e w10 ⟨rfl, hb⟩; replace HB := am (below_step bz hb); (try clear hb); (try clear hb2); (try clear hk); (try clear hi)))
      repeat (go_quiet (first | (go_at_call 97; (with_reducible refine (stringslite_Index.calls a0 a1 t195 _ A3.out).mono ?_); rintro e w10 ⟨rfl, hb⟩; replace HB := am (below_step bz hb); (try clear hb); (try clear hb2); (try clear hk); (try clear hi))); try go_wp2_with (first | (go_at_call 97; (with_reducible refine (stringslite_Index.calls a0 a1 t195 _ A3.out).mono ?_); rintro e w10 ⟨rfl, hb⟩; replace HB := am (below_step bz hb); (try clear hb); (try clear hb2); (try clear hk); (try clear hi))))
      go_ret3
      exact ⟨by first | rfl | (simp [errW_none, errW_some] <;> rfl) | (simp only [← hji7]; first | rfl | (simp [errW_none, errW_some] <;> rfl)) | (simp [*, errW_none, errW_some] <;> rfl), bz⟩
     rw [if_neg c9] at H
     exact absurd H (by simp)
    rw [if_neg c8] at H
    exact absurd H (by simp)
   rw [if_neg c6] at H
   exact absurd H (by simp)
  rw [if_neg c5] at H
  exact absurd H (by simp)
 rw [if_neg c4] at H; have c4b0 : decide (0 ≤ t195) = false := decide_eq_false c4; clear c4; simp only [Option.some.injEq, Prod.mk.injEq] at H; obtain ⟨rfl, rfl, rfl⟩ := H
 go_enter Tryz.func103, Tryz.ntmps103
 go_wp2_with (first | (go_at_call 97; (with_reducible refine (stringslite_Index.calls a0 a1 t195 _ A3.out).mono ?_); rintro e w11 ⟨rfl, hb⟩; replace HB := am (below_step bz hb); (try clear hb); (try clear hb2); (try clear hk); (try clear hi)))
 repeat (go_quiet (first | (go_at_call 97; (with_reducible refine (stringslite_Index.calls a0 a1 t195 _ A3.out).mono ?_); rintro e w11 ⟨rfl, hb⟩; replace HB := am (below_step bz hb); (try clear hb); (try clear hb2); (try clear hk); (try clear hi))); try go_wp2_with (first | (go_at_call 97; (with_reducible refine (stringslite_Index.calls a0 a1 t195 _ A3.out).mono ?_); rintro e w11 ⟨rfl, hb⟩; replace HB := am (below_step bz hb); (try clear hb); (try clear hb2); (try clear hk); (try clear hi))))
 go_ret3
 exact ⟨ez, bz⟩

/-! ### strings_Cut: function 82 -/
def strings_Cut.f (a0 : ByteArray) (a1 : ByteArray) : Option (ByteArray × ByteArray × Bool) := (stringslite_Cut.f a0 a1).bind fun bt196 => (some (bt196.1, bt196.2.1, bt196.2.2))
set_option maxHeartbeats 8000000 in
set_option maxRecDepth 100000 in
theorem strings_Cut.calls (a0 : ByteArray) (a1 : ByteArray) (r1 : ByteArray) (r2 : ByteArray) (r3 : Bool) (w : World) (h : strings_Cut.f a0 a1 = some (r1, r2, r3)) :
  Calls Tryz.prog 82 #[.string a0, .string a1] w fun e w' => e = .returned (.tuple #[.string r1, .string r2, .bool r3]) ∧ Below w.heap.size w w' := by
 have HB := am (Below.refl w.heap.size w); have H : ((stringslite_Cut.f a0 a1).bind fun bt196 => (some (bt196.1, bt196.2.1, bt196.2.2))) = some (r1, r2, r3) := h; clear h; replace H := Option.bind_eq_some_iff.mp H; obtain ⟨⟨t196, t197, t198⟩, A30, H⟩ := H; replace H : (some (t196, t197, t198)) = some (r1, r2, r3) := H; have A3 := am A30; clear A30; simp only [Option.some.injEq, Prod.mk.injEq] at H; obtain ⟨rfl, rfl, rfl⟩ := H
 go_enter Tryz.func82, Tryz.ntmps82
 go_wp2_with (first | ((with_reducible refine gate_callee (f := 103) rfl ?_); refine goesL_ (some 9) rfl rfl Tryz.func103 (by kernel_rfl) rfl #[.string a0, .string a1] rfl mz ?_; (with_reducible refine (stringslite_Cut.calls a0 a1 t196 t197 t198 _ A3.out).mono ?_); rintro e w4 ⟨rfl, hb⟩; refine ⟨_, rfl, ?_⟩; replace HB := am (below_step bz hb); (try clear hb); (try clear hb2); (try clear hk); (try clear hi)))
 go_ret3
 exact ⟨ez, bz⟩

-- GIVEN: function 84 (strings_Trim)

-- GIVEN: function 122 (strings_ContainsAny)

/-! ### head_Fields: function 99 -/
def head_Fields.l100 : Nat → List (S106) → List (List Int) → Int → Int → Option ((List (S106)))
 | 0, _, _, _, _ => none
 | k + 1, x3, x4, x5, x6 => if (wrap64 (x6 + 1)) ≥ (x4.length : Int) then (some x3) else (if 0 ≤ (wrap64 (x6 + 1)) then (if (wrap64 (x6 + 1)) < (x4.length : Int) then ((head_text.f (rd_L6 x4 (wrap64 (x6 + 1)))).bind fun t205 => (if (strOfNums t205).toList = ([] : List UInt8) then (head_Fields.l100 k x3 x4 x5 (wrap64 (x6 + 1))) else (if 0 ≤ 1 then (if 1 ≤ ((strOfNums t205).size : Int) then ((strings_ContainsAny.f ((strOfNums t205).extract 0 1) (⟨#[32, 9]⟩ : ByteArray)).bind fun t208 => (if t208 = true then (if x5 ≥ 0 then (if 0 ≤ x5 then (if x5 < (x3.length : Int) then ((strings_Trim.f (strOfNums t205) (⟨#[32, 9]⟩ : ByteArray)).bind fun t210 => (if 1 + t210.size ≤ 9223372036854775807 then (if ((rd_T106 x3 x5).f1).size + (1 + t210.size) ≤ 9223372036854775807 then (head_Fields.l100 k (x3.set (x5 : Int).toNat (⟨(rd_T106 x3 x5).f0, ((rd_T106 x3 x5).f1) ++ ((⟨#[32]⟩ : ByteArray) ++ t210)⟩ : S106)) x4 x5 (wrap64 (x6 + 1))) else (none)) else (none))) else (none)) else (none)) else (head_Fields.l100 k x3 x4 x5 (wrap64 (x6 + 1)))) else ((strings_Cut.f (strOfNums t205) (⟨#[58]⟩ : ByteArray)).bind fun bt212 => (if bt212.2.2 = true then ((strings_Trim.f bt212.1 (⟨#[32, 9]⟩ : ByteArray)).bind fun t215 => ((strings_Trim.f bt212.2.1 (⟨#[32, 9]⟩ : ByteArray)).bind fun t216 => (if x3.length < 4398046511104 then (head_Fields.l100 k (x3 ++ [(⟨t215, t216⟩ : S106)]) x4 (x3.length : Int) (wrap64 (x6 + 1))) else (none)))) else (head_Fields.l100 k x3 x4 (-1) (wrap64 (x6 + 1))))))) else (none)) else (none)))) else (none)) else (none))
def head_Fields.f (k : Nat) (l0 : List Int) : Option ((List (S106))) := (head_end.f k l0).bind fun t199 => (if 0 ≤ t199 then (if t199 ≤ (l0.length : Int) then ((head_cut.f k (l0.take (t199 : Int).toNat)).bind fun t201 => (head_Fields.l100 k ([] : List (S106)) t201 (-1) (-1))) else (none)) else (none))
def head_Fields.T12 : Bool × List (List Nat × List Nat) := (true, [([], []), ([], []), ([0, 1], [0, 1]), ([2], [2]), ([3], [3]), ([], []), ([5], [5]), ([6], [6]), ([4, 7], [4, 7]), ([0, 1, 0, 1, 2, 3, 4, 5, 6, 7, 8], [0, 1]), ([9, 0, 1, 2, 3, 4, 5, 6, 7, 8], [9]), ([10, 8, 6, 0, 1, 2, 3, 4, 5, 6, 7, 8], [8, 10])])
def head_Fields.B12 : List Nat := [0, 0, 3, 7, 15, 0, 32, 96, 255, 511, 1023, 2047]
theorem head_Fields.tab12 : rtab .any (opsOf Tryz.f99 12) = head_Fields.T12 := by kernel_rfl
theorem head_Fields.bits12 : waitsOk head_Fields.T12.2 head_Fields.B12 = true := by kernel_rfl
set_option maxHeartbeats 8000000 in
set_option maxRecDepth 100000 in
theorem head_Fields.calls (k : Nat) (A0 : Option Addr) (c0 : Nat) (l0 : List Int) (r : List (S106)) (w : World) (hr0 : Kd.C (Kd.int .u8) w A0 l0.length l0) (hc0 : l0.length ≤ c0) (h : head_Fields.f k l0 = some r) :
  Calls Tryz.prog 99 #[.slice A0 l0.length c0] w fun e w' => ∃ v0_ : Value, e = .returned (v0_) ∧ Kd.R k106 106 w' w.heap.size (fun _ => True) v0_ r ∧ Below w.heap.size w w' := by
 have hu106 := Tryz.underlying106; have HR0 := am hr0; have HC0 := am hc0; clear hr0 hc0; have HB := am (Below.refl w.heap.size w); have H : ((head_end.f k l0).bind fun t199 => (if 0 ≤ t199 then (if t199 ≤ (l0.length : Int) then ((head_cut.f k (l0.take (t199 : Int).toNat)).bind fun t201 => (head_Fields.l100 k ([] : List (S106)) t201 (-1) (-1))) else (none)) else (none))) = some r := h; clear h; replace H := Option.bind_eq_some_iff.mp H; obtain ⟨t199, A20, H⟩ := H; (try dsimp only at H); have A2 := am A20; clear A20
 by_cases c3 : 0 ≤ t199
 ·rw [if_pos c3] at H; have c3b0 := eq_true c3; have c3b1 : decide (0 ≤ t199) = true := decide_eq_true c3; clear c3
  by_cases c4 : t199 ≤ (l0.length : Int)
  ·rw [if_pos c4] at H; have c4b0 := eq_true c4; have c4b1 : decide (t199 ≤ (l0.length : Int)) = true := decide_eq_true c4; clear c4; replace H := Option.bind_eq_some_iff.mp H; obtain ⟨t201, A50, H⟩ := H; replace H : (head_Fields.l100 k ([] : List (S106)) t201 (-1) (-1)) = some r := H; have A5 := am A50; clear A50; have H' := am H; clear H
   go_enter Tryz.func99, Tryz.ntmps99
   try go_wp2
   refine wp_scope_sp scope_pan ?_; intro X HX; generalize hRL0 : Code.seq (Code.label 0) _ = RL0
   try go_wp2_with (first | ((with_reducible refine gate_callee (f := 48) rfl ?_); refine goesL_ (some 13) rfl rfl Tryz.func48 (by kernel_rfl) rfl #[.slice A0 l0.length c0] rfl mz ?_; (with_reducible refine (head_end.calls k _ _ l0 t199 _ ?side1 ?side2 A2.out).mono ?_); (case side1 => exact cz HR0.out); (case side2 => exact HC0.out); rintro e w6 ⟨rfl, hb⟩; refine ⟨_, rfl, ?_⟩; replace HB := am (below_step bz hb); (try clear hb); (try clear hb2); (try clear hk); (try clear hi); obtain ⟨i07, hi07, _, hsz7, _⟩ := info_parts info5; obtain ⟨hcut7, hA7, hC7⟩ := print_take_of (P := Tryz.prog) (Value.int .u8) 0 34 5 .i64 Tryz.underlying34 hi07 hsz7 A0 c0 l0 t199 (of_decide_eq_true az) (of_decide_eq_true az) HC0.out; have HR200 := am (Kd.C_of_reads (h1 := fun _ => rfl) (hA7 _ (Kd.reads_of_C HR0.out))); have HC200 := am hC7; clear hA7 hC7 hi07 hsz7) | ((with_reducible refine gate_callee (f := 62) rfl ?_); refine goesL_ (some 15) rfl rfl Tryz.func62 (by kernel_rfl) rfl #[.slice A0 (l0.take (t199 : Int).toNat).length c0] rfl (by (try simp only [List.map_toArray, List.map_cons, List.map_nil]); first | done | (rw [show (l0.take (t199 : Int).toNat).length = t199.toNat from (by rw [List.length_take]; have h_ : (t199 : Int) ≤ (l0.length : Int) := of_decide_eq_true az; omega)] <;> rfl) | rfl | (simp only [List.length_drop, List.length_take]; rfl)) ?_; (with_reducible refine (head_cut.calls k (fun k_ => k_ < w.heap.size) _ _ (l0.take (t199 : Int).toNat) t201 _ ?side1 A5.out).mono ?_); (case side1 => exact Kd.V_mk HC200.out (Kd.F_below (Kd.C_F (Kd.heap_int .u8) HR200.out) bz)); rintro e w8 ⟨v202, rfl, ho0, hb⟩; refine ⟨_, rfl, ?_⟩; have n0_ := am (Kd.V_lower (Kd.V_mono (ok' := fun k_ => True) ho0 (fun k_ hk_ => trivial)) (below_size bz)); have n1_ := am (below_step bz hb); clear HB; have HO203 := n0_; have HB := n1_; clear n0_ n1_; (try clear hb); (try clear hb2); (try clear hk); (try clear hi); (try clear ho0)))
   subst hRL0; refine wp_label_seq ?_; refine HX.loop (l := 0) rfl (fun (kL : Nat) (aL : Act) (wL : World) => ∃ u1 u2 u3 u5 u6 u7 u8 u9 u10 u11 u12 u13 u14 u15 u16 u17 u18 u19 u20 u21 u22 u23 u24 u25 u26 u27 u28 u29 u30 u31 u32 u33 u34 u35 u36 u37 u38 u39 u40 u41 u42 u43 u44 u45 u46 u47 u48 u49 u50 u51 u52 u53 u54 u55 u56 u57 u58 u59 u60 u61 u62 u63 : Value, (fun kq v3 v5 v6 w' => ∃ (x3_1 : List (S106)) (x5_1 : Int) (x6_1 : Int), v5 = .int .i64 x5_1 ∧ v6 = .int .i64 x6_1 ∧ Aside0 (head_Fields.l100 kq x3_1 t201 x5_1 x6_1 = some r) ∧ Aside0 (kq ≤ k) ∧ Aside0 (Kd.R k106 106 w' w.heap.size (fun _ => True) v3 x3_1) ∧ Aside0 (Kd.V (Kd.slice 5 (Kd.int .u8)) 34 w' w.heap.size (fun k_ => some k_ ≠ (v3 : Value).ownBlock) v202 t201) ∧ Aside0 (Below w.heap.size w w')) kL u3 u5 u6 wL ∧ aL = { tmps := #[.slice A0 l0.length c0, u1, u2, u3, v202, u5, u6, u7, u8, u9, u10, u11, u12, u13, u14, u15, u16, u17, u18, u19, u20, u21, u22, u23, u24, u25, u26, u27, u28, u29, u30, u31, u32, u33, u34, u35, u36, u37, u38, u39, u40, u41, u42, u43, u44, u45, u46, u47, u48, u49, u50, u51, u52, u53, u54, u55, u56, u57, u58, u59, u60, u61, u62, u63], defers := [] }) k ?atStart ?round
   case atStart => ((repeat apply Exists.intro); refine ⟨?_, rfl⟩; exact ⟨(([] : List (S106))), ((-1)), ((-1)), sz, sz, H', ⟨Nat.le_refl _⟩, ⟨nl⟩, ⟨by (with_reducible repeat (first | apply Kd.V_alloc | apply Kd.V_drewN | apply Kd.V_drew)); exact Kd.V_mono HO203.out (fun _ hk => (by simp [Value.ownBlock]))⟩, ⟨bz⟩⟩)
   case round =>
    intro gk _ wr hinv; obtain ⟨u1, u2, u3, u5, u6, u7, u8, u9, u10, u11, u12, u13, u14, u15, u16, hq_0⟩ := hinv; obtain ⟨u17, u18, u19, u20, u21, u22, u23, u24, u25, u26, u27, u28, u29, u30, u31, hq_15⟩ := hq_0; obtain ⟨u32, u33, u34, u35, u36, u37, u38, u39, u40, u41, u42, u43, u44, u45, u46, hq_30⟩ := hq_15; obtain ⟨u47, u48, u49, u50, u51, u52, u53, u54, u55, u56, u57, u58, u59, u60, u61, hq_45⟩ := hq_30; obtain ⟨u62, u63, hq_60⟩ := hq_45; obtain ⟨hrel, ha⟩ := hq_60; subst ha
    try dsimp only
    clear HX; intro _ X _ HX; clear H'; (try clear p2); (try clear c3); (try clear c3b0); (try clear c3b1); (try clear c4); (try clear c4b0); (try clear c4b1); (try clear c6); obtain ⟨x3_1, x5_1, x6_1, rfl, rfl, HA, HK1, HO_3, HO_4, HB⟩ := hrel
    cases gk with
    | zero => exact absurd HA.out (by simp [head_Fields.l100])
    | succ k1 =>
     have H := HA.out; clear HA; simp only [head_Fields.l100] at H
     by_cases c9 : (wrap64 (x6_1 + 1)) ≥ (t201.length : Int)
     ·rw [if_pos c9] at H; have c9b0 : decide ((t201.length : Int) ≤ (wrap64 (x6_1 + 1))) = true := decide_eq_true c9; clear c9; obtain rfl := Option.some.inj H; obtain ⟨Ao10, co10, eo10⟩ := Kd.V_slice HO_4.out; subst eo10
      go_wp2
      (try simp only [Exit.then, Exit.inBlock]); refine HX.ret ?_
      go_ret
      exact ⟨_, ez, rz HO_3.out, bz⟩
     rw [if_neg c9] at H; have c9b0 : decide ((t201.length : Int) ≤ (wrap64 (x6_1 + 1))) = false := decide_eq_false c9; clear c9; obtain ⟨ji11, hji11⟩ : ∃ j_ : Int, (wrap64 (x6_1 + 1)) = j_ := ⟨_, rfl⟩
     replace H : (if 0 ≤ (ji11) then (if (ji11) < (t201.length : Int) then ((head_text.f (rd_L6 t201 (ji11))).bind fun t205 => (if (strOfNums t205).toList = ([] : List UInt8) then (head_Fields.l100 k1 x3_1 t201 x5_1 ji11) else (if 0 ≤ 1 then (if 1 ≤ ((strOfNums t205).size : Int) then ((strings_ContainsAny.f ((strOfNums t205).extract 0 1) (⟨#[32, 9]⟩ : ByteArray)).bind fun t208 => (if t208 = true then (if x5_1 ≥ 0 then (if 0 ≤ x5_1 then (if x5_1 < (x3_1.length : Int) then ((strings_Trim.f (strOfNums t205) (⟨#[32, 9]⟩ : ByteArray)).bind fun t210 => (if 1 + t210.size ≤ 9223372036854775807 then (if ((rd_T106 x3_1 x5_1).f1).size + (1 + t210.size) ≤ 9223372036854775807 then (head_Fields.l100 k1 (x3_1.set (x5_1 : Int).toNat (⟨(rd_T106 x3_1 x5_1).f0, ((rd_T106 x3_1 x5_1).f1) ++ ((⟨#[32]⟩ : ByteArray) ++ t210)⟩ : S106)) t201 x5_1 ji11) else (none)) else (none))) else (none)) else (none)) else (head_Fields.l100 k1 x3_1 t201 x5_1 ji11)) else ((strings_Cut.f (strOfNums t205) (⟨#[58]⟩ : ByteArray)).bind fun bt212 => (if bt212.2.2 = true then ((strings_Trim.f bt212.1 (⟨#[32, 9]⟩ : ByteArray)).bind fun t215 => ((strings_Trim.f bt212.2.1 (⟨#[32, 9]⟩ : ByteArray)).bind fun t216 => (if x3_1.length < 4398046511104 then (head_Fields.l100 k1 (x3_1 ++ [(⟨t215, t216⟩ : S106)]) t201 (x3_1.length : Int) ji11) else (none)))) else (head_Fields.l100 k1 x3_1 t201 (-1) ji11))))) else (none)) else (none)))) else (none)) else (none)) = some r := by first | (rw [hji11] at H; exact H) | (simp only [hji11] at H ⊢; exact H)
     (try rw [hji11] at c9b0); have hji11w : (IntKind.i64.wrap (x6_1 + 1)) = ji11 := (i64_w _).trans hji11
     by_cases c12 : 0 ≤ (ji11)
     ·rw [if_pos c12] at H; have c12b0 : decide (0 ≤ (ji11)) = true := decide_eq_true c12; clear c12
      by_cases c13 : (ji11) < (t201.length : Int)
      ·rw [if_pos c13] at H; have c13b0 : decide ((ji11) < (t201.length : Int)) = true := decide_eq_true c13; clear c13; replace H := Option.bind_eq_some_iff.mp H; obtain ⟨t205, A140, H⟩ := H; (try dsimp only at H); have A14 := am A140; clear A140
       by_cases c15 : (strOfNums t205).toList = ([] : List UInt8)
       ·rw [if_pos c15] at H; have c15b0 : ((strOfNums t205).toList == ([] : List UInt8)) = true := beq_iff_eq.mpr c15; have c15b1 : ((strOfNums t205).toList != ([] : List UInt8)) = false := bne_eq_false_iff_eq.mpr c15; clear c15; have H' := am H; clear H; obtain ⟨Ao16, co16, eo16⟩ := Kd.V_slice HO_4.out; subst eo16; have p204 : 0 ≤ ((ji11) : Int) := of_decide_eq_true az; have q204 : (ji11) < (t201.length : Int) := of_decide_eq_true az; obtain ⟨ad204, A204_0, c204_0, e204, hx204_0, hl204_0, hi204_0⟩ := at_L6 (Kd.V_reads' HO_4.out).2.2 (ji11) p204 q204
        cases e204
        obtain ⟨ce204, hce204, hMe204, hcc204⟩ := Kd.V_get HO_4.out [] (ji11) p204 (by first | exact q204 | exact of_decide_eq_true az | (have e_ := (Kd.V_reads' HO_4.out).1; omega)); obtain ⟨ua204_0, uc204_0, rfl, ul204_0, ge204_0⟩ := Kd.FK_slice_open hMe204; have hv204_0 := hcc204 0 _ rfl; rw [Nat.add_zero, show ((Kd.slice 5 (Kd.int .u8))).sz = 1 from rfl, Nat.mul_one] at hv204_0; replace hv204_0 := Option.some.inj (hv204_0.symm.trans hx204_0)
        injection hv204_0 with hva_ hvn_ hvc_
        rw [hva_] at ge204_0; rw [hvc_] at ul204_0; have HL204_0 := am (show Kd.V (Kd.int .u8) 5 _ w.heap.size _ _ (rd_L6 t201 (ji11)) from Kd.V_mk ul204_0 ge204_0); clear hva_ hvn_ hvc_ ge204_0 ul204_0 hcc204 hce204; have HR204_0 := am hi204_0; have HC204_0 := am hl204_0; clear hi204_0 hl204_0; replace p204 := eq_true p204; replace q204 := eq_true q204
        go_wp2_with (first | ((with_reducible refine gate_callee (f := 63) rfl ?_); refine goesL_ (some 27) rfl rfl Tryz.func63 (by kernel_rfl) rfl #[.slice A204_0 (rd_L6 t201 (ji11)).length c204_0] rfl (by (try simp only [List.map_toArray, List.map_cons, List.map_nil]); first | done | (simp only [hji11]; rfl) | rfl | (simp only [List.length_drop, List.length_take]; rfl)) ?_; (with_reducible refine (head_text.calls (fun k_ => some k_ ≠ (u3 : Value).ownBlock) _ _ (rd_L6 t201 (ji11)) t205 _ ?side1 A14.out).mono ?_); (case side1 => exact HL204_0.out); rintro e w17 ⟨v206, rfl, ho0, hb⟩; refine ⟨_, rfl, ?_⟩; have n0_ := am (Kd.R_below (rz HO_3.out) hb); have n1_ := am (Kd.V_below (vz HO_4.out) hb); have n2_ := am (Kd.V_below (by (with_reducible repeat (first | apply Kd.V_alloc | apply Kd.V_drewN | apply Kd.V_drew)); exact HL204_0.out) hb); have n3_ := am (Kd.V_lower (Kd.V_mono (ok' := fun k_ => some k_ ≠ (u3 : Value).ownBlock) ho0 (fun k_ hk_ => Or.elim hk_ (fun hs_ => hs_) (fun hn_ => (Kd.fresh' (Kd.R_lt (rz HO_3.out)) k_ hn_)))) (below_size bz)); have n4_ := am (Kd.C_below (cz HR204_0.out) hb); have n5_ := am (below_step bz hb); clear HO_3 HO_4 HL204_0 HR204_0 HB; have HO_3 := n0_; have HO_4 := n1_; have HL204_0 := n2_; have HO207 := n3_; have HR204_0 := n4_; have HB := n5_; clear n0_ n1_ n2_ n3_ n4_ n5_; (try clear hb); (try clear hb2); (try clear hk); (try clear hi); (try clear ho0); (first | have hcv18 := own_string (P := Tryz.prog) Tryz.underlying34 Tryz.underlying5 Tryz.underlying9 (Kd.own_of_R HO207.out) | have hcv18 := V_string (P := Tryz.prog) Tryz.underlying34 Tryz.underlying5 Tryz.underlying9 HO207.out)))
        go_step3
        (try simp only [Exit.then, Exit.inBlock]); refine HX.again ?_
        go_roundg k1
        case measure => have := HK1.out; omega
        case rel => exact ⟨(x3_1), (x5_1), (ji11), sz, (by first | rfl | (simp; done) | (simp only [← hji11] <;> (first | rfl | simp)) | (simp [*]; done)), H', ⟨by have := HK1.out; omega⟩, ⟨rz HO_3.out⟩, ⟨vz HO_4.out⟩, ⟨bz⟩⟩
       rw [if_neg c15] at H; have c15b0 : ((strOfNums t205).toList == ([] : List UInt8)) = false := beq_eq_false_iff_ne.mpr c15; have c15b1 : ((strOfNums t205).toList != ([] : List UInt8)) = true := bne_iff_ne.mpr c15
       by_cases c19 : 0 ≤ 1
       ·rw [if_pos c19] at H; have c19b0 := eq_true c19; have c19b1 : decide (0 ≤ 1) = true := decide_eq_true c19; clear c19
        by_cases c20 : 1 ≤ ((strOfNums t205).size : Int)
        ·rw [if_pos c20] at H; have c20b0 := eq_true c20; have c20b1 : decide (1 ≤ ((strOfNums t205).size : Int)) = true := decide_eq_true c20; clear c20; replace H := Option.bind_eq_some_iff.mp H; obtain ⟨t208, A210, H⟩ := H; (try dsimp only at H); have A21 := am A210; clear A210
         by_cases c22 : t208 = true
         ·subst c22
          have H1 : (if x5_1 ≥ 0 then (if 0 ≤ x5_1 then (if x5_1 < (x3_1.length : Int) then ((strings_Trim.f (strOfNums t205) (⟨#[32, 9]⟩ : ByteArray)).bind fun t210 => (if 1 + t210.size ≤ 9223372036854775807 then (if ((rd_T106 x3_1 x5_1).f1).size + (1 + t210.size) ≤ 9223372036854775807 then (head_Fields.l100 k1 (x3_1.set (x5_1 : Int).toNat (⟨(rd_T106 x3_1 x5_1).f0, ((rd_T106 x3_1 x5_1).f1) ++ ((⟨#[32]⟩ : ByteArray) ++ t210)⟩ : S106)) t201 x5_1 ji11) else (none)) else (none))) else (none)) else (none)) else (head_Fields.l100 k1 x3_1 t201 x5_1 ji11)) = some r := by rw [if_pos rfl] at H; exact H
          clear H; have H := H1; clear H1
          by_cases c23 : x5_1 ≥ 0
          ·rw [if_pos c23] at H; have c23b0 : decide (0 ≤ x5_1) = true := decide_eq_true c23; clear c23
           by_cases c24 : 0 ≤ x5_1
           ·rw [if_pos c24] at H; have c24b0 : decide (0 ≤ x5_1) = true := decide_eq_true c24; clear c24
            by_cases c25 : x5_1 < (x3_1.length : Int)
            ·rw [if_pos c25] at H; have c25b0 : decide (x5_1 < (x3_1.length : Int)) = true := decide_eq_true c25; clear c25; replace H := Option.bind_eq_some_iff.mp H; obtain ⟨t210, A260, H⟩ := H; (try dsimp only at H); have A26 := am A260; clear A260
             by_cases c27 : 1 + t210.size ≤ 9223372036854775807
             ·rw [if_pos c27] at H; have c27b0 := eq_true c27; have c27b1 : decide (1 + t210.size ≤ 9223372036854775807) = true := decide_eq_true c27
              try have c27b2 : (9223372036854775807 < 1 + t210.size) = False := eq_false (Nat.not_lt.2 c27)
              by_cases c28 : ((rd_T106 x3_1 x5_1).f1).size + (1 + t210.size) ≤ 9223372036854775807
              ·rw [if_pos c28] at H; have c28b0 := eq_true c28; have c28b1 : decide (((rd_T106 x3_1 x5_1).f1).size + (1 + t210.size) ≤ 9223372036854775807) = true := decide_eq_true c28
               try have c28b2 : (9223372036854775807 < ((rd_T106 x3_1 x5_1).f1).size + (1 + t210.size)) = False := eq_false (Nat.not_lt.2 c28)
               obtain ⟨y211, hy211⟩ : ∃ y_ : List (S106), y_ = (x3_1.set (x5_1 : Int).toNat (⟨(rd_T106 x3_1 x5_1).f0, ((rd_T106 x3_1 x5_1).f1) ++ ((⟨#[32]⟩ : ByteArray) ++ t210)⟩ : S106)) := ⟨_, rfl⟩
               replace H : (head_Fields.l100 k1 y211 t201 x5_1 ji11) = some r := by first | (rw [hy211]; with_reducible exact H) | (have H2_ := (Option.bind_some _ _).symm.trans H; rw [hy211]; with_reducible exact H2_) | (have H2_ := (Option.bind_some _ _).symm.trans H; with_reducible exact H2_) | with_reducible exact H | (rw [hy211]; exact H) | exact H
               have Ny211 := am hy211; clear hy211; have H' := am H; clear H; obtain ⟨Ao30, co30, eo30⟩ := Kd.V_slice HO_4.out; subst eo30; have p204 : 0 ≤ ((ji11) : Int) := of_decide_eq_true az; have q204 : (ji11) < (t201.length : Int) := of_decide_eq_true az; obtain ⟨ad204, A204_0, c204_0, e204, hx204_0, hl204_0, hi204_0⟩ := at_L6 (Kd.V_reads' HO_4.out).2.2 (ji11) p204 q204
               cases e204
               obtain ⟨ce204, hce204, hMe204, hcc204⟩ := Kd.V_get HO_4.out [] (ji11) p204 (by first | exact q204 | exact of_decide_eq_true az | (have e_ := (Kd.V_reads' HO_4.out).1; omega)); obtain ⟨ua204_0, uc204_0, rfl, ul204_0, ge204_0⟩ := Kd.FK_slice_open hMe204; have hv204_0 := hcc204 0 _ rfl; rw [Nat.add_zero, show ((Kd.slice 5 (Kd.int .u8))).sz = 1 from rfl, Nat.mul_one] at hv204_0; replace hv204_0 := Option.some.inj (hv204_0.symm.trans hx204_0)
               injection hv204_0 with hva_ hvn_ hvc_
               rw [hva_] at ge204_0; rw [hvc_] at ul204_0; have HL204_0 := am (show Kd.V (Kd.int .u8) 5 _ w.heap.size _ _ (rd_L6 t201 (ji11)) from Kd.V_mk ul204_0 ge204_0); clear hva_ hvn_ hvc_ ge204_0 ul204_0 hcc204 hce204; have HR204_0 := am hi204_0; have HC204_0 := am hl204_0; clear hi204_0 hl204_0; replace p204 := eq_true p204; replace q204 := eq_true q204
               try go_wp2_with (first | ((with_reducible refine gate_callee (f := 63) rfl ?_); refine goesL_ (some 27) rfl rfl Tryz.func63 (by kernel_rfl) rfl #[.slice A204_0 (rd_L6 t201 (ji11)).length c204_0] rfl (by (try simp only [List.map_toArray, List.map_cons, List.map_nil]); first | done | (simp only [hji11]; rfl) | rfl | (simp only [List.length_drop, List.length_take]; rfl)) ?_; (with_reducible refine (head_text.calls (fun k_ => some k_ ≠ (u3 : Value).ownBlock) _ _ (rd_L6 t201 (ji11)) t205 _ ?side1 A14.out).mono ?_); (case side1 => exact HL204_0.out); rintro e w31 ⟨v206, rfl, ho0, hb⟩; refine ⟨_, rfl, ?_⟩; have n0_ := am (Kd.R_below (rz HO_3.out) hb); have n1_ := am (Kd.V_below (vz HO_4.out) hb); have n2_ := am (Kd.V_below (by (with_reducible repeat (first | apply Kd.V_alloc | apply Kd.V_drewN | apply Kd.V_drew)); exact HL204_0.out) hb); have n3_ := am (Kd.V_lower (Kd.V_mono (ok' := fun k_ => some k_ ≠ (u3 : Value).ownBlock) ho0 (fun k_ hk_ => Or.elim hk_ (fun hs_ => hs_) (fun hn_ => (Kd.fresh' (Kd.R_lt (rz HO_3.out)) k_ hn_)))) (below_size bz)); have n4_ := am (Kd.C_below (cz HR204_0.out) hb); have n5_ := am (below_step bz hb); clear HO_3 HO_4 HL204_0 HR204_0 HB; have HO_3 := n0_; have HO_4 := n1_; have HL204_0 := n2_; have HO207 := n3_; have HR204_0 := n4_; have HB := n5_; clear n0_ n1_ n2_ n3_ n4_ n5_; (try clear hb); (try clear hb2); (try clear hk); (try clear hi); (try clear ho0); (first | have hcv32 := own_string (P := Tryz.prog) Tryz.underlying34 Tryz.underlying5 Tryz.underlying9 (Kd.own_of_R HO207.out) | have hcv32 := V_string (P := Tryz.prog) Tryz.underlying34 Tryz.underlying5 Tryz.underlying9 HO207.out)) | ((with_reducible refine gate_callee (f := 122) rfl ?_); refine goesL_ (some 33) rfl rfl Tryz.func122 (by kernel_rfl) rfl #[.string ((strOfNums t205).extract 0 1), .string (⟨#[32, 9]⟩ : ByteArray)] rfl mz ?_; (with_reducible refine (strings_ContainsAny.calls ((strOfNums t205).extract 0 1) (⟨#[32, 9]⟩ : ByteArray) true _ A21.out).mono ?_); rintro e w33 ⟨rfl, hb⟩; refine ⟨_, rfl, ?_⟩; replace HO_3 := am (Kd.R_below (rz HO_3.out) hb); replace HO_4 := am (Kd.V_below (vz HO_4.out) hb); replace HL204_0 := am (Kd.V_below (by (with_reducible repeat (first | apply Kd.V_alloc | apply Kd.V_drewN | apply Kd.V_drew)); exact HL204_0.out) hb); replace HO207 := am (Kd.V_below (vz HO207.out) hb); replace HR204_0 := am (Kd.C_below (cz HR204_0.out) hb); replace HB := am (below_step bz hb); (try clear hb); (try clear hb2); (try clear hk); (try clear hi)))
               have n0_ := am (Kd.R_drew HO_3.out); have n1_ := am (Kd.V_drew HO_4.out); have n2_ := am (Kd.V_drew HL204_0.out); have n3_ := am (Kd.V_drew HO207.out); have n4_ := am (Kd.C_drew HR204_0.out); have n5_ := am (below_drew1 HB.out); clear HO_3 HO_4 HL204_0 HO207 HR204_0 HB; have HO_3 := n0_; have HO_4 := n1_; have HL204_0 := n2_; have HO207 := n3_; have HR204_0 := n4_; have HB := n5_; clear n0_ n1_ n2_ n3_ n4_ n5_; obtain ⟨Ao35, co35, eo35⟩ := Kd.R_slice HO_3.out
               (first | subst eo35 | (injection eo35 with f1_ f2_ f3_; have f4_ := f1_.symm; have f5_ := f3_.symm; clear f1_ f2_ f3_; subst f4_; subst f5_))
               have p209 : 0 ≤ (x5_1 : Int) := of_decide_eq_true az; have q209 : x5_1 < (x3_1.length : Int) := of_decide_eq_true az; obtain ⟨ad209, e209, hx209_0, hx209_1⟩ := at_T106 (Kd.R_reads' HO_3.out).2.2 x5_1 p209 q209
               cases e209
               replace p209 := eq_true p209; replace q209 := eq_true q209; refine start_ (n := 12) (S := fun w' => w'.cell? (ad209.add ((x5_1).toNat * 2)) = some (.string ((rd_T106 x3_1 x5_1).f0)) ∧ w'.cell? ⟨(ad209.add ((x5_1).toNat * 2)).block, (ad209.add ((x5_1).toNat * 2)).off + 1, none⟩ = some (.string ((rd_T106 x3_1 x5_1).f1))) (ds := [11]) #[false, false, false, false, false, false, false, false, false, false, false, false] (by kernel_rfl) rfl rfl ⟨hx209_0, hx209_1⟩ (fun hHeld => ?_); refine with_tabW head_Fields.tab12 head_Fields.bits12 (fun HT_ HW_ => ?_); generalize w33.drew = w34 at HO_3 HO_4 HL204_0 HO207 HR204_0 HB hx209_0 hx209_1 hHeld ⊢; refine pure_ (i := 0) (N := some 36) (v := ?_) (a' := ?_) #[true, false, false, false, false, false, false, false, false, false, false, false] rfl rfl (any_of HT_.out (by kernel_rfl)) (by first | exact fun _ _ _ h => h | exact fun _ _ _ h => HX.pan (put_defers _ _ _).symm h) (Or.inl ⟨by rfl, ?_⟩) ?_ ?_; rotate_left
               ·intro w'; go_simp; with_reducible rfl
               rotate_left
               ·simp only [Act.put, List.setIfInBounds_toArray, List.set_cons_zero, List.set_cons_succ, i64_w, i32_w]; rfl
               refine pure_ (i := 1) (N := some 37) (v := ?_) (a' := ?_) #[true, true, false, false, false, false, false, false, false, false, false, false] rfl rfl (any_of HT_.out (by kernel_rfl)) (by first | exact fun _ _ _ h => h | exact fun _ _ _ h => HX.pan (put_defers _ _ _).symm h) (Or.inl ⟨by rfl, ?_⟩) ?_ ?_; rotate_left
               ·intro w'; go_simp; with_reducible rfl
               rotate_left
               ·simp only [Act.put, List.setIfInBounds_toArray, List.set_cons_zero, List.set_cons_succ, i64_w, i32_w]; rfl
               refine pure_ (i := 2) (N := some 38) (v := ?_) (a' := ?_) #[true, true, true, false, false, false, false, false, false, false, false, false] rfl rfl (any_of HT_.out (by kernel_rfl)) (by first | exact fun _ _ _ h => h | exact fun _ _ _ h => HX.pan (put_defers _ _ _).symm h) (Or.inl ⟨by rfl, ?_⟩) ?_ ?_; rotate_left
               ·intro w'; go_simp; with_reducible rfl
               rotate_left
               ·simp only [Act.put, List.setIfInBounds_toArray, List.set_cons_zero, List.set_cons_succ, i64_w, i32_w]; rfl
               refine pure_ (i := 3) (N := some 39) (v := ?_) (a' := ?_) #[true, true, true, true, false, false, false, false, false, false, false, false] rfl rfl (any_of HT_.out (by kernel_rfl)) (by first | exact fun _ _ _ h => h | exact fun _ _ _ h => HX.pan (put_defers _ _ _).symm h) (Or.inl ⟨by rfl, ?_⟩) ?_ ?_; rotate_left
               ·intro w'; go_simp; with_reducible rfl
               rotate_left
               ·simp only [Act.put, List.setIfInBounds_toArray, List.set_cons_zero, List.set_cons_succ, i64_w, i32_w]; rfl
               refine pure_ (i := 5) (N := some 41) (v := ?_) (a' := ?_) #[true, true, true, true, false, true, false, false, false, false, false, false] rfl rfl (any_of HT_.out (by kernel_rfl)) (by first | exact fun _ _ _ h => h | exact fun _ _ _ h => HX.pan (put_defers _ _ _).symm h) (Or.inl ⟨by rfl, ?_⟩) ?_ ?_; rotate_left
               ·intro w'; go_simp; with_reducible rfl
               rotate_left
               ·simp only [Act.put, List.setIfInBounds_toArray, List.set_cons_zero, List.set_cons_succ, i64_w, i32_w]; rfl
               refine take_ (i := 4) (N := some 40) (v := ?_) (a' := ?_) #[true, true, true, true, true, true, false, false, false, false, false, false] rfl rfl (take_ofW HT_.out HW_.out (by kernel_rfl)) (by first | exact fun _ _ _ h => h | exact fun _ _ _ h => HX.pan (put_defers _ _ _).symm h) (Or.inl ⟨by rfl, ?_⟩) hHeld ?_ ?_; rotate_left
               ·rintro w' ⟨s0, s1⟩; go_simp; with_reducible rfl
               rotate_left
               ·simp only [Act.put, List.setIfInBounds_toArray, List.set_cons_zero, List.set_cons_succ, i64_w, i32_w]; rfl
               refine one_ (i := 6) (N := some 42) #[true, true, true, true, true, true, true, false, false, false, false, false] rfl rfl (one_of HT_.out (by kernel_rfl)) (by decide) (fun K hK => ?_); refine goes_ Tryz.func84 (by kernel_rfl) rfl #[.string (strOfNums t205), .string (⟨#[32, 9]⟩ : ByteArray)] (by rfl) rfl rfl mz ?_
               with_reducible refine (strings_Trim.calls (strOfNums t205) (⟨#[32, 9]⟩ : ByteArray) t210 _ A26.out).mono ?_; rintro e w36 ⟨rfl, hb⟩; have HS0_ := (hb.cell (World.block_lt_of_cell? _ _ (hHeld.1))).trans (hHeld.1); have HS1_ := (hb.cell (World.block_lt_of_cell? _ _ (hHeld.2))).trans (hHeld.2); refine ⟨_, rfl, ?_⟩; have n0_ := am (Kd.R_below (rz HO_3.out) hb)
               have n1_ := am (Kd.V_below (vz HO_4.out) hb); have n2_ := am (Kd.V_below (by (with_reducible repeat (first | apply Kd.V_alloc | apply Kd.V_drewN | apply Kd.V_drew)); exact HL204_0.out) hb)
               have n3_ := am (Kd.V_below (vz HO207.out) hb); have n4_ := am (Kd.C_below (cz HR204_0.out) hb); have n5_ := am (below_step bz hb); clear HO_3 HO_4 HL204_0 HO207 HR204_0 HB; have HO_3 := n0_; have HO_4 := n1_; have HL204_0 := n2_; have HO207 := n3_; have HR204_0 := n4_; have HB := n5_; clear n0_ n1_ n2_ n3_ n4_ n5_; (try clear hb); (try clear hb2); (try clear hk); (try clear hi); have p29 : 0 ≤ (x5_1 : Int) := of_decide_eq_true az; have q29 : (x5_1 : Int) < ((x3_1.length : Int) : Int) := of_decide_eq_true az; obtain ⟨go29, co29, eo29, gb29, gl29, cl29, HG29⟩ := Kd.R_form HO_3.out (by omega)
               (first | cases eo29 | (injection eo29 with ea_ en_ ec_; (first | subst ea_ | (injection ea_ with ea_; subst ea_)); subst ec_; clear en_))
               have GB29 := am gb29; have GG29 := am HG29; clear gb29 gl29 HG29
               (first | simp only [add_plain] at hx209_0 | skip)
               (first | simp only [add_plain] at hx209_1 | skip)
               obtain ⟨ce29, hcl29, hM29, hcc29, hfr29⟩ := Kd.R_elem HO_3.out z106 (x5_1 : Int) p29 q29; obtain rfl := k106_openM hM29; have hx29_0 : World.cell? _ ⟨go29, (x5_1 : Int).toNat * 2, none⟩ = some (.string ((rd_T106 x3_1 x5_1).f0)) := hcc29 0 _ rfl; have hx29_1 : World.cell? _ ⟨go29, (x5_1 : Int).toNat * 2 + 1, none⟩ = some (.string ((rd_T106 x3_1 x5_1).f1)) := hcc29 1 _ rfl; have hf29_0 : World.frozen? _ ⟨go29, (x5_1 : Int).toNat * 2, none⟩ = false := hfr29 0; have hf29_1 : World.frozen? _ ⟨go29, (x5_1 : Int).toNat * 2 + 1, none⟩ = false := hfr29 1; clear hcl29 hcc29 hfr29 hM29; replace p29 := eq_true p29; replace q29 := eq_true q29; obtain ⟨ce37, hcl37, hM37, hcc37, hfr37⟩ := Kd.R_elem HO_3.out z106 (x5_1 : Int) (of_decide_eq_true az) (by have h_ : (x5_1 : Int) < ((x3_1.length : Int) : Int) := of_decide_eq_true az; first | exact h_ | (have e_ := (Kd.R_reads' HO_3.out).1; omega) | simpa using h_)
               obtain rfl := k106_openM hM37; have HP37 := (Kd.R_seg HO_3.out (x5_1 : Int) (of_decide_eq_true az) (by have h_ : (x5_1 : Int) < ((x3_1.length : Int) : Int) := of_decide_eq_true az; first | exact h_ | (have e_ := (Kd.R_reads' HO_3.out).1; omega) | simpa using h_) (seg := [.string (((rd_T106 x3_1 x5_1).f1) ++ ((⟨#[32]⟩ : ByteArray) ++ t210))]) (j := 1) hcl37 hcc37 (show 2 ≤ 2 from by decide) (x' := (⟨(rd_T106 x3_1 x5_1).f0, ((rd_T106 x3_1 x5_1).f1) ++ ((⟨#[32]⟩ : ByteArray) ++ t210)⟩ : S106)) (k106_mkM _ _ _ (⟨(rd_T106 x3_1 x5_1).f0, ((rd_T106 x3_1 x5_1).f1) ++ ((⟨#[32]⟩ : ByteArray) ++ t210)⟩ : S106) ) (fun _ hk => hk)).1
               rw [← Ny211.out] at HP37; have HQ37 := am HP37; clear hcl37 hcc37 hfr37 hM37 HP37; refine hK.out _ _ ⟨HS0_, HS1_⟩ (fun hHeld => ?_); clear hK K; refine norm_ (a' := ?_) ?_ ?_; rotate_left
               ·show Act.put _ (some 42) _ = _
                simp only [Act.put, List.setIfInBounds_toArray, List.set_cons_zero, List.set_cons_succ, i64_w, i32_w]; rfl
               refine pure_ (i := 7) (N := some 43) (v := ?_) (a' := ?_) #[true, true, true, true, true, true, true, true, false, false, false, false] rfl rfl (any_of HT_.out (by kernel_rfl)) (by first | exact fun _ _ _ h => h | exact fun _ _ _ h => HX.pan (put_defers _ _ _).symm h) (Or.inl ⟨by rfl, ?_⟩) ?_ ?_; rotate_left
               ·intro w'; go_simp; with_reducible rfl
               rotate_left
               ·simp only [Act.put, List.setIfInBounds_toArray, List.set_cons_zero, List.set_cons_succ, i64_w, i32_w]; rfl
               refine pure_ (i := 8) (N := some 44) (v := ?_) (a' := ?_) #[true, true, true, true, true, true, true, true, true, false, false, false] rfl rfl (any_of HT_.out (by kernel_rfl)) (by first | exact fun _ _ _ h => h | exact fun _ _ _ h => HX.pan (put_defers _ _ _).symm h) (Or.inl ⟨by rfl, ?_⟩) ?_ ?_; rotate_left
               ·intro w'; go_simp; with_reducible rfl
               rotate_left
               ·simp only [Act.put, List.setIfInBounds_toArray, List.set_cons_zero, List.set_cons_succ, i64_w, i32_w]; rfl
               refine pure_ (i := 9) (N := some 45) (v := ?_) (a' := ?_) #[true, true, true, true, true, true, true, true, true, true, false, false] rfl rfl (any_of HT_.out (by kernel_rfl)) (by first | exact fun _ _ _ h => h | exact fun _ _ _ h => HX.pan (put_defers _ _ _).symm h) (Or.inl ⟨by rfl, ?_⟩) ?_ ?_; rotate_left
               ·intro w'; go_simp; with_reducible rfl
               rotate_left
               ·simp only [Act.put, List.setIfInBounds_toArray, List.set_cons_zero, List.set_cons_succ, i64_w, i32_w]; rfl
               refine pure_ (i := 10) (N := some 46) (v := ?_) (a' := ?_) #[true, true, true, true, true, true, true, true, true, true, true, false] rfl rfl (any_of HT_.out (by kernel_rfl)) (by first | exact fun _ _ _ h => h | exact fun _ _ _ h => HX.pan (put_defers _ _ _).symm h) (Or.inl ⟨by rfl, ?_⟩) ?_ ?_; rotate_left
               ·intro w'; go_simp; with_reducible rfl
               rotate_left
               ·simp only [Act.put, List.setIfInBounds_toArray, List.set_cons_zero, List.set_cons_succ, i64_w, i32_w]; rfl
               refine last_ (i := 11) (N := none) #[true, true, true, true, true, true, true, true, true, true, true, true] rfl rfl (one_of HT_.out (by kernel_rfl)) (by decide) (fun K hK => ?_); refine skip_ (w1 := ?_) (by rfl) rfl ?_ ?_; rotate_left
               ·go_simp; rfl
               refine hK.out _ _ ?_; clear hK K; refine done_ (done_of HT_.out (by kernel_rfl)) ?_
               try go_wp2
               go_step3
               (try simp only [Exit.then, Exit.inBlock]); refine HX.again ?_
               go_roundg k1
               case measure => have := HK1.out; omega
               case rel => exact ⟨(y211), (x5_1), (ji11), sz, (by first | rfl | (simp; done) | (simp only [← hji11] <;> (first | rfl | simp)) | (simp [*]; done)), H', ⟨by have := HK1.out; omega⟩, ⟨by (with_reducible repeat first | apply rA | apply rN | apply rD); exact HQ37.out⟩, ⟨by (with_reducible repeat (first | apply Kd.V_alloc | apply Kd.V_drewN | apply Kd.V_drew)); exact Kd.V_mono (Kd.V_far (p := ⟨go29, (x5_1 : Int).toNat * 2 + 1, none⟩) (Kd.V_mono HO_4.out (fun k_ hk => (⟨hk, fun e_ => hk (by rw [e_]; rfl)⟩ : _ ∧ k_ ≠ go29))) (fun _ hk => hk.2) (.string (((rd_T106 x3_1 x5_1).f1) ++ ((⟨#[32]⟩ : ByteArray) ++ t210)))) (fun _ hk => hk.1)⟩, ⟨by repeat (first | (with_reducible first | exact HB.out | apply bA | apply bN | apply bD | refine below_set ?_ GB29.out) | exact HB.out)⟩⟩
              rw [if_neg c28] at H
              exact absurd H (by simp)
             rw [if_neg c27] at H
             exact absurd H (by simp)
            rw [if_neg c25] at H
            exact absurd H (by simp)
           rw [if_neg c24] at H
           exact absurd H (by simp)
          rw [if_neg c23] at H; have c23b0 : decide (0 ≤ x5_1) = false := decide_eq_false c23; clear c23; have H' := am H; clear H; obtain ⟨Ao38, co38, eo38⟩ := Kd.V_slice HO_4.out; subst eo38; have p204 : 0 ≤ ((ji11) : Int) := of_decide_eq_true az; have q204 : (ji11) < (t201.length : Int) := of_decide_eq_true az; obtain ⟨ad204, A204_0, c204_0, e204, hx204_0, hl204_0, hi204_0⟩ := at_L6 (Kd.V_reads' HO_4.out).2.2 (ji11) p204 q204
          cases e204
          obtain ⟨ce204, hce204, hMe204, hcc204⟩ := Kd.V_get HO_4.out [] (ji11) p204 (by first | exact q204 | exact of_decide_eq_true az | (have e_ := (Kd.V_reads' HO_4.out).1; omega)); obtain ⟨ua204_0, uc204_0, rfl, ul204_0, ge204_0⟩ := Kd.FK_slice_open hMe204; have hv204_0 := hcc204 0 _ rfl; rw [Nat.add_zero, show ((Kd.slice 5 (Kd.int .u8))).sz = 1 from rfl, Nat.mul_one] at hv204_0; replace hv204_0 := Option.some.inj (hv204_0.symm.trans hx204_0)
          injection hv204_0 with hva_ hvn_ hvc_
          rw [hva_] at ge204_0; rw [hvc_] at ul204_0; have HL204_0 := am (show Kd.V (Kd.int .u8) 5 _ w.heap.size _ _ (rd_L6 t201 (ji11)) from Kd.V_mk ul204_0 ge204_0); clear hva_ hvn_ hvc_ ge204_0 ul204_0 hcc204 hce204; have HR204_0 := am hi204_0; have HC204_0 := am hl204_0; clear hi204_0 hl204_0; replace p204 := eq_true p204; replace q204 := eq_true q204
          go_wp2_with (first | ((with_reducible refine gate_callee (f := 63) rfl ?_); refine goesL_ (some 27) rfl rfl Tryz.func63 (by kernel_rfl) rfl #[.slice A204_0 (rd_L6 t201 (ji11)).length c204_0] rfl (by (try simp only [List.map_toArray, List.map_cons, List.map_nil]); first | done | (simp only [hji11]; rfl) | rfl | (simp only [List.length_drop, List.length_take]; rfl)) ?_; (with_reducible refine (head_text.calls (fun k_ => some k_ ≠ (u3 : Value).ownBlock) _ _ (rd_L6 t201 (ji11)) t205 _ ?side1 A14.out).mono ?_); (case side1 => exact HL204_0.out); rintro e w39 ⟨v206, rfl, ho0, hb⟩; refine ⟨_, rfl, ?_⟩; have n0_ := am (Kd.R_below (rz HO_3.out) hb); have n1_ := am (Kd.V_below (vz HO_4.out) hb); have n2_ := am (Kd.V_below (by (with_reducible repeat (first | apply Kd.V_alloc | apply Kd.V_drewN | apply Kd.V_drew)); exact HL204_0.out) hb); have n3_ := am (Kd.V_lower (Kd.V_mono (ok' := fun k_ => some k_ ≠ (u3 : Value).ownBlock) ho0 (fun k_ hk_ => Or.elim hk_ (fun hs_ => hs_) (fun hn_ => (Kd.fresh' (Kd.R_lt (rz HO_3.out)) k_ hn_)))) (below_size bz)); have n4_ := am (Kd.C_below (cz HR204_0.out) hb); have n5_ := am (below_step bz hb); clear HO_3 HO_4 HL204_0 HR204_0 HB; have HO_3 := n0_; have HO_4 := n1_; have HL204_0 := n2_; have HO207 := n3_; have HR204_0 := n4_; have HB := n5_; clear n0_ n1_ n2_ n3_ n4_ n5_; (try clear hb); (try clear hb2); (try clear hk); (try clear hi); (try clear ho0); (first | have hcv40 := own_string (P := Tryz.prog) Tryz.underlying34 Tryz.underlying5 Tryz.underlying9 (Kd.own_of_R HO207.out) | have hcv40 := V_string (P := Tryz.prog) Tryz.underlying34 Tryz.underlying5 Tryz.underlying9 HO207.out)) | ((with_reducible refine gate_callee (f := 122) rfl ?_); refine goesL_ (some 33) rfl rfl Tryz.func122 (by kernel_rfl) rfl #[.string ((strOfNums t205).extract 0 1), .string (⟨#[32, 9]⟩ : ByteArray)] rfl mz ?_; (with_reducible refine (strings_ContainsAny.calls ((strOfNums t205).extract 0 1) (⟨#[32, 9]⟩ : ByteArray) true _ A21.out).mono ?_); rintro e w41 ⟨rfl, hb⟩; refine ⟨_, rfl, ?_⟩; replace HO_3 := am (Kd.R_below (rz HO_3.out) hb); replace HO_4 := am (Kd.V_below (vz HO_4.out) hb); replace HL204_0 := am (Kd.V_below (by (with_reducible repeat (first | apply Kd.V_alloc | apply Kd.V_drewN | apply Kd.V_drew)); exact HL204_0.out) hb); replace HO207 := am (Kd.V_below (vz HO207.out) hb); replace HR204_0 := am (Kd.C_below (cz HR204_0.out) hb); replace HB := am (below_step bz hb); (try clear hb); (try clear hb2); (try clear hk); (try clear hi)))
          go_step3
          (try simp only [Exit.then, Exit.inBlock]); refine HX.again ?_
          go_roundg k1
          case measure => have := HK1.out; omega
          case rel => exact ⟨(x3_1), (x5_1), (ji11), sz, (by first | rfl | (simp; done) | (simp only [← hji11] <;> (first | rfl | simp)) | (simp [*]; done)), H', ⟨by have := HK1.out; omega⟩, ⟨rz HO_3.out⟩, ⟨vz HO_4.out⟩, ⟨bz⟩⟩
         replace c22 := Bool.eq_false_iff.mpr c22; subst c22
         have H1 : ((strings_Cut.f (strOfNums t205) (⟨#[58]⟩ : ByteArray)).bind fun bt212 => (if bt212.2.2 = true then ((strings_Trim.f bt212.1 (⟨#[32, 9]⟩ : ByteArray)).bind fun t215 => ((strings_Trim.f bt212.2.1 (⟨#[32, 9]⟩ : ByteArray)).bind fun t216 => (if x3_1.length < 4398046511104 then (head_Fields.l100 k1 (x3_1 ++ [(⟨t215, t216⟩ : S106)]) t201 (x3_1.length : Int) ji11) else (none)))) else (head_Fields.l100 k1 x3_1 t201 (-1) ji11))) = some r := by rw [if_neg (show ¬ (false = true) by decide)] at H; exact H
         clear H; have H := H1; clear H1; replace H := Option.bind_eq_some_iff.mp H; obtain ⟨⟨t212, t213, t214⟩, A420, H⟩ := H; (try dsimp only at H); have A42 := am A420; clear A420
         by_cases c43 : t214 = true
         ·subst c43
          have H1 : ((strings_Trim.f t212 (⟨#[32, 9]⟩ : ByteArray)).bind fun t215 => ((strings_Trim.f t213 (⟨#[32, 9]⟩ : ByteArray)).bind fun t216 => (if x3_1.length < 4398046511104 then (head_Fields.l100 k1 (x3_1 ++ [(⟨t215, t216⟩ : S106)]) t201 (x3_1.length : Int) ji11) else (none)))) = some r := by rw [if_pos rfl] at H; exact H
          clear H; have H := H1; clear H1; replace H := Option.bind_eq_some_iff.mp H; obtain ⟨t215, A440, H⟩ := H; (try dsimp only at H); have A44 := am A440; clear A440; replace H := Option.bind_eq_some_iff.mp H; obtain ⟨t216, A450, H⟩ := H; (try dsimp only at H); have A45 := am A450; clear A450
          by_cases c46 : x3_1.length < 4398046511104
          ·rw [if_pos c46] at H; have LMc46 := am c46; clear c46; obtain ⟨y217, hy217⟩ : ∃ y_ : List (S106), y_ = (x3_1 ++ [(⟨t215, t216⟩ : S106)]) := ⟨_, rfl⟩
           replace H : (head_Fields.l100 k1 y217 t201 (x3_1.length : Int) ji11) = some r := by first | (rw [hy217]; with_reducible exact H) | (have H2_ := (Option.bind_some _ _).symm.trans H; rw [hy217]; with_reducible exact H2_) | (have H2_ := (Option.bind_some _ _).symm.trans H; with_reducible exact H2_) | with_reducible exact H | (rw [hy217]; exact H) | exact H
           have Ny217 := am hy217; clear hy217; have H' := am H; clear H; obtain ⟨Ao47, co47, eo47⟩ := Kd.V_slice HO_4.out; subst eo47; have p204 : 0 ≤ ((ji11) : Int) := of_decide_eq_true az; have q204 : (ji11) < (t201.length : Int) := of_decide_eq_true az; obtain ⟨ad204, A204_0, c204_0, e204, hx204_0, hl204_0, hi204_0⟩ := at_L6 (Kd.V_reads' HO_4.out).2.2 (ji11) p204 q204
           cases e204
           obtain ⟨ce204, hce204, hMe204, hcc204⟩ := Kd.V_get HO_4.out [] (ji11) p204 (by first | exact q204 | exact of_decide_eq_true az | (have e_ := (Kd.V_reads' HO_4.out).1; omega)); obtain ⟨ua204_0, uc204_0, rfl, ul204_0, ge204_0⟩ := Kd.FK_slice_open hMe204; have hv204_0 := hcc204 0 _ rfl; rw [Nat.add_zero, show ((Kd.slice 5 (Kd.int .u8))).sz = 1 from rfl, Nat.mul_one] at hv204_0; replace hv204_0 := Option.some.inj (hv204_0.symm.trans hx204_0)
           injection hv204_0 with hva_ hvn_ hvc_
           rw [hva_] at ge204_0; rw [hvc_] at ul204_0; have HL204_0 := am (show Kd.V (Kd.int .u8) 5 _ w.heap.size _ _ (rd_L6 t201 (ji11)) from Kd.V_mk ul204_0 ge204_0); clear hva_ hvn_ hvc_ ge204_0 ul204_0 hcc204 hce204; have HR204_0 := am hi204_0; have HC204_0 := am hl204_0; clear hi204_0 hl204_0; replace p204 := eq_true p204; replace q204 := eq_true q204
           go_wp2_with (first | ((with_reducible refine gate_callee (f := 63) rfl ?_); refine goesL_ (some 27) rfl rfl Tryz.func63 (by kernel_rfl) rfl #[.slice A204_0 (rd_L6 t201 (ji11)).length c204_0] rfl (by (try simp only [List.map_toArray, List.map_cons, List.map_nil]); first | done | (simp only [hji11]; rfl) | rfl | (simp only [List.length_drop, List.length_take]; rfl)) ?_; (with_reducible refine (head_text.calls (fun k_ => some k_ ≠ (u3 : Value).ownBlock) _ _ (rd_L6 t201 (ji11)) t205 _ ?side1 A14.out).mono ?_); (case side1 => exact HL204_0.out); rintro e w48 ⟨v206, rfl, ho0, hb⟩; refine ⟨_, rfl, ?_⟩; have n0_ := am (Kd.R_below (rz HO_3.out) hb); have n1_ := am (Kd.V_below (vz HO_4.out) hb); have n2_ := am (Kd.V_below (by (with_reducible repeat (first | apply Kd.V_alloc | apply Kd.V_drewN | apply Kd.V_drew)); exact HL204_0.out) hb); have n3_ := am (Kd.V_lower (Kd.V_mono (ok' := fun k_ => some k_ ≠ (u3 : Value).ownBlock) ho0 (fun k_ hk_ => Or.elim hk_ (fun hs_ => hs_) (fun hn_ => (Kd.fresh' (Kd.R_lt (rz HO_3.out)) k_ hn_)))) (below_size bz)); have n4_ := am (Kd.C_below (cz HR204_0.out) hb); have n5_ := am (below_step bz hb); clear HO_3 HO_4 HL204_0 HR204_0 HB; have HO_3 := n0_; have HO_4 := n1_; have HL204_0 := n2_; have HO207 := n3_; have HR204_0 := n4_; have HB := n5_; clear n0_ n1_ n2_ n3_ n4_ n5_; (try clear hb); (try clear hb2); (try clear hk); (try clear hi); (try clear ho0); (first | have hcv49 := own_string (P := Tryz.prog) Tryz.underlying34 Tryz.underlying5 Tryz.underlying9 (Kd.own_of_R HO207.out) | have hcv49 := V_string (P := Tryz.prog) Tryz.underlying34 Tryz.underlying5 Tryz.underlying9 HO207.out)) | ((with_reducible refine gate_callee (f := 122) rfl ?_); refine goesL_ (some 33) rfl rfl Tryz.func122 (by kernel_rfl) rfl #[.string ((strOfNums t205).extract 0 1), .string (⟨#[32, 9]⟩ : ByteArray)] rfl mz ?_; (with_reducible refine (strings_ContainsAny.calls ((strOfNums t205).extract 0 1) (⟨#[32, 9]⟩ : ByteArray) false _ A21.out).mono ?_); rintro e w50 ⟨rfl, hb⟩; refine ⟨_, rfl, ?_⟩; replace HO_3 := am (Kd.R_below (rz HO_3.out) hb); replace HO_4 := am (Kd.V_below (vz HO_4.out) hb); replace HL204_0 := am (Kd.V_below (by (with_reducible repeat (first | apply Kd.V_alloc | apply Kd.V_drewN | apply Kd.V_drew)); exact HL204_0.out) hb); replace HO207 := am (Kd.V_below (vz HO207.out) hb); replace HR204_0 := am (Kd.C_below (cz HR204_0.out) hb); replace HB := am (below_step bz hb); (try clear hb); (try clear hb2); (try clear hk); (try clear hi)) | ((with_reducible refine gate_callee (f := 82) rfl ?_); refine goesL_ (some 49) rfl rfl Tryz.func82 (by kernel_rfl) rfl #[.string (strOfNums t205), .string (⟨#[58]⟩ : ByteArray)] rfl mz ?_; (with_reducible refine (strings_Cut.calls (strOfNums t205) (⟨#[58]⟩ : ByteArray) t212 t213 true _ A42.out).mono ?_); rintro e w51 ⟨rfl, hb⟩; refine ⟨_, rfl, ?_⟩; replace HO_3 := am (Kd.R_below (rz HO_3.out) hb); replace HO_4 := am (Kd.V_below (vz HO_4.out) hb); replace HL204_0 := am (Kd.V_below (by (with_reducible repeat (first | apply Kd.V_alloc | apply Kd.V_drewN | apply Kd.V_drew)); exact HL204_0.out) hb); replace HO207 := am (Kd.V_below (vz HO207.out) hb); replace HR204_0 := am (Kd.C_below (cz HR204_0.out) hb); replace HB := am (below_step bz hb); (try clear hb); (try clear hb2); (try clear hk); (try clear hi); obtain ⟨Ao52, co52, eo52⟩ := Kd.R_slice HO_3.out; subst eo52) | ((with_reducible refine gate_callee (f := 84) rfl ?_); refine goesL_ (some 58) rfl rfl Tryz.func84 (by kernel_rfl) rfl #[.string t212, .string (⟨#[32, 9]⟩ : ByteArray)] rfl mz ?_; (with_reducible refine (strings_Trim.calls t212 (⟨#[32, 9]⟩ : ByteArray) t215 _ A44.out).mono ?_); rintro e w53 ⟨rfl, hb⟩; refine ⟨_, rfl, ?_⟩; replace HO_3 := am (Kd.R_below (rz HO_3.out) hb); replace HO_4 := am (Kd.V_below (vz HO_4.out) hb); replace HL204_0 := am (Kd.V_below (by (with_reducible repeat (first | apply Kd.V_alloc | apply Kd.V_drewN | apply Kd.V_drew)); exact HL204_0.out) hb); replace HO207 := am (Kd.V_below (vz HO207.out) hb); replace HR204_0 := am (Kd.C_below (cz HR204_0.out) hb); replace HB := am (below_step bz hb); (try clear hb); (try clear hb2); (try clear hk); (try clear hi)) | ((with_reducible refine gate_callee (f := 84) rfl ?_); refine goesL_ (some 60) rfl rfl Tryz.func84 (by kernel_rfl) rfl #[.string t213, .string (⟨#[32, 9]⟩ : ByteArray)] rfl mz ?_; (with_reducible refine (strings_Trim.calls t213 (⟨#[32, 9]⟩ : ByteArray) t216 _ A45.out).mono ?_); rintro e w54 ⟨rfl, hb⟩; refine ⟨_, rfl, ?_⟩; replace HO_3 := am (Kd.R_below (rz HO_3.out) hb); replace HO_4 := am (Kd.V_below (vz HO_4.out) hb); replace HL204_0 := am (Kd.V_below (by (with_reducible repeat (first | apply Kd.V_alloc | apply Kd.V_drewN | apply Kd.V_drew)); exact HL204_0.out) hb); replace HO207 := am (Kd.V_below (vz HO207.out) hb); replace HR204_0 := am (Kd.C_below (cz HR204_0.out) hb); replace HB := am (below_step bz hb); (try clear hb); (try clear hb2); (try clear hk); (try clear hi)) | ((with_reducible refine gate_builtin (b := .append) (xs := #[.tmp 56, .tmp 62]) rfl ?_); at_builtin; refine Kd.R_append k106 (w0 := w) w.heap.size rfl (.tmp 56) (.tmp 62) 103 106 (.agg #[(.string ⟨#[]⟩), (.string ⟨#[]⟩)]) 32 rfl Tryz.underlying103 info106 rfl (by decide) (by omega) (.slice Ao52 x3_1.length co52) x3_1 (⟨t215, t216⟩ : S106) [.string t215, .string t216] (fun _ => True) (fun _ => False) rfl rfl ?aP (fun _ hk => hk.elim) ?aF ?aO ?aB ?aS ?aL ?_; (case aP => exact k106_mkM _ _ _ (⟨t215, t216⟩ : S106)); (case aB => exact bz); (case aF => exact (fun _ _ => trivial)); (case aO => exact (rz HO_3.out)); (case aS => exact (below_size bz)); (case aL => have := LMc46.out; omega); intro v218 w55 ho hb hg hat; (first | rw [← Ny217.out] at ho | (simp only [Int.reduceToNat] at ho; rw [← Ny217.out] at ho)); have n0_ := am (Kd.V_afterv (ok := (fun _ => True)) (by (with_reducible repeat (first | apply Kd.V_alloc | apply Kd.V_drewN | apply Kd.V_drew)); exact Kd.V_mono HO_4.out (fun _ hk => ⟨trivial, hk⟩)) hg hat); have n1_ := am (Kd.V_afterv (ok := (fun _ => True)) (by (with_reducible repeat (first | apply Kd.V_alloc | apply Kd.V_drewN | apply Kd.V_drew)); exact Kd.V_mono HL204_0.out (fun _ hk => ⟨trivial, hk⟩)) hg hat); have n2_ := am (Kd.V_afterv (ok := (fun _ => True)) (by (with_reducible repeat (first | apply Kd.V_alloc | apply Kd.V_drewN | apply Kd.V_drew)); exact Kd.V_mono HO207.out (fun _ hk => ⟨trivial, hk⟩)) hg hat); have n3_ := am (hb); have n4_ := am (ho); clear HO_4 HL204_0 HO207 HB HO_3; have HO_4 := n0_; have HL204_0 := n1_; have HO207 := n2_; have HB := n3_; have HO219 := n4_; clear n0_ n1_ n2_ n3_ n4_; clear ho hb hg hat))
           go_step3
           (try simp only [Exit.then, Exit.inBlock]); refine HX.again ?_
           go_roundg k1
           case measure => have := HK1.out; omega
           case rel => exact ⟨(y217), ((x3_1.length : Int)), (ji11), sz, (by first | rfl | (simp; done) | (simp only [← hji11] <;> (first | rfl | simp)) | (simp [*]; done)), H', ⟨by have := HK1.out; omega⟩, ⟨rz HO219.out⟩, ⟨by (with_reducible repeat (first | apply Kd.V_alloc | apply Kd.V_drewN | apply Kd.V_drew)); exact Kd.V_mono HO_4.out (fun _ hk => hk.2)⟩, ⟨bz⟩⟩
          rw [if_neg c46] at H
          exact absurd H (by simp)
         replace c43 := Bool.eq_false_iff.mpr c43; subst c43
         have H1 : (head_Fields.l100 k1 x3_1 t201 (-1) ji11) = some r := by rw [if_neg (show ¬ (false = true) by decide)] at H; exact H
         clear H; have H := H1; clear H1; have H' := am H; clear H; obtain ⟨Ao56, co56, eo56⟩ := Kd.V_slice HO_4.out; subst eo56; have p204 : 0 ≤ ((ji11) : Int) := of_decide_eq_true az; have q204 : (ji11) < (t201.length : Int) := of_decide_eq_true az; obtain ⟨ad204, A204_0, c204_0, e204, hx204_0, hl204_0, hi204_0⟩ := at_L6 (Kd.V_reads' HO_4.out).2.2 (ji11) p204 q204
         cases e204
         obtain ⟨ce204, hce204, hMe204, hcc204⟩ := Kd.V_get HO_4.out [] (ji11) p204 (by first | exact q204 | exact of_decide_eq_true az | (have e_ := (Kd.V_reads' HO_4.out).1; omega)); obtain ⟨ua204_0, uc204_0, rfl, ul204_0, ge204_0⟩ := Kd.FK_slice_open hMe204; have hv204_0 := hcc204 0 _ rfl; rw [Nat.add_zero, show ((Kd.slice 5 (Kd.int .u8))).sz = 1 from rfl, Nat.mul_one] at hv204_0; replace hv204_0 := Option.some.inj (hv204_0.symm.trans hx204_0)
         injection hv204_0 with hva_ hvn_ hvc_
         rw [hva_] at ge204_0; rw [hvc_] at ul204_0; have HL204_0 := am (show Kd.V (Kd.int .u8) 5 _ w.heap.size _ _ (rd_L6 t201 (ji11)) from Kd.V_mk ul204_0 ge204_0); clear hva_ hvn_ hvc_ ge204_0 ul204_0 hcc204 hce204; have HR204_0 := am hi204_0; have HC204_0 := am hl204_0; clear hi204_0 hl204_0; replace p204 := eq_true p204; replace q204 := eq_true q204
         go_wp2_with (first | ((with_reducible refine gate_callee (f := 63) rfl ?_); refine goesL_ (some 27) rfl rfl Tryz.func63 (by kernel_rfl) rfl #[.slice A204_0 (rd_L6 t201 (ji11)).length c204_0] rfl (by (try simp only [List.map_toArray, List.map_cons, List.map_nil]); first | done | (simp only [hji11]; rfl) | rfl | (simp only [List.length_drop, List.length_take]; rfl)) ?_; (with_reducible refine (head_text.calls (fun k_ => some k_ ≠ (u3 : Value).ownBlock) _ _ (rd_L6 t201 (ji11)) t205 _ ?side1 A14.out).mono ?_); (case side1 => exact HL204_0.out); rintro e w57 ⟨v206, rfl, ho0, hb⟩; refine ⟨_, rfl, ?_⟩; have n0_ := am (Kd.R_below (rz HO_3.out) hb); have n1_ := am (Kd.V_below (vz HO_4.out) hb); have n2_ := am (Kd.V_below (by (with_reducible repeat (first | apply Kd.V_alloc | apply Kd.V_drewN | apply Kd.V_drew)); exact HL204_0.out) hb); have n3_ := am (Kd.V_lower (Kd.V_mono (ok' := fun k_ => some k_ ≠ (u3 : Value).ownBlock) ho0 (fun k_ hk_ => Or.elim hk_ (fun hs_ => hs_) (fun hn_ => (Kd.fresh' (Kd.R_lt (rz HO_3.out)) k_ hn_)))) (below_size bz)); have n4_ := am (Kd.C_below (cz HR204_0.out) hb); have n5_ := am (below_step bz hb); clear HO_3 HO_4 HL204_0 HR204_0 HB; have HO_3 := n0_; have HO_4 := n1_; have HL204_0 := n2_; have HO207 := n3_; have HR204_0 := n4_; have HB := n5_; clear n0_ n1_ n2_ n3_ n4_ n5_; (try clear hb); (try clear hb2); (try clear hk); (try clear hi); (try clear ho0); (first | have hcv58 := own_string (P := Tryz.prog) Tryz.underlying34 Tryz.underlying5 Tryz.underlying9 (Kd.own_of_R HO207.out) | have hcv58 := V_string (P := Tryz.prog) Tryz.underlying34 Tryz.underlying5 Tryz.underlying9 HO207.out)) | ((with_reducible refine gate_callee (f := 122) rfl ?_); refine goesL_ (some 33) rfl rfl Tryz.func122 (by kernel_rfl) rfl #[.string ((strOfNums t205).extract 0 1), .string (⟨#[32, 9]⟩ : ByteArray)] rfl mz ?_; (with_reducible refine (strings_ContainsAny.calls ((strOfNums t205).extract 0 1) (⟨#[32, 9]⟩ : ByteArray) false _ A21.out).mono ?_); rintro e w59 ⟨rfl, hb⟩; refine ⟨_, rfl, ?_⟩; replace HO_3 := am (Kd.R_below (rz HO_3.out) hb); replace HO_4 := am (Kd.V_below (vz HO_4.out) hb); replace HL204_0 := am (Kd.V_below (by (with_reducible repeat (first | apply Kd.V_alloc | apply Kd.V_drewN | apply Kd.V_drew)); exact HL204_0.out) hb); replace HO207 := am (Kd.V_below (vz HO207.out) hb); replace HR204_0 := am (Kd.C_below (cz HR204_0.out) hb); replace HB := am (below_step bz hb); (try clear hb); (try clear hb2); (try clear hk); (try clear hi)) | ((with_reducible refine gate_callee (f := 82) rfl ?_); refine goesL_ (some 49) rfl rfl Tryz.func82 (by kernel_rfl) rfl #[.string (strOfNums t205), .string (⟨#[58]⟩ : ByteArray)] rfl mz ?_; (with_reducible refine (strings_Cut.calls (strOfNums t205) (⟨#[58]⟩ : ByteArray) t212 t213 false _ A42.out).mono ?_); rintro e w60 ⟨rfl, hb⟩; refine ⟨_, rfl, ?_⟩; replace HO_3 := am (Kd.R_below (rz HO_3.out) hb); replace HO_4 := am (Kd.V_below (vz HO_4.out) hb); replace HL204_0 := am (Kd.V_below (by (with_reducible repeat (first | apply Kd.V_alloc | apply Kd.V_drewN | apply Kd.V_drew)); exact HL204_0.out) hb); replace HO207 := am (Kd.V_below (vz HO207.out) hb); replace HR204_0 := am (Kd.C_below (cz HR204_0.out) hb); replace HB := am (below_step bz hb); (try clear hb); (try clear hb2); (try clear hk); (try clear hi)))
         go_step3
         (try simp only [Exit.then, Exit.inBlock]); refine HX.again ?_
         go_roundg k1
         case measure => have := HK1.out; omega
         case rel => exact ⟨(x3_1), ((-1)), (ji11), sz, (by first | rfl | (simp; done) | (simp only [← hji11] <;> (first | rfl | simp)) | (simp [*]; done)), H', ⟨by have := HK1.out; omega⟩, ⟨rz HO_3.out⟩, ⟨vz HO_4.out⟩, ⟨bz⟩⟩
        rw [if_neg c20] at H
        exact absurd H (by simp)
       rw [if_neg c19] at H
       exact absurd H (by simp)
      rw [if_neg c13] at H
      exact absurd H (by simp)
     rw [if_neg c12] at H
     exact absurd H (by simp)
  rw [if_neg c4] at H
  exact absurd H (by simp)
 rw [if_neg c3] at H
 exact absurd H (by simp)

/-! ### head_small: function 123 -/
def head_small.f (a0 : Int) : Option (Int) := if a0 ≥ 65 then (if a0 ≤ 90 then (some ((a0 + 32) % 256)) else (some a0)) else (some a0)
set_option maxHeartbeats 8000000 in
set_option maxRecDepth 100000 in
theorem head_small.calls (a0 : Int) (r : Int) (w : World) (h : head_small.f a0 = some r) :
  Calls Tryz.prog 123 #[.int .u8 a0] w fun e w' => e = .returned (.int .u8 r) ∧ Drawn0 w w' := by
 have H : (if a0 ≥ 65 then (if a0 ≤ 90 then (some ((a0 + 32) % 256)) else (some a0)) else (some a0)) = some r := h; clear h
 by_cases c2 : a0 ≥ 65
 ·rw [if_pos c2] at H; have c2b0 : decide (65 ≤ a0) = true := decide_eq_true c2; clear c2
  by_cases c3 : a0 ≤ 90
  ·rw [if_pos c3] at H; have c3b0 : decide (a0 ≤ 90) = true := decide_eq_true c3; clear c3; obtain rfl := Option.some.inj H
   go_enter Tryz.func123, Tryz.ntmps123
   go_wp2
   go_ret
   exact ⟨sz, by repeat (first | exact Drawn0.refl _ | apply Drawn0.step)⟩
  rw [if_neg c3] at H; have c3b0 : decide (a0 ≤ 90) = false := decide_eq_false c3; clear c3; obtain rfl := Option.some.inj H
  go_enter Tryz.func123, Tryz.ntmps123
  go_wp2
  go_ret
  exact ⟨sz, by repeat (first | exact Drawn0.refl _ | apply Drawn0.step)⟩
 rw [if_neg c2] at H; have c2b0 : decide (65 ≤ a0) = false := decide_eq_false c2; clear c2; obtain rfl := Option.some.inj H
 go_enter Tryz.func123, Tryz.ntmps123
 go_wp2
 go_ret
 exact ⟨sz, by repeat (first | exact Drawn0.refl _ | apply Drawn0.step)⟩

/-! ### head_Same: function 100 -/
def head_Same.l0 : Nat → ByteArray → ByteArray → Int → Int → Option (Bool)
 | 0, _, _, _, _ => none
 | k + 1, x0, x1, x12, x13 => if x13 < x12 then (if 0 ≤ x13 then (if x13 < (x0.size : Int) then ((head_small.f (bt x0 x13)).bind fun t220 => (if x13 < (x1.size : Int) then ((head_small.f (bt x1 x13)).bind fun t221 => (if t220 = t221 then (head_Same.l0 k x0 x1 x12 (wrap64 (x13 + 1))) else (some false))) else (none))) else (none)) else (none)) else (some true)
def head_Same.f (k : Nat) (a0 : ByteArray) (a1 : ByteArray) : Option (Bool) := if (a0.size : Int) = (a1.size : Int) then (head_Same.l0 k a0 a1 (a0.size : Int) 0) else (some false)
set_option maxHeartbeats 8000000 in
set_option maxRecDepth 100000 in
theorem head_Same.calls (k : Nat) (a0 : ByteArray) (a1 : ByteArray) (r : Bool) (w : World) (h : head_Same.f k a0 a1 = some r) :
  Calls Tryz.prog 100 #[.string a0, .string a1] w fun e w' => e = .returned (.bool r) ∧ Drawn0 w w' := by
 have H : (if (a0.size : Int) = (a1.size : Int) then (head_Same.l0 k a0 a1 (a0.size : Int) 0) else (some false)) = some r := h; clear h
 by_cases c3 : (a0.size : Int) = (a1.size : Int)
 ·rw [if_pos c3] at H; have c3b0 : ((a0.size : Int) == (a1.size : Int)) = true := beq_iff_eq.mpr c3; have c3b1 : ((a0.size : Int) != (a1.size : Int)) = false := bne_eq_false_iff_eq.mpr c3
  have c3b2 : (a0.size == a1.size) = true := by first | simpa using c3 | (simp at c3 ⊢; omega)
  clear c3; have H' := am H; clear H
  go_enter Tryz.func100, Tryz.ntmps100
  go_wp2
  repeat (go_quiet (fail); try go_wp2)
  go_loopg [13] k (fun kq v13 w' => ∃ (x13_1 : Int), v13 = .int .i64 x13_1 ∧ Aside0 (head_Same.l0 kq a0 a1 (a0.size : Int) x13_1 = some r) ∧ Aside0 (kq ≤ k) ∧ Drawn0 w w')
  case atStart => exact ⟨(0), sz, H', ⟨Nat.le_refl _⟩, by repeat (first | exact Drawn0.refl _ | apply Drawn0.step)⟩
  case round =>
   clear H'; (try clear c1); (try clear p2); (try clear c3); (try clear c3b0); (try clear c3b1); (try clear c3b2); obtain ⟨x13_1, rfl, HA, HK1, ⟨m1, rfl⟩⟩ := hrel
   cases gk with
   | zero => exact absurd HA.out (by simp [head_Same.l0])
   | succ k1 =>
    have H := HA.out; clear HA; simp only [head_Same.l0] at H
    by_cases c4 : x13_1 < (a0.size : Int)
    ·rw [if_pos c4] at H; have c4b0 : decide (x13_1 < (a0.size : Int)) = true := decide_eq_true c4; clear c4
     by_cases c5 : 0 ≤ x13_1
     ·rw [if_pos c5] at H; have c5b0 : decide (0 ≤ x13_1) = true := decide_eq_true c5; clear c5
      by_cases c6 : x13_1 < (a0.size : Int)
      ·rw [if_pos c6] at H; have c6b0 : decide (x13_1 < (a0.size : Int)) = true := decide_eq_true c6; clear c6; replace H := Option.bind_eq_some_iff.mp H; obtain ⟨t220, A80, H⟩ := H; (try dsimp only at H); have A8 := am A80; clear A80
       by_cases c9 : x13_1 < (a1.size : Int)
       ·rw [if_pos c9] at H; have c9b0 : decide (x13_1 < (a1.size : Int)) = true := decide_eq_true c9; clear c9; replace H := Option.bind_eq_some_iff.mp H; obtain ⟨t221, A110, H⟩ := H; replace H : (if t220 = t221 then (head_Same.l0 k1 a0 a1 (a0.size : Int) (wrap64 (x13_1 + 1))) else (some false)) = some r := H; have A11 := am A110; clear A110
        by_cases c12 : t220 = t221
        ·rw [if_pos c12] at H; have c12b0 : (t220 == t221) = true := beq_iff_eq.mpr c12; have c12b1 : (t220 != t221) = false := bne_eq_false_iff_eq.mpr c12; clear c12; have H' := am H; clear H; have p7 : 0 ≤ (x13_1 : Int) := of_decide_eq_true az; have q7 : x13_1 < (a0.size : Int) := of_decide_eq_true az; have hx7 := bt_at a0 x13_1; replace p7 := eq_true p7; replace q7 := eq_true q7
         go_wp2_with (first | (go_at_call 123; (with_reducible refine (head_small.calls (bt a0 x13_1) t220 _ A8.out).mono ?_); rintro e w' ⟨rfl, ⟨nd, rfl⟩⟩; (try exact dz); have p10 : 0 ≤ (x13_1 : Int) := of_decide_eq_true az; have q10 : x13_1 < (a1.size : Int) := of_decide_eq_true az; have hx10 := bt_at a1 x13_1; replace p10 := eq_true p10; replace q10 := eq_true q10) | (go_at_call 123; (with_reducible refine (head_small.calls (bt a1 x13_1) t221 _ A11.out).mono ?_); rintro e w' ⟨rfl, ⟨nd, rfl⟩⟩; (try exact dz)))
         repeat (go_quiet (first | (go_at_call 123; (with_reducible refine (head_small.calls (bt a0 x13_1) t220 _ A8.out).mono ?_); rintro e w' ⟨rfl, ⟨nd, rfl⟩⟩; (try exact dz); have p10 : 0 ≤ (x13_1 : Int) := of_decide_eq_true az; have q10 : x13_1 < (a1.size : Int) := of_decide_eq_true az; have hx10 := bt_at a1 x13_1; replace p10 := eq_true p10; replace q10 := eq_true q10) | (go_at_call 123; (with_reducible refine (head_small.calls (bt a1 x13_1) t221 _ A11.out).mono ?_); rintro e w' ⟨rfl, ⟨nd, rfl⟩⟩; (try exact dz))); try go_wp2_with (first | (go_at_call 123; (with_reducible refine (head_small.calls (bt a0 x13_1) t220 _ A8.out).mono ?_); rintro e w' ⟨rfl, ⟨nd, rfl⟩⟩; (try exact dz); have p10 : 0 ≤ (x13_1 : Int) := of_decide_eq_true az; have q10 : x13_1 < (a1.size : Int) := of_decide_eq_true az; have hx10 := bt_at a1 x13_1; replace p10 := eq_true p10; replace q10 := eq_true q10) | (go_at_call 123; (with_reducible refine (head_small.calls (bt a1 x13_1) t221 _ A11.out).mono ?_); rintro e w' ⟨rfl, ⟨nd, rfl⟩⟩; (try exact dz))))
         go_roundg k1
         case measure => have := HK1.out; omega
         case rel => exact ⟨(wrap64 (x13_1 + 1)), sz, H', ⟨by have := HK1.out; omega⟩, by repeat (first | exact Drawn0.refl _ | apply Drawn0.step)⟩
        rw [if_neg c12] at H; have c12b0 : (t220 == t221) = false := beq_eq_false_iff_ne.mpr c12; have c12b1 : (t220 != t221) = true := bne_iff_ne.mpr c12; obtain rfl := Option.some.inj H; have p7 : 0 ≤ (x13_1 : Int) := of_decide_eq_true az; have q7 : x13_1 < (a0.size : Int) := of_decide_eq_true az; have hx7 := bt_at a0 x13_1; replace p7 := eq_true p7; replace q7 := eq_true q7
        go_wp2_with (first | (go_at_call 123; (with_reducible refine (head_small.calls (bt a0 x13_1) t220 _ A8.out).mono ?_); rintro e w' ⟨rfl, ⟨nd, rfl⟩⟩; (try exact dz); have p10 : 0 ≤ (x13_1 : Int) := of_decide_eq_true az; have q10 : x13_1 < (a1.size : Int) := of_decide_eq_true az; have hx10 := bt_at a1 x13_1; replace p10 := eq_true p10; replace q10 := eq_true q10) | (go_at_call 123; (with_reducible refine (head_small.calls (bt a1 x13_1) t221 _ A11.out).mono ?_); rintro e w' ⟨rfl, ⟨nd, rfl⟩⟩; (try exact dz)))
        repeat (go_quiet (first | (go_at_call 123; (with_reducible refine (head_small.calls (bt a0 x13_1) t220 _ A8.out).mono ?_); rintro e w' ⟨rfl, ⟨nd, rfl⟩⟩; (try exact dz); have p10 : 0 ≤ (x13_1 : Int) := of_decide_eq_true az; have q10 : x13_1 < (a1.size : Int) := of_decide_eq_true az; have hx10 := bt_at a1 x13_1; replace p10 := eq_true p10; replace q10 := eq_true q10) | (go_at_call 123; (with_reducible refine (head_small.calls (bt a1 x13_1) t221 _ A11.out).mono ?_); rintro e w' ⟨rfl, ⟨nd, rfl⟩⟩; (try exact dz))); try go_wp2_with (first | (go_at_call 123; (with_reducible refine (head_small.calls (bt a0 x13_1) t220 _ A8.out).mono ?_); rintro e w' ⟨rfl, ⟨nd, rfl⟩⟩; (try exact dz); have p10 : 0 ≤ (x13_1 : Int) := of_decide_eq_true az; have q10 : x13_1 < (a1.size : Int) := of_decide_eq_true az; have hx10 := bt_at a1 x13_1; replace p10 := eq_true p10; replace q10 := eq_true q10) | (go_at_call 123; (with_reducible refine (head_small.calls (bt a1 x13_1) t221 _ A11.out).mono ?_); rintro e w' ⟨rfl, ⟨nd, rfl⟩⟩; (try exact dz))))
        go_ret
        exact ⟨sz, by repeat (first | exact Drawn0.refl _ | apply Drawn0.step)⟩
       rw [if_neg c9] at H
       exact absurd H (by simp)
      rw [if_neg c6] at H
      exact absurd H (by simp)
     rw [if_neg c5] at H
     exact absurd H (by simp)
    rw [if_neg c4] at H; have c4b0 : decide (x13_1 < (a0.size : Int)) = false := decide_eq_false c4; clear c4; obtain rfl := Option.some.inj H
    go_wp2
    repeat (go_quiet (fail); try go_wp2)
    go_ret
    exact ⟨sz, by repeat (first | exact Drawn0.refl _ | apply Drawn0.step)⟩
 rw [if_neg c3] at H; have c3b0 : ((a0.size : Int) == (a1.size : Int)) = false := beq_eq_false_iff_ne.mpr c3; have c3b1 : ((a0.size : Int) != (a1.size : Int)) = true := bne_iff_ne.mpr c3
 have c3b2 : (a0.size == a1.size) = false := by first | simpa using c3 | (simp at c3 ⊢; omega)
 obtain rfl := Option.some.inj H
 go_enter Tryz.func100, Tryz.ntmps100
 go_wp2
 repeat (go_quiet (fail); try go_wp2)
 go_ret
 exact ⟨sz, by repeat (first | exact Drawn0.refl _ | apply Drawn0.step)⟩

/-! ### head_Get: function 80 -/
def head_Get.l0 : Nat → ByteArray → List (S106) → Int → Int → Option (ByteArray × Bool)
 | 0, _, _, _, _ => none
 | k + 1, x1, x9, x10, x11 => if x11 < x10 then (if 0 ≤ x11 then (if x11 < (x9.length : Int) then ((head_Same.f k ((rd_T106 x9 x11).f0) x1).bind fun t227 => (if t227 = true then (some ((rd_T106 x9 x11).f1, true)) else (head_Get.l0 k x1 x9 x10 (wrap64 (x11 + 1))))) else (none)) else (none)) else (some ((⟨#[]⟩ : ByteArray), false))
def head_Get.f (k : Nat) (l0 : List Int) (a1 : ByteArray) : Option (ByteArray × Bool) := (head_Fields.f k l0).bind fun t222 => (head_Get.l0 k a1 t222 (t222.length : Int) 0)
set_option maxHeartbeats 8000000 in
set_option maxRecDepth 100000 in
theorem head_Get.calls (k : Nat) (A0 : Option Addr) (c0 : Nat) (l0 : List Int) (a1 : ByteArray) (r1 : ByteArray) (r2 : Bool) (w : World) (hr0 : Kd.C (Kd.int .u8) w A0 l0.length l0) (hc0 : l0.length ≤ c0) (h : head_Get.f k l0 a1 = some (r1, r2)) :
  Calls Tryz.prog 80 #[.slice A0 l0.length c0, .string a1] w fun e w' => e = .returned (.tuple #[.string r1, .bool r2]) ∧ Below w.heap.size w w' := by
 have hu106 := Tryz.underlying106; have HR0 := am hr0; have HC0 := am hc0; clear hr0 hc0; have HB := am (Below.refl w.heap.size w); have H : ((head_Fields.f k l0).bind fun t222 => (head_Get.l0 k a1 t222 (t222.length : Int) 0)) = some (r1, r2) := h; clear h; replace H := Option.bind_eq_some_iff.mp H; obtain ⟨t222, A30, H⟩ := H; replace H : (head_Get.l0 k a1 t222 (t222.length : Int) 0) = some (r1, r2) := H; have A3 := am A30; clear A30; have H' := am H; clear H
 go_enter Tryz.func80, Tryz.ntmps80
 go_wp2_with (first | ((with_reducible refine gate_callee (f := 99) rfl ?_); refine goesL_ (some 9) rfl rfl Tryz.func99 (by kernel_rfl) rfl #[.slice A0 l0.length c0] rfl mz ?_; (with_reducible refine (head_Fields.calls k _ _ l0 t222 _ ?side1 ?side2 A3.out).mono ?_); (case side1 => exact cz HR0.out); (case side2 => exact HC0.out); rintro e w4 ⟨v223, rfl, ho0, hb⟩; refine ⟨_, rfl, ?_⟩; have n0_ := am (Kd.R_lower ho0 (below_size bz)); have n1_ := am (below_step bz hb); clear HB; have HO224 := n0_; have HB := n1_; clear n0_ n1_; (try clear hb); (try clear hb2); (try clear hk); (try clear hi); (try clear ho0); obtain ⟨Ao5, co5, eo5⟩ := Kd.R_slice HO224.out; subst eo5))
 go_loopg [11] k (fun kq v11 w' => ∃ (x11_1 : Int), v11 = .int .i64 x11_1 ∧ Aside0 (head_Get.l0 kq a1 t222 (t222.length : Int) x11_1 = some (r1, r2)) ∧ Aside0 (kq ≤ k) ∧ Aside0 (Kd.R k106 106 w' w.heap.size (fun _ => True) (.slice Ao5 t222.length co5) t222) ∧ Aside0 (Below w.heap.size w w'))
 case atStart => exact ⟨(0), sz, H', ⟨Nat.le_refl _⟩, ⟨rz HO224.out⟩, ⟨bz⟩⟩
 case round =>
  clear H'; (try clear p2); obtain ⟨x11_1, rfl, HA, HK1, HO_9, HB⟩ := hrel
  cases gk with
  | zero => exact absurd HA.out (by simp [head_Get.l0])
  | succ k1 =>
   have H := HA.out; clear HA; simp only [head_Get.l0] at H
   by_cases c6 : x11_1 < (t222.length : Int)
   ·rw [if_pos c6] at H; have c6b0 : decide (x11_1 < (t222.length : Int)) = true := decide_eq_true c6; clear c6
    by_cases c7 : 0 ≤ x11_1
    ·rw [if_pos c7] at H; have c7b0 : decide (0 ≤ x11_1) = true := decide_eq_true c7; clear c7
     by_cases c8 : x11_1 < (t222.length : Int)
     ·rw [if_pos c8] at H; have c8b0 : decide (x11_1 < (t222.length : Int)) = true := decide_eq_true c8; clear c8; replace H := Option.bind_eq_some_iff.mp H; obtain ⟨t227, A90, H⟩ := H; (try dsimp only at H); have A9 := am A90; clear A90
      by_cases c10 : t227 = true
      ·subst c10
       have H1 : (some ((rd_T106 t222 x11_1).f1, true)) = some (r1, r2) := by rw [if_pos rfl] at H; exact H
       clear H; have H := H1; clear H1; simp only [Option.some.injEq, Prod.mk.injEq] at H; obtain ⟨rfl, rfl⟩ := H; have p225 : 0 ≤ (x11_1 : Int) := of_decide_eq_true az; have q225 : x11_1 < (t222.length : Int) := of_decide_eq_true az; obtain ⟨ad225, e225, hx225_0, hx225_1⟩ := at_T106 (Kd.R_reads' HO_9.out).2.2 x11_1 p225 q225
       cases e225
       replace p225 := eq_true p225; replace q225 := eq_true q225
       go_wp2_with (first | ((with_reducible refine gate_dst (N := 7) rfl ?_); refine box_event ?hg (N := 7) ?hd (cs := #[.string (⟨#[]⟩ : ByteArray), .string (⟨#[]⟩ : ByteArray)]) (t := 106) ?hr ?_; (case hd => rfl); (case hg => rfl); (case hr => first | (go_simp; done) | (go_simp; rfl)); intro gb226 hg w11 hbox hb; have n0_ := am (Kd.R_below (Kd.R_elderB (rz HO_9.out) gb226 (Nat.le_of_eq hg.symm)) hb); have n1_ := am (below_step bz hb); have n2_ := am (hbox); have n3_ := am ((by rw [hg]; exact (below_size bz) : w.heap.size ≤ gb226)); have n4_ := am ((by rw [hg]; exact (below_size bz) : w.heap.size ≤ gb226)); clear HO_9 HB; have HO_9 := n0_; have HB := n1_; have BK226 := n2_; have GW226 := n3_; have GE226 := n4_; clear n0_ n1_ n2_ n3_ n4_; clear hb hbox hg; have hcz12_0 : w11.cell? ⟨gb226, 0, none⟩ = some (.string (⟨#[]⟩ : ByteArray)) := (blk_cell BK226.out 0).trans rfl; have hcz12_1 : w11.cell? ⟨gb226, 1, none⟩ = some (.string (⟨#[]⟩ : ByteArray)) := (blk_cell BK226.out 1).trans rfl; have hfz12_0 := blk_frozen BK226.out 0; have hfz12_1 := blk_frozen BK226.out 1) | ((with_reducible refine gate_callee (f := 100) rfl ?_); refine goesL_ (some 18) rfl rfl Tryz.func100 (by kernel_rfl) rfl #[.string ((rd_T106 t222 x11_1).f0), .string a1] rfl mz ?_; (with_reducible refine (head_Same.calls k1 ((rd_T106 t222 x11_1).f0) a1 true _ A9.out).mono ?_); rintro e w' ⟨rfl, ⟨nd, rfl⟩⟩; refine ⟨_, rfl, ?_⟩))
       go_ret2
       exact ⟨ez, by repeat (first | (with_reducible first | exact HB.out | apply bA | apply bN | apply bD | refine below_set ?_ GE226.out) | exact HB.out)⟩
      replace c10 := Bool.eq_false_iff.mpr c10; subst c10
      have H1 : (head_Get.l0 k1 a1 t222 (t222.length : Int) (wrap64 (x11_1 + 1))) = some (r1, r2) := by rw [if_neg (show ¬ (false = true) by decide)] at H; exact H
      clear H; have H := H1; clear H1; have H' := am H; clear H; have p225 : 0 ≤ (x11_1 : Int) := of_decide_eq_true az; have q225 : x11_1 < (t222.length : Int) := of_decide_eq_true az; obtain ⟨ad225, e225, hx225_0, hx225_1⟩ := at_T106 (Kd.R_reads' HO_9.out).2.2 x11_1 p225 q225
      cases e225
      replace p225 := eq_true p225; replace q225 := eq_true q225
      go_wp2_with (first | ((with_reducible refine gate_dst (N := 7) rfl ?_); refine box_event ?hg (N := 7) ?hd (cs := #[.string (⟨#[]⟩ : ByteArray), .string (⟨#[]⟩ : ByteArray)]) (t := 106) ?hr ?_; (case hd => rfl); (case hg => rfl); (case hr => first | (go_simp; done) | (go_simp; rfl)); intro gb226 hg w13 hbox hb; have n0_ := am (Kd.R_below (Kd.R_elderB (rz HO_9.out) gb226 (Nat.le_of_eq hg.symm)) hb); have n1_ := am (below_step bz hb); have n2_ := am (hbox); have n3_ := am ((by rw [hg]; exact (below_size bz) : w.heap.size ≤ gb226)); have n4_ := am ((by rw [hg]; exact (below_size bz) : w.heap.size ≤ gb226)); clear HO_9 HB; have HO_9 := n0_; have HB := n1_; have BK226 := n2_; have GW226 := n3_; have GE226 := n4_; clear n0_ n1_ n2_ n3_ n4_; clear hb hbox hg; have hcz14_0 : w13.cell? ⟨gb226, 0, none⟩ = some (.string (⟨#[]⟩ : ByteArray)) := (blk_cell BK226.out 0).trans rfl; have hcz14_1 : w13.cell? ⟨gb226, 1, none⟩ = some (.string (⟨#[]⟩ : ByteArray)) := (blk_cell BK226.out 1).trans rfl; have hfz14_0 := blk_frozen BK226.out 0; have hfz14_1 := blk_frozen BK226.out 1) | ((with_reducible refine gate_callee (f := 100) rfl ?_); refine goesL_ (some 18) rfl rfl Tryz.func100 (by kernel_rfl) rfl #[.string ((rd_T106 t222 x11_1).f0), .string a1] rfl mz ?_; (with_reducible refine (head_Same.calls k1 ((rd_T106 t222 x11_1).f0) a1 false _ A9.out).mono ?_); rintro e w' ⟨rfl, ⟨nd, rfl⟩⟩; refine ⟨_, rfl, ?_⟩))
      go_roundg k1
      case measure => have := HK1.out; omega
      case rel => exact ⟨(wrap64 (x11_1 + 1)), sz, H', ⟨by have := HK1.out; omega⟩, ⟨by (with_reducible repeat first | apply rA | apply rN | apply rD); exact Kd.R_mono (Kd.R_far (p := ⟨gb226, 1, none⟩) (Kd.R_far (p := ⟨gb226, 0, none⟩) (Kd.R_mono HO_9.out (fun k_ hk => (⟨hk, hk.2⟩ : _ ∧ k_ ≠ gb226))) (fun _ hk => hk.2) (.string ((rd_T106 t222 x11_1).f0))) (fun _ hk => hk.2) (.string ((rd_T106 t222 x11_1).f1))) (fun _ hk => trivial)⟩, ⟨by repeat (first | (with_reducible first | exact HB.out | apply bA | apply bN | apply bD | refine below_set ?_ GE226.out) | exact HB.out)⟩⟩
     rw [if_neg c8] at H
     exact absurd H (by simp)
    rw [if_neg c7] at H
    exact absurd H (by simp)
   rw [if_neg c6] at H; have c6b0 : decide (x11_1 < (t222.length : Int)) = false := decide_eq_false c6; clear c6; simp only [Option.some.injEq, Prod.mk.injEq] at H; obtain ⟨rfl, rfl⟩ := H
   go_wp2
   go_ret2
   exact ⟨ez, bz⟩

end Go.Proofs.YtfabaenfglionaaGreatDoor.P
