/- The walks of the seat's functions, one contract a function: printed by a program of this session's (wip/gen). Not trusted: Lean checks it. -/
import Derived.Test.YtfabaenfglionaaGreatDoorShort
import Derived.Test.YtfabaenfglionaaGreatDoorGx0
-- halved
namespace Go.Proofs.YtfabaenfglionaaGreatDoor.G
open Go.RowKit Go.Proofs.YtfabaenfglionaaGreatDoorW.PrintWords Go.Proofs.YtfabaenfglionaaGreatDoorW.PrintLast Go.Proofs.YtfabaenfglionaaGreatDoorW.PrintMore
attribute [local go_sem] max2_int min2_int max_two min_two max_three min_three max_four min_four   -- for this text's walks alone
set_option linter.unusedVariables false
set_option linter.unusedSimpArgs false

-- GIVEN: function 119 (bytes_explode)

-- GIVEN: function 120 (bytes_Count)

-- GIVEN: function 121 (bytes_Index)

/-! ### bytes_genSplit: function 98 -/
mutual
def bytes_genSplit.j0 : Nat → List Int → List Int → Int → Int → Option ((List (List Int)))
 | 0, _, _, _, _ => none
 | k + 1, x0, x1, x2, x3 => if 0 ≤ (mn x3 (wrap64 ((x0.length : Int) + 1))) then (if (mn x3 (wrap64 ((x0.length : Int) + 1)) : Int).toNat ≤ 11728124029610 then (bytes_genSplit.l0 k x0 x1 x2 (wrap64 ((mn x3 (wrap64 ((x0.length : Int) + 1))) - 1)) (List.replicate (mn x3 (wrap64 ((x0.length : Int) + 1)) : Int).toNat []) 0) else (none)) else (none)
def bytes_genSplit.l0 : Nat → List Int → List Int → Int → Int → List (List Int) → Int → Option ((List (List Int)))
 | 0, _, _, _, _, _, _ => none
 | k + 1, x0, x1, x2, x3, x9, x10 => if x10 < x3 then ((bytes_Index.f x0 x1).bind fun t108 => (if t108 < 0 then (if 0 ≤ x10 then (if x10 < (x9.length : Int) then (if 0 ≤ (wrap64 (x10 + 1)) then (if (wrap64 (x10 + 1)) ≤ (x9.length : Int) then (some ((x9.set (x10 : Int).toNat x0).take ((wrap64 (x10 + 1)) : Int).toNat)) else (none)) else (none)) else (none)) else (none)) else (if 0 ≤ (wrap64 (t108 + x2)) then (if (wrap64 (t108 + x2)) ≤ (x0.length : Int) then (if 0 ≤ x10 then (if x10 < (x9.length : Int) then (if 0 ≤ (wrap64 (t108 + (x1.length : Int))) then (if (wrap64 (t108 + (x1.length : Int))) ≤ (x0.length : Int) then (bytes_genSplit.l0 k (x0.drop ((wrap64 (t108 + (x1.length : Int))) : Int).toNat) x1 x2 x3 (x9.set (x10 : Int).toNat (x0.take ((wrap64 (t108 + x2)) : Int).toNat)) (wrap64 (x10 + 1))) else (none)) else (none)) else (none)) else (none)) else (none)) else (none)))) else (if 0 ≤ x10 then (if x10 < (x9.length : Int) then (if 0 ≤ (wrap64 (x10 + 1)) then (if (wrap64 (x10 + 1)) ≤ (x9.length : Int) then (some ((x9.set (x10 : Int).toNat x0).take ((wrap64 (x10 + 1)) : Int).toNat)) else (none)) else (none)) else (none)) else (none))
end
def bytes_genSplit.f (k : Nat) (l0 : List Int) (l1 : List Int) (a2 : Int) (a3 : Int) : Option ((List (List Int))) := if a3 = 0 then (some ([] : List (List Int))) else (if (l1.length : Int) = 0 then ((bytes_explode.f l0 a3).bind fun t101 => (some t101)) else (if a3 < 0 then ((bytes_Count.f l0 l1).bind fun t104 => (bytes_genSplit.j0 k l0 l1 a2 (wrap64 (t104 + 1)))) else (bytes_genSplit.j0 k l0 l1 a2 a3)))
set_option maxHeartbeats 8000000 in
set_option maxRecDepth 100000 in
theorem bytes_genSplit.calls (k : Nat) (P0_ : Nat → Prop) (A0 : Option Addr) (c0 : Nat) (l0 : List Int) (A1 : Option Addr) (c1 : Nat) (l1 : List Int) (a2 : Int) (a3 : Int) (r : List (List Int)) (w : World) (hs0 : Kd.V (Kd.int .u8) 5 w w.heap.size (fun k_ => P0_ k_) (.slice A0 l0.length c0) l0) (hr1 : Kd.C (Kd.int .u8) w A1 l1.length l1) (hc1 : l1.length ≤ c1) (h : bytes_genSplit.f k l0 l1 a2 a3 = some r) :
  Calls Tryz.prog 98 #[.slice A0 l0.length c0, .slice A1 l1.length c1, .int .i64 a2, .int .i64 a3] w fun e w' => ∃ v0_ : Value, e = .returned (v0_) ∧ Kd.N (Kd.slice 5 (Kd.int .u8)) 34 w' w.heap.size (fun k_ => (P0_ k_ ∨ w.heap.size ≤ k_)) v0_ r ∧ Below w.heap.size w w' := by
 have HO0 := am (show Kd.V (Kd.int .u8) 5 w w.heap.size (fun k_ => (P0_ k_ ∨ w.heap.size ≤ k_)) (.slice A0 l0.length c0) l0 from Kd.V_mono hs0 (fun k_ hk => .inl hk)); have HR1 := am hr1; have HC1 := am hc1; clear hr1 hc1; have HB := am (Below.refl w.heap.size w); have H : (if a3 = 0 then (some ([] : List (List Int))) else (if (l1.length : Int) = 0 then ((bytes_explode.f l0 a3).bind fun t101 => (some t101)) else (if a3 < 0 then ((bytes_Count.f l0 l1).bind fun t104 => (bytes_genSplit.j0 k l0 l1 a2 (wrap64 (t104 + 1)))) else (bytes_genSplit.j0 k l0 l1 a2 a3)))) = some r := h; clear h
 by_cases c5 : a3 = 0
 ·rw [if_pos c5] at H; have c5b0 : (a3 == 0) = true := beq_iff_eq.mpr c5; have c5b1 : (a3 != 0) = false := bne_eq_false_iff_eq.mpr c5; clear c5; obtain rfl := Option.some.inj H
  go_enter Tryz.func98, Tryz.ntmps98
  go_wp2
  go_ret
  exact ⟨_, ez, by first | exact Kd.S_nil _ _ _ _ _ | exact Kd.N_nil _ _ _ _ _ | exact Kd.V_nil _ _ _ _ _ | exact Kd.Q_nil _ _ _ _ _ | exact Kd.R_nil _ _ _ _ _, bz⟩
 rw [if_neg c5] at H; have c5b0 : (a3 == 0) = false := beq_eq_false_iff_ne.mpr c5; have c5b1 : (a3 != 0) = true := bne_iff_ne.mpr c5
 by_cases c6 : (l1.length : Int) = 0
 ·rw [if_pos c6] at H; have c6b0 : ((l1.length : Int) == 0) = true := beq_iff_eq.mpr c6; have c6b1 : ((l1.length : Int) != 0) = false := bne_eq_false_iff_eq.mpr c6; clear c6; replace H := Option.bind_eq_some_iff.mp H; obtain ⟨t101, A70, H⟩ := H; replace H : (some t101) = some r := H; have A7 := am A70; clear A70; obtain rfl := Option.some.inj H
  go_enter Tryz.func98, Tryz.ntmps98
  go_wp2_with (first | ((with_reducible refine gate_callee (f := 119) rfl ?_); refine goesL_ (some 19) rfl rfl Tryz.func119 (by kernel_rfl) rfl #[.slice A0 l0.length c0, .int .i64 a3] rfl mz ?_; (with_reducible refine (bytes_explode.calls _ _ l0 a3 t101 _ ?side1 ?side2 A7.out).mono ?_); (case side1 => exact cz (Kd.V_reads' HO0.out).2.2); (case side2 => exact (Kd.V_reads' HO0.out).2.1); rintro e w8 ⟨v102, rfl, ho0, hb⟩; refine ⟨_, rfl, ?_⟩; have n0_ := am (Kd.V_elder' (vz HO0.out) (Kd.N_base ho0) hb); have n1_ := am (Kd.N_lower (Kd.N_mono (ok' := fun k_ => (P0_ k_ ∨ w.heap.size ≤ k_)) ho0 (fun k_ hk_ => (.inr (Nat.le_trans (below_size bz) hk_)))) (below_size bz)); have n2_ := am (below_step bz hb); clear HO0 HB; have HO0 := n0_; have HO103 := n1_; have HB := n2_; clear n0_ n1_ n2_; (try clear hb); (try clear hb2); (try clear hk); (try clear hi); (try clear ho0)))
  go_ret
  exact ⟨_, ez, nz HO103.out, bz⟩
 rw [if_neg c6] at H; have c6b0 : ((l1.length : Int) == 0) = false := beq_eq_false_iff_ne.mpr c6; have c6b1 : ((l1.length : Int) != 0) = true := bne_iff_ne.mpr c6
 have c6b2 : ¬ (l1 = []) := fun h_ => c6 (by rw [h_]; rfl)
 have HC9 := am H; clear H
 go_enter Tryz.func98, Tryz.ntmps98
 go_upto_if 21 with (fail)
 go_cut [3] (fun v3 wc => ∃ (kq : Nat) (x3_8 : Int), v3 = .int .i64 x3_8 ∧ Aside0 (bytes_genSplit.j0 kq l0 l1 a2 x3_8 = some r) ∧ Aside0 (kq ≤ k) ∧ Aside0 (Kd.V (Kd.int .u8) 5 wc w.heap.size (fun k_ => (P0_ k_ ∨ w.heap.size ≤ k_)) (.slice A0 l0.length c0) l0) ∧ Aside0 (Below w.heap.size w wc))
 case first =>
  have H := HC9.out; clear HC9
  by_cases c10 : a3 < 0
  ·rw [if_pos c10] at H; have c10b0 : decide (a3 < 0) = true := decide_eq_true c10; clear c10
   (first | rw [c10b0] | (simp only [i64_w, i32_w]; rw [c10b0]) | skip)
   replace H := Option.bind_eq_some_iff.mp H; obtain ⟨t104, A110, H⟩ := H; replace H : (bytes_genSplit.j0 k l0 l1 a2 (wrap64 (t104 + 1))) = some r := H; have A11 := am A110; clear A110; have H' := am H; clear H
   go_wp2_with (first | ((with_reducible refine gate_callee (f := 120) rfl ?_); refine goesL_ (some 24) rfl rfl Tryz.func120 (by kernel_rfl) rfl #[.slice A0 l0.length c0, .slice A1 l1.length c1] rfl mz ?_; (with_reducible refine (bytes_Count.calls _ _ l0 _ _ l1 t104 _ ?side1 ?side2 ?side3 ?side4 A11.out).mono ?_); (case side1 => exact cz (Kd.V_reads' HO0.out).2.2); (case side2 => exact (Kd.V_reads' HO0.out).2.1); (case side3 => exact cz (Kd.C_below HR1.out HB.out)); (case side4 => exact HC1.out); rintro e w12 ⟨rfl, hb⟩; refine ⟨_, rfl, ?_⟩; replace HO0 := am (Kd.V_below (vz HO0.out) hb); replace HB := am (below_step bz hb); (try clear hb); (try clear hb2); (try clear hk); (try clear hi)))
   go_meet
   case rel => exact ⟨_, (wrap64 (t104 + 1)), sz, H', ⟨by first | omega | exact Nat.le_refl _⟩, ⟨vz HO0.out⟩, ⟨bz⟩⟩
  rw [if_neg c10] at H; have c10b0 : decide (a3 < 0) = false := decide_eq_false c10; clear c10
  (first | rw [c10b0] | (simp only [i64_w, i32_w]; rw [c10b0]) | skip)
  have H' := am H; clear H
  go_wp2
  go_meet
  case rel => exact ⟨_, (a3), sz, H', ⟨by first | omega | exact Nat.le_refl _⟩, ⟨vz HO0.out⟩, ⟨bz⟩⟩
 case rest =>
  clear HC9; (try clear c1); (try clear p2); (try clear c5); (try clear c5b0); (try clear c5b1); (try clear c6); (try clear c6b0); (try clear c6b1); (try clear c6b2); (try clear p6); (try clear c9); (try clear c10); (try clear c10b0); (try clear c11); (try clear c12); obtain ⟨kq, x3_8, rfl, HA, HJ8, HO_0, HB⟩ := hcut
  cases kq with
  | zero => exact absurd HA.out (by simp [bytes_genSplit.j0])
  | succ kj8 =>
   have H := HA.out; clear HA; simp only [bytes_genSplit.j0] at H; obtain ⟨ji13, hji13⟩ : ∃ j_ : Int, (mn x3_8 (wrap64 ((l0.length : Int) + 1))) = j_ := ⟨_, rfl⟩
   replace H : (if 0 ≤ (ji13) then (if (ji13 : Int).toNat ≤ 11728124029610 then (bytes_genSplit.l0 kj8 l0 l1 a2 (wrap64 ((ji13) - 1)) (List.replicate (ji13 : Int).toNat []) 0) else (none)) else (none)) = some r := by first | (rw [hji13] at H; exact H) | (simp only [hji13] at H ⊢; exact H)
   have hji13_ : (if (wrap64 ((l0.length : Int) + 1)) < x3_8 then (wrap64 ((l0.length : Int) + 1)) else x3_8) = ji13 := hji13
   by_cases c14 : 0 ≤ (ji13)
   ·rw [if_pos c14] at H; have c14b0 := eq_true c14; have c14b1 : decide (0 ≤ (ji13)) = true := decide_eq_true c14; clear c14
    by_cases c15 : (ji13 : Int).toNat ≤ 11728124029610
    ·rw [if_pos c15] at H; have c15b0 := eq_true c15; have c15b1 : decide ((ji13 : Int).toNat ≤ 11728124029610) = true := decide_eq_true c15; clear c15; obtain ⟨y105, hy105⟩ : ∃ y_ : List (List Int), y_ = (List.replicate (ji13 : Int).toNat []) := ⟨_, rfl⟩
     replace H : (bytes_genSplit.l0 kj8 l0 l1 a2 (wrap64 ((ji13) - 1)) y105 0) = some r := by first | (rw [hy105]; with_reducible exact H) | (have H2_ := (Option.bind_some _ _).symm.trans H; rw [hy105]; with_reducible exact H2_) | (have H2_ := (Option.bind_some _ _).symm.trans H; with_reducible exact H2_) | with_reducible exact H | (rw [hy105]; exact H) | exact H
     have Ny105 := am hy105; clear hy105; have H' := am H; clear H
     go_wp2_with (first | ((with_reducible refine gate_dst (N := 32) rfl ?_); refine Kd.N_make (Kd.slice 5 (Kd.int .u8)) _ 34 rfl (N' := 32) rfl 89 _ _ rfl ji13 rfl rfl Tryz.underlying89 (.slice none 0 0) 24 info34 rfl (by decide) (by omega) [] (ok := fun k_ => wc.heap.size ≤ k_) (okp := fun _ => False) (Kd.FK_slice_mk (Nat.le_refl _) (Kd.F_nil _ _ _)) (fun _ hk => hk.elim) (Nat.le_refl _) (of_decide_eq_true az) (Nat.le_trans (Nat.mul_le_mul_right _ (of_decide_eq_true az : ji13.toNat ≤ 11728124029610)) (by omega)) (Below.refl _ _) (Nat.le_refl _) ?_; intro v106 w16 ho17 hb hg_ hnew_; clear hg_ hnew_; (first | rw [← Ny105.out] at ho17 | (simp only [Int.reduceToNat] at ho17; rw [← Ny105.out] at ho17)); have n0_ := am (Kd.V_elder' (vz HO_0.out) (Kd.N_base ho17) hb); have n1_ := am (Kd.N_lower (Kd.N_mono (ok' := fun k_ => (P0_ k_ ∨ w.heap.size ≤ k_)) ho17 (fun k_ hk_ => (.inr (Nat.le_trans (below_size bz) hk_)))) (below_size bz)); have n2_ := am (below_step bz hb); clear HO_0 HB; have HO_0 := n0_; have HO107 := n1_; have HB := n2_; clear n0_ n1_ n2_; clear hb ho17))
     go_loopg [0, 10] kj8 (fun kq v0 v10 w' => ∃ (x0_2 : List Int) (x9_2 : List (List Int)) (x10_2 : Int), v10 = .int .i64 x10_2 ∧ Aside0 (bytes_genSplit.l0 kq x0_2 l1 a2 (wrap64 ((ji13) - 1)) x9_2 x10_2 = some r) ∧ Aside0 (kq ≤ kj8) ∧ Aside0 (Kd.V (Kd.int .u8) 5 w' w.heap.size (fun k_ => (P0_ k_ ∨ w.heap.size ≤ k_) ∧ some k_ ≠ (v106 : Value).ownBlock) v0 x0_2) ∧ Aside0 (Kd.N (Kd.slice 5 (Kd.int .u8)) 34 w' w.heap.size (fun k_ => (P0_ k_ ∨ w.heap.size ≤ k_)) v106 x9_2) ∧ Aside0 (Below w.heap.size w w'))
     case atStart => exact ⟨(l0), (y105), (0), sz, H', ⟨Nat.le_refl _⟩, ⟨vz HO_0.out⟩, ⟨nz HO107.out⟩, ⟨bz⟩⟩
     case round =>
      clear H'; (try clear c1); (try clear p2); (try clear c5); (try clear c5b0); (try clear c5b1); (try clear c6); (try clear c6b0); (try clear c6b1); (try clear c6b2); (try clear p6); (try clear c9); (try clear c10); (try clear c10b0); (try clear c11); (try clear c12); (try clear c14); (try clear c14b0); (try clear c14b1); (try clear c15); (try clear c15b0); (try clear c15b1); (try clear p2); (try clear p6); obtain ⟨x0_2, x9_2, x10_2, rfl, HA, HK2, HO_0, HO_9, HB⟩ := hrel
      cases gk with
      | zero => exact absurd HA.out (by simp [bytes_genSplit.l0])
      | succ k2 =>
       have H := HA.out; clear HA; simp only [bytes_genSplit.l0] at H
       by_cases c18 : x10_2 < (wrap64 ((ji13) - 1))
       ·rw [if_pos c18] at H; have c18b0 : decide (x10_2 < (wrap64 ((ji13) - 1))) = true := decide_eq_true c18; clear c18; replace H := Option.bind_eq_some_iff.mp H; obtain ⟨t108, A190, H⟩ := H; (try dsimp only at H); have A19 := am A190; clear A190
        by_cases c20 : t108 < 0
        ·rw [if_pos c20] at H; have c20b0 : decide (t108 < 0) = true := decide_eq_true c20; clear c20
         by_cases c21 : 0 ≤ x10_2
         ·rw [if_pos c21] at H; have c21b0 : decide (0 ≤ x10_2) = true := decide_eq_true c21; clear c21
          by_cases c22 : x10_2 < (x9_2.length : Int)
          ·rw [if_pos c22] at H; have c22b0 : decide (x10_2 < (x9_2.length : Int)) = true := decide_eq_true c22; clear c22; obtain ⟨y109, hy109⟩ : ∃ y_ : List (List Int), y_ = (x9_2.set (x10_2 : Int).toNat x0_2) := ⟨_, rfl⟩
           replace H : (if 0 ≤ (wrap64 (x10_2 + 1)) then (if (wrap64 (x10_2 + 1)) ≤ (x9_2.length : Int) then (some (y109.take ((wrap64 (x10_2 + 1)) : Int).toNat)) else (none)) else (none)) = some r := by first | (rw [hy109]; with_reducible exact H) | (have H2_ := (Option.bind_some _ _).symm.trans H; rw [hy109]; with_reducible exact H2_) | (have H2_ := (Option.bind_some _ _).symm.trans H; with_reducible exact H2_) | with_reducible exact H | (rw [hy109]; exact H) | exact H
           have Ny109 := am hy109; clear hy109; obtain ⟨ji24, hji24⟩ : ∃ j_ : Int, (wrap64 (x10_2 + 1)) = j_ := ⟨_, rfl⟩
           replace H : (if 0 ≤ (ji24) then (if (ji24) ≤ (x9_2.length : Int) then (some (y109.take ((ji24) : Int).toNat)) else (none)) else (none)) = some r := by first | (rw [hji24] at H; exact H) | (simp only [hji24] at H ⊢; exact H)
           (try rw [hji24] at A19); have hji24w : (IntKind.i64.wrap (x10_2 + 1)) = ji24 := (i64_w _).trans hji24
           by_cases c25 : 0 ≤ (ji24)
           ·rw [if_pos c25] at H; have c25b0 := eq_true c25; have c25b1 : decide (0 ≤ (ji24)) = true := decide_eq_true c25; clear c25
            by_cases c26 : (ji24) ≤ (x9_2.length : Int)
            ·rw [if_pos c26] at H; have c26b0 := eq_true c26; have c26b1 : decide ((ji24) ≤ (x9_2.length : Int)) = true := decide_eq_true c26; clear c26; obtain ⟨y110, hy110⟩ : ∃ y_ : List (List Int), y_ = (y109.take ((ji24) : Int).toNat) := ⟨_, rfl⟩
             replace H : (some y110) = some r := by first | (rw [hy110]; with_reducible exact H) | (have H2_ := (Option.bind_some _ _).symm.trans H; rw [hy110]; with_reducible exact H2_) | (have H2_ := (Option.bind_some _ _).symm.trans H; with_reducible exact H2_) | with_reducible exact H | (rw [hy110]; exact H) | exact H
             have Ny110 := am hy110; clear hy110; obtain rfl := Option.some.inj H; obtain ⟨Ao27, co27, eo27⟩ := Kd.V_slice HO_0.out; subst eo27
             go_wp2_with (first | ((with_reducible refine gate_callee (f := 121) rfl ?_); refine goesL_ (some 40) rfl rfl Tryz.func121 (by kernel_rfl) rfl #[.slice Ao27 x0_2.length co27, .slice A1 l1.length c1] rfl mz ?_; (with_reducible refine (bytes_Index.calls _ _ x0_2 _ _ l1 t108 _ ?side1 ?side2 ?side3 ?side4 A19.out).mono ?_); (case side1 => exact cz (Kd.V_reads' HO_0.out).2.2); (case side2 => exact (Kd.V_reads' HO_0.out).2.1); (case side3 => exact cz (Kd.C_below HR1.out HB.out)); (case side4 => exact HC1.out); rintro e w28 ⟨rfl, hb⟩; refine ⟨_, rfl, ?_⟩; replace HO_0 := am (Kd.V_below (vz HO_0.out) hb); replace HO_9 := am (Kd.N_below (nz HO_9.out) hb); replace HB := am (below_step bz hb); (try clear hb); (try clear hb2); (try clear hk); (try clear hi); have p23 : 0 ≤ (x10_2 : Int) := of_decide_eq_true az; have q23 : (x10_2 : Int) < ((x9_2.length : Int) : Int) := of_decide_eq_true az; obtain ⟨go23, co23, eo23, gb23, gl23, cl23, HG23⟩ := Kd.N_form HO_9.out (by omega); (first | cases eo23 | (injection eo23 with ea_ en_ ec_; (first | subst ea_ | (injection ea_ with ea_; subst ea_)); subst ec_; clear en_)); have GB23 := am gb23; have GG23 := am HG23; clear gb23 gl23 HG23; obtain ⟨ce23, hcl23, hM23, hcc23, hfr23⟩ := Kd.N_elem HO_9.out [] (x10_2 : Int) p23 q23; obtain ⟨ua23_0, uc23_0, rfl, ul23_0, ge23_0⟩ := Kd.FK_slice_open hM23; have hx23_0 := hcc23 0 _ rfl; have hf23_0 := hfr23 0; (try simp only [show ((Kd.slice 5 (Kd.int .u8))).sz = 1 from rfl, Nat.mul_one, Nat.add_zero] at hx23_0); (try simp only [show ((Kd.slice 5 (Kd.int .u8))).sz = 1 from rfl, Nat.mul_one, Nat.add_zero] at hf23_0); clear hcl23 hcc23 hfr23 hM23; replace p23 := eq_true p23; replace q23 := eq_true q23; have HX29 := am (show Kd.N (Kd.slice 5 (Kd.int .u8)) 34 w28 w.heap.size (fun k_ => (P0_ k_ ∨ w.heap.size ≤ k_)) (.slice (some ⟨go23, 0, none⟩) x9_2.length co23) x9_2 from (nz HO_9.out)); obtain ⟨ce29, hcl29, hM29, hcc29, hfr29⟩ := Kd.N_elem HX29.out [] (x10_2 : Int) (of_decide_eq_true az) (by have h_ : (x10_2 : Int) < ((x9_2.length : Int) : Int) := of_decide_eq_true az; first | exact h_ | (have e_ := (Kd.N_reads' HO_9.out).1; omega) | simpa using h_); obtain ⟨ua29_0, uc29_0, rfl, ul29_0, ge29_0⟩ := Kd.FK_slice_open hM29; have HP29 := Kd.N_seg HX29.out (x10_2 : Int) (of_decide_eq_true az) (by have h_ : (x10_2 : Int) < ((x9_2.length : Int) : Int) := of_decide_eq_true az; first | exact h_ | (have e_ := (Kd.N_reads' HO_9.out).1; omega) | simpa using h_) (seg := [.slice Ao27 x0_2.length co27]) (j := 0) hcl29 hcc29 (show 1 ≤ 1 from by decide) (x' := x0_2) (Kd.FK_slice_mk (Kd.V_reads' (Kd.V_mono (ok' := (fun k_ => ((fun k_ => (P0_ k_ ∨ w.heap.size ≤ k_))) k_ ∧ k_ ≠ go23)) (HO_0.out) (fun k_ hk => ⟨hk.1, fun e_ => (hk.2) (by rw [e_]; rfl)⟩))).2.1 (Kd.V_F (Kd.V_mono (ok' := (fun k_ => ((fun k_ => (P0_ k_ ∨ w.heap.size ≤ k_))) k_ ∧ k_ ≠ go23)) (HO_0.out) (fun k_ hk => ⟨hk.1, fun e_ => (hk.2) (by rw [e_]; rfl)⟩)))) (fun _ hk => hk); have hx29_0 := hcc29 0 _ rfl; (try simp only [show ((Kd.slice 5 (Kd.int .u8))).sz = 1 from rfl, Nat.mul_one, Nat.add_zero] at hx29_0); have hf29_0 := hfr29 0; (try simp only [show ((Kd.slice 5 (Kd.int .u8))).sz = 1 from rfl, Nat.mul_one, Nat.add_zero] at hf29_0); clear hcl29 hcc29 hfr29 hM29; (try simp only [show ((Kd.slice 5 (Kd.int .u8))).sz = 1 from rfl, Nat.mul_one, Nat.add_zero] at HP29); (try simp only [show ((Kd.slice 5 (Kd.int .u8))).sz = 1 from rfl, Nat.mul_one, Nat.add_zero] at HP29)) | ((with_reducible refine gate_store (t := 34) (p := 65) rfl ?_); refine store_event (t := 34) (p := 65) (v := ?vo_w30) (w1 := (w28.setCell ⟨go23, (x10_2 : Int).toNat, none⟩ (.slice Ao27 x0_2.length co27))) ?hg ?ho ?hn ?hr ?_; (case ho => rfl); (case hg => rfl); (case hn => rfl); (case hr => first | (go_simp; done) | (go_simp; rfl)); intro w30 hw; have hg : w28.grownBy w30 (some go23) := (by rw [hw]; exact HP29.2); have hp_ : Kd.N (Kd.slice 5 (Kd.int .u8)) 34 w30 w.heap.size (fun k_ => (P0_ k_ ∨ w.heap.size ≤ k_)) (.slice (some ⟨go23, 0, none⟩) x9_2.length co23) y109 := (by rw [hw, Ny109.out]; exact HP29.1); clear HP29; replace HO_0 := am (Kd.V_afterv (v := (.slice (some ⟨go23, 0, none⟩) x9_2.length co23)) (v1 := (.slice (some ⟨go23, 0, none⟩) x9_2.length co23)) (ok := (fun k_ => (P0_ k_ ∨ w.heap.size ≤ k_))) (vz HO_0.out) hg (.inl rfl)); replace HO_9 := am (hp_); replace HB := am ((by rw [hw]; exact below_set (HB.out) GB23.out : Below w.heap.size w w30)); clear hg hw hp_; have q31 : ((ji24) : Int) ≤ ((x9_2.length : Int) : Int) := of_decide_eq_true az; obtain ⟨i031, hi031, _, hsz31, _⟩ := info_parts info34; have hcut31 := cut_to (P := Tryz.prog) 89 34 .i64 Tryz.underlying89 hi031 (some ⟨go23, 0, none⟩) x9_2.length co23 (ji24) (of_decide_eq_true az) q31 (Kd.N_reads' HO_9.out).2.1; have hr31 := Kd.N_take (m := ((ji24) : Int).toNat) HO_9.out (by first | omega | (have l1_ := congrArg List.length Ny109.out; rw [List.length_set] at l1_; omega)); have hy31 : y110.length = ((ji24) : Int).toNat := (by rw [Ny110.out, List.length_take]; first | omega | (have l1_ := congrArg List.length Ny109.out; rw [List.length_set] at l1_; omega)); rw [← Ny110.out] at hr31; rw [← hy31] at hr31 hcut31; clear hy31 hi031 hsz31 HO_9; have HO112 := am hr31; clear hr31; replace q31 := eq_true q31))
             go_ret
             exact ⟨_, by first | rfl | (simp [errW_none, errW_some] <;> rfl) | (simp only [← hji13, ← hji24]; first | rfl | (simp [errW_none, errW_some] <;> rfl)) | (simp [*, errW_none, errW_some] <;> rfl), nz HO112.out, bz⟩
            rw [if_neg c26] at H
            exact absurd H (by simp)
           rw [if_neg c25] at H
           exact absurd H (by simp)
          rw [if_neg c22] at H
          exact absurd H (by simp)
         rw [if_neg c21] at H
         exact absurd H (by simp)
        rw [if_neg c20] at H; have c20b0 : decide (t108 < 0) = false := decide_eq_false c20; clear c20; obtain ⟨ji32, hji32⟩ : ∃ j_ : Int, (wrap64 (t108 + a2)) = j_ := ⟨_, rfl⟩
        replace H : (if 0 ≤ (ji32) then (if (ji32) ≤ (x0_2.length : Int) then (if 0 ≤ x10_2 then (if x10_2 < (x9_2.length : Int) then (if 0 ≤ (wrap64 (t108 + (l1.length : Int))) then (if (wrap64 (t108 + (l1.length : Int))) ≤ (x0_2.length : Int) then (bytes_genSplit.l0 k2 (x0_2.drop ((wrap64 (t108 + (l1.length : Int))) : Int).toNat) l1 a2 (wrap64 ((ji13) - 1)) (x9_2.set (x10_2 : Int).toNat (x0_2.take ((ji32) : Int).toNat)) (wrap64 (x10_2 + 1))) else (none)) else (none)) else (none)) else (none)) else (none)) else (none)) = some r := by first | (rw [hji32] at H; exact H) | (simp only [hji32] at H ⊢; exact H)
        (try rw [hji32] at A19); have hji32w : (IntKind.i64.wrap (t108 + a2)) = ji32 := (i64_w _).trans hji32
        by_cases c33 : 0 ≤ (ji32)
        ·rw [if_pos c33] at H; have c33b0 := eq_true c33; have c33b1 : decide (0 ≤ (ji32)) = true := decide_eq_true c33; clear c33
         by_cases c34 : (ji32) ≤ (x0_2.length : Int)
         ·rw [if_pos c34] at H; have c34b0 := eq_true c34; have c34b1 : decide ((ji32) ≤ (x0_2.length : Int)) = true := decide_eq_true c34; clear c34; obtain ⟨y113, hy113⟩ : ∃ y_ : List Int, y_ = (x0_2.take ((ji32) : Int).toNat) := ⟨_, rfl⟩
          replace H : (if 0 ≤ x10_2 then (if x10_2 < (x9_2.length : Int) then (if 0 ≤ (wrap64 (t108 + (l1.length : Int))) then (if (wrap64 (t108 + (l1.length : Int))) ≤ (x0_2.length : Int) then (bytes_genSplit.l0 k2 (x0_2.drop ((wrap64 (t108 + (l1.length : Int))) : Int).toNat) l1 a2 (wrap64 ((ji13) - 1)) (x9_2.set (x10_2 : Int).toNat y113) (wrap64 (x10_2 + 1))) else (none)) else (none)) else (none)) else (none)) = some r := by first | (rw [hy113]; with_reducible exact H) | (have H2_ := (Option.bind_some _ _).symm.trans H; rw [hy113]; with_reducible exact H2_) | (have H2_ := (Option.bind_some _ _).symm.trans H; with_reducible exact H2_) | with_reducible exact H | (rw [hy113]; exact H) | exact H
          have Ny113 := am hy113; clear hy113
          by_cases c35 : 0 ≤ x10_2
          ·rw [if_pos c35] at H; have c35b0 : decide (0 ≤ x10_2) = true := decide_eq_true c35; clear c35
           by_cases c36 : x10_2 < (x9_2.length : Int)
           ·rw [if_pos c36] at H; have c36b0 : decide (x10_2 < (x9_2.length : Int)) = true := decide_eq_true c36; clear c36; obtain ⟨y118, hy118⟩ : ∃ y_ : List (List Int), y_ = (x9_2.set (x10_2 : Int).toNat y113) := ⟨_, rfl⟩
            replace H : (if 0 ≤ (wrap64 (t108 + (l1.length : Int))) then (if (wrap64 (t108 + (l1.length : Int))) ≤ (x0_2.length : Int) then (bytes_genSplit.l0 k2 (x0_2.drop ((wrap64 (t108 + (l1.length : Int))) : Int).toNat) l1 a2 (wrap64 ((ji13) - 1)) y118 (wrap64 (x10_2 + 1))) else (none)) else (none)) = some r := by first | (rw [hy118]; with_reducible exact H) | (have H2_ := (Option.bind_some _ _).symm.trans H; rw [hy118]; with_reducible exact H2_) | (have H2_ := (Option.bind_some _ _).symm.trans H; with_reducible exact H2_) | with_reducible exact H | (rw [hy118]; exact H) | exact H
            have Ny118 := am hy118; clear hy118; obtain ⟨ji38, hji38⟩ : ∃ j_ : Int, (wrap64 (t108 + (l1.length : Int))) = j_ := ⟨_, rfl⟩
            replace H : (if 0 ≤ (ji38) then (if (ji38) ≤ (x0_2.length : Int) then (bytes_genSplit.l0 k2 (x0_2.drop ((ji38) : Int).toNat) l1 a2 (wrap64 ((ji13) - 1)) y118 (wrap64 (x10_2 + 1))) else (none)) else (none)) = some r := by first | (rw [hji38] at H; exact H) | (simp only [hji38] at H ⊢; exact H)
            (try rw [hji38] at A19); have hji38w : (IntKind.i64.wrap (t108 + (l1.length : Int))) = ji38 := (i64_w _).trans hji38
            by_cases c39 : 0 ≤ (ji38)
            ·rw [if_pos c39] at H; have c39b0 := eq_true c39; have c39b1 : decide (0 ≤ (ji38)) = true := decide_eq_true c39; clear c39
             by_cases c40 : (ji38) ≤ (x0_2.length : Int)
             ·rw [if_pos c40] at H; have c40b0 := eq_true c40; have c40b1 : decide ((ji38) ≤ (x0_2.length : Int)) = true := decide_eq_true c40; clear c40; obtain ⟨y119, hy119⟩ : ∃ y_ : List Int, y_ = (x0_2.drop ((ji38) : Int).toNat) := ⟨_, rfl⟩
              replace H : (bytes_genSplit.l0 k2 y119 l1 a2 (wrap64 ((ji13) - 1)) y118 (wrap64 (x10_2 + 1))) = some r := by first | (rw [hy119]; with_reducible exact H) | (have H2_ := (Option.bind_some _ _).symm.trans H; rw [hy119]; with_reducible exact H2_) | (have H2_ := (Option.bind_some _ _).symm.trans H; with_reducible exact H2_) | with_reducible exact H | (rw [hy119]; exact H) | exact H
              have Ny119 := am hy119; clear hy119; have H' := am H; clear H; obtain ⟨Ao41, co41, eo41⟩ := Kd.V_slice HO_0.out; subst eo41
              go_wp2_with (first | ((with_reducible refine gate_callee (f := 121) rfl ?_); refine goesL_ (some 40) rfl rfl Tryz.func121 (by kernel_rfl) rfl #[.slice Ao41 x0_2.length co41, .slice A1 l1.length c1] rfl mz ?_; (with_reducible refine (bytes_Index.calls _ _ x0_2 _ _ l1 t108 _ ?side1 ?side2 ?side3 ?side4 A19.out).mono ?_); (case side1 => exact cz (Kd.V_reads' HO_0.out).2.2); (case side2 => exact (Kd.V_reads' HO_0.out).2.1); (case side3 => exact cz (Kd.C_below HR1.out HB.out)); (case side4 => exact HC1.out); rintro e w42 ⟨rfl, hb⟩; refine ⟨_, rfl, ?_⟩; replace HO_0 := am (Kd.V_below (vz HO_0.out) hb); replace HO_9 := am (Kd.N_below (nz HO_9.out) hb); replace HB := am (below_step bz hb); (try clear hb); (try clear hb2); (try clear hk); (try clear hi); have q43 : ((ji32) : Int) ≤ ((x0_2.length : Int) : Int) := of_decide_eq_true az; obtain ⟨i043, hi043, _, hsz43, _⟩ := info_parts info5; have hroom43 : x0_2.length ≤ co41 := (Kd.V_reads' HO_0.out).2.1; have hC43 : Kd.F (Kd.int .u8) _ _ Ao41 x0_2.length x0_2 := (Kd.V_at (base := w.heap.size) HO_0.out).2.2; have hcut43 := cut_to3 (P := Tryz.prog) 34 5 .i64 .i64 Tryz.underlying34 hi043 Ao41 x0_2.length co41 (ji32) (of_decide_eq_true az) q43 hroom43; have hr43 := Kd.F_take (m := ((ji32) : Int).toNat) hC43 (by omega); have hy43 : y113.length = ((ji32) : Int).toNat := (by rw [Ny113.out, List.length_take]; omega); rw [← Ny113.out] at hr43; rw [← hy43] at hcut43; have HO117 := am (show Kd.V (Kd.int .u8) 5 _ w.heap.size _ (.slice Ao41 y113.length y113.length) y113 from Kd.V_mk (Nat.le_refl _) hr43); have HC117 := am (show y113.length ≤ y113.length from by omega); clear hr43 hC43 hroom43 hi043 hsz43; have KY43 := am hy43; clear hy43; replace q43 := eq_true q43; have p37 : 0 ≤ (x10_2 : Int) := of_decide_eq_true az; have q37 : (x10_2 : Int) < ((x9_2.length : Int) : Int) := of_decide_eq_true az; obtain ⟨go37, co37, eo37, gb37, gl37, cl37, HG37⟩ := Kd.N_form HO_9.out (by omega); (first | cases eo37 | (injection eo37 with ea_ en_ ec_; (first | subst ea_ | (injection ea_ with ea_; subst ea_)); subst ec_; clear en_)); have GB37 := am gb37; have GG37 := am HG37; clear gb37 gl37 HG37; obtain ⟨ce37, hcl37, hM37, hcc37, hfr37⟩ := Kd.N_elem HO_9.out [] (x10_2 : Int) p37 q37; obtain ⟨ua37_0, uc37_0, rfl, ul37_0, ge37_0⟩ := Kd.FK_slice_open hM37; have hx37_0 := hcc37 0 _ rfl; have hf37_0 := hfr37 0; (try simp only [show ((Kd.slice 5 (Kd.int .u8))).sz = 1 from rfl, Nat.mul_one, Nat.add_zero] at hx37_0); (try simp only [show ((Kd.slice 5 (Kd.int .u8))).sz = 1 from rfl, Nat.mul_one, Nat.add_zero] at hf37_0); clear hcl37 hcc37 hfr37 hM37; replace p37 := eq_true p37; replace q37 := eq_true q37; have HX44 := am (show Kd.N (Kd.slice 5 (Kd.int .u8)) 34 w42 w.heap.size (fun k_ => (P0_ k_ ∨ w.heap.size ≤ k_)) (.slice (some ⟨go37, 0, none⟩) x9_2.length co37) x9_2 from (nz HO_9.out)); obtain ⟨ce44, hcl44, hM44, hcc44, hfr44⟩ := Kd.N_elem HX44.out [] (x10_2 : Int) (of_decide_eq_true az) (by have h_ : (x10_2 : Int) < ((x9_2.length : Int) : Int) := of_decide_eq_true az; first | exact h_ | (have e_ := (Kd.N_reads' HO_9.out).1; omega) | simpa using h_); obtain ⟨ua44_0, uc44_0, rfl, ul44_0, ge44_0⟩ := Kd.FK_slice_open hM44; have HP44 := Kd.N_seg HX44.out (x10_2 : Int) (of_decide_eq_true az) (by have h_ : (x10_2 : Int) < ((x9_2.length : Int) : Int) := of_decide_eq_true az; first | exact h_ | (have e_ := (Kd.N_reads' HO_9.out).1; omega) | simpa using h_) (seg := [.slice Ao41 y113.length y113.length]) (j := 0) hcl44 hcc44 (show 1 ≤ 1 from by decide) (x' := y113) (Kd.FK_slice_mk (Kd.V_reads' (Kd.V_mono (ok' := (fun k_ => ((fun k_ => (P0_ k_ ∨ w.heap.size ≤ k_))) k_ ∧ k_ ≠ go37)) (HO117.out) (fun k_ hk => ⟨hk.1, fun e_ => (hk.2) (by rw [e_]; rfl)⟩))).2.1 (Kd.V_F (Kd.V_mono (ok' := (fun k_ => ((fun k_ => (P0_ k_ ∨ w.heap.size ≤ k_))) k_ ∧ k_ ≠ go37)) (HO117.out) (fun k_ hk => ⟨hk.1, fun e_ => (hk.2) (by rw [e_]; rfl)⟩)))) (fun _ hk => hk); have hx44_0 := hcc44 0 _ rfl; (try simp only [show ((Kd.slice 5 (Kd.int .u8))).sz = 1 from rfl, Nat.mul_one, Nat.add_zero] at hx44_0); have hf44_0 := hfr44 0; (try simp only [show ((Kd.slice 5 (Kd.int .u8))).sz = 1 from rfl, Nat.mul_one, Nat.add_zero] at hf44_0); clear hcl44 hcc44 hfr44 hM44; (try simp only [show ((Kd.slice 5 (Kd.int .u8))).sz = 1 from rfl, Nat.mul_one, Nat.add_zero] at HP44); (try simp only [show ((Kd.slice 5 (Kd.int .u8))).sz = 1 from rfl, Nat.mul_one, Nat.add_zero] at HP44)) | ((with_reducible refine gate_store (t := 34) (p := 53) rfl ?_); refine store_event (t := 34) (p := 53) (v := ?vo_w45) (w1 := (w42.setCell ⟨go37, (x10_2 : Int).toNat, none⟩ (.slice Ao41 y113.length y113.length))) ?hg ?ho ?hn ?hr ?_; (case ho => rfl); (case hg => rfl); (case hn => rfl); (case hr => first | (go_simp; done) | (go_simp; rfl)); intro w45 hw; have hg : w42.grownBy w45 (some go37) := (by rw [hw]; exact HP44.2); have hp_ : Kd.N (Kd.slice 5 (Kd.int .u8)) 34 w45 w.heap.size (fun k_ => (P0_ k_ ∨ w.heap.size ≤ k_)) (.slice (some ⟨go37, 0, none⟩) x9_2.length co37) y118 := (by rw [hw, Ny118.out]; exact HP44.1); clear HP44; replace HO_0 := am (Kd.V_afterv (v := (.slice (some ⟨go37, 0, none⟩) x9_2.length co37)) (v1 := (.slice (some ⟨go37, 0, none⟩) x9_2.length co37)) (ok := (fun k_ => (P0_ k_ ∨ w.heap.size ≤ k_))) (vz HO_0.out) hg (.inl rfl)); replace HO_9 := am (hp_); replace HO117 := am (Kd.V_afterv (v := (.slice (some ⟨go37, 0, none⟩) x9_2.length co37)) (v1 := (.slice (some ⟨go37, 0, none⟩) x9_2.length co37)) (ok := (fun k_ => (P0_ k_ ∨ w.heap.size ≤ k_))) (vz HO117.out) hg (.inl rfl)); replace HB := am ((by rw [hw]; exact below_set (HB.out) GB37.out : Below w.heap.size w w45)); clear hg hw hp_; have q46 : ((ji38) : Int) ≤ ((x0_2.length : Int) : Int) := of_decide_eq_true az; obtain ⟨i046, hi046, _, hsz46, _⟩ := info_parts info5; have hroom46 : x0_2.length ≤ co41 := (Kd.V_reads' HO_0.out).2.1; have hC46 : Kd.F (Kd.int .u8) _ _ Ao41 x0_2.length x0_2 := (Kd.V_at (base := w.heap.size) HO_0.out).2.2; have q046 : (0 : Int) ≤ ((ji38) : Int) := of_decide_eq_true az; have hcut46 := cut_from (P := Tryz.prog) 34 5 .i64 Tryz.underlying34 hi046 1 hsz46 Ao41 x0_2.length co41 (ji38) q046 q46; have hr46 := Kd.F_cut (m := ((ji38) : Int).toNat) (c := co41) hC46 (by omega) hroom46; obtain ⟨A46, hA46⟩ : ∃ A1, A1 = (if co41 = ((ji38) : Int).toNat then Ao41 else (Ao41 : Option Addr).map (·.add (((ji38) : Int).toNat * 1))) := ⟨_, rfl⟩; obtain ⟨c46, hc46⟩ : ∃ c1, c1 = co41 - ((ji38) : Int).toNat := ⟨_, rfl⟩; have hy46 : y119.length = x0_2.length - ((ji38) : Int).toNat := (by rw [Ny119.out, List.length_drop] <;> omega); rw [show (x0_2).drop ((ji38) : Int).toNat = y119 from Ny119.out.symm] at hr46; replace hr46 : Kd.F (Kd.int .u8) _ _ A46 y119.length y119 := (by rw [hA46]; exact hr46); rw [← hy46, ← hA46, ← hc46] at hcut46; have HO123 := am (show Kd.V (Kd.int .u8) 5 _ w.heap.size _ (.slice A46 y119.length c46) y119 from Kd.V_mk (by rw [hy46, hc46]; exact Nat.sub_le_sub_right hroom46 _) hr46); have HC123 := am (show y119.length ≤ c46 from by rw [hy46, hc46]; exact Nat.sub_le_sub_right hroom46 _); clear hr46 hC46 hroom46 hi046 hsz46 hc46; have KY46 := am hy46; have KA46 := am hA46; clear hy46 hA46; replace q46 := eq_true q46))
              go_roundg k2
              case measure => have := HJ8.out; have := HK2.out; omega
              case rel => exact ⟨(y119), (y118), (wrap64 (x10_2 + 1)), sz, H', ⟨by have := HJ8.out; have := HK2.out; omega⟩, ⟨vz HO123.out⟩, ⟨nz HO_9.out⟩, ⟨bz⟩⟩
             rw [if_neg c40] at H
             exact absurd H (by simp)
            rw [if_neg c39] at H
            exact absurd H (by simp)
           rw [if_neg c36] at H
           exact absurd H (by simp)
          rw [if_neg c35] at H
          exact absurd H (by simp)
         rw [if_neg c34] at H
         exact absurd H (by simp)
        rw [if_neg c33] at H
        exact absurd H (by simp)
       rw [if_neg c18] at H; have c18b0 : decide (x10_2 < (wrap64 ((ji13) - 1))) = false := decide_eq_false c18; clear c18
       by_cases c47 : 0 ≤ x10_2
       ·rw [if_pos c47] at H; have c47b0 : decide (0 ≤ x10_2) = true := decide_eq_true c47; clear c47
        by_cases c48 : x10_2 < (x9_2.length : Int)
        ·rw [if_pos c48] at H; have c48b0 : decide (x10_2 < (x9_2.length : Int)) = true := decide_eq_true c48; clear c48; obtain ⟨y124, hy124⟩ : ∃ y_ : List (List Int), y_ = (x9_2.set (x10_2 : Int).toNat x0_2) := ⟨_, rfl⟩
         replace H : (if 0 ≤ (wrap64 (x10_2 + 1)) then (if (wrap64 (x10_2 + 1)) ≤ (x9_2.length : Int) then (some (y124.take ((wrap64 (x10_2 + 1)) : Int).toNat)) else (none)) else (none)) = some r := by first | (rw [hy124]; with_reducible exact H) | (have H2_ := (Option.bind_some _ _).symm.trans H; rw [hy124]; with_reducible exact H2_) | (have H2_ := (Option.bind_some _ _).symm.trans H; with_reducible exact H2_) | with_reducible exact H | (rw [hy124]; exact H) | exact H
         have Ny124 := am hy124; clear hy124; obtain ⟨ji50, hji50⟩ : ∃ j_ : Int, (wrap64 (x10_2 + 1)) = j_ := ⟨_, rfl⟩
         replace H : (if 0 ≤ (ji50) then (if (ji50) ≤ (x9_2.length : Int) then (some (y124.take ((ji50) : Int).toNat)) else (none)) else (none)) = some r := by first | (rw [hji50] at H; exact H) | (simp only [hji50] at H ⊢; exact H)
         have hji50w : (IntKind.i64.wrap (x10_2 + 1)) = ji50 := (i64_w _).trans hji50
         by_cases c51 : 0 ≤ (ji50)
         ·rw [if_pos c51] at H; have c51b0 := eq_true c51; have c51b1 : decide (0 ≤ (ji50)) = true := decide_eq_true c51; clear c51
          by_cases c52 : (ji50) ≤ (x9_2.length : Int)
          ·rw [if_pos c52] at H; have c52b0 := eq_true c52; have c52b1 : decide ((ji50) ≤ (x9_2.length : Int)) = true := decide_eq_true c52; clear c52; obtain ⟨y125, hy125⟩ : ∃ y_ : List (List Int), y_ = (y124.take ((ji50) : Int).toNat) := ⟨_, rfl⟩
           replace H : (some y125) = some r := by first | (rw [hy125]; with_reducible exact H) | (have H2_ := (Option.bind_some _ _).symm.trans H; rw [hy125]; with_reducible exact H2_) | (have H2_ := (Option.bind_some _ _).symm.trans H; with_reducible exact H2_) | with_reducible exact H | (rw [hy125]; exact H) | exact H
           have Ny125 := am hy125; clear hy125; obtain rfl := Option.some.inj H; have p49 : 0 ≤ (x10_2 : Int) := of_decide_eq_true az; have q49 : (x10_2 : Int) < ((x9_2.length : Int) : Int) := of_decide_eq_true az; obtain ⟨go49, co49, eo49, gb49, gl49, cl49, HG49⟩ := Kd.N_form HO_9.out (by omega)
           (first | cases eo49 | (injection eo49 with ea_ en_ ec_; (first | subst ea_ | (injection ea_ with ea_; subst ea_)); subst ec_; clear en_))
           have GB49 := am gb49; have GG49 := am HG49; clear gb49 gl49 HG49; obtain ⟨ce49, hcl49, hM49, hcc49, hfr49⟩ := Kd.N_elem HO_9.out [] (x10_2 : Int) p49 q49; obtain ⟨ua49_0, uc49_0, rfl, ul49_0, ge49_0⟩ := Kd.FK_slice_open hM49; have hx49_0 := hcc49 0 _ rfl; have hf49_0 := hfr49 0; (try simp only [show ((Kd.slice 5 (Kd.int .u8))).sz = 1 from rfl, Nat.mul_one, Nat.add_zero] at hx49_0); (try simp only [show ((Kd.slice 5 (Kd.int .u8))).sz = 1 from rfl, Nat.mul_one, Nat.add_zero] at hf49_0); clear hcl49 hcc49 hfr49 hM49; replace p49 := eq_true p49; replace q49 := eq_true q49; have HX53 := am (show Kd.N (Kd.slice 5 (Kd.int .u8)) 34 wr w.heap.size (fun k_ => (P0_ k_ ∨ w.heap.size ≤ k_)) (.slice (some ⟨go49, 0, none⟩) x9_2.length co49) x9_2 from (nz HO_9.out))
           obtain ⟨ce53, hcl53, hM53, hcc53, hfr53⟩ := Kd.N_elem HX53.out [] (x10_2 : Int) (of_decide_eq_true az) (by have h_ : (x10_2 : Int) < ((x9_2.length : Int) : Int) := of_decide_eq_true az; first | exact h_ | (have e_ := (Kd.N_reads' HO_9.out).1; omega) | simpa using h_); obtain ⟨ua53_0, uc53_0, rfl, ul53_0, ge53_0⟩ := Kd.FK_slice_open hM53; obtain ⟨Aq392, cq392, eq392_⟩ := Kd.V_slice HO_0.out; subst eq392_; have HP53 := Kd.N_seg HX53.out (x10_2 : Int) (of_decide_eq_true az) (by have h_ : (x10_2 : Int) < ((x9_2.length : Int) : Int) := of_decide_eq_true az; first | exact h_ | (have e_ := (Kd.N_reads' HO_9.out).1; omega) | simpa using h_) (seg := [(.slice Aq392 x0_2.length cq392)]) (j := 0) hcl53 hcc53 (show 1 ≤ 1 from by decide) (x' := x0_2) (Kd.FK_slice_mk (Kd.V_reads' (Kd.V_mono (ok' := (fun k_ => ((fun k_ => (P0_ k_ ∨ w.heap.size ≤ k_))) k_ ∧ k_ ≠ go49)) (HO_0.out) (fun k_ hk => ⟨hk.1, fun e_ => (hk.2) (by rw [e_]; rfl)⟩))).2.1 (Kd.V_F (Kd.V_mono (ok' := (fun k_ => ((fun k_ => (P0_ k_ ∨ w.heap.size ≤ k_))) k_ ∧ k_ ≠ go49)) (HO_0.out) (fun k_ hk => ⟨hk.1, fun e_ => (hk.2) (by rw [e_]; rfl)⟩)))) (fun _ hk => hk)
           have hx53_0 := hcc53 0 _ rfl; (try simp only [show ((Kd.slice 5 (Kd.int .u8))).sz = 1 from rfl, Nat.mul_one, Nat.add_zero] at hx53_0); have hf53_0 := hfr53 0; (try simp only [show ((Kd.slice 5 (Kd.int .u8))).sz = 1 from rfl, Nat.mul_one, Nat.add_zero] at hf53_0); clear hcl53 hcc53 hfr53 hM53; (try simp only [show ((Kd.slice 5 (Kd.int .u8))).sz = 1 from rfl, Nat.mul_one, Nat.add_zero] at HP53); (try simp only [show ((Kd.slice 5 (Kd.int .u8))).sz = 1 from rfl, Nat.mul_one, Nat.add_zero] at HP53)
           go_wp2_with (first | ((with_reducible refine gate_store (t := 34) (p := 65) rfl ?_); refine store_event (t := 34) (p := 65) (v := ?vo_w54) (w1 := (wr.setCell ⟨go49, (x10_2 : Int).toNat, none⟩ ((.slice Aq392 x0_2.length cq392)))) ?hg ?ho ?hn ?hr ?_; (case ho => rfl); (case hg => rfl); (case hn => rfl); (case hr => first | (go_simp; done) | (go_simp; rfl)); intro w54 hw; have hg : wr.grownBy w54 (some go49) := (by rw [hw]; exact HP53.2); have hp_ : Kd.N (Kd.slice 5 (Kd.int .u8)) 34 w54 w.heap.size (fun k_ => (P0_ k_ ∨ w.heap.size ≤ k_)) (.slice (some ⟨go49, 0, none⟩) x9_2.length co49) y124 := (by rw [hw, Ny124.out]; exact HP53.1); clear HP53; replace HO_0 := am (Kd.V_afterv (v := (.slice (some ⟨go49, 0, none⟩) x9_2.length co49)) (v1 := (.slice (some ⟨go49, 0, none⟩) x9_2.length co49)) (ok := (fun k_ => (P0_ k_ ∨ w.heap.size ≤ k_))) (vz HO_0.out) hg (.inl rfl)); replace HO_9 := am (hp_); replace HB := am ((by rw [hw]; exact below_set (HB.out) GB49.out : Below w.heap.size w w54)); clear hg hw hp_; have q55 : ((ji50) : Int) ≤ ((x9_2.length : Int) : Int) := of_decide_eq_true az; obtain ⟨i055, hi055, _, hsz55, _⟩ := info_parts info34; have hcut55 := cut_to (P := Tryz.prog) 89 34 .i64 Tryz.underlying89 hi055 (some ⟨go49, 0, none⟩) x9_2.length co49 (ji50) (of_decide_eq_true az) q55 (Kd.N_reads' HO_9.out).2.1; have hr55 := Kd.N_take (m := ((ji50) : Int).toNat) HO_9.out (by first | omega | (have l1_ := congrArg List.length Ny124.out; rw [List.length_set] at l1_; omega)); have hy55 : y125.length = ((ji50) : Int).toNat := (by rw [Ny125.out, List.length_take]; first | omega | (have l1_ := congrArg List.length Ny124.out; rw [List.length_set] at l1_; omega)); rw [← Ny125.out] at hr55; rw [← hy55] at hr55 hcut55; clear hy55 hi055 hsz55 HO_9; have HO127 := am hr55; clear hr55; replace q55 := eq_true q55))
           go_ret
           exact ⟨_, by first | rfl | (simp [errW_none, errW_some] <;> rfl) | (simp only [← hji13, ← hji50]; first | rfl | (simp [errW_none, errW_some] <;> rfl)) | (simp [*, errW_none, errW_some] <;> rfl), nz HO127.out, bz⟩
          rw [if_neg c52] at H
          exact absurd H (by simp)
         rw [if_neg c51] at H
         exact absurd H (by simp)
        rw [if_neg c48] at H
        exact absurd H (by simp)
       rw [if_neg c47] at H
       exact absurd H (by simp)
    rw [if_neg c15] at H
    exact absurd H (by simp)
   rw [if_neg c14] at H
   exact absurd H (by simp)

/-! ### bytes_SplitAfter: function 79 -/
def bytes_SplitAfter.f (k : Nat) (l0 : List Int) (l1 : List Int) : Option ((List (List Int))) := (bytes_genSplit.f k l0 l1 (l1.length : Int) (-1)).bind fun t128 => (some t128)
set_option maxHeartbeats 8000000 in
set_option maxRecDepth 100000 in
theorem bytes_SplitAfter.calls (k : Nat) (P0_ : Nat → Prop) (A0 : Option Addr) (c0 : Nat) (l0 : List Int) (A1 : Option Addr) (c1 : Nat) (l1 : List Int) (r : List (List Int)) (w : World) (hs0 : Kd.V (Kd.int .u8) 5 w w.heap.size (fun k_ => P0_ k_) (.slice A0 l0.length c0) l0) (hr1 : Kd.C (Kd.int .u8) w A1 l1.length l1) (hc1 : l1.length ≤ c1) (h : bytes_SplitAfter.f k l0 l1 = some r) :
  Calls Tryz.prog 79 #[.slice A0 l0.length c0, .slice A1 l1.length c1] w fun e w' => ∃ v0_ : Value, e = .returned (v0_) ∧ Kd.N (Kd.slice 5 (Kd.int .u8)) 34 w' w.heap.size (fun k_ => (P0_ k_ ∨ w.heap.size ≤ k_)) v0_ r ∧ Below w.heap.size w w' := by
 have HO0 := am (show Kd.V (Kd.int .u8) 5 w w.heap.size (fun k_ => (P0_ k_ ∨ w.heap.size ≤ k_)) (.slice A0 l0.length c0) l0 from Kd.V_mono hs0 (fun k_ hk => .inl hk)); have HR1 := am hr1; have HC1 := am hc1; clear hr1 hc1; have HB := am (Below.refl w.heap.size w); have H : ((bytes_genSplit.f k l0 l1 (l1.length : Int) (-1)).bind fun t128 => (some t128)) = some r := h; clear h; replace H := Option.bind_eq_some_iff.mp H; obtain ⟨t128, A30, H⟩ := H; replace H : (some t128) = some r := H; have A3 := am A30; clear A30; obtain rfl := Option.some.inj H
 go_enter Tryz.func79, Tryz.ntmps79
 go_wp2_with (first | ((with_reducible refine gate_callee (f := 98) rfl ?_); refine goesL_ (some 9) rfl rfl Tryz.func98 (by kernel_rfl) rfl #[.slice A0 l0.length c0, .slice A1 l1.length c1, .int .i64 (l1.length : Int), .int .i64 (-1)] rfl mz ?_; (with_reducible refine (bytes_genSplit.calls k (fun k_ => (P0_ k_ ∨ w.heap.size ≤ k_)) _ _ l0 _ _ l1 (l1.length : Int) (-1) t128 _ ?side1 ?side2 ?side3 A3.out).mono ?_); (case side1 => exact HO0.out); (case side2 => exact cz HR1.out); (case side3 => exact HC1.out); rintro e w4 ⟨v129, rfl, ho0, hb⟩; refine ⟨_, rfl, ?_⟩; have n0_ := am (Kd.V_elder' (vz HO0.out) (Kd.N_base ho0) hb); have n1_ := am (Kd.N_lower (Kd.N_mono (ok' := fun k_ => (P0_ k_ ∨ w.heap.size ≤ k_)) ho0 (fun k_ hk_ => Or.elim hk_ (fun hs_ => hs_) (fun hn_ => (.inr (Nat.le_trans (below_size bz) hn_))))) (below_size bz)); have n2_ := am (below_step bz hb); clear HO0 HB; have HO0 := n0_; have HO130 := n1_; have HB := n2_; clear n0_ n1_ n2_; (try clear hb); (try clear hb2); (try clear hk); (try clear hi); (try clear ho0)))
 go_ret
 exact ⟨_, ez, nz HO130.out, bz⟩

-- GIVEN: function 76 (strings_explode)

-- GIVEN: function 77 (strings_Count)

-- GIVEN: function 78 (strings_Index)

/-! ### strings_genSplit: function 61 -/
mutual
def strings_genSplit.j0 : Nat → ByteArray → ByteArray → Int → Int → Option (List ByteArray)
 | 0, _, _, _, _ => none
 | k + 1, x0, x1, x2, x3 => if 0 ≤ (mn x3 (wrap64 ((x0.size : Int) + 1))) then (if (mn x3 (wrap64 ((x0.size : Int) + 1)) : Int).toNat ≤ 17592186044416 then (strings_genSplit.l0 k x0 x1 x2 (wrap64 ((mn x3 (wrap64 ((x0.size : Int) + 1))) - 1)) (List.replicate (mn x3 (wrap64 ((x0.size : Int) + 1)) : Int).toNat (⟨#[]⟩ : ByteArray)) 0) else (none)) else (none)
def strings_genSplit.l0 : Nat → ByteArray → ByteArray → Int → Int → List ByteArray → Int → Option (List ByteArray)
 | 0, _, _, _, _, _, _ => none
 | k + 1, x0, x1, x2, x3, x9, x10 => if x10 < x3 then ((strings_Index.f x0 x1).bind fun t138 => (if t138 < 0 then (if 0 ≤ x10 then (if x10 < (x9.length : Int) then (if 0 ≤ (wrap64 (x10 + 1)) then (if (wrap64 (x10 + 1)) ≤ (x9.length : Int) then (some ((x9.set (x10 : Int).toNat x0).take ((wrap64 (x10 + 1)) : Int).toNat)) else (none)) else (none)) else (none)) else (none)) else (if 0 ≤ (wrap64 (t138 + x2)) then (if (wrap64 (t138 + x2)) ≤ (x0.size : Int) then (if 0 ≤ x10 then (if x10 < (x9.length : Int) then (if 0 ≤ (wrap64 (t138 + (x1.size : Int))) then (if (wrap64 (t138 + (x1.size : Int))) ≤ (x0.size : Int) then (strings_genSplit.l0 k (x0.extract ((wrap64 (t138 + (x1.size : Int))) : Int).toNat x0.size) x1 x2 x3 (x9.set (x10 : Int).toNat (x0.extract 0 ((wrap64 (t138 + x2)) : Int).toNat)) (wrap64 (x10 + 1))) else (none)) else (none)) else (none)) else (none)) else (none)) else (none)))) else (if 0 ≤ x10 then (if x10 < (x9.length : Int) then (if 0 ≤ (wrap64 (x10 + 1)) then (if (wrap64 (x10 + 1)) ≤ (x9.length : Int) then (some ((x9.set (x10 : Int).toNat x0).take ((wrap64 (x10 + 1)) : Int).toNat)) else (none)) else (none)) else (none)) else (none))
end
def strings_genSplit.f (k : Nat) (a0 : ByteArray) (a1 : ByteArray) (a2 : Int) (a3 : Int) : Option (List ByteArray) := if a3 = 0 then (some ([] : List ByteArray)) else (if a1.toList = ([] : List UInt8) then ((strings_explode.f a0 a3).bind fun t131 => (some t131)) else (if a3 < 0 then ((strings_Count.f a0 a1).bind fun t134 => (strings_genSplit.j0 k a0 a1 a2 (wrap64 (t134 + 1)))) else (strings_genSplit.j0 k a0 a1 a2 a3)))
set_option maxHeartbeats 8000000 in
set_option maxRecDepth 100000 in
theorem strings_genSplit.calls (k : Nat) (a0 : ByteArray) (a1 : ByteArray) (a2 : Int) (a3 : Int) (r : List ByteArray) (w : World) (h : strings_genSplit.f k a0 a1 a2 a3 = some r) :
  Calls Tryz.prog 61 #[.string a0, .string a1, .int .i64 a2, .int .i64 a3] w fun e w' => ∃ v0_ : Value, e = .returned (v0_) ∧ Kd.R Kd.string 9 w' w.heap.size (fun _ => True) v0_ r ∧ Below w.heap.size w w' := by
 have HB := am (Below.refl w.heap.size w); have H : (if a3 = 0 then (some ([] : List ByteArray)) else (if a1.toList = ([] : List UInt8) then ((strings_explode.f a0 a3).bind fun t131 => (some t131)) else (if a3 < 0 then ((strings_Count.f a0 a1).bind fun t134 => (strings_genSplit.j0 k a0 a1 a2 (wrap64 (t134 + 1)))) else (strings_genSplit.j0 k a0 a1 a2 a3)))) = some r := h; clear h
 by_cases c5 : a3 = 0
 ·rw [if_pos c5] at H; have c5b0 : (a3 == 0) = true := beq_iff_eq.mpr c5; have c5b1 : (a3 != 0) = false := bne_eq_false_iff_eq.mpr c5; clear c5; obtain rfl := Option.some.inj H
  go_enter Tryz.func61, Tryz.ntmps61
  go_wp2
  go_ret
  exact ⟨_, ez, nl, bz⟩
 rw [if_neg c5] at H; have c5b0 : (a3 == 0) = false := beq_eq_false_iff_ne.mpr c5; have c5b1 : (a3 != 0) = true := bne_iff_ne.mpr c5
 by_cases c6 : a1.toList = ([] : List UInt8)
 ·rw [if_pos c6] at H; have c6b0 : (a1.toList == ([] : List UInt8)) = true := beq_iff_eq.mpr c6; have c6b1 : (a1.toList != ([] : List UInt8)) = false := bne_eq_false_iff_eq.mpr c6; clear c6; replace H := Option.bind_eq_some_iff.mp H; obtain ⟨t131, A70, H⟩ := H; replace H : (some t131) = some r := H; have A7 := am A70; clear A70; obtain rfl := Option.some.inj H
  go_enter Tryz.func61, Tryz.ntmps61
  go_wp2_with (first | ((with_reducible refine gate_callee (f := 76) rfl ?_); refine goesL_ (some 18) rfl rfl Tryz.func76 (by kernel_rfl) rfl #[.string a0, .int .i64 a3] rfl mz ?_; (with_reducible refine (strings_explode.calls a0 a3 t131 _ A7.out).mono ?_); rintro e w8 ⟨v132, rfl, ho0, hb⟩; refine ⟨_, rfl, ?_⟩; have n0_ := am (Kd.R_lower ho0 (below_size bz)); have n1_ := am (below_step bz hb); clear HB; have HO133 := n0_; have HB := n1_; clear n0_ n1_; (try clear hb); (try clear hb2); (try clear hk); (try clear hi); (try clear ho0)))
  go_ret
  exact ⟨_, ez, rz HO133.out, bz⟩
 rw [if_neg c6] at H; have c6b0 : (a1.toList == ([] : List UInt8)) = false := beq_eq_false_iff_ne.mpr c6; have c6b1 : (a1.toList != ([] : List UInt8)) = true := bne_iff_ne.mpr c6; have HC9 := am H; clear H
 go_enter Tryz.func61, Tryz.ntmps61
 go_upto_if 20 with (fail)
 go_cut [3] (fun v3 wc => ∃ (kq : Nat) (x3_8 : Int), v3 = .int .i64 x3_8 ∧ Aside0 (strings_genSplit.j0 kq a0 a1 a2 x3_8 = some r) ∧ Aside0 (kq ≤ k) ∧ Aside0 (Below w.heap.size w wc))
 case first =>
  have H := HC9.out; clear HC9
  by_cases c10 : a3 < 0
  ·rw [if_pos c10] at H; have c10b0 : decide (a3 < 0) = true := decide_eq_true c10; clear c10
   (first | rw [c10b0] | (simp only [i64_w, i32_w]; rw [c10b0]) | skip)
   replace H := Option.bind_eq_some_iff.mp H; obtain ⟨t134, A110, H⟩ := H; replace H : (strings_genSplit.j0 k a0 a1 a2 (wrap64 (t134 + 1))) = some r := H; have A11 := am A110; clear A110; have H' := am H; clear H
   go_wp2_with (first | ((with_reducible refine gate_callee (f := 77) rfl ?_); refine goesL_ (some 23) rfl rfl Tryz.func77 (by kernel_rfl) rfl #[.string a0, .string a1] rfl mz ?_; (with_reducible refine (strings_Count.calls a0 a1 t134 _ A11.out).mono ?_); rintro e w12 ⟨rfl, hb⟩; refine ⟨_, rfl, ?_⟩; replace HB := am (below_step bz hb); (try clear hb); (try clear hb2); (try clear hk); (try clear hi)))
   go_meet
   case rel => exact ⟨_, (wrap64 (t134 + 1)), sz, H', ⟨by first | omega | exact Nat.le_refl _⟩, ⟨bz⟩⟩
  rw [if_neg c10] at H; have c10b0 : decide (a3 < 0) = false := decide_eq_false c10; clear c10
  (first | rw [c10b0] | (simp only [i64_w, i32_w]; rw [c10b0]) | skip)
  have H' := am H; clear H
  go_wp2
  go_meet
  case rel => exact ⟨_, (a3), sz, H', ⟨by first | omega | exact Nat.le_refl _⟩, ⟨bz⟩⟩
 case rest =>
  clear HC9; (try clear c1); (try clear p2); (try clear c5); (try clear c5b0); (try clear c5b1); (try clear c6); (try clear c6b0); (try clear c6b1); (try clear p6); (try clear c7); (try clear c10); (try clear c10b0); obtain ⟨kq, x3_8, rfl, HA, HJ8, HB⟩ := hcut
  cases kq with
  | zero => exact absurd HA.out (by simp [strings_genSplit.j0])
  | succ kj8 =>
   have H := HA.out; clear HA; simp only [strings_genSplit.j0] at H; obtain ⟨ji13, hji13⟩ : ∃ j_ : Int, (mn x3_8 (wrap64 ((a0.size : Int) + 1))) = j_ := ⟨_, rfl⟩
   replace H : (if 0 ≤ (ji13) then (if (ji13 : Int).toNat ≤ 17592186044416 then (strings_genSplit.l0 kj8 a0 a1 a2 (wrap64 ((ji13) - 1)) (List.replicate (ji13 : Int).toNat (⟨#[]⟩ : ByteArray)) 0) else (none)) else (none)) = some r := by first | (rw [hji13] at H; exact H) | (simp only [hji13] at H ⊢; exact H)
   have hji13_ : (if (wrap64 ((a0.size : Int) + 1)) < x3_8 then (wrap64 ((a0.size : Int) + 1)) else x3_8) = ji13 := hji13
   by_cases c14 : 0 ≤ (ji13)
   ·rw [if_pos c14] at H; have c14b0 := eq_true c14; have c14b1 : decide (0 ≤ (ji13)) = true := decide_eq_true c14; clear c14
    by_cases c15 : (ji13 : Int).toNat ≤ 17592186044416
    ·rw [if_pos c15] at H; have c15b0 := eq_true c15; have c15b1 : decide ((ji13 : Int).toNat ≤ 17592186044416) = true := decide_eq_true c15; clear c15; obtain ⟨y135, hy135⟩ : ∃ y_ : List ByteArray, y_ = (List.replicate (ji13 : Int).toNat (⟨#[]⟩ : ByteArray)) := ⟨_, rfl⟩
     replace H : (strings_genSplit.l0 kj8 a0 a1 a2 (wrap64 ((ji13) - 1)) y135 0) = some r := by first | (rw [hy135]; with_reducible exact H) | (have H2_ := (Option.bind_some _ _).symm.trans H; rw [hy135]; with_reducible exact H2_) | (have H2_ := (Option.bind_some _ _).symm.trans H; with_reducible exact H2_) | with_reducible exact H | (rw [hy135]; exact H) | exact H
     have Ny135 := am hy135; clear hy135; have H' := am H; clear H
     go_wp2_with (first | ((with_reducible refine gate_dst (N := 31) rfl ?_); refine Kd.R_make Kd.string _ 9 rfl (N := 31) rfl 49 _ _ rfl ji13 rfl rfl Tryz.underlying49 (.string ⟨#[]⟩) 16 info9 rfl (by decide) (by omega) (⟨#[]⟩ : ByteArray) (ok := fun _ => True) (okp := fun _ => True) rfl (fun _ hk => hk) trivial (of_decide_eq_true az) (Nat.le_trans (Nat.mul_le_mul_right _ (of_decide_eq_true az : ji13.toNat ≤ 17592186044416)) (by omega)) (Below.refl _ _) (Nat.le_refl _) ?_; intro v136 w16 ho17 hb hg_ hnew_; clear hg_ hnew_; (first | rw [← Ny135.out] at ho17 | (simp only [Int.reduceToNat] at ho17; rw [← Ny135.out] at ho17)); have n0_ := am (Kd.R_lower ho17 (below_size bz)); have n1_ := am (below_step bz hb); clear HB; have HO137 := n0_; have HB := n1_; clear n0_ n1_; clear hb ho17))
     go_loopg [0, 10] kj8 (fun kq v0 v10 w' => ∃ (x0_2 : ByteArray) (x9_2 : List ByteArray) (x10_2 : Int), v0 = .string x0_2 ∧ v10 = .int .i64 x10_2 ∧ Aside0 (strings_genSplit.l0 kq x0_2 a1 a2 (wrap64 ((ji13) - 1)) x9_2 x10_2 = some r) ∧ Aside0 (kq ≤ kj8) ∧ Aside0 (Kd.R Kd.string 9 w' w.heap.size (fun _ => True) v136 x9_2) ∧ Aside0 (Below w.heap.size w w'))
     case atStart => exact ⟨(a0), (y135), (0), sz, sz, H', ⟨Nat.le_refl _⟩, ⟨rz HO137.out⟩, ⟨bz⟩⟩
     case round =>
      clear H'; (try clear c1); (try clear p2); (try clear c5); (try clear c5b0); (try clear c5b1); (try clear c6); (try clear c6b0); (try clear c6b1); (try clear p6); (try clear c7); (try clear c10); (try clear c10b0); (try clear c14); (try clear c14b0); (try clear c14b1); (try clear c15); (try clear c15b0); (try clear c15b1); (try clear p2); (try clear p6); obtain ⟨x0_2, x9_2, x10_2, rfl, rfl, HA, HK2, HO_9, HB⟩ := hrel
      cases gk with
      | zero => exact absurd HA.out (by simp [strings_genSplit.l0])
      | succ k2 =>
       have H := HA.out; clear HA; simp only [strings_genSplit.l0] at H
       by_cases c18 : x10_2 < (wrap64 ((ji13) - 1))
       ·rw [if_pos c18] at H; have c18b0 : decide (x10_2 < (wrap64 ((ji13) - 1))) = true := decide_eq_true c18; clear c18; replace H := Option.bind_eq_some_iff.mp H; obtain ⟨t138, A190, H⟩ := H; (try dsimp only at H); have A19 := am A190; clear A190
        by_cases c20 : t138 < 0
        ·rw [if_pos c20] at H; have c20b0 : decide (t138 < 0) = true := decide_eq_true c20; clear c20
         by_cases c21 : 0 ≤ x10_2
         ·rw [if_pos c21] at H; have c21b0 : decide (0 ≤ x10_2) = true := decide_eq_true c21; clear c21
          by_cases c22 : x10_2 < (x9_2.length : Int)
          ·rw [if_pos c22] at H; have c22b0 : decide (x10_2 < (x9_2.length : Int)) = true := decide_eq_true c22; clear c22; obtain ⟨y139, hy139⟩ : ∃ y_ : List ByteArray, y_ = (x9_2.set (x10_2 : Int).toNat x0_2) := ⟨_, rfl⟩
           replace H : (if 0 ≤ (wrap64 (x10_2 + 1)) then (if (wrap64 (x10_2 + 1)) ≤ (x9_2.length : Int) then (some (y139.take ((wrap64 (x10_2 + 1)) : Int).toNat)) else (none)) else (none)) = some r := by first | (rw [hy139]; with_reducible exact H) | (have H2_ := (Option.bind_some _ _).symm.trans H; rw [hy139]; with_reducible exact H2_) | (have H2_ := (Option.bind_some _ _).symm.trans H; with_reducible exact H2_) | with_reducible exact H | (rw [hy139]; exact H) | exact H
           have Ny139 := am hy139; clear hy139; obtain ⟨ji24, hji24⟩ : ∃ j_ : Int, (wrap64 (x10_2 + 1)) = j_ := ⟨_, rfl⟩
           replace H : (if 0 ≤ (ji24) then (if (ji24) ≤ (x9_2.length : Int) then (some (y139.take ((ji24) : Int).toNat)) else (none)) else (none)) = some r := by first | (rw [hji24] at H; exact H) | (simp only [hji24] at H ⊢; exact H)
           (try rw [hji24] at A19); have hji24w : (IntKind.i64.wrap (x10_2 + 1)) = ji24 := (i64_w _).trans hji24
           by_cases c25 : 0 ≤ (ji24)
           ·rw [if_pos c25] at H; have c25b0 := eq_true c25; have c25b1 : decide (0 ≤ (ji24)) = true := decide_eq_true c25; clear c25
            by_cases c26 : (ji24) ≤ (x9_2.length : Int)
            ·rw [if_pos c26] at H; have c26b0 := eq_true c26; have c26b1 : decide ((ji24) ≤ (x9_2.length : Int)) = true := decide_eq_true c26; clear c26; obtain ⟨y140, hy140⟩ : ∃ y_ : List ByteArray, y_ = (y139.take ((ji24) : Int).toNat) := ⟨_, rfl⟩
             replace H : (some y140) = some r := by first | (rw [hy140]; with_reducible exact H) | (have H2_ := (Option.bind_some _ _).symm.trans H; rw [hy140]; with_reducible exact H2_) | (have H2_ := (Option.bind_some _ _).symm.trans H; with_reducible exact H2_) | with_reducible exact H | (rw [hy140]; exact H) | exact H
             have Ny140 := am hy140; clear hy140; obtain rfl := Option.some.inj H
             go_wp2_with (first | ((with_reducible refine gate_callee (f := 78) rfl ?_); refine goesL_ (some 39) rfl rfl Tryz.func78 (by kernel_rfl) rfl #[.string x0_2, .string a1] rfl mz ?_; (with_reducible refine (strings_Index.calls x0_2 a1 t138 _ A19.out).mono ?_); rintro e w27 ⟨rfl, hb⟩; refine ⟨_, rfl, ?_⟩; replace HO_9 := am (Kd.R_below (rz HO_9.out) hb); replace HB := am (below_step bz hb); (try clear hb); (try clear hb2); (try clear hk); (try clear hi); have p23 : 0 ≤ (x10_2 : Int) := of_decide_eq_true az; have q23 : (x10_2 : Int) < ((x9_2.length : Int) : Int) := of_decide_eq_true az; obtain ⟨go23, co23, eo23, gb23, gl23, cl23, HG23⟩ := Kd.R_form HO_9.out (by omega); (first | cases eo23 | (injection eo23 with ea_ en_ ec_; (first | subst ea_ | (injection ea_ with ea_; subst ea_)); subst ec_; clear en_)); have GB23 := am gb23; have GG23 := am HG23; clear gb23 gl23 HG23; obtain ⟨hx23_0, hf23_0⟩ := Kd.R_celln (⟨#[]⟩ : ByteArray) HO_9.out (x10_2 : Int) p23 q23; replace p23 := eq_true p23; replace q23 := eq_true q23; obtain ⟨hy28_, hz28_⟩ := Kd.R_celln (⟨#[]⟩ : ByteArray) HO_9.out (x10_2 : Int) (of_decide_eq_true az) (of_decide_eq_true az); have HP28 := Kd.R_putg HO_9.out (x10_2 : Int) x0_2) | ((with_reducible refine gate_store (t := 9) (p := 61) rfl ?_); refine store_event (t := 9) (p := 61) (v := ?vo_w29) (w1 := (w27.setCell ⟨go23, (x10_2 : Int).toNat, none⟩ (.string x0_2))) ?hg ?ho ?hn ?hr ?_; (case ho => rfl); (case hg => rfl); (case hn => rfl); (case hr => first | (go_simp; done) | (go_simp; rfl)); intro w29 hw; have hg : w27.grownBy w29 (some go23) := (by rw [hw]; exact HP28.2); have hp_ : Kd.R Kd.string 9 w29 w.heap.size (fun _ => True) (.slice (some ⟨go23, 0, none⟩) x9_2.length co23) y139 := (by rw [hw, Ny139.out]; exact HP28.1); clear HP28; replace HO_9 := am (hp_); replace HB := am ((by rw [hw]; exact below_set (HB.out) GB23.out : Below w.heap.size w w29)); clear hg hw hp_; have q30 : ((ji24) : Int) ≤ ((x9_2.length : Int) : Int) := of_decide_eq_true az; obtain ⟨i030, hi030, _, hsz30, _⟩ := info_parts info9; have hcut30 := cut_to (P := Tryz.prog) 49 9 .i64 Tryz.underlying49 hi030 (some ⟨go23, 0, none⟩) x9_2.length co23 (ji24) (of_decide_eq_true az) q30 (Kd.R_reads' HO_9.out).2.1; have hr30 := Kd.R_take (m := ((ji24) : Int).toNat) HO_9.out (by first | omega | (have l1_ := congrArg List.length Ny139.out; rw [List.length_set] at l1_; omega)); have hy30 : y140.length = ((ji24) : Int).toNat := (by rw [Ny140.out, List.length_take]; first | omega | (have l1_ := congrArg List.length Ny139.out; rw [List.length_set] at l1_; omega)); rw [← Ny140.out] at hr30; rw [← hy30] at hr30 hcut30; clear hy30 hi030 hsz30 HO_9; have HO142 := am hr30; clear hr30; replace q30 := eq_true q30))
             go_ret
             exact ⟨_, by first | rfl | (simp [errW_none, errW_some] <;> rfl) | (simp only [← hji13, ← hji24]; first | rfl | (simp [errW_none, errW_some] <;> rfl)) | (simp [*, errW_none, errW_some] <;> rfl), rz HO142.out, bz⟩
            rw [if_neg c26] at H
            exact absurd H (by simp)
           rw [if_neg c25] at H
           exact absurd H (by simp)
          rw [if_neg c22] at H
          exact absurd H (by simp)
         rw [if_neg c21] at H
         exact absurd H (by simp)
        rw [if_neg c20] at H; have c20b0 : decide (t138 < 0) = false := decide_eq_false c20; clear c20; obtain ⟨ji31, hji31⟩ : ∃ j_ : Int, (wrap64 (t138 + a2)) = j_ := ⟨_, rfl⟩
        replace H : (if 0 ≤ (ji31) then (if (ji31) ≤ (x0_2.size : Int) then (if 0 ≤ x10_2 then (if x10_2 < (x9_2.length : Int) then (if 0 ≤ (wrap64 (t138 + (a1.size : Int))) then (if (wrap64 (t138 + (a1.size : Int))) ≤ (x0_2.size : Int) then (strings_genSplit.l0 k2 (x0_2.extract ((wrap64 (t138 + (a1.size : Int))) : Int).toNat x0_2.size) a1 a2 (wrap64 ((ji13) - 1)) (x9_2.set (x10_2 : Int).toNat (x0_2.extract 0 ((ji31) : Int).toNat)) (wrap64 (x10_2 + 1))) else (none)) else (none)) else (none)) else (none)) else (none)) else (none)) = some r := by first | (rw [hji31] at H; exact H) | (simp only [hji31] at H ⊢; exact H)
        (try rw [hji31] at A19); have hji31w : (IntKind.i64.wrap (t138 + a2)) = ji31 := (i64_w _).trans hji31
        by_cases c32 : 0 ≤ (ji31)
        ·rw [if_pos c32] at H; have c32b0 := eq_true c32; have c32b1 : decide (0 ≤ (ji31)) = true := decide_eq_true c32; clear c32
         by_cases c33 : (ji31) ≤ (x0_2.size : Int)
         ·rw [if_pos c33] at H; have c33b0 := eq_true c33; have c33b1 : decide ((ji31) ≤ (x0_2.size : Int)) = true := decide_eq_true c33; clear c33
          by_cases c34 : 0 ≤ x10_2
          ·rw [if_pos c34] at H; have c34b0 : decide (0 ≤ x10_2) = true := decide_eq_true c34; clear c34
           by_cases c35 : x10_2 < (x9_2.length : Int)
           ·rw [if_pos c35] at H; have c35b0 : decide (x10_2 < (x9_2.length : Int)) = true := decide_eq_true c35; clear c35; obtain ⟨y143, hy143⟩ : ∃ y_ : List ByteArray, y_ = (x9_2.set (x10_2 : Int).toNat (x0_2.extract 0 ((ji31) : Int).toNat)) := ⟨_, rfl⟩
            replace H : (if 0 ≤ (wrap64 (t138 + (a1.size : Int))) then (if (wrap64 (t138 + (a1.size : Int))) ≤ (x0_2.size : Int) then (strings_genSplit.l0 k2 (x0_2.extract ((wrap64 (t138 + (a1.size : Int))) : Int).toNat x0_2.size) a1 a2 (wrap64 ((ji13) - 1)) y143 (wrap64 (x10_2 + 1))) else (none)) else (none)) = some r := by first | (rw [hy143]; with_reducible exact H) | (have H2_ := (Option.bind_some _ _).symm.trans H; rw [hy143]; with_reducible exact H2_) | (have H2_ := (Option.bind_some _ _).symm.trans H; with_reducible exact H2_) | with_reducible exact H | (rw [hy143]; exact H) | exact H
            have Ny143 := am hy143; clear hy143; obtain ⟨ji37, hji37⟩ : ∃ j_ : Int, (wrap64 (t138 + (a1.size : Int))) = j_ := ⟨_, rfl⟩
            replace H : (if 0 ≤ (ji37) then (if (ji37) ≤ (x0_2.size : Int) then (strings_genSplit.l0 k2 (x0_2.extract ((ji37) : Int).toNat x0_2.size) a1 a2 (wrap64 ((ji13) - 1)) y143 (wrap64 (x10_2 + 1))) else (none)) else (none)) = some r := by first | (rw [hji37] at H; exact H) | (simp only [hji37] at H ⊢; exact H)
            (try rw [hji37] at A19); have hji37w : (IntKind.i64.wrap (t138 + (a1.size : Int))) = ji37 := (i64_w _).trans hji37
            by_cases c38 : 0 ≤ (ji37)
            ·rw [if_pos c38] at H; have c38b0 := eq_true c38; have c38b1 : decide (0 ≤ (ji37)) = true := decide_eq_true c38; clear c38
             by_cases c39 : (ji37) ≤ (x0_2.size : Int)
             ·rw [if_pos c39] at H; have c39b0 := eq_true c39; have c39b1 : decide ((ji37) ≤ (x0_2.size : Int)) = true := decide_eq_true c39; clear c39; have H' := am H; clear H
              go_wp2_with (first | ((with_reducible refine gate_callee (f := 78) rfl ?_); refine goesL_ (some 39) rfl rfl Tryz.func78 (by kernel_rfl) rfl #[.string x0_2, .string a1] rfl mz ?_; (with_reducible refine (strings_Index.calls x0_2 a1 t138 _ A19.out).mono ?_); rintro e w40 ⟨rfl, hb⟩; refine ⟨_, rfl, ?_⟩; replace HO_9 := am (Kd.R_below (rz HO_9.out) hb); replace HB := am (below_step bz hb); (try clear hb); (try clear hb2); (try clear hk); (try clear hi); have p36 : 0 ≤ (x10_2 : Int) := of_decide_eq_true az; have q36 : (x10_2 : Int) < ((x9_2.length : Int) : Int) := of_decide_eq_true az; obtain ⟨go36, co36, eo36, gb36, gl36, cl36, HG36⟩ := Kd.R_form HO_9.out (by omega); (first | cases eo36 | (injection eo36 with ea_ en_ ec_; (first | subst ea_ | (injection ea_ with ea_; subst ea_)); subst ec_; clear en_)); have GB36 := am gb36; have GG36 := am HG36; clear gb36 gl36 HG36; obtain ⟨hx36_0, hf36_0⟩ := Kd.R_celln (⟨#[]⟩ : ByteArray) HO_9.out (x10_2 : Int) p36 q36; replace p36 := eq_true p36; replace q36 := eq_true q36; obtain ⟨hy41_, hz41_⟩ := Kd.R_celln (⟨#[]⟩ : ByteArray) HO_9.out (x10_2 : Int) (of_decide_eq_true az) (of_decide_eq_true az); have HP41 := Kd.R_putg HO_9.out (x10_2 : Int) (x0_2.extract 0 ((ji31) : Int).toNat)) | ((with_reducible refine gate_store (t := 9) (p := 49) rfl ?_); refine store_event (t := 9) (p := 49) (v := ?vo_w42) (w1 := (w40.setCell ⟨go36, (x10_2 : Int).toNat, none⟩ (.string (x0_2.extract 0 ((ji31) : Int).toNat)))) ?hg ?ho ?hn ?hr ?_; (case ho => rfl); (case hg => rfl); (case hn => rfl); (case hr => first | (go_simp; done) | (go_simp; rfl)); intro w42 hw; have hg : w40.grownBy w42 (some go36) := (by rw [hw]; exact HP41.2); have hp_ : Kd.R Kd.string 9 w42 w.heap.size (fun _ => True) (.slice (some ⟨go36, 0, none⟩) x9_2.length co36) y143 := (by rw [hw, Ny143.out]; exact HP41.1); clear HP41; replace HO_9 := am (hp_); replace HB := am ((by rw [hw]; exact below_set (HB.out) GB36.out : Below w.heap.size w w42)); clear hg hw hp_))
              go_roundg k2
              case measure => have := HJ8.out; have := HK2.out; omega
              case rel => exact ⟨(x0_2.extract ((ji37) : Int).toNat x0_2.size), (y143), (wrap64 (x10_2 + 1)), (by first | rfl | (simp; done) | (simp only [← hji37] <;> (first | rfl | simp)) | (simp [*]; done)), sz, H', ⟨by have := HJ8.out; have := HK2.out; omega⟩, ⟨rz HO_9.out⟩, ⟨bz⟩⟩
             rw [if_neg c39] at H
             exact absurd H (by simp)
            rw [if_neg c38] at H
            exact absurd H (by simp)
           rw [if_neg c35] at H
           exact absurd H (by simp)
          rw [if_neg c34] at H
          exact absurd H (by simp)
         rw [if_neg c33] at H
         exact absurd H (by simp)
        rw [if_neg c32] at H
        exact absurd H (by simp)
       rw [if_neg c18] at H; have c18b0 : decide (x10_2 < (wrap64 ((ji13) - 1))) = false := decide_eq_false c18; clear c18
       by_cases c43 : 0 ≤ x10_2
       ·rw [if_pos c43] at H; have c43b0 : decide (0 ≤ x10_2) = true := decide_eq_true c43; clear c43
        by_cases c44 : x10_2 < (x9_2.length : Int)
        ·rw [if_pos c44] at H; have c44b0 : decide (x10_2 < (x9_2.length : Int)) = true := decide_eq_true c44; clear c44; obtain ⟨y144, hy144⟩ : ∃ y_ : List ByteArray, y_ = (x9_2.set (x10_2 : Int).toNat x0_2) := ⟨_, rfl⟩
         replace H : (if 0 ≤ (wrap64 (x10_2 + 1)) then (if (wrap64 (x10_2 + 1)) ≤ (x9_2.length : Int) then (some (y144.take ((wrap64 (x10_2 + 1)) : Int).toNat)) else (none)) else (none)) = some r := by first | (rw [hy144]; with_reducible exact H) | (have H2_ := (Option.bind_some _ _).symm.trans H; rw [hy144]; with_reducible exact H2_) | (have H2_ := (Option.bind_some _ _).symm.trans H; with_reducible exact H2_) | with_reducible exact H | (rw [hy144]; exact H) | exact H
         have Ny144 := am hy144; clear hy144; obtain ⟨ji46, hji46⟩ : ∃ j_ : Int, (wrap64 (x10_2 + 1)) = j_ := ⟨_, rfl⟩
         replace H : (if 0 ≤ (ji46) then (if (ji46) ≤ (x9_2.length : Int) then (some (y144.take ((ji46) : Int).toNat)) else (none)) else (none)) = some r := by first | (rw [hji46] at H; exact H) | (simp only [hji46] at H ⊢; exact H)
         have hji46w : (IntKind.i64.wrap (x10_2 + 1)) = ji46 := (i64_w _).trans hji46
         by_cases c47 : 0 ≤ (ji46)
         ·rw [if_pos c47] at H; have c47b0 := eq_true c47; have c47b1 : decide (0 ≤ (ji46)) = true := decide_eq_true c47; clear c47
          by_cases c48 : (ji46) ≤ (x9_2.length : Int)
          ·rw [if_pos c48] at H; have c48b0 := eq_true c48; have c48b1 : decide ((ji46) ≤ (x9_2.length : Int)) = true := decide_eq_true c48; clear c48; obtain ⟨y145, hy145⟩ : ∃ y_ : List ByteArray, y_ = (y144.take ((ji46) : Int).toNat) := ⟨_, rfl⟩
           replace H : (some y145) = some r := by first | (rw [hy145]; with_reducible exact H) | (have H2_ := (Option.bind_some _ _).symm.trans H; rw [hy145]; with_reducible exact H2_) | (have H2_ := (Option.bind_some _ _).symm.trans H; with_reducible exact H2_) | with_reducible exact H | (rw [hy145]; exact H) | exact H
           have Ny145 := am hy145; clear hy145; obtain rfl := Option.some.inj H; have p45 : 0 ≤ (x10_2 : Int) := of_decide_eq_true az; have q45 : (x10_2 : Int) < ((x9_2.length : Int) : Int) := of_decide_eq_true az; obtain ⟨go45, co45, eo45, gb45, gl45, cl45, HG45⟩ := Kd.R_form HO_9.out (by omega)
           (first | cases eo45 | (injection eo45 with ea_ en_ ec_; (first | subst ea_ | (injection ea_ with ea_; subst ea_)); subst ec_; clear en_))
           have GB45 := am gb45; have GG45 := am HG45; clear gb45 gl45 HG45; obtain ⟨hx45_0, hf45_0⟩ := Kd.R_celln (⟨#[]⟩ : ByteArray) HO_9.out (x10_2 : Int) p45 q45; replace p45 := eq_true p45; replace q45 := eq_true q45; have HP49 := Kd.R_putg HO_9.out (x10_2 : Int) x0_2
           go_wp2_with (first | ((with_reducible refine gate_store (t := 9) (p := 61) rfl ?_); refine store_event (t := 9) (p := 61) (v := ?vo_w50) (w1 := (wr.setCell ⟨go45, (x10_2 : Int).toNat, none⟩ (.string x0_2))) ?hg ?ho ?hn ?hr ?_; (case ho => rfl); (case hg => rfl); (case hn => rfl); (case hr => first | (go_simp; done) | (go_simp; rfl)); intro w50 hw; have hg : wr.grownBy w50 (some go45) := (by rw [hw]; exact HP49.2); have hp_ : Kd.R Kd.string 9 w50 w.heap.size (fun _ => True) (.slice (some ⟨go45, 0, none⟩) x9_2.length co45) y144 := (by rw [hw, Ny144.out]; exact HP49.1); clear HP49; replace HO_9 := am (hp_); replace HB := am ((by rw [hw]; exact below_set (HB.out) GB45.out : Below w.heap.size w w50)); clear hg hw hp_; have q51 : ((ji46) : Int) ≤ ((x9_2.length : Int) : Int) := of_decide_eq_true az; obtain ⟨i051, hi051, _, hsz51, _⟩ := info_parts info9; have hcut51 := cut_to (P := Tryz.prog) 49 9 .i64 Tryz.underlying49 hi051 (some ⟨go45, 0, none⟩) x9_2.length co45 (ji46) (of_decide_eq_true az) q51 (Kd.R_reads' HO_9.out).2.1; have hr51 := Kd.R_take (m := ((ji46) : Int).toNat) HO_9.out (by first | omega | (have l1_ := congrArg List.length Ny144.out; rw [List.length_set] at l1_; omega)); have hy51 : y145.length = ((ji46) : Int).toNat := (by rw [Ny145.out, List.length_take]; first | omega | (have l1_ := congrArg List.length Ny144.out; rw [List.length_set] at l1_; omega)); rw [← Ny145.out] at hr51; rw [← hy51] at hr51 hcut51; clear hy51 hi051 hsz51 HO_9; have HO147 := am hr51; clear hr51; replace q51 := eq_true q51))
           go_ret
           exact ⟨_, by first | rfl | (simp [errW_none, errW_some] <;> rfl) | (simp only [← hji13, ← hji46]; first | rfl | (simp [errW_none, errW_some] <;> rfl)) | (simp [*, errW_none, errW_some] <;> rfl), rz HO147.out, bz⟩
          rw [if_neg c48] at H
          exact absurd H (by simp)
         rw [if_neg c47] at H
         exact absurd H (by simp)
        rw [if_neg c44] at H
        exact absurd H (by simp)
       rw [if_neg c43] at H
       exact absurd H (by simp)
    rw [if_neg c15] at H
    exact absurd H (by simp)
   rw [if_neg c14] at H
   exact absurd H (by simp)

/-! ### strings_Split: function 45 -/
def strings_Split.f (k : Nat) (a0 : ByteArray) (a1 : ByteArray) : Option (List ByteArray) := (strings_genSplit.f k a0 a1 0 (-1)).bind fun t148 => (some t148)
set_option maxHeartbeats 8000000 in
set_option maxRecDepth 100000 in
theorem strings_Split.calls (k : Nat) (a0 : ByteArray) (a1 : ByteArray) (r : List ByteArray) (w : World) (h : strings_Split.f k a0 a1 = some r) :
  Calls Tryz.prog 45 #[.string a0, .string a1] w fun e w' => ∃ v0_ : Value, e = .returned (v0_) ∧ Kd.R Kd.string 9 w' w.heap.size (fun _ => True) v0_ r ∧ Below w.heap.size w w' := by
 have HB := am (Below.refl w.heap.size w); have H : ((strings_genSplit.f k a0 a1 0 (-1)).bind fun t148 => (some t148)) = some r := h; clear h; replace H := Option.bind_eq_some_iff.mp H; obtain ⟨t148, A30, H⟩ := H; replace H : (some t148) = some r := H; have A3 := am A30; clear A30; obtain rfl := Option.some.inj H
 go_enter Tryz.func45, Tryz.ntmps45
 go_wp2_with (first | ((with_reducible refine gate_callee (f := 61) rfl ?_); refine goesL_ (some 7) rfl rfl Tryz.func61 (by kernel_rfl) rfl #[.string a0, .string a1, .int .i64 0, .int .i64 (-1)] rfl mz ?_; (with_reducible refine (strings_genSplit.calls k a0 a1 0 (-1) t148 _ A3.out).mono ?_); rintro e w4 ⟨v149, rfl, ho0, hb⟩; refine ⟨_, rfl, ?_⟩; have n0_ := am (Kd.R_lower ho0 (below_size bz)); have n1_ := am (below_step bz hb); clear HB; have HO150 := n0_; have HB := n1_; clear n0_ n1_; (try clear hb); (try clear hb2); (try clear hk); (try clear hi); (try clear ho0)))
 go_ret
 exact ⟨_, ez, rz HO150.out, bz⟩

end Go.Proofs.YtfabaenfglionaaGreatDoor.G
