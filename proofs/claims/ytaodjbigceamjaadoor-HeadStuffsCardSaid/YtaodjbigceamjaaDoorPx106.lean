/- The walks of the seat's functions, one contract a function: printed by a program of this session's (wip/gen). Not trusted: Lean checks it. -/
import Derived.Test.YtaodjbigceamjaaDoorPx1
import Derived.Test.YtaodjbigceamjaaDoorPx3
import Derived.Test.YtaodjbigceamjaaDoorPx5
namespace Go.Proofs.YtaodjbigceamjaaDoor.P
open Go.RowKit Go.Proofs.YtaodjbigceamjaaDoorW.PrintWords Go.Proofs.YtaodjbigceamjaaDoorW.PrintLast Go.Proofs.YtaodjbigceamjaaDoorW.PrintMore
attribute [local go_sem] max2_int min2_int max_two min_two max_three min_three max_four min_four   -- for this text's walks alone
set_option linter.unusedVariables false
set_option linter.unusedSimpArgs false

/-! ### letterboxlaw9_HeadStuffs: function 6 -/
mutual
def letterboxlaw9_HeadStuffs.j0 : Nat → List Int → List (List Int) → List (List Int) → Bool → Option (Bool)
  | 0, _, _, _, _ => none
  | k + 1, x3, x4, x5, x32 => if x32 = true then (some false) else (letterboxlaw9_HeadStuffs.l0 k x3 x4 x5 0)
def letterboxlaw9_HeadStuffs.l0 : Nat → List Int → List (List Int) → List (List Int) → Int → Option (Bool)
  | 0, _, _, _, _ => none
  | k + 1, x3, x4, x5, x6 => if x6 < (x5.length : Int) then (if 0 ≤ x6 then (if ((strOfNums (rd_L1 x5 x6)).size : Int) > 0 then (if 0 < ((strOfNums (rd_L1 x5 x6)).size : Int) then (letterboxlaw9_HeadStuffs.j2 k x3 x4 x5 x6 (strOfNums (rd_L1 x5 x6)) ((bt (strOfNums (rd_L1 x5 x6)) 0) == 46)) else (none)) else (letterboxlaw9_HeadStuffs.j2 k x3 x4 x5 x6 (strOfNums (rd_L1 x5 x6)) false)) else (none)) else (if (x3.length : Int) ≥ 3 then (if 0 ≤ (wrap64 ((x3.length : Int) - 3)) then (if (wrap64 ((x3.length : Int) - 3)) ≤ (x3.length : Int) then (if (strOfNums (x3.drop ((wrap64 ((x3.length : Int) - 3)) : Int).toNat)).toList = ([46, 13, 10] : List UInt8) then ((letterboxlaw9_known.f k).bind fun t325 => (some t325)) else (some false)) else (none)) else (none)) else (some false))
def letterboxlaw9_HeadStuffs.j2 : Nat → List Int → List (List Int) → List (List Int) → Int → ByteArray → Bool → Option (Bool)
  | 0, _, _, _, _, _, _ => none
  | k + 1, x3, x4, x5, x6, x7, x51 => if x51 = true then (if 1 + x7.size ≤ 9223372036854775807 then (if 0 ≤ x6 then (if x6 < (x4.length : Int) then (if (strOfNums (rd_L1 x4 x6)).toList = ((⟨#[46]⟩ : ByteArray) ++ x7).toList then (if ((⟨#[46]⟩ : ByteArray) ++ x7).toList = ([46] : List UInt8) then (some false) else (letterboxlaw9_HeadStuffs.l0 k x3 x4 x5 (wrap64 (x6 + 1)))) else (some false)) else (none)) else (none)) else (none)) else (if 0 ≤ x6 then (if x6 < (x4.length : Int) then (if (strOfNums (rd_L1 x4 x6)).toList = x7.toList then (if x7.toList = ([46] : List UInt8) then (some false) else (letterboxlaw9_HeadStuffs.l0 k x3 x4 x5 (wrap64 (x6 + 1)))) else (some false)) else (none)) else (none))
end
def letterboxlaw9_HeadStuffs.f (k : Nat) (l0 : List Int) : Option (Bool) := if (l0.length : Int) > 1500 then (some true) else ((head_Stuff.f k l0).bind fun t310 => ((letterboxref9_Split.f k t310).bind fun t313 => ((letterboxref9_Split.f k l0).bind fun t316 => (if (t313.length : Int) = (wrap64 ((t316.length : Int) + 1)) then (if 0 ≤ (wrap64 ((t313.length : Int) - 1)) then (if (wrap64 ((t313.length : Int) - 1)) < (t313.length : Int) then (letterboxlaw9_HeadStuffs.j0 k t310 t313 t316 ((strOfNums (rd_L1 t313 (wrap64 ((t313.length : Int) - 1)))).toList != ([46] : List UInt8))) else (none)) else (none)) else (letterboxlaw9_HeadStuffs.j0 k t310 t313 t316 true)))))
theorem letterboxlaw9_HeadStuffs.mono_l : ∀ k, (∀ y0 y1 y2 y3, LeO (letterboxlaw9_HeadStuffs.j0 k y0 y1 y2 y3) (letterboxlaw9_HeadStuffs.j0 (k + 1) y0 y1 y2 y3)) ∧ (∀ y0 y1 y2 y3, LeO (letterboxlaw9_HeadStuffs.l0 k y0 y1 y2 y3) (letterboxlaw9_HeadStuffs.l0 (k + 1) y0 y1 y2 y3)) ∧ (∀ y0 y1 y2 y3 y4 y5, LeO (letterboxlaw9_HeadStuffs.j2 k y0 y1 y2 y3 y4 y5) (letterboxlaw9_HeadStuffs.j2 (k + 1) y0 y1 y2 y3 y4 y5))
  | 0 => ⟨fun _ _ _ _ r h => by simp [letterboxlaw9_HeadStuffs.j0] at h, fun _ _ _ _ r h => by simp [letterboxlaw9_HeadStuffs.l0] at h, fun _ _ _ _ _ _ r h => by simp [letterboxlaw9_HeadStuffs.j2] at h⟩
  | k + 1 => by
    obtain ⟨ih0, ih1, ih2⟩ := letterboxlaw9_HeadStuffs.mono_l k
    refine ⟨?_, ?_, ?_⟩
    · intro y0 y1 y2 y3
      unfold letterboxlaw9_HeadStuffs.j0
      repeat' first
      | (with_reducible exact ih0 _ _ _ _)
      | (with_reducible exact ih1 _ _ _ _)
      | (with_reducible exact ih2 _ _ _ _ _ _)
      | (with_reducible exact head_Stuff.mono _ _)
      | (with_reducible exact letterboxlaw9_known.mono _)
      | (with_reducible exact letterboxref9_Split.mono _ _)
      | (with_reducible exact LeO.refl _)
      | (with_reducible exact LeO.none _)
      | (with_reducible refine LeO.ite ?_ ?_)
      | (with_reducible refine LeO.bind ?_ (fun _ => ?_))
      | exact ih0 _ _ _ _
      | exact ih1 _ _ _ _
      | exact ih2 _ _ _ _ _ _
      | exact head_Stuff.mono _ _
      | exact letterboxlaw9_known.mono _
      | exact letterboxref9_Split.mono _ _
      | exact LeO.none _
      | refine LeO.ite ?_ ?_
      | refine LeO.bind ?_ (fun _ => ?_)
    · intro y0 y1 y2 y3
      unfold letterboxlaw9_HeadStuffs.l0
      repeat' first
      | (with_reducible exact ih0 _ _ _ _)
      | (with_reducible exact ih1 _ _ _ _)
      | (with_reducible exact ih2 _ _ _ _ _ _)
      | (with_reducible exact head_Stuff.mono _ _)
      | (with_reducible exact letterboxlaw9_known.mono _)
      | (with_reducible exact letterboxref9_Split.mono _ _)
      | (with_reducible exact LeO.refl _)
      | (with_reducible exact LeO.none _)
      | (with_reducible refine LeO.ite ?_ ?_)
      | (with_reducible refine LeO.bind ?_ (fun _ => ?_))
      | exact ih0 _ _ _ _
      | exact ih1 _ _ _ _
      | exact ih2 _ _ _ _ _ _
      | exact head_Stuff.mono _ _
      | exact letterboxlaw9_known.mono _
      | exact letterboxref9_Split.mono _ _
      | exact LeO.none _
      | refine LeO.ite ?_ ?_
      | refine LeO.bind ?_ (fun _ => ?_)
    · intro y0 y1 y2 y3 y4 y5
      unfold letterboxlaw9_HeadStuffs.j2
      repeat' first
      | (with_reducible exact ih0 _ _ _ _)
      | (with_reducible exact ih1 _ _ _ _)
      | (with_reducible exact ih2 _ _ _ _ _ _)
      | (with_reducible exact head_Stuff.mono _ _)
      | (with_reducible exact letterboxlaw9_known.mono _)
      | (with_reducible exact letterboxref9_Split.mono _ _)
      | (with_reducible exact LeO.refl _)
      | (with_reducible exact LeO.none _)
      | (with_reducible refine LeO.ite ?_ ?_)
      | (with_reducible refine LeO.bind ?_ (fun _ => ?_))
      | exact ih0 _ _ _ _
      | exact ih1 _ _ _ _
      | exact ih2 _ _ _ _ _ _
      | exact head_Stuff.mono _ _
      | exact letterboxlaw9_known.mono _
      | exact letterboxref9_Split.mono _ _
      | exact LeO.none _
      | refine LeO.ite ?_ ?_
      | refine LeO.bind ?_ (fun _ => ?_)
theorem letterboxlaw9_HeadStuffs.mono : ∀ a0 k, LeO (letterboxlaw9_HeadStuffs.f k a0) (letterboxlaw9_HeadStuffs.f (k + 1) a0) := by
  intro a0 k
  obtain ⟨ih0, ih1, ih2⟩ := letterboxlaw9_HeadStuffs.mono_l k
  unfold letterboxlaw9_HeadStuffs.f
  repeat' first
      | (with_reducible exact ih0 _ _ _ _)
      | (with_reducible exact ih1 _ _ _ _)
      | (with_reducible exact ih2 _ _ _ _ _ _)
      | (with_reducible exact head_Stuff.mono _ _)
      | (with_reducible exact letterboxlaw9_known.mono _)
      | (with_reducible exact letterboxref9_Split.mono _ _)
      | (with_reducible exact LeO.refl _)
      | (with_reducible exact LeO.none _)
      | (with_reducible refine LeO.ite ?_ ?_)
      | (with_reducible refine LeO.bind ?_ (fun _ => ?_))
      | exact ih0 _ _ _ _
      | exact ih1 _ _ _ _
      | exact ih2 _ _ _ _ _ _
      | exact head_Stuff.mono _ _
      | exact letterboxlaw9_known.mono _
      | exact letterboxref9_Split.mono _ _
      | exact LeO.none _
      | refine LeO.ite ?_ ?_
      | refine LeO.bind ?_ (fun _ => ?_)
set_option maxHeartbeats 8000000 in
set_option maxRecDepth 100000 in
theorem letterboxlaw9_HeadStuffs.calls (k : Nat) (A0 : Option Addr) (c0 : Nat) (l0 : List Int) (w : World) (hr0 : Kd.C (Kd.int .u8) w A0 l0.length l0) (hc0 : l0.length ≤ c0) (h : letterboxlaw9_HeadStuffs.f k l0 = some true) :
    Calls Tryd.prog 6 #[.slice A0 l0.length c0] w fun e w' => e = .returned (.bool true) ∧ Below w.heap.size w w' := by
  have HR0 := Aside0.mk hr0
  have HC0 := Aside0.mk hc0
  clear hr0 hc0
  have HB := Aside0.mk (Below.refl w.heap.size w)
  have H : (if (l0.length : Int) > 1500 then (some true) else ((head_Stuff.f k l0).bind fun t310 => ((letterboxref9_Split.f k t310).bind fun t313 => ((letterboxref9_Split.f k l0).bind fun t316 => (if (t313.length : Int) = (wrap64 ((t316.length : Int) + 1)) then (if 0 ≤ (wrap64 ((t313.length : Int) - 1)) then (if (wrap64 ((t313.length : Int) - 1)) < (t313.length : Int) then (letterboxlaw9_HeadStuffs.j0 k t310 t313 t316 ((strOfNums (rd_L1 t313 (wrap64 ((t313.length : Int) - 1)))).toList != ([46] : List UInt8))) else (none)) else (none)) else (letterboxlaw9_HeadStuffs.j0 k t310 t313 t316 true)))))) = some true := h
  clear h
  by_cases c2 : (l0.length : Int) > 1500
  · rw [if_pos c2] at H
    have c2b0 : decide (1500 < (l0.length : Int)) = true := decide_eq_true c2
    have c2b1 : decide (1500 < l0.length) = true := decide_eq_true (by omega)
    clear c2
    first | (obtain rfl := Option.some.inj H) | (have Hr_ := Option.some.inj H)
    go_enter Tryd.func6, Tryd.ntmps6
    go_wp2
    go_ret
    exact ⟨by first | rfl | (simp [errW_none, errW_some] <;> rfl) | (simp [*, errW_none, errW_some] <;> rfl), by repeat (first | (with_reducible first | exact HB.out | apply below_alloc | apply pw_below_drewN | apply below_drew1) | exact HB.out)⟩
  · rw [if_neg c2] at H
    have c2b0 : decide (1500 < (l0.length : Int)) = false := decide_eq_false c2
    have c2b1 : decide (1500 < l0.length) = false := decide_eq_false (by omega)
    clear c2
    replace H := Option.bind_eq_some_iff.mp H
    obtain ⟨t310, A30, H⟩ := H
    replace H : ((letterboxref9_Split.f k t310).bind fun t313 => ((letterboxref9_Split.f k l0).bind fun t316 => (if (t313.length : Int) = (wrap64 ((t316.length : Int) + 1)) then (if 0 ≤ (wrap64 ((t313.length : Int) - 1)) then (if (wrap64 ((t313.length : Int) - 1)) < (t313.length : Int) then (letterboxlaw9_HeadStuffs.j0 k t310 t313 t316 ((strOfNums (rd_L1 t313 (wrap64 ((t313.length : Int) - 1)))).toList != ([46] : List UInt8))) else (none)) else (none)) else (letterboxlaw9_HeadStuffs.j0 k t310 t313 t316 true)))) = some true := H
    have A3 := Aside0.mk A30
    clear A30
    replace H := Option.bind_eq_some_iff.mp H
    obtain ⟨t313, A40, H⟩ := H
    replace H : ((letterboxref9_Split.f k l0).bind fun t316 => (if (t313.length : Int) = (wrap64 ((t316.length : Int) + 1)) then (if 0 ≤ (wrap64 ((t313.length : Int) - 1)) then (if (wrap64 ((t313.length : Int) - 1)) < (t313.length : Int) then (letterboxlaw9_HeadStuffs.j0 k t310 t313 t316 ((strOfNums (rd_L1 t313 (wrap64 ((t313.length : Int) - 1)))).toList != ([46] : List UInt8))) else (none)) else (none)) else (letterboxlaw9_HeadStuffs.j0 k t310 t313 t316 true))) = some true := H
    have A4 := Aside0.mk A40
    clear A40
    replace H := Option.bind_eq_some_iff.mp H
    obtain ⟨t316, A50, H⟩ := H
    replace H : (if (t313.length : Int) = (wrap64 ((t316.length : Int) + 1)) then (if 0 ≤ (wrap64 ((t313.length : Int) - 1)) then (if (wrap64 ((t313.length : Int) - 1)) < (t313.length : Int) then (letterboxlaw9_HeadStuffs.j0 k t310 t313 t316 ((strOfNums (rd_L1 t313 (wrap64 ((t313.length : Int) - 1)))).toList != ([46] : List UInt8))) else (none)) else (none)) else (letterboxlaw9_HeadStuffs.j0 k t310 t313 t316 true)) = some true := H
    have A5 := Aside0.mk A50
    clear A50
    have HC6 := Aside0.mk H
    clear H
    go_enter Tryd.func6, Tryd.ntmps6
    go_upto_region 6 with (first | ((with_reducible refine gate_callee (f := 22) rfl ?_); refine goesL_ (some 12) rfl rfl Tryd.func22 (by kernel_rfl) rfl #[.slice A0 l0.length c0] rfl (by (try simp only [List.map_toArray, List.map_cons, List.map_nil]); first | done | rfl | (simp only [List.length_drop, List.length_take]; rfl)) ?_; (with_reducible refine (head_Stuff.calls k _ _ l0 t310 _ ?side1 ?side2 A3.out).mono ?_); (case side1 => repeat (first | exact HR0.out | (with_reducible refine Kd.C_alloc ?_ _) | (with_reducible refine Kd.C_drewN ?_ _) | (with_reducible refine Kd.C_drew ?_))); (case side2 => exact HC0.out); rintro e w7 ⟨v311, rfl, ho0, hb⟩; refine ⟨_, rfl, ?_⟩; have n0_ := Aside0.mk (Kd.R_lower ho0 (below_size (by repeat (first | (with_reducible first | exact HB.out | apply below_alloc | apply pw_below_drewN | apply below_drew1) | exact HB.out)))); have n1_ := Aside0.mk (below_step (by repeat (first | (with_reducible first | exact HB.out | apply below_alloc | apply pw_below_drewN | apply below_drew1) | exact HB.out)) hb); clear HB; have HO312 := n0_; have HB := n1_; clear n0_ n1_; (try clear hb); (try clear hb2); (try clear hk); (try clear hi); (try clear ho0); obtain ⟨Ao8, co8, eo8⟩ := Kd.R_slice HO312.out; subst eo8) | ((with_reducible refine gate_callee (f := 23) rfl ?_); refine goesL_ (some 14) rfl rfl Tryd.func23 (by kernel_rfl) rfl #[.slice Ao8 t310.length co8] rfl (by (try simp only [List.map_toArray, List.map_cons, List.map_nil]); first | done | rfl | (simp only [List.length_drop, List.length_take]; rfl)) ?_; (with_reducible refine (letterboxref9_Split.calls k (fun k_ => some k_ = (.slice Ao8 t310.length co8 : Value).ownBlock) _ _ t310 t313 _ ?side1 A4.out).mono ?_); (case side1 => exact Kd.R_V (Kd.R_tight rfl (HO312.out))); rintro e w9 ⟨v314, rfl, ho0, hb⟩; refine ⟨_, rfl, ?_⟩; have n0_ := Aside0.mk (Kd.R_below (by (with_reducible repeat (first | apply Kd.R_alloc | apply Kd.R_drewN | apply Kd.R_drew)); exact HO312.out) hb); have n1_ := Aside0.mk (Kd.N_lower (Kd.N_mono (ok' := fun k_ => True) ho0 (fun k_ hk_ => trivial)) (below_size (by repeat (first | (with_reducible first | exact HB.out | apply below_alloc | apply pw_below_drewN | apply below_drew1) | exact HB.out)))); have n2_ := Aside0.mk (below_step (by repeat (first | (with_reducible first | exact HB.out | apply below_alloc | apply pw_below_drewN | apply below_drew1) | exact HB.out)) hb); clear HO312; clear HB; have HO312 := n0_; have HO315 := n1_; have HB := n2_; clear n0_ n1_ n2_; (try clear hb); (try clear hb2); (try clear hk); (try clear hi); (try clear ho0)) | ((with_reducible refine gate_callee (f := 23) rfl ?_); refine goesL_ (some 16) rfl rfl Tryd.func23 (by kernel_rfl) rfl #[.slice A0 l0.length c0] rfl (by (try simp only [List.map_toArray, List.map_cons, List.map_nil]); first | done | rfl | (simp only [List.length_drop, List.length_take]; rfl)) ?_; (with_reducible refine (letterboxref9_Split.calls k (fun k_ => k_ < w.heap.size) _ _ l0 t316 _ ?side1 A5.out).mono ?_); (case side1 => exact Kd.V_mk HC0.out (Kd.F_below (Kd.C_F (Kd.heap_int .u8) HR0.out) (by repeat (first | (with_reducible first | exact HB.out | apply below_alloc | apply pw_below_drewN | apply below_drew1) | exact HB.out)))); rintro e w10 ⟨v317, rfl, ho0, hb⟩; refine ⟨_, rfl, ?_⟩; have n0_ := Aside0.mk (Kd.R_below (by (with_reducible repeat (first | apply Kd.R_alloc | apply Kd.R_drewN | apply Kd.R_drew)); exact HO312.out) hb); have n1_ := Aside0.mk (Kd.N_elder' (by (with_reducible repeat (first | apply Kd.N_alloc | apply Kd.N_drewN | apply Kd.N_drew)); exact HO315.out) (Kd.N_base ho0) hb); have n2_ := Aside0.mk (Kd.N_lower (Kd.N_mono (ok' := fun k_ => some k_ ≠ (.slice Ao8 t310.length co8 : Value).ownBlock ∧ some k_ ≠ (v314 : Value).ownBlock) ho0 (fun k_ hk_ => ⟨Or.elim hk_ (fun hs_ => fun e_ => Nat.not_le.2 hs_ (Kd.R_base HO312.out k_ e_.symm)) (fun hn_ => (Kd.fresh' (Kd.R_lt (by (with_reducible repeat (first | apply Kd.R_alloc | apply Kd.R_drewN | apply Kd.R_drew)); exact HO312.out)) k_ hn_)), Or.elim hk_ (fun hs_ => fun e_ => Nat.not_le.2 hs_ (Kd.N_base HO315.out k_ e_.symm)) (fun hn_ => (Kd.fresh' (Kd.N_lt (by (with_reducible repeat (first | apply Kd.N_alloc | apply Kd.N_drewN | apply Kd.N_drew)); exact HO315.out)) k_ hn_))⟩)) (below_size (by repeat (first | (with_reducible first | exact HB.out | apply below_alloc | apply pw_below_drewN | apply below_drew1) | exact HB.out)))); have n3_ := Aside0.mk (below_step (by repeat (first | (with_reducible first | exact HB.out | apply below_alloc | apply pw_below_drewN | apply below_drew1) | exact HB.out)) hb); clear HO312; clear HO315; clear HB; have HO312 := n0_; have HO315 := n1_; have HO318 := n2_; have HB := n3_; clear n0_ n1_ n2_ n3_; (try clear hb); (try clear hb2); (try clear hk); (try clear hi); (try clear ho0)))
    (try simp only [Act.put, List.setIfInBounds_toArray, List.set_cons_zero, List.set_cons_succ])
    go_cut [32] (fun v32 wc => ∃ (kq : Nat) (x32_5 : Bool), v32 = .bool x32_5 ∧ Aside0 (letterboxlaw9_HeadStuffs.j0 kq t310 t313 t316 x32_5 = some true) ∧ Aside0 (kq ≤ k) ∧ Aside0 (Kd.R (Kd.int .u8) 5 wc w.heap.size (fun _ => True) (.slice Ao8 t310.length co8) t310) ∧ Aside0 (Kd.N (Kd.slice 5 (Kd.int .u8)) 22 wc w.heap.size (fun k_ => some k_ ≠ (v317 : Value).ownBlock) v314 t313) ∧ Aside0 (Kd.N (Kd.slice 5 (Kd.int .u8)) 22 wc w.heap.size (fun k_ => some k_ ≠ ((.slice Ao8 t310.length co8) : Value).ownBlock ∧ some k_ ≠ (v314 : Value).ownBlock) v317 t316) ∧ Aside0 (Below w.heap.size w wc))
    case first =>
      have H := HC6.out
      clear HC6
      by_cases c11 : (t313.length : Int) = (wrap64 ((t316.length : Int) + 1))
      · rw [if_pos c11] at H
        have c11b0 : ((t313.length : Int) == (wrap64 ((t316.length : Int) + 1))) = true := beq_iff_eq.mpr c11
        have c11b1 : ((t313.length : Int) != (wrap64 ((t316.length : Int) + 1))) = false := bne_eq_false_iff_eq.mpr c11
        clear c11
        (first | rw [c11b0] | (simp only [i64_w, i32_w]; rw [c11b0]) | skip)
        obtain ⟨ji12, hji12⟩ : ∃ j_ : Int, (wrap64 ((t313.length : Int) - 1)) = j_ := ⟨_, rfl⟩
        replace H : (if 0 ≤ (ji12) then (if (ji12) < (t313.length : Int) then (letterboxlaw9_HeadStuffs.j0 k t310 t313 t316 ((strOfNums (rd_L1 t313 (ji12))).toList != ([46] : List UInt8))) else (none)) else (none)) = some true := by first | (rw [hji12] at H; exact H) | (simp only [hji12] at H ⊢; exact H)
        have hji12w : (IntKind.i64.wrap ((t313.length : Int) - 1)) = ji12 := (i64_w _).trans hji12
        by_cases c13 : 0 ≤ (ji12)
        · rw [if_pos c13] at H
          have c13b0 : decide (0 ≤ (ji12)) = true := decide_eq_true c13
          clear c13
          by_cases c14 : (ji12) < (t313.length : Int)
          · rw [if_pos c14] at H
            have c14b0 : decide ((ji12) < (t313.length : Int)) = true := decide_eq_true c14
            clear c14
            have H' := Aside0.mk H
            clear H
            obtain ⟨Ao15, co15, eo15⟩ := Kd.N_slice HO315.out
            subst eo15
            obtain ⟨Ao16, co16, eo16⟩ := Kd.N_slice HO318.out
            subst eo16
            have p319 : 0 ≤ ((ji12) : Int) := of_decide_eq_true (by first | (with_reducible assumption) | assumption)
            have q319 : (ji12) < (t313.length : Int) := of_decide_eq_true (by first | (with_reducible assumption) | assumption)
            obtain ⟨ad319, A319_0, c319_0, e319, hx319_0, hl319_0, hi319_0⟩ := at_L1 (Kd.N_reads' HO315.out).2.2 (ji12) p319 q319
            cases e319
            obtain ⟨ce319, hce319, hMe319, hcc319⟩ := Kd.N_get HO315.out [] (ji12) p319 (by first | exact q319 | exact of_decide_eq_true (by first | (with_reducible assumption) | assumption) | (have e_ := (Kd.N_reads' HO315.out).1; omega))
            obtain ⟨ua319_0, uc319_0, rfl, ul319_0, ge319_0⟩ := Kd.FK_slice_open hMe319
            have hv319_0 := hcc319 0 _ rfl
            rw [Nat.add_zero, show ((Kd.slice 5 (Kd.int .u8))).sz = 1 from rfl, Nat.mul_one] at hv319_0
            replace hv319_0 := Option.some.inj (hv319_0.symm.trans hx319_0)
            injection hv319_0 with hva_ hvn_ hvc_
            rw [hva_] at ge319_0
            rw [hvc_] at ul319_0
            have HL319_0 := Aside0.mk (show Kd.V (Kd.int .u8) 5 _ w.heap.size _ _ (rd_L1 t313 (ji12)) from Kd.V_mk ul319_0 ge319_0)
            clear hva_ hvn_ hvc_ ge319_0 ul319_0
            clear hcc319 hce319
            have HR319_0 := Aside0.mk hi319_0
            have HC319_0 := Aside0.mk hl319_0
            clear hi319_0 hl319_0
            replace p319 := eq_true p319
            replace q319 := eq_true q319
            have hcv17 := Kd.C_string (P := Tryd.prog) (A := A319_0) (c := c319_0) Tryd.underlying22 Tryd.underlying5 Tryd.underlying9 (by repeat (first | (with_reducible exact HR319_0.out) | (with_reducible refine Kd.C_alloc ?_ _) | (with_reducible refine Kd.C_drewN ?_ _) | (with_reducible refine Kd.C_drew ?_) | exact HR319_0.out))
            go_wp2
            go_meet
            case rel => exact ⟨_, (((strOfNums (rd_L1 t313 (ji12))).toList != ([46] : List UInt8))), (by first | rfl | (simp; done) | (simp only [← hji12] <;> (first | rfl | simp)) | (simp [*]; done)), H', ⟨by first | omega | exact Nat.le_refl _⟩, ⟨by (with_reducible repeat (first | apply Kd.R_alloc | apply Kd.R_drewN | apply Kd.R_drew)); exact HO312.out⟩, ⟨by (with_reducible repeat (first | apply Kd.N_alloc | apply Kd.N_drewN | apply Kd.N_drew)); exact Kd.N_mono HO315.out (fun _ hk => hk.2)⟩, ⟨by (with_reducible repeat (first | apply Kd.N_alloc | apply Kd.N_drewN | apply Kd.N_drew)); exact HO318.out⟩, ⟨by repeat (first | (with_reducible first | exact HB.out | apply below_alloc | apply pw_below_drewN | apply below_drew1) | exact HB.out)⟩⟩
          · rw [if_neg c14] at H
            exact absurd H (by simp)
        · rw [if_neg c13] at H
          exact absurd H (by simp)
      · rw [if_neg c11] at H
        have c11b0 : ((t313.length : Int) == (wrap64 ((t316.length : Int) + 1))) = false := beq_eq_false_iff_ne.mpr c11
        have c11b1 : ((t313.length : Int) != (wrap64 ((t316.length : Int) + 1))) = true := bne_iff_ne.mpr c11
        (first | rw [c11b0] | (simp only [i64_w, i32_w]; rw [c11b0]) | skip)
        have H' := Aside0.mk H
        clear H
        obtain ⟨Ao18, co18, eo18⟩ := Kd.N_slice HO315.out
        subst eo18
        obtain ⟨Ao19, co19, eo19⟩ := Kd.N_slice HO318.out
        subst eo19
        go_wp2
        go_meet
        case rel => exact ⟨_, (true), (by first | rfl | (simp; done) | (simp [*]; done)), H', ⟨by first | omega | exact Nat.le_refl _⟩, ⟨by (with_reducible repeat (first | apply Kd.R_alloc | apply Kd.R_drewN | apply Kd.R_drew)); exact HO312.out⟩, ⟨by (with_reducible repeat (first | apply Kd.N_alloc | apply Kd.N_drewN | apply Kd.N_drew)); exact Kd.N_mono HO315.out (fun _ hk => hk.2)⟩, ⟨by (with_reducible repeat (first | apply Kd.N_alloc | apply Kd.N_drewN | apply Kd.N_drew)); exact HO318.out⟩, ⟨by repeat (first | (with_reducible first | exact HB.out | apply below_alloc | apply pw_below_drewN | apply below_drew1) | exact HB.out)⟩⟩
    case rest =>
      clear HC6
      try clear c1
      try clear hcv1
      try clear c2
      try clear c2b0
      try clear c2b1
      try clear p2
      try clear c3
      try clear p3
      try clear q3
      try clear hx3
      try clear c6
      try clear p6
      try clear c11
      try clear c11b0
      try clear c11b1
      try clear c13
      try clear c13b0
      try clear c14
      try clear c14b0
      try clear hcv17
      try clear hx319_0
      try clear p319
      try clear q319
      obtain ⟨kq, x32_5, rfl, HA, HJ5, HO_3, HO_4, HO_5, HB⟩ := hcut
      cases kq with
      | zero => exact absurd HA.out (by simp [letterboxlaw9_HeadStuffs.j0])
      | succ kj5 =>
        have H := HA.out
        clear HA
        simp only [letterboxlaw9_HeadStuffs.j0] at H
        by_cases c20 : x32_5 = true
        · subst c20
          have H1 : (some false) = some true := by rw [if_pos rfl] at H; exact H
          clear H
          have H := H1
          clear H1
          exact absurd H (by repeat' first | exact NT.none | exact NT.false | refine NT.ite ?_ ?_ | refine NT.bind (fun _ => ?_))
        · replace c20 := Bool.eq_false_iff.mpr c20
          subst c20
          have H1 : (letterboxlaw9_HeadStuffs.l0 kj5 t310 t313 t316 0) = some true := by rw [if_neg (show ¬ (false = true) by decide)] at H; exact H
          clear H
          have H := H1
          clear H1
          have H' := Aside0.mk H
          clear H
          go_wp2
          go_loopg [6] kj5 (fun kq v6 w' => ∃ (x6_2 : Int), v6 = .int .i64 x6_2 ∧ Aside0 (letterboxlaw9_HeadStuffs.l0 kq t310 t313 t316 x6_2 = some true) ∧ Aside0 (kq ≤ kj5) ∧ Aside0 (Kd.R (Kd.int .u8) 5 w' w.heap.size (fun _ => True) (.slice Ao8 t310.length co8) t310) ∧ Aside0 (Kd.N (Kd.slice 5 (Kd.int .u8)) 22 w' w.heap.size (fun k_ => some k_ ≠ (v317 : Value).ownBlock) v314 t313) ∧ Aside0 (Kd.N (Kd.slice 5 (Kd.int .u8)) 22 w' w.heap.size (fun k_ => some k_ ≠ ((.slice Ao8 t310.length co8) : Value).ownBlock ∧ some k_ ≠ (v314 : Value).ownBlock) v317 t316) ∧ Aside0 (Below w.heap.size w w'))
          case atStart => exact ⟨(0), (by first | rfl | (simp; done) | (simp [*]; done)), H', ⟨Nat.le_refl _⟩, ⟨by (with_reducible repeat (first | apply Kd.R_alloc | apply Kd.R_drewN | apply Kd.R_drew)); exact HO_3.out⟩, ⟨by (with_reducible repeat (first | apply Kd.N_alloc | apply Kd.N_drewN | apply Kd.N_drew)); exact HO_4.out⟩, ⟨by (with_reducible repeat (first | apply Kd.N_alloc | apply Kd.N_drewN | apply Kd.N_drew)); exact HO_5.out⟩, ⟨by repeat (first | (with_reducible first | exact HB.out | apply below_alloc | apply pw_below_drewN | apply below_drew1) | exact HB.out)⟩⟩
          case round =>
            clear H'
            try clear c1
            try clear hcv1
            try clear c2
            try clear c2b0
            try clear c2b1
            try clear p2
            try clear c3
            try clear p3
            try clear q3
            try clear hx3
            try clear c6
            try clear p6
            try clear c11
            try clear c11b0
            try clear c11b1
            try clear c13
            try clear c13b0
            try clear c14
            try clear c14b0
            try clear hcv17
            try clear c20
            try clear hx319_0
            try clear p2
            try clear p3
            try clear p319
            try clear p6
            try clear q3
            try clear q319
            obtain ⟨x6_2, rfl, HA, HK2, HO_3, HO_4, HO_5, HB⟩ := hrel
            cases gk with
            | zero => exact absurd HA.out (by simp [letterboxlaw9_HeadStuffs.l0])
            | succ k2 =>
              have H := HA.out
              clear HA
              simp only [letterboxlaw9_HeadStuffs.l0] at H
              by_cases c21 : x6_2 < (t316.length : Int)
              · rw [if_pos c21] at H
                have c21b0 : decide (x6_2 < (t316.length : Int)) = true := decide_eq_true c21
                clear c21
                by_cases c22 : 0 ≤ x6_2
                · rw [if_pos c22] at H
                  have c22b0 : decide (0 ≤ x6_2) = true := decide_eq_true c22
                  clear c22
                  have HC23 := Aside0.mk H
                  clear H
                  obtain ⟨Ao24, co24, eo24⟩ := Kd.N_slice HO_5.out
                  subst eo24
                  have p326 : 0 ≤ (x6_2 : Int) := of_decide_eq_true (by first | (with_reducible assumption) | assumption)
                  have q326 : x6_2 < (t316.length : Int) := of_decide_eq_true (by first | (with_reducible assumption) | assumption)
                  obtain ⟨ad326, A326_0, c326_0, e326, hx326_0, hl326_0, hi326_0⟩ := at_L1 (Kd.N_reads' HO_5.out).2.2 x6_2 p326 q326
                  cases e326
                  obtain ⟨ce326, hce326, hMe326, hcc326⟩ := Kd.N_get HO_5.out [] x6_2 p326 (by first | exact q326 | exact of_decide_eq_true (by first | (with_reducible assumption) | assumption) | (have e_ := (Kd.N_reads' HO_5.out).1; omega))
                  obtain ⟨ua326_0, uc326_0, rfl, ul326_0, ge326_0⟩ := Kd.FK_slice_open hMe326
                  have hv326_0 := hcc326 0 _ rfl
                  rw [Nat.add_zero, show ((Kd.slice 5 (Kd.int .u8))).sz = 1 from rfl, Nat.mul_one] at hv326_0
                  replace hv326_0 := Option.some.inj (hv326_0.symm.trans hx326_0)
                  injection hv326_0 with hva_ hvn_ hvc_
                  rw [hva_] at ge326_0
                  rw [hvc_] at ul326_0
                  have HL326_0 := Aside0.mk (show Kd.V (Kd.int .u8) 5 _ w.heap.size _ _ (rd_L1 t316 x6_2) from Kd.V_mk ul326_0 ge326_0)
                  clear hva_ hvn_ hvc_ ge326_0 ul326_0
                  clear hcc326 hce326
                  have HR326_0 := Aside0.mk hi326_0
                  have HC326_0 := Aside0.mk hl326_0
                  clear hi326_0 hl326_0
                  replace p326 := eq_true p326
                  replace q326 := eq_true q326
                  have hcv25 := Kd.C_string (P := Tryd.prog) (A := A326_0) (c := c326_0) Tryd.underlying22 Tryd.underlying5 Tryd.underlying9 (by repeat (first | (with_reducible exact HR326_0.out) | (with_reducible refine Kd.C_alloc ?_ _) | (with_reducible refine Kd.C_drewN ?_ _) | (with_reducible refine Kd.C_drew ?_) | exact HR326_0.out))
                  go_upto_region 12 with (fail)
                  go_cut [51] (fun v51 wc => ∃ (kq : Nat) (x51_22 : Bool), v51 = .bool x51_22 ∧ Aside0 (letterboxlaw9_HeadStuffs.j2 kq t310 t313 t316 x6_2 (strOfNums (rd_L1 t316 x6_2)) x51_22 = some true) ∧ Aside0 (kq ≤ k2) ∧ Aside0 (Kd.R (Kd.int .u8) 5 wc w.heap.size (fun _ => True) (.slice Ao8 t310.length co8) t310) ∧ Aside0 (Kd.N (Kd.slice 5 (Kd.int .u8)) 22 wc w.heap.size (fun k_ => some k_ ≠ ((.slice (some ad326) t316.length co24) : Value).ownBlock) v314 t313) ∧ Aside0 (Kd.N (Kd.slice 5 (Kd.int .u8)) 22 wc w.heap.size (fun k_ => some k_ ≠ ((.slice Ao8 t310.length co8) : Value).ownBlock ∧ some k_ ≠ (v314 : Value).ownBlock) (.slice (some ad326) t316.length co24) t316) ∧ Aside0 (Kd.C (Kd.int .u8) wc A326_0 (rd_L1 t316 x6_2).length (rd_L1 t316 x6_2)) ∧ Aside0 (Below w.heap.size w wc))
                  case first =>
                    have H := HC23.out
                    clear HC23
                    by_cases c26 : ((strOfNums (rd_L1 t316 x6_2)).size : Int) > 0
                    · rw [if_pos c26] at H
                      have c26b0 : decide (0 < ((strOfNums (rd_L1 t316 x6_2)).size : Int)) = true := decide_eq_true c26
                      have c26b1 : decide (0 < (strOfNums (rd_L1 t316 x6_2)).size) = true := decide_eq_true (by omega)
                      clear c26
                      (first | rw [c26b0] | (simp only [i64_w, i32_w]; rw [c26b0]) | skip)
                      by_cases c27 : 0 < ((strOfNums (rd_L1 t316 x6_2)).size : Int)
                      · rw [if_pos c27] at H
                        have c27b0 : decide (0 < ((strOfNums (rd_L1 t316 x6_2)).size : Int)) = true := decide_eq_true c27
                        have c27b1 : decide (0 < (strOfNums (rd_L1 t316 x6_2)).size) = true := decide_eq_true (by omega)
                        clear c27
                        have H' := Aside0.mk H
                        clear H
                        have p28 : 0 ≤ (0 : Int) := (by omega)
                        have q28 : 0 < (strOfNums (rd_L1 t316 x6_2)).size := (by have : (0 : Int) < ((strOfNums (rd_L1 t316 x6_2)).size : Int) := of_decide_eq_true (by first | (with_reducible assumption) | assumption); omega)
                        have hx28 : ∀ h : 0 < (strOfNums (rd_L1 t316 x6_2)).size, (((strOfNums (rd_L1 t316 x6_2))[0]'h).toNat : Int) = bt (strOfNums (rd_L1 t316 x6_2)) 0 := bt_at (strOfNums (rd_L1 t316 x6_2)) 0
                        clear p28
                        have qi28 : (0 < ((strOfNums (rd_L1 t316 x6_2)).size : Int)) = True := eq_true (of_decide_eq_true (by first | (with_reducible assumption) | assumption))
                        replace q28 := eq_true q28
                        go_wp2
                        go_meet
                        case rel => exact ⟨_, (((bt (strOfNums (rd_L1 t316 x6_2)) 0) == 46)), (by first | rfl | (simp; done) | (simp [*]; done)), H', ⟨by have := HJ5.out; have := HK2.out; first | omega | exact Nat.le_refl _⟩, ⟨by (with_reducible repeat (first | apply Kd.R_alloc | apply Kd.R_drewN | apply Kd.R_drew)); exact HO_3.out⟩, ⟨by (with_reducible repeat (first | apply Kd.N_alloc | apply Kd.N_drewN | apply Kd.N_drew)); exact HO_4.out⟩, ⟨by (with_reducible repeat (first | apply Kd.N_alloc | apply Kd.N_drewN | apply Kd.N_drew)); exact HO_5.out⟩, ⟨by repeat (first | (with_reducible exact HR326_0.out) | (with_reducible refine Kd.C_alloc ?_ _) | (with_reducible refine Kd.C_drewN ?_ _) | (with_reducible refine Kd.C_drew ?_) | exact HR326_0.out)⟩, ⟨by repeat (first | (with_reducible first | exact HB.out | apply below_alloc | apply pw_below_drewN | apply below_drew1) | exact HB.out)⟩⟩
                      · rw [if_neg c27] at H
                        exact absurd H (by simp)
                    · rw [if_neg c26] at H
                      have c26b0 : decide (0 < ((strOfNums (rd_L1 t316 x6_2)).size : Int)) = false := decide_eq_false c26
                      have c26b1 : decide (0 < (strOfNums (rd_L1 t316 x6_2)).size) = false := decide_eq_false (by omega)
                      clear c26
                      (first | rw [c26b0] | (simp only [i64_w, i32_w]; rw [c26b0]) | skip)
                      have H' := Aside0.mk H
                      clear H
                      go_wp2
                      go_meet
                      case rel => exact ⟨_, (false), (by first | rfl | (simp; done) | (simp [*]; done)), H', ⟨by have := HJ5.out; have := HK2.out; first | omega | exact Nat.le_refl _⟩, ⟨by (with_reducible repeat (first | apply Kd.R_alloc | apply Kd.R_drewN | apply Kd.R_drew)); exact HO_3.out⟩, ⟨by (with_reducible repeat (first | apply Kd.N_alloc | apply Kd.N_drewN | apply Kd.N_drew)); exact HO_4.out⟩, ⟨by (with_reducible repeat (first | apply Kd.N_alloc | apply Kd.N_drewN | apply Kd.N_drew)); exact HO_5.out⟩, ⟨by repeat (first | (with_reducible exact HR326_0.out) | (with_reducible refine Kd.C_alloc ?_ _) | (with_reducible refine Kd.C_drewN ?_ _) | (with_reducible refine Kd.C_drew ?_) | exact HR326_0.out)⟩, ⟨by repeat (first | (with_reducible first | exact HB.out | apply below_alloc | apply pw_below_drewN | apply below_drew1) | exact HB.out)⟩⟩
                  case rest =>
                    clear HC23
                    try clear c1
                    try clear hcv1
                    try clear c2
                    try clear c2b0
                    try clear c2b1
                    try clear p2
                    try clear q2
                    try clear hx2
                    try clear hcv2
                    try clear qi2
                    try clear c3
                    try clear p3
                    try clear q3
                    try clear hx3
                    try clear c6
                    try clear p6
                    try clear c11
                    try clear c11b0
                    try clear c11b1
                    try clear c13
                    try clear c13b0
                    try clear c14
                    try clear c14b0
                    try clear hcv17
                    try clear c20
                    try clear c21
                    try clear c21b0
                    try clear c22
                    try clear c22b0
                    try clear c23
                    try clear hcv25
                    try clear c26
                    try clear c26b0
                    try clear c26b1
                    try clear c27
                    try clear c27b0
                    try clear c27b1
                    try clear p28
                    try clear q28
                    try clear hx28
                    try clear qi28
                    try clear hx319_0
                    try clear hx326_0
                    try clear p2
                    try clear p28
                    try clear p3
                    try clear p319
                    try clear p326
                    try clear p6
                    try clear q28
                    try clear q3
                    try clear q319
                    try clear q326
                    obtain ⟨kq, x51_22, rfl, HA, HJ22, HO_3, HO_4, HO_5, HR326_0, HB⟩ := hcut
                    cases kq with
                    | zero => exact absurd HA.out (by simp [letterboxlaw9_HeadStuffs.j2])
                    | succ kj22 =>
                      have H := HA.out
                      clear HA
                      simp only [letterboxlaw9_HeadStuffs.j2] at H
                      by_cases c29 : x51_22 = true
                      · subst c29
                        have H1 : (if 1 + (strOfNums (rd_L1 t316 x6_2)).size ≤ 9223372036854775807 then (if 0 ≤ x6_2 then (if x6_2 < (t313.length : Int) then (if (strOfNums (rd_L1 t313 x6_2)).toList = ((⟨#[46]⟩ : ByteArray) ++ (strOfNums (rd_L1 t316 x6_2))).toList then (if ((⟨#[46]⟩ : ByteArray) ++ (strOfNums (rd_L1 t316 x6_2))).toList = ([46] : List UInt8) then (some false) else (letterboxlaw9_HeadStuffs.l0 kj22 t310 t313 t316 (wrap64 (x6_2 + 1)))) else (some false)) else (none)) else (none)) else (none)) = some true := by rw [if_pos rfl] at H; exact H
                        clear H
                        have H := H1
                        clear H1
                        by_cases c30 : 1 + (strOfNums (rd_L1 t316 x6_2)).size ≤ 9223372036854775807
                        · rw [if_pos c30] at H
                          have c30b0 := eq_true c30
                          have c30b1 : decide (1 + (strOfNums (rd_L1 t316 x6_2)).size ≤ 9223372036854775807) = true := decide_eq_true c30
                          try have c30b2 : (9223372036854775807 < 1 + (strOfNums (rd_L1 t316 x6_2)).size) = False := eq_false (Nat.not_lt.2 c30)
                          by_cases c31 : 0 ≤ x6_2
                          · rw [if_pos c31] at H
                            have c31b0 : decide (0 ≤ x6_2) = true := decide_eq_true c31
                            clear c31
                            by_cases c32 : x6_2 < (t313.length : Int)
                            · rw [if_pos c32] at H
                              have c32b0 : decide (x6_2 < (t313.length : Int)) = true := decide_eq_true c32
                              clear c32
                              by_cases c33 : (strOfNums (rd_L1 t313 x6_2)).toList = ((⟨#[46]⟩ : ByteArray) ++ (strOfNums (rd_L1 t316 x6_2))).toList
                              · rw [if_pos c33] at H
                                have c33b0 : ((strOfNums (rd_L1 t313 x6_2)).toList == ((⟨#[46]⟩ : ByteArray) ++ (strOfNums (rd_L1 t316 x6_2))).toList) = true := beq_iff_eq.mpr c33
                                have c33b1 : ((strOfNums (rd_L1 t313 x6_2)).toList != ((⟨#[46]⟩ : ByteArray) ++ (strOfNums (rd_L1 t316 x6_2))).toList) = false := bne_eq_false_iff_eq.mpr c33
                                clear c33
                                by_cases c34 : ((⟨#[46]⟩ : ByteArray) ++ (strOfNums (rd_L1 t316 x6_2))).toList = ([46] : List UInt8)
                                · rw [if_pos c34] at H
                                  have c34b0 : (((⟨#[46]⟩ : ByteArray) ++ (strOfNums (rd_L1 t316 x6_2))).toList == ([46] : List UInt8)) = true := beq_iff_eq.mpr c34
                                  have c34b1 : (((⟨#[46]⟩ : ByteArray) ++ (strOfNums (rd_L1 t316 x6_2))).toList != ([46] : List UInt8)) = false := bne_eq_false_iff_eq.mpr c34
                                  clear c34
                                  exact absurd H (by repeat' first | exact NT.none | exact NT.false | refine NT.ite ?_ ?_ | refine NT.bind (fun _ => ?_))
                                · rw [if_neg c34] at H
                                  have c34b0 : (((⟨#[46]⟩ : ByteArray) ++ (strOfNums (rd_L1 t316 x6_2))).toList == ([46] : List UInt8)) = false := beq_eq_false_iff_ne.mpr c34
                                  have c34b1 : (((⟨#[46]⟩ : ByteArray) ++ (strOfNums (rd_L1 t316 x6_2))).toList != ([46] : List UInt8)) = true := bne_iff_ne.mpr c34
                                  have H' := Aside0.mk H
                                  clear H
                                  obtain ⟨Ao35, co35, eo35⟩ := Kd.N_slice HO_4.out
                                  subst eo35
                                  have p327 : 0 ≤ (x6_2 : Int) := of_decide_eq_true (by first | (with_reducible assumption) | assumption)
                                  have q327 : x6_2 < (t313.length : Int) := of_decide_eq_true (by first | (with_reducible assumption) | assumption)
                                  obtain ⟨ad327, A327_0, c327_0, e327, hx327_0, hl327_0, hi327_0⟩ := at_L1 (Kd.N_reads' HO_4.out).2.2 x6_2 p327 q327
                                  cases e327
                                  obtain ⟨ce327, hce327, hMe327, hcc327⟩ := Kd.N_get HO_4.out [] x6_2 p327 (by first | exact q327 | exact of_decide_eq_true (by first | (with_reducible assumption) | assumption) | (have e_ := (Kd.N_reads' HO_4.out).1; omega))
                                  obtain ⟨ua327_0, uc327_0, rfl, ul327_0, ge327_0⟩ := Kd.FK_slice_open hMe327
                                  have hv327_0 := hcc327 0 _ rfl
                                  rw [Nat.add_zero, show ((Kd.slice 5 (Kd.int .u8))).sz = 1 from rfl, Nat.mul_one] at hv327_0
                                  replace hv327_0 := Option.some.inj (hv327_0.symm.trans hx327_0)
                                  injection hv327_0 with hva_ hvn_ hvc_
                                  rw [hva_] at ge327_0
                                  rw [hvc_] at ul327_0
                                  have HL327_0 := Aside0.mk (show Kd.V (Kd.int .u8) 5 _ w.heap.size _ _ (rd_L1 t313 x6_2) from Kd.V_mk ul327_0 ge327_0)
                                  clear hva_ hvn_ hvc_ ge327_0 ul327_0
                                  clear hcc327 hce327
                                  have HR327_0 := Aside0.mk hi327_0
                                  have HC327_0 := Aside0.mk hl327_0
                                  clear hi327_0 hl327_0
                                  replace p327 := eq_true p327
                                  replace q327 := eq_true q327
                                  have hcv36 := Kd.C_string (P := Tryd.prog) (A := A327_0) (c := c327_0) Tryd.underlying22 Tryd.underlying5 Tryd.underlying9 (by repeat (first | (with_reducible exact HR327_0.out) | (with_reducible refine Kd.C_alloc ?_ _) | (with_reducible refine Kd.C_drewN ?_ _) | (with_reducible refine Kd.C_drew ?_) | exact HR327_0.out))
                                  go_wp2
                                  go_roundg kj22
                                  case measure => have := HJ5.out; have := HK2.out; have := HJ22.out; omega
                                  case rel => exact ⟨(wrap64 (x6_2 + 1)), (by first | rfl | (simp; done) | (simp [*]; done)), H', ⟨by have := HJ5.out; have := HK2.out; have := HJ22.out; omega⟩, ⟨by (with_reducible repeat (first | apply Kd.R_alloc | apply Kd.R_drewN | apply Kd.R_drew)); exact HO_3.out⟩, ⟨by (with_reducible repeat (first | apply Kd.N_alloc | apply Kd.N_drewN | apply Kd.N_drew)); exact HO_4.out⟩, ⟨by (with_reducible repeat (first | apply Kd.N_alloc | apply Kd.N_drewN | apply Kd.N_drew)); exact HO_5.out⟩, ⟨by repeat (first | (with_reducible first | exact HB.out | apply below_alloc | apply pw_below_drewN | apply below_drew1) | exact HB.out)⟩⟩
                              · rw [if_neg c33] at H
                                have c33b0 : ((strOfNums (rd_L1 t313 x6_2)).toList == ((⟨#[46]⟩ : ByteArray) ++ (strOfNums (rd_L1 t316 x6_2))).toList) = false := beq_eq_false_iff_ne.mpr c33
                                have c33b1 : ((strOfNums (rd_L1 t313 x6_2)).toList != ((⟨#[46]⟩ : ByteArray) ++ (strOfNums (rd_L1 t316 x6_2))).toList) = true := bne_iff_ne.mpr c33
                                exact absurd H (by repeat' first | exact NT.none | exact NT.false | refine NT.ite ?_ ?_ | refine NT.bind (fun _ => ?_))
                            · rw [if_neg c32] at H
                              exact absurd H (by simp)
                          · rw [if_neg c31] at H
                            exact absurd H (by simp)
                        · rw [if_neg c30] at H
                          exact absurd H (by simp)
                      · replace c29 := Bool.eq_false_iff.mpr c29
                        subst c29
                        have H1 : (if 0 ≤ x6_2 then (if x6_2 < (t313.length : Int) then (if (strOfNums (rd_L1 t313 x6_2)).toList = (strOfNums (rd_L1 t316 x6_2)).toList then (if (strOfNums (rd_L1 t316 x6_2)).toList = ([46] : List UInt8) then (some false) else (letterboxlaw9_HeadStuffs.l0 kj22 t310 t313 t316 (wrap64 (x6_2 + 1)))) else (some false)) else (none)) else (none)) = some true := by rw [if_neg (show ¬ (false = true) by decide)] at H; exact H
                        clear H
                        have H := H1
                        clear H1
                        by_cases c37 : 0 ≤ x6_2
                        · rw [if_pos c37] at H
                          have c37b0 : decide (0 ≤ x6_2) = true := decide_eq_true c37
                          clear c37
                          by_cases c38 : x6_2 < (t313.length : Int)
                          · rw [if_pos c38] at H
                            have c38b0 : decide (x6_2 < (t313.length : Int)) = true := decide_eq_true c38
                            clear c38
                            by_cases c39 : (strOfNums (rd_L1 t313 x6_2)).toList = (strOfNums (rd_L1 t316 x6_2)).toList
                            · rw [if_pos c39] at H
                              have c39b0 : ((strOfNums (rd_L1 t313 x6_2)).toList == (strOfNums (rd_L1 t316 x6_2)).toList) = true := beq_iff_eq.mpr c39
                              have c39b1 : ((strOfNums (rd_L1 t313 x6_2)).toList != (strOfNums (rd_L1 t316 x6_2)).toList) = false := bne_eq_false_iff_eq.mpr c39
                              clear c39
                              by_cases c40 : (strOfNums (rd_L1 t316 x6_2)).toList = ([46] : List UInt8)
                              · rw [if_pos c40] at H
                                have c40b0 : ((strOfNums (rd_L1 t316 x6_2)).toList == ([46] : List UInt8)) = true := beq_iff_eq.mpr c40
                                have c40b1 : ((strOfNums (rd_L1 t316 x6_2)).toList != ([46] : List UInt8)) = false := bne_eq_false_iff_eq.mpr c40
                                clear c40
                                exact absurd H (by repeat' first | exact NT.none | exact NT.false | refine NT.ite ?_ ?_ | refine NT.bind (fun _ => ?_))
                              · rw [if_neg c40] at H
                                have c40b0 : ((strOfNums (rd_L1 t316 x6_2)).toList == ([46] : List UInt8)) = false := beq_eq_false_iff_ne.mpr c40
                                have c40b1 : ((strOfNums (rd_L1 t316 x6_2)).toList != ([46] : List UInt8)) = true := bne_iff_ne.mpr c40
                                have H' := Aside0.mk H
                                clear H
                                obtain ⟨Ao41, co41, eo41⟩ := Kd.N_slice HO_4.out
                                subst eo41
                                have p328 : 0 ≤ (x6_2 : Int) := of_decide_eq_true (by first | (with_reducible assumption) | assumption)
                                have q328 : x6_2 < (t313.length : Int) := of_decide_eq_true (by first | (with_reducible assumption) | assumption)
                                obtain ⟨ad328, A328_0, c328_0, e328, hx328_0, hl328_0, hi328_0⟩ := at_L1 (Kd.N_reads' HO_4.out).2.2 x6_2 p328 q328
                                cases e328
                                obtain ⟨ce328, hce328, hMe328, hcc328⟩ := Kd.N_get HO_4.out [] x6_2 p328 (by first | exact q328 | exact of_decide_eq_true (by first | (with_reducible assumption) | assumption) | (have e_ := (Kd.N_reads' HO_4.out).1; omega))
                                obtain ⟨ua328_0, uc328_0, rfl, ul328_0, ge328_0⟩ := Kd.FK_slice_open hMe328
                                have hv328_0 := hcc328 0 _ rfl
                                rw [Nat.add_zero, show ((Kd.slice 5 (Kd.int .u8))).sz = 1 from rfl, Nat.mul_one] at hv328_0
                                replace hv328_0 := Option.some.inj (hv328_0.symm.trans hx328_0)
                                injection hv328_0 with hva_ hvn_ hvc_
                                rw [hva_] at ge328_0
                                rw [hvc_] at ul328_0
                                have HL328_0 := Aside0.mk (show Kd.V (Kd.int .u8) 5 _ w.heap.size _ _ (rd_L1 t313 x6_2) from Kd.V_mk ul328_0 ge328_0)
                                clear hva_ hvn_ hvc_ ge328_0 ul328_0
                                clear hcc328 hce328
                                have HR328_0 := Aside0.mk hi328_0
                                have HC328_0 := Aside0.mk hl328_0
                                clear hi328_0 hl328_0
                                replace p328 := eq_true p328
                                replace q328 := eq_true q328
                                have hcv42 := Kd.C_string (P := Tryd.prog) (A := A328_0) (c := c328_0) Tryd.underlying22 Tryd.underlying5 Tryd.underlying9 (by repeat (first | (with_reducible exact HR328_0.out) | (with_reducible refine Kd.C_alloc ?_ _) | (with_reducible refine Kd.C_drewN ?_ _) | (with_reducible refine Kd.C_drew ?_) | exact HR328_0.out))
                                go_wp2
                                go_roundg kj22
                                case measure => have := HJ5.out; have := HK2.out; have := HJ22.out; omega
                                case rel => exact ⟨(wrap64 (x6_2 + 1)), (by first | rfl | (simp; done) | (simp [*]; done)), H', ⟨by have := HJ5.out; have := HK2.out; have := HJ22.out; omega⟩, ⟨by (with_reducible repeat (first | apply Kd.R_alloc | apply Kd.R_drewN | apply Kd.R_drew)); exact HO_3.out⟩, ⟨by (with_reducible repeat (first | apply Kd.N_alloc | apply Kd.N_drewN | apply Kd.N_drew)); exact HO_4.out⟩, ⟨by (with_reducible repeat (first | apply Kd.N_alloc | apply Kd.N_drewN | apply Kd.N_drew)); exact HO_5.out⟩, ⟨by repeat (first | (with_reducible first | exact HB.out | apply below_alloc | apply pw_below_drewN | apply below_drew1) | exact HB.out)⟩⟩
                            · rw [if_neg c39] at H
                              have c39b0 : ((strOfNums (rd_L1 t313 x6_2)).toList == (strOfNums (rd_L1 t316 x6_2)).toList) = false := beq_eq_false_iff_ne.mpr c39
                              have c39b1 : ((strOfNums (rd_L1 t313 x6_2)).toList != (strOfNums (rd_L1 t316 x6_2)).toList) = true := bne_iff_ne.mpr c39
                              exact absurd H (by repeat' first | exact NT.none | exact NT.false | refine NT.ite ?_ ?_ | refine NT.bind (fun _ => ?_))
                          · rw [if_neg c38] at H
                            exact absurd H (by simp)
                        · rw [if_neg c37] at H
                          exact absurd H (by simp)
                · rw [if_neg c22] at H
                  exact absurd H (by simp)
              · rw [if_neg c21] at H
                have c21b0 : decide (x6_2 < (t316.length : Int)) = false := decide_eq_false c21
                clear c21
                by_cases c43 : (t310.length : Int) ≥ 3
                · rw [if_pos c43] at H
                  have c43b0 : decide (3 ≤ (t310.length : Int)) = true := decide_eq_true c43
                  have c43b1 : decide (3 ≤ t310.length) = true := decide_eq_true (by omega)
                  clear c43
                  obtain ⟨ji44, hji44⟩ : ∃ j_ : Int, (wrap64 ((t310.length : Int) - 3)) = j_ := ⟨_, rfl⟩
                  replace H : (if 0 ≤ (ji44) then (if (ji44) ≤ (t310.length : Int) then (if (strOfNums (t310.drop ((ji44) : Int).toNat)).toList = ([46, 13, 10] : List UInt8) then ((letterboxlaw9_known.f k2).bind fun t325 => (some t325)) else (some false)) else (none)) else (none)) = some true := by first | (rw [hji44] at H; exact H) | (simp only [hji44] at H ⊢; exact H)
                  have hji44w : (IntKind.i64.wrap ((t310.length : Int) - 3)) = ji44 := (i64_w _).trans hji44
                  by_cases c45 : 0 ≤ (ji44)
                  · rw [if_pos c45] at H
                    have c45b0 := eq_true c45
                    have c45b1 : decide (0 ≤ (ji44)) = true := decide_eq_true c45
                    clear c45
                    by_cases c46 : (ji44) ≤ (t310.length : Int)
                    · rw [if_pos c46] at H
                      have c46b0 := eq_true c46
                      have c46b1 : decide ((ji44) ≤ (t310.length : Int)) = true := decide_eq_true c46
                      clear c46
                      obtain ⟨y320, hy320⟩ : ∃ y_ : List Int, y_ = (t310.drop ((ji44) : Int).toNat) := ⟨_, rfl⟩
                      replace H : (if (strOfNums y320).toList = ([46, 13, 10] : List UInt8) then ((letterboxlaw9_known.f k2).bind fun t325 => (some t325)) else (some false)) = some true := by first | (rw [hy320]; with_reducible exact H) | (have H2_ := (Option.bind_some _ _).symm.trans H; rw [hy320]; with_reducible exact H2_) | (have H2_ := (Option.bind_some _ _).symm.trans H; with_reducible exact H2_) | with_reducible exact H | (rw [hy320]; exact H) | exact H
                      have Ny320 := Aside0.mk hy320
                      clear hy320
                      by_cases c47 : (strOfNums y320).toList = ([46, 13, 10] : List UInt8)
                      · rw [if_pos c47] at H
                        have c47b0 : ((strOfNums y320).toList == ([46, 13, 10] : List UInt8)) = true := beq_iff_eq.mpr c47
                        have c47b1 : ((strOfNums y320).toList != ([46, 13, 10] : List UInt8)) = false := bne_eq_false_iff_eq.mpr c47
                        clear c47
                        replace H := Option.bind_eq_some_iff.mp H
                        obtain ⟨t325, A480, H⟩ := H
                        replace H : (some t325) = some true := H
                        have A48 := Aside0.mk A480
                        clear A480
                        have Hr_ := Option.some.inj H
                        obtain ⟨Ao49, co49, eo49⟩ := Kd.N_slice HO_5.out
                        subst eo49
                        have q50 : ((ji44) : Int) ≤ ((t310.length : Int) : Int) := of_decide_eq_true (by first | (with_reducible assumption) | assumption)
                        obtain ⟨i050, hi050, _, hsz50, _⟩ := info_parts info5
                        have hroom50 : t310.length ≤ co8 := (Kd.R_reads' HO_3.out).2.1
                        have hC50 : Kd.F (Kd.int .u8) _ _ Ao8 t310.length t310 := (Kd.V_at (base := w.heap.size) (Kd.R_V (Kd.R_apart' (Kd.R_apart' (HO_3.out) (Kd.N_typed HO_4.out) (by decide)) (Kd.N_typed HO_5.out) (by decide)))).2.2
                        have q050 : (0 : Int) ≤ ((ji44) : Int) := of_decide_eq_true (by first | (with_reducible assumption) | assumption)
                        have hcut50 := cut_from (P := Tryd.prog) 22 5 .i64 Tryd.underlying22 hi050 1 hsz50 Ao8 t310.length co8 (ji44) q050 q50
                        have hr50 := Kd.F_cut (m := ((ji44) : Int).toNat) (c := co8) hC50 (by omega) hroom50
                        obtain ⟨A50, hA50⟩ : ∃ A1, A1 = (if co8 = ((ji44) : Int).toNat then Ao8 else (Ao8 : Option Addr).map (·.add (((ji44) : Int).toNat * 1))) := ⟨_, rfl⟩
                        obtain ⟨c50, hc50⟩ : ∃ c1, c1 = co8 - ((ji44) : Int).toNat := ⟨_, rfl⟩
                        have hy50 : y320.length = t310.length - ((ji44) : Int).toNat := (by rw [Ny320.out, List.length_drop] <;> omega)
                        rw [show (t310).drop ((ji44) : Int).toNat = y320 from Ny320.out.symm] at hr50
                        replace hr50 : Kd.F (Kd.int .u8) _ _ A50 y320.length y320 := (by rw [hA50]; exact hr50)
                        rw [← hy50, ← hA50, ← hc50] at hcut50
                        have HO324 := Aside0.mk (show Kd.V (Kd.int .u8) 5 _ w.heap.size _ (.slice A50 y320.length c50) y320 from Kd.V_mk (by rw [hy50, hc50]; exact Nat.sub_le_sub_right hroom50 _) hr50)
                        have HC324 := Aside0.mk (show y320.length ≤ c50 from by rw [hy50, hc50]; exact Nat.sub_le_sub_right hroom50 _)
                        clear hr50 hC50 hroom50 hi050 hsz50 hc50
                        have KY50 := Aside0.mk hy50
                        have KA50 := Aside0.mk hA50
                        clear hy50 hA50
                        replace q50 := eq_true q50
                        (first | have hcv51 := own_string (P := Tryd.prog) Tryd.underlying22 Tryd.underlying5 Tryd.underlying9 (Kd.own_of_R HO324.out) | have hcv51 := V_string (P := Tryd.prog) Tryd.underlying22 Tryd.underlying5 Tryd.underlying9 HO324.out)
                        go_wp2_with (first | (go_at_call 18; (with_reducible refine (letterboxlaw9_known.calls k2  t325 _ A48.out).mono ?_); rintro e w52 ⟨rfl, hb⟩; have n0_ := Aside0.mk (Kd.R_below (by (with_reducible repeat (first | apply Kd.R_alloc | apply Kd.R_drewN | apply Kd.R_drew)); exact HO_3.out) hb); have n1_ := Aside0.mk (Kd.N_below (by (with_reducible repeat (first | apply Kd.N_alloc | apply Kd.N_drewN | apply Kd.N_drew)); exact HO_4.out) hb); have n2_ := Aside0.mk (Kd.N_below (by (with_reducible repeat (first | apply Kd.N_alloc | apply Kd.N_drewN | apply Kd.N_drew)); exact HO_5.out) hb); have n3_ := Aside0.mk (Kd.V_below (by (with_reducible repeat (first | apply Kd.V_alloc | apply Kd.V_drewN | apply Kd.V_drew)); exact HO324.out) hb); have n4_ := Aside0.mk (below_step (by repeat (first | (with_reducible first | exact HB.out | apply below_alloc | apply pw_below_drewN | apply below_drew1) | exact HB.out)) hb); clear HO_3; clear HO_4; clear HO_5; clear HO324; clear HB; have HO_3 := n0_; have HO_4 := n1_; have HO_5 := n2_; have HO324 := n3_; have HB := n4_; clear n0_ n1_ n2_ n3_ n4_; (try clear hb); (try clear hb2); (try clear hk); (try clear hi)))
                        go_ret
                        exact ⟨by first | (rw [Hr_]; done) | rfl | (simp [errW_none, errW_some] <;> rfl) | (simp only [← hji44]; first | rfl | (simp [errW_none, errW_some] <;> rfl)) | (simp [*, errW_none, errW_some] <;> rfl), by repeat (first | (with_reducible first | exact HB.out | apply below_alloc | apply pw_below_drewN | apply below_drew1) | exact HB.out)⟩
                      · rw [if_neg c47] at H
                        have c47b0 : ((strOfNums y320).toList == ([46, 13, 10] : List UInt8)) = false := beq_eq_false_iff_ne.mpr c47
                        have c47b1 : ((strOfNums y320).toList != ([46, 13, 10] : List UInt8)) = true := bne_iff_ne.mpr c47
                        exact absurd H (by repeat' first | exact NT.none | exact NT.false | refine NT.ite ?_ ?_ | refine NT.bind (fun _ => ?_))
                    · rw [if_neg c46] at H
                      exact absurd H (by simp)
                  · rw [if_neg c45] at H
                    exact absurd H (by simp)
                · rw [if_neg c43] at H
                  have c43b0 : decide (3 ≤ (t310.length : Int)) = false := decide_eq_false c43
                  have c43b1 : decide (3 ≤ t310.length) = false := decide_eq_false (by omega)
                  clear c43
                  exact absurd H (by repeat' first | exact NT.none | exact NT.false | refine NT.ite ?_ ?_ | refine NT.bind (fun _ => ?_))

end Go.Proofs.YtaodjbigceamjaaDoor.P
