/- The walks of the seat's functions, one contract a function: printed by a program of this session's (wip/gen). Not trusted: Lean checks it. -/
import Derived.Test.YtdgbllaenkcmbaaDoorPx1
import Derived.Test.YtdgbllaenkcmbaaDoorPx2
import Derived.Test.YtdgbllaenkcmbaaDoorPx3
namespace Go.Proofs.YtdgbllaenkcmbaaDoor.P
open Go.RowKit Go.Proofs.YtdgbllaenkcmbaaDoorW.PrintWords Go.Proofs.YtdgbllaenkcmbaaDoorW.PrintLast Go.Proofs.YtdgbllaenkcmbaaDoorW.PrintMore
attribute [local go_sem] max2_int min2_int max_two min_two max_three min_three max_four min_four   -- for this text's walks alone
set_option linter.unusedVariables false
set_option linter.unusedSimpArgs false

/-! ### letterboxlaw12_SpanNone: function 7 -/
def letterboxlaw12_SpanNone.j0 : Nat → List (S32) → Int → Int → Bool → Option (Bool)
  | 0, _, _, _, _ => none
  | k + 1, x0, x1, x2, x14 => if x14 = true then (some true) else ((some (([(⟨1, 1⟩ : S32)] : List (S32)) : List (S32))).bind fun y216 => (if y216.length + 20 < 8796093022208 then ((span_Has.f x0 x1 x2).bind fun t222 => (if t222 = true then (some false) else ((span_Print.f k ([] : List (S32))).bind fun t223 => (if t223.toList = ([] : List UInt8) then ((span_Print.f k (y216 ++ List.replicate 20 z32)).bind fun t224 => (if t224.toList = ([] : List UInt8) then ((span_Print.f k (([(⟨0, 1⟩ : S32)] : List (S32)))).bind fun t228 => (if t228.toList = ([] : List UInt8) then ((letterboxlaw12_known.f k).bind fun t229 => (some t229)) else (some false))) else (some false))) else (some false))))) else (none)))
def letterboxlaw12_SpanNone.f (k : Nat) (l0 : List (S32)) (a1 : Int) (a2 : Int) : Option (Bool) := if (l0.length : Int) > 40 then (letterboxlaw12_SpanNone.j0 k l0 a1 a2 true) else (letterboxlaw12_SpanNone.j0 k l0 a1 a2 (decide (a1 > 0)))
theorem letterboxlaw12_SpanNone.mono_l : ∀ k, (∀ y0 y1 y2 y3, LeO (letterboxlaw12_SpanNone.j0 k y0 y1 y2 y3) (letterboxlaw12_SpanNone.j0 (k + 1) y0 y1 y2 y3))
  | 0 => fun _ _ _ _ r h => by simp [letterboxlaw12_SpanNone.j0] at h
  | k + 1 => by
    have ih0 := letterboxlaw12_SpanNone.mono_l k
    · intro y0 y1 y2 y3
      unfold letterboxlaw12_SpanNone.j0
      repeat' first
      | (with_reducible exact ih0 _ _ _ _)
      | (with_reducible exact letterboxlaw12_known.mono _)
      | (with_reducible exact span_Print.mono _ _)
      | (with_reducible exact LeO.refl _)
      | (with_reducible exact LeO.none _)
      | (with_reducible refine LeO.ite ?_ ?_)
      | (with_reducible refine LeO.bind ?_ (fun _ => ?_))
      | exact ih0 _ _ _ _
      | exact letterboxlaw12_known.mono _
      | exact span_Print.mono _ _
      | exact LeO.none _
      | refine LeO.ite ?_ ?_
      | refine LeO.bind ?_ (fun _ => ?_)
theorem letterboxlaw12_SpanNone.mono : ∀ a0 a1 a2 k, LeO (letterboxlaw12_SpanNone.f k a0 a1 a2) (letterboxlaw12_SpanNone.f (k + 1) a0 a1 a2) := by
  intro a0 a1 a2 k
  have ih0 := letterboxlaw12_SpanNone.mono_l k
  unfold letterboxlaw12_SpanNone.f
  repeat' first
      | (with_reducible exact ih0 _ _ _ _)
      | (with_reducible exact letterboxlaw12_known.mono _)
      | (with_reducible exact span_Print.mono _ _)
      | (with_reducible exact LeO.refl _)
      | (with_reducible exact LeO.none _)
      | (with_reducible refine LeO.ite ?_ ?_)
      | (with_reducible refine LeO.bind ?_ (fun _ => ?_))
      | exact ih0 _ _ _ _
      | exact letterboxlaw12_known.mono _
      | exact span_Print.mono _ _
      | exact LeO.none _
      | refine LeO.ite ?_ ?_
      | refine LeO.bind ?_ (fun _ => ?_)
set_option maxHeartbeats 8000000 in
set_option maxRecDepth 100000 in
theorem letterboxlaw12_SpanNone.calls (k : Nat) (A0 : Option Addr) (c0 : Nat) (l0 : List (S32)) (a1 : Int) (a2 : Int) (w : World) (hr0 : Kd.C k32 w A0 l0.length l0) (hc0 : l0.length ≤ c0) (HL0 : Laid w) (h : letterboxlaw12_SpanNone.f k l0 a1 a2 = some true) :
    Calls Tryd.prog 7 #[.slice A0 l0.length c0, .int .i64 a1, .int .i64 a2] w fun e w' => e = .returned (.bool true) ∧ Below w.heap.size w w' := by
  have HLd := Aside0.mk HL0
  clear HL0
  have hu32 := Tryd.underlying32
  have HR0 := Aside0.mk hr0
  have HC0 := Aside0.mk hc0
  clear hr0 hc0
  have HB := Aside0.mk (Below.refl w.heap.size w)
  have H : (if (l0.length : Int) > 40 then (letterboxlaw12_SpanNone.j0 k l0 a1 a2 true) else (letterboxlaw12_SpanNone.j0 k l0 a1 a2 (decide (a1 > 0)))) = some true := h
  clear h
  have HC4 := Aside0.mk H
  clear H
  go_enter Tryd.func7, Tryd.ntmps7
  go_upto_region 1 with (fail)
  go_cut [14] (fun v14 wc => ∃ (kq : Nat) (x14_3 : Bool), v14 = .bool x14_3 ∧ Aside0 (letterboxlaw12_SpanNone.j0 kq l0 a1 a2 x14_3 = some true) ∧ Aside0 (kq ≤ k) ∧ Aside0 (Below w.heap.size w wc))
  case first =>
    have H := HC4.out
    clear HC4
    by_cases c5 : (l0.length : Int) > 40
    · rw [if_pos c5] at H
      have c5b0 : decide (40 < (l0.length : Int)) = true := decide_eq_true c5
      have c5b1 : decide (40 < l0.length) = true := decide_eq_true (by omega)
      clear c5
      (first | rw [c5b0] | (simp only [i64_w, i32_w]; rw [c5b0]) | skip)
      have H' := Aside0.mk H
      clear H
      go_wp2
      go_meet
      case rel => exact ⟨_, (true), (by first | rfl | (simp; done) | (simp [*]; done)), H', ⟨by first | omega | exact Nat.le_refl _⟩, ⟨by repeat (first | (with_reducible first | exact HB.out | apply below_alloc | apply pw_below_drewN | apply below_drew1) | exact HB.out)⟩⟩
    · rw [if_neg c5] at H
      have c5b0 : decide (40 < (l0.length : Int)) = false := decide_eq_false c5
      have c5b1 : decide (40 < l0.length) = false := decide_eq_false (by omega)
      clear c5
      (first | rw [c5b0] | (simp only [i64_w, i32_w]; rw [c5b0]) | skip)
      have H' := Aside0.mk H
      clear H
      go_wp2
      go_meet
      case rel => exact ⟨_, (decide (a1 > 0)), (by first | rfl | (simp; done) | (simp [*]; done)), H', ⟨by first | omega | exact Nat.le_refl _⟩, ⟨by repeat (first | (with_reducible first | exact HB.out | apply below_alloc | apply pw_below_drewN | apply below_drew1) | exact HB.out)⟩⟩
  case rest =>
    clear HC4
    try clear p2
    try clear c5
    try clear c5b0
    try clear c5b1
    obtain ⟨kq, x14_3, rfl, HA, HJ3, HB⟩ := hcut
    cases kq with
    | zero => exact absurd HA.out (by simp [letterboxlaw12_SpanNone.j0])
    | succ kj3 =>
      have H := HA.out
      clear HA
      simp only [letterboxlaw12_SpanNone.j0] at H
      by_cases c6 : x14_3 = true
      · subst c6
        have H1 : (some true) = some true := rfl
        clear H
        have H := H1
        clear H1
        first | (obtain rfl := Option.some.inj H) | (have Hr_ := Option.some.inj H)
        go_wp2
        go_ret
        exact ⟨by first | rfl | (simp [errW_none, errW_some] <;> rfl) | (simp [*, errW_none, errW_some] <;> rfl), by repeat (first | (with_reducible first | exact HB.out | apply below_alloc | apply pw_below_drewN | apply below_drew1) | exact HB.out)⟩
      · replace c6 := Bool.eq_false_iff.mpr c6
        subst c6
        have H1 : ((some (([(⟨1, 1⟩ : S32)] : List (S32)) : List (S32))).bind fun y216 => (if y216.length + 20 < 8796093022208 then ((span_Has.f l0 a1 a2).bind fun t222 => (if t222 = true then (some false) else ((span_Print.f kj3 ([] : List (S32))).bind fun t223 => (if t223.toList = ([] : List UInt8) then ((span_Print.f kj3 (y216 ++ List.replicate 20 z32)).bind fun t224 => (if t224.toList = ([] : List UInt8) then ((span_Print.f kj3 (([(⟨0, 1⟩ : S32)] : List (S32)))).bind fun t228 => (if t228.toList = ([] : List UInt8) then ((letterboxlaw12_known.f kj3).bind fun t229 => (some t229)) else (some false))) else (some false))) else (some false))))) else (none))) = some true := by rw [if_neg (show ¬ (false = true) by decide)] at H; exact H
        clear H
        have H := H1
        clear H1
        obtain ⟨y216, hy216⟩ : ∃ y_ : List (S32), y_ = (([(⟨1, 1⟩ : S32)] : List (S32))) := ⟨_, rfl⟩
        replace H : (if y216.length + 20 < 8796093022208 then ((span_Has.f l0 a1 a2).bind fun t222 => (if t222 = true then (some false) else ((span_Print.f kj3 ([] : List (S32))).bind fun t223 => (if t223.toList = ([] : List UInt8) then ((span_Print.f kj3 (y216 ++ List.replicate 20 z32)).bind fun t224 => (if t224.toList = ([] : List UInt8) then ((span_Print.f kj3 (([(⟨0, 1⟩ : S32)] : List (S32)))).bind fun t228 => (if t228.toList = ([] : List UInt8) then ((letterboxlaw12_known.f kj3).bind fun t229 => (some t229)) else (some false))) else (some false))) else (some false))))) else (none)) = some true := by first | (rw [hy216]; with_reducible exact H) | (have H2_ := (Option.bind_some _ _).symm.trans H; rw [hy216]; with_reducible exact H2_) | (have H2_ := (Option.bind_some _ _).symm.trans H; with_reducible exact H2_) | with_reducible exact H | (rw [hy216]; exact H) | exact H
        have Ny216 := Aside0.mk hy216
        clear hy216
        by_cases c7 : y216.length + 20 < 8796093022208
        · rw [if_pos c7] at H
          have LMc7 := Aside0.mk c7
          clear c7
          obtain ⟨y219, hy219⟩ : ∃ y_ : List (S32), y_ = (y216 ++ List.replicate 20 z32) := ⟨_, rfl⟩
          replace H : ((span_Has.f l0 a1 a2).bind fun t222 => (if t222 = true then (some false) else ((span_Print.f kj3 ([] : List (S32))).bind fun t223 => (if t223.toList = ([] : List UInt8) then ((span_Print.f kj3 y219).bind fun t224 => (if t224.toList = ([] : List UInt8) then ((span_Print.f kj3 (([(⟨0, 1⟩ : S32)] : List (S32)))).bind fun t228 => (if t228.toList = ([] : List UInt8) then ((letterboxlaw12_known.f kj3).bind fun t229 => (some t229)) else (some false))) else (some false))) else (some false))))) = some true := by first | (rw [hy219]; with_reducible exact H) | (have H2_ := (Option.bind_some _ _).symm.trans H; rw [hy219]; with_reducible exact H2_) | (have H2_ := (Option.bind_some _ _).symm.trans H; with_reducible exact H2_) | with_reducible exact H | (rw [hy219]; exact H) | exact H
          have Ny219 := Aside0.mk hy219
          clear hy219
          replace H := Option.bind_eq_some_iff.mp H
          obtain ⟨t222, A80, H⟩ := H
          replace H : (if t222 = true then (some false) else ((span_Print.f kj3 ([] : List (S32))).bind fun t223 => (if t223.toList = ([] : List UInt8) then ((span_Print.f kj3 y219).bind fun t224 => (if t224.toList = ([] : List UInt8) then ((span_Print.f kj3 (([(⟨0, 1⟩ : S32)] : List (S32)))).bind fun t228 => (if t228.toList = ([] : List UInt8) then ((letterboxlaw12_known.f kj3).bind fun t229 => (some t229)) else (some false))) else (some false))) else (some false)))) = some true := H
          have A8 := Aside0.mk A80
          clear A80
          by_cases c9 : t222 = true
          · subst c9
            have H1 : (some false) = some true := by rw [if_pos rfl] at H; exact H
            clear H
            have H := H1
            clear H1
            exact absurd H (by repeat' first | exact NT.none | exact NT.false | refine NT.ite ?_ ?_ | refine NT.bind (fun _ => ?_))
          · replace c9 := Bool.eq_false_iff.mpr c9
            subst c9
            have H1 : ((span_Print.f kj3 ([] : List (S32))).bind fun t223 => (if t223.toList = ([] : List UInt8) then ((span_Print.f kj3 y219).bind fun t224 => (if t224.toList = ([] : List UInt8) then ((span_Print.f kj3 (([(⟨0, 1⟩ : S32)] : List (S32)))).bind fun t228 => (if t228.toList = ([] : List UInt8) then ((letterboxlaw12_known.f kj3).bind fun t229 => (some t229)) else (some false))) else (some false))) else (some false))) = some true := by rw [if_neg (show ¬ (false = true) by decide)] at H; exact H
            clear H
            have H := H1
            clear H1
            replace H := Option.bind_eq_some_iff.mp H
            obtain ⟨t223, A100, H⟩ := H
            replace H : (if t223.toList = ([] : List UInt8) then ((span_Print.f kj3 y219).bind fun t224 => (if t224.toList = ([] : List UInt8) then ((span_Print.f kj3 (([(⟨0, 1⟩ : S32)] : List (S32)))).bind fun t228 => (if t228.toList = ([] : List UInt8) then ((letterboxlaw12_known.f kj3).bind fun t229 => (some t229)) else (some false))) else (some false))) else (some false)) = some true := H
            have A10 := Aside0.mk A100
            clear A100
            by_cases c11 : t223.toList = ([] : List UInt8)
            · rw [if_pos c11] at H
              have c11b0 : (t223.toList == ([] : List UInt8)) = true := beq_iff_eq.mpr c11
              have c11b1 : (t223.toList != ([] : List UInt8)) = false := bne_eq_false_iff_eq.mpr c11
              clear c11
              replace H := Option.bind_eq_some_iff.mp H
              obtain ⟨t224, A120, H⟩ := H
              replace H : (if t224.toList = ([] : List UInt8) then ((span_Print.f kj3 (([(⟨0, 1⟩ : S32)] : List (S32)))).bind fun t228 => (if t228.toList = ([] : List UInt8) then ((letterboxlaw12_known.f kj3).bind fun t229 => (some t229)) else (some false))) else (some false)) = some true := H
              have A12 := Aside0.mk A120
              clear A120
              by_cases c13 : t224.toList = ([] : List UInt8)
              · rw [if_pos c13] at H
                have c13b0 : (t224.toList == ([] : List UInt8)) = true := beq_iff_eq.mpr c13
                have c13b1 : (t224.toList != ([] : List UInt8)) = false := bne_eq_false_iff_eq.mpr c13
                clear c13
                obtain ⟨y225, hy225⟩ : ∃ y_ : List (S32), y_ = (([(⟨0, 1⟩ : S32)] : List (S32))) := ⟨_, rfl⟩
                replace H : ((span_Print.f kj3 y225).bind fun t228 => (if t228.toList = ([] : List UInt8) then ((letterboxlaw12_known.f kj3).bind fun t229 => (some t229)) else (some false))) = some true := by first | (rw [hy225]; with_reducible exact H) | (have H2_ := (Option.bind_some _ _).symm.trans H; rw [hy225]; with_reducible exact H2_) | (have H2_ := (Option.bind_some _ _).symm.trans H; with_reducible exact H2_) | with_reducible exact H | (rw [hy225]; exact H) | exact H
                have Ny225 := Aside0.mk hy225
                clear hy225
                replace H := Option.bind_eq_some_iff.mp H
                obtain ⟨t228, A140, H⟩ := H
                replace H : (if t228.toList = ([] : List UInt8) then ((letterboxlaw12_known.f kj3).bind fun t229 => (some t229)) else (some false)) = some true := H
                have A14 := Aside0.mk A140
                clear A140
                by_cases c15 : t228.toList = ([] : List UInt8)
                · rw [if_pos c15] at H
                  have c15b0 : (t228.toList == ([] : List UInt8)) = true := beq_iff_eq.mpr c15
                  have c15b1 : (t228.toList != ([] : List UInt8)) = false := bne_eq_false_iff_eq.mpr c15
                  clear c15
                  replace H := Option.bind_eq_some_iff.mp H
                  obtain ⟨t229, A160, H⟩ := H
                  replace H : (some t229) = some true := H
                  have A16 := Aside0.mk A160
                  clear A160
                  have Hr_ := Option.some.inj H
                  go_wp2_with (first | ((with_reducible refine gate_dst (N := 16) rfl ?_); (try (refine gate_guard (by rfl) ?_; dsimp only)); refine Kd.R_lit k32 _ 32 ?hg (N := 16) ?hd (xs := ([(⟨1, 1⟩ : S32)] : List (S32))) (inner := [.int .i64 1, .int .i64 1]) (ok := fun _ => True) (okp := fun _ => True) ?hr ?hp (fun _ hk => hk) trivial (Below.refl _ _) (Nat.le_refl _) (by simp) ?_; (case hd => rfl); (case hg => rfl); (case hr => first | (go_simp; done) | (go_simp; rfl)); (case hp => exact (Reps.c2 (show Kd.M k32 _ _ _ (⟨1, 1⟩ : S32) [.int .i64 1, .int .i64 1] from (k32_mkM _ _ _ (⟨1, 1⟩ : S32) )) (Reps.none _ _))); intro v217 w17 ho18 hb hg_ hnew_; clear hg_ hnew_; (first | rw [← Ny216.out] at ho18 | (simp only [Int.reduceToNat] at ho18; rw [← Ny216.out] at ho18)); have n0_ := Aside0.mk (Kd.R_lower ho18 (below_size (by repeat (first | (with_reducible first | exact HB.out | apply below_alloc | apply pw_below_drewN | apply below_drew1) | exact HB.out)))); have n1_ := Aside0.mk (below_step (by repeat (first | (with_reducible first | exact HB.out | apply below_alloc | apply pw_below_drewN | apply below_drew1) | exact HB.out)) hb); clear HB; have HO218 := n0_; have HB := n1_; clear n0_ n1_; clear hb ho18) | (at_builtin; refine Kd.R_append_zeros k32 (w0 := w) w.heap.size rfl (.tmp 16) (.const (.int .i64 20)) 22 3 32 (.agg #[(.int .i64 0), (.int .i64 0)]) 16 rfl Tryd.underlying22 Tryd.underlying3 info32 rfl (by decide) (by omega) v217 y216 z32 (20 : Int) (fun _ => True) rfl rfl (k32_mkM _ _ _ z32 ) ?aF ?aO (by omega) ?aB ?aS ?aL ?_; (case aB => exact (by repeat (first | (with_reducible first | exact HB.out | apply below_alloc | apply pw_below_drewN | apply below_drew1) | exact HB.out))); (case aF => exact (fun _ _ => trivial)); (case aO => exact (by (with_reducible repeat (first | apply Kd.R_alloc | apply Kd.R_drewN | apply Kd.R_drew)); exact HO218.out)); (case aS => exact (below_size (by repeat (first | (with_reducible first | exact HB.out | apply below_alloc | apply pw_below_drewN | apply below_drew1) | exact HB.out)))); (case aL => have := LMc7.out; omega); intro v220 w19 ho hb hg hat; (first | rw [← Ny219.out] at ho | (simp only [Int.reduceToNat] at ho; rw [← Ny219.out] at ho)); have n0_ := Aside0.mk (hb); have n1_ := Aside0.mk (ho); clear HB; clear HO218; have HB := n0_; have HO221 := n1_; clear n0_ n1_; clear ho hb hg hat) | ((with_reducible refine gate_callee (f := 14) rfl ?_); refine goesL_ (some 21) rfl rfl Tryd.func14 (by kernel_rfl) rfl #[.slice A0 l0.length c0, .int .i64 a1, .int .i64 a2] rfl (by (try simp only [List.map_toArray, List.map_cons, List.map_nil]); first | done | rfl | (simp only [List.length_drop, List.length_take]; rfl)) ?_; (with_reducible refine (span_Has.calls _ _ l0 a1 a2 false _ ?side1 ?side2 A8.out).mono ?_); (case side1 => repeat (first | exact (Kd.C_below HR0.out HB.out) | (with_reducible refine Kd.C_alloc ?_ _) | (with_reducible refine Kd.C_drewN ?_ _) | (with_reducible refine Kd.C_drew ?_))); (case side2 => exact HC0.out); rintro e w20 ⟨rfl, hb⟩; refine ⟨_, rfl, ?_⟩; have n0_ := Aside0.mk (Kd.R_below (by (with_reducible repeat (first | apply Kd.R_alloc | apply Kd.R_drewN | apply Kd.R_drew)); exact HO221.out) hb); have n1_ := Aside0.mk (below_step (by repeat (first | (with_reducible first | exact HB.out | apply below_alloc | apply pw_below_drewN | apply below_drew1) | exact HB.out)) hb); clear HO221; clear HB; have HO221 := n0_; have HB := n1_; clear n0_ n1_; (try clear hb); (try clear hb2); (try clear hk); (try clear hi)) | (go_at_call 11; (with_reducible refine (span_Print.calls kj3 _ _ y219 t224 _ ?side1 ?side2 (Laid.below HLd.out (by repeat (first | (with_reducible first | exact HB.out | apply below_alloc | apply pw_below_drewN | apply below_drew1) | exact HB.out))) A12.out).mono ?_); (case side1 => repeat (first | exact (Kd.R_reads' HO221.out).2.2 | (with_reducible refine Kd.C_alloc ?_ _) | (with_reducible refine Kd.C_drewN ?_ _) | (with_reducible refine Kd.C_drew ?_))); (case side2 => exact (Kd.R_reads' HO221.out).2.1); rintro e w23 ⟨rfl, hb⟩; have n0_ := Aside0.mk (Kd.R_below (by (with_reducible repeat (first | apply Kd.R_alloc | apply Kd.R_drewN | apply Kd.R_drew)); exact HO221.out) hb); have n1_ := Aside0.mk (below_step (by repeat (first | (with_reducible first | exact HB.out | apply below_alloc | apply pw_below_drewN | apply below_drew1) | exact HB.out)) hb); clear HO221; clear HB; have HO221 := n0_; have HB := n1_; clear n0_ n1_; (try clear hb); (try clear hb2); (try clear hk); (try clear hi)) | ((with_reducible refine gate_dst (N := 34) rfl ?_); (try (refine gate_guard (by rfl) ?_; dsimp only)); refine Kd.R_lit k32 _ 32 ?hg (N := 34) ?hd (xs := ([(⟨0, 1⟩ : S32)] : List (S32))) (inner := [.int .i64 0, .int .i64 1]) (ok := fun _ => True) (okp := fun _ => True) ?hr ?hp (fun _ hk => hk) trivial (Below.refl _ _) (Nat.le_refl _) (by simp) ?_; (case hd => rfl); (case hg => rfl); (case hr => first | (go_simp; done) | (go_simp; rfl)); (case hp => exact (Reps.c2 (show Kd.M k32 _ _ _ (⟨0, 1⟩ : S32) [.int .i64 0, .int .i64 1] from (k32_mkM _ _ _ (⟨0, 1⟩ : S32) )) (Reps.none _ _))); intro v226 w24 ho25 hb hg_ hnew_; clear hg_ hnew_; (first | rw [← Ny225.out] at ho25 | (simp only [Int.reduceToNat] at ho25; rw [← Ny225.out] at ho25)); have n0_ := Aside0.mk (Kd.R_elder' (by (with_reducible repeat (first | apply Kd.R_alloc | apply Kd.R_drewN | apply Kd.R_drew)); exact HO221.out) (Kd.R_base ho25) hb); have n1_ := Aside0.mk (Kd.R_lower (Kd.R_new' ho25 (Kd.R_lt (by (with_reducible repeat (first | apply Kd.R_alloc | apply Kd.R_drewN | apply Kd.R_drew)); exact HO221.out))) (below_size (by repeat (first | (with_reducible first | exact HB.out | apply below_alloc | apply pw_below_drewN | apply below_drew1) | exact HB.out)))); have n2_ := Aside0.mk (below_step (by repeat (first | (with_reducible first | exact HB.out | apply below_alloc | apply pw_below_drewN | apply below_drew1) | exact HB.out)) hb); clear HO221; clear HB; have HO221 := n0_; have HO227 := n1_; have HB := n2_; clear n0_ n1_ n2_; clear hb ho25; obtain ⟨Ao26, co26, eo26⟩ := Kd.R_slice HO227.out; subst eo26) | (go_at_call 11; (with_reducible refine (span_Print.calls kj3 _ _ y225 t228 _ ?side1 ?side2 (Laid.below HLd.out (by repeat (first | (with_reducible first | exact HB.out | apply below_alloc | apply pw_below_drewN | apply below_drew1) | exact HB.out))) A14.out).mono ?_); (case side1 => repeat (first | exact (Kd.R_reads' HO227.out).2.2 | (with_reducible refine Kd.C_alloc ?_ _) | (with_reducible refine Kd.C_drewN ?_ _) | (with_reducible refine Kd.C_drew ?_))); (case side2 => exact (Kd.R_reads' HO227.out).2.1); rintro e w27 ⟨rfl, hb⟩; have n0_ := Aside0.mk (Kd.R_below (by (with_reducible repeat (first | apply Kd.R_alloc | apply Kd.R_drewN | apply Kd.R_drew)); exact HO221.out) hb); have n1_ := Aside0.mk (Kd.R_below (by (with_reducible repeat (first | apply Kd.R_alloc | apply Kd.R_drewN | apply Kd.R_drew)); exact HO227.out) hb); have n2_ := Aside0.mk (below_step (by repeat (first | (with_reducible first | exact HB.out | apply below_alloc | apply pw_below_drewN | apply below_drew1) | exact HB.out)) hb); clear HO221; clear HO227; clear HB; have HO221 := n0_; have HO227 := n1_; have HB := n2_; clear n0_ n1_ n2_; (try clear hb); (try clear hb2); (try clear hk); (try clear hi)) | (go_at_call 13; (with_reducible refine (letterboxlaw12_known.calls kj3  t229 _ (Laid.below HLd.out (by repeat (first | (with_reducible first | exact HB.out | apply below_alloc | apply pw_below_drewN | apply below_drew1) | exact HB.out))) A16.out).mono ?_); rintro e w28 ⟨rfl, hb⟩; have n0_ := Aside0.mk (Kd.R_below (by (with_reducible repeat (first | apply Kd.R_alloc | apply Kd.R_drewN | apply Kd.R_drew)); exact HO221.out) hb); have n1_ := Aside0.mk (Kd.R_below (by (with_reducible repeat (first | apply Kd.R_alloc | apply Kd.R_drewN | apply Kd.R_drew)); exact HO227.out) hb); have n2_ := Aside0.mk (below_step (by repeat (first | (with_reducible first | exact HB.out | apply below_alloc | apply pw_below_drewN | apply below_drew1) | exact HB.out)) hb); clear HO221; clear HO227; clear HB; have HO221 := n0_; have HO227 := n1_; have HB := n2_; clear n0_ n1_ n2_; (try clear hb); (try clear hb2); (try clear hk); (try clear hi)) | (go_at_call 11; (refine (span_Print.calls kj3 _ _ ([] : List (S32)) t223 _ ?side1 ?side2 (Laid.below HLd.out (by repeat (first | (with_reducible first | exact HB.out | apply below_alloc | apply pw_below_drewN | apply below_drew1) | exact HB.out))) A10.out).mono ?_); (case side1 => exact Kd.C_nil _ _); (case side2 => exact Nat.le_refl _); rintro e w21 ⟨rfl, hb⟩; have n0_ := Aside0.mk (Kd.R_below (by (with_reducible repeat (first | apply Kd.R_alloc | apply Kd.R_drewN | apply Kd.R_drew)); exact HO221.out) hb); have n1_ := Aside0.mk (below_step (by repeat (first | (with_reducible first | exact HB.out | apply below_alloc | apply pw_below_drewN | apply below_drew1) | exact HB.out)) hb); clear HO221; clear HB; have HO221 := n0_; have HB := n1_; clear n0_ n1_; (try clear hb); (try clear hb2); (try clear hk); (try clear hi); obtain ⟨Ao22, co22, eo22⟩ := Kd.R_slice HO221.out; subst eo22))
                  go_ret
                  exact ⟨by first | (rw [Hr_]; done) | rfl | (simp [errW_none, errW_some] <;> rfl) | (simp [*, errW_none, errW_some] <;> rfl), by repeat (first | (with_reducible first | exact HB.out | apply below_alloc | apply pw_below_drewN | apply below_drew1) | exact HB.out)⟩
                · rw [if_neg c15] at H
                  have c15b0 : (t228.toList == ([] : List UInt8)) = false := beq_eq_false_iff_ne.mpr c15
                  have c15b1 : (t228.toList != ([] : List UInt8)) = true := bne_iff_ne.mpr c15
                  exact absurd H (by repeat' first | exact NT.none | exact NT.false | refine NT.ite ?_ ?_ | refine NT.bind (fun _ => ?_))
              · rw [if_neg c13] at H
                have c13b0 : (t224.toList == ([] : List UInt8)) = false := beq_eq_false_iff_ne.mpr c13
                have c13b1 : (t224.toList != ([] : List UInt8)) = true := bne_iff_ne.mpr c13
                exact absurd H (by repeat' first | exact NT.none | exact NT.false | refine NT.ite ?_ ?_ | refine NT.bind (fun _ => ?_))
            · rw [if_neg c11] at H
              have c11b0 : (t223.toList == ([] : List UInt8)) = false := beq_eq_false_iff_ne.mpr c11
              have c11b1 : (t223.toList != ([] : List UInt8)) = true := bne_iff_ne.mpr c11
              exact absurd H (by repeat' first | exact NT.none | exact NT.false | refine NT.ite ?_ ?_ | refine NT.bind (fun _ => ?_))
        · rw [if_neg c7] at H
          exact absurd H (by simp)

end Go.Proofs.YtdgbllaenkcmbaaDoor.P
