/- The walks of the seat's functions, one contract a function: printed by a program of this session's (wip/gen). Not trusted: Lean checks it. -/
import Derived.Test.YtdgbllaenkcmbaaDoorPx1
import Derived.Test.YtdgbllaenkcmbaaDoorPx2
import Derived.Test.YtdgbllaenkcmbaaDoorPx3
import Derived.Test.YtdgbllaenkcmbaaDoorPx4
import Derived.Test.YtdgbllaenkcmbaaDoorPx5
namespace Go.Proofs.YtdgbllaenkcmbaaDoor.P
open Go.RowKit Go.Proofs.YtdgbllaenkcmbaaDoorW.PrintWords Go.Proofs.YtdgbllaenkcmbaaDoorW.PrintLast Go.Proofs.YtdgbllaenkcmbaaDoorW.PrintMore
attribute [local go_sem] max2_int min2_int max_two min_two max_three min_three max_four min_four   -- for this text's walks alone
set_option linter.unusedVariables false
set_option linter.unusedSimpArgs false

/-! ### letterboxlaw12_SpanTells: function 8 -/
def letterboxlaw12_SpanTells.j0 : Nat → ByteArray → List (S32) → List (S32) → Int → Int → Bool → Option (Bool)
  | 0, _, _, _, _, _, _ => none
  | k + 1, x0, x1, x2, x3, x4, x27 => if x27 = true then (some true) else ((span_Parse.f k x0).bind fun bt255 => ((letterboxref12_Parse.f k x0).bind fun bt259 => ((letterboxref12_Same.f k bt255.1 bt259.1).bind fun t263 => (if t263 = true then (if bt255.2 = bt259.2 then ((span_Print.f k x1).bind fun t264 => ((letterboxref12_Print.f k x1).bind fun t265 => (if t264.toList = t265.toList then ((span_Has.f x1 x3 x4).bind fun t266 => ((letterboxref12_Has.f k x1 x3 x4).bind fun t267 => (if (t266 == t267) = true then ((span_Same.f k x1 x2).bind fun t268 => ((letterboxref12_Same.f k x1 x2).bind fun t269 => (if (t268 == t269) = true then ((letterboxlaw12_known.f k).bind fun t270 => (some t270)) else (some false)))) else (some false)))) else (some false)))) else (some false)) else (some false)))))
def letterboxlaw12_SpanTells.f (k : Nat) (a0 : ByteArray) (l1 : List (S32)) (l2 : List (S32)) (a3 : Int) (a4 : Int) : Option (Bool) := if (a0.size : Int) > 300 then (letterboxlaw12_SpanTells.j0 k a0 l1 l2 a3 a4 true) else (if (l1.length : Int) > 40 then (letterboxlaw12_SpanTells.j0 k a0 l1 l2 a3 a4 true) else (letterboxlaw12_SpanTells.j0 k a0 l1 l2 a3 a4 (decide ((l2.length : Int) > 40))))
theorem letterboxlaw12_SpanTells.mono_l : ∀ k, (∀ y0 y1 y2 y3 y4 y5, LeO (letterboxlaw12_SpanTells.j0 k y0 y1 y2 y3 y4 y5) (letterboxlaw12_SpanTells.j0 (k + 1) y0 y1 y2 y3 y4 y5))
  | 0 => fun _ _ _ _ _ _ r h => by simp [letterboxlaw12_SpanTells.j0] at h
  | k + 1 => by
    have ih0 := letterboxlaw12_SpanTells.mono_l k
    · intro y0 y1 y2 y3 y4 y5
      unfold letterboxlaw12_SpanTells.j0
      repeat' first
      | (with_reducible exact ih0 _ _ _ _ _ _)
      | (with_reducible exact letterboxlaw12_known.mono _)
      | (with_reducible exact letterboxref12_Has.mono _ _ _ _)
      | (with_reducible exact letterboxref12_Parse.mono _ _)
      | (with_reducible exact letterboxref12_Print.mono _ _)
      | (with_reducible exact letterboxref12_Same.mono _ _ _)
      | (with_reducible exact span_Parse.mono _ _)
      | (with_reducible exact span_Print.mono _ _)
      | (with_reducible exact span_Same.mono _ _ _)
      | (with_reducible exact LeO.refl _)
      | (with_reducible exact LeO.none _)
      | (with_reducible refine LeO.ite ?_ ?_)
      | (with_reducible refine LeO.bind ?_ (fun _ => ?_))
      | exact ih0 _ _ _ _ _ _
      | exact letterboxlaw12_known.mono _
      | exact letterboxref12_Has.mono _ _ _ _
      | exact letterboxref12_Parse.mono _ _
      | exact letterboxref12_Print.mono _ _
      | exact letterboxref12_Same.mono _ _ _
      | exact span_Parse.mono _ _
      | exact span_Print.mono _ _
      | exact span_Same.mono _ _ _
      | exact LeO.none _
      | refine LeO.ite ?_ ?_
      | refine LeO.bind ?_ (fun _ => ?_)
theorem letterboxlaw12_SpanTells.mono : ∀ a0 a1 a2 a3 a4 k, LeO (letterboxlaw12_SpanTells.f k a0 a1 a2 a3 a4) (letterboxlaw12_SpanTells.f (k + 1) a0 a1 a2 a3 a4) := by
  intro a0 a1 a2 a3 a4 k
  have ih0 := letterboxlaw12_SpanTells.mono_l k
  unfold letterboxlaw12_SpanTells.f
  repeat' first
      | (with_reducible exact ih0 _ _ _ _ _ _)
      | (with_reducible exact letterboxlaw12_known.mono _)
      | (with_reducible exact letterboxref12_Has.mono _ _ _ _)
      | (with_reducible exact letterboxref12_Parse.mono _ _)
      | (with_reducible exact letterboxref12_Print.mono _ _)
      | (with_reducible exact letterboxref12_Same.mono _ _ _)
      | (with_reducible exact span_Parse.mono _ _)
      | (with_reducible exact span_Print.mono _ _)
      | (with_reducible exact span_Same.mono _ _ _)
      | (with_reducible exact LeO.refl _)
      | (with_reducible exact LeO.none _)
      | (with_reducible refine LeO.ite ?_ ?_)
      | (with_reducible refine LeO.bind ?_ (fun _ => ?_))
      | exact ih0 _ _ _ _ _ _
      | exact letterboxlaw12_known.mono _
      | exact letterboxref12_Has.mono _ _ _ _
      | exact letterboxref12_Parse.mono _ _
      | exact letterboxref12_Print.mono _ _
      | exact letterboxref12_Same.mono _ _ _
      | exact span_Parse.mono _ _
      | exact span_Print.mono _ _
      | exact span_Same.mono _ _ _
      | exact LeO.none _
      | refine LeO.ite ?_ ?_
      | refine LeO.bind ?_ (fun _ => ?_)
set_option maxHeartbeats 8000000 in
set_option maxRecDepth 100000 in
theorem letterboxlaw12_SpanTells.calls (k : Nat) (a0 : ByteArray) (A1 : Option Addr) (c1 : Nat) (l1 : List (S32)) (A2 : Option Addr) (c2 : Nat) (l2 : List (S32)) (a3 : Int) (a4 : Int) (w : World) (hr1 : Kd.C k32 w A1 l1.length l1) (hc1 : l1.length ≤ c1) (hr2 : Kd.C k32 w A2 l2.length l2) (hc2 : l2.length ≤ c2) (HL0 : Laid w) (h : letterboxlaw12_SpanTells.f k a0 l1 l2 a3 a4 = some true) :
    Calls Tryd.prog 8 #[.string a0, .slice A1 l1.length c1, .slice A2 l2.length c2, .int .i64 a3, .int .i64 a4] w fun e w' => e = .returned (.bool true) ∧ Below w.heap.size w w' := by
  have HLd := Aside0.mk HL0
  clear HL0
  have HR1 := Aside0.mk hr1
  have HC1 := Aside0.mk hc1
  clear hr1 hc1
  have HR2 := Aside0.mk hr2
  have HC2 := Aside0.mk hc2
  clear hr2 hc2
  have HB := Aside0.mk (Below.refl w.heap.size w)
  have H : (if (a0.size : Int) > 300 then (letterboxlaw12_SpanTells.j0 k a0 l1 l2 a3 a4 true) else (if (l1.length : Int) > 40 then (letterboxlaw12_SpanTells.j0 k a0 l1 l2 a3 a4 true) else (letterboxlaw12_SpanTells.j0 k a0 l1 l2 a3 a4 (decide ((l2.length : Int) > 40))))) = some true := h
  clear h
  have HC6 := Aside0.mk H
  clear H
  go_enter Tryd.func8, Tryd.ntmps8
  go_upto_region 1 with (fail)
  go_cut [27] (fun v27 wc => ∃ (kq : Nat) (x27_5 : Bool), v27 = .bool x27_5 ∧ Aside0 (letterboxlaw12_SpanTells.j0 kq a0 l1 l2 a3 a4 x27_5 = some true) ∧ Aside0 (kq ≤ k) ∧ Aside0 (Below w.heap.size w wc))
  case first =>
    have H := HC6.out
    clear HC6
    by_cases c7 : (a0.size : Int) > 300
    · rw [if_pos c7] at H
      have c7b0 : decide (300 < (a0.size : Int)) = true := decide_eq_true c7
      have c7b1 : decide (300 < a0.size) = true := decide_eq_true (by omega)
      clear c7
      (first | rw [c7b0] | (simp only [i64_w, i32_w]; rw [c7b0]) | skip)
      have H' := Aside0.mk H
      clear H
      go_wp2
      go_meet
      case rel => exact ⟨_, (true), (by first | rfl | (simp; done) | (simp [*]; done)), H', ⟨by first | omega | exact Nat.le_refl _⟩, ⟨by repeat (first | (with_reducible first | exact HB.out | apply below_alloc | apply pw_below_drewN | apply below_drew1) | exact HB.out)⟩⟩
    · rw [if_neg c7] at H
      have c7b0 : decide (300 < (a0.size : Int)) = false := decide_eq_false c7
      have c7b1 : decide (300 < a0.size) = false := decide_eq_false (by omega)
      clear c7
      (first | rw [c7b0] | (simp only [i64_w, i32_w]; rw [c7b0]) | skip)
      by_cases c8 : (l1.length : Int) > 40
      · rw [if_pos c8] at H
        have c8b0 : decide (40 < (l1.length : Int)) = true := decide_eq_true c8
        have c8b1 : decide (40 < l1.length) = true := decide_eq_true (by omega)
        clear c8
        have H' := Aside0.mk H
        clear H
        go_wp2
        go_meet
        case rel => exact ⟨_, (true), (by first | rfl | (simp; done) | (simp [*]; done)), H', ⟨by first | omega | exact Nat.le_refl _⟩, ⟨by repeat (first | (with_reducible first | exact HB.out | apply below_alloc | apply pw_below_drewN | apply below_drew1) | exact HB.out)⟩⟩
      · rw [if_neg c8] at H
        have c8b0 : decide (40 < (l1.length : Int)) = false := decide_eq_false c8
        have c8b1 : decide (40 < l1.length) = false := decide_eq_false (by omega)
        clear c8
        have H' := Aside0.mk H
        clear H
        go_wp2
        go_meet
        case rel => exact ⟨_, (decide ((l2.length : Int) > 40)), (by first | rfl | (simp; done) | (simp [*]; done)), H', ⟨by first | omega | exact Nat.le_refl _⟩, ⟨by repeat (first | (with_reducible first | exact HB.out | apply below_alloc | apply pw_below_drewN | apply below_drew1) | exact HB.out)⟩⟩
  case rest =>
    clear HC6
    try clear c1
    try clear c2
    try clear p2
    try clear c7
    try clear c7b0
    try clear c7b1
    try clear c8
    try clear c8b0
    try clear c8b1
    obtain ⟨kq, x27_5, rfl, HA, HJ5, HB⟩ := hcut
    cases kq with
    | zero => exact absurd HA.out (by simp [letterboxlaw12_SpanTells.j0])
    | succ kj5 =>
      have H := HA.out
      clear HA
      simp only [letterboxlaw12_SpanTells.j0] at H
      by_cases c9 : x27_5 = true
      · subst c9
        have H1 : (some true) = some true := rfl
        clear H
        have H := H1
        clear H1
        first | (obtain rfl := Option.some.inj H) | (have Hr_ := Option.some.inj H)
        go_wp2
        go_ret
        exact ⟨by first | rfl | (simp [errW_none, errW_some] <;> rfl) | (simp [*, errW_none, errW_some] <;> rfl), by repeat (first | (with_reducible first | exact HB.out | apply below_alloc | apply pw_below_drewN | apply below_drew1) | exact HB.out)⟩
      · replace c9 := Bool.eq_false_iff.mpr c9
        subst c9
        have H1 : ((span_Parse.f kj5 a0).bind fun bt255 => ((letterboxref12_Parse.f kj5 a0).bind fun bt259 => ((letterboxref12_Same.f kj5 bt255.1 bt259.1).bind fun t263 => (if t263 = true then (if bt255.2 = bt259.2 then ((span_Print.f kj5 l1).bind fun t264 => ((letterboxref12_Print.f kj5 l1).bind fun t265 => (if t264.toList = t265.toList then ((span_Has.f l1 a3 a4).bind fun t266 => ((letterboxref12_Has.f kj5 l1 a3 a4).bind fun t267 => (if (t266 == t267) = true then ((span_Same.f kj5 l1 l2).bind fun t268 => ((letterboxref12_Same.f kj5 l1 l2).bind fun t269 => (if (t268 == t269) = true then ((letterboxlaw12_known.f kj5).bind fun t270 => (some t270)) else (some false)))) else (some false)))) else (some false)))) else (some false)) else (some false))))) = some true := by rw [if_neg (show ¬ (false = true) by decide)] at H; exact H
        clear H
        have H := H1
        clear H1
        replace H := Option.bind_eq_some_iff.mp H
        obtain ⟨⟨t255, t256⟩, A100, H⟩ := H
        replace H : ((letterboxref12_Parse.f kj5 a0).bind fun bt259 => ((letterboxref12_Same.f kj5 t255 bt259.1).bind fun t263 => (if t263 = true then (if t256 = bt259.2 then ((span_Print.f kj5 l1).bind fun t264 => ((letterboxref12_Print.f kj5 l1).bind fun t265 => (if t264.toList = t265.toList then ((span_Has.f l1 a3 a4).bind fun t266 => ((letterboxref12_Has.f kj5 l1 a3 a4).bind fun t267 => (if (t266 == t267) = true then ((span_Same.f kj5 l1 l2).bind fun t268 => ((letterboxref12_Same.f kj5 l1 l2).bind fun t269 => (if (t268 == t269) = true then ((letterboxlaw12_known.f kj5).bind fun t270 => (some t270)) else (some false)))) else (some false)))) else (some false)))) else (some false)) else (some false)))) = some true := H
        have A10 := Aside0.mk A100
        clear A100
        replace H := Option.bind_eq_some_iff.mp H
        obtain ⟨⟨t259, t260⟩, A110, H⟩ := H
        replace H : ((letterboxref12_Same.f kj5 t255 t259).bind fun t263 => (if t263 = true then (if t256 = t260 then ((span_Print.f kj5 l1).bind fun t264 => ((letterboxref12_Print.f kj5 l1).bind fun t265 => (if t264.toList = t265.toList then ((span_Has.f l1 a3 a4).bind fun t266 => ((letterboxref12_Has.f kj5 l1 a3 a4).bind fun t267 => (if (t266 == t267) = true then ((span_Same.f kj5 l1 l2).bind fun t268 => ((letterboxref12_Same.f kj5 l1 l2).bind fun t269 => (if (t268 == t269) = true then ((letterboxlaw12_known.f kj5).bind fun t270 => (some t270)) else (some false)))) else (some false)))) else (some false)))) else (some false)) else (some false))) = some true := H
        have A11 := Aside0.mk A110
        clear A110
        replace H := Option.bind_eq_some_iff.mp H
        obtain ⟨t263, A120, H⟩ := H
        replace H : (if t263 = true then (if t256 = t260 then ((span_Print.f kj5 l1).bind fun t264 => ((letterboxref12_Print.f kj5 l1).bind fun t265 => (if t264.toList = t265.toList then ((span_Has.f l1 a3 a4).bind fun t266 => ((letterboxref12_Has.f kj5 l1 a3 a4).bind fun t267 => (if (t266 == t267) = true then ((span_Same.f kj5 l1 l2).bind fun t268 => ((letterboxref12_Same.f kj5 l1 l2).bind fun t269 => (if (t268 == t269) = true then ((letterboxlaw12_known.f kj5).bind fun t270 => (some t270)) else (some false)))) else (some false)))) else (some false)))) else (some false)) else (some false)) = some true := H
        have A12 := Aside0.mk A120
        clear A120
        by_cases c13 : t263 = true
        · subst c13
          have H1 : (if t256 = t260 then ((span_Print.f kj5 l1).bind fun t264 => ((letterboxref12_Print.f kj5 l1).bind fun t265 => (if t264.toList = t265.toList then ((span_Has.f l1 a3 a4).bind fun t266 => ((letterboxref12_Has.f kj5 l1 a3 a4).bind fun t267 => (if (t266 == t267) = true then ((span_Same.f kj5 l1 l2).bind fun t268 => ((letterboxref12_Same.f kj5 l1 l2).bind fun t269 => (if (t268 == t269) = true then ((letterboxlaw12_known.f kj5).bind fun t270 => (some t270)) else (some false)))) else (some false)))) else (some false)))) else (some false)) = some true := by rw [if_pos rfl] at H; exact H
          clear H
          have H := H1
          clear H1
          by_cases c14 : t256 = t260
          · rw [if_pos c14] at H
            have c14b0 : (t256 == t260) = true := beq_iff_eq.mpr c14
            have c14b1 : (t256 != t260) = false := bne_eq_false_iff_eq.mpr c14
            clear c14
            replace H := Option.bind_eq_some_iff.mp H
            obtain ⟨t264, A150, H⟩ := H
            replace H : ((letterboxref12_Print.f kj5 l1).bind fun t265 => (if t264.toList = t265.toList then ((span_Has.f l1 a3 a4).bind fun t266 => ((letterboxref12_Has.f kj5 l1 a3 a4).bind fun t267 => (if (t266 == t267) = true then ((span_Same.f kj5 l1 l2).bind fun t268 => ((letterboxref12_Same.f kj5 l1 l2).bind fun t269 => (if (t268 == t269) = true then ((letterboxlaw12_known.f kj5).bind fun t270 => (some t270)) else (some false)))) else (some false)))) else (some false))) = some true := H
            have A15 := Aside0.mk A150
            clear A150
            replace H := Option.bind_eq_some_iff.mp H
            obtain ⟨t265, A160, H⟩ := H
            replace H : (if t264.toList = t265.toList then ((span_Has.f l1 a3 a4).bind fun t266 => ((letterboxref12_Has.f kj5 l1 a3 a4).bind fun t267 => (if (t266 == t267) = true then ((span_Same.f kj5 l1 l2).bind fun t268 => ((letterboxref12_Same.f kj5 l1 l2).bind fun t269 => (if (t268 == t269) = true then ((letterboxlaw12_known.f kj5).bind fun t270 => (some t270)) else (some false)))) else (some false)))) else (some false)) = some true := H
            have A16 := Aside0.mk A160
            clear A160
            by_cases c17 : t264.toList = t265.toList
            · rw [if_pos c17] at H
              have c17b0 : (t264.toList == t265.toList) = true := beq_iff_eq.mpr c17
              have c17b1 : (t264.toList != t265.toList) = false := bne_eq_false_iff_eq.mpr c17
              clear c17
              replace H := Option.bind_eq_some_iff.mp H
              obtain ⟨t266, A180, H⟩ := H
              replace H : ((letterboxref12_Has.f kj5 l1 a3 a4).bind fun t267 => (if (t266 == t267) = true then ((span_Same.f kj5 l1 l2).bind fun t268 => ((letterboxref12_Same.f kj5 l1 l2).bind fun t269 => (if (t268 == t269) = true then ((letterboxlaw12_known.f kj5).bind fun t270 => (some t270)) else (some false)))) else (some false))) = some true := H
              have A18 := Aside0.mk A180
              clear A180
              replace H := Option.bind_eq_some_iff.mp H
              obtain ⟨t267, A190, H⟩ := H
              replace H : (if (t266 == t267) = true then ((span_Same.f kj5 l1 l2).bind fun t268 => ((letterboxref12_Same.f kj5 l1 l2).bind fun t269 => (if (t268 == t269) = true then ((letterboxlaw12_known.f kj5).bind fun t270 => (some t270)) else (some false)))) else (some false)) = some true := H
              have A19 := Aside0.mk A190
              clear A190
              by_cases c20 : (t266 == t267) = true
              · rw [if_pos c20] at H
                have c20b0 : (t266 == t267) = true := c20
                (try (have c20b1 : decide (t266 = t267) = true := by simpa using c20))
                (try (have c20b2 : (t266 == t267) = true := by simpa using c20))
                clear c20
                replace H := Option.bind_eq_some_iff.mp H
                obtain ⟨t268, A210, H⟩ := H
                replace H : ((letterboxref12_Same.f kj5 l1 l2).bind fun t269 => (if (t268 == t269) = true then ((letterboxlaw12_known.f kj5).bind fun t270 => (some t270)) else (some false))) = some true := H
                have A21 := Aside0.mk A210
                clear A210
                replace H := Option.bind_eq_some_iff.mp H
                obtain ⟨t269, A220, H⟩ := H
                replace H : (if (t268 == t269) = true then ((letterboxlaw12_known.f kj5).bind fun t270 => (some t270)) else (some false)) = some true := H
                have A22 := Aside0.mk A220
                clear A220
                by_cases c23 : (t268 == t269) = true
                · rw [if_pos c23] at H
                  have c23b0 : (t268 == t269) = true := c23
                  (try (have c23b1 : decide (t268 = t269) = true := by simpa using c23))
                  (try (have c23b2 : (t268 == t269) = true := by simpa using c23))
                  clear c23
                  replace H := Option.bind_eq_some_iff.mp H
                  obtain ⟨t270, A240, H⟩ := H
                  replace H : (some t270) = some true := H
                  have A24 := Aside0.mk A240
                  clear A240
                  have Hr_ := Option.some.inj H
                  go_wp2_with (first | ((with_reducible refine gate_callee (f := 10) rfl ?_); refine goesL_ (some 30) rfl rfl Tryd.func10 (by kernel_rfl) rfl #[.string a0] rfl (by (try simp only [List.map_toArray, List.map_cons, List.map_nil]); first | done | rfl | (simp only [List.length_drop, List.length_take]; rfl)) ?_; (with_reducible refine (span_Parse.calls kj5 a0 t255 t256 _ A10.out).mono ?_); rintro e w25 ⟨v257, rfl, ho0, hb⟩; refine ⟨_, rfl, ?_⟩; have n0_ := Aside0.mk (Kd.R_lower ho0 (below_size (by repeat (first | (with_reducible first | exact HB.out | apply below_alloc | apply pw_below_drewN | apply below_drew1) | exact HB.out)))); have n1_ := Aside0.mk (below_step (by repeat (first | (with_reducible first | exact HB.out | apply below_alloc | apply pw_below_drewN | apply below_drew1) | exact HB.out)) hb); clear HB; have HO258 := n0_; have HB := n1_; clear n0_ n1_; (try clear hb); (try clear hb2); (try clear hk); (try clear hi); (try clear ho0)) | ((with_reducible refine gate_callee (f := 16) rfl ?_); refine goesL_ (some 35) rfl rfl Tryd.func16 (by kernel_rfl) rfl #[.string a0] rfl (by (try simp only [List.map_toArray, List.map_cons, List.map_nil]); first | done | rfl | (simp only [List.length_drop, List.length_take]; rfl)) ?_; (with_reducible refine (letterboxref12_Parse.calls kj5 a0 t259 t260 _ A11.out).mono ?_); rintro e w26 ⟨v261, rfl, ho0, hb⟩; refine ⟨_, rfl, ?_⟩; have n0_ := Aside0.mk (Kd.R_elder' (by (with_reducible repeat (first | apply Kd.R_alloc | apply Kd.R_drewN | apply Kd.R_drew)); exact HO258.out) (Kd.R_base ho0) hb); have n1_ := Aside0.mk (Kd.R_lower (Kd.R_new' ho0 (Kd.R_lt (by (with_reducible repeat (first | apply Kd.R_alloc | apply Kd.R_drewN | apply Kd.R_drew)); exact HO258.out))) (below_size (by repeat (first | (with_reducible first | exact HB.out | apply below_alloc | apply pw_below_drewN | apply below_drew1) | exact HB.out)))); have n2_ := Aside0.mk (below_step (by repeat (first | (with_reducible first | exact HB.out | apply below_alloc | apply pw_below_drewN | apply below_drew1) | exact HB.out)) hb); clear HO258; clear HB; have HO258 := n0_; have HO262 := n1_; have HB := n2_; clear n0_ n1_ n2_; (try clear hb); (try clear hb2); (try clear hk); (try clear hi); (try clear ho0); obtain ⟨Ao27, co27, eo27⟩ := Kd.R_slice HO258.out; subst eo27; obtain ⟨Ao28, co28, eo28⟩ := Kd.R_slice HO262.out; subst eo28) | ((with_reducible refine gate_callee (f := 12) rfl ?_); refine goesL_ (some 40) rfl rfl Tryd.func12 (by kernel_rfl) rfl #[.slice Ao27 t255.length co27, .slice Ao28 t259.length co28] rfl (by (try simp only [List.map_toArray, List.map_cons, List.map_nil]); first | done | rfl | (simp only [List.length_drop, List.length_take]; rfl)) ?_; (with_reducible refine (letterboxref12_Same.calls kj5 _ _ t255 _ _ t259 true _ ?side1 ?side2 ?side3 ?side4 A12.out).mono ?_); (case side1 => repeat (first | exact (Kd.R_reads' HO258.out).2.2 | (with_reducible refine Kd.C_alloc ?_ _) | (with_reducible refine Kd.C_drewN ?_ _) | (with_reducible refine Kd.C_drew ?_))); (case side2 => exact (Kd.R_reads' HO258.out).2.1); (case side3 => repeat (first | exact (Kd.R_reads' HO262.out).2.2 | (with_reducible refine Kd.C_alloc ?_ _) | (with_reducible refine Kd.C_drewN ?_ _) | (with_reducible refine Kd.C_drew ?_))); (case side4 => exact (Kd.R_reads' HO262.out).2.1); rintro e w' ⟨rfl, ⟨nd, rfl⟩⟩; refine ⟨_, rfl, ?_⟩) | (go_at_call 11; (with_reducible refine (span_Print.calls kj5 _ _ l1 t264 _ ?side1 ?side2 (Laid.below HLd.out (by repeat (first | (with_reducible first | exact HB.out | apply below_alloc | apply pw_below_drewN | apply below_drew1) | exact HB.out))) A15.out).mono ?_); (case side1 => repeat (first | exact (Kd.C_below HR1.out (by repeat (first | (with_reducible first | exact HB.out | apply below_alloc | apply pw_below_drewN | apply below_drew1) | exact HB.out))) | (with_reducible refine Kd.C_alloc ?_ _) | (with_reducible refine Kd.C_drewN ?_ _) | (with_reducible refine Kd.C_drew ?_))); (case side2 => exact HC1.out); rintro e w29 ⟨rfl, hb⟩; have n0_ := Aside0.mk (Kd.R_below (by (with_reducible repeat (first | apply Kd.R_alloc | apply Kd.R_drewN | apply Kd.R_drew)); exact HO258.out) hb); have n1_ := Aside0.mk (Kd.R_below (by (with_reducible repeat (first | apply Kd.R_alloc | apply Kd.R_drewN | apply Kd.R_drew)); exact HO262.out) hb); have n2_ := Aside0.mk (below_step (by repeat (first | (with_reducible first | exact HB.out | apply below_alloc | apply pw_below_drewN | apply below_drew1) | exact HB.out)) hb); clear HO258; clear HO262; clear HB; have HO258 := n0_; have HO262 := n1_; have HB := n2_; clear n0_ n1_ n2_; (try clear hb); (try clear hb2); (try clear hk); (try clear hi)) | (go_at_call 17; (with_reducible refine (letterboxref12_Print.calls kj5 _ _ l1 t265 _ ?side1 ?side2 A16.out).mono ?_); (case side1 => repeat (first | exact (Kd.C_below HR1.out HB.out) | (with_reducible refine Kd.C_alloc ?_ _) | (with_reducible refine Kd.C_drewN ?_ _) | (with_reducible refine Kd.C_drew ?_))); (case side2 => exact HC1.out); rintro e w30 ⟨rfl, hb⟩; have n0_ := Aside0.mk (Kd.R_below (by (with_reducible repeat (first | apply Kd.R_alloc | apply Kd.R_drewN | apply Kd.R_drew)); exact HO258.out) hb); have n1_ := Aside0.mk (Kd.R_below (by (with_reducible repeat (first | apply Kd.R_alloc | apply Kd.R_drewN | apply Kd.R_drew)); exact HO262.out) hb); have n2_ := Aside0.mk (below_step (by repeat (first | (with_reducible first | exact HB.out | apply below_alloc | apply pw_below_drewN | apply below_drew1) | exact HB.out)) hb); clear HO258; clear HO262; clear HB; have HO258 := n0_; have HO262 := n1_; have HB := n2_; clear n0_ n1_ n2_; (try clear hb); (try clear hb2); (try clear hk); (try clear hi)) | (go_at_call 14; (with_reducible refine (span_Has.calls _ _ l1 a3 a4 t266 _ ?side1 ?side2 A18.out).mono ?_); (case side1 => repeat (first | exact (Kd.C_below HR1.out HB.out) | (with_reducible refine Kd.C_alloc ?_ _) | (with_reducible refine Kd.C_drewN ?_ _) | (with_reducible refine Kd.C_drew ?_))); (case side2 => exact HC1.out); rintro e w31 ⟨rfl, hb⟩; have n0_ := Aside0.mk (Kd.R_below (by (with_reducible repeat (first | apply Kd.R_alloc | apply Kd.R_drewN | apply Kd.R_drew)); exact HO258.out) hb); have n1_ := Aside0.mk (Kd.R_below (by (with_reducible repeat (first | apply Kd.R_alloc | apply Kd.R_drewN | apply Kd.R_drew)); exact HO262.out) hb); have n2_ := Aside0.mk (below_step (by repeat (first | (with_reducible first | exact HB.out | apply below_alloc | apply pw_below_drewN | apply below_drew1) | exact HB.out)) hb); clear HO258; clear HO262; clear HB; have HO258 := n0_; have HO262 := n1_; have HB := n2_; clear n0_ n1_ n2_; (try clear hb); (try clear hb2); (try clear hk); (try clear hi)) | (go_at_call 18; (with_reducible refine (letterboxref12_Has.calls kj5 _ _ l1 a3 a4 t267 _ ?side1 ?side2 A19.out).mono ?_); (case side1 => repeat (first | exact (Kd.C_below HR1.out HB.out) | (with_reducible refine Kd.C_alloc ?_ _) | (with_reducible refine Kd.C_drewN ?_ _) | (with_reducible refine Kd.C_drew ?_))); (case side2 => exact HC1.out); rintro e w32 ⟨rfl, hb⟩; have n0_ := Aside0.mk (Kd.R_below (by (with_reducible repeat (first | apply Kd.R_alloc | apply Kd.R_drewN | apply Kd.R_drew)); exact HO258.out) hb); have n1_ := Aside0.mk (Kd.R_below (by (with_reducible repeat (first | apply Kd.R_alloc | apply Kd.R_drewN | apply Kd.R_drew)); exact HO262.out) hb); have n2_ := Aside0.mk (below_step (by repeat (first | (with_reducible first | exact HB.out | apply below_alloc | apply pw_below_drewN | apply below_drew1) | exact HB.out)) hb); clear HO258; clear HO262; clear HB; have HO258 := n0_; have HO262 := n1_; have HB := n2_; clear n0_ n1_ n2_; (try clear hb); (try clear hb2); (try clear hk); (try clear hi)) | (go_at_call 15; (with_reducible refine (span_Same.calls kj5 _ _ l1 _ _ l2 t268 _ ?side1 ?side2 ?side3 ?side4 A21.out).mono ?_); (case side1 => repeat (first | exact (Kd.C_below HR1.out HB.out) | (with_reducible refine Kd.C_alloc ?_ _) | (with_reducible refine Kd.C_drewN ?_ _) | (with_reducible refine Kd.C_drew ?_))); (case side2 => exact HC1.out); (case side3 => repeat (first | exact (Kd.C_below HR2.out HB.out) | (with_reducible refine Kd.C_alloc ?_ _) | (with_reducible refine Kd.C_drewN ?_ _) | (with_reducible refine Kd.C_drew ?_))); (case side4 => exact HC2.out); rintro e w' ⟨rfl, ⟨nd, rfl⟩⟩) | (go_at_call 12; (with_reducible refine (letterboxref12_Same.calls kj5 _ _ l1 _ _ l2 t269 _ ?side1 ?side2 ?side3 ?side4 A22.out).mono ?_); (case side1 => repeat (first | exact (Kd.C_below HR1.out (by repeat (first | (with_reducible first | exact HB.out | apply below_alloc | apply pw_below_drewN | apply below_drew1) | exact HB.out))) | (with_reducible refine Kd.C_alloc ?_ _) | (with_reducible refine Kd.C_drewN ?_ _) | (with_reducible refine Kd.C_drew ?_))); (case side2 => exact HC1.out); (case side3 => repeat (first | exact (Kd.C_below HR2.out (by repeat (first | (with_reducible first | exact HB.out | apply below_alloc | apply pw_below_drewN | apply below_drew1) | exact HB.out))) | (with_reducible refine Kd.C_alloc ?_ _) | (with_reducible refine Kd.C_drewN ?_ _) | (with_reducible refine Kd.C_drew ?_))); (case side4 => exact HC2.out); rintro e w' ⟨rfl, ⟨nd, rfl⟩⟩) | (go_at_call 13; (with_reducible refine (letterboxlaw12_known.calls kj5  t270 _ (Laid.below HLd.out (by repeat (first | (with_reducible first | exact HB.out | apply below_alloc | apply pw_below_drewN | apply below_drew1) | exact HB.out))) A24.out).mono ?_); rintro e w33 ⟨rfl, hb⟩; have n0_ := Aside0.mk (Kd.R_below (by (with_reducible repeat (first | apply Kd.R_alloc | apply Kd.R_drewN | apply Kd.R_drew)); exact HO258.out) hb); have n1_ := Aside0.mk (Kd.R_below (by (with_reducible repeat (first | apply Kd.R_alloc | apply Kd.R_drewN | apply Kd.R_drew)); exact HO262.out) hb); have n2_ := Aside0.mk (below_step (by repeat (first | (with_reducible first | exact HB.out | apply below_alloc | apply pw_below_drewN | apply below_drew1) | exact HB.out)) hb); clear HO258; clear HO262; clear HB; have HO258 := n0_; have HO262 := n1_; have HB := n2_; clear n0_ n1_ n2_; (try clear hb); (try clear hb2); (try clear hk); (try clear hi)))
                  go_ret
                  exact ⟨by first | (rw [Hr_]; done) | rfl | (simp [errW_none, errW_some] <;> rfl) | (simp [*, errW_none, errW_some] <;> rfl), by repeat (first | (with_reducible first | exact HB.out | apply below_alloc | apply pw_below_drewN | apply below_drew1) | exact HB.out)⟩
                · rw [if_neg c23] at H
                  have c23b0 : (t268 == t269) = false := by simpa using c23
                  (try (have c23b1 : decide (t268 = t269) = false := by simpa using c23))
                  (try (have c23b2 : (t268 == t269) = false := by simpa using c23))
                  (try (have c23b3 : ¬ (t268 = t269) := by simpa using c23))
                  clear c23
                  exact absurd H (by repeat' first | exact NT.none | exact NT.false | refine NT.ite ?_ ?_ | refine NT.bind (fun _ => ?_))
              · rw [if_neg c20] at H
                have c20b0 : (t266 == t267) = false := by simpa using c20
                (try (have c20b1 : decide (t266 = t267) = false := by simpa using c20))
                (try (have c20b2 : (t266 == t267) = false := by simpa using c20))
                (try (have c20b3 : ¬ (t266 = t267) := by simpa using c20))
                clear c20
                exact absurd H (by repeat' first | exact NT.none | exact NT.false | refine NT.ite ?_ ?_ | refine NT.bind (fun _ => ?_))
            · rw [if_neg c17] at H
              have c17b0 : (t264.toList == t265.toList) = false := beq_eq_false_iff_ne.mpr c17
              have c17b1 : (t264.toList != t265.toList) = true := bne_iff_ne.mpr c17
              exact absurd H (by repeat' first | exact NT.none | exact NT.false | refine NT.ite ?_ ?_ | refine NT.bind (fun _ => ?_))
          · rw [if_neg c14] at H
            have c14b0 : (t256 == t260) = false := beq_eq_false_iff_ne.mpr c14
            have c14b1 : (t256 != t260) = true := bne_iff_ne.mpr c14
            exact absurd H (by repeat' first | exact NT.none | exact NT.false | refine NT.ite ?_ ?_ | refine NT.bind (fun _ => ?_))
        · replace c13 := Bool.eq_false_iff.mpr c13
          subst c13
          have H1 : (some false) = some true := by rw [if_neg (show ¬ (false = true) by decide)] at H; exact H
          clear H
          have H := H1
          clear H1
          exact absurd H (by repeat' first | exact NT.none | exact NT.false | refine NT.ite ?_ ?_ | refine NT.bind (fun _ => ?_))

end Go.Proofs.YtdgbllaenkcmbaaDoor.P
