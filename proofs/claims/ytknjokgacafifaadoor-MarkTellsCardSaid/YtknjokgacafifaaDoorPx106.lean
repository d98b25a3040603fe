/- The walks of the seat's functions, one contract a function: printed by a program of this session's (wip/gen). Not trusted: Lean checks it. -/
import Derived.Test.YtknjokgacafifaaDoorPx1
import Derived.Test.YtknjokgacafifaaDoorPx2
import Derived.Test.YtknjokgacafifaaDoorPx3
namespace Go.Proofs.YtknjokgacafifaaDoor.P
open Go.RowKit Go.Proofs.YtknjokgacafifaaDoorW.PrintWords Go.Proofs.YtknjokgacafifaaDoorW.PrintLast Go.Proofs.YtknjokgacafifaaDoorW.PrintMore
attribute [local go_sem] max2_int min2_int max_two min_two max_three min_three max_four min_four   -- for this text's walks alone
set_option linter.unusedVariables false
set_option linter.unusedSimpArgs false

/-! ### letterboxlaw11_MarkTells: function 6 -/
def letterboxlaw11_MarkTells.l0 : Nat → List ByteArray → Int → Int → Int → Int → Int → Option (Bool)
  | 0, _, _, _, _, _, _ => none
  | k + 1, x0, x1, x2, x3, x9, x10 => if x10 < (x0.length : Int) then (if 0 ≤ x10 then (letterboxlaw11_MarkTells.l0 k x0 x1 x2 x3 (wrap64 ((wrap64 (x9 + 1)) + ((rdOf ByteArray.empty x0 x10).size : Int))) (wrap64 (x10 + 1))) else (none)) else (if x9 > 500 then (some true) else ((mark_Parse.f k x0).bind fun bt174 => ((letterboxref11_Parse.f k x0).bind fun bt176 => (if bt174.1 = bt176.1 then (if bt174.2 = bt176.2 then ((mark_Print.f k x1).bind fun t178 => ((letterboxref11_Print.f k x1).bind fun t179 => (if t178.toList = t179.toList then ((mark_Apply.f x2 x3 x1).bind fun t180 => ((letterboxref11_Apply.f x2 x3 x1).bind fun t181 => (if t180 = t181 then ((letterboxlaw11_known.f k).bind fun t182 => (some t182)) else (some false)))) else (some false)))) else (some false)) else (some false)))))
def letterboxlaw11_MarkTells.f (k : Nat) (l0 : List ByteArray) (a1 : Int) (a2 : Int) (a3 : Int) : Option (Bool) := letterboxlaw11_MarkTells.l0 k l0 a1 a2 a3 0 0
theorem letterboxlaw11_MarkTells.mono_l : ∀ k, (∀ y0 y1 y2 y3 y4 y5, LeO (letterboxlaw11_MarkTells.l0 k y0 y1 y2 y3 y4 y5) (letterboxlaw11_MarkTells.l0 (k + 1) y0 y1 y2 y3 y4 y5))
  | 0 => fun _ _ _ _ _ _ r h => by simp [letterboxlaw11_MarkTells.l0] at h
  | k + 1 => by
    have ih0 := letterboxlaw11_MarkTells.mono_l k
    · intro y0 y1 y2 y3 y4 y5
      unfold letterboxlaw11_MarkTells.l0
      repeat' first
      | (with_reducible exact ih0 _ _ _ _ _ _)
      | (with_reducible exact letterboxlaw11_known.mono _)
      | (with_reducible exact letterboxref11_Parse.mono _ _)
      | (with_reducible exact letterboxref11_Print.mono _ _)
      | (with_reducible exact mark_Parse.mono _ _)
      | (with_reducible exact mark_Print.mono _ _)
      | (with_reducible exact LeO.refl _)
      | (with_reducible exact LeO.none _)
      | (with_reducible refine LeO.ite ?_ ?_)
      | (with_reducible refine LeO.bind ?_ (fun _ => ?_))
      | exact ih0 _ _ _ _ _ _
      | exact letterboxlaw11_known.mono _
      | exact letterboxref11_Parse.mono _ _
      | exact letterboxref11_Print.mono _ _
      | exact mark_Parse.mono _ _
      | exact mark_Print.mono _ _
      | exact LeO.none _
      | refine LeO.ite ?_ ?_
      | refine LeO.bind ?_ (fun _ => ?_)
theorem letterboxlaw11_MarkTells.mono : ∀ a0 a1 a2 a3 k, LeO (letterboxlaw11_MarkTells.f k a0 a1 a2 a3) (letterboxlaw11_MarkTells.f (k + 1) a0 a1 a2 a3) := by
  intro a0 a1 a2 a3 k
  have ih0 := letterboxlaw11_MarkTells.mono_l k
  unfold letterboxlaw11_MarkTells.f
  repeat' first
      | (with_reducible exact ih0 _ _ _ _ _ _)
      | (with_reducible exact letterboxlaw11_known.mono _)
      | (with_reducible exact letterboxref11_Parse.mono _ _)
      | (with_reducible exact letterboxref11_Print.mono _ _)
      | (with_reducible exact mark_Parse.mono _ _)
      | (with_reducible exact mark_Print.mono _ _)
      | (with_reducible exact LeO.refl _)
      | (with_reducible exact LeO.none _)
      | (with_reducible refine LeO.ite ?_ ?_)
      | (with_reducible refine LeO.bind ?_ (fun _ => ?_))
      | exact ih0 _ _ _ _ _ _
      | exact letterboxlaw11_known.mono _
      | exact letterboxref11_Parse.mono _ _
      | exact letterboxref11_Print.mono _ _
      | exact mark_Parse.mono _ _
      | exact mark_Print.mono _ _
      | exact LeO.none _
      | refine LeO.ite ?_ ?_
      | refine LeO.bind ?_ (fun _ => ?_)
set_option maxHeartbeats 8000000 in
set_option maxRecDepth 100000 in
theorem letterboxlaw11_MarkTells.calls (k : Nat) (A0 : Option Addr) (c0 : Nat) (l0 : List ByteArray) (a1 : Int) (a2 : Int) (a3 : Int) (w : World) (hr0 : Kd.C Kd.string w A0 l0.length l0) (hc0 : l0.length ≤ c0) (HL0 : Laid w) (h : letterboxlaw11_MarkTells.f k l0 a1 a2 a3 = some true) :
    Calls Tryd.prog 6 #[.slice A0 l0.length c0, .int .i64 a1, .int .i64 a2, .int .i64 a3] w fun e w' => e = .returned (.bool true) ∧ Below w.heap.size w w' := by
  have HLd := Aside0.mk HL0
  clear HL0
  have HR0 := Aside0.mk hr0
  have HC0 := Aside0.mk hc0
  clear hr0 hc0
  have HB := Aside0.mk (Below.refl w.heap.size w)
  have H : (letterboxlaw11_MarkTells.l0 k l0 a1 a2 a3 0 0) = some true := h
  clear h
  have H' := Aside0.mk H
  clear H
  go_enter Tryd.func6, Tryd.ntmps6
  go_wp2
  go_loopg [9, 10] k (fun kq v9 v10 w' => ∃ (x9_1 : Int) (x10_1 : Int), v9 = .int .i64 x9_1 ∧ v10 = .int .i64 x10_1 ∧ Aside0 (letterboxlaw11_MarkTells.l0 kq l0 a1 a2 a3 x9_1 x10_1 = some true) ∧ Aside0 (kq ≤ k) ∧ Aside0 (Below w.heap.size w w'))
  case atStart => exact ⟨(0), (0), (by first | rfl | (simp; done) | (simp [*]; done)), (by first | rfl | (simp; done) | (simp [*]; done)), H', ⟨Nat.le_refl _⟩, ⟨by repeat (first | (with_reducible first | exact HB.out | apply below_alloc | apply pw_below_drewN | apply below_drew1) | exact HB.out)⟩⟩
  case round =>
    clear H'
    try clear p2
    obtain ⟨x9_1, x10_1, rfl, rfl, HA, HK1, HB⟩ := hrel
    cases gk with
    | zero => exact absurd HA.out (by simp [letterboxlaw11_MarkTells.l0])
    | succ k1 =>
      have H := HA.out
      clear HA
      simp only [letterboxlaw11_MarkTells.l0] at H
      by_cases c5 : x10_1 < (l0.length : Int)
      · rw [if_pos c5] at H
        have c5b0 : decide (x10_1 < (l0.length : Int)) = true := decide_eq_true c5
        clear c5
        by_cases c6 : 0 ≤ x10_1
        · rw [if_pos c6] at H
          have c6b0 : decide (0 ≤ x10_1) = true := decide_eq_true c6
          clear c6
          have H' := Aside0.mk H
          clear H
          have p173 : 0 ≤ (x10_1 : Int) := of_decide_eq_true (by first | (with_reducible assumption) | assumption)
          have q173 : x10_1 < (l0.length : Int) := of_decide_eq_true (by first | (with_reducible assumption) | assumption)
          obtain ⟨ad173, e173, hx173_0⟩ := Kd.at_string HR0.out x10_1 p173 q173
          cases e173
          replace hx173_0 := (HB.out.cell (World.block_lt_of_cell? w _ hx173_0)).trans hx173_0
          replace p173 := eq_true p173
          replace q173 := eq_true q173
          go_wp2
          go_roundg k1
          case measure => have := HK1.out; omega
          case rel => exact ⟨(wrap64 ((wrap64 (x9_1 + 1)) + ((rdOf ByteArray.empty l0 x10_1).size : Int))), (wrap64 (x10_1 + 1)), (by first | rfl | (simp; done) | (simp [*]; done)), (by first | rfl | (simp; done) | (simp [*]; done)), H', ⟨by have := HK1.out; omega⟩, ⟨by repeat (first | (with_reducible first | exact HB.out | apply below_alloc | apply pw_below_drewN | apply below_drew1) | exact HB.out)⟩⟩
        · rw [if_neg c6] at H
          exact absurd H (by simp)
      · rw [if_neg c5] at H
        have c5b0 : decide (x10_1 < (l0.length : Int)) = false := decide_eq_false c5
        clear c5
        by_cases c7 : x9_1 > 500
        · rw [if_pos c7] at H
          have c7b0 : decide (500 < x9_1) = true := decide_eq_true c7
          clear c7
          first | (obtain rfl := Option.some.inj H) | (have Hr_ := Option.some.inj H)
          go_wp2
          go_ret
          exact ⟨by first | rfl | (simp [errW_none, errW_some] <;> rfl) | (simp [*, errW_none, errW_some] <;> rfl), by repeat (first | (with_reducible first | exact HB.out | apply below_alloc | apply pw_below_drewN | apply below_drew1) | exact HB.out)⟩
        · rw [if_neg c7] at H
          have c7b0 : decide (500 < x9_1) = false := decide_eq_false c7
          clear c7
          replace H := Option.bind_eq_some_iff.mp H
          obtain ⟨⟨t174, t175⟩, A80, H⟩ := H
          replace H : ((letterboxref11_Parse.f k1 l0).bind fun bt176 => (if t174 = bt176.1 then (if t175 = bt176.2 then ((mark_Print.f k1 a1).bind fun t178 => ((letterboxref11_Print.f k1 a1).bind fun t179 => (if t178.toList = t179.toList then ((mark_Apply.f a2 a3 a1).bind fun t180 => ((letterboxref11_Apply.f a2 a3 a1).bind fun t181 => (if t180 = t181 then ((letterboxlaw11_known.f k1).bind fun t182 => (some t182)) else (some false)))) else (some false)))) else (some false)) else (some false))) = some true := H
          have A8 := Aside0.mk A80
          clear A80
          replace H := Option.bind_eq_some_iff.mp H
          obtain ⟨⟨t176, t177⟩, A90, H⟩ := H
          replace H : (if t174 = t176 then (if t175 = t177 then ((mark_Print.f k1 a1).bind fun t178 => ((letterboxref11_Print.f k1 a1).bind fun t179 => (if t178.toList = t179.toList then ((mark_Apply.f a2 a3 a1).bind fun t180 => ((letterboxref11_Apply.f a2 a3 a1).bind fun t181 => (if t180 = t181 then ((letterboxlaw11_known.f k1).bind fun t182 => (some t182)) else (some false)))) else (some false)))) else (some false)) else (some false)) = some true := H
          have A9 := Aside0.mk A90
          clear A90
          by_cases c10 : t174 = t176
          · rw [if_pos c10] at H
            have c10b0 : (t174 == t176) = true := beq_iff_eq.mpr c10
            have c10b1 : (t174 != t176) = false := bne_eq_false_iff_eq.mpr c10
            clear c10
            by_cases c11 : t175 = t177
            · rw [if_pos c11] at H
              have c11b0 : (t175 == t177) = true := beq_iff_eq.mpr c11
              have c11b1 : (t175 != t177) = false := bne_eq_false_iff_eq.mpr c11
              clear c11
              replace H := Option.bind_eq_some_iff.mp H
              obtain ⟨t178, A120, H⟩ := H
              replace H : ((letterboxref11_Print.f k1 a1).bind fun t179 => (if t178.toList = t179.toList then ((mark_Apply.f a2 a3 a1).bind fun t180 => ((letterboxref11_Apply.f a2 a3 a1).bind fun t181 => (if t180 = t181 then ((letterboxlaw11_known.f k1).bind fun t182 => (some t182)) else (some false)))) else (some false))) = some true := H
              have A12 := Aside0.mk A120
              clear A120
              replace H := Option.bind_eq_some_iff.mp H
              obtain ⟨t179, A130, H⟩ := H
              replace H : (if t178.toList = t179.toList then ((mark_Apply.f a2 a3 a1).bind fun t180 => ((letterboxref11_Apply.f a2 a3 a1).bind fun t181 => (if t180 = t181 then ((letterboxlaw11_known.f k1).bind fun t182 => (some t182)) else (some false)))) else (some false)) = some true := H
              have A13 := Aside0.mk A130
              clear A130
              by_cases c14 : t178.toList = t179.toList
              · rw [if_pos c14] at H
                have c14b0 : (t178.toList == t179.toList) = true := beq_iff_eq.mpr c14
                have c14b1 : (t178.toList != t179.toList) = false := bne_eq_false_iff_eq.mpr c14
                clear c14
                replace H := Option.bind_eq_some_iff.mp H
                obtain ⟨t180, A150, H⟩ := H
                replace H : ((letterboxref11_Apply.f a2 a3 a1).bind fun t181 => (if t180 = t181 then ((letterboxlaw11_known.f k1).bind fun t182 => (some t182)) else (some false))) = some true := H
                have A15 := Aside0.mk A150
                clear A150
                replace H := Option.bind_eq_some_iff.mp H
                obtain ⟨t181, A160, H⟩ := H
                replace H : (if t180 = t181 then ((letterboxlaw11_known.f k1).bind fun t182 => (some t182)) else (some false)) = some true := H
                have A16 := Aside0.mk A160
                clear A160
                by_cases c17 : t180 = t181
                · rw [if_pos c17] at H
                  have c17b0 : (t180 == t181) = true := beq_iff_eq.mpr c17
                  have c17b1 : (t180 != t181) = false := bne_eq_false_iff_eq.mpr c17
                  clear c17
                  replace H := Option.bind_eq_some_iff.mp H
                  obtain ⟨t182, A180, H⟩ := H
                  replace H : (some t182) = some true := H
                  have A18 := Aside0.mk A180
                  clear A180
                  have Hr_ := Option.some.inj H
                  go_wp2_with (first | ((with_reducible refine gate_callee (f := 9) rfl ?_); refine goesL_ (some 33) rfl rfl Tryd.func9 (by kernel_rfl) rfl #[.slice A0 l0.length c0] rfl (by (try simp only [List.map_toArray, List.map_cons, List.map_nil]); first | done | rfl | (simp only [List.length_drop, List.length_take]; rfl)) ?_; (with_reducible refine (mark_Parse.calls k1 _ _ l0 t174 t175 _ ?side1 ?side2 (Laid.below HLd.out (by repeat (first | (with_reducible first | exact HB.out | apply below_alloc | apply pw_below_drewN | apply below_drew1) | exact HB.out))) A8.out).mono ?_); (case side1 => repeat (first | exact (Kd.C_below HR0.out HB.out) | (with_reducible refine Kd.C_alloc ?_ _) | (with_reducible refine Kd.C_drewN ?_ _) | (with_reducible refine Kd.C_drew ?_))); (case side2 => exact HC0.out); rintro e w19 ⟨rfl, hb⟩; refine ⟨_, rfl, ?_⟩; have n0_ := Aside0.mk (below_step (by repeat (first | (with_reducible first | exact HB.out | apply below_alloc | apply pw_below_drewN | apply below_drew1) | exact HB.out)) hb); clear HB; have HB := n0_; clear n0_; (try clear hb); (try clear hb2); (try clear hk); (try clear hi)) | ((with_reducible refine gate_callee (f := 11) rfl ?_); refine goesL_ (some 38) rfl rfl Tryd.func11 (by kernel_rfl) rfl #[.slice A0 l0.length c0] rfl (by (try simp only [List.map_toArray, List.map_cons, List.map_nil]); first | done | rfl | (simp only [List.length_drop, List.length_take]; rfl)) ?_; (with_reducible refine (letterboxref11_Parse.calls k1 _ _ l0 t176 t177 _ ?side1 ?side2 A9.out).mono ?_); (case side1 => repeat (first | exact (Kd.C_below HR0.out HB.out) | (with_reducible refine Kd.C_alloc ?_ _) | (with_reducible refine Kd.C_drewN ?_ _) | (with_reducible refine Kd.C_drew ?_))); (case side2 => exact HC0.out); rintro e w20 ⟨rfl, hb⟩; refine ⟨_, rfl, ?_⟩; have n0_ := Aside0.mk (below_step (by repeat (first | (with_reducible first | exact HB.out | apply below_alloc | apply pw_below_drewN | apply below_drew1) | exact HB.out)) hb); clear HB; have HB := n0_; clear n0_; (try clear hb); (try clear hb2); (try clear hk); (try clear hi)) | (go_at_call 8; (with_reducible refine (mark_Print.calls k1 a1 t178 _ A12.out).mono ?_); rintro e w21 ⟨rfl, hb⟩; have n0_ := Aside0.mk (below_step (by repeat (first | (with_reducible first | exact HB.out | apply below_alloc | apply pw_below_drewN | apply below_drew1) | exact HB.out)) hb); clear HB; have HB := n0_; clear n0_; (try clear hb); (try clear hb2); (try clear hk); (try clear hi)) | (go_at_call 12; (with_reducible refine (letterboxref11_Print.calls k1 a1 t179 _ A13.out).mono ?_); rintro e w22 ⟨rfl, hb⟩; have n0_ := Aside0.mk (below_step (by repeat (first | (with_reducible first | exact HB.out | apply below_alloc | apply pw_below_drewN | apply below_drew1) | exact HB.out)) hb); clear HB; have HB := n0_; clear n0_; (try clear hb); (try clear hb2); (try clear hk); (try clear hi)) | (go_at_call 10; (with_reducible refine (mark_Apply.calls a2 a3 a1 t180 _ A15.out).mono ?_); rintro e w' ⟨rfl, ⟨nd, rfl⟩⟩) | (go_at_call 13; (with_reducible refine (letterboxref11_Apply.calls a2 a3 a1 t181 _ A16.out).mono ?_); rintro e w' ⟨rfl, ⟨nd, rfl⟩⟩) | (go_at_call 7; (with_reducible refine (letterboxlaw11_known.calls k1  t182 _ (Laid.below HLd.out (by repeat (first | (with_reducible first | exact HB.out | apply below_alloc | apply pw_below_drewN | apply below_drew1) | exact HB.out))) A18.out).mono ?_); rintro e w23 ⟨rfl, hb⟩; have n0_ := Aside0.mk (below_step (by repeat (first | (with_reducible first | exact HB.out | apply below_alloc | apply pw_below_drewN | apply below_drew1) | exact HB.out)) hb); clear HB; have HB := n0_; clear n0_; (try clear hb); (try clear hb2); (try clear hk); (try clear hi)))
                  go_ret
                  exact ⟨by first | (rw [Hr_]; done) | rfl | (simp [errW_none, errW_some] <;> rfl) | (simp [*, errW_none, errW_some] <;> rfl), by repeat (first | (with_reducible first | exact HB.out | apply below_alloc | apply pw_below_drewN | apply below_drew1) | exact HB.out)⟩
                · rw [if_neg c17] at H
                  have c17b0 : (t180 == t181) = false := beq_eq_false_iff_ne.mpr c17
                  have c17b1 : (t180 != t181) = true := bne_iff_ne.mpr c17
                  exact absurd H (by repeat' first | exact NT.none | exact NT.false | refine NT.ite ?_ ?_ | refine NT.bind (fun _ => ?_))
              · rw [if_neg c14] at H
                have c14b0 : (t178.toList == t179.toList) = false := beq_eq_false_iff_ne.mpr c14
                have c14b1 : (t178.toList != t179.toList) = true := bne_iff_ne.mpr c14
                exact absurd H (by repeat' first | exact NT.none | exact NT.false | refine NT.ite ?_ ?_ | refine NT.bind (fun _ => ?_))
            · rw [if_neg c11] at H
              have c11b0 : (t175 == t177) = false := beq_eq_false_iff_ne.mpr c11
              have c11b1 : (t175 != t177) = true := bne_iff_ne.mpr c11
              exact absurd H (by repeat' first | exact NT.none | exact NT.false | refine NT.ite ?_ ?_ | refine NT.bind (fun _ => ?_))
          · rw [if_neg c10] at H
            have c10b0 : (t174 == t176) = false := beq_eq_false_iff_ne.mpr c10
            have c10b1 : (t174 != t176) = true := bne_iff_ne.mpr c10
            exact absurd H (by repeat' first | exact NT.none | exact NT.false | refine NT.ite ?_ ?_ | refine NT.bind (fun _ => ?_))

end Go.Proofs.YtknjokgacafifaaDoor.P
