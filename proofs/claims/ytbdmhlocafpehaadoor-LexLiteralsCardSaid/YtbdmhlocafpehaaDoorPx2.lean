/- The walks of the seat's functions, one contract a function: printed by a program of this session's (wip/gen). Not trusted: Lean checks it. -/
import Derived.Test.YtbdmhlocafpehaaDoorPx0
import Derived.Test.YtbdmhlocafpehaaDoorPx1
import Derived.Test.YtbdmhlocafpehaaDoorLexLex
import Derived.Test.YtbdmhlocafpehaaDoorAux
import Derived.Test.YtbdmhlocafpehaaDoorBytes
import Derived.Test.YtbdmhlocafpehaaDoorConvA
import Derived.Test.YtbdmhlocafpehaaDoorMimeConv
import Derived.Test.YtbdmhlocafpehaaDoorGRow
namespace Go.Proofs.YtbdmhlocafpehaaDoor.P
open Go.RowKit Go.Proofs.YtbdmhlocafpehaaDoorW.PrintWords Go.Proofs.YtbdmhlocafpehaaDoorW.PrintLast Go.Proofs.YtbdmhlocafpehaaDoorW.PrintMore
attribute [local go_sem] max2_int min2_int max_two min_two max_three min_three max_four min_four   -- for this text's walks alone
set_option linter.unusedVariables false
set_option linter.unusedSimpArgs false

attribute [local go_sem high] eqA31
/-! ### letterboxlaw17_plain: function 7 -/
def letterboxlaw17_plain.l0 : Nat → ByteArray → Int → Option (Bool)
  | 0, _, _ => none
  | k + 1, x0, x3 => if x3 < (x0.size : Int) then (if 0 ≤ x3 then (if (bt x0 x3) < 32 then (some false) else (if (bt x0 x3) > 126 then (some false) else (letterboxlaw17_plain.l0 k x0 (wrap64 (x3 + 1))))) else (none)) else (some true)
def letterboxlaw17_plain.f (k : Nat) (a0 : ByteArray) : Option (Bool) := letterboxlaw17_plain.l0 k a0 0
theorem letterboxlaw17_plain.mono_l : ∀ k, (∀ y0 y1, LeO (letterboxlaw17_plain.l0 k y0 y1) (letterboxlaw17_plain.l0 (k + 1) y0 y1))
  | 0 => fun _ _ r h => by simp [letterboxlaw17_plain.l0] at h
  | k + 1 => by
    have ih0 := letterboxlaw17_plain.mono_l k
    · intro y0 y1
      unfold letterboxlaw17_plain.l0
      repeat' first
      | (with_reducible exact ih0 _ _)
      | (with_reducible exact LeO.refl _)
      | (with_reducible exact LeO.none _)
      | (with_reducible refine LeO.ite ?_ ?_)
      | (with_reducible refine LeO.bind ?_ (fun _ => ?_))
      | exact ih0 _ _
      | exact LeO.none _
      | refine LeO.ite ?_ ?_
      | refine LeO.bind ?_ (fun _ => ?_)
theorem letterboxlaw17_plain.mono : ∀ a0 k, LeO (letterboxlaw17_plain.f k a0) (letterboxlaw17_plain.f (k + 1) a0) := by
  intro a0 k
  have ih0 := letterboxlaw17_plain.mono_l k
  unfold letterboxlaw17_plain.f
  repeat' first
      | (with_reducible exact ih0 _ _)
      | (with_reducible exact LeO.refl _)
      | (with_reducible exact LeO.none _)
      | (with_reducible refine LeO.ite ?_ ?_)
      | (with_reducible refine LeO.bind ?_ (fun _ => ?_))
      | exact ih0 _ _
      | exact LeO.none _
      | refine LeO.ite ?_ ?_
      | refine LeO.bind ?_ (fun _ => ?_)
set_option maxHeartbeats 8000000 in
set_option maxRecDepth 100000 in
theorem letterboxlaw17_plain.calls (k : Nat) (a0 : ByteArray) (r : Bool) (w : World) (h : letterboxlaw17_plain.f k a0 = some r) :
    Calls Tryd.prog 7 #[.string a0] w fun e w' => e = .returned (.bool r) ∧ Drawn0 w w' := by
  have H : (letterboxlaw17_plain.l0 k a0 0) = some r := h
  clear h
  have H' := Aside0.mk H
  clear H
  go_enter Tryd.func7, Tryd.ntmps7
  go_wp2
  go_loopg [3] k (fun kq v3 w' => ∃ (x3_1 : Int), v3 = .int .i64 x3_1 ∧ Aside0 (letterboxlaw17_plain.l0 kq a0 x3_1 = some r) ∧ Aside0 (kq ≤ k) ∧ Drawn0 w w')
  case atStart => exact ⟨(0), (by first | rfl | (simp; done) | (simp [*]; done)), H', ⟨Nat.le_refl _⟩, by repeat (first | exact Drawn0.refl _ | apply Drawn0.step)⟩
  case round =>
    clear H'
    obtain ⟨x3_1, rfl, HA, HK1, ⟨m1, rfl⟩⟩ := hrel
    cases gk with
    | zero => exact absurd HA.out (by simp [letterboxlaw17_plain.l0])
    | succ k1 =>
      have H := HA.out
      clear HA
      simp only [letterboxlaw17_plain.l0] at H
      by_cases c2 : x3_1 < (a0.size : Int)
      · rw [if_pos c2] at H
        have c2b0 : decide (x3_1 < (a0.size : Int)) = true := decide_eq_true c2
        clear c2
        by_cases c3 : 0 ≤ x3_1
        · rw [if_pos c3] at H
          have c3b0 : decide (0 ≤ x3_1) = true := decide_eq_true c3
          clear c3
          by_cases c5 : (bt a0 x3_1) < 32
          · rw [if_pos c5] at H
            have c5b0 : decide ((bt a0 x3_1) < 32) = true := decide_eq_true c5
            clear c5
            obtain rfl := Option.some.inj H
            have p4 : 0 ≤ (x3_1 : Int) := of_decide_eq_true (by first | (with_reducible assumption) | assumption)
            have q4 : x3_1 < (a0.size : Int) := of_decide_eq_true (by first | (with_reducible assumption) | assumption)
            have hx4 := bt_at a0 x3_1
            replace p4 := eq_true p4
            replace q4 := eq_true q4
            go_wp2
            go_ret
            exact ⟨by first | rfl | (simp; done) | (simp [*]; done), by repeat (first | exact Drawn0.refl _ | apply Drawn0.step)⟩
          · rw [if_neg c5] at H
            have c5b0 : decide ((bt a0 x3_1) < 32) = false := decide_eq_false c5
            clear c5
            by_cases c7 : (bt a0 x3_1) > 126
            · rw [if_pos c7] at H
              have c7b0 : decide (126 < (bt a0 x3_1)) = true := decide_eq_true c7
              clear c7
              obtain rfl := Option.some.inj H
              have p4 : 0 ≤ (x3_1 : Int) := of_decide_eq_true (by first | (with_reducible assumption) | assumption)
              have q4 : x3_1 < (a0.size : Int) := of_decide_eq_true (by first | (with_reducible assumption) | assumption)
              have hx4 := bt_at a0 x3_1
              replace p4 := eq_true p4
              replace q4 := eq_true q4
              have p6 : 0 ≤ (x3_1 : Int) := of_decide_eq_true (by first | (with_reducible assumption) | assumption)
              have q6 : x3_1 < (a0.size : Int) := of_decide_eq_true (by first | (with_reducible assumption) | assumption)
              have hx6 := bt_at a0 x3_1
              replace p6 := eq_true p6
              replace q6 := eq_true q6
              go_wp2
              go_ret
              exact ⟨by first | rfl | (simp; done) | (simp [*]; done), by repeat (first | exact Drawn0.refl _ | apply Drawn0.step)⟩
            · rw [if_neg c7] at H
              have c7b0 : decide (126 < (bt a0 x3_1)) = false := decide_eq_false c7
              clear c7
              have H' := Aside0.mk H
              clear H
              have p4 : 0 ≤ (x3_1 : Int) := of_decide_eq_true (by first | (with_reducible assumption) | assumption)
              have q4 : x3_1 < (a0.size : Int) := of_decide_eq_true (by first | (with_reducible assumption) | assumption)
              have hx4 := bt_at a0 x3_1
              replace p4 := eq_true p4
              replace q4 := eq_true q4
              have p6 : 0 ≤ (x3_1 : Int) := of_decide_eq_true (by first | (with_reducible assumption) | assumption)
              have q6 : x3_1 < (a0.size : Int) := of_decide_eq_true (by first | (with_reducible assumption) | assumption)
              have hx6 := bt_at a0 x3_1
              replace p6 := eq_true p6
              replace q6 := eq_true q6
              go_wp2
              go_roundg k1
              case measure => have := HK1.out; omega
              case rel => exact ⟨(wrap64 (x3_1 + 1)), (by first | rfl | (simp; done) | (simp [*]; done)), H', ⟨by have := HK1.out; omega⟩, by repeat (first | exact Drawn0.refl _ | apply Drawn0.step)⟩
        · rw [if_neg c3] at H
          exact absurd H (by simp)
      · rw [if_neg c2] at H
        have c2b0 : decide (x3_1 < (a0.size : Int)) = false := decide_eq_false c2
        clear c2
        obtain rfl := Option.some.inj H
        go_wp2
        go_ret
        exact ⟨by first | rfl | (simp; done) | (simp [*]; done), by repeat (first | exact Drawn0.refl _ | apply Drawn0.step)⟩

-- GIVEN: function 8 (lex_Lex)

-- GIVEN: function 12 (lex_Wants)

/-! ### letterboxlaw17_known: function 9 -/
def letterboxlaw17_known.f (k : Nat)  : Option (Bool) := (lex_Lex.f k (([(([97, 32, 102, 101, 116, 99, 104, 32, 49, 32, 40, 102, 108, 97, 103, 115, 41] : List Int))] : List (List Int))) ([] : List (List Int))).bind fun bt107 => ((lex_Wants.f k (([97, 32, 123, 49, 50, 125] : List Int))).bind fun bt114 => (if bt107.2 = 0 then (if (bt107.1.length : Int) = 6 then (if 3 < (bt107.1.length : Int) then (if ((rd_T31 bt107.1 3).f0) = 3 then (if bt114.2 = true then (some (bt114.1 == 12)) else (some false)) else (some false)) else (none)) else (some false)) else (some false)))
theorem letterboxlaw17_known.mono : ∀ k, LeO (letterboxlaw17_known.f k ) (letterboxlaw17_known.f (k + 1) ) := by
  intro  k
  unfold letterboxlaw17_known.f
  repeat' first
      | (with_reducible exact lex_Lex.mono _ _ _)
      | (with_reducible exact lex_Wants.mono _ _)
      | (with_reducible exact LeO.refl _)
      | (with_reducible exact LeO.none _)
      | (with_reducible refine LeO.ite ?_ ?_)
      | (with_reducible refine LeO.bind ?_ (fun _ => ?_))
      | exact lex_Lex.mono _ _ _
      | exact lex_Wants.mono _ _
      | exact LeO.none _
      | refine LeO.ite ?_ ?_
      | refine LeO.bind ?_ (fun _ => ?_)
set_option maxHeartbeats 8000000 in
set_option maxRecDepth 100000 in
theorem letterboxlaw17_known.calls (k : Nat) (r : Bool) (w : World) (h : letterboxlaw17_known.f k = some r) :
    Calls Tryd.prog 9 #[] w fun e w' => e = .returned (.bool r) ∧ Below w.heap.size w w' := by
  unfold letterboxlaw17_known.f at h
  obtain ⟨⟨t, e⟩, A10, H1⟩ := Option.bind_eq_some_iff.1 h
  obtain ⟨⟨n, ok⟩, A20, H2⟩ := Option.bind_eq_some_iff.1 H1
  clear h H1
  have A1 := Aside0.mk A10
  have A2 := Aside0.mk A20
  clear A10 A20
  replace H2 : (if e = 0 then (if (t.length : Int) = 6 then (if 3 < (t.length : Int) then (if ((rd_T31 t 3).f0) = 3 then (if ok = true then (some (n == 12)) else (some false)) else (some false)) else (none)) else (some false)) else (some false)) = some r := H2
  have hconv := fun n c => run_convert_lit (P := Tryd.prog) w 23 5 (([97, 32, 102, 101, 116, 99, 104, 32, 49, 32, 40, 102, 108, 97, 103, 115, 41] : List Int).map (Value.int .u8)).toArray n c Tryd.underlying23 Tryd.underlying5
  have hC := Aside0.mk (litWorld_C w 5 ([97, 32, 102, 101, 116, 99, 104, 32, 49, 32, 40, 102, 108, 97, 103, 115, 41] : List Int) (by simp))
  have hB := Aside0.mk (litWorld_below w (([97, 32, 102, 101, 116, 99, 104, 32, 49, 32, 40, 102, 108, 97, 103, 115, 41] : List Int).map (Value.int .u8)).toArray 5)
  generalize litWorld w _ 5 = w1 at hconv hC hB
  simp only [List.map_cons, List.map_nil] at hconv
  by_cases c1 : e = 0
  rotate_left
  · have b1 : (e == (0 : Int)) = false := beq_eq_false_iff_ne.2 c1
    rw [if_neg c1] at H2
    obtain rfl := Option.some.inj H2
    clear H2
    go_enter Tryd.func9, Tryd.ntmps9
    go_wp2_with (first | (go_at_call 8; refine (lex_Lex.calls k _ _ [([97, 32, 102, 101, 116, 99, 104, 32, 49, 32, 40, 102, 108, 97, 103, 115, 41] : List Int)] _ _ [] t e _ (rowOne trivial hC.out (by decide)) (Nat.le_refl _) (Kd.C_nil _ _) (Nat.le_refl _) A1.out).mono ?_; rintro e_ w2 ⟨v0, rfl, hv, hb⟩; obtain ⟨Av, cv, rfl⟩ := Kd.V_slice hv; have HB2 := Aside0.mk (below_step (below_alloc hB.out _) hb); clear hb; have hconv2 := fun n c => run_convert_lit (P := Tryd.prog) w2 23 5 (([97, 32, 123, 49, 50, 125] : List Int).map (Value.int .u8)).toArray n c Tryd.underlying23 Tryd.underlying5; have hC2 := Aside0.mk (litWorld_C w2 5 ([97, 32, 123, 49, 50, 125] : List Int) (by simp)); have hB0 := litWorld_below w2 (([97, 32, 123, 49, 50, 125] : List Int).map (Value.int .u8)).toArray 5; have HV := Aside0.mk (Kd.V_below hv hB0); have HB3 := Aside0.mk (below_step HB2.out hB0); clear hv hB0; generalize litWorld w2 _ 5 = w3 at hconv2 hC2 HB3 HV; simp only [List.map_cons, List.map_nil] at hconv2) | (go_at_call 12; refine (lex_Wants.calls k _ _ ([97, 32, 123, 49, 50, 125] : List Int) n _ _ hC2.out (by decide) A2.out).mono ?_; rintro e_ w4 ⟨rfl, hb4⟩; have HB4 := Aside0.mk (below_step HB3.out hb4); have HV4 := Aside0.mk (Kd.V_below HV.out hb4); clear hb4))
    go_ret
    exact ⟨by first | rfl | (simp; done) | (simp [*]; done), HB4.out⟩
  rw [if_pos c1] at H2
  have b1 : (e == (0 : Int)) = true := beq_iff_eq.2 c1
  clear c1
  by_cases c2 : (t.length : Int) = 6
  rotate_left
  · have b2 : ((t.length : Int) == 6) = false := beq_eq_false_iff_ne.2 c2
    rw [if_neg c2] at H2
    obtain rfl := Option.some.inj H2
    clear H2
    go_enter Tryd.func9, Tryd.ntmps9
    go_wp2_with (first | (go_at_call 8; refine (lex_Lex.calls k _ _ [([97, 32, 102, 101, 116, 99, 104, 32, 49, 32, 40, 102, 108, 97, 103, 115, 41] : List Int)] _ _ [] t e _ (rowOne trivial hC.out (by decide)) (Nat.le_refl _) (Kd.C_nil _ _) (Nat.le_refl _) A1.out).mono ?_; rintro e_ w2 ⟨v0, rfl, hv, hb⟩; obtain ⟨Av, cv, rfl⟩ := Kd.V_slice hv; have HB2 := Aside0.mk (below_step (below_alloc hB.out _) hb); clear hb; have hconv2 := fun n c => run_convert_lit (P := Tryd.prog) w2 23 5 (([97, 32, 123, 49, 50, 125] : List Int).map (Value.int .u8)).toArray n c Tryd.underlying23 Tryd.underlying5; have hC2 := Aside0.mk (litWorld_C w2 5 ([97, 32, 123, 49, 50, 125] : List Int) (by simp)); have hB0 := litWorld_below w2 (([97, 32, 123, 49, 50, 125] : List Int).map (Value.int .u8)).toArray 5; have HV := Aside0.mk (Kd.V_below hv hB0); have HB3 := Aside0.mk (below_step HB2.out hB0); clear hv hB0; generalize litWorld w2 _ 5 = w3 at hconv2 hC2 HB3 HV; simp only [List.map_cons, List.map_nil] at hconv2) | (go_at_call 12; refine (lex_Wants.calls k _ _ ([97, 32, 123, 49, 50, 125] : List Int) n _ _ hC2.out (by decide) A2.out).mono ?_; rintro e_ w4 ⟨rfl, hb4⟩; have HB4 := Aside0.mk (below_step HB3.out hb4); have HV4 := Aside0.mk (Kd.V_below HV.out hb4); clear hb4))
    go_ret
    exact ⟨by first | rfl | (simp; done) | (simp [*]; done), HB4.out⟩
  rw [if_pos c2, if_pos (by omega)] at H2
  have b2 : ((t.length : Int) == 6) = true := beq_iff_eq.2 c2
  have q3 : (3 < t.length) = True := eq_true (by omega)
  have q4 : ((3 : Int) < (t.length : Int)) = True := eq_true (by omega)
  by_cases c3 : (rd_T31 t 3).f0 = 3
  rotate_left
  · have b3 : ((rd_T31 t 3).f0 == 3) = false := beq_eq_false_iff_ne.2 c3
    rw [if_neg c3] at H2
    obtain rfl := Option.some.inj H2
    clear H2
    go_enter Tryd.func9, Tryd.ntmps9
    go_wp2_with (first | (go_at_call 8; refine (lex_Lex.calls k _ _ [([97, 32, 102, 101, 116, 99, 104, 32, 49, 32, 40, 102, 108, 97, 103, 115, 41] : List Int)] _ _ [] t e _ (rowOne trivial hC.out (by decide)) (Nat.le_refl _) (Kd.C_nil _ _) (Nat.le_refl _) A1.out).mono ?_; rintro e_ w2 ⟨v0, rfl, hv, hb⟩; obtain ⟨Av, cv, rfl⟩ := Kd.V_slice hv; have HB2 := Aside0.mk (below_step (below_alloc hB.out _) hb); clear hb; have hconv2 := fun n c => run_convert_lit (P := Tryd.prog) w2 23 5 (([97, 32, 123, 49, 50, 125] : List Int).map (Value.int .u8)).toArray n c Tryd.underlying23 Tryd.underlying5; have hC2 := Aside0.mk (litWorld_C w2 5 ([97, 32, 123, 49, 50, 125] : List Int) (by simp)); have hB0 := litWorld_below w2 (([97, 32, 123, 49, 50, 125] : List Int).map (Value.int .u8)).toArray 5; have HV := Aside0.mk (Kd.V_below hv hB0); have HB3 := Aside0.mk (below_step HB2.out hB0); clear hv hB0; generalize litWorld w2 _ 5 = w3 at hconv2 hC2 HB3 HV; simp only [List.map_cons, List.map_nil] at hconv2) | (go_at_call 12; refine (lex_Wants.calls k _ _ ([97, 32, 123, 49, 50, 125] : List Int) n _ _ hC2.out (by decide) A2.out).mono ?_; rintro e_ w4 ⟨rfl, hb4⟩; have HB4 := Aside0.mk (below_step HB3.out hb4); have HV4 := Aside0.mk (Kd.V_below HV.out hb4); clear hb4; obtain ⟨ad, ead, hx0, _⟩ := at_T31 (Kd.V_reads' HV4.out).2.2 3 (by omega) (by omega); cases ead; (try simp only [show (3 : Int).toNat = 3 from rfl, Nat.reduceMul, Nat.reduceEqDiff, Go.Addr.add, ↓reduceIte] at hx0)))
    go_ret
    exact ⟨by first | rfl | (simp; done) | (simp [*]; done), HB4.out⟩
  rw [if_pos c3] at H2
  have b3 : ((rd_T31 t 3).f0 == 3) = true := beq_iff_eq.2 c3
  clear c3
  cases ok with
  | false =>
    rw [if_neg (by decide)] at H2
    obtain rfl := Option.some.inj H2
    clear H2
    go_enter Tryd.func9, Tryd.ntmps9
    go_wp2_with (first | (go_at_call 8; refine (lex_Lex.calls k _ _ [([97, 32, 102, 101, 116, 99, 104, 32, 49, 32, 40, 102, 108, 97, 103, 115, 41] : List Int)] _ _ [] t e _ (rowOne trivial hC.out (by decide)) (Nat.le_refl _) (Kd.C_nil _ _) (Nat.le_refl _) A1.out).mono ?_; rintro e_ w2 ⟨v0, rfl, hv, hb⟩; obtain ⟨Av, cv, rfl⟩ := Kd.V_slice hv; have HB2 := Aside0.mk (below_step (below_alloc hB.out _) hb); clear hb; have hconv2 := fun n c => run_convert_lit (P := Tryd.prog) w2 23 5 (([97, 32, 123, 49, 50, 125] : List Int).map (Value.int .u8)).toArray n c Tryd.underlying23 Tryd.underlying5; have hC2 := Aside0.mk (litWorld_C w2 5 ([97, 32, 123, 49, 50, 125] : List Int) (by simp)); have hB0 := litWorld_below w2 (([97, 32, 123, 49, 50, 125] : List Int).map (Value.int .u8)).toArray 5; have HV := Aside0.mk (Kd.V_below hv hB0); have HB3 := Aside0.mk (below_step HB2.out hB0); clear hv hB0; generalize litWorld w2 _ 5 = w3 at hconv2 hC2 HB3 HV; simp only [List.map_cons, List.map_nil] at hconv2) | (go_at_call 12; refine (lex_Wants.calls k _ _ ([97, 32, 123, 49, 50, 125] : List Int) n _ _ hC2.out (by decide) A2.out).mono ?_; rintro e_ w4 ⟨rfl, hb4⟩; have HB4 := Aside0.mk (below_step HB3.out hb4); have HV4 := Aside0.mk (Kd.V_below HV.out hb4); clear hb4; obtain ⟨ad, ead, hx0, _⟩ := at_T31 (Kd.V_reads' HV4.out).2.2 3 (by omega) (by omega); cases ead; (try simp only [show (3 : Int).toNat = 3 from rfl, Nat.reduceMul, Nat.reduceEqDiff, Go.Addr.add, ↓reduceIte] at hx0)))
    go_ret
    exact ⟨by first | rfl | (simp; done) | (simp [*]; done), HB4.out⟩
  | true =>
    rw [if_pos rfl] at H2
    obtain rfl := Option.some.inj H2
    clear H2
    go_enter Tryd.func9, Tryd.ntmps9
    go_wp2_with (first | (go_at_call 8; refine (lex_Lex.calls k _ _ [([97, 32, 102, 101, 116, 99, 104, 32, 49, 32, 40, 102, 108, 97, 103, 115, 41] : List Int)] _ _ [] t e _ (rowOne trivial hC.out (by decide)) (Nat.le_refl _) (Kd.C_nil _ _) (Nat.le_refl _) A1.out).mono ?_; rintro e_ w2 ⟨v0, rfl, hv, hb⟩; obtain ⟨Av, cv, rfl⟩ := Kd.V_slice hv; have HB2 := Aside0.mk (below_step (below_alloc hB.out _) hb); clear hb; have hconv2 := fun n c => run_convert_lit (P := Tryd.prog) w2 23 5 (([97, 32, 123, 49, 50, 125] : List Int).map (Value.int .u8)).toArray n c Tryd.underlying23 Tryd.underlying5; have hC2 := Aside0.mk (litWorld_C w2 5 ([97, 32, 123, 49, 50, 125] : List Int) (by simp)); have hB0 := litWorld_below w2 (([97, 32, 123, 49, 50, 125] : List Int).map (Value.int .u8)).toArray 5; have HV := Aside0.mk (Kd.V_below hv hB0); have HB3 := Aside0.mk (below_step HB2.out hB0); clear hv hB0; generalize litWorld w2 _ 5 = w3 at hconv2 hC2 HB3 HV; simp only [List.map_cons, List.map_nil] at hconv2) | (go_at_call 12; refine (lex_Wants.calls k _ _ ([97, 32, 123, 49, 50, 125] : List Int) n _ _ hC2.out (by decide) A2.out).mono ?_; rintro e_ w4 ⟨rfl, hb4⟩; have HB4 := Aside0.mk (below_step HB3.out hb4); have HV4 := Aside0.mk (Kd.V_below HV.out hb4); clear hb4; obtain ⟨ad, ead, hx0, _⟩ := at_T31 (Kd.V_reads' HV4.out).2.2 3 (by omega) (by omega); cases ead; (try simp only [show (3 : Int).toNat = 3 from rfl, Nat.reduceMul, Nat.reduceEqDiff, Go.Addr.add, ↓reduceIte] at hx0)))
    go_ret
    exact ⟨by first | rfl | (simp; done) | (simp [*]; done), HB4.out⟩


/-! ### letterboxlaw17_long: function 10 -/
def letterboxlaw17_long.l0 : Nat → List (List Int) → Int → Int → Option (Bool)
  | 0, _, _, _ => none
  | k + 1, x0, x3, x4 => if x4 < (x0.length : Int) then (if 0 ≤ x4 then (letterboxlaw17_long.l0 k x0 (wrap64 ((wrap64 (x3 + 1)) + ((rd_L4 x0 x4).length : Int))) (wrap64 (x4 + 1))) else (none)) else (some (decide (x3 > 4000)))
def letterboxlaw17_long.f (k : Nat) (l0 : List (List Int)) : Option (Bool) := letterboxlaw17_long.l0 k l0 0 0
theorem letterboxlaw17_long.mono_l : ∀ k, (∀ y0 y1 y2, LeO (letterboxlaw17_long.l0 k y0 y1 y2) (letterboxlaw17_long.l0 (k + 1) y0 y1 y2))
  | 0 => fun _ _ _ r h => by simp [letterboxlaw17_long.l0] at h
  | k + 1 => by
    have ih0 := letterboxlaw17_long.mono_l k
    · intro y0 y1 y2
      unfold letterboxlaw17_long.l0
      repeat' first
      | (with_reducible exact ih0 _ _ _)
      | (with_reducible exact LeO.refl _)
      | (with_reducible exact LeO.none _)
      | (with_reducible refine LeO.ite ?_ ?_)
      | (with_reducible refine LeO.bind ?_ (fun _ => ?_))
      | exact ih0 _ _ _
      | exact LeO.none _
      | refine LeO.ite ?_ ?_
      | refine LeO.bind ?_ (fun _ => ?_)
theorem letterboxlaw17_long.mono : ∀ a0 k, LeO (letterboxlaw17_long.f k a0) (letterboxlaw17_long.f (k + 1) a0) := by
  intro a0 k
  have ih0 := letterboxlaw17_long.mono_l k
  unfold letterboxlaw17_long.f
  repeat' first
      | (with_reducible exact ih0 _ _ _)
      | (with_reducible exact LeO.refl _)
      | (with_reducible exact LeO.none _)
      | (with_reducible refine LeO.ite ?_ ?_)
      | (with_reducible refine LeO.bind ?_ (fun _ => ?_))
      | exact ih0 _ _ _
      | exact LeO.none _
      | refine LeO.ite ?_ ?_
      | refine LeO.bind ?_ (fun _ => ?_)
set_option maxHeartbeats 8000000 in
set_option maxRecDepth 100000 in
theorem letterboxlaw17_long.calls (k : Nat) (A0 : Option Addr) (c0 : Nat) (l0 : List (List Int)) (r : Bool) (w : World) (hr0 : Kd.C (Kd.slice 5 (Kd.int .u8)) w A0 l0.length l0) (hc0 : l0.length ≤ c0) (h : letterboxlaw17_long.f k l0 = some r) :
    Calls Tryd.prog 10 #[.slice A0 l0.length c0] w fun e w' => e = .returned (.bool r) ∧ Drawn0 w w' := by
  have HR0 := Aside0.mk hr0
  have HC0 := Aside0.mk hc0
  clear hr0 hc0
  have H : (letterboxlaw17_long.l0 k l0 0 0) = some r := h
  clear h
  have H' := Aside0.mk H
  clear H
  go_enter Tryd.func10, Tryd.ntmps10
  go_wp2
  go_loopg [3, 4] k (fun kq v3 v4 w' => ∃ (x3_1 : Int) (x4_1 : Int), v3 = .int .i64 x3_1 ∧ v4 = .int .i64 x4_1 ∧ Aside0 (letterboxlaw17_long.l0 kq l0 x3_1 x4_1 = some r) ∧ Aside0 (kq ≤ k) ∧ Drawn0 w w')
  case atStart => exact ⟨(0), (0), (by first | rfl | (simp; done) | (simp [*]; done)), (by first | rfl | (simp; done) | (simp [*]; done)), H', ⟨Nat.le_refl _⟩, by repeat (first | exact Drawn0.refl _ | apply Drawn0.step)⟩
  case round =>
    clear H'
    try clear c1
    obtain ⟨x3_1, x4_1, rfl, rfl, HA, HK1, ⟨m1, rfl⟩⟩ := hrel
    cases gk with
    | zero => exact absurd HA.out (by simp [letterboxlaw17_long.l0])
    | succ k1 =>
      have H := HA.out
      clear HA
      simp only [letterboxlaw17_long.l0] at H
      by_cases c2 : x4_1 < (l0.length : Int)
      · rw [if_pos c2] at H
        have c2b0 : decide (x4_1 < (l0.length : Int)) = true := decide_eq_true c2
        clear c2
        by_cases c3 : 0 ≤ x4_1
        · rw [if_pos c3] at H
          have c3b0 : decide (0 ≤ x4_1) = true := decide_eq_true c3
          clear c3
          have H' := Aside0.mk H
          clear H
          have p184 : 0 ≤ (x4_1 : Int) := of_decide_eq_true (by first | (with_reducible assumption) | assumption)
          have q184 : x4_1 < (l0.length : Int) := of_decide_eq_true (by first | (with_reducible assumption) | assumption)
          obtain ⟨ad184, A184_0, c184_0, e184, hx184_0, hl184_0, hi184_0⟩ := at_L4 HR0.out x4_1 p184 q184
          cases e184
          have HR184_0 := Aside0.mk hi184_0
          have HC184_0 := Aside0.mk hl184_0
          clear hi184_0 hl184_0
          replace p184 := eq_true p184
          replace q184 := eq_true q184
          go_wp2
          go_roundg k1
          case measure => have := HK1.out; omega
          case rel => exact ⟨(wrap64 ((wrap64 (x3_1 + 1)) + ((rd_L4 l0 x4_1).length : Int))), (wrap64 (x4_1 + 1)), (by first | rfl | (simp; done) | (simp [*]; done)), (by first | rfl | (simp; done) | (simp [*]; done)), H', ⟨by have := HK1.out; omega⟩, by repeat (first | exact Drawn0.refl _ | apply Drawn0.step)⟩
        · rw [if_neg c3] at H
          exact absurd H (by simp)
      · rw [if_neg c2] at H
        have c2b0 : decide (x4_1 < (l0.length : Int)) = false := decide_eq_false c2
        clear c2
        obtain rfl := Option.some.inj H
        go_wp2
        go_ret
        exact ⟨by first | rfl | (simp; done) | (simp [*]; done), by repeat (first | exact Drawn0.refl _ | apply Drawn0.step)⟩

/-! ### letterboxlaw17_dec: function 11 -/
def letterboxlaw17_dec.f : Nat → Int → Option (ByteArray)
  | 0, _ => none
  | k + 1, a0 => if a0 < 10 then (some (strOfNums (([(wrap64 (48 + a0)) % 256] : List Int)))) else ((letterboxlaw17_dec.f k (wrap64 (Int.tdiv a0 10))).bind fun t188 => ((letterboxlaw17_dec.f k (Int.tmod a0 10)).bind fun t189 => (if t188.size + t189.size ≤ 9223372036854775807 then (some (t188 ++ t189)) else (none))))
theorem letterboxlaw17_dec.mono_l : ∀ k, (∀ y0, LeO (letterboxlaw17_dec.f k y0) (letterboxlaw17_dec.f (k + 1) y0))
  | 0 => fun _ r h => by simp [letterboxlaw17_dec.f] at h
  | k + 1 => by
    have ih0 := letterboxlaw17_dec.mono_l k
    · intro y0
      unfold letterboxlaw17_dec.f
      repeat' first
      | (with_reducible exact ih0 _)
      | (with_reducible exact LeO.refl _)
      | (with_reducible exact LeO.none _)
      | (with_reducible refine LeO.ite ?_ ?_)
      | (with_reducible refine LeO.bind ?_ (fun _ => ?_))
      | exact ih0 _
      | exact LeO.none _
      | refine LeO.ite ?_ ?_
      | refine LeO.bind ?_ (fun _ => ?_)
theorem letterboxlaw17_dec.mono : ∀ a0 k, LeO (letterboxlaw17_dec.f k a0) (letterboxlaw17_dec.f (k + 1) a0) := by
  intro a0 k
  have ih0 := letterboxlaw17_dec.mono_l k
  exact ih0 a0
set_option maxHeartbeats 8000000 in
set_option maxRecDepth 100000 in
theorem letterboxlaw17_dec.calls (k : Nat) : ∀ (a0 : Int) (r : ByteArray) (w : World) (h : letterboxlaw17_dec.f k a0 = some r),
    Calls Tryd.prog 11 #[.int .i64 a0] w fun e w' => e = .returned (.string r) ∧ Below w.heap.size w w' := by
  induction k using Nat.strongRecOn with
  | _ k ih =>
  intro a0 r w h
  cases k with
  | zero => exact absurd h (by simp [letterboxlaw17_dec.f])
  | succ k =>
  simp only [letterboxlaw17_dec.f] at h
  have HB := Aside0.mk (Below.refl w.heap.size w)
  have H : (if a0 < 10 then (some (strOfNums (([(wrap64 (48 + a0)) % 256] : List Int)))) else ((letterboxlaw17_dec.f k (wrap64 (Int.tdiv a0 10))).bind fun t188 => ((letterboxlaw17_dec.f k (Int.tmod a0 10)).bind fun t189 => (if t188.size + t189.size ≤ 9223372036854775807 then (some (t188 ++ t189)) else (none))))) = some r := h
  clear h
  by_cases c2 : a0 < 10
  · rw [if_pos c2] at H
    have c2b0 : decide (a0 < 10) = true := decide_eq_true c2
    clear c2
    obtain ⟨y185, hy185⟩ : ∃ y_ : List Int, y_ = (([(wrap64 (48 + a0)) % 256] : List Int)) := ⟨_, rfl⟩
    replace H : (some (strOfNums y185)) = some r := by first | (rw [hy185]; with_reducible exact H) | (have H2_ := (Option.bind_some _ _).symm.trans H; rw [hy185]; with_reducible exact H2_) | (have H2_ := (Option.bind_some _ _).symm.trans H; with_reducible exact H2_) | with_reducible exact H | (rw [hy185]; exact H) | exact H
    have Ny185 := Aside0.mk hy185
    clear hy185
    obtain rfl := Option.some.inj H
    go_enter Tryd.func11, Tryd.ntmps11
    go_wp2_with (first | ((with_reducible refine gate_dst (N := 8) rfl ?_); refine Kd.R_lit (Kd.int .u8) _ 5 ?hg (N := 8) ?hd (xs := ([(wrap64 (48 + a0)) % 256] : List Int)) (inner := [.int .u8 ((wrap64 (48 + a0)) % 256)]) (ok := fun _ => True) (okp := fun _ => True) ?hr ?hp (fun _ hk => hk) trivial (Below.refl _ _) (Nat.le_refl _) (by simp) ?_; (case hd => rfl); (case hg => rfl); (case hr => first | (go_simp; done) | (go_simp; rfl)); (case hp => exact (Reps.one (show Kd.M (Kd.int .u8) _ _ _ ((wrap64 (48 + a0)) % 256) [.int .u8 ((wrap64 (48 + a0)) % 256)] from rfl) (Reps.none _ _))); intro v186 w3 ho4 hb hg_ hnew_; clear hg_ hnew_; (first | rw [← Ny185.out] at ho4 | (simp only [Int.reduceToNat] at ho4; rw [← Ny185.out] at ho4)); have n0_ := Aside0.mk (Kd.R_lower ho4 (below_size (by repeat (first | (with_reducible first | exact HB.out | apply below_alloc | apply pw_below_drewN | apply below_drew1) | exact HB.out)))); have n1_ := Aside0.mk (below_step (by repeat (first | (with_reducible first | exact HB.out | apply below_alloc | apply pw_below_drewN | apply below_drew1) | exact HB.out)) hb); clear HB; have HO187 := n0_; have HB := n1_; clear n0_ n1_; clear hb ho4; (first | have hcv5 := own_string (P := Tryd.prog) Tryd.underlying23 Tryd.underlying5 Tryd.underlying9 (Kd.own_of_R HO187.out) | have hcv5 := V_string (P := Tryd.prog) Tryd.underlying23 Tryd.underlying5 Tryd.underlying9 HO187.out)))
    go_ret
    exact ⟨by first | rfl | (simp [errW_none, errW_some] <;> rfl) | (simp [*, errW_none, errW_some] <;> rfl), by repeat (first | (with_reducible first | exact HB.out | apply below_alloc | apply pw_below_drewN | apply below_drew1) | exact HB.out)⟩
  · rw [if_neg c2] at H
    have c2b0 : decide (a0 < 10) = false := decide_eq_false c2
    clear c2
    replace H := Option.bind_eq_some_iff.mp H
    obtain ⟨t188, A60, H⟩ := H
    replace H : ((letterboxlaw17_dec.f k (Int.tmod a0 10)).bind fun t189 => (if t188.size + t189.size ≤ 9223372036854775807 then (some (t188 ++ t189)) else (none))) = some r := H
    have A6 := Aside0.mk A60
    clear A60
    replace H := Option.bind_eq_some_iff.mp H
    obtain ⟨t189, A70, H⟩ := H
    replace H : (if t188.size + t189.size ≤ 9223372036854775807 then (some (t188 ++ t189)) else (none)) = some r := H
    have A7 := Aside0.mk A70
    clear A70
    by_cases c8 : t188.size + t189.size ≤ 9223372036854775807
    · rw [if_pos c8] at H
      have c8b0 := eq_true c8
      have c8b1 : decide (t188.size + t189.size ≤ 9223372036854775807) = true := decide_eq_true c8
      try have c8b2 : (9223372036854775807 < t188.size + t189.size) = False := eq_false (Nat.not_lt.2 c8)
      obtain rfl := Option.some.inj H
      go_enter Tryd.func11, Tryd.ntmps11
      go_wp2_with (first | ((with_reducible refine gate_callee (f := 11) rfl ?_); refine goesL_ (some 12) rfl rfl Tryd.func11 (by kernel_rfl) rfl #[.int .i64 (wrap64 (Int.tdiv a0 10))] rfl (by (try simp only [List.map_toArray, List.map_cons, List.map_nil]); first | done | rfl | (simp only [List.length_drop, List.length_take]; rfl)) ?_; (with_reducible refine (ih k (by omega) (wrap64 (Int.tdiv a0 10)) t188 _ A6.out).mono ?_); rintro e w9 ⟨rfl, hb⟩; refine ⟨_, rfl, ?_⟩; have n0_ := Aside0.mk (below_step (by repeat (first | (with_reducible first | exact HB.out | apply below_alloc | apply pw_below_drewN | apply below_drew1) | exact HB.out)) hb); clear HB; have HB := n0_; clear n0_; (try clear hb); (try clear hb2); (try clear hk); (try clear hi)) | ((with_reducible refine gate_callee (f := 11) rfl ?_); refine goesL_ (some 15) rfl rfl Tryd.func11 (by kernel_rfl) rfl #[.int .i64 (Int.tmod a0 10)] rfl (by (try simp only [List.map_toArray, List.map_cons, List.map_nil]); first | done | rfl | (simp only [List.length_drop, List.length_take]; rfl)) ?_; (with_reducible refine (ih k (by omega) (Int.tmod a0 10) t189 _ A7.out).mono ?_); rintro e w10 ⟨rfl, hb⟩; refine ⟨_, rfl, ?_⟩; have n0_ := Aside0.mk (below_step (by repeat (first | (with_reducible first | exact HB.out | apply below_alloc | apply pw_below_drewN | apply below_drew1) | exact HB.out)) hb); clear HB; have HB := n0_; clear n0_; (try clear hb); (try clear hb2); (try clear hk); (try clear hi)))
      go_ret
      exact ⟨by first | rfl | (simp [errW_none, errW_some] <;> rfl) | (simp [*, errW_none, errW_some] <;> rfl), by repeat (first | (with_reducible first | exact HB.out | apply below_alloc | apply pw_below_drewN | apply below_drew1) | exact HB.out)⟩
    · rw [if_neg c8] at H
      exact absurd H (by simp)

end Go.Proofs.YtbdmhlocafpehaaDoor.P
