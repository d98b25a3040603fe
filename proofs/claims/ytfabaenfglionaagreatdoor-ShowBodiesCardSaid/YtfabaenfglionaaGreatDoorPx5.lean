/- The walks of the seat's functions, one contract a function: printed by a program of this session's (wip/gen). Not trusted: Lean checks it. -/
import Derived.Test.YtfabaenfglionaaGreatDoorShort
import Derived.Test.YtfabaenfglionaaGreatDoorPx0
import Derived.Test.YtfabaenfglionaaGreatDoorUidShow
-- halved
namespace Go.Proofs.YtfabaenfglionaaGreatDoor.P
open Go.RowKit Go.Proofs.YtfabaenfglionaaGreatDoorW.PrintWords Go.Proofs.YtfabaenfglionaaGreatDoorW.PrintLast Go.Proofs.YtfabaenfglionaaGreatDoorW.PrintMore
attribute [local go_sem] max2_int min2_int max_two min_two max_three min_three max_four min_four   -- for this text's walks alone
set_option linter.unusedVariables false
set_option linter.unusedSimpArgs false

/-! ### letterboxlaw19_big: function 11 -/
mutual
def letterboxlaw19_big.l0 : Nat → List (S40) → Int → Int → Int → Int → Int → Int → List Int → Option (Bool)
 | 0, _, _, _, _, _, _, _, _ => none
 | k + 1, x0, x2, x7, x8, x379000, x379001, x379002, x379003 => if x8 < (x0.length : Int) then (if 0 ≤ x8 then (letterboxlaw19_big.l1 k x0 x2 (wrap64 ((wrap64 (x7 + 1)) + (((rd_T40 x0 x8).f1).length : Int))) x8 0 x379000 x379001 x379002 x379003) else (none)) else (if x7 > 1500 then (some true) else (if (x0.length : Int) > 20 then (some true) else (if x379000 < 0 then (some true) else (if x379002 < 0 then (some true) else (some (decide (x2 < 0)))))))
def letterboxlaw19_big.l1 : Nat → List (S40) → Int → Int → Int → Int → Int → Int → Int → List Int → Option (Bool)
 | 0, _, _, _, _, _, _, _, _, _ => none
 | k + 1, x0, x2, x7, x8, x9, x379000, x379001, x379002, x379003 => if 0 ≤ x8 then (if x8 < (x0.length : Int) then (if x9 < (((rd_T40 x0 x8).f1).length : Int) then (if 0 ≤ x9 then (if (rd ((rd_T40 x0 x8).f1) x9) < 0 then (some true) else (letterboxlaw19_big.l1 k x0 x2 x7 x8 (wrap64 (x9 + 1)) x379000 x379001 x379002 x379003)) else (none)) else (letterboxlaw19_big.l0 k x0 x2 x7 (wrap64 (x8 + 1)) x379000 x379001 x379002 x379003)) else (none)) else (none)
end
def letterboxlaw19_big.f (k : Nat) (l0 : List (S40)) (a1_0 : Int) (a1_1 : Int) (a1_2 : Int) (l1_3 : List Int) (a2 : Int) : Option (Bool) := letterboxlaw19_big.l0 k l0 a2 (l1_3.length : Int) 0 a1_0 a1_1 a1_2 l1_3
set_option maxHeartbeats 8000000 in
set_option maxRecDepth 100000 in
theorem letterboxlaw19_big.calls (k : Nat) (A0 : Option Addr) (c0 : Nat) (l0 : List (S40)) (a1_0 : Int) (a1_1 : Int) (a1_2 : Int) (A1_3 : Option Addr) (c1_3 : Nat) (l1_3 : List Int) (a2 : Int) (r : Bool) (w : World) (hr0 : Kd.C k40 w A0 l0.length l0) (hc0 : l0.length ≤ c0) (hr1_3 : Kd.C (Kd.int .u8) w A1_3 l1_3.length l1_3) (hc1_3 : l1_3.length ≤ c1_3) (h : letterboxlaw19_big.f k l0 a1_0 a1_1 a1_2 l1_3 a2 = some r) :
  Calls Tryz.prog 11 #[.slice A0 l0.length c0, .agg #[.int .i64 a1_0, .int .i64 a1_1, .int .i64 a1_2, .slice A1_3 l1_3.length c1_3], .int .i64 a2] w fun e w' => e = .returned (.bool r) ∧ Below w.heap.size w w' := by
 have hu36 := Tryz.underlying36; have HR0 := am hr0; have HC0 := am hc0; clear hr0 hc0; have HR1_3 := am hr1_3; have HC1_3 := am hc1_3; clear hr1_3 hc1_3; have HB := am (Below.refl w.heap.size w); have H : (letterboxlaw19_big.l0 k l0 a2 (l1_3.length : Int) 0 a1_0 a1_1 a1_2 l1_3) = some r := h; clear h; have H' := am H; clear H
 go_enter Tryz.func11, Tryz.ntmps11
 go_wp2_with (first | ((with_reducible refine gate_dst (N := 4) rfl ?_); (try (refine gate_guard (by rfl) ?_; dsimp only)); refine box_event ?hg (N := 4) ?hd (cs := #[.int .i64 a1_0, .int .i64 a1_1, .int .i64 a1_2, .slice A1_3 l1_3.length c1_3]) (t := 36) ?hr ?_; (case hd => rfl); (case hg => rfl); (case hr => first | (go_simp; done) | (go_simp; rfl)); intro gb378 hg w4 hbox hb; have n0_ := am (below_step bz hb); have n1_ := am (hbox); have n2_ := am ((by rw [hg]; exact (below_size bz) : w.heap.size ≤ gb378)); have n3_ := am ((by rw [hg]; exact (below_size bz) : w.heap.size ≤ gb378)); clear HB; have HB := n0_; have BK378 := n1_; have GW378 := n2_; have GE378 := n3_; clear n0_ n1_ n2_ n3_; clear hb hbox hg; have hcz5_0 : w4.cell? ⟨gb378, 0, none⟩ = some (.int .i64 a1_0) := (blk_cell BK378.out 0).trans rfl; have hcz5_1 : w4.cell? ⟨gb378, 1, none⟩ = some (.int .i64 a1_1) := (blk_cell BK378.out 1).trans rfl; have hcz5_2 : w4.cell? ⟨gb378, 2, none⟩ = some (.int .i64 a1_2) := (blk_cell BK378.out 2).trans rfl; have hcz5_3 : w4.cell? ⟨gb378, 3, none⟩ = some (.slice A1_3 l1_3.length c1_3) := (blk_cell BK378.out 3).trans rfl; have hfz5_0 := blk_frozen BK378.out 0; have hfz5_1 := blk_frozen BK378.out 1; have hfz5_2 := blk_frozen BK378.out 2; have hfz5_3 := blk_frozen BK378.out 3))
 go_loopg [7, 8] k (fun kq v7 v8 w' => ∃ (x7_1 : Int) (x8_1 : Int), v7 = .int .i64 x7_1 ∧ v8 = .int .i64 x8_1 ∧ Aside0 (letterboxlaw19_big.l0 kq l0 a2 x7_1 x8_1 a1_0 a1_1 a1_2 l1_3 = some r) ∧ Aside0 (kq ≤ k) ∧ Aside0 (w'.heap[gb378]? = some (.cells #[.int .i64 a1_0, .int .i64 a1_1, .int .i64 a1_2, (.slice A1_3 l1_3.length c1_3)] 36 (0, 0))) ∧ Aside0 (Below w.heap.size w w'))
 case atStart => exact ⟨((l1_3.length : Int)), (0), sz, sz, H', ⟨Nat.le_refl _⟩, ⟨by (with_reducible repeat first | refine kN ?_ _ | refine kD ?_ | refine kA ?_ _); exact BK378.out⟩, ⟨by repeat (first | (with_reducible first | exact HB.out | apply bA | apply bN | apply bD | refine below_set ?_ GE378.out) | exact HB.out)⟩⟩
 case round =>
  clear H'; (try clear c1); (try clear p2); (try clear hcz5_0); (try clear hcz5_1); (try clear hcz5_2); (try clear hcz5_3); (try clear hfz5_0); (try clear hfz5_1); (try clear hfz5_2); (try clear hfz5_3); obtain ⟨x7_1, x8_1, rfl, rfl, HA, HK1, BK378, HB⟩ := hrel
  cases gk with
  | zero => exact absurd HA.out (by simp [letterboxlaw19_big.l0])
  | succ k1 =>
   have H := HA.out; clear HA; simp only [letterboxlaw19_big.l0] at H
   by_cases c6 : x8_1 < (l0.length : Int)
   ·rw [if_pos c6] at H; have c6b0 : decide (x8_1 < (l0.length : Int)) = true := decide_eq_true c6; clear c6
    by_cases c7 : 0 ≤ x8_1
    ·rw [if_pos c7] at H; have c7b0 : decide (0 ≤ x8_1) = true := decide_eq_true c7; clear c7; have H' := am H; clear H; have p379 : 0 ≤ (x8_1 : Int) := of_decide_eq_true az; have q379 : x8_1 < (l0.length : Int) := of_decide_eq_true az; obtain ⟨ad379, A379_1, c379_1, e379, hx379_0, hx379_1, hl379_1, hi379_1⟩ := at_T40 HR0.out x8_1 p379 q379
     cases e379
     replace hx379_0 := (HB.out.cell (World.block_lt_of_cell? w _ hx379_0)).trans hx379_0; replace hx379_1 := (HB.out.cell (World.block_lt_of_cell? w _ hx379_1)).trans hx379_1; have HR379_1 := am hi379_1; have HC379_1 := am hl379_1; clear hi379_1 hl379_1; replace p379 := eq_true p379; replace q379 := eq_true q379
     go_wp2
     go_loopg [9] k1 (fun kq v9 w' => ∃ (x9_2 : Int), v9 = .int .i64 x9_2 ∧ Aside0 (letterboxlaw19_big.l1 kq l0 a2 (wrap64 ((wrap64 (x7_1 + 1)) + (((rd_T40 l0 x8_1).f1).length : Int))) x8_1 x9_2 a1_0 a1_1 a1_2 l1_3 = some r) ∧ Aside0 (kq ≤ k1) ∧ Aside0 (w'.heap[gb378]? = some (.cells #[.int .i64 a1_0, .int .i64 a1_1, .int .i64 a1_2, (.slice A1_3 l1_3.length c1_3)] 36 (0, 0))) ∧ Aside0 (Below w.heap.size w w'))
     case atStart => exact ⟨(0), sz, H', ⟨Nat.le_refl _⟩, ⟨by (with_reducible repeat first | refine kN ?_ _ | refine kD ?_ | refine kA ?_ _); exact BK378.out⟩, ⟨by repeat (first | (with_reducible first | exact HB.out | apply bA | apply bN | apply bD | refine below_set ?_ GE378.out) | exact HB.out)⟩⟩
     case round =>
      clear H'; (try clear c1); (try clear p2); (try clear c3); (try clear p3); (try clear q3); (try clear hx3); (try clear c6); (try clear c6b0); (try clear p6); (try clear c7); (try clear c7b0); (try clear hcz5_0); (try clear hcz5_1); (try clear hcz5_2); (try clear hcz5_3); (try clear hfz5_0); (try clear hfz5_1); (try clear hfz5_2); (try clear hfz5_3); (try clear hx379_0); (try clear hx379_1); (try clear p2); (try clear p379); (try clear q379); obtain ⟨x9_2, rfl, HA, HK2, BK378, HB⟩ := hrel
      cases gk with
      | zero => exact absurd HA.out (by simp [letterboxlaw19_big.l1])
      | succ k2 =>
       have H := HA.out; clear HA; simp only [letterboxlaw19_big.l1] at H
       by_cases c8 : 0 ≤ x8_1
       ·rw [if_pos c8] at H; have c8b0 : decide (0 ≤ x8_1) = true := decide_eq_true c8; clear c8
        by_cases c9 : x8_1 < (l0.length : Int)
        ·rw [if_pos c9] at H; have c9b0 : decide (x8_1 < (l0.length : Int)) = true := decide_eq_true c9; clear c9
         by_cases c10 : x9_2 < (((rd_T40 l0 x8_1).f1).length : Int)
         ·rw [if_pos c10] at H; have c10b0 : decide (x9_2 < (((rd_T40 l0 x8_1).f1).length : Int)) = true := decide_eq_true c10; clear c10
          by_cases c11 : 0 ≤ x9_2
          ·rw [if_pos c11] at H; have c11b0 : decide (0 ≤ x9_2) = true := decide_eq_true c11; clear c11
           by_cases c12 : (rd ((rd_T40 l0 x8_1).f1) x9_2) < 0
           ·rw [if_pos c12] at H; have c12b0 : decide ((rd ((rd_T40 l0 x8_1).f1) x9_2) < 0) = true := decide_eq_true c12; clear c12; obtain rfl := Option.some.inj H; have p380 : 0 ≤ (x8_1 : Int) := of_decide_eq_true az; have q380 : x8_1 < (l0.length : Int) := of_decide_eq_true az; obtain ⟨ad380, A380_1, c380_1, e380, hx380_0, hx380_1, hl380_1, hi380_1⟩ := at_T40 HR0.out x8_1 p380 q380; obtain rfl : ad379 = ad380 := (by injection e380); replace hx380_0 := (HB.out.cell (World.block_lt_of_cell? w _ hx380_0)).trans hx380_0; replace hx380_1 := (HB.out.cell (World.block_lt_of_cell? w _ hx380_1)).trans hx380_1; have HR380_1 := am hi380_1; have HC380_1 := am hl380_1; clear hi380_1 hl380_1; replace p380 := eq_true p380; replace q380 := eq_true q380; have p381 : 0 ≤ (x8_1 : Int) := of_decide_eq_true az; have q381 : x8_1 < (l0.length : Int) := of_decide_eq_true az; obtain ⟨ad381, A381_1, c381_1, e381, hx381_0, hx381_1, hl381_1, hi381_1⟩ := at_T40 HR0.out x8_1 p381 q381; obtain rfl : ad379 = ad381 := (by injection e381); replace hx381_0 := (HB.out.cell (World.block_lt_of_cell? w _ hx381_0)).trans hx381_0; replace hx381_1 := (HB.out.cell (World.block_lt_of_cell? w _ hx381_1)).trans hx381_1; have HR381_1 := am hi381_1; have HC381_1 := am hl381_1; clear hi381_1 hl381_1
            replace p381 := eq_true p381; replace q381 := eq_true q381; have ea_ := Option.some.inj (hx380_1.symm.trans hx381_1)
            injection ea_ with ea_ en_ ec_
            subst ea_; subst ec_; clear en_; have p382 : 0 ≤ (x9_2 : Int) := of_decide_eq_true az; have q382 : x9_2 < (((rd_T40 l0 x8_1).f1).length : Int) := of_decide_eq_true az; obtain ⟨ad382, e382, hx382_0⟩ := Kd.at_int HR381_1.out x9_2 p382 q382
            cases e382
            replace hx382_0 := (HB.out.cell (World.block_lt_of_cell? w _ hx382_0)).trans hx382_0; replace p382 := eq_true p382; replace q382 := eq_true q382
            go_wp2
            go_ret
            exact ⟨ez, by repeat (first | (with_reducible first | exact HB.out | apply bA | apply bN | apply bD | refine below_set ?_ GE378.out) | exact HB.out)⟩
           rw [if_neg c12] at H; have c12b0 : decide ((rd ((rd_T40 l0 x8_1).f1) x9_2) < 0) = false := decide_eq_false c12; clear c12; have H' := am H; clear H; have p380 : 0 ≤ (x8_1 : Int) := of_decide_eq_true az; have q380 : x8_1 < (l0.length : Int) := of_decide_eq_true az; obtain ⟨ad380, A380_1, c380_1, e380, hx380_0, hx380_1, hl380_1, hi380_1⟩ := at_T40 HR0.out x8_1 p380 q380; obtain rfl : ad379 = ad380 := (by injection e380); replace hx380_0 := (HB.out.cell (World.block_lt_of_cell? w _ hx380_0)).trans hx380_0; replace hx380_1 := (HB.out.cell (World.block_lt_of_cell? w _ hx380_1)).trans hx380_1; have HR380_1 := am hi380_1; have HC380_1 := am hl380_1; clear hi380_1 hl380_1; replace p380 := eq_true p380; replace q380 := eq_true q380; have p381 : 0 ≤ (x8_1 : Int) := of_decide_eq_true az; have q381 : x8_1 < (l0.length : Int) := of_decide_eq_true az; obtain ⟨ad381, A381_1, c381_1, e381, hx381_0, hx381_1, hl381_1, hi381_1⟩ := at_T40 HR0.out x8_1 p381 q381; obtain rfl : ad379 = ad381 := (by injection e381); replace hx381_0 := (HB.out.cell (World.block_lt_of_cell? w _ hx381_0)).trans hx381_0; replace hx381_1 := (HB.out.cell (World.block_lt_of_cell? w _ hx381_1)).trans hx381_1; have HR381_1 := am hi381_1; have HC381_1 := am hl381_1; clear hi381_1 hl381_1
           replace p381 := eq_true p381; replace q381 := eq_true q381; have ea_ := Option.some.inj (hx380_1.symm.trans hx381_1)
           injection ea_ with ea_ en_ ec_
           subst ea_; subst ec_; clear en_; have p382 : 0 ≤ (x9_2 : Int) := of_decide_eq_true az; have q382 : x9_2 < (((rd_T40 l0 x8_1).f1).length : Int) := of_decide_eq_true az; obtain ⟨ad382, e382, hx382_0⟩ := Kd.at_int HR381_1.out x9_2 p382 q382
           cases e382
           replace hx382_0 := (HB.out.cell (World.block_lt_of_cell? w _ hx382_0)).trans hx382_0; replace p382 := eq_true p382; replace q382 := eq_true q382
           go_wp2
           go_roundg k2
           case measure => have := HK1.out; have := HK2.out; omega
           case rel => exact ⟨(wrap64 (x9_2 + 1)), sz, H', ⟨by have := HK1.out; have := HK2.out; omega⟩, ⟨by (with_reducible repeat first | refine kN ?_ _ | refine kD ?_ | refine kA ?_ _); exact BK378.out⟩, ⟨by repeat (first | (with_reducible first | exact HB.out | apply bA | apply bN | apply bD | refine below_set ?_ GE378.out) | exact HB.out)⟩⟩
          rw [if_neg c11] at H
          exact absurd H (by simp)
         rw [if_neg c10] at H; have c10b0 : decide (x9_2 < (((rd_T40 l0 x8_1).f1).length : Int)) = false := decide_eq_false c10; clear c10; have H' := am H; clear H; have p380 : 0 ≤ (x8_1 : Int) := of_decide_eq_true az; have q380 : x8_1 < (l0.length : Int) := of_decide_eq_true az; obtain ⟨ad380, A380_1, c380_1, e380, hx380_0, hx380_1, hl380_1, hi380_1⟩ := at_T40 HR0.out x8_1 p380 q380; obtain rfl : ad379 = ad380 := (by injection e380); replace hx380_0 := (HB.out.cell (World.block_lt_of_cell? w _ hx380_0)).trans hx380_0; replace hx380_1 := (HB.out.cell (World.block_lt_of_cell? w _ hx380_1)).trans hx380_1; have HR380_1 := am hi380_1; have HC380_1 := am hl380_1; clear hi380_1 hl380_1; replace p380 := eq_true p380; replace q380 := eq_true q380
         go_wp2
         go_roundg k2
         case measure => have := HK1.out; have := HK2.out; omega
         case rel => exact ⟨((wrap64 ((wrap64 (x7_1 + 1)) + (((rd_T40 l0 x8_1).f1).length : Int)))), (wrap64 (x8_1 + 1)), sz, sz, H', ⟨by have := HK1.out; have := HK2.out; omega⟩, ⟨by (with_reducible repeat first | refine kN ?_ _ | refine kD ?_ | refine kA ?_ _); exact BK378.out⟩, ⟨by repeat (first | (with_reducible first | exact HB.out | apply bA | apply bN | apply bD | refine below_set ?_ GE378.out) | exact HB.out)⟩⟩
        rw [if_neg c9] at H
        exact absurd H (by simp)
       rw [if_neg c8] at H
       exact absurd H (by simp)
    rw [if_neg c7] at H
    exact absurd H (by simp)
   rw [if_neg c6] at H; have c6b0 : decide (x8_1 < (l0.length : Int)) = false := decide_eq_false c6; clear c6
   by_cases c13 : x7_1 > 1500
   ·rw [if_pos c13] at H; have c13b0 : decide (1500 < x7_1) = true := decide_eq_true c13; clear c13; obtain rfl := Option.some.inj H
    go_wp2
    go_ret
    exact ⟨ez, by repeat (first | (with_reducible first | exact HB.out | apply bA | apply bN | apply bD | refine below_set ?_ GE378.out) | exact HB.out)⟩
   rw [if_neg c13] at H; have c13b0 : decide (1500 < x7_1) = false := decide_eq_false c13; clear c13
   by_cases c14 : (l0.length : Int) > 20
   ·rw [if_pos c14] at H; have c14b0 : decide (20 < (l0.length : Int)) = true := decide_eq_true c14; have c14b1 : decide (20 < l0.length) = true := decide_eq_true (by omega); clear c14; obtain rfl := Option.some.inj H
    go_wp2
    go_ret
    exact ⟨ez, by repeat (first | (with_reducible first | exact HB.out | apply bA | apply bN | apply bD | refine below_set ?_ GE378.out) | exact HB.out)⟩
   rw [if_neg c14] at H; have c14b0 : decide (20 < (l0.length : Int)) = false := decide_eq_false c14; have c14b1 : decide (20 < l0.length) = false := decide_eq_false (by omega); clear c14
   by_cases c15 : a1_0 < 0
   ·rw [if_pos c15] at H; have c15b0 : decide (a1_0 < 0) = true := decide_eq_true c15; clear c15; obtain rfl := Option.some.inj H; have hcz16_0 : wr.cell? ⟨gb378, 0, none⟩ = some (.int .i64 a1_0) := (blk_cell BK378.out 0).trans rfl; have hcz16_1 : wr.cell? ⟨gb378, 1, none⟩ = some (.int .i64 a1_1) := (blk_cell BK378.out 1).trans rfl; have hcz16_2 : wr.cell? ⟨gb378, 2, none⟩ = some (.int .i64 a1_2) := (blk_cell BK378.out 2).trans rfl; have hcz16_3 : wr.cell? ⟨gb378, 3, none⟩ = some (.slice A1_3 l1_3.length c1_3) := (blk_cell BK378.out 3).trans rfl; have hfz16_0 := blk_frozen BK378.out 0; have hfz16_1 := blk_frozen BK378.out 1; have hfz16_2 := blk_frozen BK378.out 2; have hfz16_3 := blk_frozen BK378.out 3
    go_wp2
    go_ret
    exact ⟨ez, by repeat (first | (with_reducible first | exact HB.out | apply bA | apply bN | apply bD | refine below_set ?_ GE378.out) | exact HB.out)⟩
   rw [if_neg c15] at H; have c15b0 : decide (a1_0 < 0) = false := decide_eq_false c15; clear c15
   by_cases c17 : a1_2 < 0
   ·rw [if_pos c17] at H; have c17b0 : decide (a1_2 < 0) = true := decide_eq_true c17; clear c17; obtain rfl := Option.some.inj H; have hcz18_0 : wr.cell? ⟨gb378, 0, none⟩ = some (.int .i64 a1_0) := (blk_cell BK378.out 0).trans rfl; have hcz18_1 : wr.cell? ⟨gb378, 1, none⟩ = some (.int .i64 a1_1) := (blk_cell BK378.out 1).trans rfl; have hcz18_2 : wr.cell? ⟨gb378, 2, none⟩ = some (.int .i64 a1_2) := (blk_cell BK378.out 2).trans rfl; have hcz18_3 : wr.cell? ⟨gb378, 3, none⟩ = some (.slice A1_3 l1_3.length c1_3) := (blk_cell BK378.out 3).trans rfl; have hfz18_0 := blk_frozen BK378.out 0; have hfz18_1 := blk_frozen BK378.out 1; have hfz18_2 := blk_frozen BK378.out 2; have hfz18_3 := blk_frozen BK378.out 3
    go_wp2
    go_ret
    exact ⟨ez, by repeat (first | (with_reducible first | exact HB.out | apply bA | apply bN | apply bD | refine below_set ?_ GE378.out) | exact HB.out)⟩
   rw [if_neg c17] at H; have c17b0 : decide (a1_2 < 0) = false := decide_eq_false c17; clear c17; obtain rfl := Option.some.inj H; have hcz19_0 : wr.cell? ⟨gb378, 0, none⟩ = some (.int .i64 a1_0) := (blk_cell BK378.out 0).trans rfl; have hcz19_1 : wr.cell? ⟨gb378, 1, none⟩ = some (.int .i64 a1_1) := (blk_cell BK378.out 1).trans rfl; have hcz19_2 : wr.cell? ⟨gb378, 2, none⟩ = some (.int .i64 a1_2) := (blk_cell BK378.out 2).trans rfl; have hcz19_3 : wr.cell? ⟨gb378, 3, none⟩ = some (.slice A1_3 l1_3.length c1_3) := (blk_cell BK378.out 3).trans rfl; have hfz19_0 := blk_frozen BK378.out 0; have hfz19_1 := blk_frozen BK378.out 1; have hfz19_2 := blk_frozen BK378.out 2; have hfz19_3 := blk_frozen BK378.out 3
   go_wp2
   go_ret
   exact ⟨ez, by repeat (first | (with_reducible first | exact HB.out | apply bA | apply bN | apply bD | refine below_set ?_ GE378.out) | exact HB.out)⟩

end Go.Proofs.YtfabaenfglionaaGreatDoor.P
