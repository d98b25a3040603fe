/- The walks of the seat's functions, one contract a function: printed by a program of this session's (wip/gen). Not trusted: Lean checks it. -/
import Derived.Test.YtfabaenfglionaaGreatDoorShort
import Derived.Test.YtfabaenfglionaaGreatDoorPx0
import Derived.Test.YtfabaenfglionaaGreatDoorPx1
import Derived.Test.YtfabaenfglionaaGreatDoorPx2
import Derived.Test.YtfabaenfglionaaGreatDoorPx3
import Derived.Test.YtfabaenfglionaaGreatDoorPx119
import Derived.Test.YtfabaenfglionaaGreatDoorUidShow
-- halved
namespace Go.Proofs.YtfabaenfglionaaGreatDoor.P
open Go.RowKit Go.Proofs.YtfabaenfglionaaGreatDoorW.PrintWords Go.Proofs.YtfabaenfglionaaGreatDoorW.PrintLast Go.Proofs.YtfabaenfglionaaGreatDoorW.PrintMore
attribute [local go_sem] max2_int min2_int max_two min_two max_three min_three max_four min_four   -- for this text's walks alone
set_option linter.unusedVariables false
set_option linter.unusedSimpArgs false

/-! ### show_Show: function 12 -/
mutual
def show_Show.j0 : Nat → List (S40) → Int → List ByteArray → Bool → Int → Int → Int → List Int → Option (ByteArray)
 | 0, _, _, _, _, _, _, _, _ => none
 | k + 1, x0, x2, x9, x17, x357000, x357001, x357002, x357003 => if x17 = true then (none) else (show_Show.j1 k x0 x2 x9 x357000 x357001 x357002 x357003)
def show_Show.j1 : Nat → List (S40) → Int → List ByteArray → Int → Int → Int → List Int → Option (ByteArray)
 | 0, _, _, _, _, _, _, _ => none
 | k + 1, x0, x2, x9, x357000, x357001, x357002, x357003 => show_Show.l0 k x2 x9 x0 (x0.length : Int) 0 x357000 x357001 x357002 x357003
def show_Show.l0 : Nat → Int → List ByteArray → List (S40) → Int → Int → Int → Int → Int → List Int → Option (ByteArray)
 | 0, _, _, _, _, _, _, _, _, _ => none
 | k + 1, x2, x9, x24, x25, x26, x357000, x357001, x357002, x357003 => if x26 < x25 then (if 0 ≤ x26 then (if x26 < (x24.length : Int) then ((show_told.f k ((rd_T40 x24 x26).f0) ((rd_T40 x24 x26).f1) x357000 x357001 x357002 x357003).bind fun t364 => (if x9.length < 8796093022208 then (show_Show.l0 k x2 (x9 ++ [t364]) x24 x25 (wrap64 (x26 + 1)) x357000 x357001 x357002 x357003) else (none))) else (none)) else (none)) else ((strconv_Itoa.f x2).bind fun t368 => (if 2 + t368.size ≤ 9223372036854775807 then (if 2 + t368.size + 8 ≤ 9223372036854775807 then ((strings_Join.f x9 (⟨#[32]⟩ : ByteArray)).bind fun t369 => (if 2 + t368.size + 8 + t369.size ≤ 9223372036854775807 then (if 2 + t368.size + 8 + t369.size + 1 ≤ 9223372036854775807 then (if 2 + t368.size + 8 + t369.size + 1 + 2 ≤ 9223372036854775807 then (some ((((((⟨#[42, 32]⟩ : ByteArray) ++ t368) ++ (⟨#[32, 70, 69, 84, 67, 72, 32, 40]⟩ : ByteArray)) ++ t369) ++ (⟨#[41]⟩ : ByteArray)) ++ (⟨#[13, 10]⟩ : ByteArray))) else (none)) else (none)) else (none))) else (none)) else (none)))
end
def show_Show.f (k : Nat) (l0 : List (S40)) (a1_0 : Int) (a1_1 : Int) (a1_2 : Int) (l1_3 : List Int) (a2 : Int) (a3 : Bool) : Option (ByteArray) := if a3 = true then (none) else (show_Show.j0 k l0 a2 ([] : List ByteArray) false a1_0 a1_1 a1_2 l1_3)
set_option maxHeartbeats 8000000 in
set_option maxRecDepth 100000 in
theorem show_Show.calls (k : Nat) (A0 : Option Addr) (c0 : Nat) (l0 : List (S40)) (a1_0 : Int) (a1_1 : Int) (a1_2 : Int) (A1_3 : Option Addr) (c1_3 : Nat) (l1_3 : List Int) (a2 : Int) (a3 : Bool) (r : ByteArray) (w : World) (hr0 : Kd.C k40 w A0 l0.length l0) (hc0 : l0.length ≤ c0) (hr1_3 : Kd.C (Kd.int .u8) w A1_3 l1_3.length l1_3) (hc1_3 : l1_3.length ≤ c1_3) (HL0 : Laid w) (h : show_Show.f k l0 a1_0 a1_1 a1_2 l1_3 a2 a3 = some r) :
  Calls Tryz.prog 12 #[.slice A0 l0.length c0, .agg #[.int .i64 a1_0, .int .i64 a1_1, .int .i64 a1_2, .slice A1_3 l1_3.length c1_3], .int .i64 a2, .bool a3] w fun e w' => e = .returned (.string r) ∧ Below w.heap.size w w' := by
 have HLd := am HL0; clear HL0; have hu36 := Tryz.underlying36; have hu40 := Tryz.underlying40; have HR0 := am hr0; have HC0 := am hc0; clear hr0 hc0; have HR1_3 := am hr1_3; have HC1_3 := am hc1_3; clear hr1_3 hc1_3; have HB := am (Below.refl w.heap.size w); have H : (if a3 = true then (none) else (show_Show.j0 k l0 a2 ([] : List ByteArray) false a1_0 a1_1 a1_2 l1_3)) = some r := h; clear h; have HC5 := am H; clear H
 go_enter Tryz.func12, Tryz.ntmps12
 go_upto_region 2 with (first | ((with_reducible refine gate_dst (N := 5) rfl ?_); refine box_event ?hg (N := 5) ?hd (cs := #[.int .i64 a1_0, .int .i64 a1_1, .int .i64 a1_2, .slice A1_3 l1_3.length c1_3]) (t := 36) ?hr ?_; (case hd => rfl); (case hg => rfl); (case hr => first | (go_simp; done) | (go_simp; rfl)); intro gb356 hg w6 hbox hb; have n0_ := am (below_step bz hb); have n1_ := am (hbox); have n2_ := am ((by rw [hg]; exact (below_size bz) : w.heap.size ≤ gb356)); have n3_ := am ((by rw [hg]; exact (below_size bz) : w.heap.size ≤ gb356)); clear HB; have HB := n0_; have BK356 := n1_; have GW356 := n2_; have GE356 := n3_; clear n0_ n1_ n2_ n3_; clear hb hbox hg))
 (try simp only [Act.put, List.setIfInBounds_toArray, List.set_cons_zero, List.set_cons_succ])
 go_cut [17] (fun v17 wc => ∃ (kq : Nat) (x17_4 : Bool), v17 = .bool x17_4 ∧ Aside0 (show_Show.j0 kq l0 a2 ([] : List ByteArray) x17_4 a1_0 a1_1 a1_2 l1_3 = some r) ∧ Aside0 (kq ≤ k) ∧ Aside0 (Kd.R Kd.string 9 wc w.heap.size (fun _ => True) (.slice none 0 0) ([] : List ByteArray)) ∧ Aside0 (wc.heap[gb356]? = some (.cells #[.int .i64 a1_0, .int .i64 a1_1, .int .i64 a1_2, (.slice A1_3 l1_3.length c1_3)] 36 (0, 0))) ∧ Aside0 (Below w.heap.size w wc))
 case first =>
  have H := HC5.out; clear HC5
  by_cases c7 : a3 = true
  ·subst c7; rw [if_pos rfl] at H
   cases H
  replace c7 := Bool.eq_false_iff.mpr c7; subst c7
  have H1 : (show_Show.j0 k l0 a2 ([] : List ByteArray) false a1_0 a1_1 a1_2 l1_3) = some r := by rw [if_neg (show ¬ (false = true) by decide)] at H; exact H
  clear H; have H := H1; clear H1; have H' := am H; clear H
  go_wp2
  go_meet
  case rel => exact ⟨_, (false), sz, H', ⟨by first | omega | exact Nat.le_refl _⟩, ⟨nl⟩, ⟨by (with_reducible repeat first | refine kN ?_ _ | refine kD ?_ | refine kA ?_ _); exact BK356.out⟩, ⟨by repeat (first | (with_reducible first | exact HB.out | apply bA | apply bN | apply bD | refine below_set ?_ GE356.out) | exact HB.out)⟩⟩
 case rest =>
  clear HC5; (try clear c1); (try clear p2); (try clear c7); obtain ⟨kq, x17_4, rfl, HA, HJ4, HO_9, BK356, HB⟩ := hcut
  cases kq with
  | zero => exact absurd HA.out (by simp [show_Show.j0])
  | succ kj4 =>
   have H := HA.out; clear HA; simp only [show_Show.j0] at H; have HC10 := am H; clear H
   go_upto_if 17 with (fail)
   go_cut [9] (fun v9 wc => ∃ (kq : Nat) (x9_9 : List ByteArray), Aside0 (show_Show.j1 kq l0 a2 x9_9 a1_0 a1_1 a1_2 l1_3 = some r) ∧ Aside0 (kq ≤ kj4) ∧ Aside0 (Kd.R Kd.string 9 wc w.heap.size (fun _ => True) v9 x9_9) ∧ Aside0 (wc.heap[gb356]? = some (.cells #[.int .i64 a1_0, .int .i64 a1_1, .int .i64 a1_2, (.slice A1_3 l1_3.length c1_3)] 36 (0, 0))) ∧ Aside0 (Below w.heap.size w wc))
   case first =>
    have H := HC10.out; clear HC10
    by_cases c11 : x17_4 = true
    ·subst c11; rw [if_pos rfl] at H
     cases H
    replace c11 := Bool.eq_false_iff.mpr c11; subst c11
    have H1 : (show_Show.j1 kj4 l0 a2 ([] : List ByteArray) a1_0 a1_1 a1_2 l1_3) = some r := by rw [if_neg (show ¬ (false = true) by decide)] at H; exact H
    clear H; have H := H1; clear H1; have H' := am H; clear H
    go_wp2
    go_meet
    case rel => exact ⟨_, (([] : List ByteArray)), H', ⟨by have := HJ4.out; first | omega | exact Nat.le_refl _⟩, ⟨rz HO_9.out⟩, ⟨by (with_reducible repeat first | refine kN ?_ _ | refine kD ?_ | refine kA ?_ _); exact BK356.out⟩, ⟨by repeat (first | (with_reducible first | exact HB.out | apply bA | apply bN | apply bD | refine below_set ?_ GE356.out) | exact HB.out)⟩⟩
   case rest =>
    clear HC10; (try clear c1); (try clear p2); (try clear c7); (try clear c11); (try clear c12); (try clear c13); (try clear hcz14_0); (try clear hcz14_1); (try clear hcz14_2); (try clear hcz14_3); (try clear hfz14_0); (try clear hfz14_1); (try clear hfz14_2); (try clear hfz14_3); (try clear p2); obtain ⟨kq, x9_9, HA, HJ9, HO_9, BK356, HB⟩ := hcut
    cases kq with
    | zero => exact absurd HA.out (by simp [show_Show.j1])
    | succ kj9 =>
     have H := HA.out; clear HA; simp only [show_Show.j1] at H; have H' := am H; clear H
     go_wp2
     go_loopg [9, 26] kj9 (fun kq v9 v26 w' => ∃ (x9_3 : List ByteArray) (x26_3 : Int), v26 = .int .i64 x26_3 ∧ Aside0 (show_Show.l0 kq a2 x9_3 l0 (l0.length : Int) x26_3 a1_0 a1_1 a1_2 l1_3 = some r) ∧ Aside0 (kq ≤ kj9) ∧ Aside0 (Kd.R Kd.string 9 w' w.heap.size (fun _ => True) v9 x9_3) ∧ Aside0 (w'.heap[gb356]? = some (.cells #[.int .i64 a1_0, .int .i64 a1_1, .int .i64 a1_2, (.slice A1_3 l1_3.length c1_3)] 36 (0, 0))) ∧ Aside0 (Below w.heap.size w w'))
     case atStart => exact ⟨(x9_9), (0), sz, H', ⟨Nat.le_refl _⟩, ⟨rz HO_9.out⟩, ⟨by (with_reducible repeat first | refine kN ?_ _ | refine kD ?_ | refine kA ?_ _); exact BK356.out⟩, ⟨by repeat (first | (with_reducible first | exact HB.out | apply bA | apply bN | apply bD | refine below_set ?_ GE356.out) | exact HB.out)⟩⟩
     case round =>
      clear H'; (try clear c1); (try clear p2); (try clear c7); (try clear c11); (try clear c12); (try clear c13); (try clear hcz14_0); (try clear hcz14_1); (try clear hcz14_2); (try clear hcz14_3); (try clear hfz14_0); (try clear hfz14_1); (try clear hfz14_2); (try clear hfz14_3); (try clear p2); obtain ⟨x9_3, x26_3, rfl, HA, HK3, HO_9, BK356, HB⟩ := hrel
      cases gk with
      | zero => exact absurd HA.out (by simp [show_Show.l0])
      | succ k3 =>
       have H := HA.out; clear HA; simp only [show_Show.l0] at H
       by_cases c17 : x26_3 < (l0.length : Int)
       ·rw [if_pos c17] at H; have c17b0 : decide (x26_3 < (l0.length : Int)) = true := decide_eq_true c17; clear c17
        by_cases c18 : 0 ≤ x26_3
        ·rw [if_pos c18] at H; have c18b0 : decide (0 ≤ x26_3) = true := decide_eq_true c18; clear c18
         by_cases c19 : x26_3 < (l0.length : Int)
         ·rw [if_pos c19] at H; have c19b0 : decide (x26_3 < (l0.length : Int)) = true := decide_eq_true c19; clear c19; replace H := Option.bind_eq_some_iff.mp H; obtain ⟨t364, A200, H⟩ := H; (try dsimp only at H); have A20 := am A200; clear A200
          by_cases c21 : x9_3.length < 8796093022208
          ·rw [if_pos c21] at H; have LMc21 := am c21; clear c21; obtain ⟨y365, hy365⟩ : ∃ y_ : List ByteArray, y_ = (x9_3 ++ [t364]) := ⟨_, rfl⟩
           replace H : (show_Show.l0 k3 a2 y365 l0 (l0.length : Int) (wrap64 (x26_3 + 1)) a1_0 a1_1 a1_2 l1_3) = some r := by first | (rw [hy365]; with_reducible exact H) | (have H2_ := (Option.bind_some _ _).symm.trans H; rw [hy365]; with_reducible exact H2_) | (have H2_ := (Option.bind_some _ _).symm.trans H; with_reducible exact H2_) | with_reducible exact H | (rw [hy365]; exact H) | exact H
           have Ny365 := am hy365; clear hy365; have H' := am H; clear H; have p362 : 0 ≤ (x26_3 : Int) := of_decide_eq_true az; have q362 : x26_3 < (l0.length : Int) := of_decide_eq_true az; obtain ⟨ad362, A362_1, c362_1, e362, hx362_0, hx362_1, hl362_1, hi362_1⟩ := at_T40 HR0.out x26_3 p362 q362
           cases e362
           replace hx362_0 := (HB.out.cell (World.block_lt_of_cell? w _ hx362_0)).trans hx362_0; replace hx362_1 := (HB.out.cell (World.block_lt_of_cell? w _ hx362_1)).trans hx362_1; have HR362_1 := am hi362_1; have HC362_1 := am hl362_1; clear hi362_1 hl362_1; replace p362 := eq_true p362; replace q362 := eq_true q362
           go_wp2_with (first | ((with_reducible refine gate_dst (N := 11) rfl ?_); refine box_event ?hg (N := 11) ?hd (cs := #[.int .i64 0, .slice none 0 0]) (t := 40) ?hr ?_; (case hd => rfl); (case hg => rfl); (case hr => first | (go_simp; done) | (go_simp; rfl)); intro gb363 hg w22 hbox hb; have n0_ := am (Kd.R_below (rz HO_9.out) hb); have n1_ := am (bx BK356.out hb); have n2_ := am (below_step (by repeat (first | (with_reducible first | exact HB.out | apply bA | apply bN | apply bD | refine below_set ?_ GE356.out) | exact HB.out)) hb); have n3_ := am (hbox); have n4_ := am ((by rw [hg]; exact (below_size (by repeat (first | (with_reducible first | exact HB.out | apply bA | apply bN | apply bD | refine below_set ?_ GE356.out) | exact HB.out))) : w.heap.size ≤ gb363)); have n5_ := am ((by rw [hg]; exact (below_size (by repeat (first | (with_reducible first | exact HB.out | apply bA | apply bN | apply bD | refine below_set ?_ GE356.out) | exact HB.out))) : w.heap.size ≤ gb363)); have n6_ := am ((by rw [hg]; exact Nat.ne_of_lt (blk_lt (g := gb356) (o := .cells #[.int .i64 a1_0, .int .i64 a1_1, .int .i64 a1_2, .slice A1_3 l1_3.length c1_3] 36 (0, 0)) (by (with_reducible repeat first | refine kN ?_ _ | refine kD ?_ | refine kA ?_ _); exact BK356.out)) : gb356 ≠ gb363)); have n7_ := am ((by rw [hg]; exact Nat.ne_of_gt (blk_lt (g := gb356) (o := .cells #[.int .i64 a1_0, .int .i64 a1_1, .int .i64 a1_2, .slice A1_3 l1_3.length c1_3] 36 (0, 0)) (by (with_reducible repeat first | refine kN ?_ _ | refine kD ?_ | refine kA ?_ _); exact BK356.out)) : gb363 ≠ gb356)); clear HO_9 BK356 HB; have HO_9 := n0_; have BK356 := n1_; have HB := n2_; have BK363 := n3_; have GW363 := n4_; have GE363 := n5_; have NB356_363 := n6_; have NB363_356 := n7_; clear n0_ n1_ n2_ n3_ n4_ n5_ n6_ n7_; clear hb hbox hg; have hnb23 := NB363_356.out; have hnc23 := NB356_363.out; have hcz24_0 : w22.cell? ⟨gb363, 0, none⟩ = some (.int .i64 0) := (blk_cell BK363.out 0).trans rfl; have hcz24_1 : w22.cell? ⟨gb363, 1, none⟩ = some (.slice none 0 0) := (blk_cell BK363.out 1).trans rfl; have hfz24_0 := blk_frozen BK363.out 0; have hfz24_1 := blk_frozen BK363.out 1; have hcz25_0 : w22.cell? ⟨gb356, 0, none⟩ = some (.int .i64 a1_0) := (blk_cell BK356.out 0).trans rfl; have hcz25_1 : w22.cell? ⟨gb356, 1, none⟩ = some (.int .i64 a1_1) := (blk_cell BK356.out 1).trans rfl; have hcz25_2 : w22.cell? ⟨gb356, 2, none⟩ = some (.int .i64 a1_2) := (blk_cell BK356.out 2).trans rfl; have hcz25_3 : w22.cell? ⟨gb356, 3, none⟩ = some (.slice A1_3 l1_3.length c1_3) := (blk_cell BK356.out 3).trans rfl; have hfz25_0 := blk_frozen BK356.out 0; have hfz25_1 := blk_frozen BK356.out 1; have hfz25_2 := blk_frozen BK356.out 2; have hfz25_3 := blk_frozen BK356.out 3) | ((with_reducible refine gate_callee (f := 19) rfl ?_); refine goesL_ (some 33) rfl rfl Tryz.func19 (by kernel_rfl) rfl #[.agg #[.int .i64 ((rd_T40 l0 x26_3).f0), .slice A362_1 ((rd_T40 l0 x26_3).f1).length c362_1], .agg #[.int .i64 a1_0, .int .i64 a1_1, .int .i64 a1_2, .slice A1_3 l1_3.length c1_3]] rfl mz ?_; (with_reducible refine (show_told.calls k3 ((rd_T40 l0 x26_3).f0) _ _ ((rd_T40 l0 x26_3).f1) a1_0 a1_1 a1_2 _ _ l1_3 t364 _ ?side1 ?side2 ?side3 ?side4 (Laid.below HLd.out (by repeat (first | (with_reducible first | exact HB.out | apply bA | apply bN | apply bD | refine below_set ?_ GE356.out | refine below_set ?_ GE363.out) | exact HB.out))) A20.out).mono ?_); (case side1 => exact Kd.C_below HR362_1.out (by repeat (first | (with_reducible first | exact HB.out | apply bA | apply bN | apply bD | refine below_set ?_ GE356.out | refine below_set ?_ GE363.out) | exact HB.out))); (case side2 => exact HC362_1.out); (case side3 => exact Kd.C_below HR1_3.out (by repeat (first | (with_reducible first | exact HB.out | apply bA | apply bN | apply bD | refine below_set ?_ GE356.out | refine below_set ?_ GE363.out) | exact HB.out))); (case side4 => exact HC1_3.out); rintro e w26 ⟨rfl, hb⟩; refine ⟨_, rfl, ?_⟩; have n0_ := am (Kd.R_below (by (with_reducible repeat first | apply rA | apply rN | apply rD); exact (Kd.R_mono (Kd.R_far (p := ⟨gb363, 1, none⟩) (Kd.R_far (p := ⟨gb363, 0, none⟩) (Kd.R_types HO_9.out BK363.out (by decide)) (fun _ hk => hk.2) (.int .i64 ((rd_T40 l0 x26_3).f0))) (fun _ hk => hk.2) (.slice A362_1 ((rd_T40 l0 x26_3).f1).length c362_1)) (fun _ h_ => h_.1))) hb); have n1_ := am (blk_below (g := gb356) (o := .cells #[.int .i64 a1_0, .int .i64 a1_1, .int .i64 a1_2, .slice A1_3 l1_3.length c1_3] 36 (0, 0)) (by (with_reducible repeat first | refine kN ?_ _ | refine kD ?_ | refine kA ?_ _); refine blk_far ?_ NB356_363.out _; (with_reducible repeat first | refine kN ?_ _ | refine kD ?_ | refine kA ?_ _); refine blk_far ?_ NB356_363.out _; (with_reducible repeat first | refine kN ?_ _ | refine kD ?_ | refine kA ?_ _); exact BK356.out) hb); have n2_ := am (blk_below (g := gb363) (o := .cells #[.int .i64 ((rd_T40 l0 x26_3).f0), .slice A362_1 ((rd_T40 l0 x26_3).f1).length c362_1] 40 (0, 0)) (by (with_reducible repeat first | refine kN ?_ _ | refine kD ?_ | refine kA ?_ _); refine blk_put (cs := #[.int .i64 ((rd_T40 l0 x26_3).f0), .slice none 0 0]) ?_ 1 _ rfl; (with_reducible repeat first | refine kN ?_ _ | refine kD ?_ | refine kA ?_ _); refine blk_put (cs := #[.int .i64 0, .slice none 0 0]) ?_ 0 _ rfl; (with_reducible repeat first | refine kN ?_ _ | refine kD ?_ | refine kA ?_ _); exact BK363.out) hb); have n3_ := am (below_step (by repeat (first | (with_reducible first | exact HB.out | apply bA | apply bN | apply bD | refine below_set ?_ GE356.out | refine below_set ?_ GE363.out) | exact HB.out)) hb); clear HO_9 BK356 BK363 HB; have HO_9 := n0_; have BK356 := n1_; have BK363 := n2_; have HB := n3_; clear n0_ n1_ n2_ n3_; (try clear hb); (try clear hb2); (try clear hk); (try clear hi)) | ((with_reducible refine gate_builtin (b := .append) (xs := #[.tmp 30, .tmp 34]) rfl ?_); at_builtin; refine Kd.R_append Kd.string (w0 := w) w.heap.size rfl (.tmp 30) (.tmp 34) 49 9 (.string ⟨#[]⟩) 16 rfl Tryz.underlying49 info9 rfl (by decide) (by omega) u9 x9_3 t364 [.string t364] (fun _ => True) (fun _ => False) rfl rfl ?aP (fun _ hk => hk.elim) ?aF ?aO ?aB ?aS ?aL ?_; (case aP => exact rfl); (case aB => exact (by repeat (first | (with_reducible first | exact HB.out | apply bA | apply bN | apply bD | refine below_set ?_ GE356.out | refine below_set ?_ GE363.out) | exact HB.out))); (case aF => exact (fun _ _ => trivial)); (case aO => exact (rz HO_9.out)); (case aS => exact (below_size (by repeat (first | (with_reducible first | exact HB.out | apply bA | apply bN | apply bD | refine below_set ?_ GE356.out | refine below_set ?_ GE363.out) | exact HB.out)))); (case aL => have := LMc21.out; omega); intro v366 w27 ho hb hg hat; (first | rw [← Ny365.out] at ho | (simp only [Int.reduceToNat] at ho; rw [← Ny365.out] at ho)); have n0_ := am (blk_grown (g := gb356) (o := .cells #[.int .i64 a1_0, .int .i64 a1_1, .int .i64 a1_2, .slice A1_3 l1_3.length c1_3] 36 (0, 0)) (by (with_reducible repeat first | refine kN ?_ _ | refine kD ?_ | refine kA ?_ _); exact BK356.out) hg (Kd.R_ne HO_9.out BK356.out (by decide))); have n1_ := am (blk_grown (g := gb363) (o := .cells #[.int .i64 ((rd_T40 l0 x26_3).f0), .slice A362_1 ((rd_T40 l0 x26_3).f1).length c362_1] 40 (0, 0)) (by (with_reducible repeat first | refine kN ?_ _ | refine kD ?_ | refine kA ?_ _); exact BK363.out) hg (Kd.R_ne HO_9.out BK363.out (by decide))); have n2_ := am (hb); have n3_ := am (ho); clear BK356 BK363 HB HO_9; have BK356 := n0_; have BK363 := n1_; have HB := n2_; have HO367 := n3_; clear n0_ n1_ n2_ n3_; clear ho hb hg hat))
           go_roundg k3
           case measure => have := HJ4.out; have := HJ9.out; have := HK3.out; omega
           case rel => exact ⟨(y365), (wrap64 (x26_3 + 1)), sz, H', ⟨by have := HJ4.out; have := HJ9.out; have := HK3.out; omega⟩, ⟨rz HO367.out⟩, ⟨by (with_reducible repeat first | refine kN ?_ _ | refine kD ?_ | refine kA ?_ _); exact BK356.out⟩, ⟨by repeat (first | (with_reducible first | exact HB.out | apply bA | apply bN | apply bD | refine below_set ?_ GE356.out | refine below_set ?_ GE363.out) | exact HB.out)⟩⟩
          rw [if_neg c21] at H
          exact absurd H (by simp)
         rw [if_neg c19] at H
         exact absurd H (by simp)
        rw [if_neg c18] at H
        exact absurd H (by simp)
       rw [if_neg c17] at H; have c17b0 : decide (x26_3 < (l0.length : Int)) = false := decide_eq_false c17; clear c17; replace H := Option.bind_eq_some_iff.mp H; obtain ⟨t368, A280, H⟩ := H; (try dsimp only at H); have A28 := am A280; clear A280
       by_cases c29 : 2 + t368.size ≤ 9223372036854775807
       ·rw [if_pos c29] at H; have c29b0 := eq_true c29; have c29b1 : decide (2 + t368.size ≤ 9223372036854775807) = true := decide_eq_true c29
        try have c29b2 : (9223372036854775807 < 2 + t368.size) = False := eq_false (Nat.not_lt.2 c29)
        by_cases c30 : 2 + t368.size + 8 ≤ 9223372036854775807
        ·rw [if_pos c30] at H; have c30b0 := eq_true c30; have c30b1 : decide (2 + t368.size + 8 ≤ 9223372036854775807) = true := decide_eq_true c30
         try have c30b2 : (9223372036854775807 < 2 + t368.size + 8) = False := eq_false (Nat.not_lt.2 c30)
         replace H := Option.bind_eq_some_iff.mp H; obtain ⟨t369, A310, H⟩ := H; (try dsimp only at H); have A31 := am A310; clear A310
         by_cases c32 : 2 + t368.size + 8 + t369.size ≤ 9223372036854775807
         ·rw [if_pos c32] at H; have c32b0 := eq_true c32; have c32b1 : decide (2 + t368.size + 8 + t369.size ≤ 9223372036854775807) = true := decide_eq_true c32
          try have c32b2 : (9223372036854775807 < 2 + t368.size + 8 + t369.size) = False := eq_false (Nat.not_lt.2 c32)
          by_cases c33 : 2 + t368.size + 8 + t369.size + 1 ≤ 9223372036854775807
          ·rw [if_pos c33] at H; have c33b0 := eq_true c33; have c33b1 : decide (2 + t368.size + 8 + t369.size + 1 ≤ 9223372036854775807) = true := decide_eq_true c33
           try have c33b2 : (9223372036854775807 < 2 + t368.size + 8 + t369.size + 1) = False := eq_false (Nat.not_lt.2 c33)
           by_cases c34 : 2 + t368.size + 8 + t369.size + 1 + 2 ≤ 9223372036854775807
           ·rw [if_pos c34] at H; have c34b0 := eq_true c34; have c34b1 : decide (2 + t368.size + 8 + t369.size + 1 + 2 ≤ 9223372036854775807) = true := decide_eq_true c34
            try have c34b2 : (9223372036854775807 < 2 + t368.size + 8 + t369.size + 1 + 2) = False := eq_false (Nat.not_lt.2 c34)
            obtain rfl := Option.some.inj H
            go_wp2_with (first | ((with_reducible refine gate_callee (f := 20) rfl ?_); refine goesL_ (some 38) rfl rfl Tryz.func20 (by kernel_rfl) rfl #[.int .i64 a2] rfl mz ?_; (with_reducible refine (strconv_Itoa.calls a2 t368 _ (Laid.below HLd.out (by repeat (first | (with_reducible first | exact HB.out | apply bA | apply bN | apply bD | refine below_set ?_ GE356.out) | exact HB.out))) A28.out).mono ?_); rintro e w35 ⟨rfl, hb⟩; refine ⟨_, rfl, ?_⟩; have n0_ := am (Kd.R_below (rz HO_9.out) hb); have n1_ := am (bx BK356.out hb); have n2_ := am (below_step (by repeat (first | (with_reducible first | exact HB.out | apply bA | apply bN | apply bD | refine below_set ?_ GE356.out) | exact HB.out)) hb); clear HO_9 BK356 HB; have HO_9 := n0_; have BK356 := n1_; have HB := n2_; clear n0_ n1_ n2_; (try clear hb); (try clear hb2); (try clear hk); (try clear hi); obtain ⟨Ao36, co36, eo36⟩ := Kd.R_slice HO_9.out; subst eo36) | ((with_reducible refine gate_callee (f := 21) rfl ?_); refine goesL_ (some 42) rfl rfl Tryz.func21 (by kernel_rfl) rfl #[.slice Ao36 x9_3.length co36, .string (⟨#[32]⟩ : ByteArray)] rfl mz ?_; (with_reducible refine (strings_Join.calls _ _ x9_3 (⟨#[32]⟩ : ByteArray) t369 _ ?side1 ?side2 A31.out).mono ?_); (case side1 => exact cz (Kd.R_reads' HO_9.out).2.2); (case side2 => exact (Kd.R_reads' HO_9.out).2.1); rintro e w37 ⟨rfl, hb⟩; refine ⟨_, rfl, ?_⟩; have n0_ := am (Kd.R_below (rz HO_9.out) hb); have n1_ := am (bx BK356.out hb); have n2_ := am (below_step (by repeat (first | (with_reducible first | exact HB.out | apply bA | apply bN | apply bD | refine below_set ?_ GE356.out) | exact HB.out)) hb); clear HO_9 BK356 HB; have HO_9 := n0_; have BK356 := n1_; have HB := n2_; clear n0_ n1_ n2_; (try clear hb); (try clear hb2); (try clear hk); (try clear hi)))
            go_ret
            exact ⟨ez, by repeat (first | (with_reducible first | exact HB.out | apply bA | apply bN | apply bD | refine below_set ?_ GE356.out) | exact HB.out)⟩
           rw [if_neg c34] at H
           exact absurd H (by simp)
          rw [if_neg c33] at H
          exact absurd H (by simp)
         rw [if_neg c32] at H
         exact absurd H (by simp)
        rw [if_neg c30] at H
        exact absurd H (by simp)
       rw [if_neg c29] at H
       exact absurd H (by simp)

/-! ### letterboxlaw19_known: function 10 -/
def letterboxlaw19_known.f (k : Nat)  : Option (Bool) := (show_Parse.f k (([(⟨1, (⟨#[70, 108, 97, 103, 115]⟩ : ByteArray)⟩ : S24)] : List (S24)))).bind fun bt373 => (if bt373.2 = 0 then ((show_Show.f k bt373.1 0 0 0 ([] : List Int) 1 false).bind fun t377 => (some (t377.toList == ([42, 32, 49, 32, 70, 69, 84, 67, 72, 32, 40, 70, 76, 65, 71, 83, 32, 40, 41, 41, 13, 10] : List UInt8)))) else (some false))
set_option maxHeartbeats 8000000 in
set_option maxRecDepth 100000 in
theorem letterboxlaw19_known.calls (k : Nat)  (r : Bool) (w : World) (HL0 : Laid w) (h : letterboxlaw19_known.f k  = some r) :
  Calls Tryz.prog 10 #[] w fun e w' => e = .returned (.bool r) ∧ Below w.heap.size w w' := by
 have HLd := am HL0; clear HL0; have hu24 := Tryz.underlying24; have hu36 := Tryz.underlying36; have HB := am (Below.refl w.heap.size w); have H : ((show_Parse.f k (([(⟨1, (⟨#[70, 108, 97, 103, 115]⟩ : ByteArray)⟩ : S24)] : List (S24)))).bind fun bt373 => (if bt373.2 = 0 then ((show_Show.f k bt373.1 0 0 0 ([] : List Int) 1 false).bind fun t377 => (some (t377.toList == ([42, 32, 49, 32, 70, 69, 84, 67, 72, 32, 40, 70, 76, 65, 71, 83, 32, 40, 41, 41, 13, 10] : List UInt8)))) else (some false))) = some r := h; clear h; obtain ⟨y370, hy370⟩ : ∃ y_ : List (S24), y_ = (([(⟨1, (⟨#[70, 108, 97, 103, 115]⟩ : ByteArray)⟩ : S24)] : List (S24))) := ⟨_, rfl⟩
 replace H : ((show_Parse.f k y370).bind fun bt373 => (if bt373.2 = 0 then ((show_Show.f k bt373.1 0 0 0 ([] : List Int) 1 false).bind fun t377 => (some (t377.toList == ([42, 32, 49, 32, 70, 69, 84, 67, 72, 32, 40, 70, 76, 65, 71, 83, 32, 40, 41, 41, 13, 10] : List UInt8)))) else (some false))) = some r := by first | (rw [hy370]; with_reducible exact H) | (have H2_ := (Option.bind_some _ _).symm.trans H; rw [hy370]; with_reducible exact H2_) | (have H2_ := (Option.bind_some _ _).symm.trans H; with_reducible exact H2_) | with_reducible exact H | (rw [hy370]; exact H) | exact H
 have Ny370 := am hy370; clear hy370; replace H := Option.bind_eq_some_iff.mp H; obtain ⟨⟨t373, t376⟩, A10, H⟩ := H; (try dsimp only at H); have A1 := am A10; clear A10
 by_cases c2 : t376 = 0
 ·rw [if_pos c2] at H; have c2b0 : (t376 == 0) = true := beq_iff_eq.mpr c2; have c2b1 : (t376 != 0) = false := bne_eq_false_iff_eq.mpr c2; clear c2; replace H := Option.bind_eq_some_iff.mp H; obtain ⟨t377, A30, H⟩ := H; (try dsimp only at H); have A3 := am A30; clear A30; obtain rfl := Option.some.inj H
  go_enter Tryz.func10, Tryz.ntmps10
  go_wp2_with (first | ((with_reducible refine gate_dst (N := 5) rfl ?_); refine Kd.R_lit k24 _ 24 ?hg (N := 5) ?hd (xs := ([(⟨1, (⟨#[70, 108, 97, 103, 115]⟩ : ByteArray)⟩ : S24)] : List (S24))) (inner := [.int .i64 1, .string (⟨#[70, 108, 97, 103, 115]⟩ : ByteArray)]) (ok := fun _ => True) (okp := fun _ => True) ?hr ?hp (fun _ hk => hk) trivial (Below.refl _ _) (Nat.le_refl _) (by simp) ?_; (case hd => rfl); (case hg => rfl); (case hr => first | (go_simp; done) | (go_simp; rfl)); (case hp => exact (Reps.c2 (show Kd.M k24 _ _ _ (⟨1, (⟨#[70, 108, 97, 103, 115]⟩ : ByteArray)⟩ : S24) [.int .i64 1, .string (⟨#[70, 108, 97, 103, 115]⟩ : ByteArray)] from (k24_mkM _ _ _ (⟨1, (⟨#[70, 108, 97, 103, 115]⟩ : ByteArray)⟩ : S24) )) (Reps.none _ _))); intro v371 w4 ho5 hb hg_ hnew_; clear hg_ hnew_; (first | rw [← Ny370.out] at ho5 | (simp only [Int.reduceToNat] at ho5; rw [← Ny370.out] at ho5)); have n0_ := am (Kd.R_lower ho5 (below_size bz)); have n1_ := am (below_step bz hb); clear HB; have HO372 := n0_; have HB := n1_; clear n0_ n1_; clear hb ho5; obtain ⟨Ao6, co6, eo6⟩ := Kd.R_slice HO372.out; subst eo6) | ((with_reducible refine gate_callee (f := 7) rfl ?_); refine goesL_ (some 6) rfl rfl Tryz.func7 (by kernel_rfl) rfl #[.slice Ao6 y370.length co6] rfl mz ?_; (with_reducible refine (show_Parse.calls k (fun k_ => some k_ = (.slice Ao6 y370.length co6 : Value).ownBlock) _ _ y370 t373 t376 _ ?side1 A1.out).mono ?_); (case side1 => exact Kd.R_V (Kd.R_tight rfl (HO372.out))); rintro e w7 ⟨v374, rfl, ho0, hb⟩; refine ⟨_, rfl, ?_⟩; have n0_ := am (rx HO372.out hb); have n1_ := am (Kd.S_lower (Kd.S_mono (ok' := fun k_ => True) ho0 (fun _ hk_ => trivial)) (below_size bz)); have n2_ := am (below_step bz hb); clear HO372 HB; have HO372 := n0_; have HO375 := n1_; have HB := n2_; clear n0_ n1_ n2_; (try clear hb); (try clear hb2); (try clear hk); (try clear hi); (try clear ho0); obtain ⟨Ao8, co8, eo8⟩ := Kd.S_slice HO375.out; subst eo8) | (go_at_call 12; (refine (show_Show.calls k _ _ t373 0 0 0 _ _ ([] : List Int) 1 false t377 _ ?side1 ?side2 ?side3 ?side4 (Laid.below HLd.out bz) A3.out).mono ?_); (case side1 => exact cz (Kd.S_reads' HO375.out).2.2); (case side2 => exact (Kd.S_reads' HO375.out).2.1); (case side3 => exact Kd.C_nil _ _); (case side4 => exact Nat.le_refl _); rintro e w9 ⟨rfl, hb⟩; replace HO372 := am (rx HO372.out hb); replace HO375 := am (Kd.S_below (by (with_reducible repeat (first | apply Kd.S_alloc | apply Kd.S_drewN | apply Kd.S_drew)); exact HO375.out) hb); replace HB := am (below_step bz hb); (try clear hb); (try clear hb2); (try clear hk); (try clear hi)))
  go_ret
  exact ⟨ez, bz⟩
 rw [if_neg c2] at H; have c2b0 : (t376 == 0) = false := beq_eq_false_iff_ne.mpr c2; have c2b1 : (t376 != 0) = true := bne_iff_ne.mpr c2; obtain rfl := Option.some.inj H
 go_enter Tryz.func10, Tryz.ntmps10
 go_wp2_with (first | ((with_reducible refine gate_dst (N := 5) rfl ?_); refine Kd.R_lit k24 _ 24 ?hg (N := 5) ?hd (xs := ([(⟨1, (⟨#[70, 108, 97, 103, 115]⟩ : ByteArray)⟩ : S24)] : List (S24))) (inner := [.int .i64 1, .string (⟨#[70, 108, 97, 103, 115]⟩ : ByteArray)]) (ok := fun _ => True) (okp := fun _ => True) ?hr ?hp (fun _ hk => hk) trivial (Below.refl _ _) (Nat.le_refl _) (by simp) ?_; (case hd => rfl); (case hg => rfl); (case hr => first | (go_simp; done) | (go_simp; rfl)); (case hp => exact (Reps.c2 (show Kd.M k24 _ _ _ (⟨1, (⟨#[70, 108, 97, 103, 115]⟩ : ByteArray)⟩ : S24) [.int .i64 1, .string (⟨#[70, 108, 97, 103, 115]⟩ : ByteArray)] from (k24_mkM _ _ _ (⟨1, (⟨#[70, 108, 97, 103, 115]⟩ : ByteArray)⟩ : S24) )) (Reps.none _ _))); intro v371 w10 ho11 hb hg_ hnew_; clear hg_ hnew_; (first | rw [← Ny370.out] at ho11 | (simp only [Int.reduceToNat] at ho11; rw [← Ny370.out] at ho11)); have n0_ := am (Kd.R_lower ho11 (below_size bz)); have n1_ := am (below_step bz hb); clear HB; have HO372 := n0_; have HB := n1_; clear n0_ n1_; clear hb ho11; obtain ⟨Ao12, co12, eo12⟩ := Kd.R_slice HO372.out; subst eo12) | ((with_reducible refine gate_callee (f := 7) rfl ?_); refine goesL_ (some 6) rfl rfl Tryz.func7 (by kernel_rfl) rfl #[.slice Ao12 y370.length co12] rfl mz ?_; (with_reducible refine (show_Parse.calls k (fun k_ => some k_ = (.slice Ao12 y370.length co12 : Value).ownBlock) _ _ y370 t373 t376 _ ?side1 A1.out).mono ?_); (case side1 => exact Kd.R_V (Kd.R_tight rfl (HO372.out))); rintro e w13 ⟨v374, rfl, ho0, hb⟩; refine ⟨_, rfl, ?_⟩; have n0_ := am (rx HO372.out hb); have n1_ := am (Kd.S_lower (Kd.S_mono (ok' := fun k_ => True) ho0 (fun _ hk_ => trivial)) (below_size bz)); have n2_ := am (below_step bz hb); clear HO372 HB; have HO372 := n0_; have HO375 := n1_; have HB := n2_; clear n0_ n1_ n2_; (try clear hb); (try clear hb2); (try clear hk); (try clear hi); (try clear ho0)))
 go_ret
 exact ⟨ez, bz⟩

end Go.Proofs.YtfabaenfglionaaGreatDoor.P
