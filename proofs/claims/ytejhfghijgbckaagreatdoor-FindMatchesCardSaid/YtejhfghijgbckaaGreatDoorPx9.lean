/- The walks of the seat's functions, one contract a function: printed by a program of this session's (wip/gen). Not trusted: Lean checks it. -/
import Derived.Test.YtejhfghijgbckaaGreatDoorShort
import Derived.Test.YtejhfghijgbckaaGreatDoorPx0
import Derived.Test.YtejhfghijgbckaaGreatDoorPx6
-- halved
namespace Go.Proofs.YtejhfghijgbckaaGreatDoor.P
open Go.RowKit Go.Proofs.YtejhfghijgbckaaGreatDoorW.PrintWords Go.Proofs.YtejhfghijgbckaaGreatDoorW.PrintLast Go.Proofs.YtejhfghijgbckaaGreatDoorW.PrintMore
attribute [local go_sem] max2_int min2_int max_two min_two max_three min_three max_four min_four   -- for this text's walks alone
set_option linter.unusedVariables false
set_option linter.unusedSimpArgs false

/-! ### letterboxlaw18_size: function 19 -/
mutual
def letterboxlaw18_size.l0 : Nat → Int → Int → Int → Int → ByteArray → ByteArray → List (S73) → List (S27) → Option (Int)
 | 0, _, _, _, _, _, _, _, _ => none
 | k + 1, x3, x4, x484000, x484001, x484002, x484003, x484004, x484005 => if x4 < (x484005.length : Int) then (if x3 < 2000 then (if 0 ≤ x4 then ((letterboxlaw18_size.f k ((rd_T27 x484005 x4).f0) ((rd_T27 x484005 x4).f1) ((rd_T27 x484005 x4).f2) ((rd_T27 x484005 x4).f3) ((rd_T27 x484005 x4).f4) ((rd_T27 x484005 x4).f5)).bind fun t485 => (letterboxlaw18_size.l0 k (wrap64 (x3 + t485)) (wrap64 (x4 + 1)) x484000 x484001 x484002 x484003 x484004 x484005)) else (none)) else (some x3)) else (some x3)
def letterboxlaw18_size.f : Nat → Int → Int → ByteArray → ByteArray → List (S73) → List (S27) → Option (Int)
 | 0, _, _, _, _, _, _ => none
 | k + 1, a0_0, a0_1, a0_2, a0_3, l0_4, l0_5 => letterboxlaw18_size.l0 k (wrap64 ((wrap64 ((wrap64 (1 + (a0_2.size : Int))) + (a0_3.size : Int))) + (l0_4.length : Int))) 0 a0_0 a0_1 a0_2 a0_3 l0_4 l0_5
end
set_option maxHeartbeats 8000000 in
set_option maxRecDepth 100000 in
theorem letterboxlaw18_size.calls (k : Nat) : ∀ (a0_0 : Int) (a0_1 : Int) (a0_2 : ByteArray) (a0_3 : ByteArray) (A0_4 : Option Addr) (c0_4 : Nat) (l0_4 : List (S73)) (A0_5 : Option Addr) (c0_5 : Nat) (l0_5 : List (S27)) (r : Int) (w : World) (hr0_4 : Kd.C k73 w A0_4 l0_4.length l0_4) (hc0_4 : l0_4.length ≤ c0_4) (hr0_5 : Kd.C k27 w A0_5 l0_5.length l0_5) (hc0_5 : l0_5.length ≤ c0_5) (h : letterboxlaw18_size.f k a0_0 a0_1 a0_2 a0_3 l0_4 l0_5 = some r),
  Calls Tryz.prog 19 #[.agg #[.int .i64 a0_0, .int .i64 a0_1, .string a0_2, .string a0_3, .slice A0_4 l0_4.length c0_4, .slice A0_5 l0_5.length c0_5]] w fun e w' => e = .returned (.int .i64 r) ∧ Below w.heap.size w w' := by
 induction k using Nat.strongRecOn with
 | _ k ih =>
 intro a0_0 a0_1 a0_2 a0_3 A0_4 c0_4 l0_4 A0_5 c0_5 l0_5 r w hr0_4 hc0_4 hr0_5 hc0_5 h
 cases k with
 | zero => exact absurd h (by simp [letterboxlaw18_size.f])
 | succ k =>
 simp only [letterboxlaw18_size.f] at h; have hu27 := Tryz.underlying27; have HR0_4 := am hr0_4; have HC0_4 := am hc0_4; clear hr0_4 hc0_4; have HR0_5 := am hr0_5; have HC0_5 := am hc0_5; clear hr0_5 hc0_5; have HB := am (Below.refl w.heap.size w); have H : (letterboxlaw18_size.l0 k (wrap64 ((wrap64 ((wrap64 (1 + (a0_2.size : Int))) + (a0_3.size : Int))) + (l0_4.length : Int))) 0 a0_0 a0_1 a0_2 a0_3 l0_4 l0_5) = some r := h; clear h; have H' := am H; clear H
 go_enter Tryz.func19, Tryz.ntmps19
 go_wp2_with (first | ((with_reducible refine gate_dst (N := 1) rfl ?_); refine box_event ?hg (N := 1) ?hd (cs := #[.int .i64 a0_0, .int .i64 a0_1, .string a0_2, .string a0_3, .slice A0_4 l0_4.length c0_4, .slice A0_5 l0_5.length c0_5]) (t := 27) ?hr ?_; (case hd => rfl); (case hg => rfl); (case hr => first | (go_simp; done) | (go_simp; rfl)); intro gb483 hg w2 hbox hb; have n0_ := am (below_step (by repeat (first | (with_reducible first | exact HB.out | apply bA | apply bN | apply bD) | exact HB.out)) hb); have n1_ := am (hbox); have n2_ := am ((by rw [hg]; exact (below_size (by repeat (first | (with_reducible first | exact HB.out | apply bA | apply bN | apply bD) | exact HB.out))) : w.heap.size ≤ gb483)); have n3_ := am ((by rw [hg]; exact (below_size (by repeat (first | (with_reducible first | exact HB.out | apply bA | apply bN | apply bD) | exact HB.out))) : w.heap.size ≤ gb483)); clear HB; have HB := n0_; have BK483 := n1_; have GW483 := n2_; have GE483 := n3_; clear n0_ n1_ n2_ n3_; clear hb hbox hg; have hcz3_0 : w2.cell? ⟨gb483, 0, none⟩ = some (.int .i64 a0_0) := (blk_cell BK483.out 0).trans rfl; have hcz3_1 : w2.cell? ⟨gb483, 1, none⟩ = some (.int .i64 a0_1) := (blk_cell BK483.out 1).trans rfl; have hcz3_2 : w2.cell? ⟨gb483, 2, none⟩ = some (.string a0_2) := (blk_cell BK483.out 2).trans rfl; have hcz3_3 : w2.cell? ⟨gb483, 3, none⟩ = some (.string a0_3) := (blk_cell BK483.out 3).trans rfl; have hcz3_4 : w2.cell? ⟨gb483, 4, none⟩ = some (.slice A0_4 l0_4.length c0_4) := (blk_cell BK483.out 4).trans rfl; have hcz3_5 : w2.cell? ⟨gb483, 5, none⟩ = some (.slice A0_5 l0_5.length c0_5) := (blk_cell BK483.out 5).trans rfl; have hfz3_0 := blk_frozen BK483.out 0; have hfz3_1 := blk_frozen BK483.out 1; have hfz3_2 := blk_frozen BK483.out 2; have hfz3_3 := blk_frozen BK483.out 3; have hfz3_4 := blk_frozen BK483.out 4; have hfz3_5 := blk_frozen BK483.out 5))
 go_loopg [3, 4] k (fun kq v3 v4 w' => ∃ (x3_1 : Int) (x4_1 : Int), v3 = .int .i64 x3_1 ∧ v4 = .int .i64 x4_1 ∧ Aside0 (letterboxlaw18_size.l0 kq x3_1 x4_1 a0_0 a0_1 a0_2 a0_3 l0_4 l0_5 = some r) ∧ Aside0 (kq ≤ k) ∧ Aside0 (w'.heap[gb483]? = some (.cells #[.int .i64 a0_0, .int .i64 a0_1, .string a0_2, .string a0_3, (.slice A0_4 l0_4.length c0_4), (.slice A0_5 l0_5.length c0_5)] 27 (0, 0))) ∧ Aside0 (Below w.heap.size w w'))
 case atStart => exact ⟨(wrap64 ((wrap64 ((wrap64 (1 + (a0_2.size : Int))) + (a0_3.size : Int))) + (l0_4.length : Int))), (0), (by first | rfl | (simp; done) | (simp [*]; done)), (by first | rfl | (simp; done) | (simp [*]; done)), H', ⟨Nat.le_refl _⟩, ⟨by (with_reducible repeat first | refine kN ?_ _ | refine kD ?_ | refine kA ?_ _); exact BK483.out⟩, ⟨by repeat (first | (with_reducible first | exact HB.out | apply bA | apply bN | apply bD | refine below_set ?_ GE483.out) | exact HB.out)⟩⟩
 case round =>
  clear H'; (try clear c1); (try clear p2); (try clear hcz3_0); (try clear hcz3_1); (try clear hcz3_2); (try clear hcz3_3); (try clear hcz3_4); (try clear hcz3_5); (try clear hfz3_0); (try clear hfz3_1); (try clear hfz3_2); (try clear hfz3_3); (try clear hfz3_4); (try clear hfz3_5); obtain ⟨x3_1, x4_1, rfl, rfl, HA, HK1, BK483, HB⟩ := hrel
  cases gk with
  | zero => exact absurd HA.out (by simp [letterboxlaw18_size.l0])
  | succ k1 =>
   have H := HA.out; clear HA; simp only [letterboxlaw18_size.l0] at H
   by_cases c4 : x4_1 < (l0_5.length : Int)
   ·rw [if_pos c4] at H; have c4b0 : decide (x4_1 < (l0_5.length : Int)) = true := decide_eq_true c4; clear c4
    by_cases c5 : x3_1 < 2000
    ·rw [if_pos c5] at H; have c5b0 : decide (x3_1 < 2000) = true := decide_eq_true c5; clear c5
     by_cases c6 : 0 ≤ x4_1
     ·rw [if_pos c6] at H; have c6b0 : decide (0 ≤ x4_1) = true := decide_eq_true c6; clear c6; replace H := Option.bind_eq_some_iff.mp H; obtain ⟨t485, A70, H⟩ := H; replace H : (letterboxlaw18_size.l0 k1 (wrap64 (x3_1 + t485)) (wrap64 (x4_1 + 1)) a0_0 a0_1 a0_2 a0_3 l0_4 l0_5) = some r := H; have A7 := am A70; clear A70; have H' := am H; clear H; have hcz8_0 : wr.cell? ⟨gb483, 0, none⟩ = some (.int .i64 a0_0) := (blk_cell BK483.out 0).trans rfl; have hcz8_1 : wr.cell? ⟨gb483, 1, none⟩ = some (.int .i64 a0_1) := (blk_cell BK483.out 1).trans rfl; have hcz8_2 : wr.cell? ⟨gb483, 2, none⟩ = some (.string a0_2) := (blk_cell BK483.out 2).trans rfl; have hcz8_3 : wr.cell? ⟨gb483, 3, none⟩ = some (.string a0_3) := (blk_cell BK483.out 3).trans rfl; have hcz8_4 : wr.cell? ⟨gb483, 4, none⟩ = some (.slice A0_4 l0_4.length c0_4) := (blk_cell BK483.out 4).trans rfl; have hcz8_5 : wr.cell? ⟨gb483, 5, none⟩ = some (.slice A0_5 l0_5.length c0_5) := (blk_cell BK483.out 5).trans rfl; have hfz8_0 := blk_frozen BK483.out 0; have hfz8_1 := blk_frozen BK483.out 1; have hfz8_2 := blk_frozen BK483.out 2; have hfz8_3 := blk_frozen BK483.out 3; have hfz8_4 := blk_frozen BK483.out 4; have hfz8_5 := blk_frozen BK483.out 5; have p484 : 0 ≤ (x4_1 : Int) := of_decide_eq_true (by first | (with_reducible assumption) | assumption); have q484 : x4_1 < (l0_5.length : Int) := of_decide_eq_true (by first | (with_reducible assumption) | assumption); obtain ⟨ad484, A484_4, c484_4, A484_5, c484_5, e484, hx484_0, hx484_1, hx484_2, hx484_3, hx484_4, hx484_5, hl484_4, hi484_4, hl484_5, hi484_5⟩ := at_T27 HR0_5.out x4_1 p484 q484
      cases e484
      replace hx484_0 := (HB.out.cell (World.block_lt_of_cell? w _ hx484_0)).trans hx484_0; replace hx484_1 := (HB.out.cell (World.block_lt_of_cell? w _ hx484_1)).trans hx484_1; replace hx484_2 := (HB.out.cell (World.block_lt_of_cell? w _ hx484_2)).trans hx484_2; replace hx484_3 := (HB.out.cell (World.block_lt_of_cell? w _ hx484_3)).trans hx484_3; replace hx484_4 := (HB.out.cell (World.block_lt_of_cell? w _ hx484_4)).trans hx484_4; replace hx484_5 := (HB.out.cell (World.block_lt_of_cell? w _ hx484_5)).trans hx484_5; have HR484_4 := am hi484_4; have HC484_4 := am hl484_4; clear hi484_4 hl484_4; have HR484_5 := am hi484_5; have HC484_5 := am hl484_5; clear hi484_5 hl484_5; replace p484 := eq_true p484; replace q484 := eq_true q484
      go_wp2_with (first | ((with_reducible refine gate_callee (f := 19) rfl ?_); refine goesL_ (some 34) rfl rfl Tryz.func19 (by kernel_rfl) rfl #[.agg #[.int .i64 ((rd_T27 l0_5 x4_1).f0), .int .i64 ((rd_T27 l0_5 x4_1).f1), .string ((rd_T27 l0_5 x4_1).f2), .string ((rd_T27 l0_5 x4_1).f3), .slice A484_4 ((rd_T27 l0_5 x4_1).f4).length c484_4, .slice A484_5 ((rd_T27 l0_5 x4_1).f5).length c484_5]] rfl (by (try simp only [List.map_toArray, List.map_cons, List.map_nil]); first | done | rfl | (simp only [List.length_drop, List.length_take]; rfl)) ?_; (with_reducible refine (ih k1 (by have := HK1.out; omega) ((rd_T27 l0_5 x4_1).f0) ((rd_T27 l0_5 x4_1).f1) ((rd_T27 l0_5 x4_1).f2) ((rd_T27 l0_5 x4_1).f3) _ _ ((rd_T27 l0_5 x4_1).f4) _ _ ((rd_T27 l0_5 x4_1).f5) t485 _ ?side1 ?side2 ?side3 ?side4 A7.out).mono ?_); (case side1 => repeat (first | exact (Kd.C_below HR484_4.out HB.out) | (with_reducible refine Kd.C_alloc ?_ _) | (with_reducible refine Kd.C_drewN ?_ _) | (with_reducible refine Kd.C_drew ?_))); (case side2 => exact HC484_4.out); (case side3 => repeat (first | exact (Kd.C_below HR484_5.out HB.out) | (with_reducible refine Kd.C_alloc ?_ _) | (with_reducible refine Kd.C_drewN ?_ _) | (with_reducible refine Kd.C_drew ?_))); (case side4 => exact HC484_5.out); rintro e w9 ⟨rfl, hb⟩; refine ⟨_, rfl, ?_⟩; have n0_ := am (bx BK483.out hb); have n1_ := am (below_step (by repeat (first | (with_reducible first | exact HB.out | apply bA | apply bN | apply bD | refine below_set ?_ GE483.out) | exact HB.out)) hb); clear BK483 HB; have BK483 := n0_; have HB := n1_; clear n0_ n1_; (try clear hb); (try clear hb2); (try clear hk); (try clear hi)))
      go_roundg k1
      case measure => have := HK1.out; omega
      case rel => exact ⟨(wrap64 (x3_1 + t485)), (wrap64 (x4_1 + 1)), (by first | rfl | (simp; done) | (simp [*]; done)), (by first | rfl | (simp; done) | (simp [*]; done)), H', ⟨by have := HK1.out; omega⟩, ⟨by (with_reducible repeat first | refine kN ?_ _ | refine kD ?_ | refine kA ?_ _); exact BK483.out⟩, ⟨by repeat (first | (with_reducible first | exact HB.out | apply bA | apply bN | apply bD | refine below_set ?_ GE483.out) | exact HB.out)⟩⟩
     rw [if_neg c6] at H
     exact absurd H (by simp)
    rw [if_neg c5] at H; have c5b0 : decide (x3_1 < 2000) = false := decide_eq_false c5; clear c5; obtain rfl := Option.some.inj H; have hcz10_0 : wr.cell? ⟨gb483, 0, none⟩ = some (.int .i64 a0_0) := (blk_cell BK483.out 0).trans rfl; have hcz10_1 : wr.cell? ⟨gb483, 1, none⟩ = some (.int .i64 a0_1) := (blk_cell BK483.out 1).trans rfl; have hcz10_2 : wr.cell? ⟨gb483, 2, none⟩ = some (.string a0_2) := (blk_cell BK483.out 2).trans rfl; have hcz10_3 : wr.cell? ⟨gb483, 3, none⟩ = some (.string a0_3) := (blk_cell BK483.out 3).trans rfl; have hcz10_4 : wr.cell? ⟨gb483, 4, none⟩ = some (.slice A0_4 l0_4.length c0_4) := (blk_cell BK483.out 4).trans rfl; have hcz10_5 : wr.cell? ⟨gb483, 5, none⟩ = some (.slice A0_5 l0_5.length c0_5) := (blk_cell BK483.out 5).trans rfl; have hfz10_0 := blk_frozen BK483.out 0; have hfz10_1 := blk_frozen BK483.out 1; have hfz10_2 := blk_frozen BK483.out 2; have hfz10_3 := blk_frozen BK483.out 3; have hfz10_4 := blk_frozen BK483.out 4; have hfz10_5 := blk_frozen BK483.out 5
    go_wp2
    go_ret
    exact ⟨by first | rfl | (simp [errW_none, errW_some] <;> rfl) | (simp [*, errW_none, errW_some] <;> rfl), by repeat (first | (with_reducible first | exact HB.out | apply bA | apply bN | apply bD | refine below_set ?_ GE483.out) | exact HB.out)⟩
   rw [if_neg c4] at H; have c4b0 : decide (x4_1 < (l0_5.length : Int)) = false := decide_eq_false c4; clear c4; obtain rfl := Option.some.inj H; have hcz11_0 : wr.cell? ⟨gb483, 0, none⟩ = some (.int .i64 a0_0) := (blk_cell BK483.out 0).trans rfl; have hcz11_1 : wr.cell? ⟨gb483, 1, none⟩ = some (.int .i64 a0_1) := (blk_cell BK483.out 1).trans rfl; have hcz11_2 : wr.cell? ⟨gb483, 2, none⟩ = some (.string a0_2) := (blk_cell BK483.out 2).trans rfl; have hcz11_3 : wr.cell? ⟨gb483, 3, none⟩ = some (.string a0_3) := (blk_cell BK483.out 3).trans rfl; have hcz11_4 : wr.cell? ⟨gb483, 4, none⟩ = some (.slice A0_4 l0_4.length c0_4) := (blk_cell BK483.out 4).trans rfl; have hcz11_5 : wr.cell? ⟨gb483, 5, none⟩ = some (.slice A0_5 l0_5.length c0_5) := (blk_cell BK483.out 5).trans rfl; have hfz11_0 := blk_frozen BK483.out 0; have hfz11_1 := blk_frozen BK483.out 1; have hfz11_2 := blk_frozen BK483.out 2; have hfz11_3 := blk_frozen BK483.out 3; have hfz11_4 := blk_frozen BK483.out 4; have hfz11_5 := blk_frozen BK483.out 5
   go_wp2
   go_ret
   exact ⟨by first | rfl | (simp [errW_none, errW_some] <;> rfl) | (simp [*, errW_none, errW_some] <;> rfl), by repeat (first | (with_reducible first | exact HB.out | apply bA | apply bN | apply bD | refine below_set ?_ GE483.out) | exact HB.out)⟩

/-! ### letterboxref18_inside: function 31 -/
def letterboxref18_inside.l0 : Nat → ByteArray → ByteArray → Int → Option (Bool)
 | 0, _, _, _ => none
 | k + 1, x5, x6, x7 => if (wrap64 (x7 + (x6.size : Int))) ≤ (x5.size : Int) then (if 0 ≤ x7 then (if x7 ≤ (wrap64 (x7 + (x6.size : Int))) then (if (x5.extract (x7 : Int).toNat ((wrap64 (x7 + (x6.size : Int))) : Int).toNat).toList = x6.toList then (some true) else (letterboxref18_inside.l0 k x5 x6 (wrap64 (x7 + 1)))) else (none)) else (none)) else (some false)
def letterboxref18_inside.f (k : Nat) (a0 : ByteArray) (a1 : ByteArray) : Option (Bool) := (letterboxref9_Low.f a0).bind fun t486 => ((letterboxref9_Low.f a1).bind fun t487 => (letterboxref18_inside.l0 k t486 t487 0))
set_option maxHeartbeats 8000000 in
set_option maxRecDepth 100000 in
theorem letterboxref18_inside.calls (k : Nat) (a0 : ByteArray) (a1 : ByteArray) (r : Bool) (w : World) (h : letterboxref18_inside.f k a0 a1 = some r) :
  Calls Tryz.prog 31 #[.string a0, .string a1] w fun e w' => e = .returned (.bool r) ∧ Below w.heap.size w w' := by
 have HB := am (Below.refl w.heap.size w); have H : ((letterboxref9_Low.f a0).bind fun t486 => ((letterboxref9_Low.f a1).bind fun t487 => (letterboxref18_inside.l0 k t486 t487 0))) = some r := h; clear h; replace H := Option.bind_eq_some_iff.mp H; obtain ⟨t486, A30, H⟩ := H; replace H : ((letterboxref9_Low.f a1).bind fun t487 => (letterboxref18_inside.l0 k t486 t487 0)) = some r := H; have A3 := am A30; clear A30; replace H := Option.bind_eq_some_iff.mp H; obtain ⟨t487, A40, H⟩ := H; replace H : (letterboxref18_inside.l0 k t486 t487 0) = some r := H; have A4 := am A40; clear A40; have H' := am H; clear H
 go_enter Tryz.func31, Tryz.ntmps31
 go_wp2_with (first | ((with_reducible refine gate_callee (f := 47) rfl ?_); refine goesL_ (some 9) rfl rfl Tryz.func47 (by kernel_rfl) rfl #[.string a0] rfl (by (try simp only [List.map_toArray, List.map_cons, List.map_nil]); first | done | rfl | (simp only [List.length_drop, List.length_take]; rfl)) ?_; (with_reducible refine (letterboxref9_Low.calls a0 t486 _ A3.out).mono ?_); rintro e w5 ⟨rfl, hb⟩; refine ⟨_, rfl, ?_⟩; have n0_ := am (below_step (by repeat (first | (with_reducible first | exact HB.out | apply bA | apply bN | apply bD) | exact HB.out)) hb); clear HB; have HB := n0_; clear n0_; (try clear hb); (try clear hb2); (try clear hk); (try clear hi)) | ((with_reducible refine gate_callee (f := 47) rfl ?_); refine goesL_ (some 11) rfl rfl Tryz.func47 (by kernel_rfl) rfl #[.string a1] rfl (by (try simp only [List.map_toArray, List.map_cons, List.map_nil]); first | done | rfl | (simp only [List.length_drop, List.length_take]; rfl)) ?_; (with_reducible refine (letterboxref9_Low.calls a1 t487 _ A4.out).mono ?_); rintro e w6 ⟨rfl, hb⟩; refine ⟨_, rfl, ?_⟩; have n0_ := am (below_step (by repeat (first | (with_reducible first | exact HB.out | apply bA | apply bN | apply bD) | exact HB.out)) hb); clear HB; have HB := n0_; clear n0_; (try clear hb); (try clear hb2); (try clear hk); (try clear hi)))
 go_loopg [7] k (fun kq v7 w' => ∃ (x7_1 : Int), v7 = .int .i64 x7_1 ∧ Aside0 (letterboxref18_inside.l0 kq t486 t487 x7_1 = some r) ∧ Aside0 (kq ≤ k) ∧ Aside0 (Below w.heap.size w w'))
 case atStart => exact ⟨(0), (by first | rfl | (simp; done) | (simp [*]; done)), H', ⟨Nat.le_refl _⟩, ⟨by repeat (first | (with_reducible first | exact HB.out | apply bA | apply bN | apply bD) | exact HB.out)⟩⟩
 case round =>
  clear H'; (try clear p2); (try clear c3); (try clear c4); obtain ⟨x7_1, rfl, HA, HK1, HB⟩ := hrel
  cases gk with
  | zero => exact absurd HA.out (by simp [letterboxref18_inside.l0])
  | succ k1 =>
   have H := HA.out; clear HA; simp only [letterboxref18_inside.l0] at H
   by_cases c7 : (wrap64 (x7_1 + (t487.size : Int))) ≤ (t486.size : Int)
   ·rw [if_pos c7] at H; have c7b0 : decide ((wrap64 (x7_1 + (t487.size : Int))) ≤ (t486.size : Int)) = true := decide_eq_true c7; clear c7
    by_cases c8 : 0 ≤ x7_1
    ·rw [if_pos c8] at H; have c8b0 := eq_true c8; have c8b1 : decide (0 ≤ x7_1) = true := decide_eq_true c8; clear c8
     by_cases c9 : x7_1 ≤ (wrap64 (x7_1 + (t487.size : Int)))
     ·rw [if_pos c9] at H; have c9b0 := eq_true c9; have c9b1 : decide (x7_1 ≤ (wrap64 (x7_1 + (t487.size : Int)))) = true := decide_eq_true c9; have c10b0 := eq_true (of_decide_eq_true (by first | (with_reducible assumption) | assumption) : (wrap64 (x7_1 + (t487.size : Int))) ≤ (t486.size : Int))
      by_cases c11 : (t486.extract (x7_1 : Int).toNat ((wrap64 (x7_1 + (t487.size : Int))) : Int).toNat).toList = t487.toList
      ·rw [if_pos c11] at H; have c11b0 : ((t486.extract (x7_1 : Int).toNat ((wrap64 (x7_1 + (t487.size : Int))) : Int).toNat).toList == t487.toList) = true := beq_iff_eq.mpr c11; have c11b1 : ((t486.extract (x7_1 : Int).toNat ((wrap64 (x7_1 + (t487.size : Int))) : Int).toNat).toList != t487.toList) = false := bne_eq_false_iff_eq.mpr c11; clear c11; obtain rfl := Option.some.inj H
       go_wp2
       go_ret
       exact ⟨by first | rfl | (simp [errW_none, errW_some] <;> rfl) | (simp [*, errW_none, errW_some] <;> rfl), by repeat (first | (with_reducible first | exact HB.out | apply bA | apply bN | apply bD) | exact HB.out)⟩
      rw [if_neg c11] at H; have c11b0 : ((t486.extract (x7_1 : Int).toNat ((wrap64 (x7_1 + (t487.size : Int))) : Int).toNat).toList == t487.toList) = false := beq_eq_false_iff_ne.mpr c11; have c11b1 : ((t486.extract (x7_1 : Int).toNat ((wrap64 (x7_1 + (t487.size : Int))) : Int).toNat).toList != t487.toList) = true := bne_iff_ne.mpr c11; have H' := am H; clear H
      go_wp2
      go_roundg k1
      case measure => have := HK1.out; omega
      case rel => exact ⟨(wrap64 (x7_1 + 1)), (by first | rfl | (simp; done) | (simp [*]; done)), H', ⟨by have := HK1.out; omega⟩, ⟨by repeat (first | (with_reducible first | exact HB.out | apply bA | apply bN | apply bD) | exact HB.out)⟩⟩
     rw [if_neg c9] at H
     exact absurd H (by simp)
    rw [if_neg c8] at H
    exact absurd H (by simp)
   rw [if_neg c7] at H; have c7b0 : decide ((wrap64 (x7_1 + (t487.size : Int))) ≤ (t486.size : Int)) = false := decide_eq_false c7; clear c7; obtain rfl := Option.some.inj H
   go_wp2
   go_ret
   exact ⟨by first | rfl | (simp [errW_none, errW_some] <;> rfl) | (simp [*, errW_none, errW_some] <;> rfl), by repeat (first | (with_reducible first | exact HB.out | apply bA | apply bN | apply bD) | exact HB.out)⟩

end Go.Proofs.YtejhfghijgbckaaGreatDoor.P
