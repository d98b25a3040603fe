/- The walks of the seat's functions, one contract a function: printed by a program of this session's (wip/gen). Not trusted: Lean checks it. -/
import Derived.Test.YtejhfghijgbckaaGreatDoorPx1
import Derived.Test.YtejhfghijgbckaaGreatDoorPx115
import Derived.Test.YtejhfghijgbckaaGreatDoorFindC
import Derived.Test.YtejhfghijgbckaaGreatDoorMimeConv
-- halved
namespace Go.Proofs.YtejhfghijgbckaaGreatDoor.P
open Go.RowKit Go.Proofs.YtejhfghijgbckaaGreatDoorW.PrintWords Go.Proofs.YtejhfghijgbckaaGreatDoorW.PrintLast Go.Proofs.YtejhfghijgbckaaGreatDoorW.PrintMore
attribute [local go_sem] max2_int min2_int max_two min_two max_three min_three max_four min_four   -- for this text's walks alone
set_option linter.unusedVariables false
set_option linter.unusedSimpArgs false

/-! ### letterboxlaw18_FindTexts: function 6 -/
mutual
def letterboxlaw18_FindTexts.j0 : Nat → List Int → Int → Int → ByteArray → Bool → Option (Bool)
 | 0, _, _, _, _, _ => none
 | k + 1, x0, x1, x2, x3, x32 => if x32 = true then (some true) else (if 0 ≤ (mn x1 (x0.length : Int)) then (if (mn x1 (x0.length : Int)) ≤ (wrap64 ((mn x1 (x0.length : Int)) + (mn x2 (wrap64 ((x0.length : Int) - (mn x1 (x0.length : Int))))))) then (if (wrap64 ((mn x1 (x0.length : Int)) + (mn x2 (wrap64 ((x0.length : Int) - (mn x1 (x0.length : Int))))))) ≤ (x0.length : Int) then (if 0 ≤ (mn x2 (wrap64 ((x0.length : Int) - (mn x1 (x0.length : Int))))) then (if (mn x2 (wrap64 ((x0.length : Int) - (mn x1 (x0.length : Int)))) : Int).toNat ≤ 281474976710656 then (letterboxlaw18_FindTexts.l0 k x0 (mn x2 (wrap64 ((x0.length : Int) - (mn x1 (x0.length : Int))))) x3 ((x0.take ((wrap64 ((mn x1 (x0.length : Int)) + (mn x2 (wrap64 ((x0.length : Int) - (mn x1 (x0.length : Int))))))) : Int).toNat).drop ((mn x1 (x0.length : Int)) : Int).toNat) (List.replicate (mn x2 (wrap64 ((x0.length : Int) - (mn x1 (x0.length : Int)))) : Int).toNat 0) 0 1 0 0 x0) else (none)) else (none)) else (none)) else (none)) else (none))
def letterboxlaw18_FindTexts.l0 : Nat → List Int → Int → ByteArray → List Int → List Int → Int → Int → Int → Int → List Int → Option (Bool)
 | 0, _, _, _, _, _, _, _, _, _, _ => none
 | k + 1, x0, x2, x3, x10, x11, x12, x381000, x381001, x381002, x381003 => if x12 < x2 then (if 0 ≤ x12 then (if x12 < (x10.length : Int) then (if x12 < (x11.length : Int) then ((some (x11.set (x12 : Int).toNat (rd x10 x12) : List Int)).bind fun y386 => (if (rd y386 x12) ≥ 97 then (if (rd y386 x12) ≤ 122 then (letterboxlaw18_FindTexts.l0 k x0 x2 x3 x10 (y386.set (x12 : Int).toNat (((rd y386 x12) - 32) % 256)) (wrap64 (x12 + 1)) x381000 x381001 x381002 x381003) else (letterboxlaw18_FindTexts.l0 k x0 x2 x3 x10 y386 (wrap64 (x12 + 1)) x381000 x381001 x381002 x381003)) else (letterboxlaw18_FindTexts.l0 k x0 x2 x3 x10 y386 (wrap64 (x12 + 1)) x381000 x381001 x381002 x381003))) else (none)) else (none)) else (none)) else ((letterboxlaw18_meant.f k (([(⟨1, (⟨#[116, 101, 120, 116]⟩ : ByteArray)⟩ : S42), (⟨2, strOfNums x11⟩ : S42)] : List (S42))) x381000 x381001 x381002 x381003).bind fun bt394 => (if (strOfNums x0).size + 1 ≤ 9223372036854775807 then (if (strOfNums x0).size + 1 + x3.size ≤ 9223372036854775807 then ((letterboxlaw18_meant.f k (([(⟨1, (⟨#[116, 101, 120, 116]⟩ : ByteArray)⟩ : S42), (⟨2, ((strOfNums x0) ++ (⟨#[120]⟩ : ByteArray)) ++ x3⟩ : S42)] : List (S42))) x381000 x381001 x381002 x381003).bind fun bt399 => (if bt394.2 = true then (if bt399.2 = true then (if bt394.1 = true then (if bt399.1 = true then (some false) else ((letterboxlaw18_known.f k).bind fun t401 => (some t401))) else (some false)) else (some false)) else (some false))) else (none)) else (none)))
end
def letterboxlaw18_FindTexts.f (k : Nat) (l0 : List Int) (a1 : Int) (a2 : Int) (a3 : ByteArray) : Option (Bool) := if (l0.length : Int) > 1000 then (letterboxlaw18_FindTexts.j0 k l0 a1 a2 a3 true) else (if a1 < 0 then (letterboxlaw18_FindTexts.j0 k l0 a1 a2 a3 true) else (if a2 < 0 then (letterboxlaw18_FindTexts.j0 k l0 a1 a2 a3 true) else (letterboxlaw18_FindTexts.j0 k l0 a1 a2 a3 (decide ((a3.size : Int) > 2000)))))
set_option maxHeartbeats 8000000 in
set_option maxRecDepth 100000 in
theorem letterboxlaw18_FindTexts.calls (k : Nat) (A0 : Option Addr) (c0 : Nat) (l0 : List Int) (a1 : Int) (a2 : Int) (a3 : ByteArray) (w : World) (hr0 : Kd.C (Kd.int .u8) w A0 l0.length l0) (hc0 : l0.length ≤ c0) (HL0 : Laid w) (h : letterboxlaw18_FindTexts.f k l0 a1 a2 a3 = some true) :
  Calls Tryz.prog 6 #[.slice A0 l0.length c0, .int .i64 a1, .int .i64 a2, .string a3] w fun e w' => e = .returned (.bool true) ∧ Below w.heap.size w w' := by
 have HLd := Aside0.mk HL0
 clear HL0
 have hu37 := Tryz.underlying37
 have hu42 := Tryz.underlying42
 have HR0 := Aside0.mk hr0
 have HC0 := Aside0.mk hc0
 clear hr0 hc0
 have HB := Aside0.mk (Below.refl w.heap.size w)
 have H : (if (l0.length : Int) > 1000 then (letterboxlaw18_FindTexts.j0 k l0 a1 a2 a3 true) else (if a1 < 0 then (letterboxlaw18_FindTexts.j0 k l0 a1 a2 a3 true) else (if a2 < 0 then (letterboxlaw18_FindTexts.j0 k l0 a1 a2 a3 true) else (letterboxlaw18_FindTexts.j0 k l0 a1 a2 a3 (decide ((a3.size : Int) > 2000)))))) = some true := h
 clear h
 have HC5 := Aside0.mk H
 clear H
 go_enter Tryz.func6, Tryz.ntmps6
 go_upto_region 1 with (fail)
 go_cut [32] (fun v32 wc => ∃ (kq : Nat) (x32_4 : Bool), v32 = .bool x32_4 ∧ Aside0 (letterboxlaw18_FindTexts.j0 kq l0 a1 a2 a3 x32_4 = some true) ∧ Aside0 (kq ≤ k) ∧ Aside0 (Below w.heap.size w wc))
 case first =>
  have H := HC5.out
  clear HC5
  by_cases c6 : (l0.length : Int) > 1000
  ·rw [if_pos c6] at H
   have c6b0 : decide (1000 < (l0.length : Int)) = true := decide_eq_true c6
   have c6b1 : decide (1000 < l0.length) = true := decide_eq_true (by omega)
   clear c6
   (first | rw [c6b0] | (simp only [i64_w, i32_w]; rw [c6b0]) | skip)
   have H' := Aside0.mk H
   clear H
   go_wp2
   go_meet
   case rel => exact ⟨_, (true), (by first | rfl | (simp; done) | (simp [*]; done)), H', ⟨by first | omega | exact Nat.le_refl _⟩, ⟨by repeat (first | (with_reducible first | exact HB.out | apply below_alloc | apply pw_below_drewN | apply below_drew1) | exact HB.out)⟩⟩
  ·rw [if_neg c6] at H
   have c6b0 : decide (1000 < (l0.length : Int)) = false := decide_eq_false c6
   have c6b1 : decide (1000 < l0.length) = false := decide_eq_false (by omega)
   clear c6
   (first | rw [c6b0] | (simp only [i64_w, i32_w]; rw [c6b0]) | skip)
   by_cases c7 : a1 < 0
   ·rw [if_pos c7] at H
    have c7b0 : decide (a1 < 0) = true := decide_eq_true c7
    clear c7
    have H' := Aside0.mk H
    clear H
    go_wp2
    go_meet
    case rel => exact ⟨_, (true), (by first | rfl | (simp; done) | (simp [*]; done)), H', ⟨by first | omega | exact Nat.le_refl _⟩, ⟨by repeat (first | (with_reducible first | exact HB.out | apply below_alloc | apply pw_below_drewN | apply below_drew1) | exact HB.out)⟩⟩
   ·rw [if_neg c7] at H
    have c7b0 : decide (a1 < 0) = false := decide_eq_false c7
    clear c7
    by_cases c8 : a2 < 0
    ·rw [if_pos c8] at H
     have c8b0 : decide (a2 < 0) = true := decide_eq_true c8
     clear c8
     have H' := Aside0.mk H
     clear H
     go_wp2
     go_meet
     case rel => exact ⟨_, (true), (by first | rfl | (simp; done) | (simp [*]; done)), H', ⟨by first | omega | exact Nat.le_refl _⟩, ⟨by repeat (first | (with_reducible first | exact HB.out | apply below_alloc | apply pw_below_drewN | apply below_drew1) | exact HB.out)⟩⟩
    ·rw [if_neg c8] at H
     have c8b0 : decide (a2 < 0) = false := decide_eq_false c8
     clear c8
     have H' := Aside0.mk H
     clear H
     go_wp2
     go_meet
     case rel => exact ⟨_, (decide ((a3.size : Int) > 2000)), (by first | rfl | (simp; done) | (simp [*]; done)), H', ⟨by first | omega | exact Nat.le_refl _⟩, ⟨by repeat (first | (with_reducible first | exact HB.out | apply below_alloc | apply pw_below_drewN | apply below_drew1) | exact HB.out)⟩⟩
 case rest =>
  clear HC5
  try clear p2
  try clear c6
  try clear c6b0
  try clear c6b1
  try clear c7
  try clear c7b0
  try clear c8
  try clear c8b0
  obtain ⟨kq, x32_4, rfl, HA, HJ4, HB⟩ := hcut
  cases kq with
  | zero => exact absurd HA.out (by simp [letterboxlaw18_FindTexts.j0])
  | succ kj4 =>
   have H := HA.out
   clear HA
   simp only [letterboxlaw18_FindTexts.j0] at H
   by_cases c9 : x32_4 = true
   ·subst c9
    have H1 : (some true) = some true := rfl
    clear H
    have H := H1
    clear H1
    first | (obtain rfl := Option.some.inj H) | (have Hr_ := Option.some.inj H)
    go_wp2
    go_ret
    exact ⟨rfl, by repeat (first | (with_reducible first | exact HB.out | apply below_alloc | apply pw_below_drewN | apply below_drew1) | exact HB.out)⟩
   ·replace c9 := Bool.eq_false_iff.mpr c9
    subst c9
    have H1 : (if 0 ≤ (mn a1 (l0.length : Int)) then (if (mn a1 (l0.length : Int)) ≤ (wrap64 ((mn a1 (l0.length : Int)) + (mn a2 (wrap64 ((l0.length : Int) - (mn a1 (l0.length : Int))))))) then (if (wrap64 ((mn a1 (l0.length : Int)) + (mn a2 (wrap64 ((l0.length : Int) - (mn a1 (l0.length : Int))))))) ≤ (l0.length : Int) then (if 0 ≤ (mn a2 (wrap64 ((l0.length : Int) - (mn a1 (l0.length : Int))))) then (if (mn a2 (wrap64 ((l0.length : Int) - (mn a1 (l0.length : Int)))) : Int).toNat ≤ 281474976710656 then (letterboxlaw18_FindTexts.l0 kj4 l0 (mn a2 (wrap64 ((l0.length : Int) - (mn a1 (l0.length : Int))))) a3 ((l0.take ((wrap64 ((mn a1 (l0.length : Int)) + (mn a2 (wrap64 ((l0.length : Int) - (mn a1 (l0.length : Int))))))) : Int).toNat).drop ((mn a1 (l0.length : Int)) : Int).toNat) (List.replicate (mn a2 (wrap64 ((l0.length : Int) - (mn a1 (l0.length : Int)))) : Int).toNat 0) 0 1 0 0 l0) else (none)) else (none)) else (none)) else (none)) else (none)) = some true := by rw [if_neg (show ¬ (false = true) by decide)] at H; exact H
    clear H
    have H := H1
    clear H1
    obtain ⟨ji10, hji10⟩ : ∃ j_ : Int, (mn a1 (l0.length : Int)) = j_ := ⟨_, rfl⟩
    replace H : (if 0 ≤ (ji10) then (if (ji10) ≤ (wrap64 ((ji10) + (mn a2 (wrap64 ((l0.length : Int) - (ji10)))))) then (if (wrap64 ((ji10) + (mn a2 (wrap64 ((l0.length : Int) - (ji10)))))) ≤ (l0.length : Int) then (if 0 ≤ (mn a2 (wrap64 ((l0.length : Int) - (ji10)))) then (if (mn a2 (wrap64 ((l0.length : Int) - (ji10))) : Int).toNat ≤ 281474976710656 then (letterboxlaw18_FindTexts.l0 kj4 l0 (mn a2 (wrap64 ((l0.length : Int) - (ji10)))) a3 ((l0.take ((wrap64 ((ji10) + (mn a2 (wrap64 ((l0.length : Int) - (ji10)))))) : Int).toNat).drop ((ji10) : Int).toNat) (List.replicate (mn a2 (wrap64 ((l0.length : Int) - (ji10))) : Int).toNat 0) 0 1 0 0 l0) else (none)) else (none)) else (none)) else (none)) else (none)) = some true := by first | (rw [hji10] at H; exact H) | (simp only [hji10] at H ⊢; exact H)
    have hji10_ : (if (l0.length : Int) < a1 then (l0.length : Int) else a1) = ji10 := hji10
    obtain ⟨ji11, hji11⟩ : ∃ j_ : Int, (mn a2 (wrap64 ((l0.length : Int) - (ji10)))) = j_ := ⟨_, rfl⟩
    replace H : (if 0 ≤ (ji10) then (if (ji10) ≤ (wrap64 ((ji10) + (ji11))) then (if (wrap64 ((ji10) + (ji11))) ≤ (l0.length : Int) then (if 0 ≤ (ji11) then (if (ji11 : Int).toNat ≤ 281474976710656 then (letterboxlaw18_FindTexts.l0 kj4 l0 ji11 a3 ((l0.take ((wrap64 ((ji10) + (ji11))) : Int).toNat).drop ((ji10) : Int).toNat) (List.replicate (ji11 : Int).toNat 0) 0 1 0 0 l0) else (none)) else (none)) else (none)) else (none)) else (none)) = some true := by first | (rw [hji11] at H; exact H) | (simp only [hji11] at H ⊢; exact H)
    have hji11_ : (if (wrap64 ((l0.length : Int) - (ji10))) < a2 then (wrap64 ((l0.length : Int) - (ji10))) else a2) = ji11 := hji11
    by_cases c12 : 0 ≤ (ji10)
    ·rw [if_pos c12] at H
     have c12b0 := eq_true c12
     have c12b1 : decide (0 ≤ (ji10)) = true := decide_eq_true c12
     clear c12
     by_cases c13 : (ji10) ≤ (wrap64 ((ji10) + (ji11)))
     ·rw [if_pos c13] at H
      have c13b0 := eq_true c13
      have c13b1 : decide ((ji10) ≤ (wrap64 ((ji10) + (ji11)))) = true := decide_eq_true c13
      by_cases c14 : (wrap64 ((ji10) + (ji11))) ≤ (l0.length : Int)
      ·rw [if_pos c14] at H
       have c14b0 := eq_true c14
       have c14b1 : decide ((wrap64 ((ji10) + (ji11))) ≤ (l0.length : Int)) = true := decide_eq_true c14
       by_cases c15 : 0 ≤ (ji11)
       ·rw [if_pos c15] at H
        have c15b0 := eq_true c15
        have c15b1 : decide (0 ≤ (ji11)) = true := decide_eq_true c15
        clear c15
        by_cases c16 : (ji11 : Int).toNat ≤ 281474976710656
        ·rw [if_pos c16] at H
         have c16b0 := eq_true c16
         have c16b1 : decide ((ji11 : Int).toNat ≤ 281474976710656) = true := decide_eq_true c16
         clear c16
         obtain ⟨y382, hy382⟩ : ∃ y_ : List Int, y_ = (List.replicate (ji11 : Int).toNat 0) := ⟨_, rfl⟩
         replace H : (letterboxlaw18_FindTexts.l0 kj4 l0 ji11 a3 ((l0.take ((wrap64 ((ji10) + (ji11))) : Int).toNat).drop ((ji10) : Int).toNat) y382 0 1 0 0 l0) = some true := by first | (rw [hy382]; with_reducible exact H) | (have H2_ := (Option.bind_some _ _).symm.trans H; rw [hy382]; with_reducible exact H2_) | exact H
         have Ny382 := Aside0.mk hy382
         clear hy382
         have H' := Aside0.mk H
         clear H
         go_wp2_with (first | ((with_reducible refine gate_dst (N := 9) rfl ?_); (try (refine gate_guard (by rfl) ?_; dsimp only)); refine box_event ?hg (N := 9) ?hd (cs := #[.int .i64 0, .int .i64 0, .int .i64 0, .slice none 0 0]) (t := 37) ?hr ?_; (case hd => rfl); (case hg => rfl); (case hr => first | (go_simp; done) | (go_simp; rfl)); intro gb380 hg w17 hbox hb; have n0_ := Aside0.mk (below_step (by repeat (first | (with_reducible first | exact HB.out | apply below_alloc | apply pw_below_drewN | apply below_drew1) | exact HB.out)) hb); have n1_ := Aside0.mk (hbox); have n2_ := Aside0.mk ((by rw [hg]; exact (below_size (by repeat (first | (with_reducible first | exact HB.out | apply below_alloc | apply pw_below_drewN | apply below_drew1) | exact HB.out))) : w.heap.size ≤ gb380)); have n3_ := Aside0.mk ((by rw [hg]; exact (below_size (by repeat (first | (with_reducible first | exact HB.out | apply below_alloc | apply pw_below_drewN | apply below_drew1) | exact HB.out))) : w.heap.size ≤ gb380)); clear HB; have HB := n0_; have BK380 := n1_; have GW380 := n2_; have GE380 := n3_; clear n0_ n1_ n2_ n3_; clear hb hbox hg; have hcz18_0 : w17.cell? ⟨gb380, 0, none⟩ = some (.int .i64 0) := (blk_cell BK380.out 0).trans rfl; have hcz18_1 : w17.cell? ⟨gb380, 1, none⟩ = some (.int .i64 0) := (blk_cell BK380.out 1).trans rfl; have hcz18_2 : w17.cell? ⟨gb380, 2, none⟩ = some (.int .i64 0) := (blk_cell BK380.out 2).trans rfl; have hcz18_3 : w17.cell? ⟨gb380, 3, none⟩ = some (.slice none 0 0) := (blk_cell BK380.out 3).trans rfl; have hfz18_0 := blk_frozen BK380.out 0; have hfz18_1 := blk_frozen BK380.out 1; have hfz18_2 := blk_frozen BK380.out 2; have hfz18_3 := blk_frozen BK380.out 3; obtain ⟨i019, hi019, _, hsz19, _⟩ := info_parts info5; obtain ⟨A19, hcut19, hA19, hC19⟩ := print_mid_of (P := Tryz.prog) (Value.int .u8) 0 35 5 .i64 .i64 Tryz.underlying35 hi019 hsz19 A0 c0 l0 (ji10) (wrap64 ((ji10) + (ji11))) (of_decide_eq_true (by first | (with_reducible assumption) | assumption)) (by first | omega | exact of_decide_eq_true (by first | (with_reducible assumption) | assumption)) (of_decide_eq_true (by first | (with_reducible assumption) | assumption)) HC0.out; have HR381 := Aside0.mk (Kd.C_of_reads (h1 := fun _ => rfl) (hA19 _ (Kd.reads_of_C HR0.out))); have HC381 := Aside0.mk hC19; clear hA19 hC19 hi019 hsz19) | ((with_reducible refine gate_dst (N := 52) rfl ?_); (try (refine gate_guard (by rfl) ?_; dsimp only)); refine Kd.R_make (Kd.int .u8) _ 5 rfl (N := 52) rfl 35 _ _ rfl ji11 rfl rfl Tryz.underlying35 (.int .u8 0) 1 info5 rfl (by decide) (by omega) 0 (ok := fun _ => True) (okp := fun _ => True) rfl (fun _ hk => hk) trivial (of_decide_eq_true (by first | (with_reducible assumption) | assumption)) (Nat.le_trans (Nat.mul_le_mul_right _ (of_decide_eq_true (by first | (with_reducible assumption) | assumption) : ji11.toNat ≤ 281474976710656)) (by omega)) (Below.refl _ _) (Nat.le_refl _) ?_; intro v383 w20 ho21 hb hg_ hnew_; clear hg_ hnew_; (first | rw [← Ny382.out] at ho21 | (simp only [Int.reduceToNat] at ho21; rw [← Ny382.out] at ho21)); have n0_ := Aside0.mk (Kd.R_lower ho21 (below_size (by repeat (first | (with_reducible first | exact HB.out | apply below_alloc | apply pw_below_drewN | apply below_drew1 | refine below_set ?_ GE380.out) | exact HB.out)))); have n1_ := Aside0.mk (blk_below (g := gb380) (o := .cells #[.int .i64 1, .int .i64 0, .int .i64 0, .slice A0 l0.length c0] 37 (0, 0)) (by (with_reducible repeat (first | refine blk_drewN ?_ _ | refine blk_drew ?_ | refine blk_alloc ?_ _)); refine blk_put (cs := #[.int .i64 1, .int .i64 0, .int .i64 0, .slice none 0 0]) ?_ 3 _ rfl; (with_reducible repeat (first | refine blk_drewN ?_ _ | refine blk_drew ?_ | refine blk_alloc ?_ _)); refine blk_put (cs := #[.int .i64 1, .int .i64 0, .int .i64 0, .slice none 0 0]) ?_ 2 _ rfl; (with_reducible repeat (first | refine blk_drewN ?_ _ | refine blk_drew ?_ | refine blk_alloc ?_ _)); refine blk_put (cs := #[.int .i64 1, .int .i64 0, .int .i64 0, .slice none 0 0]) ?_ 1 _ rfl; (with_reducible repeat (first | refine blk_drewN ?_ _ | refine blk_drew ?_ | refine blk_alloc ?_ _)); refine blk_put (cs := #[.int .i64 0, .int .i64 0, .int .i64 0, .slice none 0 0]) ?_ 0 _ rfl; (with_reducible repeat (first | refine blk_drewN ?_ _ | refine blk_drew ?_ | refine blk_alloc ?_ _)); exact BK380.out) hb); have n2_ := Aside0.mk (below_step (by repeat (first | (with_reducible first | exact HB.out | apply below_alloc | apply pw_below_drewN | apply below_drew1 | refine below_set ?_ GE380.out) | exact HB.out)) hb); clear BK380; clear HB; have HO384 := n0_; have BK380 := n1_; have HB := n2_; clear n0_ n1_ n2_; clear hb ho21))
         go_loopg [12] kj4 (fun kq v12 w' => ∃ (x11_2 : List Int) (x12_2 : Int), v12 = .int .i64 x12_2 ∧ Aside0 (letterboxlaw18_FindTexts.l0 kq l0 ji11 a3 ((l0.take ((wrap64 ((ji10) + (ji11))) : Int).toNat).drop ((ji10) : Int).toNat) x11_2 x12_2 1 0 0 l0 = some true) ∧ Aside0 (kq ≤ kj4) ∧ Aside0 (Kd.R (Kd.int .u8) 5 w' w.heap.size (fun _ => True) v383 x11_2) ∧ Aside0 (w'.heap[gb380]? = some (.cells #[.int .i64 1, .int .i64 0, .int .i64 0, (.slice A0 l0.length c0)] 37 (0, 0))) ∧ Aside0 (Below w.heap.size w w'))
         case atStart => exact ⟨(y382), (0), (by first | rfl | (simp; done) | (simp [*]; done)), H', ⟨Nat.le_refl _⟩, ⟨by (with_reducible repeat (first | apply Kd.R_alloc | apply Kd.R_drewN | apply Kd.R_drew)); exact HO384.out⟩, ⟨by (with_reducible repeat (first | refine blk_drewN ?_ _ | refine blk_drew ?_ | refine blk_alloc ?_ _)); exact BK380.out⟩, ⟨by repeat (first | (with_reducible first | exact HB.out | apply below_alloc | apply pw_below_drewN | apply below_drew1 | refine below_set ?_ GE380.out) | exact HB.out)⟩⟩
         case round =>
          clear H'
          try clear c1
          try clear p2
          try clear c6
          try clear c6b0
          try clear c6b1
          try clear p6
          try clear c7
          try clear c7b0
          try clear c8
          try clear c8b0
          try clear c9
          try clear c12
          try clear c12b0
          try clear c12b1
          try clear c13
          try clear c13b0
          try clear c13b1
          try clear c14
          try clear c14b0
          try clear c14b1
          try clear c15
          try clear c15b0
          try clear c15b1
          try clear c16
          try clear c16b0
          try clear c16b1
          try clear hcz18_0
          try clear hcz18_1
          try clear hcz18_2
          try clear hcz18_3
          try clear hfz18_0
          try clear hfz18_1
          try clear hfz18_2
          try clear hfz18_3
          try clear p2
          obtain ⟨x11_2, x12_2, rfl, HA, HK2, HO_11, BK380, HB⟩ := hrel
          cases gk with
          | zero => exact absurd HA.out (by simp [letterboxlaw18_FindTexts.l0])
          | succ k2 =>
           have H := HA.out
           clear HA
           simp only [letterboxlaw18_FindTexts.l0] at H
           by_cases c22 : x12_2 < ji11
           ·rw [if_pos c22] at H
            have c22b0 : decide (x12_2 < ji11) = true := decide_eq_true c22
            clear c22
            by_cases c23 : 0 ≤ x12_2
            ·rw [if_pos c23] at H
             have c23b0 : decide (0 ≤ x12_2) = true := decide_eq_true c23
             clear c23
             by_cases c24 : x12_2 < (((l0.take ((wrap64 ((ji10) + (ji11))) : Int).toNat).drop ((ji10) : Int).toNat).length : Int)
             ·rw [if_pos c24] at H
              have c24b0 : decide (x12_2 < (((l0.take ((wrap64 ((ji10) + (ji11))) : Int).toNat).drop ((ji10) : Int).toNat).length : Int)) = true := decide_eq_true c24
              clear c24
              by_cases c25 : x12_2 < (x11_2.length : Int)
              ·rw [if_pos c25] at H
               have c25b0 : decide (x12_2 < (x11_2.length : Int)) = true := decide_eq_true c25
               clear c25
               obtain ⟨y386, hy386⟩ : ∃ y_ : List Int, y_ = (x11_2.set (x12_2 : Int).toNat (rd ((l0.take ((wrap64 ((ji10) + (ji11))) : Int).toNat).drop ((ji10) : Int).toNat) x12_2)) := ⟨_, rfl⟩
               replace H : (if (rd y386 x12_2) ≥ 97 then (if (rd y386 x12_2) ≤ 122 then (letterboxlaw18_FindTexts.l0 k2 l0 ji11 a3 ((l0.take ((wrap64 ((ji10) + (ji11))) : Int).toNat).drop ((ji10) : Int).toNat) (y386.set (x12_2 : Int).toNat (((rd y386 x12_2) - 32) % 256)) (wrap64 (x12_2 + 1)) 1 0 0 l0) else (letterboxlaw18_FindTexts.l0 k2 l0 ji11 a3 ((l0.take ((wrap64 ((ji10) + (ji11))) : Int).toNat).drop ((ji10) : Int).toNat) y386 (wrap64 (x12_2 + 1)) 1 0 0 l0)) else (letterboxlaw18_FindTexts.l0 k2 l0 ji11 a3 ((l0.take ((wrap64 ((ji10) + (ji11))) : Int).toNat).drop ((ji10) : Int).toNat) y386 (wrap64 (x12_2 + 1)) 1 0 0 l0)) = some true := by first | (rw [hy386]; with_reducible exact H) | (have H2_ := (Option.bind_some _ _).symm.trans H; rw [hy386]; with_reducible exact H2_) | exact H
               have Ny386 := Aside0.mk hy386
               clear hy386
               by_cases c27 : (rd y386 x12_2) ≥ 97
               ·rw [if_pos c27] at H
                have c27b0 : decide (97 ≤ (rd y386 x12_2)) = true := decide_eq_true c27
                clear c27
                by_cases c28 : (rd y386 x12_2) ≤ 122
                ·rw [if_pos c28] at H
                 have c28b0 : decide ((rd y386 x12_2) ≤ 122) = true := decide_eq_true c28
                 clear c28
                 obtain ⟨y390, hy390⟩ : ∃ y_ : List Int, y_ = (y386.set (x12_2 : Int).toNat (((rd y386 x12_2) - 32) % 256)) := ⟨_, rfl⟩
                 replace H : (letterboxlaw18_FindTexts.l0 k2 l0 ji11 a3 ((l0.take ((wrap64 ((ji10) + (ji11))) : Int).toNat).drop ((ji10) : Int).toNat) y390 (wrap64 (x12_2 + 1)) 1 0 0 l0) = some true := by first | (rw [hy390]; with_reducible exact H) | (have H2_ := (Option.bind_some _ _).symm.trans H; rw [hy390]; with_reducible exact H2_) | exact H
                 have Ny390 := Aside0.mk hy390
                 clear hy390
                 have H' := Aside0.mk H
                 clear H
                 have p385 : 0 ≤ (x12_2 : Int) := of_decide_eq_true (by first | (with_reducible assumption) | assumption)
                 have q385 : x12_2 < (((l0.take ((wrap64 ((ji10) + (ji11))) : Int).toNat).drop ((ji10) : Int).toNat).length : Int) := of_decide_eq_true (by first | (with_reducible assumption) | assumption)
                 have q385w : x12_2 < (((wrap64 (ji10 + ji11)).toNat - ji10.toNat : Nat) : Int) := by have h_ := q385; rw [List.length_drop, List.length_take] at h_; omega
                 replace q385w := eq_true q385w
                 obtain ⟨ad385, e385, hx385_0⟩ := Kd.at_int HR381.out x12_2 p385 q385
                 cases e385
                 replace hx385_0 := (HB.out.cell (World.block_lt_of_cell? w _ hx385_0)).trans hx385_0
                 replace p385 := eq_true p385
                 replace q385 := eq_true q385
                 have p26 : 0 ≤ (x12_2 : Int) := of_decide_eq_true (by first | (with_reducible assumption) | assumption)
                 have q26 : (x12_2 : Int) < ((x11_2.length : Int) : Int) := of_decide_eq_true (by first | (with_reducible assumption) | assumption)
                 obtain ⟨go26, co26, eo26, gb26, gl26, cl26, HG26⟩ := Kd.R_form HO_11.out (by omega)
                 (first | cases eo26 | (injection eo26 with ea_ en_ ec_; (first | subst ea_ | (injection ea_ with ea_; subst ea_)); subst ec_; clear en_))
                 have GB26 := Aside0.mk gb26
                 have GG26 := Aside0.mk HG26
                 clear gb26 gl26 HG26
                 obtain ⟨hx26_0, hf26_0⟩ := Kd.R_celln 0 HO_11.out (x12_2 : Int) p26 q26
                 replace p26 := eq_true p26
                 replace q26 := eq_true q26
                 have HP30 := Kd.R_putg HO_11.out (x12_2 : Int) (rd ((l0.take ((wrap64 ((ji10) + (ji11))) : Int).toNat).drop ((ji10) : Int).toNat) x12_2)
                 go_wp2_with (first | ((with_reducible refine gate_store (t := 5) (p := 64) rfl ?_); refine store_event (t := 5) (p := 64) (v := ?vo_w31) (w1 := (wr.setCell ⟨go26, (x12_2 : Int).toNat, none⟩ (.int .u8 (rd ((l0.take ((wrap64 ((ji10) + (ji11))) : Int).toNat).drop ((ji10) : Int).toNat) x12_2)))) ?hg ?ho ?hn ?hr ?_; (case ho => rfl); (case hg => rfl); (case hn => rfl); (case hr => first | (go_simp; done) | (go_simp; rfl)); intro w31 hw; have hg : wr.grownBy w31 (some go26) := (by rw [hw]; exact HP30.2); have hp_ : Kd.R (Kd.int .u8) 5 w31 w.heap.size (fun _ => True) (.slice (some ⟨go26, 0, none⟩) x11_2.length co26) y386 := (by rw [hw, Ny386.out]; exact HP30.1); clear HP30; have n0_ := Aside0.mk (hp_); have n1_ := Aside0.mk (blk_grown (g := gb380) (o := .cells #[.int .i64 1, .int .i64 0, .int .i64 0, .slice A0 l0.length c0] 37 (0, 0)) (by (with_reducible repeat (first | refine blk_drewN ?_ _ | refine blk_drew ?_ | refine blk_alloc ?_ _)); exact BK380.out) hg (Kd.R_ne HO_11.out BK380.out (by decide))); have n2_ := Aside0.mk ((by rw [hw]; exact below_set (HB.out) GB26.out : Below w.heap.size w w31)); clear HO_11; clear BK380; clear HB; have HO_11 := n0_; have BK380 := n1_; have HB := n2_; clear n0_ n1_ n2_; clear hg hw hp_; have p387 : 0 ≤ (x12_2 : Int) := of_decide_eq_true (by first | (with_reducible assumption) | assumption); have q387 : x12_2 < (y386.length : Int) := (by have h_ : (x12_2 : Int) < ((x11_2.length : Int) : Int) := of_decide_eq_true (by first | (with_reducible assumption) | assumption); first | (have e_ := (Kd.R_reads' HO_11.out).1; omega) | simpa only [Ny386.out, List.length_set] using h_); have ql387 : ((x12_2 : Int) < ((x11_2.length : Int) : Int)) = True := eq_true (of_decide_eq_true (by first | (with_reducible assumption) | assumption)); obtain ⟨ad387, e387, hx387_0⟩ := Kd.at_int (Kd.R_reads' HO_11.out).2.2 x12_2 p387 q387; obtain rfl : (⟨go26, 0, none⟩ : Addr) = ad387 := (by injection e387); (first | simp only [add_plain] at hx387_0 | simp only [add_at] at hx387_0 | simp only [Addr.add, Nat.zero_add] at hx387_0 | skip); replace p387 := eq_true p387; replace q387 := eq_true q387; have p388 : 0 ≤ (x12_2 : Int) := of_decide_eq_true (by first | (with_reducible assumption) | assumption); have q388 : x12_2 < (y386.length : Int) := (by have h_ : (x12_2 : Int) < ((x11_2.length : Int) : Int) := of_decide_eq_true (by first | (with_reducible assumption) | assumption); first | (have e_ := (Kd.R_reads' HO_11.out).1; omega) | simpa only [Ny386.out, List.length_set] using h_); have ql388 : ((x12_2 : Int) < ((x11_2.length : Int) : Int)) = True := eq_true (of_decide_eq_true (by first | (with_reducible assumption) | assumption)); obtain ⟨ad388, e388, hx388_0⟩ := Kd.at_int (Kd.R_reads' HO_11.out).2.2 x12_2 p388 q388; obtain rfl : (⟨go26, 0, none⟩ : Addr) = ad388 := (by injection e388); (first | simp only [add_plain] at hx388_0 | simp only [add_at] at hx388_0 | simp only [Addr.add, Nat.zero_add] at hx388_0 | skip); replace p388 := eq_true p388; replace q388 := eq_true q388; have p389 : 0 ≤ (x12_2 : Int) := of_decide_eq_true (by first | (with_reducible assumption) | assumption); have q389 : x12_2 < (y386.length : Int) := (by have h_ : (x12_2 : Int) < ((x11_2.length : Int) : Int) := of_decide_eq_true (by first | (with_reducible assumption) | assumption); first | (have e_ := (Kd.R_reads' HO_11.out).1; omega) | simpa only [Ny386.out, List.length_set] using h_); have ql389 : ((x12_2 : Int) < ((x11_2.length : Int) : Int)) = True := eq_true (of_decide_eq_true (by first | (with_reducible assumption) | assumption)); obtain ⟨ad389, e389, hx389_0⟩ := Kd.at_int (Kd.R_reads' HO_11.out).2.2 x12_2 p389 q389; obtain rfl : (⟨go26, 0, none⟩ : Addr) = ad389 := (by injection e389); (first | simp only [add_plain] at hx389_0 | simp only [add_at] at hx389_0 | simp only [Addr.add, Nat.zero_add] at hx389_0 | skip); replace p389 := eq_true p389; replace q389 := eq_true q389; have p29 : 0 ≤ (x12_2 : Int) := of_decide_eq_true (by first | (with_reducible assumption) | assumption); have q29 : (x12_2 : Int) < ((x11_2.length : Int) : Int) := of_decide_eq_true (by first | (with_reducible assumption) | assumption); obtain ⟨hx29_0, hf29_0⟩ := Kd.R_celln 0 HO_11.out (x12_2 : Int) p29 q29; replace p29 := eq_true p29; replace q29 := eq_true q29; obtain ⟨hy32_, hz32_⟩ := Kd.R_celln 0 HO_11.out (x12_2 : Int) (of_decide_eq_true (by first | (with_reducible assumption) | assumption)) (of_decide_eq_true (by first | (with_reducible assumption) | assumption)); have HP32 := Kd.R_putg HO_11.out (x12_2 : Int) (((rd y386 x12_2) - 32) % 256)) | ((with_reducible refine gate_store (t := 5) (p := 84) rfl ?_); refine store_event (t := 5) (p := 84) (v := ?vo_w33) (w1 := (w31.setCell ⟨go26, (x12_2 : Int).toNat, none⟩ (.int .u8 (((rd y386 x12_2) - 32) % 256)))) ?hg ?ho ?hn ?hr ?_; (case ho => rfl); (case hg => rfl); (case hn => rfl); (case hr => first | (go_simp; done) | (go_simp; rfl)); intro w33 hw; have hg : w31.grownBy w33 (some go26) := (by rw [hw]; exact HP32.2); have hp_ : Kd.R (Kd.int .u8) 5 w33 w.heap.size (fun _ => True) (.slice (some ⟨go26, 0, none⟩) x11_2.length co26) y390 := (by rw [hw, Ny390.out]; exact HP32.1); clear HP32; have n0_ := Aside0.mk (hp_); have n1_ := Aside0.mk (blk_grown (g := gb380) (o := .cells #[.int .i64 1, .int .i64 0, .int .i64 0, .slice A0 l0.length c0] 37 (0, 0)) (by (with_reducible repeat (first | refine blk_drewN ?_ _ | refine blk_drew ?_ | refine blk_alloc ?_ _)); exact BK380.out) hg (Kd.R_ne HO_11.out BK380.out (by decide))); have n2_ := Aside0.mk ((by rw [hw]; exact below_set (HB.out) GB26.out : Below w.heap.size w w33)); clear HO_11; clear BK380; clear HB; have HO_11 := n0_; have BK380 := n1_; have HB := n2_; clear n0_ n1_ n2_; clear hg hw hp_))
                 go_roundg k2
                 case measure => have := HJ4.out; have := HK2.out; omega
                 case rel => exact ⟨(y390), (wrap64 (x12_2 + 1)), (by first | rfl | (simp; done) | (simp [*]; done)), H', ⟨by have := HJ4.out; have := HK2.out; omega⟩, ⟨by (with_reducible repeat (first | apply Kd.R_alloc | apply Kd.R_drewN | apply Kd.R_drew)); exact HO_11.out⟩, ⟨by (with_reducible repeat (first | refine blk_drewN ?_ _ | refine blk_drew ?_ | refine blk_alloc ?_ _)); exact BK380.out⟩, ⟨by repeat (first | (with_reducible first | exact HB.out | apply below_alloc | apply pw_below_drewN | apply below_drew1 | refine below_set ?_ GE380.out) | exact HB.out)⟩⟩
                ·rw [if_neg c28] at H
                 have c28b0 : decide ((rd y386 x12_2) ≤ 122) = false := decide_eq_false c28
                 clear c28
                 have H' := Aside0.mk H
                 clear H
                 have p385 : 0 ≤ (x12_2 : Int) := of_decide_eq_true (by first | (with_reducible assumption) | assumption)
                 have q385 : x12_2 < (((l0.take ((wrap64 ((ji10) + (ji11))) : Int).toNat).drop ((ji10) : Int).toNat).length : Int) := of_decide_eq_true (by first | (with_reducible assumption) | assumption)
                 have q385w : x12_2 < (((wrap64 (ji10 + ji11)).toNat - ji10.toNat : Nat) : Int) := by have h_ := q385; rw [List.length_drop, List.length_take] at h_; omega
                 replace q385w := eq_true q385w
                 obtain ⟨ad385, e385, hx385_0⟩ := Kd.at_int HR381.out x12_2 p385 q385
                 cases e385
                 replace hx385_0 := (HB.out.cell (World.block_lt_of_cell? w _ hx385_0)).trans hx385_0
                 replace p385 := eq_true p385
                 replace q385 := eq_true q385
                 have p26 : 0 ≤ (x12_2 : Int) := of_decide_eq_true (by first | (with_reducible assumption) | assumption)
                 have q26 : (x12_2 : Int) < ((x11_2.length : Int) : Int) := of_decide_eq_true (by first | (with_reducible assumption) | assumption)
                 obtain ⟨go26, co26, eo26, gb26, gl26, cl26, HG26⟩ := Kd.R_form HO_11.out (by omega)
                 (first | cases eo26 | (injection eo26 with ea_ en_ ec_; (first | subst ea_ | (injection ea_ with ea_; subst ea_)); subst ec_; clear en_))
                 have GB26 := Aside0.mk gb26
                 have GG26 := Aside0.mk HG26
                 clear gb26 gl26 HG26
                 obtain ⟨hx26_0, hf26_0⟩ := Kd.R_celln 0 HO_11.out (x12_2 : Int) p26 q26
                 replace p26 := eq_true p26
                 replace q26 := eq_true q26
                 have HP34 := Kd.R_putg HO_11.out (x12_2 : Int) (rd ((l0.take ((wrap64 ((ji10) + (ji11))) : Int).toNat).drop ((ji10) : Int).toNat) x12_2)
                 go_wp2_with (first | ((with_reducible refine gate_store (t := 5) (p := 64) rfl ?_); refine store_event (t := 5) (p := 64) (v := ?vo_w35) (w1 := (wr.setCell ⟨go26, (x12_2 : Int).toNat, none⟩ (.int .u8 (rd ((l0.take ((wrap64 ((ji10) + (ji11))) : Int).toNat).drop ((ji10) : Int).toNat) x12_2)))) ?hg ?ho ?hn ?hr ?_; (case ho => rfl); (case hg => rfl); (case hn => rfl); (case hr => first | (go_simp; done) | (go_simp; rfl)); intro w35 hw; have hg : wr.grownBy w35 (some go26) := (by rw [hw]; exact HP34.2); have hp_ : Kd.R (Kd.int .u8) 5 w35 w.heap.size (fun _ => True) (.slice (some ⟨go26, 0, none⟩) x11_2.length co26) y386 := (by rw [hw, Ny386.out]; exact HP34.1); clear HP34; have n0_ := Aside0.mk (hp_); have n1_ := Aside0.mk (blk_grown (g := gb380) (o := .cells #[.int .i64 1, .int .i64 0, .int .i64 0, .slice A0 l0.length c0] 37 (0, 0)) (by (with_reducible repeat (first | refine blk_drewN ?_ _ | refine blk_drew ?_ | refine blk_alloc ?_ _)); exact BK380.out) hg (Kd.R_ne HO_11.out BK380.out (by decide))); have n2_ := Aside0.mk ((by rw [hw]; exact below_set (HB.out) GB26.out : Below w.heap.size w w35)); clear HO_11; clear BK380; clear HB; have HO_11 := n0_; have BK380 := n1_; have HB := n2_; clear n0_ n1_ n2_; clear hg hw hp_; have p387 : 0 ≤ (x12_2 : Int) := of_decide_eq_true (by first | (with_reducible assumption) | assumption); have q387 : x12_2 < (y386.length : Int) := (by have h_ : (x12_2 : Int) < ((x11_2.length : Int) : Int) := of_decide_eq_true (by first | (with_reducible assumption) | assumption); first | (have e_ := (Kd.R_reads' HO_11.out).1; omega) | simpa only [Ny386.out, List.length_set] using h_); have ql387 : ((x12_2 : Int) < ((x11_2.length : Int) : Int)) = True := eq_true (of_decide_eq_true (by first | (with_reducible assumption) | assumption)); obtain ⟨ad387, e387, hx387_0⟩ := Kd.at_int (Kd.R_reads' HO_11.out).2.2 x12_2 p387 q387; obtain rfl : (⟨go26, 0, none⟩ : Addr) = ad387 := (by injection e387); (first | simp only [add_plain] at hx387_0 | simp only [add_at] at hx387_0 | simp only [Addr.add, Nat.zero_add] at hx387_0 | skip); replace p387 := eq_true p387; replace q387 := eq_true q387; have p388 : 0 ≤ (x12_2 : Int) := of_decide_eq_true (by first | (with_reducible assumption) | assumption); have q388 : x12_2 < (y386.length : Int) := (by have h_ : (x12_2 : Int) < ((x11_2.length : Int) : Int) := of_decide_eq_true (by first | (with_reducible assumption) | assumption); first | (have e_ := (Kd.R_reads' HO_11.out).1; omega) | simpa only [Ny386.out, List.length_set] using h_); have ql388 : ((x12_2 : Int) < ((x11_2.length : Int) : Int)) = True := eq_true (of_decide_eq_true (by first | (with_reducible assumption) | assumption)); obtain ⟨ad388, e388, hx388_0⟩ := Kd.at_int (Kd.R_reads' HO_11.out).2.2 x12_2 p388 q388; obtain rfl : (⟨go26, 0, none⟩ : Addr) = ad388 := (by injection e388); (first | simp only [add_plain] at hx388_0 | simp only [add_at] at hx388_0 | simp only [Addr.add, Nat.zero_add] at hx388_0 | skip); replace p388 := eq_true p388; replace q388 := eq_true q388))
                 go_roundg k2
                 case measure => have := HJ4.out; have := HK2.out; omega
                 case rel => exact ⟨(y386), (wrap64 (x12_2 + 1)), (by first | rfl | (simp; done) | (simp [*]; done)), H', ⟨by have := HJ4.out; have := HK2.out; omega⟩, ⟨by (with_reducible repeat (first | apply Kd.R_alloc | apply Kd.R_drewN | apply Kd.R_drew)); exact HO_11.out⟩, ⟨by (with_reducible repeat (first | refine blk_drewN ?_ _ | refine blk_drew ?_ | refine blk_alloc ?_ _)); exact BK380.out⟩, ⟨by repeat (first | (with_reducible first | exact HB.out | apply below_alloc | apply pw_below_drewN | apply below_drew1 | refine below_set ?_ GE380.out) | exact HB.out)⟩⟩
               ·rw [if_neg c27] at H
                have c27b0 : decide (97 ≤ (rd y386 x12_2)) = false := decide_eq_false c27
                clear c27
                have H' := Aside0.mk H
                clear H
                have p385 : 0 ≤ (x12_2 : Int) := of_decide_eq_true (by first | (with_reducible assumption) | assumption)
                have q385 : x12_2 < (((l0.take ((wrap64 ((ji10) + (ji11))) : Int).toNat).drop ((ji10) : Int).toNat).length : Int) := of_decide_eq_true (by first | (with_reducible assumption) | assumption)
                have q385w : x12_2 < (((wrap64 (ji10 + ji11)).toNat - ji10.toNat : Nat) : Int) := by have h_ := q385; rw [List.length_drop, List.length_take] at h_; omega
                replace q385w := eq_true q385w
                obtain ⟨ad385, e385, hx385_0⟩ := Kd.at_int HR381.out x12_2 p385 q385
                cases e385
                replace hx385_0 := (HB.out.cell (World.block_lt_of_cell? w _ hx385_0)).trans hx385_0
                replace p385 := eq_true p385
                replace q385 := eq_true q385
                have p26 : 0 ≤ (x12_2 : Int) := of_decide_eq_true (by first | (with_reducible assumption) | assumption)
                have q26 : (x12_2 : Int) < ((x11_2.length : Int) : Int) := of_decide_eq_true (by first | (with_reducible assumption) | assumption)
                obtain ⟨go26, co26, eo26, gb26, gl26, cl26, HG26⟩ := Kd.R_form HO_11.out (by omega)
                (first | cases eo26 | (injection eo26 with ea_ en_ ec_; (first | subst ea_ | (injection ea_ with ea_; subst ea_)); subst ec_; clear en_))
                have GB26 := Aside0.mk gb26
                have GG26 := Aside0.mk HG26
                clear gb26 gl26 HG26
                obtain ⟨hx26_0, hf26_0⟩ := Kd.R_celln 0 HO_11.out (x12_2 : Int) p26 q26
                replace p26 := eq_true p26
                replace q26 := eq_true q26
                have HP36 := Kd.R_putg HO_11.out (x12_2 : Int) (rd ((l0.take ((wrap64 ((ji10) + (ji11))) : Int).toNat).drop ((ji10) : Int).toNat) x12_2)
                go_wp2_with (first | ((with_reducible refine gate_store (t := 5) (p := 64) rfl ?_); refine store_event (t := 5) (p := 64) (v := ?vo_w37) (w1 := (wr.setCell ⟨go26, (x12_2 : Int).toNat, none⟩ (.int .u8 (rd ((l0.take ((wrap64 ((ji10) + (ji11))) : Int).toNat).drop ((ji10) : Int).toNat) x12_2)))) ?hg ?ho ?hn ?hr ?_; (case ho => rfl); (case hg => rfl); (case hn => rfl); (case hr => first | (go_simp; done) | (go_simp; rfl)); intro w37 hw; have hg : wr.grownBy w37 (some go26) := (by rw [hw]; exact HP36.2); have hp_ : Kd.R (Kd.int .u8) 5 w37 w.heap.size (fun _ => True) (.slice (some ⟨go26, 0, none⟩) x11_2.length co26) y386 := (by rw [hw, Ny386.out]; exact HP36.1); clear HP36; have n0_ := Aside0.mk (hp_); have n1_ := Aside0.mk (blk_grown (g := gb380) (o := .cells #[.int .i64 1, .int .i64 0, .int .i64 0, .slice A0 l0.length c0] 37 (0, 0)) (by (with_reducible repeat (first | refine blk_drewN ?_ _ | refine blk_drew ?_ | refine blk_alloc ?_ _)); exact BK380.out) hg (Kd.R_ne HO_11.out BK380.out (by decide))); have n2_ := Aside0.mk ((by rw [hw]; exact below_set (HB.out) GB26.out : Below w.heap.size w w37)); clear HO_11; clear BK380; clear HB; have HO_11 := n0_; have BK380 := n1_; have HB := n2_; clear n0_ n1_ n2_; clear hg hw hp_; have p387 : 0 ≤ (x12_2 : Int) := of_decide_eq_true (by first | (with_reducible assumption) | assumption); have q387 : x12_2 < (y386.length : Int) := (by have h_ : (x12_2 : Int) < ((x11_2.length : Int) : Int) := of_decide_eq_true (by first | (with_reducible assumption) | assumption); first | (have e_ := (Kd.R_reads' HO_11.out).1; omega) | simpa only [Ny386.out, List.length_set] using h_); have ql387 : ((x12_2 : Int) < ((x11_2.length : Int) : Int)) = True := eq_true (of_decide_eq_true (by first | (with_reducible assumption) | assumption)); obtain ⟨ad387, e387, hx387_0⟩ := Kd.at_int (Kd.R_reads' HO_11.out).2.2 x12_2 p387 q387; obtain rfl : (⟨go26, 0, none⟩ : Addr) = ad387 := (by injection e387); (first | simp only [add_plain] at hx387_0 | simp only [add_at] at hx387_0 | simp only [Addr.add, Nat.zero_add] at hx387_0 | skip); replace p387 := eq_true p387; replace q387 := eq_true q387))
                go_roundg k2
                case measure => have := HJ4.out; have := HK2.out; omega
                case rel => exact ⟨(y386), (wrap64 (x12_2 + 1)), (by first | rfl | (simp; done) | (simp [*]; done)), H', ⟨by have := HJ4.out; have := HK2.out; omega⟩, ⟨by (with_reducible repeat (first | apply Kd.R_alloc | apply Kd.R_drewN | apply Kd.R_drew)); exact HO_11.out⟩, ⟨by (with_reducible repeat (first | refine blk_drewN ?_ _ | refine blk_drew ?_ | refine blk_alloc ?_ _)); exact BK380.out⟩, ⟨by repeat (first | (with_reducible first | exact HB.out | apply below_alloc | apply pw_below_drewN | apply below_drew1 | refine below_set ?_ GE380.out) | exact HB.out)⟩⟩
              ·rw [if_neg c25] at H
               exact absurd H (by simp)
             ·rw [if_neg c24] at H
              exact absurd H (by simp)
            ·rw [if_neg c23] at H
             exact absurd H (by simp)
           ·rw [if_neg c22] at H
            have c22b0 : decide (x12_2 < ji11) = false := decide_eq_false c22
            clear c22
            obtain ⟨y391, hy391⟩ : ∃ y_ : List (S42), y_ = (([(⟨1, (⟨#[116, 101, 120, 116]⟩ : ByteArray)⟩ : S42), (⟨2, strOfNums x11_2⟩ : S42)] : List (S42))) := ⟨_, rfl⟩
            replace H : ((letterboxlaw18_meant.f k2 y391 1 0 0 l0).bind fun bt394 => (if (strOfNums l0).size + 1 ≤ 9223372036854775807 then (if (strOfNums l0).size + 1 + a3.size ≤ 9223372036854775807 then ((letterboxlaw18_meant.f k2 (([(⟨1, (⟨#[116, 101, 120, 116]⟩ : ByteArray)⟩ : S42), (⟨2, ((strOfNums l0) ++ (⟨#[120]⟩ : ByteArray)) ++ a3⟩ : S42)] : List (S42))) 1 0 0 l0).bind fun bt399 => (if bt394.2 = true then (if bt399.2 = true then (if bt394.1 = true then (if bt399.1 = true then (some false) else ((letterboxlaw18_known.f k2).bind fun t401 => (some t401))) else (some false)) else (some false)) else (some false))) else (none)) else (none))) = some true := by first | (rw [hy391]; with_reducible exact H) | (have H2_ := (Option.bind_some _ _).symm.trans H; rw [hy391]; with_reducible exact H2_) | exact H
            have Ny391 := Aside0.mk hy391
            clear hy391
            replace H := Option.bind_eq_some_iff.mp H
            obtain ⟨⟨t394, t395⟩, A380, H⟩ := H
            replace H : (if (strOfNums l0).size + 1 ≤ 9223372036854775807 then (if (strOfNums l0).size + 1 + a3.size ≤ 9223372036854775807 then ((letterboxlaw18_meant.f k2 (([(⟨1, (⟨#[116, 101, 120, 116]⟩ : ByteArray)⟩ : S42), (⟨2, ((strOfNums l0) ++ (⟨#[120]⟩ : ByteArray)) ++ a3⟩ : S42)] : List (S42))) 1 0 0 l0).bind fun bt399 => (if t395 = true then (if bt399.2 = true then (if t394 = true then (if bt399.1 = true then (some false) else ((letterboxlaw18_known.f k2).bind fun t401 => (some t401))) else (some false)) else (some false)) else (some false))) else (none)) else (none)) = some true := H
            have A38 := Aside0.mk A380
            clear A380
            by_cases c39 : (strOfNums l0).size + 1 ≤ 9223372036854775807
            ·rw [if_pos c39] at H
             have c39b0 := eq_true c39
             have c39b1 : decide ((strOfNums l0).size + 1 ≤ 9223372036854775807) = true := decide_eq_true c39
             try have c39b2 : (9223372036854775807 < (strOfNums l0).size + 1) = False := eq_false (Nat.not_lt.2 c39)
             by_cases c40 : (strOfNums l0).size + 1 + a3.size ≤ 9223372036854775807
             ·rw [if_pos c40] at H
              have c40b0 := eq_true c40
              have c40b1 : decide ((strOfNums l0).size + 1 + a3.size ≤ 9223372036854775807) = true := decide_eq_true c40
              try have c40b2 : (9223372036854775807 < (strOfNums l0).size + 1 + a3.size) = False := eq_false (Nat.not_lt.2 c40)
              obtain ⟨y396, hy396⟩ : ∃ y_ : List (S42), y_ = (([(⟨1, (⟨#[116, 101, 120, 116]⟩ : ByteArray)⟩ : S42), (⟨2, ((strOfNums l0) ++ (⟨#[120]⟩ : ByteArray)) ++ a3⟩ : S42)] : List (S42))) := ⟨_, rfl⟩
              replace H : ((letterboxlaw18_meant.f k2 y396 1 0 0 l0).bind fun bt399 => (if t395 = true then (if bt399.2 = true then (if t394 = true then (if bt399.1 = true then (some false) else ((letterboxlaw18_known.f k2).bind fun t401 => (some t401))) else (some false)) else (some false)) else (some false))) = some true := by first | (rw [hy396]; with_reducible exact H) | (have H2_ := (Option.bind_some _ _).symm.trans H; rw [hy396]; with_reducible exact H2_) | exact H
              have Ny396 := Aside0.mk hy396
              clear hy396
              replace H := Option.bind_eq_some_iff.mp H
              obtain ⟨⟨t399, t400⟩, A410, H⟩ := H
              replace H : (if t395 = true then (if t400 = true then (if t394 = true then (if t399 = true then (some false) else ((letterboxlaw18_known.f k2).bind fun t401 => (some t401))) else (some false)) else (some false)) else (some false)) = some true := H
              have A41 := Aside0.mk A410
              clear A410
              by_cases c42 : t395 = true
              ·subst c42
               have H1 : (if t400 = true then (if t394 = true then (if t399 = true then (some false) else ((letterboxlaw18_known.f k2).bind fun t401 => (some t401))) else (some false)) else (some false)) = some true := by rw [if_pos rfl] at H; exact H
               clear H
               have H := H1
               clear H1
               by_cases c43 : t400 = true
               ·subst c43
                have H1 : (if t394 = true then (if t399 = true then (some false) else ((letterboxlaw18_known.f k2).bind fun t401 => (some t401))) else (some false)) = some true := by rw [if_pos rfl] at H; exact H
                clear H
                have H := H1
                clear H1
                by_cases c44 : t394 = true
                ·subst c44
                 have H1 : (if t399 = true then (some false) else ((letterboxlaw18_known.f k2).bind fun t401 => (some t401))) = some true := by rw [if_pos rfl] at H; exact H
                 clear H
                 have H := H1
                 clear H1
                 by_cases c45 : t399 = true
                 ·subst c45
                  have H1 : (some false) = some true := by rw [if_pos rfl] at H; exact H
                  clear H
                  have H := H1
                  clear H1
                  exact absurd H (by repeat' first | exact NT.none | exact NT.false | refine NT.ite ?_ ?_ | refine NT.bind (fun _ => ?_))
                 ·replace c45 := Bool.eq_false_iff.mpr c45
                  subst c45
                  have H1 : ((letterboxlaw18_known.f k2).bind fun t401 => (some t401)) = some true := by rw [if_neg (show ¬ (false = true) by decide)] at H; exact H
                  clear H
                  have H := H1
                  clear H1
                  replace H := Option.bind_eq_some_iff.mp H
                  obtain ⟨t401, A460, H⟩ := H
                  replace H : (some t401) = some true := H
                  have A46 := Aside0.mk A460
                  clear A460
                  have Hr_ := Option.some.inj H
                  (first | have hcv47 := own_string (P := Tryz.prog) Tryz.underlying35 Tryz.underlying5 Tryz.underlying9 (Kd.own_of_R HO_11.out) | have hcv47 := V_string (P := Tryz.prog) Tryz.underlying35 Tryz.underlying5 Tryz.underlying9 HO_11.out)
                  go_wp2_with (first | ((with_reducible refine gate_dst (N := 90) rfl ?_); (try (refine gate_guard (by rfl) ?_; dsimp only)); refine Kd.R_lit k42 _ 42 ?hg (N := 90) ?hd (xs := ([(⟨1, (⟨#[116, 101, 120, 116]⟩ : ByteArray)⟩ : S42), (⟨2, strOfNums x11_2⟩ : S42)] : List (S42))) (inner := [.int .i64 1, .string (⟨#[116, 101, 120, 116]⟩ : ByteArray), .int .i64 2, .string (strOfNums x11_2)]) (ok := fun _ => True) (okp := fun _ => True) ?hr ?hp (fun _ hk => hk) trivial (Below.refl _ _) (Nat.le_refl _) (by simp) ?_; (case hd => rfl); (case hg => rfl); (case hr => first | (go_simp; done) | (go_simp; rfl)); (case hp => exact (Reps.c2 (show Kd.M k42 _ _ _ (⟨1, (⟨#[116, 101, 120, 116]⟩ : ByteArray)⟩ : S42) [.int .i64 1, .string (⟨#[116, 101, 120, 116]⟩ : ByteArray)] from (k42_mkM _ _ _ (⟨1, (⟨#[116, 101, 120, 116]⟩ : ByteArray)⟩ : S42) )) (Reps.c2 (show Kd.M k42 _ _ _ (⟨2, strOfNums x11_2⟩ : S42) [.int .i64 2, .string (strOfNums x11_2)] from (k42_mkM _ _ _ (⟨2, strOfNums x11_2⟩ : S42) )) (Reps.none _ _)))); intro v392 w48 ho49 hb hg_ hnew_; clear hg_ hnew_; (first | rw [← Ny391.out] at ho49 | (simp only [Int.reduceToNat] at ho49; rw [← Ny391.out] at ho49)); have n0_ := Aside0.mk (Kd.R_below (by (with_reducible repeat (first | apply Kd.R_alloc | apply Kd.R_drewN | apply Kd.R_drew)); exact HO_11.out) hb); have n1_ := Aside0.mk (Kd.R_lower ho49 (below_size (by repeat (first | (with_reducible first | exact HB.out | apply below_alloc | apply pw_below_drewN | apply below_drew1 | refine below_set ?_ GE380.out) | exact HB.out)))); have n2_ := Aside0.mk (blk_below (g := gb380) (o := .cells #[.int .i64 1, .int .i64 0, .int .i64 0, .slice A0 l0.length c0] 37 (0, 0)) (by (with_reducible repeat (first | refine blk_drewN ?_ _ | refine blk_drew ?_ | refine blk_alloc ?_ _)); exact BK380.out) hb); have n3_ := Aside0.mk (below_step (by repeat (first | (with_reducible first | exact HB.out | apply below_alloc | apply pw_below_drewN | apply below_drew1 | refine below_set ?_ GE380.out) | exact HB.out)) hb); clear HO_11; clear BK380; clear HB; have HO_11 := n0_; have HO393 := n1_; have BK380 := n2_; have HB := n3_; clear n0_ n1_ n2_ n3_; clear hb ho49; have hcz50_0 : w48.cell? ⟨gb380, 0, none⟩ = some (.int .i64 1) := (blk_cell BK380.out 0).trans rfl; have hcz50_1 : w48.cell? ⟨gb380, 1, none⟩ = some (.int .i64 0) := (blk_cell BK380.out 1).trans rfl; have hcz50_2 : w48.cell? ⟨gb380, 2, none⟩ = some (.int .i64 0) := (blk_cell BK380.out 2).trans rfl; have hcz50_3 : w48.cell? ⟨gb380, 3, none⟩ = some (.slice A0 l0.length c0) := (blk_cell BK380.out 3).trans rfl; have hfz50_0 := blk_frozen BK380.out 0; have hfz50_1 := blk_frozen BK380.out 1; have hfz50_2 := blk_frozen BK380.out 2; have hfz50_3 := blk_frozen BK380.out 3; obtain ⟨Ao51, co51, eo51⟩ := Kd.R_slice HO393.out; subst eo51) | ((with_reducible refine gate_callee (f := 15) rfl ?_); refine goesL_ (some 92) rfl rfl Tryz.func15 (by kernel_rfl) rfl #[.slice Ao51 y391.length co51, .agg #[.int .i64 1, .int .i64 0, .int .i64 0, .slice A0 l0.length c0]] rfl (by (try simp only [List.map_toArray, List.map_cons, List.map_nil]); first | done | rfl | (simp only [List.length_drop, List.length_take]; rfl)) ?_; (with_reducible refine (letterboxlaw18_meant.calls k2 _ _ y391 1 0 0 _ _ l0 true true _ ?side1 ?side2 ?side3 ?side4 (Laid.below HLd.out (by repeat (first | (with_reducible first | exact HB.out | apply below_alloc | apply pw_below_drewN | apply below_drew1 | refine below_set ?_ GE380.out) | exact HB.out))) A38.out).mono ?_); (case side1 => repeat (first | exact (Kd.R_reads' HO393.out).2.2 | (with_reducible refine Kd.C_alloc ?_ _) | (with_reducible refine Kd.C_drewN ?_ _) | (with_reducible refine Kd.C_drew ?_))); (case side2 => exact (Kd.R_reads' HO393.out).2.1); (case side3 => repeat (first | exact (Kd.C_below HR0.out HB.out) | (with_reducible refine Kd.C_alloc ?_ _) | (with_reducible refine Kd.C_drewN ?_ _) | (with_reducible refine Kd.C_drew ?_))); (case side4 => exact HC0.out); rintro e w52 ⟨rfl, hb⟩; refine ⟨_, rfl, ?_⟩; have n0_ := Aside0.mk (Kd.R_below (by (with_reducible repeat (first | apply Kd.R_alloc | apply Kd.R_drewN | apply Kd.R_drew)); exact HO_11.out) hb); have n1_ := Aside0.mk (Kd.R_below (by (with_reducible repeat (first | apply Kd.R_alloc | apply Kd.R_drewN | apply Kd.R_drew)); exact HO393.out) hb); have n2_ := Aside0.mk (blk_below (g := gb380) (o := .cells #[.int .i64 1, .int .i64 0, .int .i64 0, .slice A0 l0.length c0] 37 (0, 0)) (by (with_reducible repeat (first | refine blk_drewN ?_ _ | refine blk_drew ?_ | refine blk_alloc ?_ _)); exact BK380.out) hb); have n3_ := Aside0.mk (below_step (by repeat (first | (with_reducible first | exact HB.out | apply below_alloc | apply pw_below_drewN | apply below_drew1 | refine below_set ?_ GE380.out) | exact HB.out)) hb); clear HO_11; clear HO393; clear BK380; clear HB; have HO_11 := n0_; have HO393 := n1_; have BK380 := n2_; have HB := n3_; clear n0_ n1_ n2_ n3_; (try clear hb); (try clear hb2); (try clear hk); (try clear hi); have hcv53 := Kd.C_string (P := Tryz.prog) (A := A0) (c := c0) Tryz.underlying35 Tryz.underlying5 Tryz.underlying9 (Kd.C_below HR0.out HB.out)) | ((with_reducible refine gate_dst (N := 103) rfl ?_); (try (refine gate_guard (by rfl) ?_; dsimp only)); refine Kd.R_lit k42 _ 42 ?hg (N := 103) ?hd (xs := ([(⟨1, (⟨#[116, 101, 120, 116]⟩ : ByteArray)⟩ : S42), (⟨2, ((strOfNums l0) ++ (⟨#[120]⟩ : ByteArray)) ++ a3⟩ : S42)] : List (S42))) (inner := [.int .i64 1, .string (⟨#[116, 101, 120, 116]⟩ : ByteArray), .int .i64 2, .string (((strOfNums l0) ++ (⟨#[120]⟩ : ByteArray)) ++ a3)]) (ok := fun _ => True) (okp := fun _ => True) ?hr ?hp (fun _ hk => hk) trivial (Below.refl _ _) (Nat.le_refl _) (by simp) ?_; (case hd => rfl); (case hg => rfl); (case hr => first | (go_simp; done) | (go_simp; rfl)); (case hp => exact (Reps.c2 (show Kd.M k42 _ _ _ (⟨1, (⟨#[116, 101, 120, 116]⟩ : ByteArray)⟩ : S42) [.int .i64 1, .string (⟨#[116, 101, 120, 116]⟩ : ByteArray)] from (k42_mkM _ _ _ (⟨1, (⟨#[116, 101, 120, 116]⟩ : ByteArray)⟩ : S42) )) (Reps.c2 (show Kd.M k42 _ _ _ (⟨2, ((strOfNums l0) ++ (⟨#[120]⟩ : ByteArray)) ++ a3⟩ : S42) [.int .i64 2, .string (((strOfNums l0) ++ (⟨#[120]⟩ : ByteArray)) ++ a3)] from (k42_mkM _ _ _ (⟨2, ((strOfNums l0) ++ (⟨#[120]⟩ : ByteArray)) ++ a3⟩ : S42) )) (Reps.none _ _)))); intro v397 w54 ho55 hb hg_ hnew_; clear hg_ hnew_; (first | rw [← Ny396.out] at ho55 | (simp only [Int.reduceToNat] at ho55; rw [← Ny396.out] at ho55)); have n0_ := Aside0.mk (Kd.R_below (by (with_reducible repeat (first | apply Kd.R_alloc | apply Kd.R_drewN | apply Kd.R_drew)); exact HO_11.out) hb); have n1_ := Aside0.mk (Kd.R_elder' (by (with_reducible repeat (first | apply Kd.R_alloc | apply Kd.R_drewN | apply Kd.R_drew)); exact HO393.out) (Kd.R_base ho55) hb); have n2_ := Aside0.mk (Kd.R_lower (Kd.R_new' ho55 (Kd.R_lt (by (with_reducible repeat (first | apply Kd.R_alloc | apply Kd.R_drewN | apply Kd.R_drew)); exact HO393.out))) (below_size (by repeat (first | (with_reducible first | exact HB.out | apply below_alloc | apply pw_below_drewN | apply below_drew1 | refine below_set ?_ GE380.out) | exact HB.out)))); have n3_ := Aside0.mk (blk_below (g := gb380) (o := .cells #[.int .i64 1, .int .i64 0, .int .i64 0, .slice A0 l0.length c0] 37 (0, 0)) (by (with_reducible repeat (first | refine blk_drewN ?_ _ | refine blk_drew ?_ | refine blk_alloc ?_ _)); exact BK380.out) hb); have n4_ := Aside0.mk (below_step (by repeat (first | (with_reducible first | exact HB.out | apply below_alloc | apply pw_below_drewN | apply below_drew1 | refine below_set ?_ GE380.out) | exact HB.out)) hb); clear HO_11; clear HO393; clear BK380; clear HB; have HO_11 := n0_; have HO393 := n1_; have HO398 := n2_; have BK380 := n3_; have HB := n4_; clear n0_ n1_ n2_ n3_ n4_; clear hb ho55; have hcz56_0 : w54.cell? ⟨gb380, 0, none⟩ = some (.int .i64 1) := (blk_cell BK380.out 0).trans rfl; have hcz56_1 : w54.cell? ⟨gb380, 1, none⟩ = some (.int .i64 0) := (blk_cell BK380.out 1).trans rfl; have hcz56_2 : w54.cell? ⟨gb380, 2, none⟩ = some (.int .i64 0) := (blk_cell BK380.out 2).trans rfl; have hcz56_3 : w54.cell? ⟨gb380, 3, none⟩ = some (.slice A0 l0.length c0) := (blk_cell BK380.out 3).trans rfl; have hfz56_0 := blk_frozen BK380.out 0; have hfz56_1 := blk_frozen BK380.out 1; have hfz56_2 := blk_frozen BK380.out 2; have hfz56_3 := blk_frozen BK380.out 3; obtain ⟨Ao57, co57, eo57⟩ := Kd.R_slice HO398.out; subst eo57) | ((with_reducible refine gate_callee (f := 15) rfl ?_); refine goesL_ (some 105) rfl rfl Tryz.func15 (by kernel_rfl) rfl #[.slice Ao57 y396.length co57, .agg #[.int .i64 1, .int .i64 0, .int .i64 0, .slice A0 l0.length c0]] rfl (by (try simp only [List.map_toArray, List.map_cons, List.map_nil]); first | done | rfl | (simp only [List.length_drop, List.length_take]; rfl)) ?_; (with_reducible refine (letterboxlaw18_meant.calls k2 _ _ y396 1 0 0 _ _ l0 false true _ ?side1 ?side2 ?side3 ?side4 (Laid.below HLd.out (by repeat (first | (with_reducible first | exact HB.out | apply below_alloc | apply pw_below_drewN | apply below_drew1 | refine below_set ?_ GE380.out) | exact HB.out))) A41.out).mono ?_); (case side1 => repeat (first | exact (Kd.R_reads' HO398.out).2.2 | (with_reducible refine Kd.C_alloc ?_ _) | (with_reducible refine Kd.C_drewN ?_ _) | (with_reducible refine Kd.C_drew ?_))); (case side2 => exact (Kd.R_reads' HO398.out).2.1); (case side3 => repeat (first | exact (Kd.C_below HR0.out HB.out) | (with_reducible refine Kd.C_alloc ?_ _) | (with_reducible refine Kd.C_drewN ?_ _) | (with_reducible refine Kd.C_drew ?_))); (case side4 => exact HC0.out); rintro e w58 ⟨rfl, hb⟩; refine ⟨_, rfl, ?_⟩; have n0_ := Aside0.mk (Kd.R_below (by (with_reducible repeat (first | apply Kd.R_alloc | apply Kd.R_drewN | apply Kd.R_drew)); exact HO_11.out) hb); have n1_ := Aside0.mk (Kd.R_below (by (with_reducible repeat (first | apply Kd.R_alloc | apply Kd.R_drewN | apply Kd.R_drew)); exact HO393.out) hb); have n2_ := Aside0.mk (Kd.R_below (by (with_reducible repeat (first | apply Kd.R_alloc | apply Kd.R_drewN | apply Kd.R_drew)); exact HO398.out) hb); have n3_ := Aside0.mk (blk_below (g := gb380) (o := .cells #[.int .i64 1, .int .i64 0, .int .i64 0, .slice A0 l0.length c0] 37 (0, 0)) (by (with_reducible repeat (first | refine blk_drewN ?_ _ | refine blk_drew ?_ | refine blk_alloc ?_ _)); exact BK380.out) hb); have n4_ := Aside0.mk (below_step (by repeat (first | (with_reducible first | exact HB.out | apply below_alloc | apply pw_below_drewN | apply below_drew1 | refine below_set ?_ GE380.out) | exact HB.out)) hb); clear HO_11; clear HO393; clear HO398; clear BK380; clear HB; have HO_11 := n0_; have HO393 := n1_; have HO398 := n2_; have BK380 := n3_; have HB := n4_; clear n0_ n1_ n2_ n3_ n4_; (try clear hb); (try clear hb2); (try clear hk); (try clear hi)) | (go_at_call 14; (with_reducible refine (letterboxlaw18_known.calls k2  t401 _ (Laid.below HLd.out (by repeat (first | (with_reducible first | exact HB.out | apply below_alloc | apply pw_below_drewN | apply below_drew1 | refine below_set ?_ GE380.out) | exact HB.out))) A46.out).mono ?_); rintro e w59 ⟨rfl, hb⟩; have n0_ := Aside0.mk (Kd.R_below (by (with_reducible repeat (first | apply Kd.R_alloc | apply Kd.R_drewN | apply Kd.R_drew)); exact HO_11.out) hb); have n1_ := Aside0.mk (Kd.R_below (by (with_reducible repeat (first | apply Kd.R_alloc | apply Kd.R_drewN | apply Kd.R_drew)); exact HO393.out) hb); have n2_ := Aside0.mk (Kd.R_below (by (with_reducible repeat (first | apply Kd.R_alloc | apply Kd.R_drewN | apply Kd.R_drew)); exact HO398.out) hb); have n3_ := Aside0.mk (blk_below (g := gb380) (o := .cells #[.int .i64 1, .int .i64 0, .int .i64 0, .slice A0 l0.length c0] 37 (0, 0)) (by (with_reducible repeat (first | refine blk_drewN ?_ _ | refine blk_drew ?_ | refine blk_alloc ?_ _)); exact BK380.out) hb); have n4_ := Aside0.mk (below_step (by repeat (first | (with_reducible first | exact HB.out | apply below_alloc | apply pw_below_drewN | apply below_drew1 | refine below_set ?_ GE380.out) | exact HB.out)) hb); clear HO_11; clear HO393; clear HO398; clear BK380; clear HB; have HO_11 := n0_; have HO393 := n1_; have HO398 := n2_; have BK380 := n3_; have HB := n4_; clear n0_ n1_ n2_ n3_ n4_; (try clear hb); (try clear hb2); (try clear hk); (try clear hi)))
                  go_ret
                  exact ⟨by first | (rw [Hr_]; done) | rfl | (simp [errW_none, errW_some] <;> rfl) | (simp only [← hji10, ← hji11]; first | rfl | (simp [errW_none, errW_some] <;> rfl)) | (simp [*, errW_none, errW_some] <;> rfl), by repeat (first | (with_reducible first | exact HB.out | apply below_alloc | apply pw_below_drewN | apply below_drew1 | refine below_set ?_ GE380.out) | exact HB.out)⟩
                ·replace c44 := Bool.eq_false_iff.mpr c44
                 subst c44
                 have H1 : (some false) = some true := by rw [if_neg (show ¬ (false = true) by decide)] at H; exact H
                 clear H
                 have H := H1
                 clear H1
                 exact absurd H (by repeat' first | exact NT.none | exact NT.false | refine NT.ite ?_ ?_ | refine NT.bind (fun _ => ?_))
               ·replace c43 := Bool.eq_false_iff.mpr c43
                subst c43
                have H1 : (some false) = some true := by rw [if_neg (show ¬ (false = true) by decide)] at H; exact H
                clear H
                have H := H1
                clear H1
                exact absurd H (by repeat' first | exact NT.none | exact NT.false | refine NT.ite ?_ ?_ | refine NT.bind (fun _ => ?_))
              ·replace c42 := Bool.eq_false_iff.mpr c42
               subst c42
               have H1 : (some false) = some true := by rw [if_neg (show ¬ (false = true) by decide)] at H; exact H
               clear H
               have H := H1
               clear H1
               exact absurd H (by repeat' first | exact NT.none | exact NT.false | refine NT.ite ?_ ?_ | refine NT.bind (fun _ => ?_))
             ·rw [if_neg c40] at H
              exact absurd H (by simp)
            ·rw [if_neg c39] at H
             exact absurd H (by simp)
        ·rw [if_neg c16] at H
         exact absurd H (by simp)
       ·rw [if_neg c15] at H
        exact absurd H (by simp)
      ·rw [if_neg c14] at H
       exact absurd H (by simp)
     ·rw [if_neg c13] at H
      exact absurd H (by simp)
    ·rw [if_neg c12] at H
     exact absurd H (by simp)

end Go.Proofs.YtejhfghijgbckaaGreatDoor.P
