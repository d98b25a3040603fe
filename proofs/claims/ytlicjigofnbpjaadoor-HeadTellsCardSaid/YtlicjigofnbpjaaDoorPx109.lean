/- The walks of the seat's functions, one contract a function: printed by a program of this session's (wip/gen). Not trusted: Lean checks it. -/
import Derived.Test.YtlicjigofnbpjaaDoorPx1
import Derived.Test.YtlicjigofnbpjaaDoorPx3
import Derived.Test.YtlicjigofnbpjaaDoorPx5
import Derived.Test.YtlicjigofnbpjaaDoorPx6
import Derived.Test.YtlicjigofnbpjaaDoorPx8
import Derived.Test.YtlicjigofnbpjaaDoorPx121
import Derived.Test.YtlicjigofnbpjaaDoorPx126
namespace Go.Proofs.YtlicjigofnbpjaaDoor.P
open Go.RowKit Go.Proofs.YtlicjigofnbpjaaDoorW.PrintWords Go.Proofs.YtlicjigofnbpjaaDoorW.PrintLast Go.Proofs.YtlicjigofnbpjaaDoorW.PrintMore
attribute [local go_sem] max2_int min2_int max_two min_two max_three min_three max_four min_four   -- for this text's walks alone
set_option linter.unusedVariables false
set_option linter.unusedSimpArgs false

/-! ### letterboxlaw9_HeadTells: function 9 -/
def letterboxlaw9_HeadTells.l0 : Nat → List Int → Int → List (List Int) → List (List Int) → Int → Option (Bool)
 | 0, _, _, _, _, _ => none
 | k + 1, x0, x1, x5, x6, x7 => if x7 < (x5.length : Int) then (if 0 ≤ x7 then (if x7 < (x6.length : Int) then (if (strOfNums (rd_L1 x5 x7)).toList = (strOfNums (rd_L1 x6 x7)).toList then (letterboxlaw9_HeadTells.l0 k x0 x1 x5 x6 (wrap64 (x7 + 1))) else (some false)) else (none)) else (none)) else ((head_Head.f k x0).bind fun t491 => ((letterboxref9_Head.f k x0).bind fun t494 => (if (strOfNums t491).toList = (strOfNums t494).toList then ((head_Body.f k x0).bind fun t497 => ((letterboxref9_Body.f k x0).bind fun t500 => (if (strOfNums t497).toList = (strOfNums t500).toList then ((head_Lines.f k x0).bind fun t503 => (if t503 = (x6.length : Int) then ((head_Top.f k x0 x1).bind fun t504 => ((letterboxref9_Top.f k x0 x1).bind fun t507 => (if (strOfNums t504).toList = (strOfNums t507).toList then ((head_Stuff.f k x0).bind fun t510 => ((letterboxref9_Stuff.f k x0).bind fun t513 => (if (strOfNums t510).toList = (strOfNums t513).toList then ((letterboxlaw9_known.f k).bind fun t516 => (some t516)) else (some false)))) else (some false)))) else (some false))) else (some false)))) else (some false))))
def letterboxlaw9_HeadTells.f (k : Nat) (l0 : List Int) (a1 : Int) : Option (Bool) := if (l0.length : Int) > 1500 then (some true) else ((head_Split.f k l0).bind fun t483 => ((letterboxref9_Split.f k l0).bind fun t486 => (if (t483.length : Int) = (t486.length : Int) then (letterboxlaw9_HeadTells.l0 k l0 a1 t483 t486 0) else (some false))))
theorem letterboxlaw9_HeadTells.mono_l : ∀ k, (∀ y0 y1 y2 y3 y4, LeO (letterboxlaw9_HeadTells.l0 k y0 y1 y2 y3 y4) (letterboxlaw9_HeadTells.l0 (k + 1) y0 y1 y2 y3 y4))
 | 0 => fun _ _ _ _ _ r h => by simp [letterboxlaw9_HeadTells.l0] at h
 | k + 1 => by
  have ih0 := letterboxlaw9_HeadTells.mono_l k
  ·intro y0 y1 y2 y3 y4
   unfold letterboxlaw9_HeadTells.l0
   repeat' first
   | (with_reducible exact ih0 _ _ _ _ _)
   | (with_reducible exact head_Body.mono _ _)
   | (with_reducible exact head_Head.mono _ _)
   | (with_reducible exact head_Lines.mono _ _)
   | (with_reducible exact head_Split.mono _ _)
   | (with_reducible exact head_Stuff.mono _ _)
   | (with_reducible exact head_Top.mono _ _ _)
   | (with_reducible exact letterboxlaw9_known.mono _)
   | (with_reducible exact letterboxref9_Body.mono _ _)
   | (with_reducible exact letterboxref9_Head.mono _ _)
   | (with_reducible exact letterboxref9_Split.mono _ _)
   | (with_reducible exact letterboxref9_Stuff.mono _ _)
   | (with_reducible exact letterboxref9_Top.mono _ _ _)
   | (with_reducible exact LeO.refl _)
   | (with_reducible exact LeO.none _)
   | (with_reducible refine LeO.ite ?_ ?_)
   | (with_reducible refine LeO.bind ?_ (fun _ => ?_))
   | exact ih0 _ _ _ _ _
   | exact head_Body.mono _ _
   | exact head_Head.mono _ _
   | exact head_Lines.mono _ _
   | exact head_Split.mono _ _
   | exact head_Stuff.mono _ _
   | exact head_Top.mono _ _ _
   | exact letterboxlaw9_known.mono _
   | exact letterboxref9_Body.mono _ _
   | exact letterboxref9_Head.mono _ _
   | exact letterboxref9_Split.mono _ _
   | exact letterboxref9_Stuff.mono _ _
   | exact letterboxref9_Top.mono _ _ _
   | exact LeO.none _
   | refine LeO.ite ?_ ?_
   | refine LeO.bind ?_ (fun _ => ?_)
theorem letterboxlaw9_HeadTells.mono : ∀ a0 a1 k, LeO (letterboxlaw9_HeadTells.f k a0 a1) (letterboxlaw9_HeadTells.f (k + 1) a0 a1) := by
 intro a0 a1 k
 have ih0 := letterboxlaw9_HeadTells.mono_l k
 unfold letterboxlaw9_HeadTells.f
 repeat' first
   | (with_reducible exact ih0 _ _ _ _ _)
   | (with_reducible exact head_Body.mono _ _)
   | (with_reducible exact head_Head.mono _ _)
   | (with_reducible exact head_Lines.mono _ _)
   | (with_reducible exact head_Split.mono _ _)
   | (with_reducible exact head_Stuff.mono _ _)
   | (with_reducible exact head_Top.mono _ _ _)
   | (with_reducible exact letterboxlaw9_known.mono _)
   | (with_reducible exact letterboxref9_Body.mono _ _)
   | (with_reducible exact letterboxref9_Head.mono _ _)
   | (with_reducible exact letterboxref9_Split.mono _ _)
   | (with_reducible exact letterboxref9_Stuff.mono _ _)
   | (with_reducible exact letterboxref9_Top.mono _ _ _)
   | (with_reducible exact LeO.refl _)
   | (with_reducible exact LeO.none _)
   | (with_reducible refine LeO.ite ?_ ?_)
   | (with_reducible refine LeO.bind ?_ (fun _ => ?_))
   | exact ih0 _ _ _ _ _
   | exact head_Body.mono _ _
   | exact head_Head.mono _ _
   | exact head_Lines.mono _ _
   | exact head_Split.mono _ _
   | exact head_Stuff.mono _ _
   | exact head_Top.mono _ _ _
   | exact letterboxlaw9_known.mono _
   | exact letterboxref9_Body.mono _ _
   | exact letterboxref9_Head.mono _ _
   | exact letterboxref9_Split.mono _ _
   | exact letterboxref9_Stuff.mono _ _
   | exact letterboxref9_Top.mono _ _ _
   | exact LeO.none _
   | refine LeO.ite ?_ ?_
   | refine LeO.bind ?_ (fun _ => ?_)
def letterboxlaw9_HeadTells.T10 : Bool × List (List Nat × List Nat) := (true, [([], []), ([], []), ([0, 1], [0, 1]), ([2], [2]), ([3], [3]), ([], []), ([], []), ([5, 6], [5, 6]), ([7], [7]), ([8], [8]), ([4, 9], [4, 9])])
def letterboxlaw9_HeadTells.B10 : List Nat := [0, 0, 3, 7, 15, 0, 0, 96, 224, 480, 1023]
theorem letterboxlaw9_HeadTells.tab10 : rtab .any (opsOf Tryd.f9 10) = letterboxlaw9_HeadTells.T10 := by kernel_rfl
theorem letterboxlaw9_HeadTells.bits10 : waitsOk letterboxlaw9_HeadTells.T10.2 letterboxlaw9_HeadTells.B10 = true := by kernel_rfl
def letterboxlaw9_HeadTells.T12 : Bool × List (List Nat × List Nat) := (true, [([], []), ([0], [0]), ([1], [1]), ([], []), ([3, 1], [3]), ([4], [4]), ([2, 5], [2, 5]), ([6, 4], [6]), ([7], [7]), ([8, 7, 7], [7, 8]), ([9, 7], [7, 9]), ([7], [7]), ([11, 9, 7], [7, 11]), ([12, 7], [7, 12]), ([10, 13, 7], [7, 10, 13]), ([7, 14], [7, 14]), ([15, 12], [15]), ([16], [16]), ([17, 16, 16], [16, 17]), ([16], [16]), ([19, 16], [16, 19]), ([18, 20, 16], [16, 18, 20]), ([16, 21], [16, 21]), ([22, 18], [22]), ([23], [23]), ([23], [23]), ([24, 25, 23, 23], [23, 24, 25]), ([26, 23], [23, 26]), ([23], [23]), ([23], [23]), ([28, 29, 26, 23], [23, 28, 29]), ([30, 23], [23, 30]), ([27, 31, 23], [23, 27, 31]), ([23, 32], [23, 32]), ([33, 30], [33]), ([34], [34]), ([35, 34, 34], [34, 35]), ([36, 34], [34, 36]), ([34], [34]), ([38, 36, 34], [34, 38]), ([39, 34], [34, 39]), ([37, 40, 34], [34, 37, 40]), ([34, 41], [34, 41]), ([42, 39], [42]), ([43, 43], [43]), ([43, 44], [43, 44]), ([45, 44, 0, 1, 2, 3, 4, 5, 6, 7, 8, 9, 10, 11, 12, 13, 14, 15, 16, 17, 18, 19, 20, 21, 22, 23, 24, 25, 26, 27, 28, 29, 30, 31, 32, 33, 34, 35, 36, 37, 38, 39, 40, 41, 42, 43, 44, 45], [45])])
def letterboxlaw9_HeadTells.B12 : List Nat := [0, 1, 3, 0, 11, 27, 63, 127, 255, 511, 1023, 255, 3071, 7167, 16383, 32767, 65535, 131071, 262143, 131071, 655359, 2097151, 4194303, 8388607, 16777215, 16777215, 67108863, 134217727, 16777215, 16777215, 939524095, 2013265919, 4294967295, 8589934591, 17179869183, 34359738367, 68719476735, 137438953471, 34359738367, 412316860415, 962072674303, 2199023255551, 4398046511103, 8796093022207, 17592186044415, 35184372088831, 70368744177663]
theorem letterboxlaw9_HeadTells.tab12 : rtab .any (opsOf Tryd.f9 12) = letterboxlaw9_HeadTells.T12 := by kernel_rfl
theorem letterboxlaw9_HeadTells.bits12 : waitsOk letterboxlaw9_HeadTells.T12.2 letterboxlaw9_HeadTells.B12 = true := by kernel_rfl
set_option maxHeartbeats 8000000 in
set_option maxRecDepth 100000 in
theorem letterboxlaw9_HeadTells.calls (k : Nat) (A0 : Option Addr) (c0 : Nat) (l0 : List Int) (a1 : Int) (w : World) (hr0 : Kd.C (Kd.int .u8) w A0 l0.length l0) (hc0 : l0.length ≤ c0) (h : letterboxlaw9_HeadTells.f k l0 a1 = some true) :
  Calls Tryd.prog 9 #[.slice A0 l0.length c0, .int .i64 a1] w fun e w' => e = .returned (.bool true) ∧ Below w.heap.size w w' := by
 have HR0 := Aside0.mk hr0
 have HC0 := Aside0.mk hc0
 clear hr0 hc0
 have HB := Aside0.mk (Below.refl w.heap.size w)
 have H : (if (l0.length : Int) > 1500 then (some true) else ((head_Split.f k l0).bind fun t483 => ((letterboxref9_Split.f k l0).bind fun t486 => (if (t483.length : Int) = (t486.length : Int) then (letterboxlaw9_HeadTells.l0 k l0 a1 t483 t486 0) else (some false))))) = some true := h
 clear h
 by_cases c3 : (l0.length : Int) > 1500
 ·rw [if_pos c3] at H
  have c3b0 : decide (1500 < (l0.length : Int)) = true := decide_eq_true c3
  have c3b1 : decide (1500 < l0.length) = true := decide_eq_true (by omega)
  clear c3
  first | (obtain rfl := Option.some.inj H) | (have Hr_ := Option.some.inj H)
  go_enter Tryd.func9, Tryd.ntmps9
  go_wp2
  go_ret
  exact ⟨by first | rfl | (simp [errW_none, errW_some] <;> rfl) | (simp [*, errW_none, errW_some] <;> rfl), by repeat (first | (with_reducible first | exact HB.out | apply below_alloc | apply pw_below_drewN | apply below_drew1) | exact HB.out)⟩
 ·rw [if_neg c3] at H
  have c3b0 : decide (1500 < (l0.length : Int)) = false := decide_eq_false c3
  have c3b1 : decide (1500 < l0.length) = false := decide_eq_false (by omega)
  clear c3
  replace H := Option.bind_eq_some_iff.mp H
  obtain ⟨t483, A40, H⟩ := H
  replace H : ((letterboxref9_Split.f k l0).bind fun t486 => (if (t483.length : Int) = (t486.length : Int) then (letterboxlaw9_HeadTells.l0 k l0 a1 t483 t486 0) else (some false))) = some true := H
  have A4 := Aside0.mk A40
  clear A40
  replace H := Option.bind_eq_some_iff.mp H
  obtain ⟨t486, A50, H⟩ := H
  replace H : (if (t483.length : Int) = (t486.length : Int) then (letterboxlaw9_HeadTells.l0 k l0 a1 t483 t486 0) else (some false)) = some true := H
  have A5 := Aside0.mk A50
  clear A50
  by_cases c6 : (t483.length : Int) = (t486.length : Int)
  ·rw [if_pos c6] at H
   have c6b0 : ((t483.length : Int) == (t486.length : Int)) = true := beq_iff_eq.mpr c6
   have c6b1 : ((t483.length : Int) != (t486.length : Int)) = false := bne_eq_false_iff_eq.mpr c6
   have c6b2 : (t483.length == t486.length) = true := by first | simpa using c6 | (simp at c6 ⊢; omega)
   clear c6
   have H' := Aside0.mk H
   clear H
   go_enter Tryd.func9, Tryd.ntmps9
   go_wp2_with (first | ((with_reducible refine gate_callee (f := 19) rfl ?_); refine goesL_ (some 12) rfl rfl Tryd.func19 (by kernel_rfl) rfl #[.slice A0 l0.length c0] rfl (by (try simp only [List.map_toArray, List.map_cons, List.map_nil]); first | done | rfl | (simp only [List.length_drop, List.length_take]; rfl)) ?_; (with_reducible refine (head_Split.calls k _ _ l0 t483 _ ?side1 ?side2 A4.out).mono ?_); (case side1 => repeat (first | exact HR0.out | (with_reducible refine Kd.C_alloc ?_ _) | (with_reducible refine Kd.C_drewN ?_ _) | (with_reducible refine Kd.C_drew ?_))); (case side2 => exact HC0.out); rintro e w7 ⟨v484, rfl, ho0, hb⟩; refine ⟨_, rfl, ?_⟩; have n0_ := Aside0.mk (Kd.N_lower (Kd.N_mono (ok' := fun k_ => True) (Kd.S_N (Kd.S_bound ho0)) (fun k_ hk_ => trivial)) (below_size HB.out)); have n1_ := Aside0.mk (below_step HB.out hb); clear HB; have HO485 := n0_; have HB := n1_; clear n0_ n1_; (try clear hb); (try clear hb2); (try clear hk); (try clear hi); (try clear ho0)) | ((with_reducible refine gate_callee (f := 27) rfl ?_); refine goesL_ (some 14) rfl rfl Tryd.func27 (by kernel_rfl) rfl #[.slice A0 l0.length c0] rfl (by (try simp only [List.map_toArray, List.map_cons, List.map_nil]); first | done | rfl | (simp only [List.length_drop, List.length_take]; rfl)) ?_; (with_reducible refine (letterboxref9_Split.calls k (fun k_ => k_ < w.heap.size) _ _ l0 t486 _ ?side1 A5.out).mono ?_); (case side1 => exact Kd.V_mk HC0.out (Kd.F_below (Kd.C_F (Kd.heap_int .u8) HR0.out) HB.out)); rintro e w8 ⟨v487, rfl, ho0, hb⟩; refine ⟨_, rfl, ?_⟩; have n0_ := Aside0.mk (Kd.N_elder' HO485.out (Kd.N_base ho0) hb); have n1_ := Aside0.mk (Kd.N_lower (Kd.N_mono (ok' := fun k_ => some k_ ≠ (v484 : Value).ownBlock) ho0 (fun k_ hk_ => Or.elim hk_ (fun hs_ => fun e_ => Nat.not_le.2 hs_ (Kd.N_base HO485.out k_ e_.symm)) (fun hn_ => (Kd.fresh' (Kd.N_lt HO485.out) k_ hn_)))) (below_size HB.out)); have n2_ := Aside0.mk (below_step HB.out hb); clear HO485; clear HB; have HO485 := n0_; have HO488 := n1_; have HB := n2_; clear n0_ n1_ n2_; (try clear hb); (try clear hb2); (try clear hk); (try clear hi); (try clear ho0); obtain ⟨Ao9, co9, eo9⟩ := Kd.N_slice HO485.out; subst eo9; obtain ⟨Ao10, co10, eo10⟩ := Kd.N_slice HO488.out; subst eo10))
   go_loopg [7] k (fun kq v7 w' => ∃ (x7_1 : Int), v7 = .int .i64 x7_1 ∧ Aside0 (letterboxlaw9_HeadTells.l0 kq l0 a1 t483 t486 x7_1 = some true) ∧ Aside0 (kq ≤ k) ∧ Aside0 (Kd.N (Kd.slice 5 (Kd.int .u8)) 22 w' w.heap.size (fun k_ => some k_ ≠ ((.slice Ao10 t486.length co10) : Value).ownBlock) (.slice Ao9 t483.length co9) t483) ∧ Aside0 (Kd.N (Kd.slice 5 (Kd.int .u8)) 22 w' w.heap.size (fun k_ => some k_ ≠ ((.slice Ao9 t483.length co9) : Value).ownBlock) (.slice Ao10 t486.length co10) t486) ∧ Aside0 (Below w.heap.size w w'))
   case atStart => exact ⟨(0), (by first | rfl | (simp; done) | (simp [*]; done)), H', ⟨Nat.le_refl _⟩, ⟨by (with_reducible repeat (first | apply Kd.N_alloc | apply Kd.N_drewN | apply Kd.N_drew)); exact Kd.N_mono HO485.out (fun _ hk => hk.2)⟩, ⟨by (with_reducible repeat (first | apply Kd.N_alloc | apply Kd.N_drewN | apply Kd.N_drew)); exact HO488.out⟩, ⟨by repeat (first | (with_reducible first | exact HB.out | apply below_alloc | apply pw_below_drewN | apply below_drew1) | exact HB.out)⟩⟩
   case round =>
    clear H'
    try clear c1
    try clear c2
    try clear p2
    try clear c3
    try clear c3b0
    try clear c3b1
    try clear c6
    try clear c6b0
    try clear c6b1
    try clear c6b2
    try clear c9
    obtain ⟨x7_1, rfl, HA, HK1, HO_5, HO_6, HB⟩ := hrel
    cases gk with
    | zero => exact absurd HA.out (by simp [letterboxlaw9_HeadTells.l0])
    | succ k1 =>
     have H := HA.out
     clear HA
     simp only [letterboxlaw9_HeadTells.l0] at H
     by_cases c11 : x7_1 < (t483.length : Int)
     ·rw [if_pos c11] at H
      have c11b0 : decide (x7_1 < (t483.length : Int)) = true := decide_eq_true c11
      clear c11
      by_cases c12 : 0 ≤ x7_1
      ·rw [if_pos c12] at H
       have c12b0 : decide (0 ≤ x7_1) = true := decide_eq_true c12
       clear c12
       by_cases c13 : x7_1 < (t486.length : Int)
       ·rw [if_pos c13] at H
        have c13b0 : decide (x7_1 < (t486.length : Int)) = true := decide_eq_true c13
        clear c13
        by_cases c14 : (strOfNums (rd_L1 t483 x7_1)).toList = (strOfNums (rd_L1 t486 x7_1)).toList
        ·rw [if_pos c14] at H
         have c14b0 : ((strOfNums (rd_L1 t483 x7_1)).toList == (strOfNums (rd_L1 t486 x7_1)).toList) = true := beq_iff_eq.mpr c14
         have c14b1 : ((strOfNums (rd_L1 t483 x7_1)).toList != (strOfNums (rd_L1 t486 x7_1)).toList) = false := bne_eq_false_iff_eq.mpr c14
         clear c14
         have H' := Aside0.mk H
         clear H
         try go_wp2
         have n0_ := Aside0.mk (Kd.N_drew HO_5.out)
         have n1_ := Aside0.mk (Kd.N_drew HO_6.out)
         have n2_ := Aside0.mk (below_drew1 HB.out)
         clear HO_5
         clear HO_6
         clear HB
         have HO_5 := n0_
         have HO_6 := n1_
         have HB := n2_
         clear n0_ n1_ n2_
         have p489 : 0 ≤ (x7_1 : Int) := of_decide_eq_true (by first | (with_reducible assumption) | assumption)
         have q489 : x7_1 < (t483.length : Int) := of_decide_eq_true (by first | (with_reducible assumption) | assumption)
         obtain ⟨ad489, A489_0, c489_0, e489, hx489_0, hl489_0, hi489_0⟩ := at_L1 (Kd.N_reads' HO_5.out).2.2 x7_1 p489 q489
         cases e489
         obtain ⟨ce489, hce489, hMe489, hcc489⟩ := Kd.N_get HO_5.out [] x7_1 p489 (by first | exact q489 | exact of_decide_eq_true (by first | (with_reducible assumption) | assumption) | (have e_ := (Kd.N_reads' HO_5.out).1; omega))
         obtain ⟨ua489_0, uc489_0, rfl, ul489_0, ge489_0⟩ := Kd.FK_slice_open hMe489
         have hv489_0 := hcc489 0 _ rfl
         rw [Nat.add_zero, show ((Kd.slice 5 (Kd.int .u8))).sz = 1 from rfl, Nat.mul_one] at hv489_0
         replace hv489_0 := Option.some.inj (hv489_0.symm.trans hx489_0)
         injection hv489_0 with hva_ hvn_ hvc_
         rw [hva_] at ge489_0
         rw [hvc_] at ul489_0
         have HL489_0 := Aside0.mk (show Kd.V (Kd.int .u8) 5 _ w.heap.size _ _ (rd_L1 t483 x7_1) from Kd.V_mk ul489_0 ge489_0)
         clear hva_ hvn_ hvc_ ge489_0 ul489_0
         clear hcc489 hce489
         have HR489_0 := Aside0.mk hi489_0
         have HC489_0 := Aside0.mk hl489_0
         clear hi489_0 hl489_0
         replace p489 := eq_true p489
         replace q489 := eq_true q489
         have p490 : 0 ≤ (x7_1 : Int) := of_decide_eq_true (by first | (with_reducible assumption) | assumption)
         have q490 : x7_1 < (t486.length : Int) := of_decide_eq_true (by first | (with_reducible assumption) | assumption)
         obtain ⟨ad490, A490_0, c490_0, e490, hx490_0, hl490_0, hi490_0⟩ := at_L1 (Kd.N_reads' HO_6.out).2.2 x7_1 p490 q490
         cases e490
         obtain ⟨ce490, hce490, hMe490, hcc490⟩ := Kd.N_get HO_6.out [] x7_1 p490 (by first | exact q490 | exact of_decide_eq_true (by first | (with_reducible assumption) | assumption) | (have e_ := (Kd.N_reads' HO_6.out).1; omega))
         obtain ⟨ua490_0, uc490_0, rfl, ul490_0, ge490_0⟩ := Kd.FK_slice_open hMe490
         have hv490_0 := hcc490 0 _ rfl
         rw [Nat.add_zero, show ((Kd.slice 5 (Kd.int .u8))).sz = 1 from rfl, Nat.mul_one] at hv490_0
         replace hv490_0 := Option.some.inj (hv490_0.symm.trans hx490_0)
         injection hv490_0 with hva_ hvn_ hvc_
         rw [hva_] at ge490_0
         rw [hvc_] at ul490_0
         have HL490_0 := Aside0.mk (show Kd.V (Kd.int .u8) 5 _ w.heap.size _ _ (rd_L1 t486 x7_1) from Kd.V_mk ul490_0 ge490_0)
         clear hva_ hvn_ hvc_ ge490_0 ul490_0
         clear hcc490 hce490
         have HR490_0 := Aside0.mk hi490_0
         have HC490_0 := Aside0.mk hl490_0
         clear hi490_0 hl490_0
         replace p490 := eq_true p490
         replace q490 := eq_true q490
         have hcv16 := Kd.C_string (P := Tryd.prog) (A := A489_0) (c := c489_0) Tryd.underlying22 Tryd.underlying5 Tryd.underlying9 (by repeat (first | (with_reducible exact HR489_0.out) | (with_reducible refine Kd.C_alloc ?_ _) | (with_reducible refine Kd.C_drewN ?_ _) | (with_reducible refine Kd.C_drew ?_) | exact HR489_0.out))
         have hcv17 := Kd.C_string (P := Tryd.prog) (A := A490_0) (c := c490_0) Tryd.underlying22 Tryd.underlying5 Tryd.underlying9 (by repeat (first | (with_reducible exact HR490_0.out) | (with_reducible refine Kd.C_alloc ?_ _) | (with_reducible refine Kd.C_drewN ?_ _) | (with_reducible refine Kd.C_drew ?_) | exact HR490_0.out))
         have hcw1_ := Kd.C_string (P := Tryd.prog) (A := A489_0) (c := c489_0) Tryd.underlying22 Tryd.underlying5 Tryd.underlying9 HR489_0.out
         have hcw2_ := Kd.C_string (P := Tryd.prog) (A := A490_0) (c := c490_0) Tryd.underlying22 Tryd.underlying5 Tryd.underlying9 HR490_0.out
         refine start_ (n := 11) (S := fun w' => w'.cell? (ad489.add (x7_1).toNat) = some (.slice A489_0 (rd_L1 t483 x7_1).length c489_0) ∧ w'.cell? (ad490.add (x7_1).toNat) = some (.slice A490_0 (rd_L1 t486 x7_1).length c490_0) ∧ (convert 22 9 (.slice A489_0 (rd_L1 t483 x7_1).length c489_0)).run Tryd.prog w' = .ok (.string (strOfNums (rd_L1 t483 x7_1))) w' ∧ (convert 22 9 (.slice A490_0 (rd_L1 t486 x7_1).length c490_0)).run Tryd.prog w' = .ok (.string (strOfNums (rd_L1 t486 x7_1))) w') (ds := []) #[false, false, false, false, false, false, false, false, false, false, false] (by kernel_rfl) rfl rfl ⟨hx489_0, hx490_0, hcw1_, hcw2_⟩ (fun hHeld => ?_); refine with_tabW letterboxlaw9_HeadTells.tab10 letterboxlaw9_HeadTells.bits10 (fun HT_ HW_ => ?_)
         generalize wr.drew = w15 at HO_5 HO_6 HB HL489_0 HL490_0 HR489_0 HR490_0 hx489_0 hx490_0 hHeld ⊢
         refine pure_ (i := 0) (N := some 26) (v := ?_) (a' := ?_) #[true, false, false, false, false, false, false, false, false, false, false] rfl rfl (any_of HT_.out (by kernel_rfl)) (fun _ _ _ h => h) (Or.inl ⟨by rfl, ?_⟩) ?_ ?_
         rotate_left
         ·intro w'
          go_simp
          with_reducible rfl
         rotate_left
         ·simp only [Act.put, List.setIfInBounds_toArray, List.set_cons_zero, List.set_cons_succ, i64_w, i32_w]
          rfl
         refine pure_ (i := 1) (N := some 27) (v := ?_) (a' := ?_) #[true, true, false, false, false, false, false, false, false, false, false] rfl rfl (any_of HT_.out (by kernel_rfl)) (fun _ _ _ h => h) (Or.inl ⟨by rfl, ?_⟩) ?_ ?_
         rotate_left
         ·intro w'
          go_simp
          with_reducible rfl
         rotate_left
         ·simp only [Act.put, List.setIfInBounds_toArray, List.set_cons_zero, List.set_cons_succ, i64_w, i32_w]
          rfl
         refine pure_ (i := 2) (N := some 28) (v := ?_) (a' := ?_) #[true, true, true, false, false, false, false, false, false, false, false] rfl rfl (any_of HT_.out (by kernel_rfl)) (fun _ _ _ h => h) (Or.inl ⟨by rfl, ?_⟩) ?_ ?_
         rotate_left
         ·intro w'
          go_simp
          with_reducible rfl
         rotate_left
         ·simp only [Act.put, List.setIfInBounds_toArray, List.set_cons_zero, List.set_cons_succ, i64_w, i32_w]
          rfl
         refine pure_ (i := 5) (N := some 31) (v := ?_) (a' := ?_) #[true, true, true, false, false, true, false, false, false, false, false] rfl rfl (any_of HT_.out (by kernel_rfl)) (fun _ _ _ h => h) (Or.inl ⟨by rfl, ?_⟩) ?_ ?_
         rotate_left
         ·intro w'
          go_simp
          with_reducible rfl
         rotate_left
         ·simp only [Act.put, List.setIfInBounds_toArray, List.set_cons_zero, List.set_cons_succ, i64_w, i32_w]
          rfl
         refine pure_ (i := 6) (N := some 32) (v := ?_) (a' := ?_) #[true, true, true, false, false, true, true, false, false, false, false] rfl rfl (any_of HT_.out (by kernel_rfl)) (fun _ _ _ h => h) (Or.inl ⟨by rfl, ?_⟩) ?_ ?_
         rotate_left
         ·intro w'
          go_simp
          with_reducible rfl
         rotate_left
         ·simp only [Act.put, List.setIfInBounds_toArray, List.set_cons_zero, List.set_cons_succ, i64_w, i32_w]
          rfl
         refine pure_ (i := 7) (N := some 33) (v := ?_) (a' := ?_) #[true, true, true, false, false, true, true, true, false, false, false] rfl rfl (any_of HT_.out (by kernel_rfl)) (fun _ _ _ h => h) (Or.inl ⟨by rfl, ?_⟩) ?_ ?_
         rotate_left
         ·intro w'
          go_simp
          with_reducible rfl
         rotate_left
         ·simp only [Act.put, List.setIfInBounds_toArray, List.set_cons_zero, List.set_cons_succ, i64_w, i32_w]
          rfl
         refine take_ (i := 3) (N := some 29) (v := ?_) (a' := ?_) #[true, true, true, true, false, true, true, true, false, false, false] rfl rfl (take_ofW HT_.out HW_.out (by kernel_rfl)) (fun _ _ _ h => h) (Or.inl ⟨by rfl, ?_⟩) hHeld ?_ ?_
         rotate_left
         ·rintro w' ⟨s0, s1, s2, s3⟩
          go_simp
          with_reducible rfl
         rotate_left
         ·simp only [Act.put, List.setIfInBounds_toArray, List.set_cons_zero, List.set_cons_succ, i64_w, i32_w]
          rfl
         refine take_ (i := 4) (N := some 30) (v := ?_) (a' := ?_) #[true, true, true, true, true, true, true, true, false, false, false] rfl rfl (take_ofW HT_.out HW_.out (by kernel_rfl)) (fun _ _ _ h => h) (Or.inl ⟨by rfl, ?_⟩) hHeld ?_ ?_
         rotate_left
         ·rintro w' ⟨s0, s1, s2, s3⟩
          go_simp
          with_reducible rfl
         rotate_left
         ·simp only [Act.put, List.setIfInBounds_toArray, List.set_cons_zero, List.set_cons_succ, i64_w, i32_w]
          rfl
         refine take_ (i := 8) (N := some 34) (v := ?_) (a' := ?_) #[true, true, true, true, true, true, true, true, true, false, false] rfl rfl (take_ofW HT_.out HW_.out (by kernel_rfl)) (fun _ _ _ h => h) (Or.inl ⟨by rfl, ?_⟩) hHeld ?_ ?_
         rotate_left
         ·rintro w' ⟨s0, s1, s2, s3⟩
          go_simp
          with_reducible rfl
         rotate_left
         ·simp only [Act.put, List.setIfInBounds_toArray, List.set_cons_zero, List.set_cons_succ, i64_w, i32_w]
          rfl
         refine take_ (i := 9) (N := some 35) (v := ?_) (a' := ?_) #[true, true, true, true, true, true, true, true, true, true, false] rfl rfl (take_ofW HT_.out HW_.out (by kernel_rfl)) (fun _ _ _ h => h) (Or.inl ⟨by rfl, ?_⟩) hHeld ?_ ?_
         rotate_left
         ·rintro w' ⟨s0, s1, s2, s3⟩
          go_simp
          with_reducible rfl
         rotate_left
         ·simp only [Act.put, List.setIfInBounds_toArray, List.set_cons_zero, List.set_cons_succ, i64_w, i32_w]
          rfl
         refine pure_ (i := 10) (N := some 36) (v := ?_) (a' := ?_) #[true, true, true, true, true, true, true, true, true, true, true] rfl rfl (any_of HT_.out (by kernel_rfl)) (fun _ _ _ h => h) (Or.inl ⟨by rfl, ?_⟩) ?_ ?_
         rotate_left
         ·intro w'
          go_simp
          with_reducible rfl
         rotate_left
         ·simp only [Act.put, List.setIfInBounds_toArray, List.set_cons_zero, List.set_cons_succ, i64_w, i32_w]
          rfl
         refine done_ (done_of HT_.out (by kernel_rfl)) ?_
         try go_wp2
         go_roundg k1
         case measure => have := HK1.out; omega
         case rel => exact ⟨(wrap64 (x7_1 + 1)), (by first | rfl | (simp; done) | (simp [*]; done)), H', ⟨by have := HK1.out; omega⟩, ⟨by (with_reducible repeat (first | apply Kd.N_alloc | apply Kd.N_drewN | apply Kd.N_drew)); exact HO_5.out⟩, ⟨by (with_reducible repeat (first | apply Kd.N_alloc | apply Kd.N_drewN | apply Kd.N_drew)); exact HO_6.out⟩, ⟨by repeat (first | (with_reducible first | exact HB.out | apply below_alloc | apply pw_below_drewN | apply below_drew1) | exact HB.out)⟩⟩
        ·rw [if_neg c14] at H
         have c14b0 : ((strOfNums (rd_L1 t483 x7_1)).toList == (strOfNums (rd_L1 t486 x7_1)).toList) = false := beq_eq_false_iff_ne.mpr c14
         have c14b1 : ((strOfNums (rd_L1 t483 x7_1)).toList != (strOfNums (rd_L1 t486 x7_1)).toList) = true := bne_iff_ne.mpr c14
         exact absurd H (by repeat' first | exact NT.none | exact NT.false | refine NT.ite ?_ ?_ | refine NT.bind (fun _ => ?_))
       ·rw [if_neg c13] at H
        exact absurd H (by simp)
      ·rw [if_neg c12] at H
       exact absurd H (by simp)
     ·rw [if_neg c11] at H
      have c11b0 : decide (x7_1 < (t483.length : Int)) = false := decide_eq_false c11
      clear c11
      replace H := Option.bind_eq_some_iff.mp H
      obtain ⟨t491, A190, H⟩ := H
      replace H : ((letterboxref9_Head.f k1 l0).bind fun t494 => (if (strOfNums t491).toList = (strOfNums t494).toList then ((head_Body.f k1 l0).bind fun t497 => ((letterboxref9_Body.f k1 l0).bind fun t500 => (if (strOfNums t497).toList = (strOfNums t500).toList then ((head_Lines.f k1 l0).bind fun t503 => (if t503 = (t486.length : Int) then ((head_Top.f k1 l0 a1).bind fun t504 => ((letterboxref9_Top.f k1 l0 a1).bind fun t507 => (if (strOfNums t504).toList = (strOfNums t507).toList then ((head_Stuff.f k1 l0).bind fun t510 => ((letterboxref9_Stuff.f k1 l0).bind fun t513 => (if (strOfNums t510).toList = (strOfNums t513).toList then ((letterboxlaw9_known.f k1).bind fun t516 => (some t516)) else (some false)))) else (some false)))) else (some false))) else (some false)))) else (some false))) = some true := H
      have A19 := Aside0.mk A190
      clear A190
      replace H := Option.bind_eq_some_iff.mp H
      obtain ⟨t494, A200, H⟩ := H
      replace H : (if (strOfNums t491).toList = (strOfNums t494).toList then ((head_Body.f k1 l0).bind fun t497 => ((letterboxref9_Body.f k1 l0).bind fun t500 => (if (strOfNums t497).toList = (strOfNums t500).toList then ((head_Lines.f k1 l0).bind fun t503 => (if t503 = (t486.length : Int) then ((head_Top.f k1 l0 a1).bind fun t504 => ((letterboxref9_Top.f k1 l0 a1).bind fun t507 => (if (strOfNums t504).toList = (strOfNums t507).toList then ((head_Stuff.f k1 l0).bind fun t510 => ((letterboxref9_Stuff.f k1 l0).bind fun t513 => (if (strOfNums t510).toList = (strOfNums t513).toList then ((letterboxlaw9_known.f k1).bind fun t516 => (some t516)) else (some false)))) else (some false)))) else (some false))) else (some false)))) else (some false)) = some true := H
      have A20 := Aside0.mk A200
      clear A200
      by_cases c21 : (strOfNums t491).toList = (strOfNums t494).toList
      ·rw [if_pos c21] at H
       have c21b0 : ((strOfNums t491).toList == (strOfNums t494).toList) = true := beq_iff_eq.mpr c21
       have c21b1 : ((strOfNums t491).toList != (strOfNums t494).toList) = false := bne_eq_false_iff_eq.mpr c21
       clear c21
       replace H := Option.bind_eq_some_iff.mp H
       obtain ⟨t497, A220, H⟩ := H
       replace H : ((letterboxref9_Body.f k1 l0).bind fun t500 => (if (strOfNums t497).toList = (strOfNums t500).toList then ((head_Lines.f k1 l0).bind fun t503 => (if t503 = (t486.length : Int) then ((head_Top.f k1 l0 a1).bind fun t504 => ((letterboxref9_Top.f k1 l0 a1).bind fun t507 => (if (strOfNums t504).toList = (strOfNums t507).toList then ((head_Stuff.f k1 l0).bind fun t510 => ((letterboxref9_Stuff.f k1 l0).bind fun t513 => (if (strOfNums t510).toList = (strOfNums t513).toList then ((letterboxlaw9_known.f k1).bind fun t516 => (some t516)) else (some false)))) else (some false)))) else (some false))) else (some false))) = some true := H
       have A22 := Aside0.mk A220
       clear A220
       replace H := Option.bind_eq_some_iff.mp H
       obtain ⟨t500, A230, H⟩ := H
       replace H : (if (strOfNums t497).toList = (strOfNums t500).toList then ((head_Lines.f k1 l0).bind fun t503 => (if t503 = (t486.length : Int) then ((head_Top.f k1 l0 a1).bind fun t504 => ((letterboxref9_Top.f k1 l0 a1).bind fun t507 => (if (strOfNums t504).toList = (strOfNums t507).toList then ((head_Stuff.f k1 l0).bind fun t510 => ((letterboxref9_Stuff.f k1 l0).bind fun t513 => (if (strOfNums t510).toList = (strOfNums t513).toList then ((letterboxlaw9_known.f k1).bind fun t516 => (some t516)) else (some false)))) else (some false)))) else (some false))) else (some false)) = some true := H
       have A23 := Aside0.mk A230
       clear A230
       by_cases c24 : (strOfNums t497).toList = (strOfNums t500).toList
       ·rw [if_pos c24] at H
        have c24b0 : ((strOfNums t497).toList == (strOfNums t500).toList) = true := beq_iff_eq.mpr c24
        have c24b1 : ((strOfNums t497).toList != (strOfNums t500).toList) = false := bne_eq_false_iff_eq.mpr c24
        clear c24
        replace H := Option.bind_eq_some_iff.mp H
        obtain ⟨t503, A250, H⟩ := H
        replace H : (if t503 = (t486.length : Int) then ((head_Top.f k1 l0 a1).bind fun t504 => ((letterboxref9_Top.f k1 l0 a1).bind fun t507 => (if (strOfNums t504).toList = (strOfNums t507).toList then ((head_Stuff.f k1 l0).bind fun t510 => ((letterboxref9_Stuff.f k1 l0).bind fun t513 => (if (strOfNums t510).toList = (strOfNums t513).toList then ((letterboxlaw9_known.f k1).bind fun t516 => (some t516)) else (some false)))) else (some false)))) else (some false)) = some true := H
        have A25 := Aside0.mk A250
        clear A250
        by_cases c26 : t503 = (t486.length : Int)
        ·rw [if_pos c26] at H
         have c26b0 : (t503 == (t486.length : Int)) = true := beq_iff_eq.mpr c26
         have c26b1 : (t503 != (t486.length : Int)) = false := bne_eq_false_iff_eq.mpr c26
         clear c26
         replace H := Option.bind_eq_some_iff.mp H
         obtain ⟨t504, A270, H⟩ := H
         replace H : ((letterboxref9_Top.f k1 l0 a1).bind fun t507 => (if (strOfNums t504).toList = (strOfNums t507).toList then ((head_Stuff.f k1 l0).bind fun t510 => ((letterboxref9_Stuff.f k1 l0).bind fun t513 => (if (strOfNums t510).toList = (strOfNums t513).toList then ((letterboxlaw9_known.f k1).bind fun t516 => (some t516)) else (some false)))) else (some false))) = some true := H
         have A27 := Aside0.mk A270
         clear A270
         replace H := Option.bind_eq_some_iff.mp H
         obtain ⟨t507, A280, H⟩ := H
         replace H : (if (strOfNums t504).toList = (strOfNums t507).toList then ((head_Stuff.f k1 l0).bind fun t510 => ((letterboxref9_Stuff.f k1 l0).bind fun t513 => (if (strOfNums t510).toList = (strOfNums t513).toList then ((letterboxlaw9_known.f k1).bind fun t516 => (some t516)) else (some false)))) else (some false)) = some true := H
         have A28 := Aside0.mk A280
         clear A280
         by_cases c29 : (strOfNums t504).toList = (strOfNums t507).toList
         ·rw [if_pos c29] at H
          have c29b0 : ((strOfNums t504).toList == (strOfNums t507).toList) = true := beq_iff_eq.mpr c29
          have c29b1 : ((strOfNums t504).toList != (strOfNums t507).toList) = false := bne_eq_false_iff_eq.mpr c29
          clear c29
          replace H := Option.bind_eq_some_iff.mp H
          obtain ⟨t510, A300, H⟩ := H
          replace H : ((letterboxref9_Stuff.f k1 l0).bind fun t513 => (if (strOfNums t510).toList = (strOfNums t513).toList then ((letterboxlaw9_known.f k1).bind fun t516 => (some t516)) else (some false))) = some true := H
          have A30 := Aside0.mk A300
          clear A300
          replace H := Option.bind_eq_some_iff.mp H
          obtain ⟨t513, A310, H⟩ := H
          replace H : (if (strOfNums t510).toList = (strOfNums t513).toList then ((letterboxlaw9_known.f k1).bind fun t516 => (some t516)) else (some false)) = some true := H
          have A31 := Aside0.mk A310
          clear A310
          by_cases c32 : (strOfNums t510).toList = (strOfNums t513).toList
          ·rw [if_pos c32] at H
           have c32b0 : ((strOfNums t510).toList == (strOfNums t513).toList) = true := beq_iff_eq.mpr c32
           have c32b1 : ((strOfNums t510).toList != (strOfNums t513).toList) = false := bne_eq_false_iff_eq.mpr c32
           clear c32
           replace H := Option.bind_eq_some_iff.mp H
           obtain ⟨t516, A330, H⟩ := H
           replace H : (some t516) = some true := H
           have A33 := Aside0.mk A330
           clear A330
           have Hr_ := Option.some.inj H
           try go_wp2
           have n0_ := Aside0.mk (Kd.N_drew HO_5.out)
           have n1_ := Aside0.mk (Kd.N_drew HO_6.out)
           have n2_ := Aside0.mk (below_drew1 HB.out)
           clear HO_5
           clear HO_6
           clear HB
           have HO_5 := n0_
           have HO_6 := n1_
           have HB := n2_
           clear n0_ n1_ n2_
           refine start_ (n := 47) (S := fun w' => True) (ds := []) #[false, false, false, false, false, false, false, false, false, false, false, false, false, false, false, false, false, false, false, false, false, false, false, false, false, false, false, false, false, false, false, false, false, false, false, false, false, false, false, false, false, false, false, false, false, false, false] (by kernel_rfl) rfl rfl trivial (fun hHeld => ?_); refine with_tabW letterboxlaw9_HeadTells.tab12 letterboxlaw9_HeadTells.bits12 (fun HT_ HW_ => ?_)
           generalize wr.drew = w34 at HO_5 HO_6 HB hHeld ⊢
           refine pure_ (i := 0) (N := some 37) (v := ?_) (a' := ?_) #[true, false, false, false, false, false, false, false, false, false, false, false, false, false, false, false, false, false, false, false, false, false, false, false, false, false, false, false, false, false, false, false, false, false, false, false, false, false, false, false, false, false, false, false, false, false, false] rfl rfl (any_of HT_.out (by kernel_rfl)) (fun _ _ _ h => h) (Or.inl ⟨by rfl, ?_⟩) ?_ ?_
           rotate_left
           ·intro w'
            go_simp
            with_reducible rfl
           rotate_left
           ·simp only [Act.put, List.setIfInBounds_toArray, List.set_cons_zero, List.set_cons_succ, i64_w, i32_w]
            rfl
           refine pure_ (i := 3) (N := some 40) (v := ?_) (a' := ?_) #[true, false, false, true, false, false, false, false, false, false, false, false, false, false, false, false, false, false, false, false, false, false, false, false, false, false, false, false, false, false, false, false, false, false, false, false, false, false, false, false, false, false, false, false, false, false, false] rfl rfl (any_of HT_.out (by kernel_rfl)) (fun _ _ _ h => h) (Or.inl ⟨by rfl, ?_⟩) ?_ ?_
           rotate_left
           ·intro w'
            go_simp
            with_reducible rfl
           rotate_left
           ·simp only [Act.put, List.setIfInBounds_toArray, List.set_cons_zero, List.set_cons_succ, i64_w, i32_w]
            rfl
           refine one_ (i := 1) (N := some 38) #[true, true, false, true, false, false, false, false, false, false, false, false, false, false, false, false, false, false, false, false, false, false, false, false, false, false, false, false, false, false, false, false, false, false, false, false, false, false, false, false, false, false, false, false, false, false, false] rfl rfl (one_of HT_.out (by kernel_rfl)) (by decide) (fun K hK => ?_)
           refine goes_ Tryd.func25 (by kernel_rfl) rfl #[.slice A0 l0.length c0] (by rfl) rfl rfl (by (try simp only [List.map_toArray, List.map_cons, List.map_nil]); first | done | rfl | (simp only [List.length_drop, List.length_take]; rfl)) ?_
           with_reducible refine (head_Head.calls k1 _ _ l0 t491 _ ?side1 ?side2 A19.out).mono ?_
           (case side1 => repeat (first | exact (Kd.C_below HR0.out HB.out) | (with_reducible refine Kd.C_alloc ?_ _) | (with_reducible refine Kd.C_drewN ?_ _) | (with_reducible refine Kd.C_drew ?_)))
           (case side2 => exact HC0.out)
           rintro e w35 ⟨v492, rfl, ho0, hb⟩
           refine ⟨_, rfl, ?_⟩
           have n0_ := Aside0.mk (Kd.N_elder' HO_5.out (Kd.R_base ho0) hb)
           have n1_ := Aside0.mk (Kd.N_elder' HO_6.out (Kd.R_base ho0) hb)
           have n2_ := Aside0.mk (Kd.R_lower ho0 (below_size HB.out))
           have n3_ := Aside0.mk (below_step HB.out hb)
           clear HO_5
           clear HO_6
           clear HB
           have HO_5 := n0_
           have HO_6 := n1_
           have HO493 := n2_
           have HB := n3_
           clear n0_ n1_ n2_ n3_
           (try clear hb)
           (try clear hb2)
           (try clear hk)
           (try clear hi)
           (try clear ho0)
           refine hK.out _ _ trivial (fun hHeld => ?_)
           clear hK K
           refine norm_ (a' := ?_) ?_ ?_
           rotate_left
           ·show Act.put _ (some 38) _ = _
            simp only [Act.put, List.setIfInBounds_toArray, List.set_cons_zero, List.set_cons_succ, i64_w, i32_w]
            rfl
           refine join_ (σ := Value × Value × Value × Value × Value × Value × Value) 6 #[true, true, true, true, true, true, true, true, true, true, true, true, true, true, true, true, true, true, true, true, true, true, true, true, true, true, true, true, true, true, true, true, true, true, true, true, true, true, true, true, true, false, false, false, false, false, false] (fun s_ => [(39, .string (strOfNums t491)), (41, s_.1), (42, .string (strOfNums t494)), (46, s_.2.1), (47, .string (strOfNums t497)), (49, s_.2.2.1), (50, .string (strOfNums t500)), (55, .int .i64 t503), (63, s_.2.2.2.1), (64, .string (strOfNums t504)), (67, s_.2.2.2.2.1), (68, .string (strOfNums t507)), (73, s_.2.2.2.2.2.1), (74, .string (strOfNums t510)), (76, s_.2.2.2.2.2.2), (77, .string (strOfNums t513)), (43, .bool true), (44, .bool true), (45, .slice A0 l0.length c0), (48, .slice A0 l0.length c0), (51, .bool true), (52, .bool true), (53, .bool true), (54, .slice A0 l0.length c0), (56, .slice Ao10 t486.length co10), (57, .int .i64 (t486.length : Int)), (58, .bool true), (59, .bool true), (60, .bool true), (61, .slice A0 l0.length c0), (62, .int .i64 a1), (65, .slice A0 l0.length c0), (66, .int .i64 a1), (69, .bool true), (70, .bool true), (71, .bool true), (72, .slice A0 l0.length c0), (75, .slice A0 l0.length c0)]) (fun s_ w' => (Kd.R (Kd.int .u8) 5 w' w.heap.size (fun k_ => some k_ ≠ (s_.2.1 : Value).ownBlock ∧ some k_ ≠ (s_.2.2.2.1 : Value).ownBlock ∧ some k_ ≠ (s_.2.2.2.2.2.1 : Value).ownBlock ∧ some k_ ≠ (s_.2.2.2.2.2.2 : Value).ownBlock) v492 t491) ∧ (Kd.V (Kd.int .u8) 5 w' w.heap.size (fun k_ => some k_ ≠ (v492 : Value).ownBlock ∧ some k_ ≠ (s_.2.1 : Value).ownBlock ∧ some k_ ≠ (s_.2.2.2.1 : Value).ownBlock ∧ some k_ ≠ (s_.2.2.2.2.2.1 : Value).ownBlock ∧ some k_ ≠ (s_.2.2.2.2.2.2 : Value).ownBlock ∧ some k_ ≠ (.slice Ao9 t483.length co9 : Value).ownBlock ∧ some k_ ≠ (.slice Ao10 t486.length co10 : Value).ownBlock) s_.1 t494) ∧ (Kd.R (Kd.int .u8) 5 w' w.heap.size (fun k_ => some k_ ≠ (v492 : Value).ownBlock ∧ some k_ ≠ (s_.2.2.2.1 : Value).ownBlock ∧ some k_ ≠ (s_.2.2.2.2.2.1 : Value).ownBlock ∧ some k_ ≠ (s_.2.2.2.2.2.2 : Value).ownBlock) s_.2.1 t497) ∧ (Kd.V (Kd.int .u8) 5 w' w.heap.size (fun k_ => some k_ ≠ (v492 : Value).ownBlock ∧ some k_ ≠ (s_.2.1 : Value).ownBlock ∧ some k_ ≠ (s_.2.2.2.1 : Value).ownBlock ∧ some k_ ≠ (s_.2.2.2.2.2.1 : Value).ownBlock ∧ some k_ ≠ (s_.2.2.2.2.2.2 : Value).ownBlock ∧ some k_ ≠ (.slice Ao9 t483.length co9 : Value).ownBlock ∧ some k_ ≠ (.slice Ao10 t486.length co10 : Value).ownBlock) s_.2.2.1 t500) ∧ (Kd.R (Kd.int .u8) 5 w' w.heap.size (fun k_ => some k_ ≠ (v492 : Value).ownBlock ∧ some k_ ≠ (s_.2.1 : Value).ownBlock ∧ some k_ ≠ (s_.2.2.2.2.2.1 : Value).ownBlock ∧ some k_ ≠ (s_.2.2.2.2.2.2 : Value).ownBlock) s_.2.2.2.1 t504) ∧ (Kd.V (Kd.int .u8) 5 w' w.heap.size (fun k_ => some k_ ≠ (v492 : Value).ownBlock ∧ some k_ ≠ (s_.2.1 : Value).ownBlock ∧ some k_ ≠ (s_.2.2.2.1 : Value).ownBlock ∧ some k_ ≠ (s_.2.2.2.2.2.1 : Value).ownBlock ∧ some k_ ≠ (s_.2.2.2.2.2.2 : Value).ownBlock ∧ some k_ ≠ (.slice Ao9 t483.length co9 : Value).ownBlock ∧ some k_ ≠ (.slice Ao10 t486.length co10 : Value).ownBlock) s_.2.2.2.2.1 t507) ∧ (Kd.R (Kd.int .u8) 5 w' w.heap.size (fun k_ => some k_ ≠ (v492 : Value).ownBlock ∧ some k_ ≠ (s_.2.1 : Value).ownBlock ∧ some k_ ≠ (s_.2.2.2.1 : Value).ownBlock ∧ some k_ ≠ (s_.2.2.2.2.2.2 : Value).ownBlock) s_.2.2.2.2.2.1 t510) ∧ (Kd.R (Kd.int .u8) 5 w' w.heap.size (fun k_ => some k_ ≠ (v492 : Value).ownBlock ∧ some k_ ≠ (s_.2.1 : Value).ownBlock ∧ some k_ ≠ (s_.2.2.2.1 : Value).ownBlock ∧ some k_ ≠ (s_.2.2.2.2.2.1 : Value).ownBlock) s_.2.2.2.2.2.2 t513) ∧ (Kd.N (Kd.slice 5 (Kd.int .u8)) 22 w' w.heap.size (fun k_ => some k_ ≠ (v492 : Value).ownBlock ∧ some k_ ≠ (s_.2.1 : Value).ownBlock ∧ some k_ ≠ (s_.2.2.2.1 : Value).ownBlock ∧ some k_ ≠ (s_.2.2.2.2.2.1 : Value).ownBlock ∧ some k_ ≠ (s_.2.2.2.2.2.2 : Value).ownBlock ∧ some k_ ≠ (.slice Ao10 t486.length co10 : Value).ownBlock) (.slice Ao9 t483.length co9) t483) ∧ (Kd.N (Kd.slice 5 (Kd.int .u8)) 22 w' w.heap.size (fun k_ => some k_ ≠ (v492 : Value).ownBlock ∧ some k_ ≠ (s_.2.1 : Value).ownBlock ∧ some k_ ≠ (s_.2.2.2.1 : Value).ownBlock ∧ some k_ ≠ (s_.2.2.2.2.2.1 : Value).ownBlock ∧ some k_ ≠ (s_.2.2.2.2.2.2 : Value).ownBlock ∧ some k_ ≠ (.slice Ao9 t483.length co9 : Value).ownBlock) (.slice Ao10 t486.length co10) t486) ∧ (Below w.heap.size w w')) ?_ ?_
           rotate_left
           ·intro hJ2_4_5_9_10_12_13_18_26_27_30_31_36_37_39_40
            refine join_ (σ := Value × Value × Value × Value × Value × Value × Value) 7 #[true, true, true, true, true, true, true, true, true, true, true, true, true, true, true, true, true, true, true, true, true, true, true, true, true, true, true, true, true, true, true, true, true, true, true, true, true, true, true, true, false, false, false, false, false, false, false] (fun s_ => [(39, .string (strOfNums t491)), (41, s_.1), (42, .string (strOfNums t494)), (46, s_.2.1), (47, .string (strOfNums t497)), (49, s_.2.2.1), (50, .string (strOfNums t500)), (55, .int .i64 t503), (63, s_.2.2.2.1), (64, .string (strOfNums t504)), (67, s_.2.2.2.2.1), (68, .string (strOfNums t507)), (73, s_.2.2.2.2.2.1), (74, .string (strOfNums t510)), (76, s_.2.2.2.2.2.2), (43, .bool true), (44, .bool true), (45, .slice A0 l0.length c0), (48, .slice A0 l0.length c0), (51, .bool true), (52, .bool true), (53, .bool true), (54, .slice A0 l0.length c0), (56, .slice Ao10 t486.length co10), (57, .int .i64 (t486.length : Int)), (58, .bool true), (59, .bool true), (60, .bool true), (61, .slice A0 l0.length c0), (62, .int .i64 a1), (65, .slice A0 l0.length c0), (66, .int .i64 a1), (69, .bool true), (70, .bool true), (71, .bool true), (72, .slice A0 l0.length c0), (75, .slice A0 l0.length c0)]) (fun s_ w' => (Kd.R (Kd.int .u8) 5 w' w.heap.size (fun k_ => some k_ ≠ (s_.2.1 : Value).ownBlock ∧ some k_ ≠ (s_.2.2.2.1 : Value).ownBlock ∧ some k_ ≠ (s_.2.2.2.2.2.1 : Value).ownBlock ∧ some k_ ≠ (s_.2.2.2.2.2.2 : Value).ownBlock) v492 t491) ∧ (Kd.V (Kd.int .u8) 5 w' w.heap.size (fun k_ => some k_ ≠ (v492 : Value).ownBlock ∧ some k_ ≠ (s_.2.1 : Value).ownBlock ∧ some k_ ≠ (s_.2.2.2.1 : Value).ownBlock ∧ some k_ ≠ (s_.2.2.2.2.2.1 : Value).ownBlock ∧ some k_ ≠ (s_.2.2.2.2.2.2 : Value).ownBlock ∧ some k_ ≠ (.slice Ao9 t483.length co9 : Value).ownBlock ∧ some k_ ≠ (.slice Ao10 t486.length co10 : Value).ownBlock) s_.1 t494) ∧ (Kd.R (Kd.int .u8) 5 w' w.heap.size (fun k_ => some k_ ≠ (v492 : Value).ownBlock ∧ some k_ ≠ (s_.2.2.2.1 : Value).ownBlock ∧ some k_ ≠ (s_.2.2.2.2.2.1 : Value).ownBlock ∧ some k_ ≠ (s_.2.2.2.2.2.2 : Value).ownBlock) s_.2.1 t497) ∧ (Kd.V (Kd.int .u8) 5 w' w.heap.size (fun k_ => some k_ ≠ (v492 : Value).ownBlock ∧ some k_ ≠ (s_.2.1 : Value).ownBlock ∧ some k_ ≠ (s_.2.2.2.1 : Value).ownBlock ∧ some k_ ≠ (s_.2.2.2.2.2.1 : Value).ownBlock ∧ some k_ ≠ (s_.2.2.2.2.2.2 : Value).ownBlock ∧ some k_ ≠ (.slice Ao9 t483.length co9 : Value).ownBlock ∧ some k_ ≠ (.slice Ao10 t486.length co10 : Value).ownBlock) s_.2.2.1 t500) ∧ (Kd.R (Kd.int .u8) 5 w' w.heap.size (fun k_ => some k_ ≠ (v492 : Value).ownBlock ∧ some k_ ≠ (s_.2.1 : Value).ownBlock ∧ some k_ ≠ (s_.2.2.2.2.2.1 : Value).ownBlock ∧ some k_ ≠ (s_.2.2.2.2.2.2 : Value).ownBlock) s_.2.2.2.1 t504) ∧ (Kd.V (Kd.int .u8) 5 w' w.heap.size (fun k_ => some k_ ≠ (v492 : Value).ownBlock ∧ some k_ ≠ (s_.2.1 : Value).ownBlock ∧ some k_ ≠ (s_.2.2.2.1 : Value).ownBlock ∧ some k_ ≠ (s_.2.2.2.2.2.1 : Value).ownBlock ∧ some k_ ≠ (s_.2.2.2.2.2.2 : Value).ownBlock ∧ some k_ ≠ (.slice Ao9 t483.length co9 : Value).ownBlock ∧ some k_ ≠ (.slice Ao10 t486.length co10 : Value).ownBlock) s_.2.2.2.2.1 t507) ∧ (Kd.R (Kd.int .u8) 5 w' w.heap.size (fun k_ => some k_ ≠ (v492 : Value).ownBlock ∧ some k_ ≠ (s_.2.1 : Value).ownBlock ∧ some k_ ≠ (s_.2.2.2.1 : Value).ownBlock ∧ some k_ ≠ (s_.2.2.2.2.2.2 : Value).ownBlock) s_.2.2.2.2.2.1 t510) ∧ (Kd.R (Kd.int .u8) 5 w' w.heap.size (fun k_ => some k_ ≠ (v492 : Value).ownBlock ∧ some k_ ≠ (s_.2.1 : Value).ownBlock ∧ some k_ ≠ (s_.2.2.2.1 : Value).ownBlock ∧ some k_ ≠ (s_.2.2.2.2.2.1 : Value).ownBlock) s_.2.2.2.2.2.2 t513) ∧ (Kd.N (Kd.slice 5 (Kd.int .u8)) 22 w' w.heap.size (fun k_ => some k_ ≠ (v492 : Value).ownBlock ∧ some k_ ≠ (s_.2.1 : Value).ownBlock ∧ some k_ ≠ (s_.2.2.2.1 : Value).ownBlock ∧ some k_ ≠ (s_.2.2.2.2.2.1 : Value).ownBlock ∧ some k_ ≠ (s_.2.2.2.2.2.2 : Value).ownBlock ∧ some k_ ≠ (.slice Ao10 t486.length co10 : Value).ownBlock) (.slice Ao9 t483.length co9) t483) ∧ (Kd.N (Kd.slice 5 (Kd.int .u8)) 22 w' w.heap.size (fun k_ => some k_ ≠ (v492 : Value).ownBlock ∧ some k_ ≠ (s_.2.1 : Value).ownBlock ∧ some k_ ≠ (s_.2.2.2.1 : Value).ownBlock ∧ some k_ ≠ (s_.2.2.2.2.2.1 : Value).ownBlock ∧ some k_ ≠ (s_.2.2.2.2.2.2 : Value).ownBlock ∧ some k_ ≠ (.slice Ao9 t483.length co9 : Value).ownBlock) (.slice Ao10 t486.length co10) t486) ∧ (Below w.heap.size w w')) ?_ ?_
            rotate_left
            ·intro hJ2_4_5_9_10_12_13_18_26_27_30_31_36_37_39
             refine join_ (σ := Value × Value × Value × Value × Value × Value × Value) 7 #[true, true, true, true, true, true, true, true, true, true, true, true, true, true, true, true, true, true, true, true, true, true, true, true, true, true, true, true, true, true, true, true, true, true, true, true, true, false, true, true, true, false, false, false, false, false, false] (fun s_ => [(39, .string (strOfNums t491)), (41, s_.1), (42, .string (strOfNums t494)), (46, s_.2.1), (47, .string (strOfNums t497)), (49, s_.2.2.1), (50, .string (strOfNums t500)), (55, .int .i64 t503), (63, s_.2.2.2.1), (64, .string (strOfNums t504)), (67, s_.2.2.2.2.1), (68, .string (strOfNums t507)), (73, s_.2.2.2.2.2.1), (76, s_.2.2.2.2.2.2), (77, .string (strOfNums t513)), (43, .bool true), (44, .bool true), (45, .slice A0 l0.length c0), (48, .slice A0 l0.length c0), (51, .bool true), (52, .bool true), (53, .bool true), (54, .slice A0 l0.length c0), (56, .slice Ao10 t486.length co10), (57, .int .i64 (t486.length : Int)), (58, .bool true), (59, .bool true), (60, .bool true), (61, .slice A0 l0.length c0), (62, .int .i64 a1), (65, .slice A0 l0.length c0), (66, .int .i64 a1), (69, .bool true), (70, .bool true), (71, .bool true), (72, .slice A0 l0.length c0), (75, .slice A0 l0.length c0)]) (fun s_ w' => (Kd.R (Kd.int .u8) 5 w' w.heap.size (fun k_ => some k_ ≠ (s_.2.1 : Value).ownBlock ∧ some k_ ≠ (s_.2.2.2.1 : Value).ownBlock ∧ some k_ ≠ (s_.2.2.2.2.2.1 : Value).ownBlock ∧ some k_ ≠ (s_.2.2.2.2.2.2 : Value).ownBlock) v492 t491) ∧ (Kd.V (Kd.int .u8) 5 w' w.heap.size (fun k_ => some k_ ≠ (v492 : Value).ownBlock ∧ some k_ ≠ (s_.2.1 : Value).ownBlock ∧ some k_ ≠ (s_.2.2.2.1 : Value).ownBlock ∧ some k_ ≠ (s_.2.2.2.2.2.1 : Value).ownBlock ∧ some k_ ≠ (s_.2.2.2.2.2.2 : Value).ownBlock ∧ some k_ ≠ (.slice Ao9 t483.length co9 : Value).ownBlock ∧ some k_ ≠ (.slice Ao10 t486.length co10 : Value).ownBlock) s_.1 t494) ∧ (Kd.R (Kd.int .u8) 5 w' w.heap.size (fun k_ => some k_ ≠ (v492 : Value).ownBlock ∧ some k_ ≠ (s_.2.2.2.1 : Value).ownBlock ∧ some k_ ≠ (s_.2.2.2.2.2.1 : Value).ownBlock ∧ some k_ ≠ (s_.2.2.2.2.2.2 : Value).ownBlock) s_.2.1 t497) ∧ (Kd.V (Kd.int .u8) 5 w' w.heap.size (fun k_ => some k_ ≠ (v492 : Value).ownBlock ∧ some k_ ≠ (s_.2.1 : Value).ownBlock ∧ some k_ ≠ (s_.2.2.2.1 : Value).ownBlock ∧ some k_ ≠ (s_.2.2.2.2.2.1 : Value).ownBlock ∧ some k_ ≠ (s_.2.2.2.2.2.2 : Value).ownBlock ∧ some k_ ≠ (.slice Ao9 t483.length co9 : Value).ownBlock ∧ some k_ ≠ (.slice Ao10 t486.length co10 : Value).ownBlock) s_.2.2.1 t500) ∧ (Kd.R (Kd.int .u8) 5 w' w.heap.size (fun k_ => some k_ ≠ (v492 : Value).ownBlock ∧ some k_ ≠ (s_.2.1 : Value).ownBlock ∧ some k_ ≠ (s_.2.2.2.2.2.1 : Value).ownBlock ∧ some k_ ≠ (s_.2.2.2.2.2.2 : Value).ownBlock) s_.2.2.2.1 t504) ∧ (Kd.V (Kd.int .u8) 5 w' w.heap.size (fun k_ => some k_ ≠ (v492 : Value).ownBlock ∧ some k_ ≠ (s_.2.1 : Value).ownBlock ∧ some k_ ≠ (s_.2.2.2.1 : Value).ownBlock ∧ some k_ ≠ (s_.2.2.2.2.2.1 : Value).ownBlock ∧ some k_ ≠ (s_.2.2.2.2.2.2 : Value).ownBlock ∧ some k_ ≠ (.slice Ao9 t483.length co9 : Value).ownBlock ∧ some k_ ≠ (.slice Ao10 t486.length co10 : Value).ownBlock) s_.2.2.2.2.1 t507) ∧ (Kd.R (Kd.int .u8) 5 w' w.heap.size (fun k_ => some k_ ≠ (v492 : Value).ownBlock ∧ some k_ ≠ (s_.2.1 : Value).ownBlock ∧ some k_ ≠ (s_.2.2.2.1 : Value).ownBlock ∧ some k_ ≠ (s_.2.2.2.2.2.2 : Value).ownBlock) s_.2.2.2.2.2.1 t510) ∧ (Kd.R (Kd.int .u8) 5 w' w.heap.size (fun k_ => some k_ ≠ (v492 : Value).ownBlock ∧ some k_ ≠ (s_.2.1 : Value).ownBlock ∧ some k_ ≠ (s_.2.2.2.1 : Value).ownBlock ∧ some k_ ≠ (s_.2.2.2.2.2.1 : Value).ownBlock) s_.2.2.2.2.2.2 t513) ∧ (Kd.N (Kd.slice 5 (Kd.int .u8)) 22 w' w.heap.size (fun k_ => some k_ ≠ (v492 : Value).ownBlock ∧ some k_ ≠ (s_.2.1 : Value).ownBlock ∧ some k_ ≠ (s_.2.2.2.1 : Value).ownBlock ∧ some k_ ≠ (s_.2.2.2.2.2.1 : Value).ownBlock ∧ some k_ ≠ (s_.2.2.2.2.2.2 : Value).ownBlock ∧ some k_ ≠ (.slice Ao10 t486.length co10 : Value).ownBlock) (.slice Ao9 t483.length co9) t483) ∧ (Kd.N (Kd.slice 5 (Kd.int .u8)) 22 w' w.heap.size (fun k_ => some k_ ≠ (v492 : Value).ownBlock ∧ some k_ ≠ (s_.2.1 : Value).ownBlock ∧ some k_ ≠ (s_.2.2.2.1 : Value).ownBlock ∧ some k_ ≠ (s_.2.2.2.2.2.1 : Value).ownBlock ∧ some k_ ≠ (s_.2.2.2.2.2.2 : Value).ownBlock ∧ some k_ ≠ (.slice Ao9 t483.length co9 : Value).ownBlock) (.slice Ao10 t486.length co10) t486) ∧ (Below w.heap.size w w')) ?_ ?_
             rotate_left
             ·intro hJ2_4_5_9_10_12_13_18_26_27_30_31_36_39_40
              refine join_ (σ := Value × Value × Value × Value × Value × Value) 8 #[true, true, true, true, true, true, true, true, true, true, true, true, true, true, true, true, true, true, true, true, true, true, true, true, true, true, true, true, true, true, true, true, true, true, true, true, true, true, true, false, false, false, false, false, false, false, false] (fun s_ => [(39, .string (strOfNums t491)), (41, s_.1), (42, .string (strOfNums t494)), (46, s_.2.1), (47, .string (strOfNums t497)), (49, s_.2.2.1), (50, .string (strOfNums t500)), (55, .int .i64 t503), (63, s_.2.2.2.1), (64, .string (strOfNums t504)), (67, s_.2.2.2.2.1), (68, .string (strOfNums t507)), (73, s_.2.2.2.2.2), (74, .string (strOfNums t510)), (43, .bool true), (44, .bool true), (45, .slice A0 l0.length c0), (48, .slice A0 l0.length c0), (51, .bool true), (52, .bool true), (53, .bool true), (54, .slice A0 l0.length c0), (56, .slice Ao10 t486.length co10), (57, .int .i64 (t486.length : Int)), (58, .bool true), (59, .bool true), (60, .bool true), (61, .slice A0 l0.length c0), (62, .int .i64 a1), (65, .slice A0 l0.length c0), (66, .int .i64 a1), (69, .bool true), (70, .bool true), (71, .bool true), (72, .slice A0 l0.length c0), (75, .slice A0 l0.length c0)]) (fun s_ w' => (Kd.R (Kd.int .u8) 5 w' w.heap.size (fun k_ => some k_ ≠ (s_.2.1 : Value).ownBlock ∧ some k_ ≠ (s_.2.2.2.1 : Value).ownBlock ∧ some k_ ≠ (s_.2.2.2.2.2 : Value).ownBlock) v492 t491) ∧ (Kd.V (Kd.int .u8) 5 w' w.heap.size (fun k_ => some k_ ≠ (v492 : Value).ownBlock ∧ some k_ ≠ (s_.2.1 : Value).ownBlock ∧ some k_ ≠ (s_.2.2.2.1 : Value).ownBlock ∧ some k_ ≠ (s_.2.2.2.2.2 : Value).ownBlock ∧ some k_ ≠ (.slice Ao9 t483.length co9 : Value).ownBlock ∧ some k_ ≠ (.slice Ao10 t486.length co10 : Value).ownBlock) s_.1 t494) ∧ (Kd.R (Kd.int .u8) 5 w' w.heap.size (fun k_ => some k_ ≠ (v492 : Value).ownBlock ∧ some k_ ≠ (s_.2.2.2.1 : Value).ownBlock ∧ some k_ ≠ (s_.2.2.2.2.2 : Value).ownBlock) s_.2.1 t497) ∧ (Kd.V (Kd.int .u8) 5 w' w.heap.size (fun k_ => some k_ ≠ (v492 : Value).ownBlock ∧ some k_ ≠ (s_.2.1 : Value).ownBlock ∧ some k_ ≠ (s_.2.2.2.1 : Value).ownBlock ∧ some k_ ≠ (s_.2.2.2.2.2 : Value).ownBlock ∧ some k_ ≠ (.slice Ao9 t483.length co9 : Value).ownBlock ∧ some k_ ≠ (.slice Ao10 t486.length co10 : Value).ownBlock) s_.2.2.1 t500) ∧ (Kd.R (Kd.int .u8) 5 w' w.heap.size (fun k_ => some k_ ≠ (v492 : Value).ownBlock ∧ some k_ ≠ (s_.2.1 : Value).ownBlock ∧ some k_ ≠ (s_.2.2.2.2.2 : Value).ownBlock) s_.2.2.2.1 t504) ∧ (Kd.V (Kd.int .u8) 5 w' w.heap.size (fun k_ => some k_ ≠ (v492 : Value).ownBlock ∧ some k_ ≠ (s_.2.1 : Value).ownBlock ∧ some k_ ≠ (s_.2.2.2.1 : Value).ownBlock ∧ some k_ ≠ (s_.2.2.2.2.2 : Value).ownBlock ∧ some k_ ≠ (.slice Ao9 t483.length co9 : Value).ownBlock ∧ some k_ ≠ (.slice Ao10 t486.length co10 : Value).ownBlock) s_.2.2.2.2.1 t507) ∧ (Kd.R (Kd.int .u8) 5 w' w.heap.size (fun k_ => some k_ ≠ (v492 : Value).ownBlock ∧ some k_ ≠ (s_.2.1 : Value).ownBlock ∧ some k_ ≠ (s_.2.2.2.1 : Value).ownBlock) s_.2.2.2.2.2 t510) ∧ (Kd.N (Kd.slice 5 (Kd.int .u8)) 22 w' w.heap.size (fun k_ => some k_ ≠ (v492 : Value).ownBlock ∧ some k_ ≠ (s_.2.1 : Value).ownBlock ∧ some k_ ≠ (s_.2.2.2.1 : Value).ownBlock ∧ some k_ ≠ (s_.2.2.2.2.2 : Value).ownBlock ∧ some k_ ≠ (.slice Ao10 t486.length co10 : Value).ownBlock) (.slice Ao9 t483.length co9) t483) ∧ (Kd.N (Kd.slice 5 (Kd.int .u8)) 22 w' w.heap.size (fun k_ => some k_ ≠ (v492 : Value).ownBlock ∧ some k_ ≠ (s_.2.1 : Value).ownBlock ∧ some k_ ≠ (s_.2.2.2.1 : Value).ownBlock ∧ some k_ ≠ (s_.2.2.2.2.2 : Value).ownBlock ∧ some k_ ≠ (.slice Ao9 t483.length co9 : Value).ownBlock) (.slice Ao10 t486.length co10) t486) ∧ (Below w.heap.size w w')) ?_ ?_
              rotate_left
              ·intro hJ2_4_5_9_10_12_13_18_26_27_30_31_36_37
               refine join_ (σ := Value × Value × Value × Value × Value × Value × Value) 8 #[true, true, true, true, true, true, true, true, true, true, true, true, true, true, true, true, true, true, true, true, true, true, true, true, true, true, true, true, true, true, true, true, true, true, true, true, true, false, true, true, false, false, false, false, false, false, false] (fun s_ => [(39, .string (strOfNums t491)), (41, s_.1), (42, .string (strOfNums t494)), (46, s_.2.1), (47, .string (strOfNums t497)), (49, s_.2.2.1), (50, .string (strOfNums t500)), (55, .int .i64 t503), (63, s_.2.2.2.1), (64, .string (strOfNums t504)), (67, s_.2.2.2.2.1), (68, .string (strOfNums t507)), (73, s_.2.2.2.2.2.1), (76, s_.2.2.2.2.2.2), (43, .bool true), (44, .bool true), (45, .slice A0 l0.length c0), (48, .slice A0 l0.length c0), (51, .bool true), (52, .bool true), (53, .bool true), (54, .slice A0 l0.length c0), (56, .slice Ao10 t486.length co10), (57, .int .i64 (t486.length : Int)), (58, .bool true), (59, .bool true), (60, .bool true), (61, .slice A0 l0.length c0), (62, .int .i64 a1), (65, .slice A0 l0.length c0), (66, .int .i64 a1), (69, .bool true), (70, .bool true), (71, .bool true), (72, .slice A0 l0.length c0), (75, .slice A0 l0.length c0)]) (fun s_ w' => (Kd.R (Kd.int .u8) 5 w' w.heap.size (fun k_ => some k_ ≠ (s_.2.1 : Value).ownBlock ∧ some k_ ≠ (s_.2.2.2.1 : Value).ownBlock ∧ some k_ ≠ (s_.2.2.2.2.2.1 : Value).ownBlock ∧ some k_ ≠ (s_.2.2.2.2.2.2 : Value).ownBlock) v492 t491) ∧ (Kd.V (Kd.int .u8) 5 w' w.heap.size (fun k_ => some k_ ≠ (v492 : Value).ownBlock ∧ some k_ ≠ (s_.2.1 : Value).ownBlock ∧ some k_ ≠ (s_.2.2.2.1 : Value).ownBlock ∧ some k_ ≠ (s_.2.2.2.2.2.1 : Value).ownBlock ∧ some k_ ≠ (s_.2.2.2.2.2.2 : Value).ownBlock ∧ some k_ ≠ (.slice Ao9 t483.length co9 : Value).ownBlock ∧ some k_ ≠ (.slice Ao10 t486.length co10 : Value).ownBlock) s_.1 t494) ∧ (Kd.R (Kd.int .u8) 5 w' w.heap.size (fun k_ => some k_ ≠ (v492 : Value).ownBlock ∧ some k_ ≠ (s_.2.2.2.1 : Value).ownBlock ∧ some k_ ≠ (s_.2.2.2.2.2.1 : Value).ownBlock ∧ some k_ ≠ (s_.2.2.2.2.2.2 : Value).ownBlock) s_.2.1 t497) ∧ (Kd.V (Kd.int .u8) 5 w' w.heap.size (fun k_ => some k_ ≠ (v492 : Value).ownBlock ∧ some k_ ≠ (s_.2.1 : Value).ownBlock ∧ some k_ ≠ (s_.2.2.2.1 : Value).ownBlock ∧ some k_ ≠ (s_.2.2.2.2.2.1 : Value).ownBlock ∧ some k_ ≠ (s_.2.2.2.2.2.2 : Value).ownBlock ∧ some k_ ≠ (.slice Ao9 t483.length co9 : Value).ownBlock ∧ some k_ ≠ (.slice Ao10 t486.length co10 : Value).ownBlock) s_.2.2.1 t500) ∧ (Kd.R (Kd.int .u8) 5 w' w.heap.size (fun k_ => some k_ ≠ (v492 : Value).ownBlock ∧ some k_ ≠ (s_.2.1 : Value).ownBlock ∧ some k_ ≠ (s_.2.2.2.2.2.1 : Value).ownBlock ∧ some k_ ≠ (s_.2.2.2.2.2.2 : Value).ownBlock) s_.2.2.2.1 t504) ∧ (Kd.V (Kd.int .u8) 5 w' w.heap.size (fun k_ => some k_ ≠ (v492 : Value).ownBlock ∧ some k_ ≠ (s_.2.1 : Value).ownBlock ∧ some k_ ≠ (s_.2.2.2.1 : Value).ownBlock ∧ some k_ ≠ (s_.2.2.2.2.2.1 : Value).ownBlock ∧ some k_ ≠ (s_.2.2.2.2.2.2 : Value).ownBlock ∧ some k_ ≠ (.slice Ao9 t483.length co9 : Value).ownBlock ∧ some k_ ≠ (.slice Ao10 t486.length co10 : Value).ownBlock) s_.2.2.2.2.1 t507) ∧ (Kd.R (Kd.int .u8) 5 w' w.heap.size (fun k_ => some k_ ≠ (v492 : Value).ownBlock ∧ some k_ ≠ (s_.2.1 : Value).ownBlock ∧ some k_ ≠ (s_.2.2.2.1 : Value).ownBlock ∧ some k_ ≠ (s_.2.2.2.2.2.2 : Value).ownBlock) s_.2.2.2.2.2.1 t510) ∧ (Kd.R (Kd.int .u8) 5 w' w.heap.size (fun k_ => some k_ ≠ (v492 : Value).ownBlock ∧ some k_ ≠ (s_.2.1 : Value).ownBlock ∧ some k_ ≠ (s_.2.2.2.1 : Value).ownBlock ∧ some k_ ≠ (s_.2.2.2.2.2.1 : Value).ownBlock) s_.2.2.2.2.2.2 t513) ∧ (Kd.N (Kd.slice 5 (Kd.int .u8)) 22 w' w.heap.size (fun k_ => some k_ ≠ (v492 : Value).ownBlock ∧ some k_ ≠ (s_.2.1 : Value).ownBlock ∧ some k_ ≠ (s_.2.2.2.1 : Value).ownBlock ∧ some k_ ≠ (s_.2.2.2.2.2.1 : Value).ownBlock ∧ some k_ ≠ (s_.2.2.2.2.2.2 : Value).ownBlock ∧ some k_ ≠ (.slice Ao10 t486.length co10 : Value).ownBlock) (.slice Ao9 t483.length co9) t483) ∧ (Kd.N (Kd.slice 5 (Kd.int .u8)) 22 w' w.heap.size (fun k_ => some k_ ≠ (v492 : Value).ownBlock ∧ some k_ ≠ (s_.2.1 : Value).ownBlock ∧ some k_ ≠ (s_.2.2.2.1 : Value).ownBlock ∧ some k_ ≠ (s_.2.2.2.2.2.1 : Value).ownBlock ∧ some k_ ≠ (s_.2.2.2.2.2.2 : Value).ownBlock ∧ some k_ ≠ (.slice Ao9 t483.length co9 : Value).ownBlock) (.slice Ao10 t486.length co10) t486) ∧ (Below w.heap.size w w')) ?_ ?_
               rotate_left
               ·intro hJ2_4_5_9_10_12_13_18_26_27_30_31_36_39
                refine join_ (σ := Value × Value × Value × Value × Value × Value) 9 #[true, true, true, true, true, true, true, true, true, true, true, true, true, true, true, true, true, true, true, true, true, true, true, true, true, true, true, true, true, true, true, true, true, true, true, true, true, false, true, false, false, false, false, false, false, false, false] (fun s_ => [(39, .string (strOfNums t491)), (41, s_.1), (42, .string (strOfNums t494)), (46, s_.2.1), (47, .string (strOfNums t497)), (49, s_.2.2.1), (50, .string (strOfNums t500)), (55, .int .i64 t503), (63, s_.2.2.2.1), (64, .string (strOfNums t504)), (67, s_.2.2.2.2.1), (68, .string (strOfNums t507)), (73, s_.2.2.2.2.2), (43, .bool true), (44, .bool true), (45, .slice A0 l0.length c0), (48, .slice A0 l0.length c0), (51, .bool true), (52, .bool true), (53, .bool true), (54, .slice A0 l0.length c0), (56, .slice Ao10 t486.length co10), (57, .int .i64 (t486.length : Int)), (58, .bool true), (59, .bool true), (60, .bool true), (61, .slice A0 l0.length c0), (62, .int .i64 a1), (65, .slice A0 l0.length c0), (66, .int .i64 a1), (69, .bool true), (70, .bool true), (71, .bool true), (72, .slice A0 l0.length c0), (75, .slice A0 l0.length c0)]) (fun s_ w' => (Kd.R (Kd.int .u8) 5 w' w.heap.size (fun k_ => some k_ ≠ (s_.2.1 : Value).ownBlock ∧ some k_ ≠ (s_.2.2.2.1 : Value).ownBlock ∧ some k_ ≠ (s_.2.2.2.2.2 : Value).ownBlock) v492 t491) ∧ (Kd.V (Kd.int .u8) 5 w' w.heap.size (fun k_ => some k_ ≠ (v492 : Value).ownBlock ∧ some k_ ≠ (s_.2.1 : Value).ownBlock ∧ some k_ ≠ (s_.2.2.2.1 : Value).ownBlock ∧ some k_ ≠ (s_.2.2.2.2.2 : Value).ownBlock ∧ some k_ ≠ (.slice Ao9 t483.length co9 : Value).ownBlock ∧ some k_ ≠ (.slice Ao10 t486.length co10 : Value).ownBlock) s_.1 t494) ∧ (Kd.R (Kd.int .u8) 5 w' w.heap.size (fun k_ => some k_ ≠ (v492 : Value).ownBlock ∧ some k_ ≠ (s_.2.2.2.1 : Value).ownBlock ∧ some k_ ≠ (s_.2.2.2.2.2 : Value).ownBlock) s_.2.1 t497) ∧ (Kd.V (Kd.int .u8) 5 w' w.heap.size (fun k_ => some k_ ≠ (v492 : Value).ownBlock ∧ some k_ ≠ (s_.2.1 : Value).ownBlock ∧ some k_ ≠ (s_.2.2.2.1 : Value).ownBlock ∧ some k_ ≠ (s_.2.2.2.2.2 : Value).ownBlock ∧ some k_ ≠ (.slice Ao9 t483.length co9 : Value).ownBlock ∧ some k_ ≠ (.slice Ao10 t486.length co10 : Value).ownBlock) s_.2.2.1 t500) ∧ (Kd.R (Kd.int .u8) 5 w' w.heap.size (fun k_ => some k_ ≠ (v492 : Value).ownBlock ∧ some k_ ≠ (s_.2.1 : Value).ownBlock ∧ some k_ ≠ (s_.2.2.2.2.2 : Value).ownBlock) s_.2.2.2.1 t504) ∧ (Kd.V (Kd.int .u8) 5 w' w.heap.size (fun k_ => some k_ ≠ (v492 : Value).ownBlock ∧ some k_ ≠ (s_.2.1 : Value).ownBlock ∧ some k_ ≠ (s_.2.2.2.1 : Value).ownBlock ∧ some k_ ≠ (s_.2.2.2.2.2 : Value).ownBlock ∧ some k_ ≠ (.slice Ao9 t483.length co9 : Value).ownBlock ∧ some k_ ≠ (.slice Ao10 t486.length co10 : Value).ownBlock) s_.2.2.2.2.1 t507) ∧ (Kd.R (Kd.int .u8) 5 w' w.heap.size (fun k_ => some k_ ≠ (v492 : Value).ownBlock ∧ some k_ ≠ (s_.2.1 : Value).ownBlock ∧ some k_ ≠ (s_.2.2.2.1 : Value).ownBlock) s_.2.2.2.2.2 t510) ∧ (Kd.N (Kd.slice 5 (Kd.int .u8)) 22 w' w.heap.size (fun k_ => some k_ ≠ (v492 : Value).ownBlock ∧ some k_ ≠ (s_.2.1 : Value).ownBlock ∧ some k_ ≠ (s_.2.2.2.1 : Value).ownBlock ∧ some k_ ≠ (s_.2.2.2.2.2 : Value).ownBlock ∧ some k_ ≠ (.slice Ao10 t486.length co10 : Value).ownBlock) (.slice Ao9 t483.length co9) t483) ∧ (Kd.N (Kd.slice 5 (Kd.int .u8)) 22 w' w.heap.size (fun k_ => some k_ ≠ (v492 : Value).ownBlock ∧ some k_ ≠ (s_.2.1 : Value).ownBlock ∧ some k_ ≠ (s_.2.2.2.1 : Value).ownBlock ∧ some k_ ≠ (s_.2.2.2.2.2 : Value).ownBlock ∧ some k_ ≠ (.slice Ao9 t483.length co9 : Value).ownBlock) (.slice Ao10 t486.length co10) t486) ∧ (Below w.heap.size w w')) ?_ ?_
                rotate_left
                ·intro hJ2_4_5_9_10_12_13_18_26_27_30_31_36
                 refine join_ (σ := Value × Value × Value × Value × Value) 10 #[true, true, true, true, true, true, true, true, true, true, true, true, true, true, true, true, true, true, true, true, true, true, true, true, true, true, true, true, true, true, true, true, true, true, true, true, false, false, true, false, false, false, false, false, false, false, false] (fun s_ => [(39, .string (strOfNums t491)), (41, s_.1), (42, .string (strOfNums t494)), (46, s_.2.1), (47, .string (strOfNums t497)), (49, s_.2.2.1), (50, .string (strOfNums t500)), (55, .int .i64 t503), (63, s_.2.2.2.1), (64, .string (strOfNums t504)), (67, s_.2.2.2.2), (68, .string (strOfNums t507)), (43, .bool true), (44, .bool true), (45, .slice A0 l0.length c0), (48, .slice A0 l0.length c0), (51, .bool true), (52, .bool true), (53, .bool true), (54, .slice A0 l0.length c0), (56, .slice Ao10 t486.length co10), (57, .int .i64 (t486.length : Int)), (58, .bool true), (59, .bool true), (60, .bool true), (61, .slice A0 l0.length c0), (62, .int .i64 a1), (65, .slice A0 l0.length c0), (66, .int .i64 a1), (69, .bool true), (70, .bool true), (71, .bool true), (72, .slice A0 l0.length c0), (75, .slice A0 l0.length c0)]) (fun s_ w' => (Kd.R (Kd.int .u8) 5 w' w.heap.size (fun k_ => some k_ ≠ (s_.2.1 : Value).ownBlock ∧ some k_ ≠ (s_.2.2.2.1 : Value).ownBlock) v492 t491) ∧ (Kd.V (Kd.int .u8) 5 w' w.heap.size (fun k_ => some k_ ≠ (v492 : Value).ownBlock ∧ some k_ ≠ (s_.2.1 : Value).ownBlock ∧ some k_ ≠ (s_.2.2.2.1 : Value).ownBlock ∧ some k_ ≠ (.slice Ao9 t483.length co9 : Value).ownBlock ∧ some k_ ≠ (.slice Ao10 t486.length co10 : Value).ownBlock) s_.1 t494) ∧ (Kd.R (Kd.int .u8) 5 w' w.heap.size (fun k_ => some k_ ≠ (v492 : Value).ownBlock ∧ some k_ ≠ (s_.2.2.2.1 : Value).ownBlock) s_.2.1 t497) ∧ (Kd.V (Kd.int .u8) 5 w' w.heap.size (fun k_ => some k_ ≠ (v492 : Value).ownBlock ∧ some k_ ≠ (s_.2.1 : Value).ownBlock ∧ some k_ ≠ (s_.2.2.2.1 : Value).ownBlock ∧ some k_ ≠ (.slice Ao9 t483.length co9 : Value).ownBlock ∧ some k_ ≠ (.slice Ao10 t486.length co10 : Value).ownBlock) s_.2.2.1 t500) ∧ (Kd.R (Kd.int .u8) 5 w' w.heap.size (fun k_ => some k_ ≠ (v492 : Value).ownBlock ∧ some k_ ≠ (s_.2.1 : Value).ownBlock) s_.2.2.2.1 t504) ∧ (Kd.V (Kd.int .u8) 5 w' w.heap.size (fun k_ => some k_ ≠ (v492 : Value).ownBlock ∧ some k_ ≠ (s_.2.1 : Value).ownBlock ∧ some k_ ≠ (s_.2.2.2.1 : Value).ownBlock ∧ some k_ ≠ (.slice Ao9 t483.length co9 : Value).ownBlock ∧ some k_ ≠ (.slice Ao10 t486.length co10 : Value).ownBlock) s_.2.2.2.2 t507) ∧ (Kd.N (Kd.slice 5 (Kd.int .u8)) 22 w' w.heap.size (fun k_ => some k_ ≠ (v492 : Value).ownBlock ∧ some k_ ≠ (s_.2.1 : Value).ownBlock ∧ some k_ ≠ (s_.2.2.2.1 : Value).ownBlock ∧ some k_ ≠ (.slice Ao10 t486.length co10 : Value).ownBlock) (.slice Ao9 t483.length co9) t483) ∧ (Kd.N (Kd.slice 5 (Kd.int .u8)) 22 w' w.heap.size (fun k_ => some k_ ≠ (v492 : Value).ownBlock ∧ some k_ ≠ (s_.2.1 : Value).ownBlock ∧ some k_ ≠ (s_.2.2.2.1 : Value).ownBlock ∧ some k_ ≠ (.slice Ao9 t483.length co9 : Value).ownBlock) (.slice Ao10 t486.length co10) t486) ∧ (Below w.heap.size w w')) ?_ ?_
                 rotate_left
                 ·intro hJ2_4_5_9_10_12_13_18_26_27_30_31
                  refine join_ (σ := Value × Value × Value × Value × Value) 16 #[true, true, true, true, true, true, true, true, true, true, true, true, true, true, true, true, true, true, true, true, true, true, true, true, true, true, true, true, true, true, true, false, false, false, false, false, false, false, false, false, false, false, false, false, false, false, false] (fun s_ => [(39, .string (strOfNums t491)), (41, s_.1), (42, .string (strOfNums t494)), (46, s_.2.1), (47, .string (strOfNums t497)), (49, s_.2.2.1), (50, .string (strOfNums t500)), (55, .int .i64 t503), (63, s_.2.2.2.1), (64, .string (strOfNums t504)), (67, s_.2.2.2.2), (43, .bool true), (44, .bool true), (45, .slice A0 l0.length c0), (48, .slice A0 l0.length c0), (51, .bool true), (52, .bool true), (53, .bool true), (54, .slice A0 l0.length c0), (56, .slice Ao10 t486.length co10), (57, .int .i64 (t486.length : Int)), (58, .bool true), (59, .bool true), (60, .bool true), (61, .slice A0 l0.length c0), (62, .int .i64 a1), (65, .slice A0 l0.length c0), (66, .int .i64 a1)]) (fun s_ w' => (Kd.R (Kd.int .u8) 5 w' w.heap.size (fun k_ => some k_ ≠ (s_.2.1 : Value).ownBlock ∧ some k_ ≠ (s_.2.2.2.1 : Value).ownBlock) v492 t491) ∧ (Kd.V (Kd.int .u8) 5 w' w.heap.size (fun k_ => some k_ ≠ (v492 : Value).ownBlock ∧ some k_ ≠ (s_.2.1 : Value).ownBlock ∧ some k_ ≠ (s_.2.2.2.1 : Value).ownBlock ∧ some k_ ≠ (.slice Ao9 t483.length co9 : Value).ownBlock ∧ some k_ ≠ (.slice Ao10 t486.length co10 : Value).ownBlock) s_.1 t494) ∧ (Kd.R (Kd.int .u8) 5 w' w.heap.size (fun k_ => some k_ ≠ (v492 : Value).ownBlock ∧ some k_ ≠ (s_.2.2.2.1 : Value).ownBlock) s_.2.1 t497) ∧ (Kd.V (Kd.int .u8) 5 w' w.heap.size (fun k_ => some k_ ≠ (v492 : Value).ownBlock ∧ some k_ ≠ (s_.2.1 : Value).ownBlock ∧ some k_ ≠ (s_.2.2.2.1 : Value).ownBlock ∧ some k_ ≠ (.slice Ao9 t483.length co9 : Value).ownBlock ∧ some k_ ≠ (.slice Ao10 t486.length co10 : Value).ownBlock) s_.2.2.1 t500) ∧ (Kd.R (Kd.int .u8) 5 w' w.heap.size (fun k_ => some k_ ≠ (v492 : Value).ownBlock ∧ some k_ ≠ (s_.2.1 : Value).ownBlock) s_.2.2.2.1 t504) ∧ (Kd.V (Kd.int .u8) 5 w' w.heap.size (fun k_ => some k_ ≠ (v492 : Value).ownBlock ∧ some k_ ≠ (s_.2.1 : Value).ownBlock ∧ some k_ ≠ (s_.2.2.2.1 : Value).ownBlock ∧ some k_ ≠ (.slice Ao9 t483.length co9 : Value).ownBlock ∧ some k_ ≠ (.slice Ao10 t486.length co10 : Value).ownBlock) s_.2.2.2.2 t507) ∧ (Kd.N (Kd.slice 5 (Kd.int .u8)) 22 w' w.heap.size (fun k_ => some k_ ≠ (v492 : Value).ownBlock ∧ some k_ ≠ (s_.2.1 : Value).ownBlock ∧ some k_ ≠ (s_.2.2.2.1 : Value).ownBlock ∧ some k_ ≠ (.slice Ao10 t486.length co10 : Value).ownBlock) (.slice Ao9 t483.length co9) t483) ∧ (Kd.N (Kd.slice 5 (Kd.int .u8)) 22 w' w.heap.size (fun k_ => some k_ ≠ (v492 : Value).ownBlock ∧ some k_ ≠ (s_.2.1 : Value).ownBlock ∧ some k_ ≠ (s_.2.2.2.1 : Value).ownBlock ∧ some k_ ≠ (.slice Ao9 t483.length co9 : Value).ownBlock) (.slice Ao10 t486.length co10) t486) ∧ (Below w.heap.size w w')) ?_ ?_
                  rotate_left
                  ·intro hJ2_4_5_9_10_12_13_18_26_27_30
                   refine join_ (σ := Value × Value × Value × Value × Value) 16 #[true, true, true, true, true, true, true, true, true, true, true, true, true, true, true, true, true, true, true, true, true, true, true, true, true, true, true, false, true, true, true, true, false, false, false, false, false, false, false, false, false, false, false, false, false, false, false] (fun s_ => [(39, .string (strOfNums t491)), (41, s_.1), (42, .string (strOfNums t494)), (46, s_.2.1), (47, .string (strOfNums t497)), (49, s_.2.2.1), (50, .string (strOfNums t500)), (55, .int .i64 t503), (63, s_.2.2.2.1), (67, s_.2.2.2.2), (68, .string (strOfNums t507)), (43, .bool true), (44, .bool true), (45, .slice A0 l0.length c0), (48, .slice A0 l0.length c0), (51, .bool true), (52, .bool true), (53, .bool true), (54, .slice A0 l0.length c0), (56, .slice Ao10 t486.length co10), (57, .int .i64 (t486.length : Int)), (58, .bool true), (59, .bool true), (60, .bool true), (61, .slice A0 l0.length c0), (62, .int .i64 a1), (65, .slice A0 l0.length c0), (66, .int .i64 a1)]) (fun s_ w' => (Kd.R (Kd.int .u8) 5 w' w.heap.size (fun k_ => some k_ ≠ (s_.2.1 : Value).ownBlock ∧ some k_ ≠ (s_.2.2.2.1 : Value).ownBlock) v492 t491) ∧ (Kd.V (Kd.int .u8) 5 w' w.heap.size (fun k_ => some k_ ≠ (v492 : Value).ownBlock ∧ some k_ ≠ (s_.2.1 : Value).ownBlock ∧ some k_ ≠ (s_.2.2.2.1 : Value).ownBlock ∧ some k_ ≠ (.slice Ao9 t483.length co9 : Value).ownBlock ∧ some k_ ≠ (.slice Ao10 t486.length co10 : Value).ownBlock) s_.1 t494) ∧ (Kd.R (Kd.int .u8) 5 w' w.heap.size (fun k_ => some k_ ≠ (v492 : Value).ownBlock ∧ some k_ ≠ (s_.2.2.2.1 : Value).ownBlock) s_.2.1 t497) ∧ (Kd.V (Kd.int .u8) 5 w' w.heap.size (fun k_ => some k_ ≠ (v492 : Value).ownBlock ∧ some k_ ≠ (s_.2.1 : Value).ownBlock ∧ some k_ ≠ (s_.2.2.2.1 : Value).ownBlock ∧ some k_ ≠ (.slice Ao9 t483.length co9 : Value).ownBlock ∧ some k_ ≠ (.slice Ao10 t486.length co10 : Value).ownBlock) s_.2.2.1 t500) ∧ (Kd.R (Kd.int .u8) 5 w' w.heap.size (fun k_ => some k_ ≠ (v492 : Value).ownBlock ∧ some k_ ≠ (s_.2.1 : Value).ownBlock) s_.2.2.2.1 t504) ∧ (Kd.V (Kd.int .u8) 5 w' w.heap.size (fun k_ => some k_ ≠ (v492 : Value).ownBlock ∧ some k_ ≠ (s_.2.1 : Value).ownBlock ∧ some k_ ≠ (s_.2.2.2.1 : Value).ownBlock ∧ some k_ ≠ (.slice Ao9 t483.length co9 : Value).ownBlock ∧ some k_ ≠ (.slice Ao10 t486.length co10 : Value).ownBlock) s_.2.2.2.2 t507) ∧ (Kd.N (Kd.slice 5 (Kd.int .u8)) 22 w' w.heap.size (fun k_ => some k_ ≠ (v492 : Value).ownBlock ∧ some k_ ≠ (s_.2.1 : Value).ownBlock ∧ some k_ ≠ (s_.2.2.2.1 : Value).ownBlock ∧ some k_ ≠ (.slice Ao10 t486.length co10 : Value).ownBlock) (.slice Ao9 t483.length co9) t483) ∧ (Kd.N (Kd.slice 5 (Kd.int .u8)) 22 w' w.heap.size (fun k_ => some k_ ≠ (v492 : Value).ownBlock ∧ some k_ ≠ (s_.2.1 : Value).ownBlock ∧ some k_ ≠ (s_.2.2.2.1 : Value).ownBlock ∧ some k_ ≠ (.slice Ao9 t483.length co9 : Value).ownBlock) (.slice Ao10 t486.length co10) t486) ∧ (Below w.heap.size w w')) ?_ ?_
                   rotate_left
                   ·intro hJ2_4_5_9_10_12_13_18_26_30_31
                    refine join_ (σ := Value × Value × Value × Value) 17 #[true, true, true, true, true, true, true, true, true, true, true, true, true, true, true, true, true, true, true, true, true, true, true, true, true, true, true, true, true, true, false, false, false, false, false, false, false, false, false, false, false, false, false, false, false, false, false] (fun s_ => [(39, .string (strOfNums t491)), (41, s_.1), (42, .string (strOfNums t494)), (46, s_.2.1), (47, .string (strOfNums t497)), (49, s_.2.2.1), (50, .string (strOfNums t500)), (55, .int .i64 t503), (63, s_.2.2.2), (64, .string (strOfNums t504)), (43, .bool true), (44, .bool true), (45, .slice A0 l0.length c0), (48, .slice A0 l0.length c0), (51, .bool true), (52, .bool true), (53, .bool true), (54, .slice A0 l0.length c0), (56, .slice Ao10 t486.length co10), (57, .int .i64 (t486.length : Int)), (58, .bool true), (59, .bool true), (60, .bool true), (61, .slice A0 l0.length c0), (62, .int .i64 a1), (65, .slice A0 l0.length c0), (66, .int .i64 a1)]) (fun s_ w' => (Kd.R (Kd.int .u8) 5 w' w.heap.size (fun k_ => some k_ ≠ (s_.2.1 : Value).ownBlock ∧ some k_ ≠ (s_.2.2.2 : Value).ownBlock) v492 t491) ∧ (Kd.V (Kd.int .u8) 5 w' w.heap.size (fun k_ => some k_ ≠ (v492 : Value).ownBlock ∧ some k_ ≠ (s_.2.1 : Value).ownBlock ∧ some k_ ≠ (s_.2.2.2 : Value).ownBlock ∧ some k_ ≠ (.slice Ao9 t483.length co9 : Value).ownBlock ∧ some k_ ≠ (.slice Ao10 t486.length co10 : Value).ownBlock) s_.1 t494) ∧ (Kd.R (Kd.int .u8) 5 w' w.heap.size (fun k_ => some k_ ≠ (v492 : Value).ownBlock ∧ some k_ ≠ (s_.2.2.2 : Value).ownBlock) s_.2.1 t497) ∧ (Kd.V (Kd.int .u8) 5 w' w.heap.size (fun k_ => some k_ ≠ (v492 : Value).ownBlock ∧ some k_ ≠ (s_.2.1 : Value).ownBlock ∧ some k_ ≠ (s_.2.2.2 : Value).ownBlock ∧ some k_ ≠ (.slice Ao9 t483.length co9 : Value).ownBlock ∧ some k_ ≠ (.slice Ao10 t486.length co10 : Value).ownBlock) s_.2.2.1 t500) ∧ (Kd.R (Kd.int .u8) 5 w' w.heap.size (fun k_ => some k_ ≠ (v492 : Value).ownBlock ∧ some k_ ≠ (s_.2.1 : Value).ownBlock) s_.2.2.2 t504) ∧ (Kd.N (Kd.slice 5 (Kd.int .u8)) 22 w' w.heap.size (fun k_ => some k_ ≠ (v492 : Value).ownBlock ∧ some k_ ≠ (s_.2.1 : Value).ownBlock ∧ some k_ ≠ (s_.2.2.2 : Value).ownBlock ∧ some k_ ≠ (.slice Ao10 t486.length co10 : Value).ownBlock) (.slice Ao9 t483.length co9) t483) ∧ (Kd.N (Kd.slice 5 (Kd.int .u8)) 22 w' w.heap.size (fun k_ => some k_ ≠ (v492 : Value).ownBlock ∧ some k_ ≠ (s_.2.1 : Value).ownBlock ∧ some k_ ≠ (s_.2.2.2 : Value).ownBlock ∧ some k_ ≠ (.slice Ao9 t483.length co9 : Value).ownBlock) (.slice Ao10 t486.length co10) t486) ∧ (Below w.heap.size w w')) ?_ ?_
                    rotate_left
                    ·intro hJ2_4_5_9_10_12_13_18_26_27
                     refine join_ (σ := Value × Value × Value × Value × Value) 17 #[true, true, true, true, true, true, true, true, true, true, true, true, true, true, true, true, true, true, true, true, true, true, true, true, true, true, true, false, true, true, true, false, false, false, false, false, false, false, false, false, false, false, false, false, false, false, false] (fun s_ => [(39, .string (strOfNums t491)), (41, s_.1), (42, .string (strOfNums t494)), (46, s_.2.1), (47, .string (strOfNums t497)), (49, s_.2.2.1), (50, .string (strOfNums t500)), (55, .int .i64 t503), (63, s_.2.2.2.1), (67, s_.2.2.2.2), (43, .bool true), (44, .bool true), (45, .slice A0 l0.length c0), (48, .slice A0 l0.length c0), (51, .bool true), (52, .bool true), (53, .bool true), (54, .slice A0 l0.length c0), (56, .slice Ao10 t486.length co10), (57, .int .i64 (t486.length : Int)), (58, .bool true), (59, .bool true), (60, .bool true), (61, .slice A0 l0.length c0), (62, .int .i64 a1), (65, .slice A0 l0.length c0), (66, .int .i64 a1)]) (fun s_ w' => (Kd.R (Kd.int .u8) 5 w' w.heap.size (fun k_ => some k_ ≠ (s_.2.1 : Value).ownBlock ∧ some k_ ≠ (s_.2.2.2.1 : Value).ownBlock) v492 t491) ∧ (Kd.V (Kd.int .u8) 5 w' w.heap.size (fun k_ => some k_ ≠ (v492 : Value).ownBlock ∧ some k_ ≠ (s_.2.1 : Value).ownBlock ∧ some k_ ≠ (s_.2.2.2.1 : Value).ownBlock ∧ some k_ ≠ (.slice Ao9 t483.length co9 : Value).ownBlock ∧ some k_ ≠ (.slice Ao10 t486.length co10 : Value).ownBlock) s_.1 t494) ∧ (Kd.R (Kd.int .u8) 5 w' w.heap.size (fun k_ => some k_ ≠ (v492 : Value).ownBlock ∧ some k_ ≠ (s_.2.2.2.1 : Value).ownBlock) s_.2.1 t497) ∧ (Kd.V (Kd.int .u8) 5 w' w.heap.size (fun k_ => some k_ ≠ (v492 : Value).ownBlock ∧ some k_ ≠ (s_.2.1 : Value).ownBlock ∧ some k_ ≠ (s_.2.2.2.1 : Value).ownBlock ∧ some k_ ≠ (.slice Ao9 t483.length co9 : Value).ownBlock ∧ some k_ ≠ (.slice Ao10 t486.length co10 : Value).ownBlock) s_.2.2.1 t500) ∧ (Kd.R (Kd.int .u8) 5 w' w.heap.size (fun k_ => some k_ ≠ (v492 : Value).ownBlock ∧ some k_ ≠ (s_.2.1 : Value).ownBlock) s_.2.2.2.1 t504) ∧ (Kd.V (Kd.int .u8) 5 w' w.heap.size (fun k_ => some k_ ≠ (v492 : Value).ownBlock ∧ some k_ ≠ (s_.2.1 : Value).ownBlock ∧ some k_ ≠ (s_.2.2.2.1 : Value).ownBlock ∧ some k_ ≠ (.slice Ao9 t483.length co9 : Value).ownBlock ∧ some k_ ≠ (.slice Ao10 t486.length co10 : Value).ownBlock) s_.2.2.2.2 t507) ∧ (Kd.N (Kd.slice 5 (Kd.int .u8)) 22 w' w.heap.size (fun k_ => some k_ ≠ (v492 : Value).ownBlock ∧ some k_ ≠ (s_.2.1 : Value).ownBlock ∧ some k_ ≠ (s_.2.2.2.1 : Value).ownBlock ∧ some k_ ≠ (.slice Ao10 t486.length co10 : Value).ownBlock) (.slice Ao9 t483.length co9) t483) ∧ (Kd.N (Kd.slice 5 (Kd.int .u8)) 22 w' w.heap.size (fun k_ => some k_ ≠ (v492 : Value).ownBlock ∧ some k_ ≠ (s_.2.1 : Value).ownBlock ∧ some k_ ≠ (s_.2.2.2.1 : Value).ownBlock ∧ some k_ ≠ (.slice Ao9 t483.length co9 : Value).ownBlock) (.slice Ao10 t486.length co10) t486) ∧ (Below w.heap.size w w')) ?_ ?_
                     rotate_left
                     ·intro hJ2_4_5_9_10_12_13_18_26_30
                      refine join_ (σ := Value × Value × Value × Value) 18 #[true, true, true, true, true, true, true, true, true, true, true, true, true, true, true, true, true, true, true, true, true, true, true, true, true, true, true, false, true, true, false, false, false, false, false, false, false, false, false, false, false, false, false, false, false, false, false] (fun s_ => [(39, .string (strOfNums t491)), (41, s_.1), (42, .string (strOfNums t494)), (46, s_.2.1), (47, .string (strOfNums t497)), (49, s_.2.2.1), (50, .string (strOfNums t500)), (55, .int .i64 t503), (63, s_.2.2.2), (43, .bool true), (44, .bool true), (45, .slice A0 l0.length c0), (48, .slice A0 l0.length c0), (51, .bool true), (52, .bool true), (53, .bool true), (54, .slice A0 l0.length c0), (56, .slice Ao10 t486.length co10), (57, .int .i64 (t486.length : Int)), (58, .bool true), (59, .bool true), (60, .bool true), (61, .slice A0 l0.length c0), (62, .int .i64 a1), (65, .slice A0 l0.length c0), (66, .int .i64 a1)]) (fun s_ w' => (Kd.R (Kd.int .u8) 5 w' w.heap.size (fun k_ => some k_ ≠ (s_.2.1 : Value).ownBlock ∧ some k_ ≠ (s_.2.2.2 : Value).ownBlock) v492 t491) ∧ (Kd.V (Kd.int .u8) 5 w' w.heap.size (fun k_ => some k_ ≠ (v492 : Value).ownBlock ∧ some k_ ≠ (s_.2.1 : Value).ownBlock ∧ some k_ ≠ (s_.2.2.2 : Value).ownBlock ∧ some k_ ≠ (.slice Ao9 t483.length co9 : Value).ownBlock ∧ some k_ ≠ (.slice Ao10 t486.length co10 : Value).ownBlock) s_.1 t494) ∧ (Kd.R (Kd.int .u8) 5 w' w.heap.size (fun k_ => some k_ ≠ (v492 : Value).ownBlock ∧ some k_ ≠ (s_.2.2.2 : Value).ownBlock) s_.2.1 t497) ∧ (Kd.V (Kd.int .u8) 5 w' w.heap.size (fun k_ => some k_ ≠ (v492 : Value).ownBlock ∧ some k_ ≠ (s_.2.1 : Value).ownBlock ∧ some k_ ≠ (s_.2.2.2 : Value).ownBlock ∧ some k_ ≠ (.slice Ao9 t483.length co9 : Value).ownBlock ∧ some k_ ≠ (.slice Ao10 t486.length co10 : Value).ownBlock) s_.2.2.1 t500) ∧ (Kd.R (Kd.int .u8) 5 w' w.heap.size (fun k_ => some k_ ≠ (v492 : Value).ownBlock ∧ some k_ ≠ (s_.2.1 : Value).ownBlock) s_.2.2.2 t504) ∧ (Kd.N (Kd.slice 5 (Kd.int .u8)) 22 w' w.heap.size (fun k_ => some k_ ≠ (v492 : Value).ownBlock ∧ some k_ ≠ (s_.2.1 : Value).ownBlock ∧ some k_ ≠ (s_.2.2.2 : Value).ownBlock ∧ some k_ ≠ (.slice Ao10 t486.length co10 : Value).ownBlock) (.slice Ao9 t483.length co9) t483) ∧ (Kd.N (Kd.slice 5 (Kd.int .u8)) 22 w' w.heap.size (fun k_ => some k_ ≠ (v492 : Value).ownBlock ∧ some k_ ≠ (s_.2.1 : Value).ownBlock ∧ some k_ ≠ (s_.2.2.2 : Value).ownBlock ∧ some k_ ≠ (.slice Ao9 t483.length co9 : Value).ownBlock) (.slice Ao10 t486.length co10) t486) ∧ (Below w.heap.size w w')) ?_ ?_
                      rotate_left
                      ·intro hJ2_4_5_9_10_12_13_18_26
                       refine join_ (σ := Value × Value × Value) 19 #[true, true, true, true, true, true, true, true, true, true, true, true, true, true, true, true, true, true, true, true, true, true, true, true, true, true, false, false, true, true, false, false, false, false, false, false, false, false, false, false, false, false, false, false, false, false, false] (fun s_ => [(39, .string (strOfNums t491)), (41, s_.1), (42, .string (strOfNums t494)), (46, s_.2.1), (47, .string (strOfNums t497)), (49, s_.2.2), (50, .string (strOfNums t500)), (55, .int .i64 t503), (43, .bool true), (44, .bool true), (45, .slice A0 l0.length c0), (48, .slice A0 l0.length c0), (51, .bool true), (52, .bool true), (53, .bool true), (54, .slice A0 l0.length c0), (56, .slice Ao10 t486.length co10), (57, .int .i64 (t486.length : Int)), (58, .bool true), (59, .bool true), (60, .bool true), (61, .slice A0 l0.length c0), (62, .int .i64 a1), (65, .slice A0 l0.length c0), (66, .int .i64 a1)]) (fun s_ w' => (Kd.R (Kd.int .u8) 5 w' w.heap.size (fun k_ => some k_ ≠ (s_.2.1 : Value).ownBlock) v492 t491) ∧ (Kd.V (Kd.int .u8) 5 w' w.heap.size (fun k_ => some k_ ≠ (v492 : Value).ownBlock ∧ some k_ ≠ (s_.2.1 : Value).ownBlock ∧ some k_ ≠ (.slice Ao9 t483.length co9 : Value).ownBlock ∧ some k_ ≠ (.slice Ao10 t486.length co10 : Value).ownBlock) s_.1 t494) ∧ (Kd.R (Kd.int .u8) 5 w' w.heap.size (fun k_ => some k_ ≠ (v492 : Value).ownBlock) s_.2.1 t497) ∧ (Kd.V (Kd.int .u8) 5 w' w.heap.size (fun k_ => some k_ ≠ (v492 : Value).ownBlock ∧ some k_ ≠ (s_.2.1 : Value).ownBlock ∧ some k_ ≠ (.slice Ao9 t483.length co9 : Value).ownBlock ∧ some k_ ≠ (.slice Ao10 t486.length co10 : Value).ownBlock) s_.2.2 t500) ∧ (Kd.N (Kd.slice 5 (Kd.int .u8)) 22 w' w.heap.size (fun k_ => some k_ ≠ (v492 : Value).ownBlock ∧ some k_ ≠ (s_.2.1 : Value).ownBlock ∧ some k_ ≠ (.slice Ao10 t486.length co10 : Value).ownBlock) (.slice Ao9 t483.length co9) t483) ∧ (Kd.N (Kd.slice 5 (Kd.int .u8)) 22 w' w.heap.size (fun k_ => some k_ ≠ (v492 : Value).ownBlock ∧ some k_ ≠ (s_.2.1 : Value).ownBlock ∧ some k_ ≠ (.slice Ao9 t483.length co9 : Value).ownBlock) (.slice Ao10 t486.length co10) t486) ∧ (Below w.heap.size w w')) ?_ ?_
                       rotate_left
                       ·intro hJ2_4_5_9_10_12_13_18
                        refine join_ (σ := Value × Value × Value) 27 #[true, true, true, true, true, true, true, true, true, true, true, true, true, true, true, true, true, true, false, true, true, false, false, false, false, false, false, false, false, false, false, false, false, false, false, false, false, false, false, false, false, false, false, false, false, false, false] (fun s_ => [(39, .string (strOfNums t491)), (41, s_.1), (42, .string (strOfNums t494)), (46, s_.2.1), (47, .string (strOfNums t497)), (49, s_.2.2), (50, .string (strOfNums t500)), (43, .bool true), (44, .bool true), (45, .slice A0 l0.length c0), (48, .slice A0 l0.length c0), (51, .bool true), (52, .bool true), (53, .bool true), (54, .slice A0 l0.length c0), (56, .slice Ao10 t486.length co10), (57, .int .i64 (t486.length : Int))]) (fun s_ w' => (Kd.R (Kd.int .u8) 5 w' w.heap.size (fun k_ => some k_ ≠ (s_.2.1 : Value).ownBlock) v492 t491) ∧ (Kd.V (Kd.int .u8) 5 w' w.heap.size (fun k_ => some k_ ≠ (v492 : Value).ownBlock ∧ some k_ ≠ (s_.2.1 : Value).ownBlock ∧ some k_ ≠ (.slice Ao9 t483.length co9 : Value).ownBlock ∧ some k_ ≠ (.slice Ao10 t486.length co10 : Value).ownBlock) s_.1 t494) ∧ (Kd.R (Kd.int .u8) 5 w' w.heap.size (fun k_ => some k_ ≠ (v492 : Value).ownBlock) s_.2.1 t497) ∧ (Kd.V (Kd.int .u8) 5 w' w.heap.size (fun k_ => some k_ ≠ (v492 : Value).ownBlock ∧ some k_ ≠ (s_.2.1 : Value).ownBlock ∧ some k_ ≠ (.slice Ao9 t483.length co9 : Value).ownBlock ∧ some k_ ≠ (.slice Ao10 t486.length co10 : Value).ownBlock) s_.2.2 t500) ∧ (Kd.N (Kd.slice 5 (Kd.int .u8)) 22 w' w.heap.size (fun k_ => some k_ ≠ (v492 : Value).ownBlock ∧ some k_ ≠ (s_.2.1 : Value).ownBlock ∧ some k_ ≠ (.slice Ao10 t486.length co10 : Value).ownBlock) (.slice Ao9 t483.length co9) t483) ∧ (Kd.N (Kd.slice 5 (Kd.int .u8)) 22 w' w.heap.size (fun k_ => some k_ ≠ (v492 : Value).ownBlock ∧ some k_ ≠ (s_.2.1 : Value).ownBlock ∧ some k_ ≠ (.slice Ao9 t483.length co9 : Value).ownBlock) (.slice Ao10 t486.length co10) t486) ∧ (Below w.heap.size w w')) ?_ ?_
                        rotate_left
                        ·intro hJ2_4_5_9_10_12_13
                         refine join_ (σ := Value × Value × Value) 34 #[true, true, true, true, true, true, true, true, true, true, true, true, true, false, false, false, false, false, false, false, false, false, false, false, false, false, false, false, false, false, false, false, false, false, false, false, false, false, false, false, false, false, false, false, false, false, false] (fun s_ => [(39, .string (strOfNums t491)), (41, s_.1), (42, .string (strOfNums t494)), (46, s_.2.1), (47, .string (strOfNums t497)), (49, s_.2.2), (43, .bool true), (44, .bool true), (45, .slice A0 l0.length c0), (48, .slice A0 l0.length c0)]) (fun s_ w' => (Kd.R (Kd.int .u8) 5 w' w.heap.size (fun k_ => some k_ ≠ (s_.2.1 : Value).ownBlock) v492 t491) ∧ (Kd.V (Kd.int .u8) 5 w' w.heap.size (fun k_ => some k_ ≠ (v492 : Value).ownBlock ∧ some k_ ≠ (s_.2.1 : Value).ownBlock ∧ some k_ ≠ (.slice Ao9 t483.length co9 : Value).ownBlock ∧ some k_ ≠ (.slice Ao10 t486.length co10 : Value).ownBlock) s_.1 t494) ∧ (Kd.R (Kd.int .u8) 5 w' w.heap.size (fun k_ => some k_ ≠ (v492 : Value).ownBlock) s_.2.1 t497) ∧ (Kd.V (Kd.int .u8) 5 w' w.heap.size (fun k_ => some k_ ≠ (v492 : Value).ownBlock ∧ some k_ ≠ (s_.2.1 : Value).ownBlock ∧ some k_ ≠ (.slice Ao9 t483.length co9 : Value).ownBlock ∧ some k_ ≠ (.slice Ao10 t486.length co10 : Value).ownBlock) s_.2.2 t500) ∧ (Kd.N (Kd.slice 5 (Kd.int .u8)) 22 w' w.heap.size (fun k_ => some k_ ≠ (v492 : Value).ownBlock ∧ some k_ ≠ (s_.2.1 : Value).ownBlock ∧ some k_ ≠ (.slice Ao10 t486.length co10 : Value).ownBlock) (.slice Ao9 t483.length co9) t483) ∧ (Kd.N (Kd.slice 5 (Kd.int .u8)) 22 w' w.heap.size (fun k_ => some k_ ≠ (v492 : Value).ownBlock ∧ some k_ ≠ (s_.2.1 : Value).ownBlock ∧ some k_ ≠ (.slice Ao9 t483.length co9 : Value).ownBlock) (.slice Ao10 t486.length co10) t486) ∧ (Below w.heap.size w w')) ?_ ?_
                         rotate_left
                         ·intro hJ2_4_5_9_10_12
                          refine join_ (σ := Value × Value × Value) 34 #[true, true, true, true, true, true, true, true, true, true, false, true, true, true, false, false, false, false, false, false, false, false, false, false, false, false, false, false, false, false, false, false, false, false, false, false, false, false, false, false, false, false, false, false, false, false, false] (fun s_ => [(39, .string (strOfNums t491)), (41, s_.1), (42, .string (strOfNums t494)), (46, s_.2.1), (49, s_.2.2), (50, .string (strOfNums t500)), (43, .bool true), (44, .bool true), (45, .slice A0 l0.length c0), (48, .slice A0 l0.length c0)]) (fun s_ w' => (Kd.R (Kd.int .u8) 5 w' w.heap.size (fun k_ => some k_ ≠ (s_.2.1 : Value).ownBlock) v492 t491) ∧ (Kd.V (Kd.int .u8) 5 w' w.heap.size (fun k_ => some k_ ≠ (v492 : Value).ownBlock ∧ some k_ ≠ (s_.2.1 : Value).ownBlock ∧ some k_ ≠ (.slice Ao9 t483.length co9 : Value).ownBlock ∧ some k_ ≠ (.slice Ao10 t486.length co10 : Value).ownBlock) s_.1 t494) ∧ (Kd.R (Kd.int .u8) 5 w' w.heap.size (fun k_ => some k_ ≠ (v492 : Value).ownBlock) s_.2.1 t497) ∧ (Kd.V (Kd.int .u8) 5 w' w.heap.size (fun k_ => some k_ ≠ (v492 : Value).ownBlock ∧ some k_ ≠ (s_.2.1 : Value).ownBlock ∧ some k_ ≠ (.slice Ao9 t483.length co9 : Value).ownBlock ∧ some k_ ≠ (.slice Ao10 t486.length co10 : Value).ownBlock) s_.2.2 t500) ∧ (Kd.N (Kd.slice 5 (Kd.int .u8)) 22 w' w.heap.size (fun k_ => some k_ ≠ (v492 : Value).ownBlock ∧ some k_ ≠ (s_.2.1 : Value).ownBlock ∧ some k_ ≠ (.slice Ao10 t486.length co10 : Value).ownBlock) (.slice Ao9 t483.length co9) t483) ∧ (Kd.N (Kd.slice 5 (Kd.int .u8)) 22 w' w.heap.size (fun k_ => some k_ ≠ (v492 : Value).ownBlock ∧ some k_ ≠ (s_.2.1 : Value).ownBlock ∧ some k_ ≠ (.slice Ao9 t483.length co9 : Value).ownBlock) (.slice Ao10 t486.length co10) t486) ∧ (Below w.heap.size w w')) ?_ ?_
                          rotate_left
                          ·intro hJ2_4_5_9_12_13
                           refine join_ (σ := Value × Value) 35 #[true, true, true, true, true, true, true, true, true, true, true, true, false, false, false, false, false, false, false, false, false, false, false, false, false, false, false, false, false, false, false, false, false, false, false, false, false, false, false, false, false, false, false, false, false, false, false] (fun s_ => [(39, .string (strOfNums t491)), (41, s_.1), (42, .string (strOfNums t494)), (46, s_.2), (47, .string (strOfNums t497)), (43, .bool true), (44, .bool true), (45, .slice A0 l0.length c0), (48, .slice A0 l0.length c0)]) (fun s_ w' => (Kd.R (Kd.int .u8) 5 w' w.heap.size (fun k_ => some k_ ≠ (s_.2 : Value).ownBlock) v492 t491) ∧ (Kd.V (Kd.int .u8) 5 w' w.heap.size (fun k_ => some k_ ≠ (v492 : Value).ownBlock ∧ some k_ ≠ (s_.2 : Value).ownBlock ∧ some k_ ≠ (.slice Ao9 t483.length co9 : Value).ownBlock ∧ some k_ ≠ (.slice Ao10 t486.length co10 : Value).ownBlock) s_.1 t494) ∧ (Kd.R (Kd.int .u8) 5 w' w.heap.size (fun k_ => some k_ ≠ (v492 : Value).ownBlock) s_.2 t497) ∧ (Kd.N (Kd.slice 5 (Kd.int .u8)) 22 w' w.heap.size (fun k_ => some k_ ≠ (v492 : Value).ownBlock ∧ some k_ ≠ (s_.2 : Value).ownBlock ∧ some k_ ≠ (.slice Ao10 t486.length co10 : Value).ownBlock) (.slice Ao9 t483.length co9) t483) ∧ (Kd.N (Kd.slice 5 (Kd.int .u8)) 22 w' w.heap.size (fun k_ => some k_ ≠ (v492 : Value).ownBlock ∧ some k_ ≠ (s_.2 : Value).ownBlock ∧ some k_ ≠ (.slice Ao9 t483.length co9 : Value).ownBlock) (.slice Ao10 t486.length co10) t486) ∧ (Below w.heap.size w w')) ?_ ?_
                           rotate_left
                           ·intro hJ2_4_5_9_10
                            refine join_ (σ := Value × Value × Value) 35 #[true, true, true, true, true, true, true, true, true, true, false, true, true, false, false, false, false, false, false, false, false, false, false, false, false, false, false, false, false, false, false, false, false, false, false, false, false, false, false, false, false, false, false, false, false, false, false] (fun s_ => [(39, .string (strOfNums t491)), (41, s_.1), (42, .string (strOfNums t494)), (46, s_.2.1), (49, s_.2.2), (43, .bool true), (44, .bool true), (45, .slice A0 l0.length c0), (48, .slice A0 l0.length c0)]) (fun s_ w' => (Kd.R (Kd.int .u8) 5 w' w.heap.size (fun k_ => some k_ ≠ (s_.2.1 : Value).ownBlock) v492 t491) ∧ (Kd.V (Kd.int .u8) 5 w' w.heap.size (fun k_ => some k_ ≠ (v492 : Value).ownBlock ∧ some k_ ≠ (s_.2.1 : Value).ownBlock ∧ some k_ ≠ (.slice Ao9 t483.length co9 : Value).ownBlock ∧ some k_ ≠ (.slice Ao10 t486.length co10 : Value).ownBlock) s_.1 t494) ∧ (Kd.R (Kd.int .u8) 5 w' w.heap.size (fun k_ => some k_ ≠ (v492 : Value).ownBlock) s_.2.1 t497) ∧ (Kd.V (Kd.int .u8) 5 w' w.heap.size (fun k_ => some k_ ≠ (v492 : Value).ownBlock ∧ some k_ ≠ (s_.2.1 : Value).ownBlock ∧ some k_ ≠ (.slice Ao9 t483.length co9 : Value).ownBlock ∧ some k_ ≠ (.slice Ao10 t486.length co10 : Value).ownBlock) s_.2.2 t500) ∧ (Kd.N (Kd.slice 5 (Kd.int .u8)) 22 w' w.heap.size (fun k_ => some k_ ≠ (v492 : Value).ownBlock ∧ some k_ ≠ (s_.2.1 : Value).ownBlock ∧ some k_ ≠ (.slice Ao10 t486.length co10 : Value).ownBlock) (.slice Ao9 t483.length co9) t483) ∧ (Kd.N (Kd.slice 5 (Kd.int .u8)) 22 w' w.heap.size (fun k_ => some k_ ≠ (v492 : Value).ownBlock ∧ some k_ ≠ (s_.2.1 : Value).ownBlock ∧ some k_ ≠ (.slice Ao9 t483.length co9 : Value).ownBlock) (.slice Ao10 t486.length co10) t486) ∧ (Below w.heap.size w w')) ?_ ?_
                            rotate_left
                            ·intro hJ2_4_5_9_12
                             refine join_ (σ := Value × Value) 36 #[true, true, true, true, true, true, true, true, true, true, false, true, false, false, false, false, false, false, false, false, false, false, false, false, false, false, false, false, false, false, false, false, false, false, false, false, false, false, false, false, false, false, false, false, false, false, false] (fun s_ => [(39, .string (strOfNums t491)), (41, s_.1), (42, .string (strOfNums t494)), (46, s_.2), (43, .bool true), (44, .bool true), (45, .slice A0 l0.length c0), (48, .slice A0 l0.length c0)]) (fun s_ w' => (Kd.R (Kd.int .u8) 5 w' w.heap.size (fun k_ => some k_ ≠ (s_.2 : Value).ownBlock) v492 t491) ∧ (Kd.V (Kd.int .u8) 5 w' w.heap.size (fun k_ => some k_ ≠ (v492 : Value).ownBlock ∧ some k_ ≠ (s_.2 : Value).ownBlock ∧ some k_ ≠ (.slice Ao9 t483.length co9 : Value).ownBlock ∧ some k_ ≠ (.slice Ao10 t486.length co10 : Value).ownBlock) s_.1 t494) ∧ (Kd.R (Kd.int .u8) 5 w' w.heap.size (fun k_ => some k_ ≠ (v492 : Value).ownBlock) s_.2 t497) ∧ (Kd.N (Kd.slice 5 (Kd.int .u8)) 22 w' w.heap.size (fun k_ => some k_ ≠ (v492 : Value).ownBlock ∧ some k_ ≠ (s_.2 : Value).ownBlock ∧ some k_ ≠ (.slice Ao10 t486.length co10 : Value).ownBlock) (.slice Ao9 t483.length co9) t483) ∧ (Kd.N (Kd.slice 5 (Kd.int .u8)) 22 w' w.heap.size (fun k_ => some k_ ≠ (v492 : Value).ownBlock ∧ some k_ ≠ (s_.2 : Value).ownBlock ∧ some k_ ≠ (.slice Ao9 t483.length co9 : Value).ownBlock) (.slice Ao10 t486.length co10) t486) ∧ (Below w.heap.size w w')) ?_ ?_
                             rotate_left
                             ·intro hJ2_4_5_9
                              refine join_ (σ := Value) 37 #[true, true, true, true, true, true, true, true, true, false, false, true, false, false, false, false, false, false, false, false, false, false, false, false, false, false, false, false, false, false, false, false, false, false, false, false, false, false, false, false, false, false, false, false, false, false, false] (fun s_ => [(39, .string (strOfNums t491)), (41, s_), (42, .string (strOfNums t494)), (43, .bool true), (44, .bool true), (45, .slice A0 l0.length c0), (48, .slice A0 l0.length c0)]) (fun s_ w' => (Kd.R (Kd.int .u8) 5 w' w.heap.size (fun _ => True) v492 t491) ∧ (Kd.V (Kd.int .u8) 5 w' w.heap.size (fun k_ => some k_ ≠ (v492 : Value).ownBlock ∧ some k_ ≠ (.slice Ao9 t483.length co9 : Value).ownBlock ∧ some k_ ≠ (.slice Ao10 t486.length co10 : Value).ownBlock) s_ t494) ∧ (Kd.N (Kd.slice 5 (Kd.int .u8)) 22 w' w.heap.size (fun k_ => some k_ ≠ (v492 : Value).ownBlock ∧ some k_ ≠ (.slice Ao10 t486.length co10 : Value).ownBlock) (.slice Ao9 t483.length co9) t483) ∧ (Kd.N (Kd.slice 5 (Kd.int .u8)) 22 w' w.heap.size (fun k_ => some k_ ≠ (v492 : Value).ownBlock ∧ some k_ ≠ (.slice Ao9 t483.length co9 : Value).ownBlock) (.slice Ao10 t486.length co10) t486) ∧ (Below w.heap.size w w')) ?_ ?_
                              rotate_left
                              ·intro hJ2_4_5
                               refine join_ (σ := Value) 42 #[true, true, true, true, true, false, false, false, false, false, false, false, false, false, false, false, false, false, false, false, false, false, false, false, false, false, false, false, false, false, false, false, false, false, false, false, false, false, false, false, false, false, false, false, false, false, false] (fun s_ => [(39, .string (strOfNums t491)), (41, s_)]) (fun s_ w' => (Kd.R (Kd.int .u8) 5 w' w.heap.size (fun _ => True) v492 t491) ∧ (Kd.V (Kd.int .u8) 5 w' w.heap.size (fun k_ => some k_ ≠ (v492 : Value).ownBlock ∧ some k_ ≠ (.slice Ao9 t483.length co9 : Value).ownBlock ∧ some k_ ≠ (.slice Ao10 t486.length co10 : Value).ownBlock) s_ t494) ∧ (Kd.N (Kd.slice 5 (Kd.int .u8)) 22 w' w.heap.size (fun k_ => some k_ ≠ (v492 : Value).ownBlock ∧ some k_ ≠ (.slice Ao10 t486.length co10 : Value).ownBlock) (.slice Ao9 t483.length co9) t483) ∧ (Kd.N (Kd.slice 5 (Kd.int .u8)) 22 w' w.heap.size (fun k_ => some k_ ≠ (v492 : Value).ownBlock ∧ some k_ ≠ (.slice Ao9 t483.length co9 : Value).ownBlock) (.slice Ao10 t486.length co10) t486) ∧ (Below w.heap.size w w')) ?_ ?_
                               rotate_left
                               ·intro hJ2_4
                                refine join_ (σ := Value) 42 #[true, true, false, true, true, true, false, false, false, false, false, false, false, false, false, false, false, false, false, false, false, false, false, false, false, false, false, false, false, false, false, false, false, false, false, false, false, false, false, false, false, false, false, false, false, false, false] (fun s_ => [(41, s_), (42, .string (strOfNums t494))]) (fun s_ w' => (Kd.R (Kd.int .u8) 5 w' w.heap.size (fun _ => True) v492 t491) ∧ (Kd.V (Kd.int .u8) 5 w' w.heap.size (fun k_ => some k_ ≠ (v492 : Value).ownBlock ∧ some k_ ≠ (.slice Ao9 t483.length co9 : Value).ownBlock ∧ some k_ ≠ (.slice Ao10 t486.length co10 : Value).ownBlock) s_ t494) ∧ (Kd.N (Kd.slice 5 (Kd.int .u8)) 22 w' w.heap.size (fun k_ => some k_ ≠ (v492 : Value).ownBlock ∧ some k_ ≠ (.slice Ao10 t486.length co10 : Value).ownBlock) (.slice Ao9 t483.length co9) t483) ∧ (Kd.N (Kd.slice 5 (Kd.int .u8)) 22 w' w.heap.size (fun k_ => some k_ ≠ (v492 : Value).ownBlock ∧ some k_ ≠ (.slice Ao9 t483.length co9 : Value).ownBlock) (.slice Ao10 t486.length co10) t486) ∧ (Below w.heap.size w w')) ?_ ?_
                                rotate_left
                                ·intro hJ4_5
                                 refine join_ (σ := Unit) 43 #[true, true, true, true, false, false, false, false, false, false, false, false, false, false, false, false, false, false, false, false, false, false, false, false, false, false, false, false, false, false, false, false, false, false, false, false, false, false, false, false, false, false, false, false, false, false, false] (fun s_ => [(39, .string (strOfNums t491))]) (fun s_ w' => (Kd.R (Kd.int .u8) 5 w' w.heap.size (fun _ => True) v492 t491) ∧ (Kd.N (Kd.slice 5 (Kd.int .u8)) 22 w' w.heap.size (fun k_ => some k_ ≠ (v492 : Value).ownBlock ∧ some k_ ≠ (.slice Ao10 t486.length co10 : Value).ownBlock) (.slice Ao9 t483.length co9) t483) ∧ (Kd.N (Kd.slice 5 (Kd.int .u8)) 22 w' w.heap.size (fun k_ => some k_ ≠ (v492 : Value).ownBlock ∧ some k_ ≠ (.slice Ao9 t483.length co9 : Value).ownBlock) (.slice Ao10 t486.length co10) t486) ∧ (Below w.heap.size w w')) ?_ ?_
                                 rotate_left
                                 ·intro hJ2
                                  refine join_ (σ := Value) 43 #[true, true, false, true, true, false, false, false, false, false, false, false, false, false, false, false, false, false, false, false, false, false, false, false, false, false, false, false, false, false, false, false, false, false, false, false, false, false, false, false, false, false, false, false, false, false, false] (fun s_ => [(41, s_)]) (fun s_ w' => (Kd.R (Kd.int .u8) 5 w' w.heap.size (fun _ => True) v492 t491) ∧ (Kd.V (Kd.int .u8) 5 w' w.heap.size (fun k_ => some k_ ≠ (v492 : Value).ownBlock ∧ some k_ ≠ (.slice Ao9 t483.length co9 : Value).ownBlock ∧ some k_ ≠ (.slice Ao10 t486.length co10 : Value).ownBlock) s_ t494) ∧ (Kd.N (Kd.slice 5 (Kd.int .u8)) 22 w' w.heap.size (fun k_ => some k_ ≠ (v492 : Value).ownBlock ∧ some k_ ≠ (.slice Ao10 t486.length co10 : Value).ownBlock) (.slice Ao9 t483.length co9) t483) ∧ (Kd.N (Kd.slice 5 (Kd.int .u8)) 22 w' w.heap.size (fun k_ => some k_ ≠ (v492 : Value).ownBlock ∧ some k_ ≠ (.slice Ao9 t483.length co9 : Value).ownBlock) (.slice Ao10 t486.length co10) t486) ∧ (Below w.heap.size w w')) ?_ ?_
                                  rotate_left
                                  ·intro hJ4
                                   refine two_ (i := 2) (j := 4) (Ni := some 39) (Nj := some 41) #[true, true, true, true, false, false, false, false, false, false, false, false, false, false, false, false, false, false, false, false, false, false, false, false, false, false, false, false, false, false, false, false, false, false, false, false, false, false, false, false, false, false, false, false, false, false, false] #[true, true, false, true, true, false, false, false, false, false, false, false, false, false, false, false, false, false, false, false, false, false, false, false, false, false, false, false, false, false, false, false, false, false, false, false, false, false, false, false, false, false, false, false, false, false, false] rfl rfl rfl rfl (two_of HT_.out (by kernel_rfl)) (by decide) (by decide) (fun K hK => ?_) (fun K hK => ?_)
                                   ·skip
                                    (first | have hcv36 := own_string (P := Tryd.prog) Tryd.underlying22 Tryd.underlying5 Tryd.underlying9 (Kd.own_of_R HO493.out) | have hcv36 := V_string (P := Tryd.prog) Tryd.underlying22 Tryd.underlying5 Tryd.underlying9 HO493.out)
                                    refine value_ (w1 := ?_) (v := ?_) (by rfl) rfl ?_ ?_
                                    rotate_left 2
                                    ·go_simp
                                     constructor
                                     ·rfl
                                     ·rfl
                                    clear hcv36
                                    refine hK.out _ _ trivial (fun hHeld => ?_)
                                    clear hK K
                                    refine norm_ (a' := ?_) ?_ ?_
                                    rotate_left
                                    ·show Act.put _ (some 39) _ = _
                                     simp only [Act.put, List.setIfInBounds_toArray, List.set_cons_zero, List.set_cons_succ, i64_w, i32_w]
                                     rfl
                                    exact norm_ (by simp only [putAll, Act.put, List.setIfInBounds_toArray, List.set_cons_zero, List.set_cons_succ] <;> rfl) (hJ2 () _ ⟨HO493.out, (Kd.N_mono HO_5.out (fun _ hk => ⟨hk.2, hk.1⟩)), (Kd.N_mono HO_6.out (fun _ hk => ⟨hk.2, hk.1⟩)), HB.out⟩)
                                   ·skip
                                    refine goes_ Tryd.func28 (by kernel_rfl) rfl #[.slice A0 l0.length c0] (by rfl) rfl rfl (by (try simp only [List.map_toArray, List.map_cons, List.map_nil]); first | done | rfl | (simp only [List.length_drop, List.length_take]; rfl)) ?_
                                    with_reducible refine (letterboxref9_Head.calls k1 (fun k_ => k_ < w.heap.size) _ _ l0 t494 _ ?side1 A20.out).mono ?_
                                    (case side1 => exact Kd.V_mk HC0.out (Kd.F_below (Kd.C_F (Kd.heap_int .u8) HR0.out) HB.out))
                                    rintro e w36 ⟨v495, rfl, ho0, hb⟩
                                    refine ⟨_, rfl, ?_⟩
                                    have n0_ := Aside0.mk (Kd.N_below HO_5.out hb)
                                    have n1_ := Aside0.mk (Kd.N_below HO_6.out hb)
                                    have n2_ := Aside0.mk (Kd.R_below HO493.out hb)
                                    have n3_ := Aside0.mk (Kd.V_lower (Kd.V_mono (ok' := fun k_ => some k_ ≠ (.slice Ao9 t483.length co9 : Value).ownBlock ∧ some k_ ≠ (.slice Ao10 t486.length co10 : Value).ownBlock ∧ some k_ ≠ (v492 : Value).ownBlock) ho0 (fun k_ hk_ => ⟨Or.elim hk_ (fun hs_ => fun e_ => Nat.not_le.2 hs_ (Kd.N_base HO_5.out k_ e_.symm)) (fun hn_ => (Kd.fresh' (Kd.N_lt HO_5.out) k_ hn_)), Or.elim hk_ (fun hs_ => fun e_ => Nat.not_le.2 hs_ (Kd.N_base HO_6.out k_ e_.symm)) (fun hn_ => (Kd.fresh' (Kd.N_lt HO_6.out) k_ hn_)), Or.elim hk_ (fun hs_ => fun e_ => Nat.not_le.2 hs_ (Kd.R_base HO493.out k_ e_.symm)) (fun hn_ => (Kd.fresh' (Kd.R_lt HO493.out) k_ hn_))⟩)) (below_size HB.out))
                                    have n4_ := Aside0.mk (below_step HB.out hb)
                                    clear HO_5
                                    clear HO_6
                                    clear HO493
                                    clear HB
                                    have HO_5 := n0_
                                    have HO_6 := n1_
                                    have HO493 := n2_
                                    have HO496 := n3_
                                    have HB := n4_
                                    clear n0_ n1_ n2_ n3_ n4_
                                    (try clear hb)
                                    (try clear hb2)
                                    (try clear hk)
                                    (try clear hi)
                                    (try clear ho0)
                                    refine hK.out _ _ trivial (fun hHeld => ?_)
                                    clear hK K
                                    refine norm_ (a' := ?_) ?_ ?_
                                    rotate_left
                                    ·show Act.put _ (some 41) _ = _
                                     simp only [Act.put, List.setIfInBounds_toArray, List.set_cons_zero, List.set_cons_succ, i64_w, i32_w]
                                     rfl
                                    exact norm_ (by simp only [putAll, Act.put, List.setIfInBounds_toArray, List.set_cons_zero, List.set_cons_succ] <;> rfl) (hJ4 (v495) _ ⟨HO493.out, (Kd.V_mono HO496.out (fun _ hk => ⟨hk.2.2, ⟨hk.1, hk.2.1⟩⟩)), (Kd.N_mono HO_5.out (fun _ hk => ⟨hk.2, hk.1⟩)), (Kd.N_mono HO_6.out (fun _ hk => ⟨hk.2, hk.1⟩)), HB.out⟩)
                                  ·skip
                                   rintro v495 w37 ⟨h0_, h1_, h2_, h3_, h4_⟩
                                   have n0_ : Aside0 (Kd.R (Kd.int .u8) 5 w37 w.heap.size (fun _ => True) v492 t491) := ⟨h0_⟩
                                   have n1_ : Aside0 (Kd.V (Kd.int .u8) 5 w37 w.heap.size (fun k_ => some k_ ≠ (v492 : Value).ownBlock ∧ some k_ ≠ (.slice Ao9 t483.length co9 : Value).ownBlock ∧ some k_ ≠ (.slice Ao10 t486.length co10 : Value).ownBlock) v495 t494) := ⟨h1_⟩
                                   have n2_ : Aside0 (Kd.N (Kd.slice 5 (Kd.int .u8)) 22 w37 w.heap.size (fun k_ => some k_ ≠ (v492 : Value).ownBlock ∧ some k_ ≠ (.slice Ao10 t486.length co10 : Value).ownBlock) (.slice Ao9 t483.length co9) t483) := ⟨h2_⟩
                                   have n3_ : Aside0 (Kd.N (Kd.slice 5 (Kd.int .u8)) 22 w37 w.heap.size (fun k_ => some k_ ≠ (v492 : Value).ownBlock ∧ some k_ ≠ (.slice Ao9 t483.length co9 : Value).ownBlock) (.slice Ao10 t486.length co10) t486) := ⟨h3_⟩
                                   have n4_ : Aside0 (Below w.heap.size w w37) := ⟨h4_⟩
                                   clear HO_5
                                   clear HO_6
                                   clear HB
                                   clear h0_ h1_ h2_ h3_ h4_
                                   have HO493 := n0_
                                   have HO496 := n1_
                                   have HO_5 := n2_
                                   have HO_6 := n3_
                                   have HB := n4_
                                   clear n0_ n1_ n2_ n3_ n4_
                                   have hHeld := trivial
                                   refine norm_ (a' := ?_) ?_ ?_
                                   rotate_left
                                   ·simp only [putAll, Act.put, List.setIfInBounds_toArray, List.set_cons_zero, List.set_cons_succ]
                                    rfl
                                   refine two_ (i := 2) (j := 5) (Ni := some 39) (Nj := some 42) #[true, true, true, true, true, false, false, false, false, false, false, false, false, false, false, false, false, false, false, false, false, false, false, false, false, false, false, false, false, false, false, false, false, false, false, false, false, false, false, false, false, false, false, false, false, false, false] #[true, true, false, true, true, true, false, false, false, false, false, false, false, false, false, false, false, false, false, false, false, false, false, false, false, false, false, false, false, false, false, false, false, false, false, false, false, false, false, false, false, false, false, false, false, false, false] rfl rfl rfl rfl (two_of HT_.out (by kernel_rfl)) (by decide) (by decide) (fun K hK => ?_) (fun K hK => ?_)
                                   ·skip
                                    (first | have hcv38 := own_string (P := Tryd.prog) Tryd.underlying22 Tryd.underlying5 Tryd.underlying9 (Kd.own_of_R HO493.out) | have hcv38 := V_string (P := Tryd.prog) Tryd.underlying22 Tryd.underlying5 Tryd.underlying9 HO493.out)
                                    refine value_ (w1 := ?_) (v := ?_) (by rfl) rfl ?_ ?_
                                    rotate_left 2
                                    ·go_simp
                                     constructor
                                     ·rfl
                                     ·rfl
                                    clear hcv38
                                    refine hK.out _ _ trivial (fun hHeld => ?_)
                                    clear hK K
                                    refine norm_ (a' := ?_) ?_ ?_
                                    rotate_left
                                    ·show Act.put _ (some 39) _ = _
                                     simp only [Act.put, List.setIfInBounds_toArray, List.set_cons_zero, List.set_cons_succ, i64_w, i32_w]
                                     rfl
                                    exact norm_ (by simp only [putAll, Act.put, List.setIfInBounds_toArray, List.set_cons_zero, List.set_cons_succ] <;> rfl) (hJ2_4 (v495) _ ⟨HO493.out, HO496.out, HO_5.out, HO_6.out, HB.out⟩)
                                   ·skip
                                    (first | have hcv38 := own_string (P := Tryd.prog) Tryd.underlying22 Tryd.underlying5 Tryd.underlying9 (Kd.own_of_R HO496.out) | have hcv38 := V_string (P := Tryd.prog) Tryd.underlying22 Tryd.underlying5 Tryd.underlying9 HO496.out)
                                    refine value_ (w1 := ?_) (v := ?_) (by rfl) rfl ?_ ?_
                                    rotate_left 2
                                    ·go_simp
                                     constructor
                                     ·rfl
                                     ·rfl
                                    clear hcv38
                                    refine hK.out _ _ trivial (fun hHeld => ?_)
                                    clear hK K
                                    refine norm_ (a' := ?_) ?_ ?_
                                    rotate_left
                                    ·show Act.put _ (some 42) _ = _
                                     simp only [Act.put, List.setIfInBounds_toArray, List.set_cons_zero, List.set_cons_succ, i64_w, i32_w]
                                     rfl
                                    exact norm_ (by simp only [putAll, Act.put, List.setIfInBounds_toArray, List.set_cons_zero, List.set_cons_succ] <;> rfl) (hJ4_5 (v495) _ ⟨HO493.out, HO496.out, HO_5.out, HO_6.out, HB.out⟩)
                                 ·skip
                                  rintro _ w37 ⟨h0_, h1_, h2_, h3_⟩
                                  have n0_ : Aside0 (Kd.R (Kd.int .u8) 5 w37 w.heap.size (fun _ => True) v492 t491) := ⟨h0_⟩
                                  have n1_ : Aside0 (Kd.N (Kd.slice 5 (Kd.int .u8)) 22 w37 w.heap.size (fun k_ => some k_ ≠ (v492 : Value).ownBlock ∧ some k_ ≠ (.slice Ao10 t486.length co10 : Value).ownBlock) (.slice Ao9 t483.length co9) t483) := ⟨h1_⟩
                                  have n2_ : Aside0 (Kd.N (Kd.slice 5 (Kd.int .u8)) 22 w37 w.heap.size (fun k_ => some k_ ≠ (v492 : Value).ownBlock ∧ some k_ ≠ (.slice Ao9 t483.length co9 : Value).ownBlock) (.slice Ao10 t486.length co10) t486) := ⟨h2_⟩
                                  have n3_ : Aside0 (Below w.heap.size w w37) := ⟨h3_⟩
                                  clear HO_5
                                  clear HO_6
                                  clear HB
                                  clear h0_ h1_ h2_ h3_
                                  have HO493 := n0_
                                  have HO_5 := n1_
                                  have HO_6 := n2_
                                  have HB := n3_
                                  clear n0_ n1_ n2_ n3_
                                  have hHeld := trivial
                                  refine norm_ (a' := ?_) ?_ ?_
                                  rotate_left
                                  ·simp only [putAll, Act.put, List.setIfInBounds_toArray, List.set_cons_zero, List.set_cons_succ]
                                   rfl
                                  refine one_ (i := 4) (N := some 41) #[true, true, true, true, true, false, false, false, false, false, false, false, false, false, false, false, false, false, false, false, false, false, false, false, false, false, false, false, false, false, false, false, false, false, false, false, false, false, false, false, false, false, false, false, false, false, false] rfl rfl (one_of HT_.out (by kernel_rfl)) (by decide) (fun K hK => ?_)
                                  refine goes_ Tryd.func28 (by kernel_rfl) rfl #[.slice A0 l0.length c0] (by rfl) rfl rfl (by (try simp only [List.map_toArray, List.map_cons, List.map_nil]); first | done | rfl | (simp only [List.length_drop, List.length_take]; rfl)) ?_
                                  with_reducible refine (letterboxref9_Head.calls k1 (fun k_ => k_ < w.heap.size) _ _ l0 t494 _ ?side1 A20.out).mono ?_
                                  (case side1 => exact Kd.V_mk HC0.out (Kd.F_below (Kd.C_F (Kd.heap_int .u8) HR0.out) HB.out))
                                  rintro e w38 ⟨v495, rfl, ho0, hb⟩
                                  refine ⟨_, rfl, ?_⟩
                                  have n0_ := Aside0.mk (Kd.N_below HO_5.out hb)
                                  have n1_ := Aside0.mk (Kd.N_below HO_6.out hb)
                                  have n2_ := Aside0.mk (Kd.R_below HO493.out hb)
                                  have n3_ := Aside0.mk (Kd.V_lower (Kd.V_mono (ok' := fun k_ => some k_ ≠ (.slice Ao9 t483.length co9 : Value).ownBlock ∧ some k_ ≠ (.slice Ao10 t486.length co10 : Value).ownBlock ∧ some k_ ≠ (v492 : Value).ownBlock) ho0 (fun k_ hk_ => ⟨Or.elim hk_ (fun hs_ => fun e_ => Nat.not_le.2 hs_ (Kd.N_base HO_5.out k_ e_.symm)) (fun hn_ => (Kd.fresh' (Kd.N_lt HO_5.out) k_ hn_)), Or.elim hk_ (fun hs_ => fun e_ => Nat.not_le.2 hs_ (Kd.N_base HO_6.out k_ e_.symm)) (fun hn_ => (Kd.fresh' (Kd.N_lt HO_6.out) k_ hn_)), Or.elim hk_ (fun hs_ => fun e_ => Nat.not_le.2 hs_ (Kd.R_base HO493.out k_ e_.symm)) (fun hn_ => (Kd.fresh' (Kd.R_lt HO493.out) k_ hn_))⟩)) (below_size HB.out))
                                  have n4_ := Aside0.mk (below_step HB.out hb)
                                  clear HO_5
                                  clear HO_6
                                  clear HO493
                                  clear HB
                                  have HO_5 := n0_
                                  have HO_6 := n1_
                                  have HO493 := n2_
                                  have HO496 := n3_
                                  have HB := n4_
                                  clear n0_ n1_ n2_ n3_ n4_
                                  (try clear hb)
                                  (try clear hb2)
                                  (try clear hk)
                                  (try clear hi)
                                  (try clear ho0)
                                  refine hK.out _ _ trivial (fun hHeld => ?_)
                                  clear hK K
                                  refine norm_ (a' := ?_) ?_ ?_
                                  rotate_left
                                  ·show Act.put _ (some 41) _ = _
                                   simp only [Act.put, List.setIfInBounds_toArray, List.set_cons_zero, List.set_cons_succ, i64_w, i32_w]
                                   rfl
                                  exact norm_ (by simp only [putAll, Act.put, List.setIfInBounds_toArray, List.set_cons_zero, List.set_cons_succ] <;> rfl) (hJ2_4 (v495) _ ⟨HO493.out, (Kd.V_mono HO496.out (fun _ hk => ⟨hk.2.2, ⟨hk.1, hk.2.1⟩⟩)), HO_5.out, HO_6.out, HB.out⟩)
                                ·skip
                                 rintro v495 w38 ⟨h0_, h1_, h2_, h3_, h4_⟩
                                 have n0_ : Aside0 (Kd.R (Kd.int .u8) 5 w38 w.heap.size (fun _ => True) v492 t491) := ⟨h0_⟩
                                 have n1_ : Aside0 (Kd.V (Kd.int .u8) 5 w38 w.heap.size (fun k_ => some k_ ≠ (v492 : Value).ownBlock ∧ some k_ ≠ (.slice Ao9 t483.length co9 : Value).ownBlock ∧ some k_ ≠ (.slice Ao10 t486.length co10 : Value).ownBlock) v495 t494) := ⟨h1_⟩
                                 have n2_ : Aside0 (Kd.N (Kd.slice 5 (Kd.int .u8)) 22 w38 w.heap.size (fun k_ => some k_ ≠ (v492 : Value).ownBlock ∧ some k_ ≠ (.slice Ao10 t486.length co10 : Value).ownBlock) (.slice Ao9 t483.length co9) t483) := ⟨h2_⟩
                                 have n3_ : Aside0 (Kd.N (Kd.slice 5 (Kd.int .u8)) 22 w38 w.heap.size (fun k_ => some k_ ≠ (v492 : Value).ownBlock ∧ some k_ ≠ (.slice Ao9 t483.length co9 : Value).ownBlock) (.slice Ao10 t486.length co10) t486) := ⟨h3_⟩
                                 have n4_ : Aside0 (Below w.heap.size w w38) := ⟨h4_⟩
                                 clear HO_5
                                 clear HO_6
                                 clear HB
                                 clear h0_ h1_ h2_ h3_ h4_
                                 have HO493 := n0_
                                 have HO496 := n1_
                                 have HO_5 := n2_
                                 have HO_6 := n3_
                                 have HB := n4_
                                 clear n0_ n1_ n2_ n3_ n4_
                                 have hHeld := trivial
                                 refine norm_ (a' := ?_) ?_ ?_
                                 rotate_left
                                 ·simp only [putAll, Act.put, List.setIfInBounds_toArray, List.set_cons_zero, List.set_cons_succ]
                                  rfl
                                 refine one_ (i := 2) (N := some 39) #[true, true, true, true, true, true, false, false, false, false, false, false, false, false, false, false, false, false, false, false, false, false, false, false, false, false, false, false, false, false, false, false, false, false, false, false, false, false, false, false, false, false, false, false, false, false, false] rfl rfl (one_of HT_.out (by kernel_rfl)) (by decide) (fun K hK => ?_)
                                 (first | have hcv39 := own_string (P := Tryd.prog) Tryd.underlying22 Tryd.underlying5 Tryd.underlying9 (Kd.own_of_R HO493.out) | have hcv39 := V_string (P := Tryd.prog) Tryd.underlying22 Tryd.underlying5 Tryd.underlying9 HO493.out)
                                 refine value_ (w1 := ?_) (v := ?_) (by rfl) rfl ?_ ?_
                                 rotate_left 2
                                 ·go_simp
                                  constructor
                                  ·rfl
                                  ·rfl
                                 clear hcv39
                                 refine hK.out _ _ trivial (fun hHeld => ?_)
                                 clear hK K
                                 refine norm_ (a' := ?_) ?_ ?_
                                 rotate_left
                                 ·show Act.put _ (some 39) _ = _
                                  simp only [Act.put, List.setIfInBounds_toArray, List.set_cons_zero, List.set_cons_succ, i64_w, i32_w]
                                  rfl
                                 refine pure_ (i := 6) (N := some 43) (v := ?_) (a' := ?_) #[true, true, true, true, true, true, true, false, false, false, false, false, false, false, false, false, false, false, false, false, false, false, false, false, false, false, false, false, false, false, false, false, false, false, false, false, false, false, false, false, false, false, false, false, false, false, false] rfl rfl (any_of HT_.out (by kernel_rfl)) (fun _ _ _ h => h) (Or.inl ⟨by rfl, ?_⟩) ?_ ?_
                                 rotate_left
                                 ·intro w'
                                  go_simp
                                  with_reducible rfl
                                 rotate_left
                                 ·simp only [Act.put, List.setIfInBounds_toArray, List.set_cons_zero, List.set_cons_succ, i64_w, i32_w]
                                  rfl
                                 refine pure_ (i := 7) (N := some 44) (v := ?_) (a' := ?_) #[true, true, true, true, true, true, true, true, false, false, false, false, false, false, false, false, false, false, false, false, false, false, false, false, false, false, false, false, false, false, false, false, false, false, false, false, false, false, false, false, false, false, false, false, false, false, false] rfl rfl (any_of HT_.out (by kernel_rfl)) (fun _ _ _ h => h) (Or.inl ⟨by rfl, ?_⟩) ?_ ?_
                                 rotate_left
                                 ·intro w'
                                  go_simp
                                  with_reducible rfl
                                 rotate_left
                                 ·simp only [Act.put, List.setIfInBounds_toArray, List.set_cons_zero, List.set_cons_succ, i64_w, i32_w]
                                  rfl
                                 refine pure_ (i := 8) (N := some 45) (v := ?_) (a' := ?_) #[true, true, true, true, true, true, true, true, true, false, false, false, false, false, false, false, false, false, false, false, false, false, false, false, false, false, false, false, false, false, false, false, false, false, false, false, false, false, false, false, false, false, false, false, false, false, false] rfl rfl (any_of HT_.out (by kernel_rfl)) (fun _ _ _ h => h) (Or.inl ⟨by rfl, ?_⟩) ?_ ?_
                                 rotate_left
                                 ·intro w'
                                  go_simp
                                  with_reducible rfl
                                 rotate_left
                                 ·simp only [Act.put, List.setIfInBounds_toArray, List.set_cons_zero, List.set_cons_succ, i64_w, i32_w]
                                  rfl
                                 refine pure_ (i := 11) (N := some 48) (v := ?_) (a' := ?_) #[true, true, true, true, true, true, true, true, true, false, false, true, false, false, false, false, false, false, false, false, false, false, false, false, false, false, false, false, false, false, false, false, false, false, false, false, false, false, false, false, false, false, false, false, false, false, false] rfl rfl (any_of HT_.out (by kernel_rfl)) (fun _ _ _ h => h) (Or.inl ⟨by rfl, ?_⟩) ?_ ?_
                                 rotate_left
                                 ·intro w'
                                  go_simp
                                  with_reducible rfl
                                 rotate_left
                                 ·simp only [Act.put, List.setIfInBounds_toArray, List.set_cons_zero, List.set_cons_succ, i64_w, i32_w]
                                  rfl
                                 exact norm_ (by simp only [putAll, Act.put, List.setIfInBounds_toArray, List.set_cons_zero, List.set_cons_succ] <;> rfl) (hJ2_4_5 (v495) _ ⟨HO493.out, HO496.out, HO_5.out, HO_6.out, HB.out⟩)
                               ·skip
                                rintro v495 w38 ⟨h0_, h1_, h2_, h3_, h4_⟩
                                have n0_ : Aside0 (Kd.R (Kd.int .u8) 5 w38 w.heap.size (fun _ => True) v492 t491) := ⟨h0_⟩
                                have n1_ : Aside0 (Kd.V (Kd.int .u8) 5 w38 w.heap.size (fun k_ => some k_ ≠ (v492 : Value).ownBlock ∧ some k_ ≠ (.slice Ao9 t483.length co9 : Value).ownBlock ∧ some k_ ≠ (.slice Ao10 t486.length co10 : Value).ownBlock) v495 t494) := ⟨h1_⟩
                                have n2_ : Aside0 (Kd.N (Kd.slice 5 (Kd.int .u8)) 22 w38 w.heap.size (fun k_ => some k_ ≠ (v492 : Value).ownBlock ∧ some k_ ≠ (.slice Ao10 t486.length co10 : Value).ownBlock) (.slice Ao9 t483.length co9) t483) := ⟨h2_⟩
                                have n3_ : Aside0 (Kd.N (Kd.slice 5 (Kd.int .u8)) 22 w38 w.heap.size (fun k_ => some k_ ≠ (v492 : Value).ownBlock ∧ some k_ ≠ (.slice Ao9 t483.length co9 : Value).ownBlock) (.slice Ao10 t486.length co10) t486) := ⟨h3_⟩
                                have n4_ : Aside0 (Below w.heap.size w w38) := ⟨h4_⟩
                                clear HO_5
                                clear HO_6
                                clear HB
                                clear h0_ h1_ h2_ h3_ h4_
                                have HO493 := n0_
                                have HO496 := n1_
                                have HO_5 := n2_
                                have HO_6 := n3_
                                have HB := n4_
                                clear n0_ n1_ n2_ n3_ n4_
                                have hHeld := trivial
                                refine norm_ (a' := ?_) ?_ ?_
                                rotate_left
                                ·simp only [putAll, Act.put, List.setIfInBounds_toArray, List.set_cons_zero, List.set_cons_succ]
                                 rfl
                                refine one_ (i := 5) (N := some 42) #[true, true, true, true, true, true, false, false, false, false, false, false, false, false, false, false, false, false, false, false, false, false, false, false, false, false, false, false, false, false, false, false, false, false, false, false, false, false, false, false, false, false, false, false, false, false, false] rfl rfl (one_of HT_.out (by kernel_rfl)) (by decide) (fun K hK => ?_)
                                (first | have hcv39 := own_string (P := Tryd.prog) Tryd.underlying22 Tryd.underlying5 Tryd.underlying9 (Kd.own_of_R HO496.out) | have hcv39 := V_string (P := Tryd.prog) Tryd.underlying22 Tryd.underlying5 Tryd.underlying9 HO496.out)
                                refine value_ (w1 := ?_) (v := ?_) (by rfl) rfl ?_ ?_
                                rotate_left 2
                                ·go_simp
                                 constructor
                                 ·rfl
                                 ·rfl
                                clear hcv39
                                refine hK.out _ _ trivial (fun hHeld => ?_)
                                clear hK K
                                refine norm_ (a' := ?_) ?_ ?_
                                rotate_left
                                ·show Act.put _ (some 42) _ = _
                                 simp only [Act.put, List.setIfInBounds_toArray, List.set_cons_zero, List.set_cons_succ, i64_w, i32_w]
                                 rfl
                                refine pure_ (i := 6) (N := some 43) (v := ?_) (a' := ?_) #[true, true, true, true, true, true, true, false, false, false, false, false, false, false, false, false, false, false, false, false, false, false, false, false, false, false, false, false, false, false, false, false, false, false, false, false, false, false, false, false, false, false, false, false, false, false, false] rfl rfl (any_of HT_.out (by kernel_rfl)) (fun _ _ _ h => h) (Or.inl ⟨by rfl, ?_⟩) ?_ ?_
                                rotate_left
                                ·intro w'
                                 go_simp
                                 with_reducible rfl
                                rotate_left
                                ·simp only [Act.put, List.setIfInBounds_toArray, List.set_cons_zero, List.set_cons_succ, i64_w, i32_w]
                                 rfl
                                refine pure_ (i := 7) (N := some 44) (v := ?_) (a' := ?_) #[true, true, true, true, true, true, true, true, false, false, false, false, false, false, false, false, false, false, false, false, false, false, false, false, false, false, false, false, false, false, false, false, false, false, false, false, false, false, false, false, false, false, false, false, false, false, false] rfl rfl (any_of HT_.out (by kernel_rfl)) (fun _ _ _ h => h) (Or.inl ⟨by rfl, ?_⟩) ?_ ?_
                                rotate_left
                                ·intro w'
                                 go_simp
                                 with_reducible rfl
                                rotate_left
                                ·simp only [Act.put, List.setIfInBounds_toArray, List.set_cons_zero, List.set_cons_succ, i64_w, i32_w]
                                 rfl
                                refine pure_ (i := 8) (N := some 45) (v := ?_) (a' := ?_) #[true, true, true, true, true, true, true, true, true, false, false, false, false, false, false, false, false, false, false, false, false, false, false, false, false, false, false, false, false, false, false, false, false, false, false, false, false, false, false, false, false, false, false, false, false, false, false] rfl rfl (any_of HT_.out (by kernel_rfl)) (fun _ _ _ h => h) (Or.inl ⟨by rfl, ?_⟩) ?_ ?_
                                rotate_left
                                ·intro w'
                                 go_simp
                                 with_reducible rfl
                                rotate_left
                                ·simp only [Act.put, List.setIfInBounds_toArray, List.set_cons_zero, List.set_cons_succ, i64_w, i32_w]
                                 rfl
                                refine pure_ (i := 11) (N := some 48) (v := ?_) (a' := ?_) #[true, true, true, true, true, true, true, true, true, false, false, true, false, false, false, false, false, false, false, false, false, false, false, false, false, false, false, false, false, false, false, false, false, false, false, false, false, false, false, false, false, false, false, false, false, false, false] rfl rfl (any_of HT_.out (by kernel_rfl)) (fun _ _ _ h => h) (Or.inl ⟨by rfl, ?_⟩) ?_ ?_
                                rotate_left
                                ·intro w'
                                 go_simp
                                 with_reducible rfl
                                rotate_left
                                ·simp only [Act.put, List.setIfInBounds_toArray, List.set_cons_zero, List.set_cons_succ, i64_w, i32_w]
                                 rfl
                                exact norm_ (by simp only [putAll, Act.put, List.setIfInBounds_toArray, List.set_cons_zero, List.set_cons_succ] <;> rfl) (hJ2_4_5 (v495) _ ⟨HO493.out, HO496.out, HO_5.out, HO_6.out, HB.out⟩)
                              ·skip
                               rintro v495 w39 ⟨h0_, h1_, h2_, h3_, h4_⟩
                               have n0_ : Aside0 (Kd.R (Kd.int .u8) 5 w39 w.heap.size (fun _ => True) v492 t491) := ⟨h0_⟩
                               have n1_ : Aside0 (Kd.V (Kd.int .u8) 5 w39 w.heap.size (fun k_ => some k_ ≠ (v492 : Value).ownBlock ∧ some k_ ≠ (.slice Ao9 t483.length co9 : Value).ownBlock ∧ some k_ ≠ (.slice Ao10 t486.length co10 : Value).ownBlock) v495 t494) := ⟨h1_⟩
                               have n2_ : Aside0 (Kd.N (Kd.slice 5 (Kd.int .u8)) 22 w39 w.heap.size (fun k_ => some k_ ≠ (v492 : Value).ownBlock ∧ some k_ ≠ (.slice Ao10 t486.length co10 : Value).ownBlock) (.slice Ao9 t483.length co9) t483) := ⟨h2_⟩
                               have n3_ : Aside0 (Kd.N (Kd.slice 5 (Kd.int .u8)) 22 w39 w.heap.size (fun k_ => some k_ ≠ (v492 : Value).ownBlock ∧ some k_ ≠ (.slice Ao9 t483.length co9 : Value).ownBlock) (.slice Ao10 t486.length co10) t486) := ⟨h3_⟩
                               have n4_ : Aside0 (Below w.heap.size w w39) := ⟨h4_⟩
                               clear HO_5
                               clear HO_6
                               clear HB
                               clear h0_ h1_ h2_ h3_ h4_
                               have HO493 := n0_
                               have HO496 := n1_
                               have HO_5 := n2_
                               have HO_6 := n3_
                               have HB := n4_
                               clear n0_ n1_ n2_ n3_ n4_
                               have hHeld := trivial
                               refine norm_ (a' := ?_) ?_ ?_
                               rotate_left
                               ·simp only [putAll, Act.put, List.setIfInBounds_toArray, List.set_cons_zero, List.set_cons_succ]
                                rfl
                               refine one_ (i := 9) (N := some 46) #[true, true, true, true, true, true, true, true, true, true, false, true, false, false, false, false, false, false, false, false, false, false, false, false, false, false, false, false, false, false, false, false, false, false, false, false, false, false, false, false, false, false, false, false, false, false, false] rfl rfl (one_of HT_.out (by kernel_rfl)) (by decide) (fun K hK => ?_)
                               refine goes_ Tryd.func24 (by kernel_rfl) rfl #[.slice A0 l0.length c0] (by rfl) rfl rfl (by (try simp only [List.map_toArray, List.map_cons, List.map_nil]); first | done | rfl | (simp only [List.length_drop, List.length_take]; rfl)) ?_
                               with_reducible refine (head_Body.calls k1 _ _ l0 t497 _ ?side1 ?side2 A22.out).mono ?_
                               (case side1 => repeat (first | exact (Kd.C_below HR0.out HB.out) | (with_reducible refine Kd.C_alloc ?_ _) | (with_reducible refine Kd.C_drewN ?_ _) | (with_reducible refine Kd.C_drew ?_)))
                               (case side2 => exact HC0.out)
                               rintro e w40 ⟨v498, rfl, ho0, hb⟩
                               refine ⟨_, rfl, ?_⟩
                               have n0_ := Aside0.mk (Kd.N_elder' HO_5.out (Kd.R_base ho0) hb)
                               have n1_ := Aside0.mk (Kd.N_elder' HO_6.out (Kd.R_base ho0) hb)
                               have n2_ := Aside0.mk (Kd.R_elder' HO493.out (Kd.R_base ho0) hb)
                               have n3_ := Aside0.mk (Kd.V_elder' HO496.out (Kd.R_base ho0) hb)
                               have n4_ := Aside0.mk (Kd.R_lower (Kd.R_new' ho0 (Kd.R_lt HO493.out)) (below_size HB.out))
                               have n5_ := Aside0.mk (below_step HB.out hb)
                               clear HO_5
                               clear HO_6
                               clear HO493
                               clear HO496
                               clear HB
                               have HO_5 := n0_
                               have HO_6 := n1_
                               have HO493 := n2_
                               have HO496 := n3_
                               have HO499 := n4_
                               have HB := n5_
                               clear n0_ n1_ n2_ n3_ n4_ n5_
                               (try clear hb)
                               (try clear hb2)
                               (try clear hk)
                               (try clear hi)
                               (try clear ho0)
                               refine hK.out _ _ trivial (fun hHeld => ?_)
                               clear hK K
                               refine norm_ (a' := ?_) ?_ ?_
                               rotate_left
                               ·show Act.put _ (some 46) _ = _
                                simp only [Act.put, List.setIfInBounds_toArray, List.set_cons_zero, List.set_cons_succ, i64_w, i32_w]
                                rfl
                               exact norm_ (by simp only [putAll, Act.put, List.setIfInBounds_toArray, List.set_cons_zero, List.set_cons_succ] <;> rfl) (hJ2_4_5_9 (v495, v498) _ ⟨(Kd.R_mono HO493.out (fun _ hk => hk.2)), (Kd.V_mono HO496.out (fun _ hk => ⟨hk.1.1, ⟨hk.2, ⟨hk.1.2.1, hk.1.2.2⟩⟩⟩)), (Kd.R_mono HO499.out (fun _ hk => hk.2)), (Kd.N_mono HO_5.out (fun _ hk => ⟨hk.1.1, ⟨hk.2, hk.1.2⟩⟩)), (Kd.N_mono HO_6.out (fun _ hk => ⟨hk.1.1, ⟨hk.2, hk.1.2⟩⟩)), HB.out⟩)
                             ·skip
                              rintro ⟨v495, v498⟩ w40 ⟨h0_, h1_, h2_, h3_, h4_, h5_⟩
                              have n0_ : Aside0 (Kd.R (Kd.int .u8) 5 w40 w.heap.size (fun k_ => some k_ ≠ (v498 : Value).ownBlock) v492 t491) := ⟨h0_⟩
                              have n1_ : Aside0 (Kd.V (Kd.int .u8) 5 w40 w.heap.size (fun k_ => some k_ ≠ (v492 : Value).ownBlock ∧ some k_ ≠ (v498 : Value).ownBlock ∧ some k_ ≠ (.slice Ao9 t483.length co9 : Value).ownBlock ∧ some k_ ≠ (.slice Ao10 t486.length co10 : Value).ownBlock) v495 t494) := ⟨h1_⟩
                              have n2_ : Aside0 (Kd.R (Kd.int .u8) 5 w40 w.heap.size (fun k_ => some k_ ≠ (v492 : Value).ownBlock) v498 t497) := ⟨h2_⟩
                              have n3_ : Aside0 (Kd.N (Kd.slice 5 (Kd.int .u8)) 22 w40 w.heap.size (fun k_ => some k_ ≠ (v492 : Value).ownBlock ∧ some k_ ≠ (v498 : Value).ownBlock ∧ some k_ ≠ (.slice Ao10 t486.length co10 : Value).ownBlock) (.slice Ao9 t483.length co9) t483) := ⟨h3_⟩
                              have n4_ : Aside0 (Kd.N (Kd.slice 5 (Kd.int .u8)) 22 w40 w.heap.size (fun k_ => some k_ ≠ (v492 : Value).ownBlock ∧ some k_ ≠ (v498 : Value).ownBlock ∧ some k_ ≠ (.slice Ao9 t483.length co9 : Value).ownBlock) (.slice Ao10 t486.length co10) t486) := ⟨h4_⟩
                              have n5_ : Aside0 (Below w.heap.size w w40) := ⟨h5_⟩
                              clear HO_5
                              clear HO_6
                              clear HB
                              clear h0_ h1_ h2_ h3_ h4_ h5_
                              have HO493 := n0_
                              have HO496 := n1_
                              have HO499 := n2_
                              have HO_5 := n3_
                              have HO_6 := n4_
                              have HB := n5_
                              clear n0_ n1_ n2_ n3_ n4_ n5_
                              have hHeld := trivial
                              refine norm_ (a' := ?_) ?_ ?_
                              rotate_left
                              ·simp only [putAll, Act.put, List.setIfInBounds_toArray, List.set_cons_zero, List.set_cons_succ]
                               rfl
                              refine two_ (i := 10) (j := 12) (Ni := some 47) (Nj := some 49) #[true, true, true, true, true, true, true, true, true, true, true, true, false, false, false, false, false, false, false, false, false, false, false, false, false, false, false, false, false, false, false, false, false, false, false, false, false, false, false, false, false, false, false, false, false, false, false] #[true, true, true, true, true, true, true, true, true, true, false, true, true, false, false, false, false, false, false, false, false, false, false, false, false, false, false, false, false, false, false, false, false, false, false, false, false, false, false, false, false, false, false, false, false, false, false] rfl rfl rfl rfl (two_of HT_.out (by kernel_rfl)) (by decide) (by decide) (fun K hK => ?_) (fun K hK => ?_)
                              ·skip
                               (first | have hcv41 := own_string (P := Tryd.prog) Tryd.underlying22 Tryd.underlying5 Tryd.underlying9 (Kd.own_of_R HO499.out) | have hcv41 := V_string (P := Tryd.prog) Tryd.underlying22 Tryd.underlying5 Tryd.underlying9 HO499.out)
                               refine value_ (w1 := ?_) (v := ?_) (by rfl) rfl ?_ ?_
                               rotate_left 2
                               ·go_simp
                                constructor
                                ·rfl
                                ·rfl
                               clear hcv41
                               refine hK.out _ _ trivial (fun hHeld => ?_)
                               clear hK K
                               refine norm_ (a' := ?_) ?_ ?_
                               rotate_left
                               ·show Act.put _ (some 47) _ = _
                                simp only [Act.put, List.setIfInBounds_toArray, List.set_cons_zero, List.set_cons_succ, i64_w, i32_w]
                                rfl
                               exact norm_ (by simp only [putAll, Act.put, List.setIfInBounds_toArray, List.set_cons_zero, List.set_cons_succ] <;> rfl) (hJ2_4_5_9_10 (v495, v498) _ ⟨HO493.out, HO496.out, HO499.out, HO_5.out, HO_6.out, HB.out⟩)
                              ·skip
                               refine goes_ Tryd.func29 (by kernel_rfl) rfl #[.slice A0 l0.length c0] (by rfl) rfl rfl (by (try simp only [List.map_toArray, List.map_cons, List.map_nil]); first | done | rfl | (simp only [List.length_drop, List.length_take]; rfl)) ?_
                               with_reducible refine (letterboxref9_Body.calls k1 (fun k_ => k_ < w.heap.size) _ _ l0 t500 _ ?side1 A23.out).mono ?_
                               (case side1 => exact Kd.V_mk HC0.out (Kd.F_below (Kd.C_F (Kd.heap_int .u8) HR0.out) HB.out))
                               rintro e w41 ⟨v501, rfl, ho0, hb⟩
                               refine ⟨_, rfl, ?_⟩
                               have n0_ := Aside0.mk (Kd.N_below HO_5.out hb)
                               have n1_ := Aside0.mk (Kd.N_below HO_6.out hb)
                               have n2_ := Aside0.mk (Kd.R_below HO493.out hb)
                               have n3_ := Aside0.mk (Kd.V_below HO496.out hb)
                               have n4_ := Aside0.mk (Kd.R_below HO499.out hb)
                               have n5_ := Aside0.mk (Kd.V_lower (Kd.V_mono (ok' := fun k_ => some k_ ≠ (.slice Ao9 t483.length co9 : Value).ownBlock ∧ some k_ ≠ (.slice Ao10 t486.length co10 : Value).ownBlock ∧ some k_ ≠ (v492 : Value).ownBlock ∧ some k_ ≠ (v498 : Value).ownBlock) ho0 (fun k_ hk_ => ⟨Or.elim hk_ (fun hs_ => fun e_ => Nat.not_le.2 hs_ (Kd.N_base HO_5.out k_ e_.symm)) (fun hn_ => (Kd.fresh' (Kd.N_lt HO_5.out) k_ hn_)), Or.elim hk_ (fun hs_ => fun e_ => Nat.not_le.2 hs_ (Kd.N_base HO_6.out k_ e_.symm)) (fun hn_ => (Kd.fresh' (Kd.N_lt HO_6.out) k_ hn_)), Or.elim hk_ (fun hs_ => fun e_ => Nat.not_le.2 hs_ (Kd.R_base HO493.out k_ e_.symm)) (fun hn_ => (Kd.fresh' (Kd.R_lt HO493.out) k_ hn_)), Or.elim hk_ (fun hs_ => fun e_ => Nat.not_le.2 hs_ (Kd.R_base HO499.out k_ e_.symm)) (fun hn_ => (Kd.fresh' (Kd.R_lt HO499.out) k_ hn_))⟩)) (below_size HB.out))
                               have n6_ := Aside0.mk (below_step HB.out hb)
                               clear HO_5
                               clear HO_6
                               clear HO493
                               clear HO496
                               clear HO499
                               clear HB
                               have HO_5 := n0_
                               have HO_6 := n1_
                               have HO493 := n2_
                               have HO496 := n3_
                               have HO499 := n4_
                               have HO502 := n5_
                               have HB := n6_
                               clear n0_ n1_ n2_ n3_ n4_ n5_ n6_
                               (try clear hb)
                               (try clear hb2)
                               (try clear hk)
                               (try clear hi)
                               (try clear ho0)
                               refine hK.out _ _ trivial (fun hHeld => ?_)
                               clear hK K
                               refine norm_ (a' := ?_) ?_ ?_
                               rotate_left
                               ·show Act.put _ (some 49) _ = _
                                simp only [Act.put, List.setIfInBounds_toArray, List.set_cons_zero, List.set_cons_succ, i64_w, i32_w]
                                rfl
                               exact norm_ (by simp only [putAll, Act.put, List.setIfInBounds_toArray, List.set_cons_zero, List.set_cons_succ] <;> rfl) (hJ2_4_5_9_12 (v495, v498, v501) _ ⟨HO493.out, HO496.out, HO499.out, (Kd.V_mono HO502.out (fun _ hk => ⟨hk.2.2.1, ⟨hk.2.2.2, ⟨hk.1, hk.2.1⟩⟩⟩)), HO_5.out, HO_6.out, HB.out⟩)
                            ·skip
                             rintro ⟨v495, v498, v501⟩ w41 ⟨h0_, h1_, h2_, h3_, h4_, h5_, h6_⟩
                             have n0_ : Aside0 (Kd.R (Kd.int .u8) 5 w41 w.heap.size (fun k_ => some k_ ≠ (v498 : Value).ownBlock) v492 t491) := ⟨h0_⟩
                             have n1_ : Aside0 (Kd.V (Kd.int .u8) 5 w41 w.heap.size (fun k_ => some k_ ≠ (v492 : Value).ownBlock ∧ some k_ ≠ (v498 : Value).ownBlock ∧ some k_ ≠ (.slice Ao9 t483.length co9 : Value).ownBlock ∧ some k_ ≠ (.slice Ao10 t486.length co10 : Value).ownBlock) v495 t494) := ⟨h1_⟩
                             have n2_ : Aside0 (Kd.R (Kd.int .u8) 5 w41 w.heap.size (fun k_ => some k_ ≠ (v492 : Value).ownBlock) v498 t497) := ⟨h2_⟩
                             have n3_ : Aside0 (Kd.V (Kd.int .u8) 5 w41 w.heap.size (fun k_ => some k_ ≠ (v492 : Value).ownBlock ∧ some k_ ≠ (v498 : Value).ownBlock ∧ some k_ ≠ (.slice Ao9 t483.length co9 : Value).ownBlock ∧ some k_ ≠ (.slice Ao10 t486.length co10 : Value).ownBlock) v501 t500) := ⟨h3_⟩
                             have n4_ : Aside0 (Kd.N (Kd.slice 5 (Kd.int .u8)) 22 w41 w.heap.size (fun k_ => some k_ ≠ (v492 : Value).ownBlock ∧ some k_ ≠ (v498 : Value).ownBlock ∧ some k_ ≠ (.slice Ao10 t486.length co10 : Value).ownBlock) (.slice Ao9 t483.length co9) t483) := ⟨h4_⟩
                             have n5_ : Aside0 (Kd.N (Kd.slice 5 (Kd.int .u8)) 22 w41 w.heap.size (fun k_ => some k_ ≠ (v492 : Value).ownBlock ∧ some k_ ≠ (v498 : Value).ownBlock ∧ some k_ ≠ (.slice Ao9 t483.length co9 : Value).ownBlock) (.slice Ao10 t486.length co10) t486) := ⟨h5_⟩
                             have n6_ : Aside0 (Below w.heap.size w w41) := ⟨h6_⟩
                             clear HO_5
                             clear HO_6
                             clear HB
                             clear h0_ h1_ h2_ h3_ h4_ h5_ h6_
                             have HO493 := n0_
                             have HO496 := n1_
                             have HO499 := n2_
                             have HO502 := n3_
                             have HO_5 := n4_
                             have HO_6 := n5_
                             have HB := n6_
                             clear n0_ n1_ n2_ n3_ n4_ n5_ n6_
                             have hHeld := trivial
                             refine norm_ (a' := ?_) ?_ ?_
                             rotate_left
                             ·simp only [putAll, Act.put, List.setIfInBounds_toArray, List.set_cons_zero, List.set_cons_succ]
                              rfl
                             refine two_ (i := 10) (j := 13) (Ni := some 47) (Nj := some 50) #[true, true, true, true, true, true, true, true, true, true, true, true, true, false, false, false, false, false, false, false, false, false, false, false, false, false, false, false, false, false, false, false, false, false, false, false, false, false, false, false, false, false, false, false, false, false, false] #[true, true, true, true, true, true, true, true, true, true, false, true, true, true, false, false, false, false, false, false, false, false, false, false, false, false, false, false, false, false, false, false, false, false, false, false, false, false, false, false, false, false, false, false, false, false, false] rfl rfl rfl rfl (two_of HT_.out (by kernel_rfl)) (by decide) (by decide) (fun K hK => ?_) (fun K hK => ?_)
                             ·skip
                              (first | have hcv42 := own_string (P := Tryd.prog) Tryd.underlying22 Tryd.underlying5 Tryd.underlying9 (Kd.own_of_R HO499.out) | have hcv42 := V_string (P := Tryd.prog) Tryd.underlying22 Tryd.underlying5 Tryd.underlying9 HO499.out)
                              refine value_ (w1 := ?_) (v := ?_) (by rfl) rfl ?_ ?_
                              rotate_left 2
                              ·go_simp
                               constructor
                               ·rfl
                               ·rfl
                              clear hcv42
                              refine hK.out _ _ trivial (fun hHeld => ?_)
                              clear hK K
                              refine norm_ (a' := ?_) ?_ ?_
                              rotate_left
                              ·show Act.put _ (some 47) _ = _
                               simp only [Act.put, List.setIfInBounds_toArray, List.set_cons_zero, List.set_cons_succ, i64_w, i32_w]
                               rfl
                              exact norm_ (by simp only [putAll, Act.put, List.setIfInBounds_toArray, List.set_cons_zero, List.set_cons_succ] <;> rfl) (hJ2_4_5_9_10_12 (v495, v498, v501) _ ⟨HO493.out, HO496.out, HO499.out, HO502.out, HO_5.out, HO_6.out, HB.out⟩)
                             ·skip
                              (first | have hcv42 := own_string (P := Tryd.prog) Tryd.underlying22 Tryd.underlying5 Tryd.underlying9 (Kd.own_of_R HO502.out) | have hcv42 := V_string (P := Tryd.prog) Tryd.underlying22 Tryd.underlying5 Tryd.underlying9 HO502.out)
                              refine value_ (w1 := ?_) (v := ?_) (by rfl) rfl ?_ ?_
                              rotate_left 2
                              ·go_simp
                               constructor
                               ·rfl
                               ·rfl
                              clear hcv42
                              refine hK.out _ _ trivial (fun hHeld => ?_)
                              clear hK K
                              refine norm_ (a' := ?_) ?_ ?_
                              rotate_left
                              ·show Act.put _ (some 50) _ = _
                               simp only [Act.put, List.setIfInBounds_toArray, List.set_cons_zero, List.set_cons_succ, i64_w, i32_w]
                               rfl
                              exact norm_ (by simp only [putAll, Act.put, List.setIfInBounds_toArray, List.set_cons_zero, List.set_cons_succ] <;> rfl) (hJ2_4_5_9_12_13 (v495, v498, v501) _ ⟨HO493.out, HO496.out, HO499.out, HO502.out, HO_5.out, HO_6.out, HB.out⟩)
                           ·skip
                            rintro ⟨v495, v498⟩ w41 ⟨h0_, h1_, h2_, h3_, h4_, h5_⟩
                            have n0_ : Aside0 (Kd.R (Kd.int .u8) 5 w41 w.heap.size (fun k_ => some k_ ≠ (v498 : Value).ownBlock) v492 t491) := ⟨h0_⟩
                            have n1_ : Aside0 (Kd.V (Kd.int .u8) 5 w41 w.heap.size (fun k_ => some k_ ≠ (v492 : Value).ownBlock ∧ some k_ ≠ (v498 : Value).ownBlock ∧ some k_ ≠ (.slice Ao9 t483.length co9 : Value).ownBlock ∧ some k_ ≠ (.slice Ao10 t486.length co10 : Value).ownBlock) v495 t494) := ⟨h1_⟩
                            have n2_ : Aside0 (Kd.R (Kd.int .u8) 5 w41 w.heap.size (fun k_ => some k_ ≠ (v492 : Value).ownBlock) v498 t497) := ⟨h2_⟩
                            have n3_ : Aside0 (Kd.N (Kd.slice 5 (Kd.int .u8)) 22 w41 w.heap.size (fun k_ => some k_ ≠ (v492 : Value).ownBlock ∧ some k_ ≠ (v498 : Value).ownBlock ∧ some k_ ≠ (.slice Ao10 t486.length co10 : Value).ownBlock) (.slice Ao9 t483.length co9) t483) := ⟨h3_⟩
                            have n4_ : Aside0 (Kd.N (Kd.slice 5 (Kd.int .u8)) 22 w41 w.heap.size (fun k_ => some k_ ≠ (v492 : Value).ownBlock ∧ some k_ ≠ (v498 : Value).ownBlock ∧ some k_ ≠ (.slice Ao9 t483.length co9 : Value).ownBlock) (.slice Ao10 t486.length co10) t486) := ⟨h4_⟩
                            have n5_ : Aside0 (Below w.heap.size w w41) := ⟨h5_⟩
                            clear HO_5
                            clear HO_6
                            clear HB
                            clear h0_ h1_ h2_ h3_ h4_ h5_
                            have HO493 := n0_
                            have HO496 := n1_
                            have HO499 := n2_
                            have HO_5 := n3_
                            have HO_6 := n4_
                            have HB := n5_
                            clear n0_ n1_ n2_ n3_ n4_ n5_
                            have hHeld := trivial
                            refine norm_ (a' := ?_) ?_ ?_
                            rotate_left
                            ·simp only [putAll, Act.put, List.setIfInBounds_toArray, List.set_cons_zero, List.set_cons_succ]
                             rfl
                            refine one_ (i := 12) (N := some 49) #[true, true, true, true, true, true, true, true, true, true, true, true, true, false, false, false, false, false, false, false, false, false, false, false, false, false, false, false, false, false, false, false, false, false, false, false, false, false, false, false, false, false, false, false, false, false, false] rfl rfl (one_of HT_.out (by kernel_rfl)) (by decide) (fun K hK => ?_)
                            refine goes_ Tryd.func29 (by kernel_rfl) rfl #[.slice A0 l0.length c0] (by rfl) rfl rfl (by (try simp only [List.map_toArray, List.map_cons, List.map_nil]); first | done | rfl | (simp only [List.length_drop, List.length_take]; rfl)) ?_
                            with_reducible refine (letterboxref9_Body.calls k1 (fun k_ => k_ < w.heap.size) _ _ l0 t500 _ ?side1 A23.out).mono ?_
                            (case side1 => exact Kd.V_mk HC0.out (Kd.F_below (Kd.C_F (Kd.heap_int .u8) HR0.out) HB.out))
                            rintro e w42 ⟨v501, rfl, ho0, hb⟩
                            refine ⟨_, rfl, ?_⟩
                            have n0_ := Aside0.mk (Kd.N_below HO_5.out hb)
                            have n1_ := Aside0.mk (Kd.N_below HO_6.out hb)
                            have n2_ := Aside0.mk (Kd.R_below HO493.out hb)
                            have n3_ := Aside0.mk (Kd.V_below HO496.out hb)
                            have n4_ := Aside0.mk (Kd.R_below HO499.out hb)
                            have n5_ := Aside0.mk (Kd.V_lower (Kd.V_mono (ok' := fun k_ => some k_ ≠ (.slice Ao9 t483.length co9 : Value).ownBlock ∧ some k_ ≠ (.slice Ao10 t486.length co10 : Value).ownBlock ∧ some k_ ≠ (v492 : Value).ownBlock ∧ some k_ ≠ (v498 : Value).ownBlock) ho0 (fun k_ hk_ => ⟨Or.elim hk_ (fun hs_ => fun e_ => Nat.not_le.2 hs_ (Kd.N_base HO_5.out k_ e_.symm)) (fun hn_ => (Kd.fresh' (Kd.N_lt HO_5.out) k_ hn_)), Or.elim hk_ (fun hs_ => fun e_ => Nat.not_le.2 hs_ (Kd.N_base HO_6.out k_ e_.symm)) (fun hn_ => (Kd.fresh' (Kd.N_lt HO_6.out) k_ hn_)), Or.elim hk_ (fun hs_ => fun e_ => Nat.not_le.2 hs_ (Kd.R_base HO493.out k_ e_.symm)) (fun hn_ => (Kd.fresh' (Kd.R_lt HO493.out) k_ hn_)), Or.elim hk_ (fun hs_ => fun e_ => Nat.not_le.2 hs_ (Kd.R_base HO499.out k_ e_.symm)) (fun hn_ => (Kd.fresh' (Kd.R_lt HO499.out) k_ hn_))⟩)) (below_size HB.out))
                            have n6_ := Aside0.mk (below_step HB.out hb)
                            clear HO_5
                            clear HO_6
                            clear HO493
                            clear HO496
                            clear HO499
                            clear HB
                            have HO_5 := n0_
                            have HO_6 := n1_
                            have HO493 := n2_
                            have HO496 := n3_
                            have HO499 := n4_
                            have HO502 := n5_
                            have HB := n6_
                            clear n0_ n1_ n2_ n3_ n4_ n5_ n6_
                            (try clear hb)
                            (try clear hb2)
                            (try clear hk)
                            (try clear hi)
                            (try clear ho0)
                            refine hK.out _ _ trivial (fun hHeld => ?_)
                            clear hK K
                            refine norm_ (a' := ?_) ?_ ?_
                            rotate_left
                            ·show Act.put _ (some 49) _ = _
                             simp only [Act.put, List.setIfInBounds_toArray, List.set_cons_zero, List.set_cons_succ, i64_w, i32_w]
                             rfl
                            exact norm_ (by simp only [putAll, Act.put, List.setIfInBounds_toArray, List.set_cons_zero, List.set_cons_succ] <;> rfl) (hJ2_4_5_9_10_12 (v495, v498, v501) _ ⟨HO493.out, HO496.out, HO499.out, (Kd.V_mono HO502.out (fun _ hk => ⟨hk.2.2.1, ⟨hk.2.2.2, ⟨hk.1, hk.2.1⟩⟩⟩)), HO_5.out, HO_6.out, HB.out⟩)
                          ·skip
                           rintro ⟨v495, v498, v501⟩ w42 ⟨h0_, h1_, h2_, h3_, h4_, h5_, h6_⟩
                           have n0_ : Aside0 (Kd.R (Kd.int .u8) 5 w42 w.heap.size (fun k_ => some k_ ≠ (v498 : Value).ownBlock) v492 t491) := ⟨h0_⟩
                           have n1_ : Aside0 (Kd.V (Kd.int .u8) 5 w42 w.heap.size (fun k_ => some k_ ≠ (v492 : Value).ownBlock ∧ some k_ ≠ (v498 : Value).ownBlock ∧ some k_ ≠ (.slice Ao9 t483.length co9 : Value).ownBlock ∧ some k_ ≠ (.slice Ao10 t486.length co10 : Value).ownBlock) v495 t494) := ⟨h1_⟩
                           have n2_ : Aside0 (Kd.R (Kd.int .u8) 5 w42 w.heap.size (fun k_ => some k_ ≠ (v492 : Value).ownBlock) v498 t497) := ⟨h2_⟩
                           have n3_ : Aside0 (Kd.V (Kd.int .u8) 5 w42 w.heap.size (fun k_ => some k_ ≠ (v492 : Value).ownBlock ∧ some k_ ≠ (v498 : Value).ownBlock ∧ some k_ ≠ (.slice Ao9 t483.length co9 : Value).ownBlock ∧ some k_ ≠ (.slice Ao10 t486.length co10 : Value).ownBlock) v501 t500) := ⟨h3_⟩
                           have n4_ : Aside0 (Kd.N (Kd.slice 5 (Kd.int .u8)) 22 w42 w.heap.size (fun k_ => some k_ ≠ (v492 : Value).ownBlock ∧ some k_ ≠ (v498 : Value).ownBlock ∧ some k_ ≠ (.slice Ao10 t486.length co10 : Value).ownBlock) (.slice Ao9 t483.length co9) t483) := ⟨h4_⟩
                           have n5_ : Aside0 (Kd.N (Kd.slice 5 (Kd.int .u8)) 22 w42 w.heap.size (fun k_ => some k_ ≠ (v492 : Value).ownBlock ∧ some k_ ≠ (v498 : Value).ownBlock ∧ some k_ ≠ (.slice Ao9 t483.length co9 : Value).ownBlock) (.slice Ao10 t486.length co10) t486) := ⟨h5_⟩
                           have n6_ : Aside0 (Below w.heap.size w w42) := ⟨h6_⟩
                           clear HO_5
                           clear HO_6
                           clear HB
                           clear h0_ h1_ h2_ h3_ h4_ h5_ h6_
                           have HO493 := n0_
                           have HO496 := n1_
                           have HO499 := n2_
                           have HO502 := n3_
                           have HO_5 := n4_
                           have HO_6 := n5_
                           have HB := n6_
                           clear n0_ n1_ n2_ n3_ n4_ n5_ n6_
                           have hHeld := trivial
                           refine norm_ (a' := ?_) ?_ ?_
                           rotate_left
                           ·simp only [putAll, Act.put, List.setIfInBounds_toArray, List.set_cons_zero, List.set_cons_succ]
                            rfl
                           refine one_ (i := 10) (N := some 47) #[true, true, true, true, true, true, true, true, true, true, true, true, true, true, false, false, false, false, false, false, false, false, false, false, false, false, false, false, false, false, false, false, false, false, false, false, false, false, false, false, false, false, false, false, false, false, false] rfl rfl (one_of HT_.out (by kernel_rfl)) (by decide) (fun K hK => ?_)
                           (first | have hcv43 := own_string (P := Tryd.prog) Tryd.underlying22 Tryd.underlying5 Tryd.underlying9 (Kd.own_of_R HO499.out) | have hcv43 := V_string (P := Tryd.prog) Tryd.underlying22 Tryd.underlying5 Tryd.underlying9 HO499.out)
                           refine value_ (w1 := ?_) (v := ?_) (by rfl) rfl ?_ ?_
                           rotate_left 2
                           ·go_simp
                            constructor
                            ·rfl
                            ·rfl
                           clear hcv43
                           refine hK.out _ _ trivial (fun hHeld => ?_)
                           clear hK K
                           refine norm_ (a' := ?_) ?_ ?_
                           rotate_left
                           ·show Act.put _ (some 47) _ = _
                            simp only [Act.put, List.setIfInBounds_toArray, List.set_cons_zero, List.set_cons_succ, i64_w, i32_w]
                            rfl
                           refine pure_ (i := 14) (N := some 51) (v := ?_) (a' := ?_) #[true, true, true, true, true, true, true, true, true, true, true, true, true, true, true, false, false, false, false, false, false, false, false, false, false, false, false, false, false, false, false, false, false, false, false, false, false, false, false, false, false, false, false, false, false, false, false] rfl rfl (any_of HT_.out (by kernel_rfl)) (fun _ _ _ h => h) (Or.inl ⟨by rfl, ?_⟩) ?_ ?_
                           rotate_left
                           ·intro w'
                            go_simp
                            with_reducible rfl
                           rotate_left
                           ·simp only [Act.put, List.setIfInBounds_toArray, List.set_cons_zero, List.set_cons_succ, i64_w, i32_w]
                            rfl
                           refine pure_ (i := 15) (N := some 52) (v := ?_) (a' := ?_) #[true, true, true, true, true, true, true, true, true, true, true, true, true, true, true, true, false, false, false, false, false, false, false, false, false, false, false, false, false, false, false, false, false, false, false, false, false, false, false, false, false, false, false, false, false, false, false] rfl rfl (any_of HT_.out (by kernel_rfl)) (fun _ _ _ h => h) (Or.inl ⟨by rfl, ?_⟩) ?_ ?_
                           rotate_left
                           ·intro w'
                            go_simp
                            with_reducible rfl
                           rotate_left
                           ·simp only [Act.put, List.setIfInBounds_toArray, List.set_cons_zero, List.set_cons_succ, i64_w, i32_w]
                            rfl
                           refine pure_ (i := 16) (N := some 53) (v := ?_) (a' := ?_) #[true, true, true, true, true, true, true, true, true, true, true, true, true, true, true, true, true, false, false, false, false, false, false, false, false, false, false, false, false, false, false, false, false, false, false, false, false, false, false, false, false, false, false, false, false, false, false] rfl rfl (any_of HT_.out (by kernel_rfl)) (fun _ _ _ h => h) (Or.inl ⟨by rfl, ?_⟩) ?_ ?_
                           rotate_left
                           ·intro w'
                            go_simp
                            with_reducible rfl
                           rotate_left
                           ·simp only [Act.put, List.setIfInBounds_toArray, List.set_cons_zero, List.set_cons_succ, i64_w, i32_w]
                            rfl
                           refine pure_ (i := 17) (N := some 54) (v := ?_) (a' := ?_) #[true, true, true, true, true, true, true, true, true, true, true, true, true, true, true, true, true, true, false, false, false, false, false, false, false, false, false, false, false, false, false, false, false, false, false, false, false, false, false, false, false, false, false, false, false, false, false] rfl rfl (any_of HT_.out (by kernel_rfl)) (fun _ _ _ h => h) (Or.inl ⟨by rfl, ?_⟩) ?_ ?_
                           rotate_left
                           ·intro w'
                            go_simp
                            with_reducible rfl
                           rotate_left
                           ·simp only [Act.put, List.setIfInBounds_toArray, List.set_cons_zero, List.set_cons_succ, i64_w, i32_w]
                            rfl
                           refine pure_ (i := 19) (N := some 56) (v := ?_) (a' := ?_) #[true, true, true, true, true, true, true, true, true, true, true, true, true, true, true, true, true, true, false, true, false, false, false, false, false, false, false, false, false, false, false, false, false, false, false, false, false, false, false, false, false, false, false, false, false, false, false] rfl rfl (any_of HT_.out (by kernel_rfl)) (fun _ _ _ h => h) (Or.inl ⟨by rfl, ?_⟩) ?_ ?_
                           rotate_left
                           ·intro w'
                            go_simp
                            with_reducible rfl
                           rotate_left
                           ·simp only [Act.put, List.setIfInBounds_toArray, List.set_cons_zero, List.set_cons_succ, i64_w, i32_w]
                            rfl
                           refine pure_ (i := 20) (N := some 57) (v := ?_) (a' := ?_) #[true, true, true, true, true, true, true, true, true, true, true, true, true, true, true, true, true, true, false, true, true, false, false, false, false, false, false, false, false, false, false, false, false, false, false, false, false, false, false, false, false, false, false, false, false, false, false] rfl rfl (any_of HT_.out (by kernel_rfl)) (fun _ _ _ h => h) (Or.inl ⟨by rfl, ?_⟩) ?_ ?_
                           rotate_left
                           ·intro w'
                            go_simp
                            with_reducible rfl
                           rotate_left
                           ·simp only [Act.put, List.setIfInBounds_toArray, List.set_cons_zero, List.set_cons_succ, i64_w, i32_w]
                            rfl
                           exact norm_ (by simp only [putAll, Act.put, List.setIfInBounds_toArray, List.set_cons_zero, List.set_cons_succ] <;> rfl) (hJ2_4_5_9_10_12_13 (v495, v498, v501) _ ⟨HO493.out, HO496.out, HO499.out, HO502.out, HO_5.out, HO_6.out, HB.out⟩)
                         ·skip
                          rintro ⟨v495, v498, v501⟩ w42 ⟨h0_, h1_, h2_, h3_, h4_, h5_, h6_⟩
                          have n0_ : Aside0 (Kd.R (Kd.int .u8) 5 w42 w.heap.size (fun k_ => some k_ ≠ (v498 : Value).ownBlock) v492 t491) := ⟨h0_⟩
                          have n1_ : Aside0 (Kd.V (Kd.int .u8) 5 w42 w.heap.size (fun k_ => some k_ ≠ (v492 : Value).ownBlock ∧ some k_ ≠ (v498 : Value).ownBlock ∧ some k_ ≠ (.slice Ao9 t483.length co9 : Value).ownBlock ∧ some k_ ≠ (.slice Ao10 t486.length co10 : Value).ownBlock) v495 t494) := ⟨h1_⟩
                          have n2_ : Aside0 (Kd.R (Kd.int .u8) 5 w42 w.heap.size (fun k_ => some k_ ≠ (v492 : Value).ownBlock) v498 t497) := ⟨h2_⟩
                          have n3_ : Aside0 (Kd.V (Kd.int .u8) 5 w42 w.heap.size (fun k_ => some k_ ≠ (v492 : Value).ownBlock ∧ some k_ ≠ (v498 : Value).ownBlock ∧ some k_ ≠ (.slice Ao9 t483.length co9 : Value).ownBlock ∧ some k_ ≠ (.slice Ao10 t486.length co10 : Value).ownBlock) v501 t500) := ⟨h3_⟩
                          have n4_ : Aside0 (Kd.N (Kd.slice 5 (Kd.int .u8)) 22 w42 w.heap.size (fun k_ => some k_ ≠ (v492 : Value).ownBlock ∧ some k_ ≠ (v498 : Value).ownBlock ∧ some k_ ≠ (.slice Ao10 t486.length co10 : Value).ownBlock) (.slice Ao9 t483.length co9) t483) := ⟨h4_⟩
                          have n5_ : Aside0 (Kd.N (Kd.slice 5 (Kd.int .u8)) 22 w42 w.heap.size (fun k_ => some k_ ≠ (v492 : Value).ownBlock ∧ some k_ ≠ (v498 : Value).ownBlock ∧ some k_ ≠ (.slice Ao9 t483.length co9 : Value).ownBlock) (.slice Ao10 t486.length co10) t486) := ⟨h5_⟩
                          have n6_ : Aside0 (Below w.heap.size w w42) := ⟨h6_⟩
                          clear HO_5
                          clear HO_6
                          clear HB
                          clear h0_ h1_ h2_ h3_ h4_ h5_ h6_
                          have HO493 := n0_
                          have HO496 := n1_
                          have HO499 := n2_
                          have HO502 := n3_
                          have HO_5 := n4_
                          have HO_6 := n5_
                          have HB := n6_
                          clear n0_ n1_ n2_ n3_ n4_ n5_ n6_
                          have hHeld := trivial
                          refine norm_ (a' := ?_) ?_ ?_
                          rotate_left
                          ·simp only [putAll, Act.put, List.setIfInBounds_toArray, List.set_cons_zero, List.set_cons_succ]
                           rfl
                          refine one_ (i := 13) (N := some 50) #[true, true, true, true, true, true, true, true, true, true, true, true, true, true, false, false, false, false, false, false, false, false, false, false, false, false, false, false, false, false, false, false, false, false, false, false, false, false, false, false, false, false, false, false, false, false, false] rfl rfl (one_of HT_.out (by kernel_rfl)) (by decide) (fun K hK => ?_)
                          (first | have hcv43 := own_string (P := Tryd.prog) Tryd.underlying22 Tryd.underlying5 Tryd.underlying9 (Kd.own_of_R HO502.out) | have hcv43 := V_string (P := Tryd.prog) Tryd.underlying22 Tryd.underlying5 Tryd.underlying9 HO502.out)
                          refine value_ (w1 := ?_) (v := ?_) (by rfl) rfl ?_ ?_
                          rotate_left 2
                          ·go_simp
                           constructor
                           ·rfl
                           ·rfl
                          clear hcv43
                          refine hK.out _ _ trivial (fun hHeld => ?_)
                          clear hK K
                          refine norm_ (a' := ?_) ?_ ?_
                          rotate_left
                          ·show Act.put _ (some 50) _ = _
                           simp only [Act.put, List.setIfInBounds_toArray, List.set_cons_zero, List.set_cons_succ, i64_w, i32_w]
                           rfl
                          refine pure_ (i := 14) (N := some 51) (v := ?_) (a' := ?_) #[true, true, true, true, true, true, true, true, true, true, true, true, true, true, true, false, false, false, false, false, false, false, false, false, false, false, false, false, false, false, false, false, false, false, false, false, false, false, false, false, false, false, false, false, false, false, false] rfl rfl (any_of HT_.out (by kernel_rfl)) (fun _ _ _ h => h) (Or.inl ⟨by rfl, ?_⟩) ?_ ?_
                          rotate_left
                          ·intro w'
                           go_simp
                           with_reducible rfl
                          rotate_left
                          ·simp only [Act.put, List.setIfInBounds_toArray, List.set_cons_zero, List.set_cons_succ, i64_w, i32_w]
                           rfl
                          refine pure_ (i := 15) (N := some 52) (v := ?_) (a' := ?_) #[true, true, true, true, true, true, true, true, true, true, true, true, true, true, true, true, false, false, false, false, false, false, false, false, false, false, false, false, false, false, false, false, false, false, false, false, false, false, false, false, false, false, false, false, false, false, false] rfl rfl (any_of HT_.out (by kernel_rfl)) (fun _ _ _ h => h) (Or.inl ⟨by rfl, ?_⟩) ?_ ?_
                          rotate_left
                          ·intro w'
                           go_simp
                           with_reducible rfl
                          rotate_left
                          ·simp only [Act.put, List.setIfInBounds_toArray, List.set_cons_zero, List.set_cons_succ, i64_w, i32_w]
                           rfl
                          refine pure_ (i := 16) (N := some 53) (v := ?_) (a' := ?_) #[true, true, true, true, true, true, true, true, true, true, true, true, true, true, true, true, true, false, false, false, false, false, false, false, false, false, false, false, false, false, false, false, false, false, false, false, false, false, false, false, false, false, false, false, false, false, false] rfl rfl (any_of HT_.out (by kernel_rfl)) (fun _ _ _ h => h) (Or.inl ⟨by rfl, ?_⟩) ?_ ?_
                          rotate_left
                          ·intro w'
                           go_simp
                           with_reducible rfl
                          rotate_left
                          ·simp only [Act.put, List.setIfInBounds_toArray, List.set_cons_zero, List.set_cons_succ, i64_w, i32_w]
                           rfl
                          refine pure_ (i := 17) (N := some 54) (v := ?_) (a' := ?_) #[true, true, true, true, true, true, true, true, true, true, true, true, true, true, true, true, true, true, false, false, false, false, false, false, false, false, false, false, false, false, false, false, false, false, false, false, false, false, false, false, false, false, false, false, false, false, false] rfl rfl (any_of HT_.out (by kernel_rfl)) (fun _ _ _ h => h) (Or.inl ⟨by rfl, ?_⟩) ?_ ?_
                          rotate_left
                          ·intro w'
                           go_simp
                           with_reducible rfl
                          rotate_left
                          ·simp only [Act.put, List.setIfInBounds_toArray, List.set_cons_zero, List.set_cons_succ, i64_w, i32_w]
                           rfl
                          refine pure_ (i := 19) (N := some 56) (v := ?_) (a' := ?_) #[true, true, true, true, true, true, true, true, true, true, true, true, true, true, true, true, true, true, false, true, false, false, false, false, false, false, false, false, false, false, false, false, false, false, false, false, false, false, false, false, false, false, false, false, false, false, false] rfl rfl (any_of HT_.out (by kernel_rfl)) (fun _ _ _ h => h) (Or.inl ⟨by rfl, ?_⟩) ?_ ?_
                          rotate_left
                          ·intro w'
                           go_simp
                           with_reducible rfl
                          rotate_left
                          ·simp only [Act.put, List.setIfInBounds_toArray, List.set_cons_zero, List.set_cons_succ, i64_w, i32_w]
                           rfl
                          refine pure_ (i := 20) (N := some 57) (v := ?_) (a' := ?_) #[true, true, true, true, true, true, true, true, true, true, true, true, true, true, true, true, true, true, false, true, true, false, false, false, false, false, false, false, false, false, false, false, false, false, false, false, false, false, false, false, false, false, false, false, false, false, false] rfl rfl (any_of HT_.out (by kernel_rfl)) (fun _ _ _ h => h) (Or.inl ⟨by rfl, ?_⟩) ?_ ?_
                          rotate_left
                          ·intro w'
                           go_simp
                           with_reducible rfl
                          rotate_left
                          ·simp only [Act.put, List.setIfInBounds_toArray, List.set_cons_zero, List.set_cons_succ, i64_w, i32_w]
                           rfl
                          exact norm_ (by simp only [putAll, Act.put, List.setIfInBounds_toArray, List.set_cons_zero, List.set_cons_succ] <;> rfl) (hJ2_4_5_9_10_12_13 (v495, v498, v501) _ ⟨HO493.out, HO496.out, HO499.out, HO502.out, HO_5.out, HO_6.out, HB.out⟩)
                        ·skip
                         rintro ⟨v495, v498, v501⟩ w43 ⟨h0_, h1_, h2_, h3_, h4_, h5_, h6_⟩
                         have n0_ : Aside0 (Kd.R (Kd.int .u8) 5 w43 w.heap.size (fun k_ => some k_ ≠ (v498 : Value).ownBlock) v492 t491) := ⟨h0_⟩
                         have n1_ : Aside0 (Kd.V (Kd.int .u8) 5 w43 w.heap.size (fun k_ => some k_ ≠ (v492 : Value).ownBlock ∧ some k_ ≠ (v498 : Value).ownBlock ∧ some k_ ≠ (.slice Ao9 t483.length co9 : Value).ownBlock ∧ some k_ ≠ (.slice Ao10 t486.length co10 : Value).ownBlock) v495 t494) := ⟨h1_⟩
                         have n2_ : Aside0 (Kd.R (Kd.int .u8) 5 w43 w.heap.size (fun k_ => some k_ ≠ (v492 : Value).ownBlock) v498 t497) := ⟨h2_⟩
                         have n3_ : Aside0 (Kd.V (Kd.int .u8) 5 w43 w.heap.size (fun k_ => some k_ ≠ (v492 : Value).ownBlock ∧ some k_ ≠ (v498 : Value).ownBlock ∧ some k_ ≠ (.slice Ao9 t483.length co9 : Value).ownBlock ∧ some k_ ≠ (.slice Ao10 t486.length co10 : Value).ownBlock) v501 t500) := ⟨h3_⟩
                         have n4_ : Aside0 (Kd.N (Kd.slice 5 (Kd.int .u8)) 22 w43 w.heap.size (fun k_ => some k_ ≠ (v492 : Value).ownBlock ∧ some k_ ≠ (v498 : Value).ownBlock ∧ some k_ ≠ (.slice Ao10 t486.length co10 : Value).ownBlock) (.slice Ao9 t483.length co9) t483) := ⟨h4_⟩
                         have n5_ : Aside0 (Kd.N (Kd.slice 5 (Kd.int .u8)) 22 w43 w.heap.size (fun k_ => some k_ ≠ (v492 : Value).ownBlock ∧ some k_ ≠ (v498 : Value).ownBlock ∧ some k_ ≠ (.slice Ao9 t483.length co9 : Value).ownBlock) (.slice Ao10 t486.length co10) t486) := ⟨h5_⟩
                         have n6_ : Aside0 (Below w.heap.size w w43) := ⟨h6_⟩
                         clear HO_5
                         clear HO_6
                         clear HB
                         clear h0_ h1_ h2_ h3_ h4_ h5_ h6_
                         have HO493 := n0_
                         have HO496 := n1_
                         have HO499 := n2_
                         have HO502 := n3_
                         have HO_5 := n4_
                         have HO_6 := n5_
                         have HB := n6_
                         clear n0_ n1_ n2_ n3_ n4_ n5_ n6_
                         have hHeld := trivial
                         refine norm_ (a' := ?_) ?_ ?_
                         rotate_left
                         ·simp only [putAll, Act.put, List.setIfInBounds_toArray, List.set_cons_zero, List.set_cons_succ]
                          rfl
                         refine one_ (i := 18) (N := some 55) #[true, true, true, true, true, true, true, true, true, true, true, true, true, true, true, true, true, true, true, true, true, false, false, false, false, false, false, false, false, false, false, false, false, false, false, false, false, false, false, false, false, false, false, false, false, false, false] rfl rfl (one_of HT_.out (by kernel_rfl)) (by decide) (fun K hK => ?_)
                         refine goes_ Tryd.func30 (by kernel_rfl) rfl #[.slice A0 l0.length c0] (by rfl) rfl rfl (by (try simp only [List.map_toArray, List.map_cons, List.map_nil]); first | done | rfl | (simp only [List.length_drop, List.length_take]; rfl)) ?_
                         with_reducible refine (head_Lines.calls k1 _ _ l0 t503 _ ?side1 ?side2 A25.out).mono ?_
                         (case side1 => repeat (first | exact (Kd.C_below HR0.out HB.out) | (with_reducible refine Kd.C_alloc ?_ _) | (with_reducible refine Kd.C_drewN ?_ _) | (with_reducible refine Kd.C_drew ?_)))
                         (case side2 => exact HC0.out)
                         rintro e w44 ⟨rfl, hb⟩
                         refine ⟨_, rfl, ?_⟩
                         have n0_ := Aside0.mk (Kd.N_below HO_5.out hb)
                         have n1_ := Aside0.mk (Kd.N_below HO_6.out hb)
                         have n2_ := Aside0.mk (Kd.R_below HO493.out hb)
                         have n3_ := Aside0.mk (Kd.V_below HO496.out hb)
                         have n4_ := Aside0.mk (Kd.R_below HO499.out hb)
                         have n5_ := Aside0.mk (Kd.V_below HO502.out hb)
                         have n6_ := Aside0.mk (below_step HB.out hb)
                         clear HO_5
                         clear HO_6
                         clear HO493
                         clear HO496
                         clear HO499
                         clear HO502
                         clear HB
                         have HO_5 := n0_
                         have HO_6 := n1_
                         have HO493 := n2_
                         have HO496 := n3_
                         have HO499 := n4_
                         have HO502 := n5_
                         have HB := n6_
                         clear n0_ n1_ n2_ n3_ n4_ n5_ n6_
                         (try clear hb)
                         (try clear hb2)
                         (try clear hk)
                         (try clear hi)
                         refine hK.out _ _ trivial (fun hHeld => ?_)
                         clear hK K
                         refine norm_ (a' := ?_) ?_ ?_
                         rotate_left
                         ·show Act.put _ (some 55) _ = _
                          simp only [Act.put, List.setIfInBounds_toArray, List.set_cons_zero, List.set_cons_succ, i64_w, i32_w]
                          rfl
                         refine pure_ (i := 21) (N := some 58) (v := ?_) (a' := ?_) #[true, true, true, true, true, true, true, true, true, true, true, true, true, true, true, true, true, true, true, true, true, true, false, false, false, false, false, false, false, false, false, false, false, false, false, false, false, false, false, false, false, false, false, false, false, false, false] rfl rfl (any_of HT_.out (by kernel_rfl)) (fun _ _ _ h => h) (Or.inl ⟨by rfl, ?_⟩) ?_ ?_
                         rotate_left
                         ·intro w'
                          go_simp
                          with_reducible rfl
                         rotate_left
                         ·simp only [Act.put, List.setIfInBounds_toArray, List.set_cons_zero, List.set_cons_succ, i64_w, i32_w]
                          rfl
                         refine pure_ (i := 22) (N := some 59) (v := ?_) (a' := ?_) #[true, true, true, true, true, true, true, true, true, true, true, true, true, true, true, true, true, true, true, true, true, true, true, false, false, false, false, false, false, false, false, false, false, false, false, false, false, false, false, false, false, false, false, false, false, false, false] rfl rfl (any_of HT_.out (by kernel_rfl)) (fun _ _ _ h => h) (Or.inl ⟨by rfl, ?_⟩) ?_ ?_
                         rotate_left
                         ·intro w'
                          go_simp
                          with_reducible rfl
                         rotate_left
                         ·simp only [Act.put, List.setIfInBounds_toArray, List.set_cons_zero, List.set_cons_succ, i64_w, i32_w]
                          rfl
                         refine pure_ (i := 23) (N := some 60) (v := ?_) (a' := ?_) #[true, true, true, true, true, true, true, true, true, true, true, true, true, true, true, true, true, true, true, true, true, true, true, true, false, false, false, false, false, false, false, false, false, false, false, false, false, false, false, false, false, false, false, false, false, false, false] rfl rfl (any_of HT_.out (by kernel_rfl)) (fun _ _ _ h => h) (Or.inl ⟨by rfl, ?_⟩) ?_ ?_
                         rotate_left
                         ·intro w'
                          go_simp
                          with_reducible rfl
                         rotate_left
                         ·simp only [Act.put, List.setIfInBounds_toArray, List.set_cons_zero, List.set_cons_succ, i64_w, i32_w]
                          rfl
                         refine pure_ (i := 24) (N := some 61) (v := ?_) (a' := ?_) #[true, true, true, true, true, true, true, true, true, true, true, true, true, true, true, true, true, true, true, true, true, true, true, true, true, false, false, false, false, false, false, false, false, false, false, false, false, false, false, false, false, false, false, false, false, false, false] rfl rfl (any_of HT_.out (by kernel_rfl)) (fun _ _ _ h => h) (Or.inl ⟨by rfl, ?_⟩) ?_ ?_
                         rotate_left
                         ·intro w'
                          go_simp
                          with_reducible rfl
                         rotate_left
                         ·simp only [Act.put, List.setIfInBounds_toArray, List.set_cons_zero, List.set_cons_succ, i64_w, i32_w]
                          rfl
                         refine pure_ (i := 25) (N := some 62) (v := ?_) (a' := ?_) #[true, true, true, true, true, true, true, true, true, true, true, true, true, true, true, true, true, true, true, true, true, true, true, true, true, true, false, false, false, false, false, false, false, false, false, false, false, false, false, false, false, false, false, false, false, false, false] rfl rfl (any_of HT_.out (by kernel_rfl)) (fun _ _ _ h => h) (Or.inl ⟨by rfl, ?_⟩) ?_ ?_
                         rotate_left
                         ·intro w'
                          go_simp
                          with_reducible rfl
                         rotate_left
                         ·simp only [Act.put, List.setIfInBounds_toArray, List.set_cons_zero, List.set_cons_succ, i64_w, i32_w]
                          rfl
                         refine pure_ (i := 28) (N := some 65) (v := ?_) (a' := ?_) #[true, true, true, true, true, true, true, true, true, true, true, true, true, true, true, true, true, true, true, true, true, true, true, true, true, true, false, false, true, false, false, false, false, false, false, false, false, false, false, false, false, false, false, false, false, false, false] rfl rfl (any_of HT_.out (by kernel_rfl)) (fun _ _ _ h => h) (Or.inl ⟨by rfl, ?_⟩) ?_ ?_
                         rotate_left
                         ·intro w'
                          go_simp
                          with_reducible rfl
                         rotate_left
                         ·simp only [Act.put, List.setIfInBounds_toArray, List.set_cons_zero, List.set_cons_succ, i64_w, i32_w]
                          rfl
                         refine pure_ (i := 29) (N := some 66) (v := ?_) (a' := ?_) #[true, true, true, true, true, true, true, true, true, true, true, true, true, true, true, true, true, true, true, true, true, true, true, true, true, true, false, false, true, true, false, false, false, false, false, false, false, false, false, false, false, false, false, false, false, false, false] rfl rfl (any_of HT_.out (by kernel_rfl)) (fun _ _ _ h => h) (Or.inl ⟨by rfl, ?_⟩) ?_ ?_
                         rotate_left
                         ·intro w'
                          go_simp
                          with_reducible rfl
                         rotate_left
                         ·simp only [Act.put, List.setIfInBounds_toArray, List.set_cons_zero, List.set_cons_succ, i64_w, i32_w]
                          rfl
                         exact norm_ (by simp only [putAll, Act.put, List.setIfInBounds_toArray, List.set_cons_zero, List.set_cons_succ] <;> rfl) (hJ2_4_5_9_10_12_13_18 (v495, v498, v501) _ ⟨HO493.out, HO496.out, HO499.out, HO502.out, HO_5.out, HO_6.out, HB.out⟩)
                       ·skip
                        rintro ⟨v495, v498, v501⟩ w44 ⟨h0_, h1_, h2_, h3_, h4_, h5_, h6_⟩
                        have n0_ : Aside0 (Kd.R (Kd.int .u8) 5 w44 w.heap.size (fun k_ => some k_ ≠ (v498 : Value).ownBlock) v492 t491) := ⟨h0_⟩
                        have n1_ : Aside0 (Kd.V (Kd.int .u8) 5 w44 w.heap.size (fun k_ => some k_ ≠ (v492 : Value).ownBlock ∧ some k_ ≠ (v498 : Value).ownBlock ∧ some k_ ≠ (.slice Ao9 t483.length co9 : Value).ownBlock ∧ some k_ ≠ (.slice Ao10 t486.length co10 : Value).ownBlock) v495 t494) := ⟨h1_⟩
                        have n2_ : Aside0 (Kd.R (Kd.int .u8) 5 w44 w.heap.size (fun k_ => some k_ ≠ (v492 : Value).ownBlock) v498 t497) := ⟨h2_⟩
                        have n3_ : Aside0 (Kd.V (Kd.int .u8) 5 w44 w.heap.size (fun k_ => some k_ ≠ (v492 : Value).ownBlock ∧ some k_ ≠ (v498 : Value).ownBlock ∧ some k_ ≠ (.slice Ao9 t483.length co9 : Value).ownBlock ∧ some k_ ≠ (.slice Ao10 t486.length co10 : Value).ownBlock) v501 t500) := ⟨h3_⟩
                        have n4_ : Aside0 (Kd.N (Kd.slice 5 (Kd.int .u8)) 22 w44 w.heap.size (fun k_ => some k_ ≠ (v492 : Value).ownBlock ∧ some k_ ≠ (v498 : Value).ownBlock ∧ some k_ ≠ (.slice Ao10 t486.length co10 : Value).ownBlock) (.slice Ao9 t483.length co9) t483) := ⟨h4_⟩
                        have n5_ : Aside0 (Kd.N (Kd.slice 5 (Kd.int .u8)) 22 w44 w.heap.size (fun k_ => some k_ ≠ (v492 : Value).ownBlock ∧ some k_ ≠ (v498 : Value).ownBlock ∧ some k_ ≠ (.slice Ao9 t483.length co9 : Value).ownBlock) (.slice Ao10 t486.length co10) t486) := ⟨h5_⟩
                        have n6_ : Aside0 (Below w.heap.size w w44) := ⟨h6_⟩
                        clear HO_5
                        clear HO_6
                        clear HB
                        clear h0_ h1_ h2_ h3_ h4_ h5_ h6_
                        have HO493 := n0_
                        have HO496 := n1_
                        have HO499 := n2_
                        have HO502 := n3_
                        have HO_5 := n4_
                        have HO_6 := n5_
                        have HB := n6_
                        clear n0_ n1_ n2_ n3_ n4_ n5_ n6_
                        have hHeld := trivial
                        refine norm_ (a' := ?_) ?_ ?_
                        rotate_left
                        ·simp only [putAll, Act.put, List.setIfInBounds_toArray, List.set_cons_zero, List.set_cons_succ]
                         rfl
                        refine one_ (i := 26) (N := some 63) #[true, true, true, true, true, true, true, true, true, true, true, true, true, true, true, true, true, true, true, true, true, true, true, true, true, true, true, false, true, true, false, false, false, false, false, false, false, false, false, false, false, false, false, false, false, false, false] rfl rfl (one_of HT_.out (by kernel_rfl)) (by decide) (fun K hK => ?_)
                        refine goes_ Tryd.func26 (by kernel_rfl) rfl #[.slice A0 l0.length c0, .int .i64 a1] (by rfl) rfl rfl (by (try simp only [List.map_toArray, List.map_cons, List.map_nil]); first | done | rfl | (simp only [List.length_drop, List.length_take]; rfl)) ?_
                        with_reducible refine (head_Top.calls k1 _ _ l0 a1 t504 _ ?side1 ?side2 A27.out).mono ?_
                        (case side1 => repeat (first | exact (Kd.C_below HR0.out HB.out) | (with_reducible refine Kd.C_alloc ?_ _) | (with_reducible refine Kd.C_drewN ?_ _) | (with_reducible refine Kd.C_drew ?_)))
                        (case side2 => exact HC0.out)
                        rintro e w45 ⟨v505, rfl, ho0, hb⟩
                        refine ⟨_, rfl, ?_⟩
                        have n0_ := Aside0.mk (Kd.N_elder' HO_5.out (Kd.R_base ho0) hb)
                        have n1_ := Aside0.mk (Kd.N_elder' HO_6.out (Kd.R_base ho0) hb)
                        have n2_ := Aside0.mk (Kd.R_elder' HO493.out (Kd.R_base ho0) hb)
                        have n3_ := Aside0.mk (Kd.V_elder' HO496.out (Kd.R_base ho0) hb)
                        have n4_ := Aside0.mk (Kd.R_elder' HO499.out (Kd.R_base ho0) hb)
                        have n5_ := Aside0.mk (Kd.V_elder' HO502.out (Kd.R_base ho0) hb)
                        have n6_ := Aside0.mk (Kd.R_lower (Kd.R_new' (Kd.R_new' ho0 (Kd.R_lt HO493.out)) (Kd.R_lt HO499.out)) (below_size HB.out))
                        have n7_ := Aside0.mk (below_step HB.out hb)
                        clear HO_5
                        clear HO_6
                        clear HO493
                        clear HO496
                        clear HO499
                        clear HO502
                        clear HB
                        have HO_5 := n0_
                        have HO_6 := n1_
                        have HO493 := n2_
                        have HO496 := n3_
                        have HO499 := n4_
                        have HO502 := n5_
                        have HO506 := n6_
                        have HB := n7_
                        clear n0_ n1_ n2_ n3_ n4_ n5_ n6_ n7_
                        (try clear hb)
                        (try clear hb2)
                        (try clear hk)
                        (try clear hi)
                        (try clear ho0)
                        refine hK.out _ _ trivial (fun hHeld => ?_)
                        clear hK K
                        refine norm_ (a' := ?_) ?_ ?_
                        rotate_left
                        ·show Act.put _ (some 63) _ = _
                         simp only [Act.put, List.setIfInBounds_toArray, List.set_cons_zero, List.set_cons_succ, i64_w, i32_w]
                         rfl
                        exact norm_ (by simp only [putAll, Act.put, List.setIfInBounds_toArray, List.set_cons_zero, List.set_cons_succ] <;> rfl) (hJ2_4_5_9_10_12_13_18_26 (v495, v498, v501, v505) _ ⟨HO493.out, (Kd.V_mono HO496.out (fun _ hk => ⟨hk.1.1, ⟨hk.1.2.1, ⟨hk.2, ⟨hk.1.2.2.1, hk.1.2.2.2⟩⟩⟩⟩)), HO499.out, (Kd.V_mono HO502.out (fun _ hk => ⟨hk.1.1, ⟨hk.1.2.1, ⟨hk.2, ⟨hk.1.2.2.1, hk.1.2.2.2⟩⟩⟩⟩)), (Kd.R_mono HO506.out (fun _ hk => ⟨hk.1.2, hk.2⟩)), (Kd.N_mono HO_5.out (fun _ hk => ⟨hk.1.1, ⟨hk.1.2.1, ⟨hk.2, hk.1.2.2⟩⟩⟩)), (Kd.N_mono HO_6.out (fun _ hk => ⟨hk.1.1, ⟨hk.1.2.1, ⟨hk.2, hk.1.2.2⟩⟩⟩)), HB.out⟩)
                      ·skip
                       rintro ⟨v495, v498, v501, v505⟩ w45 ⟨h0_, h1_, h2_, h3_, h4_, h5_, h6_, h7_⟩
                       have n0_ : Aside0 (Kd.R (Kd.int .u8) 5 w45 w.heap.size (fun k_ => some k_ ≠ (v498 : Value).ownBlock ∧ some k_ ≠ (v505 : Value).ownBlock) v492 t491) := ⟨h0_⟩
                       have n1_ : Aside0 (Kd.V (Kd.int .u8) 5 w45 w.heap.size (fun k_ => some k_ ≠ (v492 : Value).ownBlock ∧ some k_ ≠ (v498 : Value).ownBlock ∧ some k_ ≠ (v505 : Value).ownBlock ∧ some k_ ≠ (.slice Ao9 t483.length co9 : Value).ownBlock ∧ some k_ ≠ (.slice Ao10 t486.length co10 : Value).ownBlock) v495 t494) := ⟨h1_⟩
                       have n2_ : Aside0 (Kd.R (Kd.int .u8) 5 w45 w.heap.size (fun k_ => some k_ ≠ (v492 : Value).ownBlock ∧ some k_ ≠ (v505 : Value).ownBlock) v498 t497) := ⟨h2_⟩
                       have n3_ : Aside0 (Kd.V (Kd.int .u8) 5 w45 w.heap.size (fun k_ => some k_ ≠ (v492 : Value).ownBlock ∧ some k_ ≠ (v498 : Value).ownBlock ∧ some k_ ≠ (v505 : Value).ownBlock ∧ some k_ ≠ (.slice Ao9 t483.length co9 : Value).ownBlock ∧ some k_ ≠ (.slice Ao10 t486.length co10 : Value).ownBlock) v501 t500) := ⟨h3_⟩
                       have n4_ : Aside0 (Kd.R (Kd.int .u8) 5 w45 w.heap.size (fun k_ => some k_ ≠ (v492 : Value).ownBlock ∧ some k_ ≠ (v498 : Value).ownBlock) v505 t504) := ⟨h4_⟩
                       have n5_ : Aside0 (Kd.N (Kd.slice 5 (Kd.int .u8)) 22 w45 w.heap.size (fun k_ => some k_ ≠ (v492 : Value).ownBlock ∧ some k_ ≠ (v498 : Value).ownBlock ∧ some k_ ≠ (v505 : Value).ownBlock ∧ some k_ ≠ (.slice Ao10 t486.length co10 : Value).ownBlock) (.slice Ao9 t483.length co9) t483) := ⟨h5_⟩
                       have n6_ : Aside0 (Kd.N (Kd.slice 5 (Kd.int .u8)) 22 w45 w.heap.size (fun k_ => some k_ ≠ (v492 : Value).ownBlock ∧ some k_ ≠ (v498 : Value).ownBlock ∧ some k_ ≠ (v505 : Value).ownBlock ∧ some k_ ≠ (.slice Ao9 t483.length co9 : Value).ownBlock) (.slice Ao10 t486.length co10) t486) := ⟨h6_⟩
                       have n7_ : Aside0 (Below w.heap.size w w45) := ⟨h7_⟩
                       clear HO_5
                       clear HO_6
                       clear HB
                       clear h0_ h1_ h2_ h3_ h4_ h5_ h6_ h7_
                       have HO493 := n0_
                       have HO496 := n1_
                       have HO499 := n2_
                       have HO502 := n3_
                       have HO506 := n4_
                       have HO_5 := n5_
                       have HO_6 := n6_
                       have HB := n7_
                       clear n0_ n1_ n2_ n3_ n4_ n5_ n6_ n7_
                       have hHeld := trivial
                       refine norm_ (a' := ?_) ?_ ?_
                       rotate_left
                       ·simp only [putAll, Act.put, List.setIfInBounds_toArray, List.set_cons_zero, List.set_cons_succ]
                        rfl
                       refine two_ (i := 27) (j := 30) (Ni := some 64) (Nj := some 67) #[true, true, true, true, true, true, true, true, true, true, true, true, true, true, true, true, true, true, true, true, true, true, true, true, true, true, true, true, true, true, false, false, false, false, false, false, false, false, false, false, false, false, false, false, false, false, false] #[true, true, true, true, true, true, true, true, true, true, true, true, true, true, true, true, true, true, true, true, true, true, true, true, true, true, true, false, true, true, true, false, false, false, false, false, false, false, false, false, false, false, false, false, false, false, false] rfl rfl rfl rfl (two_of HT_.out (by kernel_rfl)) (by decide) (by decide) (fun K hK => ?_) (fun K hK => ?_)
                       ·skip
                        (first | have hcv46 := own_string (P := Tryd.prog) Tryd.underlying22 Tryd.underlying5 Tryd.underlying9 (Kd.own_of_R HO506.out) | have hcv46 := V_string (P := Tryd.prog) Tryd.underlying22 Tryd.underlying5 Tryd.underlying9 HO506.out)
                        refine value_ (w1 := ?_) (v := ?_) (by rfl) rfl ?_ ?_
                        rotate_left 2
                        ·go_simp
                         constructor
                         ·rfl
                         ·rfl
                        clear hcv46
                        refine hK.out _ _ trivial (fun hHeld => ?_)
                        clear hK K
                        refine norm_ (a' := ?_) ?_ ?_
                        rotate_left
                        ·show Act.put _ (some 64) _ = _
                         simp only [Act.put, List.setIfInBounds_toArray, List.set_cons_zero, List.set_cons_succ, i64_w, i32_w]
                         rfl
                        exact norm_ (by simp only [putAll, Act.put, List.setIfInBounds_toArray, List.set_cons_zero, List.set_cons_succ] <;> rfl) (hJ2_4_5_9_10_12_13_18_26_27 (v495, v498, v501, v505) _ ⟨HO493.out, HO496.out, HO499.out, HO502.out, HO506.out, HO_5.out, HO_6.out, HB.out⟩)
                       ·skip
                        refine goes_ Tryd.func31 (by kernel_rfl) rfl #[.slice A0 l0.length c0, .int .i64 a1] (by rfl) rfl rfl (by (try simp only [List.map_toArray, List.map_cons, List.map_nil]); first | done | rfl | (simp only [List.length_drop, List.length_take]; rfl)) ?_
                        with_reducible refine (letterboxref9_Top.calls k1 (fun k_ => k_ < w.heap.size) _ _ l0 a1 t507 _ ?side1 A28.out).mono ?_
                        (case side1 => exact Kd.V_mk HC0.out (Kd.F_below (Kd.C_F (Kd.heap_int .u8) HR0.out) HB.out))
                        rintro e w46 ⟨v508, rfl, ho0, hb⟩
                        refine ⟨_, rfl, ?_⟩
                        have n0_ := Aside0.mk (Kd.N_below HO_5.out hb)
                        have n1_ := Aside0.mk (Kd.N_below HO_6.out hb)
                        have n2_ := Aside0.mk (Kd.R_below HO493.out hb)
                        have n3_ := Aside0.mk (Kd.V_below HO496.out hb)
                        have n4_ := Aside0.mk (Kd.R_below HO499.out hb)
                        have n5_ := Aside0.mk (Kd.V_below HO502.out hb)
                        have n6_ := Aside0.mk (Kd.R_below HO506.out hb)
                        have n7_ := Aside0.mk (Kd.V_lower (Kd.V_mono (ok' := fun k_ => some k_ ≠ (.slice Ao9 t483.length co9 : Value).ownBlock ∧ some k_ ≠ (.slice Ao10 t486.length co10 : Value).ownBlock ∧ some k_ ≠ (v492 : Value).ownBlock ∧ some k_ ≠ (v498 : Value).ownBlock ∧ some k_ ≠ (v505 : Value).ownBlock) ho0 (fun k_ hk_ => ⟨Or.elim hk_ (fun hs_ => fun e_ => Nat.not_le.2 hs_ (Kd.N_base HO_5.out k_ e_.symm)) (fun hn_ => (Kd.fresh' (Kd.N_lt HO_5.out) k_ hn_)), Or.elim hk_ (fun hs_ => fun e_ => Nat.not_le.2 hs_ (Kd.N_base HO_6.out k_ e_.symm)) (fun hn_ => (Kd.fresh' (Kd.N_lt HO_6.out) k_ hn_)), Or.elim hk_ (fun hs_ => fun e_ => Nat.not_le.2 hs_ (Kd.R_base HO493.out k_ e_.symm)) (fun hn_ => (Kd.fresh' (Kd.R_lt HO493.out) k_ hn_)), Or.elim hk_ (fun hs_ => fun e_ => Nat.not_le.2 hs_ (Kd.R_base HO499.out k_ e_.symm)) (fun hn_ => (Kd.fresh' (Kd.R_lt HO499.out) k_ hn_)), Or.elim hk_ (fun hs_ => fun e_ => Nat.not_le.2 hs_ (Kd.R_base HO506.out k_ e_.symm)) (fun hn_ => (Kd.fresh' (Kd.R_lt HO506.out) k_ hn_))⟩)) (below_size HB.out))
                        have n8_ := Aside0.mk (below_step HB.out hb)
                        clear HO_5
                        clear HO_6
                        clear HO493
                        clear HO496
                        clear HO499
                        clear HO502
                        clear HO506
                        clear HB
                        have HO_5 := n0_
                        have HO_6 := n1_
                        have HO493 := n2_
                        have HO496 := n3_
                        have HO499 := n4_
                        have HO502 := n5_
                        have HO506 := n6_
                        have HO509 := n7_
                        have HB := n8_
                        clear n0_ n1_ n2_ n3_ n4_ n5_ n6_ n7_ n8_
                        (try clear hb)
                        (try clear hb2)
                        (try clear hk)
                        (try clear hi)
                        (try clear ho0)
                        refine hK.out _ _ trivial (fun hHeld => ?_)
                        clear hK K
                        refine norm_ (a' := ?_) ?_ ?_
                        rotate_left
                        ·show Act.put _ (some 67) _ = _
                         simp only [Act.put, List.setIfInBounds_toArray, List.set_cons_zero, List.set_cons_succ, i64_w, i32_w]
                         rfl
                        exact norm_ (by simp only [putAll, Act.put, List.setIfInBounds_toArray, List.set_cons_zero, List.set_cons_succ] <;> rfl) (hJ2_4_5_9_10_12_13_18_26_30 (v495, v498, v501, v505, v508) _ ⟨HO493.out, HO496.out, HO499.out, HO502.out, HO506.out, (Kd.V_mono HO509.out (fun _ hk => ⟨hk.2.2.1, ⟨hk.2.2.2.1, ⟨hk.2.2.2.2, ⟨hk.1, hk.2.1⟩⟩⟩⟩)), HO_5.out, HO_6.out, HB.out⟩)
                     ·skip
                      rintro ⟨v495, v498, v501, v505, v508⟩ w46 ⟨h0_, h1_, h2_, h3_, h4_, h5_, h6_, h7_, h8_⟩
                      have n0_ : Aside0 (Kd.R (Kd.int .u8) 5 w46 w.heap.size (fun k_ => some k_ ≠ (v498 : Value).ownBlock ∧ some k_ ≠ (v505 : Value).ownBlock) v492 t491) := ⟨h0_⟩
                      have n1_ : Aside0 (Kd.V (Kd.int .u8) 5 w46 w.heap.size (fun k_ => some k_ ≠ (v492 : Value).ownBlock ∧ some k_ ≠ (v498 : Value).ownBlock ∧ some k_ ≠ (v505 : Value).ownBlock ∧ some k_ ≠ (.slice Ao9 t483.length co9 : Value).ownBlock ∧ some k_ ≠ (.slice Ao10 t486.length co10 : Value).ownBlock) v495 t494) := ⟨h1_⟩
                      have n2_ : Aside0 (Kd.R (Kd.int .u8) 5 w46 w.heap.size (fun k_ => some k_ ≠ (v492 : Value).ownBlock ∧ some k_ ≠ (v505 : Value).ownBlock) v498 t497) := ⟨h2_⟩
                      have n3_ : Aside0 (Kd.V (Kd.int .u8) 5 w46 w.heap.size (fun k_ => some k_ ≠ (v492 : Value).ownBlock ∧ some k_ ≠ (v498 : Value).ownBlock ∧ some k_ ≠ (v505 : Value).ownBlock ∧ some k_ ≠ (.slice Ao9 t483.length co9 : Value).ownBlock ∧ some k_ ≠ (.slice Ao10 t486.length co10 : Value).ownBlock) v501 t500) := ⟨h3_⟩
                      have n4_ : Aside0 (Kd.R (Kd.int .u8) 5 w46 w.heap.size (fun k_ => some k_ ≠ (v492 : Value).ownBlock ∧ some k_ ≠ (v498 : Value).ownBlock) v505 t504) := ⟨h4_⟩
                      have n5_ : Aside0 (Kd.V (Kd.int .u8) 5 w46 w.heap.size (fun k_ => some k_ ≠ (v492 : Value).ownBlock ∧ some k_ ≠ (v498 : Value).ownBlock ∧ some k_ ≠ (v505 : Value).ownBlock ∧ some k_ ≠ (.slice Ao9 t483.length co9 : Value).ownBlock ∧ some k_ ≠ (.slice Ao10 t486.length co10 : Value).ownBlock) v508 t507) := ⟨h5_⟩
                      have n6_ : Aside0 (Kd.N (Kd.slice 5 (Kd.int .u8)) 22 w46 w.heap.size (fun k_ => some k_ ≠ (v492 : Value).ownBlock ∧ some k_ ≠ (v498 : Value).ownBlock ∧ some k_ ≠ (v505 : Value).ownBlock ∧ some k_ ≠ (.slice Ao10 t486.length co10 : Value).ownBlock) (.slice Ao9 t483.length co9) t483) := ⟨h6_⟩
                      have n7_ : Aside0 (Kd.N (Kd.slice 5 (Kd.int .u8)) 22 w46 w.heap.size (fun k_ => some k_ ≠ (v492 : Value).ownBlock ∧ some k_ ≠ (v498 : Value).ownBlock ∧ some k_ ≠ (v505 : Value).ownBlock ∧ some k_ ≠ (.slice Ao9 t483.length co9 : Value).ownBlock) (.slice Ao10 t486.length co10) t486) := ⟨h7_⟩
                      have n8_ : Aside0 (Below w.heap.size w w46) := ⟨h8_⟩
                      clear HO_5
                      clear HO_6
                      clear HB
                      clear h0_ h1_ h2_ h3_ h4_ h5_ h6_ h7_ h8_
                      have HO493 := n0_
                      have HO496 := n1_
                      have HO499 := n2_
                      have HO502 := n3_
                      have HO506 := n4_
                      have HO509 := n5_
                      have HO_5 := n6_
                      have HO_6 := n7_
                      have HB := n8_
                      clear n0_ n1_ n2_ n3_ n4_ n5_ n6_ n7_ n8_
                      have hHeld := trivial
                      refine norm_ (a' := ?_) ?_ ?_
                      rotate_left
                      ·simp only [putAll, Act.put, List.setIfInBounds_toArray, List.set_cons_zero, List.set_cons_succ]
                       rfl
                      refine two_ (i := 27) (j := 31) (Ni := some 64) (Nj := some 68) #[true, true, true, true, true, true, true, true, true, true, true, true, true, true, true, true, true, true, true, true, true, true, true, true, true, true, true, true, true, true, true, false, false, false, false, false, false, false, false, false, false, false, false, false, false, false, false] #[true, true, true, true, true, true, true, true, true, true, true, true, true, true, true, true, true, true, true, true, true, true, true, true, true, true, true, false, true, true, true, true, false, false, false, false, false, false, false, false, false, false, false, false, false, false, false] rfl rfl rfl rfl (two_of HT_.out (by kernel_rfl)) (by decide) (by decide) (fun K hK => ?_) (fun K hK => ?_)
                      ·skip
                       (first | have hcv47 := own_string (P := Tryd.prog) Tryd.underlying22 Tryd.underlying5 Tryd.underlying9 (Kd.own_of_R HO506.out) | have hcv47 := V_string (P := Tryd.prog) Tryd.underlying22 Tryd.underlying5 Tryd.underlying9 HO506.out)
                       refine value_ (w1 := ?_) (v := ?_) (by rfl) rfl ?_ ?_
                       rotate_left 2
                       ·go_simp
                        constructor
                        ·rfl
                        ·rfl
                       clear hcv47
                       refine hK.out _ _ trivial (fun hHeld => ?_)
                       clear hK K
                       refine norm_ (a' := ?_) ?_ ?_
                       rotate_left
                       ·show Act.put _ (some 64) _ = _
                        simp only [Act.put, List.setIfInBounds_toArray, List.set_cons_zero, List.set_cons_succ, i64_w, i32_w]
                        rfl
                       exact norm_ (by simp only [putAll, Act.put, List.setIfInBounds_toArray, List.set_cons_zero, List.set_cons_succ] <;> rfl) (hJ2_4_5_9_10_12_13_18_26_27_30 (v495, v498, v501, v505, v508) _ ⟨HO493.out, HO496.out, HO499.out, HO502.out, HO506.out, HO509.out, HO_5.out, HO_6.out, HB.out⟩)
                      ·skip
                       (first | have hcv47 := own_string (P := Tryd.prog) Tryd.underlying22 Tryd.underlying5 Tryd.underlying9 (Kd.own_of_R HO509.out) | have hcv47 := V_string (P := Tryd.prog) Tryd.underlying22 Tryd.underlying5 Tryd.underlying9 HO509.out)
                       refine value_ (w1 := ?_) (v := ?_) (by rfl) rfl ?_ ?_
                       rotate_left 2
                       ·go_simp
                        constructor
                        ·rfl
                        ·rfl
                       clear hcv47
                       refine hK.out _ _ trivial (fun hHeld => ?_)
                       clear hK K
                       refine norm_ (a' := ?_) ?_ ?_
                       rotate_left
                       ·show Act.put _ (some 68) _ = _
                        simp only [Act.put, List.setIfInBounds_toArray, List.set_cons_zero, List.set_cons_succ, i64_w, i32_w]
                        rfl
                       exact norm_ (by simp only [putAll, Act.put, List.setIfInBounds_toArray, List.set_cons_zero, List.set_cons_succ] <;> rfl) (hJ2_4_5_9_10_12_13_18_26_30_31 (v495, v498, v501, v505, v508) _ ⟨HO493.out, HO496.out, HO499.out, HO502.out, HO506.out, HO509.out, HO_5.out, HO_6.out, HB.out⟩)
                    ·skip
                     rintro ⟨v495, v498, v501, v505⟩ w46 ⟨h0_, h1_, h2_, h3_, h4_, h5_, h6_, h7_⟩
                     have n0_ : Aside0 (Kd.R (Kd.int .u8) 5 w46 w.heap.size (fun k_ => some k_ ≠ (v498 : Value).ownBlock ∧ some k_ ≠ (v505 : Value).ownBlock) v492 t491) := ⟨h0_⟩
                     have n1_ : Aside0 (Kd.V (Kd.int .u8) 5 w46 w.heap.size (fun k_ => some k_ ≠ (v492 : Value).ownBlock ∧ some k_ ≠ (v498 : Value).ownBlock ∧ some k_ ≠ (v505 : Value).ownBlock ∧ some k_ ≠ (.slice Ao9 t483.length co9 : Value).ownBlock ∧ some k_ ≠ (.slice Ao10 t486.length co10 : Value).ownBlock) v495 t494) := ⟨h1_⟩
                     have n2_ : Aside0 (Kd.R (Kd.int .u8) 5 w46 w.heap.size (fun k_ => some k_ ≠ (v492 : Value).ownBlock ∧ some k_ ≠ (v505 : Value).ownBlock) v498 t497) := ⟨h2_⟩
                     have n3_ : Aside0 (Kd.V (Kd.int .u8) 5 w46 w.heap.size (fun k_ => some k_ ≠ (v492 : Value).ownBlock ∧ some k_ ≠ (v498 : Value).ownBlock ∧ some k_ ≠ (v505 : Value).ownBlock ∧ some k_ ≠ (.slice Ao9 t483.length co9 : Value).ownBlock ∧ some k_ ≠ (.slice Ao10 t486.length co10 : Value).ownBlock) v501 t500) := ⟨h3_⟩
                     have n4_ : Aside0 (Kd.R (Kd.int .u8) 5 w46 w.heap.size (fun k_ => some k_ ≠ (v492 : Value).ownBlock ∧ some k_ ≠ (v498 : Value).ownBlock) v505 t504) := ⟨h4_⟩
                     have n5_ : Aside0 (Kd.N (Kd.slice 5 (Kd.int .u8)) 22 w46 w.heap.size (fun k_ => some k_ ≠ (v492 : Value).ownBlock ∧ some k_ ≠ (v498 : Value).ownBlock ∧ some k_ ≠ (v505 : Value).ownBlock ∧ some k_ ≠ (.slice Ao10 t486.length co10 : Value).ownBlock) (.slice Ao9 t483.length co9) t483) := ⟨h5_⟩
                     have n6_ : Aside0 (Kd.N (Kd.slice 5 (Kd.int .u8)) 22 w46 w.heap.size (fun k_ => some k_ ≠ (v492 : Value).ownBlock ∧ some k_ ≠ (v498 : Value).ownBlock ∧ some k_ ≠ (v505 : Value).ownBlock ∧ some k_ ≠ (.slice Ao9 t483.length co9 : Value).ownBlock) (.slice Ao10 t486.length co10) t486) := ⟨h6_⟩
                     have n7_ : Aside0 (Below w.heap.size w w46) := ⟨h7_⟩
                     clear HO_5
                     clear HO_6
                     clear HB
                     clear h0_ h1_ h2_ h3_ h4_ h5_ h6_ h7_
                     have HO493 := n0_
                     have HO496 := n1_
                     have HO499 := n2_
                     have HO502 := n3_
                     have HO506 := n4_
                     have HO_5 := n5_
                     have HO_6 := n6_
                     have HB := n7_
                     clear n0_ n1_ n2_ n3_ n4_ n5_ n6_ n7_
                     have hHeld := trivial
                     refine norm_ (a' := ?_) ?_ ?_
                     rotate_left
                     ·simp only [putAll, Act.put, List.setIfInBounds_toArray, List.set_cons_zero, List.set_cons_succ]
                      rfl
                     refine one_ (i := 30) (N := some 67) #[true, true, true, true, true, true, true, true, true, true, true, true, true, true, true, true, true, true, true, true, true, true, true, true, true, true, true, true, true, true, true, false, false, false, false, false, false, false, false, false, false, false, false, false, false, false, false] rfl rfl (one_of HT_.out (by kernel_rfl)) (by decide) (fun K hK => ?_)
                     refine goes_ Tryd.func31 (by kernel_rfl) rfl #[.slice A0 l0.length c0, .int .i64 a1] (by rfl) rfl rfl (by (try simp only [List.map_toArray, List.map_cons, List.map_nil]); first | done | rfl | (simp only [List.length_drop, List.length_take]; rfl)) ?_
                     with_reducible refine (letterboxref9_Top.calls k1 (fun k_ => k_ < w.heap.size) _ _ l0 a1 t507 _ ?side1 A28.out).mono ?_
                     (case side1 => exact Kd.V_mk HC0.out (Kd.F_below (Kd.C_F (Kd.heap_int .u8) HR0.out) HB.out))
                     rintro e w47 ⟨v508, rfl, ho0, hb⟩
                     refine ⟨_, rfl, ?_⟩
                     have n0_ := Aside0.mk (Kd.N_below HO_5.out hb)
                     have n1_ := Aside0.mk (Kd.N_below HO_6.out hb)
                     have n2_ := Aside0.mk (Kd.R_below HO493.out hb)
                     have n3_ := Aside0.mk (Kd.V_below HO496.out hb)
                     have n4_ := Aside0.mk (Kd.R_below HO499.out hb)
                     have n5_ := Aside0.mk (Kd.V_below HO502.out hb)
                     have n6_ := Aside0.mk (Kd.R_below HO506.out hb)
                     have n7_ := Aside0.mk (Kd.V_lower (Kd.V_mono (ok' := fun k_ => some k_ ≠ (.slice Ao9 t483.length co9 : Value).ownBlock ∧ some k_ ≠ (.slice Ao10 t486.length co10 : Value).ownBlock ∧ some k_ ≠ (v492 : Value).ownBlock ∧ some k_ ≠ (v498 : Value).ownBlock ∧ some k_ ≠ (v505 : Value).ownBlock) ho0 (fun k_ hk_ => ⟨Or.elim hk_ (fun hs_ => fun e_ => Nat.not_le.2 hs_ (Kd.N_base HO_5.out k_ e_.symm)) (fun hn_ => (Kd.fresh' (Kd.N_lt HO_5.out) k_ hn_)), Or.elim hk_ (fun hs_ => fun e_ => Nat.not_le.2 hs_ (Kd.N_base HO_6.out k_ e_.symm)) (fun hn_ => (Kd.fresh' (Kd.N_lt HO_6.out) k_ hn_)), Or.elim hk_ (fun hs_ => fun e_ => Nat.not_le.2 hs_ (Kd.R_base HO493.out k_ e_.symm)) (fun hn_ => (Kd.fresh' (Kd.R_lt HO493.out) k_ hn_)), Or.elim hk_ (fun hs_ => fun e_ => Nat.not_le.2 hs_ (Kd.R_base HO499.out k_ e_.symm)) (fun hn_ => (Kd.fresh' (Kd.R_lt HO499.out) k_ hn_)), Or.elim hk_ (fun hs_ => fun e_ => Nat.not_le.2 hs_ (Kd.R_base HO506.out k_ e_.symm)) (fun hn_ => (Kd.fresh' (Kd.R_lt HO506.out) k_ hn_))⟩)) (below_size HB.out))
                     have n8_ := Aside0.mk (below_step HB.out hb)
                     clear HO_5
                     clear HO_6
                     clear HO493
                     clear HO496
                     clear HO499
                     clear HO502
                     clear HO506
                     clear HB
                     have HO_5 := n0_
                     have HO_6 := n1_
                     have HO493 := n2_
                     have HO496 := n3_
                     have HO499 := n4_
                     have HO502 := n5_
                     have HO506 := n6_
                     have HO509 := n7_
                     have HB := n8_
                     clear n0_ n1_ n2_ n3_ n4_ n5_ n6_ n7_ n8_
                     (try clear hb)
                     (try clear hb2)
                     (try clear hk)
                     (try clear hi)
                     (try clear ho0)
                     refine hK.out _ _ trivial (fun hHeld => ?_)
                     clear hK K
                     refine norm_ (a' := ?_) ?_ ?_
                     rotate_left
                     ·show Act.put _ (some 67) _ = _
                      simp only [Act.put, List.setIfInBounds_toArray, List.set_cons_zero, List.set_cons_succ, i64_w, i32_w]
                      rfl
                     exact norm_ (by simp only [putAll, Act.put, List.setIfInBounds_toArray, List.set_cons_zero, List.set_cons_succ] <;> rfl) (hJ2_4_5_9_10_12_13_18_26_27_30 (v495, v498, v501, v505, v508) _ ⟨HO493.out, HO496.out, HO499.out, HO502.out, HO506.out, (Kd.V_mono HO509.out (fun _ hk => ⟨hk.2.2.1, ⟨hk.2.2.2.1, ⟨hk.2.2.2.2, ⟨hk.1, hk.2.1⟩⟩⟩⟩)), HO_5.out, HO_6.out, HB.out⟩)
                   ·skip
                    rintro ⟨v495, v498, v501, v505, v508⟩ w47 ⟨h0_, h1_, h2_, h3_, h4_, h5_, h6_, h7_, h8_⟩
                    have n0_ : Aside0 (Kd.R (Kd.int .u8) 5 w47 w.heap.size (fun k_ => some k_ ≠ (v498 : Value).ownBlock ∧ some k_ ≠ (v505 : Value).ownBlock) v492 t491) := ⟨h0_⟩
                    have n1_ : Aside0 (Kd.V (Kd.int .u8) 5 w47 w.heap.size (fun k_ => some k_ ≠ (v492 : Value).ownBlock ∧ some k_ ≠ (v498 : Value).ownBlock ∧ some k_ ≠ (v505 : Value).ownBlock ∧ some k_ ≠ (.slice Ao9 t483.length co9 : Value).ownBlock ∧ some k_ ≠ (.slice Ao10 t486.length co10 : Value).ownBlock) v495 t494) := ⟨h1_⟩
                    have n2_ : Aside0 (Kd.R (Kd.int .u8) 5 w47 w.heap.size (fun k_ => some k_ ≠ (v492 : Value).ownBlock ∧ some k_ ≠ (v505 : Value).ownBlock) v498 t497) := ⟨h2_⟩
                    have n3_ : Aside0 (Kd.V (Kd.int .u8) 5 w47 w.heap.size (fun k_ => some k_ ≠ (v492 : Value).ownBlock ∧ some k_ ≠ (v498 : Value).ownBlock ∧ some k_ ≠ (v505 : Value).ownBlock ∧ some k_ ≠ (.slice Ao9 t483.length co9 : Value).ownBlock ∧ some k_ ≠ (.slice Ao10 t486.length co10 : Value).ownBlock) v501 t500) := ⟨h3_⟩
                    have n4_ : Aside0 (Kd.R (Kd.int .u8) 5 w47 w.heap.size (fun k_ => some k_ ≠ (v492 : Value).ownBlock ∧ some k_ ≠ (v498 : Value).ownBlock) v505 t504) := ⟨h4_⟩
                    have n5_ : Aside0 (Kd.V (Kd.int .u8) 5 w47 w.heap.size (fun k_ => some k_ ≠ (v492 : Value).ownBlock ∧ some k_ ≠ (v498 : Value).ownBlock ∧ some k_ ≠ (v505 : Value).ownBlock ∧ some k_ ≠ (.slice Ao9 t483.length co9 : Value).ownBlock ∧ some k_ ≠ (.slice Ao10 t486.length co10 : Value).ownBlock) v508 t507) := ⟨h5_⟩
                    have n6_ : Aside0 (Kd.N (Kd.slice 5 (Kd.int .u8)) 22 w47 w.heap.size (fun k_ => some k_ ≠ (v492 : Value).ownBlock ∧ some k_ ≠ (v498 : Value).ownBlock ∧ some k_ ≠ (v505 : Value).ownBlock ∧ some k_ ≠ (.slice Ao10 t486.length co10 : Value).ownBlock) (.slice Ao9 t483.length co9) t483) := ⟨h6_⟩
                    have n7_ : Aside0 (Kd.N (Kd.slice 5 (Kd.int .u8)) 22 w47 w.heap.size (fun k_ => some k_ ≠ (v492 : Value).ownBlock ∧ some k_ ≠ (v498 : Value).ownBlock ∧ some k_ ≠ (v505 : Value).ownBlock ∧ some k_ ≠ (.slice Ao9 t483.length co9 : Value).ownBlock) (.slice Ao10 t486.length co10) t486) := ⟨h7_⟩
                    have n8_ : Aside0 (Below w.heap.size w w47) := ⟨h8_⟩
                    clear HO_5
                    clear HO_6
                    clear HB
                    clear h0_ h1_ h2_ h3_ h4_ h5_ h6_ h7_ h8_
                    have HO493 := n0_
                    have HO496 := n1_
                    have HO499 := n2_
                    have HO502 := n3_
                    have HO506 := n4_
                    have HO509 := n5_
                    have HO_5 := n6_
                    have HO_6 := n7_
                    have HB := n8_
                    clear n0_ n1_ n2_ n3_ n4_ n5_ n6_ n7_ n8_
                    have hHeld := trivial
                    refine norm_ (a' := ?_) ?_ ?_
                    rotate_left
                    ·simp only [putAll, Act.put, List.setIfInBounds_toArray, List.set_cons_zero, List.set_cons_succ]
                     rfl
                    refine one_ (i := 27) (N := some 64) #[true, true, true, true, true, true, true, true, true, true, true, true, true, true, true, true, true, true, true, true, true, true, true, true, true, true, true, true, true, true, true, true, false, false, false, false, false, false, false, false, false, false, false, false, false, false, false] rfl rfl (one_of HT_.out (by kernel_rfl)) (by decide) (fun K hK => ?_)
                    (first | have hcv48 := own_string (P := Tryd.prog) Tryd.underlying22 Tryd.underlying5 Tryd.underlying9 (Kd.own_of_R HO506.out) | have hcv48 := V_string (P := Tryd.prog) Tryd.underlying22 Tryd.underlying5 Tryd.underlying9 HO506.out)
                    refine value_ (w1 := ?_) (v := ?_) (by rfl) rfl ?_ ?_
                    rotate_left 2
                    ·go_simp
                     constructor
                     ·rfl
                     ·rfl
                    clear hcv48
                    refine hK.out _ _ trivial (fun hHeld => ?_)
                    clear hK K
                    refine norm_ (a' := ?_) ?_ ?_
                    rotate_left
                    ·show Act.put _ (some 64) _ = _
                     simp only [Act.put, List.setIfInBounds_toArray, List.set_cons_zero, List.set_cons_succ, i64_w, i32_w]
                     rfl
                    refine pure_ (i := 32) (N := some 69) (v := ?_) (a' := ?_) #[true, true, true, true, true, true, true, true, true, true, true, true, true, true, true, true, true, true, true, true, true, true, true, true, true, true, true, true, true, true, true, true, true, false, false, false, false, false, false, false, false, false, false, false, false, false, false] rfl rfl (any_of HT_.out (by kernel_rfl)) (fun _ _ _ h => h) (Or.inl ⟨by rfl, ?_⟩) ?_ ?_
                    rotate_left
                    ·intro w'
                     go_simp
                     with_reducible rfl
                    rotate_left
                    ·simp only [Act.put, List.setIfInBounds_toArray, List.set_cons_zero, List.set_cons_succ, i64_w, i32_w]
                     rfl
                    refine pure_ (i := 33) (N := some 70) (v := ?_) (a' := ?_) #[true, true, true, true, true, true, true, true, true, true, true, true, true, true, true, true, true, true, true, true, true, true, true, true, true, true, true, true, true, true, true, true, true, true, false, false, false, false, false, false, false, false, false, false, false, false, false] rfl rfl (any_of HT_.out (by kernel_rfl)) (fun _ _ _ h => h) (Or.inl ⟨by rfl, ?_⟩) ?_ ?_
                    rotate_left
                    ·intro w'
                     go_simp
                     with_reducible rfl
                    rotate_left
                    ·simp only [Act.put, List.setIfInBounds_toArray, List.set_cons_zero, List.set_cons_succ, i64_w, i32_w]
                     rfl
                    refine pure_ (i := 34) (N := some 71) (v := ?_) (a' := ?_) #[true, true, true, true, true, true, true, true, true, true, true, true, true, true, true, true, true, true, true, true, true, true, true, true, true, true, true, true, true, true, true, true, true, true, true, false, false, false, false, false, false, false, false, false, false, false, false] rfl rfl (any_of HT_.out (by kernel_rfl)) (fun _ _ _ h => h) (Or.inl ⟨by rfl, ?_⟩) ?_ ?_
                    rotate_left
                    ·intro w'
                     go_simp
                     with_reducible rfl
                    rotate_left
                    ·simp only [Act.put, List.setIfInBounds_toArray, List.set_cons_zero, List.set_cons_succ, i64_w, i32_w]
                     rfl
                    refine pure_ (i := 35) (N := some 72) (v := ?_) (a' := ?_) #[true, true, true, true, true, true, true, true, true, true, true, true, true, true, true, true, true, true, true, true, true, true, true, true, true, true, true, true, true, true, true, true, true, true, true, true, false, false, false, false, false, false, false, false, false, false, false] rfl rfl (any_of HT_.out (by kernel_rfl)) (fun _ _ _ h => h) (Or.inl ⟨by rfl, ?_⟩) ?_ ?_
                    rotate_left
                    ·intro w'
                     go_simp
                     with_reducible rfl
                    rotate_left
                    ·simp only [Act.put, List.setIfInBounds_toArray, List.set_cons_zero, List.set_cons_succ, i64_w, i32_w]
                     rfl
                    refine pure_ (i := 38) (N := some 75) (v := ?_) (a' := ?_) #[true, true, true, true, true, true, true, true, true, true, true, true, true, true, true, true, true, true, true, true, true, true, true, true, true, true, true, true, true, true, true, true, true, true, true, true, false, false, true, false, false, false, false, false, false, false, false] rfl rfl (any_of HT_.out (by kernel_rfl)) (fun _ _ _ h => h) (Or.inl ⟨by rfl, ?_⟩) ?_ ?_
                    rotate_left
                    ·intro w'
                     go_simp
                     with_reducible rfl
                    rotate_left
                    ·simp only [Act.put, List.setIfInBounds_toArray, List.set_cons_zero, List.set_cons_succ, i64_w, i32_w]
                     rfl
                    exact norm_ (by simp only [putAll, Act.put, List.setIfInBounds_toArray, List.set_cons_zero, List.set_cons_succ] <;> rfl) (hJ2_4_5_9_10_12_13_18_26_27_30_31 (v495, v498, v501, v505, v508) _ ⟨HO493.out, HO496.out, HO499.out, HO502.out, HO506.out, HO509.out, HO_5.out, HO_6.out, HB.out⟩)
                  ·skip
                   rintro ⟨v495, v498, v501, v505, v508⟩ w47 ⟨h0_, h1_, h2_, h3_, h4_, h5_, h6_, h7_, h8_⟩
                   have n0_ : Aside0 (Kd.R (Kd.int .u8) 5 w47 w.heap.size (fun k_ => some k_ ≠ (v498 : Value).ownBlock ∧ some k_ ≠ (v505 : Value).ownBlock) v492 t491) := ⟨h0_⟩
                   have n1_ : Aside0 (Kd.V (Kd.int .u8) 5 w47 w.heap.size (fun k_ => some k_ ≠ (v492 : Value).ownBlock ∧ some k_ ≠ (v498 : Value).ownBlock ∧ some k_ ≠ (v505 : Value).ownBlock ∧ some k_ ≠ (.slice Ao9 t483.length co9 : Value).ownBlock ∧ some k_ ≠ (.slice Ao10 t486.length co10 : Value).ownBlock) v495 t494) := ⟨h1_⟩
                   have n2_ : Aside0 (Kd.R (Kd.int .u8) 5 w47 w.heap.size (fun k_ => some k_ ≠ (v492 : Value).ownBlock ∧ some k_ ≠ (v505 : Value).ownBlock) v498 t497) := ⟨h2_⟩
                   have n3_ : Aside0 (Kd.V (Kd.int .u8) 5 w47 w.heap.size (fun k_ => some k_ ≠ (v492 : Value).ownBlock ∧ some k_ ≠ (v498 : Value).ownBlock ∧ some k_ ≠ (v505 : Value).ownBlock ∧ some k_ ≠ (.slice Ao9 t483.length co9 : Value).ownBlock ∧ some k_ ≠ (.slice Ao10 t486.length co10 : Value).ownBlock) v501 t500) := ⟨h3_⟩
                   have n4_ : Aside0 (Kd.R (Kd.int .u8) 5 w47 w.heap.size (fun k_ => some k_ ≠ (v492 : Value).ownBlock ∧ some k_ ≠ (v498 : Value).ownBlock) v505 t504) := ⟨h4_⟩
                   have n5_ : Aside0 (Kd.V (Kd.int .u8) 5 w47 w.heap.size (fun k_ => some k_ ≠ (v492 : Value).ownBlock ∧ some k_ ≠ (v498 : Value).ownBlock ∧ some k_ ≠ (v505 : Value).ownBlock ∧ some k_ ≠ (.slice Ao9 t483.length co9 : Value).ownBlock ∧ some k_ ≠ (.slice Ao10 t486.length co10 : Value).ownBlock) v508 t507) := ⟨h5_⟩
                   have n6_ : Aside0 (Kd.N (Kd.slice 5 (Kd.int .u8)) 22 w47 w.heap.size (fun k_ => some k_ ≠ (v492 : Value).ownBlock ∧ some k_ ≠ (v498 : Value).ownBlock ∧ some k_ ≠ (v505 : Value).ownBlock ∧ some k_ ≠ (.slice Ao10 t486.length co10 : Value).ownBlock) (.slice Ao9 t483.length co9) t483) := ⟨h6_⟩
                   have n7_ : Aside0 (Kd.N (Kd.slice 5 (Kd.int .u8)) 22 w47 w.heap.size (fun k_ => some k_ ≠ (v492 : Value).ownBlock ∧ some k_ ≠ (v498 : Value).ownBlock ∧ some k_ ≠ (v505 : Value).ownBlock ∧ some k_ ≠ (.slice Ao9 t483.length co9 : Value).ownBlock) (.slice Ao10 t486.length co10) t486) := ⟨h7_⟩
                   have n8_ : Aside0 (Below w.heap.size w w47) := ⟨h8_⟩
                   clear HO_5
                   clear HO_6
                   clear HB
                   clear h0_ h1_ h2_ h3_ h4_ h5_ h6_ h7_ h8_
                   have HO493 := n0_
                   have HO496 := n1_
                   have HO499 := n2_
                   have HO502 := n3_
                   have HO506 := n4_
                   have HO509 := n5_
                   have HO_5 := n6_
                   have HO_6 := n7_
                   have HB := n8_
                   clear n0_ n1_ n2_ n3_ n4_ n5_ n6_ n7_ n8_
                   have hHeld := trivial
                   refine norm_ (a' := ?_) ?_ ?_
                   rotate_left
                   ·simp only [putAll, Act.put, List.setIfInBounds_toArray, List.set_cons_zero, List.set_cons_succ]
                    rfl
                   refine one_ (i := 31) (N := some 68) #[true, true, true, true, true, true, true, true, true, true, true, true, true, true, true, true, true, true, true, true, true, true, true, true, true, true, true, true, true, true, true, true, false, false, false, false, false, false, false, false, false, false, false, false, false, false, false] rfl rfl (one_of HT_.out (by kernel_rfl)) (by decide) (fun K hK => ?_)
                   (first | have hcv48 := own_string (P := Tryd.prog) Tryd.underlying22 Tryd.underlying5 Tryd.underlying9 (Kd.own_of_R HO509.out) | have hcv48 := V_string (P := Tryd.prog) Tryd.underlying22 Tryd.underlying5 Tryd.underlying9 HO509.out)
                   refine value_ (w1 := ?_) (v := ?_) (by rfl) rfl ?_ ?_
                   rotate_left 2
                   ·go_simp
                    constructor
                    ·rfl
                    ·rfl
                   clear hcv48
                   refine hK.out _ _ trivial (fun hHeld => ?_)
                   clear hK K
                   refine norm_ (a' := ?_) ?_ ?_
                   rotate_left
                   ·show Act.put _ (some 68) _ = _
                    simp only [Act.put, List.setIfInBounds_toArray, List.set_cons_zero, List.set_cons_succ, i64_w, i32_w]
                    rfl
                   refine pure_ (i := 32) (N := some 69) (v := ?_) (a' := ?_) #[true, true, true, true, true, true, true, true, true, true, true, true, true, true, true, true, true, true, true, true, true, true, true, true, true, true, true, true, true, true, true, true, true, false, false, false, false, false, false, false, false, false, false, false, false, false, false] rfl rfl (any_of HT_.out (by kernel_rfl)) (fun _ _ _ h => h) (Or.inl ⟨by rfl, ?_⟩) ?_ ?_
                   rotate_left
                   ·intro w'
                    go_simp
                    with_reducible rfl
                   rotate_left
                   ·simp only [Act.put, List.setIfInBounds_toArray, List.set_cons_zero, List.set_cons_succ, i64_w, i32_w]
                    rfl
                   refine pure_ (i := 33) (N := some 70) (v := ?_) (a' := ?_) #[true, true, true, true, true, true, true, true, true, true, true, true, true, true, true, true, true, true, true, true, true, true, true, true, true, true, true, true, true, true, true, true, true, true, false, false, false, false, false, false, false, false, false, false, false, false, false] rfl rfl (any_of HT_.out (by kernel_rfl)) (fun _ _ _ h => h) (Or.inl ⟨by rfl, ?_⟩) ?_ ?_
                   rotate_left
                   ·intro w'
                    go_simp
                    with_reducible rfl
                   rotate_left
                   ·simp only [Act.put, List.setIfInBounds_toArray, List.set_cons_zero, List.set_cons_succ, i64_w, i32_w]
                    rfl
                   refine pure_ (i := 34) (N := some 71) (v := ?_) (a' := ?_) #[true, true, true, true, true, true, true, true, true, true, true, true, true, true, true, true, true, true, true, true, true, true, true, true, true, true, true, true, true, true, true, true, true, true, true, false, false, false, false, false, false, false, false, false, false, false, false] rfl rfl (any_of HT_.out (by kernel_rfl)) (fun _ _ _ h => h) (Or.inl ⟨by rfl, ?_⟩) ?_ ?_
                   rotate_left
                   ·intro w'
                    go_simp
                    with_reducible rfl
                   rotate_left
                   ·simp only [Act.put, List.setIfInBounds_toArray, List.set_cons_zero, List.set_cons_succ, i64_w, i32_w]
                    rfl
                   refine pure_ (i := 35) (N := some 72) (v := ?_) (a' := ?_) #[true, true, true, true, true, true, true, true, true, true, true, true, true, true, true, true, true, true, true, true, true, true, true, true, true, true, true, true, true, true, true, true, true, true, true, true, false, false, false, false, false, false, false, false, false, false, false] rfl rfl (any_of HT_.out (by kernel_rfl)) (fun _ _ _ h => h) (Or.inl ⟨by rfl, ?_⟩) ?_ ?_
                   rotate_left
                   ·intro w'
                    go_simp
                    with_reducible rfl
                   rotate_left
                   ·simp only [Act.put, List.setIfInBounds_toArray, List.set_cons_zero, List.set_cons_succ, i64_w, i32_w]
                    rfl
                   refine pure_ (i := 38) (N := some 75) (v := ?_) (a' := ?_) #[true, true, true, true, true, true, true, true, true, true, true, true, true, true, true, true, true, true, true, true, true, true, true, true, true, true, true, true, true, true, true, true, true, true, true, true, false, false, true, false, false, false, false, false, false, false, false] rfl rfl (any_of HT_.out (by kernel_rfl)) (fun _ _ _ h => h) (Or.inl ⟨by rfl, ?_⟩) ?_ ?_
                   rotate_left
                   ·intro w'
                    go_simp
                    with_reducible rfl
                   rotate_left
                   ·simp only [Act.put, List.setIfInBounds_toArray, List.set_cons_zero, List.set_cons_succ, i64_w, i32_w]
                    rfl
                   exact norm_ (by simp only [putAll, Act.put, List.setIfInBounds_toArray, List.set_cons_zero, List.set_cons_succ] <;> rfl) (hJ2_4_5_9_10_12_13_18_26_27_30_31 (v495, v498, v501, v505, v508) _ ⟨HO493.out, HO496.out, HO499.out, HO502.out, HO506.out, HO509.out, HO_5.out, HO_6.out, HB.out⟩)
                 ·skip
                  rintro ⟨v495, v498, v501, v505, v508⟩ w48 ⟨h0_, h1_, h2_, h3_, h4_, h5_, h6_, h7_, h8_⟩
                  have n0_ : Aside0 (Kd.R (Kd.int .u8) 5 w48 w.heap.size (fun k_ => some k_ ≠ (v498 : Value).ownBlock ∧ some k_ ≠ (v505 : Value).ownBlock) v492 t491) := ⟨h0_⟩
                  have n1_ : Aside0 (Kd.V (Kd.int .u8) 5 w48 w.heap.size (fun k_ => some k_ ≠ (v492 : Value).ownBlock ∧ some k_ ≠ (v498 : Value).ownBlock ∧ some k_ ≠ (v505 : Value).ownBlock ∧ some k_ ≠ (.slice Ao9 t483.length co9 : Value).ownBlock ∧ some k_ ≠ (.slice Ao10 t486.length co10 : Value).ownBlock) v495 t494) := ⟨h1_⟩
                  have n2_ : Aside0 (Kd.R (Kd.int .u8) 5 w48 w.heap.size (fun k_ => some k_ ≠ (v492 : Value).ownBlock ∧ some k_ ≠ (v505 : Value).ownBlock) v498 t497) := ⟨h2_⟩
                  have n3_ : Aside0 (Kd.V (Kd.int .u8) 5 w48 w.heap.size (fun k_ => some k_ ≠ (v492 : Value).ownBlock ∧ some k_ ≠ (v498 : Value).ownBlock ∧ some k_ ≠ (v505 : Value).ownBlock ∧ some k_ ≠ (.slice Ao9 t483.length co9 : Value).ownBlock ∧ some k_ ≠ (.slice Ao10 t486.length co10 : Value).ownBlock) v501 t500) := ⟨h3_⟩
                  have n4_ : Aside0 (Kd.R (Kd.int .u8) 5 w48 w.heap.size (fun k_ => some k_ ≠ (v492 : Value).ownBlock ∧ some k_ ≠ (v498 : Value).ownBlock) v505 t504) := ⟨h4_⟩
                  have n5_ : Aside0 (Kd.V (Kd.int .u8) 5 w48 w.heap.size (fun k_ => some k_ ≠ (v492 : Value).ownBlock ∧ some k_ ≠ (v498 : Value).ownBlock ∧ some k_ ≠ (v505 : Value).ownBlock ∧ some k_ ≠ (.slice Ao9 t483.length co9 : Value).ownBlock ∧ some k_ ≠ (.slice Ao10 t486.length co10 : Value).ownBlock) v508 t507) := ⟨h5_⟩
                  have n6_ : Aside0 (Kd.N (Kd.slice 5 (Kd.int .u8)) 22 w48 w.heap.size (fun k_ => some k_ ≠ (v492 : Value).ownBlock ∧ some k_ ≠ (v498 : Value).ownBlock ∧ some k_ ≠ (v505 : Value).ownBlock ∧ some k_ ≠ (.slice Ao10 t486.length co10 : Value).ownBlock) (.slice Ao9 t483.length co9) t483) := ⟨h6_⟩
                  have n7_ : Aside0 (Kd.N (Kd.slice 5 (Kd.int .u8)) 22 w48 w.heap.size (fun k_ => some k_ ≠ (v492 : Value).ownBlock ∧ some k_ ≠ (v498 : Value).ownBlock ∧ some k_ ≠ (v505 : Value).ownBlock ∧ some k_ ≠ (.slice Ao9 t483.length co9 : Value).ownBlock) (.slice Ao10 t486.length co10) t486) := ⟨h7_⟩
                  have n8_ : Aside0 (Below w.heap.size w w48) := ⟨h8_⟩
                  clear HO_5
                  clear HO_6
                  clear HB
                  clear h0_ h1_ h2_ h3_ h4_ h5_ h6_ h7_ h8_
                  have HO493 := n0_
                  have HO496 := n1_
                  have HO499 := n2_
                  have HO502 := n3_
                  have HO506 := n4_
                  have HO509 := n5_
                  have HO_5 := n6_
                  have HO_6 := n7_
                  have HB := n8_
                  clear n0_ n1_ n2_ n3_ n4_ n5_ n6_ n7_ n8_
                  have hHeld := trivial
                  refine norm_ (a' := ?_) ?_ ?_
                  rotate_left
                  ·simp only [putAll, Act.put, List.setIfInBounds_toArray, List.set_cons_zero, List.set_cons_succ]
                   rfl
                  refine one_ (i := 36) (N := some 73) #[true, true, true, true, true, true, true, true, true, true, true, true, true, true, true, true, true, true, true, true, true, true, true, true, true, true, true, true, true, true, true, true, true, true, true, true, true, false, true, false, false, false, false, false, false, false, false] rfl rfl (one_of HT_.out (by kernel_rfl)) (by decide) (fun K hK => ?_)
                  refine goes_ Tryd.func20 (by kernel_rfl) rfl #[.slice A0 l0.length c0] (by rfl) rfl rfl (by (try simp only [List.map_toArray, List.map_cons, List.map_nil]); first | done | rfl | (simp only [List.length_drop, List.length_take]; rfl)) ?_
                  with_reducible refine (head_Stuff.calls k1 _ _ l0 t510 _ ?side1 ?side2 A30.out).mono ?_
                  (case side1 => repeat (first | exact (Kd.C_below HR0.out HB.out) | (with_reducible refine Kd.C_alloc ?_ _) | (with_reducible refine Kd.C_drewN ?_ _) | (with_reducible refine Kd.C_drew ?_)))
                  (case side2 => exact HC0.out)
                  rintro e w49 ⟨v511, rfl, ho0, hb⟩
                  refine ⟨_, rfl, ?_⟩
                  have n0_ := Aside0.mk (Kd.N_elder' HO_5.out (Kd.R_base ho0) hb)
                  have n1_ := Aside0.mk (Kd.N_elder' HO_6.out (Kd.R_base ho0) hb)
                  have n2_ := Aside0.mk (Kd.R_elder' HO493.out (Kd.R_base ho0) hb)
                  have n3_ := Aside0.mk (Kd.V_elder' HO496.out (Kd.R_base ho0) hb)
                  have n4_ := Aside0.mk (Kd.R_elder' HO499.out (Kd.R_base ho0) hb)
                  have n5_ := Aside0.mk (Kd.V_elder' HO502.out (Kd.R_base ho0) hb)
                  have n6_ := Aside0.mk (Kd.R_elder' HO506.out (Kd.R_base ho0) hb)
                  have n7_ := Aside0.mk (Kd.V_elder' HO509.out (Kd.R_base ho0) hb)
                  have n8_ := Aside0.mk (Kd.R_lower (Kd.R_new' (Kd.R_new' (Kd.R_new' ho0 (Kd.R_lt HO493.out)) (Kd.R_lt HO499.out)) (Kd.R_lt HO506.out)) (below_size HB.out))
                  have n9_ := Aside0.mk (below_step HB.out hb)
                  clear HO_5
                  clear HO_6
                  clear HO493
                  clear HO496
                  clear HO499
                  clear HO502
                  clear HO506
                  clear HO509
                  clear HB
                  have HO_5 := n0_
                  have HO_6 := n1_
                  have HO493 := n2_
                  have HO496 := n3_
                  have HO499 := n4_
                  have HO502 := n5_
                  have HO506 := n6_
                  have HO509 := n7_
                  have HO512 := n8_
                  have HB := n9_
                  clear n0_ n1_ n2_ n3_ n4_ n5_ n6_ n7_ n8_ n9_
                  (try clear hb)
                  (try clear hb2)
                  (try clear hk)
                  (try clear hi)
                  (try clear ho0)
                  refine hK.out _ _ trivial (fun hHeld => ?_)
                  clear hK K
                  refine norm_ (a' := ?_) ?_ ?_
                  rotate_left
                  ·show Act.put _ (some 73) _ = _
                   simp only [Act.put, List.setIfInBounds_toArray, List.set_cons_zero, List.set_cons_succ, i64_w, i32_w]
                   rfl
                  exact norm_ (by simp only [putAll, Act.put, List.setIfInBounds_toArray, List.set_cons_zero, List.set_cons_succ] <;> rfl) (hJ2_4_5_9_10_12_13_18_26_27_30_31_36 (v495, v498, v501, v505, v508, v511) _ ⟨(Kd.R_mono HO493.out (fun _ hk => ⟨hk.1.1, ⟨hk.1.2, hk.2⟩⟩)), (Kd.V_mono HO496.out (fun _ hk => ⟨hk.1.1, ⟨hk.1.2.1, ⟨hk.1.2.2.1, ⟨hk.2, ⟨hk.1.2.2.2.1, hk.1.2.2.2.2⟩⟩⟩⟩⟩)), (Kd.R_mono HO499.out (fun _ hk => ⟨hk.1.1, ⟨hk.1.2, hk.2⟩⟩)), (Kd.V_mono HO502.out (fun _ hk => ⟨hk.1.1, ⟨hk.1.2.1, ⟨hk.1.2.2.1, ⟨hk.2, ⟨hk.1.2.2.2.1, hk.1.2.2.2.2⟩⟩⟩⟩⟩)), (Kd.R_mono HO506.out (fun _ hk => ⟨hk.1.1, ⟨hk.1.2, hk.2⟩⟩)), (Kd.V_mono HO509.out (fun _ hk => ⟨hk.1.1, ⟨hk.1.2.1, ⟨hk.1.2.2.1, ⟨hk.2, ⟨hk.1.2.2.2.1, hk.1.2.2.2.2⟩⟩⟩⟩⟩)), (Kd.R_mono HO512.out (fun _ hk => ⟨hk.1.1.2, ⟨hk.1.2, hk.2⟩⟩)), (Kd.N_mono HO_5.out (fun _ hk => ⟨hk.1.1, ⟨hk.1.2.1, ⟨hk.1.2.2.1, ⟨hk.2, hk.1.2.2.2⟩⟩⟩⟩)), (Kd.N_mono HO_6.out (fun _ hk => ⟨hk.1.1, ⟨hk.1.2.1, ⟨hk.1.2.2.1, ⟨hk.2, hk.1.2.2.2⟩⟩⟩⟩)), HB.out⟩)
                ·skip
                 rintro ⟨v495, v498, v501, v505, v508, v511⟩ w49 ⟨h0_, h1_, h2_, h3_, h4_, h5_, h6_, h7_, h8_, h9_⟩
                 have n0_ : Aside0 (Kd.R (Kd.int .u8) 5 w49 w.heap.size (fun k_ => some k_ ≠ (v498 : Value).ownBlock ∧ some k_ ≠ (v505 : Value).ownBlock ∧ some k_ ≠ (v511 : Value).ownBlock) v492 t491) := ⟨h0_⟩
                 have n1_ : Aside0 (Kd.V (Kd.int .u8) 5 w49 w.heap.size (fun k_ => some k_ ≠ (v492 : Value).ownBlock ∧ some k_ ≠ (v498 : Value).ownBlock ∧ some k_ ≠ (v505 : Value).ownBlock ∧ some k_ ≠ (v511 : Value).ownBlock ∧ some k_ ≠ (.slice Ao9 t483.length co9 : Value).ownBlock ∧ some k_ ≠ (.slice Ao10 t486.length co10 : Value).ownBlock) v495 t494) := ⟨h1_⟩
                 have n2_ : Aside0 (Kd.R (Kd.int .u8) 5 w49 w.heap.size (fun k_ => some k_ ≠ (v492 : Value).ownBlock ∧ some k_ ≠ (v505 : Value).ownBlock ∧ some k_ ≠ (v511 : Value).ownBlock) v498 t497) := ⟨h2_⟩
                 have n3_ : Aside0 (Kd.V (Kd.int .u8) 5 w49 w.heap.size (fun k_ => some k_ ≠ (v492 : Value).ownBlock ∧ some k_ ≠ (v498 : Value).ownBlock ∧ some k_ ≠ (v505 : Value).ownBlock ∧ some k_ ≠ (v511 : Value).ownBlock ∧ some k_ ≠ (.slice Ao9 t483.length co9 : Value).ownBlock ∧ some k_ ≠ (.slice Ao10 t486.length co10 : Value).ownBlock) v501 t500) := ⟨h3_⟩
                 have n4_ : Aside0 (Kd.R (Kd.int .u8) 5 w49 w.heap.size (fun k_ => some k_ ≠ (v492 : Value).ownBlock ∧ some k_ ≠ (v498 : Value).ownBlock ∧ some k_ ≠ (v511 : Value).ownBlock) v505 t504) := ⟨h4_⟩
                 have n5_ : Aside0 (Kd.V (Kd.int .u8) 5 w49 w.heap.size (fun k_ => some k_ ≠ (v492 : Value).ownBlock ∧ some k_ ≠ (v498 : Value).ownBlock ∧ some k_ ≠ (v505 : Value).ownBlock ∧ some k_ ≠ (v511 : Value).ownBlock ∧ some k_ ≠ (.slice Ao9 t483.length co9 : Value).ownBlock ∧ some k_ ≠ (.slice Ao10 t486.length co10 : Value).ownBlock) v508 t507) := ⟨h5_⟩
                 have n6_ : Aside0 (Kd.R (Kd.int .u8) 5 w49 w.heap.size (fun k_ => some k_ ≠ (v492 : Value).ownBlock ∧ some k_ ≠ (v498 : Value).ownBlock ∧ some k_ ≠ (v505 : Value).ownBlock) v511 t510) := ⟨h6_⟩
                 have n7_ : Aside0 (Kd.N (Kd.slice 5 (Kd.int .u8)) 22 w49 w.heap.size (fun k_ => some k_ ≠ (v492 : Value).ownBlock ∧ some k_ ≠ (v498 : Value).ownBlock ∧ some k_ ≠ (v505 : Value).ownBlock ∧ some k_ ≠ (v511 : Value).ownBlock ∧ some k_ ≠ (.slice Ao10 t486.length co10 : Value).ownBlock) (.slice Ao9 t483.length co9) t483) := ⟨h7_⟩
                 have n8_ : Aside0 (Kd.N (Kd.slice 5 (Kd.int .u8)) 22 w49 w.heap.size (fun k_ => some k_ ≠ (v492 : Value).ownBlock ∧ some k_ ≠ (v498 : Value).ownBlock ∧ some k_ ≠ (v505 : Value).ownBlock ∧ some k_ ≠ (v511 : Value).ownBlock ∧ some k_ ≠ (.slice Ao9 t483.length co9 : Value).ownBlock) (.slice Ao10 t486.length co10) t486) := ⟨h8_⟩
                 have n9_ : Aside0 (Below w.heap.size w w49) := ⟨h9_⟩
                 clear HO_5
                 clear HO_6
                 clear HB
                 clear h0_ h1_ h2_ h3_ h4_ h5_ h6_ h7_ h8_ h9_
                 have HO493 := n0_
                 have HO496 := n1_
                 have HO499 := n2_
                 have HO502 := n3_
                 have HO506 := n4_
                 have HO509 := n5_
                 have HO512 := n6_
                 have HO_5 := n7_
                 have HO_6 := n8_
                 have HB := n9_
                 clear n0_ n1_ n2_ n3_ n4_ n5_ n6_ n7_ n8_ n9_
                 have hHeld := trivial
                 refine norm_ (a' := ?_) ?_ ?_
                 rotate_left
                 ·simp only [putAll, Act.put, List.setIfInBounds_toArray, List.set_cons_zero, List.set_cons_succ]
                  rfl
                 refine two_ (i := 37) (j := 39) (Ni := some 74) (Nj := some 76) #[true, true, true, true, true, true, true, true, true, true, true, true, true, true, true, true, true, true, true, true, true, true, true, true, true, true, true, true, true, true, true, true, true, true, true, true, true, true, true, false, false, false, false, false, false, false, false] #[true, true, true, true, true, true, true, true, true, true, true, true, true, true, true, true, true, true, true, true, true, true, true, true, true, true, true, true, true, true, true, true, true, true, true, true, true, false, true, true, false, false, false, false, false, false, false] rfl rfl rfl rfl (two_of HT_.out (by kernel_rfl)) (by decide) (by decide) (fun K hK => ?_) (fun K hK => ?_)
                 ·skip
                  (first | have hcv50 := own_string (P := Tryd.prog) Tryd.underlying22 Tryd.underlying5 Tryd.underlying9 (Kd.own_of_R HO512.out) | have hcv50 := V_string (P := Tryd.prog) Tryd.underlying22 Tryd.underlying5 Tryd.underlying9 HO512.out)
                  refine value_ (w1 := ?_) (v := ?_) (by rfl) rfl ?_ ?_
                  rotate_left 2
                  ·go_simp
                   constructor
                   ·rfl
                   ·rfl
                  clear hcv50
                  refine hK.out _ _ trivial (fun hHeld => ?_)
                  clear hK K
                  refine norm_ (a' := ?_) ?_ ?_
                  rotate_left
                  ·show Act.put _ (some 74) _ = _
                   simp only [Act.put, List.setIfInBounds_toArray, List.set_cons_zero, List.set_cons_succ, i64_w, i32_w]
                   rfl
                  exact norm_ (by simp only [putAll, Act.put, List.setIfInBounds_toArray, List.set_cons_zero, List.set_cons_succ] <;> rfl) (hJ2_4_5_9_10_12_13_18_26_27_30_31_36_37 (v495, v498, v501, v505, v508, v511) _ ⟨HO493.out, HO496.out, HO499.out, HO502.out, HO506.out, HO509.out, HO512.out, HO_5.out, HO_6.out, HB.out⟩)
                 ·skip
                  refine goes_ Tryd.func21 (by kernel_rfl) rfl #[.slice A0 l0.length c0] (by rfl) rfl rfl (by (try simp only [List.map_toArray, List.map_cons, List.map_nil]); first | done | rfl | (simp only [List.length_drop, List.length_take]; rfl)) ?_
                  with_reducible refine (letterboxref9_Stuff.calls k1 _ _ l0 t513 _ ?side1 ?side2 A31.out).mono ?_
                  (case side1 => repeat (first | exact (Kd.C_below HR0.out HB.out) | (with_reducible refine Kd.C_alloc ?_ _) | (with_reducible refine Kd.C_drewN ?_ _) | (with_reducible refine Kd.C_drew ?_)))
                  (case side2 => exact HC0.out)
                  rintro e w50 ⟨v514, rfl, ho0, hb⟩
                  refine ⟨_, rfl, ?_⟩
                  have n0_ := Aside0.mk (Kd.N_elder' HO_5.out (Kd.R_base ho0) hb)
                  have n1_ := Aside0.mk (Kd.N_elder' HO_6.out (Kd.R_base ho0) hb)
                  have n2_ := Aside0.mk (Kd.R_elder' HO493.out (Kd.R_base ho0) hb)
                  have n3_ := Aside0.mk (Kd.V_elder' HO496.out (Kd.R_base ho0) hb)
                  have n4_ := Aside0.mk (Kd.R_elder' HO499.out (Kd.R_base ho0) hb)
                  have n5_ := Aside0.mk (Kd.V_elder' HO502.out (Kd.R_base ho0) hb)
                  have n6_ := Aside0.mk (Kd.R_elder' HO506.out (Kd.R_base ho0) hb)
                  have n7_ := Aside0.mk (Kd.V_elder' HO509.out (Kd.R_base ho0) hb)
                  have n8_ := Aside0.mk (Kd.R_elder' HO512.out (Kd.R_base ho0) hb)
                  have n9_ := Aside0.mk (Kd.R_lower (Kd.R_new' (Kd.R_new' (Kd.R_new' (Kd.R_new' ho0 (Kd.R_lt HO493.out)) (Kd.R_lt HO499.out)) (Kd.R_lt HO506.out)) (Kd.R_lt HO512.out)) (below_size HB.out))
                  have n10_ := Aside0.mk (below_step HB.out hb)
                  clear HO_5
                  clear HO_6
                  clear HO493
                  clear HO496
                  clear HO499
                  clear HO502
                  clear HO506
                  clear HO509
                  clear HO512
                  clear HB
                  have HO_5 := n0_
                  have HO_6 := n1_
                  have HO493 := n2_
                  have HO496 := n3_
                  have HO499 := n4_
                  have HO502 := n5_
                  have HO506 := n6_
                  have HO509 := n7_
                  have HO512 := n8_
                  have HO515 := n9_
                  have HB := n10_
                  clear n0_ n1_ n2_ n3_ n4_ n5_ n6_ n7_ n8_ n9_ n10_
                  (try clear hb)
                  (try clear hb2)
                  (try clear hk)
                  (try clear hi)
                  (try clear ho0)
                  refine hK.out _ _ trivial (fun hHeld => ?_)
                  clear hK K
                  refine norm_ (a' := ?_) ?_ ?_
                  rotate_left
                  ·show Act.put _ (some 76) _ = _
                   simp only [Act.put, List.setIfInBounds_toArray, List.set_cons_zero, List.set_cons_succ, i64_w, i32_w]
                   rfl
                  exact norm_ (by simp only [putAll, Act.put, List.setIfInBounds_toArray, List.set_cons_zero, List.set_cons_succ] <;> rfl) (hJ2_4_5_9_10_12_13_18_26_27_30_31_36_39 (v495, v498, v501, v505, v508, v511, v514) _ ⟨(Kd.R_mono HO493.out (fun _ hk => ⟨hk.1.1, ⟨hk.1.2.1, ⟨hk.1.2.2, hk.2⟩⟩⟩)), (Kd.V_mono HO496.out (fun _ hk => ⟨hk.1.1, ⟨hk.1.2.1, ⟨hk.1.2.2.1, ⟨hk.1.2.2.2.1, ⟨hk.2, ⟨hk.1.2.2.2.2.1, hk.1.2.2.2.2.2⟩⟩⟩⟩⟩⟩)), (Kd.R_mono HO499.out (fun _ hk => ⟨hk.1.1, ⟨hk.1.2.1, ⟨hk.1.2.2, hk.2⟩⟩⟩)), (Kd.V_mono HO502.out (fun _ hk => ⟨hk.1.1, ⟨hk.1.2.1, ⟨hk.1.2.2.1, ⟨hk.1.2.2.2.1, ⟨hk.2, ⟨hk.1.2.2.2.2.1, hk.1.2.2.2.2.2⟩⟩⟩⟩⟩⟩)), (Kd.R_mono HO506.out (fun _ hk => ⟨hk.1.1, ⟨hk.1.2.1, ⟨hk.1.2.2, hk.2⟩⟩⟩)), (Kd.V_mono HO509.out (fun _ hk => ⟨hk.1.1, ⟨hk.1.2.1, ⟨hk.1.2.2.1, ⟨hk.1.2.2.2.1, ⟨hk.2, ⟨hk.1.2.2.2.2.1, hk.1.2.2.2.2.2⟩⟩⟩⟩⟩⟩)), (Kd.R_mono HO512.out (fun _ hk => ⟨hk.1.1, ⟨hk.1.2.1, ⟨hk.1.2.2, hk.2⟩⟩⟩)), (Kd.R_mono HO515.out (fun _ hk => ⟨hk.1.1.1.2, ⟨hk.1.1.2, ⟨hk.1.2, hk.2⟩⟩⟩)), (Kd.N_mono HO_5.out (fun _ hk => ⟨hk.1.1, ⟨hk.1.2.1, ⟨hk.1.2.2.1, ⟨hk.1.2.2.2.1, ⟨hk.2, hk.1.2.2.2.2⟩⟩⟩⟩⟩)), (Kd.N_mono HO_6.out (fun _ hk => ⟨hk.1.1, ⟨hk.1.2.1, ⟨hk.1.2.2.1, ⟨hk.1.2.2.2.1, ⟨hk.2, hk.1.2.2.2.2⟩⟩⟩⟩⟩)), HB.out⟩)
               ·skip
                rintro ⟨v495, v498, v501, v505, v508, v511, v514⟩ w50 ⟨h0_, h1_, h2_, h3_, h4_, h5_, h6_, h7_, h8_, h9_, h10_⟩
                have n0_ : Aside0 (Kd.R (Kd.int .u8) 5 w50 w.heap.size (fun k_ => some k_ ≠ (v498 : Value).ownBlock ∧ some k_ ≠ (v505 : Value).ownBlock ∧ some k_ ≠ (v511 : Value).ownBlock ∧ some k_ ≠ (v514 : Value).ownBlock) v492 t491) := ⟨h0_⟩
                have n1_ : Aside0 (Kd.V (Kd.int .u8) 5 w50 w.heap.size (fun k_ => some k_ ≠ (v492 : Value).ownBlock ∧ some k_ ≠ (v498 : Value).ownBlock ∧ some k_ ≠ (v505 : Value).ownBlock ∧ some k_ ≠ (v511 : Value).ownBlock ∧ some k_ ≠ (v514 : Value).ownBlock ∧ some k_ ≠ (.slice Ao9 t483.length co9 : Value).ownBlock ∧ some k_ ≠ (.slice Ao10 t486.length co10 : Value).ownBlock) v495 t494) := ⟨h1_⟩
                have n2_ : Aside0 (Kd.R (Kd.int .u8) 5 w50 w.heap.size (fun k_ => some k_ ≠ (v492 : Value).ownBlock ∧ some k_ ≠ (v505 : Value).ownBlock ∧ some k_ ≠ (v511 : Value).ownBlock ∧ some k_ ≠ (v514 : Value).ownBlock) v498 t497) := ⟨h2_⟩
                have n3_ : Aside0 (Kd.V (Kd.int .u8) 5 w50 w.heap.size (fun k_ => some k_ ≠ (v492 : Value).ownBlock ∧ some k_ ≠ (v498 : Value).ownBlock ∧ some k_ ≠ (v505 : Value).ownBlock ∧ some k_ ≠ (v511 : Value).ownBlock ∧ some k_ ≠ (v514 : Value).ownBlock ∧ some k_ ≠ (.slice Ao9 t483.length co9 : Value).ownBlock ∧ some k_ ≠ (.slice Ao10 t486.length co10 : Value).ownBlock) v501 t500) := ⟨h3_⟩
                have n4_ : Aside0 (Kd.R (Kd.int .u8) 5 w50 w.heap.size (fun k_ => some k_ ≠ (v492 : Value).ownBlock ∧ some k_ ≠ (v498 : Value).ownBlock ∧ some k_ ≠ (v511 : Value).ownBlock ∧ some k_ ≠ (v514 : Value).ownBlock) v505 t504) := ⟨h4_⟩
                have n5_ : Aside0 (Kd.V (Kd.int .u8) 5 w50 w.heap.size (fun k_ => some k_ ≠ (v492 : Value).ownBlock ∧ some k_ ≠ (v498 : Value).ownBlock ∧ some k_ ≠ (v505 : Value).ownBlock ∧ some k_ ≠ (v511 : Value).ownBlock ∧ some k_ ≠ (v514 : Value).ownBlock ∧ some k_ ≠ (.slice Ao9 t483.length co9 : Value).ownBlock ∧ some k_ ≠ (.slice Ao10 t486.length co10 : Value).ownBlock) v508 t507) := ⟨h5_⟩
                have n6_ : Aside0 (Kd.R (Kd.int .u8) 5 w50 w.heap.size (fun k_ => some k_ ≠ (v492 : Value).ownBlock ∧ some k_ ≠ (v498 : Value).ownBlock ∧ some k_ ≠ (v505 : Value).ownBlock ∧ some k_ ≠ (v514 : Value).ownBlock) v511 t510) := ⟨h6_⟩
                have n7_ : Aside0 (Kd.R (Kd.int .u8) 5 w50 w.heap.size (fun k_ => some k_ ≠ (v492 : Value).ownBlock ∧ some k_ ≠ (v498 : Value).ownBlock ∧ some k_ ≠ (v505 : Value).ownBlock ∧ some k_ ≠ (v511 : Value).ownBlock) v514 t513) := ⟨h7_⟩
                have n8_ : Aside0 (Kd.N (Kd.slice 5 (Kd.int .u8)) 22 w50 w.heap.size (fun k_ => some k_ ≠ (v492 : Value).ownBlock ∧ some k_ ≠ (v498 : Value).ownBlock ∧ some k_ ≠ (v505 : Value).ownBlock ∧ some k_ ≠ (v511 : Value).ownBlock ∧ some k_ ≠ (v514 : Value).ownBlock ∧ some k_ ≠ (.slice Ao10 t486.length co10 : Value).ownBlock) (.slice Ao9 t483.length co9) t483) := ⟨h8_⟩
                have n9_ : Aside0 (Kd.N (Kd.slice 5 (Kd.int .u8)) 22 w50 w.heap.size (fun k_ => some k_ ≠ (v492 : Value).ownBlock ∧ some k_ ≠ (v498 : Value).ownBlock ∧ some k_ ≠ (v505 : Value).ownBlock ∧ some k_ ≠ (v511 : Value).ownBlock ∧ some k_ ≠ (v514 : Value).ownBlock ∧ some k_ ≠ (.slice Ao9 t483.length co9 : Value).ownBlock) (.slice Ao10 t486.length co10) t486) := ⟨h9_⟩
                have n10_ : Aside0 (Below w.heap.size w w50) := ⟨h10_⟩
                clear HO_5
                clear HO_6
                clear HB
                clear h0_ h1_ h2_ h3_ h4_ h5_ h6_ h7_ h8_ h9_ h10_
                have HO493 := n0_
                have HO496 := n1_
                have HO499 := n2_
                have HO502 := n3_
                have HO506 := n4_
                have HO509 := n5_
                have HO512 := n6_
                have HO515 := n7_
                have HO_5 := n8_
                have HO_6 := n9_
                have HB := n10_
                clear n0_ n1_ n2_ n3_ n4_ n5_ n6_ n7_ n8_ n9_ n10_
                have hHeld := trivial
                refine norm_ (a' := ?_) ?_ ?_
                rotate_left
                ·simp only [putAll, Act.put, List.setIfInBounds_toArray, List.set_cons_zero, List.set_cons_succ]
                 rfl
                refine two_ (i := 37) (j := 40) (Ni := some 74) (Nj := some 77) #[true, true, true, true, true, true, true, true, true, true, true, true, true, true, true, true, true, true, true, true, true, true, true, true, true, true, true, true, true, true, true, true, true, true, true, true, true, true, true, true, false, false, false, false, false, false, false] #[true, true, true, true, true, true, true, true, true, true, true, true, true, true, true, true, true, true, true, true, true, true, true, true, true, true, true, true, true, true, true, true, true, true, true, true, true, false, true, true, true, false, false, false, false, false, false] rfl rfl rfl rfl (two_of HT_.out (by kernel_rfl)) (by decide) (by decide) (fun K hK => ?_) (fun K hK => ?_)
                ·skip
                 (first | have hcv51 := own_string (P := Tryd.prog) Tryd.underlying22 Tryd.underlying5 Tryd.underlying9 (Kd.own_of_R HO512.out) | have hcv51 := V_string (P := Tryd.prog) Tryd.underlying22 Tryd.underlying5 Tryd.underlying9 HO512.out)
                 refine value_ (w1 := ?_) (v := ?_) (by rfl) rfl ?_ ?_
                 rotate_left 2
                 ·go_simp
                  constructor
                  ·rfl
                  ·rfl
                 clear hcv51
                 refine hK.out _ _ trivial (fun hHeld => ?_)
                 clear hK K
                 refine norm_ (a' := ?_) ?_ ?_
                 rotate_left
                 ·show Act.put _ (some 74) _ = _
                  simp only [Act.put, List.setIfInBounds_toArray, List.set_cons_zero, List.set_cons_succ, i64_w, i32_w]
                  rfl
                 exact norm_ (by simp only [putAll, Act.put, List.setIfInBounds_toArray, List.set_cons_zero, List.set_cons_succ] <;> rfl) (hJ2_4_5_9_10_12_13_18_26_27_30_31_36_37_39 (v495, v498, v501, v505, v508, v511, v514) _ ⟨HO493.out, HO496.out, HO499.out, HO502.out, HO506.out, HO509.out, HO512.out, HO515.out, HO_5.out, HO_6.out, HB.out⟩)
                ·skip
                 (first | have hcv51 := own_string (P := Tryd.prog) Tryd.underlying22 Tryd.underlying5 Tryd.underlying9 (Kd.own_of_R HO515.out) | have hcv51 := V_string (P := Tryd.prog) Tryd.underlying22 Tryd.underlying5 Tryd.underlying9 HO515.out)
                 refine value_ (w1 := ?_) (v := ?_) (by rfl) rfl ?_ ?_
                 rotate_left 2
                 ·go_simp
                  constructor
                  ·rfl
                  ·rfl
                 clear hcv51
                 refine hK.out _ _ trivial (fun hHeld => ?_)
                 clear hK K
                 refine norm_ (a' := ?_) ?_ ?_
                 rotate_left
                 ·show Act.put _ (some 77) _ = _
                  simp only [Act.put, List.setIfInBounds_toArray, List.set_cons_zero, List.set_cons_succ, i64_w, i32_w]
                  rfl
                 exact norm_ (by simp only [putAll, Act.put, List.setIfInBounds_toArray, List.set_cons_zero, List.set_cons_succ] <;> rfl) (hJ2_4_5_9_10_12_13_18_26_27_30_31_36_39_40 (v495, v498, v501, v505, v508, v511, v514) _ ⟨HO493.out, HO496.out, HO499.out, HO502.out, HO506.out, HO509.out, HO512.out, HO515.out, HO_5.out, HO_6.out, HB.out⟩)
              ·skip
               rintro ⟨v495, v498, v501, v505, v508, v511⟩ w50 ⟨h0_, h1_, h2_, h3_, h4_, h5_, h6_, h7_, h8_, h9_⟩
               have n0_ : Aside0 (Kd.R (Kd.int .u8) 5 w50 w.heap.size (fun k_ => some k_ ≠ (v498 : Value).ownBlock ∧ some k_ ≠ (v505 : Value).ownBlock ∧ some k_ ≠ (v511 : Value).ownBlock) v492 t491) := ⟨h0_⟩
               have n1_ : Aside0 (Kd.V (Kd.int .u8) 5 w50 w.heap.size (fun k_ => some k_ ≠ (v492 : Value).ownBlock ∧ some k_ ≠ (v498 : Value).ownBlock ∧ some k_ ≠ (v505 : Value).ownBlock ∧ some k_ ≠ (v511 : Value).ownBlock ∧ some k_ ≠ (.slice Ao9 t483.length co9 : Value).ownBlock ∧ some k_ ≠ (.slice Ao10 t486.length co10 : Value).ownBlock) v495 t494) := ⟨h1_⟩
               have n2_ : Aside0 (Kd.R (Kd.int .u8) 5 w50 w.heap.size (fun k_ => some k_ ≠ (v492 : Value).ownBlock ∧ some k_ ≠ (v505 : Value).ownBlock ∧ some k_ ≠ (v511 : Value).ownBlock) v498 t497) := ⟨h2_⟩
               have n3_ : Aside0 (Kd.V (Kd.int .u8) 5 w50 w.heap.size (fun k_ => some k_ ≠ (v492 : Value).ownBlock ∧ some k_ ≠ (v498 : Value).ownBlock ∧ some k_ ≠ (v505 : Value).ownBlock ∧ some k_ ≠ (v511 : Value).ownBlock ∧ some k_ ≠ (.slice Ao9 t483.length co9 : Value).ownBlock ∧ some k_ ≠ (.slice Ao10 t486.length co10 : Value).ownBlock) v501 t500) := ⟨h3_⟩
               have n4_ : Aside0 (Kd.R (Kd.int .u8) 5 w50 w.heap.size (fun k_ => some k_ ≠ (v492 : Value).ownBlock ∧ some k_ ≠ (v498 : Value).ownBlock ∧ some k_ ≠ (v511 : Value).ownBlock) v505 t504) := ⟨h4_⟩
               have n5_ : Aside0 (Kd.V (Kd.int .u8) 5 w50 w.heap.size (fun k_ => some k_ ≠ (v492 : Value).ownBlock ∧ some k_ ≠ (v498 : Value).ownBlock ∧ some k_ ≠ (v505 : Value).ownBlock ∧ some k_ ≠ (v511 : Value).ownBlock ∧ some k_ ≠ (.slice Ao9 t483.length co9 : Value).ownBlock ∧ some k_ ≠ (.slice Ao10 t486.length co10 : Value).ownBlock) v508 t507) := ⟨h5_⟩
               have n6_ : Aside0 (Kd.R (Kd.int .u8) 5 w50 w.heap.size (fun k_ => some k_ ≠ (v492 : Value).ownBlock ∧ some k_ ≠ (v498 : Value).ownBlock ∧ some k_ ≠ (v505 : Value).ownBlock) v511 t510) := ⟨h6_⟩
               have n7_ : Aside0 (Kd.N (Kd.slice 5 (Kd.int .u8)) 22 w50 w.heap.size (fun k_ => some k_ ≠ (v492 : Value).ownBlock ∧ some k_ ≠ (v498 : Value).ownBlock ∧ some k_ ≠ (v505 : Value).ownBlock ∧ some k_ ≠ (v511 : Value).ownBlock ∧ some k_ ≠ (.slice Ao10 t486.length co10 : Value).ownBlock) (.slice Ao9 t483.length co9) t483) := ⟨h7_⟩
               have n8_ : Aside0 (Kd.N (Kd.slice 5 (Kd.int .u8)) 22 w50 w.heap.size (fun k_ => some k_ ≠ (v492 : Value).ownBlock ∧ some k_ ≠ (v498 : Value).ownBlock ∧ some k_ ≠ (v505 : Value).ownBlock ∧ some k_ ≠ (v511 : Value).ownBlock ∧ some k_ ≠ (.slice Ao9 t483.length co9 : Value).ownBlock) (.slice Ao10 t486.length co10) t486) := ⟨h8_⟩
               have n9_ : Aside0 (Below w.heap.size w w50) := ⟨h9_⟩
               clear HO_5
               clear HO_6
               clear HB
               clear h0_ h1_ h2_ h3_ h4_ h5_ h6_ h7_ h8_ h9_
               have HO493 := n0_
               have HO496 := n1_
               have HO499 := n2_
               have HO502 := n3_
               have HO506 := n4_
               have HO509 := n5_
               have HO512 := n6_
               have HO_5 := n7_
               have HO_6 := n8_
               have HB := n9_
               clear n0_ n1_ n2_ n3_ n4_ n5_ n6_ n7_ n8_ n9_
               have hHeld := trivial
               refine norm_ (a' := ?_) ?_ ?_
               rotate_left
               ·simp only [putAll, Act.put, List.setIfInBounds_toArray, List.set_cons_zero, List.set_cons_succ]
                rfl
               refine one_ (i := 39) (N := some 76) #[true, true, true, true, true, true, true, true, true, true, true, true, true, true, true, true, true, true, true, true, true, true, true, true, true, true, true, true, true, true, true, true, true, true, true, true, true, true, true, true, false, false, false, false, false, false, false] rfl rfl (one_of HT_.out (by kernel_rfl)) (by decide) (fun K hK => ?_)
               refine goes_ Tryd.func21 (by kernel_rfl) rfl #[.slice A0 l0.length c0] (by rfl) rfl rfl (by (try simp only [List.map_toArray, List.map_cons, List.map_nil]); first | done | rfl | (simp only [List.length_drop, List.length_take]; rfl)) ?_
               with_reducible refine (letterboxref9_Stuff.calls k1 _ _ l0 t513 _ ?side1 ?side2 A31.out).mono ?_
               (case side1 => repeat (first | exact (Kd.C_below HR0.out HB.out) | (with_reducible refine Kd.C_alloc ?_ _) | (with_reducible refine Kd.C_drewN ?_ _) | (with_reducible refine Kd.C_drew ?_)))
               (case side2 => exact HC0.out)
               rintro e w51 ⟨v514, rfl, ho0, hb⟩
               refine ⟨_, rfl, ?_⟩
               have n0_ := Aside0.mk (Kd.N_elder' HO_5.out (Kd.R_base ho0) hb)
               have n1_ := Aside0.mk (Kd.N_elder' HO_6.out (Kd.R_base ho0) hb)
               have n2_ := Aside0.mk (Kd.R_elder' HO493.out (Kd.R_base ho0) hb)
               have n3_ := Aside0.mk (Kd.V_elder' HO496.out (Kd.R_base ho0) hb)
               have n4_ := Aside0.mk (Kd.R_elder' HO499.out (Kd.R_base ho0) hb)
               have n5_ := Aside0.mk (Kd.V_elder' HO502.out (Kd.R_base ho0) hb)
               have n6_ := Aside0.mk (Kd.R_elder' HO506.out (Kd.R_base ho0) hb)
               have n7_ := Aside0.mk (Kd.V_elder' HO509.out (Kd.R_base ho0) hb)
               have n8_ := Aside0.mk (Kd.R_elder' HO512.out (Kd.R_base ho0) hb)
               have n9_ := Aside0.mk (Kd.R_lower (Kd.R_new' (Kd.R_new' (Kd.R_new' (Kd.R_new' ho0 (Kd.R_lt HO493.out)) (Kd.R_lt HO499.out)) (Kd.R_lt HO506.out)) (Kd.R_lt HO512.out)) (below_size HB.out))
               have n10_ := Aside0.mk (below_step HB.out hb)
               clear HO_5
               clear HO_6
               clear HO493
               clear HO496
               clear HO499
               clear HO502
               clear HO506
               clear HO509
               clear HO512
               clear HB
               have HO_5 := n0_
               have HO_6 := n1_
               have HO493 := n2_
               have HO496 := n3_
               have HO499 := n4_
               have HO502 := n5_
               have HO506 := n6_
               have HO509 := n7_
               have HO512 := n8_
               have HO515 := n9_
               have HB := n10_
               clear n0_ n1_ n2_ n3_ n4_ n5_ n6_ n7_ n8_ n9_ n10_
               (try clear hb)
               (try clear hb2)
               (try clear hk)
               (try clear hi)
               (try clear ho0)
               refine hK.out _ _ trivial (fun hHeld => ?_)
               clear hK K
               refine norm_ (a' := ?_) ?_ ?_
               rotate_left
               ·show Act.put _ (some 76) _ = _
                simp only [Act.put, List.setIfInBounds_toArray, List.set_cons_zero, List.set_cons_succ, i64_w, i32_w]
                rfl
               exact norm_ (by simp only [putAll, Act.put, List.setIfInBounds_toArray, List.set_cons_zero, List.set_cons_succ] <;> rfl) (hJ2_4_5_9_10_12_13_18_26_27_30_31_36_37_39 (v495, v498, v501, v505, v508, v511, v514) _ ⟨(Kd.R_mono HO493.out (fun _ hk => ⟨hk.1.1, ⟨hk.1.2.1, ⟨hk.1.2.2, hk.2⟩⟩⟩)), (Kd.V_mono HO496.out (fun _ hk => ⟨hk.1.1, ⟨hk.1.2.1, ⟨hk.1.2.2.1, ⟨hk.1.2.2.2.1, ⟨hk.2, ⟨hk.1.2.2.2.2.1, hk.1.2.2.2.2.2⟩⟩⟩⟩⟩⟩)), (Kd.R_mono HO499.out (fun _ hk => ⟨hk.1.1, ⟨hk.1.2.1, ⟨hk.1.2.2, hk.2⟩⟩⟩)), (Kd.V_mono HO502.out (fun _ hk => ⟨hk.1.1, ⟨hk.1.2.1, ⟨hk.1.2.2.1, ⟨hk.1.2.2.2.1, ⟨hk.2, ⟨hk.1.2.2.2.2.1, hk.1.2.2.2.2.2⟩⟩⟩⟩⟩⟩)), (Kd.R_mono HO506.out (fun _ hk => ⟨hk.1.1, ⟨hk.1.2.1, ⟨hk.1.2.2, hk.2⟩⟩⟩)), (Kd.V_mono HO509.out (fun _ hk => ⟨hk.1.1, ⟨hk.1.2.1, ⟨hk.1.2.2.1, ⟨hk.1.2.2.2.1, ⟨hk.2, ⟨hk.1.2.2.2.2.1, hk.1.2.2.2.2.2⟩⟩⟩⟩⟩⟩)), (Kd.R_mono HO512.out (fun _ hk => ⟨hk.1.1, ⟨hk.1.2.1, ⟨hk.1.2.2, hk.2⟩⟩⟩)), (Kd.R_mono HO515.out (fun _ hk => ⟨hk.1.1.1.2, ⟨hk.1.1.2, ⟨hk.1.2, hk.2⟩⟩⟩)), (Kd.N_mono HO_5.out (fun _ hk => ⟨hk.1.1, ⟨hk.1.2.1, ⟨hk.1.2.2.1, ⟨hk.1.2.2.2.1, ⟨hk.2, hk.1.2.2.2.2⟩⟩⟩⟩⟩)), (Kd.N_mono HO_6.out (fun _ hk => ⟨hk.1.1, ⟨hk.1.2.1, ⟨hk.1.2.2.1, ⟨hk.1.2.2.2.1, ⟨hk.2, hk.1.2.2.2.2⟩⟩⟩⟩⟩)), HB.out⟩)
             ·skip
              rintro ⟨v495, v498, v501, v505, v508, v511, v514⟩ w51 ⟨h0_, h1_, h2_, h3_, h4_, h5_, h6_, h7_, h8_, h9_, h10_⟩
              have n0_ : Aside0 (Kd.R (Kd.int .u8) 5 w51 w.heap.size (fun k_ => some k_ ≠ (v498 : Value).ownBlock ∧ some k_ ≠ (v505 : Value).ownBlock ∧ some k_ ≠ (v511 : Value).ownBlock ∧ some k_ ≠ (v514 : Value).ownBlock) v492 t491) := ⟨h0_⟩
              have n1_ : Aside0 (Kd.V (Kd.int .u8) 5 w51 w.heap.size (fun k_ => some k_ ≠ (v492 : Value).ownBlock ∧ some k_ ≠ (v498 : Value).ownBlock ∧ some k_ ≠ (v505 : Value).ownBlock ∧ some k_ ≠ (v511 : Value).ownBlock ∧ some k_ ≠ (v514 : Value).ownBlock ∧ some k_ ≠ (.slice Ao9 t483.length co9 : Value).ownBlock ∧ some k_ ≠ (.slice Ao10 t486.length co10 : Value).ownBlock) v495 t494) := ⟨h1_⟩
              have n2_ : Aside0 (Kd.R (Kd.int .u8) 5 w51 w.heap.size (fun k_ => some k_ ≠ (v492 : Value).ownBlock ∧ some k_ ≠ (v505 : Value).ownBlock ∧ some k_ ≠ (v511 : Value).ownBlock ∧ some k_ ≠ (v514 : Value).ownBlock) v498 t497) := ⟨h2_⟩
              have n3_ : Aside0 (Kd.V (Kd.int .u8) 5 w51 w.heap.size (fun k_ => some k_ ≠ (v492 : Value).ownBlock ∧ some k_ ≠ (v498 : Value).ownBlock ∧ some k_ ≠ (v505 : Value).ownBlock ∧ some k_ ≠ (v511 : Value).ownBlock ∧ some k_ ≠ (v514 : Value).ownBlock ∧ some k_ ≠ (.slice Ao9 t483.length co9 : Value).ownBlock ∧ some k_ ≠ (.slice Ao10 t486.length co10 : Value).ownBlock) v501 t500) := ⟨h3_⟩
              have n4_ : Aside0 (Kd.R (Kd.int .u8) 5 w51 w.heap.size (fun k_ => some k_ ≠ (v492 : Value).ownBlock ∧ some k_ ≠ (v498 : Value).ownBlock ∧ some k_ ≠ (v511 : Value).ownBlock ∧ some k_ ≠ (v514 : Value).ownBlock) v505 t504) := ⟨h4_⟩
              have n5_ : Aside0 (Kd.V (Kd.int .u8) 5 w51 w.heap.size (fun k_ => some k_ ≠ (v492 : Value).ownBlock ∧ some k_ ≠ (v498 : Value).ownBlock ∧ some k_ ≠ (v505 : Value).ownBlock ∧ some k_ ≠ (v511 : Value).ownBlock ∧ some k_ ≠ (v514 : Value).ownBlock ∧ some k_ ≠ (.slice Ao9 t483.length co9 : Value).ownBlock ∧ some k_ ≠ (.slice Ao10 t486.length co10 : Value).ownBlock) v508 t507) := ⟨h5_⟩
              have n6_ : Aside0 (Kd.R (Kd.int .u8) 5 w51 w.heap.size (fun k_ => some k_ ≠ (v492 : Value).ownBlock ∧ some k_ ≠ (v498 : Value).ownBlock ∧ some k_ ≠ (v505 : Value).ownBlock ∧ some k_ ≠ (v514 : Value).ownBlock) v511 t510) := ⟨h6_⟩
              have n7_ : Aside0 (Kd.R (Kd.int .u8) 5 w51 w.heap.size (fun k_ => some k_ ≠ (v492 : Value).ownBlock ∧ some k_ ≠ (v498 : Value).ownBlock ∧ some k_ ≠ (v505 : Value).ownBlock ∧ some k_ ≠ (v511 : Value).ownBlock) v514 t513) := ⟨h7_⟩
              have n8_ : Aside0 (Kd.N (Kd.slice 5 (Kd.int .u8)) 22 w51 w.heap.size (fun k_ => some k_ ≠ (v492 : Value).ownBlock ∧ some k_ ≠ (v498 : Value).ownBlock ∧ some k_ ≠ (v505 : Value).ownBlock ∧ some k_ ≠ (v511 : Value).ownBlock ∧ some k_ ≠ (v514 : Value).ownBlock ∧ some k_ ≠ (.slice Ao10 t486.length co10 : Value).ownBlock) (.slice Ao9 t483.length co9) t483) := ⟨h8_⟩
              have n9_ : Aside0 (Kd.N (Kd.slice 5 (Kd.int .u8)) 22 w51 w.heap.size (fun k_ => some k_ ≠ (v492 : Value).ownBlock ∧ some k_ ≠ (v498 : Value).ownBlock ∧ some k_ ≠ (v505 : Value).ownBlock ∧ some k_ ≠ (v511 : Value).ownBlock ∧ some k_ ≠ (v514 : Value).ownBlock ∧ some k_ ≠ (.slice Ao9 t483.length co9 : Value).ownBlock) (.slice Ao10 t486.length co10) t486) := ⟨h9_⟩
              have n10_ : Aside0 (Below w.heap.size w w51) := ⟨h10_⟩
              clear HO_5
              clear HO_6
              clear HB
              clear h0_ h1_ h2_ h3_ h4_ h5_ h6_ h7_ h8_ h9_ h10_
              have HO493 := n0_
              have HO496 := n1_
              have HO499 := n2_
              have HO502 := n3_
              have HO506 := n4_
              have HO509 := n5_
              have HO512 := n6_
              have HO515 := n7_
              have HO_5 := n8_
              have HO_6 := n9_
              have HB := n10_
              clear n0_ n1_ n2_ n3_ n4_ n5_ n6_ n7_ n8_ n9_ n10_
              have hHeld := trivial
              refine norm_ (a' := ?_) ?_ ?_
              rotate_left
              ·simp only [putAll, Act.put, List.setIfInBounds_toArray, List.set_cons_zero, List.set_cons_succ]
               rfl
              refine one_ (i := 37) (N := some 74) #[true, true, true, true, true, true, true, true, true, true, true, true, true, true, true, true, true, true, true, true, true, true, true, true, true, true, true, true, true, true, true, true, true, true, true, true, true, true, true, true, true, false, false, false, false, false, false] rfl rfl (one_of HT_.out (by kernel_rfl)) (by decide) (fun K hK => ?_)
              (first | have hcv52 := own_string (P := Tryd.prog) Tryd.underlying22 Tryd.underlying5 Tryd.underlying9 (Kd.own_of_R HO512.out) | have hcv52 := V_string (P := Tryd.prog) Tryd.underlying22 Tryd.underlying5 Tryd.underlying9 HO512.out)
              refine value_ (w1 := ?_) (v := ?_) (by rfl) rfl ?_ ?_
              rotate_left 2
              ·go_simp
               constructor
               ·rfl
               ·rfl
              clear hcv52
              refine hK.out _ _ trivial (fun hHeld => ?_)
              clear hK K
              refine norm_ (a' := ?_) ?_ ?_
              rotate_left
              ·show Act.put _ (some 74) _ = _
               simp only [Act.put, List.setIfInBounds_toArray, List.set_cons_zero, List.set_cons_succ, i64_w, i32_w]
               rfl
              exact norm_ (by simp only [putAll, Act.put, List.setIfInBounds_toArray, List.set_cons_zero, List.set_cons_succ] <;> rfl) (hJ2_4_5_9_10_12_13_18_26_27_30_31_36_37_39_40 (v495, v498, v501, v505, v508, v511, v514) _ ⟨HO493.out, HO496.out, HO499.out, HO502.out, HO506.out, HO509.out, HO512.out, HO515.out, HO_5.out, HO_6.out, HB.out⟩)
            ·skip
             rintro ⟨v495, v498, v501, v505, v508, v511, v514⟩ w51 ⟨h0_, h1_, h2_, h3_, h4_, h5_, h6_, h7_, h8_, h9_, h10_⟩
             have n0_ : Aside0 (Kd.R (Kd.int .u8) 5 w51 w.heap.size (fun k_ => some k_ ≠ (v498 : Value).ownBlock ∧ some k_ ≠ (v505 : Value).ownBlock ∧ some k_ ≠ (v511 : Value).ownBlock ∧ some k_ ≠ (v514 : Value).ownBlock) v492 t491) := ⟨h0_⟩
             have n1_ : Aside0 (Kd.V (Kd.int .u8) 5 w51 w.heap.size (fun k_ => some k_ ≠ (v492 : Value).ownBlock ∧ some k_ ≠ (v498 : Value).ownBlock ∧ some k_ ≠ (v505 : Value).ownBlock ∧ some k_ ≠ (v511 : Value).ownBlock ∧ some k_ ≠ (v514 : Value).ownBlock ∧ some k_ ≠ (.slice Ao9 t483.length co9 : Value).ownBlock ∧ some k_ ≠ (.slice Ao10 t486.length co10 : Value).ownBlock) v495 t494) := ⟨h1_⟩
             have n2_ : Aside0 (Kd.R (Kd.int .u8) 5 w51 w.heap.size (fun k_ => some k_ ≠ (v492 : Value).ownBlock ∧ some k_ ≠ (v505 : Value).ownBlock ∧ some k_ ≠ (v511 : Value).ownBlock ∧ some k_ ≠ (v514 : Value).ownBlock) v498 t497) := ⟨h2_⟩
             have n3_ : Aside0 (Kd.V (Kd.int .u8) 5 w51 w.heap.size (fun k_ => some k_ ≠ (v492 : Value).ownBlock ∧ some k_ ≠ (v498 : Value).ownBlock ∧ some k_ ≠ (v505 : Value).ownBlock ∧ some k_ ≠ (v511 : Value).ownBlock ∧ some k_ ≠ (v514 : Value).ownBlock ∧ some k_ ≠ (.slice Ao9 t483.length co9 : Value).ownBlock ∧ some k_ ≠ (.slice Ao10 t486.length co10 : Value).ownBlock) v501 t500) := ⟨h3_⟩
             have n4_ : Aside0 (Kd.R (Kd.int .u8) 5 w51 w.heap.size (fun k_ => some k_ ≠ (v492 : Value).ownBlock ∧ some k_ ≠ (v498 : Value).ownBlock ∧ some k_ ≠ (v511 : Value).ownBlock ∧ some k_ ≠ (v514 : Value).ownBlock) v505 t504) := ⟨h4_⟩
             have n5_ : Aside0 (Kd.V (Kd.int .u8) 5 w51 w.heap.size (fun k_ => some k_ ≠ (v492 : Value).ownBlock ∧ some k_ ≠ (v498 : Value).ownBlock ∧ some k_ ≠ (v505 : Value).ownBlock ∧ some k_ ≠ (v511 : Value).ownBlock ∧ some k_ ≠ (v514 : Value).ownBlock ∧ some k_ ≠ (.slice Ao9 t483.length co9 : Value).ownBlock ∧ some k_ ≠ (.slice Ao10 t486.length co10 : Value).ownBlock) v508 t507) := ⟨h5_⟩
             have n6_ : Aside0 (Kd.R (Kd.int .u8) 5 w51 w.heap.size (fun k_ => some k_ ≠ (v492 : Value).ownBlock ∧ some k_ ≠ (v498 : Value).ownBlock ∧ some k_ ≠ (v505 : Value).ownBlock ∧ some k_ ≠ (v514 : Value).ownBlock) v511 t510) := ⟨h6_⟩
             have n7_ : Aside0 (Kd.R (Kd.int .u8) 5 w51 w.heap.size (fun k_ => some k_ ≠ (v492 : Value).ownBlock ∧ some k_ ≠ (v498 : Value).ownBlock ∧ some k_ ≠ (v505 : Value).ownBlock ∧ some k_ ≠ (v511 : Value).ownBlock) v514 t513) := ⟨h7_⟩
             have n8_ : Aside0 (Kd.N (Kd.slice 5 (Kd.int .u8)) 22 w51 w.heap.size (fun k_ => some k_ ≠ (v492 : Value).ownBlock ∧ some k_ ≠ (v498 : Value).ownBlock ∧ some k_ ≠ (v505 : Value).ownBlock ∧ some k_ ≠ (v511 : Value).ownBlock ∧ some k_ ≠ (v514 : Value).ownBlock ∧ some k_ ≠ (.slice Ao10 t486.length co10 : Value).ownBlock) (.slice Ao9 t483.length co9) t483) := ⟨h8_⟩
             have n9_ : Aside0 (Kd.N (Kd.slice 5 (Kd.int .u8)) 22 w51 w.heap.size (fun k_ => some k_ ≠ (v492 : Value).ownBlock ∧ some k_ ≠ (v498 : Value).ownBlock ∧ some k_ ≠ (v505 : Value).ownBlock ∧ some k_ ≠ (v511 : Value).ownBlock ∧ some k_ ≠ (v514 : Value).ownBlock ∧ some k_ ≠ (.slice Ao9 t483.length co9 : Value).ownBlock) (.slice Ao10 t486.length co10) t486) := ⟨h9_⟩
             have n10_ : Aside0 (Below w.heap.size w w51) := ⟨h10_⟩
             clear HO_5
             clear HO_6
             clear HB
             clear h0_ h1_ h2_ h3_ h4_ h5_ h6_ h7_ h8_ h9_ h10_
             have HO493 := n0_
             have HO496 := n1_
             have HO499 := n2_
             have HO502 := n3_
             have HO506 := n4_
             have HO509 := n5_
             have HO512 := n6_
             have HO515 := n7_
             have HO_5 := n8_
             have HO_6 := n9_
             have HB := n10_
             clear n0_ n1_ n2_ n3_ n4_ n5_ n6_ n7_ n8_ n9_ n10_
             have hHeld := trivial
             refine norm_ (a' := ?_) ?_ ?_
             rotate_left
             ·simp only [putAll, Act.put, List.setIfInBounds_toArray, List.set_cons_zero, List.set_cons_succ]
              rfl
             refine one_ (i := 40) (N := some 77) #[true, true, true, true, true, true, true, true, true, true, true, true, true, true, true, true, true, true, true, true, true, true, true, true, true, true, true, true, true, true, true, true, true, true, true, true, true, true, true, true, true, false, false, false, false, false, false] rfl rfl (one_of HT_.out (by kernel_rfl)) (by decide) (fun K hK => ?_)
             (first | have hcv52 := own_string (P := Tryd.prog) Tryd.underlying22 Tryd.underlying5 Tryd.underlying9 (Kd.own_of_R HO515.out) | have hcv52 := V_string (P := Tryd.prog) Tryd.underlying22 Tryd.underlying5 Tryd.underlying9 HO515.out)
             refine value_ (w1 := ?_) (v := ?_) (by rfl) rfl ?_ ?_
             rotate_left 2
             ·go_simp
              constructor
              ·rfl
              ·rfl
             clear hcv52
             refine hK.out _ _ trivial (fun hHeld => ?_)
             clear hK K
             refine norm_ (a' := ?_) ?_ ?_
             rotate_left
             ·show Act.put _ (some 77) _ = _
              simp only [Act.put, List.setIfInBounds_toArray, List.set_cons_zero, List.set_cons_succ, i64_w, i32_w]
              rfl
             exact norm_ (by simp only [putAll, Act.put, List.setIfInBounds_toArray, List.set_cons_zero, List.set_cons_succ] <;> rfl) (hJ2_4_5_9_10_12_13_18_26_27_30_31_36_37_39_40 (v495, v498, v501, v505, v508, v511, v514) _ ⟨HO493.out, HO496.out, HO499.out, HO502.out, HO506.out, HO509.out, HO512.out, HO515.out, HO_5.out, HO_6.out, HB.out⟩)
           rintro ⟨v495, v498, v501, v505, v508, v511, v514⟩ w52 ⟨h0_, h1_, h2_, h3_, h4_, h5_, h6_, h7_, h8_, h9_, h10_⟩
           have n0_ : Aside0 (Kd.R (Kd.int .u8) 5 w52 w.heap.size (fun k_ => some k_ ≠ (v498 : Value).ownBlock ∧ some k_ ≠ (v505 : Value).ownBlock ∧ some k_ ≠ (v511 : Value).ownBlock ∧ some k_ ≠ (v514 : Value).ownBlock) v492 t491) := ⟨h0_⟩
           have n1_ : Aside0 (Kd.V (Kd.int .u8) 5 w52 w.heap.size (fun k_ => some k_ ≠ (v492 : Value).ownBlock ∧ some k_ ≠ (v498 : Value).ownBlock ∧ some k_ ≠ (v505 : Value).ownBlock ∧ some k_ ≠ (v511 : Value).ownBlock ∧ some k_ ≠ (v514 : Value).ownBlock ∧ some k_ ≠ (.slice Ao9 t483.length co9 : Value).ownBlock ∧ some k_ ≠ (.slice Ao10 t486.length co10 : Value).ownBlock) v495 t494) := ⟨h1_⟩
           have n2_ : Aside0 (Kd.R (Kd.int .u8) 5 w52 w.heap.size (fun k_ => some k_ ≠ (v492 : Value).ownBlock ∧ some k_ ≠ (v505 : Value).ownBlock ∧ some k_ ≠ (v511 : Value).ownBlock ∧ some k_ ≠ (v514 : Value).ownBlock) v498 t497) := ⟨h2_⟩
           have n3_ : Aside0 (Kd.V (Kd.int .u8) 5 w52 w.heap.size (fun k_ => some k_ ≠ (v492 : Value).ownBlock ∧ some k_ ≠ (v498 : Value).ownBlock ∧ some k_ ≠ (v505 : Value).ownBlock ∧ some k_ ≠ (v511 : Value).ownBlock ∧ some k_ ≠ (v514 : Value).ownBlock ∧ some k_ ≠ (.slice Ao9 t483.length co9 : Value).ownBlock ∧ some k_ ≠ (.slice Ao10 t486.length co10 : Value).ownBlock) v501 t500) := ⟨h3_⟩
           have n4_ : Aside0 (Kd.R (Kd.int .u8) 5 w52 w.heap.size (fun k_ => some k_ ≠ (v492 : Value).ownBlock ∧ some k_ ≠ (v498 : Value).ownBlock ∧ some k_ ≠ (v511 : Value).ownBlock ∧ some k_ ≠ (v514 : Value).ownBlock) v505 t504) := ⟨h4_⟩
           have n5_ : Aside0 (Kd.V (Kd.int .u8) 5 w52 w.heap.size (fun k_ => some k_ ≠ (v492 : Value).ownBlock ∧ some k_ ≠ (v498 : Value).ownBlock ∧ some k_ ≠ (v505 : Value).ownBlock ∧ some k_ ≠ (v511 : Value).ownBlock ∧ some k_ ≠ (v514 : Value).ownBlock ∧ some k_ ≠ (.slice Ao9 t483.length co9 : Value).ownBlock ∧ some k_ ≠ (.slice Ao10 t486.length co10 : Value).ownBlock) v508 t507) := ⟨h5_⟩
           have n6_ : Aside0 (Kd.R (Kd.int .u8) 5 w52 w.heap.size (fun k_ => some k_ ≠ (v492 : Value).ownBlock ∧ some k_ ≠ (v498 : Value).ownBlock ∧ some k_ ≠ (v505 : Value).ownBlock ∧ some k_ ≠ (v514 : Value).ownBlock) v511 t510) := ⟨h6_⟩
           have n7_ : Aside0 (Kd.R (Kd.int .u8) 5 w52 w.heap.size (fun k_ => some k_ ≠ (v492 : Value).ownBlock ∧ some k_ ≠ (v498 : Value).ownBlock ∧ some k_ ≠ (v505 : Value).ownBlock ∧ some k_ ≠ (v511 : Value).ownBlock) v514 t513) := ⟨h7_⟩
           have n8_ : Aside0 (Kd.N (Kd.slice 5 (Kd.int .u8)) 22 w52 w.heap.size (fun k_ => some k_ ≠ (v492 : Value).ownBlock ∧ some k_ ≠ (v498 : Value).ownBlock ∧ some k_ ≠ (v505 : Value).ownBlock ∧ some k_ ≠ (v511 : Value).ownBlock ∧ some k_ ≠ (v514 : Value).ownBlock ∧ some k_ ≠ (.slice Ao10 t486.length co10 : Value).ownBlock) (.slice Ao9 t483.length co9) t483) := ⟨h8_⟩
           have n9_ : Aside0 (Kd.N (Kd.slice 5 (Kd.int .u8)) 22 w52 w.heap.size (fun k_ => some k_ ≠ (v492 : Value).ownBlock ∧ some k_ ≠ (v498 : Value).ownBlock ∧ some k_ ≠ (v505 : Value).ownBlock ∧ some k_ ≠ (v511 : Value).ownBlock ∧ some k_ ≠ (v514 : Value).ownBlock ∧ some k_ ≠ (.slice Ao9 t483.length co9 : Value).ownBlock) (.slice Ao10 t486.length co10) t486) := ⟨h9_⟩
           have n10_ : Aside0 (Below w.heap.size w w52) := ⟨h10_⟩
           clear HO_5
           clear HO_6
           clear HB
           clear h0_ h1_ h2_ h3_ h4_ h5_ h6_ h7_ h8_ h9_ h10_
           have HO493 := n0_
           have HO496 := n1_
           have HO499 := n2_
           have HO502 := n3_
           have HO506 := n4_
           have HO509 := n5_
           have HO512 := n6_
           have HO515 := n7_
           have HO_5 := n8_
           have HO_6 := n9_
           have HB := n10_
           clear n0_ n1_ n2_ n3_ n4_ n5_ n6_ n7_ n8_ n9_ n10_
           have hHeld := trivial
           refine norm_ (a' := ?_) ?_ ?_
           rotate_left
           ·simp only [putAll, Act.put, List.setIfInBounds_toArray, List.set_cons_zero, List.set_cons_succ]
            rfl
           refine pure_ (i := 41) (N := some 78) (v := ?_) (a' := ?_) #[true, true, true, true, true, true, true, true, true, true, true, true, true, true, true, true, true, true, true, true, true, true, true, true, true, true, true, true, true, true, true, true, true, true, true, true, true, true, true, true, true, true, false, false, false, false, false] rfl rfl (any_of HT_.out (by kernel_rfl)) (fun _ _ _ h => h) (Or.inl ⟨by rfl, ?_⟩) ?_ ?_
           rotate_left
           ·intro w'
            go_simp
            with_reducible rfl
           rotate_left
           ·simp only [Act.put, List.setIfInBounds_toArray, List.set_cons_zero, List.set_cons_succ, i64_w, i32_w]
            rfl
           refine pure_ (i := 42) (N := some 79) (v := ?_) (a' := ?_) #[true, true, true, true, true, true, true, true, true, true, true, true, true, true, true, true, true, true, true, true, true, true, true, true, true, true, true, true, true, true, true, true, true, true, true, true, true, true, true, true, true, true, true, false, false, false, false] rfl rfl (any_of HT_.out (by kernel_rfl)) (fun _ _ _ h => h) (Or.inl ⟨by rfl, ?_⟩) ?_ ?_
           rotate_left
           ·intro w'
            go_simp
            with_reducible rfl
           rotate_left
           ·simp only [Act.put, List.setIfInBounds_toArray, List.set_cons_zero, List.set_cons_succ, i64_w, i32_w]
            rfl
           refine pure_ (i := 43) (N := some 80) (v := ?_) (a' := ?_) #[true, true, true, true, true, true, true, true, true, true, true, true, true, true, true, true, true, true, true, true, true, true, true, true, true, true, true, true, true, true, true, true, true, true, true, true, true, true, true, true, true, true, true, true, false, false, false] rfl rfl (any_of HT_.out (by kernel_rfl)) (fun _ _ _ h => h) (Or.inl ⟨by rfl, ?_⟩) ?_ ?_
           rotate_left
           ·intro w'
            go_simp
            with_reducible rfl
           rotate_left
           ·simp only [Act.put, List.setIfInBounds_toArray, List.set_cons_zero, List.set_cons_succ, i64_w, i32_w]
            rfl
           refine one_ (i := 44) (N := some 81) #[true, true, true, true, true, true, true, true, true, true, true, true, true, true, true, true, true, true, true, true, true, true, true, true, true, true, true, true, true, true, true, true, true, true, true, true, true, true, true, true, true, true, true, true, true, false, false] rfl rfl (one_of HT_.out (by kernel_rfl)) (by decide) (fun K hK => ?_)
           refine goes_ Tryd.func18 (by kernel_rfl) rfl #[] (by rfl) rfl rfl (by (try simp only [List.map_toArray, List.map_cons, List.map_nil]); first | done | rfl | (simp only [List.length_drop, List.length_take]; rfl)) ?_
           with_reducible refine (letterboxlaw9_known.calls k1  t516 _ A33.out).mono ?_
           rintro e w53 ⟨rfl, hb⟩
           refine ⟨_, rfl, ?_⟩
           have n0_ := Aside0.mk (Kd.N_below HO_5.out hb)
           have n1_ := Aside0.mk (Kd.N_below HO_6.out hb)
           have n2_ := Aside0.mk (Kd.R_below HO493.out hb)
           have n3_ := Aside0.mk (Kd.V_below HO496.out hb)
           have n4_ := Aside0.mk (Kd.R_below HO499.out hb)
           have n5_ := Aside0.mk (Kd.V_below HO502.out hb)
           have n6_ := Aside0.mk (Kd.R_below HO506.out hb)
           have n7_ := Aside0.mk (Kd.V_below HO509.out hb)
           have n8_ := Aside0.mk (Kd.R_below HO512.out hb)
           have n9_ := Aside0.mk (Kd.R_below HO515.out hb)
           have n10_ := Aside0.mk (below_step HB.out hb)
           clear HO_5
           clear HO_6
           clear HO493
           clear HO496
           clear HO499
           clear HO502
           clear HO506
           clear HO509
           clear HO512
           clear HO515
           clear HB
           have HO_5 := n0_
           have HO_6 := n1_
           have HO493 := n2_
           have HO496 := n3_
           have HO499 := n4_
           have HO502 := n5_
           have HO506 := n6_
           have HO509 := n7_
           have HO512 := n8_
           have HO515 := n9_
           have HB := n10_
           clear n0_ n1_ n2_ n3_ n4_ n5_ n6_ n7_ n8_ n9_ n10_
           (try clear hb)
           (try clear hb2)
           (try clear hk)
           (try clear hi)
           refine hK.out _ _ trivial (fun hHeld => ?_)
           clear hK K
           refine norm_ (a' := ?_) ?_ ?_
           rotate_left
           ·show Act.put _ (some 81) _ = _
            simp only [Act.put, List.setIfInBounds_toArray, List.set_cons_zero, List.set_cons_succ, i64_w, i32_w]
            rfl
           refine pure_ (i := 45) (N := some 82) (v := ?_) (a' := ?_) #[true, true, true, true, true, true, true, true, true, true, true, true, true, true, true, true, true, true, true, true, true, true, true, true, true, true, true, true, true, true, true, true, true, true, true, true, true, true, true, true, true, true, true, true, true, true, false] rfl rfl (any_of HT_.out (by kernel_rfl)) (fun _ _ _ h => h) (Or.inl ⟨by rfl, ?_⟩) ?_ ?_
           rotate_left
           ·intro w'
            go_simp
            with_reducible rfl
           rotate_left
           ·simp only [Act.put, List.setIfInBounds_toArray, List.set_cons_zero, List.set_cons_succ, i64_w, i32_w]
            rfl
           refine pure_ (i := 46) (N := some 4) (v := ?_) (a' := ?_) #[true, true, true, true, true, true, true, true, true, true, true, true, true, true, true, true, true, true, true, true, true, true, true, true, true, true, true, true, true, true, true, true, true, true, true, true, true, true, true, true, true, true, true, true, true, true, true] rfl rfl (any_of HT_.out (by kernel_rfl)) (fun _ _ _ h => h) (Or.inl ⟨by rfl, ?_⟩) ?_ ?_
           rotate_left
           ·intro w'
            go_simp
            with_reducible rfl
           rotate_left
           ·simp only [Act.put, List.setIfInBounds_toArray, List.set_cons_zero, List.set_cons_succ, i64_w, i32_w]
            rfl
           refine done_ (done_of HT_.out (by kernel_rfl)) ?_
           try go_wp2
           go_ret
           exact ⟨by first | (rw [Hr_]; done) | rfl | (simp [errW_none, errW_some] <;> rfl) | (simp [*, errW_none, errW_some] <;> rfl), by repeat (first | (with_reducible first | exact HB.out | apply below_alloc | apply pw_below_drewN | apply below_drew1) | exact HB.out)⟩
          ·rw [if_neg c32] at H
           have c32b0 : ((strOfNums t510).toList == (strOfNums t513).toList) = false := beq_eq_false_iff_ne.mpr c32
           have c32b1 : ((strOfNums t510).toList != (strOfNums t513).toList) = true := bne_iff_ne.mpr c32
           exact absurd H (by repeat' first | exact NT.none | exact NT.false | refine NT.ite ?_ ?_ | refine NT.bind (fun _ => ?_))
         ·rw [if_neg c29] at H
          have c29b0 : ((strOfNums t504).toList == (strOfNums t507).toList) = false := beq_eq_false_iff_ne.mpr c29
          have c29b1 : ((strOfNums t504).toList != (strOfNums t507).toList) = true := bne_iff_ne.mpr c29
          exact absurd H (by repeat' first | exact NT.none | exact NT.false | refine NT.ite ?_ ?_ | refine NT.bind (fun _ => ?_))
        ·rw [if_neg c26] at H
         have c26b0 : (t503 == (t486.length : Int)) = false := beq_eq_false_iff_ne.mpr c26
         have c26b1 : (t503 != (t486.length : Int)) = true := bne_iff_ne.mpr c26
         exact absurd H (by repeat' first | exact NT.none | exact NT.false | refine NT.ite ?_ ?_ | refine NT.bind (fun _ => ?_))
       ·rw [if_neg c24] at H
        have c24b0 : ((strOfNums t497).toList == (strOfNums t500).toList) = false := beq_eq_false_iff_ne.mpr c24
        have c24b1 : ((strOfNums t497).toList != (strOfNums t500).toList) = true := bne_iff_ne.mpr c24
        exact absurd H (by repeat' first | exact NT.none | exact NT.false | refine NT.ite ?_ ?_ | refine NT.bind (fun _ => ?_))
      ·rw [if_neg c21] at H
       have c21b0 : ((strOfNums t491).toList == (strOfNums t494).toList) = false := beq_eq_false_iff_ne.mpr c21
       have c21b1 : ((strOfNums t491).toList != (strOfNums t494).toList) = true := bne_iff_ne.mpr c21
       exact absurd H (by repeat' first | exact NT.none | exact NT.false | refine NT.ite ?_ ?_ | refine NT.bind (fun _ => ?_))
  ·rw [if_neg c6] at H
   have c6b0 : ((t483.length : Int) == (t486.length : Int)) = false := beq_eq_false_iff_ne.mpr c6
   have c6b1 : ((t483.length : Int) != (t486.length : Int)) = true := bne_iff_ne.mpr c6
   have c6b2 : (t483.length == t486.length) = false := by first | simpa using c6 | (simp at c6 ⊢; omega)
   exact absurd H (by repeat' first | exact NT.none | exact NT.false | refine NT.ite ?_ ?_ | refine NT.bind (fun _ => ?_))

end Go.Proofs.YtlicjigofnbpjaaDoor.P
