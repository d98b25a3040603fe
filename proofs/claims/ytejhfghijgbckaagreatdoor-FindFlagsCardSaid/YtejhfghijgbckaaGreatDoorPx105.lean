/- The walks of the seat's functions, one contract a function: printed by a program of this session's (wip/gen). Not trusted: Lean checks it. -/
import Derived.Test.YtejhfghijgbckaaGreatDoorPx1
import Derived.Test.YtejhfghijgbckaaGreatDoorPx6
import Derived.Test.YtejhfghijgbckaaGreatDoorPx115
import Derived.Test.YtejhfghijgbckaaGreatDoorFindC
import Derived.Test.YtejhfghijgbckaaGreatDoorMimeConv
-- halved
namespace Go.Proofs.YtejhfghijgbckaaGreatDoor.P
open Go.RowKit Go.Proofs.YtejhfghijgbckaaGreatDoorW.PrintWords Go.Proofs.YtejhfghijgbckaaGreatDoorW.PrintLast Go.Proofs.YtejhfghijgbckaaGreatDoorW.PrintMore
attribute [local go_sem] max2_int min2_int max_two min_two max_three min_three max_four min_four   -- for this text's walks alone
set_option linter.unusedVariables false
set_option linter.unusedSimpArgs false

/-! ### letterboxlaw18_FindFlags: function 5 -/
def letterboxlaw18_FindFlags.j0 : Nat → Int → Int → Bool → Option (Bool)
 | 0, _, _, _ => none
 | k + 1, x0, x1, x24 => if x24 = true then ((letterboxlaw18_known.f k).bind fun t357 => (some t357)) else ((some (([(⟨#[83, 69, 69, 78]⟩ : ByteArray), (⟨#[97, 110, 115, 119, 101, 114, 101, 100]⟩ : ByteArray), (⟨#[70, 108, 97, 103, 103, 101, 100]⟩ : ByteArray), (⟨#[100, 101, 108, 101, 116, 101, 100]⟩ : ByteArray), (⟨#[68, 82, 65, 70, 84]⟩ : ByteArray)] : List ByteArray) : List ByteArray)).bind fun y358 => (if 0 ≤ x1 then (if x1 < (y358.length : Int) then ((letterboxlaw18_atoms.f k (([rdOf ByteArray.empty y358 x1] : List ByteArray))).bind fun t366 => ((letterboxlaw18_meant.f k t366 3 x0 0 ([] : List Int)).bind fun bt369 => (if 2 + (rdOf ByteArray.empty y358 x1).size ≤ 9223372036854775807 then ((letterboxlaw18_atoms.f k (([(⟨#[117, 110]⟩ : ByteArray) ++ (rdOf ByteArray.empty y358 x1)] : List ByteArray))).bind fun t374 => ((letterboxlaw18_meant.f k t374 3 x0 0 ([] : List Int)).bind fun bt377 => (if bt369.2 = true then (if bt377.2 = true then (if 0 ≤ (IntKind.u64.wrap (x1)) then (if (bt369.1 == ((Go.bits .and .i64 (shr .i64 x0 (IntKind.u64.wrap (x1))) 1) == 1)) = true then (if (bt377.1 == (!bt369.1)) = true then ((letterboxlaw18_known.f k).bind fun t379 => (some t379)) else (some false)) else (some false)) else (none)) else (some false)) else (some false)))) else (none)))) else (none)) else (none)))
def letterboxlaw18_FindFlags.f (k : Nat) (a0 : Int) (a1 : Int) : Option (Bool) := if a0 < 0 then (letterboxlaw18_FindFlags.j0 k a0 a1 true) else (if a0 > 31 then (letterboxlaw18_FindFlags.j0 k a0 a1 true) else (if a1 < 0 then (letterboxlaw18_FindFlags.j0 k a0 a1 true) else (letterboxlaw18_FindFlags.j0 k a0 a1 (decide (a1 > 4)))))
theorem letterboxlaw18_FindFlags.mono_l : ∀ k, (∀ y0 y1 y2, LeO (letterboxlaw18_FindFlags.j0 k y0 y1 y2) (letterboxlaw18_FindFlags.j0 (k + 1) y0 y1 y2))
 | 0 => fun _ _ _ r h => by simp [letterboxlaw18_FindFlags.j0] at h
 | k + 1 => by
  have ih0 := letterboxlaw18_FindFlags.mono_l k
  ·intro y0 y1 y2
   unfold letterboxlaw18_FindFlags.j0
   repeat' first
   | (with_reducible exact ih0 _ _ _)
   | (with_reducible exact letterboxlaw18_atoms.mono _ _)
   | (with_reducible exact letterboxlaw18_known.mono _)
   | (with_reducible exact letterboxlaw18_meant.mono _ _ _ _ _ _)
   | (with_reducible exact LeO.refl _)
   | (with_reducible exact LeO.none _)
   | (with_reducible refine LeO.ite ?_ ?_)
   | (with_reducible refine LeO.bind ?_ (fun _ => ?_))
   | exact ih0 _ _ _
   | exact letterboxlaw18_atoms.mono _ _
   | exact letterboxlaw18_known.mono _
   | exact letterboxlaw18_meant.mono _ _ _ _ _ _
   | exact LeO.none _
   | refine LeO.ite ?_ ?_
   | refine LeO.bind ?_ (fun _ => ?_)
theorem letterboxlaw18_FindFlags.mono : ∀ a0 a1 k, LeO (letterboxlaw18_FindFlags.f k a0 a1) (letterboxlaw18_FindFlags.f (k + 1) a0 a1) := by
 intro a0 a1 k
 have ih0 := letterboxlaw18_FindFlags.mono_l k
 unfold letterboxlaw18_FindFlags.f
 repeat' first
   | (with_reducible exact ih0 _ _ _)
   | (with_reducible exact letterboxlaw18_atoms.mono _ _)
   | (with_reducible exact letterboxlaw18_known.mono _)
   | (with_reducible exact letterboxlaw18_meant.mono _ _ _ _ _ _)
   | (with_reducible exact LeO.refl _)
   | (with_reducible exact LeO.none _)
   | (with_reducible refine LeO.ite ?_ ?_)
   | (with_reducible refine LeO.bind ?_ (fun _ => ?_))
   | exact ih0 _ _ _
   | exact letterboxlaw18_atoms.mono _ _
   | exact letterboxlaw18_known.mono _
   | exact letterboxlaw18_meant.mono _ _ _ _ _ _
   | exact LeO.none _
   | refine LeO.ite ?_ ?_
   | refine LeO.bind ?_ (fun _ => ?_)
def letterboxlaw18_FindFlags.T5 : Bool × List (List Nat × List Nat) := (true, [([], []), ([0], [0]), ([1], [1]), ([], []), ([2, 3, 2], [2, 3]), ([4], [4]), ([5], [5]), ([5], [5]), ([6, 4, 0, 1, 2, 3, 4, 5, 6], [6]), ([7, 8, 0, 1, 2, 3, 4, 5, 6, 7, 8], [7])])
def letterboxlaw18_FindFlags.B5 : List Nat := [0, 1, 3, 0, 15, 31, 63, 63, 127, 511]
theorem letterboxlaw18_FindFlags.tab5 : rtab .any (opsOf Tryz.f5 5) = letterboxlaw18_FindFlags.T5 := by kernel_rfl
theorem letterboxlaw18_FindFlags.bits5 : waitsOk letterboxlaw18_FindFlags.T5.2 letterboxlaw18_FindFlags.B5 = true := by kernel_rfl
def letterboxlaw18_FindFlags.T6 : Bool × List (List Nat × List Nat) := (true, [([], []), ([0], [0]), ([1], [1]), ([2], [2]), ([], []), ([3, 4, 3], [3, 4]), ([5], [5]), ([6], [6]), ([6], [6]), ([7, 5, 0, 1, 2, 3, 4, 5, 6, 7], [7]), ([8, 9, 0, 1, 2, 3, 4, 5, 6, 7, 8, 9], [8])])
def letterboxlaw18_FindFlags.B6 : List Nat := [0, 1, 3, 7, 0, 31, 63, 127, 127, 255, 1023]
theorem letterboxlaw18_FindFlags.tab6 : rtab .any (opsOf Tryz.f5 6) = letterboxlaw18_FindFlags.T6 := by kernel_rfl
theorem letterboxlaw18_FindFlags.bits6 : waitsOk letterboxlaw18_FindFlags.T6.2 letterboxlaw18_FindFlags.B6 = true := by kernel_rfl
set_option maxHeartbeats 8000000 in
set_option maxRecDepth 100000 in
theorem letterboxlaw18_FindFlags.calls (k : Nat) (a0 : Int) (a1 : Int) (w : World) (HL0 : Laid w) (h : letterboxlaw18_FindFlags.f k a0 a1 = some true) :
  Calls Tryz.prog 5 #[.int .i64 a0, .int .i64 a1] w fun e w' => e = .returned (.bool true) ∧ Below w.heap.size w w' := by
 have HLd := Aside0.mk HL0
 clear HL0
 have hu37 := Tryz.underlying37
 have HB := Aside0.mk (Below.refl w.heap.size w)
 have H : (if a0 < 0 then (letterboxlaw18_FindFlags.j0 k a0 a1 true) else (if a0 > 31 then (letterboxlaw18_FindFlags.j0 k a0 a1 true) else (if a1 < 0 then (letterboxlaw18_FindFlags.j0 k a0 a1 true) else (letterboxlaw18_FindFlags.j0 k a0 a1 (decide (a1 > 4)))))) = some true := h
 clear h
 have HC3 := Aside0.mk H
 clear H
 go_enter Tryz.func5, Tryz.ntmps5
 go_upto_region 1 with (fail)
 go_cut [24] (fun v24 wc => ∃ (kq : Nat) (x24_2 : Bool), v24 = .bool x24_2 ∧ Aside0 (letterboxlaw18_FindFlags.j0 kq a0 a1 x24_2 = some true) ∧ Aside0 (kq ≤ k) ∧ Aside0 (Below w.heap.size w wc))
 case first =>
  have H := HC3.out
  clear HC3
  by_cases c4 : a0 < 0
  ·rw [if_pos c4] at H
   have c4b0 : decide (a0 < 0) = true := decide_eq_true c4
   clear c4
   (first | rw [c4b0] | (simp only [i64_w, i32_w]; rw [c4b0]) | skip)
   have H' := Aside0.mk H
   clear H
   go_wp2
   go_meet
   case rel => exact ⟨_, (true), (by first | rfl | (simp; done) | (simp [*]; done)), H', ⟨by first | omega | exact Nat.le_refl _⟩, ⟨by repeat (first | (with_reducible first | exact HB.out | apply below_alloc | apply pw_below_drewN | apply below_drew1) | exact HB.out)⟩⟩
  ·rw [if_neg c4] at H
   have c4b0 : decide (a0 < 0) = false := decide_eq_false c4
   clear c4
   (first | rw [c4b0] | (simp only [i64_w, i32_w]; rw [c4b0]) | skip)
   by_cases c5 : a0 > 31
   ·rw [if_pos c5] at H
    have c5b0 : decide (31 < a0) = true := decide_eq_true c5
    clear c5
    have H' := Aside0.mk H
    clear H
    go_wp2
    go_meet
    case rel => exact ⟨_, (true), (by first | rfl | (simp; done) | (simp [*]; done)), H', ⟨by first | omega | exact Nat.le_refl _⟩, ⟨by repeat (first | (with_reducible first | exact HB.out | apply below_alloc | apply pw_below_drewN | apply below_drew1) | exact HB.out)⟩⟩
   ·rw [if_neg c5] at H
    have c5b0 : decide (31 < a0) = false := decide_eq_false c5
    clear c5
    by_cases c6 : a1 < 0
    ·rw [if_pos c6] at H
     have c6b0 : decide (a1 < 0) = true := decide_eq_true c6
     clear c6
     have H' := Aside0.mk H
     clear H
     go_wp2
     go_meet
     case rel => exact ⟨_, (true), (by first | rfl | (simp; done) | (simp [*]; done)), H', ⟨by first | omega | exact Nat.le_refl _⟩, ⟨by repeat (first | (with_reducible first | exact HB.out | apply below_alloc | apply pw_below_drewN | apply below_drew1) | exact HB.out)⟩⟩
    ·rw [if_neg c6] at H
     have c6b0 : decide (a1 < 0) = false := decide_eq_false c6
     clear c6
     have H' := Aside0.mk H
     clear H
     go_wp2
     go_meet
     case rel => exact ⟨_, (decide (a1 > 4)), (by first | rfl | (simp; done) | (simp [*]; done)), H', ⟨by first | omega | exact Nat.le_refl _⟩, ⟨by repeat (first | (with_reducible first | exact HB.out | apply below_alloc | apply pw_below_drewN | apply below_drew1) | exact HB.out)⟩⟩
 case rest =>
  clear HC3
  try clear p2
  try clear c4
  try clear c4b0
  try clear c5
  try clear c5b0
  try clear c6
  try clear c6b0
  obtain ⟨kq, x24_2, rfl, HA, HJ2, HB⟩ := hcut
  cases kq with
  | zero => exact absurd HA.out (by simp [letterboxlaw18_FindFlags.j0])
  | succ kj2 =>
   have H := HA.out
   clear HA
   simp only [letterboxlaw18_FindFlags.j0] at H
   by_cases c7 : x24_2 = true
   ·subst c7
    have H1 : ((letterboxlaw18_known.f kj2).bind fun t357 => (some t357)) = some true := by rw [if_pos rfl] at H; exact H
    clear H
    have H := H1
    clear H1
    replace H := Option.bind_eq_some_iff.mp H
    obtain ⟨t357, A80, H⟩ := H
    replace H : (some t357) = some true := H
    have A8 := Aside0.mk A80
    clear A80
    have Hr_ := Option.some.inj H
    go_wp2_with (first | ((with_reducible refine gate_callee (f := 14) rfl ?_); refine goesL_ (some 25) rfl rfl Tryz.func14 (by kernel_rfl) rfl #[] rfl (by (try simp only [List.map_toArray, List.map_cons, List.map_nil]); first | done | rfl | (simp only [List.length_drop, List.length_take]; rfl)) ?_; (with_reducible refine (letterboxlaw18_known.calls kj2  t357 _ (Laid.below HLd.out (by repeat (first | (with_reducible first | exact HB.out | apply below_alloc | apply pw_below_drewN | apply below_drew1) | exact HB.out))) A8.out).mono ?_); rintro e w9 ⟨rfl, hb⟩; refine ⟨_, rfl, ?_⟩; have n0_ := Aside0.mk (below_step (by repeat (first | (with_reducible first | exact HB.out | apply below_alloc | apply pw_below_drewN | apply below_drew1) | exact HB.out)) hb); clear HB; have HB := n0_; clear n0_; (try clear hb); (try clear hb2); (try clear hk); (try clear hi)))
    go_ret
    exact ⟨by first | (rw [Hr_]; done) | rfl | (simp [errW_none, errW_some] <;> rfl) | (simp [*, errW_none, errW_some] <;> rfl), by repeat (first | (with_reducible first | exact HB.out | apply below_alloc | apply pw_below_drewN | apply below_drew1) | exact HB.out)⟩
   ·replace c7 := Bool.eq_false_iff.mpr c7
    subst c7
    have H1 : ((some (([(⟨#[83, 69, 69, 78]⟩ : ByteArray), (⟨#[97, 110, 115, 119, 101, 114, 101, 100]⟩ : ByteArray), (⟨#[70, 108, 97, 103, 103, 101, 100]⟩ : ByteArray), (⟨#[100, 101, 108, 101, 116, 101, 100]⟩ : ByteArray), (⟨#[68, 82, 65, 70, 84]⟩ : ByteArray)] : List ByteArray) : List ByteArray)).bind fun y358 => (if 0 ≤ a1 then (if a1 < (y358.length : Int) then ((letterboxlaw18_atoms.f kj2 (([rdOf ByteArray.empty y358 a1] : List ByteArray))).bind fun t366 => ((letterboxlaw18_meant.f kj2 t366 3 a0 0 ([] : List Int)).bind fun bt369 => (if 2 + (rdOf ByteArray.empty y358 a1).size ≤ 9223372036854775807 then ((letterboxlaw18_atoms.f kj2 (([(⟨#[117, 110]⟩ : ByteArray) ++ (rdOf ByteArray.empty y358 a1)] : List ByteArray))).bind fun t374 => ((letterboxlaw18_meant.f kj2 t374 3 a0 0 ([] : List Int)).bind fun bt377 => (if bt369.2 = true then (if bt377.2 = true then (if 0 ≤ (IntKind.u64.wrap (a1)) then (if (bt369.1 == ((Go.bits .and .i64 (shr .i64 a0 (IntKind.u64.wrap (a1))) 1) == 1)) = true then (if (bt377.1 == (!bt369.1)) = true then ((letterboxlaw18_known.f kj2).bind fun t379 => (some t379)) else (some false)) else (some false)) else (none)) else (some false)) else (some false)))) else (none)))) else (none)) else (none))) = some true := by rw [if_neg (show ¬ (false = true) by decide)] at H; exact H
    clear H
    have H := H1
    clear H1
    obtain ⟨y358, hy358⟩ : ∃ y_ : List ByteArray, y_ = (([(⟨#[83, 69, 69, 78]⟩ : ByteArray), (⟨#[97, 110, 115, 119, 101, 114, 101, 100]⟩ : ByteArray), (⟨#[70, 108, 97, 103, 103, 101, 100]⟩ : ByteArray), (⟨#[100, 101, 108, 101, 116, 101, 100]⟩ : ByteArray), (⟨#[68, 82, 65, 70, 84]⟩ : ByteArray)] : List ByteArray)) := ⟨_, rfl⟩
    replace H : (if 0 ≤ a1 then (if a1 < (y358.length : Int) then ((letterboxlaw18_atoms.f kj2 (([rdOf ByteArray.empty y358 a1] : List ByteArray))).bind fun t366 => ((letterboxlaw18_meant.f kj2 t366 3 a0 0 ([] : List Int)).bind fun bt369 => (if 2 + (rdOf ByteArray.empty y358 a1).size ≤ 9223372036854775807 then ((letterboxlaw18_atoms.f kj2 (([(⟨#[117, 110]⟩ : ByteArray) ++ (rdOf ByteArray.empty y358 a1)] : List ByteArray))).bind fun t374 => ((letterboxlaw18_meant.f kj2 t374 3 a0 0 ([] : List Int)).bind fun bt377 => (if bt369.2 = true then (if bt377.2 = true then (if 0 ≤ (IntKind.u64.wrap (a1)) then (if (bt369.1 == ((Go.bits .and .i64 (shr .i64 a0 (IntKind.u64.wrap (a1))) 1) == 1)) = true then (if (bt377.1 == (!bt369.1)) = true then ((letterboxlaw18_known.f kj2).bind fun t379 => (some t379)) else (some false)) else (some false)) else (none)) else (some false)) else (some false)))) else (none)))) else (none)) else (none)) = some true := by first | (rw [hy358]; with_reducible exact H) | (have H2_ := (Option.bind_some _ _).symm.trans H; rw [hy358]; with_reducible exact H2_) | (have H2_ := (Option.bind_some _ _).symm.trans H; with_reducible exact H2_) | with_reducible exact H | (rw [hy358]; exact H) | exact H
    have Ny358 := Aside0.mk hy358
    clear hy358
    by_cases c10 : 0 ≤ a1
    ·rw [if_pos c10] at H
     have c10b0 : decide (0 ≤ a1) = true := decide_eq_true c10
     clear c10
     by_cases c11 : a1 < (y358.length : Int)
     ·rw [if_pos c11] at H
      have c11b0 : decide (a1 < (y358.length : Int)) = true := decide_eq_true c11
      clear c11
      obtain ⟨y363, hy363⟩ : ∃ y_ : List ByteArray, y_ = (([rdOf ByteArray.empty y358 a1] : List ByteArray)) := ⟨_, rfl⟩
      replace H : ((letterboxlaw18_atoms.f kj2 y363).bind fun t366 => ((letterboxlaw18_meant.f kj2 t366 3 a0 0 ([] : List Int)).bind fun bt369 => (if 2 + (rdOf ByteArray.empty y358 a1).size ≤ 9223372036854775807 then ((letterboxlaw18_atoms.f kj2 (([(⟨#[117, 110]⟩ : ByteArray) ++ (rdOf ByteArray.empty y358 a1)] : List ByteArray))).bind fun t374 => ((letterboxlaw18_meant.f kj2 t374 3 a0 0 ([] : List Int)).bind fun bt377 => (if bt369.2 = true then (if bt377.2 = true then (if 0 ≤ (IntKind.u64.wrap (a1)) then (if (bt369.1 == ((Go.bits .and .i64 (shr .i64 a0 (IntKind.u64.wrap (a1))) 1) == 1)) = true then (if (bt377.1 == (!bt369.1)) = true then ((letterboxlaw18_known.f kj2).bind fun t379 => (some t379)) else (some false)) else (some false)) else (none)) else (some false)) else (some false)))) else (none)))) = some true := by first | (rw [hy363]; with_reducible exact H) | (have H2_ := (Option.bind_some _ _).symm.trans H; rw [hy363]; with_reducible exact H2_) | (have H2_ := (Option.bind_some _ _).symm.trans H; with_reducible exact H2_) | with_reducible exact H | (rw [hy363]; exact H) | exact H
      have Ny363 := Aside0.mk hy363
      clear hy363
      replace H := Option.bind_eq_some_iff.mp H
      obtain ⟨t366, A120, H⟩ := H
      replace H : ((letterboxlaw18_meant.f kj2 t366 3 a0 0 ([] : List Int)).bind fun bt369 => (if 2 + (rdOf ByteArray.empty y358 a1).size ≤ 9223372036854775807 then ((letterboxlaw18_atoms.f kj2 (([(⟨#[117, 110]⟩ : ByteArray) ++ (rdOf ByteArray.empty y358 a1)] : List ByteArray))).bind fun t374 => ((letterboxlaw18_meant.f kj2 t374 3 a0 0 ([] : List Int)).bind fun bt377 => (if bt369.2 = true then (if bt377.2 = true then (if 0 ≤ (IntKind.u64.wrap (a1)) then (if (bt369.1 == ((Go.bits .and .i64 (shr .i64 a0 (IntKind.u64.wrap (a1))) 1) == 1)) = true then (if (bt377.1 == (!bt369.1)) = true then ((letterboxlaw18_known.f kj2).bind fun t379 => (some t379)) else (some false)) else (some false)) else (none)) else (some false)) else (some false)))) else (none))) = some true := H
      have A12 := Aside0.mk A120
      clear A120
      replace H := Option.bind_eq_some_iff.mp H
      obtain ⟨⟨t369, t370⟩, A130, H⟩ := H
      replace H : (if 2 + (rdOf ByteArray.empty y358 a1).size ≤ 9223372036854775807 then ((letterboxlaw18_atoms.f kj2 (([(⟨#[117, 110]⟩ : ByteArray) ++ (rdOf ByteArray.empty y358 a1)] : List ByteArray))).bind fun t374 => ((letterboxlaw18_meant.f kj2 t374 3 a0 0 ([] : List Int)).bind fun bt377 => (if t370 = true then (if bt377.2 = true then (if 0 ≤ (IntKind.u64.wrap (a1)) then (if (t369 == ((Go.bits .and .i64 (shr .i64 a0 (IntKind.u64.wrap (a1))) 1) == 1)) = true then (if (bt377.1 == (!t369)) = true then ((letterboxlaw18_known.f kj2).bind fun t379 => (some t379)) else (some false)) else (some false)) else (none)) else (some false)) else (some false)))) else (none)) = some true := H
      have A13 := Aside0.mk A130
      clear A130
      by_cases c14 : 2 + (rdOf ByteArray.empty y358 a1).size ≤ 9223372036854775807
      ·rw [if_pos c14] at H
       have c14b0 := eq_true c14
       have c14b1 : decide (2 + (rdOf ByteArray.empty y358 a1).size ≤ 9223372036854775807) = true := decide_eq_true c14
       try have c14b2 : (9223372036854775807 < 2 + (rdOf ByteArray.empty y358 a1).size) = False := eq_false (Nat.not_lt.2 c14)
       obtain ⟨y371, hy371⟩ : ∃ y_ : List ByteArray, y_ = (([(⟨#[117, 110]⟩ : ByteArray) ++ (rdOf ByteArray.empty y358 a1)] : List ByteArray)) := ⟨_, rfl⟩
       replace H : ((letterboxlaw18_atoms.f kj2 y371).bind fun t374 => ((letterboxlaw18_meant.f kj2 t374 3 a0 0 ([] : List Int)).bind fun bt377 => (if t370 = true then (if bt377.2 = true then (if 0 ≤ (IntKind.u64.wrap (a1)) then (if (t369 == ((Go.bits .and .i64 (shr .i64 a0 (IntKind.u64.wrap (a1))) 1) == 1)) = true then (if (bt377.1 == (!t369)) = true then ((letterboxlaw18_known.f kj2).bind fun t379 => (some t379)) else (some false)) else (some false)) else (none)) else (some false)) else (some false)))) = some true := by first | (rw [hy371]; with_reducible exact H) | (have H2_ := (Option.bind_some _ _).symm.trans H; rw [hy371]; with_reducible exact H2_) | (have H2_ := (Option.bind_some _ _).symm.trans H; with_reducible exact H2_) | with_reducible exact H | (rw [hy371]; exact H) | exact H
       have Ny371 := Aside0.mk hy371
       clear hy371
       replace H := Option.bind_eq_some_iff.mp H
       obtain ⟨t374, A150, H⟩ := H
       replace H : ((letterboxlaw18_meant.f kj2 t374 3 a0 0 ([] : List Int)).bind fun bt377 => (if t370 = true then (if bt377.2 = true then (if 0 ≤ (IntKind.u64.wrap (a1)) then (if (t369 == ((Go.bits .and .i64 (shr .i64 a0 (IntKind.u64.wrap (a1))) 1) == 1)) = true then (if (bt377.1 == (!t369)) = true then ((letterboxlaw18_known.f kj2).bind fun t379 => (some t379)) else (some false)) else (some false)) else (none)) else (some false)) else (some false))) = some true := H
       have A15 := Aside0.mk A150
       clear A150
       replace H := Option.bind_eq_some_iff.mp H
       obtain ⟨⟨t377, t378⟩, A160, H⟩ := H
       replace H : (if t370 = true then (if t378 = true then (if 0 ≤ (IntKind.u64.wrap (a1)) then (if (t369 == ((Go.bits .and .i64 (shr .i64 a0 (IntKind.u64.wrap (a1))) 1) == 1)) = true then (if (t377 == (!t369)) = true then ((letterboxlaw18_known.f kj2).bind fun t379 => (some t379)) else (some false)) else (some false)) else (none)) else (some false)) else (some false)) = some true := H
       have A16 := Aside0.mk A160
       clear A160
       by_cases c17 : t370 = true
       ·subst c17
        have H1 : (if t378 = true then (if 0 ≤ (IntKind.u64.wrap (a1)) then (if (t369 == ((Go.bits .and .i64 (shr .i64 a0 (IntKind.u64.wrap (a1))) 1) == 1)) = true then (if (t377 == (!t369)) = true then ((letterboxlaw18_known.f kj2).bind fun t379 => (some t379)) else (some false)) else (some false)) else (none)) else (some false)) = some true := by rw [if_pos rfl] at H; exact H
        clear H
        have H := H1
        clear H1
        by_cases c18 : t378 = true
        ·subst c18
         have H1 : (if 0 ≤ (IntKind.u64.wrap (a1)) then (if (t369 == ((Go.bits .and .i64 (shr .i64 a0 (IntKind.u64.wrap (a1))) 1) == 1)) = true then (if (t377 == (!t369)) = true then ((letterboxlaw18_known.f kj2).bind fun t379 => (some t379)) else (some false)) else (some false)) else (none)) = some true := by rw [if_pos rfl] at H; exact H
         clear H
         have H := H1
         clear H1
         obtain ⟨ji19, hji19⟩ : ∃ j_ : Int, (IntKind.u64.wrap (a1)) = j_ := ⟨_, rfl⟩
         replace H : (if 0 ≤ (ji19) then (if (t369 == ((Go.bits .and .i64 (shr .i64 a0 (ji19)) 1) == 1)) = true then (if (t377 == (!t369)) = true then ((letterboxlaw18_known.f kj2).bind fun t379 => (some t379)) else (some false)) else (some false)) else (none)) = some true := by first | (rw [hji19] at H; exact H) | (simp only [hji19] at H ⊢; exact H)
         (try rw [hji19] at A12)
         (try rw [hji19] at A13)
         (try rw [hji19] at A15)
         (try rw [hji19] at A16)
         by_cases c20 : 0 ≤ (ji19)
         ·rw [if_pos c20] at H
          have c20b0 := eq_true c20
          have c20b1 : decide (0 ≤ (ji19)) = true := decide_eq_true c20
          clear c20
          obtain ⟨ji21, hji21⟩ : ∃ j_ : Int, (shr .i64 a0 (ji19)) = j_ := ⟨_, rfl⟩
          replace H : (if (t369 == ((Go.bits .and .i64 (ji21) 1) == 1)) = true then (if (t377 == (!t369)) = true then ((letterboxlaw18_known.f kj2).bind fun t379 => (some t379)) else (some false)) else (some false)) = some true := by first | (rw [hji21] at H; exact H) | (simp only [hji21] at H ⊢; exact H)
          (try rw [hji21] at A12)
          (try rw [hji21] at A13)
          (try rw [hji21] at A15)
          (try rw [hji21] at A16)
          have hji21_ : (a0 / 2 ^ min (ji19).toNat 64) = ji21 := hji21
          have hji21z : (ji19) ≤ 64 → (a0 / 2 ^ (ji19).toNat) = ji21 := shr_small hji21
          by_cases c22 : (t369 == ((Go.bits .and .i64 (ji21) 1) == 1)) = true
          ·rw [if_pos c22] at H
           have c22b0 : (t369 == ((Go.bits .and .i64 (ji21) 1) == 1)) = true := c22
           (try (have c22b1 : decide (t369 = ((Go.bits .and .i64 (ji21) 1) == 1)) = true := by simpa using c22))
           (try (have c22b2 : (t369 == ((Go.bits .and .i64 (ji21) 1) == 1)) = true := by simpa using c22))
           clear c22
           by_cases c23 : (t377 == (!t369)) = true
           ·rw [if_pos c23] at H
            have c23b0 : (t377 == (!t369)) = true := c23
            (try (have c23b1 : decide (t377 = (!t369)) = true := by simpa using c23))
            (try (have c23b2 : (t377 == (!t369)) = true := by simpa using c23))
            clear c23
            replace H := Option.bind_eq_some_iff.mp H
            obtain ⟨t379, A240, H⟩ := H
            replace H : (some t379) = some true := H
            have A24 := Aside0.mk A240
            clear A240
            have Hr_ := Option.some.inj H
            try go_wp2_with (first | ((with_reducible refine gate_dst (N := 26) rfl ?_); refine Kd.R_lit Kd.string _ 9 ?hg (N := 26) ?hd (xs := ([(⟨#[83, 69, 69, 78]⟩ : ByteArray), (⟨#[97, 110, 115, 119, 101, 114, 101, 100]⟩ : ByteArray), (⟨#[70, 108, 97, 103, 103, 101, 100]⟩ : ByteArray), (⟨#[100, 101, 108, 101, 116, 101, 100]⟩ : ByteArray), (⟨#[68, 82, 65, 70, 84]⟩ : ByteArray)] : List ByteArray)) (inner := [.string (⟨#[83, 69, 69, 78]⟩ : ByteArray), .string (⟨#[97, 110, 115, 119, 101, 114, 101, 100]⟩ : ByteArray), .string (⟨#[70, 108, 97, 103, 103, 101, 100]⟩ : ByteArray), .string (⟨#[100, 101, 108, 101, 116, 101, 100]⟩ : ByteArray), .string (⟨#[68, 82, 65, 70, 84]⟩ : ByteArray)]) (ok := fun _ => True) (okp := fun _ => True) ?hr ?hp (fun _ hk => hk) trivial (Below.refl _ _) (Nat.le_refl _) (by simp) ?_; (case hd => rfl); (case hg => rfl); (case hr => first | (go_simp; done) | (go_simp; rfl)); (case hp => exact (Reps.one (show Kd.M Kd.string _ _ _ (⟨#[83, 69, 69, 78]⟩ : ByteArray) [.string (⟨#[83, 69, 69, 78]⟩ : ByteArray)] from rfl) (Reps.one (show Kd.M Kd.string _ _ _ (⟨#[97, 110, 115, 119, 101, 114, 101, 100]⟩ : ByteArray) [.string (⟨#[97, 110, 115, 119, 101, 114, 101, 100]⟩ : ByteArray)] from rfl) (Reps.one (show Kd.M Kd.string _ _ _ (⟨#[70, 108, 97, 103, 103, 101, 100]⟩ : ByteArray) [.string (⟨#[70, 108, 97, 103, 103, 101, 100]⟩ : ByteArray)] from rfl) (Reps.one (show Kd.M Kd.string _ _ _ (⟨#[100, 101, 108, 101, 116, 101, 100]⟩ : ByteArray) [.string (⟨#[100, 101, 108, 101, 116, 101, 100]⟩ : ByteArray)] from rfl) (Reps.one (show Kd.M Kd.string _ _ _ (⟨#[68, 82, 65, 70, 84]⟩ : ByteArray) [.string (⟨#[68, 82, 65, 70, 84]⟩ : ByteArray)] from rfl) (Reps.none _ _))))))); intro v359 w25 ho26 hb hg_ hnew_; clear hg_ hnew_; (first | rw [← Ny358.out] at ho26 | (simp only [Int.reduceToNat] at ho26; rw [← Ny358.out] at ho26)); have n0_ := Aside0.mk (Kd.R_lower ho26 (below_size (by repeat (first | (with_reducible first | exact HB.out | apply below_alloc | apply pw_below_drewN | apply below_drew1) | exact HB.out)))); have n1_ := Aside0.mk (below_step (by repeat (first | (with_reducible first | exact HB.out | apply below_alloc | apply pw_below_drewN | apply below_drew1) | exact HB.out)) hb); clear HB; have HO360 := n0_; have HB := n1_; clear n0_ n1_; clear hb ho26; obtain ⟨Ao27, co27, eo27⟩ := Kd.R_slice HO360.out; subst eo27; have p361 : 0 ≤ (a1 : Int) := of_decide_eq_true (by first | (with_reducible assumption) | assumption); have q361 : a1 < (y358.length : Int) := of_decide_eq_true (by first | (with_reducible assumption) | assumption); obtain ⟨ad361, e361, hx361_0⟩ := Kd.at_string (Kd.R_reads' HO360.out).2.2 a1 p361 q361; cases e361; replace p361 := eq_true p361; replace q361 := eq_true q361) | ((with_reducible refine gate_dst (N := 6) rfl ?_); refine box_event ?hg (N := 6) ?hd (cs := #[.int .i64 0, .int .i64 0, .int .i64 0, .slice none 0 0]) (t := 37) ?hr ?_; (case hd => rfl); (case hg => rfl); (case hr => first | (go_simp; done) | (go_simp; rfl)); intro gb362 hg w28 hbox hb; have n0_ := Aside0.mk (Kd.R_below (by (with_reducible repeat (first | apply Kd.R_alloc | apply Kd.R_drewN | apply Kd.R_drew)); exact HO360.out) hb); have n1_ := Aside0.mk (below_step (by repeat (first | (with_reducible first | exact HB.out | apply below_alloc | apply pw_below_drewN | apply below_drew1) | exact HB.out)) hb); have n2_ := Aside0.mk (hbox); have n3_ := Aside0.mk ((by rw [hg]; exact (below_size (by repeat (first | (with_reducible first | exact HB.out | apply below_alloc | apply pw_below_drewN | apply below_drew1) | exact HB.out))) : w.heap.size ≤ gb362)); have n4_ := Aside0.mk ((by rw [hg]; exact (below_size (by repeat (first | (with_reducible first | exact HB.out | apply below_alloc | apply pw_below_drewN | apply below_drew1) | exact HB.out))) : w.heap.size ≤ gb362)); clear HO360; clear HB; have HO360 := n0_; have HB := n1_; have BK362 := n2_; have GW362 := n3_; have GE362 := n4_; clear n0_ n1_ n2_ n3_ n4_; clear hb hbox hg; have hcz29_0 : w28.cell? ⟨gb362, 0, none⟩ = some (.int .i64 0) := (blk_cell BK362.out 0).trans rfl; have hcz29_1 : w28.cell? ⟨gb362, 1, none⟩ = some (.int .i64 0) := (blk_cell BK362.out 1).trans rfl; have hcz29_2 : w28.cell? ⟨gb362, 2, none⟩ = some (.int .i64 0) := (blk_cell BK362.out 2).trans rfl; have hcz29_3 : w28.cell? ⟨gb362, 3, none⟩ = some (.slice none 0 0) := (blk_cell BK362.out 3).trans rfl; have hfz29_0 := blk_frozen BK362.out 0; have hfz29_1 := blk_frozen BK362.out 1; have hfz29_2 := blk_frozen BK362.out 2; have hfz29_3 := blk_frozen BK362.out 3))
            have n0_ : Aside0 (Kd.R Kd.string 9 ((((w28.setCell ⟨gb362, 0, none⟩ (.int .i64 3)).setCell ⟨gb362, 1, none⟩ (.int .i64 a0)).setCell ⟨gb362, 2, none⟩ (.int .i64 0)).setCell ⟨gb362, 3, none⟩ (.slice none 0 0)) w.heap.size (fun _ => True) (.slice (some ad361) y358.length co27) y358) := ⟨by (with_reducible repeat (first | apply Kd.R_alloc | apply Kd.R_drewN | apply Kd.R_drew)); exact Kd.R_mono (Kd.R_far (p := ⟨gb362, 3, none⟩) (Kd.R_far (p := ⟨gb362, 2, none⟩) (Kd.R_far (p := ⟨gb362, 1, none⟩) (Kd.R_far (p := ⟨gb362, 0, none⟩) (Kd.R_types HO360.out BK362.out (by decide)) (fun _ hk => hk.2) (.int .i64 3)) (fun _ hk => hk.2) (.int .i64 a0)) (fun _ hk => hk.2) (.int .i64 0)) (fun _ hk => hk.2) (.slice none 0 0)) (fun _ hk => trivial)⟩
            have n1_ : Aside0 (((((w28.setCell ⟨gb362, 0, none⟩ (.int .i64 3)).setCell ⟨gb362, 1, none⟩ (.int .i64 a0)).setCell ⟨gb362, 2, none⟩ (.int .i64 0)).setCell ⟨gb362, 3, none⟩ (.slice none 0 0)).heap[gb362]? = some (.cells #[.int .i64 3, .int .i64 a0, .int .i64 0, .slice none 0 0] 37 (0, 0))) := ⟨by (with_reducible repeat (first | refine blk_drewN ?_ _ | refine blk_drew ?_ | refine blk_alloc ?_ _)); refine blk_put (cs := #[.int .i64 3, .int .i64 a0, .int .i64 0, .slice none 0 0]) ?_ 3 _ rfl; (with_reducible repeat (first | refine blk_drewN ?_ _ | refine blk_drew ?_ | refine blk_alloc ?_ _)); refine blk_put (cs := #[.int .i64 3, .int .i64 a0, .int .i64 0, .slice none 0 0]) ?_ 2 _ rfl; (with_reducible repeat (first | refine blk_drewN ?_ _ | refine blk_drew ?_ | refine blk_alloc ?_ _)); refine blk_put (cs := #[.int .i64 3, .int .i64 0, .int .i64 0, .slice none 0 0]) ?_ 1 _ rfl; (with_reducible repeat (first | refine blk_drewN ?_ _ | refine blk_drew ?_ | refine blk_alloc ?_ _)); refine blk_put (cs := #[.int .i64 0, .int .i64 0, .int .i64 0, .slice none 0 0]) ?_ 0 _ rfl; (with_reducible repeat (first | refine blk_drewN ?_ _ | refine blk_drew ?_ | refine blk_alloc ?_ _)); exact BK362.out⟩
            have n2_ : Aside0 (Below w.heap.size w ((((w28.setCell ⟨gb362, 0, none⟩ (.int .i64 3)).setCell ⟨gb362, 1, none⟩ (.int .i64 a0)).setCell ⟨gb362, 2, none⟩ (.int .i64 0)).setCell ⟨gb362, 3, none⟩ (.slice none 0 0))) := ⟨by repeat (first | (with_reducible first | exact HB.out | apply below_alloc | apply pw_below_drewN | apply below_drew1 | refine below_set ?_ GE362.out) | exact HB.out)⟩
            (try clear HO360)
            (try clear BK362)
            (try clear HB)
            generalize ((((w28.setCell ⟨gb362, 0, none⟩ (.int .i64 3)).setCell ⟨gb362, 1, none⟩ (.int .i64 a0)).setCell ⟨gb362, 2, none⟩ (.int .i64 0)).setCell ⟨gb362, 3, none⟩ (.slice none 0 0)) = w30 at n0_ n1_ n2_ ⊢
            have HO360 := n0_
            have BK362 := n1_
            have HB := n2_
            clear n0_ n1_ n2_
            have n0_ := Aside0.mk (Kd.R_drew HO360.out)
            have n1_ := Aside0.mk (blk_drew BK362.out)
            have n2_ := Aside0.mk (below_drew1 HB.out)
            clear HO360
            clear BK362
            clear HB
            have HO360 := n0_
            have BK362 := n1_
            have HB := n2_
            clear n0_ n1_ n2_
            refine start_ (n := 10) (S := fun w' => w'.cell? ⟨gb362, 0, none⟩ = some (.int .i64 3) ∧ w'.cell? ⟨gb362, 1, none⟩ = some (.int .i64 a0) ∧ w'.cell? ⟨gb362, 2, none⟩ = some (.int .i64 0) ∧ w'.cell? ⟨gb362, 3, none⟩ = some (.slice none 0 0)) (ds := []) #[false, false, false, false, false, false, false, false, false, false] (by kernel_rfl) rfl rfl ⟨(blk_cell BK362.out 0).trans rfl, (blk_cell BK362.out 1).trans rfl, (blk_cell BK362.out 2).trans rfl, (blk_cell BK362.out 3).trans rfl⟩ (fun hHeld => ?_); refine with_tabW letterboxlaw18_FindFlags.tab5 letterboxlaw18_FindFlags.bits5 (fun HT_ HW_ => ?_)
            generalize w30.drew = w31 at HO360 BK362 HB hHeld ⊢
            refine pure_ (i := 0) (N := some 33) (v := ?_) (a' := ?_) #[true, false, false, false, false, false, false, false, false, false] rfl rfl (any_of HT_.out (by kernel_rfl)) (fun _ _ _ h => h) (Or.inl ⟨by rfl, ?_⟩) ?_ ?_
            rotate_left
            ·intro w'
             go_simp
             with_reducible rfl
            rotate_left
            ·simp only [Act.put, List.setIfInBounds_toArray, List.set_cons_zero, List.set_cons_succ, i64_w, i32_w]
             rfl
            refine take_ (i := 3) (N := some 36) (v := ?_) (a' := ?_) #[true, false, false, true, false, false, false, false, false, false] rfl rfl (take_ofW HT_.out HW_.out (by kernel_rfl)) (fun _ _ _ h => h) (Or.inl ⟨by rfl, ?_⟩) hHeld ?_ ?_
            rotate_left
            ·rintro w' ⟨s0, s1, s2, s3⟩
             go_simp
             with_reducible rfl
            rotate_left
            ·simp only [Act.put, List.setIfInBounds_toArray, List.set_cons_zero, List.set_cons_succ, i64_w, i32_w]
             rfl
            refine one_ (i := 1) (N := some 34) #[true, true, false, true, false, false, false, false, false, false] rfl rfl (one_of HT_.out (by kernel_rfl)) (by decide) (fun K hK => ?_)
            refine Kd.R_lit_step Kd.string _ 9 ?hg (N := 34) ?hd (xs := ([rdOf ByteArray.empty y358 a1] : List ByteArray)) (inner := [.string (rdOf ByteArray.empty y358 a1)]) (ok := fun _ => True) (okp := fun _ => True) ?hr ?hp (fun _ hk => hk) trivial (Below.refl _ _) (Nat.le_refl _) (by simp) ?_; (case hd => rfl); (case hg => rfl); (case hr => first | (go_simp; done) | (go_simp; rfl)); (case hp => exact (Reps.one (show Kd.M Kd.string _ _ _ (rdOf ByteArray.empty y358 a1) [.string (rdOf ByteArray.empty y358 a1)] from rfl) (Reps.none _ _)))
            intro v364 w32 ho33 hb hg_ hnew_
            clear hg_ hnew_
            (first | rw [← Ny363.out] at ho33 | (simp only [Int.reduceToNat] at ho33; rw [← Ny363.out] at ho33))
            have n0_ := Aside0.mk (Kd.R_elder' (by (with_reducible repeat (first | apply Kd.R_alloc | apply Kd.R_drewN | apply Kd.R_drew)); exact HO360.out) (Kd.R_base ho33) hb)
            have n1_ := Aside0.mk (Kd.R_lower (Kd.R_new' ho33 (Kd.R_lt (by (with_reducible repeat (first | apply Kd.R_alloc | apply Kd.R_drewN | apply Kd.R_drew)); exact HO360.out))) (below_size (by repeat (first | (with_reducible first | exact HB.out | apply below_alloc | apply pw_below_drewN | apply below_drew1 | refine below_set ?_ GE362.out) | exact HB.out))))
            have n2_ := Aside0.mk (blk_below (g := gb362) (o := .cells #[.int .i64 3, .int .i64 a0, .int .i64 0, .slice none 0 0] 37 (0, 0)) (by (with_reducible repeat (first | refine blk_drewN ?_ _ | refine blk_drew ?_ | refine blk_alloc ?_ _)); exact BK362.out) hb)
            have n3_ := Aside0.mk (below_step (by repeat (first | (with_reducible first | exact HB.out | apply below_alloc | apply pw_below_drewN | apply below_drew1 | refine below_set ?_ GE362.out) | exact HB.out)) hb)
            clear HO360
            clear BK362
            clear HB
            have HO360 := n0_
            have HO365 := n1_
            have BK362 := n2_
            have HB := n3_
            clear n0_ n1_ n2_ n3_
            clear hb ho33
            obtain ⟨Ao34, co34, eo34⟩ := Kd.R_slice HO365.out
            (first | subst eo34 | (injection eo34 with f1_ f2_ f3_; have f4_ := f1_.symm; have f5_ := f3_.symm; clear f1_ f2_ f3_; subst f4_; subst f5_))
            refine hK.out _ _ ⟨(blk_cell BK362.out 0).trans rfl, (blk_cell BK362.out 1).trans rfl, (blk_cell BK362.out 2).trans rfl, (blk_cell BK362.out 3).trans rfl⟩ (fun hHeld => ?_)
            clear hK K
            refine norm_ (a' := ?_) ?_ ?_
            rotate_left
            ·show Act.put _ (some 34) _ = _
             simp only [Act.put, List.setIfInBounds_toArray, List.set_cons_zero, List.set_cons_succ, i64_w, i32_w]
             rfl
            refine one_ (i := 2) (N := some 35) #[true, true, true, true, false, false, false, false, false, false] rfl rfl (one_of HT_.out (by kernel_rfl)) (by decide) (fun K hK => ?_)
            refine goes_ Tryz.func16 (by kernel_rfl) rfl #[.slice Ao34 y363.length co34] (by rfl) rfl rfl (by (try simp only [List.map_toArray, List.map_cons, List.map_nil]); first | done | rfl | (simp only [List.length_drop, List.length_take]; rfl)) ?_
            with_reducible refine (letterboxlaw18_atoms.calls kj2 _ _ y363 t366 _ ?side1 ?side2 A12.out).mono ?_
            (case side1 => repeat (first | exact (Kd.R_reads' HO365.out).2.2 | (with_reducible refine Kd.C_alloc ?_ _) | (with_reducible refine Kd.C_drewN ?_ _) | (with_reducible refine Kd.C_drew ?_)))
            (case side2 => exact (Kd.R_reads' HO365.out).2.1)
            rintro e w35 ⟨v367, rfl, ho0, hb⟩
            refine ⟨_, rfl, ?_⟩
            have n0_ := Aside0.mk (Kd.R_below (by (with_reducible repeat (first | apply Kd.R_alloc | apply Kd.R_drewN | apply Kd.R_drew)); exact HO360.out) hb)
            have n1_ := Aside0.mk (Kd.R_below (by (with_reducible repeat (first | apply Kd.R_alloc | apply Kd.R_drewN | apply Kd.R_drew)); exact HO365.out) hb)
            have n2_ := Aside0.mk (Kd.R_lower ho0 (below_size (by repeat (first | (with_reducible first | exact HB.out | apply below_alloc | apply pw_below_drewN | apply below_drew1 | refine below_set ?_ GE362.out) | exact HB.out))))
            have n3_ := Aside0.mk (blk_below (g := gb362) (o := .cells #[.int .i64 3, .int .i64 a0, .int .i64 0, .slice none 0 0] 37 (0, 0)) (by (with_reducible repeat (first | refine blk_drewN ?_ _ | refine blk_drew ?_ | refine blk_alloc ?_ _)); exact BK362.out) hb)
            have n4_ := Aside0.mk (below_step (by repeat (first | (with_reducible first | exact HB.out | apply below_alloc | apply pw_below_drewN | apply below_drew1 | refine below_set ?_ GE362.out) | exact HB.out)) hb)
            clear HO360
            clear HO365
            clear BK362
            clear HB
            have HO360 := n0_
            have HO365 := n1_
            have HO368 := n2_
            have BK362 := n3_
            have HB := n4_
            clear n0_ n1_ n2_ n3_ n4_
            (try clear hb)
            (try clear hb2)
            (try clear hk)
            (try clear hi)
            (try clear ho0)
            obtain ⟨Ao36, co36, eo36⟩ := Kd.R_slice HO368.out
            (first | subst eo36 | (injection eo36 with f1_ f2_ f3_; have f4_ := f1_.symm; have f5_ := f3_.symm; clear f1_ f2_ f3_; subst f4_; subst f5_))
            refine hK.out _ _ ⟨(blk_cell BK362.out 0).trans rfl, (blk_cell BK362.out 1).trans rfl, (blk_cell BK362.out 2).trans rfl, (blk_cell BK362.out 3).trans rfl⟩ (fun hHeld => ?_)
            clear hK K
            refine norm_ (a' := ?_) ?_ ?_
            rotate_left
            ·show Act.put _ (some 35) _ = _
             simp only [Act.put, List.setIfInBounds_toArray, List.set_cons_zero, List.set_cons_succ, i64_w, i32_w]
             rfl
            refine one_ (i := 4) (N := some 37) #[true, true, true, true, true, false, false, false, false, false] rfl rfl (one_of HT_.out (by kernel_rfl)) (by decide) (fun K hK => ?_)
            refine goes_ Tryz.func15 (by kernel_rfl) rfl #[.slice Ao36 t366.length co36, .agg #[.int .i64 3, .int .i64 a0, .int .i64 0, .slice none 0 0]] (by rfl) rfl rfl (by (try simp only [List.map_toArray, List.map_cons, List.map_nil]); first | done | rfl | (simp only [List.length_drop, List.length_take]; rfl)) ?_
            refine (letterboxlaw18_meant.calls kj2 _ _ t366 3 a0 0 _ _ ([] : List Int) t369 true _ ?side1 ?side2 ?side3 ?side4 (Laid.below HLd.out (by repeat (first | (with_reducible first | exact HB.out | apply below_alloc | apply pw_below_drewN | apply below_drew1 | refine below_set ?_ GE362.out) | exact HB.out))) A13.out).mono ?_
            (case side1 => repeat (first | exact (Kd.R_reads' HO368.out).2.2 | (with_reducible refine Kd.C_alloc ?_ _) | (with_reducible refine Kd.C_drewN ?_ _) | (with_reducible refine Kd.C_drew ?_)))
            (case side2 => exact (Kd.R_reads' HO368.out).2.1)
            (case side3 => exact Kd.C_nil _ _)
            (case side4 => exact Nat.le_refl _)
            rintro e w37 ⟨rfl, hb⟩
            refine ⟨_, rfl, ?_⟩
            have n0_ := Aside0.mk (Kd.R_below (by (with_reducible repeat (first | apply Kd.R_alloc | apply Kd.R_drewN | apply Kd.R_drew)); exact HO360.out) hb)
            have n1_ := Aside0.mk (Kd.R_below (by (with_reducible repeat (first | apply Kd.R_alloc | apply Kd.R_drewN | apply Kd.R_drew)); exact HO365.out) hb)
            have n2_ := Aside0.mk (Kd.R_below (by (with_reducible repeat (first | apply Kd.R_alloc | apply Kd.R_drewN | apply Kd.R_drew)); exact HO368.out) hb)
            have n3_ := Aside0.mk (blk_below (g := gb362) (o := .cells #[.int .i64 3, .int .i64 a0, .int .i64 0, .slice none 0 0] 37 (0, 0)) (by (with_reducible repeat (first | refine blk_drewN ?_ _ | refine blk_drew ?_ | refine blk_alloc ?_ _)); exact BK362.out) hb)
            have n4_ := Aside0.mk (below_step (by repeat (first | (with_reducible first | exact HB.out | apply below_alloc | apply pw_below_drewN | apply below_drew1 | refine below_set ?_ GE362.out) | exact HB.out)) hb)
            clear HO360
            clear HO365
            clear HO368
            clear BK362
            clear HB
            have HO360 := n0_
            have HO365 := n1_
            have HO368 := n2_
            have BK362 := n3_
            have HB := n4_
            clear n0_ n1_ n2_ n3_ n4_
            (try clear hb)
            (try clear hb2)
            (try clear hk)
            (try clear hi)
            refine hK.out _ _ ⟨(blk_cell BK362.out 0).trans rfl, (blk_cell BK362.out 1).trans rfl, (blk_cell BK362.out 2).trans rfl, (blk_cell BK362.out 3).trans rfl⟩ (fun hHeld => ?_)
            clear hK K
            refine norm_ (a' := ?_) ?_ ?_
            rotate_left
            ·show Act.put _ (some 37) _ = _
             simp only [Act.put, List.setIfInBounds_toArray, List.set_cons_zero, List.set_cons_succ, i64_w, i32_w]
             rfl
            refine pure_ (i := 5) (N := some 32) (v := ?_) (a' := ?_) #[true, true, true, true, true, true, false, false, false, false] rfl rfl (any_of HT_.out (by kernel_rfl)) (fun _ _ _ h => h) (Or.inl ⟨by rfl, ?_⟩) ?_ ?_
            rotate_left
            ·intro w'
             go_simp
             with_reducible rfl
            rotate_left
            ·simp only [Act.put, List.setIfInBounds_toArray, List.set_cons_zero, List.set_cons_succ, i64_w, i32_w]
             rfl
            refine pure_ (i := 6) (N := some 38) (v := ?_) (a' := ?_) #[true, true, true, true, true, true, true, false, false, false] rfl rfl (any_of HT_.out (by kernel_rfl)) (fun _ _ _ h => h) (Or.inl ⟨by rfl, ?_⟩) ?_ ?_
            rotate_left
            ·intro w'
             go_simp
             with_reducible rfl
            rotate_left
            ·simp only [Act.put, List.setIfInBounds_toArray, List.set_cons_zero, List.set_cons_succ, i64_w, i32_w]
             rfl
            refine pure_ (i := 7) (N := some 39) (v := ?_) (a' := ?_) #[true, true, true, true, true, true, true, true, false, false] rfl rfl (any_of HT_.out (by kernel_rfl)) (fun _ _ _ h => h) (Or.inl ⟨by rfl, ?_⟩) ?_ ?_
            rotate_left
            ·intro w'
             go_simp
             with_reducible rfl
            rotate_left
            ·simp only [Act.put, List.setIfInBounds_toArray, List.set_cons_zero, List.set_cons_succ, i64_w, i32_w]
             rfl
            refine pure_ (i := 8) (N := some 7) (v := ?_) (a' := ?_) #[true, true, true, true, true, true, true, true, true, false] rfl rfl (any_of HT_.out (by kernel_rfl)) (fun _ _ _ h => h) (Or.inl ⟨by rfl, ?_⟩) ?_ ?_
            rotate_left
            ·intro w'
             go_simp
             with_reducible rfl
            rotate_left
            ·simp only [Act.put, List.setIfInBounds_toArray, List.set_cons_zero, List.set_cons_succ, i64_w, i32_w]
             rfl
            refine pure_ (i := 9) (N := some 8) (v := ?_) (a' := ?_) #[true, true, true, true, true, true, true, true, true, true] rfl rfl (any_of HT_.out (by kernel_rfl)) (fun _ _ _ h => h) (Or.inl ⟨by rfl, ?_⟩) ?_ ?_
            rotate_left
            ·intro w'
             go_simp
             with_reducible rfl
            rotate_left
            ·simp only [Act.put, List.setIfInBounds_toArray, List.set_cons_zero, List.set_cons_succ, i64_w, i32_w]
             rfl
            refine done_ (done_of HT_.out (by kernel_rfl)) ?_
            try go_wp2
            have n0_ := Aside0.mk (Kd.R_drew HO360.out)
            have n1_ := Aside0.mk (Kd.R_drew HO365.out)
            have n2_ := Aside0.mk (Kd.R_drew HO368.out)
            have n3_ := Aside0.mk (blk_drew BK362.out)
            have n4_ := Aside0.mk (below_drew1 HB.out)
            clear HO360
            clear HO365
            clear HO368
            clear BK362
            clear HB
            have HO360 := n0_
            have HO365 := n1_
            have HO368 := n2_
            have BK362 := n3_
            have HB := n4_
            clear n0_ n1_ n2_ n3_ n4_
            refine start_ (n := 11) (S := fun w' => w'.cell? ⟨gb362, 0, none⟩ = some (.int .i64 3) ∧ w'.cell? ⟨gb362, 1, none⟩ = some (.int .i64 a0) ∧ w'.cell? ⟨gb362, 2, none⟩ = some (.int .i64 0) ∧ w'.cell? ⟨gb362, 3, none⟩ = some (.slice none 0 0)) (ds := []) #[false, false, false, false, false, false, false, false, false, false, false] (by kernel_rfl) rfl rfl ⟨(blk_cell BK362.out 0).trans rfl, (blk_cell BK362.out 1).trans rfl, (blk_cell BK362.out 2).trans rfl, (blk_cell BK362.out 3).trans rfl⟩ (fun hHeld => ?_); refine with_tabW letterboxlaw18_FindFlags.tab6 letterboxlaw18_FindFlags.bits6 (fun HT_ HW_ => ?_)
            generalize w37.drew = w38 at HO360 HO365 HO368 BK362 HB hHeld ⊢
            refine pure_ (i := 0) (N := some 41) (v := ?_) (a' := ?_) #[true, false, false, false, false, false, false, false, false, false, false] rfl rfl (any_of HT_.out (by kernel_rfl)) (fun _ _ _ h => h) (Or.inl ⟨by rfl, ?_⟩) ?_ ?_
            rotate_left
            ·intro w'
             go_simp
             with_reducible rfl
            rotate_left
            ·simp only [Act.put, List.setIfInBounds_toArray, List.set_cons_zero, List.set_cons_succ, i64_w, i32_w]
             rfl
            refine pure_ (i := 1) (N := some 42) (v := ?_) (a' := ?_) #[true, true, false, false, false, false, false, false, false, false, false] rfl rfl (any_of HT_.out (by kernel_rfl)) (fun _ _ _ h => h) (Or.inl ⟨by rfl, ?_⟩) ?_ ?_
            rotate_left
            ·intro w'
             go_simp
             with_reducible rfl
            rotate_left
            ·simp only [Act.put, List.setIfInBounds_toArray, List.set_cons_zero, List.set_cons_succ, i64_w, i32_w]
             rfl
            refine take_ (i := 4) (N := some 45) (v := ?_) (a' := ?_) #[true, true, false, false, true, false, false, false, false, false, false] rfl rfl (take_ofW HT_.out HW_.out (by kernel_rfl)) (fun _ _ _ h => h) (Or.inl ⟨by rfl, ?_⟩) hHeld ?_ ?_
            rotate_left
            ·rintro w' ⟨s0, s1, s2, s3⟩
             go_simp
             with_reducible rfl
            rotate_left
            ·simp only [Act.put, List.setIfInBounds_toArray, List.set_cons_zero, List.set_cons_succ, i64_w, i32_w]
             rfl
            refine one_ (i := 2) (N := some 43) #[true, true, true, false, true, false, false, false, false, false, false] rfl rfl (one_of HT_.out (by kernel_rfl)) (by decide) (fun K hK => ?_)
            refine Kd.R_lit_step Kd.string _ 9 ?hg (N := 43) ?hd (xs := ([(⟨#[117, 110]⟩ : ByteArray) ++ (rdOf ByteArray.empty y358 a1)] : List ByteArray)) (inner := [.string ((⟨#[117, 110]⟩ : ByteArray) ++ (rdOf ByteArray.empty y358 a1))]) (ok := fun _ => True) (okp := fun _ => True) ?hr ?hp (fun _ hk => hk) trivial (Below.refl _ _) (Nat.le_refl _) (by simp) ?_; (case hd => rfl); (case hg => rfl); (case hr => first | (go_simp; done) | (go_simp; rfl)); (case hp => exact (Reps.one (show Kd.M Kd.string _ _ _ ((⟨#[117, 110]⟩ : ByteArray) ++ (rdOf ByteArray.empty y358 a1)) [.string ((⟨#[117, 110]⟩ : ByteArray) ++ (rdOf ByteArray.empty y358 a1))] from rfl) (Reps.none _ _)))
            intro v372 w39 ho40 hb hg_ hnew_
            clear hg_ hnew_
            (first | rw [← Ny371.out] at ho40 | (simp only [Int.reduceToNat] at ho40; rw [← Ny371.out] at ho40))
            have n0_ := Aside0.mk (Kd.R_elder' (by (with_reducible repeat (first | apply Kd.R_alloc | apply Kd.R_drewN | apply Kd.R_drew)); exact HO360.out) (Kd.R_base ho40) hb)
            have n1_ := Aside0.mk (Kd.R_elder' (by (with_reducible repeat (first | apply Kd.R_alloc | apply Kd.R_drewN | apply Kd.R_drew)); exact HO365.out) (Kd.R_base ho40) hb)
            have n2_ := Aside0.mk (Kd.R_below (by (with_reducible repeat (first | apply Kd.R_alloc | apply Kd.R_drewN | apply Kd.R_drew)); exact HO368.out) hb)
            have n3_ := Aside0.mk (Kd.R_lower (Kd.R_new' (Kd.R_new' ho40 (Kd.R_lt (by (with_reducible repeat (first | apply Kd.R_alloc | apply Kd.R_drewN | apply Kd.R_drew)); exact HO360.out))) (Kd.R_lt (by (with_reducible repeat (first | apply Kd.R_alloc | apply Kd.R_drewN | apply Kd.R_drew)); exact HO365.out))) (below_size (by repeat (first | (with_reducible first | exact HB.out | apply below_alloc | apply pw_below_drewN | apply below_drew1 | refine below_set ?_ GE362.out) | exact HB.out))))
            have n4_ := Aside0.mk (blk_below (g := gb362) (o := .cells #[.int .i64 3, .int .i64 a0, .int .i64 0, .slice none 0 0] 37 (0, 0)) (by (with_reducible repeat (first | refine blk_drewN ?_ _ | refine blk_drew ?_ | refine blk_alloc ?_ _)); exact BK362.out) hb)
            have n5_ := Aside0.mk (below_step (by repeat (first | (with_reducible first | exact HB.out | apply below_alloc | apply pw_below_drewN | apply below_drew1 | refine below_set ?_ GE362.out) | exact HB.out)) hb)
            clear HO360
            clear HO365
            clear HO368
            clear BK362
            clear HB
            have HO360 := n0_
            have HO365 := n1_
            have HO368 := n2_
            have HO373 := n3_
            have BK362 := n4_
            have HB := n5_
            clear n0_ n1_ n2_ n3_ n4_ n5_
            clear hb ho40
            obtain ⟨Ao41, co41, eo41⟩ := Kd.R_slice HO373.out
            (first | subst eo41 | (injection eo41 with f1_ f2_ f3_; have f4_ := f1_.symm; have f5_ := f3_.symm; clear f1_ f2_ f3_; subst f4_; subst f5_))
            refine hK.out _ _ ⟨(blk_cell BK362.out 0).trans rfl, (blk_cell BK362.out 1).trans rfl, (blk_cell BK362.out 2).trans rfl, (blk_cell BK362.out 3).trans rfl⟩ (fun hHeld => ?_)
            clear hK K
            refine norm_ (a' := ?_) ?_ ?_
            rotate_left
            ·show Act.put _ (some 43) _ = _
             simp only [Act.put, List.setIfInBounds_toArray, List.set_cons_zero, List.set_cons_succ, i64_w, i32_w]
             rfl
            refine one_ (i := 3) (N := some 44) #[true, true, true, true, true, false, false, false, false, false, false] rfl rfl (one_of HT_.out (by kernel_rfl)) (by decide) (fun K hK => ?_)
            refine goes_ Tryz.func16 (by kernel_rfl) rfl #[.slice Ao41 y371.length co41] (by rfl) rfl rfl (by (try simp only [List.map_toArray, List.map_cons, List.map_nil]); first | done | rfl | (simp only [List.length_drop, List.length_take]; rfl)) ?_
            with_reducible refine (letterboxlaw18_atoms.calls kj2 _ _ y371 t374 _ ?side1 ?side2 A15.out).mono ?_
            (case side1 => repeat (first | exact (Kd.R_reads' HO373.out).2.2 | (with_reducible refine Kd.C_alloc ?_ _) | (with_reducible refine Kd.C_drewN ?_ _) | (with_reducible refine Kd.C_drew ?_)))
            (case side2 => exact (Kd.R_reads' HO373.out).2.1)
            rintro e w42 ⟨v375, rfl, ho0, hb⟩
            refine ⟨_, rfl, ?_⟩
            have n0_ := Aside0.mk (Kd.R_below (by (with_reducible repeat (first | apply Kd.R_alloc | apply Kd.R_drewN | apply Kd.R_drew)); exact HO360.out) hb)
            have n1_ := Aside0.mk (Kd.R_below (by (with_reducible repeat (first | apply Kd.R_alloc | apply Kd.R_drewN | apply Kd.R_drew)); exact HO365.out) hb)
            have n2_ := Aside0.mk (Kd.R_elder' (by (with_reducible repeat (first | apply Kd.R_alloc | apply Kd.R_drewN | apply Kd.R_drew)); exact HO368.out) (Kd.R_base ho0) hb)
            have n3_ := Aside0.mk (Kd.R_below (by (with_reducible repeat (first | apply Kd.R_alloc | apply Kd.R_drewN | apply Kd.R_drew)); exact HO373.out) hb)
            have n4_ := Aside0.mk (Kd.R_lower (Kd.R_new' ho0 (Kd.R_lt (by (with_reducible repeat (first | apply Kd.R_alloc | apply Kd.R_drewN | apply Kd.R_drew)); exact HO368.out))) (below_size (by repeat (first | (with_reducible first | exact HB.out | apply below_alloc | apply pw_below_drewN | apply below_drew1 | refine below_set ?_ GE362.out) | exact HB.out))))
            have n5_ := Aside0.mk (blk_below (g := gb362) (o := .cells #[.int .i64 3, .int .i64 a0, .int .i64 0, .slice none 0 0] 37 (0, 0)) (by (with_reducible repeat (first | refine blk_drewN ?_ _ | refine blk_drew ?_ | refine blk_alloc ?_ _)); exact BK362.out) hb)
            have n6_ := Aside0.mk (below_step (by repeat (first | (with_reducible first | exact HB.out | apply below_alloc | apply pw_below_drewN | apply below_drew1 | refine below_set ?_ GE362.out) | exact HB.out)) hb)
            clear HO360
            clear HO365
            clear HO368
            clear HO373
            clear BK362
            clear HB
            have HO360 := n0_
            have HO365 := n1_
            have HO368 := n2_
            have HO373 := n3_
            have HO376 := n4_
            have BK362 := n5_
            have HB := n6_
            clear n0_ n1_ n2_ n3_ n4_ n5_ n6_
            (try clear hb)
            (try clear hb2)
            (try clear hk)
            (try clear hi)
            (try clear ho0)
            obtain ⟨Ao43, co43, eo43⟩ := Kd.R_slice HO376.out
            (first | subst eo43 | (injection eo43 with f1_ f2_ f3_; have f4_ := f1_.symm; have f5_ := f3_.symm; clear f1_ f2_ f3_; subst f4_; subst f5_))
            refine hK.out _ _ ⟨(blk_cell BK362.out 0).trans rfl, (blk_cell BK362.out 1).trans rfl, (blk_cell BK362.out 2).trans rfl, (blk_cell BK362.out 3).trans rfl⟩ (fun hHeld => ?_)
            clear hK K
            refine norm_ (a' := ?_) ?_ ?_
            rotate_left
            ·show Act.put _ (some 44) _ = _
             simp only [Act.put, List.setIfInBounds_toArray, List.set_cons_zero, List.set_cons_succ, i64_w, i32_w]
             rfl
            refine one_ (i := 5) (N := some 46) #[true, true, true, true, true, true, false, false, false, false, false] rfl rfl (one_of HT_.out (by kernel_rfl)) (by decide) (fun K hK => ?_)
            refine goes_ Tryz.func15 (by kernel_rfl) rfl #[.slice Ao43 t374.length co43, .agg #[.int .i64 3, .int .i64 a0, .int .i64 0, .slice none 0 0]] (by rfl) rfl rfl (by (try simp only [List.map_toArray, List.map_cons, List.map_nil]); first | done | rfl | (simp only [List.length_drop, List.length_take]; rfl)) ?_
            refine (letterboxlaw18_meant.calls kj2 _ _ t374 3 a0 0 _ _ ([] : List Int) t377 true _ ?side1 ?side2 ?side3 ?side4 (Laid.below HLd.out (by repeat (first | (with_reducible first | exact HB.out | apply below_alloc | apply pw_below_drewN | apply below_drew1 | refine below_set ?_ GE362.out) | exact HB.out))) A16.out).mono ?_
            (case side1 => repeat (first | exact (Kd.R_reads' HO376.out).2.2 | (with_reducible refine Kd.C_alloc ?_ _) | (with_reducible refine Kd.C_drewN ?_ _) | (with_reducible refine Kd.C_drew ?_)))
            (case side2 => exact (Kd.R_reads' HO376.out).2.1)
            (case side3 => exact Kd.C_nil _ _)
            (case side4 => exact Nat.le_refl _)
            rintro e w44 ⟨rfl, hb⟩
            refine ⟨_, rfl, ?_⟩
            have n0_ := Aside0.mk (Kd.R_below (by (with_reducible repeat (first | apply Kd.R_alloc | apply Kd.R_drewN | apply Kd.R_drew)); exact HO360.out) hb)
            have n1_ := Aside0.mk (Kd.R_below (by (with_reducible repeat (first | apply Kd.R_alloc | apply Kd.R_drewN | apply Kd.R_drew)); exact HO365.out) hb)
            have n2_ := Aside0.mk (Kd.R_below (by (with_reducible repeat (first | apply Kd.R_alloc | apply Kd.R_drewN | apply Kd.R_drew)); exact HO368.out) hb)
            have n3_ := Aside0.mk (Kd.R_below (by (with_reducible repeat (first | apply Kd.R_alloc | apply Kd.R_drewN | apply Kd.R_drew)); exact HO373.out) hb)
            have n4_ := Aside0.mk (Kd.R_below (by (with_reducible repeat (first | apply Kd.R_alloc | apply Kd.R_drewN | apply Kd.R_drew)); exact HO376.out) hb)
            have n5_ := Aside0.mk (blk_below (g := gb362) (o := .cells #[.int .i64 3, .int .i64 a0, .int .i64 0, .slice none 0 0] 37 (0, 0)) (by (with_reducible repeat (first | refine blk_drewN ?_ _ | refine blk_drew ?_ | refine blk_alloc ?_ _)); exact BK362.out) hb)
            have n6_ := Aside0.mk (below_step (by repeat (first | (with_reducible first | exact HB.out | apply below_alloc | apply pw_below_drewN | apply below_drew1 | refine below_set ?_ GE362.out) | exact HB.out)) hb)
            clear HO360
            clear HO365
            clear HO368
            clear HO373
            clear HO376
            clear BK362
            clear HB
            have HO360 := n0_
            have HO365 := n1_
            have HO368 := n2_
            have HO373 := n3_
            have HO376 := n4_
            have BK362 := n5_
            have HB := n6_
            clear n0_ n1_ n2_ n3_ n4_ n5_ n6_
            (try clear hb)
            (try clear hb2)
            (try clear hk)
            (try clear hi)
            refine hK.out _ _ ⟨(blk_cell BK362.out 0).trans rfl, (blk_cell BK362.out 1).trans rfl, (blk_cell BK362.out 2).trans rfl, (blk_cell BK362.out 3).trans rfl⟩ (fun hHeld => ?_)
            clear hK K
            refine norm_ (a' := ?_) ?_ ?_
            rotate_left
            ·show Act.put _ (some 46) _ = _
             simp only [Act.put, List.setIfInBounds_toArray, List.set_cons_zero, List.set_cons_succ, i64_w, i32_w]
             rfl
            refine pure_ (i := 6) (N := some 40) (v := ?_) (a' := ?_) #[true, true, true, true, true, true, true, false, false, false, false] rfl rfl (any_of HT_.out (by kernel_rfl)) (fun _ _ _ h => h) (Or.inl ⟨by rfl, ?_⟩) ?_ ?_
            rotate_left
            ·intro w'
             go_simp
             with_reducible rfl
            rotate_left
            ·simp only [Act.put, List.setIfInBounds_toArray, List.set_cons_zero, List.set_cons_succ, i64_w, i32_w]
             rfl
            refine pure_ (i := 7) (N := some 47) (v := ?_) (a' := ?_) #[true, true, true, true, true, true, true, true, false, false, false] rfl rfl (any_of HT_.out (by kernel_rfl)) (fun _ _ _ h => h) (Or.inl ⟨by rfl, ?_⟩) ?_ ?_
            rotate_left
            ·intro w'
             go_simp
             with_reducible rfl
            rotate_left
            ·simp only [Act.put, List.setIfInBounds_toArray, List.set_cons_zero, List.set_cons_succ, i64_w, i32_w]
             rfl
            refine pure_ (i := 8) (N := some 48) (v := ?_) (a' := ?_) #[true, true, true, true, true, true, true, true, true, false, false] rfl rfl (any_of HT_.out (by kernel_rfl)) (fun _ _ _ h => h) (Or.inl ⟨by rfl, ?_⟩) ?_ ?_
            rotate_left
            ·intro w'
             go_simp
             with_reducible rfl
            rotate_left
            ·simp only [Act.put, List.setIfInBounds_toArray, List.set_cons_zero, List.set_cons_succ, i64_w, i32_w]
             rfl
            refine pure_ (i := 9) (N := some 9) (v := ?_) (a' := ?_) #[true, true, true, true, true, true, true, true, true, true, false] rfl rfl (any_of HT_.out (by kernel_rfl)) (fun _ _ _ h => h) (Or.inl ⟨by rfl, ?_⟩) ?_ ?_
            rotate_left
            ·intro w'
             go_simp
             with_reducible rfl
            rotate_left
            ·simp only [Act.put, List.setIfInBounds_toArray, List.set_cons_zero, List.set_cons_succ, i64_w, i32_w]
             rfl
            refine pure_ (i := 10) (N := some 10) (v := ?_) (a' := ?_) #[true, true, true, true, true, true, true, true, true, true, true] rfl rfl (any_of HT_.out (by kernel_rfl)) (fun _ _ _ h => h) (Or.inl ⟨by rfl, ?_⟩) ?_ ?_
            rotate_left
            ·intro w'
             go_simp
             with_reducible rfl
            rotate_left
            ·simp only [Act.put, List.setIfInBounds_toArray, List.set_cons_zero, List.set_cons_succ, i64_w, i32_w]
             rfl
            refine done_ (done_of HT_.out (by kernel_rfl)) ?_
            try go_wp2_with (first | (go_at_call 14; (with_reducible refine (letterboxlaw18_known.calls kj2  t379 _ (Laid.below HLd.out (by repeat (first | (with_reducible first | exact HB.out | apply below_alloc | apply pw_below_drewN | apply below_drew1 | refine below_set ?_ GE362.out) | exact HB.out))) A24.out).mono ?_); rintro e w45 ⟨rfl, hb⟩; have n0_ := Aside0.mk (Kd.R_below (by (with_reducible repeat (first | apply Kd.R_alloc | apply Kd.R_drewN | apply Kd.R_drew)); exact HO360.out) hb); have n1_ := Aside0.mk (Kd.R_below (by (with_reducible repeat (first | apply Kd.R_alloc | apply Kd.R_drewN | apply Kd.R_drew)); exact HO365.out) hb); have n2_ := Aside0.mk (Kd.R_below (by (with_reducible repeat (first | apply Kd.R_alloc | apply Kd.R_drewN | apply Kd.R_drew)); exact HO368.out) hb); have n3_ := Aside0.mk (Kd.R_below (by (with_reducible repeat (first | apply Kd.R_alloc | apply Kd.R_drewN | apply Kd.R_drew)); exact HO373.out) hb); have n4_ := Aside0.mk (Kd.R_below (by (with_reducible repeat (first | apply Kd.R_alloc | apply Kd.R_drewN | apply Kd.R_drew)); exact HO376.out) hb); have n5_ := Aside0.mk (blk_below (g := gb362) (o := .cells #[.int .i64 3, .int .i64 a0, .int .i64 0, .slice none 0 0] 37 (0, 0)) (by (with_reducible repeat (first | refine blk_drewN ?_ _ | refine blk_drew ?_ | refine blk_alloc ?_ _)); exact BK362.out) hb); have n6_ := Aside0.mk (below_step (by repeat (first | (with_reducible first | exact HB.out | apply below_alloc | apply pw_below_drewN | apply below_drew1 | refine below_set ?_ GE362.out) | exact HB.out)) hb); clear HO360; clear HO365; clear HO368; clear HO373; clear HO376; clear BK362; clear HB; have HO360 := n0_; have HO365 := n1_; have HO368 := n2_; have HO373 := n3_; have HO376 := n4_; have BK362 := n5_; have HB := n6_; clear n0_ n1_ n2_ n3_ n4_ n5_ n6_; (try clear hb); (try clear hb2); (try clear hk); (try clear hi)))
            go_ret
            exact ⟨by first | (rw [Hr_]; done) | rfl | (simp [errW_none, errW_some] <;> rfl) | (simp only [← hji19, ← hji21]; first | rfl | (simp [errW_none, errW_some] <;> rfl)) | (simp [*, errW_none, errW_some] <;> rfl), by repeat (first | (with_reducible first | exact HB.out | apply below_alloc | apply pw_below_drewN | apply below_drew1 | refine below_set ?_ GE362.out) | exact HB.out)⟩
           ·rw [if_neg c23] at H
            have c23b0 : (t377 == (!t369)) = false := by simpa using c23
            (try (have c23b1 : decide (t377 = (!t369)) = false := by simpa using c23))
            (try (have c23b2 : (t377 == (!t369)) = false := by simpa using c23))
            (try (have c23b3 : ¬ (t377 = (!t369)) := by simpa using c23))
            clear c23
            exact absurd H (by repeat' first | exact NT.none | exact NT.false | refine NT.ite ?_ ?_ | refine NT.bind (fun _ => ?_))
          ·rw [if_neg c22] at H
           have c22b0 : (t369 == ((Go.bits .and .i64 (ji21) 1) == 1)) = false := by simpa using c22
           (try (have c22b1 : decide (t369 = ((Go.bits .and .i64 (ji21) 1) == 1)) = false := by simpa using c22))
           (try (have c22b2 : (t369 == ((Go.bits .and .i64 (ji21) 1) == 1)) = false := by simpa using c22))
           (try (have c22b3 : ¬ (t369 = ((Go.bits .and .i64 (ji21) 1) == 1)) := by simpa using c22))
           clear c22
           exact absurd H (by repeat' first | exact NT.none | exact NT.false | refine NT.ite ?_ ?_ | refine NT.bind (fun _ => ?_))
         ·rw [if_neg c20] at H
          exact absurd H (by simp)
        ·replace c18 := Bool.eq_false_iff.mpr c18
         subst c18
         have H1 : (some false) = some true := by rw [if_neg (show ¬ (false = true) by decide)] at H; exact H
         clear H
         have H := H1
         clear H1
         exact absurd H (by repeat' first | exact NT.none | exact NT.false | refine NT.ite ?_ ?_ | refine NT.bind (fun _ => ?_))
       ·replace c17 := Bool.eq_false_iff.mpr c17
        subst c17
        have H1 : (some false) = some true := by rw [if_neg (show ¬ (false = true) by decide)] at H; exact H
        clear H
        have H := H1
        clear H1
        exact absurd H (by repeat' first | exact NT.none | exact NT.false | refine NT.ite ?_ ?_ | refine NT.bind (fun _ => ?_))
      ·rw [if_neg c14] at H
       exact absurd H (by simp)
     ·rw [if_neg c11] at H
      exact absurd H (by simp)
    ·rw [if_neg c10] at H
     exact absurd H (by simp)

end Go.Proofs.YtejhfghijgbckaaGreatDoor.P
