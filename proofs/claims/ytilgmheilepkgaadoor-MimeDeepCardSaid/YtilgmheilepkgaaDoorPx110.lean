/- The walks of the seat's functions, one contract a function: printed by a program of this session's (wip/gen). Not trusted: Lean checks it. -/
import Derived.Test.YtilgmheilepkgaaDoorPx1
import Derived.Test.YtilgmheilepkgaaDoorPx2
import Derived.Test.YtilgmheilepkgaaDoorPx111
namespace Go.Proofs.YtilgmheilepkgaaDoor.P
open Go.RowKit Go.Proofs.YtilgmheilepkgaaDoorW.PrintWords Go.Proofs.YtilgmheilepkgaaDoorW.PrintLast Go.Proofs.YtilgmheilepkgaaDoorW.PrintMore
attribute [local go_sem] max2_int min2_int max_two min_two max_three min_three max_four min_four   -- for this text's walks alone
set_option linter.unusedVariables false
set_option linter.unusedSimpArgs false

/-! ### letterboxlaw10_known: function 10 -/
def letterboxlaw10_known.f (k : Nat)  : Option (Bool) := (mime_Type.f k (([120] : List Int))).bind fun bt289 => (if bt289.1.toList = ([116, 101, 120, 116] : List UInt8) then (if bt289.2.1.toList = ([112, 108, 97, 105, 110] : List UInt8) then (if bt289.2.2.toList = ([] : List UInt8) then ((mime_Count.f k (([120] : List Int))).bind fun t295 => (some (t295 == 1))) else (some false)) else (some false)) else (some false))
theorem letterboxlaw10_known.mono : ∀ k, LeO (letterboxlaw10_known.f k ) (letterboxlaw10_known.f (k + 1) ) := by
  intro  k
  unfold letterboxlaw10_known.f
  repeat' first
      | (with_reducible exact mime_Count.mono _ _)
      | (with_reducible exact mime_Type.mono _ _)
      | (with_reducible exact LeO.refl _)
      | (with_reducible exact LeO.none _)
      | (with_reducible refine LeO.ite ?_ ?_)
      | (with_reducible refine LeO.bind ?_ (fun _ => ?_))
      | exact mime_Count.mono _ _
      | exact mime_Type.mono _ _
      | exact LeO.none _
      | refine LeO.ite ?_ ?_
      | refine LeO.bind ?_ (fun _ => ?_)
set_option maxHeartbeats 8000000 in
set_option maxRecDepth 100000 in
theorem letterboxlaw10_known.calls (k : Nat) (r : Bool) (w : World) (h : letterboxlaw10_known.f k = some r) :
    Calls Tryd.prog 10 #[] w fun e w' => e = .returned (.bool r) ∧ Below w.heap.size w w' := by
  unfold letterboxlaw10_known.f at h
  obtain ⟨⟨t1, t2, t3⟩, A0, h⟩ := Option.bind_eq_some_iff.1 h
  replace h : (if t1.toList = ([116, 101, 120, 116] : List UInt8) then (if t2.toList = ([112, 108, 97, 105, 110] : List UInt8) then (if t3.toList = ([] : List UInt8) then ((mime_Count.f k (([120] : List Int))).bind fun t298 => (some (t298 == 1))) else (some false)) else (some false)) else (some false)) = some r := h
  have A := Aside0.mk A0
  clear A0
  have hconv := fun n c => run_convert_lit (P := Tryd.prog) w 22 5 (([120] : List Int).map (Value.int .u8)).toArray n c Tryd.underlying22 Tryd.underlying5
  have hC := Aside0.mk (litWorld_C w 5 [120] (by simp))
  have hB := Aside0.mk (litWorld_below w (([120] : List Int).map (Value.int .u8)).toArray 5)
  generalize litWorld w _ 5 = w1 at hconv hC hB
  simp only [List.map_cons, List.map_nil] at hconv
  by_cases c1 : t1.toList = ([116, 101, 120, 116] : List UInt8)
  · rw [if_pos c1] at h
    have c1b : (t1.toList == ([116, 101, 120, 116] : List UInt8)) = true := beq_iff_eq.mpr c1
    clear c1
    by_cases c2 : t2.toList = ([112, 108, 97, 105, 110] : List UInt8)
    · rw [if_pos c2] at h
      have c2b : (t2.toList == ([112, 108, 97, 105, 110] : List UInt8)) = true := beq_iff_eq.mpr c2
      clear c2
      by_cases c3 : t3.toList = ([] : List UInt8)
      · rw [if_pos c3] at h
        have c3b : (t3.toList == ([] : List UInt8)) = true := beq_iff_eq.mpr c3
        clear c3
        obtain ⟨t4, A40, h⟩ := Option.bind_eq_some_iff.1 h
        have A4 := Aside0.mk A40
        clear A40
        obtain rfl := Option.some.inj h
        clear h
        go_enter Tryd.func10, Tryd.ntmps10
        go_wp2_with (first | (go_at_call 14; refine (mime_Type.calls k _ _ [120] _ _ _ _ hC.out (by decide) A.out).mono ?_; rintro e w2 ⟨rfl, hb⟩; have HB2 := Aside0.mk (below_step hB.out hb); clear hb; have hconv2 := fun n c => run_convert_lit (P := Tryd.prog) w2 22 5 (([120] : List Int).map (Value.int .u8)).toArray n c Tryd.underlying22 Tryd.underlying5; have hC2 := Aside0.mk (litWorld_C w2 5 [120] (by simp)); have HB3 := Aside0.mk (below_step HB2.out (litWorld_below w2 (([120] : List Int).map (Value.int .u8)).toArray 5)); generalize litWorld w2 _ 5 = w3 at hconv2 hC2 HB3; simp only [List.map_cons, List.map_nil] at hconv2) | (go_at_call 11; refine (mime_Count.calls k _ _ [120] _ _ hC2.out (by decide) A4.out).mono ?_; rintro e w4 ⟨rfl, hb4⟩))
        go_ret
        exact ⟨rfl, below_step HB3.out hb4⟩
      · rw [if_neg c3] at h
        have c3b : (t3.toList == ([] : List UInt8)) = false := beq_eq_false_iff_ne.mpr c3
        clear c3
        obtain rfl := Option.some.inj h
        clear h
        go_enter Tryd.func10, Tryd.ntmps10
        go_wp2_with (go_at_call 14; refine (mime_Type.calls k _ _ [120] _ _ _ _ hC.out (by decide) A.out).mono ?_; rintro e w2 ⟨rfl, hb⟩)
        go_ret
        exact ⟨rfl, below_step hB.out hb⟩
    · rw [if_neg c2] at h
      have c2b : (t2.toList == ([112, 108, 97, 105, 110] : List UInt8)) = false := beq_eq_false_iff_ne.mpr c2
      clear c2
      obtain rfl := Option.some.inj h
      clear h
      go_enter Tryd.func10, Tryd.ntmps10
      go_wp2_with (go_at_call 14; refine (mime_Type.calls k _ _ [120] _ _ _ _ hC.out (by decide) A.out).mono ?_; rintro e w2 ⟨rfl, hb⟩)
      go_ret
      exact ⟨rfl, below_step hB.out hb⟩
  · rw [if_neg c1] at h
    have c1b : (t1.toList == ([116, 101, 120, 116] : List UInt8)) = false := beq_eq_false_iff_ne.mpr c1
    clear c1
    obtain rfl := Option.some.inj h
    clear h
    go_enter Tryd.func10, Tryd.ntmps10
    go_wp2_with (go_at_call 14; refine (mime_Type.calls k _ _ [120] _ _ _ _ hC.out (by decide) A.out).mono ?_; rintro e w2 ⟨rfl, hb⟩)
    go_ret
    exact ⟨rfl, below_step hB.out hb⟩


end Go.Proofs.YtilgmheilepkgaaDoor.P
