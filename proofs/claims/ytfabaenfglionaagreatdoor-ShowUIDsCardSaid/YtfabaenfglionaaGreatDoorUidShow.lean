/- ContainsFunc at Show's own function, by hand (as XShowShow, for a seat of any numbers). -/
import Derived.Test.YtfabaenfglionaaGreatDoorPx0
namespace Go.Proofs.YtfabaenfglionaaGreatDoor
open Go.RowKit Go.Proofs.YtfabaenfglionaaGreatDoor.P Go.Proofs.YtfabaenfglionaaGreatDoorW.PrintWords Go.Proofs.YtfabaenfglionaaGreatDoorW.PrintLast Go.Proofs.YtfabaenfglionaaGreatDoorW.PrintMore
set_option linter.unusedVariables false
set_option linter.unusedSimpArgs false
/-! ### ContainsFunc -/
theorem show1_calls (a : Int) (v : Value) (w : World) :
    Calls Tryz.prog 18 #[.agg #[.int .i64 a, v]] w fun e w' => e = .returned (.bool (a == 2)) ∧ Below w.heap.size w w' := by
  go_enter Tryz.func18, Tryz.ntmps18
  go_wp2
  go_ret
  exact ⟨rfl, by repeat (first | exact Below.refl _ _ | apply below_alloc | apply pw_below_drewN | apply below_drew1)⟩
set_option maxHeartbeats 8000000 in
set_option maxRecDepth 100000 in
theorem index_calls (A0 : Option Addr) (c0 : Nat) (l0 : List S40) (w : World) (hr0 : Kd.C k40 w A0 l0.length l0) (hc0 : l0.length ≤ c0) :
    Calls Tryz.prog 30 #[.slice A0 l0.length c0, .func (.func 18) #[] #[]] w fun e w' => (∃ i : Int, e = .returned (.int .i64 i) ∧ (decide (0 ≤ i) = l0.any fun x => x.f0 == 2)) ∧ Below w.heap.size w w' := by
  have hu28 := Tryz.underlying40
  have HR := Aside0.mk hr0
  have HB := Aside0.mk (Below.refl w.heap.size w)
  have hm := Kd.C_max hr0
  have HM := Aside0.mk hm
  clear hr0 hc0 hm
  go_enter Tryz.func30, Tryz.ntmps30
  go_wp2
  go_loopg [8] (l0.length + 1) (fun g v8 w' => ∃ z : Int, v8 = .int .i64 z ∧ Aside0 (0 ≤ z ∧ z ≤ (l0.length : Int) ∧ l0.length - z.toNat < g) ∧ Aside0 ((l0.take z.toNat).any (fun x => x.f0 == 2) = false) ∧ Aside0 (Below w.heap.size w w'))
  case atStart => exact ⟨0, rfl, ⟨by omega, by omega, by omega⟩, ⟨rfl⟩, ⟨by repeat (first | (with_reducible first | exact HB.out | apply below_alloc | apply pw_below_drewN | apply below_drew1) | exact HB.out)⟩⟩
  case round =>
    clear HB
    obtain ⟨z, rfl, HZ, HL, HB⟩ := hrel
    cases gk with
    | zero => exact absurd HZ.out (by omega)
    | succ g =>
      have hz0 := HZ.out.1
      by_cases hlt : z < (l0.length : Int)
      · have d0 : decide (z < (l0.length : Int)) = true := decide_eq_true hlt
        obtain ⟨ad, A1, c1, ea, hx0, hx1, hl1, hi1⟩ := at_T40 HR.out z hz0 hlt
        cases ea
        replace hx0 := (HB.out.cell (World.block_lt_of_cell? w _ hx0)).trans hx0
        replace hx1 := (HB.out.cell (World.block_lt_of_cell? w _ hx1)).trans hx1
        have HLT := Aside0.mk hlt
        have p107 : (0 ≤ z) = True := eq_true hz0
        have q107 : (z < (l0.length : Int)) = True := eq_true hlt
        have htk : (l0.take (z.toNat + 1)).any (fun x => x.f0 == 2) = ((rd_T40 l0 z).f0 == 2) := by
          rw [List.take_add_one, List.any_append, HL.out, List.getElem?_eq_getElem (by omega)]
          unfold rd_T40
          rw [List.getD_eq_getElem?_getD, List.getElem?_eq_getElem (by omega)]
          simp
        have HTK := Aside0.mk htk
        have hw : wrap64 (z + 1) = z + 1 := by have := HM.out; unfold wrap64; omega
        have HW := Aside0.mk hw
        clear hlt hz0 htk hw hl1 hi1
        by_cases c : (rd_T40 l0 z).f0 = 2
        · have cb : ((rd_T40 l0 z).f0 == 2) = true := beq_iff_eq.2 c
          have HC := Aside0.mk cb
          go_wp2_with (first | (go_at_call 18; refine (show1_calls _ _ _).mono ?_; rintro e w2 ⟨rfl, hb⟩; have n_ := Aside0.mk (below_step (by repeat (first | (with_reducible first | exact HB.out | apply below_alloc | apply pw_below_drewN | apply below_drew1) | exact HB.out)) hb); clear HB; have HB := n_; clear n_ hb))
          go_ret
          refine ⟨⟨z, rfl, ?_⟩, by repeat (first | (with_reducible first | exact HB.out | apply below_alloc | apply pw_below_drewN | apply below_drew1) | exact HB.out)⟩
          rw [decide_eq_true HZ.out.1]
          refine (List.any_eq_true.2 ?_).symm
          obtain ⟨x, hx, hx2⟩ := List.any_eq_true.1 (HTK.out.trans HC.out)
          exact ⟨x, List.mem_of_mem_take hx, hx2⟩
        · have cb : ((rd_T40 l0 z).f0 == 2) = false := beq_eq_false_iff_ne.2 c
          have HC := Aside0.mk cb
          go_wp2_with (first | (go_at_call 18; refine (show1_calls _ _ _).mono ?_; rintro e w2 ⟨rfl, hb⟩; have n_ := Aside0.mk (below_step (by repeat (first | (with_reducible first | exact HB.out | apply below_alloc | apply pw_below_drewN | apply below_drew1) | exact HB.out)) hb); clear HB; have HB := n_; clear n_ hb))
          go_roundg g
          case measure => omega
          case rel => exact ⟨wrap64 (z + 1), rfl, ⟨by have := HZ.out; have := HLT.out; rw [HW.out]; omega⟩, ⟨by rw [HW.out, show (z + 1).toNat = z.toNat + 1 by have := HZ.out.1; omega]; exact HTK.out.trans HC.out⟩, ⟨by repeat (first | (with_reducible first | exact HB.out | apply below_alloc | apply pw_below_drewN | apply below_drew1) | exact HB.out)⟩⟩
      · have d0 : decide (z < (l0.length : Int)) = false := decide_eq_false hlt
        have he : z.toNat = l0.length := by have := HZ.out; omega
        have hno := HL.out
        rw [he, List.take_length] at hno
        have HNO := Aside0.mk hno
        clear hlt he hno hz0
        go_wp2
        go_ret
        exact ⟨⟨-1, rfl, by rw [HNO.out]; rfl⟩, by repeat (first | (with_reducible first | exact HB.out | apply below_alloc | apply pw_below_drewN | apply below_drew1) | exact HB.out)⟩
def api_Item.f (l : List S40) : Option Bool := some (l.any fun x => x.f0 == 2)
theorem api_Item.calls (A0 : Option Addr) (c0 : Nat) (l0 : List S40) (r : Bool) (w : World) (hr0 : Kd.C k40 w A0 l0.length l0) (hc0 : l0.length ≤ c0) (h : api_Item.f l0 = some r) :
    Calls Tryz.prog 17 #[.slice A0 l0.length c0, .func (.func 18) #[] #[]] w fun e w' => e = .returned (.bool r) ∧ Below w.heap.size w w' := by
  obtain rfl := Option.some.inj h
  have HI := Aside0.mk (index_calls A0 c0 l0 w hr0 hc0)
  clear hr0 hc0
  go_enter Tryz.func17, Tryz.ntmps17
  go_wp2_with (first | (go_at_call 30; refine HI.out.mono ?_; rintro e w2 ⟨⟨i, rfl, hi⟩, hb⟩; have HB := Aside0.mk hb; have HD := Aside0.mk hi; clear hb hi))
  go_ret
  exact ⟨by first | rfl | (rw [← HD.out]; done) | (rw [← HD.out]; rfl) | (simp [HD.out]; done), HB.out⟩
end Go.Proofs.YtfabaenfglionaaGreatDoor
