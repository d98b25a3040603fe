/- ContainsFunc at Show's own function, by hand; told, Join and Itoa are handed on from the first pass. -/
import Derived.Test.YtalabkaalbllgaaGreatDoorPx0
namespace Go.Proofs.YtalabkaalbllgaaGreatDoor
open Go.RowKit Go.Proofs.YtalabkaalbllgaaGreatDoor.P Go.Proofs.YtalabkaalbllgaaGreatDoorW.PrintWords Go.Proofs.YtalabkaalbllgaaGreatDoorW.PrintLast Go.Proofs.YtalabkaalbllgaaGreatDoorW.PrintMore
set_option linter.unusedVariables false
set_option linter.unusedSimpArgs false
def show_told.f (k : Nat) (a0_0 : Int) (l0_1 : List Int) (a1_0 : Int) (a1_1 : Int) (a1_2 : Int) (l1_3 : List Int) : Option ByteArray := G.show_told.f k a0_0 l0_1 a1_0 a1_1 a1_2 l1_3
theorem show_told.mono : ∀ a b c d e g k, LeO (show_told.f k a b c d e g) (show_told.f (k + 1) a b c d e g) := G.show_told.mono
theorem show_told.calls (k : Nat) (a0_0 : Int) (A0_1 : Option Addr) (c0_1 : Nat) (l0_1 : List Int) (a1_0 : Int) (a1_1 : Int) (a1_2 : Int) (A1_3 : Option Addr) (c1_3 : Nat) (l1_3 : List Int) (r : ByteArray) (w : World) (hr0_1 : Kd.C (Kd.int .i64) w A0_1 l0_1.length l0_1) (hc0_1 : l0_1.length ≤ c0_1) (hr1_3 : Kd.C (Kd.int .u8) w A1_3 l1_3.length l1_3) (hc1_3 : l1_3.length ≤ c1_3) (h : show_told.f k a0_0 l0_1 a1_0 a1_1 a1_2 l1_3 = some r) :
    Calls Tryz.prog 17 #[.agg #[.int .i64 a0_0, .slice A0_1 l0_1.length c0_1], .agg #[.int .i64 a1_0, .int .i64 a1_1, .int .i64 a1_2, .slice A1_3 l1_3.length c1_3]] w fun e w' => e = .returned (.string r) ∧ Below w.heap.size w w' :=
  G.show_told.calls k a0_0 A0_1 c0_1 l0_1 a1_0 a1_1 a1_2 A1_3 c1_3 l1_3 r w hr0_1 hc0_1 hr1_3 hc1_3 h
/-! ### ContainsFunc -/
theorem show1_calls (a : Int) (v : Value) (w : World) :
    Calls Tryz.prog 16 #[.agg #[.int .i64 a, v]] w fun e w' => e = .returned (.bool (a == 2)) ∧ Below w.heap.size w w' := by
  go_enter Tryz.func16, Tryz.ntmps16
  go_wp2
  go_ret
  exact ⟨rfl, by repeat (first | exact Below.refl _ _ | apply below_alloc | apply pw_below_drewN | apply below_drew1)⟩
set_option maxHeartbeats 8000000 in
set_option maxRecDepth 100000 in
theorem index_calls (A0 : Option Addr) (c0 : Nat) (l0 : List S28) (w : World) (hr0 : Kd.C k28 w A0 l0.length l0) (hc0 : l0.length ≤ c0) :
    Calls Tryz.prog 24 #[.slice A0 l0.length c0, .func (.func 16) #[] #[]] w fun e w' => (∃ i : Int, e = .returned (.int .i64 i) ∧ (decide (0 ≤ i) = l0.any fun x => x.f0 == 2)) ∧ Below w.heap.size w w' := by
  have hu28 := Tryz.underlying28
  have HR := Aside0.mk hr0
  have HB := Aside0.mk (Below.refl w.heap.size w)
  have hm := Kd.C_max hr0
  have HM := Aside0.mk hm
  clear hr0 hc0 hm
  go_enter Tryz.func24, Tryz.ntmps24
  go_wp2
  go_loopg [8] (l0.length + 1) (fun g v8 w' => ∃ z : Int, v8 = .int .i64 z ∧ Aside0 (0 ≤ z ∧ z ≤ (l0.length : Int) ∧ l0.length - z.toNat < g) ∧ Aside0 ((l0.take z.toNat).any (fun x => x.f0 == 2) = false) ∧ Aside0 (Below w.heap.size w w'))
  case atStart => exact ⟨0, rfl, ⟨by omega, by omega, by omega⟩, ⟨rfl⟩, ⟨by repeat (first | (with_reducible first | exact HB.out | apply below_alloc | apply pw_below_drewN | apply below_drew1) | exact HB.out)⟩⟩
  case round =>
    clear HB
    obtain ⟨z, rfl, HZ, HL, HB⟩ := hrel
    cases gk with
    | zero => exact absurd HZ.out (by omega)
    | succ g =>
      have hz0 := HZ.out.1
      by_cases hlt : z < (l0.length : Int)
      · have d0 : decide (z < (l0.length : Int)) = true := decide_eq_true hlt
        obtain ⟨ad, A1, c1, ea, hx0, hx1, hl1, hi1⟩ := at_T28 HR.out z hz0 hlt
        cases ea
        replace hx0 := (HB.out.cell (World.block_lt_of_cell? w _ hx0)).trans hx0
        replace hx1 := (HB.out.cell (World.block_lt_of_cell? w _ hx1)).trans hx1
        have HLT := Aside0.mk hlt
        have p107 : (0 ≤ z) = True := eq_true hz0
        have q107 : (z < (l0.length : Int)) = True := eq_true hlt
        have htk : (l0.take (z.toNat + 1)).any (fun x => x.f0 == 2) = ((rd_T28 l0 z).f0 == 2) := by
          rw [List.take_add_one, List.any_append, HL.out, List.getElem?_eq_getElem (by omega)]
          unfold rd_T28
          rw [List.getD_eq_getElem?_getD, List.getElem?_eq_getElem (by omega)]
          simp
        have HTK := Aside0.mk htk
        have hw : wrap64 (z + 1) = z + 1 := by have := HM.out; unfold wrap64; omega
        have HW := Aside0.mk hw
        clear hlt hz0 htk hw hl1 hi1
        by_cases c : (rd_T28 l0 z).f0 = 2
        · have cb : ((rd_T28 l0 z).f0 == 2) = true := beq_iff_eq.2 c
          have HC := Aside0.mk cb
          go_wp2_with (first | (go_at_call 16; refine (show1_calls _ _ _).mono ?_; rintro e w2 ⟨rfl, hb⟩; have n_ := Aside0.mk (below_step (by repeat (first | (with_reducible first | exact HB.out | apply below_alloc | apply pw_below_drewN | apply below_drew1) | exact HB.out)) hb); clear HB; have HB := n_; clear n_ hb))
          go_ret
          refine ⟨⟨z, rfl, ?_⟩, by repeat (first | (with_reducible first | exact HB.out | apply below_alloc | apply pw_below_drewN | apply below_drew1) | exact HB.out)⟩
          rw [decide_eq_true HZ.out.1]
          refine (List.any_eq_true.2 ?_).symm
          obtain ⟨x, hx, hx2⟩ := List.any_eq_true.1 (HTK.out.trans HC.out)
          exact ⟨x, List.mem_of_mem_take hx, hx2⟩
        · have cb : ((rd_T28 l0 z).f0 == 2) = false := beq_eq_false_iff_ne.2 c
          have HC := Aside0.mk cb
          go_wp2_with (first | (go_at_call 16; refine (show1_calls _ _ _).mono ?_; rintro e w2 ⟨rfl, hb⟩; have n_ := Aside0.mk (below_step (by repeat (first | (with_reducible first | exact HB.out | apply below_alloc | apply pw_below_drewN | apply below_drew1) | exact HB.out)) hb); clear HB; have HB := n_; clear n_ hb))
          go_roundg g
          case measure => omega
          case rel => exact ⟨wrap64 (z + 1), rfl, ⟨by have := HZ.out; have := HLT.out; rw [HW.out]; omega⟩, ⟨by rw [HW.out, show (z + 1).toNat = z.toNat + 1 by have := HZ.out.1; omega]; exact HTK.out.trans HC.out⟩, ⟨by repeat (first | (with_reducible first | exact HB.out | apply below_alloc | apply pw_below_drewN | apply below_drew1) | exact HB.out)⟩⟩
      · have d0 : decide (z < (l0.length : Int)) = false := decide_eq_false hlt
        have he : z.toNat = l0.length := by have := HZ.out; omega
        have hno := HL.out
        rw [he, List.take_length] at hno
        have HNO := Aside0.mk hno
        clear hlt he hno hz0
        go_wp2
        go_ret
        exact ⟨⟨-1, rfl, by rw [HNO.out]; rfl⟩, by repeat (first | (with_reducible first | exact HB.out | apply below_alloc | apply pw_below_drewN | apply below_drew1) | exact HB.out)⟩
def api_Item.f (l : List S28) : Option Bool := some (l.any fun x => x.f0 == 2)
theorem api_Item.calls (A0 : Option Addr) (c0 : Nat) (l0 : List S28) (r : Bool) (w : World) (hr0 : Kd.C k28 w A0 l0.length l0) (hc0 : l0.length ≤ c0) (h : api_Item.f l0 = some r) :
    Calls Tryz.prog 15 #[.slice A0 l0.length c0, .func (.func 16) #[] #[]] w fun e w' => e = .returned (.bool r) ∧ Below w.heap.size w w' := by
  obtain rfl := Option.some.inj h
  have HI := Aside0.mk (index_calls A0 c0 l0 w hr0 hc0)
  clear hr0 hc0
  go_enter Tryz.func15, Tryz.ntmps15
  go_wp2_with (first | (go_at_call 24; refine HI.out.mono ?_; rintro e w2 ⟨⟨i, rfl, hi⟩, hb⟩; have HB := Aside0.mk hb; have HD := Aside0.mk hi; clear hb hi))
  go_ret
  exact ⟨by first | rfl | (rw [← HD.out]; done) | (rw [← HD.out]; rfl) | (simp [HD.out]; done), HB.out⟩
end Go.Proofs.YtalabkaalbllgaaGreatDoor
