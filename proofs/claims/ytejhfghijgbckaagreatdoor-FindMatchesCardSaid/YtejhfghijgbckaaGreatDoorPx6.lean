/- The walks of the seat's functions, one contract a function: printed by a program of this session's (wip/gen). Not trusted: Lean checks it. -/
import Derived.Test.YtejhfghijgbckaaGreatDoorShort
import Derived.Test.YtejhfghijgbckaaGreatDoorPx0
-- halved
namespace Go.Proofs.YtejhfghijgbckaaGreatDoor.P
open Go.RowKit Go.Proofs.YtejhfghijgbckaaGreatDoorW.PrintWords Go.Proofs.YtejhfghijgbckaaGreatDoorW.PrintLast Go.Proofs.YtejhfghijgbckaaGreatDoorW.PrintMore
attribute [local go_sem] max2_int min2_int max_two min_two max_three min_three max_four min_four   -- for this text's walks alone
set_option linter.unusedVariables false
set_option linter.unusedSimpArgs false

-- GIVEN: function 28 (span_Has)
/-! slices.ContainsFunc at rows of ranges; span.Has. -/
set_option maxHeartbeats 2000000 in
set_option maxRecDepth 100000 in
theorem IndexFunc_calls (p : S73 → Bool) (g : Nat) (lb : Array Value) (eg : ∀ args w, (callFunc g args).run Tryz.prog w = .ok (.enter g args) w) (A : Option Addr) (c : Nat) (l : List S73) (w : World) (hC0 : Kd.C k73 w A l.length l)
  (hp : ∀ (W : World) (x : S73), Below w.heap.size w W → Calls Tryz.prog g (#[.agg #[.int .i64 x.f0, .int .i64 x.f1]] ++ lb) W fun e w' => e = .returned (.bool (p x)) ∧ Below w.heap.size w w') :
  Calls Tryz.prog 71 #[.slice A l.length c, .func (.func g) #[] lb] w fun e w' => ∃ r : Int, e = .returned (.int .i64 r) ∧ decide (0 ≤ r) = l.any p ∧ Below w.heap.size w w' := by
 have HC := am hC0; have HP := am hp; have hbig : l.length ≤ 9223372036854775807 := hC0.2.1; clear hC0 hp; have hu := Tryz.underlying73
 go_enter Tryz.func71, Tryz.ntmps71
 go_wp2
 go_loopg [5, 8] l.length (fun gg _ s8 wr => ∃ x8 : Int, s8 = .int .i64 x8 ∧ Aside0 (0 ≤ x8 ∧ x8 ≤ (l.length : Int) ∧ l.length - x8.toNat ≤ gg) ∧ Aside0 (Below w.heap.size w wr) ∧ Aside0 (∀ j, j < x8.toNat → p (l.getD j z73) = false))
 case atStart => exact ⟨0, rfl, ⟨by omega, by omega, by simp⟩, ⟨Below.refl _ w⟩, ⟨fun j hj => absurd hj (Nat.not_lt_zero _)⟩⟩
 case round =>
  obtain ⟨x8, rfl, HX8, BW, AA⟩ := hrel
  by_cases hlt : x8 < (l.length : Int)
  ·have h0z : 0 ≤ x8 := HX8.out.1; obtain ⟨ad, rfl, hx0, hx1⟩ := at_T73 (Kd.C_below HC.out BW.out) x8 h0z hlt; have hcall := HP.out wr (rd_T73 l x8) BW.out; have HY := am (show l.getD x8.toNat z73 = rd_T73 l x8 from rfl); have HLT := am (show x8.toNat < l.length by omega); generalize rd_T73 l x8 = y at hx0 hx1 hcall HY; clear HP; replace h0z := eq_true h0z; replace hlt := eq_true hlt
   cases hq : p y with
   | true =>
    rw [hq] at hcall; have HQ := am hq; clear hq
    go_wp2_with (go_at_fn g; refine hcall.mono ?_; rintro e w' ⟨rfl, hb'⟩)
    go_ret
    refine ⟨_, rfl, ?_, hb'⟩; have h0 := HX8.out.1; rw [decide_eq_true (by omega)]; refine (List.any_eq_true.2 ⟨y, ?_, HQ.out⟩).symm; rw [← HY.out, List.getD_eq_getElem?_getD, List.getElem?_eq_getElem HLT.out]
    exact List.getElem_mem HLT.out
   | false =>
    rw [hq] at hcall; have HQ := am hq; clear hq
    go_wp2_with (go_at_fn g; refine hcall.mono ?_; rintro e w' ⟨rfl, hb'⟩)
    go_roundg (l.length - (x8.toNat + 1))
    case measure => have := HLT.out; have := HX8.out.2.2; omega
    case rel =>
     have hw : wrap64 (x8 + 1) = x8 + 1 := by have := HX8.out; have := HLT.out; unfold wrap64; omega
     have h8 := HX8.out; have h9 := HLT.out; refine ⟨x8 + 1, by first | rfl | (rw [hw]) | (simp [hw]), ⟨by omega, by omega, by omega⟩, ⟨hb'⟩, ⟨fun j hj => ?_⟩⟩
     by_cases e : j = x8.toNat
     ·rw [e, HY.out]; exact HQ.out
     exact AA.out j (by omega)
  have HK := am (show x8.toNat = l.length by have := HX8.out; omega); clear HP; replace hlt := eq_false hlt
  go_wp2
  go_ret
  refine ⟨_, rfl, ?_, BW.out⟩
  have hn : l.any p = false := by
   rw [List.any_eq_false]; intro x hx; obtain ⟨j, hj, rfl⟩ := List.mem_iff_getElem.1 hx; have := AA.out j (by rw [HK.out]; exact hj)
   rw [List.getD_eq_getElem?_getD, List.getElem?_eq_getElem hj] at this
   simpa using this
  rw [hn]; rfl
theorem ContainsFunc_calls (p : S73 → Bool) (g : Nat) (lb : Array Value) (eg : ∀ args w, (callFunc g args).run Tryz.prog w = .ok (.enter g args) w) (A : Option Addr) (c : Nat) (l : List S73) (w : World) (hC0 : Kd.C k73 w A l.length l)
  (hp : ∀ (W : World) (x : S73), Below w.heap.size w W → Calls Tryz.prog g (#[.agg #[.int .i64 x.f0, .int .i64 x.f1]] ++ lb) W fun e w' => e = .returned (.bool (p x)) ∧ Below w.heap.size w w') :
  Calls Tryz.prog 45 #[.slice A l.length c, .func (.func g) #[] lb] w fun e w' => e = .returned (.bool (l.any p)) ∧ Below w.heap.size w w' := by
 go_enter Tryz.func45, Tryz.ntmps45
 go_wp2_with (go_at_call 71; refine (IndexFunc_calls p g lb eg A c l _ hC0 hp).mono ?_; rintro e w' ⟨r, rfl, hr, hb'⟩)
 go_ret
 exact ⟨by rw [← hr]; rfl, hb'⟩
/-! span.Has: is a number within one of the ranges. -/
def endOf (last a : Int) : Int := if a = 1073741824 then last else a
def within (n last : Int) (r : S73) : Bool := decide (mn (endOf last r.f0) (endOf last r.f1) ≤ n) && decide (n ≤ mx (endOf last r.f0) (endOf last r.f1))
theorem ret_bool {q q2 : Bool} (h : q = true ↔ q2 = true) : Ending.returned (Value.bool q) = Ending.returned (Value.bool q2) := by rw [Bool.eq_iff_iff.2 h]
set_option maxHeartbeats 2000000 in
set_option maxRecDepth 100000 in
theorem Has1_calls (W : World) (x : S73) (n last : Int) (bn bl : Nat) (hn : W.cell? ⟨bn, 0, none⟩ = some (.int .i64 n)) (hl : W.cell? ⟨bl, 0, none⟩ = some (.int .i64 last)) (hbn : bn < W.heap.size) (hbl : bl < W.heap.size) :
  Calls Tryz.prog 44 #[.agg #[.int .i64 x.f0, .int .i64 x.f1], .pointer (some ⟨bl, 0, none⟩), .pointer (some ⟨bn, 0, none⟩)] W fun e w' => e = .returned (.bool (within n last x)) ∧ Below W.heap.size W w' := by
 unfold within endOf
 generalize x.f0 = a; generalize x.f1 = b; have hu := Tryz.underlying73
 by_cases ca : a = 1073741824
 ·rw [if_pos ca]; have cab : (a == 1073741824) = true := beq_iff_eq.2 ca
  by_cases cb : b = 1073741824
  ·rw [if_pos cb]; have cbb : (b == 1073741824) = true := beq_iff_eq.2 cb; clear ca cb
   go_enter Tryz.func44, Tryz.ntmps44
   go_wp2
   all_goals
    go_ret
    exact ⟨ret_bool (by simp only [Bool.and_eq_true, decide_eq_true_eq, Bool.false_eq_true]; unfold mn mx; (repeat' split) <;> first | omega | (constructor <;> intro h_ <;> first | omega | exact h_.elim | exact absurd h_.1 (by omega) | exact absurd h_.2 (by omega))), by repeat (first | exact Below.refl _ _ | apply below_alloc | refine below_set ?_ (Nat.le_refl _))⟩
  rw [if_neg cb]; have cbb : (b == 1073741824) = false := beq_eq_false_iff_ne.2 cb; clear ca cb
  go_enter Tryz.func44, Tryz.ntmps44
  go_wp2
  all_goals
   go_ret
   exact ⟨ret_bool (by simp only [Bool.and_eq_true, decide_eq_true_eq, Bool.false_eq_true]; unfold mn mx; (repeat' split) <;> first | omega | (constructor <;> intro h_ <;> first | omega | exact h_.elim | exact absurd h_.1 (by omega) | exact absurd h_.2 (by omega))), by repeat (first | exact Below.refl _ _ | apply below_alloc | refine below_set ?_ (Nat.le_refl _))⟩
 rw [if_neg ca]; have cab : (a == 1073741824) = false := beq_eq_false_iff_ne.2 ca
 by_cases cb : b = 1073741824
 ·rw [if_pos cb]; have cbb : (b == 1073741824) = true := beq_iff_eq.2 cb; clear ca cb
  go_enter Tryz.func44, Tryz.ntmps44
  go_wp2
  all_goals
   go_ret
   exact ⟨ret_bool (by simp only [Bool.and_eq_true, decide_eq_true_eq, Bool.false_eq_true]; unfold mn mx; (repeat' split) <;> first | omega | (constructor <;> intro h_ <;> first | omega | exact h_.elim | exact absurd h_.1 (by omega) | exact absurd h_.2 (by omega))), by repeat (first | exact Below.refl _ _ | apply below_alloc | refine below_set ?_ (Nat.le_refl _))⟩
 rw [if_neg cb]; have cbb : (b == 1073741824) = false := beq_eq_false_iff_ne.2 cb; clear ca cb
 go_enter Tryz.func44, Tryz.ntmps44
 go_wp2
 all_goals
  go_ret
  exact ⟨ret_bool (by simp only [Bool.and_eq_true, decide_eq_true_eq, Bool.false_eq_true]; unfold mn mx; (repeat' split) <;> first | omega | (constructor <;> intro h_ <;> first | omega | exact h_.elim | exact absurd h_.1 (by omega) | exact absurd h_.2 (by omega))), by repeat (first | exact Below.refl _ _ | apply below_alloc | refine below_set ?_ (Nat.le_refl _))⟩
def span_Has.f (l : List S73) (n last : Int) : Option Bool := some (decide (1 ≤ n) && l.any (within n last))
set_option maxRecDepth 100000 in
theorem span_Has.calls (A0 : Option Addr) (c0 : Nat) (l0 : List S73) (a1 : Int) (a2 : Int) (r : Bool) (w : World) (hr0 : Kd.C k73 w A0 l0.length l0) (hc0 : l0.length ≤ c0) (h : span_Has.f l0 a1 a2 = some r) :
  Calls Tryz.prog 28 #[.slice A0 l0.length c0, .int .i64 a1, .int .i64 a2] w fun e w' => e = .returned (.bool r) ∧ Below w.heap.size w w' := by
 obtain rfl := Option.some.inj h
 have eg : ∀ args w, (callFunc 44 args).run Tryz.prog w = .ok (.enter 44 args) w := fun args w => enters_ Tryz.func44 (by kernel_rfl) (by kernel_rfl) args w
 obtain ⟨W1, hW1⟩ : ∃ W1, W1 = (w.alloc (Obj.cells #[.int .i64 a1] 3)).alloc (Obj.cells #[.int .i64 a2] 3) := ⟨_, rfl⟩
 have hB1 : Below w.heap.size w W1 := by rw [hW1]; exact below_alloc (below_alloc (Below.refl _ _) _) _
 have hs1 : W1.heap.size = w.heap.size + 2 := by rw [hW1]; simp [World.alloc, -World.alloc_eq]
 have hn : W1.cell? ⟨w.heap.size, 0, none⟩ = some (.int .i64 a1) := by
  rw [hW1]; simp [World.cell?, World.alloc, -World.alloc_eq, Array.getElem?_push]
 have hl : W1.cell? ⟨w.heap.size + 1, 0, none⟩ = some (.int .i64 a2) := by
  rw [hW1]; simp [World.cell?, World.alloc, -World.alloc_eq, Array.getElem?_push, Array.getElem_push]
 have hcall := ContainsFunc_calls (within a1 a2) 44 #[.pointer (some ⟨w.heap.size + 1, 0, none⟩), .pointer (some ⟨w.heap.size, 0, none⟩)] eg A0 c0 l0 W1 (Kd.C_below hr0 hB1) (fun W x hb => by
  have hsz := hb.size
  refine (Has1_calls W x a1 a2 w.heap.size (w.heap.size + 1) (by rw [hb.cell (p := ⟨w.heap.size, 0, none⟩) (by show w.heap.size < _; omega)]; exact hn) (by rw [hb.cell (p := ⟨w.heap.size + 1, 0, none⟩) (by show w.heap.size + 1 < _; omega)]; exact hl) (by omega) (by omega)).mono fun e w' ⟨he, hb'⟩ => ⟨he, below_step hb hb'⟩)
 generalize l0.any (within a1 a2) = q at hcall; have HB1 := am hB1; clear hB1 hs1 hn hl hr0
 by_cases c1 : 1 ≤ a1
 ·rw [decide_eq_true c1]
  go_enter Tryz.func28, Tryz.ntmps28
  go_wp2_with (go_at_call 45; rw [← hW1]; refine hcall.mono ?_; rintro e w' ⟨rfl, hb'⟩)
  go_ret
  exact ⟨rfl, below_step HB1.out hb'⟩
 rw [decide_eq_false c1]; clear hcall
 go_enter Tryz.func28, Tryz.ntmps28
 go_wp2
 go_ret
 exact ⟨rfl, by repeat (first | exact Below.refl _ _ | apply below_alloc)⟩


-- GIVEN: function 17 (find_Match)

end Go.Proofs.YtejhfghijgbckaaGreatDoor.P
