/- The walks of the seat's functions, one contract a function: printed by a program of this session's (wip/gen). Not trusted: Lean checks it. -/
import Derived.Test.YtejhfghijgbckaaGreatDoorPx0
-- halved
namespace Go.Proofs.YtejhfghijgbckaaGreatDoor.P
open Go.RowKit Go.Proofs.YtejhfghijgbckaaGreatDoorW.PrintWords Go.Proofs.YtejhfghijgbckaaGreatDoorW.PrintLast Go.Proofs.YtejhfghijgbckaaGreatDoorW.PrintMore
attribute [local go_sem] max2_int min2_int max_two min_two max_three min_three max_four min_four   -- for this text's walks alone
set_option linter.unusedVariables false
set_option linter.unusedSimpArgs false

-- GIVEN: function 28 (span_Has)
/-! slices.ContainsFunc at rows of ranges; span.Has. -/
set_option maxHeartbeats 2000000 in
set_option maxRecDepth 100000 in
theorem IndexFunc_calls (p : S73 → Bool) (g : Nat) (lb : Array Value) (eg : ∀ args w, (callFunc g args).run Tryz.prog w = .ok (.enter g args) w) (A : Option Addr) (c : Nat) (l : List S73) (w : World) (hC0 : Kd.C k73 w A l.length l)
  (hp : ∀ (W : World) (x : S73), Below w.heap.size w W → Calls Tryz.prog g (#[.agg #[.int .i64 x.f0, .int .i64 x.f1]] ++ lb) W fun e w' => e = .returned (.bool (p x)) ∧ Below w.heap.size w w') :
  Calls Tryz.prog 71 #[.slice A l.length c, .func (.func g) #[] lb] w fun e w' => ∃ r : Int, e = .returned (.int .i64 r) ∧ decide (0 ≤ r) = l.any p ∧ Below w.heap.size w w' := by
 have HC := Aside0.mk hC0
 have HP := Aside0.mk hp
 have hbig : l.length ≤ 9223372036854775807 := hC0.2.1
 clear hC0 hp
 have hu := Tryz.underlying73
 go_enter Tryz.func71, Tryz.ntmps71
 go_wp2
 go_loopg [5, 8] l.length (fun gg _ s8 wr => ∃ x8 : Int, s8 = .int .i64 x8 ∧ Aside0 (0 ≤ x8 ∧ x8 ≤ (l.length : Int) ∧ l.length - x8.toNat ≤ gg) ∧ Aside0 (Below w.heap.size w wr) ∧ Aside0 (∀ j, j < x8.toNat → p (l.getD j z73) = false))
 case atStart => exact ⟨0, rfl, ⟨by omega, by omega, by simp⟩, ⟨Below.refl _ w⟩, ⟨fun j hj => absurd hj (Nat.not_lt_zero _)⟩⟩
 case round =>
  obtain ⟨x8, rfl, HX8, BW, AA⟩ := hrel
  by_cases hlt : x8 < (l.length : Int)
  ·have h0z : 0 ≤ x8 := HX8.out.1
   obtain ⟨ad, rfl, hx0, hx1⟩ := at_T73 (Kd.C_below HC.out BW.out) x8 h0z hlt
   have hcall := HP.out wr (rd_T73 l x8) BW.out
   have HY := Aside0.mk (show l.getD x8.toNat z73 = rd_T73 l x8 from rfl)
   have HLT := Aside0.mk (show x8.toNat < l.length by omega)
   generalize rd_T73 l x8 = y at hx0 hx1 hcall HY
   clear HP
   replace h0z := eq_true h0z
   replace hlt := eq_true hlt
   cases hq : p y with
   | true =>
    rw [hq] at hcall
    have HQ := Aside0.mk hq
    clear hq
    go_wp2_with (go_at_fn g; refine hcall.mono ?_; rintro e w' ⟨rfl, hb'⟩)
    go_ret
    refine ⟨_, rfl, ?_, hb'⟩
    have h0 := HX8.out.1
    rw [decide_eq_true (by omega)]
    refine (List.any_eq_true.2 ⟨y, ?_, HQ.out⟩).symm
    rw [← HY.out, List.getD_eq_getElem?_getD, List.getElem?_eq_getElem HLT.out]
    exact List.getElem_mem HLT.out
   | false =>
    rw [hq] at hcall
    have HQ := Aside0.mk hq
    clear hq
    go_wp2_with (go_at_fn g; refine hcall.mono ?_; rintro e w' ⟨rfl, hb'⟩)
    go_roundg (l.length - (x8.toNat + 1))
    case measure => have := HLT.out; have := HX8.out.2.2; omega
    case rel =>
     have hw : wrap64 (x8 + 1) = x8 + 1 := by have := HX8.out; have := HLT.out; unfold wrap64; omega
     have h8 := HX8.out
     have h9 := HLT.out
     refine ⟨x8 + 1, by first | rfl | (rw [hw]) | (simp [hw]), ⟨by omega, by omega, by omega⟩, ⟨hb'⟩, ⟨fun j hj => ?_⟩⟩
     by_cases e : j = x8.toNat
     ·rw [e, HY.out]; exact HQ.out
     ·exact AA.out j (by omega)
  ·have HK := Aside0.mk (show x8.toNat = l.length by have := HX8.out; omega)
   clear HP
   replace hlt := eq_false hlt
   go_wp2
   go_ret
   refine ⟨_, rfl, ?_, BW.out⟩
   have hn : l.any p = false := by
    rw [List.any_eq_false]
    intro x hx
    obtain ⟨j, hj, rfl⟩ := List.mem_iff_getElem.1 hx
    have := AA.out j (by rw [HK.out]; exact hj)
    rw [List.getD_eq_getElem?_getD, List.getElem?_eq_getElem hj] at this
    simpa using this
   rw [hn]
   rfl
theorem ContainsFunc_calls (p : S73 → Bool) (g : Nat) (lb : Array Value) (eg : ∀ args w, (callFunc g args).run Tryz.prog w = .ok (.enter g args) w) (A : Option Addr) (c : Nat) (l : List S73) (w : World) (hC0 : Kd.C k73 w A l.length l)
  (hp : ∀ (W : World) (x : S73), Below w.heap.size w W → Calls Tryz.prog g (#[.agg #[.int .i64 x.f0, .int .i64 x.f1]] ++ lb) W fun e w' => e = .returned (.bool (p x)) ∧ Below w.heap.size w w') :
  Calls Tryz.prog 45 #[.slice A l.length c, .func (.func g) #[] lb] w fun e w' => e = .returned (.bool (l.any p)) ∧ Below w.heap.size w w' := by
 go_enter Tryz.func45, Tryz.ntmps45
 go_wp2_with (go_at_call 71; refine (IndexFunc_calls p g lb eg A c l _ hC0 hp).mono ?_; rintro e w' ⟨r, rfl, hr, hb'⟩)
 go_ret
 exact ⟨by rw [← hr]; rfl, hb'⟩
/-! span.Has: is a number within one of the ranges. -/
def endOf (last a : Int) : Int := if a = 1073741824 then last else a
def within (n last : Int) (r : S73) : Bool := decide (mn (endOf last r.f0) (endOf last r.f1) ≤ n) && decide (n ≤ mx (endOf last r.f0) (endOf last r.f1))
theorem ret_bool {q q2 : Bool} (h : q = true ↔ q2 = true) : Ending.returned (Value.bool q) = Ending.returned (Value.bool q2) := by rw [Bool.eq_iff_iff.2 h]
set_option maxHeartbeats 2000000 in
set_option maxRecDepth 100000 in
theorem Has1_calls (W : World) (x : S73) (n last : Int) (bn bl : Nat) (hn : W.cell? ⟨bn, 0, none⟩ = some (.int .i64 n)) (hl : W.cell? ⟨bl, 0, none⟩ = some (.int .i64 last)) (hbn : bn < W.heap.size) (hbl : bl < W.heap.size) :
  Calls Tryz.prog 44 #[.agg #[.int .i64 x.f0, .int .i64 x.f1], .pointer (some ⟨bl, 0, none⟩), .pointer (some ⟨bn, 0, none⟩)] W fun e w' => e = .returned (.bool (within n last x)) ∧ Below W.heap.size W w' := by
 unfold within endOf
 generalize x.f0 = a
 generalize x.f1 = b
 have hu := Tryz.underlying73
 by_cases ca : a = 1073741824
 ·rw [if_pos ca]
  have cab : (a == 1073741824) = true := beq_iff_eq.2 ca
  by_cases cb : b = 1073741824
  ·rw [if_pos cb]
   have cbb : (b == 1073741824) = true := beq_iff_eq.2 cb
   clear ca cb
   go_enter Tryz.func44, Tryz.ntmps44
   go_wp2
   all_goals
    go_ret
    exact ⟨ret_bool (by simp only [Bool.and_eq_true, decide_eq_true_eq, Bool.false_eq_true]; unfold mn mx; (repeat' split) <;> first | omega | (constructor <;> intro h_ <;> first | omega | exact h_.elim | exact absurd h_.1 (by omega) | exact absurd h_.2 (by omega))), by repeat (first | exact Below.refl _ _ | apply below_alloc | refine below_set ?_ (Nat.le_refl _))⟩
  ·rw [if_neg cb]
   have cbb : (b == 1073741824) = false := beq_eq_false_iff_ne.2 cb
   clear ca cb
   go_enter Tryz.func44, Tryz.ntmps44
   go_wp2
   all_goals
    go_ret
    exact ⟨ret_bool (by simp only [Bool.and_eq_true, decide_eq_true_eq, Bool.false_eq_true]; unfold mn mx; (repeat' split) <;> first | omega | (constructor <;> intro h_ <;> first | omega | exact h_.elim | exact absurd h_.1 (by omega) | exact absurd h_.2 (by omega))), by repeat (first | exact Below.refl _ _ | apply below_alloc | refine below_set ?_ (Nat.le_refl _))⟩
 ·rw [if_neg ca]
  have cab : (a == 1073741824) = false := beq_eq_false_iff_ne.2 ca
  by_cases cb : b = 1073741824
  ·rw [if_pos cb]
   have cbb : (b == 1073741824) = true := beq_iff_eq.2 cb
   clear ca cb
   go_enter Tryz.func44, Tryz.ntmps44
   go_wp2
   all_goals
    go_ret
    exact ⟨ret_bool (by simp only [Bool.and_eq_true, decide_eq_true_eq, Bool.false_eq_true]; unfold mn mx; (repeat' split) <;> first | omega | (constructor <;> intro h_ <;> first | omega | exact h_.elim | exact absurd h_.1 (by omega) | exact absurd h_.2 (by omega))), by repeat (first | exact Below.refl _ _ | apply below_alloc | refine below_set ?_ (Nat.le_refl _))⟩
  ·rw [if_neg cb]
   have cbb : (b == 1073741824) = false := beq_eq_false_iff_ne.2 cb
   clear ca cb
   go_enter Tryz.func44, Tryz.ntmps44
   go_wp2
   all_goals
    go_ret
    exact ⟨ret_bool (by simp only [Bool.and_eq_true, decide_eq_true_eq, Bool.false_eq_true]; unfold mn mx; (repeat' split) <;> first | omega | (constructor <;> intro h_ <;> first | omega | exact h_.elim | exact absurd h_.1 (by omega) | exact absurd h_.2 (by omega))), by repeat (first | exact Below.refl _ _ | apply below_alloc | refine below_set ?_ (Nat.le_refl _))⟩
def span_Has.f (l : List S73) (n last : Int) : Option Bool := some (decide (1 ≤ n) && l.any (within n last))
set_option maxRecDepth 100000 in
theorem span_Has.calls (A0 : Option Addr) (c0 : Nat) (l0 : List S73) (a1 : Int) (a2 : Int) (r : Bool) (w : World) (hr0 : Kd.C k73 w A0 l0.length l0) (hc0 : l0.length ≤ c0) (h : span_Has.f l0 a1 a2 = some r) :
  Calls Tryz.prog 28 #[.slice A0 l0.length c0, .int .i64 a1, .int .i64 a2] w fun e w' => e = .returned (.bool r) ∧ Below w.heap.size w w' := by
 obtain rfl := Option.some.inj h
 have eg : ∀ args w, (callFunc 44 args).run Tryz.prog w = .ok (.enter 44 args) w := fun args w => enters_ Tryz.func44 (by kernel_rfl) (by kernel_rfl) args w
 obtain ⟨W1, hW1⟩ : ∃ W1, W1 = (w.alloc (Obj.cells #[.int .i64 a1] 3)).alloc (Obj.cells #[.int .i64 a2] 3) := ⟨_, rfl⟩
 have hB1 : Below w.heap.size w W1 := by rw [hW1]; exact below_alloc (below_alloc (Below.refl _ _) _) _
 have hs1 : W1.heap.size = w.heap.size + 2 := by rw [hW1]; simp [World.alloc, -World.alloc_eq]
 have hn : W1.cell? ⟨w.heap.size, 0, none⟩ = some (.int .i64 a1) := by
  rw [hW1]; simp [World.cell?, World.alloc, -World.alloc_eq, Array.getElem?_push]
 have hl : W1.cell? ⟨w.heap.size + 1, 0, none⟩ = some (.int .i64 a2) := by
  rw [hW1]; simp [World.cell?, World.alloc, -World.alloc_eq, Array.getElem?_push, Array.getElem_push]
 have hcall := ContainsFunc_calls (within a1 a2) 44 #[.pointer (some ⟨w.heap.size + 1, 0, none⟩), .pointer (some ⟨w.heap.size, 0, none⟩)] eg A0 c0 l0 W1 (Kd.C_below hr0 hB1) (fun W x hb => by
  have hsz := hb.size
  refine (Has1_calls W x a1 a2 w.heap.size (w.heap.size + 1) (by rw [hb.cell (p := ⟨w.heap.size, 0, none⟩) (by show w.heap.size < _; omega)]; exact hn) (by rw [hb.cell (p := ⟨w.heap.size + 1, 0, none⟩) (by show w.heap.size + 1 < _; omega)]; exact hl) (by omega) (by omega)).mono fun e w' ⟨he, hb'⟩ => ⟨he, below_step hb hb'⟩)
 generalize l0.any (within a1 a2) = q at hcall
 have HB1 := Aside0.mk hB1
 clear hB1 hs1 hn hl hr0
 by_cases c1 : 1 ≤ a1
 ·rw [decide_eq_true c1]
  go_enter Tryz.func28, Tryz.ntmps28
  go_wp2_with (go_at_call 45; rw [← hW1]; refine hcall.mono ?_; rintro e w' ⟨rfl, hb'⟩)
  go_ret
  exact ⟨rfl, below_step HB1.out hb'⟩
 ·rw [decide_eq_false c1]
  clear hcall
  go_enter Tryz.func28, Tryz.ntmps28
  go_wp2
  go_ret
  exact ⟨rfl, by repeat (first | exact Below.refl _ _ | apply below_alloc)⟩


-- GIVEN: function 17 (find_Match)

/-! ### letterboxlaw18_atoms: function 16 -/
def letterboxlaw18_atoms.l0 : Nat → List ByteArray → List (S42) → Int → Option ((List (S42)))
 | 0, _, _, _ => none
 | k + 1, x0, x3, x4 => if x4 < (x0.length : Int) then (if 0 ≤ x4 then (if x3.length < 5864062014805 then (letterboxlaw18_atoms.l0 k x0 (x3 ++ [(⟨1, rdOf ByteArray.empty x0 x4⟩ : S42)]) (wrap64 (x4 + 1))) else (none)) else (none)) else (some x3)
def letterboxlaw18_atoms.f (k : Nat) (l0 : List ByteArray) : Option ((List (S42))) := letterboxlaw18_atoms.l0 k l0 ([] : List (S42)) 0
theorem letterboxlaw18_atoms.mono_l : ∀ k, (∀ y0 y1 y2, LeO (letterboxlaw18_atoms.l0 k y0 y1 y2) (letterboxlaw18_atoms.l0 (k + 1) y0 y1 y2))
 | 0 => fun _ _ _ r h => by simp [letterboxlaw18_atoms.l0] at h
 | k + 1 => by
  have ih0 := letterboxlaw18_atoms.mono_l k
  ·intro y0 y1 y2
   unfold letterboxlaw18_atoms.l0
   repeat' first
   | (with_reducible exact ih0 _ _ _)
   | (with_reducible exact LeO.refl _)
   | (with_reducible exact LeO.none _)
   | (with_reducible refine LeO.ite ?_ ?_)
   | (with_reducible refine LeO.bind ?_ (fun _ => ?_))
   | exact ih0 _ _ _
   | exact LeO.none _
   | refine LeO.ite ?_ ?_
   | refine LeO.bind ?_ (fun _ => ?_)
theorem letterboxlaw18_atoms.mono : ∀ a0 k, LeO (letterboxlaw18_atoms.f k a0) (letterboxlaw18_atoms.f (k + 1) a0) := by
 intro a0 k
 have ih0 := letterboxlaw18_atoms.mono_l k
 unfold letterboxlaw18_atoms.f
 repeat' first
   | (with_reducible exact ih0 _ _ _)
   | (with_reducible exact LeO.refl _)
   | (with_reducible exact LeO.none _)
   | (with_reducible refine LeO.ite ?_ ?_)
   | (with_reducible refine LeO.bind ?_ (fun _ => ?_))
   | exact ih0 _ _ _
   | exact LeO.none _
   | refine LeO.ite ?_ ?_
   | refine LeO.bind ?_ (fun _ => ?_)
set_option maxHeartbeats 8000000 in
set_option maxRecDepth 100000 in
theorem letterboxlaw18_atoms.calls (k : Nat) (A0 : Option Addr) (c0 : Nat) (l0 : List ByteArray) (r : List (S42)) (w : World) (hr0 : Kd.C Kd.string w A0 l0.length l0) (hc0 : l0.length ≤ c0) (h : letterboxlaw18_atoms.f k l0 = some r) :
  Calls Tryz.prog 16 #[.slice A0 l0.length c0] w fun e w' => ∃ v0_ : Value, e = .returned (v0_) ∧ Kd.R k42 42 w' w.heap.size (fun _ => True) v0_ r ∧ Below w.heap.size w w' := by
 have hu42 := Tryz.underlying42
 have HR0 := Aside0.mk hr0
 have HC0 := Aside0.mk hc0
 clear hr0 hc0
 have HB := Aside0.mk (Below.refl w.heap.size w)
 have H : (letterboxlaw18_atoms.l0 k l0 ([] : List (S42)) 0) = some r := h
 clear h
 have H' := Aside0.mk H
 clear H
 go_enter Tryz.func16, Tryz.ntmps16
 go_wp2
 go_loopg [3, 4] k (fun kq v3 v4 w' => ∃ (x3_1 : List (S42)) (x4_1 : Int), v4 = .int .i64 x4_1 ∧ Aside0 (letterboxlaw18_atoms.l0 kq l0 x3_1 x4_1 = some r) ∧ Aside0 (kq ≤ k) ∧ Aside0 (Kd.R k42 42 w' w.heap.size (fun _ => True) v3 x3_1) ∧ Aside0 (Below w.heap.size w w'))
 case atStart => exact ⟨(([] : List (S42))), (0), (by first | rfl | (simp; done) | (simp [*]; done)), H', ⟨Nat.le_refl _⟩, ⟨by first | exact Kd.R_nil _ _ _ _ _ | exact Kd.N_nil _ _ _ _ _ | exact Kd.V_nil _ _ _ _ _ | exact Kd.Q_nil _ _ _ _ _ | exact Kd.S_nil _ _ _ _ _⟩, ⟨by repeat (first | (with_reducible first | exact HB.out | apply below_alloc | apply pw_below_drewN | apply below_drew1) | exact HB.out)⟩⟩
 case round =>
  clear H'
  try clear c1
  obtain ⟨x3_1, x4_1, rfl, HA, HK1, HO_3, HB⟩ := hrel
  cases gk with
  | zero => exact absurd HA.out (by simp [letterboxlaw18_atoms.l0])
  | succ k1 =>
   have H := HA.out
   clear HA
   simp only [letterboxlaw18_atoms.l0] at H
   by_cases c2 : x4_1 < (l0.length : Int)
   ·rw [if_pos c2] at H
    have c2b0 : decide (x4_1 < (l0.length : Int)) = true := decide_eq_true c2
    clear c2
    by_cases c3 : 0 ≤ x4_1
    ·rw [if_pos c3] at H
     have c3b0 : decide (0 ≤ x4_1) = true := decide_eq_true c3
     clear c3
     by_cases c4 : x3_1.length < 5864062014805
     ·rw [if_pos c4] at H
      have LMc4 := Aside0.mk c4
      clear c4
      obtain ⟨y255, hy255⟩ : ∃ y_ : List (S42), y_ = (x3_1 ++ [(⟨1, rdOf ByteArray.empty l0 x4_1⟩ : S42)]) := ⟨_, rfl⟩
      replace H : (letterboxlaw18_atoms.l0 k1 l0 y255 (wrap64 (x4_1 + 1))) = some r := by first | (rw [hy255]; with_reducible exact H) | (have H2_ := (Option.bind_some _ _).symm.trans H; rw [hy255]; with_reducible exact H2_) | (have H2_ := (Option.bind_some _ _).symm.trans H; with_reducible exact H2_) | with_reducible exact H | (rw [hy255]; exact H) | exact H
      have Ny255 := Aside0.mk hy255
      clear hy255
      have H' := Aside0.mk H
      clear H
      have p254 : 0 ≤ (x4_1 : Int) := of_decide_eq_true (by first | (with_reducible assumption) | assumption)
      have q254 : x4_1 < (l0.length : Int) := of_decide_eq_true (by first | (with_reducible assumption) | assumption)
      obtain ⟨ad254, e254, hx254_0⟩ := Kd.at_string HR0.out x4_1 p254 q254
      cases e254
      replace hx254_0 := (HB.out.cell (World.block_lt_of_cell? w _ hx254_0)).trans hx254_0
      replace p254 := eq_true p254
      replace q254 := eq_true q254
      go_wp2_with (first | ((with_reducible refine gate_builtin (b := .append) (xs := #[.tmp 11, .tmp 17]) rfl ?_); at_builtin; refine Kd.R_append k42 (w0 := w) w.heap.size rfl (.tmp 11) (.tmp 17) 22 42 (.agg #[(.int .i64 0), (.string ⟨#[]⟩)]) 24 rfl Tryz.underlying22 info42 rfl (by decide) (by omega) u3 x3_1 (⟨1, rdOf ByteArray.empty l0 x4_1⟩ : S42) [.int .i64 1, .string (rdOf ByteArray.empty l0 x4_1)] (fun _ => True) (fun _ => False) rfl rfl ?aP (fun _ hk => hk.elim) ?aF ?aO ?aB ?aS ?aL ?_; (case aP => exact k42_mkM _ _ _ (⟨1, rdOf ByteArray.empty l0 x4_1⟩ : S42)); (case aB => exact (by repeat (first | (with_reducible first | exact HB.out | apply below_alloc | apply pw_below_drewN | apply below_drew1) | exact HB.out))); (case aF => exact (fun _ _ => trivial)); (case aO => exact (by (with_reducible repeat (first | apply Kd.R_alloc | apply Kd.R_drewN | apply Kd.R_drew)); exact HO_3.out)); (case aS => exact (below_size (by repeat (first | (with_reducible first | exact HB.out | apply below_alloc | apply pw_below_drewN | apply below_drew1) | exact HB.out)))); (case aL => have := LMc4.out; omega); intro v256 w5 ho hb hg hat; (first | rw [← Ny255.out] at ho | (simp only [Int.reduceToNat] at ho; rw [← Ny255.out] at ho)); have n0_ := Aside0.mk (hb); have n1_ := Aside0.mk (ho); clear HB; clear HO_3; have HB := n0_; have HO257 := n1_; clear n0_ n1_; clear ho hb hg hat))
      go_roundg k1
      case measure => have := HK1.out; omega
      case rel => exact ⟨(y255), (wrap64 (x4_1 + 1)), (by first | rfl | (simp; done) | (simp [*]; done)), H', ⟨by have := HK1.out; omega⟩, ⟨by (with_reducible repeat (first | apply Kd.R_alloc | apply Kd.R_drewN | apply Kd.R_drew)); exact HO257.out⟩, ⟨by repeat (first | (with_reducible first | exact HB.out | apply below_alloc | apply pw_below_drewN | apply below_drew1) | exact HB.out)⟩⟩
     ·rw [if_neg c4] at H
      exact absurd H (by simp)
    ·rw [if_neg c3] at H
     exact absurd H (by simp)
   ·rw [if_neg c2] at H
    have c2b0 : decide (x4_1 < (l0.length : Int)) = false := decide_eq_false c2
    clear c2
    obtain rfl := Option.some.inj H
    go_wp2
    go_ret
    exact ⟨_, by first | rfl | (simp [errW_none, errW_some] <;> rfl) | (simp [*, errW_none, errW_some] <;> rfl), by (with_reducible repeat (first | apply Kd.R_alloc | apply Kd.R_drewN | apply Kd.R_drew)); exact HO_3.out, by repeat (first | (with_reducible first | exact HB.out | apply below_alloc | apply pw_below_drewN | apply below_drew1) | exact HB.out)⟩

end Go.Proofs.YtejhfghijgbckaaGreatDoor.P
