/- find.Same, by hand: slices.EqualFunc at rows of keys. -/
import Derived.Test.YtejhfghijgbckaaGreatDoorShort
import Derived.Test.YtejhfghijgbckaaGreatDoorFindC
import Derived.Test.YtejhfghijgbckaaGreatDoorPx13
namespace Go.Proofs.YtejhfghijgbckaaGreatDoor
open Go.RowKit Go.Proofs.YtejhfghijgbckaaGreatDoor.P Go.Proofs.YtejhfghijgbckaaGreatDoorW.PrintWords Go.Proofs.YtejhfghijgbckaaGreatDoorW.PrintLast Go.Proofs.YtejhfghijgbckaaGreatDoorW.PrintMore
set_option linter.unusedVariables false
set_option linter.unusedSimpArgs false
def eqL (p : Key → Key → Option Bool) : List Key → List Key → Option Bool
  | [], [] => some true
  | [], _ :: _ => some false
  | _ :: _, [] => some false
  | x :: r, y :: s => if r.length = s.length then (p x y).bind fun q => if q = true then eqL p r s else some false else some false
def sameF : Nat → Key → Key → Option Bool
  | 0, _, _ => none
  | k + 1, a, b =>
    if a.f0 = b.f0 then if a.f1 = b.f1 then if a.f2.toList = b.f2.toList then if a.f3.toList = b.f3.toList then
      (span_Same.f k a.f4 b.f4).bind fun t => if t = true then eqL (sameF k) a.f5 b.f5 else some false
    else some false else some false else some false else some false
theorem eqL_ne (p : Key → Key → Option Bool) : ∀ l m : List Key, l.length ≠ m.length → eqL p l m = some false
  | [], [], h => absurd rfl h
  | [], _ :: _, _ => rfl
  | _ :: _, [], _ => rfl
  | x :: r, y :: s, h => by
    unfold eqL
    rw [if_neg (by simpa using h)]
def Pred2C (w : World) (p : Key → Key → Option Bool) (g : Nat) (lb : Array Value) : Prop :=
  ∀ (W : World) (x y : Key) (q : Bool) (A4 : Option Addr) (c4 : Nat) (A5 : Option Addr) (c5 : Nat) (B4 : Option Addr) (e4 : Nat) (B5 : Option Addr) (e5 : Nat), Below w.heap.size w W → p x y = some q → x.f4.length ≤ c4 → Kd.C kRg W A4 x.f4.length x.f4 → x.f5.length ≤ c5 → Kd.C kKey W A5 x.f5.length x.f5 →
    y.f4.length ≤ e4 → Kd.C kRg W B4 y.f4.length y.f4 → y.f5.length ≤ e5 → Kd.C kKey W B5 y.f5.length y.f5 →
    Calls Tryz.prog g (#[.agg #[.int .i64 x.f0, .int .i64 x.f1, .string x.f2, .string x.f3, .slice A4 x.f4.length c4, .slice A5 x.f5.length c5], .agg #[.int .i64 y.f0, .int .i64 y.f1, .string y.f2, .string y.f3, .slice B4 y.f4.length e4, .slice B5 y.f5.length e5]] ++ lb) W fun e w' => e = .returned (.bool q) ∧ Below w.heap.size w w'
set_option maxHeartbeats 8000000 in
set_option maxRecDepth 100000 in
theorem EqualKey_calls (p : Key → Key → Option Bool) (g : Nat) (lb : Array Value) (eg : ∀ args w, (callFunc g args).run Tryz.prog w = .ok (.enter g args) w) (A : Option Addr) (c : Nat) (l : List Key) (B : Option Addr) (d : Nat) (m : List Key) (w : World) (b : Bool) (hC0 : Kd.C kKey w A l.length l) (hD0 : Kd.C kKey w B m.length m) (hp : Pred2C w p g lb) (hb0 : eqL p l m = some b) :
    Calls Tryz.prog 35 #[.slice A l.length c, .slice B m.length d, .func (.func g) #[] lb] w fun e w' => e = .returned (.bool b) ∧ Below w.heap.size w w' := by
  by_cases hlm : l.length = m.length
  case neg =>
    rw [eqL_ne p l m hlm] at hb0
    obtain rfl : false = b := by simpa using hb0
    have q0 : ((l.length : Int) == (m.length : Int)) = false := beq_eq_false_iff_ne.2 (by omega)
    have q1 : ((l.length : Int) != (m.length : Int)) = true := bne_iff_ne.2 (by omega)
    clear hC0 hD0 hp hb0 hlm
    go_enter Tryz.func35, Tryz.ntmps35
    go_wp2
    go_ret
    exact ⟨rfl, Below.refl _ _⟩
  have HC := am hC0
  have HD := am hD0
  have HP := am hp
  have HB0 := am hb0
  have HLM := am hlm
  have hbig : l.length ≤ 9223372036854775807 := hC0.2.1
  have q0 : ((l.length : Int) == (m.length : Int)) = true := beq_iff_eq.2 (by omega)
  have q1 : ((l.length : Int) != (m.length : Int)) = false := bne_eq_false_iff_eq.2 (by omega)
  clear hC0 hD0 hp hb0 hlm
  have hu := Tryz.underlying27
  go_enter Tryz.func35, Tryz.ntmps35
  go_wp2
  go_loopg [17] l.length (fun gg s8 wr => ∃ x8 : Int, s8 = .int .i64 x8 ∧ Aside0 (0 ≤ x8 ∧ x8 ≤ (l.length : Int) ∧ l.length - x8.toNat ≤ gg) ∧ Aside0 (Below w.heap.size w wr) ∧ Aside0 (eqL p (l.drop x8.toNat) (m.drop x8.toNat) = some b))
  case atStart => exact ⟨0, rfl, ⟨by omega, by omega, by simp⟩, ⟨Below.refl _ w⟩, HB0⟩
  case round =>
    obtain ⟨x8, rfl, HX8, BW, AA⟩ := hrel
    by_cases hlt : x8 < (l.length : Int)
    · have h0z : 0 ≤ x8 := HX8.out.1
      obtain ⟨ad, A4, c4, A5, c5, rfl, hx0, hx1, hx2, hx3, hx4, hx5, hl4, hg4, hl5, hg5⟩ := at_T27 (Kd.C_below HC.out BW.out) x8 h0z hlt
      have hltm : x8 < (m.length : Int) := by have := HLM.out; omega
      obtain ⟨ae, B4, e4, B5, e5, rfl, hy0, hy1, hy2, hy3, hy4, hy5, il4, ig4, il5, ig5⟩ := at_T27 (Kd.C_below HD.out BW.out) x8 h0z hltm
      have HLT := am (show x8.toNat < l.length by omega)
      have HY := am (show l.drop x8.toNat = rd_T27 l x8 :: l.drop (x8.toNat + 1) by rw [List.drop_eq_getElem_cons HLT.out]; unfold rd_T27; rw [List.getD_eq_getElem?_getD, List.getElem?_eq_getElem HLT.out]; rfl)
      have hltn : x8.toNat < m.length := by omega
      have HZ := am (show m.drop x8.toNat = rd_T27 m x8 :: m.drop (x8.toNat + 1) by rw [List.drop_eq_getElem_cons hltn]; unfold rd_T27; rw [List.getD_eq_getElem?_getD, List.getElem?_eq_getElem hltn]; rfl)
      generalize rd_T27 l x8 = x at hx0 hx1 hx2 hx3 hx4 hx5 hl4 hg4 hl5 hg5 HY
      generalize rd_T27 m x8 = y at hy0 hy1 hy2 hy3 hy4 hy5 il4 ig4 il5 ig5 HZ
      have h9 := AA.out
      rw [HY.out, HZ.out, eqL, if_pos (by rw [List.length_drop, List.length_drop, HLM.out])] at h9
      obtain ⟨q, hq, h9⟩ := Option.bind_eq_some_iff.1 h9
      have hA1 := below_alloc (Below.refl wr.heap.size wr) (.cells #[.int .i64 x.f0, .int .i64 x.f1, .string x.f2, .string x.f3, .slice A4 x.f4.length c4, .slice A5 x.f5.length c5] 27)
      have hA2 := below_alloc hA1 (.cells #[.int .i64 y.f0, .int .i64 y.f1, .string y.f2, .string y.f3, .slice B4 y.f4.length e4, .slice B5 y.f5.length e5] 27)
      have hcall := HP.out _ x y q A4 c4 A5 c5 B4 e4 B5 e5 (below_step BW.out hA2) hq hl4 (Kd.C_below hg4 hA2) hl5 (Kd.C_below hg5 hA2) il4 (Kd.C_below ig4 hA2) il5 (Kd.C_below ig5 hA2)
      have hz0 := (hA1.cell (World.block_lt_of_cell? wr _ hy0)).trans hy0
      have hz1 := (hA1.cell (World.block_lt_of_cell? wr _ hy1)).trans hy1
      have hz2 := (hA1.cell (World.block_lt_of_cell? wr _ hy2)).trans hy2
      have hz3 := (hA1.cell (World.block_lt_of_cell? wr _ hy3)).trans hy3
      have hz4 := (hA1.cell (World.block_lt_of_cell? wr _ hy4)).trans hy4
      have hz5 := (hA1.cell (World.block_lt_of_cell? wr _ hy5)).trans hy5
      clear HP hq hl4 hg4 hl5 hg5 il4 ig4 il5 ig5 hA1 hA2 hltn
      replace h0z := eq_true h0z
      replace hlt := eq_true hlt
      replace hltm := eq_true hltm
      cases q with
      | false =>
        obtain rfl : false = b := by simpa using h9
        clear h9
        go_wp2_with (go_at_fn g; refine hcall.mono ?_; rintro e w' ⟨rfl, hb'⟩)
        go_ret
        exact ⟨rfl, hb'⟩
      | true =>
        have H9 := am (show eqL p (l.drop (x8.toNat + 1)) (m.drop (x8.toNat + 1)) = some b by simpa using h9)
        clear h9
        go_wp2_with (go_at_fn g; refine hcall.mono ?_; rintro e w' ⟨rfl, hb'⟩)
        go_roundg (l.length - (x8.toNat + 1))
        case measure => have := HLT.out; have := HX8.out.2.2; omega
        case rel =>
          have hw : wrap64 (x8 + 1) = x8 + 1 := by have := HX8.out; have := HLT.out; unfold wrap64; omega
          have h8 := HX8.out
          have h9 := HLT.out
          refine ⟨x8 + 1, by first | rfl | (rw [hw]) | (simp [hw]), ⟨by omega, by omega, by omega⟩, ⟨hb'⟩, ⟨?_⟩⟩
          rw [show (x8 + 1).toNat = x8.toNat + 1 by omega]
          exact H9.out
    · have HK := am (show x8.toNat = l.length by have := HX8.out; omega)
      clear HP
      replace hlt := eq_false hlt
      go_wp2
      go_ret
      refine ⟨?_, BW.out⟩
      have h9 := AA.out
      rw [HK.out, List.drop_length, HLM.out, List.drop_length, eqL] at h9
      obtain rfl : true = b := Option.some.inj h9
      rfl
def find_Same.f (k : Nat) (a0 a1 : Int) (a2 a3 : ByteArray) (a4 : List Rg) (a5 : List Key) (b0 b1 : Int) (b2 b3 : ByteArray) (b4 : List Rg) (b5 : List Key) : Option Bool := sameF k ⟨a0, a1, a2, a3, a4, a5⟩ ⟨b0, b1, b2, b3, b4, b5⟩
def SameC (p : Key → Key → Option Bool) : Prop :=
  ∀ (W : World) (x y : Key) (q : Bool) (A4 : Option Addr) (c4 : Nat) (A5 : Option Addr) (c5 : Nat) (B4 : Option Addr) (e4 : Nat) (B5 : Option Addr) (e5 : Nat), p x y = some q → x.f4.length ≤ c4 → Kd.C kRg W A4 x.f4.length x.f4 → x.f5.length ≤ c5 → Kd.C kKey W A5 x.f5.length x.f5 →
    y.f4.length ≤ e4 → Kd.C kRg W B4 y.f4.length y.f4 → y.f5.length ≤ e5 → Kd.C kKey W B5 y.f5.length y.f5 →
    Calls Tryz.prog 21 #[.agg #[.int .i64 x.f0, .int .i64 x.f1, .string x.f2, .string x.f3, .slice A4 x.f4.length c4, .slice A5 x.f5.length c5], .agg #[.int .i64 y.f0, .int .i64 y.f1, .string y.f2, .string y.f3, .slice B4 y.f4.length e4, .slice B5 y.f5.length e5]] W fun e w' => e = .returned (.bool q) ∧ Below W.heap.size W w'
theorem SameC.pred {p : Key → Key → Option Bool} (h : SameC p) (w : World) : Pred2C w p 21 #[] := fun W x y q A4 c4 A5 c5 B4 e4 B5 e5 hb hq l4 g4 l5 g5 i4 j4 i5 j5 =>
  (h W x y q A4 c4 A5 c5 B4 e4 B5 e5 hq l4 g4 l5 g5 i4 j4 i5 j5).mono fun _ _ ⟨h1, h2⟩ => ⟨h1, below_step hb h2⟩
section
variable {a0 a1 b0 b1 : Int} {a2 a3 b2 b3 : ByteArray} {a4 b4 : List Rg} {a5 b5 : List Key} {A4 A5 B4 B5 : Option Addr} {c4 c5 e4 e5 : Nat} {W : World}
set_option maxHeartbeats 8000000 in
set_option maxRecDepth 100000 in
theorem same_n0 (h0 : ¬ a0 = b0) :
    Calls Tryz.prog 21 #[.agg #[.int .i64 a0, .int .i64 a1, .string a2, .string a3, .slice A4 a4.length c4, .slice A5 a5.length c5], .agg #[.int .i64 b0, .int .i64 b1, .string b2, .string b3, .slice B4 b4.length e4, .slice B5 b5.length e5]] W fun e w' => e = .returned (.bool false) ∧ Below W.heap.size W w' := by
  have d0 : (a0 == b0) = false := beq_eq_false_iff_ne.2 h0
  clear h0
  have HB := am (show Below W.heap.size W ((W.alloc (.cells #[.int .i64 a0, .int .i64 a1, .string a2, .string a3, .slice A4 a4.length c4, .slice A5 a5.length c5] 27)).alloc (.cells #[.int .i64 b0, .int .i64 b1, .string b2, .string b3, .slice B4 b4.length e4, .slice B5 b5.length e5] 27)) from by repeat (first | exact Below.refl _ _ | apply below_alloc))
  go_enter Tryz.func21, Tryz.ntmps21
  go_wp2
  go_ret
  exact ⟨rfl, HB.out⟩
set_option maxHeartbeats 8000000 in
set_option maxRecDepth 100000 in
theorem same_n1 (h0 : a0 = b0) (h1 : ¬ a1 = b1) :
    Calls Tryz.prog 21 #[.agg #[.int .i64 a0, .int .i64 a1, .string a2, .string a3, .slice A4 a4.length c4, .slice A5 a5.length c5], .agg #[.int .i64 b0, .int .i64 b1, .string b2, .string b3, .slice B4 b4.length e4, .slice B5 b5.length e5]] W fun e w' => e = .returned (.bool false) ∧ Below W.heap.size W w' := by
  have d0 : (a0 == b0) = true := beq_iff_eq.2 h0
  have d1 : (a1 == b1) = false := beq_eq_false_iff_ne.2 h1
  clear h0 h1
  have HB := am (show Below W.heap.size W ((W.alloc (.cells #[.int .i64 a0, .int .i64 a1, .string a2, .string a3, .slice A4 a4.length c4, .slice A5 a5.length c5] 27)).alloc (.cells #[.int .i64 b0, .int .i64 b1, .string b2, .string b3, .slice B4 b4.length e4, .slice B5 b5.length e5] 27)) from by repeat (first | exact Below.refl _ _ | apply below_alloc))
  go_enter Tryz.func21, Tryz.ntmps21
  go_wp2
  go_ret
  exact ⟨rfl, HB.out⟩
set_option maxHeartbeats 8000000 in
set_option maxRecDepth 100000 in
theorem same_n2 (h0 : a0 = b0) (h1 : a1 = b1) (h2 : ¬ a2.toList = b2.toList) :
    Calls Tryz.prog 21 #[.agg #[.int .i64 a0, .int .i64 a1, .string a2, .string a3, .slice A4 a4.length c4, .slice A5 a5.length c5], .agg #[.int .i64 b0, .int .i64 b1, .string b2, .string b3, .slice B4 b4.length e4, .slice B5 b5.length e5]] W fun e w' => e = .returned (.bool false) ∧ Below W.heap.size W w' := by
  have d0 : (a0 == b0) = true := beq_iff_eq.2 h0
  have d1 : (a1 == b1) = true := beq_iff_eq.2 h1
  have d2 : (a2.toList == b2.toList) = false := beq_eq_false_iff_ne.2 h2
  clear h0 h1 h2
  have HB := am (show Below W.heap.size W ((W.alloc (.cells #[.int .i64 a0, .int .i64 a1, .string a2, .string a3, .slice A4 a4.length c4, .slice A5 a5.length c5] 27)).alloc (.cells #[.int .i64 b0, .int .i64 b1, .string b2, .string b3, .slice B4 b4.length e4, .slice B5 b5.length e5] 27)) from by repeat (first | exact Below.refl _ _ | apply below_alloc))
  go_enter Tryz.func21, Tryz.ntmps21
  go_wp2
  go_ret
  exact ⟨rfl, HB.out⟩
set_option maxHeartbeats 8000000 in
set_option maxRecDepth 100000 in
theorem same_n3 (h0 : a0 = b0) (h1 : a1 = b1) (h2 : a2.toList = b2.toList) (h3 : ¬ a3.toList = b3.toList) :
    Calls Tryz.prog 21 #[.agg #[.int .i64 a0, .int .i64 a1, .string a2, .string a3, .slice A4 a4.length c4, .slice A5 a5.length c5], .agg #[.int .i64 b0, .int .i64 b1, .string b2, .string b3, .slice B4 b4.length e4, .slice B5 b5.length e5]] W fun e w' => e = .returned (.bool false) ∧ Below W.heap.size W w' := by
  have d0 : (a0 == b0) = true := beq_iff_eq.2 h0
  have d1 : (a1 == b1) = true := beq_iff_eq.2 h1
  have d2 : (a2.toList == b2.toList) = true := beq_iff_eq.2 h2
  have d3 : (a3.toList == b3.toList) = false := beq_eq_false_iff_ne.2 h3
  clear h0 h1 h2 h3
  have HB := am (show Below W.heap.size W ((W.alloc (.cells #[.int .i64 a0, .int .i64 a1, .string a2, .string a3, .slice A4 a4.length c4, .slice A5 a5.length c5] 27)).alloc (.cells #[.int .i64 b0, .int .i64 b1, .string b2, .string b3, .slice B4 b4.length e4, .slice B5 b5.length e5] 27)) from by repeat (first | exact Below.refl _ _ | apply below_alloc))
  go_enter Tryz.func21, Tryz.ntmps21
  go_wp2
  go_ret
  exact ⟨rfl, HB.out⟩
set_option maxHeartbeats 8000000 in
set_option maxRecDepth 100000 in
theorem same_n4 {k : Nat} (h0 : a0 = b0) (h1 : a1 = b1) (h2 : a2.toList = b2.toList) (h3 : a3.toList = b3.toList) (ht : span_Same.f k a4 b4 = some false) (l4 : a4.length ≤ c4) (g4 : Kd.C kRg W A4 a4.length a4) (i4 : b4.length ≤ e4) (j4 : Kd.C kRg W B4 b4.length b4) :
    Calls Tryz.prog 21 #[.agg #[.int .i64 a0, .int .i64 a1, .string a2, .string a3, .slice A4 a4.length c4, .slice A5 a5.length c5], .agg #[.int .i64 b0, .int .i64 b1, .string b2, .string b3, .slice B4 b4.length e4, .slice B5 b5.length e5]] W fun e w' => e = .returned (.bool false) ∧ Below W.heap.size W w' := by
  have d0 : (a0 == b0) = true := beq_iff_eq.2 h0
  have d1 : (a1 == b1) = true := beq_iff_eq.2 h1
  have d2 : (a2.toList == b2.toList) = true := beq_iff_eq.2 h2
  have d3 : (a3.toList == b3.toList) = true := beq_iff_eq.2 h3
  clear h0 h1 h2 h3
  have HT := am ht
  clear ht
  have HB := am (show Below W.heap.size W ((W.alloc (.cells #[.int .i64 a0, .int .i64 a1, .string a2, .string a3, .slice A4 a4.length c4, .slice A5 a5.length c5] 27)).alloc (.cells #[.int .i64 b0, .int .i64 b1, .string b2, .string b3, .slice B4 b4.length e4, .slice B5 b5.length e5] 27)) from by repeat (first | exact Below.refl _ _ | apply below_alloc))
  have HG4 := am (And.intro (Kd.C_below g4 HB.out) (Kd.C_below j4 HB.out))
  have HL4 := am (And.intro l4 i4)
  clear g4 j4 l4 i4
  go_enter Tryz.func21, Tryz.ntmps21
  go_wp2_with (go_at_call 34; (with_reducible refine (span_Same.calls k _ _ _ _ _ _ _ _ HG4.out.1 HL4.out.1 HG4.out.2 HL4.out.2 HT.out).mono ?_); rintro e w2 ⟨rfl, hd⟩; have HB2 := am (below_step HB.out hd.below); clear hd)
  go_ret
  exact ⟨rfl, HB2.out⟩
set_option maxHeartbeats 8000000 in
set_option maxRecDepth 100000 in
theorem same_y {k : Nat} {q : Bool} {p : Key → Key → Option Bool} (h0 : a0 = b0) (h1 : a1 = b1) (h2 : a2.toList = b2.toList) (h3 : a3.toList = b3.toList) (ht : span_Same.f k a4 b4 = some true) (hM : SameC p) (hq : eqL p a5 b5 = some q) (l4 : a4.length ≤ c4) (g4 : Kd.C kRg W A4 a4.length a4) (i4 : b4.length ≤ e4) (j4 : Kd.C kRg W B4 b4.length b4) (g5 : Kd.C kKey W A5 a5.length a5) (j5 : Kd.C kKey W B5 b5.length b5) :
    Calls Tryz.prog 21 #[.agg #[.int .i64 a0, .int .i64 a1, .string a2, .string a3, .slice A4 a4.length c4, .slice A5 a5.length c5], .agg #[.int .i64 b0, .int .i64 b1, .string b2, .string b3, .slice B4 b4.length e4, .slice B5 b5.length e5]] W fun e w' => e = .returned (.bool q) ∧ Below W.heap.size W w' := by
  have d0 : (a0 == b0) = true := beq_iff_eq.2 h0
  have d1 : (a1 == b1) = true := beq_iff_eq.2 h1
  have d2 : (a2.toList == b2.toList) = true := beq_iff_eq.2 h2
  have d3 : (a3.toList == b3.toList) = true := beq_iff_eq.2 h3
  clear h0 h1 h2 h3
  have HT := am ht
  have HM := am hM
  have HQ := am hq
  clear ht hM hq
  have HB := am (show Below W.heap.size W ((W.alloc (.cells #[.int .i64 a0, .int .i64 a1, .string a2, .string a3, .slice A4 a4.length c4, .slice A5 a5.length c5] 27)).alloc (.cells #[.int .i64 b0, .int .i64 b1, .string b2, .string b3, .slice B4 b4.length e4, .slice B5 b5.length e5] 27)) from by repeat (first | exact Below.refl _ _ | apply below_alloc))
  have HG4 := am (And.intro (Kd.C_below g4 HB.out) (Kd.C_below j4 HB.out))
  have HL4 := am (And.intro l4 i4)
  have HG5 := am (And.intro (Kd.C_below g5 HB.out) (Kd.C_below j5 HB.out))
  have eg : ∀ args w, (callFunc 21 args).run Tryz.prog w = .ok (.enter 21 args) w := fun args w => enters_ Tryz.func21 (by kernel_rfl) (by kernel_rfl) args w
  clear g5 j5
  clear g4 j4 l4 i4
  go_enter Tryz.func21, Tryz.ntmps21
  go_wp2_with (first | (go_at_call 34; (with_reducible refine (span_Same.calls k _ _ _ _ _ _ _ _ HG4.out.1 HL4.out.1 HG4.out.2 HL4.out.2 HT.out).mono ?_); rintro e w2 ⟨rfl, hd⟩; have HB2 := am (below_step HB.out hd.below); have HC5 := am (And.intro (Kd.C_below HG5.out.1 hd.below) (Kd.C_below HG5.out.2 hd.below)); have hbk := hd.below; have hk5 := (hbk.cell (p := ⟨W.heap.size, 5, none⟩) (by show W.heap.size < _; simp only [alloc_size_]; omega)); have hk6 := (hbk.cell (p := ⟨W.heap.size + 1, 5, none⟩) (by show W.heap.size + 1 < _; simp only [alloc_size_]; omega)); clear hbk; clear hd) | (go_at_call 35; refine (EqualKey_calls p _ _ eg _ _ _ _ _ _ _ q HC5.out.1 HC5.out.2 (SameC.pred HM.out _) HQ.out).mono ?_; rintro e w3 ⟨rfl, hb3⟩))
  go_ret
  exact ⟨rfl, below_step HB2.out hb3⟩
end
theorem sameF_calls : ∀ k, SameC (sameF k)
  | 0 => fun _ _ _ _ _ _ _ _ _ _ _ _ h => by simp [sameF] at h
  | k + 1 => by
    have ih := sameF_calls k
    intro W ⟨a0, a1, a2, a3, a4, a5⟩ ⟨b0, b1, b2, b3, b4, b5⟩ q A4 c4 A5 c5 B4 e4 B5 e5 h l4 g4 l5 g5 i4 j4 i5 j5
    unfold sameF at h
    dsimp only at h l4 g4 l5 g5 i4 j4 i5 j5 ⊢
    by_cases h0 : a0 = b0
    case neg => rw [if_neg h0] at h; obtain rfl := Option.some.inj h; exact same_n0 h0
    rw [if_pos h0] at h
    by_cases h1 : a1 = b1
    case neg => rw [if_neg h1] at h; obtain rfl := Option.some.inj h; exact same_n1 h0 h1
    rw [if_pos h1] at h
    by_cases h2 : a2.toList = b2.toList
    case neg => rw [if_neg h2] at h; obtain rfl := Option.some.inj h; exact same_n2 h0 h1 h2
    rw [if_pos h2] at h
    by_cases h3 : a3.toList = b3.toList
    case neg => rw [if_neg h3] at h; obtain rfl := Option.some.inj h; exact same_n3 h0 h1 h2 h3
    rw [if_pos h3] at h
    obtain ⟨t, ht, h⟩ := Option.bind_eq_some_iff.1 h
    cases t with
    | false => obtain rfl : false = q := by simpa using h
               exact same_n4 h0 h1 h2 h3 ht l4 g4 i4 j4
    | true => exact same_y h0 h1 h2 h3 ht ih (by simpa using h) l4 g4 i4 j4 g5 j5
theorem find_Same.calls (k : Nat) (a0 a1 : Int) (a2 a3 : ByteArray) (A4 : Option Addr) (c4 : Nat) (a4 : List Rg) (A5 : Option Addr) (c5 : Nat) (a5 : List Key) (b0 b1 : Int) (b2 b3 : ByteArray) (B4 : Option Addr) (e4 : Nat) (b4 : List Rg) (B5 : Option Addr) (e5 : Nat) (b5 : List Key) (r : Bool) (w : World)
    (g4 : Kd.C kRg w A4 a4.length a4) (l4 : a4.length ≤ c4) (g5 : Kd.C kKey w A5 a5.length a5) (l5 : a5.length ≤ c5) (j4 : Kd.C kRg w B4 b4.length b4) (i4 : b4.length ≤ e4) (j5 : Kd.C kKey w B5 b5.length b5) (i5 : b5.length ≤ e5) (h : find_Same.f k a0 a1 a2 a3 a4 a5 b0 b1 b2 b3 b4 b5 = some r) :
    Calls Tryz.prog 21 #[.agg #[.int .i64 a0, .int .i64 a1, .string a2, .string a3, .slice A4 a4.length c4, .slice A5 a5.length c5], .agg #[.int .i64 b0, .int .i64 b1, .string b2, .string b3, .slice B4 b4.length e4, .slice B5 b5.length e5]] w fun e w' => e = .returned (.bool r) ∧ Below w.heap.size w w' :=
  sameF_calls k w ⟨a0, a1, a2, a3, a4, a5⟩ ⟨b0, b1, b2, b3, b4, b5⟩ r A4 c4 A5 c5 B4 e4 B5 e5 h l4 g4 l5 g5 i4 j4 i5 j5
end Go.Proofs.YtejhfghijgbckaaGreatDoor
