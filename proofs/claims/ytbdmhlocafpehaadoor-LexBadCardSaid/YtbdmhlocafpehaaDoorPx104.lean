/- LexBad walked by hand: told as true at once, since what it asks for is known ahead. -/
import Derived.Test.YtbdmhlocafpehaaDoorLexBad
import Derived.Test.YtbdmhlocafpehaaDoorGRow
import Derived.Deep.RegionHeld
namespace Go.Proofs.YtbdmhlocafpehaaDoor
open Go.RowKit Go.Proofs.YtbdmhlocafpehaaDoorW.PrintWords Go.Proofs.YtbdmhlocafpehaaDoorW.PrintLast Go.Proofs.YtbdmhlocafpehaaDoorW.PrintMore
set_option linter.unusedVariables false
set_option linter.unusedSimpArgs false
section
variable {ops : Array Oper} {rest : List Oper} {o : Oper} {a : Act} {Q : Exit → Act → World → Prop}
theorem convG_ {w : World} (N : Option Tmp) (hd : o.dst = N) (hg : o.guard = none) {x : Operand} {s : ByteArray} (hop : o.op = .convert 9 23 x) (hx : a.eval x = .string s) (hs : s.size ≤ 9223372036854775807)
    (h : ∀ v w', GRow w' w.heap.size v (bytesOf s) → Below w.heap.size w w' → wpList Tryd.prog ops Q rest (a.put N v) w') : wpList Tryd.prog ops Q (o :: rest) a w :=
  convS1_ N hd hg hop hx (h _ _ (G_conv w s hs) (bw_below w _ s))
end
theorem G_alloc {w : World} {base : Nat} {v : Value} {xs : List Int} (h : GRow w base v xs) (o : Obj) : GRow (w.alloc o) base v xs := G_below h (below_alloc (Below.refl _ _) o)
/-- A row of bytes, just laid. -/
theorem byteRow {w1 : World} {t : TypeId} (l : List Int) (hl : l.length ≤ 9223372036854775807) : Kd.C (Kd.int .u8) (w1.alloc (Obj.cells (l.map (Value.int .u8)).toArray t)) (some ⟨w1.heap.size, 0, none⟩) l.length l := by
  have hb : (w1.alloc (Obj.cells (l.map (Value.int .u8)).toArray t)).heap[w1.heap.size]? = some (.cells (l.map (Value.int .u8)).toArray t (0, 0)) := by show (w1.heap.push _)[w1.heap.size]? = _; rw [Array.getElem?_push_size]
  refine ⟨rfl, hl, fun _ => ⟨_, rfl, fun j p hj => ⟨[.int .u8 p], rfl, rfl, fun i u hi => ?_⟩⟩⟩
  cases i with
  | succ i => exact absurd hi (by simp)
  | zero =>
    obtain rfl := Option.some.inj hi
    have hsz : (Kd.int .u8).sz = 1 := rfl
    rw [hsz, Nat.mul_one, Nat.add_zero, add_plain, blk_cell hb]
    simp [hj]
/-- A row of a row and of nil, just laid. -/
theorem rowTwo {w1 : World} {A : Option Addr} {c : Nat} {xs : List Int} {t : TypeId} (hC : Kd.C (Kd.int .u8) w1 A xs.length xs) (hc : xs.length ≤ c) : Kd.C (Kd.slice 5 (Kd.int .u8)) (w1.alloc (Obj.cells #[.slice A xs.length c, .slice none 0 0] t)) (some ⟨w1.heap.size, 0, none⟩) 2 [xs, []] := by
  have hb : (w1.alloc (Obj.cells #[.slice A xs.length c, .slice none 0 0] t)).heap[w1.heap.size]? = some (.cells #[.slice A xs.length c, .slice none 0 0] t (0, 0)) := by show (w1.heap.push _)[w1.heap.size]? = _; rw [Array.getElem?_push_size]
  refine ⟨rfl, by simp, fun _ => ⟨_, rfl, fun j p hj => ?_⟩⟩
  match j, hj with
  | 0, hj =>
    obtain rfl := Option.some.inj hj
    refine ⟨[.slice A xs.length c], rfl, ⟨A, c, rfl, hc, Kd.C_alloc hC _⟩, fun i u hi => ?_⟩
    cases i with
    | succ i => exact absurd hi (by simp)
    | zero =>
      obtain rfl := Option.some.inj hi
      show (w1.alloc _).cell? ⟨w1.heap.size, 0, none⟩ = _
      rw [blk_cell hb]; rfl
  | 1, hj =>
    obtain rfl := Option.some.inj hj
    refine ⟨[.slice none 0 0], rfl, ⟨none, 0, rfl, Nat.le_refl _, Kd.C_nil _ _⟩, fun i u hi => ?_⟩
    cases i with
    | succ i => exact absurd hi (by simp)
    | zero =>
      obtain rfl := Option.some.inj hi
      show (w1.alloc _).cell? ⟨w1.heap.size, 1, none⟩ = _
      rw [blk_cell hb]; rfl
  | j + 2, hj => exact absurd hj (by simp)
theorem lit3 {w14 : World} {b : Nat} (h : Kd.C (Kd.int .u8) w14 (some ⟨b, 0, none⟩) 3 [123, 49, 125]) (c : Int) :
    Kd.C (Kd.slice 5 (Kd.int .u8)) (((w14.alloc (Obj.cells #[.slice (some ⟨b, 0, none⟩) 3 3, .slice none 0 0] 23)).alloc (Obj.cells #[.int .u8 c] 5)).alloc (Obj.cells #[.slice (some ⟨w14.heap.size + 1, 0, none⟩) 1 1] 23)) (some ⟨w14.heap.size, 0, none⟩) 2 [[123, 49, 125], []] ∧
    Kd.C (Kd.slice 5 (Kd.int .u8)) (((w14.alloc (Obj.cells #[.slice (some ⟨b, 0, none⟩) 3 3, .slice none 0 0] 23)).alloc (Obj.cells #[.int .u8 c] 5)).alloc (Obj.cells #[.slice (some ⟨w14.heap.size + 1, 0, none⟩) 1 1] 23)) (some ⟨w14.heap.size + 1 + 1, 0, none⟩) 1 [[c]] := by
  have hs : ∀ (w : World) (o : Obj), (w.alloc o).heap.size = w.heap.size + 1 := fun w o => by show (w.heap.push _).size = _; rw [Array.size_push]
  have h1 := rowTwo (w1 := w14) (c := 3) (t := 23) h (Nat.le_refl _)
  refine ⟨Kd.C_alloc (Kd.C_alloc h1 _) _, ?_⟩
  have h2 := byteRow (w1 := w14.alloc (Obj.cells #[.slice (some ⟨b, 0, none⟩) 3 3, .slice none 0 0] 23)) (t := 5) [c] (by simp)
  have h3 := rowOne (t := 23) (c := 1) trivial h2 (Nat.le_refl _)
  simp only [hs] at h3
  exact h3
namespace P
def letterboxlaw17_LexBad.f (k : Nat) (c : Int) (s : ByteArray) : Option Bool := if 0 ≤ c ∧ c < 256 ∧ s.size ≤ 140737488351232 ∧ 200 ≤ k then some true else none
set_option maxHeartbeats 8000000 in
set_option maxRecDepth 100000 in
theorem letterboxlaw17_LexBad.calls (k : Nat) (a0 : Int) (a1 : ByteArray) (w : World) (h : letterboxlaw17_LexBad.f k a0 a1 = some true) :
    Calls Tryd.prog 4 #[.int .u8 a0, .string a1] w fun e w' => e = .returned (.bool true) ∧ Below w.heap.size w w' := by
  have hh : 0 ≤ a0 ∧ a0 < 256 ∧ a1.size ≤ 140737488351232 ∧ 200 ≤ k := by
    unfold letterboxlaw17_LexBad.f at h
    split at h
    · assumption
    · cases h
  clear h
  obtain ⟨hc0, hc1, hs, hk⟩ := hh
  have HB := Aside0.mk (Below.refl w.heap.size w)
  have HF := Aside0.mk (And.intro hc0 (And.intro hc1 (And.intro hs hk)))
  clear hc0 hc1 hs hk
  go_enter Tryd.func4, Tryd.ntmps4
  go_upto_region 1 with (fail)
  go_cut [22] (fun v22 wc => ∃ x : Bool, v22 = .bool x ∧ Aside0 (x = false → ¬ (32 ≤ a0 ∧ a0 ≤ 126) ∧ a1.size ≤ 60) ∧ Aside0 (Below w.heap.size w wc))
  case first =>
    by_cases c1 : a0 ≥ 32
    · have c1b0 : decide (32 ≤ a0) = true := decide_eq_true c1
      by_cases c2 : a0 ≤ 126
      · have c2b0 : decide (a0 ≤ 126) = true := decide_eq_true c2
        clear c1 c2
        go_wp2
        go_meet
        case rel => exact ⟨true, rfl, ⟨fun h => by cases h⟩, ⟨by repeat (first | (with_reducible first | exact HB.out | apply below_alloc | apply pw_below_drewN | apply below_drew1) | exact HB.out)⟩⟩
      · have c2b0 : decide (a0 ≤ 126) = false := decide_eq_false c2
        by_cases c3 : (a1.size : Int) > 60
        · have c3b0 : decide (60 < (a1.size : Int)) = true := decide_eq_true c3
          clear c1 c2 c3
          go_wp2
          go_meet
          case rel => exact ⟨true, rfl, ⟨fun h => by cases h⟩, ⟨by repeat (first | (with_reducible first | exact HB.out | apply below_alloc | apply pw_below_drewN | apply below_drew1) | exact HB.out)⟩⟩
        · have c3b0 : decide (60 < (a1.size : Int)) = false := decide_eq_false c3
          have HX : Aside0 (¬ (32 ≤ a0 ∧ a0 ≤ 126) ∧ a1.size ≤ 60) := ⟨⟨fun h => c2 h.2, by omega⟩⟩
          clear c1 c2 c3
          go_wp2
          go_meet
          case rel => exact ⟨false, rfl, ⟨fun _ => HX.out⟩, ⟨by repeat (first | (with_reducible first | exact HB.out | apply below_alloc | apply pw_below_drewN | apply below_drew1) | exact HB.out)⟩⟩
    · have c1b0 : decide (32 ≤ a0) = false := decide_eq_false c1
      by_cases c3 : (a1.size : Int) > 60
      · have c3b0 : decide (60 < (a1.size : Int)) = true := decide_eq_true c3
        clear c1 c3
        go_wp2
        go_meet
        case rel => exact ⟨true, rfl, ⟨fun h => by cases h⟩, ⟨by repeat (first | (with_reducible first | exact HB.out | apply below_alloc | apply pw_below_drewN | apply below_drew1) | exact HB.out)⟩⟩
      · have c3b0 : decide (60 < (a1.size : Int)) = false := decide_eq_false c3
        have HX : Aside0 (¬ (32 ≤ a0 ∧ a0 ≤ 126) ∧ a1.size ≤ 60) := ⟨⟨fun h => c1 h.1, by omega⟩⟩
        clear c1 c3
        go_wp2
        go_meet
        case rel => exact ⟨false, rfl, ⟨fun _ => HX.out⟩, ⟨by repeat (first | (with_reducible first | exact HB.out | apply below_alloc | apply pw_below_drewN | apply below_drew1) | exact HB.out)⟩⟩
  case rest =>
    clear HB
    obtain ⟨x, rfl, HX0, HB⟩ := hcut
    cases x with
    | true =>
      go_wp2
      go_ret
      exact ⟨rfl, HB.out⟩
    | false =>
      have HX := Aside0.mk (HX0.out rfl)
      clear HX0
      go_wp2
      go_loopg [5] (a1.size + 1) (fun g v5 w' => ∃ z : Int, v5 = .int .i64 z ∧ Aside0 (0 ≤ z ∧ z ≤ (a1.size : Int) ∧ a1.size - z.toNat < g) ∧ Aside0 (∀ (j : Nat), j < z.toNat → ∀ (b : UInt8), a1.data.toList[j]? = some b → LexB.Letter (b.toNat : Int) ∨ (b.toNat : Int) = 32) ∧ Aside0 (Below w.heap.size w w'))
      case atStart => exact ⟨0, rfl, ⟨by omega, by omega, by omega⟩, ⟨fun j hj => absurd hj (by omega)⟩, ⟨by repeat (first | (with_reducible first | exact HB.out | apply below_alloc | apply pw_below_drewN | apply below_drew1) | exact HB.out)⟩⟩
      case round =>
        clear HB
        obtain ⟨z, rfl, HG, HL, HB⟩ := hrel
        cases gk with
        | zero => exact absurd HG.out (by omega)
        | succ g =>
          have hsz := HX.out.2
          have hse := Lib.size_eq a1
          obtain ⟨hz0, hz1, hz2⟩ := HG.out
          by_cases hlt : z < (a1.size : Int)
          · have d0 : decide (z < (a1.size : Int)) = true := decide_eq_true hlt
            have hl2 : z.toNat < a1.data.toList.length := by omega
            obtain ⟨y, hx⟩ : ∃ y, a1.data.toList[z.toNat]? = some y := ⟨_, List.getElem?_eq_getElem hl2⟩
            have hbt : bt a1 z = (y.toNat : Int) := by
              have := LexB.bt_nat a1 z.toNat y hx
              rwa [Int.toNat_of_nonneg hz0] at this
            have p14 : 0 ≤ z := hz0
            have q14 : z < (a1.size : Int) := hlt
            have hx14 := bt_at a1 z
            replace p14 := eq_true p14
            replace q14 := eq_true q14
            have HLT := Aside0.mk hlt
            have HXY := Aside0.mk hx
            have HBT := Aside0.mk hbt
            clear hlt hl2 hx hse hsz hz0 hz1 hz2 hbt
            have go_on : ∀ b : Bool, (LexB.Letter (y.toNat : Int) ∨ (y.toNat : Int) = 32) → Aside0 (∀ (j : Nat), j < z.toNat + 1 → ∀ (b : UInt8), a1.data.toList[j]? = some b → LexB.Letter (b.toNat : Int) ∨ (b.toNat : Int) = 32) := fun _ hy => ⟨fun j hj b hjb => by
              by_cases e : j = z.toNat
              · subst e
                rw [HXY.out] at hjb
                rw [← Option.some.inj hjb]
                exact hy
              · exact HL.out j (by omega) b hjb⟩
            have hw : wrap64 (z + 1) = z + 1 := by have := HX.out.2; have := HLT.out; have := HG.out.1; unfold wrap64; omega
            have hzn : (wrap64 (z + 1)).toNat = z.toNat + 1 := by have := HG.out.1; rw [hw]; omega
            have HZ := Aside0.mk hzn
            have HW := Aside0.mk hw
            clear hw hzn
            by_cases d1 : (bt a1 z) < 97
            · have d1b : decide ((bt a1 z) < 97) = true := decide_eq_true d1
              by_cases d3 : (bt a1 z) = 32
              · have d3b0 : ((bt a1 z) == 32) = true := beq_iff_eq.mpr d3
                have d3b1 : ((bt a1 z) != 32) = false := bne_eq_false_iff_eq.mpr d3
                have HL2 := go_on true (.inr (by rw [← HBT.out]; exact d3))
                clear d1 d3 go_on
                go_wp2
                go_roundg g
                case measure => omega
                case rel => exact ⟨wrap64 (z + 1), rfl, ⟨by have := HG.out; have := HLT.out; rw [HW.out]; omega⟩, ⟨by rw [HZ.out]; exact HL2.out⟩, ⟨by repeat (first | (with_reducible first | exact HB.out | apply below_alloc | apply pw_below_drewN | apply below_drew1) | exact HB.out)⟩⟩
              · have d3b0 : ((bt a1 z) == 32) = false := beq_eq_false_iff_ne.mpr d3
                have d3b1 : ((bt a1 z) != 32) = true := bne_iff_ne.mpr d3
                clear d1 d3 go_on
                go_wp2
                go_ret
                exact ⟨rfl, by repeat (first | (with_reducible first | exact HB.out | apply below_alloc | apply pw_below_drewN | apply below_drew1) | exact HB.out)⟩
            · have d1b : decide ((bt a1 z) < 97) = false := decide_eq_false d1
              by_cases d2 : (bt a1 z) > 122
              · have d2b : decide (122 < (bt a1 z)) = true := decide_eq_true d2
                have d3 : (bt a1 z) ≠ 32 := by omega
                have d3b0 : ((bt a1 z) == 32) = false := beq_eq_false_iff_ne.mpr d3
                have d3b1 : ((bt a1 z) != 32) = true := bne_iff_ne.mpr d3
                clear d1 d2 d3 go_on
                go_wp2
                go_ret
                exact ⟨rfl, by repeat (first | (with_reducible first | exact HB.out | apply below_alloc | apply pw_below_drewN | apply below_drew1) | exact HB.out)⟩
              · have d2b : decide (122 < (bt a1 z)) = false := decide_eq_false d2
                have HL2 := go_on true (.inl (by unfold LexB.Letter; rw [← HBT.out]; omega))
                clear d1 d2 go_on
                go_wp2
                go_roundg g
                case measure => omega
                case rel => exact ⟨wrap64 (z + 1), rfl, ⟨by have := HG.out; have := HLT.out; rw [HW.out]; omega⟩, ⟨by rw [HZ.out]; exact HL2.out⟩, ⟨by repeat (first | (with_reducible first | exact HB.out | apply below_alloc | apply pw_below_drewN | apply below_drew1) | exact HB.out)⟩⟩
          · have d0 : decide (z < (a1.size : Int)) = false := decide_eq_false hlt
            obtain ⟨k, rfl⟩ : ∃ k', k = (20 + k') + 1 := ⟨k - 21, by have := HF.out.2.2.2; omega⟩
            have hbl := bytesOf_length a1
            have hall : ∀ c ∈ bytesOf a1, LexB.Letter c ∨ c = 32 := LexB.all_letters a1 (fun j b hj => HL.out j (by have := (List.getElem?_eq_some_iff.1 hj).1; omega) b hj)
            have hA := LexB.lex_bad (LexB.bad_one a0 HX.out.1) (by simp) (bytesOf a1) hall (by omega) (20 + k)
            have hB := LexB.lex_bad (LexB.bad_quote a0 HX.out.1) (by simp) (bytesOf a1) hall (by omega) (20 + k)
            have hL := LexB.lex_lit a0 (20 + k + 1) (by have := HF.out.2.2.2; omega)
            have hK : letterboxlaw17_known.f (20 + k + 1) = some true := known_true (k + 1)
            obtain ⟨YA, hYA⟩ : ∃ y : List Int, y = bytesOf a1 ++ [a0] := ⟨_, rfl⟩
            obtain ⟨YB, hYB⟩ : ∃ y : List Int, y = bytesOf a1 ++ [34, a0, 34] := ⟨_, rfl⟩
            rw [← hYA] at hA
            rw [← hYB] at hB
            have NA := Aside0.mk hYA
            have NB := Aside0.mk hYB
            clear hYA hYB
            have HA := Aside0.mk hA
            have HBq := Aside0.mk hB
            have HLl := Aside0.mk hL
            have HK := Aside0.mk hK
            have HN : Aside0 ((bytesOf a1).length ≤ 60) := ⟨by omega⟩
            have HN2 : Aside0 (a1.size ≤ 9223372036854775807) := ⟨by omega⟩
            clear hA hB hL hK hall hbl hsz hse hlt hz0 hz1 hz2 HL HG
            go_wp2_with (first
              | ((with_reducible refine gate_dst (N := 47) rfl ?_); refine convG_ (some 47) rfl rfl (s := a1) rfl rfl HN2.out ?_; intro v47 w6 hG hb; have n0_ := Aside0.mk (G_lower hG (below_size (by repeat (first | (with_reducible first | exact HB.out | apply below_alloc | apply pw_below_drewN | apply below_drew1) | exact HB.out)))); have n1_ := Aside0.mk (below_step (by repeat (first | (with_reducible first | exact HB.out | apply below_alloc | apply pw_below_drewN | apply below_drew1) | exact HB.out)) hb); clear HB; have HG47 := n0_; have HB := n1_; clear n0_ n1_ hG hb)
              | ((with_reducible refine gate_dst (N := 50) rfl ?_); refine appG_ (some 50) rfl rfl rfl (xs := bytesOf a1) (ys := [a0]) rfl rfl w.heap.size (below_size (below_alloc HB.out _)) (G_alloc HG47.out _) (byteRow [a0] (by simp)) (Nat.le_refl _) (by have := HN.out; simp; omega) ?_; intro v50 w8 hG hb; have n1_ := Aside0.mk ((below_alloc HB.out _).trans hb); rw [← NA.out] at hG; have HG50 := Aside0.mk hG; clear HB HG47; have HB := n1_; clear n1_ hG hb; obtain ⟨A50, c50, e50⟩ := G_slice HG50.out; subst e50)
              | (go_at_call 8; refine (lex_Lex.calls (20 + k + 1) _ _ [YA] _ _ [] [] 3 _ (rowOne trivial (G_C HG50.out).1 (G_C HG50.out).2) (Nat.le_refl _) (Kd.C_nil _ _) (Nat.le_refl _) HA.out).mono ?_; rintro e_ w9 ⟨v52, rfl, hv, hb⟩; obtain ⟨A52, c52, rfl⟩ := Kd.V_slice hv; have n1_ := Aside0.mk (below_step (below_alloc HB.out _) hb); clear HB HG50 HA; have HB := n1_; clear n1_ hb hv)
              | ((with_reducible refine gate_dst (N := 57) rfl ?_); refine convG_ (some 57) rfl rfl (s := a1) rfl rfl HN2.out ?_; intro v57 w10 hG hb; have n0_ := Aside0.mk (G_lower hG (below_size (by repeat (first | (with_reducible first | exact HB.out | apply below_alloc | apply pw_below_drewN | apply below_drew1) | exact HB.out)))); have n1_ := Aside0.mk (below_step (by repeat (first | (with_reducible first | exact HB.out | apply below_alloc | apply pw_below_drewN | apply below_drew1) | exact HB.out)) hb); clear HB; have HG57 := n0_; have HB := n1_; clear n0_ n1_ hG hb)
              | ((with_reducible refine gate_dst (N := 60) rfl ?_); refine appG_ (some 60) rfl rfl rfl (xs := bytesOf a1) (ys := [34, a0]) rfl rfl w.heap.size (below_size (below_alloc HB.out _)) (G_alloc HG57.out _) (byteRow [34, a0] (by simp)) (Nat.le_refl _) (by have := HN.out; simp; omega) ?_; intro v60 w11 hG hb; have n1_ := Aside0.mk ((below_alloc HB.out _).trans hb); have HG60 := Aside0.mk hG; clear HB HG57; have HB := n1_; clear n1_ hG hb)
              | ((with_reducible refine gate_dst (N := 62) rfl ?_); refine appG_ (some 62) rfl rfl rfl (xs := bytesOf a1 ++ [34, a0]) (ys := [34]) rfl rfl w.heap.size (below_size (below_alloc HB.out _)) (G_alloc HG60.out _) (byteRow [34] (by simp)) (Nat.le_refl _) (by have := HN.out; simp; omega) ?_; intro v62 w12 hG hb; have n1_ := Aside0.mk ((below_alloc HB.out _).trans hb); rw [List.append_assoc] at hG; have hG2 : GRow w12 w.heap.size v62 YB := (by rw [NB.out]; exact hG); have HG62 := Aside0.mk hG2; clear HB HG60; have HB := n1_; clear n1_ hG hG2 hb; obtain ⟨A62, c62, e62⟩ := G_slice HG62.out; subst e62)
              | (go_at_call 8; refine (lex_Lex.calls (20 + k + 1) _ _ [YB] _ _ [] [] 3 _ (rowOne trivial (G_C HG62.out).1 (G_C HG62.out).2) (Nat.le_refl _) (Kd.C_nil _ _) (Nat.le_refl _) HBq.out).mono ?_; rintro e_ w13 ⟨v64, rfl, hv, hb⟩; obtain ⟨A64, c64, rfl⟩ := Kd.V_slice hv; have n1_ := Aside0.mk (below_step (below_alloc HB.out _) hb); clear HB HG62 HBq; have HB := n1_; clear n1_ hb hv)
              | ((with_reducible refine gate_dst (N := 69) rfl ?_); refine litC_ [123, 49, 125] [123, 49, 125] rfl (some 69) rfl rfl rfl rfl rfl (by simp) ?_; intro w14 hG hb; have n0_ := Aside0.mk (G_lower hG (below_size HB.out)); have n1_ := Aside0.mk (below_step HB.out hb); clear HB; have HL3 := Aside0.mk (lit3 (G_C n0_.out).1 a0); have HB := n1_; clear n0_ n1_ hG hb)
              | (go_at_call 8; refine (lex_Lex.calls (20 + k + 1) _ _ [[123, 49, 125], []] _ _ [[a0]] [⟨2, strOfNums [a0]⟩] 0 _ HL3.out.1 (Nat.le_refl _) HL3.out.2 (Nat.le_refl _) HLl.out).mono ?_; rintro e_ w15 ⟨v74, rfl, hv, hb⟩; obtain ⟨A74, c74, rfl⟩ := Kd.V_slice hv; have n1_ := Aside0.mk (below_step (below_alloc (below_alloc (below_alloc HB.out _) _) _) hb); have HV := Aside0.mk hv; clear HB HL3 HLl; have HB := n1_; clear n1_ hb hv; obtain ⟨ad, ead, hx0, hx1⟩ := at_T31 (Kd.V_reads' HV.out).2.2 0 (by omega) (by simp); cases ead; have hcv : (convert 23 9 (.slice (some ⟨w15.heap.size, 0, none⟩) 1 1)).run Tryd.prog (w15.alloc (Obj.cells #[.int .u8 a0] 5)).drew = .ok (.string (strOfNums [a0])) (w15.alloc (Obj.cells #[.int .u8 a0] 5)).drew := Kd.C_string (P := Tryd.prog) (c := 1) Tryd.underlying23 Tryd.underlying5 Tryd.underlying9 (Kd.C_drew (byteRow (w1 := w15) (t := 5) [a0] (by simp))); have hx1' : w15.cell? ⟨ad.block, ad.off + 1, none⟩ = some (.string (strOfNums [a0])) := (by have e_ : (ad.add (Int.toNat 0 * 2)) = ad := (by cases ad; simp [Go.Addr.add]); rw [e_] at hx1; exact hx1); clear hx0 hx1))
            have HLT15 := Aside0.mk (World.block_lt_of_cell? w15 _ hx1')
            go_region_held (fun w' => w'.cell? ⟨ad.block, ad.off + 1, none⟩ = some (.string (strOfNums [a0]))) (first | go_keep) (first | (go_at_call 9; refine (letterboxlaw17_known.calls (20 + k + 1) true _ HK.out).mono ?_; rintro e_ w16 ⟨rfl, hb16⟩; have hb15 : Below w15.heap.size w15 w16 := below_step (by repeat (first | exact Below.refl _ _ | apply below_alloc | apply pw_below_drewN | apply below_drew1 | apply below_drew)) hb16; have hS16 := (hb15.cell HLT15.out).trans hx1'; have HB16 := Aside0.mk hb15; clear hb15 hb16))
            go_wp2
            go_ret
            exact ⟨rfl, below_step HB.out HB16.out⟩
end P
end Go.Proofs.YtbdmhlocafpehaaDoor
