/- find.Match: what it computes; slices.ContainsFunc at rows of keys. -/
import Derived.Test.YtejhfghijgbckaaGreatDoorShort
import Derived.Test.YtejhfghijgbckaaGreatDoorFindA
import Derived.Test.YtejhfghijgbckaaGreatDoorPx5
import Derived.Test.YtejhfghijgbckaaGreatDoorPx4
import Derived.Test.YtejhfghijgbckaaGreatDoorPx6
import Derived.Laws.EntriesVeiled
namespace Go.Proofs.YtejhfghijgbckaaGreatDoor
open Go.RowKit Go.Proofs.YtejhfghijgbckaaGreatDoor.P Go.Proofs.YtejhfghijgbckaaGreatDoorW.PrintWords Go.Proofs.YtejhfghijgbckaaGreatDoorW.PrintLast Go.Proofs.YtejhfghijgbckaaGreatDoorW.PrintMore
set_option linter.unusedVariables false
set_option linter.unusedSimpArgs false
def anyP (p : Key → Option Bool) : List Key → Option Bool
  | [] => some false
  | y :: r => (p y).bind fun b => if b = true then some true else anyP p r
theorem anyP_mono {p q : Key → Option Bool} (h : ∀ y, LeO (p y) (q y)) : ∀ l, LeO (anyP p l) (anyP q l)
  | [] => LeO.refl _
  | y :: r => by
    unfold anyP
    exact LeO.bind (h y) fun b => LeO.ite (LeO.refl _) (anyP_mono h r)
def notP (p : Key → Option Bool) (y : Key) : Option Bool := (p y).bind fun b => some (!b)
def matchF (m0 m1 : Int) (lb : List Int) (pl la lu : Int) : Nat → Key → Option Bool
  | 0, _ => none
  | k + 1, x =>
    if x.f0 = 1 then some true
    else if x.f0 = 2 then some (Go.bits .and .i64 m1 x.f1 == x.f1)
    else if x.f0 = 3 then some (decide ((lb.length : Int) > x.f1))
    else if x.f0 = 4 then some (decide ((lb.length : Int) < x.f1))
    else if x.f0 = 5 then find_within.f x.f3 (strOfNums lb)
    else if x.f0 = 6 then (head_Get.f k lb x.f2).bind fun r => if r.2 = true then find_within.f x.f3 r.1 else some false
    else if x.f0 = 7 then span_Has.f x.f4 pl la
    else if x.f0 = 8 then span_Has.f x.f4 m0 lu
    else if x.f0 = 9 then (match x.f5 with
      | [] => some false
      | y :: _ => notP (matchF m0 m1 lb pl la lu k) y)
    else if x.f0 = 10 then anyP (matchF m0 m1 lb pl la lu k) (x.f5.take 2)
    else if x.f0 = 11 then (anyP (notP (matchF m0 m1 lb pl la lu k)) x.f5).bind fun b => some (!b)
    else some false
theorem matchF_mono (m0 m1 : Int) (lb : List Int) (pl la lu : Int) : ∀ (k : Nat) (x : Key), LeO (matchF m0 m1 lb pl la lu k x) (matchF m0 m1 lb pl la lu (k + 1) x)
  | 0, _ => fun _ h => by simp [matchF] at h
  | k + 1, x => by
    have ih := matchF_mono m0 m1 lb pl la lu k
    have ihn : ∀ y, LeO (notP (matchF m0 m1 lb pl la lu k) y) (notP (matchF m0 m1 lb pl la lu (k + 1)) y) := fun y => by unfold notP; exact LeO.bind (ih y) fun _ => LeO.refl _
    unfold matchF
    refine LeO.ite (LeO.refl _) (LeO.ite (LeO.refl _) (LeO.ite (LeO.refl _) (LeO.ite (LeO.refl _) (LeO.ite (LeO.refl _) (LeO.ite (LeO.bind (head_Get.mono _ _ _) fun _ => LeO.refl _) (LeO.ite (LeO.refl _) (LeO.ite (LeO.refl _) (LeO.ite ?_ (LeO.ite (anyP_mono ih _) (LeO.ite (LeO.bind (anyP_mono ihn _) fun _ => LeO.refl _) (LeO.refl _)))))))))))
    cases x.f5 with
    | nil => exact LeO.refl _
    | cons y r => exact ihn y
def find_Match.f (k : Nat) (a0 a1 : Int) (a2 a3 : ByteArray) (a4 : List Rg) (a5 : List Key) (m0 m1 m2 : Int) (lb : List Int) (pl la lu : Int) : Option Bool := matchF m0 m1 lb pl la lu k ⟨a0, a1, a2, a3, a4, a5⟩
theorem find_Match.mono (a0 a1 : Int) (a2 a3 : ByteArray) (a4 : List Rg) (a5 : List Key) (m0 m1 m2 : Int) (lb : List Int) (pl la lu : Int) (k : Nat) : LeO (find_Match.f k a0 a1 a2 a3 a4 a5 m0 m1 m2 lb pl la lu) (find_Match.f (k + 1) a0 a1 a2 a3 a4 a5 m0 m1 m2 lb pl la lu) := matchF_mono _ _ _ _ _ _ _ _
/-! ### slices.ContainsFunc -/
def PredC (w : World) (p : Key → Option Bool) (g : Nat) (lb : Array Value) : Prop :=
  ∀ (W : World) (x : Key) (q : Bool) (A4 : Option Addr) (c4 : Nat) (A5 : Option Addr) (c5 : Nat), Below w.heap.size w W → p x = some q → x.f4.length ≤ c4 → Kd.C kRg W A4 x.f4.length x.f4 → x.f5.length ≤ c5 → Kd.C kKey W A5 x.f5.length x.f5 →
    Calls Tryz.prog g (#[.agg #[.int .i64 x.f0, .int .i64 x.f1, .string x.f2, .string x.f3, .slice A4 x.f4.length c4, .slice A5 x.f5.length c5]] ++ lb) W fun e w' => e = .returned (.bool q) ∧ Below w.heap.size w w'
set_option maxHeartbeats 8000000 in
set_option maxRecDepth 100000 in
theorem IndexKey_calls (p : Key → Option Bool) (g : Nat) (lb : Array Value) (eg : ∀ args w, (callFunc g args).run Tryz.prog w = .ok (.enter g args) w) (A : Option Addr) (c : Nat) (l : List Key) (w : World) (b : Bool) (hC0 : Kd.C kKey w A l.length l) (hp : PredC w p g lb) (hb0 : anyP p l = some b) :
    Calls Tryz.prog 46 #[.slice A l.length c, .func (.func g) #[] lb] w fun e w' => ∃ r : Int, e = .returned (.int .i64 r) ∧ decide (0 ≤ r) = b ∧ Below w.heap.size w w' := by
  have HC := am hC0
  have HP := am hp
  have HB0 := am hb0
  have hbig : l.length ≤ 9223372036854775807 := hC0.2.1
  clear hC0 hp hb0
  have hu := Tryz.underlying27
  go_enter Tryz.func46, Tryz.ntmps46
  go_wp2
  go_loopg [5, 8] l.length (fun gg _ s8 wr => ∃ x8 : Int, s8 = .int .i64 x8 ∧ Aside0 (0 ≤ x8 ∧ x8 ≤ (l.length : Int) ∧ l.length - x8.toNat ≤ gg) ∧ Aside0 (Below w.heap.size w wr) ∧ Aside0 (anyP p (l.drop x8.toNat) = some b))
  case atStart => exact ⟨0, rfl, ⟨by omega, by omega, by simp⟩, ⟨Below.refl _ w⟩, HB0⟩
  case round =>
    obtain ⟨x8, rfl, HX8, BW, AA⟩ := hrel
    by_cases hlt : x8 < (l.length : Int)
    · have h0z : 0 ≤ x8 := HX8.out.1
      obtain ⟨ad, A4, c4, A5, c5, rfl, hx0, hx1, hx2, hx3, hx4, hx5, hl4, hg4, hl5, hg5⟩ := at_T27 (Kd.C_below HC.out BW.out) x8 h0z hlt
      have HLT := am (show x8.toNat < l.length by omega)
      have HY := am (show l.drop x8.toNat = rd_T27 l x8 :: l.drop (x8.toNat + 1) by rw [List.drop_eq_getElem_cons HLT.out]; unfold rd_T27; rw [List.getD_eq_getElem?_getD, List.getElem?_eq_getElem HLT.out]; rfl)
      generalize rd_T27 l x8 = y at hx0 hx1 hx2 hx3 hx4 hx5 hl4 hg4 hl5 hg5 HY
      have h9 := AA.out
      rw [HY.out, anyP] at h9
      obtain ⟨q, hq, h9⟩ := Option.bind_eq_some_iff.1 h9
      have hcall := HP.out wr y q A4 c4 A5 c5 BW.out hq hl4 hg4 hl5 hg5
      clear HP hq hl4 hg4 hl5 hg5
      replace h0z := eq_true h0z
      replace hlt := eq_true hlt
      cases q with
      | true =>
        obtain rfl : true = b := by simpa using h9
        clear h9
        go_wp2_with (go_at_fn g; refine hcall.mono ?_; rintro e w' ⟨rfl, hb'⟩)
        go_ret
        refine ⟨_, rfl, ?_, hb'⟩
        have h0 := HX8.out.1
        exact decide_eq_true (by omega)
      | false =>
        have H9 := am (show anyP p (l.drop (x8.toNat + 1)) = some b by simpa using h9)
        clear h9
        go_wp2_with (go_at_fn g; refine hcall.mono ?_; rintro e w' ⟨rfl, hb'⟩)
        go_roundg (l.length - (x8.toNat + 1))
        case measure => have := HLT.out; have := HX8.out.2.2; omega
        case rel =>
          have hw : wrap64 (x8 + 1) = x8 + 1 := by have := HX8.out; have := HLT.out; unfold wrap64; omega
          have h8 := HX8.out
          have h9 := HLT.out
          refine ⟨x8 + 1, by first | rfl | (rw [hw]) | (simp [hw]), ⟨by omega, by omega, by omega⟩, ⟨hb'⟩, ⟨?_⟩⟩
          rw [show (x8 + 1).toNat = x8.toNat + 1 by omega]
          exact H9.out
    · have HK := am (show x8.toNat = l.length by have := HX8.out; omega)
      clear HP
      replace hlt := eq_false hlt
      go_wp2
      go_ret
      refine ⟨_, rfl, ?_, BW.out⟩
      have h9 := AA.out
      rw [HK.out, List.drop_length, anyP] at h9
      rw [← Option.some.inj h9]
      rfl
set_option maxHeartbeats 8000000 in
set_option maxRecDepth 100000 in
theorem ContainsKey_calls (p : Key → Option Bool) (g : Nat) (lb : Array Value) (eg : ∀ args w, (callFunc g args).run Tryz.prog w = .ok (.enter g args) w) (A : Option Addr) (c : Nat) (l : List Key) (w : World) (b : Bool) (hC0 : Kd.C kKey w A l.length l) (hp : PredC w p g lb) (hb0 : anyP p l = some b) :
    Calls Tryz.prog 29 #[.slice A l.length c, .func (.func g) #[] lb] w fun e w' => e = .returned (.bool b) ∧ Below w.heap.size w w' := by
  go_enter Tryz.func29, Tryz.ntmps29
  go_wp2_with (go_at_call 46; refine (IndexKey_calls p g lb eg A c l _ b hC0 hp hb0).mono ?_; rintro e w' ⟨r, rfl, hr, hb'⟩)
  go_ret
  exact ⟨by rw [← hr]; rfl, hb'⟩
end Go.Proofs.YtejhfghijgbckaaGreatDoor
namespace Go.Proofs.YtejhfghijgbckaaGreatDoor
open Go.RowKit Go.Proofs.YtejhfghijgbckaaGreatDoor.P Go.Proofs.YtejhfghijgbckaaGreatDoorW.PrintWords Go.Proofs.YtejhfghijgbckaaGreatDoorW.PrintLast Go.Proofs.YtejhfghijgbckaaGreatDoorW.PrintMore
set_option linter.unusedVariables false
set_option linter.unusedSimpArgs false
variable {m0 m1 m2 : Int} {lb : List Int} {pl la lu : Int} {p : Key → Option Bool}
def MatchC (m0 m1 m2 : Int) (lb : List Int) (pl la lu : Int) (p : Key → Option Bool) : Prop :=
  ∀ (W : World) (x : Key) (q : Bool) (A4 : Option Addr) (c4 : Nat) (A5 : Option Addr) (c5 : Nat) (Ab : Option Addr) (cb : Nat), Laid W → p x = some q → x.f4.length ≤ c4 → Kd.C kRg W A4 x.f4.length x.f4 → x.f5.length ≤ c5 → Kd.C kKey W A5 x.f5.length x.f5 → Kd.C (Kd.int .u8) W Ab lb.length lb → lb.length ≤ cb →
    Calls Tryz.prog 17 #[.agg #[.int .i64 x.f0, .int .i64 x.f1, .string x.f2, .string x.f3, .slice A4 x.f4.length c4, .slice A5 x.f5.length c5], .agg #[.int .i64 m0, .int .i64 m1, .int .i64 m2, .slice Ab lb.length cb], .int .i64 pl, .int .i64 la, .int .i64 lu] W fun e w' => e = .returned (.bool q) ∧ Below W.heap.size W w'
theorem MatchC.go (h : MatchC m0 m1 m2 lb pl la lu p) {W : World} {x : Key} {q : Bool} {A4 : Option Addr} {c4 : Nat} {A5 : Option Addr} {c5 : Nat} {Ab : Option Addr} {cb : Nat} (hL : Laid W) (hq : p x = some q) (l4 : x.f4.length ≤ c4) (g4 : Kd.C kRg W A4 x.f4.length x.f4) (l5 : x.f5.length ≤ c5) (g5 : Kd.C kKey W A5 x.f5.length x.f5) (gb : Kd.C (Kd.int .u8) W Ab lb.length lb) (lc : lb.length ≤ cb) :
    Calls Tryz.prog 17 #[.agg #[.int .i64 x.f0, .int .i64 x.f1, .string x.f2, .string x.f3, .slice A4 x.f4.length c4, .slice A5 x.f5.length c5], .agg #[.int .i64 m0, .int .i64 m1, .int .i64 m2, .slice Ab lb.length cb], .int .i64 pl, .int .i64 la, .int .i64 lu] W fun e w' => e = .returned (.bool q) ∧ Below W.heap.size W w' := h _ _ _ _ _ _ _ _ _ hL hq l4 g4 l5 g5 gb lc
structure Cap (w : World) (b : Nat) (m0 m1 m2 : Int) (Ab : Option Addr) (cb : Nat) (lb : List Int) (pl la lu : Int) : Prop where
  m : w.heap[b]? = some (.cells #[.int .i64 m0, .int .i64 m1, .int .i64 m2, .slice Ab lb.length cb] 37 (0, 0))
  p : w.heap[b + 1]? = some (.cells #[.int .i64 pl] 3 (0, 0))
  l : w.heap[b + 1 + 1]? = some (.cells #[.int .i64 la] 3 (0, 0))
  u : w.heap[b + 1 + 1 + 1]? = some (.cells #[.int .i64 lu] 3 (0, 0))
  f : w.heap[b + 1 + 1 + 1 + 1]? = some (.cells #[.func (.func 25) #[] #[.pointer (some ⟨b, 0, none⟩), .pointer (some ⟨b + 1, 0, none⟩), .pointer (some ⟨b + 1 + 1, 0, none⟩), .pointer (some ⟨b + 1 + 1 + 1, 0, none⟩)]] 62 (0, 0))
theorem Cap.below {w W : World} {b : Nat} {Ab : Option Addr} {cb : Nat} (h : Cap w b m0 m1 m2 Ab cb lb pl la lu) (hb : Below w.heap.size w W) : Cap W b m0 m1 m2 Ab cb lb pl la lu :=
  ⟨(hb.block _ (blk_lt h.m)).trans h.m, (hb.block _ (blk_lt h.p)).trans h.p, (hb.block _ (blk_lt h.l)).trans h.l, (hb.block _ (blk_lt h.u)).trans h.u, (hb.block _ (blk_lt h.f)).trans h.f⟩
set_option maxHeartbeats 8000000 in
set_option maxRecDepth 100000 in
theorem fits_calls (hM0 : MatchC m0 m1 m2 lb pl la lu p) {w : World} {b : Nat} {Ab : Option Addr} {cb : Nat} (hc0 : Cap w b m0 m1 m2 Ab cb lb pl la lu) (hL0 : Laid w) (hgb : Kd.C (Kd.int .u8) w Ab lb.length lb) (hcb : lb.length ≤ cb) :
    PredC w p 25 #[.pointer (some ⟨b, 0, none⟩), .pointer (some ⟨b + 1, 0, none⟩), .pointer (some ⟨b + 1 + 1, 0, none⟩), .pointer (some ⟨b + 1 + 1 + 1, 0, none⟩)] := by
  intro W x q A4 c4 A5 c5 hb hq l4 g4 l5 g5
  have HC := hc0.below hb
  have hb0 := blk_lt HC.m
  have hb1 := blk_lt HC.p
  have hb2 := blk_lt HC.l
  have hb3 := blk_lt HC.u
  have hp0 := blk_cell HC.p 0
  have hl0 := blk_cell HC.l 0
  have hu0 := blk_cell HC.u 0
  have hq0 := blk_cell HC.m 0
  have hq1 := blk_cell HC.m 1
  have hq2 := blk_cell HC.m 2
  have hq3 := blk_cell HC.m 3
  have hu := Tryz.underlying27
  have hu2 := Tryz.underlying37
  have HB := am (below_alloc (Below.refl W.heap.size W) (.cells #[.int .i64 x.f0, .int .i64 x.f1, .string x.f2, .string x.f3, .slice A4 x.f4.length c4, .slice A5 x.f5.length c5] 27))
  have HM := am hM0
  have HQ := am hq
  have H4 := am (And.intro l4 (Kd.C_below g4 HB.out))
  have H5 := am (And.intro l5 (Kd.C_below g5 HB.out))
  have HL := am ((hL0.below hb).below HB.out)
  have HG := am (And.intro (Kd.C_below (Kd.C_below hgb hb) HB.out) hcb)
  have HBW := am hb
  clear hM0 hc0 hL0 hgb hcb hb hq l4 g4 l5 g5 HC
  show Calls _ _ #[_, _, _, _, _] _ _
  go_enter Tryz.func25, Tryz.ntmps25
  go_wp2_with (go_at_call 17; (with_reducible refine (HM.out.go HL.out HQ.out H4.out.1 H4.out.2 H5.out.1 H5.out.2 HG.out.1 HG.out.2).mono ?_); rintro e w2 ⟨rfl, hb2⟩)
  go_ret
  exact ⟨rfl, below_step HBW.out (below_step HB.out hb2)⟩
set_option maxHeartbeats 8000000 in
set_option maxRecDepth 100000 in
theorem neg_calls (hM0 : MatchC m0 m1 m2 lb pl la lu p) {w : World} {b : Nat} {Ab : Option Addr} {cb : Nat} (hc0 : Cap w b m0 m1 m2 Ab cb lb pl la lu) (hL0 : Laid w) (hgb : Kd.C (Kd.int .u8) w Ab lb.length lb) (hcb : lb.length ≤ cb) :
    PredC w (notP p) 30 #[.pointer (some ⟨b + 1 + 1 + 1 + 1, 0, none⟩)] := by
  intro W x q A4 c4 A5 c5 hb hq l4 g4 l5 g5
  obtain ⟨q1, hq1, hq⟩ := Option.bind_eq_some_iff.1 hq
  obtain rfl := Option.some.inj hq
  have hfl := blk_lt (hc0.below hb).f
  have hfc := blk_cell (hc0.below hb).f 0
  have HB := am (below_alloc (Below.refl W.heap.size W) (.cells #[.int .i64 x.f0, .int .i64 x.f1, .string x.f2, .string x.f3, .slice A4 x.f4.length c4, .slice A5 x.f5.length c5] 27))
  have hcall := fits_calls hM0 hc0 hL0 hgb hcb (W.alloc (.cells #[.int .i64 x.f0, .int .i64 x.f1, .string x.f2, .string x.f3, .slice A4 x.f4.length c4, .slice A5 x.f5.length c5] 27)) x q1 A4 c4 A5 c5 (below_step hb HB.out) hq1 l4 (Kd.C_below g4 HB.out) l5 (Kd.C_below g5 HB.out)
  have eg : ∀ args w, (callFunc 25 args).run Tryz.prog w = .ok (.enter 25 args) w := fun args w => enters_ Tryz.func25 (by kernel_rfl) (by kernel_rfl) args w
  have hu := Tryz.underlying27
  clear hM0 hc0 hL0 hgb hcb hb hq1 hq l4 g4 l5 g5 HB
  show Calls _ _ #[_, _] _ _
  go_enter Tryz.func30, Tryz.ntmps30
  go_wp2_with (go_at_fn 25; refine hcall.mono ?_; rintro e w2 ⟨rfl, hb2⟩)
  go_ret
  exact ⟨rfl, hb2⟩
abbrev mkW (w : World) (x : Key) (A4 : Option Addr) (c4 : Nat) (A5 : Option Addr) (c5 : Nat) (m0 m1 m2 : Int) (Ab : Option Addr) (cb : Nat) (lb : List Int) (pl la lu : Int) : World :=
  (((((w.alloc (.cells #[.int .i64 x.f0, .int .i64 x.f1, .string x.f2, .string x.f3, .slice A4 x.f4.length c4, .slice A5 x.f5.length c5] 27)).alloc (.cells #[.int .i64 m0, .int .i64 m1, .int .i64 m2, .slice Ab lb.length cb] 37)).alloc (.cells #[.int .i64 pl] 3)).alloc (.cells #[.int .i64 la] 3)).alloc (.cells #[.int .i64 lu] 3)).alloc
    (.cells #[.func (.func 25) #[] #[.pointer (some ⟨w.heap.size + 1, 0, none⟩), .pointer (some ⟨w.heap.size + 1 + 1, 0, none⟩), .pointer (some ⟨w.heap.size + 1 + 1 + 1, 0, none⟩), .pointer (some ⟨w.heap.size + 1 + 1 + 1 + 1, 0, none⟩)]] 62)
theorem new_at {W : World} {n : Nat} {cs : Array Value} {t : TypeId} (h : W.heap.size = n) : (W.alloc (.cells cs t)).heap[n]? = some (.cells cs t (0, 0)) := h ▸ blk_new W _
theorem old_at {W : World} {n : Nat} {o c : Obj} (h : W.heap[n]? = some c) : (W.alloc o).heap[n]? = some c := ((below_alloc (Below.refl W.heap.size W) o).block n (blk_lt h)).trans h
section
variable (w : World) (x : Key) (A4 : Option Addr) (c4 : Nat) (A5 : Option Addr) (c5 : Nat) (m0 m1 m2 : Int) (Ab : Option Addr) (cb : Nat) (lb : List Int) (pl la lu : Int)
theorem mkW_below : Below w.heap.size w (mkW w x A4 c4 A5 c5 m0 m1 m2 Ab cb lb pl la lu) := by
  unfold mkW
  repeat (first | exact Below.refl _ _ | apply below_alloc)
theorem mkW_cap : Cap (mkW w x A4 c4 A5 c5 m0 m1 m2 Ab cb lb pl la lu) (w.heap.size + 1) m0 m1 m2 Ab cb lb pl la lu := by
  unfold mkW
  refine ⟨old_at (old_at (old_at (old_at (new_at ?_)))), old_at (old_at (old_at (new_at ?_))), old_at (old_at (new_at ?_)), old_at (new_at ?_), new_at ?_⟩ <;> simp only [alloc_size_]
theorem mkW_key : (mkW w x A4 c4 A5 c5 m0 m1 m2 Ab cb lb pl la lu).heap[w.heap.size]? = some (.cells #[.int .i64 x.f0, .int .i64 x.f1, .string x.f2, .string x.f3, .slice A4 x.f4.length c4, .slice A5 x.f5.length c5] 27 (0, 0)) := by
  unfold mkW
  exact old_at (old_at (old_at (old_at (old_at (new_at rfl)))))
end
theorem cut2 (A : Option Addr) (c : Nat) (xs : List Key) (j : Nat) (hm : j ≤ xs.length) (hc : xs.length ≤ c) : ∀ W : World, (Instr.slice 25 (.slice A xs.length c) none (some (.int .i64 (j : Int))) none).run Tryz.prog W = .ok (.slice A (xs.take j).length c) W := by
  obtain ⟨i0, hi, _, _, _⟩ := info_parts infoKey
  have h := cut_to (P := Tryz.prog) 25 27 .i64 Tryz.underlying25 hi A xs.length c (j : Int) (by omega) (by omega) hc
  rw [show (xs.take j).length = ((j : Int)).toNat by rw [List.length_take]; omega]
  exact h
section
variable {P : Program} {ops : Array Oper} {Q : Exit → Act → World → Prop}
theorem goesV_ {oi : Oper} {N : Option Tmp} {a : Act} {w : World} {K : Act → World → Prop} {f : FuncId} {fn : Func} {o : Operand} {ags : Array Operand} {ts : Array TypeId} (lb xs : Array Value) (hf : P.funcs[f]? = some fn) (hname : (fn.name == "runtime.NumGoroutine") = false) (hb : fn.body.isSome = true)
    (hw : Region.wanted oi (yielded ops a.tmps) = true) (hN : oi.dst = N) (hop : oi.op = .call { callee := .value o, args := ags, argTypes := ts }) (hv : a.eval o = .func (.func f) #[] lb) (hargs : ags.map a.eval = xs)
    (h : Calls P f (xs ++ lb) w fun e w' => ∃ v, e = .returned v ∧ K (a.put N v) w') : if Region.wanted oi (yielded ops a.tmps) = true then Oper.wp P oi a w K Q else K (a.put N undef) w := by
  refine call_ f (xs ++ lb) hw hN ?_ h
  have he := enters_ hf hname hb (xs ++ lb) w
  unfold execOp
  simp [hop, resolve, Deferred.ofValue, invoke, hv, hargs, he]
end
end Go.Proofs.YtejhfghijgbckaaGreatDoor
namespace Go.Proofs.YtejhfghijgbckaaGreatDoor
open Go.RowKit Go.Proofs.YtejhfghijgbckaaGreatDoor.P Go.Proofs.YtejhfghijgbckaaGreatDoorW.PrintWords Go.Proofs.YtejhfghijgbckaaGreatDoorW.PrintLast Go.Proofs.YtejhfghijgbckaaGreatDoorW.PrintMore
set_option linter.unusedVariables false
set_option linter.unusedSimpArgs false
attribute [local go_sem] max2_int min2_int max_two min_two max_three min_three max_four min_four
variable {m0 m1 m2 : Int} {lb : List Int} {pl la lu : Int} {p : Key → Option Bool}

set_option maxHeartbeats 8000000 in
set_option maxRecDepth 100000 in
theorem mat_1 {a0 a1 : Int} {a2 a3 : ByteArray} {a4 : List Rg} {a5 : List Key} {A4 A5 Ab : Option Addr} {c4 c5 cb : Nat} {W : World} (hL0 : Laid W) (l4 : a4.length ≤ c4) (g4 : Kd.C kRg W A4 a4.length a4) (l5 : a5.length ≤ c5) (g5 : Kd.C kKey W A5 a5.length a5) (gb : Kd.C (Kd.int .u8) W Ab lb.length lb) (lc : lb.length ≤ cb) (h1 : a0 = 1) :
    Calls Tryz.prog 17 #[.agg #[.int .i64 a0, .int .i64 a1, .string a2, .string a3, .slice A4 a4.length c4, .slice A5 a5.length c5], .agg #[.int .i64 m0, .int .i64 m1, .int .i64 m2, .slice Ab lb.length cb], .int .i64 pl, .int .i64 la, .int .i64 lu] W fun e w' => e = .returned (.bool true) ∧ Below W.heap.size W w' := by
  have HB := am (mkW_below W (⟨a0, a1, a2, a3, a4, a5⟩ : Key) A4 c4 A5 c5 m0 m1 m2 Ab cb lb pl la lu)
  have HL := am (hL0.below HB.out)
  have H4 := am (And.intro l4 (Kd.C_below g4 HB.out))
  have H5 := am (And.intro l5 (Kd.C_below g5 HB.out))
  have HG := am (And.intro lc (Kd.C_below gb HB.out))
  have b1 : (a0 == 1) = true := beq_iff_eq.2 h1
  clear h1
  clear hL0 l4 g4 l5 g5 gb lc
  go_enter Tryz.func17, Tryz.ntmps17
  go_wp2
  go_ret
  exact ⟨rfl, HB.out⟩

set_option maxHeartbeats 8000000 in
set_option maxRecDepth 100000 in
theorem mat_2 {a0 a1 : Int} {a2 a3 : ByteArray} {a4 : List Rg} {a5 : List Key} {A4 A5 Ab : Option Addr} {c4 c5 cb : Nat} {W : World} (hL0 : Laid W) (l4 : a4.length ≤ c4) (g4 : Kd.C kRg W A4 a4.length a4) (l5 : a5.length ≤ c5) (g5 : Kd.C kKey W A5 a5.length a5) (gb : Kd.C (Kd.int .u8) W Ab lb.length lb) (lc : lb.length ≤ cb) (h1 : ¬ a0 = 1) (h2 : a0 = 2) :
    Calls Tryz.prog 17 #[.agg #[.int .i64 a0, .int .i64 a1, .string a2, .string a3, .slice A4 a4.length c4, .slice A5 a5.length c5], .agg #[.int .i64 m0, .int .i64 m1, .int .i64 m2, .slice Ab lb.length cb], .int .i64 pl, .int .i64 la, .int .i64 lu] W fun e w' => e = .returned (.bool (Go.bits .and .i64 m1 a1 == a1)) ∧ Below W.heap.size W w' := by
  have HB := am (mkW_below W (⟨a0, a1, a2, a3, a4, a5⟩ : Key) A4 c4 A5 c5 m0 m1 m2 Ab cb lb pl la lu)
  have HL := am (hL0.below HB.out)
  have H4 := am (And.intro l4 (Kd.C_below g4 HB.out))
  have H5 := am (And.intro l5 (Kd.C_below g5 HB.out))
  have HG := am (And.intro lc (Kd.C_below gb HB.out))
  have b1 : (a0 == 1) = false := beq_eq_false_iff_ne.2 h1
  clear h1
  have b2 : (a0 == 2) = true := beq_iff_eq.2 h2
  clear h2
  clear hL0 l4 g4 l5 g5 gb lc
  go_enter Tryz.func17, Tryz.ntmps17
  go_wp2
  go_ret
  exact ⟨by first | rfl | (simp; done), HB.out⟩

set_option maxHeartbeats 8000000 in
set_option maxRecDepth 100000 in
theorem mat_3 {a0 a1 : Int} {a2 a3 : ByteArray} {a4 : List Rg} {a5 : List Key} {A4 A5 Ab : Option Addr} {c4 c5 cb : Nat} {W : World} (hL0 : Laid W) (l4 : a4.length ≤ c4) (g4 : Kd.C kRg W A4 a4.length a4) (l5 : a5.length ≤ c5) (g5 : Kd.C kKey W A5 a5.length a5) (gb : Kd.C (Kd.int .u8) W Ab lb.length lb) (lc : lb.length ≤ cb) (h1 : ¬ a0 = 1) (h2 : ¬ a0 = 2) (h3 : a0 = 3) :
    Calls Tryz.prog 17 #[.agg #[.int .i64 a0, .int .i64 a1, .string a2, .string a3, .slice A4 a4.length c4, .slice A5 a5.length c5], .agg #[.int .i64 m0, .int .i64 m1, .int .i64 m2, .slice Ab lb.length cb], .int .i64 pl, .int .i64 la, .int .i64 lu] W fun e w' => e = .returned (.bool (decide ((lb.length : Int) > a1))) ∧ Below W.heap.size W w' := by
  have HB := am (mkW_below W (⟨a0, a1, a2, a3, a4, a5⟩ : Key) A4 c4 A5 c5 m0 m1 m2 Ab cb lb pl la lu)
  have HL := am (hL0.below HB.out)
  have H4 := am (And.intro l4 (Kd.C_below g4 HB.out))
  have H5 := am (And.intro l5 (Kd.C_below g5 HB.out))
  have HG := am (And.intro lc (Kd.C_below gb HB.out))
  have b1 : (a0 == 1) = false := beq_eq_false_iff_ne.2 h1
  clear h1
  have b2 : (a0 == 2) = false := beq_eq_false_iff_ne.2 h2
  clear h2
  have b3 : (a0 == 3) = true := beq_iff_eq.2 h3
  clear h3
  clear hL0 l4 g4 l5 g5 gb lc
  go_enter Tryz.func17, Tryz.ntmps17
  go_wp2
  go_ret
  exact ⟨by first | rfl | (simp; done), HB.out⟩

set_option maxHeartbeats 8000000 in
set_option maxRecDepth 100000 in
theorem mat_4 {a0 a1 : Int} {a2 a3 : ByteArray} {a4 : List Rg} {a5 : List Key} {A4 A5 Ab : Option Addr} {c4 c5 cb : Nat} {W : World} (hL0 : Laid W) (l4 : a4.length ≤ c4) (g4 : Kd.C kRg W A4 a4.length a4) (l5 : a5.length ≤ c5) (g5 : Kd.C kKey W A5 a5.length a5) (gb : Kd.C (Kd.int .u8) W Ab lb.length lb) (lc : lb.length ≤ cb) (h1 : ¬ a0 = 1) (h2 : ¬ a0 = 2) (h3 : ¬ a0 = 3) (h4 : a0 = 4) :
    Calls Tryz.prog 17 #[.agg #[.int .i64 a0, .int .i64 a1, .string a2, .string a3, .slice A4 a4.length c4, .slice A5 a5.length c5], .agg #[.int .i64 m0, .int .i64 m1, .int .i64 m2, .slice Ab lb.length cb], .int .i64 pl, .int .i64 la, .int .i64 lu] W fun e w' => e = .returned (.bool (decide ((lb.length : Int) < a1))) ∧ Below W.heap.size W w' := by
  have HB := am (mkW_below W (⟨a0, a1, a2, a3, a4, a5⟩ : Key) A4 c4 A5 c5 m0 m1 m2 Ab cb lb pl la lu)
  have HL := am (hL0.below HB.out)
  have H4 := am (And.intro l4 (Kd.C_below g4 HB.out))
  have H5 := am (And.intro l5 (Kd.C_below g5 HB.out))
  have HG := am (And.intro lc (Kd.C_below gb HB.out))
  have b1 : (a0 == 1) = false := beq_eq_false_iff_ne.2 h1
  clear h1
  have b2 : (a0 == 2) = false := beq_eq_false_iff_ne.2 h2
  clear h2
  have b3 : (a0 == 3) = false := beq_eq_false_iff_ne.2 h3
  clear h3
  have b4 : (a0 == 4) = true := beq_iff_eq.2 h4
  clear h4
  clear hL0 l4 g4 l5 g5 gb lc
  go_enter Tryz.func17, Tryz.ntmps17
  go_wp2
  go_ret
  exact ⟨by first | rfl | (simp; done), HB.out⟩

set_option maxHeartbeats 8000000 in
set_option maxRecDepth 100000 in
theorem mat_5 {a0 a1 : Int} {a2 a3 : ByteArray} {a4 : List Rg} {a5 : List Key} {A4 A5 Ab : Option Addr} {c4 c5 cb : Nat} {W : World} {q : Bool} (hw : find_within.f a3 (strOfNums lb) = some q) (hL0 : Laid W) (l4 : a4.length ≤ c4) (g4 : Kd.C kRg W A4 a4.length a4) (l5 : a5.length ≤ c5) (g5 : Kd.C kKey W A5 a5.length a5) (gb : Kd.C (Kd.int .u8) W Ab lb.length lb) (lc : lb.length ≤ cb) (h1 : ¬ a0 = 1) (h2 : ¬ a0 = 2) (h3 : ¬ a0 = 3) (h4 : ¬ a0 = 4) (h5 : a0 = 5) :
    Calls Tryz.prog 17 #[.agg #[.int .i64 a0, .int .i64 a1, .string a2, .string a3, .slice A4 a4.length c4, .slice A5 a5.length c5], .agg #[.int .i64 m0, .int .i64 m1, .int .i64 m2, .slice Ab lb.length cb], .int .i64 pl, .int .i64 la, .int .i64 lu] W fun e w' => e = .returned (.bool q) ∧ Below W.heap.size W w' := by
  have HB := am (mkW_below W (⟨a0, a1, a2, a3, a4, a5⟩ : Key) A4 c4 A5 c5 m0 m1 m2 Ab cb lb pl la lu)
  have HL := am (hL0.below HB.out)
  have H4 := am (And.intro l4 (Kd.C_below g4 HB.out))
  have H5 := am (And.intro l5 (Kd.C_below g5 HB.out))
  have HG := am (And.intro lc (Kd.C_below gb HB.out))
  have b1 : (a0 == 1) = false := beq_eq_false_iff_ne.2 h1
  clear h1
  have b2 : (a0 == 2) = false := beq_eq_false_iff_ne.2 h2
  clear h2
  have b3 : (a0 == 3) = false := beq_eq_false_iff_ne.2 h3
  clear h3
  have b4 : (a0 == 4) = false := beq_eq_false_iff_ne.2 h4
  clear h4
  have b5 : (a0 == 5) = true := beq_iff_eq.2 h5
  clear h5
  have HW := am hw
  clear hw
  have hcs := Kd.C_string (P := Tryz.prog) (A := Ab) (c := cb) Tryz.underlying35 Tryz.underlying5 Tryz.underlying9 HG.out.2
  clear hL0 l4 g4 l5 g5 gb lc
  go_enter Tryz.func17, Tryz.ntmps17
  go_wp2_with (go_at_call 26; (with_reducible refine (find_within.calls _ _ _ _ HL.out HW.out).mono ?_); rintro e w2 ⟨rfl, hb⟩)
  go_ret
  exact ⟨rfl, below_step HB.out hb⟩

set_option maxHeartbeats 8000000 in
set_option maxRecDepth 100000 in
theorem mat_6 {a0 a1 : Int} {a2 a3 : ByteArray} {a4 : List Rg} {a5 : List Key} {A4 A5 Ab : Option Addr} {c4 c5 cb : Nat} {W : World} {k : Nat} {v : ByteArray} {q : Bool} (ht : head_Get.f k lb a2 = some (v, true)) (hw : find_within.f a3 v = some q) (hL0 : Laid W) (l4 : a4.length ≤ c4) (g4 : Kd.C kRg W A4 a4.length a4) (l5 : a5.length ≤ c5) (g5 : Kd.C kKey W A5 a5.length a5) (gb : Kd.C (Kd.int .u8) W Ab lb.length lb) (lc : lb.length ≤ cb) (h1 : ¬ a0 = 1) (h2 : ¬ a0 = 2) (h3 : ¬ a0 = 3) (h4 : ¬ a0 = 4) (h5 : ¬ a0 = 5) (h6 : a0 = 6) :
    Calls Tryz.prog 17 #[.agg #[.int .i64 a0, .int .i64 a1, .string a2, .string a3, .slice A4 a4.length c4, .slice A5 a5.length c5], .agg #[.int .i64 m0, .int .i64 m1, .int .i64 m2, .slice Ab lb.length cb], .int .i64 pl, .int .i64 la, .int .i64 lu] W fun e w' => e = .returned (.bool q) ∧ Below W.heap.size W w' := by
  have HB := am (mkW_below W (⟨a0, a1, a2, a3, a4, a5⟩ : Key) A4 c4 A5 c5 m0 m1 m2 Ab cb lb pl la lu)
  have HL := am (hL0.below HB.out)
  have H4 := am (And.intro l4 (Kd.C_below g4 HB.out))
  have H5 := am (And.intro l5 (Kd.C_below g5 HB.out))
  have HG := am (And.intro lc (Kd.C_below gb HB.out))
  have b1 : (a0 == 1) = false := beq_eq_false_iff_ne.2 h1
  clear h1
  have b2 : (a0 == 2) = false := beq_eq_false_iff_ne.2 h2
  clear h2
  have b3 : (a0 == 3) = false := beq_eq_false_iff_ne.2 h3
  clear h3
  have b4 : (a0 == 4) = false := beq_eq_false_iff_ne.2 h4
  clear h4
  have b5 : (a0 == 5) = false := beq_eq_false_iff_ne.2 h5
  clear h5
  have b6 : (a0 == 6) = true := beq_iff_eq.2 h6
  clear h6
  have HT := am ht
  have HW := am hw
  clear ht hw
  clear hL0 l4 g4 l5 g5 gb lc
  go_enter Tryz.func17, Tryz.ntmps17
  go_wp2_with (first | (go_at_call 27; (with_reducible refine (head_Get.calls k _ _ _ _ _ _ _ HG.out.2 HG.out.1 HT.out).mono ?_); rintro e w2 ⟨rfl, hb⟩; have HB2 := am (below_step HB.out hb); have HL2 := am (HL.out.below hb); have HC2 := am (Cap.below (mkW_cap W (⟨a0, a1, a2, a3, a4, a5⟩ : Key) A4 c4 A5 c5 m0 m1 m2 Ab cb lb pl la lu) hb); have hk2 := (hb.block W.heap.size (blk_lt (mkW_key W (⟨a0, a1, a2, a3, a4, a5⟩ : Key) A4 c4 A5 c5 m0 m1 m2 Ab cb lb pl la lu))).trans (mkW_key W (⟨a0, a1, a2, a3, a4, a5⟩ : Key) A4 c4 A5 c5 m0 m1 m2 Ab cb lb pl la lu); have hk2c := blk_cell hk2 3; clear hk2 hb) | (go_at_call 26; (with_reducible refine (find_within.calls _ _ _ _ HL2.out HW.out).mono ?_); rintro e w3 ⟨rfl, hb⟩))
  go_ret
  exact ⟨rfl, below_step HB2.out hb⟩

set_option maxHeartbeats 8000000 in
set_option maxRecDepth 100000 in
theorem mat_6n {a0 a1 : Int} {a2 a3 : ByteArray} {a4 : List Rg} {a5 : List Key} {A4 A5 Ab : Option Addr} {c4 c5 cb : Nat} {W : World} {k : Nat} {v : ByteArray} (ht : head_Get.f k lb a2 = some (v, false)) (hL0 : Laid W) (l4 : a4.length ≤ c4) (g4 : Kd.C kRg W A4 a4.length a4) (l5 : a5.length ≤ c5) (g5 : Kd.C kKey W A5 a5.length a5) (gb : Kd.C (Kd.int .u8) W Ab lb.length lb) (lc : lb.length ≤ cb) (h1 : ¬ a0 = 1) (h2 : ¬ a0 = 2) (h3 : ¬ a0 = 3) (h4 : ¬ a0 = 4) (h5 : ¬ a0 = 5) (h6 : a0 = 6) :
    Calls Tryz.prog 17 #[.agg #[.int .i64 a0, .int .i64 a1, .string a2, .string a3, .slice A4 a4.length c4, .slice A5 a5.length c5], .agg #[.int .i64 m0, .int .i64 m1, .int .i64 m2, .slice Ab lb.length cb], .int .i64 pl, .int .i64 la, .int .i64 lu] W fun e w' => e = .returned (.bool false) ∧ Below W.heap.size W w' := by
  have HB := am (mkW_below W (⟨a0, a1, a2, a3, a4, a5⟩ : Key) A4 c4 A5 c5 m0 m1 m2 Ab cb lb pl la lu)
  have HL := am (hL0.below HB.out)
  have H4 := am (And.intro l4 (Kd.C_below g4 HB.out))
  have H5 := am (And.intro l5 (Kd.C_below g5 HB.out))
  have HG := am (And.intro lc (Kd.C_below gb HB.out))
  have b1 : (a0 == 1) = false := beq_eq_false_iff_ne.2 h1
  clear h1
  have b2 : (a0 == 2) = false := beq_eq_false_iff_ne.2 h2
  clear h2
  have b3 : (a0 == 3) = false := beq_eq_false_iff_ne.2 h3
  clear h3
  have b4 : (a0 == 4) = false := beq_eq_false_iff_ne.2 h4
  clear h4
  have b5 : (a0 == 5) = false := beq_eq_false_iff_ne.2 h5
  clear h5
  have b6 : (a0 == 6) = true := beq_iff_eq.2 h6
  clear h6
  have HT := am ht
  clear ht
  clear hL0 l4 g4 l5 g5 gb lc
  go_enter Tryz.func17, Tryz.ntmps17
  go_wp2_with (first | (go_at_call 27; (with_reducible refine (head_Get.calls k _ _ _ _ _ _ _ HG.out.2 HG.out.1 HT.out).mono ?_); rintro e w2 ⟨rfl, hb⟩; have HB2 := am (below_step HB.out hb); have HL2 := am (HL.out.below hb); have HC2 := am (Cap.below (mkW_cap W (⟨a0, a1, a2, a3, a4, a5⟩ : Key) A4 c4 A5 c5 m0 m1 m2 Ab cb lb pl la lu) hb); have hk2 := (hb.block W.heap.size (blk_lt (mkW_key W (⟨a0, a1, a2, a3, a4, a5⟩ : Key) A4 c4 A5 c5 m0 m1 m2 Ab cb lb pl la lu))).trans (mkW_key W (⟨a0, a1, a2, a3, a4, a5⟩ : Key) A4 c4 A5 c5 m0 m1 m2 Ab cb lb pl la lu); have hk2c := blk_cell hk2 3; clear hk2 hb))
  go_ret
  exact ⟨rfl, HB2.out⟩

set_option maxHeartbeats 8000000 in
set_option maxRecDepth 100000 in
theorem mat_7 {a0 a1 : Int} {a2 a3 : ByteArray} {a4 : List Rg} {a5 : List Key} {A4 A5 Ab : Option Addr} {c4 c5 cb : Nat} {W : World} {q : Bool} (hw : span_Has.f a4 pl la = some q) (hL0 : Laid W) (l4 : a4.length ≤ c4) (g4 : Kd.C kRg W A4 a4.length a4) (l5 : a5.length ≤ c5) (g5 : Kd.C kKey W A5 a5.length a5) (gb : Kd.C (Kd.int .u8) W Ab lb.length lb) (lc : lb.length ≤ cb) (h1 : ¬ a0 = 1) (h2 : ¬ a0 = 2) (h3 : ¬ a0 = 3) (h4 : ¬ a0 = 4) (h5 : ¬ a0 = 5) (h6 : ¬ a0 = 6) (h7 : a0 = 7) :
    Calls Tryz.prog 17 #[.agg #[.int .i64 a0, .int .i64 a1, .string a2, .string a3, .slice A4 a4.length c4, .slice A5 a5.length c5], .agg #[.int .i64 m0, .int .i64 m1, .int .i64 m2, .slice Ab lb.length cb], .int .i64 pl, .int .i64 la, .int .i64 lu] W fun e w' => e = .returned (.bool q) ∧ Below W.heap.size W w' := by
  have HB := am (mkW_below W (⟨a0, a1, a2, a3, a4, a5⟩ : Key) A4 c4 A5 c5 m0 m1 m2 Ab cb lb pl la lu)
  have HL := am (hL0.below HB.out)
  have H4 := am (And.intro l4 (Kd.C_below g4 HB.out))
  have H5 := am (And.intro l5 (Kd.C_below g5 HB.out))
  have HG := am (And.intro lc (Kd.C_below gb HB.out))
  have b1 : (a0 == 1) = false := beq_eq_false_iff_ne.2 h1
  clear h1
  have b2 : (a0 == 2) = false := beq_eq_false_iff_ne.2 h2
  clear h2
  have b3 : (a0 == 3) = false := beq_eq_false_iff_ne.2 h3
  clear h3
  have b4 : (a0 == 4) = false := beq_eq_false_iff_ne.2 h4
  clear h4
  have b5 : (a0 == 5) = false := beq_eq_false_iff_ne.2 h5
  clear h5
  have b6 : (a0 == 6) = false := beq_eq_false_iff_ne.2 h6
  clear h6
  have b7 : (a0 == 7) = true := beq_iff_eq.2 h7
  clear h7
  have HW := am hw
  clear hw
  clear hL0 l4 g4 l5 g5 gb lc
  go_enter Tryz.func17, Tryz.ntmps17
  go_wp2_with (go_at_call 28; (with_reducible refine (span_Has.calls _ _ _ _ _ _ _ H4.out.2 H4.out.1 HW.out).mono ?_); rintro e w2 ⟨rfl, hb⟩)
  go_ret
  exact ⟨rfl, below_step HB.out hb⟩

set_option maxHeartbeats 8000000 in
set_option maxRecDepth 100000 in
theorem mat_8 {a0 a1 : Int} {a2 a3 : ByteArray} {a4 : List Rg} {a5 : List Key} {A4 A5 Ab : Option Addr} {c4 c5 cb : Nat} {W : World} {q : Bool} (hw : span_Has.f a4 m0 lu = some q) (hL0 : Laid W) (l4 : a4.length ≤ c4) (g4 : Kd.C kRg W A4 a4.length a4) (l5 : a5.length ≤ c5) (g5 : Kd.C kKey W A5 a5.length a5) (gb : Kd.C (Kd.int .u8) W Ab lb.length lb) (lc : lb.length ≤ cb) (h1 : ¬ a0 = 1) (h2 : ¬ a0 = 2) (h3 : ¬ a0 = 3) (h4 : ¬ a0 = 4) (h5 : ¬ a0 = 5) (h6 : ¬ a0 = 6) (h7 : ¬ a0 = 7) (h8 : a0 = 8) :
    Calls Tryz.prog 17 #[.agg #[.int .i64 a0, .int .i64 a1, .string a2, .string a3, .slice A4 a4.length c4, .slice A5 a5.length c5], .agg #[.int .i64 m0, .int .i64 m1, .int .i64 m2, .slice Ab lb.length cb], .int .i64 pl, .int .i64 la, .int .i64 lu] W fun e w' => e = .returned (.bool q) ∧ Below W.heap.size W w' := by
  have HB := am (mkW_below W (⟨a0, a1, a2, a3, a4, a5⟩ : Key) A4 c4 A5 c5 m0 m1 m2 Ab cb lb pl la lu)
  have HL := am (hL0.below HB.out)
  have H4 := am (And.intro l4 (Kd.C_below g4 HB.out))
  have H5 := am (And.intro l5 (Kd.C_below g5 HB.out))
  have HG := am (And.intro lc (Kd.C_below gb HB.out))
  have b1 : (a0 == 1) = false := beq_eq_false_iff_ne.2 h1
  clear h1
  have b2 : (a0 == 2) = false := beq_eq_false_iff_ne.2 h2
  clear h2
  have b3 : (a0 == 3) = false := beq_eq_false_iff_ne.2 h3
  clear h3
  have b4 : (a0 == 4) = false := beq_eq_false_iff_ne.2 h4
  clear h4
  have b5 : (a0 == 5) = false := beq_eq_false_iff_ne.2 h5
  clear h5
  have b6 : (a0 == 6) = false := beq_eq_false_iff_ne.2 h6
  clear h6
  have b7 : (a0 == 7) = false := beq_eq_false_iff_ne.2 h7
  clear h7
  have b8 : (a0 == 8) = true := beq_iff_eq.2 h8
  clear h8
  have HW := am hw
  clear hw
  clear hL0 l4 g4 l5 g5 gb lc
  go_enter Tryz.func17, Tryz.ntmps17
  go_wp2_with (go_at_call 28; (with_reducible refine (span_Has.calls _ _ _ _ _ _ _ H4.out.2 H4.out.1 HW.out).mono ?_); rintro e w2 ⟨rfl, hb⟩)
  go_ret
  exact ⟨rfl, below_step HB.out hb⟩

set_option maxHeartbeats 8000000 in
set_option maxRecDepth 100000 in
theorem mat_9n {a0 a1 : Int} {a2 a3 : ByteArray} {a4 : List Rg} {a5 : List Key} {A4 A5 Ab : Option Addr} {c4 c5 cb : Nat} {W : World} (hL0 : Laid W) (l4 : a4.length ≤ c4) (g4 : Kd.C kRg W A4 a4.length a4) (l5 : a5.length ≤ c5) (g5 : Kd.C kKey W A5 a5.length a5) (gb : Kd.C (Kd.int .u8) W Ab lb.length lb) (lc : lb.length ≤ cb) (he : a5 = []) (h1 : ¬ a0 = 1) (h2 : ¬ a0 = 2) (h3 : ¬ a0 = 3) (h4 : ¬ a0 = 4) (h5 : ¬ a0 = 5) (h6 : ¬ a0 = 6) (h7 : ¬ a0 = 7) (h8 : ¬ a0 = 8) (h9 : a0 = 9) :
    Calls Tryz.prog 17 #[.agg #[.int .i64 a0, .int .i64 a1, .string a2, .string a3, .slice A4 a4.length c4, .slice A5 a5.length c5], .agg #[.int .i64 m0, .int .i64 m1, .int .i64 m2, .slice Ab lb.length cb], .int .i64 pl, .int .i64 la, .int .i64 lu] W fun e w' => e = .returned (.bool false) ∧ Below W.heap.size W w' := by
  have HB := am (mkW_below W (⟨a0, a1, a2, a3, a4, a5⟩ : Key) A4 c4 A5 c5 m0 m1 m2 Ab cb lb pl la lu)
  have HL := am (hL0.below HB.out)
  have H4 := am (And.intro l4 (Kd.C_below g4 HB.out))
  have H5 := am (And.intro l5 (Kd.C_below g5 HB.out))
  have HG := am (And.intro lc (Kd.C_below gb HB.out))
  have b1 : (a0 == 1) = false := beq_eq_false_iff_ne.2 h1
  clear h1
  have b2 : (a0 == 2) = false := beq_eq_false_iff_ne.2 h2
  clear h2
  have b3 : (a0 == 3) = false := beq_eq_false_iff_ne.2 h3
  clear h3
  have b4 : (a0 == 4) = false := beq_eq_false_iff_ne.2 h4
  clear h4
  have b5 : (a0 == 5) = false := beq_eq_false_iff_ne.2 h5
  clear h5
  have b6 : (a0 == 6) = false := beq_eq_false_iff_ne.2 h6
  clear h6
  have b7 : (a0 == 7) = false := beq_eq_false_iff_ne.2 h7
  clear h7
  have b8 : (a0 == 8) = false := beq_eq_false_iff_ne.2 h8
  clear h8
  have b9 : (a0 == 9) = true := beq_iff_eq.2 h9
  clear h9
  clear hL0 l4 g4 l5 g5 gb lc
  have q0 : decide ((0 : Int) < (a5.length : Int)) = false := decide_eq_false (by rw [he]; simp)
  have q1 : decide (0 < a5.length) = false := decide_eq_false (by rw [he]; simp)
  clear he
  go_enter Tryz.func17, Tryz.ntmps17
  go_wp2
  refine start_ (n := 14) (S := fun w' => w'.cell? ⟨W.heap.size, 5, none⟩ = some (.slice A5 a5.length c5)) (ds := []) #[false, false, false, false, false, false, false, false, false, false, false, false, false, false] (by kernel_rfl) rfl rfl ((blk_cell (blk_drew (mkW_key W (⟨a0, a1, a2, a3, a4, a5⟩ : Key) A4 c4 A5 c5 m0 m1 m2 Ab cb lb pl la lu)) 5)) (fun hHeld => ?_)
  refine pure_ (i := 0) (N := some 87) (v := ?_) (a' := ?_) #[true, false, false, false, false, false, false, false, false, false, false, false, false, false] rfl rfl (by kernel_rfl) (fun _ _ _ h => h) (Or.inl ⟨by rfl, ?_⟩) ?_ ?_
  rotate_left
  · intro w'
    go_simp
    with_reducible rfl
  rotate_left
  · simp only [Act.put, List.setIfInBounds_toArray, List.set_cons_zero, List.set_cons_succ, i64_w, i32_w]
    rfl
  refine take_ (i := 1) (N := some 88) (v := ?_) (a' := ?_) #[true, true, false, false, false, false, false, false, false, false, false, false, false, false] rfl rfl (by kernel_rfl) (fun _ _ _ h => h) (Or.inl ⟨by rfl, ?_⟩) hHeld ?_ ?_
  rotate_left
  · intro w' s0
    go_simp
    with_reducible rfl
  rotate_left
  · simp only [Act.put, List.setIfInBounds_toArray, List.set_cons_zero, List.set_cons_succ, i64_w, i32_w]
    rfl
  refine pure_ (i := 2) (N := some 89) (v := ?_) (a' := ?_) #[true, true, true, false, false, false, false, false, false, false, false, false, false, false] rfl rfl (by kernel_rfl) (fun _ _ _ h => h) (Or.inl ⟨by rfl, ?_⟩) ?_ ?_
  rotate_left
  · intro w'
    go_simp
    with_reducible rfl
  rotate_left
  · simp only [Act.put, List.setIfInBounds_toArray, List.set_cons_zero, List.set_cons_succ, i64_w, i32_w]
    rfl
  refine pure_ (i := 3) (N := some 90) (v := ?_) (a' := ?_) #[true, true, true, true, false, false, false, false, false, false, false, false, false, false] rfl rfl (by kernel_rfl) (fun _ _ _ h => h) (Or.inl ⟨by rfl, ?_⟩) ?_ ?_
  rotate_left
  · intro w'
    go_simp
    with_reducible rfl
  rotate_left
  · simp only [Act.put, List.setIfInBounds_toArray, List.set_cons_zero, List.set_cons_succ, i64_w, i32_w]
    rfl
  refine pure_ (i := 4) (N := some 91) (v := ?_) (a' := ?_) #[true, true, true, true, true, false, false, false, false, false, false, false, false, false] rfl rfl (by kernel_rfl) (fun _ _ _ h => h) (Or.inl ⟨by rfl, ?_⟩) ?_ ?_
  rotate_left
  · intro w'
    go_simp
    with_reducible rfl
  rotate_left
  · simp only [Act.put, List.setIfInBounds_toArray, List.set_cons_zero, List.set_cons_succ, i64_w, i32_w]
    rfl
  refine pure_ (i := 5) (N := some 92) (v := undef) (a' := ?_) #[true, true, true, true, true, true, false, false, false, false, false, false, false, false] rfl rfl (by kernel_rfl) (fun _ _ _ h => h) (Or.inr ⟨by rfl, rfl⟩) ?_ ?_
  rotate_left
  · simp only [Act.put, List.setIfInBounds_toArray, List.set_cons_zero, List.set_cons_succ, i64_w, i32_w]
    rfl
  refine pure_ (i := 6) (N := some 93) (v := undef) (a' := ?_) #[true, true, true, true, true, true, true, false, false, false, false, false, false, false] rfl rfl (by kernel_rfl) (fun _ _ _ h => h) (Or.inr ⟨by rfl, rfl⟩) ?_ ?_
  rotate_left
  · simp only [Act.put, List.setIfInBounds_toArray, List.set_cons_zero, List.set_cons_succ, i64_w, i32_w]
    rfl
  refine pure_ (i := 7) (N := some 94) (v := undef) (a' := ?_) #[true, true, true, true, true, true, true, true, false, false, false, false, false, false] rfl rfl (by kernel_rfl) (fun _ _ _ h => h) (Or.inr ⟨by rfl, rfl⟩) ?_ ?_
  rotate_left
  · simp only [Act.put, List.setIfInBounds_toArray, List.set_cons_zero, List.set_cons_succ, i64_w, i32_w]
    rfl
  refine pure_ (i := 8) (N := some 95) (v := undef) (a' := ?_) #[true, true, true, true, true, true, true, true, true, false, false, false, false, false] rfl rfl (by kernel_rfl) (fun _ _ _ h => h) (Or.inr ⟨by rfl, rfl⟩) ?_ ?_
  rotate_left
  · simp only [Act.put, List.setIfInBounds_toArray, List.set_cons_zero, List.set_cons_succ, i64_w, i32_w]
    rfl
  refine pure_ (i := 9) (N := some 96) (v := undef) (a' := ?_) #[true, true, true, true, true, true, true, true, true, true, false, false, false, false] rfl rfl (by kernel_rfl) (fun _ _ _ h => h) (Or.inr ⟨by rfl, rfl⟩) ?_ ?_
  rotate_left
  · simp only [Act.put, List.setIfInBounds_toArray, List.set_cons_zero, List.set_cons_succ, i64_w, i32_w]
    rfl
  refine pure_ (i := 10) (N := some 97) (v := undef) (a' := ?_) #[true, true, true, true, true, true, true, true, true, true, true, false, false, false] rfl rfl (by kernel_rfl) (fun _ _ _ h => h) (Or.inr ⟨by rfl, rfl⟩) ?_ ?_
  rotate_left
  · simp only [Act.put, List.setIfInBounds_toArray, List.set_cons_zero, List.set_cons_succ, i64_w, i32_w]
    rfl
  refine pure_ (i := 11) (N := some 98) (v := undef) (a' := ?_) #[true, true, true, true, true, true, true, true, true, true, true, true, false, false] rfl rfl (by kernel_rfl) (fun _ _ _ h => h) (Or.inr ⟨by rfl, rfl⟩) ?_ ?_
  rotate_left
  · simp only [Act.put, List.setIfInBounds_toArray, List.set_cons_zero, List.set_cons_succ, i64_w, i32_w]
    rfl
  refine pure_ (i := 12) (N := some 99) (v := ?_) (a' := ?_) #[true, true, true, true, true, true, true, true, true, true, true, true, true, false] rfl rfl (by kernel_rfl) (fun _ _ _ h => h) (Or.inl ⟨by rfl, ?_⟩) ?_ ?_
  rotate_left
  · intro w'
    go_simp
    with_reducible rfl
  rotate_left
  · simp only [Act.put, List.setIfInBounds_toArray, List.set_cons_zero, List.set_cons_succ, i64_w, i32_w]
    rfl
  refine pure_ (i := 13) (N := some 10) (v := ?_) (a' := ?_) #[true, true, true, true, true, true, true, true, true, true, true, true, true, true] rfl rfl (by kernel_rfl) (fun _ _ _ h => h) (Or.inl ⟨by rfl, ?_⟩) ?_ ?_
  rotate_left
  · intro w'
    go_simp
    with_reducible rfl
  rotate_left
  · simp only [Act.put, List.setIfInBounds_toArray, List.set_cons_zero, List.set_cons_succ, i64_w, i32_w]
    rfl
  refine done_ (by kernel_rfl) ?_
  go_wp2
  go_ret
  exact ⟨rfl, (by repeat (first | exact HB.out | apply pw_below_drewN | apply below_drew1))⟩

set_option maxHeartbeats 8000000 in
set_option maxRecDepth 100000 in
theorem mat_9 {a0 a1 : Int} {a2 a3 : ByteArray} {a4 : List Rg} {a5 : List Key} {A4 A5 Ab : Option Addr} {c4 c5 cb : Nat} {W : World} {q : Bool} {y : Key} {r : List Key} (hM0 : MatchC m0 m1 m2 lb pl la lu p) (hp : p y = some q) (he : a5 = y :: r) (hL0 : Laid W) (l4 : a4.length ≤ c4) (g4 : Kd.C kRg W A4 a4.length a4) (l5 : a5.length ≤ c5) (g5 : Kd.C kKey W A5 a5.length a5) (gb : Kd.C (Kd.int .u8) W Ab lb.length lb) (lc : lb.length ≤ cb) (h1 : ¬ a0 = 1) (h2 : ¬ a0 = 2) (h3 : ¬ a0 = 3) (h4 : ¬ a0 = 4) (h5 : ¬ a0 = 5) (h6 : ¬ a0 = 6) (h7 : ¬ a0 = 7) (h8 : ¬ a0 = 8) (h9 : a0 = 9) :
    Calls Tryz.prog 17 #[.agg #[.int .i64 a0, .int .i64 a1, .string a2, .string a3, .slice A4 a4.length c4, .slice A5 a5.length c5], .agg #[.int .i64 m0, .int .i64 m1, .int .i64 m2, .slice Ab lb.length cb], .int .i64 pl, .int .i64 la, .int .i64 lu] W fun e w' => e = .returned (.bool (!q)) ∧ Below W.heap.size W w' := by
  have HB := am (mkW_below W (⟨a0, a1, a2, a3, a4, a5⟩ : Key) A4 c4 A5 c5 m0 m1 m2 Ab cb lb pl la lu)
  have HL := am (hL0.below HB.out)
  have H4 := am (And.intro l4 (Kd.C_below g4 HB.out))
  have H5 := am (And.intro l5 (Kd.C_below g5 HB.out))
  have HG := am (And.intro lc (Kd.C_below gb HB.out))
  have b1 : (a0 == 1) = false := beq_eq_false_iff_ne.2 h1
  clear h1
  have b2 : (a0 == 2) = false := beq_eq_false_iff_ne.2 h2
  clear h2
  have b3 : (a0 == 3) = false := beq_eq_false_iff_ne.2 h3
  clear h3
  have b4 : (a0 == 4) = false := beq_eq_false_iff_ne.2 h4
  clear h4
  have b5 : (a0 == 5) = false := beq_eq_false_iff_ne.2 h5
  clear h5
  have b6 : (a0 == 6) = false := beq_eq_false_iff_ne.2 h6
  clear h6
  have b7 : (a0 == 7) = false := beq_eq_false_iff_ne.2 h7
  clear h7
  have b8 : (a0 == 8) = false := beq_eq_false_iff_ne.2 h8
  clear h8
  have b9 : (a0 == 9) = true := beq_iff_eq.2 h9
  clear h9
  have hq1 : 0 < a5.length := by rw [he]; simp
  obtain ⟨ad, B4, e4, B5, e5, rfl, hx0, hx1, hx2, hx3, hx4, hx5, hl4, hg4, hl5, hg5⟩ := at_T27 (Kd.C_drew H5.out.2) 0 (by omega) (by omega)
  rw [show rd_T27 a5 0 = y by rw [he]; rfl] at hx0 hx1 hx2 hx3 hx4 hx5 hl4 hg4 hl5 hg5
  rw [show (ad.add (Int.toNat 0 * 6)) = ad from Addr.add_zero' ad] at hx0 hx1 hx2 hx3 hx4 hx5
  have HE0 := am hx0
  have HE1 := am hx1
  have HE2 := am hx2
  have HE3 := am hx3
  have HE4 := am hx4
  have HE5 := am hx5
  have HCL := am (show ∀ w' : World, w' = (mkW W (⟨a0, a1, a2, a3, a4, a5⟩ : Key) A4 c4 (some ad) c5 m0 m1 m2 Ab cb lb pl la lu).drew → Calls Tryz.prog 25 #[.agg #[.int .i64 y.f0, .int .i64 y.f1, .string y.f2, .string y.f3, .slice B4 y.f4.length e4, .slice B5 y.f5.length e5], .pointer (some ⟨W.heap.size + 1, 0, none⟩), .pointer (some ⟨W.heap.size + 1 + 1, 0, none⟩), .pointer (some ⟨W.heap.size + 1 + 1 + 1, 0, none⟩), .pointer (some ⟨W.heap.size + 1 + 1 + 1 + 1, 0, none⟩)] w' fun e w'' => e = .returned (.bool q) ∧ Below w'.heap.size w' w'' from fun w' hw' => by subst hw'; exact fits_calls hM0 (b := W.heap.size + 1) (Ab := Ab) (cb := cb) (Cap.below (mkW_cap W (⟨a0, a1, a2, a3, a4, a5⟩ : Key) A4 c4 (some ad) c5 m0 m1 m2 Ab cb lb pl la lu) (below_drew (Below.refl _ _))) (HL.out.below (below_drew (Below.refl _ _))) (Kd.C_drew HG.out.2) HG.out.1 _ y q B4 e4 B5 e5 (Below.refl _ _) hp hl4 hg4 hl5 hg5)
  clear hx0 hx1 hx2 hx3 hx4 hx5 hl4 hg4 hl5 hg5 hM0 hp
  have q0 : decide ((0 : Int) < (a5.length : Int)) = true := decide_eq_true (by omega)
  have q1 : decide (0 < a5.length) = true := decide_eq_true hq1
  have q2 : (0 < a5.length) = True := eq_true hq1
  have q3 : ((0 : Int) < (a5.length : Int)) = True := eq_true (by omega)
  clear hq1 he
  clear hL0 l4 g4 l5 g5 gb lc
  go_enter Tryz.func17, Tryz.ntmps17
  go_wp2
  refine start_ (n := 14) (S := fun w' => w'.cell? ⟨W.heap.size, 5, none⟩ = some (.slice (some ad) a5.length c5) ∧ w'.cell? ⟨W.heap.size + 1 + 1 + 1 + 1 + 1, 0, none⟩ = some (.func (.func 25) #[] #[.pointer (some ⟨W.heap.size + 1, 0, none⟩), .pointer (some ⟨W.heap.size + 1 + 1, 0, none⟩), .pointer (some ⟨W.heap.size + 1 + 1 + 1, 0, none⟩), .pointer (some ⟨W.heap.size + 1 + 1 + 1 + 1, 0, none⟩)]) ∧ w'.cell? ad = some (.int .i64 y.f0) ∧ w'.cell? ⟨ad.block, ad.off + 1, none⟩ = some (.int .i64 y.f1) ∧ w'.cell? ⟨ad.block, ad.off + 2, none⟩ = some (.string y.f2) ∧ w'.cell? ⟨ad.block, ad.off + 3, none⟩ = some (.string y.f3) ∧ w'.cell? ⟨ad.block, ad.off + 4, none⟩ = some (.slice B4 y.f4.length e4) ∧ w'.cell? ⟨ad.block, ad.off + 5, none⟩ = some (.slice B5 y.f5.length e5)) (ds := [10]) #[false, false, false, false, false, false, false, false, false, false, false, false, false, false] (by kernel_rfl) rfl rfl ⟨(blk_cell (blk_drew (mkW_key W (⟨a0, a1, a2, a3, a4, a5⟩ : Key) A4 c4 (some ad) c5 m0 m1 m2 Ab cb lb pl la lu)) 5), (blk_cell (blk_drew (mkW_cap W (⟨a0, a1, a2, a3, a4, a5⟩ : Key) A4 c4 (some ad) c5 m0 m1 m2 Ab cb lb pl la lu).f) 0), HE0.out, HE1.out, HE2.out, HE3.out, HE4.out, HE5.out⟩ (fun hHeld => ?_)
  refine pure_ (i := 0) (N := some 87) (v := ?_) (a' := ?_) #[true, false, false, false, false, false, false, false, false, false, false, false, false, false] rfl rfl (by kernel_rfl) (fun _ _ _ h => h) (Or.inl ⟨by rfl, ?_⟩) ?_ ?_
  rotate_left
  · intro w'
    go_simp
    with_reducible rfl
  rotate_left
  · simp only [Act.put, List.setIfInBounds_toArray, List.set_cons_zero, List.set_cons_succ, i64_w, i32_w]
    rfl
  refine take_ (i := 1) (N := some 88) (v := ?_) (a' := ?_) #[true, true, false, false, false, false, false, false, false, false, false, false, false, false] rfl rfl (by kernel_rfl) (fun _ _ _ h => h) (Or.inl ⟨by rfl, ?_⟩) hHeld ?_ ?_
  rotate_left
  · rintro w' ⟨s0, s1, s2, s3, s4, s5, s6, s7⟩
    go_simp
    with_reducible rfl
  rotate_left
  · simp only [Act.put, List.setIfInBounds_toArray, List.set_cons_zero, List.set_cons_succ, i64_w, i32_w]
    rfl
  refine pure_ (i := 2) (N := some 89) (v := ?_) (a' := ?_) #[true, true, true, false, false, false, false, false, false, false, false, false, false, false] rfl rfl (by kernel_rfl) (fun _ _ _ h => h) (Or.inl ⟨by rfl, ?_⟩) ?_ ?_
  rotate_left
  · intro w'
    go_simp
    with_reducible rfl
  rotate_left
  · simp only [Act.put, List.setIfInBounds_toArray, List.set_cons_zero, List.set_cons_succ, i64_w, i32_w]
    rfl
  refine pure_ (i := 3) (N := some 90) (v := ?_) (a' := ?_) #[true, true, true, true, false, false, false, false, false, false, false, false, false, false] rfl rfl (by kernel_rfl) (fun _ _ _ h => h) (Or.inl ⟨by rfl, ?_⟩) ?_ ?_
  rotate_left
  · intro w'
    go_simp
    with_reducible rfl
  rotate_left
  · simp only [Act.put, List.setIfInBounds_toArray, List.set_cons_zero, List.set_cons_succ, i64_w, i32_w]
    rfl
  refine pure_ (i := 4) (N := some 91) (v := ?_) (a' := ?_) #[true, true, true, true, true, false, false, false, false, false, false, false, false, false] rfl rfl (by kernel_rfl) (fun _ _ _ h => h) (Or.inl ⟨by rfl, ?_⟩) ?_ ?_
  rotate_left
  · intro w'
    go_simp
    with_reducible rfl
  rotate_left
  · simp only [Act.put, List.setIfInBounds_toArray, List.set_cons_zero, List.set_cons_succ, i64_w, i32_w]
    rfl
  refine pure_ (i := 6) (N := some 93) (v := ?_) (a' := ?_) #[true, true, true, true, true, false, true, false, false, false, false, false, false, false] rfl rfl (by kernel_rfl) (fun _ _ _ h => h) (Or.inl ⟨by rfl, ?_⟩) ?_ ?_
  rotate_left
  · intro w'
    go_simp
    with_reducible rfl
  rotate_left
  · simp only [Act.put, List.setIfInBounds_toArray, List.set_cons_zero, List.set_cons_succ, i64_w, i32_w]
    rfl
  refine take_ (i := 5) (N := some 92) (v := ?_) (a' := ?_) #[true, true, true, true, true, true, true, false, false, false, false, false, false, false] rfl rfl (by kernel_rfl) (fun _ _ _ h => h) (Or.inl ⟨by rfl, ?_⟩) hHeld ?_ ?_
  rotate_left
  · rintro w' ⟨s0, s1, s2, s3, s4, s5, s6, s7⟩
    go_simp
    with_reducible rfl
  rotate_left
  · simp only [Act.put, List.setIfInBounds_toArray, List.set_cons_zero, List.set_cons_succ, i64_w, i32_w]
    rfl
  refine take_ (i := 7) (N := some 94) (v := ?_) (a' := ?_) #[true, true, true, true, true, true, true, true, false, false, false, false, false, false] rfl rfl (by kernel_rfl) (fun _ _ _ h => h) (Or.inl ⟨by rfl, ?_⟩) hHeld ?_ ?_
  rotate_left
  · rintro w' ⟨s0, s1, s2, s3, s4, s5, s6, s7⟩
    go_simp
    with_reducible rfl
  rotate_left
  · simp only [Act.put, List.setIfInBounds_toArray, List.set_cons_zero, List.set_cons_succ, i64_w, i32_w]
    rfl
  refine pure_ (i := 8) (N := some 95) (v := ?_) (a' := ?_) #[true, true, true, true, true, true, true, true, true, false, false, false, false, false] rfl rfl (by kernel_rfl) (fun _ _ _ h => h) (Or.inl ⟨by rfl, ?_⟩) ?_ ?_
  rotate_left
  · intro w'
    go_simp
    with_reducible rfl
  rotate_left
  · simp only [Act.put, List.setIfInBounds_toArray, List.set_cons_zero, List.set_cons_succ, i64_w, i32_w]
    rfl
  refine take_ (i := 9) (N := some 96) (v := ?_) (a' := ?_) #[true, true, true, true, true, true, true, true, true, true, false, false, false, false] rfl rfl (by kernel_rfl) (fun _ _ _ h => h) (Or.inl ⟨by rfl, ?_⟩) hHeld ?_ ?_
  rotate_left
  · rintro w' ⟨s0, s1, s2, s3, s4, s5, s6, s7⟩
    go_simp
    with_reducible rfl
  rotate_left
  · simp only [Act.put, List.setIfInBounds_toArray, List.set_cons_zero, List.set_cons_succ, i64_w, i32_w]
    rfl
  refine last_ (i := 10) (N := some 97) #[true, true, true, true, true, true, true, true, true, true, true, false, false, false] rfl rfl (by kernel_rfl) (by decide) (fun K hK => ?_)
  refine goesV_ #[.pointer (some ⟨W.heap.size + 1, 0, none⟩), .pointer (some ⟨W.heap.size + 1 + 1, 0, none⟩), .pointer (some ⟨W.heap.size + 1 + 1 + 1, 0, none⟩), .pointer (some ⟨W.heap.size + 1 + 1 + 1 + 1, 0, none⟩)] #[.agg #[.int .i64 y.f0, .int .i64 y.f1, .string y.f2, .string y.f3, .slice B4 y.f4.length e4, .slice B5 y.f5.length e5]] Tryz.func25 (by kernel_rfl) rfl (by rfl) rfl rfl (by rfl) (by simp only [List.map_toArray, List.map_cons, List.map_nil]; rfl) ?_
  refine (HCL.out _ rfl).mono ?_
  rintro e w8 ⟨rfl, hb8⟩
  refine ⟨_, rfl, ?_⟩
  refine hK.out _ _ ?_
  clear hK K
  refine norm_ (a' := ?_) ?_ ?_
  rotate_left
  · show Act.put _ (some 97) _ = _
    simp only [Act.put, List.setIfInBounds_toArray, List.set_cons_zero, List.set_cons_succ, i64_w, i32_w]
    rfl
  refine pure_ (i := 11) (N := some 98) (v := ?_) (a' := ?_) #[true, true, true, true, true, true, true, true, true, true, true, true, false, false] rfl rfl (by kernel_rfl) (fun _ _ _ h => h) (Or.inl ⟨by rfl, ?_⟩) ?_ ?_
  rotate_left
  · intro w'
    go_simp
    with_reducible rfl
  rotate_left
  · simp only [Act.put, List.setIfInBounds_toArray, List.set_cons_zero, List.set_cons_succ, i64_w, i32_w]
    rfl
  refine pure_ (i := 12) (N := some 99) (v := ?_) (a' := ?_) #[true, true, true, true, true, true, true, true, true, true, true, true, true, false] rfl rfl (by kernel_rfl) (fun _ _ _ h => h) (Or.inl ⟨by rfl, ?_⟩) ?_ ?_
  rotate_left
  · intro w'
    go_simp
    with_reducible rfl
  rotate_left
  · simp only [Act.put, List.setIfInBounds_toArray, List.set_cons_zero, List.set_cons_succ, i64_w, i32_w]
    rfl
  refine pure_ (i := 13) (N := some 10) (v := ?_) (a' := ?_) #[true, true, true, true, true, true, true, true, true, true, true, true, true, true] rfl rfl (by kernel_rfl) (fun _ _ _ h => h) (Or.inl ⟨by rfl, ?_⟩) ?_ ?_
  rotate_left
  · intro w'
    go_simp
    with_reducible rfl
  rotate_left
  · simp only [Act.put, List.setIfInBounds_toArray, List.set_cons_zero, List.set_cons_succ, i64_w, i32_w]
    rfl
  refine done_ (by kernel_rfl) ?_
  go_wp2
  go_ret
  exact ⟨rfl, below_step (by repeat (first | exact HB.out | apply pw_below_drewN | apply below_drew1)) hb8⟩

set_option maxHeartbeats 8000000 in
set_option maxRecDepth 100000 in
theorem mat_10 {a0 a1 : Int} {a2 a3 : ByteArray} {a4 : List Rg} {a5 : List Key} {A4 A5 Ab : Option Addr} {c4 c5 cb : Nat} {W : World} {q : Bool} (hM0 : MatchC m0 m1 m2 lb pl la lu p) (hlen : 2 ≤ a5.length) (hp : anyP p (a5.take 2) = some q) (hL0 : Laid W) (l4 : a4.length ≤ c4) (g4 : Kd.C kRg W A4 a4.length a4) (l5 : a5.length ≤ c5) (g5 : Kd.C kKey W A5 a5.length a5) (gb : Kd.C (Kd.int .u8) W Ab lb.length lb) (lc : lb.length ≤ cb) (h1 : ¬ a0 = 1) (h2 : ¬ a0 = 2) (h3 : ¬ a0 = 3) (h4 : ¬ a0 = 4) (h5 : ¬ a0 = 5) (h6 : ¬ a0 = 6) (h7 : ¬ a0 = 7) (h8 : ¬ a0 = 8) (h9 : ¬ a0 = 9) (h10 : a0 = 10) :
    Calls Tryz.prog 17 #[.agg #[.int .i64 a0, .int .i64 a1, .string a2, .string a3, .slice A4 a4.length c4, .slice A5 a5.length c5], .agg #[.int .i64 m0, .int .i64 m1, .int .i64 m2, .slice Ab lb.length cb], .int .i64 pl, .int .i64 la, .int .i64 lu] W fun e w' => e = .returned (.bool q) ∧ Below W.heap.size W w' := by
  have HB := am (mkW_below W (⟨a0, a1, a2, a3, a4, a5⟩ : Key) A4 c4 A5 c5 m0 m1 m2 Ab cb lb pl la lu)
  have HL := am (hL0.below HB.out)
  have H4 := am (And.intro l4 (Kd.C_below g4 HB.out))
  have H5 := am (And.intro l5 (Kd.C_below g5 HB.out))
  have HG := am (And.intro lc (Kd.C_below gb HB.out))
  have b1 : (a0 == 1) = false := beq_eq_false_iff_ne.2 h1
  clear h1
  have b2 : (a0 == 2) = false := beq_eq_false_iff_ne.2 h2
  clear h2
  have b3 : (a0 == 3) = false := beq_eq_false_iff_ne.2 h3
  clear h3
  have b4 : (a0 == 4) = false := beq_eq_false_iff_ne.2 h4
  clear h4
  have b5 : (a0 == 5) = false := beq_eq_false_iff_ne.2 h5
  clear h5
  have b6 : (a0 == 6) = false := beq_eq_false_iff_ne.2 h6
  clear h6
  have b7 : (a0 == 7) = false := beq_eq_false_iff_ne.2 h7
  clear h7
  have b8 : (a0 == 8) = false := beq_eq_false_iff_ne.2 h8
  clear h8
  have b9 : (a0 == 9) = false := beq_eq_false_iff_ne.2 h9
  clear h9
  have b10 : (a0 == 10) = true := beq_iff_eq.2 h10
  clear h10
  have eg : ∀ args w, (callFunc 25 args).run Tryz.prog w = .ok (.enter 25 args) w := fun args w => enters_ Tryz.func25 (by kernel_rfl) (by kernel_rfl) args w
  have hcut := cut2 A5 c5 a5 2 (by omega) H5.out.1
  have HCL := am (show ∀ w' : World, w' = (mkW W (⟨a0, a1, a2, a3, a4, a5⟩ : Key) A4 c4 A5 c5 m0 m1 m2 Ab cb lb pl la lu).drew → Calls Tryz.prog 29 #[.slice A5 2 c5, .func (.func 25) #[] #[.pointer (some ⟨W.heap.size + 1, 0, none⟩), .pointer (some ⟨W.heap.size + 1 + 1, 0, none⟩), .pointer (some ⟨W.heap.size + 1 + 1 + 1, 0, none⟩), .pointer (some ⟨W.heap.size + 1 + 1 + 1 + 1, 0, none⟩)]] w' fun e w'' => e = .returned (.bool q) ∧ Below w'.heap.size w' w'' from fun w' hw' => by subst hw'; have hh_ := ContainsKey_calls p _ _ eg A5 c5 (a5.take 2) _ q (Kd.C_drew (Kd.C_take H5.out.2 (by omega))) (fits_calls hM0 (b := W.heap.size + 1) (Ab := Ab) (cb := cb) (Cap.below (mkW_cap W (⟨a0, a1, a2, a3, a4, a5⟩ : Key) A4 c4 A5 c5 m0 m1 m2 Ab cb lb pl la lu) (below_drew (Below.refl _ _))) (HL.out.below (below_drew (Below.refl _ _))) (Kd.C_drew HG.out.2) HG.out.1) hp; rw [show (a5.take 2).length = 2 by rw [List.length_take]; omega] at hh_; exact hh_)
  clear hM0 hp eg
  have q0 : ((a5.length : Int) < 2) = False := eq_false (by omega)
  have q1 : decide ((a5.length : Int) < 2) = false := decide_eq_false (by omega)
  have q5 := H5.out.1
  have q2 : ((2 : Int) ≤ (c5 : Int)) = True := eq_true (by omega)
  clear q5
  clear hlen
  clear hL0 l4 g4 l5 g5 gb lc
  go_enter Tryz.func17, Tryz.ntmps17
  go_wp2
  refine start_ (n := 10) (S := fun w' => w'.cell? ⟨W.heap.size, 5, none⟩ = some (.slice A5 a5.length c5) ∧ w'.cell? ⟨W.heap.size + 1 + 1 + 1 + 1 + 1, 0, none⟩ = some (.func (.func 25) #[] #[.pointer (some ⟨W.heap.size + 1, 0, none⟩), .pointer (some ⟨W.heap.size + 1 + 1, 0, none⟩), .pointer (some ⟨W.heap.size + 1 + 1 + 1, 0, none⟩), .pointer (some ⟨W.heap.size + 1 + 1 + 1 + 1, 0, none⟩)])) (ds := [8]) #[false, false, false, false, false, false, false, false, false, false] (by kernel_rfl) rfl rfl ⟨(blk_cell (blk_drew (mkW_key W (⟨a0, a1, a2, a3, a4, a5⟩ : Key) A4 c4 A5 c5 m0 m1 m2 Ab cb lb pl la lu)) 5), (blk_cell (blk_drew (mkW_cap W (⟨a0, a1, a2, a3, a4, a5⟩ : Key) A4 c4 A5 c5 m0 m1 m2 Ab cb lb pl la lu).f) 0)⟩ (fun hHeld => ?_)
  refine pure_ (i := 0) (N := some 102) (v := ?_) (a' := ?_) #[true, false, false, false, false, false, false, false, false, false] rfl rfl (by kernel_rfl) (fun _ _ _ h => h) (Or.inl ⟨by rfl, ?_⟩) ?_ ?_
  rotate_left
  · intro w'
    go_simp
    with_reducible rfl
  rotate_left
  · simp only [Act.put, List.setIfInBounds_toArray, List.set_cons_zero, List.set_cons_succ, i64_w, i32_w]
    rfl
  refine pure_ (i := 2) (N := some 104) (v := ?_) (a' := ?_) #[true, false, true, false, false, false, false, false, false, false] rfl rfl (by kernel_rfl) (fun _ _ _ h => h) (Or.inl ⟨by rfl, ?_⟩) ?_ ?_
  rotate_left
  · intro w'
    go_simp
    with_reducible rfl
  rotate_left
  · simp only [Act.put, List.setIfInBounds_toArray, List.set_cons_zero, List.set_cons_succ, i64_w, i32_w]
    rfl
  refine take_ (i := 1) (N := some 103) (v := ?_) (a' := ?_) #[true, true, true, false, false, false, false, false, false, false] rfl rfl (by kernel_rfl) (fun _ _ _ h => h) (Or.inl ⟨by rfl, ?_⟩) hHeld ?_ ?_
  rotate_left
  · rintro w' ⟨s0, s1⟩
    go_simp
    with_reducible rfl
  rotate_left
  · simp only [Act.put, List.setIfInBounds_toArray, List.set_cons_zero, List.set_cons_succ, i64_w, i32_w]
    rfl
  refine take_ (i := 3) (N := some 105) (v := ?_) (a' := ?_) #[true, true, true, true, false, false, false, false, false, false] rfl rfl (by kernel_rfl) (fun _ _ _ h => h) (Or.inl ⟨by rfl, ?_⟩) hHeld ?_ ?_
  rotate_left
  · rintro w' ⟨s0, s1⟩
    go_simp
    with_reducible rfl
  rotate_left
  · simp only [Act.put, List.setIfInBounds_toArray, List.set_cons_zero, List.set_cons_succ, i64_w, i32_w]
    rfl
  refine pure_ (i := 4) (N := some 106) (v := ?_) (a' := ?_) #[true, true, true, true, true, false, false, false, false, false] rfl rfl (by kernel_rfl) (fun _ _ _ h => h) (Or.inl ⟨by rfl, ?_⟩) ?_ ?_
  rotate_left
  · intro w'
    go_simp
    with_reducible rfl
  rotate_left
  · simp only [Act.put, List.setIfInBounds_toArray, List.set_cons_zero, List.set_cons_succ, i64_w, i32_w]
    rfl
  refine pure_ (i := 5) (N := some 107) (v := ?_) (a' := ?_) #[true, true, true, true, true, true, false, false, false, false] rfl rfl (by kernel_rfl) (fun _ _ _ h => h) (Or.inl ⟨by rfl, ?_⟩) ?_ ?_
  rotate_left
  · intro w'
    go_simp
    with_reducible rfl
  rotate_left
  · simp only [Act.put, List.setIfInBounds_toArray, List.set_cons_zero, List.set_cons_succ, i64_w, i32_w]
    rfl
  refine pure_ (i := 6) (N := some 108) (v := ?_) (a' := ?_) #[true, true, true, true, true, true, true, false, false, false] rfl rfl (by kernel_rfl) (fun _ _ _ h => h) (Or.inl ⟨by rfl, ?_⟩) ?_ ?_
  rotate_left
  · intro w'
    go_simp
    with_reducible rfl
  rotate_left
  · simp only [Act.put, List.setIfInBounds_toArray, List.set_cons_zero, List.set_cons_succ, i64_w, i32_w]
    rfl
  refine take_ (i := 7) (N := some 109) (v := ?_) (a' := ?_) #[true, true, true, true, true, true, true, true, false, false] rfl rfl (by kernel_rfl) (fun _ _ _ h => h) (Or.inl ⟨by rfl, ?_⟩) hHeld ?_ ?_
  rotate_left
  · rintro w' ⟨s0, s1⟩
    go_simp
    with_reducible rfl
  rotate_left
  · simp only [Act.put, List.setIfInBounds_toArray, List.set_cons_zero, List.set_cons_succ, i64_w, i32_w]
    rfl
  refine last_ (i := 8) (N := some 110) #[true, true, true, true, true, true, true, true, true, false] rfl rfl (by kernel_rfl) (by decide) (fun K hK => ?_)
  refine goes_ Tryz.func29 (by kernel_rfl) rfl #[.slice A5 2 c5, .func (.func 25) #[] #[.pointer (some ⟨W.heap.size + 1, 0, none⟩), .pointer (some ⟨W.heap.size + 1 + 1, 0, none⟩), .pointer (some ⟨W.heap.size + 1 + 1 + 1, 0, none⟩), .pointer (some ⟨W.heap.size + 1 + 1 + 1 + 1, 0, none⟩)]] (by rfl) rfl rfl (by simp only [List.map_toArray, List.map_cons, List.map_nil]; rfl) ?_
  refine (HCL.out _ rfl).mono ?_
  rintro e w8 ⟨rfl, hb8⟩
  refine ⟨_, rfl, ?_⟩
  refine hK.out _ _ ?_
  clear hK K
  refine norm_ (a' := ?_) ?_ ?_
  rotate_left
  · show Act.put _ (some 110) _ = _
    simp only [Act.put, List.setIfInBounds_toArray, List.set_cons_zero, List.set_cons_succ, i64_w, i32_w]
    rfl
  refine pure_ (i := 9) (N := some 10) (v := ?_) (a' := ?_) #[true, true, true, true, true, true, true, true, true, true] rfl rfl (by kernel_rfl) (fun _ _ _ h => h) (Or.inl ⟨by rfl, ?_⟩) ?_ ?_
  rotate_left
  · intro w'
    go_simp
    with_reducible rfl
  rotate_left
  · simp only [Act.put, List.setIfInBounds_toArray, List.set_cons_zero, List.set_cons_succ, i64_w, i32_w]
    rfl
  refine done_ (by kernel_rfl) ?_
  go_wp2
  go_ret
  exact ⟨rfl, below_step (by repeat (first | exact HB.out | apply pw_below_drewN | apply below_drew1)) hb8⟩

set_option maxHeartbeats 8000000 in
set_option maxRecDepth 100000 in
theorem mat_10s {a0 a1 : Int} {a2 a3 : ByteArray} {a4 : List Rg} {a5 : List Key} {A4 A5 Ab : Option Addr} {c4 c5 cb : Nat} {W : World} {q : Bool} (hM0 : MatchC m0 m1 m2 lb pl la lu p) (hlen : a5.length < 2) (hp : anyP p (a5.take a5.length) = some q) (hL0 : Laid W) (l4 : a4.length ≤ c4) (g4 : Kd.C kRg W A4 a4.length a4) (l5 : a5.length ≤ c5) (g5 : Kd.C kKey W A5 a5.length a5) (gb : Kd.C (Kd.int .u8) W Ab lb.length lb) (lc : lb.length ≤ cb) (h1 : ¬ a0 = 1) (h2 : ¬ a0 = 2) (h3 : ¬ a0 = 3) (h4 : ¬ a0 = 4) (h5 : ¬ a0 = 5) (h6 : ¬ a0 = 6) (h7 : ¬ a0 = 7) (h8 : ¬ a0 = 8) (h9 : ¬ a0 = 9) (h10 : a0 = 10) :
    Calls Tryz.prog 17 #[.agg #[.int .i64 a0, .int .i64 a1, .string a2, .string a3, .slice A4 a4.length c4, .slice A5 a5.length c5], .agg #[.int .i64 m0, .int .i64 m1, .int .i64 m2, .slice Ab lb.length cb], .int .i64 pl, .int .i64 la, .int .i64 lu] W fun e w' => e = .returned (.bool q) ∧ Below W.heap.size W w' := by
  have HB := am (mkW_below W (⟨a0, a1, a2, a3, a4, a5⟩ : Key) A4 c4 A5 c5 m0 m1 m2 Ab cb lb pl la lu)
  have HL := am (hL0.below HB.out)
  have H4 := am (And.intro l4 (Kd.C_below g4 HB.out))
  have H5 := am (And.intro l5 (Kd.C_below g5 HB.out))
  have HG := am (And.intro lc (Kd.C_below gb HB.out))
  have b1 : (a0 == 1) = false := beq_eq_false_iff_ne.2 h1
  clear h1
  have b2 : (a0 == 2) = false := beq_eq_false_iff_ne.2 h2
  clear h2
  have b3 : (a0 == 3) = false := beq_eq_false_iff_ne.2 h3
  clear h3
  have b4 : (a0 == 4) = false := beq_eq_false_iff_ne.2 h4
  clear h4
  have b5 : (a0 == 5) = false := beq_eq_false_iff_ne.2 h5
  clear h5
  have b6 : (a0 == 6) = false := beq_eq_false_iff_ne.2 h6
  clear h6
  have b7 : (a0 == 7) = false := beq_eq_false_iff_ne.2 h7
  clear h7
  have b8 : (a0 == 8) = false := beq_eq_false_iff_ne.2 h8
  clear h8
  have b9 : (a0 == 9) = false := beq_eq_false_iff_ne.2 h9
  clear h9
  have b10 : (a0 == 10) = true := beq_iff_eq.2 h10
  clear h10
  have eg : ∀ args w, (callFunc 25 args).run Tryz.prog w = .ok (.enter 25 args) w := fun args w => enters_ Tryz.func25 (by kernel_rfl) (by kernel_rfl) args w
  have hcut := cut2 A5 c5 a5 a5.length (by omega) H5.out.1
  have HCL := am (show ∀ w' : World, w' = (mkW W (⟨a0, a1, a2, a3, a4, a5⟩ : Key) A4 c4 A5 c5 m0 m1 m2 Ab cb lb pl la lu).drew → Calls Tryz.prog 29 #[.slice A5 a5.length c5, .func (.func 25) #[] #[.pointer (some ⟨W.heap.size + 1, 0, none⟩), .pointer (some ⟨W.heap.size + 1 + 1, 0, none⟩), .pointer (some ⟨W.heap.size + 1 + 1 + 1, 0, none⟩), .pointer (some ⟨W.heap.size + 1 + 1 + 1 + 1, 0, none⟩)]] w' fun e w'' => e = .returned (.bool q) ∧ Below w'.heap.size w' w'' from fun w' hw' => by subst hw'; have hh_ := ContainsKey_calls p _ _ eg A5 c5 (a5.take a5.length) _ q (Kd.C_drew (Kd.C_take H5.out.2 (by omega))) (fits_calls hM0 (b := W.heap.size + 1) (Ab := Ab) (cb := cb) (Cap.below (mkW_cap W (⟨a0, a1, a2, a3, a4, a5⟩ : Key) A4 c4 A5 c5 m0 m1 m2 Ab cb lb pl la lu) (below_drew (Below.refl _ _))) (HL.out.below (below_drew (Below.refl _ _))) (Kd.C_drew HG.out.2) HG.out.1) hp; rw [show (a5.take a5.length).length = a5.length by rw [List.length_take]; omega] at hh_; exact hh_)
  clear hM0 hp eg
  have q0 : ((a5.length : Int) < 2) = True := eq_true (by omega)
  have q1 : decide ((a5.length : Int) < 2) = true := decide_eq_true (by omega)
  have q5 := H5.out.1
  have q2 : ((a5.length : Int) ≤ (c5 : Int)) = True := eq_true (by omega)
  have q3 : (a5.length ≤ c5) = True := eq_true q5
  clear q5
  clear hlen
  clear hL0 l4 g4 l5 g5 gb lc
  go_enter Tryz.func17, Tryz.ntmps17
  go_wp2
  refine start_ (n := 10) (S := fun w' => w'.cell? ⟨W.heap.size, 5, none⟩ = some (.slice A5 a5.length c5) ∧ w'.cell? ⟨W.heap.size + 1 + 1 + 1 + 1 + 1, 0, none⟩ = some (.func (.func 25) #[] #[.pointer (some ⟨W.heap.size + 1, 0, none⟩), .pointer (some ⟨W.heap.size + 1 + 1, 0, none⟩), .pointer (some ⟨W.heap.size + 1 + 1 + 1, 0, none⟩), .pointer (some ⟨W.heap.size + 1 + 1 + 1 + 1, 0, none⟩)])) (ds := [8]) #[false, false, false, false, false, false, false, false, false, false] (by kernel_rfl) rfl rfl ⟨(blk_cell (blk_drew (mkW_key W (⟨a0, a1, a2, a3, a4, a5⟩ : Key) A4 c4 A5 c5 m0 m1 m2 Ab cb lb pl la lu)) 5), (blk_cell (blk_drew (mkW_cap W (⟨a0, a1, a2, a3, a4, a5⟩ : Key) A4 c4 A5 c5 m0 m1 m2 Ab cb lb pl la lu).f) 0)⟩ (fun hHeld => ?_)
  refine pure_ (i := 0) (N := some 102) (v := ?_) (a' := ?_) #[true, false, false, false, false, false, false, false, false, false] rfl rfl (by kernel_rfl) (fun _ _ _ h => h) (Or.inl ⟨by rfl, ?_⟩) ?_ ?_
  rotate_left
  · intro w'
    go_simp
    with_reducible rfl
  rotate_left
  · simp only [Act.put, List.setIfInBounds_toArray, List.set_cons_zero, List.set_cons_succ, i64_w, i32_w]
    rfl
  refine pure_ (i := 2) (N := some 104) (v := ?_) (a' := ?_) #[true, false, true, false, false, false, false, false, false, false] rfl rfl (by kernel_rfl) (fun _ _ _ h => h) (Or.inl ⟨by rfl, ?_⟩) ?_ ?_
  rotate_left
  · intro w'
    go_simp
    with_reducible rfl
  rotate_left
  · simp only [Act.put, List.setIfInBounds_toArray, List.set_cons_zero, List.set_cons_succ, i64_w, i32_w]
    rfl
  refine take_ (i := 1) (N := some 103) (v := ?_) (a' := ?_) #[true, true, true, false, false, false, false, false, false, false] rfl rfl (by kernel_rfl) (fun _ _ _ h => h) (Or.inl ⟨by rfl, ?_⟩) hHeld ?_ ?_
  rotate_left
  · rintro w' ⟨s0, s1⟩
    go_simp
    with_reducible rfl
  rotate_left
  · simp only [Act.put, List.setIfInBounds_toArray, List.set_cons_zero, List.set_cons_succ, i64_w, i32_w]
    rfl
  refine take_ (i := 3) (N := some 105) (v := ?_) (a' := ?_) #[true, true, true, true, false, false, false, false, false, false] rfl rfl (by kernel_rfl) (fun _ _ _ h => h) (Or.inl ⟨by rfl, ?_⟩) hHeld ?_ ?_
  rotate_left
  · rintro w' ⟨s0, s1⟩
    go_simp
    with_reducible rfl
  rotate_left
  · simp only [Act.put, List.setIfInBounds_toArray, List.set_cons_zero, List.set_cons_succ, i64_w, i32_w]
    rfl
  refine pure_ (i := 4) (N := some 106) (v := ?_) (a' := ?_) #[true, true, true, true, true, false, false, false, false, false] rfl rfl (by kernel_rfl) (fun _ _ _ h => h) (Or.inl ⟨by rfl, ?_⟩) ?_ ?_
  rotate_left
  · intro w'
    go_simp
    with_reducible rfl
  rotate_left
  · simp only [Act.put, List.setIfInBounds_toArray, List.set_cons_zero, List.set_cons_succ, i64_w, i32_w]
    rfl
  refine pure_ (i := 5) (N := some 107) (v := ?_) (a' := ?_) #[true, true, true, true, true, true, false, false, false, false] rfl rfl (by kernel_rfl) (fun _ _ _ h => h) (Or.inl ⟨by rfl, ?_⟩) ?_ ?_
  rotate_left
  · intro w'
    go_simp
    with_reducible rfl
  rotate_left
  · simp only [Act.put, List.setIfInBounds_toArray, List.set_cons_zero, List.set_cons_succ, i64_w, i32_w]
    rfl
  refine pure_ (i := 6) (N := some 108) (v := ?_) (a' := ?_) #[true, true, true, true, true, true, true, false, false, false] rfl rfl (by kernel_rfl) (fun _ _ _ h => h) (Or.inl ⟨by rfl, ?_⟩) ?_ ?_
  rotate_left
  · intro w'
    go_simp
    with_reducible rfl
  rotate_left
  · simp only [Act.put, List.setIfInBounds_toArray, List.set_cons_zero, List.set_cons_succ, i64_w, i32_w]
    rfl
  refine take_ (i := 7) (N := some 109) (v := ?_) (a' := ?_) #[true, true, true, true, true, true, true, true, false, false] rfl rfl (by kernel_rfl) (fun _ _ _ h => h) (Or.inl ⟨by rfl, ?_⟩) hHeld ?_ ?_
  rotate_left
  · rintro w' ⟨s0, s1⟩
    go_simp
    with_reducible rfl
  rotate_left
  · simp only [Act.put, List.setIfInBounds_toArray, List.set_cons_zero, List.set_cons_succ, i64_w, i32_w]
    rfl
  refine last_ (i := 8) (N := some 110) #[true, true, true, true, true, true, true, true, true, false] rfl rfl (by kernel_rfl) (by decide) (fun K hK => ?_)
  refine goes_ Tryz.func29 (by kernel_rfl) rfl #[.slice A5 a5.length c5, .func (.func 25) #[] #[.pointer (some ⟨W.heap.size + 1, 0, none⟩), .pointer (some ⟨W.heap.size + 1 + 1, 0, none⟩), .pointer (some ⟨W.heap.size + 1 + 1 + 1, 0, none⟩), .pointer (some ⟨W.heap.size + 1 + 1 + 1 + 1, 0, none⟩)]] (by rfl) rfl rfl (by simp only [List.map_toArray, List.map_cons, List.map_nil]; rfl) ?_
  refine (HCL.out _ rfl).mono ?_
  rintro e w8 ⟨rfl, hb8⟩
  refine ⟨_, rfl, ?_⟩
  refine hK.out _ _ ?_
  clear hK K
  refine norm_ (a' := ?_) ?_ ?_
  rotate_left
  · show Act.put _ (some 110) _ = _
    simp only [Act.put, List.setIfInBounds_toArray, List.set_cons_zero, List.set_cons_succ, i64_w, i32_w]
    rfl
  refine pure_ (i := 9) (N := some 10) (v := ?_) (a' := ?_) #[true, true, true, true, true, true, true, true, true, true] rfl rfl (by kernel_rfl) (fun _ _ _ h => h) (Or.inl ⟨by rfl, ?_⟩) ?_ ?_
  rotate_left
  · intro w'
    go_simp
    with_reducible rfl
  rotate_left
  · simp only [Act.put, List.setIfInBounds_toArray, List.set_cons_zero, List.set_cons_succ, i64_w, i32_w]
    rfl
  refine done_ (by kernel_rfl) ?_
  go_wp2
  go_ret
  exact ⟨rfl, below_step (by repeat (first | exact HB.out | apply pw_below_drewN | apply below_drew1)) hb8⟩

set_option maxHeartbeats 8000000 in
set_option maxRecDepth 100000 in
theorem mat_11 {a0 a1 : Int} {a2 a3 : ByteArray} {a4 : List Rg} {a5 : List Key} {A4 A5 Ab : Option Addr} {c4 c5 cb : Nat} {W : World} {q : Bool} (hM0 : MatchC m0 m1 m2 lb pl la lu p) (hp : anyP (notP p) a5 = some q) (hL0 : Laid W) (l4 : a4.length ≤ c4) (g4 : Kd.C kRg W A4 a4.length a4) (l5 : a5.length ≤ c5) (g5 : Kd.C kKey W A5 a5.length a5) (gb : Kd.C (Kd.int .u8) W Ab lb.length lb) (lc : lb.length ≤ cb) (h1 : ¬ a0 = 1) (h2 : ¬ a0 = 2) (h3 : ¬ a0 = 3) (h4 : ¬ a0 = 4) (h5 : ¬ a0 = 5) (h6 : ¬ a0 = 6) (h7 : ¬ a0 = 7) (h8 : ¬ a0 = 8) (h9 : ¬ a0 = 9) (h10 : ¬ a0 = 10) (h11 : a0 = 11) :
    Calls Tryz.prog 17 #[.agg #[.int .i64 a0, .int .i64 a1, .string a2, .string a3, .slice A4 a4.length c4, .slice A5 a5.length c5], .agg #[.int .i64 m0, .int .i64 m1, .int .i64 m2, .slice Ab lb.length cb], .int .i64 pl, .int .i64 la, .int .i64 lu] W fun e w' => e = .returned (.bool (!q)) ∧ Below W.heap.size W w' := by
  have HB := am (mkW_below W (⟨a0, a1, a2, a3, a4, a5⟩ : Key) A4 c4 A5 c5 m0 m1 m2 Ab cb lb pl la lu)
  have HL := am (hL0.below HB.out)
  have H4 := am (And.intro l4 (Kd.C_below g4 HB.out))
  have H5 := am (And.intro l5 (Kd.C_below g5 HB.out))
  have HG := am (And.intro lc (Kd.C_below gb HB.out))
  have b1 : (a0 == 1) = false := beq_eq_false_iff_ne.2 h1
  clear h1
  have b2 : (a0 == 2) = false := beq_eq_false_iff_ne.2 h2
  clear h2
  have b3 : (a0 == 3) = false := beq_eq_false_iff_ne.2 h3
  clear h3
  have b4 : (a0 == 4) = false := beq_eq_false_iff_ne.2 h4
  clear h4
  have b5 : (a0 == 5) = false := beq_eq_false_iff_ne.2 h5
  clear h5
  have b6 : (a0 == 6) = false := beq_eq_false_iff_ne.2 h6
  clear h6
  have b7 : (a0 == 7) = false := beq_eq_false_iff_ne.2 h7
  clear h7
  have b8 : (a0 == 8) = false := beq_eq_false_iff_ne.2 h8
  clear h8
  have b9 : (a0 == 9) = false := beq_eq_false_iff_ne.2 h9
  clear h9
  have b10 : (a0 == 10) = false := beq_eq_false_iff_ne.2 h10
  clear h10
  have b11 : (a0 == 11) = true := beq_iff_eq.2 h11
  clear h11
  have eg : ∀ args w, (callFunc 30 args).run Tryz.prog w = .ok (.enter 30 args) w := fun args w => enters_ Tryz.func30 (by kernel_rfl) (by kernel_rfl) args w
  have HCL := am (ContainsKey_calls (notP p) _ _ eg A5 c5 a5 (mkW W (⟨a0, a1, a2, a3, a4, a5⟩ : Key) A4 c4 A5 c5 m0 m1 m2 Ab cb lb pl la lu) q H5.out.2 (neg_calls hM0 (mkW_cap W (⟨a0, a1, a2, a3, a4, a5⟩ : Key) A4 c4 A5 c5 m0 m1 m2 Ab cb lb pl la lu) HL.out HG.out.2 HG.out.1) hp)
  clear hM0 hp eg
  clear hL0 l4 g4 l5 g5 gb lc
  go_enter Tryz.func17, Tryz.ntmps17
  go_wp2_with (go_at_call 29; refine HCL.out.mono ?_; rintro e w8 ⟨rfl, hb8⟩)
  go_ret
  exact ⟨rfl, below_step HB.out hb8⟩

set_option maxHeartbeats 8000000 in
set_option maxRecDepth 100000 in
theorem mat_12 {a0 a1 : Int} {a2 a3 : ByteArray} {a4 : List Rg} {a5 : List Key} {A4 A5 Ab : Option Addr} {c4 c5 cb : Nat} {W : World} (hL0 : Laid W) (l4 : a4.length ≤ c4) (g4 : Kd.C kRg W A4 a4.length a4) (l5 : a5.length ≤ c5) (g5 : Kd.C kKey W A5 a5.length a5) (gb : Kd.C (Kd.int .u8) W Ab lb.length lb) (lc : lb.length ≤ cb) (h1 : ¬ a0 = 1) (h2 : ¬ a0 = 2) (h3 : ¬ a0 = 3) (h4 : ¬ a0 = 4) (h5 : ¬ a0 = 5) (h6 : ¬ a0 = 6) (h7 : ¬ a0 = 7) (h8 : ¬ a0 = 8) (h9 : ¬ a0 = 9) (h10 : ¬ a0 = 10) (h11 : ¬ a0 = 11) :
    Calls Tryz.prog 17 #[.agg #[.int .i64 a0, .int .i64 a1, .string a2, .string a3, .slice A4 a4.length c4, .slice A5 a5.length c5], .agg #[.int .i64 m0, .int .i64 m1, .int .i64 m2, .slice Ab lb.length cb], .int .i64 pl, .int .i64 la, .int .i64 lu] W fun e w' => e = .returned (.bool false) ∧ Below W.heap.size W w' := by
  have HB := am (mkW_below W (⟨a0, a1, a2, a3, a4, a5⟩ : Key) A4 c4 A5 c5 m0 m1 m2 Ab cb lb pl la lu)
  have HL := am (hL0.below HB.out)
  have H4 := am (And.intro l4 (Kd.C_below g4 HB.out))
  have H5 := am (And.intro l5 (Kd.C_below g5 HB.out))
  have HG := am (And.intro lc (Kd.C_below gb HB.out))
  have b1 : (a0 == 1) = false := beq_eq_false_iff_ne.2 h1
  clear h1
  have b2 : (a0 == 2) = false := beq_eq_false_iff_ne.2 h2
  clear h2
  have b3 : (a0 == 3) = false := beq_eq_false_iff_ne.2 h3
  clear h3
  have b4 : (a0 == 4) = false := beq_eq_false_iff_ne.2 h4
  clear h4
  have b5 : (a0 == 5) = false := beq_eq_false_iff_ne.2 h5
  clear h5
  have b6 : (a0 == 6) = false := beq_eq_false_iff_ne.2 h6
  clear h6
  have b7 : (a0 == 7) = false := beq_eq_false_iff_ne.2 h7
  clear h7
  have b8 : (a0 == 8) = false := beq_eq_false_iff_ne.2 h8
  clear h8
  have b9 : (a0 == 9) = false := beq_eq_false_iff_ne.2 h9
  clear h9
  have b10 : (a0 == 10) = false := beq_eq_false_iff_ne.2 h10
  clear h10
  have b11 : (a0 == 11) = false := beq_eq_false_iff_ne.2 h11
  clear h11
  clear hL0 l4 g4 l5 g5 gb lc
  go_enter Tryz.func17, Tryz.ntmps17
  go_wp2
  go_ret
  exact ⟨rfl, HB.out⟩

end Go.Proofs.YtejhfghijgbckaaGreatDoor
namespace Go.Proofs.YtejhfghijgbckaaGreatDoor
open Go.RowKit Go.Proofs.YtejhfghijgbckaaGreatDoor.P Go.Proofs.YtejhfghijgbckaaGreatDoorW.PrintWords Go.Proofs.YtejhfghijgbckaaGreatDoorW.PrintLast Go.Proofs.YtejhfghijgbckaaGreatDoorW.PrintMore
set_option linter.unusedVariables false
theorem matchF_calls (m0 m1 m2 : Int) (lb : List Int) (pl la lu : Int) : ∀ k, MatchC m0 m1 m2 lb pl la lu (matchF m0 m1 lb pl la lu k)
  | 0 => fun _ _ _ _ _ _ _ _ _ _ h _ _ _ _ _ _ => by simp [matchF] at h
  | k + 1 => by
    have ih := matchF_calls m0 m1 m2 lb pl la lu k
    intro W ⟨a0, a1, a2, a3, a4, a5⟩ q A4 c4 A5 c5 Ab cb hL h l4 g4 l5 g5 gb lc
    unfold matchF at h
    dsimp only at h l4 g4 l5 g5 ⊢
    by_cases h1 : a0 = 1
    · rw [if_pos h1] at h; obtain rfl := Option.some.inj h; exact mat_1 hL l4 g4 l5 g5 gb lc h1
    rw [if_neg h1] at h
    by_cases h2 : a0 = 2
    · rw [if_pos h2] at h; obtain rfl := Option.some.inj h; exact mat_2 hL l4 g4 l5 g5 gb lc h1 h2
    rw [if_neg h2] at h
    by_cases h3 : a0 = 3
    · rw [if_pos h3] at h; obtain rfl := Option.some.inj h; exact mat_3 hL l4 g4 l5 g5 gb lc h1 h2 h3
    rw [if_neg h3] at h
    by_cases h4 : a0 = 4
    · rw [if_pos h4] at h; obtain rfl := Option.some.inj h; exact mat_4 hL l4 g4 l5 g5 gb lc h1 h2 h3 h4
    rw [if_neg h4] at h
    by_cases h5 : a0 = 5
    · rw [if_pos h5] at h; exact mat_5 h hL l4 g4 l5 g5 gb lc h1 h2 h3 h4 h5
    rw [if_neg h5] at h
    by_cases h6 : a0 = 6
    · rw [if_pos h6] at h
      obtain ⟨⟨v, b⟩, hg, h⟩ := Option.bind_eq_some_iff.1 h
      cases b with
      | true => exact mat_6 hg (by simpa using h) hL l4 g4 l5 g5 gb lc h1 h2 h3 h4 h5 h6
      | false => obtain rfl : false = q := by simpa using h
                 exact mat_6n hg hL l4 g4 l5 g5 gb lc h1 h2 h3 h4 h5 h6
    rw [if_neg h6] at h
    by_cases h7 : a0 = 7
    · rw [if_pos h7] at h; exact mat_7 h hL l4 g4 l5 g5 gb lc h1 h2 h3 h4 h5 h6 h7
    rw [if_neg h7] at h
    by_cases h8 : a0 = 8
    · rw [if_pos h8] at h; exact mat_8 h hL l4 g4 l5 g5 gb lc h1 h2 h3 h4 h5 h6 h7 h8
    rw [if_neg h8] at h
    by_cases h9 : a0 = 9
    · rw [if_pos h9] at h
      cases he : a5 with
      | nil =>
        rw [he] at h
        obtain rfl := Option.some.inj h
        subst he
        exact mat_9n hL l4 g4 l5 g5 gb lc rfl h1 h2 h3 h4 h5 h6 h7 h8 h9
      | cons y r =>
        rw [he] at h
        obtain ⟨b, hb, h⟩ := Option.bind_eq_some_iff.1 h
        obtain rfl := Option.some.inj h
        subst he
        exact mat_9 ih hb rfl hL l4 g4 l5 g5 gb lc h1 h2 h3 h4 h5 h6 h7 h8 h9
    rw [if_neg h9] at h
    by_cases h10 : a0 = 10
    · rw [if_pos h10] at h
      by_cases hl : 2 ≤ a5.length
      · exact mat_10 ih hl h hL l4 g4 l5 g5 gb lc h1 h2 h3 h4 h5 h6 h7 h8 h9 h10
      · refine mat_10s ih (by omega) ?_ hL l4 g4 l5 g5 gb lc h1 h2 h3 h4 h5 h6 h7 h8 h9 h10
        rw [List.take_of_length_le (by omega)] at h ⊢
        exact h
    rw [if_neg h10] at h
    by_cases h11 : a0 = 11
    · rw [if_pos h11] at h
      obtain ⟨b, hb, h⟩ := Option.bind_eq_some_iff.1 h
      obtain rfl := Option.some.inj h
      exact mat_11 ih hb hL l4 g4 l5 g5 gb lc h1 h2 h3 h4 h5 h6 h7 h8 h9 h10 h11
    rw [if_neg h11] at h
    obtain rfl := Option.some.inj h
    exact mat_12 hL l4 g4 l5 g5 gb lc h1 h2 h3 h4 h5 h6 h7 h8 h9 h10 h11
theorem find_Match.calls (k : Nat) (a0 a1 : Int) (a2 a3 : ByteArray) (A4 : Option Addr) (c4 : Nat) (a4 : List Rg) (A5 : Option Addr) (c5 : Nat) (a5 : List Key) (m0 m1 m2 : Int) (Ab : Option Addr) (cb : Nat) (lb : List Int) (pl la lu : Int) (r : Bool) (w : World)
    (g4 : Kd.C kRg w A4 a4.length a4) (l4 : a4.length ≤ c4) (g5 : Kd.C kKey w A5 a5.length a5) (l5 : a5.length ≤ c5) (gb : Kd.C (Kd.int .u8) w Ab lb.length lb) (lc : lb.length ≤ cb) (HL0 : Laid w) (h : find_Match.f k a0 a1 a2 a3 a4 a5 m0 m1 m2 lb pl la lu = some r) :
    Calls Tryz.prog 17 #[.agg #[.int .i64 a0, .int .i64 a1, .string a2, .string a3, .slice A4 a4.length c4, .slice A5 a5.length c5], .agg #[.int .i64 m0, .int .i64 m1, .int .i64 m2, .slice Ab lb.length cb], .int .i64 pl, .int .i64 la, .int .i64 lu] w fun e w' => e = .returned (.bool r) ∧ Below w.heap.size w w' :=
  matchF_calls m0 m1 m2 lb pl la lu k w ⟨a0, a1, a2, a3, a4, a5⟩ r A4 c4 A5 c5 Ab cb HL0 h l4 g4 l5 g5 gb lc
end Go.Proofs.YtejhfghijgbckaaGreatDoor
namespace Go.Proofs.YtejhfghijgbckaaGreatDoor
open Go.RowKit Go.Proofs.YtejhfghijgbckaaGreatDoor.P Go.Proofs.YtejhfghijgbckaaGreatDoorW.PrintWords Go.Proofs.YtejhfghijgbckaaGreatDoorW.PrintLast Go.Proofs.YtejhfghijgbckaaGreatDoorW.PrintMore
set_option linter.unusedVariables false
set_option linter.unusedSimpArgs false
def knownToks : List Tok := [⟨1, ⟨#[85, 78, 83, 69, 69, 78]⟩⟩, ⟨1, ⟨#[108, 97, 114, 103, 101, 114]⟩⟩, ⟨1, ⟨#[51]⟩⟩]
def letterboxlaw18_known.f (k : Nat) : Option Bool :=
  (find_Parse.f k knownToks).bind fun r => if r.2.2.2.2.2.2 = 0 then
    (find_Match.f k r.1 r.2.1 r.2.2.1 r.2.2.2.1 r.2.2.2.2.1 r.2.2.2.2.2.1 1 0 0 [102, 111, 117, 114] 1 1 1).bind fun t => if t = true then
      (find_Match.f k r.1 r.2.1 r.2.2.1 r.2.2.2.1 r.2.2.2.2.1 r.2.2.2.2.2.1 1 1 0 [102, 111, 117, 114] 1 1 1).bind fun u => if u = true then none else some true
    else none
  else none
theorem letterboxlaw18_known.mono (k : Nat) : LeO (letterboxlaw18_known.f k) (letterboxlaw18_known.f (k + 1)) := by
  unfold letterboxlaw18_known.f
  exact LeO.bind (find_Parse.mono _ _) fun _ => LeO.ite (LeO.bind (find_Match.mono _ _ _ _ _ _ _ _ _ _ _ _ _ _) fun _ => LeO.ite (LeO.bind (find_Match.mono _ _ _ _ _ _ _ _ _ _ _ _ _ _) fun _ => LeO.refl _) (LeO.refl _)) (LeO.refl _)
theorem toks_laid (w : World) : Kd.C kTok (w.alloc (.cells #[.int .i64 1, .string ⟨#[85, 78, 83, 69, 69, 78]⟩, .int .i64 1, .string ⟨#[108, 97, 114, 103, 101, 114]⟩, .int .i64 1, .string ⟨#[51]⟩] 42)) (some ⟨w.heap.size, 0, none⟩) 3 knownToks := by
  have hb := blk_new w (.cells #[.int .i64 1, .string ⟨#[85, 78, 83, 69, 69, 78]⟩, .int .i64 1, .string ⟨#[108, 97, 114, 103, 101, 114]⟩, .int .i64 1, .string ⟨#[51]⟩] 42)
  refine ⟨rfl, by decide, fun _ => ⟨_, rfl, fun j p hj => ?_⟩⟩
  match j, hj with
  | 0, hj =>
    obtain rfl := Option.some.inj hj
    refine ⟨_, rfl, k42_mk _ _, fun i u hi => ?_⟩
    match i, hi with
    | 0, hi => obtain rfl := Option.some.inj hi; exact blk_cell hb 0
    | 1, hi => obtain rfl := Option.some.inj hi; exact blk_cell hb 1
    | i + 2, hi => exact absurd hi (by simp)
  | 1, hj =>
    obtain rfl := Option.some.inj hj
    refine ⟨_, rfl, k42_mk _ _, fun i u hi => ?_⟩
    match i, hi with
    | 0, hi => obtain rfl := Option.some.inj hi; exact blk_cell hb 2
    | 1, hi => obtain rfl := Option.some.inj hi; exact blk_cell hb 3
    | i + 2, hi => exact absurd hi (by simp)
  | 2, hj =>
    obtain rfl := Option.some.inj hj
    refine ⟨_, rfl, k42_mk _ _, fun i u hi => ?_⟩
    match i, hi with
    | 0, hi => obtain rfl := Option.some.inj hi; exact blk_cell hb 4
    | 1, hi => obtain rfl := Option.some.inj hi; exact blk_cell hb 5
    | i + 2, hi => exact absurd hi (by simp)
  | j + 3, hj => exact absurd hj (by simp [knownToks])
set_option maxHeartbeats 8000000 in
set_option maxRecDepth 100000 in
theorem letterboxlaw18_known.calls (k : Nat) (r : Bool) (w : World) (HL0 : Laid w) (h : letterboxlaw18_known.f k = some r) :
    Calls Tryz.prog 14 #[] w fun e w' => e = .returned (.bool r) ∧ Below w.heap.size w w' := by
  obtain ⟨⟨r1, r2, r3, r4, r5, r6, r7⟩, hp, h⟩ := Option.bind_eq_some_iff.1 h
  by_cases c1 : r7 = 0
  case neg => rw [if_neg c1] at h; cases h
  rw [if_pos c1] at h
  subst c1
  obtain ⟨t, hm1, h⟩ := Option.bind_eq_some_iff.1 h
  cases t with
  | false => cases h
  | true =>
    obtain ⟨u, hm2, h⟩ := Option.bind_eq_some_iff.1 (show ((find_Match.f k r1 r2 r3 r4 r5 r6 1 1 0 [102, 111, 117, 114] 1 1 1).bind fun u => if u = true then none else some true) = some r from h)
    cases u with
    | true => cases h
    | false =>
      obtain rfl : true = r := by simpa using h
      have HB1 := am (below_alloc (Below.refl w.heap.size w) (.cells #[.int .i64 1, .string ⟨#[85, 78, 83, 69, 69, 78]⟩, .int .i64 1, .string ⟨#[108, 97, 114, 103, 101, 114]⟩, .int .i64 1, .string ⟨#[51]⟩] 42))
      have HT := am (toks_laid w)
      have HL := am HL0
      have HP := am hp
      have HM1 := am hm1
      have HM2 := am hm2
      clear HL0 hp hm1 hm2 h
      go_enter Tryz.func14, Tryz.ntmps14
      go_wp2_with (first | (go_at_call 11; refine (find_Parse.calls k _ _ knownToks _ _ _ _ _ _ _ _ HT.out (by decide) HP.out).mono ?_; rintro e w1 ⟨v4, v5, rfl, hr4, hr5, hb⟩; obtain ⟨A4, c4, rfl⟩ := Kd.R_slice hr4; obtain ⟨A5, c5, rfl⟩ := Kd.R_slice hr5; have HB2 := am (below_step HB1.out hb); have H4 := am (Kd.R_reads' hr4).2; have H5 := am (Kd.R_reads' hr5).2; clear hr4 hr5 hb; have hK := am (blk_new w1 (.cells #[.int .i64 r1, .int .i64 r2, .string r3, .string r4, .slice A4 r5.length c4, .slice A5 r6.length c5] 27)); obtain ⟨W2, hW2⟩ : ∃ W2, W2 = w1.alloc (.cells #[.int .i64 r1, .int .i64 r2, .string r3, .string r4, .slice A4 r5.length c4, .slice A5 r6.length c5] 27) := ⟨_, rfl⟩; have hconv := fun n c => run_convert_lit (P := Tryz.prog) (w1.alloc (.cells #[.int .i64 r1, .int .i64 r2, .string r3, .string r4, .slice A4 r5.length c4, .slice A5 r6.length c5] 27)) 35 5 (([102, 111, 117, 114] : List Int).map (Value.int .u8)).toArray n c Tryz.underlying35 Tryz.underlying5; have hC0 := litWorld_C (w1.alloc (.cells #[.int .i64 r1, .int .i64 r2, .string r3, .string r4, .slice A4 r5.length c4, .slice A5 r6.length c5] 27)) 5 [102, 111, 117, 114] (by simp); simp only [alloc_size_] at hC0 hconv; have hC := am hC0; clear hC0; have HB3 := am (below_step (below_alloc (Below.refl w1.heap.size w1) (.cells #[.int .i64 r1, .int .i64 r2, .string r3, .string r4, .slice A4 r5.length c4, .slice A5 r6.length c5] 27)) (litWorld_below (w1.alloc (.cells #[.int .i64 r1, .int .i64 r2, .string r3, .string r4, .slice A4 r5.length c4, .slice A5 r6.length c5] 27)) (([102, 111, 117, 114] : List Int).map (Value.int .u8)).toArray 5)); have hK3 := ((litWorld_below (w1.alloc (.cells #[.int .i64 r1, .int .i64 r2, .string r3, .string r4, .slice A4 r5.length c4, .slice A5 r6.length c5] 27)) (([102, 111, 117, 114] : List Int).map (Value.int .u8)).toArray 5).block w1.heap.size (blk_lt hK.out)).trans hK.out; generalize litWorld (w1.alloc (.cells #[.int .i64 r1, .int .i64 r2, .string r3, .string r4, .slice A4 r5.length c4, .slice A5 r6.length c5] 27)) _ 5 = w3 at hconv hC HB3 hK3; simp only [List.map_cons, List.map_nil] at hconv; have HK3 := am hK3; clear hK3) | (go_at_call 17; (refine (find_Match.calls k r1 r2 r3 r4 _ _ r5 _ _ r6 1 0 0 _ _ [102, 111, 117, 114] 1 1 1 true _ (Kd.C_below H4.out.2 HB3.out) H4.out.1 (Kd.C_below H5.out.2 HB3.out) H5.out.1 hC.out (by decide) (HL.out.below (below_step HB2.out HB3.out)) HM1.out).mono ?_); rintro e w4 ⟨rfl, hb⟩; have HB4 := am (below_step HB3.out hb); have hK4 := (hb.block w1.heap.size (blk_lt HK3.out)).trans HK3.out; have hk0 := blk_cell hK4 0; have hk1 := blk_cell hK4 1; have hk2 := blk_cell hK4 2; have hk3 := blk_cell hK4 3; have hk4 := blk_cell hK4 4; have hk5 := blk_cell hK4 5; clear hK4 hb hconv hC; have hconv2 := fun n c => run_convert_lit (P := Tryz.prog) w4 35 5 (([102, 111, 117, 114] : List Int).map (Value.int .u8)).toArray n c Tryz.underlying35 Tryz.underlying5; have hC2 := am (litWorld_C w4 5 [102, 111, 117, 114] (by simp)); have HB5 := am (below_step HB4.out (litWorld_below w4 (([102, 111, 117, 114] : List Int).map (Value.int .u8)).toArray 5)); generalize litWorld w4 _ 5 = w5 at hconv2 hC2 HB5; simp only [List.map_cons, List.map_nil] at hconv2; clear HM1) | (go_at_call 17; (refine (find_Match.calls k r1 r2 r3 r4 _ _ r5 _ _ r6 1 1 0 _ _ [102, 111, 117, 114] 1 1 1 false _ (Kd.C_below H4.out.2 HB5.out) H4.out.1 (Kd.C_below H5.out.2 HB5.out) H5.out.1 hC2.out (by decide) (HL.out.below (below_step HB2.out HB5.out)) HM2.out).mono ?_); rintro e w6 ⟨rfl, hb⟩; have HB9 := am (below_step HB2.out (below_step HB5.out hb)); clear hb))
      go_ret
      exact ⟨rfl, HB9.out⟩
end Go.Proofs.YtejhfghijgbckaaGreatDoor
namespace Go.Proofs.YtejhfghijgbckaaGreatDoor
open Go.RowKit Go.Proofs.YtejhfghijgbckaaGreatDoor.P Go.Proofs.YtejhfghijgbckaaGreatDoorW.PrintWords Go.Proofs.YtejhfghijgbckaaGreatDoorW.PrintLast Go.Proofs.YtejhfghijgbckaaGreatDoorW.PrintMore
theorem known_small : letterboxlaw18_known.f 20 = some true := by kernel_rfl
theorem known_true : ∀ k, letterboxlaw18_known.f (20 + k) = some true
  | 0 => known_small
  | k + 1 => letterboxlaw18_known.mono (20 + k) true (known_true k)
end Go.Proofs.YtejhfghijgbckaaGreatDoor
