/- The parser of find: its state, and the methods that take a token, by hand. -/
import Derived.Test.YtejhfghijgbckaaGreatDoorShort
import Derived.Test.YtejhfghijgbckaaGreatDoorGx
import Derived.Test.YtejhfghijgbckaaGreatDoorPx0
import Derived.Test.YtejhfghijgbckaaGreatDoorPx2
import Derived.Test.YtejhfghijgbckaaGreatDoorFindLow
-- halved
namespace Go.Proofs.YtejhfghijgbckaaGreatDoor
open Go.RowKit Go.Proofs.YtejhfghijgbckaaGreatDoor.P Go.Proofs.YtejhfghijgbckaaGreatDoorW.PrintWords Go.Proofs.YtejhfghijgbckaaGreatDoorW.PrintLast Go.Proofs.YtejhfghijgbckaaGreatDoorW.PrintMore
set_option linter.unusedVariables false
set_option linter.unusedSimpArgs false
abbrev Tok := S42
abbrev kTok := k42
structure PaI (w0 w : World) (g : Nat) (l : List Tok) (bad : Bool) : Prop where
 below : Below w0.heap.size w0 w
 ge : w0.heap.size ≤ g
 blk : ∃ A c, w.heap[g]? = some (.cells #[.slice A l.length c, .bool bad] 56 (0, 0)) ∧ l.length ≤ c ∧ Kd.C kTok w0 A l.length l
variable {w0 w w1 : World} {g : Nat} {l : List Tok} {bad : Bool}
theorem PaI.lt (h : PaI w0 w g l bad) : g < w.heap.size := by obtain ⟨_, _, hb, _⟩ := h.blk; exact blk_lt hb
theorem PaI.below_ (h : PaI w0 w g l bad) (hb : Below w.heap.size w w1) : PaI w0 w1 g l bad := by
 obtain ⟨A, c, h1, h2⟩ := h.blk
 exact ⟨below_step h.below hb, h.ge, A, c, (hb.block _ (blk_lt h1)).trans h1, h2⟩
theorem PaI.drewN (h : PaI w0 w g l bad) (n : Nat) : PaI w0 (w.drewN n) g l bad := ⟨pw_below_drewN h.below n, h.ge, h.blk⟩
theorem PaI.drew (h : PaI w0 w g l bad) : PaI w0 w.drew g l bad := ⟨below_drew h.below, h.ge, h.blk⟩
theorem PaI.set1 (h : PaI w0 w g l bad) (x : Bool) : PaI w0 (w.setCell ⟨g, 1, none⟩ (.bool x)) g l x := by
 obtain ⟨A, c, h1, h2⟩ := h.blk
 exact ⟨below_set h.below h.ge, h.ge, A, c, blk_set h1 1 _, h2⟩
theorem PaI.set0 (h : PaI w0 w g l bad) {A : Option Addr} {c : Nat} {l2 : List Tok} (hc : l2.length ≤ c) (hC : Kd.C kTok w0 A l2.length l2) : PaI w0 (w.setCell ⟨g, 0, none⟩ (.slice A l2.length c)) g l2 bad := by
 obtain ⟨A0, c0, h1, h2⟩ := h.blk
 exact ⟨below_set h.below h.ge, h.ge, A, c, blk_set h1 0 _, hc, hC⟩
theorem PaI.alloc (h : PaI w0 w g l bad) (o : Obj) : PaI w0 (w.alloc o) g l bad := h.below_ (below_alloc (Below.refl w.heap.size w) o)
theorem numRow (k : IntKind) {w1 : World} {t : TypeId} (l : List Int) (hl : l.length ≤ 9223372036854775807) : Kd.C (Kd.int k) (w1.alloc (Obj.cells (l.map (Value.int k)).toArray t)) (some ⟨w1.heap.size, 0, none⟩) l.length l := by
 have hb : (w1.alloc (Obj.cells (l.map (Value.int k)).toArray t)).heap[w1.heap.size]? = some (.cells (l.map (Value.int k)).toArray t (0, 0)) := by show (w1.heap.push _)[w1.heap.size]? = _; rw [Array.getElem?_push_size]
 refine ⟨rfl, hl, fun _ => ⟨_, rfl, fun j p hj => ⟨[.int k p], rfl, rfl, fun i u hi => ?_⟩⟩⟩
 cases i with
 | succ i => exact absurd hi (by simp)
 | zero =>
  obtain rfl := Option.some.inj hi
  have hsz : (Kd.int k).sz = 1 := rfl
  rw [hsz, Nat.mul_one, Nat.add_zero, add_plain, blk_cell hb]
  simp [hj]
theorem keep_alloc_ (w : World) (o : Obj) (g : Nat) : KeepBut w (w.alloc o) g none := KeepBut.of_below (below_alloc (Below.refl _ _) o) g none
theorem keepN_ {u w : World} {g : Nat} {row : Option Nat} (h : KeepBut u w g row) (n : Nat) : KeepBut u (w.drewN n) g row := h
theorem keepD_ {u w : World} {g : Nat} {row : Option Nat} (h : KeepBut u w g row) : KeepBut u w.drew g row := h
def nextF (kinds : List Int) (l : List Tok) (bad : Bool) : ByteArray × List Tok × Bool :=
 match l with
 | [] => (⟨#[]⟩, [], true)
 | x :: r => if kinds.contains x.f0 = true then (x.f1, r, bad) else (⟨#[]⟩, [], true)
/-! ### Contains of ints -/
theorem index_l0 (l : List Int) (a : Int) (hl : l.length ≤ 100) : ∀ (m i k : Nat), i + m = l.length → m < k → ∃ r, G.slices_Index_int_int.l0 k l a l.length i = some r ∧ decide (r ≥ 0) = (l.drop i).contains a
 | 0, i, k, h, hk => by
  obtain ⟨k, rfl⟩ : ∃ k', k = k' + 1 := ⟨k - 1, by omega⟩
  refine ⟨-1, by rw [G.slices_Index_int_int.l0, if_neg (by omega)], ?_⟩
  rw [List.drop_of_length_le (by omega)]
  rfl
 | m + 1, i, k, h, hk => by
  obtain ⟨k, rfl⟩ : ∃ k', k = k' + 1 := ⟨k - 1, by omega⟩
  have hi : i < l.length := by omega
  have hr : rd l (i : Int) = l[i] := by
   unfold rd
   rw [Int.toNat_natCast, List.getD_eq_getElem?_getD, List.getElem?_eq_getElem hi]
   rfl
  have hw : wrap64 ((i : Int) + 1) = ((i + 1 : Nat) : Int) := by unfold wrap64; omega
  rw [G.slices_Index_int_int.l0, if_pos (by omega), if_pos (by omega), if_pos (by omega), hr, hw, List.drop_eq_getElem_cons hi, List.contains_cons]
  by_cases c : a = l[i]
  ·rw [if_pos c]
   exact ⟨_, rfl, by rw [decide_eq_true (by omega), beq_iff_eq.2 c]; rfl⟩
  ·rw [if_neg c, beq_eq_false_iff_ne.2 c, Bool.false_or]
   exact index_l0 l a hl m (i + 1) k (by omega) (by omega)
theorem contains_eq (l : List Int) (a : Int) (hl : l.length ≤ 100) : G.slices_Contains_int_int.f (l.length + 1) l a = some (l.contains a) := by
 obtain ⟨r, h1, h2⟩ := index_l0 l a hl l.length 0 (l.length + 1) (by omega) (by omega)
 unfold G.slices_Contains_int_int.f G.slices_Index_int_int.f
 rw [show (0 : Int) = ((0 : Nat) : Int) from rfl, h1, Option.bind_some]
 rw [List.drop_zero] at h2
 rw [← h2]
 rfl
set_option maxHeartbeats 8000000 in
set_option maxRecDepth 100000 in
theorem next_calls (kinds : List Int) (Ak : Option Addr) (ck : Nat) (hI0 : PaI w0 w g l bad) (hk0 : Kd.C (Kd.int .i64) w Ak kinds.length kinds) (hkc : kinds.length ≤ ck) (hk100 : kinds.length ≤ 100) :
  Calls Tryz.prog 51 #[.pointer (some ⟨g, 0, none⟩), .slice Ak kinds.length ck] w fun e w' => e = .returned (.string (nextF kinds l bad).1) ∧ PaI w0 w' g (nextF kinds l bad).2.1 (nextF kinds l bad).2.2 ∧ KeepBut w w' g none := by
 have HI := am hI0
 have HK := am hk0
 have HC := am (contains_eq kinds (rd_T42 l 0).f0 hk100)
 clear hk0 hk100
 obtain ⟨A, c, hb, hlc, hC⟩ := hI0.blk
 have hc0 := blk_cell hb 0
 have hc1 := blk_cell hb 1
 have hf0 := blk_frozen hb 0
 have hf1 := blk_frozen hb 1
 have hmx := Kd.C_max hC
 by_cases hl : l.length = 0
 ·obtain rfl := List.eq_nil_of_length_eq_zero hl
  have b1 : (((([] : List Tok).length : Nat) : Int) == 0) = true := rfl
  have HR : PaI w0 ((w.setCell ⟨g, 1, none⟩ (.bool true)).setCell ⟨g, 0, none⟩ (.slice none 0 0)) g [] true := (HI.out.set1 true).set0 (Nat.le_refl _) (Kd.C_nil _ _)
  have HR2 := am HR
  clear HR hb hI0 hC
  go_enter Tryz.func51, Tryz.ntmps51
  go_wp2
  go_ret
  exact ⟨rfl, by repeat (first | exact HR2.out | apply PaI.drewN | apply PaI.drew), (by repeat (first | exact KeepBut.refl _ _ _ | refine KeepBut.set_ ?_ _ _ | refine keepN_ ?_ _ | refine keepD_ ?_))⟩
 ·have hl0 : (0 : Int) < (l.length : Int) := by omega
  have b1 : ((l.length : Int) == 0) = false := beq_eq_false_iff_ne.2 (by omega)
  obtain ⟨ad, ea, hx0, hx1⟩ := at_T42 hC 0 (by omega) hl0
  cases ea
  have e_ : ad.add (Int.toNat 0 * 2) = ad := by rw [show ((0 : Int)).toNat = 0 from rfl, show 0 * 2 = 0 from rfl, Addr.add_zero']
  rw [e_] at hx0 hx1
  replace hx0 := (HI.out.below.cell (World.block_lt_of_cell? w0 _ hx0)).trans hx0
  replace hx1 := (HI.out.below.cell (World.block_lt_of_cell? w0 _ hx1)).trans hx1
  obtain ⟨x, r, rfl⟩ : ∃ x r, l = x :: r := by
   cases l with
   | nil => exact absurd rfl hl
   | cons x r => exact ⟨x, r, rfl⟩
  have hx : rd_T42 (x :: r) 0 = x := rfl
  rw [hx] at hx0 hx1
  have HC2 : Aside0 (G.slices_Contains_int_int.f (kinds.length + 1) kinds x.f0 = some (kinds.contains x.f0)) := HC
  clear HC e_ hx
  have q0 : (0 < (x :: r).length) = True := eq_true (by simp)
  have q1 : ((0 : Int) < ((x :: r).length : Int)) = True := eq_true hl0
  have hln : (x :: r).length = r.length + 1 := List.length_cons
  have b2 : ((r.length : Int) + 1 == 0) = false := beq_eq_false_iff_ne.2 (by omega)
  have q2 : ((0 : Int) < (r.length : Int) + 1) = True := eq_true (by omega)
  have q3 : (0 < r.length + 1) = True := eq_true (by omega)
  cases hk : kinds.contains x.f0 with
  | false =>
   have hn : nextF kinds (x :: r) bad = (⟨#[]⟩, [], true) := by show (if kinds.contains x.f0 = true then (x.f1, r, bad) else ((⟨#[]⟩ : ByteArray), ([] : List Tok), true)) = _; rw [hk]; rfl
   rw [hn]
   rw [hk] at HC2
   clear hb hI0 hC hn
   go_enter Tryz.func51, Tryz.ntmps51
   go_wp2_with (first | (go_at_call 77; refine (G.slices_Contains_int_int.calls _ Ak ck kinds x.f0 false _ HK.out hkc HC2.out).mono ?_; rintro e w2 ⟨rfl, nd, rfl⟩))
   go_ret
   exact ⟨rfl, ((HI.out.drewN _).set1 true).set0 (Nat.le_refl _) (Kd.C_nil _ _), (by repeat (first | exact KeepBut.refl _ _ _ | refine KeepBut.set_ ?_ _ _ | refine keepN_ ?_ _ | refine keepD_ ?_))⟩
  | true =>
   obtain ⟨i0, hi, _, hsz, _⟩ := info_parts info42
   have hcut := cut_from (P := Tryz.prog) 22 42 .i64 Tryz.underlying22 hi 2 hsz (some ad) (x :: r).length c 1 (by omega) (by omega)
   have hCd : Kd.C kTok w0 (if c = (1 : Int).toNat then some ad else (some ad).map (·.add ((1 : Int).toNat * 2))) r.length r := Kd.C_drop (m := 1) (c := c) hC (by omega) hlc
   generalize (if c = (1 : Int).toNat then some ad else (some ad).map (·.add ((1 : Int).toNat * 2))) = A2 at hcut hCd
   have hcut2 : ∀ W : World, (Instr.slice 22 (.slice (some ad) (r.length + 1) c) (some (.int .i64 1)) none none).run Tryz.prog W = .ok (.slice A2 r.length (c - 1)) W := hcut
   have hc1' : r.length ≤ c - 1 := by omega
   have HR2 := am (show ∀ n, PaI w0 ((w.drewN n).setCell ⟨g, 0, none⟩ (.slice A2 r.length (c - 1))) g r bad from fun n => (HI.out.drewN n).set0 hc1' hCd)
   clear hcut
   have hn : nextF kinds (x :: r) bad = (x.f1, r, bad) := by show (if kinds.contains x.f0 = true then (x.f1, r, bad) else ((⟨#[]⟩ : ByteArray), ([] : List Tok), true)) = _; rw [hk]; rfl
   rw [hn]
   rw [hk] at HC2
   clear hb hI0 hC hn hCd
   go_enter Tryz.func51, Tryz.ntmps51
   go_wp2_with (first | (go_at_call 77; refine (G.slices_Contains_int_int.calls _ Ak ck kinds x.f0 true _ HK.out hkc HC2.out).mono ?_; rintro e w2 ⟨rfl, nd, rfl⟩))
   go_ret
   exact ⟨rfl, HR2.out _, (by repeat (first | exact KeepBut.refl _ _ _ | refine KeepBut.set_ ?_ _ _ | refine keepN_ ?_ _ | refine keepD_ ?_))⟩
def isNextF (l : List Tok) (k : Int) : Bool := match l with | [] => false | x :: _ => x.f0 == k
set_option maxHeartbeats 8000000 in
set_option maxRecDepth 100000 in
theorem isNext_calls (k : Int) (hI0 : PaI w0 w g l bad) :
  Calls Tryz.prog 36 #[.pointer (some ⟨g, 0, none⟩), .int .i64 k] w fun e w' => e = .returned (.bool (isNextF l k)) ∧ PaI w0 w' g l bad ∧ KeepBut w w' g none := by
 have HI := am hI0
 obtain ⟨A, c, hb, hlc, hC⟩ := hI0.blk
 have hc0 := blk_cell hb 0
 cases l with
 | nil =>
  clear hb hI0 hC hlc
  go_enter Tryz.func36, Tryz.ntmps36
  go_wp2
  go_ret
  exact ⟨rfl, by repeat (first | exact HI.out | apply PaI.drewN | apply PaI.drew), (by repeat (first | exact KeepBut.refl _ _ _ | refine KeepBut.set_ ?_ _ _ | refine keepN_ ?_ _ | refine keepD_ ?_))⟩
 | cons x r =>
  obtain ⟨ad, ea, hx0, hx1⟩ := at_T42 hC 0 (by omega) (by simp)
  cases ea
  have e_ : ad.add (Int.toNat 0 * 2) = ad := by rw [show ((0 : Int)).toNat = 0 from rfl, show 0 * 2 = 0 from rfl, Addr.add_zero']
  rw [e_] at hx0 hx1
  replace hx0 := (HI.out.below.cell (World.block_lt_of_cell? w0 _ hx0)).trans hx0
  rw [show rd_T42 (x :: r) 0 = x from rfl] at hx0
  have q2 : ((0 : Int) < (r.length : Int) + 1) = True := eq_true (by omega)
  have q3 : (0 < r.length + 1) = True := eq_true (by omega)
  have q4 : decide ((0 : Int) < (r.length : Int) + 1) = true := decide_eq_true (by omega)
  show Calls _ _ _ _ fun e w' => e = .returned (.bool (x.f0 == k)) ∧ _ ∧ _
  clear hb hI0 hC hlc hx1 e_
  go_enter Tryz.func36, Tryz.ntmps36
  go_wp2
  go_ret
  exact ⟨by first | rfl | (simp; done), by repeat (first | exact HI.out | apply PaI.drewN | apply PaI.drew), (by repeat (first | exact KeepBut.refl _ _ _ | refine KeepBut.set_ ?_ _ _ | refine keepN_ ?_ _ | refine keepD_ ?_))⟩
theorem next1_arm (k : Int) (hI0 : PaI w0 w g l bad) (t : TypeId) :
  Calls Tryz.prog 51 #[.pointer (some ⟨g, 0, none⟩), .slice (some ⟨w.heap.size, 0, none⟩) 1 1] (w.alloc (Obj.cells #[.int .i64 k] t)) fun e w' => e = .returned (.string (nextF [k] l bad).1) ∧ PaI w0 w' g (nextF [k] l bad).2.1 (nextF [k] l bad).2.2 ∧ KeepBut w w' g none :=
 (next_calls [k] _ _ (hI0.alloc _) (numRow .i64 [k] (by simp)) (Nat.le_refl _) (by simp)).mono fun _ _ ⟨h1, h2, h3⟩ => ⟨h1, h2, (keep_alloc_ w _ g).trans h3 (.inl rfl)⟩
end Go.Proofs.YtejhfghijgbckaaGreatDoor
namespace Go.Proofs.YtejhfghijgbckaaGreatDoor
open Go.RowKit Go.Proofs.YtejhfghijgbckaaGreatDoor.P Go.Proofs.YtejhfghijgbckaaGreatDoorW.PrintWords Go.Proofs.YtejhfghijgbckaaGreatDoorW.PrintLast Go.Proofs.YtejhfghijgbckaaGreatDoorW.PrintMore
set_option linter.unusedVariables false
set_option linter.unusedSimpArgs false
variable {w0 w w1 : World} {g : Nat} {l : List Tok} {bad : Bool}
theorem next1' {k : Int} {s : ByteArray} {l1 : List Tok} {b1 : Bool} (hI0 : PaI w0 w g l bad) (hn : nextF [k] l bad = (s, l1, b1)) (t : TypeId) :
  Calls Tryz.prog 51 #[.pointer (some ⟨g, 0, none⟩), .slice (some ⟨w.heap.size, 0, none⟩) 1 1] (w.alloc (Obj.cells #[.int .i64 k] t)) fun e w' => e = .returned (.string s) ∧ PaI w0 w' g l1 b1 ∧ KeepBut w w' g none := by
 have h := next1_arm k hI0 t
 rw [hn] at h
 exact h
def numberF (l : List Tok) (bad : Bool) : Option (Int × List Tok × Bool) :=
 if (nextF [1] l bad).1.toList = ([] : List UInt8) then some (0, (nextF [1] l bad).2.1, true)
 else if ((nextF [1] l bad).1.size : Int) > 7 then some (0, (nextF [1] l bad).2.1, true)
 else (strings_Trim.f (nextF [1] l bad).1 (⟨#[48, 49, 50, 51, 52, 53, 54, 55, 56, 57]⟩ : ByteArray)).bind fun t =>
  if t.toList = ([] : List UInt8) then (strconv_Atoi.f (nextF [1] l bad).1).bind fun a => some (a.1, (nextF [1] l bad).2.1, (nextF [1] l bad).2.2)
  else some (0, (nextF [1] l bad).2.1, true)
theorem PaI.cell1 (h : PaI w0 w g l bad) : w.cell? ⟨g, 1, none⟩ = some (.bool bad) := by
 obtain ⟨A, c, hb, _⟩ := h.blk
 exact blk_cell hb 1
theorem PaI.thaw (h : PaI w0 w g l bad) (j : Nat) : w.frozen? ⟨g, j, none⟩ = false := by
 obtain ⟨A, c, hb, _⟩ := h.blk
 exact blk_frozen hb j
theorem keepB_ {u w w1 : World} {g : Nat} (h : KeepBut u w g none) (hb : Below w.heap.size w w1) : KeepBut u w1 g none := h.trans (KeepBut.of_below hb g none) (.inl rfl)
set_option maxHeartbeats 8000000 in
set_option maxRecDepth 100000 in
theorem number_calls {n : Int} {l' : List Tok} {b' : Bool} (hI0 : PaI w0 w g l bad) (h : numberF l bad = some (n, l', b')) :
  Calls Tryz.prog 55 #[.pointer (some ⟨g, 0, none⟩)] w fun e w' => e = .returned (.int .i64 n) ∧ PaI w0 w' g l' b' ∧ KeepBut w w' g none := by
 obtain ⟨s, l1, b1, hn⟩ : ∃ s l1 b1, nextF [1] l bad = (s, l1, b1) := ⟨_, _, _, rfl⟩
 unfold numberF at h
 rw [hn] at h
 have HI := am hI0
 have HN := am hn
 clear hI0 hn
 by_cases c1 : s.toList = ([] : List UInt8)
 ·rw [if_pos c1] at h
  have c1b : (s.toList == ([] : List UInt8)) = true := beq_iff_eq.mpr c1
  clear c1
  obtain ⟨rfl, rfl, rfl⟩ : 0 = n ∧ l1 = l' ∧ true = b' := by simpa using h
  clear h
  go_enter Tryz.func55, Tryz.ntmps55
  go_wp2_with (go_at_call 51; refine (next1' HI.out HN.out _).mono ?_; rintro e w2 ⟨rfl, h2, h3⟩; have HI2 := am h2; have HK2 := am h3; have hc2 := h2.cell1; have hf2 := h2.thaw 1; clear h2 h3)
  go_ret
  exact ⟨rfl, HI2.out.set1 true, HK2.out.set_ _ _⟩
 ·rw [if_neg c1] at h
  have c1b : (s.toList == ([] : List UInt8)) = false := beq_eq_false_iff_ne.mpr c1
  clear c1
  by_cases c2 : (s.size : Int) > 7
  ·rw [if_pos c2] at h
   have c2b : decide ((7 : Int) < (s.size : Int)) = true := decide_eq_true c2
   clear c2
   obtain ⟨rfl, rfl, rfl⟩ : 0 = n ∧ l1 = l' ∧ true = b' := by simpa using h
   clear h
   go_enter Tryz.func55, Tryz.ntmps55
   go_wp2_with (go_at_call 51; refine (next1' HI.out HN.out _).mono ?_; rintro e w2 ⟨rfl, h2, h3⟩; have HI2 := am h2; have HK2 := am h3; have hc2 := h2.cell1; have hf2 := h2.thaw 1; clear h2 h3)
   go_ret
   exact ⟨rfl, HI2.out.set1 true, HK2.out.set_ _ _⟩
  ·rw [if_neg c2] at h
   have c2b : decide ((7 : Int) < (s.size : Int)) = false := decide_eq_false c2
   clear c2
   obtain ⟨t, ht, h⟩ := Option.bind_eq_some_iff.1 h
   have HT := am ht
   clear ht
   by_cases c3 : t.toList = ([] : List UInt8)
   ·rw [if_pos c3] at h
    have c3b : (t.toList == ([] : List UInt8)) = true := beq_iff_eq.mpr c3
    have c3b' : (t.toList != ([] : List UInt8)) = false := bne_eq_false_iff_eq.mpr c3
    clear c3
    obtain ⟨⟨a1, a2⟩, ha, h⟩ := Option.bind_eq_some_iff.1 h
    have HA := am ha
    clear ha
    obtain ⟨rfl, rfl, rfl⟩ : a1 = n ∧ l1 = l' ∧ b1 = b' := by simpa using h
    clear h
    go_enter Tryz.func55, Tryz.ntmps55
    go_wp2_with (first | (go_at_call 51; refine (next1' HI.out HN.out _).mono ?_; rintro e w2 ⟨rfl, h2, h3⟩; have HI2 := am h2; have HK2 := am h3; clear h2 h3) | (go_at_call 68; refine (strings_Trim.calls _ _ _ _ HT.out).mono ?_; rintro e w3 ⟨rfl, hb3⟩; have HI3 := am (HI2.out.below_ hb3); have HK3 := am (keepB_ HK2.out hb3); clear hb3) | (go_at_call 79; refine (strconv_Atoi.calls _ _ _ _ HA.out).mono ?_; rintro e w4 ⟨rfl, hb4⟩; have HI4 := am (HI3.out.below_ hb4); have HK4 := am (keepB_ HK3.out hb4); clear hb4))
    go_ret
    exact ⟨rfl, HI4.out, HK4.out⟩
   ·rw [if_neg c3] at h
    have c3b : (t.toList == ([] : List UInt8)) = false := beq_eq_false_iff_ne.mpr c3
    have c3b' : (t.toList != ([] : List UInt8)) = true := bne_iff_ne.mpr c3
    clear c3
    obtain ⟨rfl, rfl, rfl⟩ : 0 = n ∧ l1 = l' ∧ true = b' := by simpa using h
    clear h
    go_enter Tryz.func55, Tryz.ntmps55
    go_wp2_with (first | (go_at_call 51; refine (next1' HI.out HN.out _).mono ?_; rintro e w2 ⟨rfl, h2, h3⟩; have HI2 := am h2; have HK2 := am h3; clear h2 h3) | (go_at_call 68; refine (strings_Trim.calls _ _ _ _ HT.out).mono ?_; rintro e w3 ⟨rfl, hb3⟩; have HI3 := am (HI2.out.below_ hb3); have HK3 := am (keepB_ HK2.out hb3); have hc3 := HI3.out.cell1; have hf3 := HI3.out.thaw 1; clear hb3))
    go_ret
    exact ⟨rfl, HI3.out.set1 true, HK3.out.set_ _ _⟩
end Go.Proofs.YtejhfghijgbckaaGreatDoor
namespace Go.Proofs.YtejhfghijgbckaaGreatDoor
open Go.RowKit Go.Proofs.YtejhfghijgbckaaGreatDoor.P Go.Proofs.YtejhfghijgbckaaGreatDoorW.PrintWords Go.Proofs.YtejhfghijgbckaaGreatDoorW.PrintLast Go.Proofs.YtejhfghijgbckaaGreatDoorW.PrintMore
set_option linter.unusedVariables false
set_option linter.unusedSimpArgs false
abbrev Key := S27
abbrev kKey := k27
abbrev Rg := S73
abbrev kRg := k73
abbrev KRes := Key × List Tok × Bool
def allL (K : List Tok → Bool → Option KRes) : Nat → List Key → List Tok → Bool → Option (List Key × List Tok × Bool)
 | 0, _, _, _ => none
 | n + 1, kids, l, bad =>
  if bad = true then some (kids, l, bad)
  else if kids.length = 0 then (K l bad).bind fun r => allL K n (kids ++ [r.1]) r.2.1 r.2.2
  else if l.length = 0 then some (kids, l, bad)
  else if isNextF l 4 = true then some (kids, l, bad)
  else (K l bad).bind fun r => allL K n (kids ++ [r.1]) r.2.1 r.2.2
def wordF (K : List Tok → Bool → Option KRes) (d : Int) (s word : ByteArray) (l : List Tok) (bad : Bool) : Option KRes :=
 (find_flag.f word).bind fun f => if f = 0 then
  (strings_TrimPrefix.f word (⟨#[117, 110]⟩ : ByteArray)).bind fun u => (find_flag.f u).bind fun f2 => if f2 = 0 then
   if word.toList = ([97, 108, 108] : List UInt8) then none
   else if word.toList = ([108, 97, 114, 103, 101, 114] : List UInt8) then (numberF l bad).bind fun r => some (⟨3, r.1, ⟨#[]⟩, ⟨#[]⟩, [], []⟩, r.2)
   else if word.toList = ([115, 109, 97, 108, 108, 101, 114] : List UInt8) then none
   else if word.toList = ([116, 101, 120, 116] : List UInt8) then none
   else if word.toList = ([115, 117, 98, 106, 101, 99, 116] : List UInt8) then none
   else if word.toList = ([102, 114, 111, 109] : List UInt8) then none
   else if word.toList = ([116, 111] : List UInt8) then none
   else if word.toList = ([117, 105, 100] : List UInt8) then none
   else if word.toList = ([110, 111, 116] : List UInt8) then none
   else if word.toList = ([111, 114] : List UInt8) then none
   else none
  else some (⟨9, 0, ⟨#[]⟩, ⟨#[]⟩, [], [⟨2, f2, ⟨#[]⟩, ⟨#[]⟩, [], []⟩]⟩, l, bad)
 else some (⟨2, f, ⟨#[]⟩, ⟨#[]⟩, [], []⟩, l, bad)
def keyF : Nat → Int → List Tok → Bool → Option KRes
 | 0, _, _, _ => none
 | k + 1, d, l, bad =>
  if isNextF l 3 = true then
   none
  else (find_small.f (nextF [1] l bad).1).bind fun word => wordF (keyF k (d + 1)) d (nextF [1] l bad).1 word (nextF [1] l bad).2.1 (nextF [1] l bad).2.2
/-! ### More rounds, the same answer -/
theorem allL_mono {K K' : List Tok → Bool → Option KRes} (h : ∀ l b, LeO (K l b) (K' l b)) : ∀ (n m : Nat) (kids : List Key) (l : List Tok) (b : Bool), n ≤ m → LeO (allL K n kids l b) (allL K' m kids l b)
 | 0, _, _, _, _, _ => fun _ hr => by simp [allL] at hr
 | n + 1, 0, _, _, _, hnm => by omega
 | n + 1, m + 1, kids, l, b, hnm => by
  have ih := allL_mono h n m
  unfold allL
  refine LeO.ite (LeO.refl _) (LeO.ite (LeO.bind (h _ _) fun _ => ih _ _ _ (by omega)) (LeO.ite (LeO.refl _) (LeO.ite (LeO.refl _) (LeO.bind (h _ _) fun _ => ih _ _ _ (by omega)))))
theorem wordF_mono {K K' : List Tok → Bool → Option KRes} (h : ∀ l b, LeO (K l b) (K' l b)) (d : Int) (s word : ByteArray) (l : List Tok) (b : Bool) : LeO (wordF K d s word l b) (wordF K' d s word l b) := by
 unfold wordF
 repeat' first
   | (with_reducible exact h _ _)
   | (with_reducible exact LeO.refl _)
   | (with_reducible refine LeO.ite ?_ ?_)
   | (with_reducible refine LeO.bind ?_ (fun _ => ?_))
theorem keyF_mono1 : ∀ (k : Nat) (d : Int) (l : List Tok) (b : Bool), LeO (keyF k d l b) (keyF (k + 1) d l b)
 | 0, _, _, _ => fun _ hr => by simp [keyF] at hr
 | k + 1, d, l, b => by
  have ih := keyF_mono1 k (d + 1)
  unfold keyF
  refine LeO.ite (LeO.refl _) (LeO.bind (LeO.refl _) fun _ => wordF_mono ih _ _ _ _ _)
theorem keyF_mono : ∀ (j k : Nat) (d : Int) (l : List Tok) (b : Bool), LeO (keyF k d l b) (keyF (k + j) d l b)
 | 0, _, _, _, _ => LeO.refl _
 | j + 1, k, d, l, b => (keyF_mono j k d l b).trans (keyF_mono1 (k + j) d l b)
/-! ### The words of the walks -/
abbrev zKey : Array Value := #[.int .i64 0, .int .i64 0, .string ⟨#[]⟩, .string ⟨#[]⟩, .slice none 0 0, .slice none 0 0]
structure Fr (w0 w wr : World) (g : Nat) (l : List Tok) (bad : Bool) : Prop where
 pa : PaI w0 wr g l bad
 keep : KeepBut w wr g none
 blk : wr.heap[w.heap.size]? = some (.cells zKey 27 (0, 0))
 gl : g < w.heap.size
section
variable {w0 w wr w2 : World} {g : Nat} {l l2 : List Tok} {bad b2 : Bool}
theorem Fr.start (h : PaI w0 w g l bad) : Fr w0 w (w.alloc (.cells zKey 27)) g l bad := ⟨h.alloc _, keep_alloc_ _ _ _, blk_new w _, h.lt⟩
theorem Fr.size (h : Fr w0 w wr g l bad) : w.heap.size < wr.heap.size := blk_lt h.blk
theorem Fr.step (h : Fr w0 w wr g l bad) (hp : PaI w0 w2 g l2 b2) (hk : KeepBut wr w2 g none) : Fr w0 w w2 g l2 b2 :=
 ⟨hp, h.keep.trans hk (.inl rfl), (hk.2 _ h.size (by have := h.gl; omega) (by simp)).trans h.blk, h.gl⟩
theorem Fr.below (h : Fr w0 w wr g l bad) (hb : Below wr.heap.size wr w2) : Fr w0 w w2 g l bad := h.step (h.pa.below_ hb) (KeepBut.of_below hb g none)
theorem Fr.cell (h : Fr w0 w wr g l bad) : wr.cell? ⟨w.heap.size, 0, none⟩ = some (.int .i64 0) ∧ wr.cell? ⟨w.heap.size, 1, none⟩ = some (.int .i64 0) ∧ wr.cell? ⟨w.heap.size, 2, none⟩ = some (.string ⟨#[]⟩) ∧ wr.cell? ⟨w.heap.size, 3, none⟩ = some (.string ⟨#[]⟩) ∧ wr.cell? ⟨w.heap.size, 4, none⟩ = some (.slice none 0 0) ∧ wr.cell? ⟨w.heap.size, 5, none⟩ = some (.slice none 0 0) :=
 ⟨blk_cell h.blk 0, blk_cell h.blk 1, blk_cell h.blk 2, blk_cell h.blk 3, blk_cell h.blk 4, blk_cell h.blk 5⟩
theorem Fr.thaw (h : Fr w0 w wr g l bad) (j : Nat) : wr.frozen? ⟨w.heap.size, j, none⟩ = false := blk_frozen h.blk j
end
def KeyPost (w0 w : World) (g : Nat) (x : Key) (l' : List Tok) (b' : Bool) (e : Ending) (w' : World) : Prop :=
 ∃ A4 c4 A5 c5, e = .returned (.agg #[.int .i64 x.f0, .int .i64 x.f1, .string x.f2, .string x.f3, .slice A4 x.f4.length c4, .slice A5 x.f5.length c5]) ∧
  Kd.R kRg 73 w' w.heap.size (fun _ => True) (.slice A4 x.f4.length c4) x.f4 ∧ Kd.R kKey 27 w' w.heap.size (fun _ => True) (.slice A5 x.f5.length c5) x.f5 ∧ PaI w0 w' g l' b' ∧ KeepBut w w' g none
def KeyC (w0 : World) (g : Nat) (K : List Tok → Bool → Option KRes) (d : Int) : Prop :=
 ∀ (w : World) (l : List Tok) (bad : Bool) (x : Key) (l' : List Tok) (b' : Bool), PaI w0 w g l bad → K l bad = some (x, l', b') →
  Calls Tryz.prog 37 #[.pointer (some ⟨g, 0, none⟩), .int .i64 d] w (KeyPost w0 w g x l' b')
theorem PaI.far {w0 w : World} {g : Nat} {l : List Tok} {bad : Bool} (h : PaI w0 w g l bad) {R : Nat} (hR : g < R) (j : Nat) (u : Value) : PaI w0 (w.setCell ⟨R, j, none⟩ u) g l bad := by
 obtain ⟨A, c, h1, h2⟩ := h.blk
 have hg : (⟨R, j, none⟩ : Addr).block ≠ g := by show R ≠ g; omega
 exact ⟨below_set h.below (by show w0.heap.size ≤ R; have := h.ge; omega), h.ge, A, c, (Below.heap_setCell w ⟨R, j, none⟩ u g (fun e => hg e.symm)).trans h1, h2⟩
theorem Fr.post0 {w0 w wr : World} {g : Nat} {l : List Tok} {bad : Bool} (h : Fr w0 w wr g l bad) (x : Key) {A4 A5 : Option Addr} {c4 c5 : Nat}
  (h4 : Kd.R kRg 73 wr (w.heap.size + 1) (fun _ => True) (.slice A4 x.f4.length c4) x.f4) (h5 : Kd.R kKey 27 wr (w.heap.size + 1) (fun _ => True) (.slice A5 x.f5.length c5) x.f5) (a0 a1 a2 a3 a4 a5 : Value) :
  Kd.R kRg 73 ((((((wr.setCell ⟨w.heap.size, 0, none⟩ a0).setCell ⟨w.heap.size, 1, none⟩ a1).setCell ⟨w.heap.size, 2, none⟩ a2).setCell ⟨w.heap.size, 3, none⟩ a3).setCell ⟨w.heap.size, 4, none⟩ a4).setCell ⟨w.heap.size, 5, none⟩ a5) w.heap.size (fun _ => True) (.slice A4 x.f4.length c4) x.f4 ∧ Kd.R kKey 27 ((((((wr.setCell ⟨w.heap.size, 0, none⟩ a0).setCell ⟨w.heap.size, 1, none⟩ a1).setCell ⟨w.heap.size, 2, none⟩ a2).setCell ⟨w.heap.size, 3, none⟩ a3).setCell ⟨w.heap.size, 4, none⟩ a4).setCell ⟨w.heap.size, 5, none⟩ a5) w.heap.size (fun _ => True) (.slice A5 x.f5.length c5) x.f5 ∧ PaI w0 ((((((wr.setCell ⟨w.heap.size, 0, none⟩ a0).setCell ⟨w.heap.size, 1, none⟩ a1).setCell ⟨w.heap.size, 2, none⟩ a2).setCell ⟨w.heap.size, 3, none⟩ a3).setCell ⟨w.heap.size, 4, none⟩ a4).setCell ⟨w.heap.size, 5, none⟩ a5) g l bad ∧ KeepBut w ((((((wr.setCell ⟨w.heap.size, 0, none⟩ a0).setCell ⟨w.heap.size, 1, none⟩ a1).setCell ⟨w.heap.size, 2, none⟩ a2).setCell ⟨w.heap.size, 3, none⟩ a3).setCell ⟨w.heap.size, 4, none⟩ a4).setCell ⟨w.heap.size, 5, none⟩ a5) g none := by
 have hk : ∀ {α : Type} {d : Kd α} {e : Nat} {v : Value} {xs : List α}, Kd.R d e wr (w.heap.size + 1) (fun _ => True) v xs → Kd.R d e ((((((wr.setCell ⟨w.heap.size, 0, none⟩ a0).setCell ⟨w.heap.size, 1, none⟩ a1).setCell ⟨w.heap.size, 2, none⟩ a2).setCell ⟨w.heap.size, 3, none⟩ a3).setCell ⟨w.heap.size, 4, none⟩ a4).setCell ⟨w.heap.size, 5, none⟩ a5) w.heap.size (fun _ => True) v xs := by
  intro α d e v xs hr
  have h0 : Kd.R d e wr w.heap.size (fun k => k ≠ w.heap.size) v xs := Kd.R_lower (Kd.R_mono (Kd.R_bound hr) (fun k hk => by have := hk.2.1; omega)) (by omega)
  have s_ : ∀ {W : World} (j : Nat) (u : Value), Kd.R d e W w.heap.size (fun k => k ≠ w.heap.size) v xs → Kd.R d e (W.setCell ⟨w.heap.size, j, none⟩ u) w.heap.size (fun k => k ≠ w.heap.size) v xs := fun j u hW => Kd.R_far (p := ⟨w.heap.size, j, none⟩) hW (fun k hk => hk) u
  exact Kd.R_mono (s_ 5 _ (s_ 4 _ (s_ 3 _ (s_ 2 _ (s_ 1 _ (s_ 0 _ h0)))))) (fun _ _ => trivial)
 have hg := h.gl
 refine ⟨hk h4, hk h5, (((((h.pa.far hg _ _).far hg _ _).far hg _ _).far hg _ _).far hg _ _).far hg _ _, ?_⟩
 exact keep_far (keep_far (keep_far (keep_far (keep_far (keep_far h.keep (Nat.le_refl _) _) (Nat.le_refl _) _) (Nat.le_refl _) _) (Nat.le_refl _) _) (Nat.le_refl _) _) (Nat.le_refl _) _
theorem Fr.post {w0 w wr : World} {g : Nat} {l : List Tok} {bad : Bool} (h : Fr w0 w wr g l bad) (x : Key) {A4 A5 : Option Addr} {c4 c5 : Nat}
  (h4 : Kd.R kRg 73 wr (w.heap.size + 1) (fun _ => True) (.slice A4 x.f4.length c4) x.f4) (h5 : Kd.R kKey 27 wr (w.heap.size + 1) (fun _ => True) (.slice A5 x.f5.length c5) x.f5) (a0 a1 a2 a3 a4 a5 : Value) :
  KeyPost w0 w g x l bad (.returned (.agg #[.int .i64 x.f0, .int .i64 x.f1, .string x.f2, .string x.f3, .slice A4 x.f4.length c4, .slice A5 x.f5.length c5])) ((((((wr.setCell ⟨w.heap.size, 0, none⟩ a0).setCell ⟨w.heap.size, 1, none⟩ a1).setCell ⟨w.heap.size, 2, none⟩ a2).setCell ⟨w.heap.size, 3, none⟩ a3).setCell ⟨w.heap.size, 4, none⟩ a4).setCell ⟨w.heap.size, 5, none⟩ a5) :=
 ⟨A4, c4, A5, c5, rfl, h.post0 x h4 h5 a0 a1 a2 a3 a4 a5⟩
def AllPost (w0 w : World) (g : Nat) (kids : List Key) (l' : List Tok) (b' : Bool) (e : Ending) (w' : World) : Prop :=
 ∃ A5 c5, e = .returned (.agg #[.int .i64 11, .int .i64 0, .string ⟨#[]⟩, .string ⟨#[]⟩, .slice none 0 0, .slice A5 kids.length c5]) ∧ Kd.R kKey 27 w' w.heap.size (fun _ => True) (.slice A5 kids.length c5) kids ∧ PaI w0 w' g l' b' ∧ KeepBut w w' g none
theorem Fr.postA {w0 w wr : World} {g : Nat} {l : List Tok} {bad : Bool} (h : Fr w0 w wr g l bad) (kids : List Key) {A5 : Option Addr} {c5 : Nat} (h5 : Kd.R kKey 27 wr (w.heap.size + 1) (fun _ => True) (.slice A5 kids.length c5) kids) (a0 a1 a2 a3 a4 a5 : Value) :
  AllPost w0 w g kids l bad (.returned (.agg #[.int .i64 11, .int .i64 0, .string ⟨#[]⟩, .string ⟨#[]⟩, .slice none 0 0, .slice A5 kids.length c5])) ((((((wr.setCell ⟨w.heap.size, 0, none⟩ a0).setCell ⟨w.heap.size, 1, none⟩ a1).setCell ⟨w.heap.size, 2, none⟩ a2).setCell ⟨w.heap.size, 3, none⟩ a3).setCell ⟨w.heap.size, 4, none⟩ a4).setCell ⟨w.heap.size, 5, none⟩ a5) :=
 ⟨A5, c5, rfl, (h.post0 (⟨11, 0, ⟨#[]⟩, ⟨#[]⟩, [], kids⟩ : Key) (A4 := none) (c4 := 0) (Kd.R_nil _ _ _ _ _) h5 a0 a1 a2 a3 a4 a5).2⟩
theorem row_keys {W : World} {base : Nat} {xs : List Key} {inner : List Value} (hrep : Reps (kKey.M W base (fun _ => True)) kKey.sz xs inner) (hbase : base ≤ W.heap.size) (hm : xs.length ≤ 9223372036854775807) :
  Kd.R kKey 27 (W.alloc (.cells inner.toArray 27)) base (fun _ => True) (.slice (some ⟨W.heap.size, 0, none⟩) xs.length xs.length) xs := by
 refine ⟨fun k hk => trivial, inner, ?_, ?_⟩
 ·have h2 := World.ownsRow_lit (base := base) (e := 27) (size := kKey.sz) W inner.toArray xs.length hbase (by simpa [maxLen] using hm) (by simpa using hrep.1)
  simpa using h2
 ·refine hrep.imp_ (fun p c hp => kKey.M_mono (fun k hk => ⟨trivial, fun he => ?_⟩) (Kd.M_below (kKey.M_bound hp) (below_alloc (Below.refl _ _) _)))
  have h3 : k = W.heap.size := by simpa [Value.ownBlock] using he
  have := hk.2.2.1
  omega
theorem row_one {W : World} {base : Nat} (x : Key) {v4 v5 : Value} (h4 : Kd.R kRg 73 W base (fun _ => True) v4 x.f4) (h5 : Kd.R kKey 27 W base (fun _ => True) v5 x.f5) (hbase : base ≤ W.heap.size) :
  Kd.R kKey 27 (W.alloc (.cells #[.int .i64 x.f0, .int .i64 x.f1, .string x.f2, .string x.f3, v4, v5] 27)) base (fun _ => True) (.slice (some ⟨W.heap.size, 0, none⟩) 1 1) [x] :=
 row_keys (xs := [x]) (inner := [.int .i64 x.f0, .int .i64 x.f1, .string x.f2, .string x.f3, v4, v5]) ((Reps.none _ _).snoc (k27_mkM W base _ x h4 h5) rfl) hbase (by simp)
theorem row_keep {α : Type} {d : Kd α} {e base : Nat} {W W2 : World} {v : Value} {xs : List α} {g : Nat} (h : Kd.R d e W base (fun _ => True) v xs) (hk : KeepBut W W2 g none) (hg : g < base) : Kd.R d e W2 base (fun _ => True) v xs :=
 Kd.R_mono (Kd.R_keep (ok := fun k => base ≤ k) (Kd.R_mono (Kd.R_bound h) (fun k hk => hk.2.1)) hk (fun k hk => by omega)) (fun _ _ => trivial)
theorem six_cells {W : World} {R : Nat} {t : TypeId} (hb : W.heap[R]? = some (.cells zKey t (0, 0))) (a0 a1 a2 a3 a4 a5 : Value) :
  let V := ((((((W.setCell ⟨R, 0, none⟩ a0).setCell ⟨R, 1, none⟩ a1).setCell ⟨R, 2, none⟩ a2).setCell ⟨R, 3, none⟩ a3).setCell ⟨R, 4, none⟩ a4).setCell ⟨R, 5, none⟩ a5)
  V.cell? ⟨R, 0, none⟩ = some a0 ∧ V.cell? ⟨R, 1, none⟩ = some a1 ∧ V.cell? ⟨R, 2, none⟩ = some a2 ∧ V.cell? ⟨R, 3, none⟩ = some a3 ∧ V.cell? ⟨R, 4, none⟩ = some a4 ∧ V.cell? ⟨R, 5, none⟩ = some a5 := by
 intro V
 have h : V.heap[R]? = some (.cells #[a0, a1, a2, a3, a4, a5] t (0, 0)) := by
  have h := blk_set (blk_set (blk_set (blk_set (blk_set (blk_set hb 0 a0) 1 a1) 2 a2) 3 a3) 4 a4) 5 a5
  exact h
 exact ⟨blk_cell h 0, blk_cell h 1, blk_cell h 2, blk_cell h 3, blk_cell h 4, blk_cell h 5⟩
end Go.Proofs.YtejhfghijgbckaaGreatDoor
namespace Go.Proofs.YtejhfghijgbckaaGreatDoor
open Go.RowKit Go.Proofs.YtejhfghijgbckaaGreatDoor.P Go.Proofs.YtejhfghijgbckaaGreatDoorW.PrintWords Go.Proofs.YtejhfghijgbckaaGreatDoorW.PrintLast Go.Proofs.YtejhfghijgbckaaGreatDoorW.PrintMore
set_option linter.unusedVariables false
set_option linter.unusedSimpArgs false
variable {w0 w : World} {g : Nat} {l : List Tok} {bad : Bool}
theorem KeyC.go {K : List Tok → Bool → Option KRes} {d : Int} (h : KeyC w0 g K d) {x : Key} {l' : List Tok} {b' : Bool} (hI : PaI w0 w g l bad) (hk : K l bad = some (x, l', b')) : Calls Tryz.prog 37 #[.pointer (some ⟨g, 0, none⟩), .int .i64 d] w (KeyPost w0 w g x l' b') := h _ _ _ _ _ _ hI hk
theorem isNext' {k : Int} {q : Bool} (hI0 : PaI w0 w g l bad) (hx : isNextF l k = q) : Calls Tryz.prog 36 #[.pointer (some ⟨g, 0, none⟩), .int .i64 k] w fun e w' => e = .returned (.bool q) ∧ PaI w0 w' g l bad ∧ KeepBut w w' g none := hx ▸ isNext_calls k hI0
set_option maxHeartbeats 8000000 in
set_option maxRecDepth 100000 in
theorem key_flag {d : Int} {s : ByteArray} {l1 : List Tok} {b1 : Bool} {word : ByteArray} {f : Int} (hI0 : PaI w0 w g l bad) (hx : isNextF l 3 = false) (hn : nextF [1] l bad = (s, l1, b1)) (hw : find_small.f s = some word) (hf : find_flag.f word = some f) (h0 : f ≠ 0) :
  Calls Tryz.prog 37 #[.pointer (some ⟨g, 0, none⟩), .int .i64 d] w (KeyPost w0 w g ⟨2, f, ⟨#[]⟩, ⟨#[]⟩, [], []⟩ l1 b1) := by
 have HF0 := am (Fr.start hI0)
 have HX := am hx
 have HN := am hn
 have HW := am hw
 have HG := am hf
 have c0 : (f == 0) = false := beq_eq_false_iff_ne.mpr h0
 have c0' : (f != 0) = true := bne_iff_ne.mpr h0
 clear h0
 clear hI0 hx hn hw hf
 go_enter Tryz.func37, Tryz.ntmps37
 go_wp2_with (first | (go_at_call 36; (with_reducible refine (isNext' HF0.out.pa HX.out).mono ?_); rintro e w1 ⟨rfl, h2, h3⟩; have HF1 := am (HF0.out.step h2 h3); clear h2 h3) | (go_at_call 51; (with_reducible refine (next1' HF1.out.pa HN.out _).mono ?_); rintro e w2 ⟨rfl, h2, h3⟩; have HF2 := am (HF1.out.step h2 h3); clear h2 h3) | (go_at_call 41; (with_reducible refine (find_small.calls _ _ _ HW.out).mono ?_); rintro e w3 ⟨rfl, hb⟩; have HF3 := am (HF2.out.below hb); clear hb) | (go_at_call 53; (with_reducible refine (find_flag.calls _ _ _ HG.out).mono ?_); rintro e w4 ⟨rfl, hd4⟩; have hb := hd4.below; clear hd4; have HF4 := am (HF3.out.below hb); clear hb; obtain ⟨hq0, hq1, hq2, hq3, hq4, hq5⟩ := HF4.out.cell; have hz0 := HF4.out.thaw 0; have hz1 := HF4.out.thaw 1; have hz2 := HF4.out.thaw 2; have hz3 := HF4.out.thaw 3; have hz4 := HF4.out.thaw 4; have hz5 := HF4.out.thaw 5))
 exact bodyPost_ret (v := .agg #[.int .i64 2, .int .i64 f, .string ⟨#[]⟩, .string ⟨#[]⟩, .slice none 0 0, .slice none 0 0]) (by obtain ⟨r0, r1, r2, r3, r4, r5⟩ := six_cells HF4.out.blk (.int .i64 2) (.int .i64 f) (.string ⟨#[]⟩) (.string ⟨#[]⟩) (.slice none 0 0) (.slice none 0 0); simp [results, Tryz.results37, go_sem, r0, r1, r2, r3, r4, r5]) rfl (HF4.out.post (⟨2, f, ⟨#[]⟩, ⟨#[]⟩, [], []⟩ : Key) (Kd.R_nil _ _ _ _ _) (Kd.R_nil _ _ _ _ _) _ _ _ _ _ _)

set_option maxHeartbeats 8000000 in
set_option maxRecDepth 100000 in
theorem key_unflag {d : Int} {s : ByteArray} {l1 : List Tok} {b1 : Bool} {word : ByteArray} {f : Int} (hI0 : PaI w0 w g l bad) (hx : isNextF l 3 = false) (hn : nextF [1] l bad = (s, l1, b1)) (hw : find_small.f s = some word) (hf : find_flag.f word = some f) (h0 : f = 0) {u : ByteArray} {f2 : Int} (ht : strings_TrimPrefix.f word (⟨#[117, 110]⟩ : ByteArray) = some u) (hf2 : find_flag.f u = some f2) (h1 : f2 ≠ 0) :
  Calls Tryz.prog 37 #[.pointer (some ⟨g, 0, none⟩), .int .i64 d] w (KeyPost w0 w g ⟨9, 0, ⟨#[]⟩, ⟨#[]⟩, [], [⟨2, f2, ⟨#[]⟩, ⟨#[]⟩, [], []⟩]⟩ l1 b1) := by
 have HF0 := am (Fr.start hI0)
 have HX := am hx
 have HN := am hn
 have HW := am hw
 have HG := am hf
 have c0 : (f == 0) = true := beq_iff_eq.mpr h0
 have c0' : (f != 0) = false := bne_eq_false_iff_eq.mpr h0
 clear h0
 have HT := am ht
 have HG2 := am hf2
 clear ht hf2
 have c1 : (f2 == 0) = false := beq_eq_false_iff_ne.mpr h1
 have c1' : (f2 != 0) = true := bne_iff_ne.mpr h1
 clear h1
 clear hI0 hx hn hw hf
 go_enter Tryz.func37, Tryz.ntmps37
 go_wp2_with (first | (go_at_call 36; (with_reducible refine (isNext' HF0.out.pa HX.out).mono ?_); rintro e w1 ⟨rfl, h2, h3⟩; have HF1 := am (HF0.out.step h2 h3); clear h2 h3) | (go_at_call 51; (with_reducible refine (next1' HF1.out.pa HN.out _).mono ?_); rintro e w2 ⟨rfl, h2, h3⟩; have HF2 := am (HF1.out.step h2 h3); clear h2 h3) | (go_at_call 41; (with_reducible refine (find_small.calls _ _ _ HW.out).mono ?_); rintro e w3 ⟨rfl, hb⟩; have HF3 := am (HF2.out.below hb); clear hb) | (go_at_call 53; (with_reducible refine (find_flag.calls _ _ _ HG.out).mono ?_); rintro e w4 ⟨rfl, hd4⟩; have hb := hd4.below; clear hd4; have HF4 := am (HF3.out.below hb); clear hb) | (go_at_call 54; (with_reducible refine (strings_TrimPrefix.calls _ _ _ _ HT.out).mono ?_); rintro e w5 ⟨rfl, hb⟩; have HF5 := am (HF4.out.below hb); clear hb) | (go_at_call 53; (with_reducible refine (find_flag.calls _ _ _ HG2.out).mono ?_); rintro e w6 ⟨rfl, hd6⟩; have hb := hd6.below; clear hd6; have HF6 := am (HF5.out.below hb); clear hb; have hs6 := am HF6.out.size; have HF7 := am (HF6.out.below (below_alloc (Below.refl _ _) (.cells #[.int .i64 2, .int .i64 f2, .string ⟨#[]⟩, .string ⟨#[]⟩, .slice none 0 0, .slice none 0 0] 27))); obtain ⟨hq0, hq1, hq2, hq3, hq4, hq5⟩ := HF7.out.cell; have hz0 := HF7.out.thaw 0; have hz1 := HF7.out.thaw 1; have hz2 := HF7.out.thaw 2; have hz3 := HF7.out.thaw 3; have hz4 := HF7.out.thaw 4; have hz5 := HF7.out.thaw 5))
 exact bodyPost_ret (v := .agg #[.int .i64 9, .int .i64 0, .string ⟨#[]⟩, .string ⟨#[]⟩, .slice none 0 0, .slice (some ⟨w6.heap.size, 0, none⟩) 1 1]) (by obtain ⟨r0, r1, r2, r3, r4, r5⟩ := six_cells HF7.out.blk (.int .i64 9) (.int .i64 0) (.string ⟨#[]⟩) (.string ⟨#[]⟩) (.slice none 0 0) (.slice (some ⟨w6.heap.size, 0, none⟩) 1 1); simp [results, Tryz.results37, go_sem, r0, r1, r2, r3, r4, r5]) rfl (HF7.out.post (⟨9, 0, ⟨#[]⟩, ⟨#[]⟩, [], [⟨2, f2, ⟨#[]⟩, ⟨#[]⟩, [], []⟩]⟩ : Key) (Kd.R_nil _ _ _ _ _) (row_one ⟨2, f2, ⟨#[]⟩, ⟨#[]⟩, [], []⟩ (Kd.R_nil _ _ _ _ _) (Kd.R_nil _ _ _ _ _) hs6.out) _ _ _ _ _ _)

set_option maxHeartbeats 8000000 in
set_option maxRecDepth 100000 in
theorem key_larger {d : Int} {s : ByteArray} {l1 : List Tok} {b1 : Bool} {word : ByteArray} {f : Int} (hI0 : PaI w0 w g l bad) (hx : isNextF l 3 = false) (hn : nextF [1] l bad = (s, l1, b1)) (hw : find_small.f s = some word) (hf : find_flag.f word = some f) (h0 : f = 0) {u : ByteArray} {f2 : Int} (ht : strings_TrimPrefix.f word (⟨#[117, 110]⟩ : ByteArray) = some u) (hf2 : find_flag.f u = some f2) (h1 : f2 = 0) (kall : ¬ word.toList = ([97, 108, 108] : List UInt8)) (klarger : word.toList = ([108, 97, 114, 103, 101, 114] : List UInt8)) {n : Int} {l2 : List Tok} {b2 : Bool} (hnum : numberF l1 b1 = some (n, l2, b2)) :
  Calls Tryz.prog 37 #[.pointer (some ⟨g, 0, none⟩), .int .i64 d] w (KeyPost w0 w g ⟨3, n, ⟨#[]⟩, ⟨#[]⟩, [], []⟩ l2 b2) := by
 have HF0 := am (Fr.start hI0)
 have HX := am hx
 have HN := am hn
 have HW := am hw
 have HG := am hf
 have c0 : (f == 0) = true := beq_iff_eq.mpr h0
 have c0' : (f != 0) = false := bne_eq_false_iff_eq.mpr h0
 clear h0
 have HT := am ht
 have HG2 := am hf2
 clear ht hf2
 have c1 : (f2 == 0) = true := beq_iff_eq.mpr h1
 have c1' : (f2 != 0) = false := bne_eq_false_iff_eq.mpr h1
 clear h1
 have ball : (word.toList == ([97, 108, 108] : List UInt8)) = false := beq_eq_false_iff_ne.mpr kall
 clear kall
 have blarger : (word.toList == ([108, 97, 114, 103, 101, 114] : List UInt8)) = true := beq_iff_eq.mpr klarger
 clear klarger
 have HNU := am hnum
 clear hnum
 clear hI0 hx hn hw hf
 go_enter Tryz.func37, Tryz.ntmps37
 go_wp2_with (first | (go_at_call 36; (with_reducible refine (isNext' HF0.out.pa HX.out).mono ?_); rintro e w1 ⟨rfl, h2, h3⟩; have HF1 := am (HF0.out.step h2 h3); clear h2 h3) | (go_at_call 51; (with_reducible refine (next1' HF1.out.pa HN.out _).mono ?_); rintro e w2 ⟨rfl, h2, h3⟩; have HF2 := am (HF1.out.step h2 h3); clear h2 h3) | (go_at_call 41; (with_reducible refine (find_small.calls _ _ _ HW.out).mono ?_); rintro e w3 ⟨rfl, hb⟩; have HF3 := am (HF2.out.below hb); clear hb) | (go_at_call 53; (with_reducible refine (find_flag.calls _ _ _ HG.out).mono ?_); rintro e w4 ⟨rfl, hd4⟩; have hb := hd4.below; clear hd4; have HF4 := am (HF3.out.below hb); clear hb) | (go_at_call 54; (with_reducible refine (strings_TrimPrefix.calls _ _ _ _ HT.out).mono ?_); rintro e w5 ⟨rfl, hb⟩; have HF5 := am (HF4.out.below hb); clear hb) | (go_at_call 53; (with_reducible refine (find_flag.calls _ _ _ HG2.out).mono ?_); rintro e w6 ⟨rfl, hd6⟩; have hb := hd6.below; clear hd6; have HF6 := am (HF5.out.below hb); clear hb) | (go_at_call 55; (with_reducible refine (number_calls HF6.out.pa HNU.out).mono ?_); rintro e w7 ⟨rfl, h2, h3⟩; have HF7 := am (HF6.out.step h2 h3); clear h2 h3; obtain ⟨hq0, hq1, hq2, hq3, hq4, hq5⟩ := HF7.out.cell; have hz0 := HF7.out.thaw 0; have hz1 := HF7.out.thaw 1; have hz2 := HF7.out.thaw 2; have hz3 := HF7.out.thaw 3; have hz4 := HF7.out.thaw 4; have hz5 := HF7.out.thaw 5))
 exact bodyPost_ret (v := .agg #[.int .i64 3, .int .i64 n, .string ⟨#[]⟩, .string ⟨#[]⟩, .slice none 0 0, .slice none 0 0]) (by obtain ⟨r0, r1, r2, r3, r4, r5⟩ := six_cells HF7.out.blk (.int .i64 3) (.int .i64 n) (.string ⟨#[]⟩) (.string ⟨#[]⟩) (.slice none 0 0) (.slice none 0 0); simp [results, Tryz.results37, go_sem, r0, r1, r2, r3, r4, r5]) rfl (HF7.out.post (⟨3, n, ⟨#[]⟩, ⟨#[]⟩, [], []⟩ : Key) (Kd.R_nil _ _ _ _ _) (Kd.R_nil _ _ _ _ _) _ _ _ _ _ _)
end Go.Proofs.YtejhfghijgbckaaGreatDoor
namespace Go.Proofs.YtejhfghijgbckaaGreatDoor
open Go.RowKit Go.Proofs.YtejhfghijgbckaaGreatDoor.P Go.Proofs.YtejhfghijgbckaaGreatDoorW.PrintWords Go.Proofs.YtejhfghijgbckaaGreatDoorW.PrintLast Go.Proofs.YtejhfghijgbckaaGreatDoorW.PrintMore
set_option linter.unusedVariables false
set_option linter.unusedSimpArgs false
theorem infoKey : (Tryz.prog.info? 27).map (fun i => (i.zero, i.size, i.bytes)) = some (some (.agg #[.int .i64 0, .int .i64 0, .string ⟨#[]⟩, .string ⟨#[]⟩, .slice none 0 0, .slice none 0 0]), 6, 96) := by kernel_rfl
theorem PaI.belowB {w0 w w1 : World} {g B : Nat} {l : List Tok} {bad : Bool} (h : PaI w0 w g l bad) (hb : Below B w w1) (hB : g < B) : PaI w0 w1 g l bad := by
 obtain ⟨A, c, h1, h2⟩ := h.blk
 exact ⟨h.below.trans (hb.mono (by have := h.ge; omega)), h.ge, A, c, (hb.block g hB).trans h1, h2⟩
abbrev aKey (v5 : Value) : Array Value := #[.int .i64 11, .int .i64 0, .string ⟨#[]⟩, .string ⟨#[]⟩, .slice none 0 0, v5]
structure AllI (w0 w wr : World) (g : Nat) (l : List Tok) (bad : Bool) (kids : List Key) (v5 : Value) : Prop where
 fr : Fr w0 w wr g l bad
 vblk : wr.heap[w.heap.size + 1]? = some (.cells (aKey v5) 27 (0, 0))
 row : Kd.R kKey 27 wr (w.heap.size + 2) (fun _ => True) v5 kids
section
variable {w0 w wr w2 : World} {g : Nat} {l l2 : List Tok} {bad b2 : Bool} {kids : List Key} {v5 : Value}
theorem alloc_size_ (w : World) (o : Obj) : (w.alloc o).heap.size = w.heap.size + 1 := by show (w.heap.push _).size = _; rw [Array.size_push]
theorem AllI.start (h : PaI w0 w g l bad) : AllI w0 w ((w.alloc (.cells zKey 27)).alloc (.cells (aKey (.slice none 0 0)) 27)) g l bad [] (.slice none 0 0) := by
 refine ⟨(Fr.start h).below (below_alloc (Below.refl _ _) _), ?_, Kd.R_nil _ _ _ _ _⟩
 have h := blk_new (w.alloc (.cells zKey 27)) (.cells (aKey (.slice none 0 0)) 27)
 rw [alloc_size_] at h
 exact h
theorem AllI.base1 (w : World) : w.heap.size + 1 ≤ w.heap.size + 2 := by omega
theorem AllI.size (h : AllI w0 w wr g l bad kids v5) : w.heap.size + 2 ≤ wr.heap.size := by have := blk_lt h.vblk; omega
theorem AllI.step (h : AllI w0 w wr g l bad kids v5) (hp : PaI w0 w2 g l2 b2) (hk : KeepBut wr w2 g none) : AllI w0 w w2 g l2 b2 kids v5 :=
 ⟨h.fr.step hp hk, (hk.2 _ (by have := h.size; omega) (by have := h.fr.gl; omega) (by simp)).trans h.vblk, row_keep h.row hk (by have := h.fr.gl; omega)⟩
theorem AllI.below (h : AllI w0 w wr g l bad kids v5) (hb : Below wr.heap.size wr w2) : AllI w0 w w2 g l bad kids v5 := h.step (h.fr.pa.below_ hb) (KeepBut.of_below hb g none)
theorem AllI.drewN (h : AllI w0 w wr g l bad kids v5) (n : Nat) : AllI w0 w (wr.drewN n) g l bad kids v5 := h.below (pw_below_drewN (Below.refl _ _) n)
theorem AllI.drew (h : AllI w0 w wr g l bad kids v5) : AllI w0 w wr.drew g l bad kids v5 := h.below (below_drew (Below.refl _ _))
theorem AllI.alloc (h : AllI w0 w wr g l bad kids v5) (o : Obj) : AllI w0 w (wr.alloc o) g l bad kids v5 := h.below (below_alloc (Below.refl _ _) o)
theorem AllI.vcell (h : AllI w0 w wr g l bad kids v5) : wr.cell? ⟨w.heap.size + 1, 5, none⟩ = some v5 := blk_cell h.vblk 5
theorem AllI.vcells (h : AllI w0 w wr g l bad kids v5) : wr.cell? ⟨w.heap.size + 1, 0, none⟩ = some (.int .i64 11) ∧ wr.cell? ⟨w.heap.size + 1, 1, none⟩ = some (.int .i64 0) ∧ wr.cell? ⟨w.heap.size + 1, 2, none⟩ = some (.string ⟨#[]⟩) ∧ wr.cell? ⟨w.heap.size + 1, 3, none⟩ = some (.string ⟨#[]⟩) ∧ wr.cell? ⟨w.heap.size + 1, 4, none⟩ = some (.slice none 0 0) :=
 ⟨blk_cell h.vblk 0, blk_cell h.vblk 1, blk_cell h.vblk 2, blk_cell h.vblk 3, blk_cell h.vblk 4⟩
theorem AllI.gcells (h : AllI w0 w wr g l bad kids v5) : ∃ A c, wr.cell? ⟨g, 0, none⟩ = some (.slice A l.length c) ∧ wr.cell? ⟨g, 1, none⟩ = some (.bool bad) := by
 obtain ⟨A, c, hb, _⟩ := h.fr.pa.blk
 exact ⟨A, c, blk_cell hb 0, blk_cell hb 1⟩
theorem AllI.own (h : AllI w0 w wr g l bad kids v5) : ∀ k, v5.ownBlock = some k → k < wr.heap.size := fun k hk => by
 obtain ⟨_, ho⟩ := Kd.R_own h.row
 exact own_lt ho k hk
theorem AllI.push (h : AllI w0 w wr g l bad kids v5) {x : Key} {v1 : Value} {w1 : World} (hr : Kd.R kKey 27 w1 (w.heap.size + 2) (fun _ => True) v1 (kids ++ [x])) (hb : Below (w.heap.size + 2) wr w1) : AllI w0 w (w1.setCell ⟨w.heap.size + 1, 5, none⟩ v1) g l bad (kids ++ [x]) v1 := by
 have hg := h.fr.gl
 have hv : w1.heap[w.heap.size + 1]? = some (.cells (aKey v5) 27 (0, 0)) := (hb.block _ (by omega)).trans h.vblk
 have hs := hb.size
 refine ⟨⟨(h.fr.pa.belowB hb (by omega)).far (by omega) _ _, ?_, ?_, hg⟩, ?_, ?_⟩
 ·refine keep_far ?_ (by show w.heap.size ≤ w.heap.size + 1; omega) _
  exact ⟨by have := h.fr.keep.1; omega, fun i hi hne hr' => ((hb.block i (by omega)).trans (h.fr.keep.2 i hi hne hr'))⟩
 ·exact (Below.heap_setCell w1 ⟨w.heap.size + 1, 5, none⟩ v1 w.heap.size (by show w.heap.size ≠ w.heap.size + 1; omega)).trans ((hb.block _ (by omega)).trans h.fr.blk)
 ·exact blk_set hv 5 v1
 ·exact Kd.R_mono (Kd.R_far (p := ⟨w.heap.size + 1, 5, none⟩) (ok := fun k => w.heap.size + 2 ≤ k) (Kd.R_mono (Kd.R_bound hr) (fun k hk => hk.2.1)) (fun k hk => by show k ≠ w.heap.size + 1; omega) _) (fun _ _ => trivial)
end
end Go.Proofs.YtejhfghijgbckaaGreatDoor
namespace Go.Proofs.YtejhfghijgbckaaGreatDoor
open Go.RowKit Go.Proofs.YtejhfghijgbckaaGreatDoor.P Go.Proofs.YtejhfghijgbckaaGreatDoorW.PrintWords Go.Proofs.YtejhfghijgbckaaGreatDoorW.PrintLast Go.Proofs.YtejhfghijgbckaaGreatDoorW.PrintMore
set_option linter.unusedVariables false
set_option linter.unusedSimpArgs false
set_option maxHeartbeats 8000000 in
set_option maxRecDepth 100000 in
theorem all_calls {w0 w : World} {g : Nat} {l : List Tok} {bad : Bool} {K : List Tok → Bool → Option KRes} {d : Int} (hK : KeyC w0 g K d) {n : Nat} (hn : n ≤ 1000000) {kids : List Key} {l' : List Tok} {b' : Bool} (hI0 : PaI w0 w g l bad) (h : allL K n [] l bad = some (kids, l', b')) :
  Calls Tryz.prog 22 #[.pointer (some ⟨g, 0, none⟩), .int .i64 d] w (AllPost w0 w g kids l' b') := by
 have HS := am (AllI.start hI0)
 have HK := am hK
 have H' := am h
 have HN := am hn
 clear hI0 hK h hn
 go_enter Tryz.func22, Tryz.ntmps22
 go_wp2
 go_loopg [] n (fun kq wq => ∃ (kids1 : List Key) (l1 : List Tok) (b1 : Bool) (v5 : Value), Aside0 (allL K kq kids1 l1 b1 = some (kids, l', b')) ∧ Aside0 (kids1.length + kq ≤ n) ∧ Aside0 (AllI w0 w wq g l1 b1 kids1 v5))
 case atStart => exact ⟨[], l, bad, .slice none 0 0, H', ⟨by simp⟩, HS⟩
 case round =>
  clear H' HS
  obtain ⟨kids1, l1, b1, v5, HR, HL, HA⟩ := hrel
  obtain ⟨A5, c5, rfl⟩ := Kd.R_slice HA.out.row
  cases gk with
  | zero => exact absurd HR.out (by simp [allL])
  | succ k1 =>
   have H := HR.out
   clear HR
   simp only [allL] at H
   obtain ⟨Ag, cg, hg0, hg1⟩ := HA.out.gcells
   obtain ⟨hv0, hv1, hv2, hv3, hv4⟩ := HA.out.vcells
   have hv5 := HA.out.vcell
   by_cases c1 : b1 = true
   ·subst c1
    rw [if_pos rfl] at H
    obtain ⟨rfl, rfl, rfl⟩ : kids1 = kids ∧ l1 = l' ∧ true = b' := by simpa using H
    clear H
    obtain ⟨hq0, hq1, hq2, hq3, hq4, hq5⟩ := HA.out.fr.cell
    have hz0 := HA.out.fr.thaw 0
    have hz1 := HA.out.fr.thaw 1
    have hz2 := HA.out.fr.thaw 2
    have hz3 := HA.out.fr.thaw 3
    have hz4 := HA.out.fr.thaw 4
    have hz5 := HA.out.fr.thaw 5
    go_wp2
    exact bodyPost_ret (v := .agg #[.int .i64 11, .int .i64 0, .string ⟨#[]⟩, .string ⟨#[]⟩, .slice none 0 0, .slice A5 kids1.length c5]) (by obtain ⟨r0, r1, r2, r3, r4, r5⟩ := six_cells (AllI.fr HA.out).blk (.int .i64 11) (.int .i64 0) (.string ⟨#[]⟩) (.string ⟨#[]⟩) (.slice none 0 0) (.slice A5 kids1.length c5); simp [results, Tryz.results22, go_sem, r0, r1, r2, r3, r4, r5]) rfl ((AllI.fr HA.out).postA kids1 (Kd.R_lower (AllI.row HA.out) (AllI.base1 w)) _ _ _ _ _ _)
   ·obtain rfl : b1 = false := Bool.eq_false_iff.mpr c1
    rw [if_neg c1] at H
    clear c1
    by_cases c2 : kids1.length = 0
    ·rw [if_pos c2] at H
     have c2b : ((kids1.length : Int) == 0) = true := beq_iff_eq.2 (by omega)
     clear c2
     obtain ⟨⟨x, l2, b2⟩, hk1, H⟩ := Option.bind_eq_some_iff.1 H
     have HK1 := am hk1
     have H' := am H
     clear hk1 H
     have HLE := am (show (kids1.length + 1) * 96 ≤ 140737488355328 by have := HL.out; have := HN.out; omega)
     go_wp2
     refine start_ (n := 9) (S := fun w' => w'.cell? ⟨w.heap.size + 1, 5, none⟩ = some (.slice A5 kids1.length c5)) (ds := [6, 8]) #[false, false, false, false, false, false, false, false, false] (by kernel_rfl) rfl rfl ((AllI.vcell (by repeat (first | exact HA.out | apply AllI.drewN | apply AllI.drew | apply AllI.alloc)))) (fun hHeld => ?_)
     refine pure_ (i := 0) (N := some 31) (v := ?_) (a' := ?_) #[true, false, false, false, false, false, false, false, false] rfl rfl (by kernel_rfl) (fun _ _ _ h => h) (Or.inl ⟨by rfl, ?_⟩) ?_ ?_
     rotate_left
     ·intro w'
      go_simp
      with_reducible rfl
     rotate_left
     ·simp only [Act.put, List.setIfInBounds_toArray, List.set_cons_zero, List.set_cons_succ, i64_w, i32_w]
      rfl
     refine pure_ (i := 2) (N := some 33) (v := ?_) (a' := ?_) #[true, false, true, false, false, false, false, false, false] rfl rfl (by kernel_rfl) (fun _ _ _ h => h) (Or.inl ⟨by rfl, ?_⟩) ?_ ?_
     rotate_left
     ·intro w'
      go_simp
      with_reducible rfl
     rotate_left
     ·simp only [Act.put, List.setIfInBounds_toArray, List.set_cons_zero, List.set_cons_succ, i64_w, i32_w]
      rfl
     refine pure_ (i := 3) (N := some 34) (v := ?_) (a' := ?_) #[true, false, true, true, false, false, false, false, false] rfl rfl (by kernel_rfl) (fun _ _ _ h => h) (Or.inl ⟨by rfl, ?_⟩) ?_ ?_
     rotate_left
     ·intro w'
      go_simp
      with_reducible rfl
     rotate_left
     ·simp only [Act.put, List.setIfInBounds_toArray, List.set_cons_zero, List.set_cons_succ, i64_w, i32_w]
      rfl
     refine take_ (i := 1) (N := some 32) (v := ?_) (a' := ?_) #[true, true, true, true, false, false, false, false, false] rfl rfl (by kernel_rfl) (fun _ _ _ h => h) (Or.inl ⟨by rfl, ?_⟩) hHeld ?_ ?_
     rotate_left
     ·intro w' s0
      go_simp
      with_reducible rfl
     rotate_left
     ·simp only [Act.put, List.setIfInBounds_toArray, List.set_cons_zero, List.set_cons_succ, i64_w, i32_w]
      rfl
     refine one_ (i := 4) (N := some 35) #[true, true, true, true, true, false, false, false, false] rfl rfl (by kernel_rfl) (by decide) (fun K hK => ?_)
     refine goes_ Tryz.func37 (by kernel_rfl) rfl #[.pointer (some ⟨g, 0, none⟩), .int .i64 d] (by rfl) rfl rfl (by simp only [List.map_toArray, List.map_cons, List.map_nil]; rfl) ?_
     with_reducible refine (KeyC.go HK.out (AllI.fr (by repeat (first | exact HA.out | apply AllI.drewN | apply AllI.drew | apply AllI.alloc))).pa HK1.out).mono ?_
     rintro e w8 ⟨A4, c4, B5, e5, rfl, hr4, hr5, h2, h3⟩
     refine ⟨_, rfl, ?_⟩
     have HE4 := am (Kd.R_lower (base' := w.heap.size + 2) (Kd.R_new' (u := (.slice A5 kids1.length c5 : Value)) hr4 (AllI.own (by repeat (first | exact HA.out | apply AllI.drewN | apply AllI.drew | apply AllI.alloc)))) (AllI.size (by repeat (first | exact HA.out | apply AllI.drewN | apply AllI.drew | apply AllI.alloc))))
     have HE5 := am (Kd.R_lower (base' := w.heap.size + 2) (Kd.R_new' (u := (.slice A5 kids1.length c5 : Value)) hr5 (AllI.own (by repeat (first | exact HA.out | apply AllI.drewN | apply AllI.drew | apply AllI.alloc)))) (AllI.size (by repeat (first | exact HA.out | apply AllI.drewN | apply AllI.drew | apply AllI.alloc))))
     have HA8 := am (AllI.step (by repeat (first | exact HA.out | apply AllI.drewN | apply AllI.drew | apply AllI.alloc)) h2 h3)
     clear hr4 hr5 h2 h3 HA HK1
     refine hK.out _ _ ((AllI.vcell (by repeat (first | exact HA8.out | apply AllI.drewN | apply AllI.drew | apply AllI.alloc)))) (fun hHeld => ?_)
     clear hK K
     refine norm_ (a' := ?_) ?_ ?_
     rotate_left
     ·show Act.put _ (some 35) _ = _
      simp only [Act.put, List.setIfInBounds_toArray, List.set_cons_zero, List.set_cons_succ, i64_w, i32_w]
      rfl
     refine one_ (i := 5) (N := some 36) #[true, true, true, true, true, true, false, false, false] rfl rfl (by kernel_rfl) (by decide) (fun K hK => ?_)
     refine value_ (w1 := ?_) (v := ?_) (by rfl) rfl ?_ ?_
     rotate_left 2
     ·go_simp
      constructor
      ·rfl
      ·rfl
     refine hK.out _ _ ((AllI.vcell (by repeat (first | exact HA8.out | apply AllI.drewN | apply AllI.drew | apply AllI.alloc)))) (fun hHeld => ?_)
     clear hK K
     refine norm_ (a' := ?_) ?_ ?_
     rotate_left
     ·show Act.put _ (some 36) _ = _
      simp only [Act.put, List.setIfInBounds_toArray, List.set_cons_zero, List.set_cons_succ, i64_w, i32_w]
      rfl
     refine last_ (i := 6) (N := some 37) #[true, true, true, true, true, true, true, false, false] rfl rfl (by kernel_rfl) (by decide) (fun K hK => ?_)
     (repeat first | rw [drew_alloc] | rw [drewN_alloc])
     refine Kd.R_append_step kKey (w0 := w8) (w.heap.size + 2) ?_ (.tmp 32) (.tmp 36) 25 27 (.agg #[.int .i64 0, .int .i64 0, .string ⟨#[]⟩, .string ⟨#[]⟩, .slice none 0 0, .slice none 0 0]) 96 ?_ Tryz.underlying25 infoKey rfl (by decide) (by omega) (.slice A5 kids1.length c5) kids1 x [.int .i64 x.f0, .int .i64 x.f1, .string x.f2, .string x.f3, .slice A4 x.f4.length c4, .slice B5 x.f5.length e5] (fun _ => True) (fun k => True ∧ some k ≠ (.slice A5 kids1.length c5 : Value).ownBlock) ?_ ?_ ?_ (fun _ hk => hk) ?_ ?_ ?_ ?_ ?_ ?_
     ·rfl
     ·rfl
     ·rfl
     ·first | rfl | (show Value.slice _ _ _ = Value.slice _ _ _; simp)
     ·exact k27_mkM _ _ _ x HE4.out HE5.out
     ·exact fun _ _ => trivial
     ·exact AllI.row (by repeat (first | exact HA8.out | apply AllI.drewN | apply AllI.drew | apply AllI.alloc))
     ·exact Below.refl _ _
     ·exact AllI.size (by repeat (first | exact HA8.out | apply AllI.drewN | apply AllI.drew | apply AllI.alloc))
     ·have := HLE.out; omega
     intro v1 w1 hr hb hg hat
     obtain ⟨n1_, A1_, c1_, ev1_⟩ : ∃ n A1 c1, v1 = .slice A1 n c1 := by obtain ⟨A1, c1, e⟩ := Kd.R_slice hr; exact ⟨_, A1, c1, e⟩
     subst ev1_
     have HP := am (AllI.push (by repeat (first | exact HA8.out | apply AllI.drewN | apply AllI.drew | apply AllI.alloc)) hr hb)
     have HV := am ((hb.block (w.heap.size + 1) (by omega)).trans (AllI.vblk (by repeat (first | exact HA8.out | apply AllI.drewN | apply AllI.drew | apply AllI.alloc))))
     clear hr hb hg hat
     refine hK.out _ _ ?_
     clear hK K
     refine norm_ (a' := ?_) ?_ ?_
     rotate_left
     ·show Act.put _ (some 37) _ = _
      simp only [Act.put, List.setIfInBounds_toArray, List.set_cons_zero, List.set_cons_succ, i64_w, i32_w]
      rfl
     refine pure_ (i := 7) (N := some 38) (v := ?_) (a' := ?_) #[true, true, true, true, true, true, true, true, false] rfl rfl (by kernel_rfl) (fun _ _ _ h => h) (Or.inl ⟨by rfl, ?_⟩) ?_ ?_
     rotate_left
     ·intro w'
      go_simp
      with_reducible rfl
     rotate_left
     ·simp only [Act.put, List.setIfInBounds_toArray, List.set_cons_zero, List.set_cons_succ, i64_w, i32_w]
      rfl
     refine last_ (i := 8) (N := none) #[true, true, true, true, true, true, true, true, true] rfl rfl (by kernel_rfl) (by decide) (fun K hK => ?_)
     have hb0_ := blk_cell HV.out 5
     have hb1_ := blk_frozen HV.out 5
     refine skip_ (w1 := ?_) (by rfl) rfl ?_ ?_
     rotate_left
     ·go_simp
      rfl
     refine hK.out _ _ ?_
     clear hK K
     refine done_ (by kernel_rfl) ?_
     go_wp2
     go_roundg k1
     case measure => have := HL.out; omega
     case rel => exact ⟨kids1 ++ [x], l2, b2, _, H', ⟨by rw [List.length_append, List.length_singleton]; have := HL.out; omega⟩, HP⟩
    ·rw [if_neg c2] at H
     have c2b : ((kids1.length : Int) == 0) = false := beq_eq_false_iff_ne.2 (by omega)
     clear c2
     by_cases c3 : l1.length = 0
     ·rw [if_pos c3] at H
      obtain rfl := List.eq_nil_of_length_eq_zero c3
      clear c3
      have c3b : decide ((0 : Int) < (([] : List Tok).length : Int)) = false := rfl
      obtain ⟨rfl, rfl, rfl⟩ : kids1 = kids ∧ [] = l' ∧ false = b' := by simpa using H
      clear H
      obtain ⟨hq0, hq1, hq2, hq3, hq4, hq5⟩ := HA.out.fr.cell
      have hz0 := HA.out.fr.thaw 0
      have hz1 := HA.out.fr.thaw 1
      have hz2 := HA.out.fr.thaw 2
      have hz3 := HA.out.fr.thaw 3
      have hz4 := HA.out.fr.thaw 4
      have hz5 := HA.out.fr.thaw 5
      go_wp2
      exact bodyPost_ret (v := .agg #[.int .i64 11, .int .i64 0, .string ⟨#[]⟩, .string ⟨#[]⟩, .slice none 0 0, .slice A5 kids1.length c5]) (by obtain ⟨r0, r1, r2, r3, r4, r5⟩ := six_cells (AllI.fr HA.out).blk (.int .i64 11) (.int .i64 0) (.string ⟨#[]⟩) (.string ⟨#[]⟩) (.slice none 0 0) (.slice A5 kids1.length c5); simp [results, Tryz.results22, go_sem, r0, r1, r2, r3, r4, r5]) rfl ((AllI.fr HA.out).postA kids1 (Kd.R_lower (AllI.row HA.out) (AllI.base1 w)) _ _ _ _ _ _)
     ·rw [if_neg c3] at H
      have c3b : decide ((0 : Int) < (l1.length : Int)) = true := decide_eq_true (by omega)
      have c3n : (0 < l1.length) = True := eq_true (by omega)
      have c3d : decide (0 < l1.length) = true := decide_eq_true (by omega)
      clear c3
      cases hx : isNextF l1 4 with
      | true =>
       rw [if_pos hx] at H
       have HX := am hx
       clear hx
       obtain ⟨rfl, rfl, rfl⟩ : kids1 = kids ∧ l1 = l' ∧ false = b' := by simpa using H
       clear H
       go_wp2_with (go_at_call 36; (with_reducible refine (isNext' HA.out.fr.pa HX.out).mono ?_); rintro e w3 ⟨rfl, h2, h3⟩; have HA3 := am (AllI.step HA.out h2 h3); clear h2 h3; obtain ⟨hu0, hu1, hu2, hu3, hu4⟩ := HA3.out.vcells; have hu5 := HA3.out.vcell; obtain ⟨hq0, hq1, hq2, hq3, hq4, hq5⟩ := HA3.out.fr.cell; have hz0 := HA3.out.fr.thaw 0; have hz1 := HA3.out.fr.thaw 1; have hz2 := HA3.out.fr.thaw 2; have hz3 := HA3.out.fr.thaw 3; have hz4 := HA3.out.fr.thaw 4; have hz5 := HA3.out.fr.thaw 5)
       exact bodyPost_ret (v := .agg #[.int .i64 11, .int .i64 0, .string ⟨#[]⟩, .string ⟨#[]⟩, .slice none 0 0, .slice A5 kids1.length c5]) (by obtain ⟨r0, r1, r2, r3, r4, r5⟩ := six_cells (AllI.fr HA3.out).blk (.int .i64 11) (.int .i64 0) (.string ⟨#[]⟩) (.string ⟨#[]⟩) (.slice none 0 0) (.slice A5 kids1.length c5); simp [results, Tryz.results22, go_sem, r0, r1, r2, r3, r4, r5]) rfl ((AllI.fr HA3.out).postA kids1 (Kd.R_lower (AllI.row HA3.out) (AllI.base1 w)) _ _ _ _ _ _)
      | false =>
       rw [if_neg (by rw [hx]; exact Bool.false_ne_true)] at H
       have HX := am hx
       clear hx
       obtain ⟨⟨x, l2, b2⟩, hk1, H⟩ := Option.bind_eq_some_iff.1 H
       have HK1 := am hk1
       have H' := am H
       clear hk1 H
       have HLE := am (show (kids1.length + 1) * 96 ≤ 140737488355328 by have := HL.out; have := HN.out; omega)
       go_wp2_with (go_at_call 36; (with_reducible refine (isNext' HA.out.fr.pa HX.out).mono ?_); rintro e w3 ⟨rfl, h2, h3⟩; have HA3 := am (AllI.step HA.out h2 h3); clear h2 h3 HA; have HA := HA3; clear HA3)
       refine start_ (n := 9) (S := fun w' => w'.cell? ⟨w.heap.size + 1, 5, none⟩ = some (.slice A5 kids1.length c5)) (ds := [6, 8]) #[false, false, false, false, false, false, false, false, false] (by kernel_rfl) rfl rfl ((AllI.vcell (by repeat (first | exact HA.out | apply AllI.drewN | apply AllI.drew | apply AllI.alloc)))) (fun hHeld => ?_)
       refine pure_ (i := 0) (N := some 31) (v := ?_) (a' := ?_) #[true, false, false, false, false, false, false, false, false] rfl rfl (by kernel_rfl) (fun _ _ _ h => h) (Or.inl ⟨by rfl, ?_⟩) ?_ ?_
       rotate_left
       ·intro w'
        go_simp
        with_reducible rfl
       rotate_left
       ·simp only [Act.put, List.setIfInBounds_toArray, List.set_cons_zero, List.set_cons_succ, i64_w, i32_w]
        rfl
       refine pure_ (i := 2) (N := some 33) (v := ?_) (a' := ?_) #[true, false, true, false, false, false, false, false, false] rfl rfl (by kernel_rfl) (fun _ _ _ h => h) (Or.inl ⟨by rfl, ?_⟩) ?_ ?_
       rotate_left
       ·intro w'
        go_simp
        with_reducible rfl
       rotate_left
       ·simp only [Act.put, List.setIfInBounds_toArray, List.set_cons_zero, List.set_cons_succ, i64_w, i32_w]
        rfl
       refine pure_ (i := 3) (N := some 34) (v := ?_) (a' := ?_) #[true, false, true, true, false, false, false, false, false] rfl rfl (by kernel_rfl) (fun _ _ _ h => h) (Or.inl ⟨by rfl, ?_⟩) ?_ ?_
       rotate_left
       ·intro w'
        go_simp
        with_reducible rfl
       rotate_left
       ·simp only [Act.put, List.setIfInBounds_toArray, List.set_cons_zero, List.set_cons_succ, i64_w, i32_w]
        rfl
       refine take_ (i := 1) (N := some 32) (v := ?_) (a' := ?_) #[true, true, true, true, false, false, false, false, false] rfl rfl (by kernel_rfl) (fun _ _ _ h => h) (Or.inl ⟨by rfl, ?_⟩) hHeld ?_ ?_
       rotate_left
       ·intro w' s0
        go_simp
        with_reducible rfl
       rotate_left
       ·simp only [Act.put, List.setIfInBounds_toArray, List.set_cons_zero, List.set_cons_succ, i64_w, i32_w]
        rfl
       refine one_ (i := 4) (N := some 35) #[true, true, true, true, true, false, false, false, false] rfl rfl (by kernel_rfl) (by decide) (fun K hK => ?_)
       refine goes_ Tryz.func37 (by kernel_rfl) rfl #[.pointer (some ⟨g, 0, none⟩), .int .i64 d] (by rfl) rfl rfl (by simp only [List.map_toArray, List.map_cons, List.map_nil]; rfl) ?_
       with_reducible refine (KeyC.go HK.out (AllI.fr (by repeat (first | exact HA.out | apply AllI.drewN | apply AllI.drew | apply AllI.alloc))).pa HK1.out).mono ?_
       rintro e w8 ⟨A4, c4, B5, e5, rfl, hr4, hr5, h2, h3⟩
       refine ⟨_, rfl, ?_⟩
       have HE4 := am (Kd.R_lower (base' := w.heap.size + 2) (Kd.R_new' (u := (.slice A5 kids1.length c5 : Value)) hr4 (AllI.own (by repeat (first | exact HA.out | apply AllI.drewN | apply AllI.drew | apply AllI.alloc)))) (AllI.size (by repeat (first | exact HA.out | apply AllI.drewN | apply AllI.drew | apply AllI.alloc))))
       have HE5 := am (Kd.R_lower (base' := w.heap.size + 2) (Kd.R_new' (u := (.slice A5 kids1.length c5 : Value)) hr5 (AllI.own (by repeat (first | exact HA.out | apply AllI.drewN | apply AllI.drew | apply AllI.alloc)))) (AllI.size (by repeat (first | exact HA.out | apply AllI.drewN | apply AllI.drew | apply AllI.alloc))))
       have HA8 := am (AllI.step (by repeat (first | exact HA.out | apply AllI.drewN | apply AllI.drew | apply AllI.alloc)) h2 h3)
       clear hr4 hr5 h2 h3 HA HK1
       refine hK.out _ _ ((AllI.vcell (by repeat (first | exact HA8.out | apply AllI.drewN | apply AllI.drew | apply AllI.alloc)))) (fun hHeld => ?_)
       clear hK K
       refine norm_ (a' := ?_) ?_ ?_
       rotate_left
       ·show Act.put _ (some 35) _ = _
        simp only [Act.put, List.setIfInBounds_toArray, List.set_cons_zero, List.set_cons_succ, i64_w, i32_w]
        rfl
       refine one_ (i := 5) (N := some 36) #[true, true, true, true, true, true, false, false, false] rfl rfl (by kernel_rfl) (by decide) (fun K hK => ?_)
       refine value_ (w1 := ?_) (v := ?_) (by rfl) rfl ?_ ?_
       rotate_left 2
       ·go_simp
        constructor
        ·rfl
        ·rfl
       refine hK.out _ _ ((AllI.vcell (by repeat (first | exact HA8.out | apply AllI.drewN | apply AllI.drew | apply AllI.alloc)))) (fun hHeld => ?_)
       clear hK K
       refine norm_ (a' := ?_) ?_ ?_
       rotate_left
       ·show Act.put _ (some 36) _ = _
        simp only [Act.put, List.setIfInBounds_toArray, List.set_cons_zero, List.set_cons_succ, i64_w, i32_w]
        rfl
       refine last_ (i := 6) (N := some 37) #[true, true, true, true, true, true, true, false, false] rfl rfl (by kernel_rfl) (by decide) (fun K hK => ?_)
       (repeat first | rw [drew_alloc] | rw [drewN_alloc])
       refine Kd.R_append_step kKey (w0 := w8) (w.heap.size + 2) ?_ (.tmp 32) (.tmp 36) 25 27 (.agg #[.int .i64 0, .int .i64 0, .string ⟨#[]⟩, .string ⟨#[]⟩, .slice none 0 0, .slice none 0 0]) 96 ?_ Tryz.underlying25 infoKey rfl (by decide) (by omega) (.slice A5 kids1.length c5) kids1 x [.int .i64 x.f0, .int .i64 x.f1, .string x.f2, .string x.f3, .slice A4 x.f4.length c4, .slice B5 x.f5.length e5] (fun _ => True) (fun k => True ∧ some k ≠ (.slice A5 kids1.length c5 : Value).ownBlock) ?_ ?_ ?_ (fun _ hk => hk) ?_ ?_ ?_ ?_ ?_ ?_
       ·rfl
       ·rfl
       ·rfl
       ·first | rfl | (show Value.slice _ _ _ = Value.slice _ _ _; simp)
       ·exact k27_mkM _ _ _ x HE4.out HE5.out
       ·exact fun _ _ => trivial
       ·exact AllI.row (by repeat (first | exact HA8.out | apply AllI.drewN | apply AllI.drew | apply AllI.alloc))
       ·exact Below.refl _ _
       ·exact AllI.size (by repeat (first | exact HA8.out | apply AllI.drewN | apply AllI.drew | apply AllI.alloc))
       ·have := HLE.out; omega
       intro v1 w1 hr hb hg hat
       obtain ⟨n1_, A1_, c1_, ev1_⟩ : ∃ n A1 c1, v1 = .slice A1 n c1 := by obtain ⟨A1, c1, e⟩ := Kd.R_slice hr; exact ⟨_, A1, c1, e⟩
       subst ev1_
       have HP := am (AllI.push (by repeat (first | exact HA8.out | apply AllI.drewN | apply AllI.drew | apply AllI.alloc)) hr hb)
       have HV := am ((hb.block (w.heap.size + 1) (by omega)).trans (AllI.vblk (by repeat (first | exact HA8.out | apply AllI.drewN | apply AllI.drew | apply AllI.alloc))))
       clear hr hb hg hat
       refine hK.out _ _ ?_
       clear hK K
       refine norm_ (a' := ?_) ?_ ?_
       rotate_left
       ·show Act.put _ (some 37) _ = _
        simp only [Act.put, List.setIfInBounds_toArray, List.set_cons_zero, List.set_cons_succ, i64_w, i32_w]
        rfl
       refine pure_ (i := 7) (N := some 38) (v := ?_) (a' := ?_) #[true, true, true, true, true, true, true, true, false] rfl rfl (by kernel_rfl) (fun _ _ _ h => h) (Or.inl ⟨by rfl, ?_⟩) ?_ ?_
       rotate_left
       ·intro w'
        go_simp
        with_reducible rfl
       rotate_left
       ·simp only [Act.put, List.setIfInBounds_toArray, List.set_cons_zero, List.set_cons_succ, i64_w, i32_w]
        rfl
       refine last_ (i := 8) (N := none) #[true, true, true, true, true, true, true, true, true] rfl rfl (by kernel_rfl) (by decide) (fun K hK => ?_)
       have hb0_ := blk_cell HV.out 5
       have hb1_ := blk_frozen HV.out 5
       refine skip_ (w1 := ?_) (by rfl) rfl ?_ ?_
       rotate_left
       ·go_simp
        rfl
       refine hK.out _ _ ?_
       clear hK K
       refine done_ (by kernel_rfl) ?_
       go_wp2
       go_roundg k1
       case measure => have := HL.out; omega
       case rel => exact ⟨kids1 ++ [x], l2, b2, _, H', ⟨by rw [List.length_append, List.length_singleton]; have := HL.out; omega⟩, HP⟩
end Go.Proofs.YtejhfghijgbckaaGreatDoor
namespace Go.Proofs.YtejhfghijgbckaaGreatDoor
open Go.RowKit Go.Proofs.YtejhfghijgbckaaGreatDoor.P Go.Proofs.YtejhfghijgbckaaGreatDoorW.PrintWords Go.Proofs.YtejhfghijgbckaaGreatDoorW.PrintLast Go.Proofs.YtejhfghijgbckaaGreatDoorW.PrintMore
set_option linter.unusedVariables false
set_option linter.unusedSimpArgs false
variable {w0 w : World} {g : Nat} {l : List Tok} {bad : Bool}
theorem keyF_calls (w0 : World) (g : Nat) : ∀ (k : Nat) (d : Int), 0 ≤ d → d + k ≤ 1000000 → KeyC w0 g (keyF k d) d
 | 0, _, _, _ => fun _ _ _ _ _ _ _ h => by simp [keyF] at h
 | k + 1, d, hd, hk => by
  have ih := keyF_calls w0 g k (d + 1) (by omega) (by omega)
  have hdd : 0 ≤ d ∧ d ≤ 999999999 := by omega
  intro w l bad x l' b' hI h
  unfold keyF at h
  by_cases hx : isNextF l 3 = true
  ·rw [if_pos hx] at h
   cases h
  ·rw [if_neg hx] at h
   replace hx := Bool.eq_false_iff.mpr hx
   obtain ⟨word, hw, h⟩ := Option.bind_eq_some_iff.1 h
   obtain ⟨s, l1, b1, hn⟩ : ∃ s l1 b1, nextF [1] l bad = (s, l1, b1) := ⟨_, _, _, rfl⟩
   rw [hn] at hw h
   unfold wordF at h
   obtain ⟨f, hf, h⟩ := Option.bind_eq_some_iff.1 h
   by_cases h0 : f ≠ 0
   ·rw [if_neg h0] at h
    have e1 : _ = x := congrArg Prod.fst (Option.some.inj h); have e2 : _ = l' := congrArg (fun z => z.2.1) (Option.some.inj h); have e3 : _ = b' := congrArg (fun z => z.2.2) (Option.some.inj h); subst e1 e2 e3
    exact key_flag hI hx hn hw hf h0
   replace h0 := Decidable.not_not.1 h0
   rw [if_pos h0] at h
   obtain ⟨u, ht, h⟩ := Option.bind_eq_some_iff.1 h
   obtain ⟨f2, hf2, h⟩ := Option.bind_eq_some_iff.1 h
   by_cases h1 : f2 ≠ 0
   ·rw [if_neg h1] at h
    have e1 : _ = x := congrArg Prod.fst (Option.some.inj h); have e2 : _ = l' := congrArg (fun z => z.2.1) (Option.some.inj h); have e3 : _ = b' := congrArg (fun z => z.2.2) (Option.some.inj h); subst e1 e2 e3
    exact key_unflag hI hx hn hw hf h0 ht hf2 h1
   replace h1 := Decidable.not_not.1 h1
   rw [if_pos h1] at h
   by_cases kall : word.toList = ([97, 108, 108] : List UInt8)
   ·rw [if_pos kall] at h
    cases h
   rw [if_neg kall] at h
   by_cases klarger : word.toList = ([108, 97, 114, 103, 101, 114] : List UInt8)
   ·rw [if_pos klarger] at h
    obtain ⟨⟨n, l2, b2⟩, hnum, h⟩ := Option.bind_eq_some_iff.1 h
    have e1 : _ = x := congrArg Prod.fst (Option.some.inj h); have e2 : _ = l' := congrArg (fun z => z.2.1) (Option.some.inj h); have e3 : _ = b' := congrArg (fun z => z.2.2) (Option.some.inj h); subst e1 e2 e3
    exact key_larger hI hx hn hw hf h0 ht hf2 h1 kall klarger hnum
   rw [if_neg klarger] at h
   by_cases ksmaller : word.toList = ([115, 109, 97, 108, 108, 101, 114] : List UInt8)
   ·rw [if_pos ksmaller] at h
    cases h
   rw [if_neg ksmaller] at h
   by_cases ktext : word.toList = ([116, 101, 120, 116] : List UInt8)
   ·rw [if_pos ktext] at h
    cases h
   rw [if_neg ktext] at h
   by_cases ksubject : word.toList = ([115, 117, 98, 106, 101, 99, 116] : List UInt8)
   ·rw [if_pos ksubject] at h
    cases h
   rw [if_neg ksubject] at h
   by_cases kfrom : word.toList = ([102, 114, 111, 109] : List UInt8)
   ·rw [if_pos kfrom] at h
    cases h
   rw [if_neg kfrom] at h
   by_cases kto : word.toList = ([116, 111] : List UInt8)
   ·rw [if_pos kto] at h
    cases h
   rw [if_neg kto] at h
   by_cases kuid : word.toList = ([117, 105, 100] : List UInt8)
   ·rw [if_pos kuid] at h
    cases h
   rw [if_neg kuid] at h
   by_cases knot : word.toList = ([110, 111, 116] : List UInt8)
   ·rw [if_pos knot] at h
    cases h
   rw [if_neg knot] at h
   by_cases kor : word.toList = ([111, 114] : List UInt8)
   ·rw [if_pos kor] at h
    cases h
   rw [if_neg kor] at h
   cases h
end Go.Proofs.YtejhfghijgbckaaGreatDoor
namespace Go.Proofs.YtejhfghijgbckaaGreatDoor
open Go.RowKit Go.Proofs.YtejhfghijgbckaaGreatDoor.P Go.Proofs.YtejhfghijgbckaaGreatDoorW.PrintWords Go.Proofs.YtejhfghijgbckaaGreatDoorW.PrintLast Go.Proofs.YtejhfghijgbckaaGreatDoorW.PrintMore
set_option linter.unusedVariables false
set_option linter.unusedSimpArgs false
def find_Parse.f (k : Nat) (l : List Tok) : Option (Int × Int × ByteArray × ByteArray × List Rg × List Key × Int) :=
 (allL (keyF (min k 100000) 0) (min k 100000) [] l false).bind fun r =>
  if r.2.2 = true then some (0, 0, ⟨#[]⟩, ⟨#[]⟩, [], [], 3)
  else if r.2.1.length > 0 then some (0, 0, ⟨#[]⟩, ⟨#[]⟩, [], [], 3)
  else some (11, 0, ⟨#[]⟩, ⟨#[]⟩, [], r.1, 0)
theorem find_Parse.mono (a0 : List Tok) (k : Nat) : LeO (find_Parse.f k a0) (find_Parse.f (k + 1) a0) := by
 unfold find_Parse.f
 refine LeO.bind (allL_mono (fun l b => ?_) _ _ _ _ _ (by omega)) (fun _ => LeO.refl _)
 have h := keyF_mono (min (k + 1) 100000 - min k 100000) (min k 100000) 0 l b
 rw [show min k 100000 + (min (k + 1) 100000 - min k 100000) = min (k + 1) 100000 by omega] at h
 exact h
theorem PaI.made {w : World} {A : Option Addr} {c : Nat} {l : List Tok} (hr : Kd.C kTok w A l.length l) (hc : l.length ≤ c) :
  PaI w ((w.alloc (.cells zKey 27)).alloc (.cells #[.slice A l.length c, .bool false] 56)) (w.heap.size + 1) l false := by
 have h := blk_new (w.alloc (.cells zKey 27)) (.cells #[.slice A l.length c, .bool false] 56)
 rw [alloc_size_] at h
 exact ⟨below_alloc (below_alloc (Below.refl _ _) _) _, by omega, A, c, h, hc, hr⟩
def PrsPost (w : World) (r1 r2 : Int) (r3 r4 : ByteArray) (r5 : List Rg) (r6 : List Key) (r7 : Int) (e : Ending) (w' : World) : Prop :=
 ∃ v4 v5 : Value, e = .returned (.tuple #[.agg #[.int .i64 r1, .int .i64 r2, .string r3, .string r4, v4, v5], .int .i64 r7]) ∧ Kd.R kRg 73 w' w.heap.size (fun _ => True) v4 r5 ∧ Kd.R kKey 27 w' w.heap.size (fun k_ => some k_ ≠ (v4 : Value).ownBlock) v5 r6 ∧ Below w.heap.size w w'
theorem prs_end {w w3 : World} {g : Nat} {l' : List Tok} {b' : Bool} (hP : PaI w w3 g l' b') (hz : w3.heap[w.heap.size]? = some (.cells zKey 27 (0, 0))) {kids : List Key} {A5 : Option Addr} {c5 : Nat}
  (h5 : Kd.R kKey 27 w3 (w.heap.size + 1) (fun _ => True) (.slice A5 kids.length c5) kids) (a0 a1 a2 a3 a4 a5 : Value) :
  Kd.R kKey 27 ((((((w3.setCell ⟨w.heap.size, 0, none⟩ a0).setCell ⟨w.heap.size, 1, none⟩ a1).setCell ⟨w.heap.size, 2, none⟩ a2).setCell ⟨w.heap.size, 3, none⟩ a3).setCell ⟨w.heap.size, 4, none⟩ a4).setCell ⟨w.heap.size, 5, none⟩ a5) w.heap.size (fun _ => True) (.slice A5 kids.length c5) kids ∧
  Below w.heap.size w ((((((w3.setCell ⟨w.heap.size, 0, none⟩ a0).setCell ⟨w.heap.size, 1, none⟩ a1).setCell ⟨w.heap.size, 2, none⟩ a2).setCell ⟨w.heap.size, 3, none⟩ a3).setCell ⟨w.heap.size, 4, none⟩ a4).setCell ⟨w.heap.size, 5, none⟩ a5) := by
 have h0 : Kd.R kKey 27 w3 w.heap.size (fun k => k ≠ w.heap.size) (.slice A5 kids.length c5) kids := Kd.R_lower (Kd.R_mono (Kd.R_bound h5) (fun k hk => by have := hk.2.1; omega)) (by omega)
 have s_ : ∀ {W : World} (j : Nat) (u : Value), Kd.R kKey 27 W w.heap.size (fun k => k ≠ w.heap.size) (.slice A5 kids.length c5) kids → Kd.R kKey 27 (W.setCell ⟨w.heap.size, j, none⟩ u) w.heap.size (fun k => k ≠ w.heap.size) (.slice A5 kids.length c5) kids := fun j u hW => Kd.R_far (p := ⟨w.heap.size, j, none⟩) hW (fun k hk => hk) u
 have hl : w.heap.size ≤ w.heap.size := Nat.le_refl _
 exact ⟨Kd.R_mono (s_ 5 _ (s_ 4 _ (s_ 3 _ (s_ 2 _ (s_ 1 _ (s_ 0 _ h0)))))) (fun _ _ => trivial), below_set (below_set (below_set (below_set (below_set (below_set hP.below hl) hl) hl) hl) hl) hl⟩
set_option maxHeartbeats 8000000 in
set_option maxRecDepth 100000 in
theorem parse_walk {w : World} {A0 : Option Addr} {c0 : Nat} {l0 : List Tok} {K : List Tok → Bool → Option KRes} {n : Nat} (hK : ∀ g, KeyC w g K 0) (hn : n ≤ 1000000) (hr0 : Kd.C kTok w A0 l0.length l0) (hc0 : l0.length ≤ c0) {kids : List Key} {l' : List Tok} {b' : Bool}
  (h : allL K n [] l0 false = some (kids, l', b')) :
  Calls Tryz.prog 11 #[.slice A0 l0.length c0] w (if b' = true then PrsPost w 0 0 ⟨#[]⟩ ⟨#[]⟩ [] [] 3 else if l'.length > 0 then PrsPost w 0 0 ⟨#[]⟩ ⟨#[]⟩ [] [] 3 else PrsPost w 11 0 ⟨#[]⟩ ⟨#[]⟩ [] kids 0) := by
 have HI := am (PaI.made hr0 hc0)
 have HZ := am (show ((w.alloc (.cells zKey 27)).alloc (.cells #[.slice A0 l0.length c0, .bool false] 56)).heap[w.heap.size]? = some (.cells zKey 27 (0, 0)) from (Below.block (below_alloc (Below.refl _ _) _) _ (blk_lt (blk_new w _))).trans (blk_new w _))
 have HK := am hK
 have HN := am hn
 have HH := am h
 clear hr0 hc0 hK hn h
 by_cases hb : b' = true
 ·rw [if_pos hb]
  subst hb
  go_enter Tryz.func11, Tryz.ntmps11
  go_wp2_with (go_at_call 22; (with_reducible refine (all_calls (HK.out _) HN.out HI.out HH.out).mono ?_); rintro e w3 ⟨A5, c5, rfl, hr5, h2, h3⟩; have HR5 := am (Kd.R_alloc (Kd.R_lower (base' := w.heap.size + 1) hr5 (by rw [alloc_size_, alloc_size_]; omega)) (.cells #[.int .i64 11, .int .i64 0, .string ⟨#[]⟩, .string ⟨#[]⟩, .slice none 0 0, .slice A5 kids.length c5] 27)); have HI3 := am (h2.alloc (.cells #[.int .i64 11, .int .i64 0, .string ⟨#[]⟩, .string ⟨#[]⟩, .slice none 0 0, .slice A5 kids.length c5] 27)); have HB3 := am (blk_new w3 (.cells #[.int .i64 11, .int .i64 0, .string ⟨#[]⟩, .string ⟨#[]⟩, .slice none 0 0, .slice A5 kids.length c5] 27)); have HZ3 := am ((Below.block (below_alloc (Below.refl _ _) (.cells #[.int .i64 11, .int .i64 0, .string ⟨#[]⟩, .string ⟨#[]⟩, .slice none 0 0, .slice A5 kids.length c5] 27)) _ (blk_lt ((h3.2 w.heap.size (by rw [alloc_size_, alloc_size_]; omega) (by omega) (by simp)).trans HZ.out))).trans ((h3.2 w.heap.size (by rw [alloc_size_, alloc_size_]; omega) (by omega) (by simp)).trans HZ.out)); obtain ⟨Ag, cg, hgb, _, _⟩ := HI3.out.blk; have hg0 := blk_cell hgb 0; have hg1 := blk_cell hgb 1; clear hgb hr5 h2 h3; have hp0 := blk_cell HB3.out 0; have hp1 := blk_cell HB3.out 1; have hp2 := blk_cell HB3.out 2; have hp3 := blk_cell HB3.out 3; have hp4 := blk_cell HB3.out 4; have hp5 := blk_cell HB3.out 5; have hq0 := blk_cell HZ3.out 0; have hq1 := blk_cell HZ3.out 1; have hq2 := blk_cell HZ3.out 2; have hq3 := blk_cell HZ3.out 3; have hq4 := blk_cell HZ3.out 4; have hq5 := blk_cell HZ3.out 5; have hz0 := blk_frozen HZ3.out 0; have hz1 := blk_frozen HZ3.out 1; have hz2 := blk_frozen HZ3.out 2; have hz3 := blk_frozen HZ3.out 3; have hz4 := blk_frozen HZ3.out 4; have hz5 := blk_frozen HZ3.out 5)
  exact bodyPost_ret (v := .tuple #[.agg #[.int .i64 0, .int .i64 0, .string ⟨#[]⟩, .string ⟨#[]⟩, .slice none 0 0, .slice none 0 0], .int .i64 3]) (by obtain ⟨r0, r1, r2, r3, r4, r5⟩ := six_cells HZ3.out (.int .i64 0) (.int .i64 0) (.string ⟨#[]⟩) (.string ⟨#[]⟩) (.slice none 0 0) (.slice none 0 0); simp [results, Tryz.results11, go_sem, r0, r1, r2, r3, r4, r5]) rfl (⟨_, _, rfl, Kd.R_nil _ _ _ _ _, Kd.R_mono (prs_end HI3.out HZ3.out (A5 := none) (c5 := 0) (kids := []) (Kd.R_nil _ _ _ _ _) _ _ _ _ _ _).1 (fun _ _ => by simp [Value.ownBlock]), (prs_end HI3.out HZ3.out (A5 := none) (c5 := 0) (kids := []) (Kd.R_nil _ _ _ _ _) _ _ _ _ _ _).2⟩)
 ·rw [if_neg hb]
  obtain rfl : b' = false := Bool.eq_false_iff.mpr hb
  clear hb
  by_cases hl : l'.length > 0
  ·rw [if_pos hl]
   have q1 : decide ((0 : Int) < (l'.length : Int)) = true := decide_eq_true (by omega)
   have q2 : (0 < l'.length) = True := eq_true (by omega)
   have q3 : decide (0 < l'.length) = true := decide_eq_true (by omega)
   clear hl
   go_enter Tryz.func11, Tryz.ntmps11
   go_wp2_with (go_at_call 22; (with_reducible refine (all_calls (HK.out _) HN.out HI.out HH.out).mono ?_); rintro e w3 ⟨A5, c5, rfl, hr5, h2, h3⟩; have HR5 := am (Kd.R_alloc (Kd.R_lower (base' := w.heap.size + 1) hr5 (by rw [alloc_size_, alloc_size_]; omega)) (.cells #[.int .i64 11, .int .i64 0, .string ⟨#[]⟩, .string ⟨#[]⟩, .slice none 0 0, .slice A5 kids.length c5] 27)); have HI3 := am (h2.alloc (.cells #[.int .i64 11, .int .i64 0, .string ⟨#[]⟩, .string ⟨#[]⟩, .slice none 0 0, .slice A5 kids.length c5] 27)); have HB3 := am (blk_new w3 (.cells #[.int .i64 11, .int .i64 0, .string ⟨#[]⟩, .string ⟨#[]⟩, .slice none 0 0, .slice A5 kids.length c5] 27)); have HZ3 := am ((Below.block (below_alloc (Below.refl _ _) (.cells #[.int .i64 11, .int .i64 0, .string ⟨#[]⟩, .string ⟨#[]⟩, .slice none 0 0, .slice A5 kids.length c5] 27)) _ (blk_lt ((h3.2 w.heap.size (by rw [alloc_size_, alloc_size_]; omega) (by omega) (by simp)).trans HZ.out))).trans ((h3.2 w.heap.size (by rw [alloc_size_, alloc_size_]; omega) (by omega) (by simp)).trans HZ.out)); obtain ⟨Ag, cg, hgb, _, _⟩ := HI3.out.blk; have hg0 := blk_cell hgb 0; have hg1 := blk_cell hgb 1; clear hgb hr5 h2 h3; have hp0 := blk_cell HB3.out 0; have hp1 := blk_cell HB3.out 1; have hp2 := blk_cell HB3.out 2; have hp3 := blk_cell HB3.out 3; have hp4 := blk_cell HB3.out 4; have hp5 := blk_cell HB3.out 5; have hq0 := blk_cell HZ3.out 0; have hq1 := blk_cell HZ3.out 1; have hq2 := blk_cell HZ3.out 2; have hq3 := blk_cell HZ3.out 3; have hq4 := blk_cell HZ3.out 4; have hq5 := blk_cell HZ3.out 5; have hz0 := blk_frozen HZ3.out 0; have hz1 := blk_frozen HZ3.out 1; have hz2 := blk_frozen HZ3.out 2; have hz3 := blk_frozen HZ3.out 3; have hz4 := blk_frozen HZ3.out 4; have hz5 := blk_frozen HZ3.out 5)
   exact bodyPost_ret (v := .tuple #[.agg #[.int .i64 0, .int .i64 0, .string ⟨#[]⟩, .string ⟨#[]⟩, .slice none 0 0, .slice none 0 0], .int .i64 3]) (by obtain ⟨r0, r1, r2, r3, r4, r5⟩ := six_cells HZ3.out (.int .i64 0) (.int .i64 0) (.string ⟨#[]⟩) (.string ⟨#[]⟩) (.slice none 0 0) (.slice none 0 0); simp [results, Tryz.results11, go_sem, r0, r1, r2, r3, r4, r5]) rfl (⟨_, _, rfl, Kd.R_nil _ _ _ _ _, Kd.R_mono (prs_end HI3.out HZ3.out (A5 := none) (c5 := 0) (kids := []) (Kd.R_nil _ _ _ _ _) _ _ _ _ _ _).1 (fun _ _ => by simp [Value.ownBlock]), (prs_end HI3.out HZ3.out (A5 := none) (c5 := 0) (kids := []) (Kd.R_nil _ _ _ _ _) _ _ _ _ _ _).2⟩)
  ·rw [if_neg hl]
   obtain rfl := List.eq_nil_of_length_eq_zero (show l'.length = 0 by omega)
   have q1 : decide ((0 : Int) < (([] : List Tok).length : Int)) = false := rfl
   clear hl
   go_enter Tryz.func11, Tryz.ntmps11
   go_wp2_with (go_at_call 22; (with_reducible refine (all_calls (HK.out _) HN.out HI.out HH.out).mono ?_); rintro e w3 ⟨A5, c5, rfl, hr5, h2, h3⟩; have HR5 := am (Kd.R_alloc (Kd.R_lower (base' := w.heap.size + 1) hr5 (by rw [alloc_size_, alloc_size_]; omega)) (.cells #[.int .i64 11, .int .i64 0, .string ⟨#[]⟩, .string ⟨#[]⟩, .slice none 0 0, .slice A5 kids.length c5] 27)); have HI3 := am (h2.alloc (.cells #[.int .i64 11, .int .i64 0, .string ⟨#[]⟩, .string ⟨#[]⟩, .slice none 0 0, .slice A5 kids.length c5] 27)); have HB3 := am (blk_new w3 (.cells #[.int .i64 11, .int .i64 0, .string ⟨#[]⟩, .string ⟨#[]⟩, .slice none 0 0, .slice A5 kids.length c5] 27)); have HZ3 := am ((Below.block (below_alloc (Below.refl _ _) (.cells #[.int .i64 11, .int .i64 0, .string ⟨#[]⟩, .string ⟨#[]⟩, .slice none 0 0, .slice A5 kids.length c5] 27)) _ (blk_lt ((h3.2 w.heap.size (by rw [alloc_size_, alloc_size_]; omega) (by omega) (by simp)).trans HZ.out))).trans ((h3.2 w.heap.size (by rw [alloc_size_, alloc_size_]; omega) (by omega) (by simp)).trans HZ.out)); obtain ⟨Ag, cg, hgb, _, _⟩ := HI3.out.blk; have hg0 := blk_cell hgb 0; have hg1 := blk_cell hgb 1; clear hgb hr5 h2 h3; have hp0 := blk_cell HB3.out 0; have hp1 := blk_cell HB3.out 1; have hp2 := blk_cell HB3.out 2; have hp3 := blk_cell HB3.out 3; have hp4 := blk_cell HB3.out 4; have hp5 := blk_cell HB3.out 5; have hq0 := blk_cell HZ3.out 0; have hq1 := blk_cell HZ3.out 1; have hq2 := blk_cell HZ3.out 2; have hq3 := blk_cell HZ3.out 3; have hq4 := blk_cell HZ3.out 4; have hq5 := blk_cell HZ3.out 5; have hz0 := blk_frozen HZ3.out 0; have hz1 := blk_frozen HZ3.out 1; have hz2 := blk_frozen HZ3.out 2; have hz3 := blk_frozen HZ3.out 3; have hz4 := blk_frozen HZ3.out 4; have hz5 := blk_frozen HZ3.out 5)
   exact bodyPost_ret (v := .tuple #[.agg #[.int .i64 11, .int .i64 0, .string ⟨#[]⟩, .string ⟨#[]⟩, .slice none 0 0, .slice A5 kids.length c5], .int .i64 0]) (by obtain ⟨r0, r1, r2, r3, r4, r5⟩ := six_cells HZ3.out (.int .i64 11) (.int .i64 0) (.string ⟨#[]⟩) (.string ⟨#[]⟩) (.slice none 0 0) (.slice A5 kids.length c5); simp [results, Tryz.results11, go_sem, r0, r1, r2, r3, r4, r5]) rfl (⟨_, _, rfl, Kd.R_nil _ _ _ _ _, Kd.R_mono (prs_end HI3.out HZ3.out HR5.out _ _ _ _ _ _).1 (fun _ _ => by simp [Value.ownBlock]), (prs_end HI3.out HZ3.out HR5.out _ _ _ _ _ _).2⟩)
theorem find_Parse.calls (k : Nat) (A0 : Option Addr) (c0 : Nat) (l0 : List Tok) (r1 r2 : Int) (r3 r4 : ByteArray) (r5 : List Rg) (r6 : List Key) (r7 : Int) (w : World) (hr0 : Kd.C kTok w A0 l0.length l0) (hc0 : l0.length ≤ c0) (h : find_Parse.f k l0 = some (r1, r2, r3, r4, r5, r6, r7)) :
  Calls Tryz.prog 11 #[.slice A0 l0.length c0] w fun e w' => ∃ v4 v5 : Value, e = .returned (.tuple #[.agg #[.int .i64 r1, .int .i64 r2, .string r3, .string r4, v4, v5], .int .i64 r7]) ∧ Kd.R kRg 73 w' w.heap.size (fun _ => True) v4 r5 ∧ Kd.R kKey 27 w' w.heap.size (fun k_ => some k_ ≠ (v4 : Value).ownBlock) v5 r6 ∧ Below w.heap.size w w' := by
 obtain ⟨⟨kids, l', b'⟩, ha, h⟩ := Option.bind_eq_some_iff.1 h
 have hw := parse_walk (fun g => keyF_calls w g (min k 100000) 0 (by omega) (by omega)) (by omega) hr0 hc0 ha
 by_cases hb : b' = true
 ·rw [if_pos hb] at h hw
  obtain ⟨rfl, rfl, rfl, rfl, rfl, rfl, rfl⟩ : 0 = r1 ∧ 0 = r2 ∧ (⟨#[]⟩ : ByteArray) = r3 ∧ (⟨#[]⟩ : ByteArray) = r4 ∧ [] = r5 ∧ [] = r6 ∧ 3 = r7 := by simpa using h
  exact hw
 ·rw [if_neg hb] at h hw
  by_cases hl : l'.length > 0
  ·rw [if_pos hl] at h hw
   obtain ⟨rfl, rfl, rfl, rfl, rfl, rfl, rfl⟩ : 0 = r1 ∧ 0 = r2 ∧ (⟨#[]⟩ : ByteArray) = r3 ∧ (⟨#[]⟩ : ByteArray) = r4 ∧ [] = r5 ∧ [] = r6 ∧ 3 = r7 := by simpa using h
   exact hw
  ·rw [if_neg hl] at h hw
   obtain ⟨rfl, rfl, rfl, rfl, rfl, rfl, rfl⟩ : 11 = r1 ∧ 0 = r2 ∧ (⟨#[]⟩ : ByteArray) = r3 ∧ (⟨#[]⟩ : ByteArray) = r4 ∧ [] = r5 ∧ kids = r6 ∧ 0 = r7 := by simpa using h
   exact hw
end Go.Proofs.YtejhfghijgbckaaGreatDoor
