/- The reference's reader of find: its state, and its small methods, by hand. -/
import Derived.Test.YtejhfghijgbckaaGreatDoorFindA
import Derived.Test.YtejhfghijgbckaaGreatDoorPx3
import Derived.Test.YtejhfghijgbckaaGreatDoorPx2
import Derived.Test.YtejhfghijgbckaaGreatDoorHeadLow
-- halved
namespace Go.Proofs.YtejhfghijgbckaaGreatDoor
open Go.RowKit Go.Proofs.YtejhfghijgbckaaGreatDoor.P Go.Proofs.YtejhfghijgbckaaGreatDoorW.PrintWords Go.Proofs.YtejhfghijgbckaaGreatDoorW.PrintLast Go.Proofs.YtejhfghijgbckaaGreatDoorW.PrintMore
set_option linter.unusedVariables false
set_option linter.unusedSimpArgs false
attribute [local go_sem] max2_int min2_int max_two min_two max_three min_three max_four min_four
structure RdI (w0 w : World) (g : Nat) (l : List Tok) (bad : Bool) : Prop where
 below : Below w0.heap.size w0 w
 ge : w0.heap.size ≤ g
 blk : ∃ A c, w.heap[g]? = some (.cells #[.slice A l.length c, .bool bad] 60 (0, 0)) ∧ l.length ≤ c ∧ Kd.C kTok w0 A l.length l
section
variable {w0 w w1 : World} {g : Nat} {l : List Tok} {bad : Bool}
theorem RdI.lt (h : RdI w0 w g l bad) : g < w.heap.size := by obtain ⟨_, _, hb, _⟩ := h.blk; exact blk_lt hb
theorem RdI.below_ (h : RdI w0 w g l bad) (hb : Below w.heap.size w w1) : RdI w0 w1 g l bad := by
 obtain ⟨A, c, h1, h2⟩ := h.blk
 exact ⟨below_step h.below hb, h.ge, A, c, (hb.block _ (blk_lt h1)).trans h1, h2⟩
theorem RdI.belowB {B : Nat} (h : RdI w0 w g l bad) (hb : Below B w w1) (hB : g < B) : RdI w0 w1 g l bad := by
 obtain ⟨A, c, h1, h2⟩ := h.blk
 exact ⟨h.below.trans (hb.mono (by have := h.ge; omega)), h.ge, A, c, (hb.block g hB).trans h1, h2⟩
theorem RdI.drewN (h : RdI w0 w g l bad) (n : Nat) : RdI w0 (w.drewN n) g l bad := ⟨pw_below_drewN h.below n, h.ge, h.blk⟩
theorem RdI.drew (h : RdI w0 w g l bad) : RdI w0 w.drew g l bad := ⟨below_drew h.below, h.ge, h.blk⟩
theorem RdI.alloc (h : RdI w0 w g l bad) (o : Obj) : RdI w0 (w.alloc o) g l bad := h.below_ (below_alloc (Below.refl w.heap.size w) o)
theorem RdI.set1 (h : RdI w0 w g l bad) (x : Bool) : RdI w0 (w.setCell ⟨g, 1, none⟩ (.bool x)) g l x := by
 obtain ⟨A, c, h1, h2⟩ := h.blk
 exact ⟨below_set h.below h.ge, h.ge, A, c, blk_set h1 1 _, h2⟩
theorem RdI.set0 (h : RdI w0 w g l bad) {A : Option Addr} {c : Nat} {l2 : List Tok} (hc : l2.length ≤ c) (hC : Kd.C kTok w0 A l2.length l2) : RdI w0 (w.setCell ⟨g, 0, none⟩ (.slice A l2.length c)) g l2 bad := by
 obtain ⟨A0, c0, h1, h2⟩ := h.blk
 exact ⟨below_set h.below h.ge, h.ge, A, c, blk_set h1 0 _, hc, hC⟩
theorem RdI.cell1 (h : RdI w0 w g l bad) : w.cell? ⟨g, 1, none⟩ = some (.bool bad) := by
 obtain ⟨A, c, hb, _⟩ := h.blk
 exact blk_cell hb 1
theorem RdI.thaw (h : RdI w0 w g l bad) (j : Nat) : w.frozen? ⟨g, j, none⟩ = false := by
 obtain ⟨A, c, hb, _⟩ := h.blk
 exact blk_frozen hb j
theorem RdI.far (h : RdI w0 w g l bad) {R : Nat} (hR : g < R) (j : Nat) (u : Value) : RdI w0 (w.setCell ⟨R, j, none⟩ u) g l bad := by
 obtain ⟨A, c, h1, h2⟩ := h.blk
 have hg : (⟨R, j, none⟩ : Addr).block ≠ g := by show R ≠ g; omega
 exact ⟨below_set h.below (by show w0.heap.size ≤ R; have := h.ge; omega), h.ge, A, c, (Below.heap_setCell w ⟨R, j, none⟩ u g (fun e => hg e.symm)).trans h1, h2⟩
end
/-! ### A token is taken -/
def nextR (l : List Tok) (bad : Bool) : Tok × List Tok × Bool :=
 match l with
 | [] => (⟨0, ⟨#[]⟩⟩, [], true)
 | x :: r => (x, r, bad)
abbrev zTok : Array Value := #[.int .i64 0, .string ⟨#[]⟩]
variable {w0 w w1 : World} {g : Nat} {l : List Tok} {bad : Bool}
set_option maxHeartbeats 8000000 in
set_option maxRecDepth 100000 in
theorem rnext_calls {x : Tok} {l1 : List Tok} {b1 : Bool} (hI0 : RdI w0 w g l bad) (hn : nextR l bad = (x, l1, b1)) :
  Calls Tryz.prog 38 #[.pointer (some ⟨g, 0, none⟩)] w fun e w' => e = .returned (.agg #[.int .i64 x.f0, .string x.f1]) ∧ RdI w0 w' g l1 b1 ∧ KeepBut w w' g none := by
 have HI0 := Aside0.mk hI0
 have HI := Aside0.mk (hI0.alloc (.cells zTok 42))
 have HZ := Aside0.mk (blk_new w (.cells zTok 42))
 have hgl := hI0.lt
 have HG := Aside0.mk hgl
 have HK := Aside0.mk (keep_alloc_ w (.cells zTok 42) g)
 obtain ⟨A, c, hb, hlc, hC⟩ := hI0.blk
 have hc0 := blk_cell hb 0
 have hc1 := blk_cell hb 1
 have hf0 := blk_frozen hb 0
 have hf1 := blk_frozen hb 1
 cases l with
 | nil =>
  obtain ⟨rfl, rfl, rfl⟩ : (⟨0, ⟨#[]⟩⟩ : Tok) = x ∧ [] = l1 ∧ true = b1 := by simpa [nextR] using hn
  have b1 : (((([] : List Tok).length : Nat) : Int) == 0) = true := rfl
  clear hb hI0 hC hn hlc
  go_enter Tryz.func38, Tryz.ntmps38
  go_wp2
  exact bodyPost_ret (v := .agg #[.int .i64 0, .string ⟨#[]⟩]) (by simp [results, Tryz.results38, go_sem]) rfl ⟨rfl, (HI0.out.set1 true).alloc _, keep_alloc ((KeepBut.refl w g none).set_ _ _) _⟩
 | cons y r =>
  obtain ⟨rfl, rfl, rfl⟩ : y = x ∧ r = l1 ∧ bad = b1 := by simpa [nextR] using hn
  obtain ⟨ad, ea, hx0, hx1⟩ := at_T42 hC 0 (by omega) (by simp)
  cases ea
  have e_ : ad.add (Int.toNat 0 * 2) = ad := by rw [show ((0 : Int)).toNat = 0 from rfl, show 0 * 2 = 0 from rfl, Addr.add_zero']
  rw [e_] at hx0 hx1
  replace hx0 := (HI.out.below.cell (World.block_lt_of_cell? w0 _ hx0)).trans hx0
  replace hx1 := (HI.out.below.cell (World.block_lt_of_cell? w0 _ hx1)).trans hx1
  rw [show rd_T42 (y :: r) 0 = y from rfl] at hx0 hx1
  obtain ⟨i0, hi, _, hsz, _⟩ := info_parts info42
  have hmx := Kd.C_max hC
  have hcut := cut_from (P := Tryz.prog) 22 42 .i64 Tryz.underlying22 hi 2 hsz (some ad) (y :: r).length c 1 (by omega) (by rw [List.length_cons]; omega)
  have hCd : Kd.C kTok w0 (if c = (1 : Int).toNat then some ad else (some ad).map (·.add ((1 : Int).toNat * 2))) r.length r := Kd.C_drop (m := 1) (c := c) hC (by simp) hlc
  generalize (if c = (1 : Int).toNat then some ad else (some ad).map (·.add ((1 : Int).toNat * 2))) = A2 at hcut hCd
  have hcut2 : ∀ W : World, (Instr.slice 22 (.slice (some ad) (r.length + 1) c) (some (.int .i64 1)) none none).run Tryz.prog W = .ok (.slice A2 r.length (c - 1)) W := hcut
  have hc1' : r.length ≤ c - 1 := by simp at hlc; omega
  have HCD := Aside0.mk (And.intro hc1' hCd)
  have b2 : ((r.length : Int) + 1 == 0) = false := beq_eq_false_iff_ne.2 (by omega)
  have q2 : ((0 : Int) < (r.length : Int) + 1) = True := eq_true (by omega)
  have q3 : (0 < r.length + 1) = True := eq_true (by omega)
  clear hcut hb hI0 hC hn hCd e_ hc1' hlc hmx
  go_enter Tryz.func38, Tryz.ntmps38
  go_wp2
  exact bodyPost_ret (v := .agg #[.int .i64 y.f0, .string y.f1]) (by simp [results, Tryz.results38, go_sem]) rfl ⟨rfl, ((HI0.out.set0 HCD.out.1 HCD.out.2).alloc _).alloc _, keep_alloc (keep_alloc ((KeepBut.refl w g none).set_ _ _) _) _⟩
def atomR (l : List Tok) (bad : Bool) : ByteArray × List Tok × Bool := ((nextR l bad).1.f1, (nextR l bad).2.1, (nextR l bad).2.2 || (nextR l bad).1.f0 != 1)
def textR (l : List Tok) (bad : Bool) : ByteArray × List Tok × Bool := ((nextR l bad).1.f1, (nextR l bad).2.1, (nextR l bad).2.2 || ((nextR l bad).1.f0 != 1 && (nextR l bad).1.f0 != 2))
set_option maxHeartbeats 8000000 in
set_option maxRecDepth 100000 in
theorem ratom_calls {s : ByteArray} {l1 : List Tok} {b1 : Bool} (hI0 : RdI w0 w g l bad) (hn : atomR l bad = (s, l1, b1)) :
  Calls Tryz.prog 61 #[.pointer (some ⟨g, 0, none⟩)] w fun e w' => e = .returned (.string s) ∧ RdI w0 w' g l1 b1 ∧ KeepBut w w' g none := by
 obtain ⟨x, l2, b2, hx⟩ : ∃ x l2 b2, nextR l bad = (x, l2, b2) := ⟨_, _, _, rfl⟩
 unfold atomR at hn
 rw [hx] at hn
 obtain ⟨rfl, rfl, rfl⟩ : x.f1 = s ∧ l2 = l1 ∧ (b2 || x.f0 != 1) = b1 := by simpa using hn
 have HI := Aside0.mk hI0
 have HX := Aside0.mk hx
 clear hI0 hx hn
 cases b2 with
 | true =>
  go_enter Tryz.func61, Tryz.ntmps61
  go_wp2_with (go_at_call 38; (with_reducible refine (rnext_calls HI.out HX.out).mono ?_); rintro e w2 ⟨rfl, h2, h3⟩; have HI2 := Aside0.mk h2; have HK2 := Aside0.mk h3; have hc2 := h2.cell1; have hf2 := h2.thaw 1; have hl2 := h2.lt; clear h2 h3)
  go_ret
  exact ⟨rfl, by first | exact (HI2.out.set1 _).alloc _ | exact (HI2.out.alloc _).set1 _, by first | exact keep_alloc (HK2.out.set_ _ _) _ | exact (keep_alloc HK2.out _).set_ _ _⟩
 | false =>
  by_cases c : x.f0 = 1
  ·have c0 : (x.f0 == 1) = true := beq_iff_eq.2 c
   have c1 : (x.f0 != 1) = false := bne_eq_false_iff_eq.2 c
   clear c
   rw [c1]
   go_enter Tryz.func61, Tryz.ntmps61
   go_wp2_with (go_at_call 38; (with_reducible refine (rnext_calls HI.out HX.out).mono ?_); rintro e w2 ⟨rfl, h2, h3⟩; have HI2 := Aside0.mk h2; have HK2 := Aside0.mk h3; have hc2 := h2.cell1; have hf2 := h2.thaw 1; have hl2 := h2.lt; clear h2 h3)
   go_ret
   exact ⟨rfl, by first | exact (HI2.out.set1 _).alloc _ | exact (HI2.out.alloc _).set1 _, by first | exact keep_alloc (HK2.out.set_ _ _) _ | exact (keep_alloc HK2.out _).set_ _ _⟩
  ·have c0 : (x.f0 == 1) = false := beq_eq_false_iff_ne.2 c
   have c1 : (x.f0 != 1) = true := bne_iff_ne.2 c
   clear c
   rw [c1]
   go_enter Tryz.func61, Tryz.ntmps61
   go_wp2_with (go_at_call 38; (with_reducible refine (rnext_calls HI.out HX.out).mono ?_); rintro e w2 ⟨rfl, h2, h3⟩; have HI2 := Aside0.mk h2; have HK2 := Aside0.mk h3; have hc2 := h2.cell1; have hf2 := h2.thaw 1; have hl2 := h2.lt; clear h2 h3)
   go_ret
   exact ⟨rfl, by first | exact (HI2.out.set1 _).alloc _ | exact (HI2.out.alloc _).set1 _, by first | exact keep_alloc (HK2.out.set_ _ _) _ | exact (keep_alloc HK2.out _).set_ _ _⟩
set_option maxHeartbeats 8000000 in
set_option maxRecDepth 100000 in
theorem rtext_calls {s : ByteArray} {l1 : List Tok} {b1 : Bool} (hI0 : RdI w0 w g l bad) (hn : textR l bad = (s, l1, b1)) :
  Calls Tryz.prog 59 #[.pointer (some ⟨g, 0, none⟩)] w fun e w' => e = .returned (.string s) ∧ RdI w0 w' g l1 b1 ∧ KeepBut w w' g none := by
 obtain ⟨x, l2, b2, hx⟩ : ∃ x l2 b2, nextR l bad = (x, l2, b2) := ⟨_, _, _, rfl⟩
 unfold textR at hn
 rw [hx] at hn
 obtain ⟨rfl, rfl, rfl⟩ : x.f1 = s ∧ l2 = l1 ∧ (b2 || (x.f0 != 1 && x.f0 != 2)) = b1 := by simpa using hn
 have HI := Aside0.mk hI0
 have HX := Aside0.mk hx
 clear hI0 hx hn
 cases b2 with
 | true =>
  go_enter Tryz.func59, Tryz.ntmps59
  go_wp2_with (go_at_call 38; (with_reducible refine (rnext_calls HI.out HX.out).mono ?_); rintro e w2 ⟨rfl, h2, h3⟩; have HI2 := Aside0.mk h2; have HK2 := Aside0.mk h3; have hc2 := h2.cell1; have hf2 := h2.thaw 1; have hl2 := h2.lt; clear h2 h3)
  go_ret
  exact ⟨rfl, by first | exact (HI2.out.set1 _).alloc _ | exact (HI2.out.alloc _).set1 _, by first | exact keep_alloc (HK2.out.set_ _ _) _ | exact (keep_alloc HK2.out _).set_ _ _⟩
 | false =>
  by_cases c : x.f0 = 1
  ·have c0 : (x.f0 == 1) = true := beq_iff_eq.2 c
   have c1 : (x.f0 != 1) = false := bne_eq_false_iff_eq.2 c
   clear c
   rw [c1]
   go_enter Tryz.func59, Tryz.ntmps59
   go_wp2_with (go_at_call 38; (with_reducible refine (rnext_calls HI.out HX.out).mono ?_); rintro e w2 ⟨rfl, h2, h3⟩; have HI2 := Aside0.mk h2; have HK2 := Aside0.mk h3; have hc2 := h2.cell1; have hf2 := h2.thaw 1; have hl2 := h2.lt; clear h2 h3)
   go_ret
   exact ⟨rfl, by first | exact (HI2.out.set1 _).alloc _ | exact (HI2.out.alloc _).set1 _, by first | exact keep_alloc (HK2.out.set_ _ _) _ | exact (keep_alloc HK2.out _).set_ _ _⟩
  ·have c0 : (x.f0 == 1) = false := beq_eq_false_iff_ne.2 c
   have c1 : (x.f0 != 1) = true := bne_iff_ne.2 c
   clear c
   rw [c1]
   by_cases d : x.f0 = 2
   ·have d0 : (x.f0 == 2) = true := beq_iff_eq.2 d
    have d1 : (x.f0 != 2) = false := bne_eq_false_iff_eq.2 d
    clear d
    rw [d1]
    go_enter Tryz.func59, Tryz.ntmps59
    go_wp2_with (go_at_call 38; (with_reducible refine (rnext_calls HI.out HX.out).mono ?_); rintro e w2 ⟨rfl, h2, h3⟩; have HI2 := Aside0.mk h2; have HK2 := Aside0.mk h3; have hc2 := h2.cell1; have hf2 := h2.thaw 1; have hl2 := h2.lt; clear h2 h3)
    go_ret
    exact ⟨rfl, by first | exact (HI2.out.set1 _).alloc _ | exact (HI2.out.alloc _).set1 _, by first | exact keep_alloc (HK2.out.set_ _ _) _ | exact (keep_alloc HK2.out _).set_ _ _⟩
   ·have d0 : (x.f0 == 2) = false := beq_eq_false_iff_ne.2 d
    have d1 : (x.f0 != 2) = true := bne_iff_ne.2 d
    clear d
    rw [d1]
    go_enter Tryz.func59, Tryz.ntmps59
    go_wp2_with (go_at_call 38; (with_reducible refine (rnext_calls HI.out HX.out).mono ?_); rintro e w2 ⟨rfl, h2, h3⟩; have HI2 := Aside0.mk h2; have HK2 := Aside0.mk h3; have hc2 := h2.cell1; have hf2 := h2.thaw 1; have hl2 := h2.lt; clear h2 h3)
    go_ret
    exact ⟨rfl, by first | exact (HI2.out.set1 _).alloc _ | exact (HI2.out.alloc _).set1 _, by first | exact keep_alloc (HK2.out.set_ _ _) _ | exact (keep_alloc HK2.out _).set_ _ _⟩
def rsetF (s : ByteArray) (bad : Bool) : Option (List S73 × Bool) :=
 (letterboxref12_Parse.f (4 * s.size + 2010) s).bind fun r => some (r.1, bad || r.2 != 0)
set_option maxHeartbeats 8000000 in
set_option maxRecDepth 100000 in
theorem rset_calls {s : ByteArray} {r : List S73} {b1 : Bool} (hI0 : RdI w0 w g l bad) (h : rsetF s bad = some (r, b1)) :
  Calls Tryz.prog 60 #[.pointer (some ⟨g, 0, none⟩), .string s] w fun e w' => ∃ v : Value, e = .returned v ∧ Kd.R k73 73 w' w.heap.size (fun _ => True) v r ∧ RdI w0 w' g l b1 ∧ KeepBut w w' g none := by
 obtain ⟨⟨r1, e1⟩, hp, h⟩ := Option.bind_eq_some_iff.1 h
 obtain ⟨rfl, rfl⟩ : r1 = r ∧ (bad || e1 != 0) = b1 := by simpa using h
 have HI := Aside0.mk hI0
 have HP := Aside0.mk hp
 have HG := Aside0.mk hI0.lt
 clear hI0 hp h
 cases bad with
 | true =>
  go_enter Tryz.func60, Tryz.ntmps60
  go_wp2_with (go_at_call 82; (with_reducible refine (letterboxref12_Parse.calls _ _ _ _ _ HP.out).mono ?_); rintro e w2 ⟨v, rfl, hr, hb⟩; have HR := Aside0.mk hr; have HI2 := Aside0.mk (HI.out.below_ hb); have HK2 := Aside0.mk (keepB_ (KeepBut.refl w g none) hb); have hc2 := HI2.out.cell1; have hf2 := HI2.out.thaw 1; clear hr hb)
  go_ret
  exact ⟨v, rfl, Kd.R_mono (Kd.R_far (p := ⟨g, 1, none⟩) (ok := fun k => w.heap.size ≤ k) (Kd.R_mono (Kd.R_bound HR.out) (fun k hk => hk.2.1)) (fun k hk => by have := HG.out; show k ≠ g; omega) _) (fun _ _ => trivial), HI2.out.set1 _, HK2.out.set_ _ _⟩
 | false =>
  by_cases c : e1 = 0
  ·have c0 : (e1 == 0) = true := beq_iff_eq.2 c
   have c1 : (e1 != 0) = false := bne_eq_false_iff_eq.2 c
   clear c
   rw [c1]
   go_enter Tryz.func60, Tryz.ntmps60
   go_wp2_with (go_at_call 82; (with_reducible refine (letterboxref12_Parse.calls _ _ _ _ _ HP.out).mono ?_); rintro e w2 ⟨v, rfl, hr, hb⟩; have HR := Aside0.mk hr; have HI2 := Aside0.mk (HI.out.below_ hb); have HK2 := Aside0.mk (keepB_ (KeepBut.refl w g none) hb); have hc2 := HI2.out.cell1; have hf2 := HI2.out.thaw 1; clear hr hb)
   go_ret
   exact ⟨v, rfl, Kd.R_mono (Kd.R_far (p := ⟨g, 1, none⟩) (ok := fun k => w.heap.size ≤ k) (Kd.R_mono (Kd.R_bound HR.out) (fun k hk => hk.2.1)) (fun k hk => by have := HG.out; show k ≠ g; omega) _) (fun _ _ => trivial), HI2.out.set1 _, HK2.out.set_ _ _⟩
  ·have c0 : (e1 == 0) = false := beq_eq_false_iff_ne.2 c
   have c1 : (e1 != 0) = true := bne_iff_ne.2 c
   clear c
   rw [c1]
   go_enter Tryz.func60, Tryz.ntmps60
   go_wp2_with (go_at_call 82; (with_reducible refine (letterboxref12_Parse.calls _ _ _ _ _ HP.out).mono ?_); rintro e w2 ⟨v, rfl, hr, hb⟩; have HR := Aside0.mk hr; have HI2 := Aside0.mk (HI.out.below_ hb); have HK2 := Aside0.mk (keepB_ (KeepBut.refl w g none) hb); have hc2 := HI2.out.cell1; have hf2 := HI2.out.thaw 1; clear hr hb)
   go_ret
   exact ⟨v, rfl, Kd.R_mono (Kd.R_far (p := ⟨g, 1, none⟩) (ok := fun k => w.heap.size ≤ k) (Kd.R_mono (Kd.R_bound HR.out) (fun k hk => hk.2.1)) (fun k hk => by have := HG.out; show k ≠ g; omega) _) (fun _ _ => trivial), HI2.out.set1 _, HK2.out.set_ _ _⟩
def rnumF (l : List Tok) (bad : Bool) : Option (Int × List Tok × Bool) :=
 (letterboxref16_Num.f ((atomR l bad).1.size + 20) (atomR l bad).1).bind fun n => some (if n < 0 then 0 else n, (atomR l bad).2.1, (atomR l bad).2.2 || decide (n < 0))
set_option maxHeartbeats 8000000 in
set_option maxRecDepth 100000 in
theorem rnum_calls {n : Int} {l1 : List Tok} {b1 : Bool} (hI0 : RdI w0 w g l bad) (h : rnumF l bad = some (n, l1, b1)) :
  Calls Tryz.prog 58 #[.pointer (some ⟨g, 0, none⟩)] w fun e w' => e = .returned (.int .i64 n) ∧ RdI w0 w' g l1 b1 ∧ KeepBut w w' g none := by
 obtain ⟨s, l2, b2, hx⟩ : ∃ s l2 b2, atomR l bad = (s, l2, b2) := ⟨_, _, _, rfl⟩
 unfold rnumF at h
 rw [hx] at h
 obtain ⟨m, hp, h⟩ := Option.bind_eq_some_iff.1 h
 obtain ⟨rfl, rfl, rfl⟩ : (if m < 0 then 0 else m) = n ∧ l2 = l1 ∧ (b2 || decide (m < 0)) = b1 := by simpa using h
 have HI := Aside0.mk hI0
 have HX := Aside0.mk hx
 have HP := Aside0.mk hp
 clear hI0 hx hp h
 by_cases c : m < 0
 ·have c0 : decide (m < 0) = true := decide_eq_true c
  have c1 : (m < 0) = True := eq_true c
  rw [if_pos c, c0]
  clear c
  cases b2 with
  | true =>
   go_enter Tryz.func58, Tryz.ntmps58
   go_wp2_with (first | (go_at_call 61; (with_reducible refine (ratom_calls HI.out HX.out).mono ?_); rintro e w2 ⟨rfl, h2, h3⟩; have HI2 := Aside0.mk h2; have HK2 := Aside0.mk h3; clear h2 h3) | (go_at_call 81; (with_reducible refine (letterboxref16_Num.calls _ _ _ _ HP.out).mono ?_); rintro e w3 ⟨rfl, hd⟩; have HI3 := Aside0.mk (HI2.out.below_ hd.below); have HK3 := Aside0.mk (keepB_ HK2.out hd.below); have hc2 := HI3.out.cell1; have hf2 := HI3.out.thaw 1; clear hd))
   go_ret
   exact ⟨rfl, HI3.out.set1 _, HK3.out.set_ _ _⟩
  | false =>
   go_enter Tryz.func58, Tryz.ntmps58
   go_wp2_with (first | (go_at_call 61; (with_reducible refine (ratom_calls HI.out HX.out).mono ?_); rintro e w2 ⟨rfl, h2, h3⟩; have HI2 := Aside0.mk h2; have HK2 := Aside0.mk h3; clear h2 h3) | (go_at_call 81; (with_reducible refine (letterboxref16_Num.calls _ _ _ _ HP.out).mono ?_); rintro e w3 ⟨rfl, hd⟩; have HI3 := Aside0.mk (HI2.out.below_ hd.below); have HK3 := Aside0.mk (keepB_ HK2.out hd.below); have hc2 := HI3.out.cell1; have hf2 := HI3.out.thaw 1; clear hd))
   go_ret
   exact ⟨rfl, HI3.out.set1 _, HK3.out.set_ _ _⟩
 ·have c0 : decide (m < 0) = false := decide_eq_false c
  have c1 : (m < 0) = False := eq_false c
  rw [if_neg c, c0]
  clear c
  cases b2 with
  | true =>
   go_enter Tryz.func58, Tryz.ntmps58
   go_wp2_with (first | (go_at_call 61; (with_reducible refine (ratom_calls HI.out HX.out).mono ?_); rintro e w2 ⟨rfl, h2, h3⟩; have HI2 := Aside0.mk h2; have HK2 := Aside0.mk h3; clear h2 h3) | (go_at_call 81; (with_reducible refine (letterboxref16_Num.calls _ _ _ _ HP.out).mono ?_); rintro e w3 ⟨rfl, hd⟩; have HI3 := Aside0.mk (HI2.out.below_ hd.below); have HK3 := Aside0.mk (keepB_ HK2.out hd.below); have hc2 := HI3.out.cell1; have hf2 := HI3.out.thaw 1; clear hd))
   go_ret
   exact ⟨rfl, HI3.out.set1 _, HK3.out.set_ _ _⟩
  | false =>
   go_enter Tryz.func58, Tryz.ntmps58
   go_wp2_with (first | (go_at_call 61; (with_reducible refine (ratom_calls HI.out HX.out).mono ?_); rintro e w2 ⟨rfl, h2, h3⟩; have HI2 := Aside0.mk h2; have HK2 := Aside0.mk h3; clear h2 h3) | (go_at_call 81; (with_reducible refine (letterboxref16_Num.calls _ _ _ _ HP.out).mono ?_); rintro e w3 ⟨rfl, hd⟩; have HI3 := Aside0.mk (HI2.out.below_ hd.below); have HK3 := Aside0.mk (keepB_ HK2.out hd.below); have hc2 := HI3.out.cell1; have hf2 := HI3.out.thaw 1; clear hd))
   go_ret
   exact ⟨rfl, HI3.out.set1 _, HK3.out.set_ _ _⟩
end Go.Proofs.YtejhfghijgbckaaGreatDoor
namespace Go.Proofs.YtejhfghijgbckaaGreatDoor
open Go.RowKit Go.Proofs.YtejhfghijgbckaaGreatDoor.P Go.Proofs.YtejhfghijgbckaaGreatDoorW.PrintWords Go.Proofs.YtejhfghijgbckaaGreatDoorW.PrintLast Go.Proofs.YtejhfghijgbckaaGreatDoorW.PrintMore
set_option linter.unusedVariables false
set_option linter.unusedSimpArgs false
structure Fq (w0 w wr : World) (g : Nat) (l : List Tok) (bad : Bool) : Prop where
 pa : RdI w0 wr g l bad
 keep : KeepBut w wr g none
 blk : wr.heap[w.heap.size]? = some (.cells zKey 27 (0, 0))
 gl : g < w.heap.size
section
variable {w0 w wr w2 : World} {g : Nat} {l l2 : List Tok} {bad b2 : Bool}
theorem Fq.start (h : RdI w0 w g l bad) : Fq w0 w (w.alloc (.cells zKey 27)) g l bad := ⟨h.alloc _, keep_alloc_ _ _ _, blk_new w _, h.lt⟩
theorem Fq.size (h : Fq w0 w wr g l bad) : w.heap.size < wr.heap.size := blk_lt h.blk
theorem Fq.step (h : Fq w0 w wr g l bad) (hp : RdI w0 w2 g l2 b2) (hk : KeepBut wr w2 g none) : Fq w0 w w2 g l2 b2 :=
 ⟨hp, h.keep.trans hk (.inl rfl), (hk.2 _ h.size (by have := h.gl; omega) (by simp)).trans h.blk, h.gl⟩
theorem Fq.below (h : Fq w0 w wr g l bad) (hb : Below wr.heap.size wr w2) : Fq w0 w w2 g l bad := h.step (h.pa.below_ hb) (KeepBut.of_below hb g none)
theorem Fq.cell (h : Fq w0 w wr g l bad) : wr.cell? ⟨w.heap.size, 0, none⟩ = some (.int .i64 0) ∧ wr.cell? ⟨w.heap.size, 1, none⟩ = some (.int .i64 0) ∧ wr.cell? ⟨w.heap.size, 2, none⟩ = some (.string ⟨#[]⟩) ∧ wr.cell? ⟨w.heap.size, 3, none⟩ = some (.string ⟨#[]⟩) ∧ wr.cell? ⟨w.heap.size, 4, none⟩ = some (.slice none 0 0) ∧ wr.cell? ⟨w.heap.size, 5, none⟩ = some (.slice none 0 0) :=
 ⟨blk_cell h.blk 0, blk_cell h.blk 1, blk_cell h.blk 2, blk_cell h.blk 3, blk_cell h.blk 4, blk_cell h.blk 5⟩
theorem Fq.thaw (h : Fq w0 w wr g l bad) (j : Nat) : wr.frozen? ⟨w.heap.size, j, none⟩ = false := blk_frozen h.blk j
end
def KqPost (w0 w : World) (g : Nat) (x : Key) (l' : List Tok) (b' : Bool) (e : Ending) (w' : World) : Prop :=
 ∃ A4 c4 A5 c5, e = .returned (.agg #[.int .i64 x.f0, .int .i64 x.f1, .string x.f2, .string x.f3, .slice A4 x.f4.length c4, .slice A5 x.f5.length c5]) ∧
  Kd.R kRg 73 w' w.heap.size (fun _ => True) (.slice A4 x.f4.length c4) x.f4 ∧ Kd.R kKey 27 w' w.heap.size (fun _ => True) (.slice A5 x.f5.length c5) x.f5 ∧ RdI w0 w' g l' b' ∧ KeepBut w w' g none
def KqC (w0 : World) (g : Nat) (K : List Tok → Bool → Option KRes) (d : Int) : Prop :=
 ∀ (w : World) (l : List Tok) (bad : Bool) (x : Key) (l' : List Tok) (b' : Bool), RdI w0 w g l bad → K l bad = some (x, l', b') →
  Calls Tryz.prog 23 #[.pointer (some ⟨g, 0, none⟩), .int .i64 d] w (KqPost w0 w g x l' b')
theorem Fq.post0 {w0 w wr : World} {g : Nat} {l : List Tok} {bad : Bool} (h : Fq w0 w wr g l bad) (x : Key) {A4 A5 : Option Addr} {c4 c5 : Nat}
  (h4 : Kd.R kRg 73 wr (w.heap.size + 1) (fun _ => True) (.slice A4 x.f4.length c4) x.f4) (h5 : Kd.R kKey 27 wr (w.heap.size + 1) (fun _ => True) (.slice A5 x.f5.length c5) x.f5) (a0 a1 a2 a3 a4 a5 : Value) :
  Kd.R kRg 73 ((((((wr.setCell ⟨w.heap.size, 0, none⟩ a0).setCell ⟨w.heap.size, 1, none⟩ a1).setCell ⟨w.heap.size, 2, none⟩ a2).setCell ⟨w.heap.size, 3, none⟩ a3).setCell ⟨w.heap.size, 4, none⟩ a4).setCell ⟨w.heap.size, 5, none⟩ a5) w.heap.size (fun _ => True) (.slice A4 x.f4.length c4) x.f4 ∧ Kd.R kKey 27 ((((((wr.setCell ⟨w.heap.size, 0, none⟩ a0).setCell ⟨w.heap.size, 1, none⟩ a1).setCell ⟨w.heap.size, 2, none⟩ a2).setCell ⟨w.heap.size, 3, none⟩ a3).setCell ⟨w.heap.size, 4, none⟩ a4).setCell ⟨w.heap.size, 5, none⟩ a5) w.heap.size (fun _ => True) (.slice A5 x.f5.length c5) x.f5 ∧ RdI w0 ((((((wr.setCell ⟨w.heap.size, 0, none⟩ a0).setCell ⟨w.heap.size, 1, none⟩ a1).setCell ⟨w.heap.size, 2, none⟩ a2).setCell ⟨w.heap.size, 3, none⟩ a3).setCell ⟨w.heap.size, 4, none⟩ a4).setCell ⟨w.heap.size, 5, none⟩ a5) g l bad ∧ KeepBut w ((((((wr.setCell ⟨w.heap.size, 0, none⟩ a0).setCell ⟨w.heap.size, 1, none⟩ a1).setCell ⟨w.heap.size, 2, none⟩ a2).setCell ⟨w.heap.size, 3, none⟩ a3).setCell ⟨w.heap.size, 4, none⟩ a4).setCell ⟨w.heap.size, 5, none⟩ a5) g none := by
 have hk : ∀ {α : Type} {d : Kd α} {e : Nat} {v : Value} {xs : List α}, Kd.R d e wr (w.heap.size + 1) (fun _ => True) v xs → Kd.R d e ((((((wr.setCell ⟨w.heap.size, 0, none⟩ a0).setCell ⟨w.heap.size, 1, none⟩ a1).setCell ⟨w.heap.size, 2, none⟩ a2).setCell ⟨w.heap.size, 3, none⟩ a3).setCell ⟨w.heap.size, 4, none⟩ a4).setCell ⟨w.heap.size, 5, none⟩ a5) w.heap.size (fun _ => True) v xs := by
  intro α d e v xs hr
  have h0 : Kd.R d e wr w.heap.size (fun k => k ≠ w.heap.size) v xs := Kd.R_lower (Kd.R_mono (Kd.R_bound hr) (fun k hk => by have := hk.2.1; omega)) (by omega)
  have s_ : ∀ {W : World} (j : Nat) (u : Value), Kd.R d e W w.heap.size (fun k => k ≠ w.heap.size) v xs → Kd.R d e (W.setCell ⟨w.heap.size, j, none⟩ u) w.heap.size (fun k => k ≠ w.heap.size) v xs := fun j u hW => Kd.R_far (p := ⟨w.heap.size, j, none⟩) hW (fun k hk => hk) u
  exact Kd.R_mono (s_ 5 _ (s_ 4 _ (s_ 3 _ (s_ 2 _ (s_ 1 _ (s_ 0 _ h0)))))) (fun _ _ => trivial)
 have hg := h.gl
 refine ⟨hk h4, hk h5, (((((h.pa.far hg _ _).far hg _ _).far hg _ _).far hg _ _).far hg _ _).far hg _ _, ?_⟩
 exact keep_far (keep_far (keep_far (keep_far (keep_far (keep_far h.keep (Nat.le_refl _) _) (Nat.le_refl _) _) (Nat.le_refl _) _) (Nat.le_refl _) _) (Nat.le_refl _) _) (Nat.le_refl _) _
theorem Fq.post {w0 w wr : World} {g : Nat} {l : List Tok} {bad : Bool} (h : Fq w0 w wr g l bad) (x : Key) {A4 A5 : Option Addr} {c4 c5 : Nat}
  (h4 : Kd.R kRg 73 wr (w.heap.size + 1) (fun _ => True) (.slice A4 x.f4.length c4) x.f4) (h5 : Kd.R kKey 27 wr (w.heap.size + 1) (fun _ => True) (.slice A5 x.f5.length c5) x.f5) (a0 a1 a2 a3 a4 a5 : Value) :
  KqPost w0 w g x l bad (.returned (.agg #[.int .i64 x.f0, .int .i64 x.f1, .string x.f2, .string x.f3, .slice A4 x.f4.length c4, .slice A5 x.f5.length c5])) ((((((wr.setCell ⟨w.heap.size, 0, none⟩ a0).setCell ⟨w.heap.size, 1, none⟩ a1).setCell ⟨w.heap.size, 2, none⟩ a2).setCell ⟨w.heap.size, 3, none⟩ a3).setCell ⟨w.heap.size, 4, none⟩ a4).setCell ⟨w.heap.size, 5, none⟩ a5) :=
 ⟨A4, c4, A5, c5, rfl, h.post0 x h4 h5 a0 a1 a2 a3 a4 a5⟩
end Go.Proofs.YtejhfghijgbckaaGreatDoor
namespace Go.Proofs.YtejhfghijgbckaaGreatDoor
open Go.RowKit Go.Proofs.YtejhfghijgbckaaGreatDoor.P Go.Proofs.YtejhfghijgbckaaGreatDoorW.PrintWords Go.Proofs.YtejhfghijgbckaaGreatDoorW.PrintLast Go.Proofs.YtejhfghijgbckaaGreatDoorW.PrintMore
set_option linter.unusedVariables false
set_option linter.unusedSimpArgs false
variable {w0 w : World} {g : Nat} {l : List Tok} {bad : Bool}
theorem KqC.go {K : List Tok → Bool → Option KRes} {d : Int} (h : KqC w0 g K d) {x : Key} {l' : List Tok} {b' : Bool} (hI : RdI w0 w g l bad) (hk : K l bad = some (x, l', b')) : Calls Tryz.prog 23 #[.pointer (some ⟨g, 0, none⟩), .int .i64 d] w (KqPost w0 w g x l' b') := h _ _ _ _ _ _ hI hk

set_option maxHeartbeats 8000000 in
set_option maxRecDepth 100000 in
theorem word_all {d : Int} {s word : ByteArray} (hI0 : RdI w0 w g l bad) (hw : letterboxref9_Low.f s = some word) (kall : word.toList = ([97, 108, 108] : List UInt8)) :
  Calls Tryz.prog 39 #[.pointer (some ⟨g, 0, none⟩), .string s, .int .i64 d] w (KqPost w0 w g ⟨1, 0, ⟨#[]⟩, ⟨#[]⟩, [], []⟩ l bad) := by
 have HF0 := Aside0.mk (Fq.start hI0)
 have HW := Aside0.mk hw
 have ball : (word.toList == ([97, 108, 108] : List UInt8)) = true := beq_iff_eq.mpr kall
 clear kall
 clear hI0 hw
 go_enter Tryz.func39, Tryz.ntmps39
 go_wp2_with (first | (go_at_call 47; (with_reducible refine (letterboxref9_Low.calls _ _ _ HW.out).mono ?_); rintro e w1 ⟨rfl, hb⟩; have HF1 := Aside0.mk (HF0.out.below hb); clear hb; obtain ⟨hq0, hq1, hq2, hq3, hq4, hq5⟩ := HF1.out.cell; have hz0 := HF1.out.thaw 0; have hz1 := HF1.out.thaw 1; have hz2 := HF1.out.thaw 2; have hz3 := HF1.out.thaw 3; have hz4 := HF1.out.thaw 4; have hz5 := HF1.out.thaw 5))
 exact bodyPost_ret (v := .agg #[.int .i64 1, .int .i64 0, .string ⟨#[]⟩, .string ⟨#[]⟩, .slice none 0 0, .slice none 0 0]) (by obtain ⟨r0, r1, r2, r3, r4, r5⟩ := six_cells HF1.out.blk (.int .i64 1) (.int .i64 0) (.string ⟨#[]⟩) (.string ⟨#[]⟩) (.slice none 0 0) (.slice none 0 0); simp [results, Tryz.results39, go_sem, r0, r1, r2, r3, r4, r5]) rfl (HF1.out.post (⟨1, 0, ⟨#[]⟩, ⟨#[]⟩, [], []⟩ : Key) (Kd.R_nil _ _ _ _ _) (Kd.R_nil _ _ _ _ _) _ _ _ _ _ _)

set_option maxHeartbeats 8000000 in
set_option maxRecDepth 100000 in
theorem word_larger {d : Int} {s word : ByteArray} (hI0 : RdI w0 w g l bad) (hw : letterboxref9_Low.f s = some word) (kall : ¬ word.toList = ([97, 108, 108] : List UInt8)) (klarger : word.toList = ([108, 97, 114, 103, 101, 114] : List UInt8)) {n : Int} {l2 : List Tok} {b2 : Bool} (hnum : rnumF l bad = some (n, l2, b2)) :
  Calls Tryz.prog 39 #[.pointer (some ⟨g, 0, none⟩), .string s, .int .i64 d] w (KqPost w0 w g ⟨3, n, ⟨#[]⟩, ⟨#[]⟩, [], []⟩ l2 b2) := by
 have HF0 := Aside0.mk (Fq.start hI0)
 have HW := Aside0.mk hw
 have ball : (word.toList == ([97, 108, 108] : List UInt8)) = false := beq_eq_false_iff_ne.mpr kall
 clear kall
 have blarger : (word.toList == ([108, 97, 114, 103, 101, 114] : List UInt8)) = true := beq_iff_eq.mpr klarger
 clear klarger
 have HNU := Aside0.mk hnum
 clear hnum
 clear hI0 hw
 go_enter Tryz.func39, Tryz.ntmps39
 go_wp2_with (first | (go_at_call 47; (with_reducible refine (letterboxref9_Low.calls _ _ _ HW.out).mono ?_); rintro e w1 ⟨rfl, hb⟩; have HF1 := Aside0.mk (HF0.out.below hb); clear hb) | (go_at_call 58; (with_reducible refine (rnum_calls HF1.out.pa HNU.out).mono ?_); rintro e w2 ⟨rfl, h2, h3⟩; have HF2 := Aside0.mk (HF1.out.step h2 h3); clear h2 h3; obtain ⟨hq0, hq1, hq2, hq3, hq4, hq5⟩ := HF2.out.cell; have hz0 := HF2.out.thaw 0; have hz1 := HF2.out.thaw 1; have hz2 := HF2.out.thaw 2; have hz3 := HF2.out.thaw 3; have hz4 := HF2.out.thaw 4; have hz5 := HF2.out.thaw 5))
 exact bodyPost_ret (v := .agg #[.int .i64 3, .int .i64 n, .string ⟨#[]⟩, .string ⟨#[]⟩, .slice none 0 0, .slice none 0 0]) (by obtain ⟨r0, r1, r2, r3, r4, r5⟩ := six_cells HF2.out.blk (.int .i64 3) (.int .i64 n) (.string ⟨#[]⟩) (.string ⟨#[]⟩) (.slice none 0 0) (.slice none 0 0); simp [results, Tryz.results39, go_sem, r0, r1, r2, r3, r4, r5]) rfl (HF2.out.post (⟨3, n, ⟨#[]⟩, ⟨#[]⟩, [], []⟩ : Key) (Kd.R_nil _ _ _ _ _) (Kd.R_nil _ _ _ _ _) _ _ _ _ _ _)

set_option maxHeartbeats 8000000 in
set_option maxRecDepth 100000 in
theorem word_smaller {d : Int} {s word : ByteArray} (hI0 : RdI w0 w g l bad) (hw : letterboxref9_Low.f s = some word) (kall : ¬ word.toList = ([97, 108, 108] : List UInt8)) (klarger : ¬ word.toList = ([108, 97, 114, 103, 101, 114] : List UInt8)) (ksmaller : word.toList = ([115, 109, 97, 108, 108, 101, 114] : List UInt8)) {n : Int} {l2 : List Tok} {b2 : Bool} (hnum : rnumF l bad = some (n, l2, b2)) :
  Calls Tryz.prog 39 #[.pointer (some ⟨g, 0, none⟩), .string s, .int .i64 d] w (KqPost w0 w g ⟨4, n, ⟨#[]⟩, ⟨#[]⟩, [], []⟩ l2 b2) := by
 have HF0 := Aside0.mk (Fq.start hI0)
 have HW := Aside0.mk hw
 have ball : (word.toList == ([97, 108, 108] : List UInt8)) = false := beq_eq_false_iff_ne.mpr kall
 clear kall
 have blarger : (word.toList == ([108, 97, 114, 103, 101, 114] : List UInt8)) = false := beq_eq_false_iff_ne.mpr klarger
 clear klarger
 have bsmaller : (word.toList == ([115, 109, 97, 108, 108, 101, 114] : List UInt8)) = true := beq_iff_eq.mpr ksmaller
 clear ksmaller
 have HNU := Aside0.mk hnum
 clear hnum
 clear hI0 hw
 go_enter Tryz.func39, Tryz.ntmps39
 go_wp2_with (first | (go_at_call 47; (with_reducible refine (letterboxref9_Low.calls _ _ _ HW.out).mono ?_); rintro e w1 ⟨rfl, hb⟩; have HF1 := Aside0.mk (HF0.out.below hb); clear hb) | (go_at_call 58; (with_reducible refine (rnum_calls HF1.out.pa HNU.out).mono ?_); rintro e w2 ⟨rfl, h2, h3⟩; have HF2 := Aside0.mk (HF1.out.step h2 h3); clear h2 h3; obtain ⟨hq0, hq1, hq2, hq3, hq4, hq5⟩ := HF2.out.cell; have hz0 := HF2.out.thaw 0; have hz1 := HF2.out.thaw 1; have hz2 := HF2.out.thaw 2; have hz3 := HF2.out.thaw 3; have hz4 := HF2.out.thaw 4; have hz5 := HF2.out.thaw 5))
 exact bodyPost_ret (v := .agg #[.int .i64 4, .int .i64 n, .string ⟨#[]⟩, .string ⟨#[]⟩, .slice none 0 0, .slice none 0 0]) (by obtain ⟨r0, r1, r2, r3, r4, r5⟩ := six_cells HF2.out.blk (.int .i64 4) (.int .i64 n) (.string ⟨#[]⟩) (.string ⟨#[]⟩) (.slice none 0 0) (.slice none 0 0); simp [results, Tryz.results39, go_sem, r0, r1, r2, r3, r4, r5]) rfl (HF2.out.post (⟨4, n, ⟨#[]⟩, ⟨#[]⟩, [], []⟩ : Key) (Kd.R_nil _ _ _ _ _) (Kd.R_nil _ _ _ _ _) _ _ _ _ _ _)

set_option maxHeartbeats 8000000 in
set_option maxRecDepth 100000 in
theorem word_text {d : Int} {s word : ByteArray} (hI0 : RdI w0 w g l bad) (hw : letterboxref9_Low.f s = some word) (kall : ¬ word.toList = ([97, 108, 108] : List UInt8)) (klarger : ¬ word.toList = ([108, 97, 114, 103, 101, 114] : List UInt8)) (ksmaller : ¬ word.toList = ([115, 109, 97, 108, 108, 101, 114] : List UInt8)) (ktext : word.toList = ([116, 101, 120, 116] : List UInt8)) {s2 : ByteArray} {l2 : List Tok} {b2 : Bool} (htx : textR l bad = (s2, l2, b2)) :
  Calls Tryz.prog 39 #[.pointer (some ⟨g, 0, none⟩), .string s, .int .i64 d] w (KqPost w0 w g ⟨5, 0, ⟨#[]⟩, s2, [], []⟩ l2 b2) := by
 have HF0 := Aside0.mk (Fq.start hI0)
 have HW := Aside0.mk hw
 have ball : (word.toList == ([97, 108, 108] : List UInt8)) = false := beq_eq_false_iff_ne.mpr kall
 clear kall
 have blarger : (word.toList == ([108, 97, 114, 103, 101, 114] : List UInt8)) = false := beq_eq_false_iff_ne.mpr klarger
 clear klarger
 have bsmaller : (word.toList == ([115, 109, 97, 108, 108, 101, 114] : List UInt8)) = false := beq_eq_false_iff_ne.mpr ksmaller
 clear ksmaller
 have btext : (word.toList == ([116, 101, 120, 116] : List UInt8)) = true := beq_iff_eq.mpr ktext
 clear ktext
 have HTX := Aside0.mk htx
 clear htx
 clear hI0 hw
 go_enter Tryz.func39, Tryz.ntmps39
 go_wp2_with (first | (go_at_call 47; (with_reducible refine (letterboxref9_Low.calls _ _ _ HW.out).mono ?_); rintro e w1 ⟨rfl, hb⟩; have HF1 := Aside0.mk (HF0.out.below hb); clear hb) | (go_at_call 59; (with_reducible refine (rtext_calls HF1.out.pa HTX.out).mono ?_); rintro e w2 ⟨rfl, h2, h3⟩; have HF2 := Aside0.mk (HF1.out.step h2 h3); clear h2 h3; obtain ⟨hq0, hq1, hq2, hq3, hq4, hq5⟩ := HF2.out.cell; have hz0 := HF2.out.thaw 0; have hz1 := HF2.out.thaw 1; have hz2 := HF2.out.thaw 2; have hz3 := HF2.out.thaw 3; have hz4 := HF2.out.thaw 4; have hz5 := HF2.out.thaw 5))
 exact bodyPost_ret (v := .agg #[.int .i64 5, .int .i64 0, .string ⟨#[]⟩, .string s2, .slice none 0 0, .slice none 0 0]) (by obtain ⟨r0, r1, r2, r3, r4, r5⟩ := six_cells HF2.out.blk (.int .i64 5) (.int .i64 0) (.string ⟨#[]⟩) (.string s2) (.slice none 0 0) (.slice none 0 0); simp [results, Tryz.results39, go_sem, r0, r1, r2, r3, r4, r5]) rfl (HF2.out.post (⟨5, 0, ⟨#[]⟩, s2, [], []⟩ : Key) (Kd.R_nil _ _ _ _ _) (Kd.R_nil _ _ _ _ _) _ _ _ _ _ _)

set_option maxHeartbeats 8000000 in
set_option maxRecDepth 100000 in
theorem word_subject {d : Int} {s word : ByteArray} (hI0 : RdI w0 w g l bad) (hw : letterboxref9_Low.f s = some word) (kall : ¬ word.toList = ([97, 108, 108] : List UInt8)) (klarger : ¬ word.toList = ([108, 97, 114, 103, 101, 114] : List UInt8)) (ksmaller : ¬ word.toList = ([115, 109, 97, 108, 108, 101, 114] : List UInt8)) (ktext : ¬ word.toList = ([116, 101, 120, 116] : List UInt8)) (ksubject : word.toList = ([115, 117, 98, 106, 101, 99, 116] : List UInt8)) {s2 : ByteArray} {l2 : List Tok} {b2 : Bool} (htx : textR l bad = (s2, l2, b2)) :
  Calls Tryz.prog 39 #[.pointer (some ⟨g, 0, none⟩), .string s, .int .i64 d] w (KqPost w0 w g ⟨6, 0, word, s2, [], []⟩ l2 b2) := by
 have HF0 := Aside0.mk (Fq.start hI0)
 have HW := Aside0.mk hw
 have ball : (word.toList == ([97, 108, 108] : List UInt8)) = false := beq_eq_false_iff_ne.mpr kall
 clear kall
 have blarger : (word.toList == ([108, 97, 114, 103, 101, 114] : List UInt8)) = false := beq_eq_false_iff_ne.mpr klarger
 clear klarger
 have bsmaller : (word.toList == ([115, 109, 97, 108, 108, 101, 114] : List UInt8)) = false := beq_eq_false_iff_ne.mpr ksmaller
 clear ksmaller
 have btext : (word.toList == ([116, 101, 120, 116] : List UInt8)) = false := beq_eq_false_iff_ne.mpr ktext
 clear ktext
 have bsubject : (word.toList == ([115, 117, 98, 106, 101, 99, 116] : List UInt8)) = true := beq_iff_eq.mpr ksubject
 clear ksubject
 have HTX := Aside0.mk htx
 clear htx
 clear hI0 hw
 go_enter Tryz.func39, Tryz.ntmps39
 go_wp2_with (first | (go_at_call 47; (with_reducible refine (letterboxref9_Low.calls _ _ _ HW.out).mono ?_); rintro e w1 ⟨rfl, hb⟩; have HF1 := Aside0.mk (HF0.out.below hb); clear hb) | (go_at_call 59; (with_reducible refine (rtext_calls HF1.out.pa HTX.out).mono ?_); rintro e w2 ⟨rfl, h2, h3⟩; have HF2 := Aside0.mk (HF1.out.step h2 h3); clear h2 h3; obtain ⟨hq0, hq1, hq2, hq3, hq4, hq5⟩ := HF2.out.cell; have hz0 := HF2.out.thaw 0; have hz1 := HF2.out.thaw 1; have hz2 := HF2.out.thaw 2; have hz3 := HF2.out.thaw 3; have hz4 := HF2.out.thaw 4; have hz5 := HF2.out.thaw 5))
 exact bodyPost_ret (v := .agg #[.int .i64 6, .int .i64 0, .string word, .string s2, .slice none 0 0, .slice none 0 0]) (by obtain ⟨r0, r1, r2, r3, r4, r5⟩ := six_cells HF2.out.blk (.int .i64 6) (.int .i64 0) (.string word) (.string s2) (.slice none 0 0) (.slice none 0 0); simp [results, Tryz.results39, go_sem, r0, r1, r2, r3, r4, r5]) rfl (HF2.out.post (⟨6, 0, word, s2, [], []⟩ : Key) (Kd.R_nil _ _ _ _ _) (Kd.R_nil _ _ _ _ _) _ _ _ _ _ _)

set_option maxHeartbeats 8000000 in
set_option maxRecDepth 100000 in
theorem word_from {d : Int} {s word : ByteArray} (hI0 : RdI w0 w g l bad) (hw : letterboxref9_Low.f s = some word) (kall : ¬ word.toList = ([97, 108, 108] : List UInt8)) (klarger : ¬ word.toList = ([108, 97, 114, 103, 101, 114] : List UInt8)) (ksmaller : ¬ word.toList = ([115, 109, 97, 108, 108, 101, 114] : List UInt8)) (ktext : ¬ word.toList = ([116, 101, 120, 116] : List UInt8)) (ksubject : ¬ word.toList = ([115, 117, 98, 106, 101, 99, 116] : List UInt8)) (kfrom : word.toList = ([102, 114, 111, 109] : List UInt8)) {s2 : ByteArray} {l2 : List Tok} {b2 : Bool} (htx : textR l bad = (s2, l2, b2)) :
  Calls Tryz.prog 39 #[.pointer (some ⟨g, 0, none⟩), .string s, .int .i64 d] w (KqPost w0 w g ⟨6, 0, word, s2, [], []⟩ l2 b2) := by
 have HF0 := Aside0.mk (Fq.start hI0)
 have HW := Aside0.mk hw
 have ball : (word.toList == ([97, 108, 108] : List UInt8)) = false := beq_eq_false_iff_ne.mpr kall
 clear kall
 have blarger : (word.toList == ([108, 97, 114, 103, 101, 114] : List UInt8)) = false := beq_eq_false_iff_ne.mpr klarger
 clear klarger
 have bsmaller : (word.toList == ([115, 109, 97, 108, 108, 101, 114] : List UInt8)) = false := beq_eq_false_iff_ne.mpr ksmaller
 clear ksmaller
 have btext : (word.toList == ([116, 101, 120, 116] : List UInt8)) = false := beq_eq_false_iff_ne.mpr ktext
 clear ktext
 have bsubject : (word.toList == ([115, 117, 98, 106, 101, 99, 116] : List UInt8)) = false := beq_eq_false_iff_ne.mpr ksubject
 clear ksubject
 have bfrom : (word.toList == ([102, 114, 111, 109] : List UInt8)) = true := beq_iff_eq.mpr kfrom
 clear kfrom
 have HTX := Aside0.mk htx
 clear htx
 clear hI0 hw
 go_enter Tryz.func39, Tryz.ntmps39
 go_wp2_with (first | (go_at_call 47; (with_reducible refine (letterboxref9_Low.calls _ _ _ HW.out).mono ?_); rintro e w1 ⟨rfl, hb⟩; have HF1 := Aside0.mk (HF0.out.below hb); clear hb) | (go_at_call 59; (with_reducible refine (rtext_calls HF1.out.pa HTX.out).mono ?_); rintro e w2 ⟨rfl, h2, h3⟩; have HF2 := Aside0.mk (HF1.out.step h2 h3); clear h2 h3; obtain ⟨hq0, hq1, hq2, hq3, hq4, hq5⟩ := HF2.out.cell; have hz0 := HF2.out.thaw 0; have hz1 := HF2.out.thaw 1; have hz2 := HF2.out.thaw 2; have hz3 := HF2.out.thaw 3; have hz4 := HF2.out.thaw 4; have hz5 := HF2.out.thaw 5))
 exact bodyPost_ret (v := .agg #[.int .i64 6, .int .i64 0, .string word, .string s2, .slice none 0 0, .slice none 0 0]) (by obtain ⟨r0, r1, r2, r3, r4, r5⟩ := six_cells HF2.out.blk (.int .i64 6) (.int .i64 0) (.string word) (.string s2) (.slice none 0 0) (.slice none 0 0); simp [results, Tryz.results39, go_sem, r0, r1, r2, r3, r4, r5]) rfl (HF2.out.post (⟨6, 0, word, s2, [], []⟩ : Key) (Kd.R_nil _ _ _ _ _) (Kd.R_nil _ _ _ _ _) _ _ _ _ _ _)

set_option maxHeartbeats 8000000 in
set_option maxRecDepth 100000 in
theorem word_to {d : Int} {s word : ByteArray} (hI0 : RdI w0 w g l bad) (hw : letterboxref9_Low.f s = some word) (kall : ¬ word.toList = ([97, 108, 108] : List UInt8)) (klarger : ¬ word.toList = ([108, 97, 114, 103, 101, 114] : List UInt8)) (ksmaller : ¬ word.toList = ([115, 109, 97, 108, 108, 101, 114] : List UInt8)) (ktext : ¬ word.toList = ([116, 101, 120, 116] : List UInt8)) (ksubject : ¬ word.toList = ([115, 117, 98, 106, 101, 99, 116] : List UInt8)) (kfrom : ¬ word.toList = ([102, 114, 111, 109] : List UInt8)) (kto : word.toList = ([116, 111] : List UInt8)) {s2 : ByteArray} {l2 : List Tok} {b2 : Bool} (htx : textR l bad = (s2, l2, b2)) :
  Calls Tryz.prog 39 #[.pointer (some ⟨g, 0, none⟩), .string s, .int .i64 d] w (KqPost w0 w g ⟨6, 0, word, s2, [], []⟩ l2 b2) := by
 have HF0 := Aside0.mk (Fq.start hI0)
 have HW := Aside0.mk hw
 have ball : (word.toList == ([97, 108, 108] : List UInt8)) = false := beq_eq_false_iff_ne.mpr kall
 clear kall
 have blarger : (word.toList == ([108, 97, 114, 103, 101, 114] : List UInt8)) = false := beq_eq_false_iff_ne.mpr klarger
 clear klarger
 have bsmaller : (word.toList == ([115, 109, 97, 108, 108, 101, 114] : List UInt8)) = false := beq_eq_false_iff_ne.mpr ksmaller
 clear ksmaller
 have btext : (word.toList == ([116, 101, 120, 116] : List UInt8)) = false := beq_eq_false_iff_ne.mpr ktext
 clear ktext
 have bsubject : (word.toList == ([115, 117, 98, 106, 101, 99, 116] : List UInt8)) = false := beq_eq_false_iff_ne.mpr ksubject
 clear ksubject
 have bfrom : (word.toList == ([102, 114, 111, 109] : List UInt8)) = false := beq_eq_false_iff_ne.mpr kfrom
 clear kfrom
 have bto : (word.toList == ([116, 111] : List UInt8)) = true := beq_iff_eq.mpr kto
 clear kto
 have HTX := Aside0.mk htx
 clear htx
 clear hI0 hw
 go_enter Tryz.func39, Tryz.ntmps39
 go_wp2_with (first | (go_at_call 47; (with_reducible refine (letterboxref9_Low.calls _ _ _ HW.out).mono ?_); rintro e w1 ⟨rfl, hb⟩; have HF1 := Aside0.mk (HF0.out.below hb); clear hb) | (go_at_call 59; (with_reducible refine (rtext_calls HF1.out.pa HTX.out).mono ?_); rintro e w2 ⟨rfl, h2, h3⟩; have HF2 := Aside0.mk (HF1.out.step h2 h3); clear h2 h3; obtain ⟨hq0, hq1, hq2, hq3, hq4, hq5⟩ := HF2.out.cell; have hz0 := HF2.out.thaw 0; have hz1 := HF2.out.thaw 1; have hz2 := HF2.out.thaw 2; have hz3 := HF2.out.thaw 3; have hz4 := HF2.out.thaw 4; have hz5 := HF2.out.thaw 5))
 exact bodyPost_ret (v := .agg #[.int .i64 6, .int .i64 0, .string word, .string s2, .slice none 0 0, .slice none 0 0]) (by obtain ⟨r0, r1, r2, r3, r4, r5⟩ := six_cells HF2.out.blk (.int .i64 6) (.int .i64 0) (.string word) (.string s2) (.slice none 0 0) (.slice none 0 0); simp [results, Tryz.results39, go_sem, r0, r1, r2, r3, r4, r5]) rfl (HF2.out.post (⟨6, 0, word, s2, [], []⟩ : Key) (Kd.R_nil _ _ _ _ _) (Kd.R_nil _ _ _ _ _) _ _ _ _ _ _)

set_option maxHeartbeats 8000000 in
set_option maxRecDepth 100000 in
theorem word_uid {d : Int} {s word : ByteArray} (hI0 : RdI w0 w g l bad) (hw : letterboxref9_Low.f s = some word) (kall : ¬ word.toList = ([97, 108, 108] : List UInt8)) (klarger : ¬ word.toList = ([108, 97, 114, 103, 101, 114] : List UInt8)) (ksmaller : ¬ word.toList = ([115, 109, 97, 108, 108, 101, 114] : List UInt8)) (ktext : ¬ word.toList = ([116, 101, 120, 116] : List UInt8)) (ksubject : ¬ word.toList = ([115, 117, 98, 106, 101, 99, 116] : List UInt8)) (kfrom : ¬ word.toList = ([102, 114, 111, 109] : List UInt8)) (kto : ¬ word.toList = ([116, 111] : List UInt8)) (kuid : word.toList = ([117, 105, 100] : List UInt8)) {s2 : ByteArray} {l2 : List Tok} {b2 : Bool} (htx : atomR l bad = (s2, l2, b2)) {r : List Rg} {b3 : Bool} (hset : rsetF s2 b2 = some (r, b3)) :
  Calls Tryz.prog 39 #[.pointer (some ⟨g, 0, none⟩), .string s, .int .i64 d] w (KqPost w0 w g ⟨8, 0, ⟨#[]⟩, ⟨#[]⟩, r, []⟩ l2 b3) := by
 have HF0 := Aside0.mk (Fq.start hI0)
 have HW := Aside0.mk hw
 have ball : (word.toList == ([97, 108, 108] : List UInt8)) = false := beq_eq_false_iff_ne.mpr kall
 clear kall
 have blarger : (word.toList == ([108, 97, 114, 103, 101, 114] : List UInt8)) = false := beq_eq_false_iff_ne.mpr klarger
 clear klarger
 have bsmaller : (word.toList == ([115, 109, 97, 108, 108, 101, 114] : List UInt8)) = false := beq_eq_false_iff_ne.mpr ksmaller
 clear ksmaller
 have btext : (word.toList == ([116, 101, 120, 116] : List UInt8)) = false := beq_eq_false_iff_ne.mpr ktext
 clear ktext
 have bsubject : (word.toList == ([115, 117, 98, 106, 101, 99, 116] : List UInt8)) = false := beq_eq_false_iff_ne.mpr ksubject
 clear ksubject
 have bfrom : (word.toList == ([102, 114, 111, 109] : List UInt8)) = false := beq_eq_false_iff_ne.mpr kfrom
 clear kfrom
 have bto : (word.toList == ([116, 111] : List UInt8)) = false := beq_eq_false_iff_ne.mpr kto
 clear kto
 have buid : (word.toList == ([117, 105, 100] : List UInt8)) = true := beq_iff_eq.mpr kuid
 clear kuid
 have HTX := Aside0.mk htx
 clear htx
 have HSE := Aside0.mk hset
 clear hset
 clear hI0 hw
 go_enter Tryz.func39, Tryz.ntmps39
 go_wp2_with (first | (go_at_call 47; (with_reducible refine (letterboxref9_Low.calls _ _ _ HW.out).mono ?_); rintro e w1 ⟨rfl, hb⟩; have HF1 := Aside0.mk (HF0.out.below hb); clear hb) | (go_at_call 61; (with_reducible refine (ratom_calls HF1.out.pa HTX.out).mono ?_); rintro e w2 ⟨rfl, h2, h3⟩; have HF2 := Aside0.mk (HF1.out.step h2 h3); clear h2 h3) | (go_at_call 60; (with_reducible refine (rset_calls HF2.out.pa HSE.out).mono ?_); rintro e w3 ⟨v_, rfl, hr, h2, h3⟩; obtain ⟨As, cs, rfl⟩ := Kd.R_slice hr; have HR := Aside0.mk (Kd.R_lower (base' := w.heap.size + 1) hr HF2.out.size); clear hr; have HF3 := Aside0.mk (HF2.out.step h2 h3); clear h2 h3; obtain ⟨hq0, hq1, hq2, hq3, hq4, hq5⟩ := HF3.out.cell; have hz0 := HF3.out.thaw 0; have hz1 := HF3.out.thaw 1; have hz2 := HF3.out.thaw 2; have hz3 := HF3.out.thaw 3; have hz4 := HF3.out.thaw 4; have hz5 := HF3.out.thaw 5))
 exact bodyPost_ret (v := .agg #[.int .i64 8, .int .i64 0, .string ⟨#[]⟩, .string ⟨#[]⟩, .slice As r.length cs, .slice none 0 0]) (by obtain ⟨r0, r1, r2, r3, r4, r5⟩ := six_cells HF3.out.blk (.int .i64 8) (.int .i64 0) (.string ⟨#[]⟩) (.string ⟨#[]⟩) (.slice As r.length cs) (.slice none 0 0); simp [results, Tryz.results39, go_sem, r0, r1, r2, r3, r4, r5]) rfl (HF3.out.post (⟨8, 0, ⟨#[]⟩, ⟨#[]⟩, r, []⟩ : Key) HR.out (Kd.R_nil _ _ _ _ _) _ _ _ _ _ _)

set_option maxHeartbeats 8000000 in
set_option maxRecDepth 100000 in
theorem word_not {d : Int} {s word : ByteArray} (hI0 : RdI w0 w g l bad) (hw : letterboxref9_Low.f s = some word) (kall : ¬ word.toList = ([97, 108, 108] : List UInt8)) (klarger : ¬ word.toList = ([108, 97, 114, 103, 101, 114] : List UInt8)) (ksmaller : ¬ word.toList = ([115, 109, 97, 108, 108, 101, 114] : List UInt8)) (ktext : ¬ word.toList = ([116, 101, 120, 116] : List UInt8)) (ksubject : ¬ word.toList = ([115, 117, 98, 106, 101, 99, 116] : List UInt8)) (kfrom : ¬ word.toList = ([102, 114, 111, 109] : List UInt8)) (kto : ¬ word.toList = ([116, 111] : List UInt8)) (kuid : ¬ word.toList = ([117, 105, 100] : List UInt8)) (knot : word.toList = ([110, 111, 116] : List UInt8)) {Kf : List Tok → Bool → Option KRes} (hd : 0 ≤ d ∧ d ≤ 999999999) (hK : KqC w0 g Kf (d + 1)) {x : Key} {l2 : List Tok} {b2 : Bool} (hk1 : Kf l bad = some (x, l2, b2)) :
  Calls Tryz.prog 39 #[.pointer (some ⟨g, 0, none⟩), .string s, .int .i64 d] w (KqPost w0 w g ⟨9, 0, ⟨#[]⟩, ⟨#[]⟩, [], [x]⟩ l2 b2) := by
 have HF0 := Aside0.mk (Fq.start hI0)
 have HW := Aside0.mk hw
 have ball : (word.toList == ([97, 108, 108] : List UInt8)) = false := beq_eq_false_iff_ne.mpr kall
 clear kall
 have blarger : (word.toList == ([108, 97, 114, 103, 101, 114] : List UInt8)) = false := beq_eq_false_iff_ne.mpr klarger
 clear klarger
 have bsmaller : (word.toList == ([115, 109, 97, 108, 108, 101, 114] : List UInt8)) = false := beq_eq_false_iff_ne.mpr ksmaller
 clear ksmaller
 have btext : (word.toList == ([116, 101, 120, 116] : List UInt8)) = false := beq_eq_false_iff_ne.mpr ktext
 clear ktext
 have bsubject : (word.toList == ([115, 117, 98, 106, 101, 99, 116] : List UInt8)) = false := beq_eq_false_iff_ne.mpr ksubject
 clear ksubject
 have bfrom : (word.toList == ([102, 114, 111, 109] : List UInt8)) = false := beq_eq_false_iff_ne.mpr kfrom
 clear kfrom
 have bto : (word.toList == ([116, 111] : List UInt8)) = false := beq_eq_false_iff_ne.mpr kto
 clear kto
 have buid : (word.toList == ([117, 105, 100] : List UInt8)) = false := beq_eq_false_iff_ne.mpr kuid
 clear kuid
 have bnot : (word.toList == ([110, 111, 116] : List UInt8)) = true := beq_iff_eq.mpr knot
 clear knot
 have HK := Aside0.mk hK
 have HK1 := Aside0.mk hk1
 obtain ⟨hd1, hd2⟩ := hd
 clear hK hk1
 clear hI0 hw
 go_enter Tryz.func39, Tryz.ntmps39
 go_wp2_with (first | (go_at_call 47; (with_reducible refine (letterboxref9_Low.calls _ _ _ HW.out).mono ?_); rintro e w1 ⟨rfl, hb⟩; have HF1 := Aside0.mk (HF0.out.below hb); clear hb) | (go_at_call 23; (with_reducible refine (KqC.go HK.out HF1.out.pa HK1.out).mono ?_); rintro e w2 ⟨A4, c4, A5, c5, rfl, hr4, hr5, h2, h3⟩; have HR4 := Aside0.mk (Kd.R_lower (base' := w.heap.size + 1) hr4 HF1.out.size); have HR5 := Aside0.mk (Kd.R_lower (base' := w.heap.size + 1) hr5 HF1.out.size); clear hr4 hr5; have HF2 := Aside0.mk (HF1.out.step h2 h3); clear h2 h3; have hs8 := Aside0.mk HF2.out.size; have HF3 := Aside0.mk (HF2.out.below (below_alloc (Below.refl _ _) (.cells #[.int .i64 x.f0, .int .i64 x.f1, .string x.f2, .string x.f3, .slice A4 x.f4.length c4, .slice A5 x.f5.length c5] 27))); obtain ⟨hq0, hq1, hq2, hq3, hq4, hq5⟩ := HF3.out.cell; have hz0 := HF3.out.thaw 0; have hz1 := HF3.out.thaw 1; have hz2 := HF3.out.thaw 2; have hz3 := HF3.out.thaw 3; have hz4 := HF3.out.thaw 4; have hz5 := HF3.out.thaw 5))
 exact bodyPost_ret (v := .agg #[.int .i64 9, .int .i64 0, .string ⟨#[]⟩, .string ⟨#[]⟩, .slice none 0 0, .slice (some ⟨w2.heap.size, 0, none⟩) 1 1]) (by obtain ⟨r0, r1, r2, r3, r4, r5⟩ := six_cells HF3.out.blk (.int .i64 9) (.int .i64 0) (.string ⟨#[]⟩) (.string ⟨#[]⟩) (.slice none 0 0) (.slice (some ⟨w2.heap.size, 0, none⟩) 1 1); simp [results, Tryz.results39, go_sem, r0, r1, r2, r3, r4, r5]) rfl (HF3.out.post (⟨9, 0, ⟨#[]⟩, ⟨#[]⟩, [], [x]⟩ : Key) (Kd.R_nil _ _ _ _ _) (row_one x HR4.out HR5.out hs8.out) _ _ _ _ _ _)

set_option maxHeartbeats 8000000 in
set_option maxRecDepth 100000 in
theorem word_or {d : Int} {s word : ByteArray} (hI0 : RdI w0 w g l bad) (hw : letterboxref9_Low.f s = some word) (kall : ¬ word.toList = ([97, 108, 108] : List UInt8)) (klarger : ¬ word.toList = ([108, 97, 114, 103, 101, 114] : List UInt8)) (ksmaller : ¬ word.toList = ([115, 109, 97, 108, 108, 101, 114] : List UInt8)) (ktext : ¬ word.toList = ([116, 101, 120, 116] : List UInt8)) (ksubject : ¬ word.toList = ([115, 117, 98, 106, 101, 99, 116] : List UInt8)) (kfrom : ¬ word.toList = ([102, 114, 111, 109] : List UInt8)) (kto : ¬ word.toList = ([116, 111] : List UInt8)) (kuid : ¬ word.toList = ([117, 105, 100] : List UInt8)) (knot : ¬ word.toList = ([110, 111, 116] : List UInt8)) (kor : word.toList = ([111, 114] : List UInt8)) {Kf : List Tok → Bool → Option KRes} (hd : 0 ≤ d ∧ d ≤ 999999999) (hK : KqC w0 g Kf (d + 1)) {x : Key} {l2 : List Tok} {b2 : Bool} (hk1 : Kf l bad = some (x, l2, b2)) {y : Key} {l3 : List Tok} {b3 : Bool} (hk2 : Kf l2 b2 = some (y, l3, b3)) :
  Calls Tryz.prog 39 #[.pointer (some ⟨g, 0, none⟩), .string s, .int .i64 d] w (KqPost w0 w g ⟨10, 0, ⟨#[]⟩, ⟨#[]⟩, [], [x, y]⟩ l3 b3) := by
 have HF0 := Aside0.mk (Fq.start hI0)
 have HW := Aside0.mk hw
 have ball : (word.toList == ([97, 108, 108] : List UInt8)) = false := beq_eq_false_iff_ne.mpr kall
 clear kall
 have blarger : (word.toList == ([108, 97, 114, 103, 101, 114] : List UInt8)) = false := beq_eq_false_iff_ne.mpr klarger
 clear klarger
 have bsmaller : (word.toList == ([115, 109, 97, 108, 108, 101, 114] : List UInt8)) = false := beq_eq_false_iff_ne.mpr ksmaller
 clear ksmaller
 have btext : (word.toList == ([116, 101, 120, 116] : List UInt8)) = false := beq_eq_false_iff_ne.mpr ktext
 clear ktext
 have bsubject : (word.toList == ([115, 117, 98, 106, 101, 99, 116] : List UInt8)) = false := beq_eq_false_iff_ne.mpr ksubject
 clear ksubject
 have bfrom : (word.toList == ([102, 114, 111, 109] : List UInt8)) = false := beq_eq_false_iff_ne.mpr kfrom
 clear kfrom
 have bto : (word.toList == ([116, 111] : List UInt8)) = false := beq_eq_false_iff_ne.mpr kto
 clear kto
 have buid : (word.toList == ([117, 105, 100] : List UInt8)) = false := beq_eq_false_iff_ne.mpr kuid
 clear kuid
 have bnot : (word.toList == ([110, 111, 116] : List UInt8)) = false := beq_eq_false_iff_ne.mpr knot
 clear knot
 have bor : (word.toList == ([111, 114] : List UInt8)) = true := beq_iff_eq.mpr kor
 clear kor
 have HK := Aside0.mk hK
 have HK1 := Aside0.mk hk1
 obtain ⟨hd1, hd2⟩ := hd
 clear hK hk1
 have HK2 := Aside0.mk hk2
 clear hk2
 clear hI0 hw
 go_enter Tryz.func39, Tryz.ntmps39
 go_wp2_with (first | (go_at_call 47; (with_reducible refine (letterboxref9_Low.calls _ _ _ HW.out).mono ?_); rintro e w1 ⟨rfl, hb⟩; have HF1 := Aside0.mk (HF0.out.below hb); clear hb) | (go_at_call 23; (with_reducible refine (KqC.go HK.out HF1.out.pa HK1.out).mono ?_); rintro e w2 ⟨A4, c4, A5, c5, rfl, hr4, hr5, h2, h3⟩; have HR4 := Aside0.mk (Kd.R_lower (base' := w.heap.size + 1) hr4 HF1.out.size); have HR5 := Aside0.mk (Kd.R_lower (base' := w.heap.size + 1) hr5 HF1.out.size); clear hr4 hr5; have HF2 := Aside0.mk (HF1.out.step h2 h3); clear h2 h3; have HF3 := Aside0.mk (HF2.out.below (below_alloc (Below.refl _ _) (.cells #[.int .i64 x.f0, .int .i64 x.f1, .string x.f2, .string x.f3, .slice A4 x.f4.length c4, .slice A5 x.f5.length c5] 27))); have HV := Aside0.mk (blk_new w2 (.cells #[.int .i64 x.f0, .int .i64 x.f1, .string x.f2, .string x.f3, .slice A4 x.f4.length c4, .slice A5 x.f5.length c5] 27)); clear HF1 HK1) | (go_at_call 23; (with_reducible refine (KqC.go HK.out HF3.out.pa HK2.out).mono ?_); rintro e w4 ⟨B4, e4, B5, e5, rfl, hr4, hr5, h2, h3⟩; have HS4 := Aside0.mk (Kd.R_lower (base' := w.heap.size + 1) hr4 HF3.out.size); have HS5 := Aside0.mk (Kd.R_lower (base' := w.heap.size + 1) hr5 HF3.out.size); clear hr4 hr5; have HR4' := Aside0.mk (row_keep (Kd.R_alloc HR4.out (.cells #[.int .i64 x.f0, .int .i64 x.f1, .string x.f2, .string x.f3, .slice A4 x.f4.length c4, .slice A5 x.f5.length c5] 27)) h3 (by have := HF3.out.gl; omega)); have HR5' := Aside0.mk (row_keep (Kd.R_alloc HR5.out (.cells #[.int .i64 x.f0, .int .i64 x.f1, .string x.f2, .string x.f3, .slice A4 x.f4.length c4, .slice A5 x.f5.length c5] 27)) h3 (by have := HF3.out.gl; omega)); have hV4 := (h3.2 w2.heap.size (blk_lt HV.out) (by have := HF2.out.size; have := HF2.out.gl; omega) (by simp)).trans HV.out; have hlt4 := blk_lt hV4; have hp0 := blk_cell hV4 0; have hp1 := blk_cell hV4 1; have hp2 := blk_cell hV4 2; have hp3 := blk_cell hV4 3; have hp4 := blk_cell hV4 4; have hp5 := blk_cell hV4 5; clear hV4; have HF4 := Aside0.mk (HF3.out.step h2 h3); clear h2 h3; have hs8 := Aside0.mk (HF4.out.below (below_alloc (Below.refl _ _) (.cells #[.int .i64 y.f0, .int .i64 y.f1, .string y.f2, .string y.f3, .slice B4 y.f4.length e4, .slice B5 y.f5.length e5] 27))).size; have HF6 := Aside0.mk ((HF4.out.below (below_alloc (Below.refl _ _) (.cells #[.int .i64 y.f0, .int .i64 y.f1, .string y.f2, .string y.f3, .slice B4 y.f4.length e4, .slice B5 y.f5.length e5] 27))).below (below_alloc (Below.refl _ _) (.cells #[.int .i64 x.f0, .int .i64 x.f1, .string x.f2, .string x.f3, .slice A4 x.f4.length c4, .slice A5 x.f5.length c5, .int .i64 y.f0, .int .i64 y.f1, .string y.f2, .string y.f3, .slice B4 y.f4.length e4, .slice B5 y.f5.length e5] 27))); obtain ⟨hq0, hq1, hq2, hq3, hq4, hq5⟩ := HF6.out.cell; have hz0 := HF6.out.thaw 0; have hz1 := HF6.out.thaw 1; have hz2 := HF6.out.thaw 2; have hz3 := HF6.out.thaw 3; have hz4 := HF6.out.thaw 4; have hz5 := HF6.out.thaw 5))
 exact bodyPost_ret (v := .agg #[.int .i64 10, .int .i64 0, .string ⟨#[]⟩, .string ⟨#[]⟩, .slice none 0 0, .slice (some ⟨w4.heap.size + 1, 0, none⟩) 2 2]) (by obtain ⟨r0, r1, r2, r3, r4, r5⟩ := six_cells HF6.out.blk (.int .i64 10) (.int .i64 0) (.string ⟨#[]⟩) (.string ⟨#[]⟩) (.slice none 0 0) (.slice (some ⟨w4.heap.size + 1, 0, none⟩) 2 2); simp [results, Tryz.results39, go_sem, r0, r1, r2, r3, r4, r5]) rfl (HF6.out.post (⟨10, 0, ⟨#[]⟩, ⟨#[]⟩, [], [x, y]⟩ : Key) (Kd.R_nil _ _ _ _ _) (show Kd.R kKey 27 _ _ _ (.slice (some ⟨w4.heap.size + 1, 0, none⟩) 2 2) [x, y] from by have hh_ := row_two x y (Kd.R_alloc HR4'.out (.cells #[.int .i64 y.f0, .int .i64 y.f1, .string y.f2, .string y.f3, .slice B4 y.f4.length e4, .slice B5 y.f5.length e5] 27)) (Kd.R_alloc HR5'.out (.cells #[.int .i64 y.f0, .int .i64 y.f1, .string y.f2, .string y.f3, .slice B4 y.f4.length e4, .slice B5 y.f5.length e5] 27)) (Kd.R_alloc HS4.out (.cells #[.int .i64 y.f0, .int .i64 y.f1, .string y.f2, .string y.f3, .slice B4 y.f4.length e4, .slice B5 y.f5.length e5] 27)) (Kd.R_alloc HS5.out (.cells #[.int .i64 y.f0, .int .i64 y.f1, .string y.f2, .string y.f3, .slice B4 y.f4.length e4, .slice B5 y.f5.length e5] 27)) hs8.out; rw [alloc_size_] at hh_; exact hh_) _ _ _ _ _ _)

set_option maxHeartbeats 8000000 in
set_option maxRecDepth 100000 in
theorem word_flag {d : Int} {s word : ByteArray} (hI0 : RdI w0 w g l bad) (hw : letterboxref9_Low.f s = some word) (kall : ¬ word.toList = ([97, 108, 108] : List UInt8)) (klarger : ¬ word.toList = ([108, 97, 114, 103, 101, 114] : List UInt8)) (ksmaller : ¬ word.toList = ([115, 109, 97, 108, 108, 101, 114] : List UInt8)) (ktext : ¬ word.toList = ([116, 101, 120, 116] : List UInt8)) (ksubject : ¬ word.toList = ([115, 117, 98, 106, 101, 99, 116] : List UInt8)) (kfrom : ¬ word.toList = ([102, 114, 111, 109] : List UInt8)) (kto : ¬ word.toList = ([116, 111] : List UInt8)) (kuid : ¬ word.toList = ([117, 105, 100] : List UInt8)) (knot : ¬ word.toList = ([110, 111, 116] : List UInt8)) (kor : ¬ word.toList = ([111, 114] : List UInt8)) {f : Int} (hf : letterboxref18_flag.f 10 word = some f) (h0 : 0 < f) :
  Calls Tryz.prog 39 #[.pointer (some ⟨g, 0, none⟩), .string s, .int .i64 d] w (KqPost w0 w g ⟨2, f, ⟨#[]⟩, ⟨#[]⟩, [], []⟩ l bad) := by
 have HF0 := Aside0.mk (Fq.start hI0)
 have HW := Aside0.mk hw
 have ball : (word.toList == ([97, 108, 108] : List UInt8)) = false := beq_eq_false_iff_ne.mpr kall
 clear kall
 have blarger : (word.toList == ([108, 97, 114, 103, 101, 114] : List UInt8)) = false := beq_eq_false_iff_ne.mpr klarger
 clear klarger
 have bsmaller : (word.toList == ([115, 109, 97, 108, 108, 101, 114] : List UInt8)) = false := beq_eq_false_iff_ne.mpr ksmaller
 clear ksmaller
 have btext : (word.toList == ([116, 101, 120, 116] : List UInt8)) = false := beq_eq_false_iff_ne.mpr ktext
 clear ktext
 have bsubject : (word.toList == ([115, 117, 98, 106, 101, 99, 116] : List UInt8)) = false := beq_eq_false_iff_ne.mpr ksubject
 clear ksubject
 have bfrom : (word.toList == ([102, 114, 111, 109] : List UInt8)) = false := beq_eq_false_iff_ne.mpr kfrom
 clear kfrom
 have bto : (word.toList == ([116, 111] : List UInt8)) = false := beq_eq_false_iff_ne.mpr kto
 clear kto
 have buid : (word.toList == ([117, 105, 100] : List UInt8)) = false := beq_eq_false_iff_ne.mpr kuid
 clear kuid
 have bnot : (word.toList == ([110, 111, 116] : List UInt8)) = false := beq_eq_false_iff_ne.mpr knot
 clear knot
 have bor : (word.toList == ([111, 114] : List UInt8)) = false := beq_eq_false_iff_ne.mpr kor
 clear kor
 have HG := Aside0.mk hf
 have f0b : decide (0 < f) = true := decide_eq_true h0
 clear hf h0
 clear hI0 hw
 go_enter Tryz.func39, Tryz.ntmps39
 go_wp2_with (first | (go_at_call 47; (with_reducible refine (letterboxref9_Low.calls _ _ _ HW.out).mono ?_); rintro e w1 ⟨rfl, hb⟩; have HF1 := Aside0.mk (HF0.out.below hb); clear hb) | (go_at_call 62; (with_reducible refine (letterboxref18_flag.calls 10 _ _ _ HG.out).mono ?_); rintro e w2 ⟨rfl, hb⟩; have HF2 := Aside0.mk (HF1.out.below hb); clear hb; clear HF1) | (go_at_call 62; (with_reducible refine (letterboxref18_flag.calls 10 _ _ _ HG.out).mono ?_); rintro e w3 ⟨rfl, hb⟩; have HF3 := Aside0.mk (HF2.out.below hb); clear hb; obtain ⟨hq0, hq1, hq2, hq3, hq4, hq5⟩ := HF3.out.cell; have hz0 := HF3.out.thaw 0; have hz1 := HF3.out.thaw 1; have hz2 := HF3.out.thaw 2; have hz3 := HF3.out.thaw 3; have hz4 := HF3.out.thaw 4; have hz5 := HF3.out.thaw 5))
 exact bodyPost_ret (v := .agg #[.int .i64 2, .int .i64 f, .string ⟨#[]⟩, .string ⟨#[]⟩, .slice none 0 0, .slice none 0 0]) (by obtain ⟨r0, r1, r2, r3, r4, r5⟩ := six_cells HF3.out.blk (.int .i64 2) (.int .i64 f) (.string ⟨#[]⟩) (.string ⟨#[]⟩) (.slice none 0 0) (.slice none 0 0); simp [results, Tryz.results39, go_sem, r0, r1, r2, r3, r4, r5]) rfl (HF3.out.post (⟨2, f, ⟨#[]⟩, ⟨#[]⟩, [], []⟩ : Key) (Kd.R_nil _ _ _ _ _) (Kd.R_nil _ _ _ _ _) _ _ _ _ _ _)

set_option maxHeartbeats 8000000 in
set_option maxRecDepth 100000 in
theorem word_set1 {d : Int} {s word : ByteArray} (hI0 : RdI w0 w g l bad) (hw : letterboxref9_Low.f s = some word) (kall : ¬ word.toList = ([97, 108, 108] : List UInt8)) (klarger : ¬ word.toList = ([108, 97, 114, 103, 101, 114] : List UInt8)) (ksmaller : ¬ word.toList = ([115, 109, 97, 108, 108, 101, 114] : List UInt8)) (ktext : ¬ word.toList = ([116, 101, 120, 116] : List UInt8)) (ksubject : ¬ word.toList = ([115, 117, 98, 106, 101, 99, 116] : List UInt8)) (kfrom : ¬ word.toList = ([102, 114, 111, 109] : List UInt8)) (kto : ¬ word.toList = ([116, 111] : List UInt8)) (kuid : ¬ word.toList = ([117, 105, 100] : List UInt8)) (knot : ¬ word.toList = ([110, 111, 116] : List UInt8)) (kor : ¬ word.toList = ([111, 114] : List UInt8)) {f : Int} (hf : letterboxref18_flag.f 10 word = some f) (h0 : ¬ 0 < f) (hs : ¬ 2 < word.size) {r : List Rg} {b3 : Bool} (hset : rsetF s bad = some (r, b3)) :
  Calls Tryz.prog 39 #[.pointer (some ⟨g, 0, none⟩), .string s, .int .i64 d] w (KqPost w0 w g ⟨7, 0, ⟨#[]⟩, ⟨#[]⟩, r, []⟩ l b3) := by
 have HF0 := Aside0.mk (Fq.start hI0)
 have HW := Aside0.mk hw
 have ball : (word.toList == ([97, 108, 108] : List UInt8)) = false := beq_eq_false_iff_ne.mpr kall
 clear kall
 have blarger : (word.toList == ([108, 97, 114, 103, 101, 114] : List UInt8)) = false := beq_eq_false_iff_ne.mpr klarger
 clear klarger
 have bsmaller : (word.toList == ([115, 109, 97, 108, 108, 101, 114] : List UInt8)) = false := beq_eq_false_iff_ne.mpr ksmaller
 clear ksmaller
 have btext : (word.toList == ([116, 101, 120, 116] : List UInt8)) = false := beq_eq_false_iff_ne.mpr ktext
 clear ktext
 have bsubject : (word.toList == ([115, 117, 98, 106, 101, 99, 116] : List UInt8)) = false := beq_eq_false_iff_ne.mpr ksubject
 clear ksubject
 have bfrom : (word.toList == ([102, 114, 111, 109] : List UInt8)) = false := beq_eq_false_iff_ne.mpr kfrom
 clear kfrom
 have bto : (word.toList == ([116, 111] : List UInt8)) = false := beq_eq_false_iff_ne.mpr kto
 clear kto
 have buid : (word.toList == ([117, 105, 100] : List UInt8)) = false := beq_eq_false_iff_ne.mpr kuid
 clear kuid
 have bnot : (word.toList == ([110, 111, 116] : List UInt8)) = false := beq_eq_false_iff_ne.mpr knot
 clear knot
 have bor : (word.toList == ([111, 114] : List UInt8)) = false := beq_eq_false_iff_ne.mpr kor
 clear kor
 have HG := Aside0.mk hf
 have f0b : decide (0 < f) = false := decide_eq_false h0
 clear hf h0
 have HSE := Aside0.mk hset
 clear hset
 have s0 : decide ((2 : Int) < (word.size : Int)) = false := decide_eq_false (by omega)
 have s1 : decide (2 < word.size) = false := decide_eq_false hs
 clear hs
 clear hI0 hw
 go_enter Tryz.func39, Tryz.ntmps39
 go_wp2_with (first | (go_at_call 47; (with_reducible refine (letterboxref9_Low.calls _ _ _ HW.out).mono ?_); rintro e w1 ⟨rfl, hb⟩; have HF1 := Aside0.mk (HF0.out.below hb); clear hb) | (go_at_call 62; (with_reducible refine (letterboxref18_flag.calls 10 _ _ _ HG.out).mono ?_); rintro e w2 ⟨rfl, hb⟩; have HF2 := Aside0.mk (HF1.out.below hb); clear hb) | (go_at_call 60; (with_reducible refine (rset_calls HF2.out.pa HSE.out).mono ?_); rintro e w3 ⟨v_, rfl, hr, h2, h3⟩; obtain ⟨As, cs, rfl⟩ := Kd.R_slice hr; have HR := Aside0.mk (Kd.R_lower (base' := w.heap.size + 1) hr HF2.out.size); clear hr; have HF3 := Aside0.mk (HF2.out.step h2 h3); clear h2 h3; obtain ⟨hq0, hq1, hq2, hq3, hq4, hq5⟩ := HF3.out.cell; have hz0 := HF3.out.thaw 0; have hz1 := HF3.out.thaw 1; have hz2 := HF3.out.thaw 2; have hz3 := HF3.out.thaw 3; have hz4 := HF3.out.thaw 4; have hz5 := HF3.out.thaw 5))
 exact bodyPost_ret (v := .agg #[.int .i64 7, .int .i64 0, .string ⟨#[]⟩, .string ⟨#[]⟩, .slice As r.length cs, .slice none 0 0]) (by obtain ⟨r0, r1, r2, r3, r4, r5⟩ := six_cells HF3.out.blk (.int .i64 7) (.int .i64 0) (.string ⟨#[]⟩) (.string ⟨#[]⟩) (.slice As r.length cs) (.slice none 0 0); simp [results, Tryz.results39, go_sem, r0, r1, r2, r3, r4, r5]) rfl (HF3.out.post (⟨7, 0, ⟨#[]⟩, ⟨#[]⟩, r, []⟩ : Key) HR.out (Kd.R_nil _ _ _ _ _) _ _ _ _ _ _)

set_option maxHeartbeats 8000000 in
set_option maxRecDepth 100000 in
theorem word_set2 {d : Int} {s word : ByteArray} (hI0 : RdI w0 w g l bad) (hw : letterboxref9_Low.f s = some word) (kall : ¬ word.toList = ([97, 108, 108] : List UInt8)) (klarger : ¬ word.toList = ([108, 97, 114, 103, 101, 114] : List UInt8)) (ksmaller : ¬ word.toList = ([115, 109, 97, 108, 108, 101, 114] : List UInt8)) (ktext : ¬ word.toList = ([116, 101, 120, 116] : List UInt8)) (ksubject : ¬ word.toList = ([115, 117, 98, 106, 101, 99, 116] : List UInt8)) (kfrom : ¬ word.toList = ([102, 114, 111, 109] : List UInt8)) (kto : ¬ word.toList = ([116, 111] : List UInt8)) (kuid : ¬ word.toList = ([117, 105, 100] : List UInt8)) (knot : ¬ word.toList = ([110, 111, 116] : List UInt8)) (kor : ¬ word.toList = ([111, 114] : List UInt8)) {f : Int} (hf : letterboxref18_flag.f 10 word = some f) (h0 : ¬ 0 < f) (hs : 2 < word.size) (hu : ¬ (word.extract 0 2).toList = ([117, 110] : List UInt8)) {r : List Rg} {b3 : Bool} (hset : rsetF s bad = some (r, b3)) :
  Calls Tryz.prog 39 #[.pointer (some ⟨g, 0, none⟩), .string s, .int .i64 d] w (KqPost w0 w g ⟨7, 0, ⟨#[]⟩, ⟨#[]⟩, r, []⟩ l b3) := by
 have HF0 := Aside0.mk (Fq.start hI0)
 have HW := Aside0.mk hw
 have ball : (word.toList == ([97, 108, 108] : List UInt8)) = false := beq_eq_false_iff_ne.mpr kall
 clear kall
 have blarger : (word.toList == ([108, 97, 114, 103, 101, 114] : List UInt8)) = false := beq_eq_false_iff_ne.mpr klarger
 clear klarger
 have bsmaller : (word.toList == ([115, 109, 97, 108, 108, 101, 114] : List UInt8)) = false := beq_eq_false_iff_ne.mpr ksmaller
 clear ksmaller
 have btext : (word.toList == ([116, 101, 120, 116] : List UInt8)) = false := beq_eq_false_iff_ne.mpr ktext
 clear ktext
 have bsubject : (word.toList == ([115, 117, 98, 106, 101, 99, 116] : List UInt8)) = false := beq_eq_false_iff_ne.mpr ksubject
 clear ksubject
 have bfrom : (word.toList == ([102, 114, 111, 109] : List UInt8)) = false := beq_eq_false_iff_ne.mpr kfrom
 clear kfrom
 have bto : (word.toList == ([116, 111] : List UInt8)) = false := beq_eq_false_iff_ne.mpr kto
 clear kto
 have buid : (word.toList == ([117, 105, 100] : List UInt8)) = false := beq_eq_false_iff_ne.mpr kuid
 clear kuid
 have bnot : (word.toList == ([110, 111, 116] : List UInt8)) = false := beq_eq_false_iff_ne.mpr knot
 clear knot
 have bor : (word.toList == ([111, 114] : List UInt8)) = false := beq_eq_false_iff_ne.mpr kor
 clear kor
 have HG := Aside0.mk hf
 have f0b : decide (0 < f) = false := decide_eq_false h0
 clear hf h0
 have HSE := Aside0.mk hset
 clear hset
 have u0 : ((word.extract 0 2).toList == ([117, 110] : List UInt8)) = false := beq_eq_false_iff_ne.mpr hu
 clear hu
 have s0 : decide ((2 : Int) < (word.size : Int)) = true := decide_eq_true (by omega)
 have s1 : decide (2 < word.size) = true := decide_eq_true hs
 have s2 : ((2 : Int) ≤ (word.size : Int)) = True := eq_true (by omega)
 have s3 : (2 ≤ word.size) = True := eq_true (by omega)
 clear hs
 clear hI0 hw
 go_enter Tryz.func39, Tryz.ntmps39
 go_wp2_with (first | (go_at_call 47; (with_reducible refine (letterboxref9_Low.calls _ _ _ HW.out).mono ?_); rintro e w1 ⟨rfl, hb⟩; have HF1 := Aside0.mk (HF0.out.below hb); clear hb) | (go_at_call 62; (with_reducible refine (letterboxref18_flag.calls 10 _ _ _ HG.out).mono ?_); rintro e w2 ⟨rfl, hb⟩; have HF2 := Aside0.mk (HF1.out.below hb); clear hb) | (go_at_call 60; (with_reducible refine (rset_calls HF2.out.pa HSE.out).mono ?_); rintro e w3 ⟨v_, rfl, hr, h2, h3⟩; obtain ⟨As, cs, rfl⟩ := Kd.R_slice hr; have HR := Aside0.mk (Kd.R_lower (base' := w.heap.size + 1) hr HF2.out.size); clear hr; have HF3 := Aside0.mk (HF2.out.step h2 h3); clear h2 h3; obtain ⟨hq0, hq1, hq2, hq3, hq4, hq5⟩ := HF3.out.cell; have hz0 := HF3.out.thaw 0; have hz1 := HF3.out.thaw 1; have hz2 := HF3.out.thaw 2; have hz3 := HF3.out.thaw 3; have hz4 := HF3.out.thaw 4; have hz5 := HF3.out.thaw 5))
 exact bodyPost_ret (v := .agg #[.int .i64 7, .int .i64 0, .string ⟨#[]⟩, .string ⟨#[]⟩, .slice As r.length cs, .slice none 0 0]) (by obtain ⟨r0, r1, r2, r3, r4, r5⟩ := six_cells HF3.out.blk (.int .i64 7) (.int .i64 0) (.string ⟨#[]⟩) (.string ⟨#[]⟩) (.slice As r.length cs) (.slice none 0 0); simp [results, Tryz.results39, go_sem, r0, r1, r2, r3, r4, r5]) rfl (HF3.out.post (⟨7, 0, ⟨#[]⟩, ⟨#[]⟩, r, []⟩ : Key) HR.out (Kd.R_nil _ _ _ _ _) _ _ _ _ _ _)

set_option maxHeartbeats 8000000 in
set_option maxRecDepth 100000 in
theorem word_set3 {d : Int} {s word : ByteArray} (hI0 : RdI w0 w g l bad) (hw : letterboxref9_Low.f s = some word) (kall : ¬ word.toList = ([97, 108, 108] : List UInt8)) (klarger : ¬ word.toList = ([108, 97, 114, 103, 101, 114] : List UInt8)) (ksmaller : ¬ word.toList = ([115, 109, 97, 108, 108, 101, 114] : List UInt8)) (ktext : ¬ word.toList = ([116, 101, 120, 116] : List UInt8)) (ksubject : ¬ word.toList = ([115, 117, 98, 106, 101, 99, 116] : List UInt8)) (kfrom : ¬ word.toList = ([102, 114, 111, 109] : List UInt8)) (kto : ¬ word.toList = ([116, 111] : List UInt8)) (kuid : ¬ word.toList = ([117, 105, 100] : List UInt8)) (knot : ¬ word.toList = ([110, 111, 116] : List UInt8)) (kor : ¬ word.toList = ([111, 114] : List UInt8)) {f : Int} (hf : letterboxref18_flag.f 10 word = some f) (h0 : ¬ 0 < f) (hs : 2 < word.size) (hu : (word.extract 0 2).toList = ([117, 110] : List UInt8)) {f2 : Int} (hf2 : letterboxref18_flag.f 10 (word.extract 2 word.size) = some f2) (h1 : ¬ 0 < f2) {r : List Rg} {b3 : Bool} (hset : rsetF s bad = some (r, b3)) :
  Calls Tryz.prog 39 #[.pointer (some ⟨g, 0, none⟩), .string s, .int .i64 d] w (KqPost w0 w g ⟨7, 0, ⟨#[]⟩, ⟨#[]⟩, r, []⟩ l b3) := by
 have HF0 := Aside0.mk (Fq.start hI0)
 have HW := Aside0.mk hw
 have ball : (word.toList == ([97, 108, 108] : List UInt8)) = false := beq_eq_false_iff_ne.mpr kall
 clear kall
 have blarger : (word.toList == ([108, 97, 114, 103, 101, 114] : List UInt8)) = false := beq_eq_false_iff_ne.mpr klarger
 clear klarger
 have bsmaller : (word.toList == ([115, 109, 97, 108, 108, 101, 114] : List UInt8)) = false := beq_eq_false_iff_ne.mpr ksmaller
 clear ksmaller
 have btext : (word.toList == ([116, 101, 120, 116] : List UInt8)) = false := beq_eq_false_iff_ne.mpr ktext
 clear ktext
 have bsubject : (word.toList == ([115, 117, 98, 106, 101, 99, 116] : List UInt8)) = false := beq_eq_false_iff_ne.mpr ksubject
 clear ksubject
 have bfrom : (word.toList == ([102, 114, 111, 109] : List UInt8)) = false := beq_eq_false_iff_ne.mpr kfrom
 clear kfrom
 have bto : (word.toList == ([116, 111] : List UInt8)) = false := beq_eq_false_iff_ne.mpr kto
 clear kto
 have buid : (word.toList == ([117, 105, 100] : List UInt8)) = false := beq_eq_false_iff_ne.mpr kuid
 clear kuid
 have bnot : (word.toList == ([110, 111, 116] : List UInt8)) = false := beq_eq_false_iff_ne.mpr knot
 clear knot
 have bor : (word.toList == ([111, 114] : List UInt8)) = false := beq_eq_false_iff_ne.mpr kor
 clear kor
 have HG := Aside0.mk hf
 have f0b : decide (0 < f) = false := decide_eq_false h0
 clear hf h0
 have HSE := Aside0.mk hset
 clear hset
 have u0 : ((word.extract 0 2).toList == ([117, 110] : List UInt8)) = true := beq_iff_eq.mpr hu
 clear hu
 have HG2 := Aside0.mk hf2
 have f2b : decide (0 < f2) = false := decide_eq_false h1
 clear hf2 h1
 have s0 : decide ((2 : Int) < (word.size : Int)) = true := decide_eq_true (by omega)
 have s1 : decide (2 < word.size) = true := decide_eq_true hs
 have s2 : ((2 : Int) ≤ (word.size : Int)) = True := eq_true (by omega)
 have s3 : (2 ≤ word.size) = True := eq_true (by omega)
 clear hs
 clear hI0 hw
 go_enter Tryz.func39, Tryz.ntmps39
 go_wp2_with (first | (go_at_call 47; (with_reducible refine (letterboxref9_Low.calls _ _ _ HW.out).mono ?_); rintro e w1 ⟨rfl, hb⟩; have HF1 := Aside0.mk (HF0.out.below hb); clear hb) | (go_at_call 62; (with_reducible refine (letterboxref18_flag.calls 10 _ _ _ HG.out).mono ?_); rintro e w2 ⟨rfl, hb⟩; have HF2 := Aside0.mk (HF1.out.below hb); clear hb) | (go_at_call 62; (with_reducible refine (letterboxref18_flag.calls 10 _ _ _ HG2.out).mono ?_); rintro e w3 ⟨rfl, hb⟩; have HF3 := Aside0.mk (HF2.out.below hb); clear hb) | (go_at_call 60; (with_reducible refine (rset_calls HF3.out.pa HSE.out).mono ?_); rintro e w4 ⟨v_, rfl, hr, h2, h3⟩; obtain ⟨As, cs, rfl⟩ := Kd.R_slice hr; have HR := Aside0.mk (Kd.R_lower (base' := w.heap.size + 1) hr HF3.out.size); clear hr; have HF4 := Aside0.mk (HF3.out.step h2 h3); clear h2 h3; obtain ⟨hq0, hq1, hq2, hq3, hq4, hq5⟩ := HF4.out.cell; have hz0 := HF4.out.thaw 0; have hz1 := HF4.out.thaw 1; have hz2 := HF4.out.thaw 2; have hz3 := HF4.out.thaw 3; have hz4 := HF4.out.thaw 4; have hz5 := HF4.out.thaw 5))
 exact bodyPost_ret (v := .agg #[.int .i64 7, .int .i64 0, .string ⟨#[]⟩, .string ⟨#[]⟩, .slice As r.length cs, .slice none 0 0]) (by obtain ⟨r0, r1, r2, r3, r4, r5⟩ := six_cells HF4.out.blk (.int .i64 7) (.int .i64 0) (.string ⟨#[]⟩) (.string ⟨#[]⟩) (.slice As r.length cs) (.slice none 0 0); simp [results, Tryz.results39, go_sem, r0, r1, r2, r3, r4, r5]) rfl (HF4.out.post (⟨7, 0, ⟨#[]⟩, ⟨#[]⟩, r, []⟩ : Key) HR.out (Kd.R_nil _ _ _ _ _) _ _ _ _ _ _)

set_option maxHeartbeats 8000000 in
set_option maxRecDepth 100000 in
theorem word_unflag {d : Int} {s word : ByteArray} (hI0 : RdI w0 w g l bad) (hw : letterboxref9_Low.f s = some word) (kall : ¬ word.toList = ([97, 108, 108] : List UInt8)) (klarger : ¬ word.toList = ([108, 97, 114, 103, 101, 114] : List UInt8)) (ksmaller : ¬ word.toList = ([115, 109, 97, 108, 108, 101, 114] : List UInt8)) (ktext : ¬ word.toList = ([116, 101, 120, 116] : List UInt8)) (ksubject : ¬ word.toList = ([115, 117, 98, 106, 101, 99, 116] : List UInt8)) (kfrom : ¬ word.toList = ([102, 114, 111, 109] : List UInt8)) (kto : ¬ word.toList = ([116, 111] : List UInt8)) (kuid : ¬ word.toList = ([117, 105, 100] : List UInt8)) (knot : ¬ word.toList = ([110, 111, 116] : List UInt8)) (kor : ¬ word.toList = ([111, 114] : List UInt8)) {f : Int} (hf : letterboxref18_flag.f 10 word = some f) (h0 : ¬ 0 < f) (hs : 2 < word.size) (hu : (word.extract 0 2).toList = ([117, 110] : List UInt8)) {f2 : Int} (hf2 : letterboxref18_flag.f 10 (word.extract 2 word.size) = some f2) (h1 : 0 < f2) :
  Calls Tryz.prog 39 #[.pointer (some ⟨g, 0, none⟩), .string s, .int .i64 d] w (KqPost w0 w g ⟨9, 0, ⟨#[]⟩, ⟨#[]⟩, [], [⟨2, f2, ⟨#[]⟩, ⟨#[]⟩, [], []⟩]⟩ l bad) := by
 have HF0 := Aside0.mk (Fq.start hI0)
 have HW := Aside0.mk hw
 have ball : (word.toList == ([97, 108, 108] : List UInt8)) = false := beq_eq_false_iff_ne.mpr kall
 clear kall
 have blarger : (word.toList == ([108, 97, 114, 103, 101, 114] : List UInt8)) = false := beq_eq_false_iff_ne.mpr klarger
 clear klarger
 have bsmaller : (word.toList == ([115, 109, 97, 108, 108, 101, 114] : List UInt8)) = false := beq_eq_false_iff_ne.mpr ksmaller
 clear ksmaller
 have btext : (word.toList == ([116, 101, 120, 116] : List UInt8)) = false := beq_eq_false_iff_ne.mpr ktext
 clear ktext
 have bsubject : (word.toList == ([115, 117, 98, 106, 101, 99, 116] : List UInt8)) = false := beq_eq_false_iff_ne.mpr ksubject
 clear ksubject
 have bfrom : (word.toList == ([102, 114, 111, 109] : List UInt8)) = false := beq_eq_false_iff_ne.mpr kfrom
 clear kfrom
 have bto : (word.toList == ([116, 111] : List UInt8)) = false := beq_eq_false_iff_ne.mpr kto
 clear kto
 have buid : (word.toList == ([117, 105, 100] : List UInt8)) = false := beq_eq_false_iff_ne.mpr kuid
 clear kuid
 have bnot : (word.toList == ([110, 111, 116] : List UInt8)) = false := beq_eq_false_iff_ne.mpr knot
 clear knot
 have bor : (word.toList == ([111, 114] : List UInt8)) = false := beq_eq_false_iff_ne.mpr kor
 clear kor
 have HG := Aside0.mk hf
 have f0b : decide (0 < f) = false := decide_eq_false h0
 clear hf h0
 have u0 : ((word.extract 0 2).toList == ([117, 110] : List UInt8)) = true := beq_iff_eq.mpr hu
 clear hu
 have HG2 := Aside0.mk hf2
 have f2b : decide (0 < f2) = true := decide_eq_true h1
 clear hf2 h1
 have s0 : decide ((2 : Int) < (word.size : Int)) = true := decide_eq_true (by omega)
 have s1 : decide (2 < word.size) = true := decide_eq_true hs
 have s2 : ((2 : Int) ≤ (word.size : Int)) = True := eq_true (by omega)
 have s3 : (2 ≤ word.size) = True := eq_true (by omega)
 clear hs
 clear hI0 hw
 go_enter Tryz.func39, Tryz.ntmps39
 go_wp2_with (first | (go_at_call 47; (with_reducible refine (letterboxref9_Low.calls _ _ _ HW.out).mono ?_); rintro e w1 ⟨rfl, hb⟩; have HF1 := Aside0.mk (HF0.out.below hb); clear hb) | (go_at_call 62; (with_reducible refine (letterboxref18_flag.calls 10 _ _ _ HG.out).mono ?_); rintro e w2 ⟨rfl, hb⟩; have HF2 := Aside0.mk (HF1.out.below hb); clear hb; clear HG) | (go_at_call 62; (with_reducible refine (letterboxref18_flag.calls 10 _ _ _ HG2.out).mono ?_); rintro e w3 ⟨rfl, hb⟩; have HF3 := Aside0.mk (HF2.out.below hb); clear hb; clear HF2) | (go_at_call 62; (with_reducible refine (letterboxref18_flag.calls 10 _ _ _ HG2.out).mono ?_); rintro e w4 ⟨rfl, hb⟩; have HF4 := Aside0.mk (HF3.out.below hb); clear hb; have hs6 := Aside0.mk HF4.out.size; have HF5 := Aside0.mk (HF4.out.below (below_alloc (Below.refl _ _) (.cells #[.int .i64 2, .int .i64 f2, .string ⟨#[]⟩, .string ⟨#[]⟩, .slice none 0 0, .slice none 0 0] 27))); obtain ⟨hq0, hq1, hq2, hq3, hq4, hq5⟩ := HF5.out.cell; have hz0 := HF5.out.thaw 0; have hz1 := HF5.out.thaw 1; have hz2 := HF5.out.thaw 2; have hz3 := HF5.out.thaw 3; have hz4 := HF5.out.thaw 4; have hz5 := HF5.out.thaw 5))
 exact bodyPost_ret (v := .agg #[.int .i64 9, .int .i64 0, .string ⟨#[]⟩, .string ⟨#[]⟩, .slice none 0 0, .slice (some ⟨w4.heap.size, 0, none⟩) 1 1]) (by obtain ⟨r0, r1, r2, r3, r4, r5⟩ := six_cells HF5.out.blk (.int .i64 9) (.int .i64 0) (.string ⟨#[]⟩) (.string ⟨#[]⟩) (.slice none 0 0) (.slice (some ⟨w4.heap.size, 0, none⟩) 1 1); simp [results, Tryz.results39, go_sem, r0, r1, r2, r3, r4, r5]) rfl (HF5.out.post (⟨9, 0, ⟨#[]⟩, ⟨#[]⟩, [], [⟨2, f2, ⟨#[]⟩, ⟨#[]⟩, [], []⟩]⟩ : Key) (Kd.R_nil _ _ _ _ _) (row_one ⟨2, f2, ⟨#[]⟩, ⟨#[]⟩, [], []⟩ (Kd.R_nil _ _ _ _ _) (Kd.R_nil _ _ _ _ _) hs6.out) _ _ _ _ _ _)

end Go.Proofs.YtejhfghijgbckaaGreatDoor
namespace Go.Proofs.YtejhfghijgbckaaGreatDoor
open Go.RowKit Go.Proofs.YtejhfghijgbckaaGreatDoor.P Go.Proofs.YtejhfghijgbckaaGreatDoorW.PrintWords Go.Proofs.YtejhfghijgbckaaGreatDoorW.PrintLast Go.Proofs.YtejhfghijgbckaaGreatDoorW.PrintMore
set_option linter.unusedVariables false
set_option linter.unusedSimpArgs false
def wordR (K : List Tok → Bool → Option KRes) (s : ByteArray) (l : List Tok) (bad : Bool) : Option KRes :=
 (letterboxref9_Low.f s).bind fun word =>
  if word.toList = ([97, 108, 108] : List UInt8) then some (⟨1, 0, ⟨#[]⟩, ⟨#[]⟩, [], []⟩, l, bad)
  else if word.toList = ([108, 97, 114, 103, 101, 114] : List UInt8) then (rnumF l bad).bind fun r => some (⟨3, r.1, ⟨#[]⟩, ⟨#[]⟩, [], []⟩, r.2)
  else if word.toList = ([115, 109, 97, 108, 108, 101, 114] : List UInt8) then (rnumF l bad).bind fun r => some (⟨4, r.1, ⟨#[]⟩, ⟨#[]⟩, [], []⟩, r.2)
  else if word.toList = ([116, 101, 120, 116] : List UInt8) then some (⟨5, 0, ⟨#[]⟩, (textR l bad).1, [], []⟩, (textR l bad).2)
  else if word.toList = ([115, 117, 98, 106, 101, 99, 116] : List UInt8) then some (⟨6, 0, word, (textR l bad).1, [], []⟩, (textR l bad).2)
  else if word.toList = ([102, 114, 111, 109] : List UInt8) then some (⟨6, 0, word, (textR l bad).1, [], []⟩, (textR l bad).2)
  else if word.toList = ([116, 111] : List UInt8) then some (⟨6, 0, word, (textR l bad).1, [], []⟩, (textR l bad).2)
  else if word.toList = ([117, 105, 100] : List UInt8) then (rsetF (atomR l bad).1 (atomR l bad).2.2).bind fun r => some (⟨8, 0, ⟨#[]⟩, ⟨#[]⟩, r.1, []⟩, (atomR l bad).2.1, r.2)
  else if word.toList = ([110, 111, 116] : List UInt8) then (K l bad).bind fun r => some (⟨9, 0, ⟨#[]⟩, ⟨#[]⟩, [], [r.1]⟩, r.2)
  else if word.toList = ([111, 114] : List UInt8) then (K l bad).bind fun r => (K r.2.1 r.2.2).bind fun q => some (⟨10, 0, ⟨#[]⟩, ⟨#[]⟩, [], [r.1, q.1]⟩, q.2)
  else (letterboxref18_flag.f 10 word).bind fun f => if 0 < f then some (⟨2, f, ⟨#[]⟩, ⟨#[]⟩, [], []⟩, l, bad)
   else if 2 < word.size then
    if (word.extract 0 2).toList = ([117, 110] : List UInt8) then
     (letterboxref18_flag.f 10 (word.extract 2 word.size)).bind fun f2 => if 0 < f2 then some (⟨9, 0, ⟨#[]⟩, ⟨#[]⟩, [], [⟨2, f2, ⟨#[]⟩, ⟨#[]⟩, [], []⟩]⟩, l, bad)
     else (rsetF s bad).bind fun r => some (⟨7, 0, ⟨#[]⟩, ⟨#[]⟩, r.1, []⟩, l, r.2)
    else (rsetF s bad).bind fun r => some (⟨7, 0, ⟨#[]⟩, ⟨#[]⟩, r.1, []⟩, l, r.2)
   else (rsetF s bad).bind fun r => some (⟨7, 0, ⟨#[]⟩, ⟨#[]⟩, r.1, []⟩, l, r.2)
def allR (K : List Tok → Bool → Option KRes) : Nat → List Key → List Tok → Bool → Option (List Key × List Tok × Bool)
 | 0, _, _, _ => none
 | n + 1, kids, l, bad =>
  if bad = true then some (kids, l, bad)
  else if l.length = 0 then some (kids, l, bad)
  else if isNextF l 4 = true then some (kids, l, bad)
  else (K l bad).bind fun r => allR K n (kids ++ [r.1]) r.2.1 r.2.2
abbrev noKey : Key := ⟨0, 0, ⟨#[]⟩, ⟨#[]⟩, [], []⟩
def keyR : Nat → Int → List Tok → Bool → Option KRes
 | 0, _, _, _ => none
 | k + 1, d, l, bad =>
  if (nextR l bad).2.2 = true then some (noKey, (nextR l bad).2.1, true)
  else if d > 4 then some (noKey, (nextR l bad).2.1, true)
  else if (nextR l bad).1.f0 = 1 then wordR (keyR k (d + 1)) (nextR l bad).1.f1 (nextR l bad).2.1 (nextR l bad).2.2
  else if (nextR l bad).1.f0 = 3 then
   (allR (keyR k (d + 1)) k [] (nextR l bad).2.1 (if 4 ≤ d then true else false)).bind fun r =>
    if r.2.2 = true then some (⟨11, 0, ⟨#[]⟩, ⟨#[]⟩, [], r.1⟩, r.2.1, true)
    else if r.1.length = 0 then some (⟨11, 0, ⟨#[]⟩, ⟨#[]⟩, [], r.1⟩, r.2.1, true)
    else some (⟨11, 0, ⟨#[]⟩, ⟨#[]⟩, [], r.1⟩, (nextR r.2.1 r.2.2).2.1, (nextR r.2.1 r.2.2).1.f0 != 4)
  else some (noKey, (nextR l bad).2.1, true)
def WqC (w0 : World) (g : Nat) (K : List Tok → Bool → Option KRes) (d : Int) : Prop :=
 ∀ (w : World) (s : ByteArray) (l : List Tok) (bad : Bool) (x : Key) (l' : List Tok) (b' : Bool), RdI w0 w g l bad → wordR K s l bad = some (x, l', b') →
  Calls Tryz.prog 39 #[.pointer (some ⟨g, 0, none⟩), .string s, .int .i64 d] w (KqPost w0 w g x l' b')
theorem wordR_calls {w0 : World} {g : Nat} {K : List Tok → Bool → Option KRes} {d : Int} (hd : 0 ≤ d ∧ d ≤ 999999999) (ih : KqC w0 g K (d + 1)) : WqC w0 g K d := by
 intro w s l bad x l' b' hI h
 unfold wordR at h
 obtain ⟨word, hw, h⟩ := Option.bind_eq_some_iff.1 h
 by_cases kall : word.toList = ([97, 108, 108] : List UInt8)
 ·rw [if_pos kall] at h
  have e1 : _ = x := congrArg Prod.fst (Option.some.inj h); have e2 : _ = l' := congrArg (fun z => z.2.1) (Option.some.inj h); have e3 : _ = b' := congrArg (fun z => z.2.2) (Option.some.inj h); subst e1 e2 e3
  exact word_all hI hw kall
 rw [if_neg kall] at h
 by_cases klarger : word.toList = ([108, 97, 114, 103, 101, 114] : List UInt8)
 ·rw [if_pos klarger] at h
  obtain ⟨⟨n, l2, b2⟩, hnum, h⟩ := Option.bind_eq_some_iff.1 h
  have e1 : _ = x := congrArg Prod.fst (Option.some.inj h); have e2 : _ = l' := congrArg (fun z => z.2.1) (Option.some.inj h); have e3 : _ = b' := congrArg (fun z => z.2.2) (Option.some.inj h); subst e1 e2 e3
  exact word_larger hI hw kall klarger hnum
 rw [if_neg klarger] at h
 by_cases ksmaller : word.toList = ([115, 109, 97, 108, 108, 101, 114] : List UInt8)
 ·rw [if_pos ksmaller] at h
  obtain ⟨⟨n, l2, b2⟩, hnum, h⟩ := Option.bind_eq_some_iff.1 h
  have e1 : _ = x := congrArg Prod.fst (Option.some.inj h); have e2 : _ = l' := congrArg (fun z => z.2.1) (Option.some.inj h); have e3 : _ = b' := congrArg (fun z => z.2.2) (Option.some.inj h); subst e1 e2 e3
  exact word_smaller hI hw kall klarger ksmaller hnum
 rw [if_neg ksmaller] at h
 by_cases ktext : word.toList = ([116, 101, 120, 116] : List UInt8)
 ·rw [if_pos ktext] at h
  have e1 : _ = x := congrArg Prod.fst (Option.some.inj h); have e2 : _ = l' := congrArg (fun z => z.2.1) (Option.some.inj h); have e3 : _ = b' := congrArg (fun z => z.2.2) (Option.some.inj h); subst e1 e2 e3
  exact word_text hI hw kall klarger ksmaller ktext (s2 := (textR l bad).1) rfl
 rw [if_neg ktext] at h
 by_cases ksubject : word.toList = ([115, 117, 98, 106, 101, 99, 116] : List UInt8)
 ·rw [if_pos ksubject] at h
  have e1 : _ = x := congrArg Prod.fst (Option.some.inj h); have e2 : _ = l' := congrArg (fun z => z.2.1) (Option.some.inj h); have e3 : _ = b' := congrArg (fun z => z.2.2) (Option.some.inj h); subst e1 e2 e3
  exact word_subject hI hw kall klarger ksmaller ktext ksubject (s2 := (textR l bad).1) rfl
 rw [if_neg ksubject] at h
 by_cases kfrom : word.toList = ([102, 114, 111, 109] : List UInt8)
 ·rw [if_pos kfrom] at h
  have e1 : _ = x := congrArg Prod.fst (Option.some.inj h); have e2 : _ = l' := congrArg (fun z => z.2.1) (Option.some.inj h); have e3 : _ = b' := congrArg (fun z => z.2.2) (Option.some.inj h); subst e1 e2 e3
  exact word_from hI hw kall klarger ksmaller ktext ksubject kfrom (s2 := (textR l bad).1) rfl
 rw [if_neg kfrom] at h
 by_cases kto : word.toList = ([116, 111] : List UInt8)
 ·rw [if_pos kto] at h
  have e1 : _ = x := congrArg Prod.fst (Option.some.inj h); have e2 : _ = l' := congrArg (fun z => z.2.1) (Option.some.inj h); have e3 : _ = b' := congrArg (fun z => z.2.2) (Option.some.inj h); subst e1 e2 e3
  exact word_to hI hw kall klarger ksmaller ktext ksubject kfrom kto (s2 := (textR l bad).1) rfl
 rw [if_neg kto] at h
 by_cases kuid : word.toList = ([117, 105, 100] : List UInt8)
 ·rw [if_pos kuid] at h
  obtain ⟨⟨r, b3⟩, hs, h⟩ := Option.bind_eq_some_iff.1 h
  have e1 : _ = x := congrArg Prod.fst (Option.some.inj h); have e2 : _ = l' := congrArg (fun z => z.2.1) (Option.some.inj h); have e3 : _ = b' := congrArg (fun z => z.2.2) (Option.some.inj h); subst e1 e2 e3
  exact word_uid hI hw kall klarger ksmaller ktext ksubject kfrom kto kuid (s2 := (atomR l bad).1) (b2 := (atomR l bad).2.2) rfl hs
 rw [if_neg kuid] at h
 by_cases knot : word.toList = ([110, 111, 116] : List UInt8)
 ·rw [if_pos knot] at h
  obtain ⟨⟨x1, l2, b2⟩, h1_, h⟩ := Option.bind_eq_some_iff.1 h
  have e1 : _ = x := congrArg Prod.fst (Option.some.inj h); have e2 : _ = l' := congrArg (fun z => z.2.1) (Option.some.inj h); have e3 : _ = b' := congrArg (fun z => z.2.2) (Option.some.inj h); subst e1 e2 e3
  exact word_not hI hw kall klarger ksmaller ktext ksubject kfrom kto kuid knot hd ih h1_
 rw [if_neg knot] at h
 by_cases kor : word.toList = ([111, 114] : List UInt8)
 ·rw [if_pos kor] at h
  obtain ⟨⟨x1, l2, b2⟩, h1_, h⟩ := Option.bind_eq_some_iff.1 h
  obtain ⟨⟨y1, l3, b3⟩, h2_, h⟩ := Option.bind_eq_some_iff.1 h
  have e1 : _ = x := congrArg Prod.fst (Option.some.inj h); have e2 : _ = l' := congrArg (fun z => z.2.1) (Option.some.inj h); have e3 : _ = b' := congrArg (fun z => z.2.2) (Option.some.inj h); subst e1 e2 e3
  exact word_or hI hw kall klarger ksmaller ktext ksubject kfrom kto kuid knot kor hd ih h1_ h2_
 rw [if_neg kor] at h
 obtain ⟨f, hf, h⟩ := Option.bind_eq_some_iff.1 h
 by_cases h0 : 0 < f
 ·rw [if_pos h0] at h
  have e1 : _ = x := congrArg Prod.fst (Option.some.inj h); have e2 : _ = l' := congrArg (fun z => z.2.1) (Option.some.inj h); have e3 : _ = b' := congrArg (fun z => z.2.2) (Option.some.inj h); subst e1 e2 e3
  exact word_flag hI hw kall klarger ksmaller ktext ksubject kfrom kto kuid knot kor hf h0
 rw [if_neg h0] at h
 by_cases hs : 2 < word.size
 ·rw [if_pos hs] at h
  by_cases hu : (word.extract 0 2).toList = ([117, 110] : List UInt8)
  ·rw [if_pos hu] at h
   obtain ⟨f2, hf2, h⟩ := Option.bind_eq_some_iff.1 h
   by_cases h1 : 0 < f2
   ·rw [if_pos h1] at h
    have e1 : _ = x := congrArg Prod.fst (Option.some.inj h); have e2 : _ = l' := congrArg (fun z => z.2.1) (Option.some.inj h); have e3 : _ = b' := congrArg (fun z => z.2.2) (Option.some.inj h); subst e1 e2 e3
    exact word_unflag hI hw kall klarger ksmaller ktext ksubject kfrom kto kuid knot kor hf h0 hs hu hf2 h1
   ·rw [if_neg h1] at h
    obtain ⟨⟨r, b3⟩, hset, h⟩ := Option.bind_eq_some_iff.1 h
    have e1 : _ = x := congrArg Prod.fst (Option.some.inj h); have e2 : _ = l' := congrArg (fun z => z.2.1) (Option.some.inj h); have e3 : _ = b' := congrArg (fun z => z.2.2) (Option.some.inj h); subst e1 e2 e3
    exact word_set3 hI hw kall klarger ksmaller ktext ksubject kfrom kto kuid knot kor hf h0 hs hu hf2 h1 hset
  ·rw [if_neg hu] at h
   obtain ⟨⟨r, b3⟩, hset, h⟩ := Option.bind_eq_some_iff.1 h
   have e1 : _ = x := congrArg Prod.fst (Option.some.inj h); have e2 : _ = l' := congrArg (fun z => z.2.1) (Option.some.inj h); have e3 : _ = b' := congrArg (fun z => z.2.2) (Option.some.inj h); subst e1 e2 e3
   exact word_set2 hI hw kall klarger ksmaller ktext ksubject kfrom kto kuid knot kor hf h0 hs hu hset
 ·rw [if_neg hs] at h
  obtain ⟨⟨r, b3⟩, hset, h⟩ := Option.bind_eq_some_iff.1 h
  have e1 : _ = x := congrArg Prod.fst (Option.some.inj h); have e2 : _ = l' := congrArg (fun z => z.2.1) (Option.some.inj h); have e3 : _ = b' := congrArg (fun z => z.2.2) (Option.some.inj h); subst e1 e2 e3
  exact word_set1 hI hw kall klarger ksmaller ktext ksubject kfrom kto kuid knot kor hf h0 hs hset
end Go.Proofs.YtejhfghijgbckaaGreatDoor
namespace Go.Proofs.YtejhfghijgbckaaGreatDoor
open Go.RowKit Go.Proofs.YtejhfghijgbckaaGreatDoor.P Go.Proofs.YtejhfghijgbckaaGreatDoorW.PrintWords Go.Proofs.YtejhfghijgbckaaGreatDoorW.PrintLast Go.Proofs.YtejhfghijgbckaaGreatDoorW.PrintMore
set_option linter.unusedVariables false
set_option linter.unusedSimpArgs false
structure AllQ (w0 w wr : World) (g V : Nat) (l : List Tok) (bad : Bool) (kids : List Key) (v5 : Value) : Prop where
 fr : Fq w0 w wr g l bad
 hV : w.heap.size < V
 vblk : wr.heap[V]? = some (.cells (aKey v5) 27 (0, 0))
 row : Kd.R kKey 27 wr (V + 1) (fun _ => True) v5 kids
section
variable {w0 w wr w2 : World} {g V : Nat} {l l2 : List Tok} {bad b2 : Bool} {kids : List Key} {v5 : Value}
theorem AllQ.size (h : AllQ w0 w wr g V l bad kids v5) : V + 1 ≤ wr.heap.size := by have := blk_lt h.vblk; omega
theorem AllQ.step (h : AllQ w0 w wr g V l bad kids v5) (hp : RdI w0 w2 g l2 b2) (hk : KeepBut wr w2 g none) : AllQ w0 w w2 g V l2 b2 kids v5 :=
 ⟨h.fr.step hp hk, h.hV, (hk.2 _ (by have := h.size; omega) (by have := h.fr.gl; have := h.hV; omega) (by simp)).trans h.vblk, row_keep h.row hk (by have := h.fr.gl; have := h.hV; omega)⟩
theorem AllQ.below (h : AllQ w0 w wr g V l bad kids v5) (hb : Below wr.heap.size wr w2) : AllQ w0 w w2 g V l bad kids v5 := h.step (h.fr.pa.below_ hb) (KeepBut.of_below hb g none)
theorem AllQ.drewN (h : AllQ w0 w wr g V l bad kids v5) (n : Nat) : AllQ w0 w (wr.drewN n) g V l bad kids v5 := h.below (pw_below_drewN (Below.refl _ _) n)
theorem AllQ.drew (h : AllQ w0 w wr g V l bad kids v5) : AllQ w0 w wr.drew g V l bad kids v5 := h.below (below_drew (Below.refl _ _))
theorem AllQ.alloc (h : AllQ w0 w wr g V l bad kids v5) (o : Obj) : AllQ w0 w (wr.alloc o) g V l bad kids v5 := h.below (below_alloc (Below.refl _ _) o)
theorem AllQ.vcell (h : AllQ w0 w wr g V l bad kids v5) : wr.cell? ⟨V, 5, none⟩ = some v5 := blk_cell h.vblk 5
theorem AllQ.vcells (h : AllQ w0 w wr g V l bad kids v5) : wr.cell? ⟨V, 0, none⟩ = some (.int .i64 11) ∧ wr.cell? ⟨V, 1, none⟩ = some (.int .i64 0) ∧ wr.cell? ⟨V, 2, none⟩ = some (.string ⟨#[]⟩) ∧ wr.cell? ⟨V, 3, none⟩ = some (.string ⟨#[]⟩) ∧ wr.cell? ⟨V, 4, none⟩ = some (.slice none 0 0) :=
 ⟨blk_cell h.vblk 0, blk_cell h.vblk 1, blk_cell h.vblk 2, blk_cell h.vblk 3, blk_cell h.vblk 4⟩
theorem AllQ.gcells (h : AllQ w0 w wr g V l bad kids v5) : ∃ A c, wr.cell? ⟨g, 0, none⟩ = some (.slice A l.length c) ∧ wr.cell? ⟨g, 1, none⟩ = some (.bool bad) ∧ l.length ≤ c ∧ Kd.C kTok w0 A l.length l := by
 obtain ⟨A, c, hb, hc, hC⟩ := h.fr.pa.blk
 exact ⟨A, c, blk_cell hb 0, blk_cell hb 1, hc, hC⟩
theorem AllQ.own (h : AllQ w0 w wr g V l bad kids v5) : ∀ k, v5.ownBlock = some k → k < wr.heap.size := fun k hk => by
 obtain ⟨_, ho⟩ := Kd.R_own h.row
 exact own_lt ho k hk
theorem AllQ.set1 (h : AllQ w0 w wr g V l bad kids v5) (b : Bool) : AllQ w0 w (wr.setCell ⟨g, 1, none⟩ (.bool b)) g V l b kids v5 := h.step (h.fr.pa.set1 b) ((KeepBut.refl wr g none).set_ _ _)
theorem AllQ.push (h : AllQ w0 w wr g V l bad kids v5) {x : Key} {v1 : Value} {w1 : World} (hr : Kd.R kKey 27 w1 (V + 1) (fun _ => True) v1 (kids ++ [x])) (hb : Below (V + 1) wr w1) : AllQ w0 w (w1.setCell ⟨V, 5, none⟩ v1) g V l bad (kids ++ [x]) v1 := by
 have hg := h.fr.gl
 have hV := h.hV
 have hv : w1.heap[V]? = some (.cells (aKey v5) 27 (0, 0)) := (hb.block _ (by omega)).trans h.vblk
 have hs := hb.size
 refine ⟨⟨(h.fr.pa.belowB hb (by omega)).far (by omega) _ _, ?_, ?_, hg⟩, hV, ?_, ?_⟩
 ·refine keep_far ?_ (by show w.heap.size ≤ V; omega) _
  exact ⟨by have := h.fr.keep.1; omega, fun i hi hne hr' => ((hb.block i (by omega)).trans (h.fr.keep.2 i hi hne hr'))⟩
 ·exact (Below.heap_setCell w1 ⟨V, 5, none⟩ v1 w.heap.size (by show w.heap.size ≠ V; omega)).trans ((hb.block _ (by omega)).trans h.fr.blk)
 ·exact blk_set hv 5 v1
 ·exact Kd.R_mono (Kd.R_far (p := ⟨V, 5, none⟩) (ok := fun k => V + 1 ≤ k) (Kd.R_mono (Kd.R_bound hr) (fun k hk => hk.2.1)) (fun k hk => by show k ≠ V; omega) _) (fun _ _ => trivial)
end
end Go.Proofs.YtejhfghijgbckaaGreatDoor
namespace Go.Proofs.YtejhfghijgbckaaGreatDoor
open Go.RowKit Go.Proofs.YtejhfghijgbckaaGreatDoor.P Go.Proofs.YtejhfghijgbckaaGreatDoorW.PrintWords Go.Proofs.YtejhfghijgbckaaGreatDoorW.PrintLast Go.Proofs.YtejhfghijgbckaaGreatDoorW.PrintMore
set_option linter.unusedVariables false
set_option linter.unusedSimpArgs false
variable {w0 w : World} {g : Nat} {l : List Tok} {bad : Bool}

set_option maxHeartbeats 8000000 in
set_option maxRecDepth 100000 in
theorem rkey_bad {d : Int} {x : Tok} {l1 : List Tok} {b1 : Bool} (hI0 : RdI w0 w g l bad) (hx : nextR l bad = (x, l1, b1)) (h1 : b1 = true) :
  Calls Tryz.prog 23 #[.pointer (some ⟨g, 0, none⟩), .int .i64 d] w (KqPost w0 w g ⟨0, 0, ⟨#[]⟩, ⟨#[]⟩, [], []⟩ l1 true) := by
 have HF0 := Aside0.mk (Fq.start hI0)
 subst h1
 have HX := Aside0.mk hx
 clear hI0 hx
 go_enter Tryz.func23, Tryz.ntmps23
 go_wp2_with (first | (go_at_call 38; (with_reducible refine (rnext_calls HF0.out.pa HX.out).mono ?_); rintro e w1 ⟨rfl, h2, h3⟩; have HF1 := Aside0.mk (HF0.out.step h2 h3); clear h2 h3; have HF2 := Aside0.mk (HF1.out.below (below_alloc (Below.refl _ _) (.cells #[.int .i64 x.f0, .string x.f1] 42))); have hg1 := HF2.out.pa.cell1; have hgf := HF2.out.pa.thaw 1; have HF3 := Aside0.mk (HF2.out.step (HF2.out.pa.set1 true) ((KeepBut.refl _ _ _).set_ 1 (.bool true))); obtain ⟨hq0, hq1, hq2, hq3, hq4, hq5⟩ := HF3.out.cell; have hz0 := HF3.out.thaw 0; have hz1 := HF3.out.thaw 1; have hz2 := HF3.out.thaw 2; have hz3 := HF3.out.thaw 3; have hz4 := HF3.out.thaw 4; have hz5 := HF3.out.thaw 5))
 exact bodyPost_ret (v := .agg #[.int .i64 0, .int .i64 0, .string ⟨#[]⟩, .string ⟨#[]⟩, .slice none 0 0, .slice none 0 0]) (by obtain ⟨r0, r1, r2, r3, r4, r5⟩ := six_cells HF3.out.blk (.int .i64 0) (.int .i64 0) (.string ⟨#[]⟩) (.string ⟨#[]⟩) (.slice none 0 0) (.slice none 0 0); simp [results, Tryz.results23, go_sem, r0, r1, r2, r3, r4, r5]) rfl (HF3.out.post (⟨0, 0, ⟨#[]⟩, ⟨#[]⟩, [], []⟩ : Key) (Kd.R_nil _ _ _ _ _) (Kd.R_nil _ _ _ _ _) _ _ _ _ _ _)

set_option maxHeartbeats 8000000 in
set_option maxRecDepth 100000 in
theorem rkey_deep {d : Int} {x : Tok} {l1 : List Tok} {b1 : Bool} (hI0 : RdI w0 w g l bad) (hx : nextR l bad = (x, l1, b1)) (h1 : b1 = false) (h4 : d > 4) :
  Calls Tryz.prog 23 #[.pointer (some ⟨g, 0, none⟩), .int .i64 d] w (KqPost w0 w g ⟨0, 0, ⟨#[]⟩, ⟨#[]⟩, [], []⟩ l1 true) := by
 have HF0 := Aside0.mk (Fq.start hI0)
 subst h1
 have d4 : decide (4 < d) = true := decide_eq_true h4
 clear h4
 have HX := Aside0.mk hx
 clear hI0 hx
 go_enter Tryz.func23, Tryz.ntmps23
 go_wp2_with (first | (go_at_call 38; (with_reducible refine (rnext_calls HF0.out.pa HX.out).mono ?_); rintro e w1 ⟨rfl, h2, h3⟩; have HF1 := Aside0.mk (HF0.out.step h2 h3); clear h2 h3; have HF2 := Aside0.mk (HF1.out.below (below_alloc (Below.refl _ _) (.cells #[.int .i64 x.f0, .string x.f1] 42))); have hg1 := HF2.out.pa.cell1; have hgf := HF2.out.pa.thaw 1; have HF3 := Aside0.mk (HF2.out.step (HF2.out.pa.set1 true) ((KeepBut.refl _ _ _).set_ 1 (.bool true))); obtain ⟨hq0, hq1, hq2, hq3, hq4, hq5⟩ := HF3.out.cell; have hz0 := HF3.out.thaw 0; have hz1 := HF3.out.thaw 1; have hz2 := HF3.out.thaw 2; have hz3 := HF3.out.thaw 3; have hz4 := HF3.out.thaw 4; have hz5 := HF3.out.thaw 5))
 exact bodyPost_ret (v := .agg #[.int .i64 0, .int .i64 0, .string ⟨#[]⟩, .string ⟨#[]⟩, .slice none 0 0, .slice none 0 0]) (by obtain ⟨r0, r1, r2, r3, r4, r5⟩ := six_cells HF3.out.blk (.int .i64 0) (.int .i64 0) (.string ⟨#[]⟩) (.string ⟨#[]⟩) (.slice none 0 0) (.slice none 0 0); simp [results, Tryz.results23, go_sem, r0, r1, r2, r3, r4, r5]) rfl (HF3.out.post (⟨0, 0, ⟨#[]⟩, ⟨#[]⟩, [], []⟩ : Key) (Kd.R_nil _ _ _ _ _) (Kd.R_nil _ _ _ _ _) _ _ _ _ _ _)

set_option maxHeartbeats 8000000 in
set_option maxRecDepth 100000 in
theorem rkey_none {d : Int} {x : Tok} {l1 : List Tok} {b1 : Bool} (hI0 : RdI w0 w g l bad) (hx : nextR l bad = (x, l1, b1)) (h1 : b1 = false) (h4 : ¬ d > 4) (k1 : ¬ x.f0 = 1) (k3 : ¬ x.f0 = 3) :
  Calls Tryz.prog 23 #[.pointer (some ⟨g, 0, none⟩), .int .i64 d] w (KqPost w0 w g ⟨0, 0, ⟨#[]⟩, ⟨#[]⟩, [], []⟩ l1 true) := by
 have HF0 := Aside0.mk (Fq.start hI0)
 subst h1
 have d4 : decide (4 < d) = false := decide_eq_false h4
 clear h4
 have q1 : (x.f0 == 1) = false := beq_eq_false_iff_ne.2 k1
 have q3 : (x.f0 == 3) = false := beq_eq_false_iff_ne.2 k3
 clear k1 k3
 have HX := Aside0.mk hx
 clear hI0 hx
 go_enter Tryz.func23, Tryz.ntmps23
 go_wp2_with (first | (go_at_call 38; (with_reducible refine (rnext_calls HF0.out.pa HX.out).mono ?_); rintro e w1 ⟨rfl, h2, h3⟩; have HF1 := Aside0.mk (HF0.out.step h2 h3); clear h2 h3; have HF2 := Aside0.mk (HF1.out.below (below_alloc (Below.refl _ _) (.cells #[.int .i64 x.f0, .string x.f1] 42))); have hg1 := HF2.out.pa.cell1; have hgf := HF2.out.pa.thaw 1; have HF3 := Aside0.mk (HF2.out.step (HF2.out.pa.set1 true) ((KeepBut.refl _ _ _).set_ 1 (.bool true))); obtain ⟨hq0, hq1, hq2, hq3, hq4, hq5⟩ := HF3.out.cell; have hz0 := HF3.out.thaw 0; have hz1 := HF3.out.thaw 1; have hz2 := HF3.out.thaw 2; have hz3 := HF3.out.thaw 3; have hz4 := HF3.out.thaw 4; have hz5 := HF3.out.thaw 5))
 exact bodyPost_ret (v := .agg #[.int .i64 0, .int .i64 0, .string ⟨#[]⟩, .string ⟨#[]⟩, .slice none 0 0, .slice none 0 0]) (by obtain ⟨r0, r1, r2, r3, r4, r5⟩ := six_cells HF3.out.blk (.int .i64 0) (.int .i64 0) (.string ⟨#[]⟩) (.string ⟨#[]⟩) (.slice none 0 0) (.slice none 0 0); simp [results, Tryz.results23, go_sem, r0, r1, r2, r3, r4, r5]) rfl (HF3.out.post (⟨0, 0, ⟨#[]⟩, ⟨#[]⟩, [], []⟩ : Key) (Kd.R_nil _ _ _ _ _) (Kd.R_nil _ _ _ _ _) _ _ _ _ _ _)

set_option maxHeartbeats 8000000 in
set_option maxRecDepth 100000 in
theorem rkey_word {d : Int} {x : Tok} {l1 : List Tok} {b1 : Bool} (hI0 : RdI w0 w g l bad) (hx : nextR l bad = (x, l1, b1)) (h1 : b1 = false) (h4 : ¬ d > 4) (k1 : x.f0 = 1) {Kf : List Tok → Bool → Option KRes} (hW : WqC w0 g Kf d) {y : Key} {l2 : List Tok} {b2 : Bool} (hy : wordR Kf x.f1 l1 false = some (y, l2, b2)) :
  Calls Tryz.prog 23 #[.pointer (some ⟨g, 0, none⟩), .int .i64 d] w (KqPost w0 w g y l2 b2) := by
 have HF0 := Aside0.mk (Fq.start hI0)
 subst h1
 have d4 : decide (4 < d) = false := decide_eq_false h4
 clear h4
 have q1 : (x.f0 == 1) = true := beq_iff_eq.2 k1
 have HW := Aside0.mk (show ∀ W : World, RdI w0 W g l1 false → Calls Tryz.prog 39 #[.pointer (some ⟨g, 0, none⟩), .string x.f1, .int .i64 d] W (KqPost w0 W g y l2 b2) from fun W hW' => hW W _ _ _ _ _ _ hW' hy)
 clear k1 hW hy
 have HX := Aside0.mk hx
 clear hI0 hx
 go_enter Tryz.func23, Tryz.ntmps23
 go_wp2_with (first | (go_at_call 38; (with_reducible refine (rnext_calls HF0.out.pa HX.out).mono ?_); rintro e w1 ⟨rfl, h2, h3⟩; have HF1 := Aside0.mk (HF0.out.step h2 h3); clear h2 h3; have HF2 := Aside0.mk (HF1.out.below (below_alloc (Below.refl _ _) (.cells #[.int .i64 x.f0, .string x.f1] 42))); have hg1 := HF2.out.pa.cell1; have hgf := HF2.out.pa.thaw 1; skip) | (go_at_call 39; (with_reducible refine (HW.out _ HF2.out.pa).mono ?_); rintro e w3 ⟨A4, c4, A5, c5, rfl, hr4, hr5, h2, h3⟩; have HR4 := Aside0.mk (Kd.R_lower (base' := w.heap.size + 1) hr4 HF2.out.size); have HR5 := Aside0.mk (Kd.R_lower (base' := w.heap.size + 1) hr5 HF2.out.size); clear hr4 hr5; have HF3 := Aside0.mk (HF2.out.step h2 h3); clear h2 h3; obtain ⟨hq0, hq1, hq2, hq3, hq4, hq5⟩ := HF3.out.cell; have hz0 := HF3.out.thaw 0; have hz1 := HF3.out.thaw 1; have hz2 := HF3.out.thaw 2; have hz3 := HF3.out.thaw 3; have hz4 := HF3.out.thaw 4; have hz5 := HF3.out.thaw 5))
 exact bodyPost_ret (v := .agg #[.int .i64 y.f0, .int .i64 y.f1, .string y.f2, .string y.f3, .slice A4 y.f4.length c4, .slice A5 y.f5.length c5]) (by obtain ⟨r0, r1, r2, r3, r4, r5⟩ := six_cells HF3.out.blk (.int .i64 y.f0) (.int .i64 y.f1) (.string y.f2) (.string y.f3) (.slice A4 y.f4.length c4) (.slice A5 y.f5.length c5); simp [results, Tryz.results23, go_sem, r0, r1, r2, r3, r4, r5]) rfl (HF3.out.post y HR4.out HR5.out _ _ _ _ _ _)

end Go.Proofs.YtejhfghijgbckaaGreatDoor
namespace Go.Proofs.YtejhfghijgbckaaGreatDoor
open Go.RowKit Go.Proofs.YtejhfghijgbckaaGreatDoor.P Go.Proofs.YtejhfghijgbckaaGreatDoorW.PrintWords Go.Proofs.YtejhfghijgbckaaGreatDoorW.PrintLast Go.Proofs.YtejhfghijgbckaaGreatDoorW.PrintMore
set_option linter.unusedVariables false
set_option linter.unusedSimpArgs false
theorem AllQ.start {w0 w w1 : World} {g : Nat} {l : List Tok} {b : Bool} (h : Fq w0 w w1 g l b) (o : Obj) : AllQ w0 w ((w1.alloc o).alloc (.cells (aKey (.slice none 0 0)) 27)) g (w1.heap.size + 1) l b [] (.slice none 0 0) := by
 refine ⟨(h.below (below_alloc (Below.refl _ _) o)).below (below_alloc (Below.refl _ _) _), by have := h.size; omega, ?_, Kd.R_nil _ _ _ _ _⟩
 have h2 := blk_new (w1.alloc o) (.cells (aKey (.slice none 0 0)) 27)
 rw [alloc_size_] at h2
 exact h2
theorem tok_field (a : Int) (b : ByteArray) (w : World) : (Instr.field 42 (.agg #[.int .i64 a, .string b]) 0).run Tryz.prog w = .ok (.int .i64 a) w := by kernel_rfl
def openEnd (kids : List Key) (l : List Tok) (bad : Bool) : KRes :=
 if bad = true then (⟨11, 0, ⟨#[]⟩, ⟨#[]⟩, [], kids⟩, l, true)
 else if kids.length = 0 then (⟨11, 0, ⟨#[]⟩, ⟨#[]⟩, [], kids⟩, l, true)
 else (⟨11, 0, ⟨#[]⟩, ⟨#[]⟩, [], kids⟩, (nextR l bad).2.1, (nextR l bad).1.f0 != 4)
set_option maxHeartbeats 8000000 in
set_option maxRecDepth 100000 in
theorem rkey_openT {w0 w : World} {g : Nat} {l : List Tok} {bad : Bool} {d : Int} {x0 : Tok} {l1 : List Tok} (hI0 : RdI w0 w g l bad) (hx : nextR l bad = (x0, l1, false)) (h4 : ¬ d > 4) (hd0 : 0 ≤ d) (k3 : x0.f0 = 3) (hd4 : 4 ≤ d) :
  Calls Tryz.prog 23 #[.pointer (some ⟨g, 0, none⟩), .int .i64 d] w (KqPost w0 w g ⟨11, 0, ⟨#[]⟩, ⟨#[]⟩, [], []⟩ l1 true) := by
 have HF0 := Aside0.mk (Fq.start hI0)
 have HX := Aside0.mk hx
 have d4 : decide (4 < d) = false := decide_eq_false h4
 have q1 : (x0.f0 == 1) = false := beq_eq_false_iff_ne.2 (by omega)
 have q3 : (x0.f0 == 3) = true := beq_iff_eq.2 k3
 have e4 : decide (4 ≤ d) = true := decide_eq_true hd4
 clear hd4
 clear hI0 hx h4 k3
 go_enter Tryz.func23, Tryz.ntmps23
 go_wp2_with (go_at_call 38; (with_reducible refine (rnext_calls HF0.out.pa HX.out).mono ?_); rintro e w1 ⟨rfl, h2, h3⟩; have HF1 := Aside0.mk (HF0.out.step h2 h3); clear h2 h3; have HF2 := Aside0.mk (HF1.out.below (below_alloc (Below.refl _ _) (.cells #[.int .i64 x0.f0, .string x0.f1] 42))); have hg1 := HF2.out.pa.cell1; have hgf := HF2.out.pa.thaw 1; clear HF2; have HS := Aside0.mk (AllQ.start HF1.out (.cells #[.int .i64 x0.f0, .string x0.f1] 42)); obtain ⟨Ag0, cg0, hs0, hs1, _, _⟩ := HS.out.gcells; have hsf := HS.out.fr.pa.thaw 1; clear HF0)
 go_loopg [] 1 (fun kq wq => Aside0 (AllQ w0 w wq g (w1.heap.size + 1) l1 true [] (.slice none 0 0)))
 case atStart => exact ⟨HS.out.set1 true⟩
 case round =>
  clear HS hs0 hs1 hsf
  have HA := hrel
  obtain ⟨Ag, cg, hg0, hg1, hlc, hC⟩ := HA.out.gcells
  have hgf := HA.out.fr.pa.thaw 1
  clear hC
  obtain ⟨hv0, hv1, hv2, hv3, hv4⟩ := HA.out.vcells
  have hv5 := HA.out.vcell
  have HA4 := Aside0.mk (HA.out.set1 true)
  obtain ⟨hu0, hu1, hu2, hu3, hu4⟩ := HA4.out.vcells
  have hu5 := HA4.out.vcell
  obtain ⟨hq0, hq1, hq2, hq3, hq4, hq5⟩ := HA4.out.fr.cell
  have hz0 := HA4.out.fr.thaw 0
  have hz1 := HA4.out.fr.thaw 1
  have hz2 := HA4.out.fr.thaw 2
  have hz3 := HA4.out.fr.thaw 3
  have hz4 := HA4.out.fr.thaw 4
  have hz5 := HA4.out.fr.thaw 5
  go_wp2
  exact bodyPost_ret (v := .agg #[.int .i64 11, .int .i64 0, .string ⟨#[]⟩, .string ⟨#[]⟩, .slice none 0 0, .slice none 0 0]) (by obtain ⟨r0, r1, r2, r3, r4, r5⟩ := six_cells (AllQ.fr HA4.out).blk (.int .i64 11) (.int .i64 0) (.string ⟨#[]⟩) (.string ⟨#[]⟩) (.slice none 0 0) (.slice none 0 0); simp [results, Tryz.results23, go_sem, r0, r1, r2, r3, r4, r5]) rfl ((AllQ.fr HA4.out).post (⟨11, 0, ⟨#[]⟩, ⟨#[]⟩, [], []⟩ : Key) (A4 := none) (c4 := 0) (Kd.R_nil _ _ _ _ _) (Kd.R_lower (AllQ.row HA4.out) (by have := HA4.out.hV; omega)) _ _ _ _ _ _)
set_option maxHeartbeats 8000000 in
set_option maxRecDepth 100000 in
theorem rkey_openF {w0 w : World} {g : Nat} {l : List Tok} {bad : Bool} {d : Int} {x0 : Tok} {l1 : List Tok} (hI0 : RdI w0 w g l bad) (hx : nextR l bad = (x0, l1, false)) (h4 : ¬ d > 4) (hd0 : 0 ≤ d) (k3 : x0.f0 = 3) (hd4 : ¬ 4 ≤ d) {K : List Tok → Bool → Option KRes} (hK : KqC w0 g K (d + 1)) {n : Nat} (hn : n ≤ 1000000) {kids : List Key} {l' : List Tok} {b' : Bool} (h : allR K n [] l1 false = some (kids, l', b')) {y : Key} {l3 : List Tok} {b3 : Bool} (ho : openEnd kids l' b' = (y, l3, b3)) :
  Calls Tryz.prog 23 #[.pointer (some ⟨g, 0, none⟩), .int .i64 d] w (KqPost w0 w g y l3 b3) := by
 have HF0 := Aside0.mk (Fq.start hI0)
 have HX := Aside0.mk hx
 have d4 : decide (4 < d) = false := decide_eq_false h4
 have q1 : (x0.f0 == 1) = false := beq_eq_false_iff_ne.2 (by omega)
 have q3 : (x0.f0 == 3) = true := beq_iff_eq.2 k3
 have e4 : decide (4 ≤ d) = false := decide_eq_false hd4
 have hw : wrap64 (d + 1) = d + 1 := by unfold wrap64; omega
 have HK := Aside0.mk (show KqC w0 g K (wrap64 (d + 1)) from hw.symm ▸ hK)
 have H' := Aside0.mk h
 have HN := Aside0.mk hn
 have HO := Aside0.mk ho
 clear hd4 hK h hn ho hw
 clear hI0 hx h4 k3
 go_enter Tryz.func23, Tryz.ntmps23
 go_wp2_with (go_at_call 38; (with_reducible refine (rnext_calls HF0.out.pa HX.out).mono ?_); rintro e w1 ⟨rfl, h2, h3⟩; have HF1 := Aside0.mk (HF0.out.step h2 h3); clear h2 h3; have HF2 := Aside0.mk (HF1.out.below (below_alloc (Below.refl _ _) (.cells #[.int .i64 x0.f0, .string x0.f1] 42))); have hg1 := HF2.out.pa.cell1; have hgf := HF2.out.pa.thaw 1; clear HF2; have HS := Aside0.mk (AllQ.start HF1.out (.cells #[.int .i64 x0.f0, .string x0.f1] 42)); obtain ⟨Ag0, cg0, hs0, hs1, _, _⟩ := HS.out.gcells; have hsf := HS.out.fr.pa.thaw 1; clear HF0)
 go_loopg [] n (fun kq wq => ∃ (kids1 : List Key) (l2 : List Tok) (b1 : Bool) (v5 : Value), Aside0 (allR K kq kids1 l2 b1 = some (kids, l', b')) ∧ Aside0 (kids1.length + kq ≤ n) ∧ Aside0 (AllQ w0 w wq g (w1.heap.size + 1) l2 b1 kids1 v5))
 case atStart => exact ⟨[], l1, false, .slice none 0 0, H', ⟨by simp⟩, HS⟩
 case round =>
  clear H' HS hs0 hs1 hsf
  obtain ⟨kids1, l2, b1, v5, HR, HL, HA⟩ := hrel
  obtain ⟨A5, c5, rfl⟩ := Kd.R_slice HA.out.row
  cases gk with
  | zero => exact absurd HR.out (by simp [allR])
  | succ k1 =>
   have H := HR.out
   clear HR
   simp only [allR] at H
   obtain ⟨Ag, cg, hg0, hg1, hlc, hC⟩ := HA.out.gcells
   have hgf := HA.out.fr.pa.thaw 1
   have HC := Aside0.mk hC
   clear hC
   obtain ⟨hv0, hv1, hv2, hv3, hv4⟩ := HA.out.vcells
   have hv5 := HA.out.vcell
   by_cases c1 : b1 = true
   ·subst c1
    rw [if_pos rfl] at H
    obtain ⟨rfl, rfl, rfl⟩ : kids1 = kids ∧ l2 = l' ∧ true = b' := by simpa using H
    have ho := HO.out
    rw [openEnd, if_pos rfl] at ho
    have e1 : _ = y := congrArg Prod.fst ho; have e2 : _ = l3 := congrArg (fun z => z.2.1) ho; have e3 : _ = b3 := congrArg (fun z => z.2.2) ho; subst e1 e2 e3
    clear H HO ho
    have HA4 := Aside0.mk (HA.out.set1 true)
    obtain ⟨hu0, hu1, hu2, hu3, hu4⟩ := HA4.out.vcells
    have hu5 := HA4.out.vcell
    obtain ⟨hq0, hq1, hq2, hq3, hq4, hq5⟩ := HA4.out.fr.cell
    have hz0 := HA4.out.fr.thaw 0
    have hz1 := HA4.out.fr.thaw 1
    have hz2 := HA4.out.fr.thaw 2
    have hz3 := HA4.out.fr.thaw 3
    have hz4 := HA4.out.fr.thaw 4
    have hz5 := HA4.out.fr.thaw 5
    go_wp2
    exact bodyPost_ret (v := .agg #[.int .i64 11, .int .i64 0, .string ⟨#[]⟩, .string ⟨#[]⟩, .slice none 0 0, .slice A5 kids1.length c5]) (by obtain ⟨r0, r1, r2, r3, r4, r5⟩ := six_cells (AllQ.fr HA4.out).blk (.int .i64 11) (.int .i64 0) (.string ⟨#[]⟩) (.string ⟨#[]⟩) (.slice none 0 0) (.slice A5 kids1.length c5); simp [results, Tryz.results23, go_sem, r0, r1, r2, r3, r4, r5]) rfl ((AllQ.fr HA4.out).post (⟨11, 0, ⟨#[]⟩, ⟨#[]⟩, [], kids1⟩ : Key) (A4 := none) (c4 := 0) (Kd.R_nil _ _ _ _ _) (Kd.R_lower (AllQ.row HA4.out) (by have := HA4.out.hV; omega)) _ _ _ _ _ _)
   ·obtain rfl : b1 = false := Bool.eq_false_iff.mpr c1
    rw [if_neg c1] at H
    clear c1
    by_cases c3 : l2.length = 0
    ·rw [if_pos c3] at H
     obtain rfl := List.eq_nil_of_length_eq_zero c3
     clear c3
     have c3b : decide ((0 : Int) < (([] : List Tok).length : Int)) = false := rfl
     obtain ⟨rfl, rfl, rfl⟩ : kids1 = kids ∧ [] = l' ∧ false = b' := by simpa using H
     clear H
     have ho := HO.out
     rw [openEnd, if_neg Bool.false_ne_true] at ho
     clear HO
     by_cases c2 : kids1.length = 0
     ·rw [if_pos c2] at ho
      have e1 : _ = y := congrArg Prod.fst ho; have e2 : _ = l3 := congrArg (fun z => z.2.1) ho; have e3 : _ = b3 := congrArg (fun z => z.2.2) ho; subst e1 e2 e3
      have c2b : ((kids1.length : Int) == 0) = true := beq_iff_eq.2 (by omega)
      clear c2 ho
      have HA4 := Aside0.mk (HA.out.set1 true)
      obtain ⟨hu0, hu1, hu2, hu3, hu4⟩ := HA4.out.vcells
      have hu5 := HA4.out.vcell
      obtain ⟨hq0, hq1, hq2, hq3, hq4, hq5⟩ := HA4.out.fr.cell
      have hz0 := HA4.out.fr.thaw 0
      have hz1 := HA4.out.fr.thaw 1
      have hz2 := HA4.out.fr.thaw 2
      have hz3 := HA4.out.fr.thaw 3
      have hz4 := HA4.out.fr.thaw 4
      have hz5 := HA4.out.fr.thaw 5
      go_wp2
      exact bodyPost_ret (v := .agg #[.int .i64 11, .int .i64 0, .string ⟨#[]⟩, .string ⟨#[]⟩, .slice none 0 0, .slice A5 kids1.length c5]) (by obtain ⟨r0, r1, r2, r3, r4, r5⟩ := six_cells (AllQ.fr HA4.out).blk (.int .i64 11) (.int .i64 0) (.string ⟨#[]⟩) (.string ⟨#[]⟩) (.slice none 0 0) (.slice A5 kids1.length c5); simp [results, Tryz.results23, go_sem, r0, r1, r2, r3, r4, r5]) rfl ((AllQ.fr HA4.out).post (⟨11, 0, ⟨#[]⟩, ⟨#[]⟩, [], kids1⟩ : Key) (A4 := none) (c4 := 0) (Kd.R_nil _ _ _ _ _) (Kd.R_lower (AllQ.row HA4.out) (by have := HA4.out.hV; omega)) _ _ _ _ _ _)
     ·rw [if_neg c2] at ho
      have c2b : ((kids1.length : Int) == 0) = false := beq_eq_false_iff_ne.2 (by omega)
      clear c2
      have hfld : ∀ W : World, (Instr.field 42 (.agg #[.int .i64 0, .string ⟨#[]⟩]) 0).run Tryz.prog W = .ok (.int .i64 0) W := fun W => tok_field 0 ⟨#[]⟩ W
      have HM := Aside0.mk (show nextR [] false = ((⟨0, ⟨#[]⟩⟩ : Tok), [], true) from rfl)
      have ho' : ((⟨11, 0, ⟨#[]⟩, ⟨#[]⟩, [], kids1⟩ : Key), ([] : List Tok), true) = (y, l3, b3) := ho
      have e1 : _ = y := congrArg Prod.fst ho'; have e2 : _ = l3 := congrArg (fun z => z.2.1) ho'; have e3 : _ = b3 := congrArg (fun z => z.2.2) ho'; subst e1 e2 e3
      clear ho ho'
      go_wp2_with (go_at_call 38; (with_reducible refine (rnext_calls HA.out.fr.pa HM.out).mono ?_); rintro e w3 ⟨rfl, h2, h3⟩; have HA3 := Aside0.mk (AllQ.step HA.out h2 h3); clear h2 h3; obtain ⟨Ag3, cg3, hg30, hg31, _, _⟩ := HA3.out.gcells; have hgf3 := HA3.out.fr.pa.thaw 1; have HA4 := Aside0.mk (AllQ.set1 HA3.out true); obtain ⟨hu0, hu1, hu2, hu3, hu4⟩ := HA4.out.vcells; have hu5 := HA4.out.vcell; obtain ⟨hq0, hq1, hq2, hq3, hq4, hq5⟩ := HA4.out.fr.cell; have hz0 := HA4.out.fr.thaw 0; have hz1 := HA4.out.fr.thaw 1; have hz2 := HA4.out.fr.thaw 2; have hz3 := HA4.out.fr.thaw 3; have hz4 := HA4.out.fr.thaw 4; have hz5 := HA4.out.fr.thaw 5)
      exact bodyPost_ret (v := .agg #[.int .i64 11, .int .i64 0, .string ⟨#[]⟩, .string ⟨#[]⟩, .slice none 0 0, .slice A5 kids1.length c5]) (by obtain ⟨r0, r1, r2, r3, r4, r5⟩ := six_cells (AllQ.fr HA4.out).blk (.int .i64 11) (.int .i64 0) (.string ⟨#[]⟩) (.string ⟨#[]⟩) (.slice none 0 0) (.slice A5 kids1.length c5); simp [results, Tryz.results23, go_sem, r0, r1, r2, r3, r4, r5]) rfl ((AllQ.fr HA4.out).post (⟨11, 0, ⟨#[]⟩, ⟨#[]⟩, [], kids1⟩ : Key) (A4 := none) (c4 := 0) (Kd.R_nil _ _ _ _ _) (Kd.R_lower (AllQ.row HA4.out) (by have := HA4.out.hV; omega)) _ _ _ _ _ _)
    ·rw [if_neg c3] at H
     cases l2 with
     | nil => exact absurd rfl c3
     | cons z zs =>
      have c3b : decide ((0 : Int) < ((z :: zs).length : Int)) = true := decide_eq_true (by rw [List.length_cons]; omega)
      have c3n : (0 < (z :: zs).length) = True := eq_true (by rw [List.length_cons]; omega)
      have c3d : decide (0 < (z :: zs).length) = true := decide_eq_true (by rw [List.length_cons]; omega)
      have c3e : ((0 : Int) < (zs.length : Int) + 1) = True := eq_true (by omega)
      have c3f : (0 < zs.length + 1) = True := eq_true (by omega)
      clear c3
      obtain ⟨ad, ea, hx0, hx1⟩ := at_T42 HC.out 0 (by omega) (by simp)
      cases ea
      have e_ : ad.add (Int.toNat 0 * 2) = ad := by rw [show ((0 : Int)).toNat = 0 from rfl, show 0 * 2 = 0 from rfl, Addr.add_zero']
      rw [e_] at hx0 hx1
      clear e_ hx1
      replace hx0 := (HA.out.fr.pa.below.cell (World.block_lt_of_cell? w0 _ hx0)).trans hx0
      rw [show rd_T42 (z :: zs) 0 = z from rfl] at hx0
      by_cases cx : z.f0 = 4
      ·rw [if_pos (show isNextF (z :: zs) 4 = true from beq_iff_eq.2 cx)] at H
       have b4 : (z.f0 == 4) = true := beq_iff_eq.2 cx
       have b5 : (z.f0 != 4) = false := bne_eq_false_iff_eq.2 cx
       clear cx
       obtain ⟨rfl, rfl, rfl⟩ : kids1 = kids ∧ (z :: zs) = l' ∧ false = b' := by simpa using H
       clear H
       have ho := HO.out
       rw [openEnd, if_neg Bool.false_ne_true] at ho
       clear HO
       by_cases c2 : kids1.length = 0
       ·rw [if_pos c2] at ho
        have e1 : _ = y := congrArg Prod.fst ho; have e2 : _ = l3 := congrArg (fun z => z.2.1) ho; have e3 : _ = b3 := congrArg (fun z => z.2.2) ho; subst e1 e2 e3
        have c2b : ((kids1.length : Int) == 0) = true := beq_iff_eq.2 (by omega)
        clear c2 ho
        have HA4 := Aside0.mk (HA.out.set1 true)
        obtain ⟨hu0, hu1, hu2, hu3, hu4⟩ := HA4.out.vcells
        have hu5 := HA4.out.vcell
        obtain ⟨hq0, hq1, hq2, hq3, hq4, hq5⟩ := HA4.out.fr.cell
        have hz0 := HA4.out.fr.thaw 0
        have hz1 := HA4.out.fr.thaw 1
        have hz2 := HA4.out.fr.thaw 2
        have hz3 := HA4.out.fr.thaw 3
        have hz4 := HA4.out.fr.thaw 4
        have hz5 := HA4.out.fr.thaw 5
        go_wp2
        exact bodyPost_ret (v := .agg #[.int .i64 11, .int .i64 0, .string ⟨#[]⟩, .string ⟨#[]⟩, .slice none 0 0, .slice A5 kids1.length c5]) (by obtain ⟨r0, r1, r2, r3, r4, r5⟩ := six_cells (AllQ.fr HA4.out).blk (.int .i64 11) (.int .i64 0) (.string ⟨#[]⟩) (.string ⟨#[]⟩) (.slice none 0 0) (.slice A5 kids1.length c5); simp [results, Tryz.results23, go_sem, r0, r1, r2, r3, r4, r5]) rfl ((AllQ.fr HA4.out).post (⟨11, 0, ⟨#[]⟩, ⟨#[]⟩, [], kids1⟩ : Key) (A4 := none) (c4 := 0) (Kd.R_nil _ _ _ _ _) (Kd.R_lower (AllQ.row HA4.out) (by have := HA4.out.hV; omega)) _ _ _ _ _ _)
       ·rw [if_neg c2] at ho
        have c2b : ((kids1.length : Int) == 0) = false := beq_eq_false_iff_ne.2 (by omega)
        clear c2
        have hfld : ∀ W : World, (Instr.field 42 (.agg #[.int .i64 z.f0, .string z.f1]) 0).run Tryz.prog W = .ok (.int .i64 z.f0) W := fun W => tok_field z.f0 z.f1 W
        have HM := Aside0.mk (show nextR (z :: zs) false = (z, zs, false) from rfl)
        have ho' : ((⟨11, 0, ⟨#[]⟩, ⟨#[]⟩, [], kids1⟩ : Key), zs, z.f0 != 4) = (y, l3, b3) := ho
        rw [b5] at ho'
        have e1 : _ = y := congrArg Prod.fst ho'; have e2 : _ = l3 := congrArg (fun z => z.2.1) ho'; have e3 : _ = b3 := congrArg (fun z => z.2.2) ho'; subst e1 e2 e3
        clear ho ho'
        go_wp2_with (go_at_call 38; (with_reducible refine (rnext_calls HA.out.fr.pa HM.out).mono ?_); rintro e w3 ⟨rfl, h2, h3⟩; have HA3 := Aside0.mk (AllQ.step HA.out h2 h3); clear h2 h3; obtain ⟨Ag3, cg3, hg30, hg31, _, _⟩ := HA3.out.gcells; have hgf3 := HA3.out.fr.pa.thaw 1; have HA4 := Aside0.mk (AllQ.set1 HA3.out false); obtain ⟨hu0, hu1, hu2, hu3, hu4⟩ := HA4.out.vcells; have hu5 := HA4.out.vcell; obtain ⟨hq0, hq1, hq2, hq3, hq4, hq5⟩ := HA4.out.fr.cell; have hz0 := HA4.out.fr.thaw 0; have hz1 := HA4.out.fr.thaw 1; have hz2 := HA4.out.fr.thaw 2; have hz3 := HA4.out.fr.thaw 3; have hz4 := HA4.out.fr.thaw 4; have hz5 := HA4.out.fr.thaw 5)
        exact bodyPost_ret (v := .agg #[.int .i64 11, .int .i64 0, .string ⟨#[]⟩, .string ⟨#[]⟩, .slice none 0 0, .slice A5 kids1.length c5]) (by obtain ⟨r0, r1, r2, r3, r4, r5⟩ := six_cells (AllQ.fr HA4.out).blk (.int .i64 11) (.int .i64 0) (.string ⟨#[]⟩) (.string ⟨#[]⟩) (.slice none 0 0) (.slice A5 kids1.length c5); simp [results, Tryz.results23, go_sem, r0, r1, r2, r3, r4, r5]) rfl ((AllQ.fr HA4.out).post (⟨11, 0, ⟨#[]⟩, ⟨#[]⟩, [], kids1⟩ : Key) (A4 := none) (c4 := 0) (Kd.R_nil _ _ _ _ _) (Kd.R_lower (AllQ.row HA4.out) (by have := HA4.out.hV; omega)) _ _ _ _ _ _)
      ·rw [if_neg (show ¬ isNextF (z :: zs) 4 = true from fun h => cx (beq_iff_eq.1 h))] at H
       have b4 : (z.f0 == 4) = false := beq_eq_false_iff_ne.2 cx
       have b5 : (z.f0 != 4) = true := bne_iff_ne.2 cx
       clear cx
       obtain ⟨⟨x, l4, b4'⟩, hk1, H⟩ := Option.bind_eq_some_iff.1 H
       have HK1 := Aside0.mk hk1
       have H' := Aside0.mk H
       clear hk1 H
       have HLE := Aside0.mk (show (kids1.length + 1) * 96 ≤ 140737488355328 by have := HL.out; have := HN.out; omega)
       go_wp2
       refine start_ (n := 10) (S := fun w' => w'.cell? ⟨w1.heap.size + 1, 5, none⟩ = some (.slice A5 kids1.length c5)) (ds := [7, 9]) #[false, false, false, false, false, false, false, false, false, false] (by kernel_rfl) rfl rfl ((AllQ.vcell (by repeat (first | exact HA.out | apply AllQ.drewN | apply AllQ.drew | apply AllQ.alloc)))) (fun hHeld => ?_)
       refine pure_ (i := 0) (N := some 61) (v := ?_) (a' := ?_) #[true, false, false, false, false, false, false, false, false, false] rfl rfl (by kernel_rfl) (fun _ _ _ h => h) (Or.inl ⟨by rfl, ?_⟩) ?_ ?_
       rotate_left
       ·intro w'
        go_simp
        with_reducible rfl
       rotate_left
       ·simp only [Act.put, List.setIfInBounds_toArray, List.set_cons_zero, List.set_cons_succ, i64_w, i32_w]
        rfl
       refine pure_ (i := 2) (N := some 63) (v := ?_) (a' := ?_) #[true, false, true, false, false, false, false, false, false, false] rfl rfl (by kernel_rfl) (fun _ _ _ h => h) (Or.inl ⟨by rfl, ?_⟩) ?_ ?_
       rotate_left
       ·intro w'
        go_simp
        with_reducible rfl
       rotate_left
       ·simp only [Act.put, List.setIfInBounds_toArray, List.set_cons_zero, List.set_cons_succ, i64_w, i32_w]
        rfl
       refine pure_ (i := 3) (N := some 64) (v := ?_) (a' := ?_) #[true, false, true, true, false, false, false, false, false, false] rfl rfl (by kernel_rfl) (fun _ _ _ h => h) (Or.inl ⟨by rfl, ?_⟩) ?_ ?_
       rotate_left
       ·intro w'
        go_simp
        with_reducible rfl
       rotate_left
       ·simp only [Act.put, List.setIfInBounds_toArray, List.set_cons_zero, List.set_cons_succ, i64_w, i32_w]
        rfl
       refine pure_ (i := 4) (N := some 65) (v := ?_) (a' := ?_) #[true, false, true, true, true, false, false, false, false, false] rfl rfl (by kernel_rfl) (fun _ _ _ h => h) (Or.inl ⟨by rfl, ?_⟩) ?_ ?_
       rotate_left
       ·intro w'
        go_simp
        with_reducible rfl
       rotate_left
       ·simp only [Act.put, List.setIfInBounds_toArray, List.set_cons_zero, List.set_cons_succ, i64_w, i32_w]
        rfl
       refine take_ (i := 1) (N := some 62) (v := ?_) (a' := ?_) #[true, true, true, true, true, false, false, false, false, false] rfl rfl (by kernel_rfl) (fun _ _ _ h => h) (Or.inl ⟨by rfl, ?_⟩) hHeld ?_ ?_
       rotate_left
       ·intro w' s0
        go_simp
        with_reducible rfl
       rotate_left
       ·simp only [Act.put, List.setIfInBounds_toArray, List.set_cons_zero, List.set_cons_succ, i64_w, i32_w]
        rfl
       refine one_ (i := 5) (N := some 66) #[true, true, true, true, true, true, false, false, false, false] rfl rfl (by kernel_rfl) (by decide) (fun K hK => ?_)
       refine goes_ Tryz.func23 (by kernel_rfl) rfl #[.pointer (some ⟨g, 0, none⟩), .int .i64 (wrap64 (d + 1))] (by rfl) rfl rfl (by simp only [List.map_toArray, List.map_cons, List.map_nil]; rfl) ?_
       with_reducible refine (KqC.go HK.out (AllQ.fr (by repeat (first | exact HA.out | apply AllQ.drewN | apply AllQ.drew | apply AllQ.alloc))).pa HK1.out).mono ?_
       rintro e w8 ⟨A4, c4, B5, e5, rfl, hr4, hr5, h2, h3⟩
       refine ⟨_, rfl, ?_⟩
       have HE4 := Aside0.mk (Kd.R_lower (base' := w1.heap.size + 1 + 1) (Kd.R_new' (u := (.slice A5 kids1.length c5 : Value)) hr4 (AllQ.own (by repeat (first | exact HA.out | apply AllQ.drewN | apply AllQ.drew | apply AllQ.alloc)))) (AllQ.size (by repeat (first | exact HA.out | apply AllQ.drewN | apply AllQ.drew | apply AllQ.alloc))))
       have HE5 := Aside0.mk (Kd.R_lower (base' := w1.heap.size + 1 + 1) (Kd.R_new' (u := (.slice A5 kids1.length c5 : Value)) hr5 (AllQ.own (by repeat (first | exact HA.out | apply AllQ.drewN | apply AllQ.drew | apply AllQ.alloc)))) (AllQ.size (by repeat (first | exact HA.out | apply AllQ.drewN | apply AllQ.drew | apply AllQ.alloc))))
       have HA8 := Aside0.mk (AllQ.step (by repeat (first | exact HA.out | apply AllQ.drewN | apply AllQ.drew | apply AllQ.alloc)) h2 h3)
       clear hr4 hr5 h2 h3 HA HK1
       refine hK.out _ _ ((AllQ.vcell (by repeat (first | exact HA8.out | apply AllQ.drewN | apply AllQ.drew | apply AllQ.alloc)))) (fun hHeld => ?_)
       clear hK K
       refine norm_ (a' := ?_) ?_ ?_
       rotate_left
       ·show Act.put _ (some 66) _ = _
        simp only [Act.put, List.setIfInBounds_toArray, List.set_cons_zero, List.set_cons_succ, i64_w, i32_w]
        rfl
       refine one_ (i := 6) (N := some 67) #[true, true, true, true, true, true, true, false, false, false] rfl rfl (by kernel_rfl) (by decide) (fun K hK => ?_)
       refine value_ (w1 := ?_) (v := ?_) (by rfl) rfl ?_ ?_
       rotate_left 2
       ·go_simp
        constructor
        ·rfl
        ·rfl
       refine hK.out _ _ ((AllQ.vcell (by repeat (first | exact HA8.out | apply AllQ.drewN | apply AllQ.drew | apply AllQ.alloc)))) (fun hHeld => ?_)
       clear hK K
       refine norm_ (a' := ?_) ?_ ?_
       rotate_left
       ·show Act.put _ (some 67) _ = _
        simp only [Act.put, List.setIfInBounds_toArray, List.set_cons_zero, List.set_cons_succ, i64_w, i32_w]
        rfl
       refine last_ (i := 7) (N := some 68) #[true, true, true, true, true, true, true, true, false, false] rfl rfl (by kernel_rfl) (by decide) (fun K hK => ?_)
       (repeat first | rw [drew_alloc] | rw [drewN_alloc])
       refine Kd.R_append_step kKey (w0 := w8) (w1.heap.size + 1 + 1) ?_ (.tmp 62) (.tmp 67) 25 27 (.agg #[.int .i64 0, .int .i64 0, .string ⟨#[]⟩, .string ⟨#[]⟩, .slice none 0 0, .slice none 0 0]) 96 ?_ Tryz.underlying25 infoKey rfl (by decide) (by omega) (.slice A5 kids1.length c5) kids1 x [.int .i64 x.f0, .int .i64 x.f1, .string x.f2, .string x.f3, .slice A4 x.f4.length c4, .slice B5 x.f5.length e5] (fun _ => True) (fun k => True ∧ some k ≠ (.slice A5 kids1.length c5 : Value).ownBlock) ?_ ?_ ?_ (fun _ hk => hk) ?_ ?_ ?_ ?_ ?_ ?_
       ·rfl
       ·rfl
       ·rfl
       ·first | rfl | (show Value.slice _ _ _ = Value.slice _ _ _; simp)
       ·exact k27_mkM _ _ _ x HE4.out HE5.out
       ·exact fun _ _ => trivial
       ·exact AllQ.row (by repeat (first | exact HA8.out | apply AllQ.drewN | apply AllQ.drew | apply AllQ.alloc))
       ·exact Below.refl _ _
       ·exact AllQ.size (by repeat (first | exact HA8.out | apply AllQ.drewN | apply AllQ.drew | apply AllQ.alloc))
       ·have := HLE.out; omega
       intro v1 w9 hr hb hg hat
       obtain ⟨n1_, A1_, c1_, ev1_⟩ : ∃ n A1 c1, v1 = .slice A1 n c1 := by obtain ⟨A1, c1, e⟩ := Kd.R_slice hr; exact ⟨_, A1, c1, e⟩
       subst ev1_
       have HP := Aside0.mk (AllQ.push (by repeat (first | exact HA8.out | apply AllQ.drewN | apply AllQ.drew | apply AllQ.alloc)) hr hb)
       have HV := Aside0.mk ((hb.block (w1.heap.size + 1) (by omega)).trans (AllQ.vblk (by repeat (first | exact HA8.out | apply AllQ.drewN | apply AllQ.drew | apply AllQ.alloc))))
       clear hr hb hg hat
       refine hK.out _ _ ?_
       clear hK K
       refine norm_ (a' := ?_) ?_ ?_
       rotate_left
       ·show Act.put _ (some 68) _ = _
        simp only [Act.put, List.setIfInBounds_toArray, List.set_cons_zero, List.set_cons_succ, i64_w, i32_w]
        rfl
       refine pure_ (i := 8) (N := some 69) (v := ?_) (a' := ?_) #[true, true, true, true, true, true, true, true, true, false] rfl rfl (by kernel_rfl) (fun _ _ _ h => h) (Or.inl ⟨by rfl, ?_⟩) ?_ ?_
       rotate_left
       ·intro w'
        go_simp
        with_reducible rfl
       rotate_left
       ·simp only [Act.put, List.setIfInBounds_toArray, List.set_cons_zero, List.set_cons_succ, i64_w, i32_w]
        rfl
       refine last_ (i := 9) (N := none) #[true, true, true, true, true, true, true, true, true, true] rfl rfl (by kernel_rfl) (by decide) (fun K hK => ?_)
       have hb0_ := blk_cell HV.out 5
       have hb1_ := blk_frozen HV.out 5
       refine skip_ (w1 := ?_) (by rfl) rfl ?_ ?_
       rotate_left
       ·go_simp
        rfl
       refine hK.out _ _ ?_
       clear hK K
       refine done_ (by kernel_rfl) ?_
       go_wp2
       go_roundg k1
       case measure => have := HL.out; omega
       case rel => exact ⟨kids1 ++ [x], l4, b4', _, H', ⟨by rw [List.length_append, List.length_singleton]; have := HL.out; omega⟩, HP⟩
end Go.Proofs.YtejhfghijgbckaaGreatDoor
namespace Go.Proofs.YtejhfghijgbckaaGreatDoor
open Go.RowKit Go.Proofs.YtejhfghijgbckaaGreatDoor.P Go.Proofs.YtejhfghijgbckaaGreatDoorW.PrintWords Go.Proofs.YtejhfghijgbckaaGreatDoorW.PrintLast Go.Proofs.YtejhfghijgbckaaGreatDoorW.PrintMore
set_option linter.unusedVariables false
set_option linter.unusedSimpArgs false
/-! ### More rounds, the same answer -/
theorem allR_mono {K K' : List Tok → Bool → Option KRes} (h : ∀ l b, LeO (K l b) (K' l b)) : ∀ (n m : Nat) (kids : List Key) (l : List Tok) (b : Bool), n ≤ m → LeO (allR K n kids l b) (allR K' m kids l b)
 | 0, _, _, _, _, _ => fun _ hr => by simp [allR] at hr
 | n + 1, 0, _, _, _, hnm => by omega
 | n + 1, m + 1, kids, l, b, hnm => by
  have ih := allR_mono h n m
  unfold allR
  refine LeO.ite (LeO.refl _) (LeO.ite (LeO.refl _) (LeO.ite (LeO.refl _) (LeO.bind (h _ _) fun _ => ih _ _ _ (by omega))))
def allP (K : List Tok → Bool → Option KRes) : Nat → List Key → List Tok → Bool → Option (List Key × List Tok × Bool)
 | 0, _, _, _ => none
 | n + 1, kids, l, bad =>
  if l.length = 0 then some (kids, l, bad)
  else if bad = true then some (kids, l, bad)
  else (K l bad).bind fun r => allP K n (kids ++ [r.1]) r.2.1 r.2.2
theorem allP_mono {K K' : List Tok → Bool → Option KRes} (h : ∀ l b, LeO (K l b) (K' l b)) : ∀ (n m : Nat) (kids : List Key) (l : List Tok) (b : Bool), n ≤ m → LeO (allP K n kids l b) (allP K' m kids l b)
 | 0, _, _, _, _, _ => fun _ hr => by simp [allP] at hr
 | n + 1, 0, _, _, _, hnm => by omega
 | n + 1, m + 1, kids, l, b, hnm => by
  have ih := allP_mono h n m
  unfold allP
  refine LeO.ite (LeO.refl _) (LeO.ite (LeO.refl _) (LeO.bind (h _ _) fun _ => ih _ _ _ (by omega)))
theorem wordR_mono {K K' : List Tok → Bool → Option KRes} (h : ∀ l b, LeO (K l b) (K' l b)) (s : ByteArray) (l : List Tok) (b : Bool) : LeO (wordR K s l b) (wordR K' s l b) := by
 unfold wordR
 repeat' first
   | (with_reducible exact h _ _)
   | (with_reducible exact LeO.refl _)
   | (with_reducible refine LeO.ite ?_ ?_)
   | (with_reducible refine LeO.bind ?_ (fun _ => ?_))
theorem keyR_mono1 : ∀ (k : Nat) (d : Int) (l : List Tok) (b : Bool), LeO (keyR k d l b) (keyR (k + 1) d l b)
 | 0, _, _, _ => fun _ hr => by simp [keyR] at hr
 | k + 1, d, l, b => by
  have ih := keyR_mono1 k (d + 1)
  unfold keyR
  refine LeO.ite (LeO.refl _) (LeO.ite (LeO.refl _) (LeO.ite (wordR_mono ih _ _ _) (LeO.ite (LeO.bind (allR_mono ih _ _ _ _ _ (by omega)) fun _ => LeO.refl _) (LeO.refl _))))
theorem keyR_mono : ∀ (j k : Nat) (d : Int) (l : List Tok) (b : Bool), LeO (keyR k d l b) (keyR (k + j) d l b)
 | 0, _, _, _, _ => LeO.refl _
 | j + 1, k, d, l, b => (keyR_mono j k d l b).trans (keyR_mono1 (k + j) d l b)
theorem keyR_calls (w0 : World) (g : Nat) : ∀ (k : Nat) (d : Int), 0 ≤ d → d + k ≤ 1000000 → KqC w0 g (keyR k d) d
 | 0, _, _, _ => fun _ _ _ _ _ _ _ h => by simp [keyR] at h
 | k + 1, d, hd, hk => by
  have ih := keyR_calls w0 g k (d + 1) (by omega) (by omega)
  intro w l bad x l' b' hI h
  unfold keyR at h
  obtain ⟨t, l1, b1, hn⟩ : ∃ t l1 b1, nextR l bad = (t, l1, b1) := ⟨_, _, _, rfl⟩
  rw [hn] at h
  dsimp only at h
  by_cases c1 : b1 = true
  ·rw [if_pos c1] at h
   have e1 : _ = x := congrArg Prod.fst (Option.some.inj h); have e2 : _ = l' := congrArg (fun z => z.2.1) (Option.some.inj h); have e3 : _ = b' := congrArg (fun z => z.2.2) (Option.some.inj h); subst e1 e2 e3
   exact rkey_bad hI hn c1
  rw [if_neg c1] at h
  obtain rfl : b1 = false := Bool.eq_false_iff.mpr c1
  by_cases c4 : d > 4
  ·rw [if_pos c4] at h
   have e1 : _ = x := congrArg Prod.fst (Option.some.inj h); have e2 : _ = l' := congrArg (fun z => z.2.1) (Option.some.inj h); have e3 : _ = b' := congrArg (fun z => z.2.2) (Option.some.inj h); subst e1 e2 e3
   exact rkey_deep hI hn rfl c4
  rw [if_neg c4] at h
  by_cases k1 : t.f0 = 1
  ·rw [if_pos k1] at h
   exact rkey_word hI hn rfl c4 k1 (wordR_calls (by omega) ih) h
  rw [if_neg k1] at h
  by_cases k3 : t.f0 = 3
  ·rw [if_pos k3] at h
   by_cases hd4 : 4 ≤ d
   ·rw [if_pos hd4] at h
    have ha : ∀ n, allR (keyR k (d + 1)) (n + 1) [] l1 true = some ([], l1, true) := fun n => rfl
    cases k with
    | zero => simp [allR] at h
    | succ k =>
     rw [ha, Option.bind_some, if_pos rfl] at h
     have e1 : _ = x := congrArg Prod.fst (Option.some.inj h); have e2 : _ = l' := congrArg (fun z => z.2.1) (Option.some.inj h); have e3 : _ = b' := congrArg (fun z => z.2.2) (Option.some.inj h); subst e1 e2 e3
     exact rkey_openT hI hn c4 hd k3 hd4
   ·rw [if_neg hd4] at h
    obtain ⟨⟨kids, l2, b2⟩, ha, h⟩ := Option.bind_eq_some_iff.1 h
    refine rkey_openF hI hn c4 hd k3 hd4 ih (n := k) (by omega) ha (Option.some.inj ?_)
    rw [← h]
    unfold openEnd
    by_cases e1 : b2 = true
    ·rw [if_pos e1, if_pos e1]
    ·rw [if_neg e1, if_neg e1]
     by_cases e2 : kids.length = 0
     ·rw [if_pos e2, if_pos e2]
     ·rw [if_neg e2, if_neg e2]
  rw [if_neg k3] at h
  have e1 : _ = x := congrArg Prod.fst (Option.some.inj h); have e2 : _ = l' := congrArg (fun z => z.2.1) (Option.some.inj h); have e3 : _ = b' := congrArg (fun z => z.2.2) (Option.some.inj h); subst e1 e2 e3
  exact rkey_none hI hn rfl c4 k1 k3
/-! ### Parse -/
structure ParQ (w wr : World) (l : List Tok) (bad : Bool) (kids : List Key) (v5 : Value) : Prop where
 pa : RdI w wr (w.heap.size + 1) l bad
 blk : wr.heap[w.heap.size]? = some (.cells zKey 27 (0, 0))
 vblk : wr.heap[w.heap.size + 2]? = some (.cells (aKey v5) 27 (0, 0))
 row : Kd.R kKey 27 wr (w.heap.size + 2 + 1) (fun _ => True) v5 kids
section
variable {w wr w2 : World} {l l2 : List Tok} {bad b2 : Bool} {kids : List Key} {v5 : Value}
theorem ParQ.size (h : ParQ w wr l bad kids v5) : w.heap.size + 2 + 1 ≤ wr.heap.size := by have := blk_lt h.vblk; omega
theorem ParQ.step (h : ParQ w wr l bad kids v5) (hp : RdI w w2 (w.heap.size + 1) l2 b2) (hk : KeepBut wr w2 (w.heap.size + 1) none) : ParQ w w2 l2 b2 kids v5 :=
 ⟨hp, (hk.2 _ (by have := h.size; omega) (by omega) (by simp)).trans h.blk, (hk.2 _ (by have := h.size; omega) (by omega) (by simp)).trans h.vblk, row_keep h.row hk (by omega)⟩
theorem ParQ.below (h : ParQ w wr l bad kids v5) (hb : Below wr.heap.size wr w2) : ParQ w w2 l bad kids v5 := h.step (h.pa.below_ hb) (KeepBut.of_below hb _ none)
theorem ParQ.drewN (h : ParQ w wr l bad kids v5) (n : Nat) : ParQ w (wr.drewN n) l bad kids v5 := h.below (pw_below_drewN (Below.refl _ _) n)
theorem ParQ.drew (h : ParQ w wr l bad kids v5) : ParQ w wr.drew l bad kids v5 := h.below (below_drew (Below.refl _ _))
theorem ParQ.alloc (h : ParQ w wr l bad kids v5) (o : Obj) : ParQ w (wr.alloc o) l bad kids v5 := h.below (below_alloc (Below.refl _ _) o)
theorem ParQ.vcell (h : ParQ w wr l bad kids v5) : wr.cell? ⟨w.heap.size + 2, 5, none⟩ = some v5 := blk_cell h.vblk 5
theorem ParQ.vcells (h : ParQ w wr l bad kids v5) : wr.cell? ⟨w.heap.size + 2, 0, none⟩ = some (.int .i64 11) ∧ wr.cell? ⟨w.heap.size + 2, 1, none⟩ = some (.int .i64 0) ∧ wr.cell? ⟨w.heap.size + 2, 2, none⟩ = some (.string ⟨#[]⟩) ∧ wr.cell? ⟨w.heap.size + 2, 3, none⟩ = some (.string ⟨#[]⟩) ∧ wr.cell? ⟨w.heap.size + 2, 4, none⟩ = some (.slice none 0 0) :=
 ⟨blk_cell h.vblk 0, blk_cell h.vblk 1, blk_cell h.vblk 2, blk_cell h.vblk 3, blk_cell h.vblk 4⟩
theorem ParQ.rcells (h : ParQ w wr l bad kids v5) : wr.cell? ⟨w.heap.size, 0, none⟩ = some (.int .i64 0) ∧ wr.cell? ⟨w.heap.size, 1, none⟩ = some (.int .i64 0) ∧ wr.cell? ⟨w.heap.size, 2, none⟩ = some (.string ⟨#[]⟩) ∧ wr.cell? ⟨w.heap.size, 3, none⟩ = some (.string ⟨#[]⟩) ∧ wr.cell? ⟨w.heap.size, 4, none⟩ = some (.slice none 0 0) ∧ wr.cell? ⟨w.heap.size, 5, none⟩ = some (.slice none 0 0) :=
 ⟨blk_cell h.blk 0, blk_cell h.blk 1, blk_cell h.blk 2, blk_cell h.blk 3, blk_cell h.blk 4, blk_cell h.blk 5⟩
theorem ParQ.thaw (h : ParQ w wr l bad kids v5) (j : Nat) : wr.frozen? ⟨w.heap.size, j, none⟩ = false := blk_frozen h.blk j
theorem ParQ.gcells (h : ParQ w wr l bad kids v5) : ∃ A c, wr.cell? ⟨w.heap.size + 1, 0, none⟩ = some (.slice A l.length c) ∧ wr.cell? ⟨w.heap.size + 1, 1, none⟩ = some (.bool bad) := by
 obtain ⟨A, c, hb, hc, hC⟩ := h.pa.blk
 exact ⟨A, c, blk_cell hb 0, blk_cell hb 1⟩
theorem ParQ.own (h : ParQ w wr l bad kids v5) : ∀ k, v5.ownBlock = some k → k < wr.heap.size := fun k hk => by
 obtain ⟨_, ho⟩ := Kd.R_own h.row
 exact own_lt ho k hk
theorem ParQ.start {A : Option Addr} {c : Nat} (hr : Kd.C kTok w A l.length l) (hc : l.length ≤ c) :
  ParQ w (((w.alloc (.cells zKey 27)).alloc (.cells #[.slice A l.length c, .bool false] 60)).alloc (.cells (aKey (.slice none 0 0)) 27)) l false [] (.slice none 0 0) := by
 have h0 := blk_new w (.cells zKey 27)
 have h1 := blk_new (w.alloc (.cells zKey 27)) (.cells #[.slice A l.length c, .bool false] 60)
 have h2 := blk_new ((w.alloc (.cells zKey 27)).alloc (.cells #[.slice A l.length c, .bool false] 60)) (.cells (aKey (.slice none 0 0)) 27)
 have b1 := below_alloc (Below.refl (w.alloc (.cells zKey 27)).heap.size (w.alloc (.cells zKey 27))) (.cells #[.slice A l.length c, .bool false] 60)
 have b2 := below_alloc (Below.refl ((w.alloc (.cells zKey 27)).alloc (.cells #[.slice A l.length c, .bool false] 60)).heap.size ((w.alloc (.cells zKey 27)).alloc (.cells #[.slice A l.length c, .bool false] 60))) (.cells (aKey (.slice none 0 0)) 27)
 simp only [alloc_size_] at h1 h2 b1 b2
 exact ⟨⟨below_alloc (below_alloc (below_alloc (Below.refl _ _) _) _) _, by omega, A, c, (b2.block _ (by omega)).trans h1, hc, hr⟩, (b2.block _ (by omega)).trans ((b1.block _ (by omega)).trans h0), h2, Kd.R_nil _ _ _ _ _⟩
theorem ParQ.push (h : ParQ w wr l bad kids v5) {x : Key} {v1 : Value} {w1 : World} (hr : Kd.R kKey 27 w1 (w.heap.size + 2 + 1) (fun _ => True) v1 (kids ++ [x])) (hb : Below (w.heap.size + 2 + 1) wr w1) : ParQ w (w1.setCell ⟨w.heap.size + 2, 5, none⟩ v1) l bad (kids ++ [x]) v1 := by
 have hv : w1.heap[w.heap.size + 2]? = some (.cells (aKey v5) 27 (0, 0)) := (hb.block _ (by omega)).trans h.vblk
 have hs := hb.size
 refine ⟨(h.pa.belowB hb (by omega)).far (by omega) _ _, ?_, ?_, ?_⟩
 ·exact (Below.heap_setCell w1 ⟨w.heap.size + 2, 5, none⟩ v1 w.heap.size (by show w.heap.size ≠ w.heap.size + 2; omega)).trans ((hb.block _ (by omega)).trans h.blk)
 ·exact blk_set hv 5 v1
 ·exact Kd.R_mono (Kd.R_far (p := ⟨w.heap.size + 2, 5, none⟩) (ok := fun k => w.heap.size + 2 + 1 ≤ k) (Kd.R_mono (Kd.R_bound hr) (fun k hk => hk.2.1)) (fun k hk => by show k ≠ w.heap.size + 2; omega) _) (fun _ _ => trivial)
theorem ParQ.post0 (h : ParQ w wr l bad kids v5) {A5 : Option Addr} {c5 : Nat} {ks : List Key}
  (h5 : Kd.R kKey 27 wr (w.heap.size + 2 + 1) (fun _ => True) (.slice A5 ks.length c5) ks) (a0 a1 a2 a3 a4 a5 : Value) :
  Kd.R kKey 27 ((((((wr.setCell ⟨w.heap.size, 0, none⟩ a0).setCell ⟨w.heap.size, 1, none⟩ a1).setCell ⟨w.heap.size, 2, none⟩ a2).setCell ⟨w.heap.size, 3, none⟩ a3).setCell ⟨w.heap.size, 4, none⟩ a4).setCell ⟨w.heap.size, 5, none⟩ a5) w.heap.size (fun _ => True) (.slice A5 ks.length c5) ks ∧
  Below w.heap.size w ((((((wr.setCell ⟨w.heap.size, 0, none⟩ a0).setCell ⟨w.heap.size, 1, none⟩ a1).setCell ⟨w.heap.size, 2, none⟩ a2).setCell ⟨w.heap.size, 3, none⟩ a3).setCell ⟨w.heap.size, 4, none⟩ a4).setCell ⟨w.heap.size, 5, none⟩ a5) := by
 have h0 : Kd.R kKey 27 wr w.heap.size (fun k => k ≠ w.heap.size) (.slice A5 ks.length c5) ks := Kd.R_lower (Kd.R_mono (Kd.R_bound h5) (fun k hk => by have := hk.2.1; omega)) (by omega)
 have s_ : ∀ {W : World} (j : Nat) (u : Value), Kd.R kKey 27 W w.heap.size (fun k => k ≠ w.heap.size) (.slice A5 ks.length c5) ks → Kd.R kKey 27 (W.setCell ⟨w.heap.size, j, none⟩ u) w.heap.size (fun k => k ≠ w.heap.size) (.slice A5 ks.length c5) ks := fun j u hW => Kd.R_far (p := ⟨w.heap.size, j, none⟩) hW (fun k hk => hk) u
 have hl : w.heap.size ≤ w.heap.size := Nat.le_refl _
 exact ⟨Kd.R_mono (s_ 5 _ (s_ 4 _ (s_ 3 _ (s_ 2 _ (s_ 1 _ (s_ 0 _ h0)))))) (fun _ _ => trivial), below_set (below_set (below_set (below_set (below_set (below_set h.pa.below hl) hl) hl) hl) hl) hl⟩
end
set_option maxHeartbeats 8000000 in
set_option maxRecDepth 100000 in
theorem rparse_walk {w : World} {A0 : Option Addr} {c0 : Nat} {l0 : List Tok} {K : List Tok → Bool → Option KRes} {n : Nat} (hK : ∀ g, KqC w g K 0) (hn : n ≤ 1000000) (hr0 : Kd.C kTok w A0 l0.length l0) (hc0 : l0.length ≤ c0) {kids : List Key} {l' : List Tok} {b' : Bool}
  (h : allP K n [] l0 false = some (kids, l', b')) {Q : Ending → World → Prop} (hQ1 : b' = true ∨ kids.length = 0 → ∀ e u, PrsPost w 0 0 ⟨#[]⟩ ⟨#[]⟩ [] [] 3 e u → Q e u) (hQ2 : b' = false → ¬ kids.length = 0 → ∀ e u, PrsPost w 11 0 ⟨#[]⟩ ⟨#[]⟩ [] kids 0 e u → Q e u) :
  Calls Tryz.prog 12 #[.slice A0 l0.length c0] w Q := by
 have HQ1 := Aside0.mk hQ1
 have HQ2 := Aside0.mk hQ2
 clear hQ1 hQ2
 have HS := Aside0.mk (ParQ.start hr0 hc0)
 have HK := Aside0.mk hK
 have HN := Aside0.mk hn
 have H' := Aside0.mk h
 clear hr0 hc0 hK hn h
 go_enter Tryz.func12, Tryz.ntmps12
 go_wp2
 go_loopg [] n (fun kq wq => ∃ (kids1 : List Key) (l2 : List Tok) (b1 : Bool) (v5 : Value), Aside0 (allP K kq kids1 l2 b1 = some (kids, l', b')) ∧ Aside0 (kids1.length + kq ≤ n) ∧ Aside0 (ParQ w wq l2 b1 kids1 v5))
 case atStart => exact ⟨[], l0, false, .slice none 0 0, H', ⟨by simp⟩, HS⟩
 case round =>
  clear H' HS
  obtain ⟨kids1, l2, b1, v5, HR, HL, HA⟩ := hrel
  obtain ⟨A5, c5, rfl⟩ := Kd.R_slice HA.out.row
  cases gk with
  | zero => exact absurd HR.out (by simp [allP])
  | succ k1 =>
   have H := HR.out
   clear HR
   simp only [allP] at H
   obtain ⟨Ag, cg, hg0, hg1⟩ := HA.out.gcells
   obtain ⟨hv0, hv1, hv2, hv3, hv4⟩ := HA.out.vcells
   have hv5 := HA.out.vcell
   by_cases c3 : l2.length = 0
   ·rw [if_pos c3] at H
    obtain rfl := List.eq_nil_of_length_eq_zero c3
    clear c3
    have c3b : decide ((0 : Int) < (([] : List Tok).length : Int)) = false := rfl
    obtain ⟨rfl, rfl, rfl⟩ : kids1 = kids ∧ [] = l' ∧ b1 = b' := by simpa using H
    clear H
    by_cases c1 : b1 = true
    ·subst c1
     obtain ⟨hq0, hq1, hq2, hq3, hq4, hq5⟩ := HA.out.rcells
     have hz0 := HA.out.thaw 0
     have hz1 := HA.out.thaw 1
     have hz2 := HA.out.thaw 2
     have hz3 := HA.out.thaw 3
     have hz4 := HA.out.thaw 4
     have hz5 := HA.out.thaw 5
     go_wp2
     exact bodyPost_ret (v := .tuple #[.agg #[.int .i64 0, .int .i64 0, .string ⟨#[]⟩, .string ⟨#[]⟩, .slice none 0 0, .slice none 0 0], .int .i64 3]) (by obtain ⟨r0, r1, r2, r3, r4, r5⟩ := six_cells HA.out.blk (.int .i64 0) (.int .i64 0) (.string ⟨#[]⟩) (.string ⟨#[]⟩) (.slice none 0 0) (.slice none 0 0); simp [results, Tryz.results12, go_sem, r0, r1, r2, r3, r4, r5]) rfl (HQ1.out (.inl (by trivial)) _ _ ⟨_, _, rfl, Kd.R_nil _ _ _ _ _, Kd.R_mono (HA.out.post0 (A5 := none) (c5 := 0) (ks := []) (Kd.R_nil _ _ _ _ _) _ _ _ _ _ _).1 (fun _ _ => by simp [Value.ownBlock]), (HA.out.post0 (A5 := none) (c5 := 0) (ks := []) (Kd.R_nil _ _ _ _ _) _ _ _ _ _ _).2⟩)
    ·obtain rfl : b1 = false := Bool.eq_false_iff.mpr c1
     clear c1
     by_cases c2 : kids1.length = 0
     ·have HC2 := Aside0.mk c2
      have c2b : ((kids1.length : Int) == 0) = true := beq_iff_eq.2 (by omega)
      clear c2
      obtain ⟨hq0, hq1, hq2, hq3, hq4, hq5⟩ := HA.out.rcells
      have hz0 := HA.out.thaw 0
      have hz1 := HA.out.thaw 1
      have hz2 := HA.out.thaw 2
      have hz3 := HA.out.thaw 3
      have hz4 := HA.out.thaw 4
      have hz5 := HA.out.thaw 5
      go_wp2
      exact bodyPost_ret (v := .tuple #[.agg #[.int .i64 0, .int .i64 0, .string ⟨#[]⟩, .string ⟨#[]⟩, .slice none 0 0, .slice none 0 0], .int .i64 3]) (by obtain ⟨r0, r1, r2, r3, r4, r5⟩ := six_cells HA.out.blk (.int .i64 0) (.int .i64 0) (.string ⟨#[]⟩) (.string ⟨#[]⟩) (.slice none 0 0) (.slice none 0 0); simp [results, Tryz.results12, go_sem, r0, r1, r2, r3, r4, r5]) rfl (HQ1.out (.inr HC2.out) _ _ ⟨_, _, rfl, Kd.R_nil _ _ _ _ _, Kd.R_mono (HA.out.post0 (A5 := none) (c5 := 0) (ks := []) (Kd.R_nil _ _ _ _ _) _ _ _ _ _ _).1 (fun _ _ => by simp [Value.ownBlock]), (HA.out.post0 (A5 := none) (c5 := 0) (ks := []) (Kd.R_nil _ _ _ _ _) _ _ _ _ _ _).2⟩)
     ·have HC2 := Aside0.mk c2
      have c2b : ((kids1.length : Int) == 0) = false := beq_eq_false_iff_ne.2 (by omega)
      clear c2
      obtain ⟨hq0, hq1, hq2, hq3, hq4, hq5⟩ := HA.out.rcells
      have hz0 := HA.out.thaw 0
      have hz1 := HA.out.thaw 1
      have hz2 := HA.out.thaw 2
      have hz3 := HA.out.thaw 3
      have hz4 := HA.out.thaw 4
      have hz5 := HA.out.thaw 5
      go_wp2
      exact bodyPost_ret (v := .tuple #[.agg #[.int .i64 11, .int .i64 0, .string ⟨#[]⟩, .string ⟨#[]⟩, .slice none 0 0, .slice A5 kids1.length c5], .int .i64 0]) (by obtain ⟨r0, r1, r2, r3, r4, r5⟩ := six_cells HA.out.blk (.int .i64 11) (.int .i64 0) (.string ⟨#[]⟩) (.string ⟨#[]⟩) (.slice none 0 0) (.slice A5 kids1.length c5); simp [results, Tryz.results12, go_sem, r0, r1, r2, r3, r4, r5]) rfl (HQ2.out (by trivial) HC2.out _ _ ⟨_, _, rfl, Kd.R_nil _ _ _ _ _, Kd.R_mono (HA.out.post0 HA.out.row _ _ _ _ _ _).1 (fun _ _ => by simp [Value.ownBlock]), (HA.out.post0 HA.out.row _ _ _ _ _ _).2⟩)
   ·rw [if_neg c3] at H
    have c3b : decide ((0 : Int) < (l2.length : Int)) = true := decide_eq_true (by omega)
    have c3n : (0 < l2.length) = True := eq_true (by omega)
    have c3d : decide (0 < l2.length) = true := decide_eq_true (by omega)
    clear c3
    by_cases c1 : b1 = true
    ·rw [if_pos c1] at H
     subst c1
     obtain ⟨rfl, rfl, rfl⟩ : kids1 = kids ∧ l2 = l' ∧ true = b' := by simpa using H
     clear H
     obtain ⟨hq0, hq1, hq2, hq3, hq4, hq5⟩ := HA.out.rcells
     have hz0 := HA.out.thaw 0
     have hz1 := HA.out.thaw 1
     have hz2 := HA.out.thaw 2
     have hz3 := HA.out.thaw 3
     have hz4 := HA.out.thaw 4
     have hz5 := HA.out.thaw 5
     go_wp2
     exact bodyPost_ret (v := .tuple #[.agg #[.int .i64 0, .int .i64 0, .string ⟨#[]⟩, .string ⟨#[]⟩, .slice none 0 0, .slice none 0 0], .int .i64 3]) (by obtain ⟨r0, r1, r2, r3, r4, r5⟩ := six_cells HA.out.blk (.int .i64 0) (.int .i64 0) (.string ⟨#[]⟩) (.string ⟨#[]⟩) (.slice none 0 0) (.slice none 0 0); simp [results, Tryz.results12, go_sem, r0, r1, r2, r3, r4, r5]) rfl (HQ1.out (.inl (by trivial)) _ _ ⟨_, _, rfl, Kd.R_nil _ _ _ _ _, Kd.R_mono (HA.out.post0 (A5 := none) (c5 := 0) (ks := []) (Kd.R_nil _ _ _ _ _) _ _ _ _ _ _).1 (fun _ _ => by simp [Value.ownBlock]), (HA.out.post0 (A5 := none) (c5 := 0) (ks := []) (Kd.R_nil _ _ _ _ _) _ _ _ _ _ _).2⟩)
    ·rw [if_neg c1] at H
     obtain rfl : b1 = false := Bool.eq_false_iff.mpr c1
     clear c1
     obtain ⟨⟨x, l4, b4⟩, hk1, H⟩ := Option.bind_eq_some_iff.1 H
     have HK1 := Aside0.mk hk1
     have H' := Aside0.mk H
     clear hk1 H
     have HLE := Aside0.mk (show (kids1.length + 1) * 96 ≤ 140737488355328 by have := HL.out; have := HN.out; omega)
     go_wp2
     refine start_ (n := 8) (S := fun w' => w'.cell? ⟨w.heap.size + 2, 5, none⟩ = some (.slice A5 kids1.length c5)) (ds := [5, 7]) #[false, false, false, false, false, false, false, false] (by kernel_rfl) rfl rfl ((ParQ.vcell (by repeat (first | exact HA.out | apply ParQ.drewN | apply ParQ.drew | apply ParQ.alloc)))) (fun hHeld => ?_)
     refine pure_ (i := 0) (N := some 23) (v := ?_) (a' := ?_) #[true, false, false, false, false, false, false, false] rfl rfl (by kernel_rfl) (fun _ _ _ h => h) (Or.inl ⟨by rfl, ?_⟩) ?_ ?_
     rotate_left
     ·intro w'
      go_simp
      with_reducible rfl
     rotate_left
     ·simp only [Act.put, List.setIfInBounds_toArray, List.set_cons_zero, List.set_cons_succ, i64_w, i32_w]
      rfl
     refine pure_ (i := 2) (N := some 25) (v := ?_) (a' := ?_) #[true, false, true, false, false, false, false, false] rfl rfl (by kernel_rfl) (fun _ _ _ h => h) (Or.inl ⟨by rfl, ?_⟩) ?_ ?_
     rotate_left
     ·intro w'
      go_simp
      with_reducible rfl
     rotate_left
     ·simp only [Act.put, List.setIfInBounds_toArray, List.set_cons_zero, List.set_cons_succ, i64_w, i32_w]
      rfl
     refine take_ (i := 1) (N := some 24) (v := ?_) (a' := ?_) #[true, true, true, false, false, false, false, false] rfl rfl (by kernel_rfl) (fun _ _ _ h => h) (Or.inl ⟨by rfl, ?_⟩) hHeld ?_ ?_
     rotate_left
     ·intro w' s0
      go_simp
      with_reducible rfl
     rotate_left
     ·simp only [Act.put, List.setIfInBounds_toArray, List.set_cons_zero, List.set_cons_succ, i64_w, i32_w]
      rfl
     refine one_ (i := 3) (N := some 26) #[true, true, true, true, false, false, false, false] rfl rfl (by kernel_rfl) (by decide) (fun K hK => ?_)
     refine goes_ Tryz.func23 (by kernel_rfl) rfl #[.pointer (some ⟨w.heap.size + 1, 0, none⟩), .int .i64 0] (by rfl) rfl rfl (by simp only [List.map_toArray, List.map_cons, List.map_nil]; rfl) ?_
     with_reducible refine (KqC.go (HK.out _) (ParQ.pa (by repeat (first | exact HA.out | apply ParQ.drewN | apply ParQ.drew | apply ParQ.alloc))) HK1.out).mono ?_
     rintro e w8 ⟨A4, c4, B5, e5, rfl, hr4, hr5, h2, h3⟩
     refine ⟨_, rfl, ?_⟩
     have HE4 := Aside0.mk (Kd.R_lower (base' := w.heap.size + 2 + 1) (Kd.R_new' (u := (.slice A5 kids1.length c5 : Value)) hr4 (ParQ.own (by repeat (first | exact HA.out | apply ParQ.drewN | apply ParQ.drew | apply ParQ.alloc)))) (ParQ.size (by repeat (first | exact HA.out | apply ParQ.drewN | apply ParQ.drew | apply ParQ.alloc))))
     have HE5 := Aside0.mk (Kd.R_lower (base' := w.heap.size + 2 + 1) (Kd.R_new' (u := (.slice A5 kids1.length c5 : Value)) hr5 (ParQ.own (by repeat (first | exact HA.out | apply ParQ.drewN | apply ParQ.drew | apply ParQ.alloc)))) (ParQ.size (by repeat (first | exact HA.out | apply ParQ.drewN | apply ParQ.drew | apply ParQ.alloc))))
     have HA8 := Aside0.mk (ParQ.step (by repeat (first | exact HA.out | apply ParQ.drewN | apply ParQ.drew | apply ParQ.alloc)) h2 h3)
     clear hr4 hr5 h2 h3 HA HK1
     refine hK.out _ _ ((ParQ.vcell (by repeat (first | exact HA8.out | apply ParQ.drewN | apply ParQ.drew | apply ParQ.alloc)))) (fun hHeld => ?_)
     clear hK K
     refine norm_ (a' := ?_) ?_ ?_
     rotate_left
     ·show Act.put _ (some 26) _ = _
      simp only [Act.put, List.setIfInBounds_toArray, List.set_cons_zero, List.set_cons_succ, i64_w, i32_w]
      rfl
     refine one_ (i := 4) (N := some 27) #[true, true, true, true, true, false, false, false] rfl rfl (by kernel_rfl) (by decide) (fun K hK => ?_)
     refine value_ (w1 := ?_) (v := ?_) (by rfl) rfl ?_ ?_
     rotate_left 2
     ·go_simp
      constructor
      ·rfl
      ·rfl
     refine hK.out _ _ ((ParQ.vcell (by repeat (first | exact HA8.out | apply ParQ.drewN | apply ParQ.drew | apply ParQ.alloc)))) (fun hHeld => ?_)
     clear hK K
     refine norm_ (a' := ?_) ?_ ?_
     rotate_left
     ·show Act.put _ (some 27) _ = _
      simp only [Act.put, List.setIfInBounds_toArray, List.set_cons_zero, List.set_cons_succ, i64_w, i32_w]
      rfl
     refine last_ (i := 5) (N := some 28) #[true, true, true, true, true, true, false, false] rfl rfl (by kernel_rfl) (by decide) (fun K hK => ?_)
     (repeat first | rw [drew_alloc] | rw [drewN_alloc])
     refine Kd.R_append_step kKey (w0 := w8) (w.heap.size + 2 + 1) ?_ (.tmp 24) (.tmp 27) 25 27 (.agg #[.int .i64 0, .int .i64 0, .string ⟨#[]⟩, .string ⟨#[]⟩, .slice none 0 0, .slice none 0 0]) 96 ?_ Tryz.underlying25 infoKey rfl (by decide) (by omega) (.slice A5 kids1.length c5) kids1 x [.int .i64 x.f0, .int .i64 x.f1, .string x.f2, .string x.f3, .slice A4 x.f4.length c4, .slice B5 x.f5.length e5] (fun _ => True) (fun k => True ∧ some k ≠ (.slice A5 kids1.length c5 : Value).ownBlock) ?_ ?_ ?_ (fun _ hk => hk) ?_ ?_ ?_ ?_ ?_ ?_
     ·rfl
     ·rfl
     ·rfl
     ·first | rfl | (show Value.slice _ _ _ = Value.slice _ _ _; simp)
     ·exact k27_mkM _ _ _ x HE4.out HE5.out
     ·exact fun _ _ => trivial
     ·exact ParQ.row (by repeat (first | exact HA8.out | apply ParQ.drewN | apply ParQ.drew | apply ParQ.alloc))
     ·exact Below.refl _ _
     ·exact ParQ.size (by repeat (first | exact HA8.out | apply ParQ.drewN | apply ParQ.drew | apply ParQ.alloc))
     ·have := HLE.out; omega
     intro v1 w9 hr hb hg hat
     obtain ⟨n1_, A1_, c1_, ev1_⟩ : ∃ n A1 c1, v1 = .slice A1 n c1 := by obtain ⟨A1, c1, e⟩ := Kd.R_slice hr; exact ⟨_, A1, c1, e⟩
     subst ev1_
     have HP := Aside0.mk (ParQ.push (by repeat (first | exact HA8.out | apply ParQ.drewN | apply ParQ.drew | apply ParQ.alloc)) hr hb)
     have HV := Aside0.mk ((hb.block (w.heap.size + 2) (by omega)).trans (ParQ.vblk (by repeat (first | exact HA8.out | apply ParQ.drewN | apply ParQ.drew | apply ParQ.alloc))))
     clear hr hb hg hat
     refine hK.out _ _ ?_
     clear hK K
     refine norm_ (a' := ?_) ?_ ?_
     rotate_left
     ·show Act.put _ (some 28) _ = _
      simp only [Act.put, List.setIfInBounds_toArray, List.set_cons_zero, List.set_cons_succ, i64_w, i32_w]
      rfl
     refine pure_ (i := 6) (N := some 29) (v := ?_) (a' := ?_) #[true, true, true, true, true, true, true, false] rfl rfl (by kernel_rfl) (fun _ _ _ h => h) (Or.inl ⟨by rfl, ?_⟩) ?_ ?_
     rotate_left
     ·intro w'
      go_simp
      with_reducible rfl
     rotate_left
     ·simp only [Act.put, List.setIfInBounds_toArray, List.set_cons_zero, List.set_cons_succ, i64_w, i32_w]
      rfl
     refine last_ (i := 7) (N := none) #[true, true, true, true, true, true, true, true] rfl rfl (by kernel_rfl) (by decide) (fun K hK => ?_)
     have hb0_ := blk_cell HV.out 5
     have hb1_ := blk_frozen HV.out 5
     refine skip_ (w1 := ?_) (by rfl) rfl ?_ ?_
     rotate_left
     ·go_simp
      rfl
     refine hK.out _ _ ?_
     clear hK K
     refine done_ (by kernel_rfl) ?_
     go_wp2
     go_roundg k1
     case measure => have := HL.out; omega
     case rel => exact ⟨kids1 ++ [x], l4, b4, _, H', ⟨by rw [List.length_append, List.length_singleton]; have := HL.out; omega⟩, HP⟩
def letterboxref18_Parse.f (k : Nat) (l : List Tok) : Option (Int × Int × ByteArray × ByteArray × List Rg × List Key × Int) :=
 (allP (keyR (min k 100000) 0) (min k 100000) [] l false).bind fun r =>
  if r.2.2 = true then some (0, 0, ⟨#[]⟩, ⟨#[]⟩, [], [], 3)
  else if r.1.length = 0 then some (0, 0, ⟨#[]⟩, ⟨#[]⟩, [], [], 3)
  else some (11, 0, ⟨#[]⟩, ⟨#[]⟩, [], r.1, 0)
theorem letterboxref18_Parse.mono (a0 : List Tok) (k : Nat) : LeO (letterboxref18_Parse.f k a0) (letterboxref18_Parse.f (k + 1) a0) := by
 unfold letterboxref18_Parse.f
 refine LeO.bind (allP_mono (fun l b => ?_) _ _ _ _ _ (by omega)) (fun _ => LeO.refl _)
 have h := keyR_mono (min (k + 1) 100000 - min k 100000) (min k 100000) 0 l b
 rw [show min k 100000 + (min (k + 1) 100000 - min k 100000) = min (k + 1) 100000 by omega] at h
 exact h
theorem letterboxref18_Parse.calls (k : Nat) (A0 : Option Addr) (c0 : Nat) (l0 : List Tok) (r1 r2 : Int) (r3 r4 : ByteArray) (r5 : List Rg) (r6 : List Key) (r7 : Int) (w : World) (hr0 : Kd.C kTok w A0 l0.length l0) (hc0 : l0.length ≤ c0) (h : letterboxref18_Parse.f k l0 = some (r1, r2, r3, r4, r5, r6, r7)) :
  Calls Tryz.prog 12 #[.slice A0 l0.length c0] w fun e w' => ∃ v4 v5 : Value, e = .returned (.tuple #[.agg #[.int .i64 r1, .int .i64 r2, .string r3, .string r4, v4, v5], .int .i64 r7]) ∧ Kd.R kRg 73 w' w.heap.size (fun _ => True) v4 r5 ∧ Kd.R kKey 27 w' w.heap.size (fun k_ => some k_ ≠ (v4 : Value).ownBlock) v5 r6 ∧ Below w.heap.size w w' := by
 obtain ⟨⟨kids, l', b'⟩, ha, h⟩ := Option.bind_eq_some_iff.1 h
 refine rparse_walk (fun g => keyR_calls w g (min k 100000) 0 (by omega) (by omega)) (by omega) hr0 hc0 ha (fun hc e u hp => ?_) (fun hb hl e u hp => ?_)
 ·have h3 : some (0, 0, (⟨#[]⟩ : ByteArray), (⟨#[]⟩ : ByteArray), ([] : List Rg), ([] : List Key), (3 : Int)) = some (r1, r2, r3, r4, r5, r6, r7) := by
   rw [← h]
   by_cases hb : b' = true
   ·rw [if_pos hb]
   ·rw [if_neg hb, if_pos (hc.resolve_left hb)]
  obtain ⟨rfl, rfl, rfl, rfl, rfl, rfl, rfl⟩ : 0 = r1 ∧ 0 = r2 ∧ (⟨#[]⟩ : ByteArray) = r3 ∧ (⟨#[]⟩ : ByteArray) = r4 ∧ [] = r5 ∧ [] = r6 ∧ 3 = r7 := by simpa using h3
  exact hp
 ·dsimp only at h
  rw [if_neg (by rw [hb]; decide), if_neg hl] at h
  obtain ⟨rfl, rfl, rfl, rfl, rfl, rfl, rfl⟩ : 11 = r1 ∧ 0 = r2 ∧ (⟨#[]⟩ : ByteArray) = r3 ∧ (⟨#[]⟩ : ByteArray) = r4 ∧ [] = r5 ∧ kids = r6 ∧ 0 = r7 := by simpa using h
  exact hp
end Go.Proofs.YtejhfghijgbckaaGreatDoor
