/- The lexer's method that takes an atom. -/
import Derived.Test.YtbdmhlocafpehaaDoorLexQuo
import Derived.Test.YtbdmhlocafpehaaDoorShelf
namespace Go.Proofs.YtbdmhlocafpehaaDoor
open Go.RowKit Go.Proofs.YtbdmhlocafpehaaDoor.P Go.Proofs.YtbdmhlocafpehaaDoorW.PrintWords Go.Proofs.YtbdmhlocafpehaaDoorW.PrintLast Go.Proofs.YtbdmhlocafpehaaDoorW.PrintMore
set_option linter.unusedVariables false
set_option linter.unusedSimpArgs false
theorem frame73 (x : Value) (a : Act) (h1 : a.tmps.size = 73) (h0 : a.tmps.getD 0 undef = x) (hd : a.defers = []) : ∃ U : Nat → Value, a = { tmps := #[x, U 1, U 2, U 3, U 4, U 5, U 6, U 7, U 8, U 9, U 10, U 11, U 12, U 13, U 14, U 15, U 16, U 17, U 18, U 19, U 20, U 21, U 22, U 23, U 24, U 25, U 26, U 27, U 28, U 29, U 30, U 31, U 32, U 33, U 34, U 35, U 36, U 37, U 38, U 39, U 40, U 41, U 42, U 43, U 44, U 45, U 46, U 47, U 48, U 49, U 50, U 51, U 52, U 53, U 54, U 55, U 56, U 57, U 58, U 59, U 60, U 61, U 62, U 63, U 64, U 65, U 66, U 67, U 68, U 69, U 70, U 71, U 72], defers := [] } := by
  obtain ⟨⟨l⟩, d⟩ := a
  refine ⟨fun i => l.getD i undef, ?_⟩
  have hl : l.length = 73 := h1
  have hx : l.getD 0 undef = x := by rw [← h0]; simp [Array.getD, List.getD_eq_getElem?_getD]; split <;> simp_all
  have e := frame_list l undef
  rw [hl] at e
  obtain rfl : d = [] := hd
  subst hx
  exact congrArg (fun z => ({ tmps := ⟨z⟩, defers := [] } : Act)) e
/-- An atom: how many bytes it takes; none: it is none. -/
def ago : Bool → List Int → Option Nat
  | inn, [] => if inn then none else some 0
  | inn, c :: r => if 32 ≤ c ∧ c ≤ 126 then (if inn then (ago (decide (c ≠ 93)) r).map (· + 1) else if c = 32 ∨ c = 40 ∨ c = 41 ∨ c = 34 then some 0 else (ago (decide (c = 91)) r).map (· + 1)) else none
def AInv (line : List Int) (p0 p : Nat) (inn : Bool) : Prop := p0 ≤ p ∧ ago false (line.drop p0) = (ago inn (line.drop p)).map (· + (p - p0))
theorem AInv.start (line : List Int) (p : Nat) : AInv line p p false := ⟨Nat.le_refl _, by cases ago false (line.drop p) <;> simp⟩
section
variable {line : List Int} {p0 p : Nat}
theorem AInv.over_in (h : AInv line p0 p true) (hp : p = line.length) : ago false (line.drop p0) = none := by
  rw [h.2, hp, List.drop_length, ago]; rfl
theorem AInv.over (h : AInv line p0 p false) (hp : p = line.length) : ago false (line.drop p0) = some (p - p0) := by
  rw [h.2, List.drop_of_length_le (by omega), ago]; simp
theorem AInv.bad {inn : Bool} (h : AInv line p0 p inn) (hp : p < line.length) (h1 : ¬ (32 ≤ line.getD p 0 ∧ line.getD p 0 ≤ 126)) : ago false (line.drop p0) = none := by
  rw [h.2, drop_get hp, ago, if_neg h1]; rfl
theorem AInv.in_ (h : AInv line p0 p true) (hp : p < line.length) (h1 : 32 ≤ line.getD p 0) (h2 : line.getD p 0 ≤ 126) : AInv line p0 (p + 1) (decide (line.getD p 0 ≠ 93)) := by
  refine ⟨by have := h.1; omega, h.2.trans ?_⟩
  have := h.1
  rw [drop_get hp, ago, if_pos ⟨h1, h2⟩, if_pos rfl]
  cases ago (decide (line.getD p 0 ≠ 93)) (line.drop (p + 1)) with
  | none => rfl
  | some x => simp; omega
theorem AInv.stop (h : AInv line p0 p false) (hp : p < line.length) (h1 : 32 ≤ line.getD p 0) (h2 : line.getD p 0 ≤ 126) (h3 : line.getD p 0 = 32 ∨ line.getD p 0 = 40 ∨ line.getD p 0 = 41 ∨ line.getD p 0 = 34) : ago false (line.drop p0) = some (p - p0) := by
  rw [h.2, drop_get hp, ago, if_pos ⟨h1, h2⟩, if_neg Bool.false_ne_true, if_pos h3]; simp
theorem AInv.out_ (h : AInv line p0 p false) (hp : p < line.length) (h1 : 32 ≤ line.getD p 0) (h2 : line.getD p 0 ≤ 126) (h3 : ¬ (line.getD p 0 = 32 ∨ line.getD p 0 = 40 ∨ line.getD p 0 = 41 ∨ line.getD p 0 = 34)) : AInv line p0 (p + 1) (decide (line.getD p 0 = 91)) := by
  refine ⟨by have := h.1; omega, h.2.trans ?_⟩
  have := h.1
  rw [drop_get hp, ago, if_pos ⟨h1, h2⟩, if_neg Bool.false_ne_true, if_neg h3]
  cases ago (decide (line.getD p 0 = 91)) (line.drop (p + 1)) with
  | none => rfl
  | some x => simp; omega
end
theorem idx_all : ∀ n : Fin 127, (0 ≤ Lib.indexByte [32, 40, 41, 34] n.val.toUInt8) ↔ (n.val = 32 ∨ n.val = 40 ∨ n.val = 41 ∨ n.val = 34) := by decide +kernel
theorem idx_iff (ch : Int) (h1 : 32 ≤ ch) (h2 : ch ≤ 126) : (0 ≤ Lib.indexByte [32, 40, 41, 34] ch.toNat.toUInt8) ↔ (ch = 32 ∨ ch = 40 ∨ ch = 41 ∨ ch = 34) := by
  have := idx_all ⟨ch.toNat, by omega⟩
  simp only at this
  rw [this]
  omega
theorem idx_yes (ch : Int) (h1 : 32 ≤ ch) (h2 : ch ≤ 126) (h : ch = 32 ∨ ch = 40 ∨ ch = 41 ∨ ch = 34) (w : World) : Calls Tryd.prog 42 #[.string ⟨#[32, 40, 41, 34]⟩, .int .u8 ch] w fun e w' => (∃ n : Int, e = .returned (.int .i64 n) ∧ 0 ≤ n) ∧ w = w' :=
  (Tryd.strings_IndexByte _ _ _).mono fun e w' ⟨he, hw⟩ => ⟨⟨_, he, (idx_iff ch h1 h2).2 h⟩, hw.symm⟩
theorem idx_no (ch : Int) (h1 : 32 ≤ ch) (h2 : ch ≤ 126) (h : ¬ (ch = 32 ∨ ch = 40 ∨ ch = 41 ∨ ch = 34)) (w : World) : Calls Tryd.prog 42 #[.string ⟨#[32, 40, 41, 34]⟩, .int .u8 ch] w fun e w' => (∃ n : Int, e = .returned (.int .i64 n) ∧ ¬ 0 ≤ n) ∧ w = w' :=
  (Tryd.strings_IndexByte _ _ _).mono fun e w' ⟨he, hw⟩ => ⟨⟨_, he, fun hn => h ((idx_iff ch h1 h2).1 hn)⟩, hw.symm⟩
/-- What 'atom' leaves. -/
def APost (w0 : World) (b : Nat) (A : Option Addr) (c : Nat) (line : List Int) (z : Int) (toks : List Tk) (r : Option Nat) (e : Ending) (w' : World) : Prop :=
  match r with
  | none => e = .returned (.int .i64 3) ∧ Below w0.heap.size w0 w'
  | some n => e = .returned (.int .i64 0) ∧ ∃ v', LxI w0 w' b v' A c line (z + n) (toks ++ [⟨1, strOfNums ((line.take (z.toNat + n)).drop z.toNat)⟩])
set_option maxHeartbeats 8000000 in
set_option maxRecDepth 1000000 in
theorem lexer_atom (w0 w : World) (b : Nat) (v : Value) (A : Option Addr) (c : Nat) (line : List Int) (z0 : Int) (toks : List Tk) (hI : LxI w0 w b v A c line z0 toks) (hz0 : 0 ≤ z0) (hz1 : z0 ≤ line.length) (htk : toks.length < 64) (hlen0 : line.length ≤ 100000000) :
    Calls Tryd.prog 31 #[.pointer (some ⟨b, 0, none⟩)] w fun e w' => APost w0 b A c line z0 toks (ago false (line.drop z0.toNat)) e w' := by
  have HI := Aside0.mk hI
  clear hI
  have hst : 0 ≤ z0 := hz0
  clear hz0
  have hc2' := HI.out.cell2
  go_enter Tryd.func31, Tryd.ntmps31
  try go_wp2
  refine wp_scope_sp scope_pan ?_
  intro X HX
  generalize hRL1 : Code.seq (Code.label 1) _ = RL1
  go_wp2
  clear hc2'
  subst hRL1
  refine wp_label_seq ?_
  refine HX.loop (l := 1) rfl (fun (kL : Nat) (aL : Act) (wL : World) => (∃ (z : Int) (inn : Bool), z0 ≤ z ∧ z.toNat + kL = line.length ∧ Aside0 (AInv line z0.toNat z.toNat inn) ∧ Aside0 (LxI w0 wL b v A c line z toks) ∧ aL.tmps.getD 3 undef = .int .i64 z0 ∧ aL.tmps.getD 4 undef = .bool inn) ∧ ∃ U : Nat → Value, aL = { tmps := #[.pointer (some ⟨b, 0, none⟩), U 1, U 2, U 3, U 4, U 5, U 6, U 7, U 8, U 9, U 10, U 11, U 12, U 13, U 14, U 15, U 16, U 17, U 18, U 19, U 20, U 21, U 22, U 23, U 24, U 25, U 26, U 27, U 28, U 29, U 30, U 31, U 32, U 33, U 34, U 35, U 36, U 37, U 38, U 39, U 40, U 41, U 42, U 43, U 44, U 45, U 46, U 47, U 48, U 49, U 50, U 51, U 52, U 53, U 54, U 55, U 56, U 57, U 58, U 59, U 60, U 61, U 62, U 63, U 64, U 65, U 66, U 67, U 68, U 69, U 70, U 71, U 72], defers := [] }) (line.length - z0.toNat) ?atStart ?round
  case atStart => exact ⟨⟨z0, false, by omega, by omega, ⟨AInv.start _ _⟩, ⟨(by repeat (first | exact HI.out | apply LxI.drewN | apply LxI.drew | apply LxI.setAt | apply LxI.alloc))⟩, rfl, rfl⟩, frame73 _ _ rfl rfl rfl⟩
  case round =>
    intro gk _ wr hinv
    obtain ⟨⟨z, inn, hz, hzg, HQ, HI', hv3, hv4⟩, U, ha⟩ := hinv
    subst ha
    replace hv3 : U 3 = .int .i64 z0 := hv3
    replace hv4 : U 4 = .bool inn := hv4
    rw [hv3, hv4]
    clear hv3 hv4
    try dsimp only
    clear HX HI
    have HI := HI'
    clear HI'
    intro J X hJ0 HX
    have hJ := Aside0.mk hJ0
    clear hJ0
    have hc0 := HI.out.cell0
    have hc1 := HI.out.cell1
    have hc2 := HI.out.cell2
    have hf0 := HI.out.thaw 0
    have hf2 := HI.out.thaw 2
    have hlm := Kd.C_max HI.out.line_
    cases gk with
    | zero =>
      have hb1 : decide (z < (line.length : Int)) = false := decide_eq_false (by omega)
      cases inn with
      | true =>
        have Hres := Aside0.mk (AInv.over_in HQ.out (by omega))
        go_wp2
        refine start_ (n := 10) (S := fun w' => w'.cell? ⟨b, 1, none⟩ = some (.slice A line.length c) ∧ w'.cell? ⟨b, 2, none⟩ = some (.int .i64 z)) (ds := []) #[false, false, false, false, false, false, false, false, false, false] (by kernel_rfl) rfl rfl ⟨(LxI.cell1 (by repeat (first | exact HI.out | apply LxI.drewN | apply LxI.drew | apply LxI.setAt | apply LxI.alloc))), (LxI.cell2 (by repeat (first | exact HI.out | apply LxI.drewN | apply LxI.drew | apply LxI.setAt | apply LxI.alloc)))⟩ (fun hHeld => ?_)
        refine pure_ (i := 0) (N := some 10) (v := ?_) (a' := ?_) #[true, false, false, false, false, false, false, false, false, false] rfl rfl (by kernel_rfl) (by first | exact fun _ _ _ h => h | exact fun _ _ _ h => HX.pan (put_defers _ _ _).symm h) (Or.inl ⟨by rfl, ?_⟩) ?_ ?_
        rotate_left
        · intro w'
          go_simp
          with_reducible rfl
        rotate_left
        · simp only [Act.put, List.setIfInBounds_toArray, List.set_cons_zero, List.set_cons_succ, i64_w, i32_w]
          rfl
        refine pure_ (i := 1) (N := some 11) (v := ?_) (a' := ?_) #[true, true, false, false, false, false, false, false, false, false] rfl rfl (by kernel_rfl) (by first | exact fun _ _ _ h => h | exact fun _ _ _ h => HX.pan (put_defers _ _ _).symm h) (Or.inl ⟨by rfl, ?_⟩) ?_ ?_
        rotate_left
        · intro w'
          go_simp
          with_reducible rfl
        rotate_left
        · simp only [Act.put, List.setIfInBounds_toArray, List.set_cons_zero, List.set_cons_succ, i64_w, i32_w]
          rfl
        refine pure_ (i := 2) (N := some 12) (v := ?_) (a' := ?_) #[true, true, true, false, false, false, false, false, false, false] rfl rfl (by kernel_rfl) (by first | exact fun _ _ _ h => h | exact fun _ _ _ h => HX.pan (put_defers _ _ _).symm h) (Or.inl ⟨by rfl, ?_⟩) ?_ ?_
        rotate_left
        · intro w'
          go_simp
          with_reducible rfl
        rotate_left
        · simp only [Act.put, List.setIfInBounds_toArray, List.set_cons_zero, List.set_cons_succ, i64_w, i32_w]
          rfl
        refine pure_ (i := 4) (N := some 14) (v := ?_) (a' := ?_) #[true, true, true, false, true, false, false, false, false, false] rfl rfl (by kernel_rfl) (by first | exact fun _ _ _ h => h | exact fun _ _ _ h => HX.pan (put_defers _ _ _).symm h) (Or.inl ⟨by rfl, ?_⟩) ?_ ?_
        rotate_left
        · intro w'
          go_simp
          with_reducible rfl
        rotate_left
        · simp only [Act.put, List.setIfInBounds_toArray, List.set_cons_zero, List.set_cons_succ, i64_w, i32_w]
          rfl
        refine pure_ (i := 5) (N := some 15) (v := ?_) (a' := ?_) #[true, true, true, false, true, true, false, false, false, false] rfl rfl (by kernel_rfl) (by first | exact fun _ _ _ h => h | exact fun _ _ _ h => HX.pan (put_defers _ _ _).symm h) (Or.inl ⟨by rfl, ?_⟩) ?_ ?_
        rotate_left
        · intro w'
          go_simp
          with_reducible rfl
        rotate_left
        · simp only [Act.put, List.setIfInBounds_toArray, List.set_cons_zero, List.set_cons_succ, i64_w, i32_w]
          rfl
        refine pure_ (i := 6) (N := some 16) (v := ?_) (a' := ?_) #[true, true, true, false, true, true, true, false, false, false] rfl rfl (by kernel_rfl) (by first | exact fun _ _ _ h => h | exact fun _ _ _ h => HX.pan (put_defers _ _ _).symm h) (Or.inl ⟨by rfl, ?_⟩) ?_ ?_
        rotate_left
        · intro w'
          go_simp
          with_reducible rfl
        rotate_left
        · simp only [Act.put, List.setIfInBounds_toArray, List.set_cons_zero, List.set_cons_succ, i64_w, i32_w]
          rfl
        refine take_ (i := 3) (N := some 13) (v := ?_) (a' := ?_) #[true, true, true, true, true, true, true, false, false, false] rfl rfl (by kernel_rfl) (by first | exact fun _ _ _ h => h | exact fun _ _ _ h => HX.pan (put_defers _ _ _).symm h) (Or.inl ⟨by rfl, ?_⟩) hHeld ?_ ?_
        rotate_left
        · rintro w' ⟨s0, s1⟩
          go_simp
          with_reducible rfl
        rotate_left
        · simp only [Act.put, List.setIfInBounds_toArray, List.set_cons_zero, List.set_cons_succ, i64_w, i32_w]
          rfl
        refine take_ (i := 7) (N := some 17) (v := ?_) (a' := ?_) #[true, true, true, true, true, true, true, true, false, false] rfl rfl (by kernel_rfl) (by first | exact fun _ _ _ h => h | exact fun _ _ _ h => HX.pan (put_defers _ _ _).symm h) (Or.inl ⟨by rfl, ?_⟩) hHeld ?_ ?_
        rotate_left
        · rintro w' ⟨s0, s1⟩
          go_simp
          with_reducible rfl
        rotate_left
        · simp only [Act.put, List.setIfInBounds_toArray, List.set_cons_zero, List.set_cons_succ, i64_w, i32_w]
          rfl
        refine pure_ (i := 8) (N := some 18) (v := ?_) (a' := ?_) #[true, true, true, true, true, true, true, true, true, false] rfl rfl (by kernel_rfl) (by first | exact fun _ _ _ h => h | exact fun _ _ _ h => HX.pan (put_defers _ _ _).symm h) (Or.inl ⟨by rfl, ?_⟩) ?_ ?_
        rotate_left
        · intro w'
          go_simp
          with_reducible rfl
        rotate_left
        · simp only [Act.put, List.setIfInBounds_toArray, List.set_cons_zero, List.set_cons_succ, i64_w, i32_w]
          rfl
        refine pure_ (i := 9) (N := some 19) (v := ?_) (a' := ?_) #[true, true, true, true, true, true, true, true, true, true] rfl rfl (by kernel_rfl) (by first | exact fun _ _ _ h => h | exact fun _ _ _ h => HX.pan (put_defers _ _ _).symm h) (Or.inl ⟨by rfl, ?_⟩) ?_ ?_
        rotate_left
        · intro w'
          go_simp
          with_reducible rfl
        rotate_left
        · simp only [Act.put, List.setIfInBounds_toArray, List.set_cons_zero, List.set_cons_succ, i64_w, i32_w]
          rfl
        refine done_ (by kernel_rfl) ?_
        go_wp2
        repeat (go_step3; go_wp2)
        (try simp only [Exit.then, Exit.inBlock])
        refine HX.ret ?_
        go_ret
        unfold APost
        rw [Hres.out]
        exact ⟨rfl, LxI.below (by repeat (first | exact HI.out | apply LxI.drewN | apply LxI.drew | apply LxI.setAt | apply LxI.alloc))⟩
      | false =>
        have Hres := Aside0.mk (AInv.over HQ.out (by omega))
        go_wp2
        refine start_ (n := 10) (S := fun w' => w'.cell? ⟨b, 1, none⟩ = some (.slice A line.length c) ∧ w'.cell? ⟨b, 2, none⟩ = some (.int .i64 z)) (ds := []) #[false, false, false, false, false, false, false, false, false, false] (by kernel_rfl) rfl rfl ⟨(LxI.cell1 (by repeat (first | exact HI.out | apply LxI.drewN | apply LxI.drew | apply LxI.setAt | apply LxI.alloc))), (LxI.cell2 (by repeat (first | exact HI.out | apply LxI.drewN | apply LxI.drew | apply LxI.setAt | apply LxI.alloc)))⟩ (fun hHeld => ?_)
        refine pure_ (i := 0) (N := some 10) (v := ?_) (a' := ?_) #[true, false, false, false, false, false, false, false, false, false] rfl rfl (by kernel_rfl) (by first | exact fun _ _ _ h => h | exact fun _ _ _ h => HX.pan (put_defers _ _ _).symm h) (Or.inl ⟨by rfl, ?_⟩) ?_ ?_
        rotate_left
        · intro w'
          go_simp
          with_reducible rfl
        rotate_left
        · simp only [Act.put, List.setIfInBounds_toArray, List.set_cons_zero, List.set_cons_succ, i64_w, i32_w]
          rfl
        refine pure_ (i := 1) (N := some 11) (v := ?_) (a' := ?_) #[true, true, false, false, false, false, false, false, false, false] rfl rfl (by kernel_rfl) (by first | exact fun _ _ _ h => h | exact fun _ _ _ h => HX.pan (put_defers _ _ _).symm h) (Or.inl ⟨by rfl, ?_⟩) ?_ ?_
        rotate_left
        · intro w'
          go_simp
          with_reducible rfl
        rotate_left
        · simp only [Act.put, List.setIfInBounds_toArray, List.set_cons_zero, List.set_cons_succ, i64_w, i32_w]
          rfl
        refine pure_ (i := 2) (N := some 12) (v := ?_) (a' := ?_) #[true, true, true, false, false, false, false, false, false, false] rfl rfl (by kernel_rfl) (by first | exact fun _ _ _ h => h | exact fun _ _ _ h => HX.pan (put_defers _ _ _).symm h) (Or.inl ⟨by rfl, ?_⟩) ?_ ?_
        rotate_left
        · intro w'
          go_simp
          with_reducible rfl
        rotate_left
        · simp only [Act.put, List.setIfInBounds_toArray, List.set_cons_zero, List.set_cons_succ, i64_w, i32_w]
          rfl
        refine pure_ (i := 4) (N := some 14) (v := ?_) (a' := ?_) #[true, true, true, false, true, false, false, false, false, false] rfl rfl (by kernel_rfl) (by first | exact fun _ _ _ h => h | exact fun _ _ _ h => HX.pan (put_defers _ _ _).symm h) (Or.inl ⟨by rfl, ?_⟩) ?_ ?_
        rotate_left
        · intro w'
          go_simp
          with_reducible rfl
        rotate_left
        · simp only [Act.put, List.setIfInBounds_toArray, List.set_cons_zero, List.set_cons_succ, i64_w, i32_w]
          rfl
        refine pure_ (i := 5) (N := some 15) (v := ?_) (a' := ?_) #[true, true, true, false, true, true, false, false, false, false] rfl rfl (by kernel_rfl) (by first | exact fun _ _ _ h => h | exact fun _ _ _ h => HX.pan (put_defers _ _ _).symm h) (Or.inl ⟨by rfl, ?_⟩) ?_ ?_
        rotate_left
        · intro w'
          go_simp
          with_reducible rfl
        rotate_left
        · simp only [Act.put, List.setIfInBounds_toArray, List.set_cons_zero, List.set_cons_succ, i64_w, i32_w]
          rfl
        refine pure_ (i := 6) (N := some 16) (v := ?_) (a' := ?_) #[true, true, true, false, true, true, true, false, false, false] rfl rfl (by kernel_rfl) (by first | exact fun _ _ _ h => h | exact fun _ _ _ h => HX.pan (put_defers _ _ _).symm h) (Or.inl ⟨by rfl, ?_⟩) ?_ ?_
        rotate_left
        · intro w'
          go_simp
          with_reducible rfl
        rotate_left
        · simp only [Act.put, List.setIfInBounds_toArray, List.set_cons_zero, List.set_cons_succ, i64_w, i32_w]
          rfl
        refine take_ (i := 3) (N := some 13) (v := ?_) (a' := ?_) #[true, true, true, true, true, true, true, false, false, false] rfl rfl (by kernel_rfl) (by first | exact fun _ _ _ h => h | exact fun _ _ _ h => HX.pan (put_defers _ _ _).symm h) (Or.inl ⟨by rfl, ?_⟩) hHeld ?_ ?_
        rotate_left
        · rintro w' ⟨s0, s1⟩
          go_simp
          with_reducible rfl
        rotate_left
        · simp only [Act.put, List.setIfInBounds_toArray, List.set_cons_zero, List.set_cons_succ, i64_w, i32_w]
          rfl
        refine take_ (i := 7) (N := some 17) (v := ?_) (a' := ?_) #[true, true, true, true, true, true, true, true, false, false] rfl rfl (by kernel_rfl) (by first | exact fun _ _ _ h => h | exact fun _ _ _ h => HX.pan (put_defers _ _ _).symm h) (Or.inl ⟨by rfl, ?_⟩) hHeld ?_ ?_
        rotate_left
        · rintro w' ⟨s0, s1⟩
          go_simp
          with_reducible rfl
        rotate_left
        · simp only [Act.put, List.setIfInBounds_toArray, List.set_cons_zero, List.set_cons_succ, i64_w, i32_w]
          rfl
        refine pure_ (i := 8) (N := some 18) (v := ?_) (a' := ?_) #[true, true, true, true, true, true, true, true, true, false] rfl rfl (by kernel_rfl) (by first | exact fun _ _ _ h => h | exact fun _ _ _ h => HX.pan (put_defers _ _ _).symm h) (Or.inl ⟨by rfl, ?_⟩) ?_ ?_
        rotate_left
        · intro w'
          go_simp
          with_reducible rfl
        rotate_left
        · simp only [Act.put, List.setIfInBounds_toArray, List.set_cons_zero, List.set_cons_succ, i64_w, i32_w]
          rfl
        refine pure_ (i := 9) (N := some 19) (v := ?_) (a' := ?_) #[true, true, true, true, true, true, true, true, true, true] rfl rfl (by kernel_rfl) (by first | exact fun _ _ _ h => h | exact fun _ _ _ h => HX.pan (put_defers _ _ _).symm h) (Or.inl ⟨by rfl, ?_⟩) ?_ ?_
        rotate_left
        · intro w'
          go_simp
          with_reducible rfl
        rotate_left
        · simp only [Act.put, List.setIfInBounds_toArray, List.set_cons_zero, List.set_cons_succ, i64_w, i32_w]
          rfl
        refine done_ (by kernel_rfl) ?_
        go_wp2
        repeat (go_step3; go_wp2)
        obtain ⟨i0_, hi0_, hsz0_⟩ := Option.map_eq_some_iff.1 (show (Tryd.prog.info? 5).map (fun i => i.size) = some 1 by kernel_rfl)
        have hcut := cut_mid (P := Tryd.prog) 23 5 .i64 .i64 Tryd.underlying23 hi0_ 1 hsz0_ A line.length c z0 z hst hz (by omega) HI.out.cap
        have hcm := fun W (hW : Below w0.heap.size w0 W) => Kd.C_string (P := Tryd.prog) (src := 23) (dst := 9) (c := c - z0.toNat) Tryd.underlying23 Tryd.underlying5 Tryd.underlying9 (Kd.C_below (Kd.C_mid (lo := z0.toNat) (hi := z.toNat) HI.out.line_ (by omega) (by omega) HI.out.cap) hW)
        have hll : ((line.take z.toNat).drop z0.toNat).length = z.toNat - z0.toNat := by rw [List.length_drop, List.length_take]; omega
        have hsz : (Kd.int .u8).sz = 1 := rfl
        rw [hsz, hll] at hcm
        clear hsz hll hi0_ hsz0_
        generalize (if c = z0.toNat then A else (A).map (·.add (z0.toNat * 1))) = Acut at hcut hcm
        have Hcm := Aside0.mk hcm
        clear hcm
        refine start_ (n := 22) (S := fun w' => w'.cell? ⟨b, 0, none⟩ = some v ∧ w'.cell? ⟨b, 1, none⟩ = some (.slice A line.length c) ∧ w'.cell? ⟨b, 2, none⟩ = some (.int .i64 z) ∧ (convert 23 9 (.slice Acut (z.toNat - z0.toNat) (c - z0.toNat))).run Tryd.prog w' = .ok (.string (strOfNums ((line.take z.toNat).drop z0.toNat))) w') (ds := [18, 21]) #[false, false, false, false, false, false, false, false, false, false, false, false, false, false, false, false, false, false, false, false, false, false] (by kernel_rfl) rfl rfl ⟨(LxI.cell0 (by repeat (first | exact HI.out | apply LxI.drewN | apply LxI.drew | apply LxI.setAt | apply LxI.alloc))), (LxI.cell1 (by repeat (first | exact HI.out | apply LxI.drewN | apply LxI.drew | apply LxI.setAt | apply LxI.alloc))), (LxI.cell2 (by repeat (first | exact HI.out | apply LxI.drewN | apply LxI.drew | apply LxI.setAt | apply LxI.alloc))), (Hcm.out _ (LxI.below (by repeat (first | exact HI.out | apply LxI.drewN | apply LxI.drew | apply LxI.setAt | apply LxI.alloc))))⟩ (fun hHeld => ?_)
        refine pure_ (i := 0) (N := some 52) (v := ?_) (a' := ?_) #[true, false, false, false, false, false, false, false, false, false, false, false, false, false, false, false, false, false, false, false, false, false] rfl rfl (by kernel_rfl) (by first | exact fun _ _ _ h => h | exact fun _ _ _ h => HX.pan (put_defers _ _ _).symm h) (Or.inl ⟨by rfl, ?_⟩) ?_ ?_
        rotate_left
        · intro w'
          go_simp
          with_reducible rfl
        rotate_left
        · simp only [Act.put, List.setIfInBounds_toArray, List.set_cons_zero, List.set_cons_succ, i64_w, i32_w]
          rfl
        refine pure_ (i := 1) (N := some 53) (v := ?_) (a' := ?_) #[true, true, false, false, false, false, false, false, false, false, false, false, false, false, false, false, false, false, false, false, false, false] rfl rfl (by kernel_rfl) (by first | exact fun _ _ _ h => h | exact fun _ _ _ h => HX.pan (put_defers _ _ _).symm h) (Or.inl ⟨by rfl, ?_⟩) ?_ ?_
        rotate_left
        · intro w'
          go_simp
          with_reducible rfl
        rotate_left
        · simp only [Act.put, List.setIfInBounds_toArray, List.set_cons_zero, List.set_cons_succ, i64_w, i32_w]
          rfl
        refine pure_ (i := 2) (N := some 54) (v := ?_) (a' := ?_) #[true, true, true, false, false, false, false, false, false, false, false, false, false, false, false, false, false, false, false, false, false, false] rfl rfl (by kernel_rfl) (by first | exact fun _ _ _ h => h | exact fun _ _ _ h => HX.pan (put_defers _ _ _).symm h) (Or.inl ⟨by rfl, ?_⟩) ?_ ?_
        rotate_left
        · intro w'
          go_simp
          with_reducible rfl
        rotate_left
        · simp only [Act.put, List.setIfInBounds_toArray, List.set_cons_zero, List.set_cons_succ, i64_w, i32_w]
          rfl
        refine pure_ (i := 3) (N := some 55) (v := ?_) (a' := ?_) #[true, true, true, true, false, false, false, false, false, false, false, false, false, false, false, false, false, false, false, false, false, false] rfl rfl (by kernel_rfl) (by first | exact fun _ _ _ h => h | exact fun _ _ _ h => HX.pan (put_defers _ _ _).symm h) (Or.inl ⟨by rfl, ?_⟩) ?_ ?_
        rotate_left
        · intro w'
          go_simp
          with_reducible rfl
        rotate_left
        · simp only [Act.put, List.setIfInBounds_toArray, List.set_cons_zero, List.set_cons_succ, i64_w, i32_w]
          rfl
        refine pure_ (i := 5) (N := some 57) (v := ?_) (a' := ?_) #[true, true, true, true, false, true, false, false, false, false, false, false, false, false, false, false, false, false, false, false, false, false] rfl rfl (by kernel_rfl) (by first | exact fun _ _ _ h => h | exact fun _ _ _ h => HX.pan (put_defers _ _ _).symm h) (Or.inl ⟨by rfl, ?_⟩) ?_ ?_
        rotate_left
        · intro w'
          go_simp
          with_reducible rfl
        rotate_left
        · simp only [Act.put, List.setIfInBounds_toArray, List.set_cons_zero, List.set_cons_succ, i64_w, i32_w]
          rfl
        refine pure_ (i := 6) (N := some 58) (v := ?_) (a' := ?_) #[true, true, true, true, false, true, true, false, false, false, false, false, false, false, false, false, false, false, false, false, false, false] rfl rfl (by kernel_rfl) (by first | exact fun _ _ _ h => h | exact fun _ _ _ h => HX.pan (put_defers _ _ _).symm h) (Or.inl ⟨by rfl, ?_⟩) ?_ ?_
        rotate_left
        · intro w'
          go_simp
          with_reducible rfl
        rotate_left
        · simp only [Act.put, List.setIfInBounds_toArray, List.set_cons_zero, List.set_cons_succ, i64_w, i32_w]
          rfl
        refine pure_ (i := 7) (N := some 59) (v := ?_) (a' := ?_) #[true, true, true, true, false, true, true, true, false, false, false, false, false, false, false, false, false, false, false, false, false, false] rfl rfl (by kernel_rfl) (by first | exact fun _ _ _ h => h | exact fun _ _ _ h => HX.pan (put_defers _ _ _).symm h) (Or.inl ⟨by rfl, ?_⟩) ?_ ?_
        rotate_left
        · intro w'
          go_simp
          with_reducible rfl
        rotate_left
        · simp only [Act.put, List.setIfInBounds_toArray, List.set_cons_zero, List.set_cons_succ, i64_w, i32_w]
          rfl
        refine pure_ (i := 9) (N := some 61) (v := ?_) (a' := ?_) #[true, true, true, true, false, true, true, true, false, true, false, false, false, false, false, false, false, false, false, false, false, false] rfl rfl (by kernel_rfl) (by first | exact fun _ _ _ h => h | exact fun _ _ _ h => HX.pan (put_defers _ _ _).symm h) (Or.inl ⟨by rfl, ?_⟩) ?_ ?_
        rotate_left
        · intro w'
          go_simp
          with_reducible rfl
        rotate_left
        · simp only [Act.put, List.setIfInBounds_toArray, List.set_cons_zero, List.set_cons_succ, i64_w, i32_w]
          rfl
        refine pure_ (i := 10) (N := some 62) (v := ?_) (a' := ?_) #[true, true, true, true, false, true, true, true, false, true, true, false, false, false, false, false, false, false, false, false, false, false] rfl rfl (by kernel_rfl) (by first | exact fun _ _ _ h => h | exact fun _ _ _ h => HX.pan (put_defers _ _ _).symm h) (Or.inl ⟨by rfl, ?_⟩) ?_ ?_
        rotate_left
        · intro w'
          go_simp
          with_reducible rfl
        rotate_left
        · simp only [Act.put, List.setIfInBounds_toArray, List.set_cons_zero, List.set_cons_succ, i64_w, i32_w]
          rfl
        refine pure_ (i := 11) (N := some 63) (v := ?_) (a' := ?_) #[true, true, true, true, false, true, true, true, false, true, true, true, false, false, false, false, false, false, false, false, false, false] rfl rfl (by kernel_rfl) (by first | exact fun _ _ _ h => h | exact fun _ _ _ h => HX.pan (put_defers _ _ _).symm h) (Or.inl ⟨by rfl, ?_⟩) ?_ ?_
        rotate_left
        · intro w'
          go_simp
          with_reducible rfl
        rotate_left
        · simp only [Act.put, List.setIfInBounds_toArray, List.set_cons_zero, List.set_cons_succ, i64_w, i32_w]
          rfl
        refine pure_ (i := 12) (N := some 64) (v := ?_) (a' := ?_) #[true, true, true, true, false, true, true, true, false, true, true, true, true, false, false, false, false, false, false, false, false, false] rfl rfl (by kernel_rfl) (by first | exact fun _ _ _ h => h | exact fun _ _ _ h => HX.pan (put_defers _ _ _).symm h) (Or.inl ⟨by rfl, ?_⟩) ?_ ?_
        rotate_left
        · intro w'
          go_simp
          with_reducible rfl
        rotate_left
        · simp only [Act.put, List.setIfInBounds_toArray, List.set_cons_zero, List.set_cons_succ, i64_w, i32_w]
          rfl
        refine take_ (i := 4) (N := some 56) (v := ?_) (a' := ?_) #[true, true, true, true, true, true, true, true, false, true, true, true, true, false, false, false, false, false, false, false, false, false] rfl rfl (by kernel_rfl) (by first | exact fun _ _ _ h => h | exact fun _ _ _ h => HX.pan (put_defers _ _ _).symm h) (Or.inl ⟨by rfl, ?_⟩) hHeld ?_ ?_
        rotate_left
        · rintro w' ⟨s0, s1, s2, s3⟩
          go_simp
          with_reducible rfl
        rotate_left
        · simp only [Act.put, List.setIfInBounds_toArray, List.set_cons_zero, List.set_cons_succ, i64_w, i32_w]
          rfl
        refine take_ (i := 8) (N := some 60) (v := ?_) (a' := ?_) #[true, true, true, true, true, true, true, true, true, true, true, true, true, false, false, false, false, false, false, false, false, false] rfl rfl (by kernel_rfl) (by first | exact fun _ _ _ h => h | exact fun _ _ _ h => HX.pan (put_defers _ _ _).symm h) (Or.inl ⟨by rfl, ?_⟩) hHeld ?_ ?_
        rotate_left
        · rintro w' ⟨s0, s1, s2, s3⟩
          go_simp
          with_reducible rfl
        rotate_left
        · simp only [Act.put, List.setIfInBounds_toArray, List.set_cons_zero, List.set_cons_succ, i64_w, i32_w]
          rfl
        refine take_ (i := 13) (N := some 65) (v := ?_) (a' := ?_) #[true, true, true, true, true, true, true, true, true, true, true, true, true, true, false, false, false, false, false, false, false, false] rfl rfl (by kernel_rfl) (by first | exact fun _ _ _ h => h | exact fun _ _ _ h => HX.pan (put_defers _ _ _).symm h) (Or.inl ⟨by rfl, ?_⟩) hHeld ?_ ?_
        rotate_left
        · rintro w' ⟨s0, s1, s2, s3⟩
          go_simp
          with_reducible rfl
        rotate_left
        · simp only [Act.put, List.setIfInBounds_toArray, List.set_cons_zero, List.set_cons_succ, i64_w, i32_w]
          rfl
        refine pure_ (i := 14) (N := some 66) (v := ?_) (a' := ?_) #[true, true, true, true, true, true, true, true, true, true, true, true, true, true, true, false, false, false, false, false, false, false] rfl rfl (by kernel_rfl) (by first | exact fun _ _ _ h => h | exact fun _ _ _ h => HX.pan (put_defers _ _ _).symm h) (Or.inl ⟨by rfl, ?_⟩) ?_ ?_
        rotate_left
        · intro w'
          go_simp
          with_reducible rfl
        rotate_left
        · simp only [Act.put, List.setIfInBounds_toArray, List.set_cons_zero, List.set_cons_succ, i64_w, i32_w]
          rfl
        refine take_ (i := 15) (N := some 67) (v := ?_) (a' := ?_) #[true, true, true, true, true, true, true, true, true, true, true, true, true, true, true, true, false, false, false, false, false, false] rfl rfl (by kernel_rfl) (by first | exact fun _ _ _ h => h | exact fun _ _ _ h => HX.pan (put_defers _ _ _).symm h) (Or.inl ⟨by rfl, ?_⟩) hHeld ?_ ?_
        rotate_left
        · rintro w' ⟨s0, s1, s2, s3⟩
          go_simp
          with_reducible rfl
        rotate_left
        · simp only [Act.put, List.setIfInBounds_toArray, List.set_cons_zero, List.set_cons_succ, i64_w, i32_w]
          rfl
        refine pure_ (i := 16) (N := some 68) (v := ?_) (a' := ?_) #[true, true, true, true, true, true, true, true, true, true, true, true, true, true, true, true, true, false, false, false, false, false] rfl rfl (by kernel_rfl) (by first | exact fun _ _ _ h => h | exact fun _ _ _ h => HX.pan (put_defers _ _ _).symm h) (Or.inl ⟨by rfl, ?_⟩) ?_ ?_
        rotate_left
        · intro w'
          go_simp
          with_reducible rfl
        rotate_left
        · simp only [Act.put, List.setIfInBounds_toArray, List.set_cons_zero, List.set_cons_succ, i64_w, i32_w]
          rfl
        refine one_ (i := 17) (N := some 69) #[true, true, true, true, true, true, true, true, true, true, true, true, true, true, true, true, true, true, false, false, false, false] rfl rfl (by kernel_rfl) (by decide) (fun K hK => ?_)
        refine value_ (w1 := ?_) (v := ?_) (by rfl) rfl ?_ ?_
        rotate_left 2
        · go_simp
          constructor
          · rfl
          · rfl
        refine hK.out _ _ ⟨(LxI.cell0 (by repeat (first | exact HI.out | apply LxI.drewN | apply LxI.drew | apply LxI.setAt | apply LxI.alloc))), (LxI.cell1 (by repeat (first | exact HI.out | apply LxI.drewN | apply LxI.drew | apply LxI.setAt | apply LxI.alloc))), (LxI.cell2 (by repeat (first | exact HI.out | apply LxI.drewN | apply LxI.drew | apply LxI.setAt | apply LxI.alloc))), (Hcm.out _ (LxI.below (by repeat (first | exact HI.out | apply LxI.drewN | apply LxI.drew | apply LxI.setAt | apply LxI.alloc))))⟩ (fun hHeld => ?_)
        clear hK K
        refine norm_ (a' := ?_) ?_ ?_
        rotate_left
        · show Act.put _ (some 69) _ = _
          simp only [Act.put, List.setIfInBounds_toArray, List.set_cons_zero, List.set_cons_succ, i64_w, i32_w]
          rfl
        refine last_ (i := 18) (N := some 70) #[true, true, true, true, true, true, true, true, true, true, true, true, true, true, true, true, true, true, true, false, false, false] rfl rfl (by kernel_rfl) (by decide) (fun K hK => ?_)
        (repeat first | rw [drew_alloc] | rw [drewN_alloc])
        refine Kd.R_append_step kTk (w0 := w0) w0.heap.size ?_ (.tmp 56) (.tmp 69) 24 31 (.agg #[.int .i64 0, .string ⟨#[]⟩]) 24 ?_ Tryd.underlying24 infoTk rfl (by decide) (by omega) v toks ⟨1, (strOfNums ((line.take z.toNat).drop z0.toNat))⟩ [.int .i64 1, .string (strOfNums ((line.take z.toNat).drop z0.toNat))] (fun k => k ≠ b) (fun _ => False) ?_ ?_ ?_ (fun _ hk => hk.elim) ?_ ?_ ?_ ?_ ?_ ?_
        · rfl
        · rfl
        · rfl
        · first | rfl | (show Value.slice _ _ _ = Value.slice _ _ _; simp)
        · exact k31_mkM _ _ _ _
        · exact LxI.fresh (by repeat (first | exact HI.out | apply LxI.drewN | apply LxI.drew | apply LxI.setAt | apply LxI.alloc))
        · exact LxI.row (by repeat (first | exact HI.out | apply LxI.drewN | apply LxI.drew | apply LxI.setAt | apply LxI.alloc))
        · exact LxI.below (by repeat (first | exact HI.out | apply LxI.drewN | apply LxI.drew | apply LxI.setAt | apply LxI.alloc))
        · exact (LxI.below (by repeat (first | exact HI.out | apply LxI.drewN | apply LxI.drew | apply LxI.setAt | apply LxI.alloc))).size
        · omega
        intro v1 w1 hr hb hg hat
        obtain ⟨n1_, A1_, c1_, ev1_⟩ : ∃ n A1 c1, v1 = .slice A1 n c1 := by obtain ⟨A1, c1, e⟩ := Kd.R_slice hr; exact ⟨_, A1, c1, e⟩
        subst ev1_
        have HPush := Aside0.mk (LxI.push (by repeat (first | exact HI.out | apply LxI.drewN | apply LxI.drew | apply LxI.setAt | apply LxI.alloc)) hr hb hg)
        have HBk := Aside0.mk (LxI.kept hg (by repeat (first | exact HI.out | apply LxI.drewN | apply LxI.drew | apply LxI.setAt | apply LxI.alloc)))
        clear hr hb hg hat
        refine hK.out _ _ ?_
        clear hK K
        refine norm_ (a' := ?_) ?_ ?_
        rotate_left
        · show Act.put _ (some 70) _ = _
          simp only [Act.put, List.setIfInBounds_toArray, List.set_cons_zero, List.set_cons_succ, i64_w, i32_w]
          rfl
        refine pure_ (i := 19) (N := some 71) (v := ?_) (a' := ?_) #[true, true, true, true, true, true, true, true, true, true, true, true, true, true, true, true, true, true, true, true, false, false] rfl rfl (by kernel_rfl) (by first | exact fun _ _ _ h => h | exact fun _ _ _ h => HX.pan (put_defers _ _ _).symm h) (Or.inl ⟨by rfl, ?_⟩) ?_ ?_
        rotate_left
        · intro w'
          go_simp
          with_reducible rfl
        rotate_left
        · simp only [Act.put, List.setIfInBounds_toArray, List.set_cons_zero, List.set_cons_succ, i64_w, i32_w]
          rfl
        refine pure_ (i := 20) (N := some 72) (v := ?_) (a' := ?_) #[true, true, true, true, true, true, true, true, true, true, true, true, true, true, true, true, true, true, true, true, true, false] rfl rfl (by kernel_rfl) (by first | exact fun _ _ _ h => h | exact fun _ _ _ h => HX.pan (put_defers _ _ _).symm h) (Or.inl ⟨by rfl, ?_⟩) ?_ ?_
        rotate_left
        · intro w'
          go_simp
          with_reducible rfl
        rotate_left
        · simp only [Act.put, List.setIfInBounds_toArray, List.set_cons_zero, List.set_cons_succ, i64_w, i32_w]
          rfl
        refine last_ (i := 21) (N := none) #[true, true, true, true, true, true, true, true, true, true, true, true, true, true, true, true, true, true, true, true, true, true] rfl rfl (by kernel_rfl) (by decide) (fun K hK => ?_)
        have hb0_ := blk_cell HBk.out 0
        have hb1_ := blk_frozen HBk.out 0
        refine skip_ (w1 := ?_) (by rfl) rfl ?_ ?_
        rotate_left
        · go_simp
          rfl
        refine hK.out _ _ ?_
        clear hK K
        refine done_ (by kernel_rfl) ?_
        go_wp2
        (try simp only [Exit.then, Exit.inBlock])
        refine HX.ret ?_
        go_ret
        unfold APost
        rw [Hres.out]
        refine ⟨rfl, ?_⟩
        rw [show z0 + ((z.toNat - z0.toNat : Nat) : Int) = z by omega, show z0.toNat + (z.toNat - z0.toNat) = z.toNat by omega]
        exact ⟨_, HPush.out⟩
    | succ g =>
      have hlt : z < (line.length : Int) := by omega
      have hzz : 0 ≤ z := by omega
      have hb1 : decide (z < (line.length : Int)) = true := decide_eq_true (by omega)
      obtain ⟨ad, rfl, hadb, hch⟩ := HI.out.char z.toNat (by omega)
      have hadn : ad.block ≠ b := by have := HI.out.bge; omega
      have hfar := fun (W : World) (u : Value) (j : Nat) => far_cell hadn W u 2 j
      clear hadn hadb
      obtain ⟨ch, hche⟩ : ∃ ch, line.getD z.toNat 0 = ch := ⟨_, rfl⟩
      rw [hche] at hch
      have p1 : (0 ≤ z) = True := eq_true hzz
      have q1 : (z < (line.length : Int)) = True := eq_true hlt
      go_wp2
      refine start_ (n := 10) (S := fun w' => w'.cell? ⟨b, 1, none⟩ = some (.slice (some ad) line.length c) ∧ w'.cell? ⟨b, 2, none⟩ = some (.int .i64 z)) (ds := []) #[false, false, false, false, false, false, false, false, false, false] (by kernel_rfl) rfl rfl ⟨(LxI.cell1 (by repeat (first | exact HI.out | apply LxI.drewN | apply LxI.drew | apply LxI.setAt | apply LxI.alloc))), (LxI.cell2 (by repeat (first | exact HI.out | apply LxI.drewN | apply LxI.drew | apply LxI.setAt | apply LxI.alloc)))⟩ (fun hHeld => ?_)
      refine pure_ (i := 0) (N := some 10) (v := ?_) (a' := ?_) #[true, false, false, false, false, false, false, false, false, false] rfl rfl (by kernel_rfl) (by first | exact fun _ _ _ h => h | exact fun _ _ _ h => HX.pan (put_defers _ _ _).symm h) (Or.inl ⟨by rfl, ?_⟩) ?_ ?_
      rotate_left
      · intro w'
        go_simp
        with_reducible rfl
      rotate_left
      · simp only [Act.put, List.setIfInBounds_toArray, List.set_cons_zero, List.set_cons_succ, i64_w, i32_w]
        rfl
      refine pure_ (i := 1) (N := some 11) (v := ?_) (a' := ?_) #[true, true, false, false, false, false, false, false, false, false] rfl rfl (by kernel_rfl) (by first | exact fun _ _ _ h => h | exact fun _ _ _ h => HX.pan (put_defers _ _ _).symm h) (Or.inl ⟨by rfl, ?_⟩) ?_ ?_
      rotate_left
      · intro w'
        go_simp
        with_reducible rfl
      rotate_left
      · simp only [Act.put, List.setIfInBounds_toArray, List.set_cons_zero, List.set_cons_succ, i64_w, i32_w]
        rfl
      refine pure_ (i := 2) (N := some 12) (v := ?_) (a' := ?_) #[true, true, true, false, false, false, false, false, false, false] rfl rfl (by kernel_rfl) (by first | exact fun _ _ _ h => h | exact fun _ _ _ h => HX.pan (put_defers _ _ _).symm h) (Or.inl ⟨by rfl, ?_⟩) ?_ ?_
      rotate_left
      · intro w'
        go_simp
        with_reducible rfl
      rotate_left
      · simp only [Act.put, List.setIfInBounds_toArray, List.set_cons_zero, List.set_cons_succ, i64_w, i32_w]
        rfl
      refine pure_ (i := 4) (N := some 14) (v := ?_) (a' := ?_) #[true, true, true, false, true, false, false, false, false, false] rfl rfl (by kernel_rfl) (by first | exact fun _ _ _ h => h | exact fun _ _ _ h => HX.pan (put_defers _ _ _).symm h) (Or.inl ⟨by rfl, ?_⟩) ?_ ?_
      rotate_left
      · intro w'
        go_simp
        with_reducible rfl
      rotate_left
      · simp only [Act.put, List.setIfInBounds_toArray, List.set_cons_zero, List.set_cons_succ, i64_w, i32_w]
        rfl
      refine pure_ (i := 5) (N := some 15) (v := ?_) (a' := ?_) #[true, true, true, false, true, true, false, false, false, false] rfl rfl (by kernel_rfl) (by first | exact fun _ _ _ h => h | exact fun _ _ _ h => HX.pan (put_defers _ _ _).symm h) (Or.inl ⟨by rfl, ?_⟩) ?_ ?_
      rotate_left
      · intro w'
        go_simp
        with_reducible rfl
      rotate_left
      · simp only [Act.put, List.setIfInBounds_toArray, List.set_cons_zero, List.set_cons_succ, i64_w, i32_w]
        rfl
      refine pure_ (i := 6) (N := some 16) (v := ?_) (a' := ?_) #[true, true, true, false, true, true, true, false, false, false] rfl rfl (by kernel_rfl) (by first | exact fun _ _ _ h => h | exact fun _ _ _ h => HX.pan (put_defers _ _ _).symm h) (Or.inl ⟨by rfl, ?_⟩) ?_ ?_
      rotate_left
      · intro w'
        go_simp
        with_reducible rfl
      rotate_left
      · simp only [Act.put, List.setIfInBounds_toArray, List.set_cons_zero, List.set_cons_succ, i64_w, i32_w]
        rfl
      refine take_ (i := 3) (N := some 13) (v := ?_) (a' := ?_) #[true, true, true, true, true, true, true, false, false, false] rfl rfl (by kernel_rfl) (by first | exact fun _ _ _ h => h | exact fun _ _ _ h => HX.pan (put_defers _ _ _).symm h) (Or.inl ⟨by rfl, ?_⟩) hHeld ?_ ?_
      rotate_left
      · rintro w' ⟨s0, s1⟩
        go_simp
        with_reducible rfl
      rotate_left
      · simp only [Act.put, List.setIfInBounds_toArray, List.set_cons_zero, List.set_cons_succ, i64_w, i32_w]
        rfl
      refine take_ (i := 7) (N := some 17) (v := ?_) (a' := ?_) #[true, true, true, true, true, true, true, true, false, false] rfl rfl (by kernel_rfl) (by first | exact fun _ _ _ h => h | exact fun _ _ _ h => HX.pan (put_defers _ _ _).symm h) (Or.inl ⟨by rfl, ?_⟩) hHeld ?_ ?_
      rotate_left
      · rintro w' ⟨s0, s1⟩
        go_simp
        with_reducible rfl
      rotate_left
      · simp only [Act.put, List.setIfInBounds_toArray, List.set_cons_zero, List.set_cons_succ, i64_w, i32_w]
        rfl
      refine pure_ (i := 8) (N := some 18) (v := ?_) (a' := ?_) #[true, true, true, true, true, true, true, true, true, false] rfl rfl (by kernel_rfl) (by first | exact fun _ _ _ h => h | exact fun _ _ _ h => HX.pan (put_defers _ _ _).symm h) (Or.inl ⟨by rfl, ?_⟩) ?_ ?_
      rotate_left
      · intro w'
        go_simp
        with_reducible rfl
      rotate_left
      · simp only [Act.put, List.setIfInBounds_toArray, List.set_cons_zero, List.set_cons_succ, i64_w, i32_w]
        rfl
      refine pure_ (i := 9) (N := some 19) (v := ?_) (a' := ?_) #[true, true, true, true, true, true, true, true, true, true] rfl rfl (by kernel_rfl) (by first | exact fun _ _ _ h => h | exact fun _ _ _ h => HX.pan (put_defers _ _ _).symm h) (Or.inl ⟨by rfl, ?_⟩) ?_ ?_
      rotate_left
      · intro w'
        go_simp
        with_reducible rfl
      rotate_left
      · simp only [Act.put, List.setIfInBounds_toArray, List.set_cons_zero, List.set_cons_succ, i64_w, i32_w]
        rfl
      refine done_ (by kernel_rfl) ?_
      go_wp2
      refine start_ (n := 11) (S := fun w' => w'.cell? ⟨b, 1, none⟩ = some (.slice (some ad) line.length c) ∧ w'.cell? ⟨b, 2, none⟩ = some (.int .i64 z) ∧ w'.cell? (ad.add z.toNat) = some (.int .u8 ch)) (ds := []) #[false, false, false, false, false, false, false, false, false, false, false] (by kernel_rfl) rfl rfl ⟨(LxI.cell1 (by repeat (first | exact HI.out | apply LxI.drewN | apply LxI.drew | apply LxI.setAt | apply LxI.alloc))), (LxI.cell2 (by repeat (first | exact HI.out | apply LxI.drewN | apply LxI.drew | apply LxI.setAt | apply LxI.alloc))), hch⟩ (fun hHeld => ?_)
      refine pure_ (i := 0) (N := some 20) (v := ?_) (a' := ?_) #[true, false, false, false, false, false, false, false, false, false, false] rfl rfl (by kernel_rfl) (by first | exact fun _ _ _ h => h | exact fun _ _ _ h => HX.pan (put_defers _ _ _).symm h) (Or.inl ⟨by rfl, ?_⟩) ?_ ?_
      rotate_left
      · intro w'
        go_simp
        with_reducible rfl
      rotate_left
      · simp only [Act.put, List.setIfInBounds_toArray, List.set_cons_zero, List.set_cons_succ, i64_w, i32_w]
        rfl
      refine pure_ (i := 1) (N := some 21) (v := ?_) (a' := ?_) #[true, true, false, false, false, false, false, false, false, false, false] rfl rfl (by kernel_rfl) (by first | exact fun _ _ _ h => h | exact fun _ _ _ h => HX.pan (put_defers _ _ _).symm h) (Or.inl ⟨by rfl, ?_⟩) ?_ ?_
      rotate_left
      · intro w'
        go_simp
        with_reducible rfl
      rotate_left
      · simp only [Act.put, List.setIfInBounds_toArray, List.set_cons_zero, List.set_cons_succ, i64_w, i32_w]
        rfl
      refine pure_ (i := 2) (N := some 22) (v := ?_) (a' := ?_) #[true, true, true, false, false, false, false, false, false, false, false] rfl rfl (by kernel_rfl) (by first | exact fun _ _ _ h => h | exact fun _ _ _ h => HX.pan (put_defers _ _ _).symm h) (Or.inl ⟨by rfl, ?_⟩) ?_ ?_
      rotate_left
      · intro w'
        go_simp
        with_reducible rfl
      rotate_left
      · simp only [Act.put, List.setIfInBounds_toArray, List.set_cons_zero, List.set_cons_succ, i64_w, i32_w]
        rfl
      refine pure_ (i := 4) (N := some 24) (v := ?_) (a' := ?_) #[true, true, true, false, true, false, false, false, false, false, false] rfl rfl (by kernel_rfl) (by first | exact fun _ _ _ h => h | exact fun _ _ _ h => HX.pan (put_defers _ _ _).symm h) (Or.inl ⟨by rfl, ?_⟩) ?_ ?_
      rotate_left
      · intro w'
        go_simp
        with_reducible rfl
      rotate_left
      · simp only [Act.put, List.setIfInBounds_toArray, List.set_cons_zero, List.set_cons_succ, i64_w, i32_w]
        rfl
      refine pure_ (i := 5) (N := some 25) (v := ?_) (a' := ?_) #[true, true, true, false, true, true, false, false, false, false, false] rfl rfl (by kernel_rfl) (by first | exact fun _ _ _ h => h | exact fun _ _ _ h => HX.pan (put_defers _ _ _).symm h) (Or.inl ⟨by rfl, ?_⟩) ?_ ?_
      rotate_left
      · intro w'
        go_simp
        with_reducible rfl
      rotate_left
      · simp only [Act.put, List.setIfInBounds_toArray, List.set_cons_zero, List.set_cons_succ, i64_w, i32_w]
        rfl
      refine pure_ (i := 6) (N := some 26) (v := ?_) (a' := ?_) #[true, true, true, false, true, true, true, false, false, false, false] rfl rfl (by kernel_rfl) (by first | exact fun _ _ _ h => h | exact fun _ _ _ h => HX.pan (put_defers _ _ _).symm h) (Or.inl ⟨by rfl, ?_⟩) ?_ ?_
      rotate_left
      · intro w'
        go_simp
        with_reducible rfl
      rotate_left
      · simp only [Act.put, List.setIfInBounds_toArray, List.set_cons_zero, List.set_cons_succ, i64_w, i32_w]
        rfl
      refine take_ (i := 3) (N := some 23) (v := ?_) (a' := ?_) #[true, true, true, true, true, true, true, false, false, false, false] rfl rfl (by kernel_rfl) (by first | exact fun _ _ _ h => h | exact fun _ _ _ h => HX.pan (put_defers _ _ _).symm h) (Or.inl ⟨by rfl, ?_⟩) hHeld ?_ ?_
      rotate_left
      · rintro w' ⟨s0, s1, s2⟩
        go_simp
        with_reducible rfl
      rotate_left
      · simp only [Act.put, List.setIfInBounds_toArray, List.set_cons_zero, List.set_cons_succ, i64_w, i32_w]
        rfl
      refine take_ (i := 7) (N := some 27) (v := ?_) (a' := ?_) #[true, true, true, true, true, true, true, true, false, false, false] rfl rfl (by kernel_rfl) (by first | exact fun _ _ _ h => h | exact fun _ _ _ h => HX.pan (put_defers _ _ _).symm h) (Or.inl ⟨by rfl, ?_⟩) hHeld ?_ ?_
      rotate_left
      · rintro w' ⟨s0, s1, s2⟩
        go_simp
        with_reducible rfl
      rotate_left
      · simp only [Act.put, List.setIfInBounds_toArray, List.set_cons_zero, List.set_cons_succ, i64_w, i32_w]
        rfl
      refine pure_ (i := 8) (N := some 28) (v := ?_) (a' := ?_) #[true, true, true, true, true, true, true, true, true, false, false] rfl rfl (by kernel_rfl) (by first | exact fun _ _ _ h => h | exact fun _ _ _ h => HX.pan (put_defers _ _ _).symm h) (Or.inl ⟨by rfl, ?_⟩) ?_ ?_
      rotate_left
      · intro w'
        go_simp
        with_reducible rfl
      rotate_left
      · simp only [Act.put, List.setIfInBounds_toArray, List.set_cons_zero, List.set_cons_succ, i64_w, i32_w]
        rfl
      refine take_ (i := 9) (N := some 29) (v := ?_) (a' := ?_) #[true, true, true, true, true, true, true, true, true, true, false] rfl rfl (by kernel_rfl) (by first | exact fun _ _ _ h => h | exact fun _ _ _ h => HX.pan (put_defers _ _ _).symm h) (Or.inl ⟨by rfl, ?_⟩) hHeld ?_ ?_
      rotate_left
      · rintro w' ⟨s0, s1, s2⟩
        go_simp
        with_reducible rfl
      rotate_left
      · simp only [Act.put, List.setIfInBounds_toArray, List.set_cons_zero, List.set_cons_succ, i64_w, i32_w]
        rfl
      refine pure_ (i := 10) (N := some 5) (v := ?_) (a' := ?_) #[true, true, true, true, true, true, true, true, true, true, true] rfl rfl (by kernel_rfl) (by first | exact fun _ _ _ h => h | exact fun _ _ _ h => HX.pan (put_defers _ _ _).symm h) (Or.inl ⟨by rfl, ?_⟩) ?_ ?_
      rotate_left
      · intro w'
        go_simp
        with_reducible rfl
      rotate_left
      · simp only [Act.put, List.setIfInBounds_toArray, List.set_cons_zero, List.set_cons_succ, i64_w, i32_w]
        rfl
      refine done_ (by kernel_rfl) ?_
      go_wp2_with (fail)
      by_cases ht : 32 ≤ ch ∧ ch ≤ 126
      · obtain ⟨ht1, ht2⟩ := ht
        refine (isText_yes _ ht1 ht2 _).mono ?_
        rintro e w' ⟨rfl, rfl⟩
        cases inn with
        | true =>
          have HQ2 := Aside0.mk (AInv.in_ HQ.out (by omega) (by rw [hche]; exact ht1) (by rw [hche]; exact ht2))
          rw [hche] at HQ2
          clear hche
          obtain ⟨fl, hfl⟩ : ∃ fl : Bool, (ch != (93 : Int)) = fl := ⟨_, rfl⟩
          have Hfl : decide (ch ≠ 93) = fl := by rw [← hfl]; by_cases h : ch = 93 <;> simp [h]
          rw [Hfl] at HQ2
          clear Hfl
          go_wp2
          go_step3
          (try simp only [Exit.then, Exit.inBlock])
          exact HX.again (Handed.intro (line.length - (z + 1).toNat) (by omega) (hJ.out _ _ _ ⟨⟨z + 1, fl, by omega, by omega, ⟨by rw [show (z + 1).toNat = z.toNat + 1 by omega]; exact HQ2.out⟩, ⟨(by repeat (first | exact HI.out | apply LxI.drewN | apply LxI.drew | apply LxI.setAt | apply LxI.alloc))⟩, rfl, rfl⟩, frame73 _ _ rfl rfl rfl⟩))
        | false =>
          by_cases hsp : ch = 32 ∨ ch = 40 ∨ ch = 41 ∨ ch = 34
          · have Hres := Aside0.mk (AInv.stop HQ.out (by omega) (by rw [hche]; exact ht1) (by rw [hche]; exact ht2) (by rw [hche]; exact hsp))
            clear hche
            go_wp2_with (fail)
            refine (idx_yes _ ht1 ht2 hsp _).mono ?_
            rintro e w' ⟨⟨ni, rfl, hni⟩, rfl⟩
            have hnd : decide (0 ≤ ni) = true := decide_eq_true hni
            clear hsp
            go_wp2
            go_step3
            (try simp only [Exit.then, Exit.inBlock])
            first | refine HX.jump (by decide) rfl ?_ | refine HX.jump rfl ?_
            go_wp2
            repeat (go_step3; go_wp2)
            obtain ⟨i0_, hi0_, hsz0_⟩ := Option.map_eq_some_iff.1 (show (Tryd.prog.info? 5).map (fun i => i.size) = some 1 by kernel_rfl)
            have hcut := cut_mid (P := Tryd.prog) 23 5 .i64 .i64 Tryd.underlying23 hi0_ 1 hsz0_ (some ad) line.length c z0 z hst hz (by omega) HI.out.cap
            have hcm := fun W (hW : Below w0.heap.size w0 W) => Kd.C_string (P := Tryd.prog) (src := 23) (dst := 9) (c := c - z0.toNat) Tryd.underlying23 Tryd.underlying5 Tryd.underlying9 (Kd.C_below (Kd.C_mid (lo := z0.toNat) (hi := z.toNat) HI.out.line_ (by omega) (by omega) HI.out.cap) hW)
            have hll : ((line.take z.toNat).drop z0.toNat).length = z.toNat - z0.toNat := by rw [List.length_drop, List.length_take]; omega
            have hsz : (Kd.int .u8).sz = 1 := rfl
            rw [hsz, hll] at hcm
            clear hsz hll hi0_ hsz0_
            generalize (if c = z0.toNat then (some ad) else ((some ad)).map (·.add (z0.toNat * 1))) = Acut at hcut hcm
            have Hcm := Aside0.mk hcm
            clear hcm
            refine start_ (n := 22) (S := fun w' => w'.cell? ⟨b, 0, none⟩ = some v ∧ w'.cell? ⟨b, 1, none⟩ = some (.slice (some ad) line.length c) ∧ w'.cell? ⟨b, 2, none⟩ = some (.int .i64 z) ∧ (convert 23 9 (.slice Acut (z.toNat - z0.toNat) (c - z0.toNat))).run Tryd.prog w' = .ok (.string (strOfNums ((line.take z.toNat).drop z0.toNat))) w') (ds := [18, 21]) #[false, false, false, false, false, false, false, false, false, false, false, false, false, false, false, false, false, false, false, false, false, false] (by kernel_rfl) rfl rfl ⟨(LxI.cell0 (by repeat (first | exact HI.out | apply LxI.drewN | apply LxI.drew | apply LxI.setAt | apply LxI.alloc))), (LxI.cell1 (by repeat (first | exact HI.out | apply LxI.drewN | apply LxI.drew | apply LxI.setAt | apply LxI.alloc))), (LxI.cell2 (by repeat (first | exact HI.out | apply LxI.drewN | apply LxI.drew | apply LxI.setAt | apply LxI.alloc))), (Hcm.out _ (LxI.below (by repeat (first | exact HI.out | apply LxI.drewN | apply LxI.drew | apply LxI.setAt | apply LxI.alloc))))⟩ (fun hHeld => ?_)
            refine pure_ (i := 0) (N := some 52) (v := ?_) (a' := ?_) #[true, false, false, false, false, false, false, false, false, false, false, false, false, false, false, false, false, false, false, false, false, false] rfl rfl (by kernel_rfl) (by first | exact fun _ _ _ h => h | exact fun _ _ _ h => HX.pan (put_defers _ _ _).symm h) (Or.inl ⟨by rfl, ?_⟩) ?_ ?_
            rotate_left
            · intro w'
              go_simp
              with_reducible rfl
            rotate_left
            · simp only [Act.put, List.setIfInBounds_toArray, List.set_cons_zero, List.set_cons_succ, i64_w, i32_w]
              rfl
            refine pure_ (i := 1) (N := some 53) (v := ?_) (a' := ?_) #[true, true, false, false, false, false, false, false, false, false, false, false, false, false, false, false, false, false, false, false, false, false] rfl rfl (by kernel_rfl) (by first | exact fun _ _ _ h => h | exact fun _ _ _ h => HX.pan (put_defers _ _ _).symm h) (Or.inl ⟨by rfl, ?_⟩) ?_ ?_
            rotate_left
            · intro w'
              go_simp
              with_reducible rfl
            rotate_left
            · simp only [Act.put, List.setIfInBounds_toArray, List.set_cons_zero, List.set_cons_succ, i64_w, i32_w]
              rfl
            refine pure_ (i := 2) (N := some 54) (v := ?_) (a' := ?_) #[true, true, true, false, false, false, false, false, false, false, false, false, false, false, false, false, false, false, false, false, false, false] rfl rfl (by kernel_rfl) (by first | exact fun _ _ _ h => h | exact fun _ _ _ h => HX.pan (put_defers _ _ _).symm h) (Or.inl ⟨by rfl, ?_⟩) ?_ ?_
            rotate_left
            · intro w'
              go_simp
              with_reducible rfl
            rotate_left
            · simp only [Act.put, List.setIfInBounds_toArray, List.set_cons_zero, List.set_cons_succ, i64_w, i32_w]
              rfl
            refine pure_ (i := 3) (N := some 55) (v := ?_) (a' := ?_) #[true, true, true, true, false, false, false, false, false, false, false, false, false, false, false, false, false, false, false, false, false, false] rfl rfl (by kernel_rfl) (by first | exact fun _ _ _ h => h | exact fun _ _ _ h => HX.pan (put_defers _ _ _).symm h) (Or.inl ⟨by rfl, ?_⟩) ?_ ?_
            rotate_left
            · intro w'
              go_simp
              with_reducible rfl
            rotate_left
            · simp only [Act.put, List.setIfInBounds_toArray, List.set_cons_zero, List.set_cons_succ, i64_w, i32_w]
              rfl
            refine pure_ (i := 5) (N := some 57) (v := ?_) (a' := ?_) #[true, true, true, true, false, true, false, false, false, false, false, false, false, false, false, false, false, false, false, false, false, false] rfl rfl (by kernel_rfl) (by first | exact fun _ _ _ h => h | exact fun _ _ _ h => HX.pan (put_defers _ _ _).symm h) (Or.inl ⟨by rfl, ?_⟩) ?_ ?_
            rotate_left
            · intro w'
              go_simp
              with_reducible rfl
            rotate_left
            · simp only [Act.put, List.setIfInBounds_toArray, List.set_cons_zero, List.set_cons_succ, i64_w, i32_w]
              rfl
            refine pure_ (i := 6) (N := some 58) (v := ?_) (a' := ?_) #[true, true, true, true, false, true, true, false, false, false, false, false, false, false, false, false, false, false, false, false, false, false] rfl rfl (by kernel_rfl) (by first | exact fun _ _ _ h => h | exact fun _ _ _ h => HX.pan (put_defers _ _ _).symm h) (Or.inl ⟨by rfl, ?_⟩) ?_ ?_
            rotate_left
            · intro w'
              go_simp
              with_reducible rfl
            rotate_left
            · simp only [Act.put, List.setIfInBounds_toArray, List.set_cons_zero, List.set_cons_succ, i64_w, i32_w]
              rfl
            refine pure_ (i := 7) (N := some 59) (v := ?_) (a' := ?_) #[true, true, true, true, false, true, true, true, false, false, false, false, false, false, false, false, false, false, false, false, false, false] rfl rfl (by kernel_rfl) (by first | exact fun _ _ _ h => h | exact fun _ _ _ h => HX.pan (put_defers _ _ _).symm h) (Or.inl ⟨by rfl, ?_⟩) ?_ ?_
            rotate_left
            · intro w'
              go_simp
              with_reducible rfl
            rotate_left
            · simp only [Act.put, List.setIfInBounds_toArray, List.set_cons_zero, List.set_cons_succ, i64_w, i32_w]
              rfl
            refine pure_ (i := 9) (N := some 61) (v := ?_) (a' := ?_) #[true, true, true, true, false, true, true, true, false, true, false, false, false, false, false, false, false, false, false, false, false, false] rfl rfl (by kernel_rfl) (by first | exact fun _ _ _ h => h | exact fun _ _ _ h => HX.pan (put_defers _ _ _).symm h) (Or.inl ⟨by rfl, ?_⟩) ?_ ?_
            rotate_left
            · intro w'
              go_simp
              with_reducible rfl
            rotate_left
            · simp only [Act.put, List.setIfInBounds_toArray, List.set_cons_zero, List.set_cons_succ, i64_w, i32_w]
              rfl
            refine pure_ (i := 10) (N := some 62) (v := ?_) (a' := ?_) #[true, true, true, true, false, true, true, true, false, true, true, false, false, false, false, false, false, false, false, false, false, false] rfl rfl (by kernel_rfl) (by first | exact fun _ _ _ h => h | exact fun _ _ _ h => HX.pan (put_defers _ _ _).symm h) (Or.inl ⟨by rfl, ?_⟩) ?_ ?_
            rotate_left
            · intro w'
              go_simp
              with_reducible rfl
            rotate_left
            · simp only [Act.put, List.setIfInBounds_toArray, List.set_cons_zero, List.set_cons_succ, i64_w, i32_w]
              rfl
            refine pure_ (i := 11) (N := some 63) (v := ?_) (a' := ?_) #[true, true, true, true, false, true, true, true, false, true, true, true, false, false, false, false, false, false, false, false, false, false] rfl rfl (by kernel_rfl) (by first | exact fun _ _ _ h => h | exact fun _ _ _ h => HX.pan (put_defers _ _ _).symm h) (Or.inl ⟨by rfl, ?_⟩) ?_ ?_
            rotate_left
            · intro w'
              go_simp
              with_reducible rfl
            rotate_left
            · simp only [Act.put, List.setIfInBounds_toArray, List.set_cons_zero, List.set_cons_succ, i64_w, i32_w]
              rfl
            refine pure_ (i := 12) (N := some 64) (v := ?_) (a' := ?_) #[true, true, true, true, false, true, true, true, false, true, true, true, true, false, false, false, false, false, false, false, false, false] rfl rfl (by kernel_rfl) (by first | exact fun _ _ _ h => h | exact fun _ _ _ h => HX.pan (put_defers _ _ _).symm h) (Or.inl ⟨by rfl, ?_⟩) ?_ ?_
            rotate_left
            · intro w'
              go_simp
              with_reducible rfl
            rotate_left
            · simp only [Act.put, List.setIfInBounds_toArray, List.set_cons_zero, List.set_cons_succ, i64_w, i32_w]
              rfl
            refine take_ (i := 4) (N := some 56) (v := ?_) (a' := ?_) #[true, true, true, true, true, true, true, true, false, true, true, true, true, false, false, false, false, false, false, false, false, false] rfl rfl (by kernel_rfl) (by first | exact fun _ _ _ h => h | exact fun _ _ _ h => HX.pan (put_defers _ _ _).symm h) (Or.inl ⟨by rfl, ?_⟩) hHeld ?_ ?_
            rotate_left
            · rintro w' ⟨s0, s1, s2, s3⟩
              go_simp
              with_reducible rfl
            rotate_left
            · simp only [Act.put, List.setIfInBounds_toArray, List.set_cons_zero, List.set_cons_succ, i64_w, i32_w]
              rfl
            refine take_ (i := 8) (N := some 60) (v := ?_) (a' := ?_) #[true, true, true, true, true, true, true, true, true, true, true, true, true, false, false, false, false, false, false, false, false, false] rfl rfl (by kernel_rfl) (by first | exact fun _ _ _ h => h | exact fun _ _ _ h => HX.pan (put_defers _ _ _).symm h) (Or.inl ⟨by rfl, ?_⟩) hHeld ?_ ?_
            rotate_left
            · rintro w' ⟨s0, s1, s2, s3⟩
              go_simp
              with_reducible rfl
            rotate_left
            · simp only [Act.put, List.setIfInBounds_toArray, List.set_cons_zero, List.set_cons_succ, i64_w, i32_w]
              rfl
            refine take_ (i := 13) (N := some 65) (v := ?_) (a' := ?_) #[true, true, true, true, true, true, true, true, true, true, true, true, true, true, false, false, false, false, false, false, false, false] rfl rfl (by kernel_rfl) (by first | exact fun _ _ _ h => h | exact fun _ _ _ h => HX.pan (put_defers _ _ _).symm h) (Or.inl ⟨by rfl, ?_⟩) hHeld ?_ ?_
            rotate_left
            · rintro w' ⟨s0, s1, s2, s3⟩
              go_simp
              with_reducible rfl
            rotate_left
            · simp only [Act.put, List.setIfInBounds_toArray, List.set_cons_zero, List.set_cons_succ, i64_w, i32_w]
              rfl
            refine pure_ (i := 14) (N := some 66) (v := ?_) (a' := ?_) #[true, true, true, true, true, true, true, true, true, true, true, true, true, true, true, false, false, false, false, false, false, false] rfl rfl (by kernel_rfl) (by first | exact fun _ _ _ h => h | exact fun _ _ _ h => HX.pan (put_defers _ _ _).symm h) (Or.inl ⟨by rfl, ?_⟩) ?_ ?_
            rotate_left
            · intro w'
              go_simp
              with_reducible rfl
            rotate_left
            · simp only [Act.put, List.setIfInBounds_toArray, List.set_cons_zero, List.set_cons_succ, i64_w, i32_w]
              rfl
            refine take_ (i := 15) (N := some 67) (v := ?_) (a' := ?_) #[true, true, true, true, true, true, true, true, true, true, true, true, true, true, true, true, false, false, false, false, false, false] rfl rfl (by kernel_rfl) (by first | exact fun _ _ _ h => h | exact fun _ _ _ h => HX.pan (put_defers _ _ _).symm h) (Or.inl ⟨by rfl, ?_⟩) hHeld ?_ ?_
            rotate_left
            · rintro w' ⟨s0, s1, s2, s3⟩
              go_simp
              with_reducible rfl
            rotate_left
            · simp only [Act.put, List.setIfInBounds_toArray, List.set_cons_zero, List.set_cons_succ, i64_w, i32_w]
              rfl
            refine pure_ (i := 16) (N := some 68) (v := ?_) (a' := ?_) #[true, true, true, true, true, true, true, true, true, true, true, true, true, true, true, true, true, false, false, false, false, false] rfl rfl (by kernel_rfl) (by first | exact fun _ _ _ h => h | exact fun _ _ _ h => HX.pan (put_defers _ _ _).symm h) (Or.inl ⟨by rfl, ?_⟩) ?_ ?_
            rotate_left
            · intro w'
              go_simp
              with_reducible rfl
            rotate_left
            · simp only [Act.put, List.setIfInBounds_toArray, List.set_cons_zero, List.set_cons_succ, i64_w, i32_w]
              rfl
            refine one_ (i := 17) (N := some 69) #[true, true, true, true, true, true, true, true, true, true, true, true, true, true, true, true, true, true, false, false, false, false] rfl rfl (by kernel_rfl) (by decide) (fun K hK => ?_)
            refine value_ (w1 := ?_) (v := ?_) (by rfl) rfl ?_ ?_
            rotate_left 2
            · go_simp
              constructor
              · rfl
              · rfl
            refine hK.out _ _ ⟨(LxI.cell0 (by repeat (first | exact HI.out | apply LxI.drewN | apply LxI.drew | apply LxI.setAt | apply LxI.alloc))), (LxI.cell1 (by repeat (first | exact HI.out | apply LxI.drewN | apply LxI.drew | apply LxI.setAt | apply LxI.alloc))), (LxI.cell2 (by repeat (first | exact HI.out | apply LxI.drewN | apply LxI.drew | apply LxI.setAt | apply LxI.alloc))), (Hcm.out _ (LxI.below (by repeat (first | exact HI.out | apply LxI.drewN | apply LxI.drew | apply LxI.setAt | apply LxI.alloc))))⟩ (fun hHeld => ?_)
            clear hK K
            refine norm_ (a' := ?_) ?_ ?_
            rotate_left
            · show Act.put _ (some 69) _ = _
              simp only [Act.put, List.setIfInBounds_toArray, List.set_cons_zero, List.set_cons_succ, i64_w, i32_w]
              rfl
            refine last_ (i := 18) (N := some 70) #[true, true, true, true, true, true, true, true, true, true, true, true, true, true, true, true, true, true, true, false, false, false] rfl rfl (by kernel_rfl) (by decide) (fun K hK => ?_)
            (repeat first | rw [drew_alloc] | rw [drewN_alloc])
            refine Kd.R_append_step kTk (w0 := w0) w0.heap.size ?_ (.tmp 56) (.tmp 69) 24 31 (.agg #[.int .i64 0, .string ⟨#[]⟩]) 24 ?_ Tryd.underlying24 infoTk rfl (by decide) (by omega) v toks ⟨1, (strOfNums ((line.take z.toNat).drop z0.toNat))⟩ [.int .i64 1, .string (strOfNums ((line.take z.toNat).drop z0.toNat))] (fun k => k ≠ b) (fun _ => False) ?_ ?_ ?_ (fun _ hk => hk.elim) ?_ ?_ ?_ ?_ ?_ ?_
            · rfl
            · rfl
            · rfl
            · first | rfl | (show Value.slice _ _ _ = Value.slice _ _ _; simp)
            · exact k31_mkM _ _ _ _
            · exact LxI.fresh (by repeat (first | exact HI.out | apply LxI.drewN | apply LxI.drew | apply LxI.setAt | apply LxI.alloc))
            · exact LxI.row (by repeat (first | exact HI.out | apply LxI.drewN | apply LxI.drew | apply LxI.setAt | apply LxI.alloc))
            · exact LxI.below (by repeat (first | exact HI.out | apply LxI.drewN | apply LxI.drew | apply LxI.setAt | apply LxI.alloc))
            · exact (LxI.below (by repeat (first | exact HI.out | apply LxI.drewN | apply LxI.drew | apply LxI.setAt | apply LxI.alloc))).size
            · omega
            intro v1 w1 hr hb hg hat
            obtain ⟨n1_, A1_, c1_, ev1_⟩ : ∃ n A1 c1, v1 = .slice A1 n c1 := by obtain ⟨A1, c1, e⟩ := Kd.R_slice hr; exact ⟨_, A1, c1, e⟩
            subst ev1_
            have HPush := Aside0.mk (LxI.push (by repeat (first | exact HI.out | apply LxI.drewN | apply LxI.drew | apply LxI.setAt | apply LxI.alloc)) hr hb hg)
            have HBk := Aside0.mk (LxI.kept hg (by repeat (first | exact HI.out | apply LxI.drewN | apply LxI.drew | apply LxI.setAt | apply LxI.alloc)))
            clear hr hb hg hat
            refine hK.out _ _ ?_
            clear hK K
            refine norm_ (a' := ?_) ?_ ?_
            rotate_left
            · show Act.put _ (some 70) _ = _
              simp only [Act.put, List.setIfInBounds_toArray, List.set_cons_zero, List.set_cons_succ, i64_w, i32_w]
              rfl
            refine pure_ (i := 19) (N := some 71) (v := ?_) (a' := ?_) #[true, true, true, true, true, true, true, true, true, true, true, true, true, true, true, true, true, true, true, true, false, false] rfl rfl (by kernel_rfl) (by first | exact fun _ _ _ h => h | exact fun _ _ _ h => HX.pan (put_defers _ _ _).symm h) (Or.inl ⟨by rfl, ?_⟩) ?_ ?_
            rotate_left
            · intro w'
              go_simp
              with_reducible rfl
            rotate_left
            · simp only [Act.put, List.setIfInBounds_toArray, List.set_cons_zero, List.set_cons_succ, i64_w, i32_w]
              rfl
            refine pure_ (i := 20) (N := some 72) (v := ?_) (a' := ?_) #[true, true, true, true, true, true, true, true, true, true, true, true, true, true, true, true, true, true, true, true, true, false] rfl rfl (by kernel_rfl) (by first | exact fun _ _ _ h => h | exact fun _ _ _ h => HX.pan (put_defers _ _ _).symm h) (Or.inl ⟨by rfl, ?_⟩) ?_ ?_
            rotate_left
            · intro w'
              go_simp
              with_reducible rfl
            rotate_left
            · simp only [Act.put, List.setIfInBounds_toArray, List.set_cons_zero, List.set_cons_succ, i64_w, i32_w]
              rfl
            refine last_ (i := 21) (N := none) #[true, true, true, true, true, true, true, true, true, true, true, true, true, true, true, true, true, true, true, true, true, true] rfl rfl (by kernel_rfl) (by decide) (fun K hK => ?_)
            have hb0_ := blk_cell HBk.out 0
            have hb1_ := blk_frozen HBk.out 0
            refine skip_ (w1 := ?_) (by rfl) rfl ?_ ?_
            rotate_left
            · go_simp
              rfl
            refine hK.out _ _ ?_
            clear hK K
            refine done_ (by kernel_rfl) ?_
            go_wp2
            (try simp only [Exit.then, Exit.inBlock])
            refine HX.ret ?_
            go_ret
            unfold APost
            rw [Hres.out]
            refine ⟨rfl, ?_⟩
            rw [show z0 + ((z.toNat - z0.toNat : Nat) : Int) = z by omega, show z0.toNat + (z.toNat - z0.toNat) = z.toNat by omega]
            exact ⟨_, HPush.out⟩
          · have HQ2 := Aside0.mk (AInv.out_ HQ.out (by omega) (by rw [hche]; exact ht1) (by rw [hche]; exact ht2) (by rw [hche]; exact hsp))
            rw [hche] at HQ2
            clear hche
            go_wp2_with (fail)
            refine (idx_no _ ht1 ht2 hsp _).mono ?_
            rintro e w' ⟨⟨ni, rfl, hni⟩, rfl⟩
            have hnd : decide (0 ≤ ni) = false := decide_eq_false hni
            clear hsp
            obtain ⟨fl, hfl⟩ : ∃ fl : Bool, (ch == (91 : Int)) = fl := ⟨_, rfl⟩
            have Hfl : decide (ch = 91) = fl := by rw [← hfl]; by_cases h : ch = 91 <;> simp [h]
            rw [Hfl] at HQ2
            clear Hfl
            go_wp2
            go_step3
            (try simp only [Exit.then, Exit.inBlock])
            exact HX.again (Handed.intro (line.length - (z + 1).toNat) (by omega) (hJ.out _ _ _ ⟨⟨z + 1, fl, by omega, by omega, ⟨by rw [show (z + 1).toNat = z.toNat + 1 by omega]; exact HQ2.out⟩, ⟨(by repeat (first | exact HI.out | apply LxI.drewN | apply LxI.drew | apply LxI.setAt | apply LxI.alloc))⟩, rfl, rfl⟩, frame73 _ _ rfl rfl rfl⟩))
      · have Hres := Aside0.mk (AInv.bad HQ.out (by omega) (by rw [hche]; exact ht))
        refine (isText_no _ ht _).mono ?_
        rintro e w' ⟨rfl, rfl⟩
        clear ht hche
        go_wp2
        (try simp only [Exit.then, Exit.inBlock])
        refine HX.ret ?_
        go_ret
        unfold APost
        rw [Hres.out]
        exact ⟨rfl, LxI.below (by repeat (first | exact HI.out | apply LxI.drewN | apply LxI.drew | apply LxI.setAt | apply LxI.alloc))⟩
end Go.Proofs.YtbdmhlocafpehaaDoor
