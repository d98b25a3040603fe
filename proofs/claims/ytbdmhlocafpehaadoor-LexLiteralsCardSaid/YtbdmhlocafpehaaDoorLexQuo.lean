/- The lexer's method that takes a string. -/
import Derived.Test.YtbdmhlocafpehaaDoorLexHand
namespace Go.Proofs.YtbdmhlocafpehaaDoor
open Go.RowKit Go.Proofs.YtbdmhlocafpehaaDoor.P Go.Proofs.YtbdmhlocafpehaaDoorW.PrintWords Go.Proofs.YtbdmhlocafpehaaDoorW.PrintLast Go.Proofs.YtbdmhlocafpehaaDoorW.PrintMore
set_option linter.unusedVariables false
set_option linter.unusedSimpArgs false
theorem drewN_alloc (w : World) (o : Obj) (n : Nat) : (w.alloc o).drewN n = (w.drewN n).alloc o := rfl
theorem drew_alloc (w : World) (o : Obj) : (w.alloc o).drew = w.drew.alloc o := rfl
theorem Hold_ {p : Prop} (h : Aside0 p) : p := h.out
theorem frame_list (l : List Value) (d : Value) : l = (List.range l.length).map fun i => l.getD i d := by
  refine List.ext_getElem? fun i => ?_
  rw [List.getElem?_map]
  by_cases h : i < l.length
  · rw [List.getElem?_range h, List.getElem?_eq_getElem h]; simp [List.getD_eq_getElem?_getD, h]
  · rw [List.getElem?_eq_none (by omega), List.getElem?_eq_none (by simpa using h)]; rfl
theorem frame111 (x : Value) (a : Act) (h1 : a.tmps.size = 111) (h0 : a.tmps.getD 0 undef = x) (hd : a.defers = []) : ∃ U : Nat → Value, a = { tmps := #[x, U 1, U 2, U 3, U 4, U 5, U 6, U 7, U 8, U 9, U 10, U 11, U 12, U 13, U 14, U 15, U 16, U 17, U 18, U 19, U 20, U 21, U 22, U 23, U 24, U 25, U 26, U 27, U 28, U 29, U 30, U 31, U 32, U 33, U 34, U 35, U 36, U 37, U 38, U 39, U 40, U 41, U 42, U 43, U 44, U 45, U 46, U 47, U 48, U 49, U 50, U 51, U 52, U 53, U 54, U 55, U 56, U 57, U 58, U 59, U 60, U 61, U 62, U 63, U 64, U 65, U 66, U 67, U 68, U 69, U 70, U 71, U 72, U 73, U 74, U 75, U 76, U 77, U 78, U 79, U 80, U 81, U 82, U 83, U 84, U 85, U 86, U 87, U 88, U 89, U 90, U 91, U 92, U 93, U 94, U 95, U 96, U 97, U 98, U 99, U 100, U 101, U 102, U 103, U 104, U 105, U 106, U 107, U 108, U 109, U 110], defers := [] } := by
  obtain ⟨⟨l⟩, d⟩ := a
  refine ⟨fun i => l.getD i undef, ?_⟩
  have hl : l.length = 111 := h1
  have hx : l.getD 0 undef = x := by rw [← h0]; simp [Array.getD, List.getD_eq_getElem?_getD]; split <;> simp_all
  have e := frame_list l undef
  rw [hl] at e
  obtain rfl : d = [] := hd
  subst hx
  exact congrArg (fun z => ({ tmps := ⟨z⟩, defers := [] } : Act)) e
/-- What 'quoted' leaves. -/
def QPost (w0 : World) (b : Nat) (A : Option Addr) (c : Nat) (line : List Int) (z : Int) (toks : List Tk) (r : Option (List Int × Nat)) (e : Ending) (w' : World) : Prop :=
  match r with
  | none => e = .returned (.int .i64 3) ∧ Below w0.heap.size w0 w'
  | some (s, n) => e = .returned (.int .i64 0) ∧ ∃ v', LxI w0 w' b v' A c line (z + n) (toks ++ [⟨2, strOfNums s⟩])
set_option maxHeartbeats 8000000 in
set_option maxRecDepth 1000000 in
theorem lexer_quoted (w0 w : World) (b : Nat) (v : Value) (A : Option Addr) (c : Nat) (line : List Int) (z0 : Int) (toks : List Tk) (hI : LxI w0 w b v A c line z0 toks) (hz0 : 0 ≤ z0) (hz1 : z0 ≤ line.length) (htk : toks.length < 64) (hlen0 : line.length ≤ 100000000) :
    Calls Tryd.prog 30 #[.pointer (some ⟨b, 0, none⟩)] w fun e w' => QPost w0 b A c line z0 toks (qgo (line.drop z0.toNat) []) e w' := by
  have HI := Aside0.mk hI
  clear hI
  have hst : 0 ≤ z0 := hz0
  clear hz0
  go_enter Tryd.func30, Tryd.ntmps30
  try go_wp2
  refine wp_scope_sp scope_pan ?_
  intro X HX
  generalize hRL0 : Code.seq (Code.label 0) _ = RL0
  go_wp2
  subst hRL0
  refine wp_label_seq ?_
  refine HX.loop (l := 0) rfl (fun (kL : Nat) (aL : Act) (wL : World) => (∃ (z : Int) (s : List Int) (vs : Value), 0 ≤ z ∧ z.toNat + kL = line.length ∧ Aside0 (QInv line z0.toNat z.toNat s) ∧ Aside0 (LxI w0 wL b v A c line z toks) ∧ Aside0 (Kd.R (Kd.int .u8) 5 wL w0.heap.size (fun k => k ≠ b) vs s) ∧ Aside0 (s.length ≤ z.toNat) ∧ aL.tmps.getD 3 undef = vs) ∧ ∃ U : Nat → Value, aL = { tmps := #[.pointer (some ⟨b, 0, none⟩), U 1, U 2, U 3, U 4, U 5, U 6, U 7, U 8, U 9, U 10, U 11, U 12, U 13, U 14, U 15, U 16, U 17, U 18, U 19, U 20, U 21, U 22, U 23, U 24, U 25, U 26, U 27, U 28, U 29, U 30, U 31, U 32, U 33, U 34, U 35, U 36, U 37, U 38, U 39, U 40, U 41, U 42, U 43, U 44, U 45, U 46, U 47, U 48, U 49, U 50, U 51, U 52, U 53, U 54, U 55, U 56, U 57, U 58, U 59, U 60, U 61, U 62, U 63, U 64, U 65, U 66, U 67, U 68, U 69, U 70, U 71, U 72, U 73, U 74, U 75, U 76, U 77, U 78, U 79, U 80, U 81, U 82, U 83, U 84, U 85, U 86, U 87, U 88, U 89, U 90, U 91, U 92, U 93, U 94, U 95, U 96, U 97, U 98, U 99, U 100, U 101, U 102, U 103, U 104, U 105, U 106, U 107, U 108, U 109, U 110], defers := [] }) (line.length - z0.toNat) ?atStart ?round
  case atStart => exact ⟨⟨z0, [], .slice none 0 0, hst, by omega, ⟨QInv.start _ _⟩, ⟨(by repeat (first | exact HI.out | apply LxI.drewN | apply LxI.drew | apply LxI.setAt | apply LxI.alloc))⟩, ⟨Kd.R_nil _ _ _ _ _⟩, ⟨by simp⟩, rfl⟩, frame111 _ _ rfl rfl rfl⟩
  case round =>
    intro gk _ wr hinv
    obtain ⟨⟨z, s, vs, hz, hzg, HQ, HI', HS, HL, hvs⟩, U, ha⟩ := hinv
    subst ha
    replace hvs : U 3 = vs := hvs
    rw [hvs]
    clear hvs
    try dsimp only
    clear HX HI
    have HI := HI'
    clear HI'
    intro J X hJ0 HX
    have hJ := Aside0.mk hJ0
    clear hJ0
    have hc0 := HI.out.cell0
    have hc1 := HI.out.cell1
    have hc2 := HI.out.cell2
    have hf0 := HI.out.thaw 0
    have hf2 := HI.out.thaw 2
    have hlm := Kd.C_max HI.out.line_
    cases gk with
    | zero =>
      have hb1 : decide ((line.length : Int) ≤ z) = true := decide_eq_true (by omega)
      have hres := QInv.over HQ.out (by omega)
      have Hres := Aside0.mk hres
      clear hres
      go_wp2
      go_quiet (fail)
      go_wp2
      (try simp only [Exit.then, Exit.inBlock])
      refine HX.ret ?_
      go_ret
      unfold QPost
      rw [Hres.out]
      exact ⟨rfl, LxI.below (by repeat (first | exact HI.out | apply LxI.drewN | apply LxI.drew | apply LxI.setAt | apply LxI.alloc))⟩
    | succ g =>
      have hlt : z < (line.length : Int) := by omega
      have hb1 : decide ((line.length : Int) ≤ z) = false := decide_eq_false (by omega)
      obtain ⟨ad, rfl, hadb, hch⟩ := HI.out.char z.toNat (by omega)
      have hadn : ad.block ≠ b := by have := HI.out.bge; omega
      have hfar := fun (W : World) (u : Value) (j : Nat) => far_cell hadn W u 2 j
      clear hadn hadb
      obtain ⟨ch, hche⟩ : ∃ ch, line.getD z.toNat 0 = ch := ⟨_, rfl⟩
      rw [hche] at hch
      have p1 : (0 ≤ z) = True := eq_true hz
      have q1 : (z < (line.length : Int)) = True := eq_true hlt
      go_wp2
      refine start_ (n := 10) (S := fun w' => w'.cell? ⟨b, 1, none⟩ = some (.slice (some ad) line.length c) ∧ w'.cell? ⟨b, 2, none⟩ = some (.int .i64 z)) (ds := []) #[false, false, false, false, false, false, false, false, false, false] (by kernel_rfl) rfl rfl ⟨(LxI.cell1 (by repeat (first | exact HI.out | apply LxI.drewN | apply LxI.drew | apply LxI.setAt | apply LxI.alloc))), (LxI.cell2 (by repeat (first | exact HI.out | apply LxI.drewN | apply LxI.drew | apply LxI.setAt | apply LxI.alloc)))⟩ (fun hHeld => ?_)
      refine pure_ (i := 0) (N := some 5) (v := ?_) (a' := ?_) #[true, false, false, false, false, false, false, false, false, false] rfl rfl (by kernel_rfl) (by first | exact fun _ _ _ h => h | exact fun _ _ _ h => HX.pan (put_defers _ _ _).symm h) (Or.inl ⟨by rfl, ?_⟩) ?_ ?_
      rotate_left
      · intro w'
        go_simp
        with_reducible rfl
      rotate_left
      · simp only [Act.put, List.setIfInBounds_toArray, List.set_cons_zero, List.set_cons_succ, i64_w, i32_w]
        rfl
      refine pure_ (i := 1) (N := some 6) (v := ?_) (a' := ?_) #[true, true, false, false, false, false, false, false, false, false] rfl rfl (by kernel_rfl) (by first | exact fun _ _ _ h => h | exact fun _ _ _ h => HX.pan (put_defers _ _ _).symm h) (Or.inl ⟨by rfl, ?_⟩) ?_ ?_
      rotate_left
      · intro w'
        go_simp
        with_reducible rfl
      rotate_left
      · simp only [Act.put, List.setIfInBounds_toArray, List.set_cons_zero, List.set_cons_succ, i64_w, i32_w]
        rfl
      refine pure_ (i := 2) (N := some 7) (v := ?_) (a' := ?_) #[true, true, true, false, false, false, false, false, false, false] rfl rfl (by kernel_rfl) (by first | exact fun _ _ _ h => h | exact fun _ _ _ h => HX.pan (put_defers _ _ _).symm h) (Or.inl ⟨by rfl, ?_⟩) ?_ ?_
      rotate_left
      · intro w'
        go_simp
        with_reducible rfl
      rotate_left
      · simp only [Act.put, List.setIfInBounds_toArray, List.set_cons_zero, List.set_cons_succ, i64_w, i32_w]
        rfl
      refine pure_ (i := 4) (N := some 9) (v := ?_) (a' := ?_) #[true, true, true, false, true, false, false, false, false, false] rfl rfl (by kernel_rfl) (by first | exact fun _ _ _ h => h | exact fun _ _ _ h => HX.pan (put_defers _ _ _).symm h) (Or.inl ⟨by rfl, ?_⟩) ?_ ?_
      rotate_left
      · intro w'
        go_simp
        with_reducible rfl
      rotate_left
      · simp only [Act.put, List.setIfInBounds_toArray, List.set_cons_zero, List.set_cons_succ, i64_w, i32_w]
        rfl
      refine pure_ (i := 5) (N := some 10) (v := ?_) (a' := ?_) #[true, true, true, false, true, true, false, false, false, false] rfl rfl (by kernel_rfl) (by first | exact fun _ _ _ h => h | exact fun _ _ _ h => HX.pan (put_defers _ _ _).symm h) (Or.inl ⟨by rfl, ?_⟩) ?_ ?_
      rotate_left
      · intro w'
        go_simp
        with_reducible rfl
      rotate_left
      · simp only [Act.put, List.setIfInBounds_toArray, List.set_cons_zero, List.set_cons_succ, i64_w, i32_w]
        rfl
      refine pure_ (i := 6) (N := some 11) (v := ?_) (a' := ?_) #[true, true, true, false, true, true, true, false, false, false] rfl rfl (by kernel_rfl) (by first | exact fun _ _ _ h => h | exact fun _ _ _ h => HX.pan (put_defers _ _ _).symm h) (Or.inl ⟨by rfl, ?_⟩) ?_ ?_
      rotate_left
      · intro w'
        go_simp
        with_reducible rfl
      rotate_left
      · simp only [Act.put, List.setIfInBounds_toArray, List.set_cons_zero, List.set_cons_succ, i64_w, i32_w]
        rfl
      refine take_ (i := 3) (N := some 8) (v := ?_) (a' := ?_) #[true, true, true, true, true, true, true, false, false, false] rfl rfl (by kernel_rfl) (by first | exact fun _ _ _ h => h | exact fun _ _ _ h => HX.pan (put_defers _ _ _).symm h) (Or.inl ⟨by rfl, ?_⟩) hHeld ?_ ?_
      rotate_left
      · rintro w' ⟨s0, s1⟩
        go_simp
        with_reducible rfl
      rotate_left
      · simp only [Act.put, List.setIfInBounds_toArray, List.set_cons_zero, List.set_cons_succ, i64_w, i32_w]
        rfl
      refine take_ (i := 7) (N := some 12) (v := ?_) (a' := ?_) #[true, true, true, true, true, true, true, true, false, false] rfl rfl (by kernel_rfl) (by first | exact fun _ _ _ h => h | exact fun _ _ _ h => HX.pan (put_defers _ _ _).symm h) (Or.inl ⟨by rfl, ?_⟩) hHeld ?_ ?_
      rotate_left
      · rintro w' ⟨s0, s1⟩
        go_simp
        with_reducible rfl
      rotate_left
      · simp only [Act.put, List.setIfInBounds_toArray, List.set_cons_zero, List.set_cons_succ, i64_w, i32_w]
        rfl
      refine pure_ (i := 8) (N := some 13) (v := ?_) (a' := ?_) #[true, true, true, true, true, true, true, true, true, false] rfl rfl (by kernel_rfl) (by first | exact fun _ _ _ h => h | exact fun _ _ _ h => HX.pan (put_defers _ _ _).symm h) (Or.inl ⟨by rfl, ?_⟩) ?_ ?_
      rotate_left
      · intro w'
        go_simp
        with_reducible rfl
      rotate_left
      · simp only [Act.put, List.setIfInBounds_toArray, List.set_cons_zero, List.set_cons_succ, i64_w, i32_w]
        rfl
      refine pure_ (i := 9) (N := some 14) (v := ?_) (a' := ?_) #[true, true, true, true, true, true, true, true, true, true] rfl rfl (by kernel_rfl) (by first | exact fun _ _ _ h => h | exact fun _ _ _ h => HX.pan (put_defers _ _ _).symm h) (Or.inl ⟨by rfl, ?_⟩) ?_ ?_
      rotate_left
      · intro w'
        go_simp
        with_reducible rfl
      rotate_left
      · simp only [Act.put, List.setIfInBounds_toArray, List.set_cons_zero, List.set_cons_succ, i64_w, i32_w]
        rfl
      refine done_ (by kernel_rfl) ?_
      go_wp2
      refine start_ (n := 11) (S := fun w' => w'.cell? ⟨b, 1, none⟩ = some (.slice (some ad) line.length c) ∧ w'.cell? ⟨b, 2, none⟩ = some (.int .i64 z) ∧ w'.cell? (ad.add z.toNat) = some (.int .u8 ch)) (ds := []) #[false, false, false, false, false, false, false, false, false, false, false] (by kernel_rfl) rfl rfl ⟨(LxI.cell1 (by repeat (first | exact HI.out | apply LxI.drewN | apply LxI.drew | apply LxI.setAt | apply LxI.alloc))), (LxI.cell2 (by repeat (first | exact HI.out | apply LxI.drewN | apply LxI.drew | apply LxI.setAt | apply LxI.alloc))), hch⟩ (fun hHeld => ?_)
      refine pure_ (i := 0) (N := some 15) (v := ?_) (a' := ?_) #[true, false, false, false, false, false, false, false, false, false, false] rfl rfl (by kernel_rfl) (by first | exact fun _ _ _ h => h | exact fun _ _ _ h => HX.pan (put_defers _ _ _).symm h) (Or.inl ⟨by rfl, ?_⟩) ?_ ?_
      rotate_left
      · intro w'
        go_simp
        with_reducible rfl
      rotate_left
      · simp only [Act.put, List.setIfInBounds_toArray, List.set_cons_zero, List.set_cons_succ, i64_w, i32_w]
        rfl
      refine pure_ (i := 1) (N := some 16) (v := ?_) (a' := ?_) #[true, true, false, false, false, false, false, false, false, false, false] rfl rfl (by kernel_rfl) (by first | exact fun _ _ _ h => h | exact fun _ _ _ h => HX.pan (put_defers _ _ _).symm h) (Or.inl ⟨by rfl, ?_⟩) ?_ ?_
      rotate_left
      · intro w'
        go_simp
        with_reducible rfl
      rotate_left
      · simp only [Act.put, List.setIfInBounds_toArray, List.set_cons_zero, List.set_cons_succ, i64_w, i32_w]
        rfl
      refine pure_ (i := 2) (N := some 17) (v := ?_) (a' := ?_) #[true, true, true, false, false, false, false, false, false, false, false] rfl rfl (by kernel_rfl) (by first | exact fun _ _ _ h => h | exact fun _ _ _ h => HX.pan (put_defers _ _ _).symm h) (Or.inl ⟨by rfl, ?_⟩) ?_ ?_
      rotate_left
      · intro w'
        go_simp
        with_reducible rfl
      rotate_left
      · simp only [Act.put, List.setIfInBounds_toArray, List.set_cons_zero, List.set_cons_succ, i64_w, i32_w]
        rfl
      refine pure_ (i := 4) (N := some 19) (v := ?_) (a' := ?_) #[true, true, true, false, true, false, false, false, false, false, false] rfl rfl (by kernel_rfl) (by first | exact fun _ _ _ h => h | exact fun _ _ _ h => HX.pan (put_defers _ _ _).symm h) (Or.inl ⟨by rfl, ?_⟩) ?_ ?_
      rotate_left
      · intro w'
        go_simp
        with_reducible rfl
      rotate_left
      · simp only [Act.put, List.setIfInBounds_toArray, List.set_cons_zero, List.set_cons_succ, i64_w, i32_w]
        rfl
      refine pure_ (i := 5) (N := some 20) (v := ?_) (a' := ?_) #[true, true, true, false, true, true, false, false, false, false, false] rfl rfl (by kernel_rfl) (by first | exact fun _ _ _ h => h | exact fun _ _ _ h => HX.pan (put_defers _ _ _).symm h) (Or.inl ⟨by rfl, ?_⟩) ?_ ?_
      rotate_left
      · intro w'
        go_simp
        with_reducible rfl
      rotate_left
      · simp only [Act.put, List.setIfInBounds_toArray, List.set_cons_zero, List.set_cons_succ, i64_w, i32_w]
        rfl
      refine pure_ (i := 6) (N := some 21) (v := ?_) (a' := ?_) #[true, true, true, false, true, true, true, false, false, false, false] rfl rfl (by kernel_rfl) (by first | exact fun _ _ _ h => h | exact fun _ _ _ h => HX.pan (put_defers _ _ _).symm h) (Or.inl ⟨by rfl, ?_⟩) ?_ ?_
      rotate_left
      · intro w'
        go_simp
        with_reducible rfl
      rotate_left
      · simp only [Act.put, List.setIfInBounds_toArray, List.set_cons_zero, List.set_cons_succ, i64_w, i32_w]
        rfl
      refine take_ (i := 3) (N := some 18) (v := ?_) (a' := ?_) #[true, true, true, true, true, true, true, false, false, false, false] rfl rfl (by kernel_rfl) (by first | exact fun _ _ _ h => h | exact fun _ _ _ h => HX.pan (put_defers _ _ _).symm h) (Or.inl ⟨by rfl, ?_⟩) hHeld ?_ ?_
      rotate_left
      · rintro w' ⟨s0, s1, s2⟩
        go_simp
        with_reducible rfl
      rotate_left
      · simp only [Act.put, List.setIfInBounds_toArray, List.set_cons_zero, List.set_cons_succ, i64_w, i32_w]
        rfl
      refine take_ (i := 7) (N := some 22) (v := ?_) (a' := ?_) #[true, true, true, true, true, true, true, true, false, false, false] rfl rfl (by kernel_rfl) (by first | exact fun _ _ _ h => h | exact fun _ _ _ h => HX.pan (put_defers _ _ _).symm h) (Or.inl ⟨by rfl, ?_⟩) hHeld ?_ ?_
      rotate_left
      · rintro w' ⟨s0, s1, s2⟩
        go_simp
        with_reducible rfl
      rotate_left
      · simp only [Act.put, List.setIfInBounds_toArray, List.set_cons_zero, List.set_cons_succ, i64_w, i32_w]
        rfl
      refine pure_ (i := 8) (N := some 23) (v := ?_) (a' := ?_) #[true, true, true, true, true, true, true, true, true, false, false] rfl rfl (by kernel_rfl) (by first | exact fun _ _ _ h => h | exact fun _ _ _ h => HX.pan (put_defers _ _ _).symm h) (Or.inl ⟨by rfl, ?_⟩) ?_ ?_
      rotate_left
      · intro w'
        go_simp
        with_reducible rfl
      rotate_left
      · simp only [Act.put, List.setIfInBounds_toArray, List.set_cons_zero, List.set_cons_succ, i64_w, i32_w]
        rfl
      refine take_ (i := 9) (N := some 24) (v := ?_) (a' := ?_) #[true, true, true, true, true, true, true, true, true, true, false] rfl rfl (by kernel_rfl) (by first | exact fun _ _ _ h => h | exact fun _ _ _ h => HX.pan (put_defers _ _ _).symm h) (Or.inl ⟨by rfl, ?_⟩) hHeld ?_ ?_
      rotate_left
      · rintro w' ⟨s0, s1, s2⟩
        go_simp
        with_reducible rfl
      rotate_left
      · simp only [Act.put, List.setIfInBounds_toArray, List.set_cons_zero, List.set_cons_succ, i64_w, i32_w]
        rfl
      refine pure_ (i := 10) (N := some 4) (v := ?_) (a' := ?_) #[true, true, true, true, true, true, true, true, true, true, true] rfl rfl (by kernel_rfl) (by first | exact fun _ _ _ h => h | exact fun _ _ _ h => HX.pan (put_defers _ _ _).symm h) (Or.inl ⟨by rfl, ?_⟩) ?_ ?_
      rotate_left
      · intro w'
        go_simp
        with_reducible rfl
      rotate_left
      · simp only [Act.put, List.setIfInBounds_toArray, List.set_cons_zero, List.set_cons_succ, i64_w, i32_w]
        rfl
      refine done_ (by kernel_rfl) ?_
      go_wp2_with (fail)
      by_cases ht : 32 ≤ ch ∧ ch ≤ 126
      · obtain ⟨ht1, ht2⟩ := ht
        refine (isText_yes _ ht1 ht2 _).mono ?_
        rintro e w' ⟨rfl, rfl⟩
        by_cases h34 : ch = 34
        · have hres := QInv.ends HQ.out (by omega) (by rw [hche]; exact h34)
          have Hres := Aside0.mk hres
          clear hres hche
          subst h34
          go_wp2
          obtain ⟨As, cs, eqs_⟩ := Kd.R_slice HS.out
          subst eqs_
          refine start_ (n := 13) (S := fun w' => w'.cell? ⟨b, 0, none⟩ = some v ∧ (convert 23 9 (.slice As s.length cs)).run Tryd.prog w' = .ok (.string (strOfNums s)) w') (ds := [9, 12]) #[false, false, false, false, false, false, false, false, false, false, false, false, false] (by kernel_rfl) rfl rfl ⟨(LxI.cell0 (by repeat (first | exact HI.out | apply LxI.drewN | apply LxI.drew | apply LxI.setAt | apply LxI.alloc))), (own_string (P := Tryd.prog) Tryd.underlying23 Tryd.underlying5 Tryd.underlying9 (Kd.own_of_R (show Kd.R (Kd.int .u8) 5 _ w0.heap.size (fun k => k ≠ b) _ s from (by repeat (first | exact HS.out | apply Kd.R_drewN | apply Kd.R_drew | apply Kd.R_alloc | refine Kd.R_far ?_ (fun k hk => hk) _)))))⟩ (fun hHeld => ?_)
          refine pure_ (i := 0) (N := some 39) (v := ?_) (a' := ?_) #[true, false, false, false, false, false, false, false, false, false, false, false, false] rfl rfl (by kernel_rfl) (by first | exact fun _ _ _ h => h | exact fun _ _ _ h => HX.pan (put_defers _ _ _).symm h) (Or.inl ⟨by rfl, ?_⟩) ?_ ?_
          rotate_left
          · intro w'
            go_simp
            with_reducible rfl
          rotate_left
          · simp only [Act.put, List.setIfInBounds_toArray, List.set_cons_zero, List.set_cons_succ, i64_w, i32_w]
            rfl
          refine pure_ (i := 1) (N := some 40) (v := ?_) (a' := ?_) #[true, true, false, false, false, false, false, false, false, false, false, false, false] rfl rfl (by kernel_rfl) (by first | exact fun _ _ _ h => h | exact fun _ _ _ h => HX.pan (put_defers _ _ _).symm h) (Or.inl ⟨by rfl, ?_⟩) ?_ ?_
          rotate_left
          · intro w'
            go_simp
            with_reducible rfl
          rotate_left
          · simp only [Act.put, List.setIfInBounds_toArray, List.set_cons_zero, List.set_cons_succ, i64_w, i32_w]
            rfl
          refine pure_ (i := 2) (N := some 41) (v := ?_) (a' := ?_) #[true, true, true, false, false, false, false, false, false, false, false, false, false] rfl rfl (by kernel_rfl) (by first | exact fun _ _ _ h => h | exact fun _ _ _ h => HX.pan (put_defers _ _ _).symm h) (Or.inl ⟨by rfl, ?_⟩) ?_ ?_
          rotate_left
          · intro w'
            go_simp
            with_reducible rfl
          rotate_left
          · simp only [Act.put, List.setIfInBounds_toArray, List.set_cons_zero, List.set_cons_succ, i64_w, i32_w]
            rfl
          refine pure_ (i := 3) (N := some 42) (v := ?_) (a' := ?_) #[true, true, true, true, false, false, false, false, false, false, false, false, false] rfl rfl (by kernel_rfl) (by first | exact fun _ _ _ h => h | exact fun _ _ _ h => HX.pan (put_defers _ _ _).symm h) (Or.inl ⟨by rfl, ?_⟩) ?_ ?_
          rotate_left
          · intro w'
            go_simp
            with_reducible rfl
          rotate_left
          · simp only [Act.put, List.setIfInBounds_toArray, List.set_cons_zero, List.set_cons_succ, i64_w, i32_w]
            rfl
          refine pure_ (i := 5) (N := some 44) (v := ?_) (a' := ?_) #[true, true, true, true, false, true, false, false, false, false, false, false, false] rfl rfl (by kernel_rfl) (by first | exact fun _ _ _ h => h | exact fun _ _ _ h => HX.pan (put_defers _ _ _).symm h) (Or.inl ⟨by rfl, ?_⟩) ?_ ?_
          rotate_left
          · intro w'
            go_simp
            with_reducible rfl
          rotate_left
          · simp only [Act.put, List.setIfInBounds_toArray, List.set_cons_zero, List.set_cons_succ, i64_w, i32_w]
            rfl
          refine take_ (i := 4) (N := some 43) (v := ?_) (a' := ?_) #[true, true, true, true, true, true, false, false, false, false, false, false, false] rfl rfl (by kernel_rfl) (by first | exact fun _ _ _ h => h | exact fun _ _ _ h => HX.pan (put_defers _ _ _).symm h) (Or.inl ⟨by rfl, ?_⟩) hHeld ?_ ?_
          rotate_left
          · rintro w' ⟨s0, s1⟩
            go_simp
            with_reducible rfl
          rotate_left
          · simp only [Act.put, List.setIfInBounds_toArray, List.set_cons_zero, List.set_cons_succ, i64_w, i32_w]
            rfl
          refine take_ (i := 6) (N := some 45) (v := ?_) (a' := ?_) #[true, true, true, true, true, true, true, false, false, false, false, false, false] rfl rfl (by kernel_rfl) (by first | exact fun _ _ _ h => h | exact fun _ _ _ h => HX.pan (put_defers _ _ _).symm h) (Or.inl ⟨by rfl, ?_⟩) hHeld ?_ ?_
          rotate_left
          · rintro w' ⟨s0, s1⟩
            go_simp
            with_reducible rfl
          rotate_left
          · simp only [Act.put, List.setIfInBounds_toArray, List.set_cons_zero, List.set_cons_succ, i64_w, i32_w]
            rfl
          refine pure_ (i := 7) (N := some 46) (v := ?_) (a' := ?_) #[true, true, true, true, true, true, true, true, false, false, false, false, false] rfl rfl (by kernel_rfl) (by first | exact fun _ _ _ h => h | exact fun _ _ _ h => HX.pan (put_defers _ _ _).symm h) (Or.inl ⟨by rfl, ?_⟩) ?_ ?_
          rotate_left
          · intro w'
            go_simp
            with_reducible rfl
          rotate_left
          · simp only [Act.put, List.setIfInBounds_toArray, List.set_cons_zero, List.set_cons_succ, i64_w, i32_w]
            rfl
          refine one_ (i := 8) (N := some 47) #[true, true, true, true, true, true, true, true, true, false, false, false, false] rfl rfl (by kernel_rfl) (by decide) (fun K hK => ?_)
          refine value_ (w1 := ?_) (v := ?_) (by rfl) rfl ?_ ?_
          rotate_left 2
          · go_simp
            constructor
            · rfl
            · rfl
          refine hK.out _ _ ⟨(LxI.cell0 (by repeat (first | exact HI.out | apply LxI.drewN | apply LxI.drew | apply LxI.setAt | apply LxI.alloc))), (own_string (P := Tryd.prog) Tryd.underlying23 Tryd.underlying5 Tryd.underlying9 (Kd.own_of_R (show Kd.R (Kd.int .u8) 5 _ w0.heap.size (fun k => k ≠ b) _ s from (by repeat (first | exact HS.out | apply Kd.R_drewN | apply Kd.R_drew | apply Kd.R_alloc | refine Kd.R_far ?_ (fun k hk => hk) _)))))⟩ (fun hHeld => ?_)
          clear hK K
          refine norm_ (a' := ?_) ?_ ?_
          rotate_left
          · show Act.put _ (some 47) _ = _
            simp only [Act.put, List.setIfInBounds_toArray, List.set_cons_zero, List.set_cons_succ, i64_w, i32_w]
            rfl
          refine last_ (i := 9) (N := some 48) #[true, true, true, true, true, true, true, true, true, true, false, false, false] rfl rfl (by kernel_rfl) (by decide) (fun K hK => ?_)
          (repeat first | rw [drew_alloc] | rw [drewN_alloc])
          refine Kd.R_append_step kTk (w0 := w0) w0.heap.size ?_ (.tmp 43) (.tmp 47) 24 31 (.agg #[.int .i64 0, .string ⟨#[]⟩]) 24 ?_ Tryd.underlying24 infoTk rfl (by decide) (by omega) v toks ⟨2, (strOfNums s)⟩ [.int .i64 2, .string (strOfNums s)] (fun k => k ≠ b) (fun _ => False) ?_ ?_ ?_ (fun _ hk => hk.elim) ?_ ?_ ?_ ?_ ?_ ?_
          · rfl
          · rfl
          · rfl
          · first | rfl | (show Value.slice _ _ _ = Value.slice _ _ _; simp)
          · exact k31_mkM _ _ _ _
          · exact LxI.fresh (by repeat (first | exact HI.out | apply LxI.drewN | apply LxI.drew | apply LxI.setAt | apply LxI.alloc))
          · exact LxI.row (by repeat (first | exact HI.out | apply LxI.drewN | apply LxI.drew | apply LxI.setAt | apply LxI.alloc))
          · exact LxI.below (by repeat (first | exact HI.out | apply LxI.drewN | apply LxI.drew | apply LxI.setAt | apply LxI.alloc))
          · exact (LxI.below (by repeat (first | exact HI.out | apply LxI.drewN | apply LxI.drew | apply LxI.setAt | apply LxI.alloc))).size
          · omega
          intro v1 w1 hr hb hg hat
          obtain ⟨n1_, A1_, c1_, ev1_⟩ : ∃ n A1 c1, v1 = .slice A1 n c1 := by obtain ⟨A1, c1, e⟩ := Kd.R_slice hr; exact ⟨_, A1, c1, e⟩
          subst ev1_
          have HPush := Aside0.mk (LxI.push (by repeat (first | exact HI.out | apply LxI.drewN | apply LxI.drew | apply LxI.setAt | apply LxI.alloc)) hr hb hg)
          have HBk := Aside0.mk (LxI.kept hg (by repeat (first | exact HI.out | apply LxI.drewN | apply LxI.drew | apply LxI.setAt | apply LxI.alloc)))
          clear hr hb hg hat
          refine hK.out _ _ ?_
          clear hK K
          refine norm_ (a' := ?_) ?_ ?_
          rotate_left
          · show Act.put _ (some 48) _ = _
            simp only [Act.put, List.setIfInBounds_toArray, List.set_cons_zero, List.set_cons_succ, i64_w, i32_w]
            rfl
          refine pure_ (i := 10) (N := some 49) (v := ?_) (a' := ?_) #[true, true, true, true, true, true, true, true, true, true, true, false, false] rfl rfl (by kernel_rfl) (by first | exact fun _ _ _ h => h | exact fun _ _ _ h => HX.pan (put_defers _ _ _).symm h) (Or.inl ⟨by rfl, ?_⟩) ?_ ?_
          rotate_left
          · intro w'
            go_simp
            with_reducible rfl
          rotate_left
          · simp only [Act.put, List.setIfInBounds_toArray, List.set_cons_zero, List.set_cons_succ, i64_w, i32_w]
            rfl
          refine pure_ (i := 11) (N := some 50) (v := ?_) (a' := ?_) #[true, true, true, true, true, true, true, true, true, true, true, true, false] rfl rfl (by kernel_rfl) (by first | exact fun _ _ _ h => h | exact fun _ _ _ h => HX.pan (put_defers _ _ _).symm h) (Or.inl ⟨by rfl, ?_⟩) ?_ ?_
          rotate_left
          · intro w'
            go_simp
            with_reducible rfl
          rotate_left
          · simp only [Act.put, List.setIfInBounds_toArray, List.set_cons_zero, List.set_cons_succ, i64_w, i32_w]
            rfl
          refine last_ (i := 12) (N := none) #[true, true, true, true, true, true, true, true, true, true, true, true, true] rfl rfl (by kernel_rfl) (by decide) (fun K hK => ?_)
          have hb0_ := blk_cell HBk.out 0
          have hb1_ := blk_frozen HBk.out 0
          refine skip_ (w1 := ?_) (by rfl) rfl ?_ ?_
          rotate_left
          · go_simp
            rfl
          refine hK.out _ _ ?_
          clear hK K
          refine done_ (by kernel_rfl) ?_
          go_wp2
          (try simp only [Exit.then, Exit.inBlock])
          refine HX.ret ?_
          go_ret
          unfold QPost
          rw [Hres.out]
          refine ⟨rfl, ?_⟩
          rw [show z0 + ((z.toNat + 1 - z0.toNat : Nat) : Int) = z + 1 by have := HQ.out.1; omega]
          exact ⟨_, HPush.out⟩
        · have e34 : (ch == (34 : Int)) = false := beq_eq_false_iff_ne.2 h34
          by_cases h92 : ch = 92
          · subst h92
            by_cases hend : z + 1 = (line.length : Int)
            · have hb2 : decide ((line.length : Int) ≤ z + 1) = true := decide_eq_true (by omega)
              have hres := QInv.esc_over HQ.out (by omega) hche
              have Hres := Aside0.mk hres
              clear hres hche h34 hend
              go_wp2
              go_quiet (fail)
              go_wp2
              (try simp only [Exit.then, Exit.inBlock])
              refine HX.ret ?_
              go_ret
              unfold QPost
              rw [Hres.out]
              exact ⟨rfl, LxI.below (by repeat (first | exact HI.out | apply LxI.drewN | apply LxI.drew | apply LxI.setAt | apply LxI.alloc))⟩
            · have hlt2 : z + 1 < (line.length : Int) := by omega
              have hb2 : decide ((line.length : Int) ≤ z + 1) = false := decide_eq_false (by omega)
              have p2 : (0 ≤ z + 1) = True := eq_true (by omega)
              have q2 : (z + 1 < (line.length : Int)) = True := eq_true hlt2
              obtain ⟨ad2, ead, _, hch2⟩ := HI.out.char (z + 1).toNat (by omega)
              obtain rfl : ad = ad2 := Option.some.inj ead
              clear ead
              have hz1n : (z + 1).toNat = z.toNat + 1 := by omega
              obtain ⟨dh, hdhe⟩ : ∃ dh, line.getD (z.toNat + 1) 0 = dh := ⟨_, rfl⟩
              rw [hz1n, hdhe, ← hz1n] at hch2
              clear hz1n
              by_cases hd34 : dh = 34
              · skip
                have HQ2 := Aside0.mk (QInv.esc HQ.out (by omega) hche (by rw [hdhe]; exact .inl hd34))
                rw [hdhe] at HQ2
                clear hche hdhe h34 hend HQ
                subst hd34
                go_wp2
                go_quiet (fail)
                go_wp2
                go_quiet (fail)
                go_wp2_with (at_builtin; refine Hold_ ?_)
                refine Aside0.mk ?_
                (repeat first | rw [drew_alloc] | rw [drewN_alloc])
                refine Kd.R_append (Kd.int .u8) (w0 := w0) w0.heap.size rfl (.tmp 107) (.tmp 109) 23 5 (.int .u8 0) 1 rfl Tryd.underlying23 info5 rfl (by decide) (by omega) vs s 34 [.int .u8 34] (fun k => k ≠ b) (fun _ => False) ?_ ?_ ?_ (fun _ hk => hk.elim) ?_ ?_ ?_ ?_ ?_ ?_
                · rfl
                · first | rfl | (show Value.slice _ _ _ = Value.slice _ _ _; simp)
                · exact rfl
                · exact LxI.fresh (by repeat (first | exact HI.out | apply LxI.drewN | apply LxI.drew | apply LxI.setAt | apply LxI.alloc))
                · exact (by repeat (first | exact HS.out | apply Kd.R_drewN | apply Kd.R_drew | apply Kd.R_alloc | refine Kd.R_far ?_ (fun k hk => hk) _))
                · exact LxI.below (by repeat (first | exact HI.out | apply LxI.drewN | apply LxI.drew | apply LxI.setAt | apply LxI.alloc))
                · exact (LxI.below (by repeat (first | exact HI.out | apply LxI.drewN | apply LxI.drew | apply LxI.setAt | apply LxI.alloc))).size
                · have := HL.out; have := hlen0; omega
                intro v1 w1 hr hb hg hat
                have HI1 := Aside0.mk (LxI.grown8 (xs := s) hg (by repeat (first | exact HI.out | apply LxI.drewN | apply LxI.drew | apply LxI.setAt | apply LxI.alloc)) (by repeat (first | exact HS.out | apply Kd.R_drewN | apply Kd.R_drew | apply Kd.R_alloc | refine Kd.R_far ?_ (fun k hk => hk) _)))
                have HS1 := Aside0.mk hr
                clear hr hb hg hat HI HS
                go_wp2
                go_step3
                (try simp only [Exit.then, Exit.inBlock])
                exact HX.again (Handed.intro (line.length - (z + 1 + 1).toNat) (by omega) (hJ.out _ _ _ ⟨⟨z + 1 + 1, s ++ [34], v1, by omega, by omega, ⟨by rw [show (z + 1 + 1).toNat = z.toNat + 2 by omega]; exact HQ2.out⟩, HI1, HS1, ⟨by have := HL.out; simp; omega⟩, rfl⟩, frame111 _ _ rfl rfl rfl⟩))
              · by_cases hd92 : dh = 92
                · skip
                  have HQ2 := Aside0.mk (QInv.esc HQ.out (by omega) hche (by rw [hdhe]; exact .inr hd92))
                  rw [hdhe] at HQ2
                  clear hche hdhe h34 hend HQ
                  have d34 : (dh != (34 : Int)) = true := by exact bne_iff_ne.2 hd34
                  subst hd92
                  go_wp2
                  go_quiet (fail)
                  go_wp2
                  go_quiet (fail)
                  go_wp2_with (at_builtin; refine Hold_ ?_)
                  refine Aside0.mk ?_
                  (repeat first | rw [drew_alloc] | rw [drewN_alloc])
                  refine Kd.R_append (Kd.int .u8) (w0 := w0) w0.heap.size rfl (.tmp 107) (.tmp 109) 23 5 (.int .u8 0) 1 rfl Tryd.underlying23 info5 rfl (by decide) (by omega) vs s 92 [.int .u8 92] (fun k => k ≠ b) (fun _ => False) ?_ ?_ ?_ (fun _ hk => hk.elim) ?_ ?_ ?_ ?_ ?_ ?_
                  · rfl
                  · first | rfl | (show Value.slice _ _ _ = Value.slice _ _ _; simp)
                  · exact rfl
                  · exact LxI.fresh (by repeat (first | exact HI.out | apply LxI.drewN | apply LxI.drew | apply LxI.setAt | apply LxI.alloc))
                  · exact (by repeat (first | exact HS.out | apply Kd.R_drewN | apply Kd.R_drew | apply Kd.R_alloc | refine Kd.R_far ?_ (fun k hk => hk) _))
                  · exact LxI.below (by repeat (first | exact HI.out | apply LxI.drewN | apply LxI.drew | apply LxI.setAt | apply LxI.alloc))
                  · exact (LxI.below (by repeat (first | exact HI.out | apply LxI.drewN | apply LxI.drew | apply LxI.setAt | apply LxI.alloc))).size
                  · have := HL.out; have := hlen0; omega
                  intro v1 w1 hr hb hg hat
                  have HI1 := Aside0.mk (LxI.grown8 (xs := s) hg (by repeat (first | exact HI.out | apply LxI.drewN | apply LxI.drew | apply LxI.setAt | apply LxI.alloc)) (by repeat (first | exact HS.out | apply Kd.R_drewN | apply Kd.R_drew | apply Kd.R_alloc | refine Kd.R_far ?_ (fun k hk => hk) _)))
                  have HS1 := Aside0.mk hr
                  clear hr hb hg hat HI HS
                  go_wp2
                  go_step3
                  (try simp only [Exit.then, Exit.inBlock])
                  exact HX.again (Handed.intro (line.length - (z + 1 + 1).toNat) (by omega) (hJ.out _ _ _ ⟨⟨z + 1 + 1, s ++ [92], v1, by omega, by omega, ⟨by rw [show (z + 1 + 1).toNat = z.toNat + 2 by omega]; exact HQ2.out⟩, HI1, HS1, ⟨by have := HL.out; simp; omega⟩, rfl⟩, frame111 _ _ rfl rfl rfl⟩))
                · have hres := QInv.esc_bad HQ.out (by omega) hche (by rw [hdhe]; exact hd34) (by rw [hdhe]; exact hd92)
                  have Hres := Aside0.mk hres
                  clear hres hche hdhe h34 hend
                  have d34 : (dh != (34 : Int)) = true := bne_iff_ne.2 hd34
                  have d92 : (dh != (92 : Int)) = true := bne_iff_ne.2 hd92
                  clear hd34 hd92
                  go_wp2
                  go_quiet (fail)
                  go_wp2
                  (try simp only [Exit.then, Exit.inBlock])
                  refine HX.ret ?_
                  go_ret
                  unfold QPost
                  rw [Hres.out]
                  exact ⟨rfl, LxI.below (by repeat (first | exact HI.out | apply LxI.drewN | apply LxI.drew | apply LxI.setAt | apply LxI.alloc))⟩
          · have e92 : (ch == (92 : Int)) = false := beq_eq_false_iff_ne.2 h92
            have HQ2 := Aside0.mk (QInv.plain HQ.out (by omega) (by rw [hche]; exact ht1) (by rw [hche]; exact ht2) (by rw [hche]; exact h34) (by rw [hche]; exact h92))
            rw [hche] at HQ2
            clear hche h34 h92 HQ
            go_wp2_with (at_builtin; refine Hold_ ?_)
            refine Aside0.mk ?_
            (repeat first | rw [drew_alloc] | rw [drewN_alloc])
            refine Kd.R_append (Kd.int .u8) (w0 := w0) w0.heap.size rfl (.tmp 107) (.tmp 109) 23 5 (.int .u8 0) 1 rfl Tryd.underlying23 info5 rfl (by decide) (by omega) vs s ch [.int .u8 ch] (fun k => k ≠ b) (fun _ => False) ?_ ?_ ?_ (fun _ hk => hk.elim) ?_ ?_ ?_ ?_ ?_ ?_
            · rfl
            · first | rfl | (show Value.slice _ _ _ = Value.slice _ _ _; simp)
            · exact rfl
            · exact LxI.fresh (by repeat (first | exact HI.out | apply LxI.drewN | apply LxI.drew | apply LxI.setAt | apply LxI.alloc))
            · exact (by repeat (first | exact HS.out | apply Kd.R_drewN | apply Kd.R_drew | apply Kd.R_alloc | refine Kd.R_far ?_ (fun k hk => hk) _))
            · exact LxI.below (by repeat (first | exact HI.out | apply LxI.drewN | apply LxI.drew | apply LxI.setAt | apply LxI.alloc))
            · exact (LxI.below (by repeat (first | exact HI.out | apply LxI.drewN | apply LxI.drew | apply LxI.setAt | apply LxI.alloc))).size
            · have := HL.out; have := hlen0; omega
            intro v1 w1 hr hb hg hat
            have HI1 := Aside0.mk (LxI.grown8 (xs := s) hg (by repeat (first | exact HI.out | apply LxI.drewN | apply LxI.drew | apply LxI.setAt | apply LxI.alloc)) (by repeat (first | exact HS.out | apply Kd.R_drewN | apply Kd.R_drew | apply Kd.R_alloc | refine Kd.R_far ?_ (fun k hk => hk) _)))
            have HS1 := Aside0.mk hr
            clear hr hb hg hat HI HS
            go_wp2
            go_step3
            (try simp only [Exit.then, Exit.inBlock])
            exact HX.again (Handed.intro (line.length - (z + 1).toNat) (by omega) (hJ.out _ _ _ ⟨⟨z + 1, s ++ [ch], v1, by omega, by omega, ⟨by rw [show (z + 1).toNat = z.toNat + 1 by omega]; exact HQ2.out⟩, HI1, HS1, ⟨by have := HL.out; simp; omega⟩, rfl⟩, frame111 _ _ rfl rfl rfl⟩))
      · have hres := QInv.bad HQ.out (by omega) (by rw [hche]; exact ht)
        have Hres := Aside0.mk hres
        clear hres hche
        refine (isText_no _ ht _).mono ?_
        rintro e w' ⟨rfl, rfl⟩
        clear ht
        go_wp2
        (try simp only [Exit.then, Exit.inBlock])
        refine HX.ret ?_
        go_ret
        unfold QPost
        rw [Hres.out]
        exact ⟨rfl, LxI.below (by repeat (first | exact HI.out | apply LxI.drewN | apply LxI.drew | apply LxI.setAt | apply LxI.alloc))⟩
end Go.Proofs.YtbdmhlocafpehaaDoor
