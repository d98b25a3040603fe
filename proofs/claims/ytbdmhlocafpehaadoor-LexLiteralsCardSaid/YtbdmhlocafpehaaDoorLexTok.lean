/- The lexer's method that takes a token. -/
import Derived.Test.YtbdmhlocafpehaaDoorLexAtm
namespace Go.Proofs.YtbdmhlocafpehaaDoor
open Go.RowKit Go.Proofs.YtbdmhlocafpehaaDoor.P Go.Proofs.YtbdmhlocafpehaaDoorW.PrintWords Go.Proofs.YtbdmhlocafpehaaDoorW.PrintLast Go.Proofs.YtbdmhlocafpehaaDoorW.PrintMore
set_option linter.unusedVariables false
set_option linter.unusedSimpArgs false
/-- A token at a place: where it goes on, and the token; or the error. -/
def tk2 (line : List Int) (p : Nat) : Sum Int (Nat × Tk) :=
  if line.getD p 0 = 40 then .inr (p + 1, ⟨3, ⟨#[]⟩⟩) else if line.getD p 0 = 41 then .inr (p + 1, ⟨4, ⟨#[]⟩⟩) else
    if line.getD p 0 = 34 then (match qgo (line.drop (p + 1)) [] with | none => .inl 3 | some x => .inr (p + 1 + x.2, ⟨2, strOfNums x.1⟩))
    else (match ago false (line.drop p) with | none => .inl 3 | some n => .inr (p + n, ⟨1, strOfNums ((line.take (p + n)).drop p)⟩))
def tk1 (line : List Int) (n p : Nat) : Sum Int (Nat × Tk) := if 64 ≤ n then .inl 5 else tk2 line p
def TPost (w0 : World) (b : Nat) (A : Option Addr) (c : Nat) (line : List Int) (toks : List Tk) (r : Sum Int (Nat × Tk)) (e : Ending) (w' : World) : Prop :=
  match r with
  | .inl x => e = .returned (.int .i64 x) ∧ Below w0.heap.size w0 w'
  | .inr (q, t) => e = .returned (.int .i64 0) ∧ ∃ v', LxI w0 w' b v' A c line (q : Int) (toks ++ [t])
set_option maxHeartbeats 8000000 in
set_option maxRecDepth 1000000 in
theorem lexer_token (w0 w : World) (b : Nat) (v : Value) (A : Option Addr) (c : Nat) (line : List Int) (z : Int) (toks : List Tk) (hI : LxI w0 w b v A c line z toks) (hz0 : 0 ≤ z) (hz1 : z < line.length) (hlen0 : line.length ≤ 100000000) :
    Calls Tryd.prog 19 #[.pointer (some ⟨b, 0, none⟩)] w fun e w' => TPost w0 b A c line toks (tk1 line toks.length z.toNat) e w' := by
  have HI := Aside0.mk hI
  clear hI
  have hzz : 0 ≤ z := hz0
  clear hz0
  have hc0 := HI.out.cell0
  have hc1 := HI.out.cell1
  have hc2 := HI.out.cell2
  have hf0 := HI.out.thaw 0
  have hf2 := HI.out.thaw 2
  have hlm := Kd.C_max HI.out.line_
  obtain ⟨Av, cv, ev⟩ := Kd.R_slice HI.out.row
  subst ev
  by_cases h64 : 64 ≤ toks.length
  · have Hres : Aside0 (tk1 line toks.length z.toNat = .inl 5) := ⟨by unfold tk1; rw [if_pos h64]⟩
    have hd : decide (64 ≤ (toks.length : Int)) = true := decide_eq_true (by omega)
    have hd' : decide (64 ≤ toks.length) = true := decide_eq_true h64
    go_enter Tryd.func19, Tryd.ntmps19
    go_wp2
    go_ret
    unfold TPost
    rw [Hres.out]
    exact ⟨rfl, LxI.below (by repeat (first | exact HI.out | apply LxI.drewN | apply LxI.drew | apply LxI.setAt | apply LxI.alloc))⟩
  · have htk : toks.length < 64 := by omega
    have hd : decide (64 ≤ (toks.length : Int)) = false := decide_eq_false (by omega)
    have hd' : decide (64 ≤ toks.length) = false := decide_eq_false h64
    have Hres0 : Aside0 (tk1 line toks.length z.toNat = tk2 line z.toNat) := ⟨by unfold tk1; rw [if_neg h64]⟩
    clear h64
    obtain ⟨ad, rfl, hadb, hch⟩ := HI.out.char z.toNat (by omega)
    have hadn : ad.block ≠ b := by have := HI.out.bge; omega
    have hfar := fun (W : World) (u : Value) (j : Nat) => far_cell hadn W u 2 j
    clear hadn hadb
    obtain ⟨ch, hche⟩ : ∃ ch, line.getD z.toNat 0 = ch := ⟨_, rfl⟩
    rw [hche] at hch
    have p1 : (0 ≤ z) = True := eq_true hzz
    have q1 : (z < (line.length : Int)) = True := eq_true hz1
    by_cases h40 : ch = 40
    · have Hres := Aside0.mk (Hres0.out.trans (by unfold tk2; rw [hche, if_pos h40]))
      subst h40
      clear hche
      go_enter Tryd.func19, Tryd.ntmps19
      go_wp2
      refine start_ (n := 10) (S := fun w' => w'.cell? ⟨b, 1, none⟩ = some (.slice (some ad) line.length c) ∧ w'.cell? ⟨b, 2, none⟩ = some (.int .i64 z) ∧ w'.cell? (ad.add z.toNat) = some (.int .u8 40)) (ds := []) #[false, false, false, false, false, false, false, false, false, false] (by kernel_rfl) rfl rfl ⟨(LxI.cell1 (by repeat (first | exact HI.out | apply LxI.drewN | apply LxI.drew | apply LxI.setAt | apply LxI.alloc))), (LxI.cell2 (by repeat (first | exact HI.out | apply LxI.drewN | apply LxI.drew | apply LxI.setAt | apply LxI.alloc))), hch⟩ (fun hHeld => ?_)
      refine pure_ (i := 0) (N := some 9) (v := ?_) (a' := ?_) #[true, false, false, false, false, false, false, false, false, false] rfl rfl (by kernel_rfl) (fun _ _ _ h => h) (Or.inl ⟨by rfl, ?_⟩) ?_ ?_
      rotate_left
      · intro w'
        go_simp
        with_reducible rfl
      rotate_left
      · simp only [Act.put, List.setIfInBounds_toArray, List.set_cons_zero, List.set_cons_succ, i64_w, i32_w]
        rfl
      refine pure_ (i := 1) (N := some 10) (v := ?_) (a' := ?_) #[true, true, false, false, false, false, false, false, false, false] rfl rfl (by kernel_rfl) (fun _ _ _ h => h) (Or.inl ⟨by rfl, ?_⟩) ?_ ?_
      rotate_left
      · intro w'
        go_simp
        with_reducible rfl
      rotate_left
      · simp only [Act.put, List.setIfInBounds_toArray, List.set_cons_zero, List.set_cons_succ, i64_w, i32_w]
        rfl
      refine pure_ (i := 2) (N := some 11) (v := ?_) (a' := ?_) #[true, true, true, false, false, false, false, false, false, false] rfl rfl (by kernel_rfl) (fun _ _ _ h => h) (Or.inl ⟨by rfl, ?_⟩) ?_ ?_
      rotate_left
      · intro w'
        go_simp
        with_reducible rfl
      rotate_left
      · simp only [Act.put, List.setIfInBounds_toArray, List.set_cons_zero, List.set_cons_succ, i64_w, i32_w]
        rfl
      refine pure_ (i := 4) (N := some 13) (v := ?_) (a' := ?_) #[true, true, true, false, true, false, false, false, false, false] rfl rfl (by kernel_rfl) (fun _ _ _ h => h) (Or.inl ⟨by rfl, ?_⟩) ?_ ?_
      rotate_left
      · intro w'
        go_simp
        with_reducible rfl
      rotate_left
      · simp only [Act.put, List.setIfInBounds_toArray, List.set_cons_zero, List.set_cons_succ, i64_w, i32_w]
        rfl
      refine pure_ (i := 5) (N := some 14) (v := ?_) (a' := ?_) #[true, true, true, false, true, true, false, false, false, false] rfl rfl (by kernel_rfl) (fun _ _ _ h => h) (Or.inl ⟨by rfl, ?_⟩) ?_ ?_
      rotate_left
      · intro w'
        go_simp
        with_reducible rfl
      rotate_left
      · simp only [Act.put, List.setIfInBounds_toArray, List.set_cons_zero, List.set_cons_succ, i64_w, i32_w]
        rfl
      refine pure_ (i := 6) (N := some 15) (v := ?_) (a' := ?_) #[true, true, true, false, true, true, true, false, false, false] rfl rfl (by kernel_rfl) (fun _ _ _ h => h) (Or.inl ⟨by rfl, ?_⟩) ?_ ?_
      rotate_left
      · intro w'
        go_simp
        with_reducible rfl
      rotate_left
      · simp only [Act.put, List.setIfInBounds_toArray, List.set_cons_zero, List.set_cons_succ, i64_w, i32_w]
        rfl
      refine take_ (i := 3) (N := some 12) (v := ?_) (a' := ?_) #[true, true, true, true, true, true, true, false, false, false] rfl rfl (by kernel_rfl) (fun _ _ _ h => h) (Or.inl ⟨by rfl, ?_⟩) hHeld ?_ ?_
      rotate_left
      · rintro w' ⟨s0, s1, s2⟩
        go_simp
        with_reducible rfl
      rotate_left
      · simp only [Act.put, List.setIfInBounds_toArray, List.set_cons_zero, List.set_cons_succ, i64_w, i32_w]
        rfl
      refine take_ (i := 7) (N := some 16) (v := ?_) (a' := ?_) #[true, true, true, true, true, true, true, true, false, false] rfl rfl (by kernel_rfl) (fun _ _ _ h => h) (Or.inl ⟨by rfl, ?_⟩) hHeld ?_ ?_
      rotate_left
      · rintro w' ⟨s0, s1, s2⟩
        go_simp
        with_reducible rfl
      rotate_left
      · simp only [Act.put, List.setIfInBounds_toArray, List.set_cons_zero, List.set_cons_succ, i64_w, i32_w]
        rfl
      refine pure_ (i := 8) (N := some 17) (v := ?_) (a' := ?_) #[true, true, true, true, true, true, true, true, true, false] rfl rfl (by kernel_rfl) (fun _ _ _ h => h) (Or.inl ⟨by rfl, ?_⟩) ?_ ?_
      rotate_left
      · intro w'
        go_simp
        with_reducible rfl
      rotate_left
      · simp only [Act.put, List.setIfInBounds_toArray, List.set_cons_zero, List.set_cons_succ, i64_w, i32_w]
        rfl
      refine take_ (i := 9) (N := some 18) (v := ?_) (a' := ?_) #[true, true, true, true, true, true, true, true, true, true] rfl rfl (by kernel_rfl) (fun _ _ _ h => h) (Or.inl ⟨by rfl, ?_⟩) hHeld ?_ ?_
      rotate_left
      · rintro w' ⟨s0, s1, s2⟩
        go_simp
        with_reducible rfl
      rotate_left
      · simp only [Act.put, List.setIfInBounds_toArray, List.set_cons_zero, List.set_cons_succ, i64_w, i32_w]
        rfl
      refine done_ (by kernel_rfl) ?_
      go_wp2_with (at_builtin; refine Hold_ ?_)
      refine Aside0.mk ?_
      (repeat first | rw [drew_alloc] | rw [drewN_alloc])
      refine Kd.R_append kTk (w0 := w0) w0.heap.size rfl (.tmp 27) (.tmp 29) 24 31 (.agg #[.int .i64 0, .string ⟨#[]⟩]) 24 rfl Tryd.underlying24 infoTk rfl (by decide) (by omega) (.slice Av toks.length cv) toks ⟨3, ⟨#[]⟩⟩ [.int .i64 3, .string ⟨#[]⟩] (fun k => k ≠ b) (fun _ => False) ?_ ?_ ?_ (fun _ hk => hk.elim) ?_ ?_ ?_ ?_ ?_ ?_
      · rfl
      · first | rfl | (show Value.slice _ _ _ = Value.slice _ _ _; simp)
      · exact k31_mkM _ _ _ _
      · exact LxI.fresh (by repeat (first | exact HI.out | apply LxI.drewN | apply LxI.drew | apply LxI.setAt | apply LxI.alloc))
      · exact LxI.row (by repeat (first | exact HI.out | apply LxI.drewN | apply LxI.drew | apply LxI.setAt | apply LxI.alloc))
      · exact LxI.below (by repeat (first | exact HI.out | apply LxI.drewN | apply LxI.drew | apply LxI.setAt | apply LxI.alloc))
      · exact (LxI.below (by repeat (first | exact HI.out | apply LxI.drewN | apply LxI.drew | apply LxI.setAt | apply LxI.alloc))).size
      · omega
      intro v1 w1 hr hb hg hat
      obtain ⟨n1_, A1_, c1_, ev1_⟩ : ∃ n A1 c1, v1 = .slice A1 n c1 := by obtain ⟨A1, c1, e⟩ := Kd.R_slice hr; exact ⟨_, A1, c1, e⟩
      subst ev1_
      have HPush := Aside0.mk (LxI.push (by repeat (first | exact HI.out | apply LxI.drewN | apply LxI.drew | apply LxI.setAt | apply LxI.alloc)) hr hb hg)
      have HBk := Aside0.mk (LxI.kept hg (by repeat (first | exact HI.out | apply LxI.drewN | apply LxI.drew | apply LxI.setAt | apply LxI.alloc)))
      clear hr hb hg hat hc0 hc1 hc2 hf0 hf2 hch hfar
      have hw0 := blk_cell HBk.out 0
      have hw2 := blk_cell HBk.out 2
      have hv0 := blk_frozen HBk.out 0
      have hv2 := blk_frozen HBk.out 2
      go_wp2
      go_ret
      unfold TPost
      rw [Hres.out]
      refine ⟨rfl, ?_⟩
      rw [show ((z.toNat + 1 : Nat) : Int) = z + 1 by omega]
      exact ⟨_, LxI.setAt HPush.out _⟩
    · by_cases h41 : ch = 41
      · have Hres := Aside0.mk (Hres0.out.trans (by unfold tk2; rw [hche, if_neg h40, if_pos h41]))
        subst h41
        clear hche h40
        go_enter Tryd.func19, Tryd.ntmps19
        go_wp2
        refine start_ (n := 10) (S := fun w' => w'.cell? ⟨b, 1, none⟩ = some (.slice (some ad) line.length c) ∧ w'.cell? ⟨b, 2, none⟩ = some (.int .i64 z) ∧ w'.cell? (ad.add z.toNat) = some (.int .u8 41)) (ds := []) #[false, false, false, false, false, false, false, false, false, false] (by kernel_rfl) rfl rfl ⟨(LxI.cell1 (by repeat (first | exact HI.out | apply LxI.drewN | apply LxI.drew | apply LxI.setAt | apply LxI.alloc))), (LxI.cell2 (by repeat (first | exact HI.out | apply LxI.drewN | apply LxI.drew | apply LxI.setAt | apply LxI.alloc))), hch⟩ (fun hHeld => ?_)
        refine pure_ (i := 0) (N := some 9) (v := ?_) (a' := ?_) #[true, false, false, false, false, false, false, false, false, false] rfl rfl (by kernel_rfl) (fun _ _ _ h => h) (Or.inl ⟨by rfl, ?_⟩) ?_ ?_
        rotate_left
        · intro w'
          go_simp
          with_reducible rfl
        rotate_left
        · simp only [Act.put, List.setIfInBounds_toArray, List.set_cons_zero, List.set_cons_succ, i64_w, i32_w]
          rfl
        refine pure_ (i := 1) (N := some 10) (v := ?_) (a' := ?_) #[true, true, false, false, false, false, false, false, false, false] rfl rfl (by kernel_rfl) (fun _ _ _ h => h) (Or.inl ⟨by rfl, ?_⟩) ?_ ?_
        rotate_left
        · intro w'
          go_simp
          with_reducible rfl
        rotate_left
        · simp only [Act.put, List.setIfInBounds_toArray, List.set_cons_zero, List.set_cons_succ, i64_w, i32_w]
          rfl
        refine pure_ (i := 2) (N := some 11) (v := ?_) (a' := ?_) #[true, true, true, false, false, false, false, false, false, false] rfl rfl (by kernel_rfl) (fun _ _ _ h => h) (Or.inl ⟨by rfl, ?_⟩) ?_ ?_
        rotate_left
        · intro w'
          go_simp
          with_reducible rfl
        rotate_left
        · simp only [Act.put, List.setIfInBounds_toArray, List.set_cons_zero, List.set_cons_succ, i64_w, i32_w]
          rfl
        refine pure_ (i := 4) (N := some 13) (v := ?_) (a' := ?_) #[true, true, true, false, true, false, false, false, false, false] rfl rfl (by kernel_rfl) (fun _ _ _ h => h) (Or.inl ⟨by rfl, ?_⟩) ?_ ?_
        rotate_left
        · intro w'
          go_simp
          with_reducible rfl
        rotate_left
        · simp only [Act.put, List.setIfInBounds_toArray, List.set_cons_zero, List.set_cons_succ, i64_w, i32_w]
          rfl
        refine pure_ (i := 5) (N := some 14) (v := ?_) (a' := ?_) #[true, true, true, false, true, true, false, false, false, false] rfl rfl (by kernel_rfl) (fun _ _ _ h => h) (Or.inl ⟨by rfl, ?_⟩) ?_ ?_
        rotate_left
        · intro w'
          go_simp
          with_reducible rfl
        rotate_left
        · simp only [Act.put, List.setIfInBounds_toArray, List.set_cons_zero, List.set_cons_succ, i64_w, i32_w]
          rfl
        refine pure_ (i := 6) (N := some 15) (v := ?_) (a' := ?_) #[true, true, true, false, true, true, true, false, false, false] rfl rfl (by kernel_rfl) (fun _ _ _ h => h) (Or.inl ⟨by rfl, ?_⟩) ?_ ?_
        rotate_left
        · intro w'
          go_simp
          with_reducible rfl
        rotate_left
        · simp only [Act.put, List.setIfInBounds_toArray, List.set_cons_zero, List.set_cons_succ, i64_w, i32_w]
          rfl
        refine take_ (i := 3) (N := some 12) (v := ?_) (a' := ?_) #[true, true, true, true, true, true, true, false, false, false] rfl rfl (by kernel_rfl) (fun _ _ _ h => h) (Or.inl ⟨by rfl, ?_⟩) hHeld ?_ ?_
        rotate_left
        · rintro w' ⟨s0, s1, s2⟩
          go_simp
          with_reducible rfl
        rotate_left
        · simp only [Act.put, List.setIfInBounds_toArray, List.set_cons_zero, List.set_cons_succ, i64_w, i32_w]
          rfl
        refine take_ (i := 7) (N := some 16) (v := ?_) (a' := ?_) #[true, true, true, true, true, true, true, true, false, false] rfl rfl (by kernel_rfl) (fun _ _ _ h => h) (Or.inl ⟨by rfl, ?_⟩) hHeld ?_ ?_
        rotate_left
        · rintro w' ⟨s0, s1, s2⟩
          go_simp
          with_reducible rfl
        rotate_left
        · simp only [Act.put, List.setIfInBounds_toArray, List.set_cons_zero, List.set_cons_succ, i64_w, i32_w]
          rfl
        refine pure_ (i := 8) (N := some 17) (v := ?_) (a' := ?_) #[true, true, true, true, true, true, true, true, true, false] rfl rfl (by kernel_rfl) (fun _ _ _ h => h) (Or.inl ⟨by rfl, ?_⟩) ?_ ?_
        rotate_left
        · intro w'
          go_simp
          with_reducible rfl
        rotate_left
        · simp only [Act.put, List.setIfInBounds_toArray, List.set_cons_zero, List.set_cons_succ, i64_w, i32_w]
          rfl
        refine take_ (i := 9) (N := some 18) (v := ?_) (a' := ?_) #[true, true, true, true, true, true, true, true, true, true] rfl rfl (by kernel_rfl) (fun _ _ _ h => h) (Or.inl ⟨by rfl, ?_⟩) hHeld ?_ ?_
        rotate_left
        · rintro w' ⟨s0, s1, s2⟩
          go_simp
          with_reducible rfl
        rotate_left
        · simp only [Act.put, List.setIfInBounds_toArray, List.set_cons_zero, List.set_cons_succ, i64_w, i32_w]
          rfl
        refine done_ (by kernel_rfl) ?_
        go_wp2_with (at_builtin; refine Hold_ ?_)
        refine Aside0.mk ?_
        (repeat first | rw [drew_alloc] | rw [drewN_alloc])
        refine Kd.R_append kTk (w0 := w0) w0.heap.size rfl (.tmp 39) (.tmp 41) 24 31 (.agg #[.int .i64 0, .string ⟨#[]⟩]) 24 rfl Tryd.underlying24 infoTk rfl (by decide) (by omega) (.slice Av toks.length cv) toks ⟨4, ⟨#[]⟩⟩ [.int .i64 4, .string ⟨#[]⟩] (fun k => k ≠ b) (fun _ => False) ?_ ?_ ?_ (fun _ hk => hk.elim) ?_ ?_ ?_ ?_ ?_ ?_
        · rfl
        · first | rfl | (show Value.slice _ _ _ = Value.slice _ _ _; simp)
        · exact k31_mkM _ _ _ _
        · exact LxI.fresh (by repeat (first | exact HI.out | apply LxI.drewN | apply LxI.drew | apply LxI.setAt | apply LxI.alloc))
        · exact LxI.row (by repeat (first | exact HI.out | apply LxI.drewN | apply LxI.drew | apply LxI.setAt | apply LxI.alloc))
        · exact LxI.below (by repeat (first | exact HI.out | apply LxI.drewN | apply LxI.drew | apply LxI.setAt | apply LxI.alloc))
        · exact (LxI.below (by repeat (first | exact HI.out | apply LxI.drewN | apply LxI.drew | apply LxI.setAt | apply LxI.alloc))).size
        · omega
        intro v1 w1 hr hb hg hat
        obtain ⟨n1_, A1_, c1_, ev1_⟩ : ∃ n A1 c1, v1 = .slice A1 n c1 := by obtain ⟨A1, c1, e⟩ := Kd.R_slice hr; exact ⟨_, A1, c1, e⟩
        subst ev1_
        have HPush := Aside0.mk (LxI.push (by repeat (first | exact HI.out | apply LxI.drewN | apply LxI.drew | apply LxI.setAt | apply LxI.alloc)) hr hb hg)
        have HBk := Aside0.mk (LxI.kept hg (by repeat (first | exact HI.out | apply LxI.drewN | apply LxI.drew | apply LxI.setAt | apply LxI.alloc)))
        clear hr hb hg hat hc0 hc1 hc2 hf0 hf2 hch hfar
        have hw0 := blk_cell HBk.out 0
        have hw2 := blk_cell HBk.out 2
        have hv0 := blk_frozen HBk.out 0
        have hv2 := blk_frozen HBk.out 2
        go_wp2
        go_ret
        unfold TPost
        rw [Hres.out]
        refine ⟨rfl, ?_⟩
        rw [show ((z.toNat + 1 : Nat) : Int) = z + 1 by omega]
        exact ⟨_, LxI.setAt HPush.out _⟩
      · have e40 : (ch == (40 : Int)) = false := beq_eq_false_iff_ne.2 h40
        have e41 : (ch == (41 : Int)) = false := beq_eq_false_iff_ne.2 h41
        by_cases h34 : ch = 34
        · have Hq := Aside0.mk (Hres0.out.trans (by unfold tk2; rw [hche, if_neg h40, if_neg h41, if_pos h34]))
          subst h34
          clear hche h40 h41 e40 e41
          cases hqg : qgo (line.drop (z.toNat + 1)) [] with
          | none =>
            have Hqg := Aside0.mk hqg
            clear hqg
            have Hres := Aside0.mk (Hq.out.trans (by rw [Hqg.out]))
            go_enter Tryd.func19, Tryd.ntmps19
            go_wp2
            refine start_ (n := 10) (S := fun w' => w'.cell? ⟨b, 1, none⟩ = some (.slice (some ad) line.length c) ∧ w'.cell? ⟨b, 2, none⟩ = some (.int .i64 z) ∧ w'.cell? (ad.add z.toNat) = some (.int .u8 34)) (ds := []) #[false, false, false, false, false, false, false, false, false, false] (by kernel_rfl) rfl rfl ⟨(LxI.cell1 (by repeat (first | exact HI.out | apply LxI.drewN | apply LxI.drew | apply LxI.setAt | apply LxI.alloc))), (LxI.cell2 (by repeat (first | exact HI.out | apply LxI.drewN | apply LxI.drew | apply LxI.setAt | apply LxI.alloc))), hch⟩ (fun hHeld => ?_)
            refine pure_ (i := 0) (N := some 9) (v := ?_) (a' := ?_) #[true, false, false, false, false, false, false, false, false, false] rfl rfl (by kernel_rfl) (fun _ _ _ h => h) (Or.inl ⟨by rfl, ?_⟩) ?_ ?_
            rotate_left
            · intro w'
              go_simp
              with_reducible rfl
            rotate_left
            · simp only [Act.put, List.setIfInBounds_toArray, List.set_cons_zero, List.set_cons_succ, i64_w, i32_w]
              rfl
            refine pure_ (i := 1) (N := some 10) (v := ?_) (a' := ?_) #[true, true, false, false, false, false, false, false, false, false] rfl rfl (by kernel_rfl) (fun _ _ _ h => h) (Or.inl ⟨by rfl, ?_⟩) ?_ ?_
            rotate_left
            · intro w'
              go_simp
              with_reducible rfl
            rotate_left
            · simp only [Act.put, List.setIfInBounds_toArray, List.set_cons_zero, List.set_cons_succ, i64_w, i32_w]
              rfl
            refine pure_ (i := 2) (N := some 11) (v := ?_) (a' := ?_) #[true, true, true, false, false, false, false, false, false, false] rfl rfl (by kernel_rfl) (fun _ _ _ h => h) (Or.inl ⟨by rfl, ?_⟩) ?_ ?_
            rotate_left
            · intro w'
              go_simp
              with_reducible rfl
            rotate_left
            · simp only [Act.put, List.setIfInBounds_toArray, List.set_cons_zero, List.set_cons_succ, i64_w, i32_w]
              rfl
            refine pure_ (i := 4) (N := some 13) (v := ?_) (a' := ?_) #[true, true, true, false, true, false, false, false, false, false] rfl rfl (by kernel_rfl) (fun _ _ _ h => h) (Or.inl ⟨by rfl, ?_⟩) ?_ ?_
            rotate_left
            · intro w'
              go_simp
              with_reducible rfl
            rotate_left
            · simp only [Act.put, List.setIfInBounds_toArray, List.set_cons_zero, List.set_cons_succ, i64_w, i32_w]
              rfl
            refine pure_ (i := 5) (N := some 14) (v := ?_) (a' := ?_) #[true, true, true, false, true, true, false, false, false, false] rfl rfl (by kernel_rfl) (fun _ _ _ h => h) (Or.inl ⟨by rfl, ?_⟩) ?_ ?_
            rotate_left
            · intro w'
              go_simp
              with_reducible rfl
            rotate_left
            · simp only [Act.put, List.setIfInBounds_toArray, List.set_cons_zero, List.set_cons_succ, i64_w, i32_w]
              rfl
            refine pure_ (i := 6) (N := some 15) (v := ?_) (a' := ?_) #[true, true, true, false, true, true, true, false, false, false] rfl rfl (by kernel_rfl) (fun _ _ _ h => h) (Or.inl ⟨by rfl, ?_⟩) ?_ ?_
            rotate_left
            · intro w'
              go_simp
              with_reducible rfl
            rotate_left
            · simp only [Act.put, List.setIfInBounds_toArray, List.set_cons_zero, List.set_cons_succ, i64_w, i32_w]
              rfl
            refine take_ (i := 3) (N := some 12) (v := ?_) (a' := ?_) #[true, true, true, true, true, true, true, false, false, false] rfl rfl (by kernel_rfl) (fun _ _ _ h => h) (Or.inl ⟨by rfl, ?_⟩) hHeld ?_ ?_
            rotate_left
            · rintro w' ⟨s0, s1, s2⟩
              go_simp
              with_reducible rfl
            rotate_left
            · simp only [Act.put, List.setIfInBounds_toArray, List.set_cons_zero, List.set_cons_succ, i64_w, i32_w]
              rfl
            refine take_ (i := 7) (N := some 16) (v := ?_) (a' := ?_) #[true, true, true, true, true, true, true, true, false, false] rfl rfl (by kernel_rfl) (fun _ _ _ h => h) (Or.inl ⟨by rfl, ?_⟩) hHeld ?_ ?_
            rotate_left
            · rintro w' ⟨s0, s1, s2⟩
              go_simp
              with_reducible rfl
            rotate_left
            · simp only [Act.put, List.setIfInBounds_toArray, List.set_cons_zero, List.set_cons_succ, i64_w, i32_w]
              rfl
            refine pure_ (i := 8) (N := some 17) (v := ?_) (a' := ?_) #[true, true, true, true, true, true, true, true, true, false] rfl rfl (by kernel_rfl) (fun _ _ _ h => h) (Or.inl ⟨by rfl, ?_⟩) ?_ ?_
            rotate_left
            · intro w'
              go_simp
              with_reducible rfl
            rotate_left
            · simp only [Act.put, List.setIfInBounds_toArray, List.set_cons_zero, List.set_cons_succ, i64_w, i32_w]
              rfl
            refine take_ (i := 9) (N := some 18) (v := ?_) (a' := ?_) #[true, true, true, true, true, true, true, true, true, true] rfl rfl (by kernel_rfl) (fun _ _ _ h => h) (Or.inl ⟨by rfl, ?_⟩) hHeld ?_ ?_
            rotate_left
            · rintro w' ⟨s0, s1, s2⟩
              go_simp
              with_reducible rfl
            rotate_left
            · simp only [Act.put, List.setIfInBounds_toArray, List.set_cons_zero, List.set_cons_succ, i64_w, i32_w]
              rfl
            refine done_ (by kernel_rfl) ?_
            go_wp2_with (fail)
            refine (lexer_quoted w0 _ b _ _ c line (z + 1) toks (by repeat (first | exact HI.out | apply LxI.drewN | apply LxI.drew | apply LxI.setAt | apply LxI.alloc)) (by omega) (by omega) htk hlen0).mono ?_
            intro e w' hq
            rw [show (z + 1).toNat = z.toNat + 1 by omega, Hqg.out] at hq
            obtain ⟨rfl, hq⟩ := hq
            have HQ := Aside0.mk hq
            clear hq
            go_wp2
            go_ret
            unfold TPost
            rw [Hres.out]
            exact ⟨rfl, HQ.out⟩
          | some x =>
            have Hqg := Aside0.mk hqg
            clear hqg
            obtain ⟨s, n⟩ := x
            have Hres := Aside0.mk (Hq.out.trans (by rw [Hqg.out]))
            go_enter Tryd.func19, Tryd.ntmps19
            go_wp2
            refine start_ (n := 10) (S := fun w' => w'.cell? ⟨b, 1, none⟩ = some (.slice (some ad) line.length c) ∧ w'.cell? ⟨b, 2, none⟩ = some (.int .i64 z) ∧ w'.cell? (ad.add z.toNat) = some (.int .u8 34)) (ds := []) #[false, false, false, false, false, false, false, false, false, false] (by kernel_rfl) rfl rfl ⟨(LxI.cell1 (by repeat (first | exact HI.out | apply LxI.drewN | apply LxI.drew | apply LxI.setAt | apply LxI.alloc))), (LxI.cell2 (by repeat (first | exact HI.out | apply LxI.drewN | apply LxI.drew | apply LxI.setAt | apply LxI.alloc))), hch⟩ (fun hHeld => ?_)
            refine pure_ (i := 0) (N := some 9) (v := ?_) (a' := ?_) #[true, false, false, false, false, false, false, false, false, false] rfl rfl (by kernel_rfl) (fun _ _ _ h => h) (Or.inl ⟨by rfl, ?_⟩) ?_ ?_
            rotate_left
            · intro w'
              go_simp
              with_reducible rfl
            rotate_left
            · simp only [Act.put, List.setIfInBounds_toArray, List.set_cons_zero, List.set_cons_succ, i64_w, i32_w]
              rfl
            refine pure_ (i := 1) (N := some 10) (v := ?_) (a' := ?_) #[true, true, false, false, false, false, false, false, false, false] rfl rfl (by kernel_rfl) (fun _ _ _ h => h) (Or.inl ⟨by rfl, ?_⟩) ?_ ?_
            rotate_left
            · intro w'
              go_simp
              with_reducible rfl
            rotate_left
            · simp only [Act.put, List.setIfInBounds_toArray, List.set_cons_zero, List.set_cons_succ, i64_w, i32_w]
              rfl
            refine pure_ (i := 2) (N := some 11) (v := ?_) (a' := ?_) #[true, true, true, false, false, false, false, false, false, false] rfl rfl (by kernel_rfl) (fun _ _ _ h => h) (Or.inl ⟨by rfl, ?_⟩) ?_ ?_
            rotate_left
            · intro w'
              go_simp
              with_reducible rfl
            rotate_left
            · simp only [Act.put, List.setIfInBounds_toArray, List.set_cons_zero, List.set_cons_succ, i64_w, i32_w]
              rfl
            refine pure_ (i := 4) (N := some 13) (v := ?_) (a' := ?_) #[true, true, true, false, true, false, false, false, false, false] rfl rfl (by kernel_rfl) (fun _ _ _ h => h) (Or.inl ⟨by rfl, ?_⟩) ?_ ?_
            rotate_left
            · intro w'
              go_simp
              with_reducible rfl
            rotate_left
            · simp only [Act.put, List.setIfInBounds_toArray, List.set_cons_zero, List.set_cons_succ, i64_w, i32_w]
              rfl
            refine pure_ (i := 5) (N := some 14) (v := ?_) (a' := ?_) #[true, true, true, false, true, true, false, false, false, false] rfl rfl (by kernel_rfl) (fun _ _ _ h => h) (Or.inl ⟨by rfl, ?_⟩) ?_ ?_
            rotate_left
            · intro w'
              go_simp
              with_reducible rfl
            rotate_left
            · simp only [Act.put, List.setIfInBounds_toArray, List.set_cons_zero, List.set_cons_succ, i64_w, i32_w]
              rfl
            refine pure_ (i := 6) (N := some 15) (v := ?_) (a' := ?_) #[true, true, true, false, true, true, true, false, false, false] rfl rfl (by kernel_rfl) (fun _ _ _ h => h) (Or.inl ⟨by rfl, ?_⟩) ?_ ?_
            rotate_left
            · intro w'
              go_simp
              with_reducible rfl
            rotate_left
            · simp only [Act.put, List.setIfInBounds_toArray, List.set_cons_zero, List.set_cons_succ, i64_w, i32_w]
              rfl
            refine take_ (i := 3) (N := some 12) (v := ?_) (a' := ?_) #[true, true, true, true, true, true, true, false, false, false] rfl rfl (by kernel_rfl) (fun _ _ _ h => h) (Or.inl ⟨by rfl, ?_⟩) hHeld ?_ ?_
            rotate_left
            · rintro w' ⟨s0, s1, s2⟩
              go_simp
              with_reducible rfl
            rotate_left
            · simp only [Act.put, List.setIfInBounds_toArray, List.set_cons_zero, List.set_cons_succ, i64_w, i32_w]
              rfl
            refine take_ (i := 7) (N := some 16) (v := ?_) (a' := ?_) #[true, true, true, true, true, true, true, true, false, false] rfl rfl (by kernel_rfl) (fun _ _ _ h => h) (Or.inl ⟨by rfl, ?_⟩) hHeld ?_ ?_
            rotate_left
            · rintro w' ⟨s0, s1, s2⟩
              go_simp
              with_reducible rfl
            rotate_left
            · simp only [Act.put, List.setIfInBounds_toArray, List.set_cons_zero, List.set_cons_succ, i64_w, i32_w]
              rfl
            refine pure_ (i := 8) (N := some 17) (v := ?_) (a' := ?_) #[true, true, true, true, true, true, true, true, true, false] rfl rfl (by kernel_rfl) (fun _ _ _ h => h) (Or.inl ⟨by rfl, ?_⟩) ?_ ?_
            rotate_left
            · intro w'
              go_simp
              with_reducible rfl
            rotate_left
            · simp only [Act.put, List.setIfInBounds_toArray, List.set_cons_zero, List.set_cons_succ, i64_w, i32_w]
              rfl
            refine take_ (i := 9) (N := some 18) (v := ?_) (a' := ?_) #[true, true, true, true, true, true, true, true, true, true] rfl rfl (by kernel_rfl) (fun _ _ _ h => h) (Or.inl ⟨by rfl, ?_⟩) hHeld ?_ ?_
            rotate_left
            · rintro w' ⟨s0, s1, s2⟩
              go_simp
              with_reducible rfl
            rotate_left
            · simp only [Act.put, List.setIfInBounds_toArray, List.set_cons_zero, List.set_cons_succ, i64_w, i32_w]
              rfl
            refine done_ (by kernel_rfl) ?_
            go_wp2_with (fail)
            refine (lexer_quoted w0 _ b _ _ c line (z + 1) toks (by repeat (first | exact HI.out | apply LxI.drewN | apply LxI.drew | apply LxI.setAt | apply LxI.alloc)) (by omega) (by omega) htk hlen0).mono ?_
            intro e w' hq
            rw [show (z + 1).toNat = z.toNat + 1 by omega, Hqg.out] at hq
            obtain ⟨rfl, v1, hq⟩ := hq
            have HQ := Aside0.mk hq
            clear hq
            go_wp2
            go_ret
            unfold TPost
            rw [Hres.out]
            refine ⟨rfl, v1, ?_⟩
            rw [show ((z.toNat + 1 + n : Nat) : Int) = z + 1 + n by omega]
            exact HQ.out
        · have e34 : (ch == (34 : Int)) = false := beq_eq_false_iff_ne.2 h34
          have Hq := Aside0.mk (Hres0.out.trans (by unfold tk2; rw [hche, if_neg h40, if_neg h41, if_neg h34]))
          clear hche h40 h41 h34
          cases hqg : ago false (line.drop z.toNat) with
          | none =>
            have Hqg := Aside0.mk hqg
            clear hqg
            have Hres := Aside0.mk (Hq.out.trans (by rw [Hqg.out]))
            go_enter Tryd.func19, Tryd.ntmps19
            go_wp2
            refine start_ (n := 10) (S := fun w' => w'.cell? ⟨b, 1, none⟩ = some (.slice (some ad) line.length c) ∧ w'.cell? ⟨b, 2, none⟩ = some (.int .i64 z) ∧ w'.cell? (ad.add z.toNat) = some (.int .u8 ch)) (ds := []) #[false, false, false, false, false, false, false, false, false, false] (by kernel_rfl) rfl rfl ⟨(LxI.cell1 (by repeat (first | exact HI.out | apply LxI.drewN | apply LxI.drew | apply LxI.setAt | apply LxI.alloc))), (LxI.cell2 (by repeat (first | exact HI.out | apply LxI.drewN | apply LxI.drew | apply LxI.setAt | apply LxI.alloc))), hch⟩ (fun hHeld => ?_)
            refine pure_ (i := 0) (N := some 9) (v := ?_) (a' := ?_) #[true, false, false, false, false, false, false, false, false, false] rfl rfl (by kernel_rfl) (fun _ _ _ h => h) (Or.inl ⟨by rfl, ?_⟩) ?_ ?_
            rotate_left
            · intro w'
              go_simp
              with_reducible rfl
            rotate_left
            · simp only [Act.put, List.setIfInBounds_toArray, List.set_cons_zero, List.set_cons_succ, i64_w, i32_w]
              rfl
            refine pure_ (i := 1) (N := some 10) (v := ?_) (a' := ?_) #[true, true, false, false, false, false, false, false, false, false] rfl rfl (by kernel_rfl) (fun _ _ _ h => h) (Or.inl ⟨by rfl, ?_⟩) ?_ ?_
            rotate_left
            · intro w'
              go_simp
              with_reducible rfl
            rotate_left
            · simp only [Act.put, List.setIfInBounds_toArray, List.set_cons_zero, List.set_cons_succ, i64_w, i32_w]
              rfl
            refine pure_ (i := 2) (N := some 11) (v := ?_) (a' := ?_) #[true, true, true, false, false, false, false, false, false, false] rfl rfl (by kernel_rfl) (fun _ _ _ h => h) (Or.inl ⟨by rfl, ?_⟩) ?_ ?_
            rotate_left
            · intro w'
              go_simp
              with_reducible rfl
            rotate_left
            · simp only [Act.put, List.setIfInBounds_toArray, List.set_cons_zero, List.set_cons_succ, i64_w, i32_w]
              rfl
            refine pure_ (i := 4) (N := some 13) (v := ?_) (a' := ?_) #[true, true, true, false, true, false, false, false, false, false] rfl rfl (by kernel_rfl) (fun _ _ _ h => h) (Or.inl ⟨by rfl, ?_⟩) ?_ ?_
            rotate_left
            · intro w'
              go_simp
              with_reducible rfl
            rotate_left
            · simp only [Act.put, List.setIfInBounds_toArray, List.set_cons_zero, List.set_cons_succ, i64_w, i32_w]
              rfl
            refine pure_ (i := 5) (N := some 14) (v := ?_) (a' := ?_) #[true, true, true, false, true, true, false, false, false, false] rfl rfl (by kernel_rfl) (fun _ _ _ h => h) (Or.inl ⟨by rfl, ?_⟩) ?_ ?_
            rotate_left
            · intro w'
              go_simp
              with_reducible rfl
            rotate_left
            · simp only [Act.put, List.setIfInBounds_toArray, List.set_cons_zero, List.set_cons_succ, i64_w, i32_w]
              rfl
            refine pure_ (i := 6) (N := some 15) (v := ?_) (a' := ?_) #[true, true, true, false, true, true, true, false, false, false] rfl rfl (by kernel_rfl) (fun _ _ _ h => h) (Or.inl ⟨by rfl, ?_⟩) ?_ ?_
            rotate_left
            · intro w'
              go_simp
              with_reducible rfl
            rotate_left
            · simp only [Act.put, List.setIfInBounds_toArray, List.set_cons_zero, List.set_cons_succ, i64_w, i32_w]
              rfl
            refine take_ (i := 3) (N := some 12) (v := ?_) (a' := ?_) #[true, true, true, true, true, true, true, false, false, false] rfl rfl (by kernel_rfl) (fun _ _ _ h => h) (Or.inl ⟨by rfl, ?_⟩) hHeld ?_ ?_
            rotate_left
            · rintro w' ⟨s0, s1, s2⟩
              go_simp
              with_reducible rfl
            rotate_left
            · simp only [Act.put, List.setIfInBounds_toArray, List.set_cons_zero, List.set_cons_succ, i64_w, i32_w]
              rfl
            refine take_ (i := 7) (N := some 16) (v := ?_) (a' := ?_) #[true, true, true, true, true, true, true, true, false, false] rfl rfl (by kernel_rfl) (fun _ _ _ h => h) (Or.inl ⟨by rfl, ?_⟩) hHeld ?_ ?_
            rotate_left
            · rintro w' ⟨s0, s1, s2⟩
              go_simp
              with_reducible rfl
            rotate_left
            · simp only [Act.put, List.setIfInBounds_toArray, List.set_cons_zero, List.set_cons_succ, i64_w, i32_w]
              rfl
            refine pure_ (i := 8) (N := some 17) (v := ?_) (a' := ?_) #[true, true, true, true, true, true, true, true, true, false] rfl rfl (by kernel_rfl) (fun _ _ _ h => h) (Or.inl ⟨by rfl, ?_⟩) ?_ ?_
            rotate_left
            · intro w'
              go_simp
              with_reducible rfl
            rotate_left
            · simp only [Act.put, List.setIfInBounds_toArray, List.set_cons_zero, List.set_cons_succ, i64_w, i32_w]
              rfl
            refine take_ (i := 9) (N := some 18) (v := ?_) (a' := ?_) #[true, true, true, true, true, true, true, true, true, true] rfl rfl (by kernel_rfl) (fun _ _ _ h => h) (Or.inl ⟨by rfl, ?_⟩) hHeld ?_ ?_
            rotate_left
            · rintro w' ⟨s0, s1, s2⟩
              go_simp
              with_reducible rfl
            rotate_left
            · simp only [Act.put, List.setIfInBounds_toArray, List.set_cons_zero, List.set_cons_succ, i64_w, i32_w]
              rfl
            refine done_ (by kernel_rfl) ?_
            go_wp2_with (fail)
            refine (lexer_atom w0 _ b _ _ c line z toks (by repeat (first | exact HI.out | apply LxI.drewN | apply LxI.drew | apply LxI.setAt | apply LxI.alloc)) (by omega) (by omega) htk hlen0).mono ?_
            intro e w' hq
            rw [Hqg.out] at hq
            obtain ⟨rfl, hq⟩ := hq
            have HQ := Aside0.mk hq
            clear hq
            go_wp2
            go_ret
            unfold TPost
            rw [Hres.out]
            exact ⟨rfl, HQ.out⟩
          | some n =>
            have Hqg := Aside0.mk hqg
            clear hqg
            have Hres := Aside0.mk (Hq.out.trans (by rw [Hqg.out]))
            go_enter Tryd.func19, Tryd.ntmps19
            go_wp2
            refine start_ (n := 10) (S := fun w' => w'.cell? ⟨b, 1, none⟩ = some (.slice (some ad) line.length c) ∧ w'.cell? ⟨b, 2, none⟩ = some (.int .i64 z) ∧ w'.cell? (ad.add z.toNat) = some (.int .u8 ch)) (ds := []) #[false, false, false, false, false, false, false, false, false, false] (by kernel_rfl) rfl rfl ⟨(LxI.cell1 (by repeat (first | exact HI.out | apply LxI.drewN | apply LxI.drew | apply LxI.setAt | apply LxI.alloc))), (LxI.cell2 (by repeat (first | exact HI.out | apply LxI.drewN | apply LxI.drew | apply LxI.setAt | apply LxI.alloc))), hch⟩ (fun hHeld => ?_)
            refine pure_ (i := 0) (N := some 9) (v := ?_) (a' := ?_) #[true, false, false, false, false, false, false, false, false, false] rfl rfl (by kernel_rfl) (fun _ _ _ h => h) (Or.inl ⟨by rfl, ?_⟩) ?_ ?_
            rotate_left
            · intro w'
              go_simp
              with_reducible rfl
            rotate_left
            · simp only [Act.put, List.setIfInBounds_toArray, List.set_cons_zero, List.set_cons_succ, i64_w, i32_w]
              rfl
            refine pure_ (i := 1) (N := some 10) (v := ?_) (a' := ?_) #[true, true, false, false, false, false, false, false, false, false] rfl rfl (by kernel_rfl) (fun _ _ _ h => h) (Or.inl ⟨by rfl, ?_⟩) ?_ ?_
            rotate_left
            · intro w'
              go_simp
              with_reducible rfl
            rotate_left
            · simp only [Act.put, List.setIfInBounds_toArray, List.set_cons_zero, List.set_cons_succ, i64_w, i32_w]
              rfl
            refine pure_ (i := 2) (N := some 11) (v := ?_) (a' := ?_) #[true, true, true, false, false, false, false, false, false, false] rfl rfl (by kernel_rfl) (fun _ _ _ h => h) (Or.inl ⟨by rfl, ?_⟩) ?_ ?_
            rotate_left
            · intro w'
              go_simp
              with_reducible rfl
            rotate_left
            · simp only [Act.put, List.setIfInBounds_toArray, List.set_cons_zero, List.set_cons_succ, i64_w, i32_w]
              rfl
            refine pure_ (i := 4) (N := some 13) (v := ?_) (a' := ?_) #[true, true, true, false, true, false, false, false, false, false] rfl rfl (by kernel_rfl) (fun _ _ _ h => h) (Or.inl ⟨by rfl, ?_⟩) ?_ ?_
            rotate_left
            · intro w'
              go_simp
              with_reducible rfl
            rotate_left
            · simp only [Act.put, List.setIfInBounds_toArray, List.set_cons_zero, List.set_cons_succ, i64_w, i32_w]
              rfl
            refine pure_ (i := 5) (N := some 14) (v := ?_) (a' := ?_) #[true, true, true, false, true, true, false, false, false, false] rfl rfl (by kernel_rfl) (fun _ _ _ h => h) (Or.inl ⟨by rfl, ?_⟩) ?_ ?_
            rotate_left
            · intro w'
              go_simp
              with_reducible rfl
            rotate_left
            · simp only [Act.put, List.setIfInBounds_toArray, List.set_cons_zero, List.set_cons_succ, i64_w, i32_w]
              rfl
            refine pure_ (i := 6) (N := some 15) (v := ?_) (a' := ?_) #[true, true, true, false, true, true, true, false, false, false] rfl rfl (by kernel_rfl) (fun _ _ _ h => h) (Or.inl ⟨by rfl, ?_⟩) ?_ ?_
            rotate_left
            · intro w'
              go_simp
              with_reducible rfl
            rotate_left
            · simp only [Act.put, List.setIfInBounds_toArray, List.set_cons_zero, List.set_cons_succ, i64_w, i32_w]
              rfl
            refine take_ (i := 3) (N := some 12) (v := ?_) (a' := ?_) #[true, true, true, true, true, true, true, false, false, false] rfl rfl (by kernel_rfl) (fun _ _ _ h => h) (Or.inl ⟨by rfl, ?_⟩) hHeld ?_ ?_
            rotate_left
            · rintro w' ⟨s0, s1, s2⟩
              go_simp
              with_reducible rfl
            rotate_left
            · simp only [Act.put, List.setIfInBounds_toArray, List.set_cons_zero, List.set_cons_succ, i64_w, i32_w]
              rfl
            refine take_ (i := 7) (N := some 16) (v := ?_) (a' := ?_) #[true, true, true, true, true, true, true, true, false, false] rfl rfl (by kernel_rfl) (fun _ _ _ h => h) (Or.inl ⟨by rfl, ?_⟩) hHeld ?_ ?_
            rotate_left
            · rintro w' ⟨s0, s1, s2⟩
              go_simp
              with_reducible rfl
            rotate_left
            · simp only [Act.put, List.setIfInBounds_toArray, List.set_cons_zero, List.set_cons_succ, i64_w, i32_w]
              rfl
            refine pure_ (i := 8) (N := some 17) (v := ?_) (a' := ?_) #[true, true, true, true, true, true, true, true, true, false] rfl rfl (by kernel_rfl) (fun _ _ _ h => h) (Or.inl ⟨by rfl, ?_⟩) ?_ ?_
            rotate_left
            · intro w'
              go_simp
              with_reducible rfl
            rotate_left
            · simp only [Act.put, List.setIfInBounds_toArray, List.set_cons_zero, List.set_cons_succ, i64_w, i32_w]
              rfl
            refine take_ (i := 9) (N := some 18) (v := ?_) (a' := ?_) #[true, true, true, true, true, true, true, true, true, true] rfl rfl (by kernel_rfl) (fun _ _ _ h => h) (Or.inl ⟨by rfl, ?_⟩) hHeld ?_ ?_
            rotate_left
            · rintro w' ⟨s0, s1, s2⟩
              go_simp
              with_reducible rfl
            rotate_left
            · simp only [Act.put, List.setIfInBounds_toArray, List.set_cons_zero, List.set_cons_succ, i64_w, i32_w]
              rfl
            refine done_ (by kernel_rfl) ?_
            go_wp2_with (fail)
            refine (lexer_atom w0 _ b _ _ c line z toks (by repeat (first | exact HI.out | apply LxI.drewN | apply LxI.drew | apply LxI.setAt | apply LxI.alloc)) (by omega) (by omega) htk hlen0).mono ?_
            intro e w' hq
            rw [Hqg.out] at hq
            obtain ⟨rfl, v1, hq⟩ := hq
            have HQ := Aside0.mk hq
            clear hq
            go_wp2
            go_ret
            unfold TPost
            rw [Hres.out]
            refine ⟨rfl, v1, ?_⟩
            rw [show ((z.toNat + n : Nat) : Int) = z + n by omega]
            exact HQ.out
end Go.Proofs.YtbdmhlocafpehaaDoor
