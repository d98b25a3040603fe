/- Lex itself, by hand. -/
import Derived.Test.YtbdmhlocafpehaaDoorLexTks
import Derived.Test.YtbdmhlocafpehaaDoorGx1
namespace Go.Proofs.YtbdmhlocafpehaaDoor
open Go.RowKit Go.Proofs.YtbdmhlocafpehaaDoor.P Go.Proofs.YtbdmhlocafpehaaDoorW.PrintWords Go.Proofs.YtbdmhlocafpehaaDoorW.PrintLast Go.Proofs.YtbdmhlocafpehaaDoorW.PrintMore
set_option linter.unusedVariables false
set_option linter.unusedSimpArgs false
section
variable {w0 w w1 : World} {b : Nat} {v v1 : Value} {toks : List Tk}
theorem LxK.drewN (h : LxK w0 w b v toks) (n : Nat) : LxK w0 (w.drewN n) b v toks := ⟨pw_below_drewN h.below n, h.bge, h.blk, Kd.R_drewN h.row n⟩
theorem LxK.drew (h : LxK w0 w b v toks) : LxK w0 w.drew b v toks := ⟨below_drew h.below, h.bge, h.blk, Kd.R_drew h.row⟩
theorem LxK.lt (h : LxK w0 w b v toks) : b < w.heap.size := by obtain ⟨l, a, hb⟩ := h.blk; exact blk_lt hb
theorem LxK.below_ (h : LxK w0 w b v toks) (hb : Below w.heap.size w w1) : LxK w0 w1 b v toks := by
  obtain ⟨l, a, h1⟩ := h.blk
  exact ⟨below_step h.below hb, h.bge, ⟨l, a, (hb.block _ (blk_lt h1)).trans h1⟩, Kd.R_below h.row hb⟩
theorem LxK.alloc (h : LxK w0 w b v toks) (o : Obj) : LxK w0 (w.alloc o) b v toks := h.below_ (below_alloc (Below.refl w.heap.size w) o)
theorem LxK.cell0 (h : LxK w0 w b v toks) : w.cell? ⟨b, 0, none⟩ = some v := by obtain ⟨l, a, h1⟩ := h.blk; rw [blk_cell h1]; rfl
theorem LxK.thaw (h : LxK w0 w b v toks) (i : Nat) : w.frozen? ⟨b, i, none⟩ = false := by obtain ⟨l, a, h1⟩ := h.blk; exact blk_frozen h1 i
theorem LxK.fresh (h : LxK w0 w b v toks) : ∀ k, w.heap.size ≤ k → k ≠ b := fun k hk e => by have := h.lt; omega
theorem LxK.kept (hg : w.grownBy w1 v.ownBlock) (h : LxK w0 w b v toks) : ∃ l a, w1.heap[b]? = some (.cells #[v, l, a] 41 (0, 0)) := by
  obtain ⟨l, a, h1⟩ := h.blk
  exact ⟨l, a, blk_grown h1 hg (fun e => h.row.1 b e.symm rfl)⟩
theorem LxK.push (h : LxK w0 w b v toks) {t : Tk} (hr : Kd.R kTk 31 w1 w0.heap.size (fun k => k ≠ b) v1 (toks ++ [t])) (hb : Below w0.heap.size w0 w1) (hg : w.grownBy w1 v.ownBlock) : LxK w0 (w1.setCell ⟨b, 0, none⟩ v1) b v1 (toks ++ [t]) := by
  obtain ⟨l, a, h1⟩ := h.kept hg
  exact ⟨below_set hb h.bge, h.bge, ⟨l, a, blk_set h1 0 _⟩, Kd.R_far hr (fun k hk => hk) _⟩
theorem LxK.start (hb : Below w0.heap.size w0 w1) : LxK w0 (w1.alloc (Obj.cells #[.slice none 0 0, .slice none 0 0, .int .i64 0] 41)) w1.heap.size (.slice none 0 0) [] :=
  ⟨below_step hb (below_alloc (Below.refl w1.heap.size w1) _), hb.size, ⟨_, _, by show (w1.heap.push _)[w1.heap.size]? = _; rw [Array.getElem?_push_size]⟩, Kd.R_nil _ _ _ _ _⟩
theorem tgo_err : ∀ {g : Nat} {line : List Int} {p : Nat} {tk : List Tk} {x : Int}, tgo g line p tk = some (.inl x) → x ≠ 0
  | 0, line, p, tk, x, h => by rw [tgo] at h; exact absurd h (by simp)
  | g + 1, line, p, tk, x, h => by
    rw [tgo] at h
    split at h
    · split at h
      · exact tgo_err h
      · split at h
        · rename_i e he
          have hx := Option.some.inj h
          have hx2 := Sum.inl.inj hx
          subst hx2
          have := tk1_err he
          omega
        · exact tgo_err h
    · exact absurd (Option.some.inj h) (by simp)
end
/-- The tokens of lines from a place on. -/
def lxGo (k : Nat) (lines lits : List (List Int)) : Nat → Nat → List Tk → Option (List Tk × Int)
  | 0, _, _ => none
  | g + 1, i, tk => if i < lines.length then (if (lines.getD i []).length ≤ 100000000 then
      (if i < lits.length then (G.lex_marked.f k (lines.getD i [])).bind fun m =>
          if 0 ≤ m.1 ∧ m.1 ≤ (lines.getD i []).length then (match tgo (m.1.toNat + 1) ((lines.getD i []).take m.1.toNat) 0 tk with
            | none => none
            | some (.inl e) => some ([], e)
            | some (.inr t) => if 64 ≤ t.length then some ([], 5) else lxGo k lines lits g (i + 1) (t ++ [⟨2, strOfNums (lits.getD i [])⟩])) else none
        else (match tgo ((lines.getD i []).length + 1) (lines.getD i []) 0 tk with
            | none => none
            | some (.inl e) => some ([], e)
            | some (.inr t) => if i = lits.length then some (t, 0) else none)) else none) else none
def lex_Lex.f (k : Nat) (lines lits : List (List Int)) : Option (List Tk × Int) :=
  (G.lex_fits.f k lines lits).bind fun ok => if ok = true then lxGo k lines lits (lines.length + 1) 0 [] else some ([], 3)
set_option maxHeartbeats 8000000 in
set_option maxRecDepth 1000000 in
theorem lex_Lex.calls (k : Nat) (A0 : Option Addr) (c0 : Nat) (lines : List (List Int)) (A1 : Option Addr) (c1 : Nat) (lits : List (List Int)) (r0 : List Tk) (r1 : Int) (w : World) (hr0 : Kd.C (Kd.slice 5 (Kd.int .u8)) w A0 lines.length lines) (hc0 : lines.length ≤ c0) (hr1 : Kd.C (Kd.slice 5 (Kd.int .u8)) w A1 lits.length lits) (hc1 : lits.length ≤ c1) (h : lex_Lex.f k lines lits = some (r0, r1)) :
    Calls Tryd.prog 8 #[.slice A0 lines.length c0, .slice A1 lits.length c1] w fun e w' => ∃ v0_ : Value, e = .returned (.tuple #[v0_, .int .i64 r1]) ∧ Kd.V kTk 31 w' w.heap.size (fun k_ => w.heap.size ≤ k_) v0_ r0 ∧ Below w.heap.size w w' := by
  have HR0 := Aside0.mk hr0
  have HC0 := Aside0.mk hc0
  have HR1 := Aside0.mk hr1
  have HC1 := Aside0.mk hc1
  clear hr0 hc0 hr1 hc1
  obtain ⟨ok, HF0, h2⟩ := Option.bind_eq_some_iff.1 h
  clear h
  have HF := Aside0.mk HF0
  clear HF0
  have HH := Aside0.mk h2
  clear h2
  have hm0 := Kd.C_max HR0.out
  have hm1 := Kd.C_max HR1.out
  go_enter Tryd.func8, Tryd.ntmps8
  go_wp2_with (fail)
  refine (G.lex_fits.calls k A0 c0 lines A1 c1 lits ok _ ?s1 HC0.out ?s2 HC1.out HF.out).mono ?_
  case s1 => repeat (first | exact HR0.out | refine Kd.C_drewN ?_ _ | refine Kd.C_drew ?_)
  case s2 => repeat (first | exact HR1.out | refine Kd.C_drewN ?_ _ | refine Kd.C_drew ?_)
  rintro e w1 ⟨rfl, hb⟩
  have HB : Aside0 (Below w.heap.size w w1) := ⟨by first | exact hb | exact below_step (by repeat (first | exact Below.refl _ _ | apply pw_below_drewN | apply below_drew)) hb⟩
  clear hb
  cases ok with
  | false =>
    go_wp2
    go_ret2
    have e1 := Option.some.inj HH.out
    obtain ⟨rfl, rfl⟩ := Prod.mk.inj e1
    exact ⟨_, rfl, Kd.V_nil _ _ _ _ _, HB.out⟩
  | true =>
    have HL0 : Aside0 (lxGo k lines lits (lines.length + 1) 0 [] = some (r0, r1)) := ⟨HH.out⟩
    clear HH HF
    go_wp2_with (fail)
    have HK0 := Aside0.mk (LxK.start (w0 := w) HB.out)
    clear HB
    generalize w1.alloc (Obj.cells #[.slice none 0 0, .slice none 0 0, .int .i64 0] 41) = w2 at HK0 ⊢
    generalize w1.heap.size = b at HK0 ⊢
    go_loopg [20] (lines.length + 1) (fun g v20 wz => ∃ (z : Int) (v : Value) (tk : List Tk), v20 = .int .i64 z ∧ 0 ≤ z ∧ z ≤ lines.length ∧ Aside0 (lxGo k lines lits g z.toNat tk = some (r0, r1)) ∧ Aside0 (LxK w wz b v tk))
    case atStart => exact ⟨0, _, [], rfl, by omega, by omega, HL0, HK0⟩
    case round =>
      obtain ⟨z, v, tk, rfl, hz, hzl, HT, HK⟩ := hrel
      clear HL0 HK0
      cases gk with
      | zero => exact absurd HT.out (by rw [lxGo]; simp)
      | succ g =>
        by_cases hlt : z < (lines.length : Int)
        rotate_left
        · exact absurd HT.out (by rw [lxGo, if_neg (by omega)]; simp)
        have hltn : z.toNat < lines.length := by omega
        have hd : decide (z < (lines.length : Int)) = true := decide_eq_true hlt
        obtain ⟨ad, Al, cl, ead, hx0, hl0, hi0⟩ := G.at_L1 HR0.out z hz hlt
        cases ead
        have hxB := World.block_lt_of_cell? w _ hx0
        obtain ⟨line, hline⟩ : ∃ line, lines.getD z.toNat ([] : List Int) = line := ⟨_, rfl⟩
        rw [show G.rd_L1 lines z = line from hline] at hx0 hl0 hi0
        have HX0 := Aside0.mk hx0
        have HI0 := Aside0.mk hi0
        have HM0 := Aside0.mk hl0
        have HXB := Aside0.mk hxB
        clear hx0 hi0 hl0 hxB
        have hlen : line.length ≤ 100000000 := by
            apply Classical.byContradiction
            intro hc
            exact absurd HT.out (by rw [lxGo, if_pos hltn, hline, if_neg hc]; simp)
        have p1 : (0 ≤ z) = True := eq_true hz
        have q1 : (z < (lines.length : Int)) = True := eq_true hlt
        have hcx := (HK.out.below.cell HXB.out).trans HX0.out
        by_cases hlit : z < (lits.length : Int)
        · have hdl : decide (z < (lits.length : Int)) = true := decide_eq_true hlit
          have HT2 := HT.out
          rw [lxGo, if_pos hltn, hline, if_pos hlen, if_pos (by omega)] at HT2
          obtain ⟨⟨m1, m2⟩, HM, HT3⟩ := Option.bind_eq_some_iff.1 HT2
          have HMk := Aside0.mk HM
          clear HT HT2 HM
          by_cases hm : 0 ≤ m1 ∧ m1 ≤ line.length
          rotate_left
          · rw [if_neg hm] at HT3; exact absurd HT3 (by simp)
          rw [if_pos hm] at HT3
          obtain ⟨hm0', hm1'⟩ := hm
          replace HT3 := Aside0.mk HT3
          go_wp2_with (fail)
          refine (G.lex_marked.calls k Al cl line m1 m2 _ ?s1 HM0.out HMk.out).mono ?_
          case s1 => exact Kd.C_below HI0.out (LxK.below (by repeat (first | exact HK.out | apply LxK.drewN | apply LxK.drew | apply LxK.alloc)))
          rintro e w3 ⟨rfl, hb3⟩
          have HK3 := Aside0.mk (LxK.below_ (by repeat (first | exact HK.out | apply LxK.drewN | apply LxK.drew | apply LxK.alloc)) hb3)
          clear hb3 hcx
          obtain ⟨i0_, hi0_, _, hsz_, _⟩ := info_parts info5
          obtain ⟨hcut, hAc, hCc⟩ := print_take_of (P := Tryd.prog) (Value.int .u8) 0 23 5 .i64 Tryd.underlying23 hi0_ hsz_ Al cl line m1 hm0' hm1' HM0.out
          have HCt := Aside0.mk (Kd.C_of_reads (h1 := fun _ => rfl) (hAc _ (Kd.reads_of_C HI0.out)))
          have HCc := Aside0.mk hCc
          have hlt2 : (line.take m1.toNat).length ≤ 100000000 := by rw [List.length_take]; omega
          clear hAc hCc hi0_ hsz_
          obtain ⟨lt_, hlt_⟩ : ∃ lt_, line.take m1.toNat = lt_ := ⟨_, rfl⟩
          simp only [hlt_] at HT3 hcut HCt HCc hlt2
          cases hres : tgo (m1.toNat + 1) lt_ 0 tk with
          | none => have := HT3.out; rw [hres] at this; exact absurd this (by simp)
          | some R =>
            have HR := Aside0.mk hres
            have HT4 := HT3.out
            rw [hres] at HT4
            have HT5 := Aside0.mk HT4
            clear hres HT3 HT4
            go_wp2_with (fail)
            refine (lexer_tokens _ w _ b v Al cl lt_ tk R (by repeat (first | exact HK3.out | apply LxK.drewN | apply LxK.drew | apply LxK.alloc)) HCt.out HCc.out hlt2 HR.out).mono ?_
            intro e w4 hq
            unfold KPost at hq
            cases R with
            | inl x =>
              obtain ⟨rfl, hq⟩ := hq
              have HQ := Aside0.mk hq
              clear hq
              have hx1 : (x != (0 : Int)) = true := bne_iff_ne.2 (tgo_err HR.out)
              have e1 := Option.some.inj HT5.out
              obtain ⟨rfl, rfl⟩ := Prod.mk.inj e1
              go_wp2
              go_ret2
              exact ⟨_, rfl, Kd.V_nil _ _ _ _ _, HQ.out⟩
            | inr t =>
              obtain ⟨rfl, v2, hq⟩ := hq
              have HK4 := Aside0.mk hq
              clear hq
              obtain ⟨Av, cv, rfl⟩ := Kd.R_slice HK4.out.row
              have hc0 := HK4.out.cell0
              have hf0 := HK4.out.thaw 0
              have hne : (z == (lits.length : Int)) = false := beq_eq_false_iff_ne.2 (by omega)
              by_cases h64 : 64 ≤ t.length
              · have h64b : decide (64 ≤ (t.length : Int)) = true := decide_eq_true (by omega)
                have h64c : decide (64 ≤ t.length) = true := decide_eq_true h64
                have HT6 := HT5.out
                simp only [if_pos h64] at HT6
                have e1 := Option.some.inj HT6
                obtain ⟨rfl, rfl⟩ := Prod.mk.inj e1
                go_wp2
                go_ret2
                exact ⟨_, rfl, Kd.V_nil _ _ _ _ _, HK4.out.below⟩
              · have h64b : decide (64 ≤ (t.length : Int)) = false := decide_eq_false (by omega)
                have h64c : decide (64 ≤ t.length) = false := decide_eq_false h64
                have HT6 := HT5.out
                simp only [if_neg h64] at HT6
                have HT7 := Aside0.mk HT6
                clear HT6 HT5
                obtain ⟨ad1, Ai, ci, ead1, hx1, hl1, hi1⟩ := G.at_L1 HR1.out z hz hlit
                cases ead1
                obtain ⟨lit, hlite⟩ : ∃ lit, lits.getD z.toNat ([] : List Int) = lit := ⟨_, rfl⟩
                rw [show G.rd_L1 lits z = lit from hlite] at hx1 hl1 hi1
                rw [hlite] at HT7
                have HX1 := Aside0.mk hx1
                have HI1 := Aside0.mk hi1
                have HM1 := Aside0.mk hl1
                have HB1 := Aside0.mk (World.block_lt_of_cell? w _ hx1)
                clear hx1 hi1 hl1
                have q2 : (z < (lits.length : Int)) = True := eq_true hlit
                go_wp2_with (fail)
                refine start_ (n := 16) (S := fun w' => w'.cell? ⟨b, 0, none⟩ = some (.slice Av t.length cv) ∧ w'.cell? (ad1.add z.toNat) = some (.slice Ai lit.length ci) ∧ (convert 23 9 (.slice Ai lit.length ci)).run Tryd.prog w' = .ok (.string (strOfNums lit)) w') (ds := [12, 15]) #[false, false, false, false, false, false, false, false, false, false, false, false, false, false, false, false] (by kernel_rfl) rfl rfl ⟨(LxK.cell0 (by repeat (first | exact HK4.out | apply LxK.drewN | apply LxK.drew | apply LxK.alloc))), (((LxK.below (by repeat (first | exact HK4.out | apply LxK.drewN | apply LxK.drew | apply LxK.alloc))).cell HB1.out).trans HX1.out), (Kd.C_string (P := Tryd.prog) (A := Ai) (c := ci) Tryd.underlying23 Tryd.underlying5 Tryd.underlying9 (Kd.C_below HI1.out (LxK.below (by repeat (first | exact HK4.out | apply LxK.drewN | apply LxK.drew | apply LxK.alloc)))))⟩ (fun hHeld => ?_)
                refine pure_ (i := 0) (N := some 53) (v := ?_) (a' := ?_) #[true, false, false, false, false, false, false, false, false, false, false, false, false, false, false, false] rfl rfl (by kernel_rfl) (fun _ _ _ h => h) (Or.inl ⟨by rfl, ?_⟩) ?_ ?_
                rotate_left
                · intro w'
                  go_simp
                  with_reducible rfl
                rotate_left
                · simp only [Act.put, List.setIfInBounds_toArray, List.set_cons_zero, List.set_cons_succ, i64_w, i32_w]
                  rfl
                refine pure_ (i := 1) (N := some 54) (v := ?_) (a' := ?_) #[true, true, false, false, false, false, false, false, false, false, false, false, false, false, false, false] rfl rfl (by kernel_rfl) (fun _ _ _ h => h) (Or.inl ⟨by rfl, ?_⟩) ?_ ?_
                rotate_left
                · intro w'
                  go_simp
                  with_reducible rfl
                rotate_left
                · simp only [Act.put, List.setIfInBounds_toArray, List.set_cons_zero, List.set_cons_succ, i64_w, i32_w]
                  rfl
                refine pure_ (i := 2) (N := some 55) (v := ?_) (a' := ?_) #[true, true, true, false, false, false, false, false, false, false, false, false, false, false, false, false] rfl rfl (by kernel_rfl) (fun _ _ _ h => h) (Or.inl ⟨by rfl, ?_⟩) ?_ ?_
                rotate_left
                · intro w'
                  go_simp
                  with_reducible rfl
                rotate_left
                · simp only [Act.put, List.setIfInBounds_toArray, List.set_cons_zero, List.set_cons_succ, i64_w, i32_w]
                  rfl
                refine pure_ (i := 3) (N := some 56) (v := ?_) (a' := ?_) #[true, true, true, true, false, false, false, false, false, false, false, false, false, false, false, false] rfl rfl (by kernel_rfl) (fun _ _ _ h => h) (Or.inl ⟨by rfl, ?_⟩) ?_ ?_
                rotate_left
                · intro w'
                  go_simp
                  with_reducible rfl
                rotate_left
                · simp only [Act.put, List.setIfInBounds_toArray, List.set_cons_zero, List.set_cons_succ, i64_w, i32_w]
                  rfl
                refine pure_ (i := 5) (N := some 58) (v := ?_) (a' := ?_) #[true, true, true, true, false, true, false, false, false, false, false, false, false, false, false, false] rfl rfl (by kernel_rfl) (fun _ _ _ h => h) (Or.inl ⟨by rfl, ?_⟩) ?_ ?_
                rotate_left
                · intro w'
                  go_simp
                  with_reducible rfl
                rotate_left
                · simp only [Act.put, List.setIfInBounds_toArray, List.set_cons_zero, List.set_cons_succ, i64_w, i32_w]
                  rfl
                refine pure_ (i := 6) (N := some 59) (v := ?_) (a' := ?_) #[true, true, true, true, false, true, true, false, false, false, false, false, false, false, false, false] rfl rfl (by kernel_rfl) (fun _ _ _ h => h) (Or.inl ⟨by rfl, ?_⟩) ?_ ?_
                rotate_left
                · intro w'
                  go_simp
                  with_reducible rfl
                rotate_left
                · simp only [Act.put, List.setIfInBounds_toArray, List.set_cons_zero, List.set_cons_succ, i64_w, i32_w]
                  rfl
                refine pure_ (i := 7) (N := some 60) (v := ?_) (a' := ?_) #[true, true, true, true, false, true, true, true, false, false, false, false, false, false, false, false] rfl rfl (by kernel_rfl) (fun _ _ _ h => h) (Or.inl ⟨by rfl, ?_⟩) ?_ ?_
                rotate_left
                · intro w'
                  go_simp
                  with_reducible rfl
                rotate_left
                · simp only [Act.put, List.setIfInBounds_toArray, List.set_cons_zero, List.set_cons_succ, i64_w, i32_w]
                  rfl
                refine take_ (i := 4) (N := some 57) (v := ?_) (a' := ?_) #[true, true, true, true, true, true, true, true, false, false, false, false, false, false, false, false] rfl rfl (by kernel_rfl) (fun _ _ _ h => h) (Or.inl ⟨by rfl, ?_⟩) hHeld ?_ ?_
                rotate_left
                · rintro w' ⟨s0, s1, s2⟩
                  go_simp
                  with_reducible rfl
                rotate_left
                · simp only [Act.put, List.setIfInBounds_toArray, List.set_cons_zero, List.set_cons_succ, i64_w, i32_w]
                  rfl
                refine take_ (i := 8) (N := some 61) (v := ?_) (a' := ?_) #[true, true, true, true, true, true, true, true, true, false, false, false, false, false, false, false] rfl rfl (by kernel_rfl) (fun _ _ _ h => h) (Or.inl ⟨by rfl, ?_⟩) hHeld ?_ ?_
                rotate_left
                · rintro w' ⟨s0, s1, s2⟩
                  go_simp
                  with_reducible rfl
                rotate_left
                · simp only [Act.put, List.setIfInBounds_toArray, List.set_cons_zero, List.set_cons_succ, i64_w, i32_w]
                  rfl
                refine take_ (i := 9) (N := some 62) (v := ?_) (a' := ?_) #[true, true, true, true, true, true, true, true, true, true, false, false, false, false, false, false] rfl rfl (by kernel_rfl) (fun _ _ _ h => h) (Or.inl ⟨by rfl, ?_⟩) hHeld ?_ ?_
                rotate_left
                · rintro w' ⟨s0, s1, s2⟩
                  go_simp
                  with_reducible rfl
                rotate_left
                · simp only [Act.put, List.setIfInBounds_toArray, List.set_cons_zero, List.set_cons_succ, i64_w, i32_w]
                  rfl
                refine pure_ (i := 10) (N := some 63) (v := ?_) (a' := ?_) #[true, true, true, true, true, true, true, true, true, true, true, false, false, false, false, false] rfl rfl (by kernel_rfl) (fun _ _ _ h => h) (Or.inl ⟨by rfl, ?_⟩) ?_ ?_
                rotate_left
                · intro w'
                  go_simp
                  with_reducible rfl
                rotate_left
                · simp only [Act.put, List.setIfInBounds_toArray, List.set_cons_zero, List.set_cons_succ, i64_w, i32_w]
                  rfl
                refine one_ (i := 11) (N := some 64) #[true, true, true, true, true, true, true, true, true, true, true, true, false, false, false, false] rfl rfl (by kernel_rfl) (by decide) (fun K hK => ?_)
                refine value_ (w1 := ?_) (v := ?_) (by rfl) rfl ?_ ?_
                rotate_left 2
                · go_simp
                  constructor
                  · rfl
                  · rfl
                refine hK.out _ _ ⟨(LxK.cell0 (by repeat (first | exact HK4.out | apply LxK.drewN | apply LxK.drew | apply LxK.alloc))), (((LxK.below (by repeat (first | exact HK4.out | apply LxK.drewN | apply LxK.drew | apply LxK.alloc))).cell HB1.out).trans HX1.out), (Kd.C_string (P := Tryd.prog) (A := Ai) (c := ci) Tryd.underlying23 Tryd.underlying5 Tryd.underlying9 (Kd.C_below HI1.out (LxK.below (by repeat (first | exact HK4.out | apply LxK.drewN | apply LxK.drew | apply LxK.alloc)))))⟩ (fun hHeld => ?_)
                clear hK K
                refine norm_ (a' := ?_) ?_ ?_
                rotate_left
                · show Act.put _ (some 64) _ = _
                  simp only [Act.put, List.setIfInBounds_toArray, List.set_cons_zero, List.set_cons_succ, i64_w, i32_w]
                  rfl
                refine last_ (i := 12) (N := some 65) #[true, true, true, true, true, true, true, true, true, true, true, true, true, false, false, false] rfl rfl (by kernel_rfl) (by decide) (fun K hK => ?_)
                (repeat first | rw [drew_alloc] | rw [drewN_alloc])
                refine Kd.R_append_step kTk (w0 := w) w.heap.size ?_ (.tmp 57) (.tmp 64) 24 31 (.agg #[.int .i64 0, .string ⟨#[]⟩]) 24 ?_ Tryd.underlying24 infoTk rfl (by decide) (by omega) (.slice Av t.length cv) t ⟨2, strOfNums lit⟩ [.int .i64 2, .string (strOfNums lit)] (fun k => k ≠ b) (fun _ => False) ?_ ?_ ?_ (fun _ hk => hk.elim) ?_ ?_ ?_ ?_ ?_ ?_
                · rfl
                · rfl
                · rfl
                · first | rfl | (show Value.slice _ _ _ = Value.slice _ _ _; simp)
                · exact k31_mkM _ _ _ _
                · exact LxK.fresh (by repeat (first | exact HK4.out | apply LxK.drewN | apply LxK.drew | apply LxK.alloc))
                · exact LxK.row (by repeat (first | exact HK4.out | apply LxK.drewN | apply LxK.drew | apply LxK.alloc))
                · exact LxK.below (by repeat (first | exact HK4.out | apply LxK.drewN | apply LxK.drew | apply LxK.alloc))
                · exact (LxK.below (by repeat (first | exact HK4.out | apply LxK.drewN | apply LxK.drew | apply LxK.alloc))).size
                · omega
                intro v1 w1 hr hb hg hat
                obtain ⟨n1_, A1_, c1_, ev1_⟩ : ∃ n A1 c1, v1 = .slice A1 n c1 := by obtain ⟨A1, c1, e⟩ := Kd.R_slice hr; exact ⟨_, A1, c1, e⟩
                subst ev1_
                have HPush := Aside0.mk (LxK.push (by repeat (first | exact HK4.out | apply LxK.drewN | apply LxK.drew | apply LxK.alloc)) hr hb hg)
                obtain ⟨lb_, ab_, hblk_⟩ := LxK.kept hg (by repeat (first | exact HK4.out | apply LxK.drewN | apply LxK.drew | apply LxK.alloc))
                have HBk := Aside0.mk hblk_
                clear hr hb hg hat hblk_
                refine hK.out _ _ ?_
                clear hK K
                refine norm_ (a' := ?_) ?_ ?_
                rotate_left
                · show Act.put _ (some 65) _ = _
                  simp only [Act.put, List.setIfInBounds_toArray, List.set_cons_zero, List.set_cons_succ, i64_w, i32_w]
                  rfl
                refine pure_ (i := 13) (N := some 66) (v := ?_) (a' := ?_) #[true, true, true, true, true, true, true, true, true, true, true, true, true, true, false, false] rfl rfl (by kernel_rfl) (fun _ _ _ h => h) (Or.inl ⟨by rfl, ?_⟩) ?_ ?_
                rotate_left
                · intro w'
                  go_simp
                  with_reducible rfl
                rotate_left
                · simp only [Act.put, List.setIfInBounds_toArray, List.set_cons_zero, List.set_cons_succ, i64_w, i32_w]
                  rfl
                refine pure_ (i := 14) (N := some 67) (v := ?_) (a' := ?_) #[true, true, true, true, true, true, true, true, true, true, true, true, true, true, true, false] rfl rfl (by kernel_rfl) (fun _ _ _ h => h) (Or.inl ⟨by rfl, ?_⟩) ?_ ?_
                rotate_left
                · intro w'
                  go_simp
                  with_reducible rfl
                rotate_left
                · simp only [Act.put, List.setIfInBounds_toArray, List.set_cons_zero, List.set_cons_succ, i64_w, i32_w]
                  rfl
                refine last_ (i := 15) (N := none) #[true, true, true, true, true, true, true, true, true, true, true, true, true, true, true, true] rfl rfl (by kernel_rfl) (by decide) (fun K hK => ?_)
                have hb0_ := blk_cell HBk.out 0
                have hb1_ := blk_frozen HBk.out 0
                refine skip_ (w1 := ?_) (by rfl) rfl ?_ ?_
                rotate_left
                · go_simp
                  rfl
                refine hK.out _ _ ?_
                clear hK K
                refine done_ (by kernel_rfl) ?_
                go_wp2
                go_roundg g
                case measure => omega
                case rel => exact ⟨z + 1, _, _, by rfl, by omega, by omega, ⟨by rw [show (z + 1).toNat = z.toNat + 1 by omega]; exact HT7.out⟩, HPush⟩
        · have hdl : decide (z < (lits.length : Int)) = false := decide_eq_false hlit
          have HT2 := HT.out
          rw [lxGo, if_pos hltn, hline, if_pos hlen, if_neg (by omega)] at HT2
          cases hres : tgo (line.length + 1) line 0 tk with
          | none => rw [hres] at HT2; exact absurd HT2 (by simp)
          | some R =>
            rw [hres] at HT2
            have HR := Aside0.mk hres
            have HT5 := Aside0.mk HT2
            clear hres HT2 HT
            go_wp2_with (fail)
            refine (lexer_tokens _ w _ b v Al cl line tk R (by repeat (first | exact HK.out | apply LxK.drewN | apply LxK.drew | apply LxK.alloc)) HI0.out HM0.out hlen HR.out).mono ?_
            intro e w4 hq
            unfold KPost at hq
            cases R with
            | inl x =>
              obtain ⟨rfl, hq⟩ := hq
              have HQ := Aside0.mk hq
              clear hq
              have hx1 : (x != (0 : Int)) = true := bne_iff_ne.2 (tgo_err HR.out)
              have e1 := Option.some.inj HT5.out
              obtain ⟨rfl, rfl⟩ := Prod.mk.inj e1
              go_wp2
              go_ret2
              exact ⟨_, rfl, Kd.V_nil _ _ _ _ _, HQ.out⟩
            | inr t =>
              obtain ⟨rfl, v2, hq⟩ := hq
              have HK4 := Aside0.mk hq
              clear hq
              obtain ⟨Av, cv, rfl⟩ := Kd.R_slice HK4.out.row
              have hc0 := HK4.out.cell0
              have hf0 := HK4.out.thaw 0
              by_cases heq : z.toNat = lits.length
              rotate_left
              · have := HT5.out; simp only [if_neg heq] at this; exact absurd this (by simp)
              have heqb : (z == (lits.length : Int)) = true := beq_iff_eq.2 (by omega)
              have HT6 := HT5.out
              simp only [if_pos heq] at HT6
              have e1 := Option.some.inj HT6
              obtain ⟨rfl, rfl⟩ := Prod.mk.inj e1
              go_wp2
              go_ret2
              exact ⟨_, rfl, Kd.V_mono (Kd.R_V (Kd.R_bound HK4.out.row)) (fun k hk => hk.2.1), HK4.out.below⟩
theorem lxGo_mono (k : Nat) (lines lits : List (List Int)) : ∀ (g i : Nat) (tk : List Tk), LeO (lxGo k lines lits g i tk) (lxGo (k + 1) lines lits g i tk)
  | 0, i, tk => fun r h => by rw [lxGo] at h; exact absurd h (by simp)
  | g + 1, i, tk => by
    rw [lxGo, lxGo]
    refine LeO.ite (LeO.ite (LeO.ite (LeO.bind (G.lex_marked.mono _ _) (fun m => LeO.ite ?_ (LeO.none _))) (LeO.refl _)) (LeO.none _)) (LeO.none _)
    cases tgo (m.1.toNat + 1) ((lines.getD i []).take m.1.toNat) 0 tk with
    | none => exact LeO.refl _
    | some R =>
      cases R with
      | inl x => exact LeO.refl _
      | inr t => exact LeO.ite (LeO.refl _) (lxGo_mono k lines lits g _ _)
theorem lex_Lex.mono : ∀ a0 a1 k, LeO (lex_Lex.f k a0 a1) (lex_Lex.f (k + 1) a0 a1) := by
  intro a0 a1 k
  unfold lex_Lex.f
  refine LeO.bind (G.lex_fits.mono _ _ _) (fun ok => LeO.ite (lxGo_mono _ _ _ _ _ _) (LeO.refl _))
/-- A row of one row, just laid. -/
theorem rowOne {w1 : World} {A : Option Addr} {c : Nat} {xs : List Int} {t : TypeId} (_h : True) (hC : Kd.C (Kd.int .u8) w1 A xs.length xs) (hc : xs.length ≤ c) : Kd.C (Kd.slice 5 (Kd.int .u8)) (w1.alloc (Obj.cells #[.slice A xs.length c] t)) (some ⟨w1.heap.size, 0, none⟩) 1 [xs] := by
  have hb : (w1.alloc (Obj.cells #[.slice A xs.length c] t)).heap[w1.heap.size]? = some (.cells #[.slice A xs.length c] t (0, 0)) := by show (w1.heap.push _)[w1.heap.size]? = _; rw [Array.getElem?_push_size]
  refine ⟨rfl, by omega, fun _ => ⟨_, rfl, fun j p hj => ?_⟩⟩
  cases j with
  | succ j => exact absurd hj (by simp)
  | zero =>
    obtain rfl := Option.some.inj hj
    refine ⟨[.slice A xs.length c], rfl, ⟨A, c, rfl, hc, Kd.C_alloc hC _⟩, fun i u hi => ?_⟩
    cases i with
    | succ i => exact absurd hi (by simp)
    | zero =>
      obtain rfl := Option.some.inj hi
      show (w1.alloc _).cell? ⟨w1.heap.size, 0, none⟩ = _
      rw [blk_cell hb]; rfl
def lex_Wants.f (k : Nat) (l : List Int) : Option (Int × Bool) := G.lex_Wants.f k l
theorem lex_Wants.mono : ∀ a0 k, LeO (lex_Wants.f k a0) (lex_Wants.f (k + 1) a0) := G.lex_Wants.mono
theorem lex_Wants.calls (k : Nat) (A0 : Option Addr) (c0 : Nat) (l0 : List Int) (r1 : Int) (r2 : Bool) (w : World) (hr0 : Kd.C (Kd.int .u8) w A0 l0.length l0) (hc0 : l0.length ≤ c0) (h : lex_Wants.f k l0 = some (r1, r2)) :
    Calls Tryd.prog 12 #[.slice A0 l0.length c0] w fun e w' => e = .returned (.tuple #[.int .i64 r1, .bool r2]) ∧ Below w.heap.size w w' := G.lex_Wants.calls k A0 c0 l0 r1 r2 w hr0 hc0 h
end Go.Proofs.YtbdmhlocafpehaaDoor
