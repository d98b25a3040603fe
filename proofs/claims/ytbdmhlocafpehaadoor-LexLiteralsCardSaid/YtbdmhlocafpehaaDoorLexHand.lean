/- The lexer's methods, by hand: its struct's block, its row of tokens, the line that it looks at. -/
import Derived.Test.YtbdmhlocafpehaaDoorPx0
import Derived.Test.YtbdmhlocafpehaaDoorScope
namespace Go.Proofs.YtbdmhlocafpehaaDoor
open Go.RowKit Go.Proofs.YtbdmhlocafpehaaDoor.P Go.Proofs.YtbdmhlocafpehaaDoorW.PrintWords Go.Proofs.YtbdmhlocafpehaaDoorW.PrintLast Go.Proofs.YtbdmhlocafpehaaDoorW.PrintMore
set_option linter.unusedVariables false
set_option linter.unusedSimpArgs false

abbrev Tk := S31
abbrev kTk := k31
theorem infoTk : (Tryd.prog.info? 31).map (fun i => (i.zero, i.size, i.bytes)) = some (some (.agg #[.int .i64 0, .string ⟨#[]⟩]), 2, 24) := by kernel_rfl
/-- The lexer as it lies in a world. -/
structure LxI (w0 w : World) (b : Nat) (v : Value) (A : Option Addr) (c : Nat) (line : List Int) (at' : Int) (toks : List Tk) : Prop where
  below : Below w0.heap.size w0 w
  bge : w0.heap.size ≤ b
  blk : w.heap[b]? = some (.cells #[v, .slice A line.length c, .int .i64 at'] 41 (0, 0))
  row : Kd.R kTk 31 w w0.heap.size (fun k => k ≠ b) v toks
  line_ : Kd.C (Kd.int .u8) w0 A line.length line
  cap : line.length ≤ c
section
variable {w0 w w1 : World} {b : Nat} {v v1 : Value} {A : Option Addr} {c : Nat} {line : List Int} {at' : Int} {toks : List Tk}
theorem LxI.drewN (h : LxI w0 w b v A c line at' toks) (n : Nat) : LxI w0 (w.drewN n) b v A c line at' toks :=
  ⟨pw_below_drewN h.below n, h.bge, h.blk, Kd.R_drewN h.row n, h.line_, h.cap⟩
theorem LxI.alloc (h : LxI w0 w b v A c line at' toks) (o : Obj) : LxI w0 (w.alloc o) b v A c line at' toks := by
  have hb := below_alloc (Below.refl w.heap.size w) o
  exact ⟨below_step h.below hb, h.bge, (hb.block _ (blk_lt h.blk)).trans h.blk, Kd.R_below h.row hb, h.line_, h.cap⟩
theorem LxI.drew (h : LxI w0 w b v A c line at' toks) : LxI w0 w.drew b v A c line at' toks :=
  ⟨below_drew h.below, h.bge, h.blk, Kd.R_drew h.row, h.line_, h.cap⟩
theorem LxI.lt (h : LxI w0 w b v A c line at' toks) : b < w.heap.size := blk_lt h.blk
theorem LxI.cell0 (h : LxI w0 w b v A c line at' toks) : w.cell? ⟨b, 0, none⟩ = some v := by rw [blk_cell h.blk]; rfl
theorem LxI.cell1 (h : LxI w0 w b v A c line at' toks) : w.cell? ⟨b, 1, none⟩ = some (.slice A line.length c) := by rw [blk_cell h.blk]; rfl
theorem LxI.cell2 (h : LxI w0 w b v A c line at' toks) : w.cell? ⟨b, 2, none⟩ = some (.int .i64 at') := by rw [blk_cell h.blk]; rfl
theorem LxI.thaw (h : LxI w0 w b v A c line at' toks) (i : Nat) : w.frozen? ⟨b, i, none⟩ = false := blk_frozen h.blk i
theorem LxI.setAt (h : LxI w0 w b v A c line at' toks) (n : Int) : LxI w0 (w.setCell ⟨b, 2, none⟩ (.int .i64 n)) b v A c line n toks :=
  ⟨below_set h.below h.bge, h.bge, blk_set h.blk 2 _, Kd.R_far h.row (fun k hk => hk) _, h.line_, h.cap⟩
theorem LxI.below_ (h : LxI w0 w b v A c line at' toks) (hb : Below w.heap.size w w1) : LxI w0 w1 b v A c line at' toks :=
  ⟨below_step h.below hb, h.bge, (hb.block _ h.lt).trans h.blk, Kd.R_below h.row hb, h.line_, h.cap⟩
theorem LxI.char (h : LxI w0 w b v A c line at' toks) : ∀ i, i < line.length → ∃ ad, A = some ad ∧ ad.block < w0.heap.size ∧ w.cell? (ad.add i) = some (.int .u8 (line.getD i 0)) := by
  intro i hi
  obtain ⟨ad, rfl, hc⟩ := Kd.at_int h.line_ (i : Int) (by omega) (by omega)
  rw [Int.toNat_natCast] at hc
  have hr : rd line (i : Int) = line.getD i 0 := by unfold rd; rw [Int.toNat_natCast]
  rw [hr] at hc
  obtain ⟨ad2, e2, hc2⟩ := Kd.at_int h.line_ (0 : Int) (by omega) (by omega)
  obtain rfl := Option.some.inj e2
  have hb := World.block_lt_of_cell? w0 _ hc2
  have e0 : (ad.add (0 : Int).toNat).block = ad.block := by
    show (ad.add 0).block = ad.block
    unfold Addr.add; split <;> rfl
  rw [e0] at hb
  exact ⟨ad, rfl, hb, (h.below.cell (World.block_lt_of_cell? w0 _ hc)).trans hc⟩
/-- A row of another kind that is the call's own grows. -/
theorem LxI.grown (h : LxI w0 w b v A c line at' toks) {vs : Value} {xs : List Int} {e : Nat} {ok : Nat → Prop} {k : IntKind} (hs : Kd.R (Kd.int k) e w w0.heap.size ok vs xs) (hok : ∀ k, ok k → k ≠ b) (he : e ≠ 31) (hg : w.grownBy w1 vs.ownBlock) : LxI w0 w1 b v A c line at' toks := by
  refine ⟨h.below.grown hg h.below.size (Kd.R_base hs), h.bge, blk_grown h.blk hg (Kd.R_away hs hok), ?_, h.line_, h.cap⟩
  refine Kd.R_over' h.row (Kd.R_typed hs) (fun q hq => ?_) hg
  have : q = 31 := by
    rcases List.mem_cons.1 hq with rfl | hq
    · rfl
    · simp [kTk, k31, Kd.iso, Kd.pair, Kd.int, Kd.string, Kd.scalar] at hq
  rw [this]
  exact fun h => he h.symm
theorem LxI.fresh (h : LxI w0 w b v A c line at' toks) : ∀ k, w.heap.size ≤ k → k ≠ b := fun k hk e => by have := h.lt; omega
theorem LxI.grown8 {vs : Value} {xs : List Int} (hg : w.grownBy w1 vs.ownBlock) (h : LxI w0 w b v A c line at' toks) (hs : Kd.R (Kd.int .u8) 5 w w0.heap.size (fun k => k ≠ b) vs xs) : LxI w0 w1 b v A c line at' toks := LxI.grown h hs (fun _ hk => hk) (by decide) hg
theorem LxI.kept (hg : w.grownBy w1 v.ownBlock) (h : LxI w0 w b v A c line at' toks) : w1.heap[b]? = some (.cells #[v, .slice A line.length c, .int .i64 at'] 41 (0, 0)) := blk_grown h.blk hg (fun e => h.row.1 b e.symm rfl)
/-- The tokens have grown, and their row is laid into the struct. -/
theorem LxI.push (h : LxI w0 w b v A c line at' toks) {t : Tk} (hr : Kd.R kTk 31 w1 w0.heap.size (fun k => k ≠ b) v1 (toks ++ [t])) (hb : Below w0.heap.size w0 w1) (hg : w.grownBy w1 v.ownBlock) : LxI w0 (w1.setCell ⟨b, 0, none⟩ v1) b v1 A c line at' (toks ++ [t]) := by
  have h1 : w1.heap[b]? = some (.cells #[v, .slice A line.length c, .int .i64 at'] 41 (0, 0)) := blk_grown h.blk hg (fun e => h.row.1 b e.symm rfl)
  exact ⟨below_set hb h.bge, h.bge, blk_set h1 0 _, Kd.R_far hr (fun k hk => hk) _, h.line_, h.cap⟩
end
/-- A string's text: what it holds, and how many bytes it takes; none: it is none. -/
def qgo : List Int → List Int → Option (List Int × Nat)
  | [], _ => none
  | c :: r, acc => if 32 ≤ c ∧ c ≤ 126 then
      (if c = 34 then some (acc, 1) else if c = 92 then (match r with | d :: r' => if d = 34 ∨ d = 92 then (qgo r' (acc ++ [d])).map (fun x => (x.1, x.2 + 2)) else none | [] => none) else (qgo r (acc ++ [c])).map (fun x => (x.1, x.2 + 1)))
    else none
theorem qgo_nil (acc : List Int) : qgo [] acc = none := by rw [qgo.eq_def]
theorem qgo_cons (c : Int) (r acc : List Int) : qgo (c :: r) acc = if 32 ≤ c ∧ c ≤ 126 then
      (if c = 34 then some (acc, 1) else if c = 92 then (match r with | d :: r' => if d = 34 ∨ d = 92 then (qgo r' (acc ++ [d])).map (fun x => (x.1, x.2 + 2)) else none | [] => none) else (qgo r (acc ++ [c])).map (fun x => (x.1, x.2 + 1)))
    else none := by rw [qgo.eq_def]
theorem far_cell {b : Nat} {ad : Addr} (h : ad.block ≠ b) (W : World) (u : Value) (i j : Nat) : (W.setCell ⟨b, i, none⟩ u).cell? (ad.add j) = W.cell? (ad.add j) := by
  refine World.cell?_setCell_other _ _ _ _ (fun e => ?_)
  have e1 := congrArg Addr.block e
  have e2 : (ad.add j).block = ad.block := by unfold Addr.add; split <;> rfl
  rw [e2] at e1
  exact h e1.symm
def QInv (line : List Int) (p0 p : Nat) (s : List Int) : Prop := p0 ≤ p ∧ qgo (line.drop p0) [] = (qgo (line.drop p) s).map fun x => (x.1, x.2 + (p - p0))
theorem drop_get {l : List Int} {p : Nat} (h : p < l.length) : l.drop p = l.getD p 0 :: l.drop (p + 1) := by
  rw [List.drop_eq_getElem_cons h, List.getD_eq_getElem?_getD, List.getElem?_eq_getElem h]; rfl
theorem QInv.start (line : List Int) (p : Nat) : QInv line p p [] := ⟨Nat.le_refl _, by cases qgo (line.drop p) [] <;> simp⟩
section
variable {line s : List Int} {p0 p : Nat} (h : QInv line p0 p s)
include h
theorem QInv.plain (hp : p < line.length) (h1 : 32 ≤ line.getD p 0) (h2 : line.getD p 0 ≤ 126) (h3 : ¬ line.getD p 0 = 34) (h4 : ¬ line.getD p 0 = 92) : QInv line p0 (p + 1) (s ++ [line.getD p 0]) := by
  refine ⟨by have := h.1; omega, h.2.trans ?_⟩
  rw [drop_get hp, qgo_cons, if_pos ⟨h1, h2⟩, if_neg h3, if_neg h4]
  have := h.1
  cases qgo (line.drop (p + 1)) (s ++ [line.getD p 0]) with
  | none => rfl
  | some x => simp; omega
theorem QInv.esc (hp : p + 1 < line.length) (h4 : line.getD p 0 = 92) (hd : line.getD (p + 1) 0 = 34 ∨ line.getD (p + 1) 0 = 92) : QInv line p0 (p + 2) (s ++ [line.getD (p + 1) 0]) := by
  refine ⟨by have := h.1; omega, h.2.trans ?_⟩
  rw [drop_get (by omega : p < line.length), qgo_cons, if_pos (by omega), if_neg (by omega), if_pos h4, drop_get hp]
  simp only
  rw [if_pos hd]
  have := h.1
  rw [show p + 1 + 1 = p + 2 from rfl]
  cases qgo (line.drop (p + 2)) (s ++ [line.getD (p + 1) 0]) with
  | none => rfl
  | some x => simp; omega
theorem QInv.ends (hp : p < line.length) (h3 : line.getD p 0 = 34) : qgo (line.drop p0) [] = some (s, p + 1 - p0) := by
  have := h.1
  rw [h.2, drop_get hp, qgo_cons, if_pos (by omega), if_pos h3]
  simp
  omega
theorem QInv.over (hp : p = line.length) : qgo (line.drop p0) [] = none := by
  rw [h.2, hp, List.drop_length, qgo_nil]; rfl
theorem QInv.bad (hp : p < line.length) (h1 : ¬ (32 ≤ line.getD p 0 ∧ line.getD p 0 ≤ 126)) : qgo (line.drop p0) [] = none := by
  rw [h.2, drop_get hp, qgo_cons, if_neg h1]; rfl
theorem QInv.esc_over (hp : p + 1 = line.length) (h4 : line.getD p 0 = 92) : qgo (line.drop p0) [] = none := by
  rw [h.2, drop_get (by omega), qgo_cons, if_pos (by omega), if_neg (by omega), if_pos h4, hp, List.drop_length]; rfl
theorem QInv.esc_bad (hp : p + 1 < line.length) (h4 : line.getD p 0 = 92) (h5 : ¬ line.getD (p + 1) 0 = 34) (h6 : ¬ line.getD (p + 1) 0 = 92) : qgo (line.drop p0) [] = none := by
  rw [h.2, drop_get (by omega : p < line.length), qgo_cons, if_pos (by omega), if_neg (by omega), if_pos h4, drop_get hp]
  simp only
  rw [if_neg (by rintro (h | h) <;> contradiction)]
  rfl
end
theorem isText_yes (c : Int) (h1 : 32 ≤ c) (h2 : c ≤ 126) (w : World) : Calls Tryd.prog 41 #[.int .u8 c] w fun e w' => e = .returned (.bool true) ∧ w = w' := by
  go_enter Tryd.func41, Tryd.ntmps41
  go_wp2
  go_ret
  exact ⟨rfl, rfl⟩
theorem isText_no (c : Int) (h : ¬ (32 ≤ c ∧ c ≤ 126)) (w : World) : Calls Tryd.prog 41 #[.int .u8 c] w fun e w' => e = .returned (.bool false) ∧ w = w' := by
  by_cases h1 : 32 ≤ c
  · have h2 : ¬ c ≤ 126 := fun h2 => h ⟨h1, h2⟩
    clear h
    go_enter Tryd.func41, Tryd.ntmps41
    go_wp2
    go_ret
    exact ⟨rfl, rfl⟩
  · clear h
    go_enter Tryd.func41, Tryd.ntmps41
    go_wp2
    go_ret
    exact ⟨rfl, rfl⟩
end Go.Proofs.YtbdmhlocafpehaaDoor
