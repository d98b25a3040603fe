/- LexLiterals over texts and lists alone. -/
import Derived.Test.YtbdmhlocafpehaaDoorLexMark
import Derived.Test.YtbdmhlocafpehaaDoorLexSpec
import Derived.Test.YtbdmhlocafpehaaDoorLexKnown
import Derived.Test.YtbdmhlocafpehaaDoorPx105
namespace Go.Proofs.YtbdmhlocafpehaaDoor.Pure
set_option linter.unusedSectionVars false
open Go.RowKit Go.Proofs.YtbdmhlocafpehaaDoor Go.Proofs.YtbdmhlocafpehaaDoor.P Go.Proofs.YtbdmhlocafpehaaDoorW.PrintWords Go.Proofs.YtbdmhlocafpehaaDoorW.PrintLast Go.Proofs.YtbdmhlocafpehaaDoorW.PrintMore
open Go.Proofs.YtbdmhlocafpehaaDoor.LexM (mk mk_size mk_data mk_app dig decV numsB w64)

/-! ### Digits -/
theorem dec_mono (n : Int) (s : ByteArray) (k : Nat) (h : letterboxlaw17_dec.f k n = some s) : ∀ m, letterboxlaw17_dec.f (k + m) n = some s
  | 0 => h
  | m + 1 => letterboxlaw17_dec.mono n (k + m) s (dec_mono n s k h m)
def digs (n : Nat) : List UInt8 := ((letterboxlaw17_dec.f 10 (n : Int)).getD ⟨#[]⟩).data.toList
theorem digs_at (n : Nat) (hn : n ≤ 4000) : (∀ k, 10 ≤ k → letterboxlaw17_dec.f k (n : Int) = some (mk (digs n))) ∧ (digs n).all dig = true ∧ decV 0 (digs n) = n ∧ 1 ≤ (digs n).length ∧ (digs n).length ≤ 4 := by
  have h10 : (10 : Nat) ^ (3 + 1) = 10000 := by decide
  obtain ⟨ds, h, h1, h2, h3, h4⟩ := LexM.dec_at 3 n 10 (by omega) (by omega) (by omega)
  have e : digs n = ds := by unfold digs; rw [h]; rfl
  rw [e]
  refine ⟨fun k hk => ?_, h1, h2, h3, h4⟩
  have := dec_mono _ _ _ h (k - 10)
  rwa [show 10 + (k - 10) = k by omega] at this
/-! ### The law's lines -/
def lineL (n : Nat) : List Int := [119, 32] ++ 123 :: (numsB (digs n) ++ [125])
def linesL (lits : List (List Int)) : List (List Int) := lits.map fun l => lineL l.length
def endL : List Int := [40, 101, 110, 100, 41]
theorem lineL_length (n : Nat) (hn : n ≤ 4000) : (lineL n).length ≤ 100 := by
  have := (digs_at n hn).2.2.2.2
  have hl : (numsB (digs n)).length = (digs n).length := List.length_map ..
  unfold lineL
  simp [hl]
  omega
theorem conv_line (ds : List UInt8) (hl : ds.length ≤ 1000) : conv_9_23.f (((⟨#[119, 32, 123]⟩ : ByteArray) ++ mk ds) ++ (⟨#[125]⟩ : ByteArray)) = some ([119, 32] ++ 123 :: (numsB ds ++ [125])) := by
  have e : (((⟨#[119, 32, 123]⟩ : ByteArray) ++ mk ds) ++ (⟨#[125]⟩ : ByteArray)) = mk ([119, 32, 123] ++ ds ++ [125]) := by
    rw [show (⟨#[119, 32, 123]⟩ : ByteArray) = mk [119, 32, 123] from rfl, show (⟨#[125]⟩ : ByteArray) = mk [125] from rfl, mk_app, mk_app]
  unfold conv_9_23.f
  rw [e, if_pos (by rw [mk_size]; simp; omega), LexM.bytes_mk]
  simp [numsB]
theorem marked_line (n : Nat) (hn : n ≤ 4000) (k : Nat) (hk : 20 < k) : G.lex_marked.f k (lineL n) = some (2, (n : Int)) := by
  obtain ⟨_, h1, h2, h3, h4⟩ := digs_at n hn
  have hne : digs n ≠ [] := by intro e; rw [e] at h3; simp at h3
  have := LexM.marked_at [119, 32] (digs n) h1 (by simp) (by omega) k (by omega)
  rw [if_neg (by simp [hne]; omega), h2] at this
  exact this
theorem wants_line (n : Nat) (hn : n ≤ 4000) (k : Nat) (hk : 20 < k) : G.lex_Wants.f k (lineL n) = some ((n : Int), true) := by
  unfold G.lex_Wants.f
  rw [marked_line n hn k hk]
  rfl
section
variable {lits : List (List Int)} (hL : ∀ l ∈ lits, l.length ≤ 4000) (hn : lits.length ≤ 20)
include hL hn
theorem lens_at (i : Nat) (hi : i < lits.length) : (lits.getD i []).length ≤ 4000 := by
  rw [List.getD_eq_getElem?_getD, List.getElem?_eq_getElem hi]
  exact hL _ (List.getElem_mem _)
theorem line_at (i : Nat) (hi : i < lits.length) : (linesL lits ++ [endL]).getD i [] = lineL (lits.getD i []).length := by
  have hl : (linesL lits).length = lits.length := List.length_map ..
  rw [List.getD_eq_getElem?_getD, List.getElem?_append_left (by omega), List.getD_eq_getElem?_getD, List.getElem?_eq_getElem hi]
  unfold linesL
  rw [List.getElem?_map, List.getElem?_eq_getElem hi]
  rfl
theorem line_end : (linesL lits ++ [endL]).getD lits.length [] = endL := by
  have hl : (linesL lits).length = lits.length := List.length_map ..
  rw [List.getD_eq_getElem?_getD, List.getElem?_append_right (by omega), hl, Nat.sub_self]
  rfl
/-- Do the literals fit? -/
theorem fits_go (ls : List (List Int)) (hls : ls.length = lits.length) : ∀ (m i k : Nat), i + m = lits.length → 30 + m < k → G.lex_fits.l0 k (linesL lits ++ [endL]) ls (lits.length : Int) i = some ((ls.drop i).map List.length == (lits.drop i).map List.length)
  | 0, i, k, h, hk => by
    obtain ⟨k, rfl⟩ : ∃ k', k = k' + 1 := ⟨k - 1, by omega⟩
    rw [G.lex_fits.l0, if_neg (by omega), List.drop_of_length_le (by omega), List.drop_of_length_le (by omega)]
    rfl
  | m + 1, i, k, h, hk => by
    obtain ⟨k, rfl⟩ : ∃ k', k = k' + 1 := ⟨k - 1, by omega⟩
    have hl : (linesL lits).length = lits.length := List.length_map ..
    have h4 := lens_at hL hn i (by omega)
    have e1 : G.rd_L1 (linesL lits ++ [endL]) (i : Int) = lineL (lits.getD i []).length := line_at hL hn i (by omega)
    have e2 : G.rd_L1 ls (i : Int) = ls.getD i [] := rfl
    rw [G.lex_fits.l0, if_pos (by omega), if_pos (by omega), if_pos (by omega), if_pos (by rw [List.length_append, hl]; simp; omega), e1, wants_line _ h4 k (by omega), e2]
    show (if ((lits.getD i []).length : Int) = ((ls.getD i []).length : Int) then G.lex_fits.l0 k (linesL lits ++ [endL]) ls (lits.length : Int) (wrap64 ((i : Int) + 1)) else some false) = _
    have d1 : ls.drop i = ls.getD i [] :: ls.drop (i + 1) := by
      rw [List.drop_eq_getElem_cons (by omega), List.getD_eq_getElem?_getD, List.getElem?_eq_getElem (by omega)]; rfl
    have d2 : lits.drop i = lits.getD i [] :: lits.drop (i + 1) := by
      rw [List.drop_eq_getElem_cons (by omega), List.getD_eq_getElem?_getD, List.getElem?_eq_getElem (by omega)]; rfl
    rw [d1, d2, List.map_cons, List.map_cons]
    by_cases he : (lits.getD i []).length = (ls.getD i []).length
    · rw [if_pos (by omega), w64 _ (by omega) (by omega), show ((i : Int) + 1) = ((i + 1 : Nat) : Int) from rfl, fits_go ls hls m (i + 1) k (by omega) (by omega), he]
      congr 1
      rw [List.cons_beq_cons]
      simp
    · rw [if_neg (by omega), List.cons_beq_cons, beq_eq_false_iff_ne.2 (fun e => he e.symm)]
      rfl
theorem fits_of (ls : List (List Int)) (hls : ls.length = lits.length) (k : Nat) (hk : 60 < k) : G.lex_fits.f k (linesL lits ++ [endL]) ls = some (ls.map List.length == lits.map List.length) := by
  have hl : (linesL lits).length = lits.length := List.length_map ..
  unfold G.lex_fits.f
  rw [if_pos (by rw [List.length_append, hl, hls, w64 _ (by omega) (by omega)]; simp), hls]
  exact fits_go hL hn ls hls lits.length 0 k (by omega) (by omega)
end
/-! ### The tokens -/
def tkW : Tk := ⟨1, strOfNums [119]⟩
def toksL (lits : List (List Int)) : List Tk := lits.flatMap fun l => [tkW, ⟨2, strOfNums l⟩]
def endT : List Tk := [⟨3, ⟨#[]⟩⟩, ⟨1, strOfNums [101, 110, 100]⟩, ⟨4, ⟨#[]⟩⟩]
theorem toksL_length : ∀ lits, (toksL lits).length = 2 * lits.length
  | [] => rfl
  | l :: r => by
    have := toksL_length r
    unfold toksL at this ⊢
    rw [List.flatMap_cons, List.length_append, this]
    simp
    omega
theorem toksL_at : ∀ (lits : List (List Int)) (r : List Tk) (i : Nat), i < lits.length → (toksL lits ++ r).getD (2 * i) z31 = tkW ∧ (toksL lits ++ r).getD (2 * i + 1) z31 = ⟨2, strOfNums (lits.getD i [])⟩
  | [], _, _, h => absurd h (by simp)
  | l :: t, r, 0, _ => ⟨rfl, rfl⟩
  | l :: t, r, i + 1, h => by
    have ih := toksL_at t r i (by simpa using h)
    have e : toksL (l :: t) ++ r = tkW :: ⟨2, strOfNums l⟩ :: (toksL t ++ r) := by unfold toksL; simp
    rw [e, show 2 * (i + 1) = 2 * i + 1 + 1 by omega, show 2 * i + 1 + 1 + 1 = (2 * i + 1) + 1 + 1 by omega, List.getD_cons_succ, List.getD_cons_succ, List.getD_cons_succ, List.getD_cons_succ, List.getD_cons_succ]
    exact ih
theorem tgo_w (tk : List Tk) (h : tk.length < 64) : tgo 3 [119, 32] 0 tk = some (.inr (tk ++ [tkW])) := by
  have h1 : tk1 [119, 32] tk.length 0 = .inr (1, tkW) := by
    unfold tk1
    rw [if_neg (by omega)]
    rfl
  rw [tgo, if_pos (by simp), if_neg (by simp), h1]
  show tgo 2 [119, 32] 1 (tk ++ [tkW]) = _
  rw [tgo, if_pos (by simp), if_pos (by rfl), tgo, if_neg (by simp)]
theorem tgo_e (tk : List Tk) (h : tk.length < 60) : tgo 6 endL 0 tk = some (.inr (tk ++ endT)) := by
  have h1 : tk1 endL tk.length 0 = .inr (1, ⟨3, ⟨#[]⟩⟩) := by
    unfold tk1
    rw [if_neg (by omega)]
    rfl
  have h2 : ∀ x, x < 64 → tk1 endL x 1 = .inr (4, ⟨1, strOfNums [101, 110, 100]⟩) := by
    intro x hx
    unfold tk1
    rw [if_neg (by omega)]
    rfl
  have h3 : ∀ x, x < 64 → tk1 endL x 4 = .inr (5, ⟨4, ⟨#[]⟩⟩) := by
    intro x hx
    unfold tk1
    rw [if_neg (by omega)]
    rfl
  rw [tgo, if_pos (by simp [endL]), if_neg (by simp [endL]), h1]
  show tgo 5 endL 1 (tk ++ [_]) = _
  rw [tgo, if_pos (by simp [endL]), if_neg (by simp [endL]), h2 _ (by simp; omega)]
  show tgo 4 endL 4 (tk ++ [_] ++ [_]) = _
  rw [tgo, if_pos (by simp [endL]), if_neg (by simp [endL]), h3 _ (by simp; omega)]
  show tgo 3 endL 5 (tk ++ [_] ++ [_] ++ [_]) = _
  rw [tgo, if_neg (by simp [endL])]
  simp [endT]
section
variable {lits : List (List Int)} (hL : ∀ l ∈ lits, l.length ≤ 4000) (hn : lits.length ≤ 20)
include hL hn
theorem go_lits (k : Nat) (hk : 60 < k) : ∀ (m i g : Nat) (tk : List Tk), i + m = lits.length → m < g → tk.length = 2 * i → lxGo k (linesL lits ++ [endL]) lits g i tk = some (tk ++ toksL (lits.drop i) ++ endT, 0)
  | 0, i, g, tk, h, hg, ht => by
    obtain ⟨g, rfl⟩ : ∃ g', g = g' + 1 := ⟨g - 1, by omega⟩
    obtain rfl : i = lits.length := by omega
    have hl : (linesL lits).length = lits.length := List.length_map ..
    rw [lxGo, if_pos (by rw [List.length_append, hl]; simp), line_end hL hn, if_pos (by simp [endL]), if_neg (by omega), show endL.length + 1 = 6 from rfl, tgo_e tk (by omega)]
    show (if lits.length = lits.length then some (tk ++ endT, (0 : Int)) else none) = _
    rw [if_pos rfl, List.drop_of_length_le (Nat.le_refl _)]
    simp [toksL]
  | m + 1, i, g, tk, h, hg, ht => by
    obtain ⟨g, rfl⟩ : ∃ g', g = g' + 1 := ⟨g - 1, by omega⟩
    have hl : (linesL lits).length = lits.length := List.length_map ..
    have h4 := lens_at hL hn i (by omega)
    have h5 := lineL_length _ h4
    have h6 : 2 ≤ (lineL (lits.getD i []).length).length := by unfold lineL; simp
    rw [lxGo, if_pos (by rw [List.length_append, hl]; simp; omega), line_at hL hn i (by omega), if_pos (by omega), if_pos (by omega), marked_line _ h4 k (by omega), Option.bind_some]
    show (if 0 ≤ (2 : Int) ∧ (2 : Int) ≤ (lineL (lits.getD i []).length).length then (match tgo 3 [119, 32] 0 tk with | none => none | some (.inl e) => some ([], e) | some (.inr t) => if 64 ≤ t.length then some ([], 5) else lxGo k (linesL lits ++ [endL]) lits g (i + 1) (t ++ [⟨2, strOfNums (lits.getD i [])⟩])) else none) = _
    rw [if_pos (by omega), tgo_w tk (by omega)]
    show (if 64 ≤ (tk ++ [tkW]).length then some ([], (5 : Int)) else lxGo k (linesL lits ++ [endL]) lits g (i + 1) (tk ++ [tkW] ++ [⟨2, strOfNums (lits.getD i [])⟩])) = _
    rw [if_neg (by simp; omega), go_lits k hk m (i + 1) g _ (by omega) (by omega) (by simp; omega)]
    have d2 : lits.drop i = lits.getD i [] :: lits.drop (i + 1) := by
      rw [List.drop_eq_getElem_cons (by omega), List.getD_eq_getElem?_getD, List.getElem?_eq_getElem (by omega)]; rfl
    rw [d2]
    simp [toksL]
theorem lex_lits (k : Nat) (hk : 60 < k) : lex_Lex.f k (linesL lits ++ [endL]) lits = some (toksL lits ++ endT, 0) := by
  have hl : (linesL lits).length = lits.length := List.length_map ..
  unfold lex_Lex.f
  rw [fits_of hL hn lits rfl k hk, beq_self_eq_true, Option.bind_some, if_pos rfl, go_lits hL hn k hk lits.length 0 _ [] (by omega) (by rw [List.length_append, hl]; simp only [List.length_singleton]; omega) rfl]
  rfl
theorem lex_other (ls : List (List Int)) (hls : ls.length = lits.length) (hne : ls.map List.length ≠ lits.map List.length) (k : Nat) (hk : 60 < k) : lex_Lex.f k (linesL lits ++ [endL]) ls = some ([], 3) := by
  unfold lex_Lex.f
  rw [fits_of hL hn ls hls k hk, beq_eq_false_iff_ne.2 hne]
  rfl
theorem lex_more (ls : List (List Int)) (hls : ls.length = lits.length + 1) (k : Nat) : lex_Lex.f k (linesL lits ++ [endL]) ls = some ([], 3) := by
  have hl : (linesL lits).length = lits.length := List.length_map ..
  unfold lex_Lex.f G.lex_fits.f
  rw [if_neg (by rw [List.length_append, hl, hls, w64 _ (by omega) (by omega)]; simp; omega)]
  rfl
/-! ### The law's loops -/
theorem build_lines : ∀ (m i k : Nat), i + m = lits.length → 200 + m < k → (∀ k, 200 ≤ k → letterboxlaw17_LexLiterals.l0 k lits (linesL lits) lits.length = some true) → letterboxlaw17_LexLiterals.l0 k lits (linesL (lits.take i)) i = some true
  | 0, i, k, h, hk, hnext => by
    obtain rfl : i = lits.length := by omega
    rw [List.take_of_length_le (Nat.le_refl _)]
    exact hnext k (by omega)
  | m + 1, i, k, h, hk, hnext => by
    obtain ⟨k, rfl⟩ : ∃ k', k = k' + 1 := ⟨k - 1, by omega⟩
    have h4 := lens_at hL hn i (by omega)
    obtain ⟨hd, _, _, hd3, hd4⟩ := digs_at _ h4
    have hlt : (linesL (lits.take i)).length = i := by unfold linesL; rw [List.length_map, List.length_take]; omega
    have hr : rd_L4 lits (i : Int) = lits.getD i [] := rfl
    rw [letterboxlaw17_LexLiterals.l0, if_pos (by omega), if_pos (by omega), hr, hd k (by omega), Option.bind_some, mk_size, if_pos (by omega), if_pos (by omega), conv_line _ (by omega), Option.bind_some, hlt, if_pos (by omega), w64 _ (by omega) (by omega), show ((i : Int) + 1) = ((i + 1 : Nat) : Int) from rfl]
    have e : linesL (lits.take i) ++ [[119, 32] ++ 123 :: (numsB (digs (lits.getD i []).length) ++ [125])] = linesL (lits.take (i + 1)) := by
      rw [List.take_add_one, List.getElem?_eq_getElem (by omega), List.getD_eq_getElem?_getD, List.getElem?_eq_getElem (by omega)]
      unfold linesL
      rw [List.map_append]
      rfl
    rw [e]
    exact build_lines m (i + 1) k (by omega) (by omega) hnext
theorem look_toks (r : List Tk) : ∀ (m i k : Nat), i + m = lits.length → 150 + 2 * m < k → letterboxlaw17_LexLiterals.l1 k lits (linesL lits ++ [endL]) (toksL lits ++ r) i = some true
  | 0, i, k, h, hk => by
    obtain rfl : i = lits.length := by omega
    obtain ⟨k, rfl⟩ : ∃ k', k = (20 + k') + 1 := ⟨k - 21, by omega⟩
    rw [letterboxlaw17_LexLiterals.l1, if_neg (by omega), Option.bind_some, if_pos (by simp; omega), Option.bind_some, if_pos (by simp; omega), lex_more hL hn _ (by simp) (20 + k), Option.bind_some, if_pos rfl, known_true]
    rfl
  | m + 1, i, k, h, hk => by
    obtain ⟨k, rfl⟩ : ∃ k', k = k' + 2 := ⟨k - 2, by omega⟩
    have h4 := lens_at hL hn i (by omega)
    obtain ⟨t1, t2⟩ := toksL_at lits r i (by omega)
    have hlen : (toksL lits ++ r).length = 2 * lits.length + r.length := by rw [List.length_append, toksL_length]
    have w2 : wrap64 (2 * (i : Int)) = ((2 * i : Nat) : Int) := by rw [w64 _ (by omega) (by omega)]; omega
    have w3 : wrap64 (((2 * i : Nat) : Int) + 1) = ((2 * i + 1 : Nat) : Int) := by rw [w64 _ (by omega) (by omega)]; omega
    have r1 : rd_T31 (toksL lits ++ r) ((2 * i : Nat) : Int) = tkW := t1
    have r2 : rd_T31 (toksL lits ++ r) ((2 * i + 1 : Nat) : Int) = ⟨2, strOfNums (lits.getD i [])⟩ := t2
    have r3 : rd_L4 lits (i : Int) = lits.getD i [] := rfl
    rw [letterboxlaw17_LexLiterals.l1, if_pos (by omega), w2, if_pos (by omega), if_pos (by omega), r1, if_pos (show tkW.f0 = 1 from rfl), if_pos (by show (strOfNums [119]).toList = [119]; rw [Lib.toList_data, strOfNums_data]; rfl), w3, if_pos (by omega), if_pos (by omega), r2, if_pos rfl, if_pos (by omega), r3]
    show letterboxlaw17_LexLiterals.j4 (k + 1) lits (linesL lits ++ [endL]) (toksL lits ++ r) i ((strOfNums (lits.getD i [])).toList != (strOfNums (lits.getD i [])).toList) = _
    have hb : ((strOfNums (lits.getD i [])).toList != (strOfNums (lits.getD i [])).toList) = false := by simp
    have hset : lex_Lex.f k (linesL lits ++ [endL]) (lits.set i (lits.getD i [] ++ [1])) = some ([], 3) := by
      refine lex_other hL hn _ (by simp) (fun e => ?_) k (by omega)
      have e2 := congrArg (fun x => x[i]?) e
      simp only [List.map_set, List.getElem?_set_self (show i < (lits.map List.length).length by simp; omega), List.getElem?_map, List.getElem?_eq_getElem (show i < lits.length by omega), Option.map_some, List.getD_eq_getElem?_getD, Option.getD_some, List.length_append, List.length_singleton] at e2
      have := Option.some.inj e2
      omega
    rw [hb, letterboxlaw17_LexLiterals.j4, if_neg (by simp), Option.bind_some, if_pos (by simp; omega), Option.bind_some, Option.bind_some, if_pos (by omega), if_pos (by omega), r3, if_pos (by rw [List.length_nil]; omega), Option.bind_some, if_pos (by rw [List.nil_append]; omega), if_pos (by rw [List.nil_append]; omega)]
    show (lex_Lex.f k (linesL lits ++ [endL]) (lits.set i (lits.getD i [] ++ [1]))).bind _ = _
    rw [hset, Option.bind_some, if_pos rfl, w64 _ (by omega) (by omega), show ((i : Int) + 1) = ((i + 1 : Nat) : Int) from rfl]
    exact look_toks r m (i + 1) k (by omega) (by omega)
theorem whole (k : Nat) (hk : 300 ≤ k) : letterboxlaw17_LexLiterals.l0 k lits [] 0 = some true := by
  refine build_lines hL hn lits.length 0 k (by omega) (by omega) fun k hk => ?_
  have hl : (linesL lits).length = lits.length := List.length_map ..
  obtain ⟨k, rfl⟩ : ∃ k', k = k' + 2 := ⟨k - 2, by omega⟩
  have hlen : (toksL lits ++ endT).length = 2 * lits.length + 3 := by rw [List.length_append, toksL_length]; rfl
  rw [letterboxlaw17_LexLiterals.l0, if_neg (by omega), if_pos (by omega), Option.bind_some]
  show (lex_Lex.f (k + 1) (linesL lits ++ [endL]) lits).bind _ = _
  rw [lex_lits hL hn (k + 1) (by omega), Option.bind_some, if_pos rfl]
  show letterboxlaw17_LexLiterals.j2 (k + 1) lits (linesL lits ++ [endL]) (toksL lits ++ endT) (((toksL lits ++ endT).length : Int) != _) = _
  rw [hlen, w64 (2 * (lits.length : Int)) (by omega) (by omega), w64 _ (by omega) (by omega), show (((2 * lits.length + 3 : Nat) : Int) != 2 * (lits.length : Int) + 3) = false by simp, letterboxlaw17_LexLiterals.j2, if_neg (by simp)]
  exact look_toks hL hn endT lits.length 0 k (by omega) (by omega)
end
/-! ### Too much to look at -/
def sumL : List (List Int) → Nat
  | [] => 0
  | l :: r => 1 + l.length + sumL r
theorem sumL_le : ∀ (l : List (List Int)), (∀ r ∈ l, r.length ≤ 140737488351232) → sumL l ≤ l.length * 140737488351233
  | [], _ => Nat.zero_le _
  | a :: r, h => by
    have := sumL_le r (fun x hx => h x (List.mem_cons_of_mem _ hx))
    have := h a (List.mem_cons_self ..)
    rw [sumL, List.length_cons, Nat.succ_mul]
    omega
theorem sumL_mem : ∀ {l : List (List Int)} {a : List Int}, a ∈ l → a.length ≤ sumL l
  | b :: r, a, h => by
    rw [sumL]
    rcases List.mem_cons.1 h with rfl | h
    · omega
    · have := sumL_mem h; omega
theorem long_any (l : List (List Int)) (hz : l.length ≤ 140737488351232) : ∀ (m i k : Nat) (n : Int), i + m = l.length → m < k → ∃ t, letterboxlaw17_long.l0 k l n i = some t
  | 0, i, k, n, h, hk => by
    obtain ⟨k, rfl⟩ : ∃ k', k = k' + 1 := ⟨k - 1, by omega⟩
    exact ⟨_, by rw [letterboxlaw17_long.l0, if_neg (by omega)]⟩
  | m + 1, i, k, n, h, hk => by
    obtain ⟨k, rfl⟩ : ∃ k', k = k' + 1 := ⟨k - 1, by omega⟩
    rw [letterboxlaw17_long.l0, if_pos (by omega), if_pos (by omega), w64 ((i : Int) + 1) (by omega) (by omega)]
    exact long_any l hz m (i + 1) k _ (by omega) (by omega)
theorem long_few (l : List (List Int)) (hz : l.length ≤ 20) (hr : ∀ r ∈ l, r.length ≤ 140737488351232) : ∀ (m i k : Nat) (n : Nat), i + m = l.length → m < k → n + sumL (l.drop i) ≤ 20 * 140737488351233 → letterboxlaw17_long.l0 k l n i = some (decide (n + sumL (l.drop i) > 4000))
  | 0, i, k, n, h, hk, hs => by
    obtain ⟨k, rfl⟩ : ∃ k', k = k' + 1 := ⟨k - 1, by omega⟩
    rw [letterboxlaw17_long.l0, if_neg (by omega), List.drop_of_length_le (by omega)]
    refine congrArg some (decide_eq_decide.2 ?_)
    show (n : Int) > 4000 ↔ n + 0 > 4000
    omega
  | m + 1, i, k, n, h, hk, hs => by
    obtain ⟨k, rfl⟩ : ∃ k', k = k' + 1 := ⟨k - 1, by omega⟩
    have d2 : l.drop i = l.getD i [] :: l.drop (i + 1) := by
      rw [List.drop_eq_getElem_cons (by omega), List.getD_eq_getElem?_getD, List.getElem?_eq_getElem (by omega)]; rfl
    rw [d2, sumL] at hs
    have r3 : rd_L4 l (i : Int) = l.getD i [] := rfl
    rw [letterboxlaw17_long.l0, if_pos (by omega), if_pos (by omega), r3, w64 ((i : Int) + 1) (by omega) (by omega), w64 ((n : Int) + 1) (by omega) (by omega), w64 _ (by omega) (by omega),
      show ((n : Int) + 1 + ((l.getD i []).length : Int)) = ((n + 1 + (l.getD i []).length : Nat) : Int) by omega, show ((i : Int) + 1) = ((i + 1 : Nat) : Int) from rfl, long_few l hz hr m (i + 1) k _ (by omega) (by omega) (by omega), d2, sumL]
    refine congrArg some (decide_eq_decide.2 ?_)
    omega
theorem LexLiterals (l0 : List (List Int)) (hz : l0.length ≤ 140737488351232) (hw : ∀ r ∈ l0, r.length ≤ 140737488351232 ∧ ∀ n ∈ r, (Lit.int .u8 n).wf = true) : ∃ k, letterboxlaw17_LexLiterals.f k l0 = some true := by
  obtain ⟨k, hk⟩ : ∃ k : Nat, l0.length + 400 < k := ⟨l0.length + 401, by omega⟩
  refine ⟨k + 1, ?_⟩
  have hj : letterboxlaw17_LexLiterals.j0 (k + 1) l0 true = some true := by rw [letterboxlaw17_LexLiterals.j0, if_pos rfl]
  have hf : letterboxlaw17_LexLiterals.f (k + 1) l0 = (letterboxlaw17_long.l0 (k + 1) l0 ((0 : Nat) : Int) ((0 : Nat) : Int)).bind fun t => if t = true then letterboxlaw17_LexLiterals.j0 (k + 1) l0 true else letterboxlaw17_LexLiterals.j0 (k + 1) l0 (decide ((l0.length : Int) > 20)) := rfl
  rw [hf]
  clear hf
  by_cases h20 : (l0.length : Int) > 20
  · obtain ⟨t, ht⟩ := long_any l0 hz l0.length 0 (k + 1) ((0 : Nat) : Int) (by omega) (by omega)
    rw [ht, Option.bind_some, decide_eq_true h20, ite_self, hj]
  · have hs := sumL_le l0 (fun r hr => (hw r hr).1)
    have hs2 : l0.length * 140737488351233 ≤ 20 * 140737488351233 := Nat.mul_le_mul_right _ (by omega)
    have ht := long_few l0 (by omega) (fun r hr => (hw r hr).1) l0.length 0 (k + 1) 0 (by omega) (by omega) (by rw [List.drop_zero]; omega)
    rw [List.drop_zero, Nat.zero_add] at ht
    rw [ht, Option.bind_some, decide_eq_false h20]
    by_cases h4 : sumL l0 > 4000
    · rw [decide_eq_true h4, if_pos rfl, hj]
    · rw [decide_eq_false h4, if_neg (by simp), letterboxlaw17_LexLiterals.j0, if_neg (by simp)]
      exact whole (fun l hl => Nat.le_trans (sumL_mem hl) (by omega)) (by omega) k (by omega)
end Go.Proofs.YtbdmhlocafpehaaDoor.Pure
