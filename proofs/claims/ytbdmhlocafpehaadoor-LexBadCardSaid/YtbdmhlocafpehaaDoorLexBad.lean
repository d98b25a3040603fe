/- What Lex answers at the lines of LexBad, in plain words. -/
import Derived.Test.YtbdmhlocafpehaaDoorLexMark
import Derived.Test.YtbdmhlocafpehaaDoorLexSpec
import Derived.Test.YtbdmhlocafpehaaDoorLexKnown
namespace Go.Proofs.YtbdmhlocafpehaaDoor.LexB
open Go.RowKit Go.Proofs.YtbdmhlocafpehaaDoor Go.Proofs.YtbdmhlocafpehaaDoor.P Go.Proofs.YtbdmhlocafpehaaDoorW.PrintWords Go.Proofs.YtbdmhlocafpehaaDoorW.PrintLast Go.Proofs.YtbdmhlocafpehaaDoorW.PrintMore

theorem lex_one (k : Nat) (x : List Int) (hx : x.length ≤ 100000000) (t : List Tk) (e : Int)
    (h : (match tgo (x.length + 1) x 0 [] with | none => none | some (.inl e) => some (([] : List Tk), e) | some (.inr t) => some (t, (0 : Int))) = some (t, e)) : lex_Lex.f (k + 1) [x] [] = some (t, e) := by
  have hf : G.lex_fits.f (k + 1) [x] [] = some true := by
    unfold G.lex_fits.f
    rw [if_pos (by simp [wrap64]), G.lex_fits.l0, if_neg (by simp)]
  unfold lex_Lex.f
  rw [hf]
  show lxGo (k + 1) [x] [] (1 + 1) 0 [] = _
  rw [lxGo, if_pos (by simp), if_pos (by simpa using hx), if_neg (by simp)]
  refine Eq.trans ?_ h
  rfl
/-- What is refused where a token may begin, and within an atom is refused or ends it. -/
structure TBad (T : List Int) : Prop where
  ne : T ≠ []
  hd : T.head? ≠ some 32
  ag : ago false T = none ∨ ago false T = some 0
  tk : ∀ line p, line.drop p = T → tk2 line p = .inl 3
theorem bad_one (c : Int) (hc : ¬ (32 ≤ c ∧ c ≤ 126)) : TBad [c] where
  ne := by simp
  hd := by simp; omega
  ag := .inl (by rw [ago, if_neg hc])
  tk := fun line p h => by
    obtain ⟨_, h2, _⟩ := drop_getD h
    unfold tk2
    rw [h2, if_neg (by omega), if_neg (by omega), if_neg (by omega), h, ago, if_neg hc]
theorem bad_quote (c : Int) (hc : ¬ (32 ≤ c ∧ c ≤ 126)) : TBad [34, c, 34] where
  ne := by simp
  hd := by simp
  ag := .inr (by rw [ago, if_pos (by omega), if_neg Bool.false_ne_true, if_pos (by omega)])
  tk := fun line p h => by
    obtain ⟨_, h2, h3⟩ := drop_getD h
    unfold tk2
    rw [h2, if_neg (by omega), if_neg (by omega), if_pos rfl, h3, qgo_cons, if_neg hc]
def Letter (c : Int) : Prop := 97 ≤ c ∧ c ≤ 122
theorem ago_letters (r : List Int) : ∀ u : List Int, (∀ c ∈ u, Letter c) → ago false (u ++ r) = (ago false r).map (· + u.length)
  | [], _ => by cases h : ago false r <;> simp [h]
  | c :: u, h => by
    have hc := h c (List.mem_cons_self ..)
    unfold Letter at hc
    rw [List.cons_append, ago, if_pos (by omega), if_neg Bool.false_ne_true, if_neg (by omega), show decide (c = 91) = false from decide_eq_false (by omega), ago_letters r u (fun x hx => h x (List.mem_cons_of_mem _ hx))]
    cases ago false r with
    | none => rfl
    | some n => simp; omega
theorem letters_cut : ∀ s : List Int, (∀ c ∈ s, Letter c ∨ c = 32) → ∃ u q, s = u ++ q ∧ (∀ c ∈ u, Letter c) ∧ (q = [] ∨ ∃ q', q = 32 :: q')
  | [], _ => ⟨[], [], rfl, fun _ h => absurd h (by simp), .inl rfl⟩
  | c :: s, h => by
    rcases h c (List.mem_cons_self ..) with hc | rfl
    · obtain ⟨u, q, rfl, hu, hq⟩ := letters_cut s (fun x hx => h x (List.mem_cons_of_mem _ hx))
      refine ⟨c :: u, q, rfl, fun x hx => ?_, hq⟩
      rcases List.mem_cons.1 hx with rfl | hx
      · exact hc
      · exact hu x hx
    · exact ⟨[], 32 :: s, rfl, fun _ h => absurd h (by simp), .inr ⟨s, rfl⟩⟩
theorem tgo_bad {T : List Int} (hT : TBad T) : ∀ (g : Nat) (s line : List Int) (p : Nat) (tk : List Tk), (∀ c ∈ s, Letter c ∨ c = 32) → line.drop p = s ++ T → s.length < g → tk.length + s.length ≤ 62 → tgo g line p tk = some (.inl 3)
  | 0, _, _, _, _, _, _, h, _ => absurd h (by omega)
  | g + 1, s, line, p, tk, hs, hd, hg, ht => by
    obtain ⟨u, q, rfl, hu, hq⟩ := letters_cut s hs
    have h64 : ¬ 64 ≤ tk.length := by omega
    cases u with
    | nil =>
      rcases hq with rfl | ⟨q, rfl⟩
      · obtain ⟨x, T', rfl⟩ : ∃ x T', T = x :: T' := by
          cases T with
          | nil => exact absurd rfl hT.ne
          | cons x T' => exact ⟨x, T', rfl⟩
        have h1 : line.drop p = x :: T' := hd
        obtain ⟨hp, hx, _⟩ := drop_getD h1
        have hx32 : x ≠ 32 := fun e => hT.hd (by rw [e]; rfl)
        rw [tgo, if_pos hp, if_neg (by rw [hx]; exact hx32)]
        unfold tk1
        rw [if_neg h64, hT.tk line p h1]
      · have h1 : line.drop p = 32 :: (q ++ T) := hd
        rw [tgo_blank h1]
        refine tgo_bad hT g q line (p + 1) tk (fun c hc => hs c (by simp [hc])) (drop_getD h1).2.2 ?_ ?_
        · simp at hg; omega
        · simp at ht; omega
    | cons a u =>
      have ha := hu a (List.mem_cons_self ..)
      unfold Letter at ha
      have h1 : line.drop p = a :: (u ++ q ++ T) := hd
      obtain ⟨hp, hx, _⟩ := drop_getD h1
      have hag : ago false (line.drop p) = (ago false (q ++ T)).map (· + (a :: u).length) := by
        rw [hd, List.append_assoc]
        exact ago_letters _ _ hu
      have hag2 : ago false (q ++ T) = none ∨ ago false (q ++ T) = some 0 := by
        rcases hq with rfl | ⟨q, rfl⟩
        · exact hT.ag
        · exact .inr (by rw [List.cons_append, ago, if_pos (by omega), if_neg Bool.false_ne_true, if_pos (by omega)])
      rw [tgo, if_pos hp, if_neg (by rw [hx]; omega)]
      unfold tk1 tk2
      rw [if_neg h64, hx, if_neg (by omega), if_neg (by omega), if_neg (by omega), hag]
      rcases hag2 with h2 | h2
      · rw [h2]; rfl
      · rw [h2]
        show tgo g line (p + (0 + (a :: u).length)) (tk ++ [_]) = _
        refine tgo_bad hT g q line _ _ (fun c hc => hs c (by simp at hc ⊢; simp [hc])) ?_ ?_ ?_
        · rw [Nat.zero_add, ← List.drop_drop, hd, List.append_assoc]
          exact List.drop_left ..
        · simp at hg; omega
        · simp at ht ⊢; omega
theorem lex_bad {T : List Int} (hT : TBad T) (hl : T.length ≤ 10) (s : List Int) (hs : ∀ c ∈ s, Letter c ∨ c = 32) (h60 : s.length ≤ 60) (k : Nat) : lex_Lex.f (k + 1) [s ++ T] [] = some ([], 3) :=
  lex_one k (s ++ T) (by simp; omega) [] 3 (by rw [tgo_bad hT ((s ++ T).length + 1) s (s ++ T) 0 [] hs rfl (by simp; omega) (by simp; omega)])
theorem lex_lit (c : Int) (k : Nat) (hk : 50 < k) : lex_Lex.f k [[123, 49, 125], []] [[c]] = some ([⟨2, strOfNums [c]⟩], 0) := by
  have hm : ∀ k, 40 < k → G.lex_marked.f k [123, 49, 125] = some (0, 1) := fun k hk => LexM.marked_at [] [49] (by decide) (by simp) (by simp) k (by simp; omega)
  obtain ⟨k, rfl⟩ : ∃ k', k = k' + 2 := ⟨k - 2, by omega⟩
  have hf : G.lex_fits.f (k + 2) [[123, 49, 125], []] [[c]] = some true := by
    unfold G.lex_fits.f
    have hw : G.lex_Wants.f (k + 1) [123, 49, 125] = some (1, true) := by
      unfold G.lex_Wants.f
      rw [hm (k + 1) (by omega)]
      rfl
    rw [if_pos (by simp [wrap64]), G.lex_fits.l0, if_pos (by simp), if_pos (by omega), if_pos (by simp), if_pos (by simp)]
    show (G.lex_Wants.f (k + 1) [123, 49, 125]).bind _ = _
    rw [hw]
    show (if (1 : Int) = ((1 : Nat) : Int) then G.lex_fits.l0 (k + 1) [[123, 49, 125], []] [[c]] 1 (wrap64 (0 + 1)) else some false) = some true
    rw [if_pos (by rfl), G.lex_fits.l0, if_neg (by simp [wrap64])]
  unfold lex_Lex.f
  rw [hf]
  show lxGo (k + 2) [[123, 49, 125], []] [[c]] (2 + 1) 0 [] = _
  rw [lxGo, if_pos (by simp), if_pos (by simp), if_pos (by simp)]
  show (G.lex_marked.f (k + 2) [123, 49, 125]).bind _ = _
  rw [hm (k + 2) (by omega)]
  show (if 0 ≤ (0 : Int) ∧ (0 : Int) ≤ ((3 : Nat) : Int) then lxGo (k + 2) [[123, 49, 125], []] [[c]] 2 1 [⟨2, strOfNums [c]⟩] else none) = _
  rw [if_pos (by omega)]
  rfl
theorem bt_nat (s : ByteArray) (i : Nat) (b : UInt8) (h : s.data.toList[i]? = some b) : bt s (i : Int) = (b.toNat : Int) := by
  have hi : i < s.size := by rw [Lib.size_eq]; exact (List.getElem?_eq_some_iff.1 h).1
  have h2 := Lib.data_getElem? s i hi
  rw [h] at h2
  unfold bt
  simp only [Int.toNat_natCast]
  rw [dif_pos hi, ← Option.some.inj h2]
theorem all_letters (s : ByteArray) (h : ∀ (j : Nat) (b : UInt8), s.data.toList[j]? = some b → Letter (b.toNat : Int) ∨ (b.toNat : Int) = 32) : ∀ c ∈ bytesOf s, Letter c ∨ c = 32 := by
  intro c hc
  unfold bytesOf at hc
  obtain ⟨b, hb, rfl⟩ := List.mem_map.1 hc
  obtain ⟨j, hj, rfl⟩ := List.mem_iff_getElem.1 hb
  exact h j _ (List.getElem?_eq_getElem hj)
end Go.Proofs.YtbdmhlocafpehaaDoor.LexB
