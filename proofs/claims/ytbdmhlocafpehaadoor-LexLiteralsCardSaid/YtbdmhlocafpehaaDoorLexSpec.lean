/- What the lexer's plain words answer at lines of atoms and blanks. -/
import Derived.Test.YtbdmhlocafpehaaDoorLexLex
namespace Go.Proofs.YtbdmhlocafpehaaDoor
open Go.RowKit Go.Proofs.YtbdmhlocafpehaaDoor.P Go.Proofs.YtbdmhlocafpehaaDoorW.PrintWords Go.Proofs.YtbdmhlocafpehaaDoorW.PrintLast Go.Proofs.YtbdmhlocafpehaaDoorW.PrintMore

theorem drop_getD {l r : List Int} {p : Nat} {c : Int} (h : l.drop p = c :: r) : p < l.length ∧ l.getD p 0 = c ∧ l.drop (p + 1) = r := by
  have hp : p < l.length := by
    apply Classical.byContradiction
    intro hn
    rw [List.drop_of_length_le (by omega)] at h
    cases h
  rw [drop_get hp] at h
  obtain ⟨h1, h2⟩ := List.cons.inj h
  exact ⟨hp, h1, h2⟩
theorem tgo_blank {g : Nat} {line r : List Int} {p : Nat} {tk : List Tk} (h : line.drop p = 32 :: r) : tgo (g + 1) line p tk = tgo g line (p + 1) tk := by
  obtain ⟨hp, hc, _⟩ := drop_getD h
  rw [tgo, if_pos hp, if_pos hc]
theorem tgo_blanks : ∀ (b g : Nat) (line r : List Int) (p : Nat) (tk : List Tk), line.drop p = List.replicate b 32 ++ r → tgo (g + b) line p tk = tgo g line (p + b) tk
  | 0, _, _, _, _, _, _ => rfl
  | b + 1, g, line, r, p, tk, h => by
    have h1 : line.drop p = 32 :: (List.replicate b 32 ++ r) := h
    rw [← Nat.add_assoc, tgo_blank h1, tgo_blanks b g line r (p + 1) tk (drop_getD h1).2.2, show p + 1 + b = p + (b + 1) by omega]
theorem tgo_end {g : Nat} {line : List Int} {p : Nat} {tk : List Tk} (h : line.drop p = []) : tgo (g + 1) line p tk = some (.inr tk) := by
  have := List.length_drop (i := p) (l := line)
  rw [h] at this
  rw [tgo, if_neg (by simp at this; omega)]
/-- What may stand within brackets. -/
def Inside (s : List Int) : Prop := ∀ c ∈ s, 32 ≤ c ∧ c ≤ 126 ∧ c ≠ 93
theorem ago_in : ∀ (s r : List Int), Inside s → ago true (s ++ 93 :: r) = (ago false r).map (· + (s.length + 1))
  | [], r, _ => by
    rw [List.nil_append, ago, if_pos (by omega), if_pos rfl]; rfl
  | c :: s, r, h => by
    have hc := h c (List.mem_cons_self ..)
    rw [List.cons_append, ago, if_pos ⟨hc.1, hc.2.1⟩, if_pos rfl, decide_eq_true hc.2.2, ago_in s r (fun x hx => h x (List.mem_cons_of_mem _ hx))]
    cases ago false r with
    | none => rfl
    | some n => simp; omega
/-- The law's atom. -/
def atomL (s : List Int) : List Int := 97 :: 91 :: (s ++ [93, 122])
theorem ago_atom {s r : List Int} (h : Inside s) (hr : r = [] ∨ ∃ q, r = 32 :: q) : ago false (atomL s ++ r) = some (atomL s).length := by
  have e : atomL s ++ r = 97 :: 91 :: (s ++ 93 :: (122 :: r)) := by simp [atomL]
  have e2 : ago false r = some 0 := by
    rcases hr with rfl | ⟨q, rfl⟩
    · rfl
    · rw [ago, if_pos (by omega), if_neg Bool.false_ne_true, if_pos (by omega)]
  rw [e, ago, if_pos (by omega), if_neg Bool.false_ne_true, if_neg (by omega), show decide ((97 : Int) = 91) = false from rfl, ago, if_pos (by omega), if_neg Bool.false_ne_true, if_neg (by omega), show decide ((91 : Int) = 91) = true from rfl, ago_in s _ h, ago, if_pos (by omega), if_neg Bool.false_ne_true, if_neg (by omega), show decide ((122 : Int) = 91) = false from rfl, e2]
  simp [atomL]; omega
/-- The law's line. -/
def atomsL (s : List Int) (b : Nat) : Nat → List Int
  | 0 => []
  | n + 1 => atomL s ++ (List.replicate b 32 ++ atomsL s b n)
theorem tgo_atoms (s : List Int) (h : Inside s) (b : Nat) (hb : 1 ≤ b) : ∀ (n g : Nat) (line : List Int) (p : Nat) (tk : List Tk), line.drop p = atomsL s b n → (atomsL s b n).length < g → tk.length ≤ 64 → tgo g line p tk = some (if tk.length + n ≤ 64 then .inr (tk ++ List.replicate n ⟨1, strOfNums (atomL s)⟩) else .inl 5)
  | 0, g, line, p, tk, hd, hg, ht => by
    obtain ⟨g, rfl⟩ : ∃ g', g = g' + 1 := ⟨g - 1, by omega⟩
    rw [tgo_end hd, if_pos (by omega), List.replicate_zero, List.append_nil]
  | n + 1, g, line, p, tk, hd, hg, ht => by
    have hlen : (atomsL s b (n + 1)).length = (atomL s).length + (b + (atomsL s b n).length) := by simp [atomsL]
    have h1 : line.drop p = 97 :: (91 :: (s ++ [93, 122]) ++ (List.replicate b 32 ++ atomsL s b n)) := hd
    obtain ⟨hp, hc, _⟩ := drop_getD h1
    obtain ⟨g, rfl⟩ : ∃ g', g = g' + 1 := ⟨g - 1, by omega⟩
    rw [tgo, if_pos hp, if_neg (by rw [hc]; omega)]
    by_cases h64 : 64 ≤ tk.length
    · rw [show tk1 line tk.length p = .inl 5 by unfold tk1; rw [if_pos h64], if_neg (by omega)]
    · have ha : ago false (line.drop p) = some (atomL s).length := by
        rw [hd]
        refine ago_atom h (.inr ⟨List.replicate (b - 1) 32 ++ atomsL s b n, ?_⟩)
        obtain ⟨b, rfl⟩ : ∃ b', b = b' + 1 := ⟨b - 1, by omega⟩
        rfl
      have hcut : (line.take (p + (atomL s).length)).drop p = atomL s := by
        rw [List.drop_take, hd, show p + (atomL s).length - p = (atomL s).length by omega]
        exact List.take_left ..
      have hd2 : line.drop (p + (atomL s).length) = List.replicate b 32 ++ atomsL s b n := by
        rw [← List.drop_drop, hd]
        exact List.drop_left ..
      have hd3 : line.drop (p + (atomL s).length + b) = atomsL s b n := by
        rw [← List.drop_drop, hd2]
        have := List.drop_left (l₁ := List.replicate b (32 : Int)) (l₂ := atomsL s b n)
        rwa [List.length_replicate] at this
      have ht1 : tk1 line tk.length p = .inr (p + (atomL s).length, ⟨1, strOfNums (atomL s)⟩) := by
        unfold tk1 tk2
        rw [if_neg h64, hc, if_neg (by omega), if_neg (by omega), if_neg (by omega), ha]
        show Sum.inr _ = _
        rw [hcut]
      rw [ht1]
      show tgo g line (p + (atomL s).length) (tk ++ [_]) = _
      have hl : 0 < (atomL s).length := by simp [atomL]
      obtain ⟨g, rfl⟩ : ∃ g', g = g' + b := ⟨g - b, by omega⟩
      rw [tgo_blanks b g line _ _ _ hd2, tgo_atoms s h b hb n g line _ _ hd3 (by omega) (by simp; omega)]
      by_cases hn : tk.length + (n + 1) ≤ 64
      · rw [if_pos hn, if_pos (by simp; omega), List.append_assoc]; rfl
      · rw [if_neg hn, if_neg (by simp; omega)]
end Go.Proofs.YtbdmhlocafpehaaDoor
