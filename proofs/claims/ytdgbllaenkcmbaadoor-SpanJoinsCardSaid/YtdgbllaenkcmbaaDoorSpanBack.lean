/- What is printed is parsed as it was; two texts with a comma between. -/
import Derived.Test.YtdgbllaenkcmbaaDoorSpanKnown
namespace Go.Proofs.YtdgbllaenkcmbaaDoor.Spec
open Go.RowKit Go.Proofs.YtdgbllaenkcmbaaDoor Go.Proofs.YtdgbllaenkcmbaaDoor.P Go.Proofs.YtdgbllaenkcmbaaDoorW.PrintWords Go.Proofs.YtdgbllaenkcmbaaDoorW.PrintLast Go.Proofs.YtdgbllaenkcmbaaDoorW.PrintMore

theorem dig_ofNat {m : Nat} (h : m < 10) : dig (UInt8.ofNat (48 + m)) = true ∧ (UInt8.ofNat (48 + m)).toNat = 48 + m := by
  have e : (UInt8.ofNat (48 + m)).toNat = 48 + m := by rw [UInt8.toNat_ofNat']; omega
  refine ⟨?_, e⟩
  unfold dig
  rw [e, decide_eq_true (by omega), decide_eq_true (by omega)]
  rfl
theorem decDigits_dig (n : Nat) : (Lib.decDigits n).all dig = true := by
  induction n using Nat.strongRecOn with
  | _ n ih =>
    rw [Lib.decDigits]
    by_cases h : n < 10
    · rw [dif_pos h, List.all_cons, (dig_ofNat h).1]; rfl
    · rw [dif_neg h, List.all_append, ih (n / 10) (by omega), List.all_cons, (dig_ofNat (m := n % 10) (by omega)).1]; rfl
theorem decV_append : ∀ (l : List UInt8) (acc : Nat) (b : UInt8), decV acc (l ++ [b]) = decV acc l * 10 + (b.toNat - 48)
  | [], _, _ => rfl
  | _ :: l, _, b => decV_append l _ b
theorem decV_decDigits (n : Nat) : decV 0 (Lib.decDigits n) = n := by
  induction n using Nat.strongRecOn with
  | _ n ih =>
    rw [Lib.decDigits]
    by_cases h : n < 10
    · rw [dif_pos h]
      show 0 * 10 + ((UInt8.ofNat (48 + n)).toNat - 48) = n
      rw [(dig_ofNat h).2]; omega
    · rw [dif_neg h, decV_append, ih (n / 10) (by omega), (dig_ofNat (m := n % 10) (by omega)).2]; omega
theorem decDigits_ne (n : Nat) : Lib.decDigits n ≠ [] := by
  rw [Lib.decDigits]
  split
  · simp
  · simp
theorem decDigits_head (n : Nat) (h1 : 1 ≤ n) : (Lib.decDigits n).head? ≠ some 48 := by
  induction n using Nat.strongRecOn with
  | _ n ih =>
    rw [Lib.decDigits]
    by_cases h : n < 10
    · rw [dif_pos h]
      intro he
      have := congrArg UInt8.toNat (Option.some.inj he)
      rw [(dig_ofNat h).2] at this
      have e48 : (48 : UInt8).toNat = 48 := rfl
      omega
    · rw [dif_neg h]
      have h2 := ih (n / 10) (by omega) (by omega)
      cases hd : Lib.decDigits (n / 10) with
      | nil => exact absurd hd (decDigits_ne _)
      | cons x r => rw [hd] at h2; exact h2
theorem num_dg {n : Int} (h : okEnd n = true) : num (dg n) = n := by
  have hl := dg_len h
  unfold dg at hl ⊢
  rcases okEnd_cases h with rfl | ⟨h1, h2, h3⟩
  · rw [if_pos rfl]; rfl
  · rw [if_neg h3] at hl ⊢
    have ha := decDigits_dig n.toNat
    unfold num
    rw [if_neg (fun e => by rw [e] at ha; exact absurd ha (by decide)), if_neg (show ¬ (Lib.decDigits n.toNat = [] ∨ 7 < (Lib.decDigits n.toNat).length ∨ (Lib.decDigits n.toNat).head? = some 48) from by
      rintro (e | e | e)
      · exact decDigits_ne _ e
      · omega
      · exact decDigits_head _ (by omega) e), if_pos ha, decV_decDigits]
    omega
/-- The bytes of a number: none is a comma or a colon. -/
theorem dg_bytes (n : Int) (x : UInt8) (hx : x ∈ dg n) : x ≠ 44 ∧ x ≠ 58 := by
  unfold dg at hx
  split at hx
  · obtain rfl : x = 42 := by simpa using hx
    decide
  · have := List.all_eq_true.1 (decDigits_dig n.toNat) x hx
    unfold dig at this
    simp only [Bool.and_eq_true, decide_eq_true_eq] at this
    constructor
    · rintro rfl; exact absurd this.1 (by decide)
    · rintro rfl; exact absurd this.2 (by decide)
theorem cut_none (c : UInt8) : ∀ l : List UInt8, (∀ x ∈ l, x ≠ c) → cutL c l = (l, none)
  | [], _ => rfl
  | x :: l, h => by
    unfold cutL
    rw [if_neg (h x List.mem_cons_self), cut_none c l fun y hy => h y (List.mem_cons_of_mem _ hy)]
theorem cut_some (c : UInt8) (b : List UInt8) : ∀ l : List UInt8, (∀ x ∈ l, x ≠ c) → cutL c (l ++ c :: b) = (l, some b)
  | [], _ => by unfold cutL; simp
  | x :: l, h => by
    rw [List.cons_append]
    unfold cutL
    rw [if_neg (h x List.mem_cons_self), cut_some c b l fun y hy => h y (List.mem_cons_of_mem _ hy)]
theorem rng_text {r : S32} (h : okRange r = true) : rng (rtext r) = some r := by
  have h2 := h
  unfold okRange at h2
  rw [Bool.and_eq_true] at h2
  have n0 := num_dg h2.1
  have n1 := num_dg h2.2
  have z : ∀ n, okEnd n = true → n ≠ 0 := by
    intro n hn
    rcases okEnd_cases hn with rfl | ⟨h1, _, _⟩
    · decide
    · omega
  have z0 := z _ h2.1
  have z1 := z _ h2.2
  have e : num (ends (rtext r)).1 = r.f0 ∧ num (ends (rtext r)).2 = r.f1 := by
    unfold ends rtext
    by_cases he : r.f1 = r.f0
    · rw [if_pos he, List.append_nil, cut_none 58 _ fun x hx => (dg_bytes _ x hx).2]
      exact ⟨n0, by rw [he]; exact n0⟩
    · rw [if_neg he, cut_some 58 _ _ fun x hx => (dg_bytes _ x hx).2]
      exact ⟨n0, n1⟩
  unfold rng
  rw [e.1, e.2, if_neg (by rintro (h | h); exact z0 h; exact z1 h)]
theorem rtext_bytes (r : S32) (x : UInt8) (hx : x ∈ rtext r) : x ≠ 44 := by
  unfold rtext at hx
  rcases List.mem_append.1 hx with h | h
  · exact (dg_bytes _ x h).1
  · split at h
    · cases h
    · rcases List.mem_cons.1 h with rfl | h
      · decide
      · exact (dg_bytes _ x h).1
theorem pieces_none (c : UInt8) (l : List UInt8) (h : ∀ x ∈ l, x ≠ c) : pieces c l = [l] := by rw [pieces_cut, cut_none c l h]
theorem pieces_comma (c : UInt8) (b : List UInt8) : ∀ a : List UInt8, pieces c (a ++ c :: b) = pieces c a ++ pieces c b
  | [] => by
    show (if c = c then [] :: pieces c b else _) = _
    rw [if_pos rfl]
    rfl
  | x :: a => by
    rw [List.cons_append, pieces, pieces]
    by_cases h : x = c
    · rw [if_pos h, if_pos h, pieces_comma c b a]; rfl
    · rw [if_neg h, if_neg h, pieces_comma c b a]
      cases hp : pieces c a with
      | nil =>
        have : pieces c a ≠ [] := by
          cases a with
          | nil => rw [pieces]; simp
          | cons y a => rw [pieces]; split; simp; split <;> simp
        exact absurd hp this
      | cons p ps => rfl
theorem pieces_tail : ∀ (r : List S32) (x : List UInt8), (∀ y ∈ x, y ≠ 44) → pieces 44 (x ++ Lib.joinTail [44] (r.map rtext)) = x :: r.map rtext
  | [], x, hx => by
    show pieces 44 (x ++ []) = [x]
    rw [List.append_nil, pieces_none 44 x hx]
  | y :: r, x, hx => by
    have e : Lib.joinTail [44] ((y :: r).map rtext) = 44 :: (rtext y ++ Lib.joinTail [44] (r.map rtext)) := by
      unfold Lib.joinTail
      simp
    rw [e, pieces_comma, pieces_none 44 x hx, pieces_tail r (rtext y) (rtext_bytes y)]
    rfl
theorem goP_texts : ∀ (l acc : List S32), l.all okRange = true → acc.length + l.length ≤ 16 → goP (l.map rtext) acc = some (acc ++ l)
  | [], acc, _, _ => by rw [List.append_nil]; rfl
  | r :: l, acc, h, hl => by
    rw [List.all_cons, Bool.and_eq_true] at h
    rw [List.length_cons] at hl
    rw [List.map_cons, goP, rng_text h.1]
    simp only
    rw [if_neg (by omega), goP_texts l (acc ++ [r]) h.2 (by rw [List.length_append]; simp; omega), List.append_assoc]
    rfl
theorem parse_texts (l : List S32) (h : okSet l = true) : goP (pieces 44 (texts l)) [] = some l := by
  unfold okSet at h
  simp only [Bool.and_eq_true, decide_eq_true_eq] at h
  obtain ⟨h1, h2, h3⟩ := h
  cases l with
  | nil => exact absurd h1 (by decide)
  | cons r l =>
    unfold texts
    rw [List.map_cons, Lib.join_cons, pieces_tail l (rtext r) (rtext_bytes r)]
    have := goP_texts (r :: l) [] h3 (by simpa using h2)
    simpa using this
/-! ### Two rows of pieces -/
theorem goP_closed : ∀ (ps : List (List UInt8)) (acc : List S32), acc.length ≤ 16 → goP ps acc = if (ps.all fun p => (rng p).isSome) = true ∧ acc.length + ps.length ≤ 16 then some (acc ++ ps.filterMap rng) else none
  | [], acc, ha => by rw [if_pos ⟨rfl, by simpa using ha⟩]; simp [goP]
  | p :: ps, acc, ha => by
    rw [goP, List.all_cons, List.length_cons]
    cases hr : rng p with
    | none => rw [if_neg (by simp)]
    | some r =>
      simp only
      by_cases h3 : 16 ≤ acc.length
      · rw [if_pos h3, if_neg (by intro h; have := h.2; omega)]
      · rw [if_neg h3, goP_closed ps (acc ++ [r]) (by rw [List.length_append]; simp; omega), List.filterMap_cons, hr]
        by_cases hc : (ps.all fun p => (rng p).isSome) = true ∧ (acc ++ [r]).length + ps.length ≤ 16
        · have h4 := hc.2
          rw [List.length_append, List.length_singleton] at h4
          rw [if_pos hc, if_pos ⟨by rw [hc.1]; rfl, by omega⟩, List.append_assoc]
          rfl
        · rw [if_neg hc, if_neg]
          intro h
          refine hc ⟨by simpa using h.1, ?_⟩
          rw [List.length_append, List.length_singleton]
          omega
theorem filter_len : ∀ ps : List (List UInt8), (ps.all fun p => (rng p).isSome) = true → (ps.filterMap rng).length = ps.length
  | [], _ => rfl
  | p :: ps, h => by
    rw [List.all_cons, Bool.and_eq_true] at h
    obtain ⟨r, hr⟩ := Option.isSome_iff_exists.1 h.1
    rw [List.filterMap_cons, hr]
    simp [filter_len ps h.2]
end Go.Proofs.YtdgbllaenkcmbaaDoor.Spec
