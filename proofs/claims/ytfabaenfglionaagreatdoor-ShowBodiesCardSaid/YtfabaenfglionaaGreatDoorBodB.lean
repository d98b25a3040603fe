/- What told answers: something, for each item that big lets in. -/
import Derived.Lib.ItoaLen
import Derived.Test.YtfabaenfglionaaGreatDoorUidParts
import Derived.Test.YtfabaenfglionaaGreatDoorPx119
import Derived.Test.YtfabaenfglionaaGreatDoorBodA
import Derived.Test.YtfabaenfglionaaGreatDoorPx4
import Derived.Test.YtfabaenfglionaaGreatDoorPx5
namespace Go.Proofs.YtfabaenfglionaaGreatDoor.Pure
open Go.RowKit Go.Proofs.YtfabaenfglionaaGreatDoor Go.Proofs.YtfabaenfglionaaGreatDoor.P Go.Proofs.YtfabaenfglionaaGreatDoor.Spec Go.Proofs.YtfabaenfglionaaGreatDoorW.PrintWords Go.Proofs.YtfabaenfglionaaGreatDoorW.PrintLast Go.Proofs.YtfabaenfglionaaGreatDoorW.PrintMore

theorem Itoa_ex (n : Int) (h0 : -9223372036854775808 ≤ n) (h1 : n ≤ 9223372036854775807) : ∃ t, strconv_Itoa.f n = some t ∧ t.size ≤ 21 := by
  unfold strconv_Itoa.f
  rw [if_pos ⟨h0, h1⟩]
  refine ⟨_, rfl, ?_⟩
  have := Lib.itoa_length_le n h0 h1
  rw [Lib.size_eq]
  exact this
theorem lens_le (B : Nat) : ∀ r : List (List UInt8), (∀ x ∈ r, x.length ≤ B) → Lib.lens r ≤ B * r.length
  | [], _ => Nat.zero_le _
  | x :: r, h => by
    have h1 := lens_le B r (fun y hy => h y (List.mem_cons_of_mem _ hy))
    have h2 := h x List.mem_cons_self
    have e : Lib.lens (x :: r) = x.length + Lib.lens r := by simp [Lib.lens]
    rw [e, List.length_cons, Nat.mul_succ]
    omega
theorem Join_ex (l : List ByteArray) (s : ByteArray) (B : Nat) (hs : s.size = 1) (h : ∀ x ∈ l, x.size ≤ B) (hl : l.length ≤ 2000) (hB : B ≤ 100000) : ∃ t, strings_Join.f l s = some t ∧ t.size ≤ (B + 1) * l.length := by
  have hlen : (Lib.join (l.map (·.data.toList)) s.data.toList).length ≤ (B + 1) * l.length := by
    cases l with
    | nil => exact Nat.zero_le _
    | cons x r =>
      have hs1 : s.data.toList.length = 1 := by rw [← Lib.size_eq]; exact hs
      have h1 := lens_le B ((x :: r).map (·.data.toList)) (by
        intro y hy
        obtain ⟨z, hz, rfl⟩ := List.mem_map.1 hy
        have := h z hz
        rw [Lib.size_eq] at this
        exact this)
      rw [List.length_map] at h1
      rw [List.map_cons] at h1 ⊢
      rw [Lib.join_length, hs1, List.length_map, List.length_cons, show (B + 1) * (r.length + 1) = B * (r.length + 1) + (r.length + 1) from Nat.succ_mul _ _]
      rw [List.length_cons] at h1
      omega
  have hm : (B + 1) * l.length ≤ 100001 * 2000 := Nat.mul_le_mul (by omega) hl
  unfold strings_Join.f
  rw [if_pos ⟨by omega, by omega⟩]
  refine ⟨_, rfl, ?_⟩
  rw [Lib.size_eq]
  exact hlen
theorem nums_size (t : List Int) : (strOfNums t).size = t.length := by simp [strOfNums, ByteArray.size]
theorem Literal_ex (l : List Int) (hl : l.length ≤ 100000) : ∃ t, show_Literal.f l = some t ∧ t.size ≤ l.length + 30 := by
  obtain ⟨n, hn, hs⟩ := Itoa_ex (l.length : Int) (by omega) (by omega)
  have h1 := nums_size l
  unfold show_Literal.f
  rw [hn, Option.bind_some, if_pos (by omega), if_pos (by omega), if_pos (by omega), if_pos (by omega)]
  refine ⟨_, rfl, ?_⟩
  simp only [ByteArray.size_append, h1]
  have e1 : (⟨#[123]⟩ : ByteArray).size = 1 := rfl
  have e2 : (⟨#[125]⟩ : ByteArray).size = 1 := rfl
  have e3 : (⟨#[13, 10]⟩ : ByteArray).size = 2 := rfl
  omega
theorem Body_ex (k : Nat) (l : List Int) (hb : Byt l) (hl : l.length ≤ 50000) (hk : l.length + 1 < k) : ∃ h, head_Body.f k l = some h ∧ h.length ≤ l.length :=
  ⟨_, UBody_eq k l hb hl hk, by rw [List.length_drop]; omega⟩
theorem Section_l0 (x1 : List Int) (h4 : x1.length ≤ 4) (N : Nat) (hN : N ≤ 20000) : ∀ (n k i : Nat) (b : List Int), i + n = x1.length → Byt b → b.length ≤ N → 8 * N + 24 + 2 * n < k → ∃ r, mime_Section.l0 k b x1 x1 x1.length i = some r ∧ r.1.length ≤ N
  | n, 0, _, _, _, _, _, h => absurd h (by omega)
  | n, 1, _, _, _, _, _, h => absurd h (by omega)
  | n, k + 2, i, b, hi, hb, hl, hk => by
    unfold mime_Section.l0
    by_cases hlt : i < x1.length
    · obtain ⟨n, rfl⟩ : ∃ m, n = m + 1 := ⟨n - 1, by omega⟩
      obtain ⟨ps, hP, hc, hps⟩ := Parts_ex (k + 1) b hb (by omega) (by omega)
      rw [if_pos (by omega), if_pos (by omega), if_pos (by omega), hP, Option.bind_some]
      have step : ∀ v : Bool, ∃ r, mime_Section.j1 (k + 1) b x1 (rd x1 i) ps x1 x1.length i v = some r ∧ r.1.length ≤ N := by
        intro v
        unfold mime_Section.j1
        cases v with
        | true =>
          obtain ⟨h, hh, hhl⟩ := Body_ex k b hb (by omega) (by omega)
          rw [if_pos rfl, hh, Option.bind_some]
          exact ⟨_, rfl, by show h.length ≤ N; omega⟩
        | false =>
          rw [if_neg (by decide)]
          generalize rd x1 i = q
          by_cases h1 : q < 1
          · rw [if_pos h1]
            exact ⟨_, rfl, Nat.zero_le _⟩
          · rw [if_neg h1]
            by_cases h2 : q > (ps.length : Int)
            · rw [if_pos h2]
              exact ⟨_, rfl, Nat.zero_le _⟩
            · obtain ⟨p, rfl⟩ : ∃ p : Nat, q = ((p + 1 : Nat) : Int) := ⟨(q - 1).toNat, by omega⟩
              have hw : wrap64 (((p + 1 : Nat) : Int) - 1) = (p : Int) := by rw [w64 _ (by omega) (by omega)]; omega
              have hp : p < ps.length := by omega
              obtain ⟨a, e, ha, he, hae, hel⟩ := hc.mem (getD_P hp)
              have hlen : ((b.take e).drop a).length ≤ N := by
                rw [List.length_drop, List.length_take]
                omega
              have hw2 : wrap64 ((i : Int) + 1) = ((i + 1 : Nat) : Int) := w64 _ (by omega) (by omega)
              rw [if_neg h2, hw, if_pos (by omega), if_pos (by omega), rd_TP_nat, ha, he, if_pos (by omega), if_pos (by omega), if_pos (by omega), Int.toNat_natCast, Int.toNat_natCast, hw2]
              exact Section_l0 x1 h4 N hN n k (i + 1) _ (by omega) ((hb.take e).drop a) hlen (by omega)
      split
      · split
        · exact step _
        · exact step _
      · exact step _
    · rw [if_neg (by omega)]
      unfold bytes_Clone.f
      rw [if_pos (by omega), Option.bind_some]
      exact ⟨_, rfl, hl⟩
theorem Section_ex (k : Nat) (b path : List Int) (hb : Byt b) (hl : b.length ≤ 20000) (hk : 8 * b.length + 40 ≤ k) : ∃ r, mime_Section.f k b path = some r ∧ r.1.length ≤ b.length := by
  unfold mime_Section.f
  by_cases h4 : (path.length : Int) > 4
  · rw [if_pos h4]
    exact ⟨_, rfl, Nat.zero_le _⟩
  · rw [if_neg h4]
    exact Section_l0 path (by omega) b.length hl path.length k 0 b (by omega) hb (Nat.le_refl _) (by omega)
def Ok (x : S40) : Prop := x.f1.length ≤ 1500 ∧ ∀ n ∈ x.f1, 0 ≤ n ∧ n ≤ 9223372036854775807
end Go.Proofs.YtfabaenfglionaaGreatDoor.Pure
namespace Go.Proofs.YtfabaenfglionaaGreatDoor.Pure
open Go.RowKit Go.Proofs.YtfabaenfglionaaGreatDoor Go.Proofs.YtfabaenfglionaaGreatDoor.P Go.Proofs.YtfabaenfglionaaGreatDoor.Spec Go.Proofs.YtfabaenfglionaaGreatDoorW.PrintWords Go.Proofs.YtfabaenfglionaaGreatDoorW.PrintLast Go.Proofs.YtfabaenfglionaaGreatDoorW.PrintMore

theorem usec_nil (b : List Int) : usec b [] = (b, true) := by unfold usec; rfl
theorem usec_cons (b : List Int) (n : Int) (rest : List Int) : usec b (n :: rest) = if UP b = [] then (if n = 1 ∧ rest = [] then (b.drop (hend b), true) else ([], false)) else if n < 1 ∨ n > ((UP b).length : Int) then ([], false) else usec ((b.take ((UP b).getD (n - 1).toNat z59).f1.toNat).drop ((UP b).getD (n - 1).toNat z59).f0.toNat) rest := by
  conv => lhs; unfold usec
theorem drop_last {l : List Int} {i : Nat} (h : i < l.length) : l.drop (i + 1) = [] ↔ i = l.length - 1 := by
  rw [List.drop_eq_nil_iff]
  omega
theorem USection_l0 (x1 : List Int) (h4 : x1.length ≤ 4) (N : Nat) (hN : N ≤ 20000) : ∀ (n k i : Nat) (b : List Int), i + n = x1.length → Byt b → b.length ≤ N → 8 * N + 24 + 2 * n < k → mime_Section.l0 k b x1 x1 x1.length i = some (usec b (x1.drop i))
  | n, 0, _, _, _, _, _, h => absurd h (by omega)
  | n, 1, _, _, _, _, _, h => absurd h (by omega)
  | n, k + 2, i, b, hi, hb, hl, hk => by
    unfold mime_Section.l0
    by_cases hlt : i < x1.length
    · obtain ⟨n, rfl⟩ : ∃ m, n = m + 1 := ⟨n - 1, by omega⟩
      have hP := UParts_eq (k + 1) b hb (by omega) (by omega)
      obtain ⟨hc, hps⟩ := UP_ok b
      have hd := drop_at hlt
      have hdl := drop_last hlt
      have ih := fun (c : List Int) (hc1 : Byt c) (hc2 : c.length ≤ N) => USection_l0 x1 h4 N hN n k (i + 1) c (by omega) hc1 hc2 (by omega)
      rw [if_pos (by omega), if_pos (by omega), if_pos (by omega), hP, Option.bind_some, rd_nat, hd, usec_cons]
      generalize x1.drop (i + 1) = rest at hdl ih
      generalize x1.getD i 0 = q
      generalize UP b = ps at hc hps
      have hw : wrap64 ((x1.length : Int) - 1) = ((x1.length - 1 : Nat) : Int) := by rw [w64 _ (by omega) (by omega)]; omega
      by_cases h0 : ps = []
      · subst h0
        have none_ : ∀ q : Int, mime_Section.j1 (k + 1) b x1 q [] x1 x1.length i false = if q < 1 then some ([], false) else some ([], false) := by
          intro q
          rw [mime_Section.j1, if_neg Bool.false_ne_true]
          by_cases h1 : q < 1
          · rw [if_pos h1, if_pos h1]
          · rw [if_neg h1, if_neg h1, if_pos (by rw [List.length_nil]; omega)]
        have none' : ∀ q : Int, mime_Section.j1 (k + 1) b x1 q [] x1 x1.length i false = some ([], false) := by
          intro q
          rw [none_ q]
          split <;> rfl
        rw [if_pos (by rfl), if_pos rfl]
        by_cases h1 : q = 1
        · rw [if_pos h1, hw]
          by_cases h2 : i = x1.length - 1
          · rw [beq_iff_eq.2 (show (i : Int) = ((x1.length - 1 : Nat) : Int) by omega), mime_Section.j1, if_pos rfl, UBody_eq k b hb (by omega) (by omega), Option.bind_some, if_pos ⟨h1, hdl.2 h2⟩]
          · rw [beq_eq_false_iff_ne.2 (show (i : Int) ≠ ((x1.length - 1 : Nat) : Int) by omega), none', if_neg (fun h => h2 (hdl.1 h.2))]
        · rw [if_neg h1, none', if_neg (fun h => h1 h.1)]
      · have hpos := List.length_pos_iff.2 h0
        rw [if_neg (by omega), if_neg h0, mime_Section.j1, if_neg Bool.false_ne_true]
        by_cases h1 : q < 1
        · rw [if_pos h1, if_pos (.inl h1)]
        · rw [if_neg h1]
          by_cases h2 : q > (ps.length : Int)
          · rw [if_pos h2, if_pos (.inr h2)]
          · obtain ⟨p, rfl⟩ : ∃ p : Nat, q = ((p + 1 : Nat) : Int) := ⟨(q - 1).toNat, by omega⟩
            have hw1 : wrap64 (((p + 1 : Nat) : Int) - 1) = (p : Int) := by rw [w64 _ (by omega) (by omega)]; omega
            have hp : p < ps.length := by omega
            obtain ⟨a, e, ha, he, hae, hel⟩ := hc.mem (getD_P hp)
            have hlen : ((b.take e).drop a).length ≤ N := by
              rw [List.length_drop, List.length_take]
              omega
            have hw2 : wrap64 ((i : Int) + 1) = ((i + 1 : Nat) : Int) := w64 _ (by omega) (by omega)
            have hpn : (((p + 1 : Nat) : Int) - 1).toNat = p := by omega
            rw [if_neg h2, hw1, if_pos (by omega), if_pos (by omega), rd_TP_nat, hpn, ha, he, if_pos (by omega), if_pos (by omega), if_pos (by omega), Int.toNat_natCast, Int.toNat_natCast, hw2, if_neg (by omega)]
            exact ih _ ((hb.take e).drop a) hlen
    · rw [if_neg (by omega), List.drop_eq_nil_of_le (by omega), usec_nil]
      unfold bytes_Clone.f
      rw [if_pos (by omega), Option.bind_some]
theorem RSection_l0 (x1 : List Int) (h4 : x1.length ≤ 4) (N : Nat) (hN : N ≤ 20000) : ∀ (n k i : Nat) (b : List Int), i + n = x1.length → Byt b → b.length ≤ N → 12 * N + 64 + 2 * n < k → letterboxref10_Section.l0 k b x1 i = some (usec b (x1.drop i))
  | n, 0, _, _, _, _, _, h => absurd h (by omega)
  | n, 1, _, _, _, _, _, h => absurd h (by omega)
  | n, k + 2, i, b, hi, hb, hl, hk => by
    unfold letterboxref10_Section.l0
    by_cases hlt : i < x1.length
    · obtain ⟨n, rfl⟩ : ∃ m, n = m + 1 := ⟨n - 1, by omega⟩
      have hP := RParts_eq (k + 1) b hb (by omega) (by omega)
      obtain ⟨hc, hps⟩ := UP_ok b
      have hd := drop_at hlt
      have hdl := drop_last hlt
      have ih := fun (c : List Int) (hc1 : Byt c) (hc2 : c.length ≤ N) => RSection_l0 x1 h4 N hN n (k + 1) (i + 1) c (by omega) hc1 hc2 (by omega)
      have hh := hend_le b
      rw [if_pos (by omega), hP, Option.bind_some, rd_nat, hd, usec_cons]
      generalize x1.drop (i + 1) = rest at hdl ih
      generalize x1.getD i 0 = q
      generalize UP b = ps at hc hps
      have hw : wrap64 ((x1.length : Int) - 1) = ((x1.length - 1 : Nat) : Int) := by rw [w64 _ (by omega) (by omega)]; omega
      have body : letterboxref9_Body.f k b = some (b.drop (hend b)) := by
        unfold letterboxref9_Body.f
        rw [RefEnd_eq k b (by omega) (by omega), Option.bind_some, if_pos (by omega), if_pos (by omega), Int.toNat_natCast]
      by_cases h0 : ps = []
      · subst h0
        rw [if_pos (by rfl), if_pos rfl, hw]
        by_cases h2 : i = x1.length - 1
        · rw [if_pos (show (i : Int) = ((x1.length - 1 : Nat) : Int) by omega), if_pos (by omega), letterboxref10_Section.j1]
          by_cases h1 : q = 1
          · rw [if_pos (beq_iff_eq.2 h1), body, Option.bind_some, if_pos ⟨h1, hdl.2 h2⟩]
          · rw [if_neg (by simpa using h1), if_neg (fun h => h1 h.1)]
        · rw [if_neg (show ¬ (i : Int) = ((x1.length - 1 : Nat) : Int) by omega), letterboxref10_Section.j1, if_neg Bool.false_ne_true, if_neg (fun h => h2 (hdl.1 h.2))]
      · have hpos := List.length_pos_iff.2 h0
        rw [if_neg (by omega), if_neg h0, if_pos (by omega)]
        by_cases h1 : q < 1
        · rw [if_pos h1, if_pos (.inl h1)]
        · rw [if_neg h1]
          by_cases h2 : q > (ps.length : Int)
          · rw [if_pos h2, if_pos (.inr h2)]
          · obtain ⟨p, rfl⟩ : ∃ p : Nat, q = ((p + 1 : Nat) : Int) := ⟨(q - 1).toNat, by omega⟩
            have hw1 : wrap64 (((p + 1 : Nat) : Int) - 1) = (p : Int) := by rw [w64 _ (by omega) (by omega)]; omega
            have hp : p < ps.length := by omega
            obtain ⟨a, e, ha, he, hae, hel⟩ := hc.mem (getD_P hp)
            have hlen : ((b.take e).drop a).length ≤ N := by
              rw [List.length_drop, List.length_take]
              omega
            have hw2 : wrap64 ((i : Int) + 1) = ((i + 1 : Nat) : Int) := w64 _ (by omega) (by omega)
            have hpn : (((p + 1 : Nat) : Int) - 1).toNat = p := by omega
            rw [if_neg h2, hw1, if_pos (by omega), if_pos (by omega), rd_TP_nat, hpn, ha, he, if_pos (by omega), if_pos (by omega), if_pos (by omega), Int.toNat_natCast, Int.toNat_natCast, hw2, if_neg (by omega)]
            exact ih _ ((hb.take e).drop a) hlen
    · rw [if_neg (by omega), List.drop_eq_nil_of_le (by omega), usec_nil]
def sec (b path : List Int) : List Int × Bool := if path.length ≤ 4 then usec b path else ([], false)
theorem USection_eq (k : Nat) (b path : List Int) (hb : Byt b) (hl : b.length ≤ 20000) (hk : 8 * b.length + 40 ≤ k) : mime_Section.f k b path = some (sec b path) := by
  unfold mime_Section.f sec
  by_cases h4 : path.length ≤ 4
  · rw [if_neg (by omega), if_pos h4]
    exact USection_l0 path h4 b.length hl path.length k 0 b (by omega) hb (Nat.le_refl _) (by omega)
  · rw [if_pos (by omega), if_neg h4]
theorem RSection_eq (k : Nat) (b path : List Int) (hb : Byt b) (hl : b.length ≤ 20000) (hk : 12 * b.length + 80 ≤ k) : letterboxref10_Section.f k b path = some (sec b path) := by
  unfold letterboxref10_Section.f sec
  by_cases h4 : path.length ≤ 4
  · rw [if_neg (by omega), if_pos h4]
    exact RSection_l0 path h4 b.length hl path.length k 0 b (by omega) hb (Nat.le_refl _) (by omega)
  · rw [if_pos (by omega), if_neg h4]
theorem sec_le (b path : List Int) (hb : Byt b) (hl : b.length ≤ 20000) : (sec b path).1.length ≤ b.length := by
  obtain ⟨r, h1, h2⟩ := Section_ex (8 * b.length + 40) b path hb hl (Nat.le_refl _)
  rw [USection_eq (8 * b.length + 40) b path hb hl (Nat.le_refl _)] at h1
  rw [Option.some.inj h1]
  exact h2
theorem sec_nil (b : List Int) : sec b [] = (b, true) := by
  unfold sec
  rw [if_pos (by decide), usec_nil]
end Go.Proofs.YtfabaenfglionaaGreatDoor.Pure
namespace Go.Proofs.YtfabaenfglionaaGreatDoor.Pure
open Go.RowKit Go.Proofs.YtfabaenfglionaaGreatDoor Go.Proofs.YtfabaenfglionaaGreatDoor.P Go.Proofs.YtfabaenfglionaaGreatDoor.Spec Go.Proofs.YtfabaenfglionaaGreatDoorW.PrintWords Go.Proofs.YtfabaenfglionaaGreatDoorW.PrintLast Go.Proofs.YtfabaenfglionaaGreatDoorW.PrintMore

/-- A message that may be told. -/
structure Msg (u d : Int) (m : List Int) : Prop where
  u0 : 0 ≤ u ∧ u ≤ 9223372036854775807
  d0 : 0 ≤ d ∧ d ≤ 9223372036854775807
  b : Byt m
  l : m.length ≤ 1500
/-- The end of Show: the texts, joined, between what stands around them. -/
def shown (x2 : Int) (x9 : List ByteArray) : Option ByteArray := show_Show.l0 1 x2 x9 [] 0 0 0 0 0 []
theorem Show1 {u f d : Int} {m : List Int} (p : List Int) (T : ByteArray) (c : Nat) (hT : show_told.f (c + 1) 5 p u f d m = some T) : show_Show.f (c + 1 + 1 + 1 + 1) [⟨5, p⟩] u f d m 7 false = shown 7 [T] := by
  have hr : rd_T40 ([⟨5, p⟩] : List S40) 0 = ⟨5, p⟩ := rfl
  have hl : ((([⟨5, p⟩] : List S40).length : Nat) : Int) = 1 := rfl
  have h0 : ((([] : List ByteArray).length : Nat)) = 0 := rfl
  unfold show_Show.f
  rw [if_neg Bool.false_ne_true, show_Show.j0, if_neg Bool.false_ne_true, show_Show.j1, hl, show_Show.l0, hl]
  rw [if_pos (by omega), if_pos (by omega), if_pos (by omega), hr, hT, Option.bind_some, h0, if_pos (by omega), show wrap64 ((0 : Int) + 1) = 1 from w64 _ (by omega) (by omega)]
  unfold shown
  rw [show_Show.l0, show_Show.l0, if_neg (by omega), if_neg (by omega)]
  rfl
def LT (l : List Int) : ByteArray := (show_Literal.f l).getD ByteArray.empty
theorem LT_ok (l : List Int) (hl : l.length ≤ 100000) : show_Literal.f l = some (LT l) ∧ (LT l).size ≤ l.length + 30 := by
  obtain ⟨t, ht, hs⟩ := Literal_ex l hl
  have e : LT l = t := by unfold LT; rw [ht]; rfl
  rw [e]
  exact ⟨ht, hs⟩
/-- A section's text. -/
def ST (q : List Int × Bool) : ByteArray := if q.2 = true then LT q.1 else ⟨#[78, 73, 76]⟩
theorem told_b_l0 (u f d kind : Int) (m : List Int) (hm : Byt m) (hml : m.length ≤ 1500) (path : List Int) (hp : ∀ x ∈ path, 0 ≤ x ∧ x ≤ 9223372036854775807) (hpl : path.length ≤ 1500) : ∀ (k i : Nat) (x5 : List ByteArray), i ≤ path.length → path.length - i + 12050 ≤ k → x5.length = i → (∀ x ∈ x5, x.size ≤ 21) →
    ∃ J, (path = [] → J = (⟨#[]⟩ : ByteArray)) ∧ J.size ≤ 33000 ∧ show_told.l0 k x5 path path.length i kind path u f d m = some ((((⟨#[66, 79, 68, 89, 91]⟩ : ByteArray) ++ J) ++ (⟨#[93, 32]⟩ : ByteArray)) ++ ST (sec m path))
  | 0, _, _, _, h, _, _ => absurd h (by omega)
  | k + 1, i, x5, hi, hk, h5, hx => by
    unfold show_told.l0
    by_cases hlt : i < path.length
    · have hw : wrap64 ((i : Int) + 1) = ((i + 1 : Nat) : Int) := w64 _ (by omega) (by omega)
      have hr : rd path (i : Int) ∈ path := by
        rw [rd_nat, List.getD_eq_getElem?_getD, List.getElem?_eq_getElem hlt]
        exact List.getElem_mem hlt
      obtain ⟨t, ht, hs⟩ := Itoa_ex (rd path (i : Int)) (by have := hp _ hr; omega) (hp _ hr).2
      rw [if_pos (by omega), if_pos (by omega), if_pos (by omega), ht, Option.bind_some, if_pos (by omega), hw]
      refine told_b_l0 u f d kind m hm hml path hp hpl k (i + 1) _ (by omega) (by omega) (by rw [List.length_append, List.length_singleton, h5]) ?_
      intro x hmm
      rcases List.mem_append.1 hmm with hmm | hmm
      · exact hx x hmm
      · obtain rfl := List.mem_singleton.1 hmm
        exact hs
    · rw [if_neg (by omega)]
      have hr := USection_eq k m path hm (by omega) (by omega)
      have hrl := sec_le m path hm (by omega)
      obtain ⟨t, ht, hs⟩ := Join_ex x5 (⟨#[46]⟩ : ByteArray) 21 rfl hx (by omega) (by omega)
      have hs2 : t.size ≤ 33000 := Nat.le_trans hs (Nat.le_trans (Nat.mul_le_mul_left _ (show x5.length ≤ 1500 by omega)) (by decide))
      have hnil : path = [] → t = (⟨#[]⟩ : ByteArray) := by
        intro hpn
        have h0 : x5 = [] := List.eq_nil_of_length_eq_zero (by rw [hpn] at hi; simp at hi; omega)
        rw [h0] at ht
        have e : strings_Join.f [] (⟨#[46]⟩ : ByteArray) = some (⟨#[]⟩ : ByteArray) := by
          unfold strings_Join.f
          rw [if_pos (by decide)]
          rfl
        rw [e] at ht
        exact (Option.some.inj ht).symm
      rw [hr, Option.bind_some]
      generalize sec m path = r at hrl
      unfold ST
      by_cases hr2 : r.2 = true
      · obtain ⟨hy, hys⟩ := LT_ok r.1 (by omega)
        rw [if_pos hr2, if_pos hr2, hy, Option.bind_some, ht, Option.bind_some, if_pos (by omega), if_pos (by omega), if_pos (by omega)]
        exact ⟨t, hnil, hs2, rfl⟩
      · rw [if_neg hr2, if_neg hr2, ht, Option.bind_some, if_pos (by omega), if_pos (by omega), if_pos (by omega)]
        exact ⟨t, hnil, hs2, rfl⟩
theorem ST_le {u d : Int} {m : List Int} (hM : Msg u d m) (path : List Int) : (ST (sec m path)).size ≤ 1530 := by
  have hl := hM.l
  have h := sec_le m path hM.b (by omega)
  generalize sec m path = r at h
  unfold ST
  split
  · have := (LT_ok r.1 (by omega)).2
    omega
  · show 3 ≤ 1530
    omega
theorem told_b {u d : Int} {m : List Int} (f : Int) (hM : Msg u d m) (path : List Int) (hok : Ok (⟨5, path⟩ : S40)) (k : Nat) (hk : 14000 ≤ k) :
    ∃ J, (path = [] → J = (⟨#[]⟩ : ByteArray)) ∧ J.size ≤ 33000 ∧ show_told.f k 5 path u f d m = some ((((⟨#[66, 79, 68, 89, 91]⟩ : ByteArray) ++ J) ++ (⟨#[93, 32]⟩ : ByteArray)) ++ ST (sec m path)) := by
  have hl := hok.1
  have h2 : path.length ≤ 1500 := hl
  obtain ⟨J, h0, hJ, h1⟩ := told_b_l0 u f d 5 m hM.b hM.l path hok.2 h2 k 0 [] (Nat.zero_le _) (by omega) rfl (fun _ h => by cases h)
  refine ⟨J, h0, hJ, ?_⟩
  unfold show_told.f
  rw [if_neg (by decide), if_neg (by decide), if_neg (by decide), if_neg (by decide), if_neg (by decide), if_neg (by decide)]
  exact h1
theorem toL (a b : ByteArray) : (a ++ b).data.toList = a.data.toList ++ b.data.toList := by rw [ByteArray.data_append, Array.toList_append]
theorem shown7 (T : ByteArray) (hT : T.size ≤ 40000) : ∃ t, shown 7 [T] = some t ∧ t.size ≤ 41000 ∧ t.data.toList = [42, 32, 55, 32, 70, 69, 84, 67, 72, 32, 40] ++ (T.data.toList ++ [41, 13, 10]) := by
  have hi : strconv_Itoa.f 7 = some (⟨#[55]⟩ : ByteArray) := by kernel_rfl
  have hj : strings_Join.f [T] (⟨#[32]⟩ : ByteArray) = some T := by
    have e : Lib.join ([T].map (·.data.toList)) (⟨#[32]⟩ : ByteArray).data.toList = T.data.toList := Lib.join_one _ _
    have hs := Lib.size_eq T
    unfold strings_Join.f
    rw [e, if_pos ⟨by rw [List.length_singleton]; omega, by omega⟩]
  have c1 : (⟨#[55]⟩ : ByteArray).size = 1 := rfl
  unfold shown show_Show.l0
  rw [if_neg (by decide), hi, Option.bind_some, if_pos (by omega), if_pos (by omega), hj, Option.bind_some, if_pos (by omega), if_pos (by omega), if_pos (by omega)]
  refine ⟨_, rfl, ?_, ?_⟩
  · simp only [ByteArray.size_append]
    have e1 : (⟨#[42, 32]⟩ : ByteArray).size = 2 := rfl
    have e2 : (⟨#[32, 70, 69, 84, 67, 72, 32, 40]⟩ : ByteArray).size = 8 := rfl
    have e3 : (⟨#[41]⟩ : ByteArray).size = 1 := rfl
    have e4 : (⟨#[13, 10]⟩ : ByteArray).size = 2 := rfl
    omega
  · simp only [toL, List.append_assoc]
    rfl
/-- One body, shown. -/
theorem Body1 {u d : Int} {m : List Int} (f : Int) (hM : Msg u d m) (path : List Int) (hok : Ok (⟨5, path⟩ : S40)) (k : Nat) (hk : 14010 ≤ k) :
    ∃ J t, (path = [] → J = (⟨#[]⟩ : ByteArray)) ∧ show_Show.f k [⟨5, path⟩] u f d m 7 false = some t ∧ t.size ≤ 41000 ∧ t.data.toList = [42, 32, 55, 32, 70, 69, 84, 67, 72, 32, 40] ++ (((((⟨#[66, 79, 68, 89, 91]⟩ : ByteArray) ++ J) ++ (⟨#[93, 32]⟩ : ByteArray)) ++ ST (sec m path)).data.toList ++ [41, 13, 10]) := by
  obtain ⟨c, rfl⟩ : ∃ c, k = c + 1 + 1 + 1 + 1 := ⟨k - 4, by omega⟩
  obtain ⟨J, h0, hJ, h1⟩ := told_b f hM path hok (c + 1) (by omega)
  have hS := ST_le hM path
  obtain ⟨t, ht, hs, hl⟩ := shown7 ((((⟨#[66, 79, 68, 89, 91]⟩ : ByteArray) ++ J) ++ (⟨#[93, 32]⟩ : ByteArray)) ++ ST (sec m path)) (by
    simp only [ByteArray.size_append]
    have e1 : (⟨#[66, 79, 68, 89, 91]⟩ : ByteArray).size = 5 := rfl
    have e2 : (⟨#[93, 32]⟩ : ByteArray).size = 2 := rfl
    omega)
  exact ⟨J, t, h0, (Show1 path _ c h1).trans ht, hs, hl⟩
theorem tail_eq (t w : ByteArray) (P : List UInt8) (h : t.data.toList = P ++ w.data.toList) (hb : t.size ≤ 1000000) : w.size ≤ t.size ∧ (t.extract (wrap64 ((t.size : Int) - (w.size : Int))).toNat t.size).toList = w.toList := by
  have h1 := Lib.size_eq t
  have h2 := Lib.size_eq w
  have h3 := congrArg List.length h
  rw [List.length_append] at h3
  refine ⟨by omega, ?_⟩
  rw [Lib.toList_data, Lib.toList_data, extract_list, w64 _ (by omega) (by omega), List.take_of_length_le (by omega), h, show ((t.size : Int) - (w.size : Int)).toNat = P.length by omega, List.drop_left]
end Go.Proofs.YtfabaenfglionaaGreatDoor.Pure
namespace Go.Proofs.YtfabaenfglionaaGreatDoor.Pure
open Go.RowKit Go.Proofs.YtfabaenfglionaaGreatDoor Go.Proofs.YtfabaenfglionaaGreatDoor.P Go.Proofs.YtfabaenfglionaaGreatDoor.Spec Go.Proofs.YtfabaenfglionaaGreatDoorW.PrintWords Go.Proofs.YtfabaenfglionaaGreatDoorW.PrintLast Go.Proofs.YtfabaenfglionaaGreatDoorW.PrintMore

def sumI : List S40 → Int
  | [] => 0
  | x :: l => 1 + (x.f1.length : Int) + sumI l
theorem sumI_pos : ∀ l, 0 ≤ sumI l
  | [] => Int.le_refl 0
  | x :: l => by
    have := sumI_pos l
    unfold sumI
    omega
def rnd : List S40 → Nat
  | [] => 1
  | x :: l => x.f1.length + 2 + rnd l
theorem rdI_nat {l : List S40} {i : Nat} (h : i < l.length) : rd_T40 l (i : Int) = l[i] := by
  unfold rd_T40
  rw [Int.toNat_natCast, List.getD_eq_getElem?_getD, List.getElem?_eq_getElem h]
  rfl
theorem big_l1 (l : List S40) (place n u f d : Int) (m : List Int) (i : Nat) (hi : i < l.length) (hb : l[i].f1.length ≤ 140737488351232) (hil : i ≤ 9223372036854775806) (K : Nat) : ∀ (k j : Nat), j ≤ l[i].f1.length → K + (l[i].f1.length - j) + 1 ≤ k →
    letterboxlaw19_big.l1 k l place n i j u f d m = some true ∨ ∃ k', K ≤ k' ∧ letterboxlaw19_big.l1 k l place n i j u f d m = letterboxlaw19_big.l0 k' l place n ((i + 1 : Nat) : Int) u f d m ∧ ∀ x ∈ l[i].f1.drop j, 0 ≤ x
  | 0, _, _, h => absurd h (by omega)
  | k + 1, j, hj, hk => by
    unfold letterboxlaw19_big.l1
    rw [if_pos (by omega), if_pos (by omega), rdI_nat hi]
    by_cases hlt : j < l[i].f1.length
    · have hr : rd l[i].f1 (j : Int) = l[i].f1[j] := by
        rw [rd_nat, List.getD_eq_getElem?_getD, List.getElem?_eq_getElem hlt]
        rfl
      rw [if_pos (by omega), if_pos (by omega), hr]
      by_cases hn : l[i].f1[j] < 0
      · rw [if_pos hn]
        exact .inl rfl
      · rw [if_neg hn, show wrap64 ((j : Int) + 1) = ((j + 1 : Nat) : Int) from w64 _ (by omega) (by omega)]
        rcases big_l1 l place n u f d m i hi hb hil K k (j + 1) (by omega) (by omega) with h | ⟨k', h1, h2, h3⟩
        · exact .inl h
        · refine .inr ⟨k', h1, h2, ?_⟩
          rw [List.drop_eq_getElem_cons hlt]
          intro x hx
          rcases List.mem_cons.1 hx with rfl | hx
          · omega
          · exact h3 x hx
    · rw [if_neg (by omega), show wrap64 ((i : Int) + 1) = ((i + 1 : Nat) : Int) by unfold wrap64; omega]
      refine .inr ⟨k, by omega, rfl, ?_⟩
      rw [List.drop_eq_nil_of_le (by omega)]
      intro x hx
      cases hx
theorem big_l0 (l : List S40) (hl : l.length ≤ 140737488351232) (hb : ∀ x ∈ l, x.f1.length ≤ 140737488351232) (place u f d : Int) (m : List Int) : ∀ (g k i : Nat) (n : Int), l.length - i ≤ g → i ≤ l.length → rnd (l.drop i) ≤ k → (l.length ≤ 20 → 0 ≤ n ∧ n + sumI (l.drop i) ≤ 4611686018427387904) →
    ∃ b, letterboxlaw19_big.l0 k l place n i u f d m = some b ∧ (b = false → (∀ x ∈ l.drop i, ∀ y ∈ x.f1, 0 ≤ y) ∧ l.length ≤ 20 ∧ n + sumI (l.drop i) ≤ 1500 ∧ 0 ≤ u ∧ 0 ≤ d ∧ 0 ≤ place) := by
  have stop : ∀ (k : Nat) (n : Int), 1 ≤ k → ∃ b, letterboxlaw19_big.l0 k l place n l.length u f d m = some b ∧ (b = false → (∀ x ∈ l.drop l.length, ∀ y ∈ x.f1, 0 ≤ y) ∧ l.length ≤ 20 ∧ n + sumI (l.drop l.length) ≤ 1500 ∧ 0 ≤ u ∧ 0 ≤ d ∧ 0 ≤ place) := by
    intro k n hk
    obtain ⟨k, rfl⟩ : ∃ j, k = j + 1 := ⟨k - 1, by omega⟩
    unfold letterboxlaw19_big.l0
    rw [if_neg (by omega), List.drop_length]
    by_cases h1 : n > 1500
    · rw [if_pos h1]; exact ⟨true, rfl, fun h => by cases h⟩
    rw [if_neg h1]
    by_cases h2 : (l.length : Int) > 20
    · rw [if_pos h2]; exact ⟨true, rfl, fun h => by cases h⟩
    rw [if_neg h2]
    by_cases h3 : u < 0
    · rw [if_pos h3]; exact ⟨true, rfl, fun h => by cases h⟩
    rw [if_neg h3]
    by_cases h4 : d < 0
    · rw [if_pos h4]; exact ⟨true, rfl, fun h => by cases h⟩
    rw [if_neg h4]
    refine ⟨_, rfl, fun h => ⟨fun x hx => by (cases hx), by omega, by unfold sumI; omega, by omega, by omega, ?_⟩⟩
    have := of_decide_eq_false h
    omega
  intro g
  induction g with
  | zero =>
    intro k i n hg hi hk hn
    obtain rfl : i = l.length := by omega
    exact stop k n (by rw [List.drop_length] at hk; exact hk)
  | succ g ih =>
    intro k i n hg hi hk hn
    by_cases hlt : i < l.length
    · have hd : l.drop i = l[i] :: l.drop (i + 1) := List.drop_eq_getElem_cons hlt
      rw [hd] at hk hn ⊢
      have hbi := hb _ (List.getElem_mem hlt)
      unfold rnd at hk
      unfold sumI at hn ⊢
      obtain ⟨k, rfl⟩ : ∃ j, k = j + 1 := ⟨k - 1, by omega⟩
      rw [letterboxlaw19_big.l0, if_pos (by omega), if_pos (by omega), rdI_nat hlt]
      generalize hn' : wrap64 (wrap64 (n + 1) + (l[i].f1.length : Int)) = n'
      have hp := sumI_pos (l.drop (i + 1))
      have hw : l.length ≤ 20 → n' = n + 1 + (l[i].f1.length : Int) := by
        intro h20
        have := hn h20
        rw [← hn', w64 (n + 1) (by omega) (by omega), w64 _ (by omega) (by omega)]
      rcases big_l1 l place n' u f d m i hlt hbi (by omega) (rnd (l.drop (i + 1))) k 0 (Nat.zero_le _) (by omega) with h | ⟨k', h1, h2, h3⟩
      · exact ⟨true, h, fun h => by cases h⟩
      · obtain ⟨b, e1, e2⟩ := ih k' (i + 1) n' (by omega) (by omega) h1 (fun h20 => by have := hn h20; have := hw h20; omega)
        refine ⟨b, h2.trans e1, fun hf => ?_⟩
        obtain ⟨q1, q2, q3, q4⟩ := e2 hf
        refine ⟨fun x hx => ?_, q2, by have := hw q2; omega, q4⟩
        rcases List.mem_cons.1 hx with rfl | hx
        · exact h3
        · exact q1 x hx
    · obtain rfl : i = l.length := by omega
      exact stop k n (by rw [List.drop_length] at hk; exact hk)
theorem known_up (j : Nat) : letterboxlaw19_known.f (j + 20) = some true := by kernel_rfl
theorem known_at (k : Nat) (h : 20 ≤ k) : letterboxlaw19_known.f k = some true := by
  obtain ⟨j, rfl⟩ : ∃ j, k = j + 20 := ⟨k - 20, by omega⟩
  exact known_up j
theorem i64_le {x : Int} (h : (Lit.int .i64 x).wf = true) : x ≤ 9223372036854775807 := by
  simp [Lit.wf, IntKind.min, IntKind.max, IntKind.signed, IntKind.bits] at h
  omega
end Go.Proofs.YtfabaenfglionaaGreatDoor.Pure
