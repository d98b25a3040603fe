/- What told answers: something, for each item that big lets in. -/
import Derived.Lib.ItoaLen
import Derived.Test.YtfabaenfglionaaGreatDoorUidParts
import Derived.Test.YtfabaenfglionaaGreatDoorPx119
namespace Go.Proofs.YtfabaenfglionaaGreatDoor.Pure
open Go.RowKit Go.Proofs.YtfabaenfglionaaGreatDoor Go.Proofs.YtfabaenfglionaaGreatDoor.P Go.Proofs.YtfabaenfglionaaGreatDoor.Spec Go.Proofs.YtfabaenfglionaaGreatDoorW.PrintWords Go.Proofs.YtfabaenfglionaaGreatDoorW.PrintLast Go.Proofs.YtfabaenfglionaaGreatDoorW.PrintMore

theorem Itoa_ex (n : Int) (h0 : -9223372036854775808 ≤ n) (h1 : n ≤ 9223372036854775807) : ∃ t, strconv_Itoa.f n = some t ∧ t.size ≤ 21 := by
  unfold strconv_Itoa.f
  rw [if_pos ⟨h0, h1⟩]
  refine ⟨_, rfl, ?_⟩
  have := Lib.itoa_length_le n h0 h1
  rw [Lib.size_eq]
  exact this
theorem lens_le (B : Nat) : ∀ r : List (List UInt8), (∀ x ∈ r, x.length ≤ B) → Lib.lens r ≤ B * r.length
  | [], _ => Nat.zero_le _
  | x :: r, h => by
    have h1 := lens_le B r (fun y hy => h y (List.mem_cons_of_mem _ hy))
    have h2 := h x List.mem_cons_self
    have e : Lib.lens (x :: r) = x.length + Lib.lens r := by simp [Lib.lens]
    rw [e, List.length_cons, Nat.mul_succ]
    omega
theorem Join_ex (l : List ByteArray) (s : ByteArray) (B : Nat) (hs : s.size = 1) (h : ∀ x ∈ l, x.size ≤ B) (hl : l.length ≤ 2000) (hB : B ≤ 100000) : ∃ t, strings_Join.f l s = some t ∧ t.size ≤ (B + 1) * l.length := by
  have hlen : (Lib.join (l.map (·.data.toList)) s.data.toList).length ≤ (B + 1) * l.length := by
    cases l with
    | nil => exact Nat.zero_le _
    | cons x r =>
      have hs1 : s.data.toList.length = 1 := by rw [← Lib.size_eq]; exact hs
      have h1 := lens_le B ((x :: r).map (·.data.toList)) (by
        intro y hy
        obtain ⟨z, hz, rfl⟩ := List.mem_map.1 hy
        have := h z hz
        rw [Lib.size_eq] at this
        exact this)
      rw [List.length_map] at h1
      rw [List.map_cons] at h1 ⊢
      rw [Lib.join_length, hs1, List.length_map, List.length_cons, show (B + 1) * (r.length + 1) = B * (r.length + 1) + (r.length + 1) from Nat.succ_mul _ _]
      rw [List.length_cons] at h1
      omega
  have hm : (B + 1) * l.length ≤ 100001 * 2000 := Nat.mul_le_mul (by omega) hl
  unfold strings_Join.f
  rw [if_pos ⟨by omega, by omega⟩]
  refine ⟨_, rfl, ?_⟩
  rw [Lib.size_eq]
  exact hlen
theorem nums_size (t : List Int) : (strOfNums t).size = t.length := by simp [strOfNums, ByteArray.size]
theorem Literal_ex (l : List Int) (hl : l.length ≤ 100000) : ∃ t, show_Literal.f l = some t ∧ t.size ≤ l.length + 30 := by
  obtain ⟨n, hn, hs⟩ := Itoa_ex (l.length : Int) (by omega) (by omega)
  have h1 := nums_size l
  unfold show_Literal.f
  rw [hn, Option.bind_some, if_pos (by omega), if_pos (by omega), if_pos (by omega), if_pos (by omega)]
  refine ⟨_, rfl, ?_⟩
  simp only [ByteArray.size_append, h1]
  have e1 : (⟨#[123]⟩ : ByteArray).size = 1 := rfl
  have e2 : (⟨#[125]⟩ : ByteArray).size = 1 := rfl
  have e3 : (⟨#[13, 10]⟩ : ByteArray).size = 2 := rfl
  omega
theorem mark_l0 (x0 : Int) (x6 : List ByteArray) (h6 : ∀ x ∈ x6, x.size ≤ 10) (hl : x6.length ≤ 5) : ∀ (k i : Nat) (x3 : List ByteArray), i ≤ x6.length → x6.length - i < k → x3.length ≤ i → (∀ x ∈ x3, x.size ≤ 10) → ∃ t, mark_Print.l0 k x0 x3 x6 x6.length i = some t ∧ t.size ≤ 60
  | 0, _, _, _, h, _, _ => absurd h (by omega)
  | k + 1, i, x3, hi, hk, h3, hx => by
    unfold mark_Print.l0
    by_cases hlt : i < x6.length
    · have hw : wrap64 ((i : Int) + 1) = ((i + 1 : Nat) : Int) := w64 _ (by omega) (by omega)
      rw [if_pos (by omega), if_pos (by omega), if_pos (by omega), hw]
      split
      · rw [if_pos (by omega)]
        refine mark_l0 x0 x6 h6 hl k (i + 1) _ (by omega) (by omega) (by rw [List.length_append, List.length_singleton]; omega) ?_
        intro x hm
        rcases List.mem_append.1 hm with hm | hm
        · exact hx x hm
        · obtain rfl := List.mem_singleton.1 hm
          rw [rdOf_nat]
          exact getD_B h6 i hlt
      · exact mark_l0 x0 x6 h6 hl k (i + 1) x3 (by omega) (by omega) (by omega) hx
    · rw [if_neg (by omega)]
      obtain ⟨t, ht, hs⟩ := Join_ex x3 (⟨#[32]⟩ : ByteArray) 10 rfl hx (by omega) (by omega)
      have hs2 : t.size ≤ 55 := Nat.le_trans hs (Nat.le_trans (Nat.mul_le_mul_left _ (show x3.length ≤ 5 by omega)) (by decide))
      rw [ht, Option.bind_some, if_pos (by omega), if_pos (by omega)]
      refine ⟨_, rfl, ?_⟩
      simp only [ByteArray.size_append]
      have e1 : (⟨#[40]⟩ : ByteArray).size = 1 := rfl
      have e2 : (⟨#[41]⟩ : ByteArray).size = 1 := rfl
      omega
theorem mark_ex (k : Nat) (x : Int) (hk : 6 ≤ k) : ∃ t, mark_Print.f k x = some t ∧ t.size ≤ 60 := by
  unfold mark_Print.f
  rw [show mark_names.f = some _ from rfl, Option.bind_some]
  refine mark_l0 x _ ?_ (by decide) k 0 [] (Nat.zero_le _) (Nat.lt_of_lt_of_le (by decide) hk) (Nat.le_refl _) (fun _ h => by cases h)
  intro x hm
  simp only [List.mem_cons, List.not_mem_nil, or_false] at hm
  rcases hm with rfl | rfl | rfl | rfl | rfl <;> decide
theorem Head_ex (k : Nat) (l : List Int) (hb : Byt l) (hl : l.length ≤ 50000) (hk : l.length + 1 < k) : ∃ h, head_Head.f k l = some h ∧ h.length ≤ l.length := by
  have h1 := hend_le l
  unfold head_Head.f bytes_Clone.f
  rw [end_eq k l hb (by omega) hk, Option.bind_some, if_pos (by omega), if_pos (by omega), Int.toNat_natCast, if_pos (by rw [List.length_take]; omega)]
  exact ⟨_, rfl, by rw [List.length_take]; omega⟩
theorem Body_ex (k : Nat) (l : List Int) (hb : Byt l) (hl : l.length ≤ 50000) (hk : l.length + 1 < k) : ∃ h, head_Body.f k l = some h ∧ h.length ≤ l.length :=
  ⟨_, UBody_eq k l hb hl hk, by rw [List.length_drop]; omega⟩
theorem Section_l0 (x1 : List Int) (h4 : x1.length ≤ 4) (N : Nat) (hN : N ≤ 20000) : ∀ (n k i : Nat) (b : List Int), i + n = x1.length → Byt b → b.length ≤ N → 8 * N + 24 + 2 * n < k → ∃ r, mime_Section.l0 k b x1 x1 x1.length i = some r ∧ r.1.length ≤ N
  | n, 0, _, _, _, _, _, h => absurd h (by omega)
  | n, 1, _, _, _, _, _, h => absurd h (by omega)
  | n, k + 2, i, b, hi, hb, hl, hk => by
    unfold mime_Section.l0
    by_cases hlt : i < x1.length
    · obtain ⟨n, rfl⟩ : ∃ m, n = m + 1 := ⟨n - 1, by omega⟩
      obtain ⟨ps, hP, hc, hps⟩ := Parts_ex (k + 1) b hb (by omega) (by omega)
      rw [if_pos (by omega), if_pos (by omega), if_pos (by omega), hP, Option.bind_some]
      have step : ∀ v : Bool, ∃ r, mime_Section.j1 (k + 1) b x1 (rd x1 i) ps x1 x1.length i v = some r ∧ r.1.length ≤ N := by
        intro v
        unfold mime_Section.j1
        cases v with
        | true =>
          obtain ⟨h, hh, hhl⟩ := Body_ex k b hb (by omega) (by omega)
          rw [if_pos rfl, hh, Option.bind_some]
          exact ⟨_, rfl, by show h.length ≤ N; omega⟩
        | false =>
          rw [if_neg (by decide)]
          generalize rd x1 i = q
          by_cases h1 : q < 1
          · rw [if_pos h1]
            exact ⟨_, rfl, Nat.zero_le _⟩
          · rw [if_neg h1]
            by_cases h2 : q > (ps.length : Int)
            · rw [if_pos h2]
              exact ⟨_, rfl, Nat.zero_le _⟩
            · obtain ⟨p, rfl⟩ : ∃ p : Nat, q = ((p + 1 : Nat) : Int) := ⟨(q - 1).toNat, by omega⟩
              have hw : wrap64 (((p + 1 : Nat) : Int) - 1) = (p : Int) := by rw [w64 _ (by omega) (by omega)]; omega
              have hp : p < ps.length := by omega
              obtain ⟨a, e, ha, he, hae, hel⟩ := hc.mem (getD_P hp)
              have hlen : ((b.take e).drop a).length ≤ N := by
                rw [List.length_drop, List.length_take]
                omega
              have hw2 : wrap64 ((i : Int) + 1) = ((i + 1 : Nat) : Int) := w64 _ (by omega) (by omega)
              rw [if_neg h2, hw, if_pos (by omega), if_pos (by omega), rd_TP_nat, ha, he, if_pos (by omega), if_pos (by omega), if_pos (by omega), Int.toNat_natCast, Int.toNat_natCast, hw2]
              exact Section_l0 x1 h4 N hN n k (i + 1) _ (by omega) ((hb.take e).drop a) hlen (by omega)
      split
      · split
        · exact step _
        · exact step _
      · exact step _
    · rw [if_neg (by omega)]
      unfold bytes_Clone.f
      rw [if_pos (by omega), Option.bind_some]
      exact ⟨_, rfl, hl⟩
theorem Section_ex (k : Nat) (b path : List Int) (hb : Byt b) (hl : b.length ≤ 20000) (hk : 8 * b.length + 40 ≤ k) : ∃ r, mime_Section.f k b path = some r ∧ r.1.length ≤ b.length := by
  unfold mime_Section.f
  by_cases h4 : (path.length : Int) > 4
  · rw [if_pos h4]
    exact ⟨_, rfl, Nat.zero_le _⟩
  · rw [if_neg h4]
    exact Section_l0 path (by omega) b.length hl path.length k 0 b (by omega) hb (Nat.le_refl _) (by omega)
theorem told_l0 (u f d kind : Int) (m : List Int) (hm : Byt m) (hml : m.length ≤ 1500) (path : List Int) (hp : ∀ x ∈ path, 0 ≤ x ∧ x ≤ 9223372036854775807) (hpl : path.length ≤ 1500) : ∀ (k i : Nat) (x5 : List ByteArray), i ≤ path.length → path.length - i + 12050 ≤ k → x5.length = i → (∀ x ∈ x5, x.size ≤ 21) → ∃ t, show_told.l0 k x5 path path.length i kind path u f d m = some t ∧ t.size ≤ 40000
  | 0, _, _, _, h, _, _ => absurd h (by omega)
  | k + 1, i, x5, hi, hk, h5, hx => by
    unfold show_told.l0
    by_cases hlt : i < path.length
    · have hw : wrap64 ((i : Int) + 1) = ((i + 1 : Nat) : Int) := w64 _ (by omega) (by omega)
      have hr : rd path (i : Int) ∈ path := by
        rw [rd_nat, List.getD_eq_getElem?_getD, List.getElem?_eq_getElem hlt]
        exact List.getElem_mem hlt
      obtain ⟨t, ht, hs⟩ := Itoa_ex (rd path (i : Int)) (by have := hp _ hr; omega) (hp _ hr).2
      rw [if_pos (by omega), if_pos (by omega), if_pos (by omega), ht, Option.bind_some, if_pos (by omega), hw]
      refine told_l0 u f d kind m hm hml path hp hpl k (i + 1) _ (by omega) (by omega) (by rw [List.length_append, List.length_singleton, h5]) ?_
      intro x hmm
      rcases List.mem_append.1 hmm with hmm | hmm
      · exact hx x hmm
      · obtain rfl := List.mem_singleton.1 hmm
        exact hs
    · rw [if_neg (by omega)]
      obtain ⟨r, hr, hrl⟩ := Section_ex k m path hm (by omega) (by omega)
      obtain ⟨t, ht, hs⟩ := Join_ex x5 (⟨#[46]⟩ : ByteArray) 21 rfl hx (by omega) (by omega)
      have hs2 : t.size ≤ 33000 := Nat.le_trans hs (Nat.le_trans (Nat.mul_le_mul_left _ (show x5.length ≤ 1500 by omega)) (by decide))
      have e1 : (⟨#[66, 79, 68, 89, 91]⟩ : ByteArray).size = 5 := rfl
      have e2 : (⟨#[93, 32]⟩ : ByteArray).size = 2 := rfl
      have e3 : (⟨#[78, 73, 76]⟩ : ByteArray).size = 3 := rfl
      rw [hr, Option.bind_some]
      split
      · obtain ⟨y, hy, hys⟩ := Literal_ex r.1 (by omega)
        rw [hy, Option.bind_some, ht, Option.bind_some, if_pos (by omega), if_pos (by omega), if_pos (by omega)]
        refine ⟨_, rfl, ?_⟩
        simp only [ByteArray.size_append]
        omega
      · rw [ht, Option.bind_some, if_pos (by omega), if_pos (by omega), if_pos (by omega)]
        refine ⟨_, rfl, ?_⟩
        simp only [ByteArray.size_append]
        omega
def Ok (x : S40) : Prop := x.f1.length ≤ 1500 ∧ ∀ n ∈ x.f1, 0 ≤ n ∧ n ≤ 9223372036854775807
theorem told_ex (k : Nat) (x : S40) (u f d : Int) (m : List Int) (hx : Ok x) (hu : 0 ≤ u ∧ u ≤ 9223372036854775807) (hd : 0 ≤ d ∧ d ≤ 9223372036854775807) (hm : Byt m) (hml : m.length ≤ 1500) (hk : 14000 ≤ k) : ∃ t, show_told.f k x.f0 x.f1 u f d m = some t ∧ t.size ≤ 40000 := by
  have c1 : (⟨#[70, 76, 65, 71, 83, 32]⟩ : ByteArray).size = 6 := rfl
  have c2 : (⟨#[85, 73, 68, 32]⟩ : ByteArray).size = 4 := rfl
  have c3 : (⟨#[73, 78, 84, 69, 82, 78, 65, 76, 68, 65, 84, 69, 32]⟩ : ByteArray).size = 13 := rfl
  have c4 : (⟨#[82, 70, 67, 56, 50, 50, 46, 83, 73, 90, 69, 32]⟩ : ByteArray).size = 12 := rfl
  have c6 : (⟨#[66, 79, 68, 89, 91, 72, 69, 65, 68, 69, 82, 93, 32]⟩ : ByteArray).size = 13 := rfl
  have c7 : (⟨#[66, 79, 68, 89, 91, 84, 69, 88, 84, 93, 32]⟩ : ByteArray).size = 11 := rfl
  unfold show_told.f
  by_cases h1 : x.f0 = 1
  · obtain ⟨t, ht, hs⟩ := mark_ex k f (by omega)
    rw [if_pos h1, ht, Option.bind_some, if_pos (by omega)]
    exact ⟨_, rfl, by rw [ByteArray.size_append]; omega⟩
  rw [if_neg h1]
  by_cases h2 : x.f0 = 2
  · obtain ⟨t, ht, hs⟩ := Itoa_ex u (by omega) (by omega)
    rw [if_pos h2, ht, Option.bind_some, if_pos (by omega)]
    exact ⟨_, rfl, by rw [ByteArray.size_append]; omega⟩
  rw [if_neg h2]
  by_cases h3 : x.f0 = 3
  · obtain ⟨t, ht, hs⟩ := Itoa_ex d (by omega) (by omega)
    rw [if_pos h3, ht, Option.bind_some, if_pos (by omega)]
    exact ⟨_, rfl, by rw [ByteArray.size_append]; omega⟩
  rw [if_neg h3]
  by_cases h4 : x.f0 = 4
  · obtain ⟨t, ht, hs⟩ := Itoa_ex (m.length : Int) (by omega) (by omega)
    rw [if_pos h4, ht, Option.bind_some, if_pos (by omega)]
    exact ⟨_, rfl, by rw [ByteArray.size_append]; omega⟩
  rw [if_neg h4]
  by_cases h6 : x.f0 = 6
  · obtain ⟨h, hh, hl⟩ := Head_ex k m hm (by omega) (by omega)
    obtain ⟨t, ht, hs⟩ := Literal_ex h (by omega)
    rw [if_pos h6, hh, Option.bind_some, ht, Option.bind_some, if_pos (by omega)]
    exact ⟨_, rfl, by rw [ByteArray.size_append]; omega⟩
  rw [if_neg h6]
  by_cases h7 : x.f0 = 7
  · obtain ⟨h, hh, hl⟩ := Body_ex k m hm (by omega) (by omega)
    obtain ⟨t, ht, hs⟩ := Literal_ex h (by omega)
    rw [if_pos h7, hh, Option.bind_some, ht, Option.bind_some, if_pos (by omega)]
    exact ⟨_, rfl, by rw [ByteArray.size_append]; omega⟩
  rw [if_neg h7]
  have hl := hx.1
  exact told_l0 u f d x.f0 m hm hml x.f1 hx.2 hl k 0 [] (Nat.zero_le _) (by omega) rfl (fun _ h => by cases h)
end Go.Proofs.YtfabaenfglionaaGreatDoor.Pure
