/- ShowUIDs, the plain part: what it computes is true of any items, message and place. -/
import Derived.Test.YtfabaenfglionaaGreatDoorUidShowL
import Derived.Test.YtfabaenfglionaaGreatDoorPx104
namespace Go.Proofs.YtfabaenfglionaaGreatDoor.Pure
open Go.RowKit Go.Proofs.YtfabaenfglionaaGreatDoor Go.Proofs.YtfabaenfglionaaGreatDoor.P Go.Proofs.YtfabaenfglionaaGreatDoor.Spec Go.Proofs.YtfabaenfglionaaGreatDoorW.PrintWords Go.Proofs.YtfabaenfglionaaGreatDoorW.PrintLast Go.Proofs.YtfabaenfglionaaGreatDoorW.PrintMore

def sumI : List S40 → Int
  | [] => 0
  | x :: l => 1 + (x.f1.length : Int) + sumI l
theorem sumI_pos : ∀ l, 0 ≤ sumI l
  | [] => Int.le_refl 0
  | x :: l => by
    have := sumI_pos l
    unfold sumI
    omega
theorem sumI_mem {B : Int} : ∀ {l : List S40}, sumI l ≤ B → ∀ x ∈ l, (x.f1.length : Int) ≤ B
  | y :: l, h, x, hx => by
    have h1 := sumI_pos l
    unfold sumI at h
    rcases List.mem_cons.1 hx with rfl | hx
    · omega
    · exact sumI_mem (B := B) (by omega) x hx
theorem sumI_le : ∀ l : List S40, (∀ x ∈ l, x.f1.length ≤ 140737488351232) → sumI l ≤ 140737488351233 * (l.length : Int)
  | [], _ => by unfold sumI; simp
  | x :: l, h => by
    have h1 := sumI_le l (fun y hy => h y (List.mem_cons_of_mem _ hy))
    have h2 := h x List.mem_cons_self
    unfold sumI
    rw [List.length_cons]
    omega
def rnd : List S40 → Nat
  | [] => 1
  | x :: l => x.f1.length + 2 + rnd l
theorem rdI_nat {l : List S40} {i : Nat} (h : i < l.length) : rd_T40 l (i : Int) = l[i] := by
  unfold rd_T40
  rw [Int.toNat_natCast, List.getD_eq_getElem?_getD, List.getElem?_eq_getElem h]
  rfl
theorem big_l1 (l : List S40) (place n u f d : Int) (m : List Int) (i : Nat) (hi : i < l.length) (hb : l[i].f1.length ≤ 140737488351232) (hil : i ≤ 9223372036854775806) (K : Nat) : ∀ (k j : Nat), j ≤ l[i].f1.length → K + (l[i].f1.length - j) + 1 ≤ k →
    letterboxlaw19_big.l1 k l place n i j u f d m = some true ∨ ∃ k', K ≤ k' ∧ letterboxlaw19_big.l1 k l place n i j u f d m = letterboxlaw19_big.l0 k' l place n ((i + 1 : Nat) : Int) u f d m ∧ ∀ x ∈ l[i].f1.drop j, 0 ≤ x
  | 0, _, _, h => absurd h (by omega)
  | k + 1, j, hj, hk => by
    unfold letterboxlaw19_big.l1
    rw [if_pos (by omega), if_pos (by omega), rdI_nat hi]
    by_cases hlt : j < l[i].f1.length
    · have hr : rd l[i].f1 (j : Int) = l[i].f1[j] := by
        rw [rd_nat, List.getD_eq_getElem?_getD, List.getElem?_eq_getElem hlt]
        rfl
      rw [if_pos (by omega), if_pos (by omega), hr]
      by_cases hn : l[i].f1[j] < 0
      · rw [if_pos hn]
        exact .inl rfl
      · rw [if_neg hn, show wrap64 ((j : Int) + 1) = ((j + 1 : Nat) : Int) from w64 _ (by omega) (by omega)]
        rcases big_l1 l place n u f d m i hi hb hil K k (j + 1) (by omega) (by omega) with h | ⟨k', h1, h2, h3⟩
        · exact .inl h
        · refine .inr ⟨k', h1, h2, ?_⟩
          rw [List.drop_eq_getElem_cons hlt]
          intro x hx
          rcases List.mem_cons.1 hx with rfl | hx
          · omega
          · exact h3 x hx
    · rw [if_neg (by omega), show wrap64 ((i : Int) + 1) = ((i + 1 : Nat) : Int) by unfold wrap64; omega]
      refine .inr ⟨k, by omega, rfl, ?_⟩
      rw [List.drop_eq_nil_of_le (by omega)]
      intro x hx
      cases hx
theorem big_l0 (l : List S40) (hl : l.length ≤ 140737488351232) (hb : ∀ x ∈ l, x.f1.length ≤ 140737488351232) (place u f d : Int) (m : List Int) : ∀ (g k i : Nat) (n : Int), l.length - i ≤ g → i ≤ l.length → rnd (l.drop i) ≤ k → (l.length ≤ 20 → 0 ≤ n ∧ n + sumI (l.drop i) ≤ 4611686018427387904) →
    ∃ b, letterboxlaw19_big.l0 k l place n i u f d m = some b ∧ (b = false → (∀ x ∈ l.drop i, ∀ y ∈ x.f1, 0 ≤ y) ∧ l.length ≤ 20 ∧ n + sumI (l.drop i) ≤ 1500 ∧ 0 ≤ u ∧ 0 ≤ d ∧ 0 ≤ place) := by
  have stop : ∀ (k : Nat) (n : Int), 1 ≤ k → ∃ b, letterboxlaw19_big.l0 k l place n l.length u f d m = some b ∧ (b = false → (∀ x ∈ l.drop l.length, ∀ y ∈ x.f1, 0 ≤ y) ∧ l.length ≤ 20 ∧ n + sumI (l.drop l.length) ≤ 1500 ∧ 0 ≤ u ∧ 0 ≤ d ∧ 0 ≤ place) := by
    intro k n hk
    obtain ⟨k, rfl⟩ : ∃ j, k = j + 1 := ⟨k - 1, by omega⟩
    unfold letterboxlaw19_big.l0
    rw [if_neg (by omega), List.drop_length]
    by_cases h1 : n > 1500
    · rw [if_pos h1]; exact ⟨true, rfl, fun h => by cases h⟩
    rw [if_neg h1]
    by_cases h2 : (l.length : Int) > 20
    · rw [if_pos h2]; exact ⟨true, rfl, fun h => by cases h⟩
    rw [if_neg h2]
    by_cases h3 : u < 0
    · rw [if_pos h3]; exact ⟨true, rfl, fun h => by cases h⟩
    rw [if_neg h3]
    by_cases h4 : d < 0
    · rw [if_pos h4]; exact ⟨true, rfl, fun h => by cases h⟩
    rw [if_neg h4]
    refine ⟨_, rfl, fun h => ⟨fun x hx => by (cases hx), by omega, by unfold sumI; omega, by omega, by omega, ?_⟩⟩
    have := of_decide_eq_false h
    omega
  intro g
  induction g with
  | zero =>
    intro k i n hg hi hk hn
    obtain rfl : i = l.length := by omega
    exact stop k n (by rw [List.drop_length] at hk; exact hk)
  | succ g ih =>
    intro k i n hg hi hk hn
    by_cases hlt : i < l.length
    · have hd : l.drop i = l[i] :: l.drop (i + 1) := List.drop_eq_getElem_cons hlt
      rw [hd] at hk hn ⊢
      have hbi := hb _ (List.getElem_mem hlt)
      unfold rnd at hk
      unfold sumI at hn ⊢
      obtain ⟨k, rfl⟩ : ∃ j, k = j + 1 := ⟨k - 1, by omega⟩
      rw [letterboxlaw19_big.l0, if_pos (by omega), if_pos (by omega), rdI_nat hlt]
      generalize hn' : wrap64 (wrap64 (n + 1) + (l[i].f1.length : Int)) = n'
      have hp := sumI_pos (l.drop (i + 1))
      have hw : l.length ≤ 20 → n' = n + 1 + (l[i].f1.length : Int) := by
        intro h20
        have := hn h20
        rw [← hn', w64 (n + 1) (by omega) (by omega), w64 _ (by omega) (by omega)]
      rcases big_l1 l place n' u f d m i hlt hbi (by omega) (rnd (l.drop (i + 1))) k 0 (Nat.zero_le _) (by omega) with h | ⟨k', h1, h2, h3⟩
      · exact ⟨true, h, fun h => by cases h⟩
      · obtain ⟨b, e1, e2⟩ := ih k' (i + 1) n' (by omega) (by omega) h1 (fun h20 => by have := hn h20; have := hw h20; omega)
        refine ⟨b, h2.trans e1, fun hf => ?_⟩
        obtain ⟨q1, q2, q3, q4⟩ := e2 hf
        refine ⟨fun x hx => ?_, q2, by have := hw q2; omega, q4⟩
        rcases List.mem_cons.1 hx with rfl | hx
        · exact h3
        · exact q1 x hx
    · obtain rfl : i = l.length := by omega
      exact stop k n (by rw [List.drop_length] at hk; exact hk)
theorem known_small : letterboxlaw19_known.f 20 = some true := by kernel_rfl
theorem known_up : ∀ k, letterboxlaw19_known.f (20 + k) = some true
  | 0 => known_small
  | k + 1 => letterboxlaw19_known.mono (20 + k) true (known_up k)
theorem known_at (k : Nat) (h : 20 ≤ k) : letterboxlaw19_known.f k = some true := by
  obtain ⟨j, rfl⟩ : ∃ j, k = 20 + j := ⟨k - 20, by omega⟩
  exact known_up j
theorem UIDs_l0 {u d : Int} {m : List Int} (f : Int) (hM : Msg u d m) (x2 : Int) (h0 : 0 ≤ x2) (h1 : x2 ≤ 9223372036854775807) (l : List S40) (hl : l.length ≤ 20) (hok : ∀ x ∈ l, Ok x) : ∀ (k i : Nat) (asked : Bool) (rest : List S40), i ≤ l.length → 14200 + (l.length - i) ≤ k → rest.length ≤ i → (∀ x ∈ rest, Ok x) → rest.any (fun x => x.f0 == 2) = false → (asked = true → l.any (fun x => x.f0 == 2) = true) →
    letterboxlaw19_ShowUIDs.l0 k l x2 asked rest i u f d m = some true
  | 0, _, _, _, _, h, _, _, _, _ => absurd h (by omega)
  | k + 1, i, asked, rest, hi, hk, hr, hrok, hr2, ha => by
    have hw : wrap64 ((i : Int) + 1) = ((i + 1 : Nat) : Int) := w64 _ (by omega) (by omega)
    unfold letterboxlaw19_ShowUIDs.l0
    by_cases hlt : i < l.length
    · have hm := List.getElem_mem hlt
      rw [if_pos (by omega), if_pos (by omega), rdI_nat hlt, hw]
      by_cases h2 : l[i].f0 = 2
      · rw [if_pos h2]
        exact UIDs_l0 f hM x2 h0 h1 l hl hok k (i + 1) true rest (by omega) (by omega) (by omega) hrok hr2 (fun _ => List.any_eq_true.2 ⟨_, hm, beq_iff_eq.2 h2⟩)
      · rw [if_neg h2, if_pos (by omega)]
        refine UIDs_l0 f hM x2 h0 h1 l hl hok k (i + 1) asked _ (by omega) (by omega) (by rw [List.length_append, List.length_singleton]; omega) ?_ ?_ ha
        · intro x hx
          rcases List.mem_append.1 hx with hx | hx
          · exact hrok x hx
          · obtain rfl := List.mem_singleton.1 hx
            exact hok _ hm
        · rw [List.any_append, hr2, Bool.false_or, List.any_cons, List.any_nil, Bool.or_false]
          exact beq_eq_false_iff_ne.2 h2
    · have ok2 : Ok (⟨2, []⟩ : S40) := ⟨Nat.zero_le _, fun n h => by cases h⟩
      have okc : ∀ x ∈ ([⟨2, []⟩] ++ rest : List S40), Ok x := by
        intro x hx
        rcases List.mem_append.1 hx with hx | hx
        · obtain rfl := List.mem_singleton.1 hx
          exact ok2
        · exact hrok x hx
      have small : ∀ {r : List S40}, (∀ x ∈ r, Ok x) → ∀ t ∈ r.map (TT u f d m), t.size ≤ 40000 := by
        intro r h t ht
        obtain ⟨x, hx, rfl⟩ := List.mem_map.1 ht
        exact (TT_ok f hM (h x hx) (Nat.le_refl 14000)).2
      have hlc : ([⟨2, []⟩] ++ rest : List S40).length = rest.length + 1 := by simp
      obtain ⟨t, ht⟩ := shown_ex x2 h0 h1 (([⟨2, []⟩] ++ rest : List S40).map (TT u f d m)) (by rw [List.length_map]; omega) (small okc)
      obtain ⟨s, hs⟩ := shown_ex x2 h0 h1 (l.map (TT u f d m)) (by rw [List.length_map]; omega) (small hok)
      have e1 : show_Show.f k rest u f d m x2 true = some t := by
        rw [Show_eq f hM x2 rest (by omega) hrok k (by omega) true, hr2, if_pos (by decide), ← ht, List.map_append]
        rfl
      have e2 : show_Show.f k ([⟨2, []⟩] ++ rest) u f d m x2 false = some t := by
        rw [Show_eq f hM x2 _ (by omega) okc k (by omega) false, if_neg (by simp), ← ht, List.nil_append]
      rw [if_neg (by omega), e1, Option.bind_some, Option.bind_some, if_pos (by simp; omega), e2, Option.bind_some, if_pos rfl]
      by_cases hA : asked = true
      · have e3 : show_Show.f k l u f d m x2 true = some s := by
          rw [Show_eq f hM x2 l (by omega) hok k (by omega) true, ha hA, if_neg (by decide), ← hs, List.nil_append]
        have e4 : show_Show.f k l u f d m x2 false = some s := by
          rw [Show_eq f hM x2 l (by omega) hok k (by omega) false, if_neg (by simp), ← hs, List.nil_append]
        rw [if_pos hA, e3, Option.bind_some, e4, Option.bind_some, if_pos rfl, known_at k (by omega)]
        rfl
      · rw [if_neg hA, known_at k (by omega)]
        rfl
theorem i64_le {x : Int} (h : (Lit.int .i64 x).wf = true) : x ≤ 9223372036854775807 := by
  simp [Lit.wf, IntKind.min, IntKind.max, IntKind.signed, IntKind.bits] at h
  omega
theorem ShowUIDs (l : List S40) (u f d : Int) (m : List Int) (x2 : Int) (hl : l.length ≤ 140737488351232 ∧ ∀ x ∈ l, x.f1.length ≤ 140737488351232 ∧ ∀ n ∈ x.f1, (Lit.int .i64 n).wf = true)
    (hm : m.length ≤ 140737488351232 ∧ (∀ n ∈ m, (Lit.int .u8 n).wf = true) ∧ (Lit.int .i64 u).wf = true ∧ (Lit.int .i64 d).wf = true) (hx : (Lit.int .i64 x2).wf = true) :
    ∃ k, letterboxlaw19_ShowUIDs.f k l u f d m x2 = some true := by
  have h20 := sumI_le l (fun x hx => (hl.2 x hx).1)
  have hp := sumI_pos l
  obtain ⟨b, hb, hf⟩ := big_l0 l hl.1 (fun x hx => (hl.2 x hx).1) x2 u f d m l.length (rnd l + 15000) 0 (m.length : Int) (by omega) (Nat.zero_le _) (by rw [List.drop_zero]; omega) (fun h => by rw [List.drop_zero]; have := hm.1; omega)
  rw [List.drop_zero] at hf
  refine ⟨rnd l + 15000, ?_⟩
  unfold letterboxlaw19_ShowUIDs.f letterboxlaw19_big.f
  have hb' : letterboxlaw19_big.l0 (rnd l + 15000) l x2 (m.length : Int) 0 u f d m = some b := hb
  rw [hb', Option.bind_some]
  by_cases hbt : b = true
  · rw [if_pos hbt]
  · rw [if_neg hbt]
    obtain ⟨q1, q2, q3, q4, q5, q6⟩ := hf (by simpa using hbt)
    have hM : Msg u d m := ⟨⟨q4, i64_le hm.2.2.1⟩, ⟨q5, i64_le hm.2.2.2⟩, Byt.of hm.2.1, by omega⟩
    have hok : ∀ x ∈ l, Ok x := fun x hx' => ⟨by have := sumI_mem (B := 1500) (by omega) x hx'; omega, fun n hn => ⟨q1 x hx' n hn, i64_le ((hl.2 x hx').2 n hn)⟩⟩
    exact UIDs_l0 f hM x2 q6 (i64_le hx) l q2 hok (rnd l + 15000) 0 false [] (Nat.zero_le _) (by omega) (Nat.le_refl _) (fun x h => by cases h) rfl (fun h => by cases h)
end Go.Proofs.YtfabaenfglionaaGreatDoor.Pure
