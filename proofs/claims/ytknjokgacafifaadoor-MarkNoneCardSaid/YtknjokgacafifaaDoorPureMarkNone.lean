/- MarkNone over numbers, texts and lists alone. -/
import Derived.Test.YtknjokgacafifaaDoorMarkImpl
import Derived.Test.YtknjokgacafifaaDoorPx105
namespace Go.Proofs.YtknjokgacafifaaDoor.Pure
open Go.RowKit Go.Proofs.YtknjokgacafifaaDoor Go.Proofs.YtknjokgacafifaaDoor.P Go.Proofs.YtknjokgacafifaaDoor.Spec Go.Proofs.YtknjokgacafifaaDoorW.PrintWords Go.Proofs.YtknjokgacafifaaDoorW.PrintLast Go.Proofs.YtknjokgacafifaaDoorW.PrintMore

theorem MarkNone_l0 (L : List ByteArray) (a : Int) (bad : ByteArray) (hl : L.length ≤ 20) (hb : bad.size ≤ 40) (hf : flagOf bad = 0) : ∀ (m i k : Nat), i + m = L.length → (∀ j, j < i → ∀ s, L[j]? = some s → s.size ≤ 40) → m + 100 ≤ k → letterboxlaw11_MarkNone.l0 k L a bad i = some true
  | 0, i, k, hi, hs, hk => by
    obtain ⟨k, rfl⟩ : ∃ m, k = m + 1 := ⟨k - 1, by omega⟩
    have hw : wrap64 ((L.length : Int) + 1) = (L.length : Int) + 1 := w64 _ (by omega) (by omega)
    have hsz : ∀ s ∈ L, s.size < 4294967281 := by
      intro s h
      obtain ⟨j, hj, rfl⟩ := List.mem_iff_getElem.1 h
      have := hs j (by omega) _ (List.getElem?_eq_getElem hj)
      omega
    have hm0 := Int.tmod_eq_emod_of_nonneg (a := a % 65536) (b := (L.length : Int) + 1) (by omega)
    obtain ⟨q, hq⟩ : ∃ q : Nat, (a % 65536) % ((L.length : Int) + 1) = (q : Int) := ⟨((a % 65536) % ((L.length : Int) + 1)).toNat, by have := Int.emod_nonneg (a % 65536) (b := (L.length : Int) + 1) (by omega); omega⟩
    have hql : q ≤ L.length := by have := Int.emod_lt_of_pos (a % 65536) (b := (L.length : Int) + 1) (by omega); omega
    have ht : (L.take q).length = q := by rw [List.length_take]; omega
    have hd : (L.drop q).length = L.length - q := List.length_drop
    have hP : mark_Parse.f k (L.take q ++ [bad] ++ L.drop q) = some (0, 3) := by
      rw [UParse_eq k _ ?_ (by simp only [List.length_append, ht, hd, List.length_singleton]; omega) (by simp only [List.length_append, ht, hd, List.length_singleton]; omega), parse_bad _ _ ⟨bad, by simp, hf⟩]
      intro s h
      simp only [List.mem_append, List.mem_singleton] at h
      rcases h with (h | h) | h
      · exact hsz s (List.mem_of_mem_take h)
      · rw [h]; omega
      · exact hsz s (List.mem_of_mem_drop h)
    have hE : mark_Parse.f k [] = some (0, 0) := UParse_eq k [] (fun s h => by cases h) (by simp) (by simp; omega)
    rw [letterboxlaw11_MarkNone.l0, if_neg (by omega), hw, if_neg (by omega), and65535, hm0, hq, Option.bind_some, if_pos (by omega), if_pos (by omega), Int.toNat_natCast, if_pos (by rw [List.length_nil, ht]; omega), Option.bind_some, Option.bind_some, List.nil_append, if_pos (by rw [ht]; simp; omega), Option.bind_some, if_pos (by simp only [List.length_append, ht, hd, List.length_singleton]; omega), hP, Option.bind_some, hE, Option.bind_some, if_pos rfl, if_pos rfl, if_pos rfl, if_pos rfl, known_eq k (by omega)]
    rfl
  | m + 1, i, k, hi, hs, hk => by
    obtain ⟨k, rfl⟩ : ∃ m, k = m + 1 := ⟨k - 1, by omega⟩
    have hlt : i < L.length := by omega
    rw [letterboxlaw11_MarkNone.l0, if_pos (by omega), if_pos (by omega), rd_nat L i hlt]
    by_cases h : ((L[i].size : Nat) : Int) > 40
    · rw [if_pos h]
    · rw [if_neg h, w64 _ (by omega) (by omega), show ((i : Int) + 1) = ((i + 1 : Nat) : Int) from rfl]
      refine MarkNone_l0 L a bad hl hb hf m (i + 1) k (by omega) (fun j hj s hs2 => ?_) (by omega)
      by_cases e : j = i
      · subst e
        rw [List.getElem?_eq_getElem hlt] at hs2
        rw [← Option.some.inj hs2]
        omega
      · exact hs j (by omega) s hs2
theorem MarkNone (L : List ByteArray) (a : Int) (bad : ByteArray) (_ : ∀ s ∈ L, s.size ≤ 9223372036854775807) (_ : (Lit.int .i64 a).wf = true) (_ : bad.size ≤ 140737488351232) : ∃ k, letterboxlaw11_MarkNone.f k L a bad = some true := by
  refine ⟨202, ?_⟩
  have j0t : letterboxlaw11_MarkNone.j0 202 L a bad true = some true := by rw [letterboxlaw11_MarkNone.j0, if_pos rfl]
  unfold letterboxlaw11_MarkNone.f
  by_cases h1 : (L.length : Int) > 20
  · rw [if_pos h1, j0t]
  rw [if_neg h1]
  by_cases h2 : (bad.size : Int) > 40
  · rw [decide_eq_true h2, j0t]
  rw [decide_eq_false h2, letterboxlaw11_MarkNone.j0, if_neg Bool.false_ne_true]
  have go : (∀ b, bad.data.toList[0]? = some b → b.toNat ≠ 92) → letterboxlaw11_MarkNone.j1 201 L a bad false = some true := by
    intro hb
    rw [letterboxlaw11_MarkNone.j1, if_neg Bool.false_ne_true]
    exact MarkNone_l0 L a bad (by omega) (by omega) (flag_none bad hb) L.length 0 200 (by omega) (fun j hj => absurd hj (by omega)) (by omega)
  by_cases h3 : (bad.size : Int) > 0
  · have h4 : 0 < bad.size := by omega
    have hx : bad.data.toList[0]? = some (bad[0]'h4) := Lib.data_getElem? bad 0 h4
    have hbt : bt bad 0 = ((bad[0]'h4).toNat : Int) := (bt_at bad 0 h4).symm
    rw [if_pos h3, if_pos h3, hbt]
    by_cases h5 : ((bad[0]'h4).toNat : Int) = 92
    · rw [show ((((bad[0]'h4).toNat : Int)) == 92) = true from beq_iff_eq.2 h5, letterboxlaw11_MarkNone.j1, if_pos rfl]
    · rw [show ((((bad[0]'h4).toNat : Int)) == 92) = false from beq_eq_false_iff_ne.2 h5]
      refine go fun b hb => ?_
      rw [hx] at hb
      rw [← Option.some.inj hb]
      omega
  · rw [if_neg h3]
    refine go fun b hb => ?_
    have := (List.getElem?_eq_some_iff.1 hb).1
    rw [← Lib.size_eq] at this
    omega
end Go.Proofs.YtknjokgacafifaaDoor.Pure
