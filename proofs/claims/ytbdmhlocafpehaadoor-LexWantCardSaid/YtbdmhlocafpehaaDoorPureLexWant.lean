/- LexWant over texts and lists alone. -/
import Derived.Test.YtbdmhlocafpehaaDoorLexMark
import Derived.Test.YtbdmhlocafpehaaDoorLexKnown
import Derived.Test.YtbdmhlocafpehaaDoorPx106
namespace Go.Proofs.YtbdmhlocafpehaaDoor.Pure
open Go.RowKit Go.Proofs.YtbdmhlocafpehaaDoor Go.Proofs.YtbdmhlocafpehaaDoor.P Go.Proofs.YtbdmhlocafpehaaDoorW.PrintWords Go.Proofs.YtbdmhlocafpehaaDoorW.PrintLast Go.Proofs.YtbdmhlocafpehaaDoorW.PrintMore
open Go.Proofs.YtbdmhlocafpehaaDoor.LexM (mk numsB mk_size mk_data mk_app dig decV)

theorem wants_of {k : Nat} {l : List Int} {i n : Int} (h : G.lex_marked.f k l = some (i, n)) : lex_Wants.f k l = some (n, decide (i ≥ 0)) := by
  show (G.lex_marked.f k l).bind _ = _
  rw [h]
  rfl
theorem conv_want (ds : List UInt8) (hl : ds.length ≤ 1000) : conv_9_23.f (((⟨#[97, 32, 123]⟩ : ByteArray) ++ mk ds) ++ (⟨#[125]⟩ : ByteArray)) = some ([97, 32] ++ 123 :: (numsB ds ++ [125])) := by
  have e : (((⟨#[97, 32, 123]⟩ : ByteArray) ++ mk ds) ++ (⟨#[125]⟩ : ByteArray)) = mk ([97, 32, 123] ++ ds ++ [125]) := by
    rw [show (⟨#[97, 32, 123]⟩ : ByteArray) = mk [97, 32, 123] from rfl, show (⟨#[125]⟩ : ByteArray) = mk [125] from rfl, mk_app, mk_app]
  unfold conv_9_23.f
  rw [e, if_pos (by rw [mk_size]; simp; omega), LexM.bytes_mk]
  simp [numsB]
theorem conv_wantx (ds : List UInt8) (hl : ds.length ≤ 1000) : conv_9_23.f (((⟨#[97, 32, 123]⟩ : ByteArray) ++ mk ds) ++ (⟨#[125, 120]⟩ : ByteArray)) = some (([97, 32] ++ 123 :: (numsB ds ++ [125])) ++ [120]) := by
  have e : (((⟨#[97, 32, 123]⟩ : ByteArray) ++ mk ds) ++ (⟨#[125, 120]⟩ : ByteArray)) = mk ([97, 32, 123] ++ ds ++ [125, 120]) := by
    rw [show (⟨#[97, 32, 123]⟩ : ByteArray) = mk [97, 32, 123] from rfl, show (⟨#[125, 120]⟩ : ByteArray) = mk [125, 120] from rfl, mk_app, mk_app]
  unfold conv_9_23.f
  rw [e, if_pos (by rw [mk_size]; simp; omega), LexM.bytes_mk]
  simp [numsB]
theorem want_l0 (n : Nat) (d : Nat) (hd : d ≤ 9) : ∀ (m k : Nat) (ds : List UInt8), d ≤ ds.length + m → 40 + m < k → 1 ≤ ds.length → ds.length ≤ 9 → ds.all dig = true → decV 0 ds = n → letterboxlaw17_LexWant.l0 k n d (mk ds) = some true
  | m, 0, _, _, h, _, _, _, _ => absurd h (by omega)
  | m, k + 1, ds, h, hk, h1, h9, ha, hv => by
    rw [letterboxlaw17_LexWant.l0, mk_size]
    by_cases hlt : (ds.length : Int) < (d : Int)
    · obtain ⟨m, rfl⟩ : ∃ m', m = m' + 1 := ⟨m - 1, by omega⟩
      rw [if_pos hlt, if_pos (by omega), show (⟨#[48]⟩ : ByteArray) = mk [48] from rfl, mk_app]
      refine want_l0 n d hd m k ([48] ++ ds) (by simp; omega) (by omega) (by simp) (by simp; omega) ?_ ?_
      · rw [List.all_append, ha]; rfl
      · rw [LexM.decV_app]; exact hv
    · have hnl : (numsB ds).length = ds.length := List.length_map ..
      have hne : ds ≠ [] := by rintro rfl; simp at h1
      have hw2 : lex_Wants.f k (([97, 32] ++ 123 :: (numsB ds ++ [125])) ++ [120]) = some (0, false) := by
        obtain ⟨k, rfl⟩ : ∃ k', k = k' + 1 := ⟨k - 1, by omega⟩
        exact wants_of (LexM.marked_not _ 120 (by omega) (by simp [hnl]; omega) k)
      have hw3 : lex_Wants.f k [97, 32, 123, 125] = some (0, false) := wants_of (LexM.marked_at [97, 32] [] rfl (by simp) (by simp) k (by simp; omega))
      have hkn : letterboxlaw17_known.f k = some true := by
        obtain ⟨k, rfl⟩ : ∃ k', k = 20 + k' := ⟨k - 20, by omega⟩
        exact known_true k
      have hm := LexM.marked_at [97, 32] ds ha (by simp) (by omega) k (by omega)
      rw [if_neg hlt, if_pos (by omega), if_pos (by omega), conv_want ds (by omega), Option.bind_some]
      by_cases h7 : 7 < ds.length
      · rw [if_pos (.inr h7)] at hm
        have hw1 : lex_Wants.f k ([97, 32] ++ 123 :: (numsB ds ++ [125])) = some (0, false) := wants_of hm
        rw [hw1, Option.bind_some, if_pos (by omega), conv_wantx ds (by omega), Option.bind_some, hw2, Option.bind_some, hw3, Option.bind_some, show decide ((ds.length : Int) ≤ 7) = false from decide_eq_false (by omega)]
        show (letterboxlaw17_known.f k).bind (fun t => some t) = some true
        rw [hkn]
        rfl
      · rw [if_neg (by simp [hne, h7])] at hm
        have hw1 : lex_Wants.f k ([97, 32] ++ 123 :: (numsB ds ++ [125])) = some ((n : Int), true) := by rw [← hv]; exact wants_of hm
        rw [hw1, Option.bind_some, if_pos (by omega), conv_wantx ds (by omega), Option.bind_some, hw2, Option.bind_some, hw3, Option.bind_some, show decide ((ds.length : Int) ≤ 7) = true from decide_eq_true (by omega)]
        show (if (n : Int) = (n : Int) then (letterboxlaw17_known.f k).bind (fun t => some t) else some false) = some true
        rw [if_pos rfl, hkn]
        rfl
theorem LexWant (a0 a1 : Int) (a2 : ByteArray) (_ : (Lit.int .i64 a0).wf = true) (_ : (Lit.int .i64 a1).wf = true) (_ : a2.size ≤ 140737488351232) : ∃ k, letterboxlaw17_LexWant.f k a0 a1 a2 = some true := by
  refine ⟨200, ?_⟩
  have hj : letterboxlaw17_LexWant.j0 200 a0 a1 true = some true := by rw [letterboxlaw17_LexWant.j0, if_pos rfl]
  unfold letterboxlaw17_LexWant.f
  by_cases h1 : a0 < 0
  · rw [if_pos h1, hj]
  by_cases h2 : a0 > 9999999
  · rw [if_neg h1, if_pos h2, hj]
  by_cases h3 : a1 < 0
  · rw [if_neg h1, if_neg h2, if_pos h3, hj]
  by_cases h4 : a1 > 9
  · rw [if_neg h1, if_neg h2, if_neg h3, if_pos h4, hj]
  rw [if_neg h1, if_neg h2, if_neg h3, if_neg h4]
  by_cases h5 : (a2.size : Int) > 20
  · rw [decide_eq_true h5, hj]
  rw [decide_eq_false h5, letterboxlaw17_LexWant.j0, if_neg (by simp)]
  obtain ⟨n, rfl⟩ : ∃ n : Nat, a0 = n := ⟨a0.toNat, by omega⟩
  obtain ⟨d, rfl⟩ : ∃ d : Nat, a1 = d := ⟨a1.toNat, by omega⟩
  obtain ⟨ds, e, ha, hv, hl1, hl2⟩ := LexM.dec_at 6 n 199 (by have : (10 : Nat) ^ (6 + 1) = 10000000 := by decide
                                                              omega) (by omega) (by omega)
  rw [e]
  exact want_l0 n d (by omega) 9 199 ds (by omega) (by omega) hl1 (by omega) ha hv
end Go.Proofs.YtbdmhlocafpehaaDoor.Pure
