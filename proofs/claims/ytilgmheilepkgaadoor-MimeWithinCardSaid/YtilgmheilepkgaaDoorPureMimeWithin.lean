/- MimeWithin over lists of numbers alone. -/
import Derived.Test.YtilgmheilepkgaaDoorMimeParts
import Derived.Test.YtilgmheilepkgaaDoorPx107
namespace Go.Proofs.YtilgmheilepkgaaDoor.Pure
open Go.RowKit Go.Proofs.YtilgmheilepkgaaDoor Go.Proofs.YtilgmheilepkgaaDoor.P Go.Proofs.YtilgmheilepkgaaDoor.Spec Go.Proofs.YtilgmheilepkgaaDoorW.PrintWords Go.Proofs.YtilgmheilepkgaaDoorW.PrintLast Go.Proofs.YtilgmheilepkgaaDoorW.PrintMore

theorem Parts_up {l : List Int} {ps : List S34} {a b : Nat} (h : a ≤ b) (hp : mime_Parts.f a l = some ps) : mime_Parts.f b l = some ps := by
  obtain ⟨j, rfl⟩ : ∃ j, b = a + j := ⟨b - a, by omega⟩
  clear h
  induction j with
  | zero => exact hp
  | succ j ih => exact mime_Parts.mono l (a + j) _ ih
theorem Count_ex (l : List Int) (hb : Byt l) (hl : l.length ≤ 1500) (ps : List S34) (K : Nat) (hp : mime_Parts.f K l = some ps) (k : Nat) (hk : 13000 ≤ k) (hkK : k ≤ K) : ∃ n : Nat, mime_Count.f k l = some (n : Int) ∧ 1 ≤ n ∧ (ps = [] → n = 1) := by
  obtain ⟨n, h1, h2, _, h4⟩ := counts 1500 (by omega) 4 (by omega) k l 0 rfl hb hl (by omega)
  obtain ⟨ps', hp', _, _⟩ := Parts_ex (k - 1) l hb (by omega) (by omega)
  have he := Parts_up (show k - 1 ≤ K by omega) hp'
  rw [hp] at he
  obtain rfl := Option.some.inj he
  refine ⟨n, ?_, h2, fun e => h4 (by rw [hp', e])⟩
  unfold mime_Count.f
  rw [show (0 : Int) = ((0 : Nat) : Int) from rfl, h1]
  rfl
theorem Within_l0 (l : List Int) (hb : Byt l) (hl : l.length ≤ 1500) (ps : List S34) (hps : ps.length ≤ 16) (K : Nat) (hp : mime_Parts.f K l = some ps) : ∀ (k i at' : Nat), i ≤ ps.length → 13001 + (ps.length - i) ≤ k → k ≤ K → Chain at' (ps.drop i) l.length → letterboxlaw10_MimeWithin.l0 k l ps at' i = some true
  | 0, _, _, _, h, _, _ => absurd h (by omega)
  | k + 1, i, at', hi, hk, hkK, hc => by
    unfold letterboxlaw10_MimeWithin.l0
    by_cases hlt : i < ps.length
    · have hd : ps.drop i = ps.getD i z34 :: ps.drop (i + 1) := by
        rw [List.drop_eq_getElem_cons hlt, List.getD_eq_getElem?_getD, List.getElem?_eq_getElem hlt]
        rfl
      rw [hd] at hc
      obtain ⟨a, b, ha, hb2, h1, h2, h3⟩ := hc
      have h4 := h3.le
      rw [if_pos (by omega), if_pos (by omega), rd_T34_nat, ha, hb2, if_neg (by omega), if_neg (by omega), if_neg (by omega), w64 _ (by omega) (by omega), show ((i : Int) + 1) = ((i + 1 : Nat) : Int) from rfl]
      exact Within_l0 l hb hl ps hps K hp k (i + 1) b (by omega) (by omega) (by omega) h3
    · obtain ⟨n, h1, h2, h3⟩ := Count_ex l hb hl ps K hp k (by omega) (by omega)
      rw [if_neg (by omega), h1, Option.bind_some, if_pos (by omega), if_pos (by omega), known_at k (by omega)]
      by_cases h0 : 0 < ps.length
      · rw [if_pos (by omega)]
        rfl
      · have := h3 (List.eq_nil_of_length_eq_zero (by omega))
        rw [if_neg (by omega), if_pos (by omega)]
        rfl
theorem MimeWithin (l : List Int) (hw : ∀ x ∈ l, (Lit.int .u8 x).wf = true) : ∃ k, letterboxlaw10_MimeWithin.f k l = some true := by
  have hb := Byt.of hw
  refine ⟨20000, ?_⟩
  unfold letterboxlaw10_MimeWithin.f
  by_cases hl : l.length > 1500
  · rw [if_pos (by omega)]
  · obtain ⟨ps, hp, hc, hps⟩ := Parts_ex 20000 l hb (by omega) (by omega)
    rw [if_neg (by omega), hp, Option.bind_some]
    exact Within_l0 l hb (by omega) ps hps 20000 hp 20000 0 0 (by omega) (by omega) (by omega) (by rw [List.drop_zero]; exact hc)
end Go.Proofs.YtilgmheilepkgaaDoor.Pure
