/- The one known case, at any number of rounds; what a law asks of its input. -/
import Derived.Test.YtaodjbigceamjaaDoorHeadImpl4
import Derived.Test.YtaodjbigceamjaaDoorPx5
namespace Go.Proofs.YtaodjbigceamjaaDoor.Pure
open Go.RowKit Go.Proofs.YtaodjbigceamjaaDoor Go.Proofs.YtaodjbigceamjaaDoor.P Go.Proofs.YtaodjbigceamjaaDoor.Spec Go.Proofs.YtaodjbigceamjaaDoorW.PrintWords Go.Proofs.YtaodjbigceamjaaDoorW.PrintLast Go.Proofs.YtaodjbigceamjaaDoorW.PrintMore

theorem known_at (k : Nat) (h : 100 ≤ k) : letterboxlaw9_known.f k = some true := by
  unfold letterboxlaw9_known.f
  rw [UGet_eq k _ _ (by unfold Byt; decide) (by decide) (by simp; omega), Option.bind_some]
  decide +kernel
theorem Byt.of {l : List Int} (h : ∀ x ∈ l, (Lit.int .u8 x).wf = true) : Byt l := by
  intro x hx
  have := h x hx
  simp [Lit.wf, IntKind.min, IntKind.max, IntKind.signed, IntKind.bits] at this
  omega
theorem HeadFields_tail (l : List Int) (a b : ByteArray) (hb : Byt l) (hl : l.length ≤ 1500) (ha : a.size ≤ 140737488351232) (hb2 : b.size ≤ 140737488351232) (F : List S26) (K : Nat) (hK : 10000 + a.size ≤ K) : ∀ (m i k : Nat), i + m = F.length → F.length ≤ 1000000 → K ≤ k → letterboxlaw9_HeadFields.l0 (k + m + 1) l a b F F i = some true
  | 0, i, k, hi, hF, hk => by
    unfold letterboxlaw9_HeadFields.l0
    rw [if_neg (by omega), UGet_eq _ _ _ hb (by omega) (by omega), Option.bind_some, RGet_eq _ _ _ (by omega) (by omega) (by omega), Option.bind_some, if_pos rfl, if_pos (by simp), USame_eq _ _ _ (by omega) (by omega), Option.bind_some, RSame_eq _ _ (by omega) (by omega), Option.bind_some, if_pos (by simp), known_at _ (by omega)]
    rfl
  | m + 1, i, k, hi, hF, hk => by
    unfold letterboxlaw9_HeadFields.l0
    rw [if_pos (by omega), if_pos (by omega), if_pos (by omega), if_neg (by simp), w64 _ (by omega) (by omega)]
    exact HeadFields_tail l a b hb hl ha hb2 F K hK m (i + 1) k (by omega) hF hk
theorem HeadNone_l0 (l : List Int) (name : ByteArray) (hb : Byt l) (hl : l.length ≤ 1500) (ha : name.size ≤ 60) (F : List S26) (hF0 : F = fields l) : ∀ (m i k : Nat), i + m = F.length → 10000 ≤ k → (fget name (fields l) = fget name (F.drop i)) → letterboxlaw9_HeadNone.l0 (k + m + 1) l name F i = some true
  | 0, i, k, hi, hk, hg => by
    have hok := fields_ok l
    rw [← hF0] at hok
    unfold letterboxlaw9_HeadNone.l0
    obtain rfl : i = F.length := by omega
    rw [List.drop_length] at hg
    rw [if_neg (by omega), UGet_eq _ _ _ hb (by omega) (by omega), Option.bind_some, hg]
    unfold fget
    rw [if_neg (by simp), if_pos (by rw [Lib.toList_data]), known_at _ (by omega)]
    rfl
  | m + 1, i, k, hi, hk, hg => by
    have hok := fields_ok l
    rw [← hF0] at hok
    have hlt : i < F.length := by omega
    have hsz := hok.1 _ (getD_F hlt)
    unfold letterboxlaw9_HeadNone.l0
    rw [if_pos (by omega), if_pos (by omega), rd_T26_nat, RSame_eq _ _ (by omega) (by omega), Option.bind_some]
    rw [drop_F hlt] at hg
    unfold fget at hg
    by_cases hs : same (F.getD i z26).f0 name = true
    · rw [if_pos hs] at hg
      have hg2 : fget name (fields l) = ((F.getD i z26).f1, true) := by
        conv => lhs; unfold fget
        exact hg
      rw [if_pos hs, UGet_eq _ _ _ hb (by omega) (by omega), Option.bind_some, hg2, if_pos rfl, if_pos rfl, known_at _ (by omega)]
      rfl
    · rw [if_neg hs] at hg
      rw [if_neg hs, w64 _ (by omega) (by omega)]
      refine HeadNone_l0 l name hb hl ha F hF0 m (i + 1) k (by omega) hk ?_
      conv => lhs; unfold fget
      exact hg
end Go.Proofs.YtaodjbigceamjaaDoor.Pure
