/- HeadFields over numbers, texts and lists alone. -/
import Derived.Test.YtaodjbigceamjaaDoorHeadImpl5
import Derived.Test.YtaodjbigceamjaaDoorPx5
namespace Go.Proofs.YtaodjbigceamjaaDoor.Pure
open Go.RowKit Go.Proofs.YtaodjbigceamjaaDoor Go.Proofs.YtaodjbigceamjaaDoor.P Go.Proofs.YtaodjbigceamjaaDoor.Spec Go.Proofs.YtaodjbigceamjaaDoorW.PrintWords Go.Proofs.YtaodjbigceamjaaDoorW.PrintLast Go.Proofs.YtaodjbigceamjaaDoorW.PrintMore

theorem HeadFields (l : List Int) (a b : ByteArray) (hw : ∀ x ∈ l, (Lit.int .u8 x).wf = true) (ha : a.size ≤ 140737488351232) (hb2 : b.size ≤ 140737488351232) : ∃ k, letterboxlaw9_HeadFields.f k l a b = some true := by
  have hb := Byt.of hw
  have hok := fields_ok l
  refine ⟨10000 + a.size + (fields l).length + 2, ?_⟩
  unfold letterboxlaw9_HeadFields.f
  by_cases h1 : (l.length : Int) > 1500
  · rw [if_pos h1]
    rw [letterboxlaw9_HeadFields.j0]
    rw [if_pos rfl]
  · rw [if_neg h1]
    rw [letterboxlaw9_HeadFields.j0]
    split
    · rfl
    · rw [UFields_eq _ l hb (by omega) (by omega), Option.bind_some, RFields_eq _ l (by omega) (by omega), Option.bind_some, show fgo ((heads (lines l)).map txt) ([], false) = fields l from rfl, if_pos rfl]
      exact HeadFields_tail l a b hb (by omega) ha hb2 (fields l) (10000 + a.size) (Nat.le_refl _) (fields l).length 0 (10000 + a.size) (by omega) (by omega) (Nat.le_refl _)
end Go.Proofs.YtaodjbigceamjaaDoor.Pure
