/- HeadNone over numbers, texts and lists alone. -/
import Derived.Test.YtaodjbigceamjaaDoorHeadImpl5
import Derived.Test.YtaodjbigceamjaaDoorPx5
namespace Go.Proofs.YtaodjbigceamjaaDoor.Pure
open Go.RowKit Go.Proofs.YtaodjbigceamjaaDoor Go.Proofs.YtaodjbigceamjaaDoor.P Go.Proofs.YtaodjbigceamjaaDoor.Spec Go.Proofs.YtaodjbigceamjaaDoorW.PrintWords Go.Proofs.YtaodjbigceamjaaDoorW.PrintLast Go.Proofs.YtaodjbigceamjaaDoorW.PrintMore

theorem HeadNone (l : List Int) (a : ByteArray) (hw : ∀ x ∈ l, (Lit.int .u8 x).wf = true) (_ : a.size ≤ 140737488351232) : ∃ k, letterboxlaw9_HeadNone.f k l a = some true := by
  have hb := Byt.of hw
  have hok := fields_ok l
  refine ⟨10000 + (fields l).length + 2, ?_⟩
  unfold letterboxlaw9_HeadNone.f
  by_cases h1 : (l.length : Int) > 1500
  · rw [if_pos h1]
    rw [letterboxlaw9_HeadNone.j0]
    rw [if_pos rfl]
  · rw [if_neg h1]
    rw [letterboxlaw9_HeadNone.j0]
    by_cases h2 : (a.size : Int) > 60
    · rw [if_pos (decide_eq_true h2)]
    · rw [if_neg (by simpa using h2), RFields_eq _ l (by omega) (by omega), Option.bind_some]
      exact HeadNone_l0 l a hb (by omega) (by omega) (fields l) rfl (fields l).length 0 10000 (by omega) (by omega) (by rw [List.drop_zero])
end Go.Proofs.YtaodjbigceamjaaDoor.Pure
