/- The span laws' closing test answers yes. -/
import Derived.Test.YtdgbllaenkcmbaaDoorSpanImpl
import Derived.Test.YtdgbllaenkcmbaaDoorPx3
namespace Go.Proofs.YtdgbllaenkcmbaaDoor.Spec
open Go.RowKit Go.Proofs.YtdgbllaenkcmbaaDoor Go.Proofs.YtdgbllaenkcmbaaDoor.P Go.Proofs.YtdgbllaenkcmbaaDoorW.PrintWords Go.Proofs.YtdgbllaenkcmbaaDoorW.PrintLast Go.Proofs.YtdgbllaenkcmbaaDoorW.PrintMore

theorem known_parse : ans (goP (pieces 44 [49, 44, 53, 58, 42]) []) = ([⟨1, 1⟩, ⟨5, 1073741824⟩], 0) := by rfl
theorem known_eq (k : Nat) (hk : 100 ≤ k) : letterboxlaw12_known.f k = some true := by
  unfold letterboxlaw12_known.f
  have hp : span_Parse.f k (⟨#[49, 44, 53, 58, 42]⟩ : ByteArray) = some ([⟨1, 1⟩, ⟨5, 1073741824⟩], 0) := by
    have := UParse_eq k [49, 44, 53, 58, 42] (by decide) (by show 3 * 5 + 5 ≤ k; omega)
    rw [known_parse] at this
    exact this
  have h1 : span_Has.f [⟨1, 1⟩, ⟨5, 1073741824⟩] 7 9 = some true := by rfl
  have h2 : span_Has.f [⟨1, 1⟩, ⟨5, 1073741824⟩] 4 9 = some false := by rfl
  have h3 : span_Print.f k [⟨1, 1⟩, ⟨5, 1073741824⟩] = some (mk [49, 44, 53, 58, 42]) := by
    rw [UPrint_eq k _ (by show 2 + 1 ≤ k; omega), if_pos (by rfl)]
    congr 2
    show Lib.join [rtext ⟨1, 1⟩, rtext ⟨5, 1073741824⟩] [44] = _
    have e1 : rtext ⟨1, 1⟩ = [49] := by
      unfold rtext dg
      rw [if_neg (by decide), if_pos rfl, show ((1 : Int)).toNat = 1 from rfl, Lib.decDigits_one (by decide)]
      rfl
    have e2 : rtext ⟨5, 1073741824⟩ = [53, 58, 42] := by
      unfold rtext dg
      rw [if_neg (by decide), if_neg (by decide), if_pos rfl, show ((5 : Int)).toNat = 5 from rfl, Lib.decDigits_one (by decide)]
      rfl
    rw [e1, e2]
    rfl
  rw [hp, Option.bind_some, if_pos rfl, h1, Option.bind_some, if_pos rfl, h2, Option.bind_some, if_neg (by decide), h3, Option.bind_some, mk_toList]
  rfl
end Go.Proofs.YtdgbllaenkcmbaaDoor.Spec
