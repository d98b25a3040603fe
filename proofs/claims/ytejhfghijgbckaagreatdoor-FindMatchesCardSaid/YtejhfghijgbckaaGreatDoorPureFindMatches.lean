/- FindMatches holds of every input: the plain part. -/
import Derived.Test.YtejhfghijgbckaaGreatDoorFindM
import Derived.Test.YtejhfghijgbckaaGreatDoorPx109
namespace Go.Proofs.YtejhfghijgbckaaGreatDoor.Pure
set_option linter.unusedVariables false
open Go.RowKit Go.Proofs.YtejhfghijgbckaaGreatDoor Go.Proofs.YtejhfghijgbckaaGreatDoor.Spec Go.Proofs.YtejhfghijgbckaaGreatDoor.P Go.Proofs.YtejhfghijgbckaaGreatDoorW.PrintWords Go.Proofs.YtejhfghijgbckaaGreatDoorW.PrintLast Go.Proofs.YtejhfghijgbckaaGreatDoorW.PrintMore
theorem byt_of (l : List Int) (h : ∀ n ∈ l, (Lit.int .u8 n).wf = true) : HPure.Byt l := fun x hx => by
  have := h x hx
  simp [Lit.wf, IntKind.min, IntKind.max, IntKind.signed, IntKind.bits] at this
  omega
theorem key_eta (x : Key) : (⟨x.f0, x.f1, x.f2, x.f3, x.f4, x.f5⟩ : Key) = x := by cases x; rfl
theorem FindMatches (x y : Key) (m0 m1 m2 : Int) (lb : List Int) (pl la lu : Int) (hx : ∃ n, okD n x) (hy : ∃ n, okD n y) (hb : ∀ n ∈ lb, (Lit.int .u8 n).wf = true) (w3 : (Lit.int .i64 pl).wf = true) (w4 : (Lit.int .i64 la).wf = true) (w5 : (Lit.int .i64 lu).wf = true) :
    ∃ k, letterboxlaw18_FindMatches.f k x.f0 x.f1 x.f2 x.f3 x.f4 x.f5 y.f0 y.f1 y.f2 y.f3 y.f4 y.f5 m0 m1 m2 lb pl la lu = some true := by
  obtain ⟨n, hx⟩ := hx
  obtain ⟨n', hy⟩ := hy
  obtain ⟨s, K1, h1⟩ := size_tot n x hx
  obtain ⟨s', K2, h2⟩ := size_tot n' y hy
  have yes : ∀ k, letterboxlaw18_FindMatches.j0 (k + 1) pl la lu true x.f0 x.f1 x.f2 x.f3 x.f4 x.f5 y.f0 y.f1 y.f2 y.f3 y.f4 y.f5 m0 m1 m2 lb = some true := fun k => by rw [letterboxlaw18_FindMatches.j0, if_pos rfl]
  by_cases c1 : s ≥ 2000
  · refine ⟨K1 + 1, ?_⟩
    unfold letterboxlaw18_FindMatches.f
    rw [h1 (K1 + 1) (by omega), Option.bind_some, if_pos c1]
    exact yes K1
  by_cases c2 : s' ≥ 2000
  · refine ⟨K1 + K2 + 1, ?_⟩
    unfold letterboxlaw18_FindMatches.f
    rw [h1 _ (by omega), Option.bind_some, if_neg c1, h2 _ (by omega), Option.bind_some, if_pos c2]
    exact yes (K1 + K2)
  by_cases c3 : (lb.length : Int) > 1500
  · refine ⟨K1 + K2 + 1, ?_⟩
    unfold letterboxlaw18_FindMatches.f
    rw [h1 _ (by omega), Option.bind_some, if_neg c1, h2 _ (by omega), Option.bind_some, if_neg c2, decide_eq_true c3]
    exact yes (K1 + K2)
  obtain ⟨v, K3, h3⟩ := meets m0 m1 m2 lb pl la lu (by omega) (byt_of lb hb) n x hx
  obtain ⟨u, K4, h4⟩ := sames n x hx y
  obtain ⟨K5, h5⟩ := self_same n x hx
  obtain ⟨k, hk⟩ : ∃ k, k = 20 + (K1 + K2 + K3 + K4 + K5) := ⟨_, rfl⟩
  have hkn : letterboxlaw18_known.f k = some true := by rw [hk]; exact known_true _
  refine ⟨k + 1, ?_⟩
  have e3 := h3 k (by omega)
  have e4 := h4 k (by omega)
  have e5 := h5 k (by omega)
  have f3 : find_Match.f k x.f0 x.f1 x.f2 x.f3 x.f4 x.f5 m0 m1 m2 lb pl la lu = some v := by unfold find_Match.f; rw [key_eta]; exact e3.1
  have f4 : find_Same.f k x.f0 x.f1 x.f2 x.f3 x.f4 x.f5 y.f0 y.f1 y.f2 y.f3 y.f4 y.f5 = some u := by unfold find_Same.f; rw [key_eta, key_eta]; exact e4.1
  have f5 : find_Same.f k x.f0 x.f1 x.f2 x.f3 x.f4 x.f5 x.f0 x.f1 x.f2 x.f3 x.f4 x.f5 = some true := by unfold find_Same.f; rw [key_eta]; exact e5
  have g3 : letterboxref18_Match.f k x.f0 x.f1 x.f2 x.f3 x.f4 x.f5 m0 m1 m2 lb pl la lu = some v := e3.2
  have g4 : letterboxref18_Same.f k x.f0 x.f1 x.f2 x.f3 x.f4 x.f5 y.f0 y.f1 y.f2 y.f3 y.f4 y.f5 = some u := e4.2
  unfold letterboxlaw18_FindMatches.f
  rw [h1 _ (by omega), Option.bind_some, if_neg c1, h2 _ (by omega), Option.bind_some, if_neg c2, decide_eq_false c3, letterboxlaw18_FindMatches.j0, if_neg Bool.false_ne_true, f3, Option.bind_some, g3, Option.bind_some, beq_self_eq_true, if_pos rfl, f4, Option.bind_some, g4, Option.bind_some, beq_self_eq_true, if_pos rfl, f5, Option.bind_some, if_pos rfl, hkn]
  rfl
end Go.Proofs.YtejhfghijgbckaaGreatDoor.Pure
