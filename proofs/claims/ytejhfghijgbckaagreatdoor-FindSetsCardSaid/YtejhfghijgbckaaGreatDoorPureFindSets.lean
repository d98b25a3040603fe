/- FindSets holds of every input: the plain part. -/
import Derived.Test.YtejhfghijgbckaaGreatDoorFindSetsW
import Derived.Test.YtejhfghijgbckaaGreatDoorPx108
namespace Go.Proofs.YtejhfghijgbckaaGreatDoor.Pure
set_option linter.unusedVariables false
open Go.RowKit Go.Proofs.YtejhfghijgbckaaGreatDoor Go.Proofs.YtejhfghijgbckaaGreatDoor.Spec Go.Proofs.YtejhfghijgbckaaGreatDoor.P Go.Proofs.YtejhfghijgbckaaGreatDoorW.PrintWords Go.Proofs.YtejhfghijgbckaaGreatDoorW.PrintLast Go.Proofs.YtejhfghijgbckaaGreatDoorW.PrintMore
theorem atoms1 (x : ByteArray) : letterboxlaw18_atoms.f 999 [x] = some [⟨1, x⟩] := by kernel_rfl
theorem atoms2 (x y : ByteArray) : letterboxlaw18_atoms.f 999 [x, y] = some [⟨1, x⟩, ⟨1, y⟩] := by kernel_rfl
theorem match_one {m0 p lu : Int} {c : Int} {l : List Rg} {v : Bool} (h : matchF m0 0 [] p 99 lu 998 ⟨c, 0, ⟨#[]⟩, ⟨#[]⟩, l, []⟩ = some v) : find_Match.f 999 11 0 ⟨#[]⟩ ⟨#[]⟩ [] [⟨c, 0, ⟨#[]⟩, ⟨#[]⟩, l, []⟩] m0 0 0 [] p 99 lu = some v := by
  show ((anyP (notP (matchF m0 0 [] p 99 lu 998)) [⟨c, 0, ⟨#[]⟩, ⟨#[]⟩, l, []⟩]).bind fun b => some (!b)) = _
  unfold anyP anyP notP
  rw [h]
  cases v <;> rfl
theorem FindSets (p u a b : Int) (w0 : (Lit.int .i64 p).wf = true) (w1 : (Lit.int .i64 u).wf = true) (w2 : (Lit.int .i64 a).wf = true) (w3 : (Lit.int .i64 b).wf = true) : ∃ k, letterboxlaw18_FindSets.f k p u a b = some true := by
  refine ⟨1000, ?_⟩
  have yes : letterboxlaw18_FindSets.j0 1000 p u a b true = some true := by rw [letterboxlaw18_FindSets.j0, if_pos rfl]
  unfold letterboxlaw18_FindSets.f
  by_cases c1 : p < 1
  · rw [if_pos c1]; exact yes
  rw [if_neg c1]
  by_cases c2 : p > 99
  · rw [if_pos c2]; exact yes
  rw [if_neg c2]
  by_cases c3 : u < 1
  · rw [if_pos c3]; exact yes
  rw [if_neg c3]
  by_cases c4 : u > 99
  · rw [if_pos c4]; exact yes
  rw [if_neg c4]
  by_cases c5 : a < 1
  · rw [if_pos c5]; exact yes
  rw [if_neg c5]
  by_cases c6 : a > 99
  · rw [if_pos c6]; exact yes
  rw [if_neg c6]
  by_cases c7 : b < 1
  · rw [if_pos c7]; exact yes
  rw [if_neg c7]
  by_cases c8 : b > 99
  · rw [decide_eq_true c8]; exact yes
  rw [decide_eq_false c8]
  obtain ⟨A, rfl⟩ := Int.eq_ofNat_of_zero_le (show 0 ≤ a by omega)
  obtain ⟨B, rfl⟩ := Int.eq_ofNat_of_zero_le (show 0 ≤ b by omega)
  have a1 : 1 ≤ A := by omega
  have a2 : A ≤ 99 := by omega
  have b1 : 1 ≤ B := by omega
  have b2 : B ≤ 99 := by omega
  obtain ⟨nA, -, -, lA, -⟩ := d2_all a1 a2
  obtain ⟨nB, -, -, lB, -⟩ := d2_all b1 b2
  have et : (mk (d2 A) ++ (⟨#[58]⟩ : ByteArray)) ++ mk (d2 B) = mk (two A B) := by
    show (mk (d2 A) ++ mk [58]) ++ mk (d2 B) = _
    rw [mk_app, mk_app]
    unfold two
    rw [List.append_assoc]
    rfl
  have eu : (⟨#[85, 73, 68]⟩ : ByteArray) = uidB := rfl
  have hkn : letterboxlaw18_known.f 999 = some true := known_true 979
  have eA : endOf 99 (A : Int) = A := by unfold endOf; rw [if_neg (by omega)]
  have eB : endOf 99 (B : Int) = B := by unfold endOf; rw [if_neg (by omega)]
  have hp : span_Has.f [⟨(A : Int), (B : Int)⟩] p 99 = some (decide (mn (A : Int) B ≤ p) && decide (p ≤ mx (A : Int) B)) := by rw [has_one, eA, eB, decide_eq_true (show 1 ≤ p by omega), Bool.true_and]
  have hu : span_Has.f [⟨(A : Int), (B : Int)⟩] u 99 = some (decide (mn (A : Int) B ≤ u) && decide (u ≤ mx (A : Int) B)) := by rw [has_one, eA, eB, decide_eq_true (show 1 ≤ u by omega), Bool.true_and]
  have m1 := match_one (m0 := u) (p := p) (lu := 99) (c := 7) (l := [⟨(A : Int), (B : Int)⟩]) (show span_Has.f [⟨(A : Int), (B : Int)⟩] p 99 = _ from hp)
  have m2 := match_one (m0 := u) (p := p) (lu := 99) (c := 8) (l := [⟨(A : Int), (B : Int)⟩]) (show span_Has.f [⟨(A : Int), (B : Int)⟩] u 99 = _ from hu)
  rw [letterboxlaw18_FindSets.j0, if_neg Bool.false_ne_true, nA, Option.bind_some, mk_size, if_pos (by omega), nB, Option.bind_some, mk_size, if_pos (by omega), et, atoms1, Option.bind_some, parse_set a1 a2 b1 b2 (by omega) (by omega), Option.bind_some, eu, atoms2, Option.bind_some, parse_uid a1 a2 b1 b2 (by omega) (by omega), Option.bind_some, if_pos rfl, if_pos rfl, m1, Option.bind_some]
  by_cases k1 : mn (A : Int) B ≤ p
  · rw [if_pos k1, decide_eq_true k1, Bool.true_and, beq_self_eq_true, if_pos rfl, m2, Option.bind_some]
    by_cases k2 : mn (A : Int) B ≤ u
    · rw [if_pos k2, decide_eq_true k2, Bool.true_and, beq_self_eq_true, if_pos rfl, hkn]; rfl
    · rw [if_neg k2, decide_eq_false k2, Bool.false_and, beq_self_eq_true, if_pos rfl, hkn]; rfl
  · rw [if_neg k1, decide_eq_false k1, Bool.false_and, beq_self_eq_true, if_pos rfl, m2, Option.bind_some]
    by_cases k2 : mn (A : Int) B ≤ u
    · rw [if_pos k2, decide_eq_true k2, Bool.true_and, beq_self_eq_true, if_pos rfl, hkn]; rfl
    · rw [if_neg k2, decide_eq_false k2, Bool.false_and, beq_self_eq_true, if_pos rfl, hkn]; rfl
end Go.Proofs.YtejhfghijgbckaaGreatDoor.Pure
