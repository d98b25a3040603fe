/- FindNot holds of every input: the plain part. -/
import Derived.Test.YtejhfghijgbckaaGreatDoorFindNotW
import Derived.Test.YtejhfghijgbckaaGreatDoorPx104
namespace Go.Proofs.YtejhfghijgbckaaGreatDoor.Pure
set_option linter.unusedVariables false
open Go.RowKit Go.Proofs.YtejhfghijgbckaaGreatDoor Go.Proofs.YtejhfghijgbckaaGreatDoor.Spec Go.Proofs.YtejhfghijgbckaaGreatDoor.P Go.Proofs.YtejhfghijgbckaaGreatDoorW.PrintWords Go.Proofs.YtejhfghijgbckaaGreatDoorW.PrintLast Go.Proofs.YtejhfghijgbckaaGreatDoorW.PrintMore
theorem atoms1 (x : ByteArray) : letterboxlaw18_atoms.f 999 [x] = some [⟨1, x⟩] := by kernel_rfl
theorem atoms1' (x : ByteArray) : letterboxlaw18_atoms.f 998 [x] = some [⟨1, x⟩] := by kernel_rfl
theorem atoms2 (x y : ByteArray) : letterboxlaw18_atoms.f 998 [x, y] = some [⟨1, x⟩, ⟨1, y⟩] := by kernel_rfl
theorem atoms3 (x y z : ByteArray) : letterboxlaw18_atoms.f 998 [x, y, z] = some [⟨1, x⟩, ⟨1, y⟩, ⟨1, z⟩] := by kernel_rfl
theorem ref_one {k : Nat} (h7 : 7 ≤ k) (hk : k ≤ 100000) {s : ByteArray} (hs : s.size ≤ 2000) : letterboxref18_Parse.f k [⟨1, s⟩] = find_Parse.f k [⟨1, s⟩] := by
  obtain ⟨r, h1, h2⟩ := parse_same (l := [⟨1, s⟩]) (fun t ht => by rw [List.mem_singleton.1 ht]; exact hs) (k := k) (by simpa using h7) hk
  rw [h1, h2]
section
variable (m0 m1 m2 : Int) (lb : List Int)
theorem meant_yes {k : Nat} {l : List Tok} {kids : List Key} {v : Bool} (hp : find_Parse.f k l = some (11, 0, ⟨#[]⟩, ⟨#[]⟩, [], kids, 0)) (hm : matchF m0 m1 lb 1 1 (mx m0 1) k ⟨11, 0, ⟨#[]⟩, ⟨#[]⟩, [], kids⟩ = some v) : letterboxlaw18_meant.f k l m0 m1 m2 lb = some (v, true) := by
  unfold letterboxlaw18_meant.f
  rw [hp, Option.bind_some]
  unfold find_Match.f
  rw [hm]
  rfl
theorem meant_no {k : Nat} {l : List Tok} (hp : find_Parse.f (k + 1) l = some (0, 0, ⟨#[]⟩, ⟨#[]⟩, [], [], 3)) : letterboxlaw18_meant.f (k + 1) l m0 m1 m2 lb = some (false, false) := by
  unfold letterboxlaw18_meant.f
  rw [hp, Option.bind_some]
  rfl
theorem meant_one {k : Nat} (h5 : 10 ≤ k) (hk : k ≤ 100000) {s : ByteArray} (hs : s.size ≤ 2000) {x : Key} (h : oneK s = some x) {v : Bool} (hv : ∀ j, 3 ≤ j → matchF m0 m1 lb 1 1 (mx m0 1) j x = some v) : letterboxlaw18_meant.f k [⟨1, s⟩] m0 m1 m2 lb = some (v, true) := by
  obtain ⟨k, rfl⟩ : ∃ q, k = q + 1 := ⟨k - 1, by omega⟩
  have hm := and_match m0 m1 lb (mx m0 1) (any_one (hv k (by omega)))
  rw [Bool.not_not] at hm
  exact meant_yes m0 m1 m2 lb (parse_one (by omega) hk hs h) hm
end
theorem FindNot (a b : ByteArray) (m0 m1 m2 : Int) (lb : List Int) (ha : a.size ≤ 140737488351232) (hb : b.size ≤ 140737488351232) : ∃ k, letterboxlaw18_FindNot.f k a b m0 m1 m2 lb = some true := by
  refine ⟨1000, ?_⟩
  unfold letterboxlaw18_FindNot.f
  by_cases hl : (lb.length : Int) > 1500
  · rw [if_pos hl, letterboxlaw18_FindNot.j0, if_pos rfl]
  rw [if_neg hl, w64 _ (by omega) (by omega), letterboxlaw18_FindNot.j0]
  by_cases hs : (a.size : Int) + (b.size : Int) > 100
  · rw [decide_eq_true hs, if_pos rfl]
  rw [decide_eq_false hs, if_neg Bool.false_ne_true, atoms1, Option.bind_some]
  have sa : a.size ≤ 2000 := by omega
  have sb : b.size ≤ 2000 := by omega
  have hkn : letterboxlaw18_known.f 998 = some true := known_true 978
  have refs : ∀ (s : ByteArray), s.size ≤ 2000 → letterboxref18_Parse.f 998 [⟨1, s⟩] = find_Parse.f 998 [⟨1, s⟩] := fun s h => ref_one (by omega) (by omega) h
  cases hx : oneK a with
  | none =>
    have p1 := parse_no (k := 999) (by omega) (by omega) sa hx
    have p2 := parse_no (k := 998) (by omega) (by omega) sa hx
    rw [meant_no m0 m1 m2 lb (k := 998) p1, Option.bind_some, atoms1, Option.bind_some]
    cases hy : oneK b with
    | none =>
      have q1 := parse_no (k := 999) (by omega) (by omega) sb hy
      have q2 := parse_no (k := 998) (by omega) (by omega) sb hy
      rw [meant_no m0 m1 m2 lb (k := 998) q1, Option.bind_some, if_neg Bool.false_ne_true, letterboxlaw18_FindNot.j1, if_pos rfl, atoms1', Option.bind_some, refs a sa, p2, Option.bind_some, atoms1', Option.bind_some, refs b sb, q2, Option.bind_some, hkn]
      rfl
    | some y =>
      obtain ⟨u, hu⟩ := one_match m0 m1 lb (mx m0 1) hy
      have q2 := parse_one (k := 998) (by omega) (by omega) sb hy
      rw [meant_one m0 m1 m2 lb (by omega) (by omega) sb hy hu, Option.bind_some, if_neg Bool.false_ne_true, letterboxlaw18_FindNot.j1, if_pos rfl, atoms1', Option.bind_some, refs a sa, p2, Option.bind_some, atoms1', Option.bind_some, refs b sb, q2, Option.bind_some, hkn]
      rfl
  | some x =>
    obtain ⟨v, hv⟩ := one_match m0 m1 lb (mx m0 1) hx
    have p2 := parse_one (k := 998) (by omega) (by omega) sa hx
    rw [meant_one m0 m1 m2 lb (by omega) (by omega) sa hx hv, Option.bind_some, atoms1, Option.bind_some]
    cases hy : oneK b with
    | none =>
      have q1 := parse_no (k := 999) (by omega) (by omega) sb hy
      have q2 := parse_no (k := 998) (by omega) (by omega) sb hy
      rw [meant_no m0 m1 m2 lb (k := 998) q1, Option.bind_some, if_pos rfl, letterboxlaw18_FindNot.j1, if_pos (show (!(false, false).2) = true from rfl), atoms1', Option.bind_some, refs a sa, p2, Option.bind_some, atoms1', Option.bind_some, refs b sb, q2, Option.bind_some, hkn]
      rfl
    | some y =>
      obtain ⟨u, hu⟩ := one_match m0 m1 lb (mx m0 1) hy
      have mN := meant_yes m0 m1 m2 lb (parse_not (k := 998) (by omega) (by omega) sa hx) (and_match m0 m1 lb (mx m0 1) (any_one (not_match m0 m1 lb (mx m0 1) (hv 996 (by omega)))))
      have mO := meant_yes m0 m1 m2 lb (parse_or (k := 998) (by omega) (by omega) sa sb hx hy) (and_match m0 m1 lb (mx m0 1) (any_one (or_match m0 m1 lb (mx m0 1) (hv 996 (by omega)) (hu 996 (by omega)))))
      have mT := meant_yes m0 m1 m2 lb (parse_two (k := 998) (by omega) (by omega) sa sb hx hy) (and_match m0 m1 lb (mx m0 1) (any_two (hv 997 (by omega)) (hu 997 (by omega))))
      have mB := meant_yes m0 m1 m2 lb (parse_brackets (k := 998) (by omega) (by omega) sa sb hx hy) (and_match m0 m1 lb (mx m0 1) (any_one (and_match m0 m1 lb (mx m0 1) (any_two (hv 996 (by omega)) (hu 996 (by omega))))))
      have eN : (⟨#[110, 111, 116]⟩ : ByteArray) = notB := rfl
      have eO : (⟨#[111, 114]⟩ : ByteArray) = orB := rfl
      rw [meant_one m0 m1 m2 lb (by omega) (by omega) sb hy hu, Option.bind_some, if_pos rfl, letterboxlaw18_FindNot.j1, if_neg (show ¬ (!(true : Bool)) = true by decide), eN, eO, atoms2, Option.bind_some, mN, Option.bind_some, atoms3, Option.bind_some, mO, Option.bind_some, atoms2, Option.bind_some, mT, Option.bind_some, atoms1', Option.bind_some, if_pos (show (0 : Int) < (([(⟨1, a⟩ : Tok)] : List Tok).length : Int) from Int.one_pos), atoms1', Option.bind_some, if_pos (show (0 : Int) < (([(⟨1, b⟩ : Tok)] : List Tok).length : Int) from Int.one_pos)]
      have eb : ([(⟨3, (⟨#[]⟩ : ByteArray)⟩ : Tok), (⟨(rd_T42 [⟨1, a⟩] 0).f0, (rd_T42 [⟨1, a⟩] 0).f1⟩ : Tok), (⟨(rd_T42 [⟨1, b⟩] 0).f0, (rd_T42 [⟨1, b⟩] 0).f1⟩ : Tok), (⟨4, (⟨#[]⟩ : ByteArray)⟩ : Tok)] : List Tok) = [⟨3, ⟨#[]⟩⟩, ⟨1, a⟩, ⟨1, b⟩, ⟨4, ⟨#[]⟩⟩] := rfl
      rw [eb, mB, Option.bind_some, hkn]
      cases v <;> cases u <;> rfl
end Go.Proofs.YtejhfghijgbckaaGreatDoor.Pure
