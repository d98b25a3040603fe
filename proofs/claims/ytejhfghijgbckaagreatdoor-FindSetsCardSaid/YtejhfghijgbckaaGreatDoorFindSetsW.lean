/- find: sets of two small numbers, read and meant. -/
import Derived.Test.YtejhfghijgbckaaGreatDoorFindSmall
import Derived.Test.YtejhfghijgbckaaGreatDoorFindC
import Derived.Test.YtejhfghijgbckaaGreatDoorPx9
namespace Go.Proofs.YtejhfghijgbckaaGreatDoor.Spec
open Go.RowKit Go.Proofs.YtejhfghijgbckaaGreatDoor Go.Proofs.YtejhfghijgbckaaGreatDoor.P Go.Proofs.YtejhfghijgbckaaGreatDoorW.PrintWords Go.Proofs.YtejhfghijgbckaaGreatDoorW.PrintLast Go.Proofs.YtejhfghijgbckaaGreatDoorW.PrintMore
set_option linter.unusedVariables false
set_option linter.unusedSimpArgs false
def d2 (n : Nat) : List UInt8 := if n < 10 then [UInt8.ofNat (48 + n)] else [UInt8.ofNat (48 + n / 10), UInt8.ofNat (48 + n % 10)]
def d2ok : Bool := (List.range 99).all fun m => decide (letterboxlaw18_num.f ((m + 1 : Nat) : Int) = some (mk (d2 (m + 1)))) && (decide (num (d2 (m + 1)) = ((m + 1 : Nat) : Int)) && ((d2 (m + 1)).all (fun x => decide (48 ≤ x.toNat) && decide (x.toNat ≤ 57)) && decide ((d2 (m + 1)).length ≤ 2 ∧ d2 (m + 1) ≠ [])))
theorem d2ok_true : d2ok = true := by kernel_rfl
theorem d2_all {n : Nat} (h1 : 1 ≤ n) (h2 : n ≤ 99) : letterboxlaw18_num.f (n : Int) = some (mk (d2 n)) ∧ num (d2 n) = (n : Int) ∧ (∀ x ∈ d2 n, 48 ≤ x.toNat ∧ x.toNat ≤ 57) ∧ (d2 n).length ≤ 2 ∧ d2 n ≠ [] := by
  obtain ⟨m, rfl⟩ : ∃ m, n = m + 1 := ⟨n - 1, by omega⟩
  have h := List.all_eq_true.1 d2ok_true m (List.mem_range.2 (by omega))
  simp only [Bool.and_eq_true, decide_eq_true_eq] at h
  refine ⟨h.1, h.2.1, fun x hx => ?_, h.2.2.2.1, h.2.2.2.2⟩
  have h3 := List.all_eq_true.1 h.2.2.1 x hx
  simpa using h3
theorem cut_none (c : UInt8) : ∀ l : List UInt8, (∀ x ∈ l, x ≠ c) → cutL c l = (l, none)
  | [], _ => rfl
  | x :: r, h => by
    rw [cutL, if_neg (h x List.mem_cons_self), cut_none c r fun y hy => h y (List.mem_cons_of_mem _ hy)]
theorem cut_some (c : UInt8) (b : List UInt8) : ∀ l : List UInt8, (∀ x ∈ l, x ≠ c) → cutL c (l ++ c :: b) = (l, some b)
  | [], _ => by rw [List.nil_append, cutL, if_pos rfl]
  | x :: r, h => by
    rw [List.cons_append, cutL, if_neg (h x List.mem_cons_self), cut_some c b r fun y hy => h y (List.mem_cons_of_mem _ hy)]
def two (a b : Nat) : List UInt8 := d2 a ++ 58 :: d2 b
theorem two_mem {a b : Nat} (a1 : 1 ≤ a) (a2 : a ≤ 99) (b1 : 1 ≤ b) (b2 : b ≤ 99) (x : UInt8) (hx : x ∈ two a b) : 48 ≤ x.toNat ∧ x.toNat ≤ 58 := by
  obtain ⟨-, -, ha, -, -⟩ := d2_all a1 a2
  obtain ⟨-, -, hb, -, -⟩ := d2_all b1 b2
  rcases List.mem_append.1 hx with h | h
  · have := ha x h; omega
  · rcases List.mem_cons.1 h with h | h
    · rw [h]; decide
    · have := hb x h; omega
theorem two_set {a b : Nat} (a1 : 1 ≤ a) (a2 : a ≤ 99) (b1 : 1 ≤ b) (b2 : b ≤ 99) : setS (mk (two a b)) = ([⟨(a : Int), (b : Int)⟩], 0) := by
  obtain ⟨-, na, ha, -, -⟩ := d2_all a1 a2
  obtain ⟨-, nb, hb, -, -⟩ := d2_all b1 b2
  have h44 : ∀ x ∈ two a b, x ≠ 44 := fun x hx e => by have := two_mem a1 a2 b1 b2 x hx; rw [e] at this; exact absurd this (by decide)
  have h58 : ∀ x ∈ d2 a, x ≠ 58 := fun x hx e => by have := ha x hx; rw [e] at this; exact absurd this (by decide)
  have e1 : pieces 44 (two a b) = [two a b] := by rw [pieces_cut, cut_none 44 _ h44]
  have e2 : ends (two a b) = (d2 a, d2 b) := by unfold ends two; rw [cut_some 58 (d2 b) (d2 a) h58]
  have e3 : rng (two a b) = some ⟨(a : Int), (b : Int)⟩ := by
    unfold rng
    rw [e2]
    dsimp only
    rw [na, nb, if_neg (by omega)]
  unfold setS
  rw [mk_data, e1, goP, e3]
  rfl
/-! ### The words -/
theorem low_same {l : List UInt8} (h : ∀ x ∈ l, x.toNat ≤ 58) : lowB (mk l) = mk l := by
  unfold lowB
  have e : (bytesOf (mk l)).map lowI = bytesOf (mk l) := by
    unfold bytesOf
    rw [mk_data, List.map_map]
    refine List.map_congr_left fun x hx => ?_
    have := h x hx
    show lowI (x.toNat : Int) = (x.toNat : Int)
    unfold lowI
    rw [if_neg (by omega)]
  rw [e]
  apply ext_list
  unfold strOfNums bytesOf
  simp [mk, List.map_map, Function.comp_def]
theorem word_two {a b : Nat} (a1 : 1 ≤ a) (a2 : a ≤ 99) (b1 : 1 ≤ b) (b2 : b ≤ 99) (K : List Tok → Bool → Option KRes) (d : Int) (l : List Tok) : wordF K d (mk (two a b)) (lowB (mk (two a b))) l false = some (⟨7, 0, ⟨#[]⟩, ⟨#[]⟩, [⟨(a : Int), (b : Int)⟩], []⟩, l, false) := by
  have hle := two_mem a1 a2 b1 b2
  obtain ⟨-, -, -, hla, hna⟩ := d2_all a1 a2
  obtain ⟨-, -, -, hlb, -⟩ := d2_all b1 b2
  rw [low_same fun x hx => (hle x hx).2]
  obtain ⟨x, r, hx⟩ : ∃ x r, two a b = x :: r := by
    unfold two
    cases h : d2 a with
    | nil => exact absurd h hna
    | cons x r => exact ⟨x, _, rfl⟩
  have hx9 : x.toNat ≤ 58 := (hle x (by rw [hx]; exact List.mem_cons_self)).2
  have ne : ∀ (c : UInt8) (s : List UInt8), 58 < c.toNat → ¬ two a b = c :: s := fun c s hc e => by
    rw [hx] at e
    obtain ⟨rfl, -⟩ := List.cons.inj e
    omega
  have f0 : fl (two a b) = 0 := by
    unfold fl
    rw [if_neg (ne _ _ (by decide)), if_neg (ne _ _ (by decide)), if_neg (ne _ _ (by decide)), if_neg (ne _ _ (by decide)), if_neg (ne _ _ (by decide))]
  have tr : trimUn (two a b) = two a b := by
    unfold trimUn
    rw [if_neg]
    intro e
    rw [hx] at e
    cases r with
    | nil => simp at e
    | cons y s =>
      simp only [List.take_succ_cons, List.take_zero, List.cons.injEq, and_true] at e
      rw [e.1] at hx9
      exact absurd hx9 (by decide)
  have hs : (mk (two a b)).size ≤ 100000 := by
    rw [mk_size]
    unfold two
    rw [List.length_append, List.length_cons]
    omega
  unfold wordF
  simp only [flagF_eq, trimUn_eq, Option.bind_some, mk_toList, f0, tr, if_true]
  rw [if_neg (ne _ _ (by decide)), if_neg (ne _ _ (by decide)), if_neg (ne _ _ (by decide)), if_neg (ne _ _ (by decide)), if_neg (ne _ _ (by decide)), if_neg (ne _ _ (by decide)), if_neg (ne _ _ (by decide)), if_neg (ne _ _ (by decide)), if_neg (ne _ _ (by decide)), if_neg (ne _ _ (by decide)), setF_eq _ false hs, two_set a1 a2 b1 b2]
  rfl
def uidB : ByteArray := ⟨#[85, 73, 68]⟩
theorem word_uid2 (K : List Tok → Bool → Option KRes) (l : List Tok) (b : Bool) : wordF K 0 uidB (lowB uidB) l b = (setF (nextF [1] l b).1 (nextF [1] l b).2.2).bind fun r => some (⟨8, 0, ⟨#[]⟩, ⟨#[]⟩, r.1, []⟩, (nextF [1] l b).2.1, r.2) := by
  have e : (lowB uidB).toList = [117, 105, 100] := by kernel_rfl
  unfold wordF
  simp only [flagF_eq, trimUn_eq, Option.bind_some, mk_toList, e]
  rfl
/-! ### Keys, and all of them -/
theorem nextF_c (ks : List Int) (y : Tok) (t : List Tok) (b : Bool) : nextF ks (y :: t) b = if ks.contains y.f0 = true then (y.f1, t, b) else (⟨#[]⟩, [], true) := rfl
theorem key_at (k : Nat) (d : Int) (s : ByteArray) (hs : s.size ≤ 2000) (l : List Tok) (b : Bool) : keyF (k + 1) d (⟨1, s⟩ :: l) b = wordF (keyF k (d + 1)) d s (lowB s) l b := by
  rw [keyF, if_neg (show ¬ isNextF (⟨1, s⟩ :: l) 3 = true from fun e => absurd (show ((1 : Int) == 3) = true from e) (by decide)), nextF_c, if_pos (show ([1] : List Int).contains (1 : Int) = true by decide), smallF_eq _ hs, Option.bind_some]
theorem all_d (K : List Tok → Bool → Option KRes) (n : Nat) (x : Key) (kids : List Key) : allL K (n + 1) (x :: kids) [] false = some (x :: kids, [], false) := by
  rw [allL, if_neg Bool.false_ne_true, if_neg (by rw [List.length_cons]; omega), if_pos (show ([] : List Tok).length = 0 from rfl)]
theorem all_f {K : List Tok → Bool → Option KRes} (n : Nat) {l m : List Tok} {x : Key} (h : K l false = some (x, m, false)) : allL K (n + 1) [] l false = allL K n [x] m false := by
  rw [allL, if_neg Bool.false_ne_true, if_pos (show ([] : List Key).length = 0 from rfl), h, Option.bind_some]
  rfl
theorem parse_a {k : Nat} (hk : k ≤ 100000) {l : List Tok} {kids : List Key} (h : allL (keyF k 0) k [] l false = some (kids, [], false)) : find_Parse.f k l = some (11, 0, ⟨#[]⟩, ⟨#[]⟩, [], kids, 0) := by
  unfold find_Parse.f
  rw [show min k 100000 = k by omega, h, Option.bind_some, if_neg Bool.false_ne_true, if_neg (by simp)]
theorem two_len {a b : Nat} (a1 : 1 ≤ a) (a2 : a ≤ 99) (b1 : 1 ≤ b) (b2 : b ≤ 99) : (mk (two a b)).size ≤ 2000 := by
  obtain ⟨-, -, -, hla, -⟩ := d2_all a1 a2
  obtain ⟨-, -, -, hlb, -⟩ := d2_all b1 b2
  rw [mk_size]
  unfold two
  rw [List.length_append, List.length_cons]
  omega
theorem parse_set {a b : Nat} (a1 : 1 ≤ a) (a2 : a ≤ 99) (b1 : 1 ≤ b) (b2 : b ≤ 99) {k : Nat} (h5 : 5 ≤ k) (hk : k ≤ 100000) : find_Parse.f k [⟨1, mk (two a b)⟩] = some (11, 0, ⟨#[]⟩, ⟨#[]⟩, [], [⟨7, 0, ⟨#[]⟩, ⟨#[]⟩, [⟨(a : Int), (b : Int)⟩], []⟩], 0) := by
  refine parse_a hk ?_
  obtain ⟨k, rfl⟩ : ∃ q, k = q + 2 := ⟨k - 2, by omega⟩
  have e : keyF (k + 2) 0 [⟨1, mk (two a b)⟩] false = some (⟨7, 0, ⟨#[]⟩, ⟨#[]⟩, [⟨(a : Int), (b : Int)⟩], []⟩, [], false) := by
    rw [key_at (k + 1) 0 _ (two_len a1 a2 b1 b2), word_two a1 a2 b1 b2]
  rw [all_f (k + 1) e, all_d]
theorem parse_uid {a b : Nat} (a1 : 1 ≤ a) (a2 : a ≤ 99) (b1 : 1 ≤ b) (b2 : b ≤ 99) {k : Nat} (h5 : 5 ≤ k) (hk : k ≤ 100000) : find_Parse.f k [⟨1, uidB⟩, ⟨1, mk (two a b)⟩] = some (11, 0, ⟨#[]⟩, ⟨#[]⟩, [], [⟨8, 0, ⟨#[]⟩, ⟨#[]⟩, [⟨(a : Int), (b : Int)⟩], []⟩], 0) := by
  refine parse_a hk ?_
  obtain ⟨k, rfl⟩ : ∃ q, k = q + 2 := ⟨k - 2, by omega⟩
  have hs := two_len a1 a2 b1 b2
  have e : keyF (k + 2) 0 [⟨1, uidB⟩, ⟨1, mk (two a b)⟩] false = some (⟨8, 0, ⟨#[]⟩, ⟨#[]⟩, [⟨(a : Int), (b : Int)⟩], []⟩, [], false) := by
    rw [key_at (k + 1) 0 uidB (by decide), word_uid2, nextF_c, if_pos (show ([1] : List Int).contains (1 : Int) = true by decide)]
    show ((setF (mk (two a b)) false).bind fun r => some (⟨8, 0, ⟨#[]⟩, ⟨#[]⟩, r.1, []⟩, [], r.2) : Option KRes) = _
    rw [setF_eq _ false (by omega), two_set a1 a2 b1 b2]
    rfl
  rw [all_f (k + 1) e, all_d]
theorem has_one (a b n last : Int) : span_Has.f [⟨a, b⟩] n last = some (decide (1 ≤ n) && (decide (mn (endOf last a) (endOf last b) ≤ n) && decide (n ≤ mx (endOf last a) (endOf last b)))) := by
  unfold span_Has.f within
  rw [List.any_cons, List.any_nil, Bool.or_false]
end Go.Proofs.YtejhfghijgbckaaGreatDoor.Spec
