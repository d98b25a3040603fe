/- find: keys of one word, read and meant. -/
import Derived.Test.YtejhfghijgbckaaGreatDoorFindS
import Derived.Test.YtejhfghijgbckaaGreatDoorFindC
namespace Go.Proofs.YtejhfghijgbckaaGreatDoor.Spec
open Go.RowKit Go.Proofs.YtejhfghijgbckaaGreatDoor Go.Proofs.YtejhfghijgbckaaGreatDoor.P Go.Proofs.YtejhfghijgbckaaGreatDoorW.PrintWords Go.Proofs.YtejhfghijgbckaaGreatDoorW.PrintLast Go.Proofs.YtejhfghijgbckaaGreatDoorW.PrintMore
set_option linter.unusedVariables false
set_option linter.unusedSimpArgs false
def longs : List (List UInt8) := [[108, 97, 114, 103, 101, 114], [115, 109, 97, 108, 108, 101, 114], [116, 101, 120, 116], [115, 117, 98, 106, 101, 99, 116], [102, 114, 111, 109], [116, 111], [117, 105, 100], [110, 111, 116], [111, 114]]
def oneK (s : ByteArray) : Option Key :=
  if fl (lowB s).toList = 0 then
    if fl (trimUn (lowB s).toList) = 0 then
      if (lowB s).toList = [97, 108, 108] then some ⟨1, 0, ⟨#[]⟩, ⟨#[]⟩, [], []⟩
      else if (lowB s).toList ∈ longs then none
      else if (setS s).2 = 0 then some ⟨7, 0, ⟨#[]⟩, ⟨#[]⟩, (setS s).1, []⟩ else none
    else some ⟨9, 0, ⟨#[]⟩, ⟨#[]⟩, [], [⟨2, fl (trimUn (lowB s).toList), ⟨#[]⟩, ⟨#[]⟩, [], []⟩]⟩
  else some ⟨2, fl (lowB s).toList, ⟨#[]⟩, ⟨#[]⟩, [], []⟩
theorem notIn {W : List UInt8} (h : W ∉ longs) : W ≠ [108, 97, 114, 103, 101, 114] ∧ W ≠ [115, 109, 97, 108, 108, 101, 114] ∧ W ≠ [116, 101, 120, 116] ∧ W ≠ [115, 117, 98, 106, 101, 99, 116] ∧ W ≠ [102, 114, 111, 109] ∧ W ≠ [116, 111] ∧ W ≠ [117, 105, 100] ∧ W ≠ [110, 111, 116] ∧ W ≠ [111, 114] := by
  simp only [longs, List.mem_cons, List.not_mem_nil, or_false, not_or] at h
  exact h
theorem word_one {s : ByteArray} (hs : s.size ≤ 2000) {x : Key} (h : oneK s = some x) (K : List Tok → Bool → Option KRes) (d : Int) (l : List Tok) : wordF K d s (lowB s) l false = some (x, l, false) := by
  unfold oneK at h
  unfold wordF
  simp only [flagF_eq, trimUn_eq, Option.bind_some, mk_toList]
  split at h
  · rename_i h1
    rw [if_pos h1]
    split at h
    · rename_i h2
      rw [if_pos h2]
      split at h
      · rename_i h3
        rw [if_pos h3]
        rw [← Option.some.inj h]
      · rename_i h3
        rw [if_neg h3]
        split at h
        · cases h
        · rename_i h4
          obtain ⟨n1, n2, n3, n4, n5, n6, n7, n8, n9⟩ := notIn h4
          split at h
          · rename_i h5
            rw [if_neg n1, if_neg n2, if_neg n3, if_neg n4, if_neg n5, if_neg n6, if_neg n7, if_neg n8, if_neg n9, setF_eq s false (by omega), Option.bind_some, if_pos h5, ← Option.some.inj h]
          · cases h
    · rename_i h2
      rw [if_neg h2, ← Option.some.inj h]
  · rename_i h1
    rw [if_neg h1, ← Option.some.inj h]
theorem word_no {s : ByteArray} (hs : s.size ≤ 2000) (h : oneK s = none) {K : List Tok → Bool → Option KRes} (hK : ∀ b, ∃ x, K [] b = some (x, [], true)) (d : Int) : ∃ r, wordF K d s (lowB s) [] false = some r ∧ r.2.2 = true := by
  unfold oneK at h
  unfold wordF
  simp only [flagF_eq, trimUn_eq, Option.bind_some, mk_toList]
  have hgo : goDeep d ([] : List Tok) = [] := by unfold goDeep; split <;> rfl
  split at h
  · rename_i h1
    rw [if_pos h1]
    split at h
    · rename_i h2
      rw [if_pos h2]
      split at h
      · cases h
      · rename_i h3
        rw [if_neg h3]
        have hn : numberF [] false = some (0, [], true) := by rw [numberF_eq]; rfl
        have hu : ∃ n, setF (nextF [1] [] false).1 (nextF [1] [] false).2.2 = some (n, true) := by
          refine ⟨(setS (nextF [1] [] false).1).1, (setF_eq _ _ (Nat.zero_le _)).trans ?_⟩
          show some ((setS (nextF [1] [] false).1).1, if (setS (nextF [1] [] false).1).2 = 0 then true else true) = _
          rw [ite_self]
        by_cases k1 : (lowB s).toList = [108, 97, 114, 103, 101, 114]
        · rw [if_pos k1, hn]; exact ⟨_, rfl, rfl⟩
        rw [if_neg k1]
        by_cases k2 : (lowB s).toList = [115, 109, 97, 108, 108, 101, 114]
        · rw [if_pos k2, hn]; exact ⟨_, rfl, rfl⟩
        rw [if_neg k2]
        by_cases k3 : (lowB s).toList = [116, 101, 120, 116]
        · rw [if_pos k3]; exact ⟨_, rfl, rfl⟩
        rw [if_neg k3]
        by_cases k4 : (lowB s).toList = [115, 117, 98, 106, 101, 99, 116]
        · rw [if_pos k4]; exact ⟨_, rfl, rfl⟩
        rw [if_neg k4]
        by_cases k5 : (lowB s).toList = [102, 114, 111, 109]
        · rw [if_pos k5]; exact ⟨_, rfl, rfl⟩
        rw [if_neg k5]
        by_cases k6 : (lowB s).toList = [116, 111]
        · rw [if_pos k6]; exact ⟨_, rfl, rfl⟩
        rw [if_neg k6]
        by_cases k7 : (lowB s).toList = [117, 105, 100]
        · obtain ⟨n, hn⟩ := hu
          rw [if_pos k7, hn]; exact ⟨_, rfl, rfl⟩
        rw [if_neg k7]
        by_cases k8 : (lowB s).toList = [110, 111, 116]
        · obtain ⟨x, hx⟩ := hK (badDeep d false)
          rw [if_pos k8, hgo, hx]; exact ⟨_, rfl, rfl⟩
        rw [if_neg k8]
        by_cases k9 : (lowB s).toList = [111, 114]
        · obtain ⟨x, hx⟩ := hK (badDeep d false)
          obtain ⟨y, hy⟩ := hK true
          rw [if_pos k9, hgo, hx, Option.bind_some, hy]; exact ⟨_, rfl, rfl⟩
        rw [if_neg k9]
        have h4 : (lowB s).toList ∉ longs := by
          simp only [longs, List.mem_cons, List.not_mem_nil, or_false, not_or]
          exact ⟨k1, k2, k3, k4, k5, k6, k7, k8, k9⟩
        rw [if_neg h4] at h
        split at h
        · cases h
        · rename_i h5
          rw [setF_eq s false (by omega), Option.bind_some, if_neg h5]
          exact ⟨_, rfl, rfl⟩
    · cases h
  · cases h
/-! ### Keys -/
theorem key_nil (k : Nat) (d : Int) (b : Bool) : keyF (k + 1) d [] b = some (⟨7, 0, ⟨#[]⟩, ⟨#[]⟩, [], []⟩, [], true) := by
  rw [keyF, if_neg (by simp [isNextF])]
  have e : nextF [1] [] b = (⟨#[]⟩, [], true) := rfl
  rw [e, smallF_eq _ (Nat.zero_le _), Option.bind_some, lowB_nil]
  exact word_none _ _
theorem nx_atom (s : ByteArray) (l : List Tok) (k : Int) (h : 1 ≠ k) : ¬ isNextF (⟨1, s⟩ :: l) k = true := fun e => h (beq_iff_eq.1 e)
theorem key_atom (k : Nat) (d : Int) (s : ByteArray) (hs : s.size ≤ 2000) (l : List Tok) (b : Bool) : keyF (k + 1) d (⟨1, s⟩ :: l) b = wordF (keyF k (d + 1)) d s (lowB s) l b := by
  rw [keyF, if_neg (nx_atom s l 3 (by decide)), next1_cons, if_pos rfl, smallF_eq _ hs, Option.bind_some]
theorem key_one (k : Nat) (d : Int) {s : ByteArray} (hs : s.size ≤ 2000) {x : Key} (h : oneK s = some x) (l : List Tok) : keyF (k + 1) d (⟨1, s⟩ :: l) false = some (x, l, false) := by
  rw [key_atom k d s hs, word_one hs h]
def notB : ByteArray := ⟨#[110, 111, 116]⟩
def orB : ByteArray := ⟨#[111, 114]⟩
theorem word_not (K : List Tok → Bool → Option KRes) (l : List Tok) (b : Bool) : wordF K 0 notB (lowB notB) l b = (K l b).bind fun r => some (⟨9, 0, ⟨#[]⟩, ⟨#[]⟩, [], [r.1]⟩, r.2) := by
  have e : (lowB notB).toList = [110, 111, 116] := by kernel_rfl
  unfold wordF
  simp only [flagF_eq, trimUn_eq, Option.bind_some, mk_toList, e]
  rfl
theorem word_or (K : List Tok → Bool → Option KRes) (l : List Tok) (b : Bool) : wordF K 0 orB (lowB orB) l b = (K l b).bind fun r => (K r.2.1 r.2.2).bind fun q => some (⟨10, 0, ⟨#[]⟩, ⟨#[]⟩, [], [r.1, q.1]⟩, q.2) := by
  have e : (lowB orB).toList = [111, 114] := by kernel_rfl
  unfold wordF
  simp only [flagF_eq, trimUn_eq, Option.bind_some, mk_toList, e]
  rfl
/-! ### All of them -/
theorem all_done (K : List Tok → Bool → Option KRes) (n : Nat) (x : Key) (kids : List Key) : allL K (n + 1) (x :: kids) [] false = some (x :: kids, [], false) := by
  rw [allL, if_neg Bool.false_ne_true, if_neg (by rw [List.length_cons]; omega), if_pos (show ([] : List Tok).length = 0 from rfl)]
theorem all_first {K : List Tok → Bool → Option KRes} (n : Nat) {l m : List Tok} {x : Key} (h : K l false = some (x, m, false)) : allL K (n + 1) [] l false = allL K n [x] m false := by
  rw [allL, if_neg Bool.false_ne_true, if_pos (show ([] : List Key).length = 0 from rfl), h, Option.bind_some]
  rfl
theorem all_more {K : List Tok → Bool → Option KRes} (n : Nat) {l m : List Tok} {x y : Key} {kids : List Key} (hl : l.length ≠ 0) (hc : ¬ isNextF l 4 = true) (h : K l false = some (x, m, false)) : allL K (n + 1) (y :: kids) l false = allL K n (y :: kids ++ [x]) m false := by
  rw [allL, if_neg Bool.false_ne_true, if_neg (by rw [List.length_cons]; omega), if_neg hl, if_neg hc, h, Option.bind_some]
theorem parse_all {k : Nat} (hk : k ≤ 100000) {l : List Tok} {kids : List Key} (h : allL (keyF k 0) k [] l false = some (kids, [], false)) : find_Parse.f k l = some (11, 0, ⟨#[]⟩, ⟨#[]⟩, [], kids, 0) := by
  unfold find_Parse.f
  rw [show min k 100000 = k by omega, h, Option.bind_some, if_neg Bool.false_ne_true, if_neg (by simp)]
theorem parse_one {k : Nat} (h5 : 5 ≤ k) (hk : k ≤ 100000) {s : ByteArray} (hs : s.size ≤ 2000) {x : Key} (h : oneK s = some x) : find_Parse.f k [⟨1, s⟩] = some (11, 0, ⟨#[]⟩, ⟨#[]⟩, [], [x], 0) := by
  refine parse_all hk ?_
  obtain ⟨k, rfl⟩ : ∃ q, k = q + 2 := ⟨k - 2, by omega⟩
  rw [all_first (k + 1) (key_one (k + 1) 0 hs h []), all_done]
theorem parse_no {k : Nat} (h5 : 5 ≤ k) (hk : k ≤ 100000) {s : ByteArray} (hs : s.size ≤ 2000) (h : oneK s = none) : find_Parse.f k [⟨1, s⟩] = some (0, 0, ⟨#[]⟩, ⟨#[]⟩, [], [], 3) := by
  unfold find_Parse.f
  rw [show min k 100000 = k by omega]
  obtain ⟨k, rfl⟩ : ∃ q, k = q + 3 := ⟨k - 3, by omega⟩
  obtain ⟨r, h1, h2⟩ := word_no hs h (K := keyF (k + 2) (0 + 1)) (fun b => ⟨_, key_nil (k + 1) 1 b⟩) 0
  obtain ⟨x, l, b⟩ := r
  obtain rfl : b = true := h2
  rw [allL, if_neg Bool.false_ne_true, if_pos (show ([] : List Key).length = 0 from rfl), key_atom (k + 2) 0 s hs, h1, Option.bind_some, allL_bad, Option.bind_some, if_pos rfl]
theorem parse_not {k : Nat} (h5 : 5 ≤ k) (hk : k ≤ 100000) {s : ByteArray} (hs : s.size ≤ 2000) {x : Key} (h : oneK s = some x) : find_Parse.f k [⟨1, notB⟩, ⟨1, s⟩] = some (11, 0, ⟨#[]⟩, ⟨#[]⟩, [], [⟨9, 0, ⟨#[]⟩, ⟨#[]⟩, [], [x]⟩], 0) := by
  refine parse_all hk ?_
  obtain ⟨k, rfl⟩ : ∃ q, k = q + 3 := ⟨k - 3, by omega⟩
  have e : keyF (k + 3) 0 [⟨1, notB⟩, ⟨1, s⟩] false = some (⟨9, 0, ⟨#[]⟩, ⟨#[]⟩, [], [x]⟩, [], false) := by
    rw [key_atom (k + 2) 0 notB (by decide), word_not, key_one (k + 1) (0 + 1) hs h, Option.bind_some]
  rw [all_first (k + 2) e, all_done]
theorem parse_or {k : Nat} (h5 : 5 ≤ k) (hk : k ≤ 100000) {s t : ByteArray} (hs : s.size ≤ 2000) (ht : t.size ≤ 2000) {x y : Key} (h : oneK s = some x) (g : oneK t = some y) : find_Parse.f k [⟨1, orB⟩, ⟨1, s⟩, ⟨1, t⟩] = some (11, 0, ⟨#[]⟩, ⟨#[]⟩, [], [⟨10, 0, ⟨#[]⟩, ⟨#[]⟩, [], [x, y]⟩], 0) := by
  refine parse_all hk ?_
  obtain ⟨k, rfl⟩ : ∃ q, k = q + 3 := ⟨k - 3, by omega⟩
  have e : keyF (k + 3) 0 [⟨1, orB⟩, ⟨1, s⟩, ⟨1, t⟩] false = some (⟨10, 0, ⟨#[]⟩, ⟨#[]⟩, [], [x, y]⟩, [], false) := by
    rw [key_atom (k + 2) 0 orB (by decide), word_or, key_one (k + 1) (0 + 1) hs h, Option.bind_some, key_one (k + 1) (0 + 1) ht g, Option.bind_some]
  rw [all_first (k + 2) e, all_done]
theorem parse_two {k : Nat} (h5 : 5 ≤ k) (hk : k ≤ 100000) {s t : ByteArray} (hs : s.size ≤ 2000) (ht : t.size ≤ 2000) {x y : Key} (h : oneK s = some x) (g : oneK t = some y) : find_Parse.f k [⟨1, s⟩, ⟨1, t⟩] = some (11, 0, ⟨#[]⟩, ⟨#[]⟩, [], [x, y], 0) := by
  refine parse_all hk ?_
  obtain ⟨k, rfl⟩ : ∃ q, k = q + 3 := ⟨k - 3, by omega⟩
  rw [all_first (k + 2) (key_one (k + 2) 0 hs h _), all_more (k + 1) (by simp) (nx_atom _ _ 4 (by decide)) (key_one (k + 2) 0 ht g []), List.singleton_append, all_done]
theorem parse_brackets {k : Nat} (h5 : 6 ≤ k) (hk : k ≤ 100000) {s t : ByteArray} (hs : s.size ≤ 2000) (ht : t.size ≤ 2000) {x y : Key} (h : oneK s = some x) (g : oneK t = some y) : find_Parse.f k [⟨3, ⟨#[]⟩⟩, ⟨1, s⟩, ⟨1, t⟩, ⟨4, ⟨#[]⟩⟩] = some (11, 0, ⟨#[]⟩, ⟨#[]⟩, [], [⟨11, 0, ⟨#[]⟩, ⟨#[]⟩, [], [x, y]⟩], 0) := by
  refine parse_all hk ?_
  obtain ⟨k, rfl⟩ : ∃ q, k = q + 5 := ⟨k - 5, by omega⟩
  have hall : allL (keyF (k + 4) (0 + 1)) (k + 4) [] [⟨1, s⟩, ⟨1, t⟩, ⟨4, ⟨#[]⟩⟩] false = some ([x, y], [⟨4, ⟨#[]⟩⟩], false) := by
    rw [all_first (k + 3) (key_one (k + 3) (0 + 1) hs h _), all_more (k + 2) (by simp) (nx_atom _ _ 4 (by decide)) (key_one (k + 3) (0 + 1) ht g _), List.singleton_append, allL, if_neg Bool.false_ne_true, if_neg (by simp), if_neg (by simp), if_pos (by rw [isNext_cons]; rfl)]
  have e : keyF (k + 5) 0 [⟨3, ⟨#[]⟩⟩, ⟨1, s⟩, ⟨1, t⟩, ⟨4, ⟨#[]⟩⟩] false = some (⟨11, 0, ⟨#[]⟩, ⟨#[]⟩, [], [x, y]⟩, [], false) := by
    have g1 : goDeep 0 [⟨1, s⟩, ⟨1, t⟩, ⟨4, ⟨#[]⟩⟩] = ([⟨1, s⟩, ⟨1, t⟩, ⟨4, ⟨#[]⟩⟩] : List Tok) := rfl
    have g2 : badDeep 0 false = false := rfl
    rw [keyF, if_pos (by rw [isNext_cons]; rfl), next1_cons, if_pos rfl]
    show (allL (keyF (k + 4) (0 + 1)) (k + 4) [] (goDeep 0 [⟨1, s⟩, ⟨1, t⟩, ⟨4, ⟨#[]⟩⟩]) (badDeep 0 false)).bind _ = _
    rw [g1, g2, hall, Option.bind_some, next1_cons, if_pos rfl]
  rw [all_first (k + 4) e, all_done]
/-! ### What they mean -/
section
variable (m0 m1 : Int) (lb : List Int) (lu : Int)
theorem one_match {s : ByteArray} {x : Key} (h : oneK s = some x) : ∃ v, ∀ j, 3 ≤ j → matchF m0 m1 lb 1 1 lu j x = some v := by
  unfold oneK at h
  have two : ∀ (n : Int) (j : Nat), 1 ≤ j → matchF m0 m1 lb 1 1 lu j ⟨2, n, ⟨#[]⟩, ⟨#[]⟩, [], []⟩ = some (Go.bits .and .i64 m1 n == n) := fun n j hj => by
    obtain ⟨j, rfl⟩ : ∃ q, j = q + 1 := ⟨j - 1, by omega⟩
    rfl
  split at h
  · split at h
    · split at h
      · obtain rfl := Option.some.inj h
        refine ⟨true, fun j hj => ?_⟩
        obtain ⟨j, rfl⟩ : ∃ q, j = q + 1 := ⟨j - 1, by omega⟩
        rfl
      · split at h
        · cases h
        · split at h
          · obtain rfl := Option.some.inj h
            obtain ⟨v, hv⟩ : ∃ v, span_Has.f (setS s).1 1 1 = some v := ⟨_, rfl⟩
            refine ⟨v, fun j hj => ?_⟩
            obtain ⟨j, rfl⟩ : ∃ q, j = q + 1 := ⟨j - 1, by omega⟩
            exact hv
          · cases h
    · obtain rfl := Option.some.inj h
      refine ⟨!(Go.bits .and .i64 m1 (fl (trimUn (lowB s).toList)) == fl (trimUn (lowB s).toList)), fun j hj => ?_⟩
      obtain ⟨j, rfl⟩ : ∃ q, j = q + 1 := ⟨j - 1, by omega⟩
      show notP (matchF m0 m1 lb 1 1 lu j) _ = _
      unfold notP
      rw [two _ j (by omega), Option.bind_some]
  · obtain rfl := Option.some.inj h
    exact ⟨_, fun j hj => two _ j (by omega)⟩
theorem and_match {j : Nat} {kids : List Key} {b : Bool} (h : anyP (notP (matchF m0 m1 lb 1 1 lu j)) kids = some b) : matchF m0 m1 lb 1 1 lu (j + 1) ⟨11, 0, ⟨#[]⟩, ⟨#[]⟩, [], kids⟩ = some (!b) := by
  show ((anyP (notP (matchF m0 m1 lb 1 1 lu j)) kids).bind fun b => some (!b)) = _
  rw [h]
  rfl
theorem not_match {j : Nat} {x : Key} {v : Bool} (h : matchF m0 m1 lb 1 1 lu j x = some v) : matchF m0 m1 lb 1 1 lu (j + 1) ⟨9, 0, ⟨#[]⟩, ⟨#[]⟩, [], [x]⟩ = some (!v) := by
  show notP (matchF m0 m1 lb 1 1 lu j) x = _
  unfold notP
  rw [h]
  rfl
theorem or_match {j : Nat} {x y : Key} {v u : Bool} (h : matchF m0 m1 lb 1 1 lu j x = some v) (g : matchF m0 m1 lb 1 1 lu j y = some u) : matchF m0 m1 lb 1 1 lu (j + 1) ⟨10, 0, ⟨#[]⟩, ⟨#[]⟩, [], [x, y]⟩ = some (v || u) := by
  show anyP (matchF m0 m1 lb 1 1 lu j) [x, y] = _
  unfold anyP anyP anyP
  rw [h, g]
  cases v <;> cases u <;> rfl
theorem any_one {p : Key → Option Bool} {x : Key} {v : Bool} (h : p x = some v) : anyP (notP p) [x] = some (!v) := by
  unfold anyP anyP notP
  rw [h]
  cases v <;> rfl
theorem any_two {p : Key → Option Bool} {x y : Key} {v u : Bool} (h : p x = some v) (g : p y = some u) : anyP (notP p) [x, y] = some (!v || !u) := by
  unfold anyP anyP anyP notP
  rw [h, g]
  cases v <;> cases u <;> rfl
end
end Go.Proofs.YtejhfghijgbckaaGreatDoor.Spec
