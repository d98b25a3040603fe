/- FindTexts holds of every input: the plain part. -/
import Derived.Test.YtejhfghijgbckaaGreatDoorFindC
import Derived.Test.YtejhfghijgbckaaGreatDoorPx106
namespace Go.Proofs.YtejhfghijgbckaaGreatDoor.Pure
set_option linter.unusedVariables false
set_option linter.unusedSimpArgs false
open Go.RowKit Go.Proofs.YtejhfghijgbckaaGreatDoor Go.Proofs.YtejhfghijgbckaaGreatDoor.P Go.Proofs.YtejhfghijgbckaaGreatDoorW.PrintWords Go.Proofs.YtejhfghijgbckaaGreatDoorW.PrintLast Go.Proofs.YtejhfghijgbckaaGreatDoorW.PrintMore
/-! ### The tokens 'text' and a text -/
abbrev txToks (T : ByteArray) : List Tok := [⟨1, ⟨#[116, 101, 120, 116]⟩⟩, ⟨2, T⟩]
theorem parse_text4 (T : ByteArray) : find_Parse.f 4 (txToks T) = some (11, 0, ⟨#[]⟩, ⟨#[]⟩, [], [⟨5, 0, ⟨#[]⟩, T, [], []⟩], 0) := by kernel_rfl
theorem up_ {α : Type} {f : Nat → Option α} {r : α} (hm : ∀ k, LeO (f k) (f (k + 1))) {k0 : Nat} (h : f k0 = some r) : ∀ j, f (k0 + j) = some r
  | 0 => h
  | j + 1 => hm (k0 + j) r (up_ hm h j)
theorem parse_text (T : ByteArray) (k : Nat) (hk : 4 ≤ k) : find_Parse.f k (txToks T) = some (11, 0, ⟨#[]⟩, ⟨#[]⟩, [], [⟨5, 0, ⟨#[]⟩, T, [], []⟩], 0) := by
  have h := up_ (f := fun k => find_Parse.f k (txToks T)) (find_Parse.mono (txToks T)) (parse_text4 T) (k - 4)
  rwa [show 4 + (k - 4) = k by omega] at h
def low8 (b : UInt8) : UInt8 := UInt8.ofNat (lowI (b.toNat : Int)).toNat
theorem lowB_list (s : ByteArray) : (lowB s).data.toList = s.data.toList.map low8 := by
  unfold lowB
  rw [strOfNums_data]
  unfold bytesOf
  rw [List.map_map, List.map_map]
  rfl
theorem size_list (s : ByteArray) : s.size = s.data.toList.length := by rw [Array.length_toList]; rfl
theorem lowB_size (s : ByteArray) : (lowB s).size = s.size := by rw [size_list, lowB_list, List.length_map, ← size_list]
theorem within_eq (T S : ByteArray) (hT : T.size ≤ 9223372036854775807) (hS : S.size < 4294967281) : find_within.f T S = some (Lib.contains (S.data.toList.map low8) (T.data.toList.map low8)) := by
  unfold find_within.f find_small.f strings_Contains.f
  rw [if_pos (by omega), Option.bind_some, if_pos hT, Option.bind_some, if_pos (by rw [lowB_size]; exact hS), Option.bind_some, lowB_list, lowB_list]
/-- What is meant by 'text' and a text. -/
theorem meant_text (T : ByteArray) (l : List Int) (hT : T.size ≤ 9223372036854775807) (hl : l.length ≤ 1000) (k : Nat) (hk : 4 ≤ k) :
    letterboxlaw18_meant.f k (txToks T) 1 0 0 l = some (Lib.contains ((strOfNums l).data.toList.map low8) (T.data.toList.map low8), true) := by
  obtain ⟨j, rfl⟩ : ∃ j, k = j + 2 := ⟨k - 2, by omega⟩
  have hz : (strOfNums l).size < 4294967281 := by rw [size_list, strOfNums_data, List.length_map]; omega
  have hw := within_eq T (strOfNums l) hT hz
  unfold letterboxlaw18_meant.f
  rw [parse_text T _ hk, Option.bind_some]
  have hm : find_Match.f (j + 2) 11 0 ⟨#[]⟩ ⟨#[]⟩ [] [⟨5, 0, ⟨#[]⟩, T, [], []⟩] 1 0 0 l 1 1 (mx 1 1) = some (Lib.contains ((strOfNums l).data.toList.map low8) (T.data.toList.map low8)) := by
    have h1 : find_Match.f (j + 2) 11 0 ⟨#[]⟩ ⟨#[]⟩ [] [⟨5, 0, ⟨#[]⟩, T, [], []⟩] 1 0 0 l 1 1 (mx 1 1) = ((((find_within.f T (strOfNums l)).bind fun b => some (!b)).bind fun b => if b = true then some true else some false).bind fun b => some (!b)) := rfl
    rw [h1, hw]
    cases Lib.contains ((strOfNums l).data.toList.map low8) (T.data.toList.map low8) <;> rfl
  rw [hm]
  rfl
/-! ### A text within another one -/
theorem contains_occ {S sub : List UInt8} {i : Nat} (hi : i ≤ S.length) (ho : Lib.occAt S sub i = true) : Lib.contains S sub = true := by
  unfold Lib.contains
  rcases Lib.index_spec S sub with ⟨_, h⟩ | ⟨j, h, _⟩
  · rw [h i hi] at ho; cases ho
  · rw [h]; exact decide_eq_true (by omega)
theorem contains_long {S sub : List UInt8} (h : S.length < sub.length) : Lib.contains S sub = false := by
  unfold Lib.contains
  refine decide_eq_false fun h0 => ?_
  have := Lib.index_room S sub h0
  omega
def upI (c : Int) : Int := if 97 ≤ c ∧ c ≤ 122 then c - 32 else c
def u8 (x : Int) : UInt8 := UInt8.ofNat x.toNat
theorem u8_nat (x : Int) (h0 : 0 ≤ x) (h1 : x < 256) : ((u8 x).toNat : Int) = x := by
  unfold u8
  rw [UInt8.toNat_ofNat', Nat.mod_eq_of_lt (by omega)]
  omega
theorem low_up (x : Int) (h0 : 0 ≤ x) (h1 : x < 256) : low8 (u8 (upI x)) = low8 (u8 x) := by
  have hu : 0 ≤ upI x ∧ upI x < 256 := by unfold upI; split <;> omega
  unfold low8
  rw [u8_nat x h0 h1, u8_nat (upI x) hu.1 hu.2]
  congr 2
  unfold upI lowI
  repeat' split
  all_goals omega
theorem strNums_list (l : List Int) : (strOfNums l).data.toList = l.map u8 := by rw [strOfNums_data]; rfl
theorem low_map_up (s : List Int) (h : ∀ x ∈ s, 0 ≤ x ∧ x < 256) : ((s.map upI).map u8).map low8 = (s.map u8).map low8 := by
  rw [List.map_map, List.map_map, List.map_map]
  exact List.map_congr_left fun x hx => low_up x (h x hx).1 (h x hx).2
/-! ### The loop that makes the letters great -/
theorem rd_at (l : List Int) (i : Nat) (h : i < l.length) : rd l (i : Int) = l[i] := by
  unfold rd
  rw [Int.toNat_natCast, List.getD_eq_getElem?_getD, List.getElem?_eq_getElem h]
  rfl
theorem set_mid (P R : List Int) (u v : Int) (i : Nat) (h : P.length = i) : (P ++ u :: R).set i v = P ++ v :: R := by
  subst h
  rw [List.set_append_right _ _ (Nat.le_refl _), Nat.sub_self]
  rfl
theorem rd_mid (P R : List Int) (u : Int) (i : Nat) (h : P.length = i) : rd (P ++ u :: R) (i : Int) = u := by
  subst h
  unfold rd
  rw [Int.toNat_natCast, List.getD_eq_getElem?_getD, List.getElem?_append_right (Nat.le_refl _), Nat.sub_self]
  rfl
theorem texts_l0 (l : List Int) (s : List Int) (n : Nat) (a3 : ByteArray) (hs : s.length = n) (hn : n ≤ 1000) (hr : ∀ x ∈ s, 0 ≤ x ∧ x < 256) (hend : ∀ k, 30 ≤ k → letterboxlaw18_FindTexts.l0 k l (n : Int) a3 s (s.map upI) (n : Int) 1 0 0 l = some true) :
    ∀ (m i k : Nat), i + m = n → m + 30 ≤ k → letterboxlaw18_FindTexts.l0 k l (n : Int) a3 s ((s.take i).map upI ++ List.replicate m 0) (i : Int) 1 0 0 l = some true
  | 0, i, k, hi, hk => by
    obtain rfl : i = n := by omega
    rw [List.take_of_length_le (by omega), List.replicate_zero, List.append_nil]
    exact hend k (by omega)
  | m + 1, i, k, hi, hk => by
    obtain ⟨k, rfl⟩ : ∃ k', k = k' + 1 := ⟨k - 1, by omega⟩
    have his : i < s.length := by omega
    have hPl : ((s.take i).map upI).length = i := by rw [List.length_map, List.length_take]; omega
    have hx : 0 ≤ s[i] ∧ s[i] < 256 := hr _ (List.getElem_mem his)
    have hw : wrap64 ((i : Int) + 1) = ((i + 1 : Nat) : Int) := by unfold wrap64; omega
    have hlen : ((s.take i).map upI ++ List.replicate (m + 1) (0 : Int)).length = n := by rw [List.length_append, hPl, List.length_replicate]; omega
    have hset : ((s.take i).map upI ++ List.replicate (m + 1) (0 : Int)).set i s[i] = (s.take i).map upI ++ s[i] :: List.replicate m 0 := by rw [List.replicate_succ]; exact set_mid _ _ _ _ _ hPl
    have hrd : rd ((s.take i).map upI ++ s[i] :: List.replicate m 0) (i : Int) = s[i] := rd_mid _ _ _ _ hPl
    have hnext : ∀ v, v = upI s[i] → (s.take i).map upI ++ v :: List.replicate m 0 = (s.take (i + 1)).map upI ++ List.replicate m 0 := by
      intro v hv
      rw [List.take_succ_eq_append_getElem his, List.map_append, List.append_assoc, hv]
      rfl
    have ih := texts_l0 l s n a3 hs hn hr hend m (i + 1) k (by omega) (by omega)
    rw [letterboxlaw18_FindTexts.l0, if_pos (by omega), if_pos (by omega), if_pos (by omega), if_pos (by omega), Option.bind_some, Int.toNat_natCast, rd_at s i his, hset, hrd, hw]
    by_cases c1 : s[i] ≥ 97
    · rw [if_pos c1]
      by_cases c2 : s[i] ≤ 122
      · rw [if_pos c2, set_mid _ _ _ _ _ hPl, hnext _ (by unfold upI; rw [if_pos ⟨c1, c2⟩]; omega)]
        exact ih
      · rw [if_neg c2, hnext _ (by unfold upI; rw [if_neg (by omega)])]
        exact ih
    · rw [if_neg c1, hnext _ (by unfold upI; rw [if_neg (by omega)])]
      exact ih
theorem FindTexts (l : List Int) (a1 a2 : Int) (a3 : ByteArray) (w0 : ∀ n ∈ l, (Lit.int .u8 n).wf = true) (w1 : (Lit.int .i64 a1).wf = true) (w2 : (Lit.int .i64 a2).wf = true) (w3 : a3.size ≤ 140737488351232) : ∃ k, letterboxlaw18_FindTexts.f k l a1 a2 a3 = some true := by
  by_cases h1 : (l.length : Int) > 1000
  · exact ⟨1, by unfold letterboxlaw18_FindTexts.f; rw [if_pos h1]; rfl⟩
  by_cases h2 : a1 < 0
  · exact ⟨1, by unfold letterboxlaw18_FindTexts.f; rw [if_neg h1, if_pos h2]; rfl⟩
  by_cases h3 : a2 < 0
  · exact ⟨1, by unfold letterboxlaw18_FindTexts.f; rw [if_neg h1, if_neg h2, if_pos h3]; rfl⟩
  by_cases h4 : (a3.size : Int) > 2000
  · exact ⟨1, by unfold letterboxlaw18_FindTexts.f; rw [if_neg h1, if_neg h2, if_neg h3, decide_eq_true h4]; rfl⟩
  obtain ⟨K, hK⟩ : ∃ K, K = 1100 := ⟨_, rfl⟩
  refine ⟨K + 1, ?_⟩
  unfold letterboxlaw18_FindTexts.f
  rw [if_neg h1, if_neg h2, if_neg h3, decide_eq_false h4, letterboxlaw18_FindTexts.j0, if_neg Bool.false_ne_true]
  have hr : ∀ x ∈ l, 0 ≤ x ∧ x < 256 := fun x hx => by
    have := w0 x hx
    simp [Lit.wf, IntKind.min, IntKind.max, IntKind.signed, IntKind.bits] at this
    omega
  obtain ⟨A, hA⟩ : ∃ A : Nat, mn a1 (l.length : Int) = (A : Int) := ⟨(mn a1 (l.length : Int)).toNat, by unfold mn; split <;> omega⟩
  have hAl : A ≤ l.length := by have := hA; unfold mn at this; split at this <;> omega
  have hwr : wrap64 ((l.length : Int) - (A : Int)) = ((l.length - A : Nat) : Int) := by unfold wrap64; omega
  obtain ⟨B, hB⟩ : ∃ B : Nat, mn a2 ((l.length - A : Nat) : Int) = (B : Int) := ⟨(mn a2 ((l.length - A : Nat) : Int)).toNat, by unfold mn; split <;> omega⟩
  have hBl : B ≤ l.length - A := by have := hB; unfold mn at this; split at this <;> omega
  have hws : wrap64 ((A : Int) + (B : Int)) = ((A + B : Nat) : Int) := by unfold wrap64; omega
  have e1 : (A : Int) ≤ ((A + B : Nat) : Int) := by clear hA hB hwr hws hr; omega
  have e2 : ((A + B : Nat) : Int) ≤ (l.length : Int) := by clear hA hB hwr hws hr; omega
  have e3 : B ≤ 281474976710656 := by clear hA hB hwr hws hr; omega
  rw [hA, hwr, hB, hws, if_pos (Int.natCast_nonneg _), if_pos e1, if_pos e2, if_pos (Int.natCast_nonneg _), Int.toNat_natCast, Int.toNat_natCast, Int.toNat_natCast, if_pos e3]
  clear hA hB hwr hws
  have hsl : ((l.take (A + B)).drop A).length = B := by rw [List.length_drop, List.length_take]; omega
  have hrs : ∀ x ∈ (l.take (A + B)).drop A, 0 ≤ x ∧ x < 256 := fun x hx => hr x (List.mem_of_mem_take (List.mem_of_mem_drop hx))
  refine texts_l0 l ((l.take (A + B)).drop A) B a3 hsl (by omega) hrs ?_ B 0 K (by omega) (by omega)
  intro k hk
  obtain ⟨k, rfl⟩ : ∃ k', k = k' + 1 := ⟨k - 1, by omega⟩
  have hT1 : (strOfNums (((l.take (A + B)).drop A).map upI)).size ≤ 9223372036854775807 := by rw [size_list, strNums_list, List.length_map, List.length_map, hsl]; omega
  have hbs : (strOfNums l).size = l.length := by rw [size_list, strNums_list, List.length_map]
  have hT2 : ((strOfNums l ++ (⟨#[120]⟩ : ByteArray)) ++ a3).size ≤ 9223372036854775807 := by rw [ByteArray.size_append, ByteArray.size_append, hbs]; show l.length + 1 + a3.size ≤ _; omega
  have hx : Lib.contains ((strOfNums l).data.toList.map low8) ((strOfNums (((l.take (A + B)).drop A).map upI)).data.toList.map low8) = true := by
    rw [strNums_list, strNums_list, low_map_up _ hrs]
    refine contains_occ (i := A) (by rw [List.length_map, List.length_map]; exact hAl) ?_
    unfold Lib.occAt
    rw [← List.map_drop, ← List.map_drop]
    rw [List.isPrefixOf_iff_prefix]
    have hp : (l.take (A + B)).drop A <+: l.drop A := by
      rw [List.drop_take, show A + B - A = B by omega]
      exact List.take_prefix _ _
    exact (hp.map u8).map low8
  have hy : Lib.contains ((strOfNums l).data.toList.map low8) (((strOfNums l ++ (⟨#[120]⟩ : ByteArray)) ++ a3).data.toList.map low8) = false := by
    refine contains_long ?_
    rw [List.length_map, List.length_map, ← size_list, ← size_list, ByteArray.size_append, ByteArray.size_append]
    show (strOfNums l).size < (strOfNums l).size + 1 + a3.size
    omega
  have hkn : letterboxlaw18_known.f k = some true := by have := known_true (k - 20); rwa [show 20 + (k - 20) = k by omega] at this
  rw [letterboxlaw18_FindTexts.l0, if_neg (by omega), meant_text _ _ hT1 (by omega) k (by omega), Option.bind_some, if_pos (by rw [hbs]; omega), if_pos (by rw [hbs]; omega), meant_text _ _ hT2 (by omega) k (by omega), Option.bind_some, hx, hy, hkn]
  rfl
end Go.Proofs.YtejhfghijgbckaaGreatDoor.Pure
