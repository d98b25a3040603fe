/- Numbers, ranges and sets as plain lists: both sides' functions compute them (find's seat). -/
import Derived.Lib.Atoi
import Derived.Lib.Join
import Derived.Test.YtejhfghijgbckaaGreatDoorFindA
import Derived.Test.YtejhfghijgbckaaGreatDoorPx2
import Derived.Test.YtejhfghijgbckaaGreatDoorPx3
import Derived.Test.YtejhfghijgbckaaGreatDoorPx6
import Derived.Test.YtejhfghijgbckaaGreatDoorPx13
import Derived.Test.YtejhfghijgbckaaGreatDoorPx11
import Derived.Test.YtejhfghijgbckaaGreatDoorPx10
import Derived.Test.YtejhfghijgbckaaGreatDoorPx5
import Derived.Lib.Index
import Derived.Lib.IndexMore
import Derived.Test.YtejhfghijgbckaaGreatDoorFindK
import Derived.Test.YtejhfghijgbckaaGreatDoorFindC
import Derived.Test.YtejhfghijgbckaaGreatDoorPx12
import Derived.Test.YtejhfghijgbckaaGreatDoorFindSame
import Derived.Test.YtejhfghijgbckaaGreatDoorPx4
import Derived.Test.YtejhfghijgbckaaGreatDoorPx9
namespace Go.Proofs.YtejhfghijgbckaaGreatDoor.Spec
open Go.RowKit Go.Proofs.YtejhfghijgbckaaGreatDoor Go.Proofs.YtejhfghijgbckaaGreatDoor.P Go.Proofs.YtejhfghijgbckaaGreatDoorW.PrintWords Go.Proofs.YtejhfghijgbckaaGreatDoorW.PrintLast Go.Proofs.YtejhfghijgbckaaGreatDoorW.PrintMore

theorem w64 (x : Int) (h0 : -9223372036854775808 ≤ x) (h1 : x ≤ 9223372036854775807) : wrap64 x = x := by unfold wrap64; omega
def mk (l : List UInt8) : ByteArray := ⟨l.toArray⟩
theorem mk_size (l : List UInt8) : (mk l).size = l.length := rfl
theorem ext_list {s t : ByteArray} (h : s.data.toList = t.data.toList) : s = t := ByteArray.ext (Array.toList_inj.1 h)
theorem extract_list (s : ByteArray) (a b : Nat) : (s.extract a b).data.toList = (s.data.toList.take b).drop a := by
  simp [ByteArray.data_extract, List.drop_take]
theorem bt_nat (s : ByteArray) (i : Nat) (b : UInt8) (h : s.data.toList[i]? = some b) : bt s (i : Int) = (b.toNat : Int) := by
  have hi : i < s.size := by rw [Lib.size_eq]; exact (List.getElem?_eq_some_iff.1 h).1
  have h2 := Lib.data_getElem? s i hi
  rw [h] at h2
  unfold bt
  simp only [Int.toNat_natCast]
  rw [dif_pos hi, ← Option.some.inj h2]

theorem Colon_l0 (l : List UInt8) (c : UInt8) (hb : l.length ≤ 1000000) : ∀ (k i : Nat), i ≤ l.length → l.length - i < k → letterboxref9_Colon.l0 k (mk l) (c.toNat : Int) i = some (if Lib.indexByte (l.drop i) c = -1 then -1 else i + Lib.indexByte (l.drop i) c)
  | 0, _, _, h => absurd h (by omega)
  | k + 1, i, hi, hk => by
    unfold letterboxref9_Colon.l0
    rw [mk_size]
    by_cases hlt : i < l.length
    · have hd := List.drop_eq_getElem_cons hlt
      have hx : (mk l).data.toList[i]? = some l[i] := List.getElem?_eq_getElem hlt
      have hge := Lib.indexByte_ge (l.drop (i + 1)) c
      rw [if_pos (by omega), if_pos (by omega), bt_nat (mk l) i _ hx, hd]
      unfold Lib.indexByte
      by_cases hc : l[i] = c
      · rw [hc]
        simp
      · have hne : (l[i] == c) = false := beq_eq_false_iff_ne.2 hc
        have hne2 : ¬ ((l[i].toNat : Int) = (c.toNat : Int)) := by
          intro h
          exact hc (UInt8.toNat_inj.1 (Int.ofNat_inj.1 h))
        rw [if_neg hne2, hne, w64 _ (by omega) (by omega), show ((i : Int) + 1) = ((i + 1 : Nat) : Int) from rfl, Colon_l0 l c hb k (i + 1) (by omega) (by omega)]
        by_cases hm : Lib.indexByte (l.drop (i + 1)) c = -1
        · rw [if_pos hm, hm]
          rfl
        · have hm2 : (Lib.indexByte (l.drop (i + 1)) c == -1) = false := beq_eq_false_iff_ne.2 hm
          simp only [hm2, Bool.false_eq_true, if_false]
          rw [if_neg hm, if_neg (by omega)]
          congr 1
          omega
    · obtain rfl : i = l.length := by omega
      rw [if_neg (by omega), List.drop_length]
      rfl
theorem Colon_eq (k : Nat) (l : List UInt8) (c : UInt8) (hb : l.length ≤ 1000000) (hk : l.length < k) : letterboxref9_Colon.f k (mk l) (c.toNat : Int) = some (Lib.indexByte l c) := by
  unfold letterboxref9_Colon.f
  rw [show (0 : Int) = ((0 : Nat) : Int) from rfl, Colon_l0 l c hb k 0 (by omega) (by omega), List.drop_zero]
  split
  · rename_i h; rw [h]
  · rw [show ((0 : Nat) : Int) = 0 from rfl, Int.zero_add]

/-! ### A text as a set -/
def pieces (c : UInt8) : List UInt8 → List (List UInt8)
  | [] => [[]]
  | x :: r => if x = c then [] :: pieces c r else match pieces c r with
    | p :: ps => (x :: p) :: ps
    | [] => [[x]]
/-! ### Has -/
theorem rd_nat (l : List S73) (i : Nat) (h : i < l.length) : rd_T73 l (i : Int) = l[i] := by
  unfold rd_T73
  rw [Int.toNat_natCast, List.getD_eq_getElem?_getD, List.getElem?_eq_getElem h]
  rfl
/-! ### Same -/
def eqR (a b : S73) : Bool := (a.f0 == b.f0) && (a.f1 == b.f1)
def eqL : List S73 → List S73 → Bool
  | [], [] => true
  | a :: l, b :: m => eqR a b && eqL l m
  | _, _ => false
theorem eqL_cons (a b : S73) (l m : List S73) : eqL (a :: l) (b :: m) = (eqR a b && eqL l m) := rfl
theorem eqL_refl : ∀ l, eqL l l = true
  | [] => rfl
  | a :: l => by rw [eqL_cons]; unfold eqR; rw [beq_self_eq_true, beq_self_eq_true, eqL_refl l]; rfl
theorem eqL_len : ∀ a b, a.length ≠ b.length → eqL a b = false
  | [], [], h => absurd rfl h
  | [], _ :: _, _ => rfl
  | _ :: _, [], _ => rfl
  | a :: l, b :: m, h => by rw [eqL_cons, eqL_len l m (by simpa using h), Bool.and_false]
theorem RSame_l0 (a b : List S73) (hab : a.length = b.length) (hl : a.length ≤ 140737488351232) : ∀ (m i k : Nat), i + m = a.length → m + 1 ≤ k → letterboxref12_Same.l0 k a b i = some (eqL (a.drop i) (b.drop i))
  | 0, i, k, hi, hk => by
    obtain ⟨k, rfl⟩ : ∃ m, k = m + 1 := ⟨k - 1, by omega⟩
    rw [letterboxref12_Same.l0, if_neg (by omega), List.drop_of_length_le (by omega), List.drop_of_length_le (by omega)]
    rfl
  | m + 1, i, k, hi, hk => by
    obtain ⟨k, rfl⟩ : ∃ m, k = m + 1 := ⟨k - 1, by omega⟩
    have hlt : i < a.length := by omega
    have hlt2 : i < b.length := by omega
    rw [letterboxref12_Same.l0, if_pos (by omega), if_pos (by omega), if_pos (by omega), rd_nat a i hlt, rd_nat b i hlt2, List.drop_eq_getElem_cons hlt, List.drop_eq_getElem_cons hlt2, w64 _ (by omega) (by omega), show ((i : Int) + 1) = ((i + 1 : Nat) : Int) from rfl, RSame_l0 a b hab hl m (i + 1) k (by omega) (by omega)]
    rw [eqL_cons]
    unfold eqR
    cases h0 : (a[i]).f0 == (b[i]).f0 <;> cases h1 : (a[i]).f1 == (b[i]).f1 <;> simp
theorem RSame_eq (k : Nat) (a b : List S73) (hl : a.length ≤ 140737488351232) (hk : a.length + 1 ≤ k) : letterboxref12_Same.f k a b = some (eqL a b) := by
  unfold letterboxref12_Same.f
  by_cases h : a.length = b.length
  · rw [if_pos (by omega)]
    exact RSame_l0 a b h hl a.length 0 k (by omega) hk
  · rw [if_neg (by omega), eqL_len a b h]
end Go.Proofs.YtejhfghijgbckaaGreatDoor.Spec
namespace Go.Proofs.YtejhfghijgbckaaGreatDoor.Spec
open Go.RowKit Go.Proofs.YtejhfghijgbckaaGreatDoor Go.Proofs.YtejhfghijgbckaaGreatDoor.P Go.Proofs.YtejhfghijgbckaaGreatDoorW.PrintWords Go.Proofs.YtejhfghijgbckaaGreatDoorW.PrintLast Go.Proofs.YtejhfghijgbckaaGreatDoorW.PrintMore

theorem RHas_l0 (l : List S73) (n last : Int) (hl : l.length ≤ 140737488351232) : ∀ (m i k : Nat), i + m = l.length → 2 * m + 1 ≤ k → letterboxref12_Has.l0 k l n last i = some (decide (1 ≤ n) && (l.drop i).any (within n last))
  | 0, i, k, hi, hk => by
    obtain ⟨k, rfl⟩ : ∃ m, k = m + 1 := ⟨k - 1, by omega⟩
    rw [letterboxref12_Has.l0, if_neg (by omega), List.drop_of_length_le (by omega)]
    simp
  | m + 1, i, k, hi, hk => by
    obtain ⟨k, rfl⟩ : ∃ m, k = m + 2 := ⟨k - 2, by omega⟩
    have hlt : i < l.length := by omega
    rw [letterboxref12_Has.l0, if_pos (by omega), if_pos (by omega), rd_nat l i hlt, List.drop_eq_getElem_cons hlt, List.any_cons]
    have next := RHas_l0 l n last hl m (i + 1) k (by omega) (by omega)
    have hw : wrap64 ((i : Int) + 1) = ((i + 1 : Nat) : Int) := w64 _ (by omega) (by omega)
    have key : ∀ a b, (if n ≥ 1 then (if n ≥ (mn a b) then (if n ≤ (mx a b) then (some true) else (letterboxref12_Has.l0 k l n last (wrap64 ((i : Int) + 1)))) else (letterboxref12_Has.l0 k l n last (wrap64 ((i : Int) + 1)))) else (letterboxref12_Has.l0 k l n last (wrap64 ((i : Int) + 1)))) = some (decide (1 ≤ n) && ((decide (mn a b ≤ n) && decide (n ≤ mx a b)) || (l.drop (i + 1)).any (within n last))) := by
      intro a b
      rw [hw, next]
      by_cases h1 : 1 ≤ n
      · rw [if_pos h1, decide_eq_true h1]
        by_cases h2 : mn a b ≤ n
        · rw [if_pos h2, decide_eq_true h2]
          by_cases h3 : n ≤ mx a b
          · rw [if_pos h3, decide_eq_true h3]; rfl
          · rw [if_neg h3, decide_eq_false h3]; rfl
        · rw [if_neg h2, decide_eq_false h2]; rfl
      · rw [if_neg h1, decide_eq_false h1]; rfl
    unfold within endOf
    by_cases ha : (l[i]).f0 = 1073741824
    · rw [if_pos ha, if_pos ha, letterboxref12_Has.j1]
      by_cases hb : (l[i]).f1 = 1073741824
      · rw [if_pos hb, if_pos hb]; exact key _ _
      · rw [if_neg hb, if_neg hb]; exact key _ _
    · rw [if_neg ha, if_neg ha, letterboxref12_Has.j1]
      by_cases hb : (l[i]).f1 = 1073741824
      · rw [if_pos hb, if_pos hb]; exact key _ _
      · rw [if_neg hb, if_neg hb]; exact key _ _
theorem RHas_eq (k : Nat) (l : List S73) (n last : Int) (hl : l.length ≤ 140737488351232) (hk : 2 * l.length + 1 ≤ k) : letterboxref12_Has.f k l n last = span_Has.f l n last := by
  unfold letterboxref12_Has.f span_Has.f
  exact RHas_l0 l n last hl l.length 0 k (by omega) hk

theorem USame_l0 (a b : List S73) (hab : a.length = b.length) (hl : a.length ≤ 140737488351232) : ∀ (m i k : Nat), i + m = a.length → m + 1 ≤ k → api_Range.l0 k a b (a.length : Int) i = some (eqL (a.drop i) (b.drop i))
  | 0, i, k, hi, hk => by
    obtain ⟨k, rfl⟩ : ∃ m, k = m + 1 := ⟨k - 1, by omega⟩
    rw [api_Range.l0, if_neg (by omega), List.drop_of_length_le (by omega), List.drop_of_length_le (by omega)]
    rfl
  | m + 1, i, k, hi, hk => by
    obtain ⟨k, rfl⟩ : ∃ m, k = m + 1 := ⟨k - 1, by omega⟩
    have hlt : i < a.length := by omega
    have hlt2 : i < b.length := by omega
    rw [api_Range.l0, if_pos (by omega), if_pos (by omega), if_pos (by omega), if_pos (by omega), rd_nat a i hlt, rd_nat b i hlt2, List.drop_eq_getElem_cons hlt, List.drop_eq_getElem_cons hlt2, w64 _ (by omega) (by omega), show ((i : Int) + 1) = ((i + 1 : Nat) : Int) from rfl, USame_l0 a b hab hl m (i + 1) k (by omega) (by omega)]
    rw [eqL_cons]
    unfold eqR
    cases h0 : (a[i]).f0 == (b[i]).f0 <;> cases h1 : (a[i]).f1 == (b[i]).f1 <;> simp
theorem USame_eq (k : Nat) (a b : List S73) (hl : a.length ≤ 140737488351232) (hk : a.length + 1 ≤ k) : span_Same.f k a b = some (eqL a b) := by
  unfold span_Same.f api_Range.f
  by_cases h : a.length = b.length
  · rw [if_pos (by omega), show (0 : Int) = ((0 : Nat) : Int) from rfl, USame_l0 a b h hl a.length 0 k (by omega) hk]
    rfl
  · rw [if_neg (by omega), eqL_len a b h]
    rfl
end Go.Proofs.YtejhfghijgbckaaGreatDoor.Spec
-- halved
namespace Go.Proofs.YtejhfghijgbckaaGreatDoor.HSpec

def fl : List Int → Nat
 | [] => 0
 | c :: l => if c = 10 then 1 else fl l + 1
def pieces : List Int → List (List Int)
 | [] => [[]]
 | c :: l => if c = 10 then [10] :: pieces l else
  match pieces l with
  | [] => [[c]]
  | x :: xs => (c :: x) :: xs
def lines : List Int → List (List Int)
 | [] => []
 | c :: l => if c = 10 then [10] :: lines l else
  match lines l with
  | [] => [[c]]
  | x :: xs => (c :: x) :: xs

theorem fl_le : ∀ l, fl l ≤ l.length
 | [] => Nat.le_refl _
 | c :: l => by
  have := fl_le l
  unfold fl
  split <;> simp <;> omega
theorem fl_pos {l : List Int} (h : l ≠ []) : 0 < fl l := by
 cases l with
 | nil => exact absurd rfl h
 | cons c l => unfold fl; split <;> omega
theorem lines_ten {c : Int} (hc : c = 10) (l : List Int) : lines (c :: l) = [10] :: lines l := by
 conv => lhs; unfold lines
 rw [if_pos hc]
theorem lines_other {c : Int} (hc : ¬ c = 10) (l : List Int) : lines (c :: l) = match lines l with | [] => [[c]] | x :: xs => (c :: x) :: xs := by
 conv => lhs; unfold lines
 rw [if_neg hc]
theorem fl_ten {c : Int} (hc : c = 10) (l : List Int) : fl (c :: l) = 1 := by
 conv => lhs; unfold fl
 rw [if_pos hc]
theorem fl_other {c : Int} (hc : ¬ c = 10) (l : List Int) : fl (c :: l) = fl l + 1 := by
 conv => lhs; unfold fl
 rw [if_neg hc]
theorem lines_ne {l : List Int} (h : l ≠ []) : lines l = l.take (fl l) :: lines (l.drop (fl l)) := by
 induction l with
 | nil => exact absurd rfl h
 | cons c l ih =>
  by_cases hc : c = 10
  ·rw [lines_ten hc, fl_ten hc]
   simp [hc]
  ·rw [fl_other hc]
   cases l with
   | nil => rw [lines_other hc]; rfl
   | cons d l =>
    rw [lines_other hc, ih (by simp), List.drop_succ_cons, List.take_succ_cons]
theorem lines_nil : lines [] = [] := rfl
theorem line_ind {M : List Int → Prop} (h0 : M []) (h1 : ∀ l, l ≠ [] → M (l.drop (fl l)) → M l) : ∀ l, M l := by
 intro l
 generalize hn : l.length = n
 induction n using Nat.strongRecOn generalizing l with
 | _ n ih =>
  by_cases hl : l = []
  ·rw [hl]; exact h0
  ·have h2 := fl_pos hl
   have h3 := fl_le l
   exact h1 l hl (ih _ (by rw [List.length_drop]; omega) _ rfl)
theorem lines_flatten (l : List Int) : (lines l).flatten = l := by
 induction l using line_ind with
 | h0 => rfl
 | h1 l hl ih => rw [lines_ne hl, List.flatten_cons, ih, List.take_append_drop]
theorem lines_mem_mem {l x : List Int} {c : Int} (h : x ∈ lines l) (hc : c ∈ x) : c ∈ l := by
 rw [← lines_flatten l]
 exact List.mem_flatten.2 ⟨x, h, hc⟩
theorem lines_length_le (l : List Int) : (lines l).length ≤ l.length := by
 induction l using line_ind with
 | h0 => exact Nat.le_refl _
 | h1 l hl ih =>
  have h2 := fl_pos hl
  have h3 := fl_le l
  rw [lines_ne hl, List.length_cons]
  rw [List.length_drop] at ih
  omega
theorem pieces_lines (l : List Int) : (∃ x xs, pieces l = xs ++ [x] ∧ x ≠ [] ∧ lines l = xs ++ [x]) ∨ (pieces l = lines l ++ [[]]) := by
 induction l with
 | nil => exact .inr rfl
 | cons c l ih =>
  unfold pieces lines
  by_cases hc : c = 10
  ·rw [if_pos hc, if_pos hc]
   rcases ih with ⟨x, xs, h1, h2, h3⟩ | h
   ·exact .inl ⟨x, [10] :: xs, by rw [h1]; rfl, h2, by rw [h3]; rfl⟩
   ·exact .inr (by rw [h]; rfl)
  ·rw [if_neg hc, if_neg hc]
   rcases ih with ⟨x, xs, h1, h2, h3⟩ | h
   ·rw [h1, h3]
    cases xs with
    | nil => exact .inl ⟨c :: x, [], rfl, by simp, rfl⟩
    | cons y ys => exact .inl ⟨x, (c :: y) :: ys, rfl, h2, rfl⟩
   ·rw [h]
    cases hl : lines l with
    | nil => exact .inl ⟨[c], [], rfl, by simp, rfl⟩
    | cons y ys => exact .inr rfl

def strip (c : Int) (l : List Int) : List Int := if l.getLast? = some c then l.dropLast else l
def txt (l : List Int) : List Int := strip 13 (strip 10 l)
theorem strip_le (c : Int) (l : List Int) : (strip c l).length ≤ l.length := by
 unfold strip
 split
 ·simp
 ·exact Nat.le_refl _
theorem txt_le (l : List Int) : (txt l).length ≤ l.length := Nat.le_trans (strip_le _ _) (strip_le _ _)
theorem strip_mem {c x : Int} {l : List Int} (h : x ∈ strip c l) : x ∈ l := by
 unfold strip at h
 split at h
 ·exact (List.dropLast_sublist l).mem h
 ·exact h
theorem txt_mem {x : Int} {l : List Int} (h : x ∈ txt l) : x ∈ l := strip_mem (strip_mem h)
def upto : List (List Int) → Nat
 | [] => 0
 | x :: xs => if txt x = [] then x.length else x.length + upto xs
theorem upto_le : ∀ ls : List (List Int), upto ls ≤ ls.flatten.length
 | [] => Nat.le_refl _
 | x :: xs => by
  have := upto_le xs
  unfold upto
  rw [List.flatten_cons, List.length_append]
  split <;> omega
def hend (l : List Int) : Nat := upto (lines l)
theorem hend_le (l : List Int) : hend l ≤ l.length := by
 have := upto_le (lines l)
 rwa [lines_flatten] at this
end Go.Proofs.YtejhfghijgbckaaGreatDoor.HSpec
namespace Go.Proofs.YtejhfghijgbckaaGreatDoor.HPure
open Go.RowKit Go.Proofs.YtejhfghijgbckaaGreatDoor Go.Proofs.YtejhfghijgbckaaGreatDoor.P Go.Proofs.YtejhfghijgbckaaGreatDoor.HSpec Go.Proofs.YtejhfghijgbckaaGreatDoorW.PrintWords Go.Proofs.YtejhfghijgbckaaGreatDoorW.PrintLast Go.Proofs.YtejhfghijgbckaaGreatDoorW.PrintMore

theorem w64 (x : Int) (h0 : -4611686018427387904 ≤ x) (h1 : x ≤ 4611686018427387904) : wrap64 x = x := by
 unfold wrap64
 omega
theorem rd_nat (l : List Int) (i : Nat) : rd l (i : Int) = l.getD i 0 := by unfold rd; rw [Int.toNat_natCast]
theorem drop_at {l : List Int} {i : Nat} (h : i < l.length) : l.drop i = l.getD i 0 :: l.drop (i + 1) := by
 rw [List.drop_eq_getElem_cons h, List.getD_eq_getElem?_getD, List.getElem?_eq_getElem h]
 rfl

theorem next_eq (l : List Int) (hl : l.length ≤ 1000000) : ∀ (k i : Nat), i ≤ l.length → l.length - i < k → letterboxref9_next.l0 k l i = some ((i + fl (l.drop i) : Nat) : Int)
 | 0, _, _, h => absurd h (by omega)
 | k + 1, i, hi, hk => by
  unfold letterboxref9_next.l0
  by_cases hlt : i < l.length
  ·rw [if_pos (by omega), if_pos (by omega), rd_nat, drop_at hlt]
   by_cases hc : l.getD i 0 = 10
   ·rw [if_pos hc, fl_ten hc, w64 _ (by omega) (by omega)]
    unfold mn
    rw [if_neg (by omega)]
    rfl
   ·rw [if_neg hc, fl_other hc, w64 _ (by omega) (by omega), show ((i : Int) + 1) = ((i + 1 : Nat) : Int) from rfl, next_eq l hl k (i + 1) (by omega) (by omega)]
    congr 2
    omega
  ·obtain rfl : i = l.length := by omega
   rw [if_neg (by omega), List.drop_length, w64 _ (by omega) (by omega)]
   unfold mn
   rw [if_pos (by omega)]
   rfl

theorem strip_last {l : List Int} (h : l ≠ []) (c : Int) : strip c l = if l.getD (l.length - 1) 0 = c then l.take (l.length - 1) else l := by
 have hp : l.length - 1 < l.length := by have := List.length_pos_iff.2 h; omega
 unfold strip
 rw [List.getLast?_eq_getElem?, List.getElem?_eq_getElem hp, List.getD_eq_getElem?_getD, List.getElem?_eq_getElem hp, ← List.dropLast_eq_take]
 simp only [Option.some.injEq, Option.getD_some]
theorem Text_j0 (k : Nat) (l : List Int) (hl : l.length ≤ 1000000) (b : Bool) (hb : b = true ↔ (l ≠ [] ∧ l.getD (l.length - 1) 0 = 10)) : letterboxref9_Text.j0 (k + 1) l b = some (txt l) := by
 have tail : ∀ y : List Int, y.length ≤ 1000000 → (if (y.length : Int) > 0 then (if 0 ≤ (wrap64 ((y.length : Int) - 1)) then (if (wrap64 ((y.length : Int) - 1)) < (y.length : Int) then (if (rd y (wrap64 ((y.length : Int) - 1))) = 13 then (if (wrap64 ((y.length : Int) - 1)) ≤ (y.length : Int) then (some (y.take ((wrap64 ((y.length : Int) - 1)) : Int).toNat)) else (none)) else (some y)) else (none)) else (none)) else (some y)) = some (strip 13 y) := by
  intro y hy
  by_cases h0 : y = []
  ·subst h0
   rfl
  ·have hp := List.length_pos_iff.2 h0
   rw [if_pos (by omega), w64 _ (by omega) (by omega), show ((y.length : Int) - 1) = ((y.length - 1 : Nat) : Int) by omega, if_pos (by omega), if_pos (by omega), rd_nat, strip_last h0]
   split
   ·rw [if_pos (by omega), Int.toNat_natCast]
   ·rfl
 rw [letterboxref9_Text.j0]
 by_cases h : b = true
 ·obtain ⟨h0, h10⟩ := hb.1 h
  have hp := List.length_pos_iff.2 h0
  rw [if_pos h, w64 ((l.length : Int) - 1) (by omega) (by omega), if_pos (by omega), if_pos (by omega), Option.bind_some, tail _ (by rw [List.length_take]; omega)]
  unfold txt
  rw [strip_last h0 10, if_pos h10, show ((l.length : Int) - 1).toNat = l.length - 1 by omega]
 ·rw [if_neg h, tail l hl]
  unfold txt
  by_cases h0 : l = []
  ·subst h0; rfl
  ·rw [strip_last h0 10, if_neg (fun h10 => h (hb.2 ⟨h0, h10⟩))]
theorem Text_eq (k : Nat) (l : List Int) (hl : l.length ≤ 1000000) (hk : 0 < k) : letterboxref9_Text.f k l = some (txt l) := by
 obtain ⟨k, rfl⟩ : ∃ j, k = j + 1 := ⟨k - 1, by omega⟩
 unfold letterboxref9_Text.f
 by_cases h0 : l = []
 ·rw [if_neg (by simp [h0])]
  exact Text_j0 k l hl _ (by simp [h0])
 ·have hp := List.length_pos_iff.2 h0
  rw [if_pos (by omega), w64 _ (by omega) (by omega), show ((l.length : Int) - 1) = ((l.length - 1 : Nat) : Int) by omega, if_pos (by omega), if_pos (by omega), rd_nat]
  exact Text_j0 k l hl _ (by simp [h0])
theorem piece_at (l : List Int) (i : Nat) : (l.take (i + fl (l.drop i))).drop i = (l.drop i).take (fl (l.drop i)) := by
 rw [List.drop_take]
 congr 1
 omega
theorem RefSplit_l0 (l : List Int) (hl : l.length ≤ 1000000) : ∀ (k i : Nat) (acc : List (List Int)), i ≤ l.length → l.length - i + 1 < k → acc.length + (l.length - i) ≤ 1000000 → letterboxref9_Split.l0 k l acc i = some (acc ++ (lines (l.drop i)).map txt)
 | 0, _, _, _, h, _ => absurd h (by omega)
 | k + 1, i, acc, hi, hk, ha => by
  unfold letterboxref9_Split.l0
  by_cases hlt : i < l.length
  ·have hne : l.drop i ≠ [] := by rw [drop_at hlt]; simp
   have hp := fl_pos hne
   have hle := fl_le (l.drop i)
   rw [List.length_drop] at hle
   rw [if_pos (by omega)]
   unfold letterboxref9_next.f
   rw [next_eq l hl k i hi (by omega), Option.bind_some, if_pos (by omega), if_pos (by omega), if_pos (by omega), Int.toNat_natCast, Int.toNat_natCast, piece_at, Text_eq _ _ (by rw [List.length_take, List.length_drop]; omega) (by omega), Option.bind_some, if_pos (by omega), RefSplit_l0 l hl k _ _ (by omega) (by omega) (by simp; omega), lines_ne hne, List.map_cons, List.drop_drop, List.append_assoc]
   rfl
  ·obtain rfl : i = l.length := by omega
   rw [if_neg (by omega), List.drop_length, lines_nil, List.map_nil, List.append_nil]
theorem RefSplit_eq (k : Nat) (l : List Int) (hl : l.length ≤ 1000000) (hk : l.length + 1 < k) : letterboxref9_Split.f k l = some ((lines l).map txt) := by
 unfold letterboxref9_Split.f
 exact RefSplit_l0 l hl k 0 [] (by omega) (by omega) (by simp; omega)
theorem RefEnd_l0 (l : List Int) (hl : l.length ≤ 1000000) : ∀ (k i : Nat), i ≤ l.length → l.length - i + 1 < k → letterboxref9_End.l0 k l i = some ((i + upto (lines (l.drop i)) : Nat) : Int)
 | 0, _, _, h => absurd h (by omega)
 | k + 1, i, hi, hk => by
  unfold letterboxref9_End.l0
  by_cases hlt : i < l.length
  ·have hne : l.drop i ≠ [] := by rw [drop_at hlt]; simp
   have hp := fl_pos hne
   have hle := fl_le (l.drop i)
   rw [List.length_drop] at hle
   rw [if_pos (by omega)]
   unfold letterboxref9_next.f
   rw [next_eq l hl k i hi (by omega), Option.bind_some, if_pos (by omega), if_pos (by omega), if_pos (by omega), Int.toNat_natCast, Int.toNat_natCast, piece_at, Text_eq _ _ (by rw [List.length_take, List.length_drop]; omega) (by omega), Option.bind_some, lines_ne hne]
   unfold upto
   by_cases ht : txt ((l.drop i).take (fl (l.drop i))) = []
   ·rw [if_pos (by rw [ht]; rfl), if_pos ht, List.length_take, List.length_drop]
    congr 2
    omega
   ·rw [if_neg (by intro h; exact ht (List.eq_nil_of_length_eq_zero (by omega))), if_neg ht, RefEnd_l0 l hl k _ (by omega) (by omega), List.length_take, List.length_drop, List.drop_drop]
    congr 2
    omega
  ·obtain rfl : i = l.length := by omega
   rw [if_neg (by omega), List.drop_length, lines_nil]
   rfl
theorem RefEnd_eq (k : Nat) (l : List Int) (hl : l.length ≤ 1000000) (hk : l.length + 1 < k) : letterboxref9_End.f k l = some (hend l : Int) := by
 unfold letterboxref9_End.f
 rw [show (0 : Int) = ((0 : Nat) : Int) from rfl, RefEnd_l0 l hl k 0 (by omega) (by omega), Nat.zero_add]
 rfl
theorem RefHead_eq (k : Nat) (l : List Int) (hl : l.length ≤ 1000000) (hk : l.length + 1 < k) : letterboxref9_Head.f k l = some (l.take (hend l)) := by
 have := hend_le l
 unfold letterboxref9_Head.f
 rw [RefEnd_eq k l hl hk, Option.bind_some, if_pos (by omega), if_pos (by omega), Int.toNat_natCast]
end Go.Proofs.YtejhfghijgbckaaGreatDoor.HPure
namespace Go.Proofs.YtejhfghijgbckaaGreatDoor.HPure
open Go.RowKit Go.Proofs.YtejhfghijgbckaaGreatDoor Go.Proofs.YtejhfghijgbckaaGreatDoor.P Go.Proofs.YtejhfghijgbckaaGreatDoor.HSpec Go.Proofs.YtejhfghijgbckaaGreatDoorW.PrintWords Go.Proofs.YtejhfghijgbckaaGreatDoorW.PrintLast Go.Proofs.YtejhfghijgbckaaGreatDoorW.PrintMore

def Byt (l : List Int) : Prop := ∀ x ∈ l, 0 ≤ x ∧ x < 256
theorem Byt.tail {c : Int} {l : List Int} (h : Byt (c :: l)) : Byt l := fun x hx => h x (List.mem_cons_of_mem _ hx)
theorem Byt.head {c : Int} {l : List Int} (h : Byt (c :: l)) : 0 ≤ c ∧ c < 256 := h c List.mem_cons_self
theorem Byt.drop {l : List Int} (h : Byt l) (n : Nat) : Byt (l.drop n) := fun x hx => h x (List.mem_of_mem_drop hx)
theorem Byt.take {l : List Int} (h : Byt l) (n : Nat) : Byt (l.take n) := fun x hx => h x (List.mem_of_mem_take hx)
theorem Byt.line {l x : List Int} (h : Byt l) (hx : x ∈ lines l) : Byt x := fun c hc => h c (lines_mem_mem hx hc)
theorem Byt.txt {l : List Int} (h : Byt l) : Byt (txt l) := fun x hx => h x (txt_mem hx)
theorem u8_eq {x c : Int} (hx : 0 ≤ x ∧ x < 256) (hc : 0 ≤ c ∧ c < 256) : (UInt8.ofNat x.toNat = UInt8.ofNat c.toNat) ↔ x = c := by
 constructor
 ·intro h
  have := congrArg UInt8.toNat h
  simp only [UInt8.toNat_ofNat'] at this
  omega
 ·rintro rfl
  rfl
theorem index_ten {l : List Int} (h : Byt l) : Lib.indexByte (Lib.bytesOf l) (10 : Int).toNat.toUInt8 = if (10 : Int) ∈ l then (fl l : Int) - 1 else -1 := by
 induction l with
 | nil => rfl
 | cons c l ih =>
  have ih := ih h.tail
  have hb : Lib.bytesOf (c :: l) = UInt8.ofNat c.toNat :: Lib.bytesOf l := rfl
  rw [hb]
  unfold Lib.indexByte
  by_cases hc : c = 10
  ·subst hc
   rw [fl_ten rfl]
   simp
  ·have hne : (UInt8.ofNat c.toNat == (10 : Int).toNat.toUInt8) = false := by
    rw [beq_eq_false_iff_ne]
    intro he
    exact hc ((u8_eq h.head ⟨by decide, by decide⟩).1 he)
   rw [hne, ih, fl_other hc]
   by_cases hm : (10 : Int) ∈ l
   ·have hp := fl_pos (l := l) (by rintro rfl; cases hm)
    rw [if_pos hm, if_pos (List.mem_cons_of_mem _ hm)]
    have h1 : (((fl l : Int) - 1) == -1) = false := beq_eq_false_iff_ne.2 (by omega)
    rw [h1, if_neg (by decide), if_neg (by decide)]
    omega
   ·have hm2 : ¬ (10 : Int) ∈ c :: l := by
     intro hh
     rcases List.mem_cons.1 hh with h1 | h1
     ·exact hc h1.symm
     ·exact hm h1
    rw [if_neg hm, if_neg hm2, if_neg (by decide)]
    rfl
theorem count_ten {l : List Int} (h : Byt l) : Lib.countByte (Lib.bytesOf l) (10 : Int).toNat.toUInt8 = l.count 10 := by
 unfold Lib.countByte
 induction l with
 | nil => rfl
 | cons c l ih =>
  have ih := ih h.tail
  have hb : Lib.bytesOf (c :: l) = UInt8.ofNat c.toNat :: Lib.bytesOf l := rfl
  rw [hb, List.count_cons, List.count_cons, ih]
  congr 1
  by_cases hc : c = 10
  ·subst hc; rfl
  ·have h1 : (UInt8.ofNat c.toNat == (10 : Int).toNat.toUInt8) = false := by
    rw [beq_eq_false_iff_ne]
    intro he
    exact hc ((u8_eq h.head ⟨by decide, by decide⟩).1 he)
   have h2 : (c == (10 : Int)) = false := beq_eq_false_iff_ne.2 hc
   rw [h1, h2]
theorem pieces_in {l : List Int} (h : (10 : Int) ∈ l) : pieces l = l.take (fl l) :: pieces (l.drop (fl l)) := by
 induction l with
 | nil => cases h
 | cons c l ih =>
  by_cases hc : c = 10
  ·rw [fl_ten hc]
   conv => lhs; unfold pieces
   rw [if_pos hc]
   simp [hc]
  ·have hm : (10 : Int) ∈ l := by rcases List.mem_cons.1 h with h1 | h1; exact absurd h1.symm hc; exact h1
   rw [fl_other hc]
   conv => lhs; unfold pieces
   rw [if_neg hc, ih hm, List.drop_succ_cons, List.take_succ_cons]
theorem pieces_out {l : List Int} (h : ¬ (10 : Int) ∈ l) : pieces l = [l] := by
 induction l with
 | nil => rfl
 | cons c l ih =>
  conv => lhs; unfold pieces
  rw [if_neg (by intro hc; exact h (by simp [hc])), ih (fun hm => h (List.mem_cons_of_mem _ hm))]
theorem count_fl {l : List Int} (h : (10 : Int) ∈ l) : l.count 10 = (l.drop (fl l)).count 10 + 1 := by
 induction l with
 | nil => cases h
 | cons c l ih =>
  by_cases hc : c = 10
  ·rw [fl_ten hc, List.count_cons]
   simp [hc]
  ·have hm : (10 : Int) ∈ l := by rcases List.mem_cons.1 h with h1 | h1; exact absurd h1.symm hc; exact h1
   rw [fl_other hc, List.count_cons, List.drop_succ_cons, ih hm]
   simp [hc]
theorem take_set {α : Type} (l : List α) (i : Nat) (x : α) (h : i < l.length) : (l.set i x).take (i + 1) = l.take i ++ [x] := by
 rw [List.take_succ_eq_append_getElem (by simpa using h), List.getElem_set_self, List.take_set_of_le (Nat.le_refl _)]
theorem genSplit_l0 (n : Nat) (hn : n ≤ 1000000) : ∀ (k i : Nat) (s : List Int) (a : List (List Int)), Byt s → s.length ≤ 1000000 → i + s.count 10 = n → a.length = n + 1 → s.count 10 < k → G.bytes_genSplit.l0 k s [10] 1 n a i = some (a.take i ++ pieces s)
 | 0, _, _, _, _, _, _, _, h => absurd h (by omega)
 | k + 1, i, s, a, hb, hl, hi, ha, hk => by
  have hfl := fl_le s
  unfold G.bytes_genSplit.l0
  by_cases hm : (10 : Int) ∈ s
  ·have hc := count_fl hm
   have hp := fl_pos (l := s) (by rintro rfl; cases hm)
   have hix : bytes_Index.f s [10] = some ((fl s : Int) - 1) := by
    unfold bytes_Index.f
    simp only
    rw [index_ten hb, if_pos hm]
   rw [if_pos (by omega), hix, Option.bind_some, if_neg (by omega), w64 ((fl s : Int) - 1 + 1) (by omega) (by omega), if_pos (by omega), if_pos (by omega), if_pos (by omega), if_pos (by omega)]
   simp only [List.length_cons, List.length_nil]
   rw [w64 _ (by omega) (by omega), if_pos (by omega), if_pos (by omega), Int.toNat_natCast, show ((fl s : Int) - 1 + ((0 + 1 : Nat) : Int)).toNat = fl s by omega, show ((fl s : Int) - 1 + 1).toNat = fl s by omega, w64 _ (by omega) (by omega), show ((i : Int) + 1) = ((i + 1 : Nat) : Int) from rfl,
    genSplit_l0 n hn k (i + 1) _ _ (hb.drop _) (by rw [List.length_drop]; omega) (by omega) (by rw [List.length_set]; exact ha) (by omega), take_set _ _ _ (by omega), pieces_in hm, List.append_assoc]
   rfl
  ·have hc : s.count 10 = 0 := List.count_eq_zero.2 hm
   rw [if_neg (by omega), if_pos (by omega), if_pos (by omega), w64 _ (by omega) (by omega), if_pos (by omega), if_pos (by omega), Int.toNat_natCast, show ((i : Int) + 1).toNat = i + 1 by omega, take_set _ _ _ (by omega), pieces_out hm]
theorem SplitAfter_eq (k : Nat) (l : List Int) (hb : Byt l) (hl : l.length ≤ 100000) (hk : l.length + 1 < k) : bytes_SplitAfter.f k l [10] = some (pieces l) := by
 obtain ⟨k, rfl⟩ : ∃ j, k = j + 1 := ⟨k - 1, by omega⟩
 have hc := List.count_le_length (a := (10 : Int)) (l := l)
 have hct : bytes_Count.f l [10] = some (l.count 10 : Int) := by
  unfold bytes_Count.f
  simp only
  rw [count_ten hb]
 unfold bytes_SplitAfter.f G.bytes_SplitAfter.f G.bytes_genSplit.f
 simp only [List.length_cons, List.length_nil]
 rw [if_neg (by omega), if_neg (by omega), if_pos (by omega), hct, Option.bind_some, w64 _ (by omega) (by omega)]
 rw [G.bytes_genSplit.j0]
 have hmn : mn ((l.count 10 : Int) + 1) (wrap64 ((l.length : Int) + 1)) = ((l.count 10 + 1 : Nat) : Int) := by
  rw [w64 _ (by omega) (by omega)]
  unfold mn
  rw [if_neg (by omega)]
  rfl
 rw [hmn, if_pos (by omega), Int.toNat_natCast, if_pos (by omega), w64 _ (by omega) (by omega), show (((l.count 10 + 1 : Nat) : Int) - 1) = ((l.count 10 : Nat) : Int) by omega, show (0 : Int) = ((0 : Nat) : Int) from rfl]
 have := genSplit_l0 (l.count 10) (by omega) k 0 l (List.replicate (l.count 10 + 1) []) hb (by omega) (by omega) (by simp) (by omega)
 simpa using this
theorem cut_eq (k : Nat) (l : List Int) (hb : Byt l) (hl : l.length ≤ 100000) (hk : l.length + 1 < k) : head_cut.f k l = some (lines l) := by
 unfold head_cut.f
 by_cases h0 : l = []
 ·rw [if_pos (by simp [h0]), h0, lines_nil]
 ·have hlp := List.length_pos_iff.2 h0
  have hpl := lines_length_le l
  rw [if_neg (by omega), SplitAfter_eq k l hb hl hk, Option.bind_some]
  rcases pieces_lines l with ⟨x, xs, h1, h2, h3⟩ | h
  ·rw [h3, List.length_append, List.length_singleton] at hpl
   have hx := List.length_pos_iff.2 h2
   rw [h1, h3, List.length_append, List.length_singleton, w64 _ (by omega) (by omega), if_pos (by omega), if_pos (by omega), if_neg]
   unfold rd_L7
   rw [List.getD_eq_getElem?_getD, show (((xs.length + 1 : Nat) : Int) - 1).toNat = xs.length by omega, List.getElem?_append_right (Nat.le_refl _), Nat.sub_self]
   simp
   omega
  ·rw [h, List.length_append, List.length_singleton, w64 _ (by omega) (by omega), if_pos (by omega), if_pos (by omega), if_pos, if_pos (by omega), show ((((lines l).length + 1 : Nat) : Int) - 1).toNat = (lines l).length by omega, List.take_left']
   ·rfl
   ·unfold rd_L7
    rw [List.getD_eq_getElem?_getD, show ((((lines l).length + 1 : Nat) : Int) - 1).toNat = (lines l).length by omega, List.getElem?_append_right (Nat.le_refl _), Nat.sub_self]
    rfl
theorem suffix_last (l : List Int) (c : Int) (hb : Byt l) (hc : 0 ≤ c ∧ c < 256) : Lib.hasSuffix (Lib.bytesOf l) (Lib.bytesOf [c]) = decide (l.getLast? = some c) := by
 unfold Lib.hasSuffix
 rw [Bool.eq_iff_iff, List.isSuffixOf_iff_suffix, decide_eq_true_eq]
 rcases List.eq_nil_or_concat l with rfl | ⟨m, x, rfl⟩
 ·constructor
  ·intro h
   have := h.length_le
   simp [Lib.bytesOf] at this
  ·intro h; cases h
 ·rw [List.concat_eq_append] at hb ⊢
  have hbx : 0 ≤ x ∧ x < 256 := hb x (by simp)
  rw [List.getLast?_concat]
  have e1 : Lib.bytesOf (m ++ [x]) = Lib.bytesOf m ++ [UInt8.ofNat x.toNat] := by simp [Lib.bytesOf]
  have e2 : Lib.bytesOf [c] = [UInt8.ofNat c.toNat] := rfl
  rw [e1, e2]
  constructor
  ·intro h
   obtain ⟨t, ht⟩ := h
   have := (List.append_inj_right' ht rfl)
   injection this with this
   rw [(u8_eq hc hbx).1 this]
  ·intro h
   injection h with h
   subst h
   exact ⟨_, rfl⟩
theorem TrimSuffix_eq (l : List Int) (c : Int) (hb : Byt l) (hc : 0 ≤ c ∧ c < 256) (hl : l.length ≤ 1000000) : bytes_TrimSuffix.f l [c] = some (strip c l) := by
 unfold bytes_TrimSuffix.f bytes_HasSuffix.f
 rw [Option.bind_some, suffix_last l c hb hc]
 unfold strip
 by_cases h : l.getLast? = some c
 ·have hne : l ≠ [] := by rintro rfl; cases h
  have hp := List.length_pos_iff.2 hne
  rw [decide_eq_true h, if_pos rfl, if_pos h]
  simp only [List.length_cons, List.length_nil]
  rw [w64 _ (by omega) (by omega), if_pos (by omega), if_pos (by omega), List.dropLast_eq_take, show ((l.length : Int) - ((0 + 1 : Nat) : Int)).toNat = l.length - 1 by omega]
 ·rw [decide_eq_false h, if_neg (by simp), if_neg h]
theorem text_eq (l : List Int) (hb : Byt l) (hl : l.length ≤ 1000000) : head_text.f l = some (txt l) := by
 unfold head_text.f txt
 have h1 := strip_le 10 l
 rw [TrimSuffix_eq l 10 hb ⟨by decide, by decide⟩ hl, Option.bind_some, TrimSuffix_eq _ 13 (fun x hx => hb x (strip_mem hx)) ⟨by decide, by decide⟩ (by omega), Option.bind_some]
theorem rd_L7_nat (ls : List (List Int)) (i : Nat) : rd_L7 ls (i : Int) = ls.getD i [] := by unfold rd_L7; rw [Int.toNat_natCast]
theorem drop_atL {ls : List (List Int)} {i : Nat} (h : i < ls.length) : ls.drop i = ls.getD i [] :: ls.drop (i + 1) := by
 rw [List.drop_eq_getElem_cons h, List.getD_eq_getElem?_getD, List.getElem?_eq_getElem h]
 rfl
theorem getD_mem {ls : List (List Int)} {i : Nat} (h : i < ls.length) : ls.getD i [] ∈ ls := by
 rw [List.getD_eq_getElem?_getD, List.getElem?_eq_getElem h]
 exact List.getElem_mem h
theorem flat_at {ls : List (List Int)} {i : Nat} (h : i < ls.length) : (ls.drop i).flatten.length = (ls.getD i []).length + (ls.drop (i + 1)).flatten.length := by
 rw [drop_atL h, List.flatten_cons, List.length_append]
theorem end_l0 (ls : List (List Int)) (hb : ∀ x ∈ ls, Byt x) (hn : ls.length ≤ 1000000) : ∀ (k i m : Nat), i ≤ ls.length → ls.length - i < k → m + (ls.drop i).flatten.length ≤ 1000000 → head_end.l0 k m ls ls.length i = some ((m + upto (ls.drop i) : Nat) : Int)
 | 0, _, _, _, h, _ => absurd h (by omega)
 | k + 1, i, m, hi, hk, hm => by
  unfold head_end.l0
  by_cases hlt : i < ls.length
  ·have hf := flat_at hlt
   rw [if_pos (by omega), if_pos (by omega), if_pos (by omega), rd_L7_nat, text_eq _ (hb _ (getD_mem hlt)) (by omega), Option.bind_some, drop_atL hlt]
   unfold upto
   by_cases ht : txt (ls.getD i []) = []
   ·rw [if_pos (by rw [ht]; rfl), if_pos ht, w64 _ (by omega) (by omega)]
    rfl
   ·rw [if_neg (by intro h; exact ht (List.eq_nil_of_length_eq_zero (by omega))), if_neg ht, w64 _ (by omega) (by omega), w64 _ (by omega) (by omega), show ((m : Int) + ((ls.getD i []).length : Int)) = ((m + (ls.getD i []).length : Nat) : Int) from rfl, show ((i : Int) + 1) = ((i + 1 : Nat) : Int) from rfl, end_l0 ls hb hn k _ _ (by omega) (by omega) (by omega)]
    congr 2
    omega
  ·obtain rfl : i = ls.length := by omega
   rw [if_neg (by omega), List.drop_length]
   rfl
theorem end_eq (k : Nat) (l : List Int) (hb : Byt l) (hl : l.length ≤ 100000) (hk : l.length + 1 < k) : head_end.f k l = some (hend l : Int) := by
 have h1 := lines_length_le l
 unfold head_end.f
 rw [cut_eq k l hb hl hk, Option.bind_some]
 have := end_l0 (lines l) (fun x hx => hb.line hx) (by omega) k 0 0 (by omega) (by omega) (by rw [List.drop_zero, lines_flatten]; omega)
 rw [show (0 : Int) = ((0 : Nat) : Int) from rfl, this, Nat.zero_add]
 rfl
end Go.Proofs.YtejhfghijgbckaaGreatDoor.HPure
namespace Go.Proofs.YtejhfghijgbckaaGreatDoor.HPure
open Go.RowKit Go.Proofs.YtejhfghijgbckaaGreatDoor Go.Proofs.YtejhfghijgbckaaGreatDoor.P Go.Proofs.YtejhfghijgbckaaGreatDoor.HSpec Go.Proofs.YtejhfghijgbckaaGreatDoorW.PrintWords Go.Proofs.YtejhfghijgbckaaGreatDoorW.PrintLast Go.Proofs.YtejhfghijgbckaaGreatDoorW.PrintMore

theorem ext_list {s t : ByteArray} (h : s.data.toList = t.data.toList) : s = t := ByteArray.ext (Array.toList_inj.1 h)
theorem extract_list (s : ByteArray) (a b : Nat) : (s.extract a b).data.toList = (s.data.toList.take b).drop a := by
 simp [ByteArray.data_extract, List.drop_take]
def blk (b : UInt8) : Bool := b == 32 || b == 9
def stripR (l : List UInt8) : List UInt8 := (l.reverse.dropWhile blk).reverse
theorem stripR_cons (c : UInt8) (l : List UInt8) : stripR (c :: l) = if stripR l = [] then (if blk c then [] else [c]) else c :: stripR l := by
 unfold stripR
 rw [List.reverse_cons, List.dropWhile_append]
 by_cases h : List.dropWhile blk l.reverse = []
 ·rw [h]
  simp only [List.isEmpty_nil, if_true, List.reverse_nil]
  by_cases hc : blk c = true
  ·simp [List.dropWhile, hc]
  ·simp [List.dropWhile, hc]
 ·have h2 : (List.dropWhile blk l.reverse).isEmpty = false := by
   cases hh : List.dropWhile blk l.reverse with
   | nil => exact absurd hh h
   | cons _ _ => rfl
  rw [h2, if_neg (by decide), if_neg (by simpa using h), List.reverse_append]
  rfl
theorem strip_comm : ∀ l : List UInt8, (stripR l).dropWhile blk = stripR (l.dropWhile blk)
 | [] => rfl
 | c :: l => by
  have ih := strip_comm l
  rw [stripR_cons]
  by_cases hc : blk c = true
  ·have hd : List.dropWhile blk (c :: l) = List.dropWhile blk l := by simp [List.dropWhile, hc]
   rw [hd]
   by_cases hs : stripR l = []
   ·rw [if_pos hs, if_pos hc, ← ih, hs]
   ·rw [if_neg hs, ← ih]
    simp [List.dropWhile, hc]
  ·have hd : List.dropWhile blk (c :: l) = c :: l := by simp [List.dropWhile, hc]
   rw [hd, stripR_cons]
   split
   ·simp [List.dropWhile, hc]
   ·simp [List.dropWhile, hc]
def trimB (s : ByteArray) : ByteArray := ⟨(Lib.trimS s.data.toList [32, 9]).toArray⟩
theorem contains_blk (b : UInt8) : List.contains [32, 9] b = blk b := by
 unfold blk
 simp only [List.contains, List.elem]
 cases b == 32 <;> cases b == 9 <;> rfl
theorem trimB_list (s : ByteArray) : (trimB s).data.toList = stripR (s.data.toList.dropWhile blk) := by
 have hp : (fun b => List.contains [32, 9] b) = blk := funext contains_blk
 unfold trimB Lib.trimS Lib.trimLeftS Lib.trimRightS
 rw [hp]
 exact strip_comm _
theorem stripR_le (l : List UInt8) : (stripR l).length ≤ l.length := by
 unfold stripR
 rw [List.length_reverse]
 have := (List.dropWhile_sublist blk (l := l.reverse)).length_le
 rwa [List.length_reverse] at this
theorem trimB_le (s : ByteArray) : (trimB s).size ≤ s.size := by
 rw [Lib.size_eq, Lib.size_eq, trimB_list]
 exact Nat.le_trans (stripR_le _) (List.dropWhile_sublist blk).length_le
theorem trim_eq (s : ByteArray) (h : s.size ≤ 9223372036854775807) : strings_Trim.f s ⟨#[32, 9]⟩ = some (trimB s) := by
 unfold strings_Trim.f trimB
 rw [if_pos ⟨h, by decide, by decide⟩]

theorem bt_nat (s : ByteArray) (i : Nat) (b : UInt8) (h : s.data.toList[i]? = some b) : bt s (i : Int) = (b.toNat : Int) := by
 have hi : i < s.size := by rw [Lib.size_eq]; exact (List.getElem?_eq_some_iff.1 h).1
 have h2 := Lib.data_getElem? s i hi
 rw [h] at h2
 unfold bt
 simp only [Int.toNat_natCast]
 rw [dif_pos hi, ← Option.some.inj h2]
theorem blank_eq (b : UInt8) : letterboxref9_blank.f (b.toNat : Int) = some (blk b) := by
 unfold letterboxref9_blank.f blk
 by_cases h : (b.toNat : Int) = 32
 ·obtain rfl : b = 32 := UInt8.toNat_inj.1 (by simpa using (Int.ofNat_inj.1 h))
  rfl
 ·rw [if_neg h]
  have h1 : (b == 32) = false := by
   rw [beq_eq_false_iff_ne]
   rintro rfl
   exact h rfl
  rw [h1, Bool.false_or]
  congr 1
  rw [Bool.eq_iff_iff, beq_iff_eq, beq_iff_eq]
  constructor
  ·intro h; exact UInt8.toNat_inj.1 (by simpa using (Int.ofNat_inj.1 h))
  ·rintro rfl; rfl
theorem RTrim_l1 : ∀ (k : Nat) (s : ByteArray), s.size < k → s.size ≤ 1000000 → letterboxref9_Trim.l1 k s = some ⟨(stripR s.data.toList).toArray⟩
 | 0, _, h, _ => absurd h (by omega)
 | k + 1, s, hk, hb => by
  unfold letterboxref9_Trim.l1
  have hsz := Lib.size_eq s
  rcases List.eq_nil_or_concat s.data.toList with h0 | ⟨m, x, h0⟩
  ·rw [h0] at hsz
   have hz : s.size = 0 := hsz
   rw [if_neg (by omega), h0]
   congr 1
   exact ext_list (by rw [h0]; rfl)
  ·rw [List.concat_eq_append] at h0
   rw [h0, List.length_append, List.length_singleton] at hsz
   have hx : s.data.toList[m.length]? = some x := by rw [h0, List.getElem?_append_right (Nat.le_refl _), Nat.sub_self]; rfl
   rw [if_pos (by omega), w64 _ (by omega) (by omega), show ((s.size : Int) - 1) = ((m.length : Nat) : Int) by omega, if_pos (by omega), if_pos (by omega), bt_nat s _ x hx, blank_eq, Option.bind_some]
   have hr : stripR (m ++ [x]) = if blk x then stripR m else m ++ [x] := by
    unfold stripR
    rw [List.reverse_append]
    show (List.dropWhile blk (x :: m.reverse)).reverse = _
    by_cases hbx : blk x = true
    ·simp [List.dropWhile, hbx]
    ·simp [List.dropWhile, hbx]
   rw [h0, hr]
   by_cases hbx : blk x = true
   ·have he : (s.extract 0 m.length).data.toList = m := by
     rw [extract_list, h0, List.drop_zero, List.take_left']
     rfl
    have hes : (s.extract 0 m.length).size = m.length := by rw [Lib.size_eq, he]
    rw [if_pos hbx, if_pos hbx, if_pos (by omega), Int.toNat_natCast, RTrim_l1 k _ (by omega) (by omega), he]
   ·rw [if_neg hbx, if_neg hbx]
    congr 1
    exact ext_list h0
theorem RTrim_l0 : ∀ (k : Nat) (s : ByteArray), s.size + s.size + 3 < k → s.size ≤ 1000000 → letterboxref9_Trim.l0 k s = some (trimB s)
 | 0, _, h, _ => absurd h (by omega)
 | k + 1, s, hk, hb => by
  have fin : letterboxref9_Trim.j1 k s = some ⟨(stripR s.data.toList).toArray⟩ := by
   obtain ⟨k, rfl⟩ : ∃ j, k = j + 1 := ⟨k - 1, by omega⟩
   unfold letterboxref9_Trim.j1
   exact RTrim_l1 k s (by omega) hb
  unfold letterboxref9_Trim.l0
  have hsz := Lib.size_eq s
  cases h0 : s.data.toList with
  | nil =>
   rw [h0] at hsz fin
   have hz : s.size = 0 := hsz
   rw [if_neg (by omega), fin]
   congr 1
   exact ext_list (by rw [trimB_list, h0]; rfl)
  | cons x m =>
   rw [h0, List.length_cons] at hsz
   have hx : s.data.toList[0]? = some x := by rw [h0]; rfl
   rw [if_pos (by omega), if_pos (by omega), show (0 : Int) = ((0 : Nat) : Int) from rfl, bt_nat s _ x hx, blank_eq, Option.bind_some]
   by_cases hbx : blk x = true
   ·have he : (s.extract 1 s.size).data.toList = m := by
     rw [extract_list, Lib.size_eq, List.take_length, h0]
     rfl
    have hes : (s.extract 1 s.size).size = m.length := by rw [Lib.size_eq, he]
    rw [if_pos hbx, if_pos (by omega), RTrim_l0 k _ (by omega) (by omega)]
    congr 1
    refine ext_list ?_
    rw [trimB_list, trimB_list, he, h0]
    simp [List.dropWhile, hbx]
   ·rw [if_neg hbx, fin]
    congr 1
    refine ext_list ?_
    rw [trimB_list, h0]
    simp [List.dropWhile, hbx]
theorem RTrim_eq (k : Nat) (s : ByteArray) (hk : s.size + s.size + 3 < k) (hb : s.size ≤ 1000000) : letterboxref9_Trim.f k s = some (trimB s) := RTrim_l0 k s hk hb

def cix (s : ByteArray) : Int := Lib.indexByte s.data.toList 58
theorem indexByte_lt : ∀ (l : List UInt8) (c : UInt8), Lib.indexByte l c < l.length
 | [], _ => by unfold Lib.indexByte; decide
 | b :: l, c => by
  have := indexByte_lt l c
  unfold Lib.indexByte
  rw [List.length_cons]
  split
  ·omega
  ·split
   ·omega
   ·omega
theorem Colon_l0 (s : ByteArray) (hb : s.size ≤ 1000000) : ∀ (k i : Nat), i ≤ s.size → s.size - i < k → letterboxref9_Colon.l0 k s 58 i = some (if Lib.indexByte (s.data.toList.drop i) 58 = -1 then -1 else i + Lib.indexByte (s.data.toList.drop i) 58)
 | 0, _, _, h => absurd h (by omega)
 | k + 1, i, hi, hk => by
  unfold letterboxref9_Colon.l0
  have hsz := Lib.size_eq s
  by_cases hlt : i < s.size
  ·have hlt2 : i < s.data.toList.length := by omega
   have hd := List.drop_eq_getElem_cons hlt2
   have hx : s.data.toList[i]? = some s.data.toList[i] := List.getElem?_eq_getElem hlt2
   have hge := Lib.indexByte_ge (s.data.toList.drop (i + 1)) 58
   rw [if_pos (by omega), if_pos (by omega), bt_nat s i _ hx, hd]
   unfold Lib.indexByte
   by_cases hc : s.data.toList[i] = 58
   ·rw [hc]
    simp
   ·have hne : (s.data.toList[i] == 58) = false := beq_eq_false_iff_ne.2 hc
    have hne2 : ¬ ((s.data.toList[i].toNat : Int) = 58) := by
     intro h
     exact hc (UInt8.toNat_inj.1 (by simpa using (Int.ofNat_inj.1 h)))
    rw [if_neg hne2, hne, w64 _ (by omega) (by omega), show ((i : Int) + 1) = ((i + 1 : Nat) : Int) from rfl, Colon_l0 s hb k (i + 1) (by omega) (by omega)]
    by_cases hm : Lib.indexByte (s.data.toList.drop (i + 1)) 58 = -1
    ·rw [if_pos hm, hm]
     rfl
    ·have hm2 : (Lib.indexByte (s.data.toList.drop (i + 1)) 58 == -1) = false := beq_eq_false_iff_ne.2 hm
     simp only [hm2, Bool.false_eq_true, if_false]
     rw [if_neg hm, if_neg (by omega)]
     congr 1
     omega
  ·obtain rfl : i = s.size := by omega
   rw [if_neg (by omega), hsz, List.drop_length]
   rfl
theorem Colon_eq (k : Nat) (s : ByteArray) (hb : s.size ≤ 1000000) (hk : s.size < k) : letterboxref9_Colon.f k s 58 = some (cix s) := by
 unfold letterboxref9_Colon.f cix
 rw [show (0 : Int) = ((0 : Nat) : Int) from rfl, Colon_l0 s hb k 0 (by omega) (by omega), List.drop_zero]
 split
 ·rename_i h; rw [h]
 ·rw [show ((0 : Nat) : Int) = 0 from rfl, Int.zero_add]
theorem cut_colon (s : ByteArray) (hb : s.size ≤ 1000000) : strings_Cut.f s ⟨#[58]⟩ = some (if cix s = -1 then (s, ⟨#[]⟩, false) else (s.extract 0 (cix s).toNat, s.extract ((cix s).toNat + 1) s.size, true)) := by
 have hge := Lib.indexByte_ge s.data.toList 58
 have hlt := indexByte_lt s.data.toList 58
 have hsz := Lib.size_eq s
 unfold strings_Cut.f stringslite_Cut.f
 have hi : stringslite_Index.f s ⟨#[58]⟩ = some (cix s) := rfl
 have hone : ((⟨#[58]⟩ : ByteArray).size : Int) = 1 := rfl
 rw [hi, Option.bind_some, hone]
 unfold cix
 by_cases h : Lib.indexByte s.data.toList 58 = -1
 ·rw [if_neg (by omega), if_pos h]
  rfl
 ·rw [if_pos (by omega), if_pos (by omega), if_pos (by omega), w64 _ (by omega) (by omega), if_pos (by omega), if_pos (by omega), if_neg h, show (Lib.indexByte s.data.toList 58 + 1).toNat = (Lib.indexByte s.data.toList 58).toNat + 1 by omega]
  rfl
theorem contains_eq (s : ByteArray) (b : UInt8) (m : List UInt8) (h : s.data.toList = b :: m) : strings_ContainsAny.f (s.extract 0 1) ⟨#[32, 9]⟩ = some (blk b) := by
 have he : (s.extract 0 1).data.toList = [b] := by rw [extract_list, h]; rfl
 have hsz : (s.extract 0 1).size = 1 := by rw [Lib.size_eq, he]; rfl
 unfold strings_ContainsAny.f
 rw [if_pos ⟨by decide, by decide, by decide⟩, hsz, he]
 by_cases ha : b.toNat < 128
 ·rw [if_pos ⟨by decide, by unfold asciiB; rw [he]; simpa using ha⟩]
  congr 1
  unfold Lib.containsAny Lib.indexAny
  show decide (0 ≤ if List.contains [32, 9] b = true then (0 : Int) else _) = blk b
  rw [contains_blk]
  by_cases hb : blk b = true
  ·rw [if_pos hb, hb]; rfl
  ·rw [if_neg hb, Bool.eq_false_iff.2 hb]
   rfl
 ·rw [if_neg (by rintro ⟨_, h2⟩; unfold asciiB at h2; rw [he] at h2; simp at h2; omega), if_pos rfl]
  congr 1
  unfold blk
  have h1 : (b == 32) = false := by rw [beq_eq_false_iff_ne]; rintro rfl; exact ha (by decide)
  have h2 : (b == 9) = false := by rw [beq_eq_false_iff_ne]; rintro rfl; exact ha (by decide)
  rw [h1, h2]
  rfl
end Go.Proofs.YtejhfghijgbckaaGreatDoor.HPure
namespace Go.Proofs.YtejhfghijgbckaaGreatDoor.HPure
open Go.RowKit Go.Proofs.YtejhfghijgbckaaGreatDoor Go.Proofs.YtejhfghijgbckaaGreatDoor.P Go.Proofs.YtejhfghijgbckaaGreatDoor.HSpec Go.Proofs.YtejhfghijgbckaaGreatDoorW.PrintWords Go.Proofs.YtejhfghijgbckaaGreatDoorW.PrintLast Go.Proofs.YtejhfghijgbckaaGreatDoorW.PrintMore

theorem fl_take : ∀ (l : List Int) (n : Nat), fl (l.take (fl l + n)) = fl l
 | [], _ => by simp [fl]
 | c :: l, n => by
  by_cases hc : c = 10
  ·rw [fl_ten hc, Nat.add_comm 1 n, List.take_succ_cons, fl_ten hc]
  ·rw [fl_other hc, show fl l + 1 + n = (fl l + n) + 1 by omega, List.take_succ_cons, fl_other hc, fl_take l n]
theorem lines_take {l : List Int} (h : l ≠ []) (n : Nat) : lines (l.take (fl l + n)) = l.take (fl l) :: lines ((l.drop (fl l)).take n) := by
 have hp := fl_pos h
 have hle := fl_le l
 have hne : l.take (fl l + n) ≠ [] := by
  intro he
  have h1 : (l.take (fl l + n)).length = 0 := by rw [he]; rfl
  rw [List.length_take] at h1
  omega
 rw [lines_ne hne, fl_take, List.take_take, List.drop_take, Nat.min_eq_left (by omega), show fl l + n - fl l = n by omega]
def heads : List (List Int) → List (List Int)
 | [] => []
 | x :: xs => if txt x = [] then [x] else x :: heads xs
theorem heads_cons (x : List Int) (xs : List (List Int)) : heads (x :: xs) = if txt x = [] then [x] else x :: heads xs := rfl
theorem upto_cons (x : List Int) (xs : List (List Int)) : upto (x :: xs) = if txt x = [] then x.length else x.length + upto xs := rfl
theorem lines_head (l : List Int) : lines (l.take (hend l)) = heads (lines l) := by
 induction l using line_ind with
 | h0 => rfl
 | h1 l hl ih =>
  have hle := fl_le l
  have hx : (l.take (fl l)).length = fl l := by rw [List.length_take]; omega
  unfold hend at ih ⊢
  rw [lines_ne hl, upto_cons, heads_cons, hx]
  by_cases ht : txt (l.take (fl l)) = []
  ·rw [if_pos ht, if_pos ht]
   have := lines_take hl 0
   simpa [lines_nil] using this
  ·rw [if_neg ht, if_neg ht, lines_take hl, ih]

theorem map_txt_flat : ∀ ls : List (List Int), (ls.map txt).flatten.length ≤ ls.flatten.length
 | [] => Nat.le_refl _
 | x :: xs => by
  have := map_txt_flat xs
  have := txt_le x
  rw [List.map_cons, List.flatten_cons, List.flatten_cons, List.length_append, List.length_append]
  omega
theorem mem_flat_le {ls : List (List Int)} {x : List Int} (h : x ∈ ls) : x.length ≤ ls.flatten.length := by
 induction ls with
 | nil => cases h
 | cons y ys ih =>
  rw [List.flatten_cons, List.length_append]
  rcases List.mem_cons.1 h with rfl | h
  ·omega
  ·have := ih h
   omega
abbrev St : Type := List S78 × Bool
def first (t : List Int) : UInt8 := UInt8.ofNat (t.getD 0 0).toNat
def fstep (st : St) (t : List Int) : St :=
 if blk (first t) = true then
  if st.2 = true then (st.1.set (st.1.length - 1) ⟨(st.1.getD (st.1.length - 1) z78).f0, (st.1.getD (st.1.length - 1) z78).f1 ++ ((⟨#[32]⟩ : ByteArray) ++ trimB (strOfNums t))⟩, true) else (st.1, false)
 else if cix (strOfNums t) = -1 then (st.1, false)
 else (st.1 ++ [⟨trimB ((strOfNums t).extract 0 (cix (strOfNums t)).toNat), trimB ((strOfNums t).extract ((cix (strOfNums t)).toNat + 1) (strOfNums t).size)⟩], true)
def fgo : List (List Int) → St → List S78
 | [], st => st.1
 | t :: ts, st => if t = [] then fgo ts st else fgo ts (fstep st t)
def fgoR : List (List Int) → St → List S78
 | [], st => st.1
 | t :: ts, st => if t = [] then st.1 else fgoR ts (fstep st t)
theorem fgo_heads : ∀ (ls : List (List Int)) (st : St), fgoR ((heads ls).map txt) st = fgo ((heads ls).map txt) st
 | [], _ => rfl
 | x :: xs, st => by
  rw [heads_cons]
  by_cases ht : txt x = []
  ·rw [if_pos ht, List.map_cons, ht]
   rfl
  ·rw [if_neg ht, List.map_cons]
   unfold fgoR fgo
   rw [if_neg ht, if_neg ht, fgo_heads xs]

theorem str_list {t : List Int} (h : t ≠ []) : (strOfNums t).data.toList = first t :: (t.drop 1).map fun n => UInt8.ofNat n.toNat := by
 cases t with
 | nil => exact absurd rfl h
 | cons c t => rfl
theorem rd_Tf_nat (xs : List S78) (i : Nat) : rd_T78 xs (i : Int) = xs.getD i z78 := by unfold rd_T78; rw [Int.toNat_natCast]
theorem getD_le {xs : List S78} {B : Nat} (h : ∀ f ∈ xs, f.f1.size ≤ B) (i : Nat) (hi : i < xs.length) : (xs.getD i z78).f1.size ≤ B := by
 rw [List.getD_eq_getElem?_getD, List.getElem?_eq_getElem hi]
 exact h _ (List.getElem_mem hi)
theorem fstep_le {st : St} {t : List Int} {B : Nat} (h : ∀ f ∈ st.1, f.f1.size ≤ B) (ho : st.2 = true → st.1 ≠ []) : ∀ f ∈ (fstep st t).1, f.f1.size ≤ B + t.length + 1 := by
 have hs : (strOfNums t).size = t.length := by simp [strOfNums, ByteArray.size]
 have ht := trimB_le (strOfNums t)
 unfold fstep
 intro f hf
 split at hf
 ·split at hf
  ·rename_i hop
   have hne := List.length_pos_iff.2 (ho hop)
   rcases List.mem_or_eq_of_mem_set hf with hf | rfl
   ·have := h f hf; omega
   ·have := getD_le h (st.1.length - 1) (by omega)
    simp only [ByteArray.size_append]
    have h1 : (⟨#[32]⟩ : ByteArray).size = 1 := rfl
    omega
  ·have := h f hf; omega
 ·split at hf
  ·have := h f hf; omega
  ·rcases List.mem_append.1 hf with hf | hf
   ·have := h f hf; omega
   ·obtain rfl := List.mem_singleton.1 hf
    have h1 := trimB_le ((strOfNums t).extract ((cix (strOfNums t)).toNat + 1) (strOfNums t).size)
    have h2 : ((strOfNums t).extract ((cix (strOfNums t)).toNat + 1) (strOfNums t).size).size ≤ (strOfNums t).size := by
     rw [Lib.size_eq, Lib.size_eq, extract_list, List.length_drop, List.length_take]
     omega
    simp only
    omega
theorem fstep_open {st : St} {t : List Int} (ho : st.2 = true → st.1 ≠ []) : (fstep st t).2 = true → (fstep st t).1 ≠ [] := by
 unfold fstep
 split
 ·split
  ·rename_i hop
   intro _ h
   have := congrArg List.length h
   rw [List.length_set] at this
   exact ho hop (List.eq_nil_of_length_eq_zero this)
  ·intro h; cases h
 ·split
  ·intro h; cases h
  ·intro _ h; simp at h
theorem fstep_len (st : St) (t : List Int) : (fstep st t).1.length ≤ st.1.length + 1 := by
 unfold fstep
 split
 ·split <;> simp
 ·split <;> simp
def lastI (st : St) : Int := if st.2 = true then (st.1.length : Int) - 1 else -1

theorem UFields_l100 (ls : List (List Int)) (hb : ∀ x ∈ ls, Byt x) (hn : ls.length ≤ 100000) : ∀ (k i : Nat) (st : St) (B : Nat), i ≤ ls.length → ls.length - i < k → st.1.length + (ls.length - i) ≤ 200000 → (∀ f ∈ st.1, f.f1.size ≤ B) → B + (ls.drop i).flatten.length + (ls.length - i) ≤ 1000000 → (st.2 = true → st.1 ≠ []) →
  head_Fields.l100 k st.1 ls (lastI st) ((i : Int) - 1) = some (fgo ((ls.drop i).map txt) st)
 | 0, _, _, _, _, h, _, _, _, _ => absurd h (by omega)
 | k + 1, i, st, B, hi, hk, hlen, hB, hsum, ho => by
  unfold head_Fields.l100
  rw [w64 _ (by omega) (by omega), show ((i : Int) - 1 + 1) = (i : Int) by omega]
  by_cases hlt : i < ls.length
  ·have hf := flat_at hlt
   have hbt := (hb _ (getD_mem hlt)).txt
   have hlt2 := txt_le (ls.getD i [])
   rw [if_neg (by omega), if_pos (by omega), if_pos (by omega), rd_L7_nat, text_eq _ (hb _ (getD_mem hlt)) (by omega), Option.bind_some, drop_atL hlt, List.map_cons]
   unfold fgo
   generalize txt (ls.getD i []) = t at hbt hlt2
   have hss : (strOfNums t).size = t.length := by simp [strOfNums, ByteArray.size]
   have next : ∀ (st' : St) (B' : Nat), (∀ f ∈ st'.1, f.f1.size ≤ B') → B' + (ls.drop (i + 1)).flatten.length + (ls.length - (i + 1)) ≤ 1000000 → st'.1.length ≤ st.1.length + 1 → (st'.2 = true → st'.1 ≠ []) → head_Fields.l100 k st'.1 ls (lastI st') (i : Int) = some (fgo ((ls.drop (i + 1)).map txt) st') := by
    intro st' B' h1 h2 h3 h4
    have := UFields_l100 ls hb hn k (i + 1) st' B' (by omega) (by omega) (by omega) h1 h2 h4
    rwa [show (((i + 1 : Nat) : Int) - 1) = (i : Int) by omega] at this
   by_cases ht : t = []
   ·have h0 : (strOfNums t).toList = [] := by rw [ht, Lib.toList_data]; rfl
    rw [if_pos h0, if_pos ht]
    exact next st B hB (by omega) (by omega) ho
   ·have hsl := str_list ht
    have htp := List.length_pos_iff.2 ht
    have h0 : ¬ (strOfNums t).toList = [] := by
     rw [Lib.toList_data, hsl]
     simp
    have htr := trimB_le (strOfNums t)
    rw [if_neg h0, if_neg ht, if_pos (by decide), if_pos (by omega), contains_eq _ _ _ hsl, Option.bind_some]
    have nx := next (fstep st t) (B + t.length + 1) (fstep_le hB ho) (by omega) (fstep_len st t) (fstep_open ho)
    by_cases hbl : blk (first t) = true
    ·rw [if_pos hbl]
     by_cases hop : st.2 = true
     ·have hne := List.length_pos_iff.2 (ho hop)
      have hg := getD_le hB (st.1.length - 1) (by omega)
      have hstep : fstep st t = (st.1.set (st.1.length - 1) ⟨(st.1.getD (st.1.length - 1) z78).f0, (st.1.getD (st.1.length - 1) z78).f1 ++ ((⟨#[32]⟩ : ByteArray) ++ trimB (strOfNums t))⟩, true) := by
       unfold fstep
       rw [if_pos hbl, if_pos hop]
      have hl : lastI st = ((st.1.length - 1 : Nat) : Int) := by unfold lastI; rw [if_pos hop]; omega
      rw [hl, if_pos (by omega), if_pos (by omega), if_pos (by omega), trim_eq _ (by omega), Option.bind_some, if_pos (by omega), rd_Tf_nat, if_pos (by omega), Int.toNat_natCast]
      have hl2 : lastI (fstep st t) = ((st.1.length - 1 : Nat) : Int) := by
       rw [hstep]
       unfold lastI
       rw [if_pos rfl, List.length_set]
       omega
      rw [hl2] at nx
      rw [hstep] at nx ⊢
      exact nx
     ·have hl : lastI st = -1 := by unfold lastI; rw [if_neg hop]
      have hstep : fstep st t = (st.1, false) := by
       unfold fstep
       rw [if_pos hbl, if_neg hop]
      have hl2 : lastI (fstep st t) = -1 := by rw [hstep]; rfl
      rw [hl, if_neg (by decide)]
      rw [hl2] at nx
      rw [hstep] at nx ⊢
      exact nx
    ·rw [if_neg hbl, cut_colon _ (by omega), Option.bind_some]
     by_cases hc : cix (strOfNums t) = -1
     ·have hstep : fstep st t = (st.1, false) := by
       unfold fstep
       rw [if_neg hbl, if_pos hc]
      have hl2 : lastI (fstep st t) = -1 := by rw [hstep]; rfl
      rw [if_pos hc, if_neg (by simp)]
      rw [hl2] at nx
      rw [hstep] at nx ⊢
      exact nx
     ·have hstep : fstep st t = (st.1 ++ [⟨trimB ((strOfNums t).extract 0 (cix (strOfNums t)).toNat), trimB ((strOfNums t).extract ((cix (strOfNums t)).toNat + 1) (strOfNums t).size)⟩], true) := by
       unfold fstep
       rw [if_neg hbl, if_neg hc]
      have hl2 : lastI (fstep st t) = (st.1.length : Int) := by
       rw [hstep]
       unfold lastI
       rw [if_pos rfl, List.length_append, List.length_singleton]
       omega
      have e1 : ((strOfNums t).extract 0 (cix (strOfNums t)).toNat).size ≤ (strOfNums t).size := by
       rw [Lib.size_eq, Lib.size_eq, extract_list, List.length_drop, List.length_take]
       omega
      have e2 : ((strOfNums t).extract ((cix (strOfNums t)).toNat + 1) (strOfNums t).size).size ≤ (strOfNums t).size := by
       rw [Lib.size_eq, Lib.size_eq, extract_list, List.length_drop, List.length_take]
       omega
      rw [if_neg hc]
      simp only [if_true]
      rw [trim_eq _ (by omega), Option.bind_some, trim_eq _ (by omega), Option.bind_some, if_pos (by omega)]
      rw [hl2] at nx
      rw [hstep] at nx ⊢
      exact nx
  ·obtain rfl : i = ls.length := by omega
   rw [if_pos (by omega), List.drop_length]
   rfl
theorem UFields_eq (k : Nat) (l : List Int) (hb : Byt l) (hl : l.length ≤ 50000) (hk : l.length + 1 < k) : head_Fields.f k l = some (fgo ((heads (lines l)).map txt) ([], false)) := by
 have h1 := hend_le l
 have ht : (l.take (hend l)).length ≤ l.length := by rw [List.length_take]; omega
 have h2 := lines_length_le (l.take (hend l))
 unfold head_Fields.f
 rw [end_eq k l hb (by omega) hk, Option.bind_some, if_pos (by omega), if_pos (by omega), Int.toNat_natCast, cut_eq k _ (hb.take _) (by omega) (by omega), Option.bind_some]
 have := UFields_l100 (lines (l.take (hend l))) (fun x hx => (hb.take _).line hx) (by omega) k 0 ([], false) 0 (by omega) (by omega) (by simp only [List.length_nil]; omega) (fun f hf => by cases hf) (by rw [List.drop_zero, lines_flatten]; omega) (fun h => by cases h)
 rw [List.drop_zero, lines_head] at this
 rw [lines_head]
 exact this
end Go.Proofs.YtejhfghijgbckaaGreatDoor.HPure
namespace Go.Proofs.YtejhfghijgbckaaGreatDoor.HPure
open Go.RowKit Go.Proofs.YtejhfghijgbckaaGreatDoor Go.Proofs.YtejhfghijgbckaaGreatDoor.P Go.Proofs.YtejhfghijgbckaaGreatDoor.HSpec Go.Proofs.YtejhfghijgbckaaGreatDoorW.PrintWords Go.Proofs.YtejhfghijgbckaaGreatDoorW.PrintLast Go.Proofs.YtejhfghijgbckaaGreatDoorW.PrintMore

theorem RFields_l0 (ts : List (List Int)) (N : Nat) (hN : ∀ t ∈ ts, t.length ≤ N) (hn : ts.length ≤ 100000) (hNb : N ≤ 100000) : ∀ (k i : Nat) (st : St) (B : Nat), i ≤ ts.length → 2 * (ts.length - i) + 2 * N + 10 < k → st.1.length + (ts.length - i) ≤ 200000 → (∀ f ∈ st.1, f.f1.size ≤ B) → B + (ts.drop i).flatten.length + (ts.length - i) ≤ 1000000 → (st.2 = true → st.1 ≠ []) →
  letterboxref9_Fields.l0 k st.1 st.2 ts (i : Int) = some (fgoR (ts.drop i) st)
 | 0, _, _, _, _, h, _, _, _, _ => absurd h (by omega)
 | 1, _, _, _, _, h, _, _, _, _ => absurd h (by omega)
 | k + 2, i, st, B, hi, hk, hlen, hB, hsum, ho => by
  unfold letterboxref9_Fields.l0
  by_cases hlt : i < ts.length
  ·have hf := flat_at hlt
   have hNt := hN _ (getD_mem hlt)
   rw [if_pos (by omega), if_pos (by omega)]
   unfold letterboxref9_Fields.j1
   rw [rd_L7_nat, drop_atL hlt]
   unfold fgoR
   generalize ts.getD i [] = t at hNt hf
   have hss : (strOfNums t).size = t.length := by simp [strOfNums, ByteArray.size]
   have next : ∀ (st' : St) (B' : Nat), (∀ f ∈ st'.1, f.f1.size ≤ B') → B' + (ts.drop (i + 1)).flatten.length + (ts.length - (i + 1)) ≤ 1000000 → st'.1.length ≤ st.1.length + 1 → (st'.2 = true → st'.1 ≠ []) → letterboxref9_Fields.l0 k st'.1 st'.2 ts ((i : Int) + 1) = some (fgoR (ts.drop (i + 1)) st') := fun st' B' h1 h2 h3 h4 =>
    RFields_l0 ts N hN hn hNb k (i + 1) st' B' (by omega) (by omega) (by omega) h1 h2 h4
   by_cases ht : t = []
   ·rw [if_neg (by simp [ht]), if_pos ht]
   ·have hsl := str_list ht
    have htp := List.length_pos_iff.2 ht
    have htr := trimB_le (strOfNums t)
    have hb0 : (strOfNums t).data.toList[0]? = some (first t) := by rw [hsl]; rfl
    rw [if_pos (by simpa using htp), if_neg ht, if_pos (by omega), if_pos (by omega), if_pos (by omega), show (0 : Int) = ((0 : Nat) : Int) from rfl, bt_nat _ 0 _ hb0, blank_eq, Option.bind_some, w64 ((i : Int) + 1) (by omega) (by omega)]
    have nx := next (fstep st t) (B + t.length + 1) (fstep_le hB ho) (by omega) (fstep_len st t) (fstep_open ho)
    by_cases hbl : blk (first t) = true
    ·rw [if_pos hbl]
     by_cases hop : st.2 = true
     ·have hne := List.length_pos_iff.2 (ho hop)
      have hg := getD_le hB (st.1.length - 1) (by omega)
      have hstep : fstep st t = (st.1.set (st.1.length - 1) ⟨(st.1.getD (st.1.length - 1) z78).f0, (st.1.getD (st.1.length - 1) z78).f1 ++ ((⟨#[32]⟩ : ByteArray) ++ trimB (strOfNums t))⟩, true) := by
       unfold fstep
       rw [if_pos hbl, if_pos hop]
      rw [if_pos hop, w64 _ (by omega) (by omega), show ((st.1.length : Int) - 1) = ((st.1.length - 1 : Nat) : Int) by omega, if_pos (by omega), if_pos (by omega), rd_Tf_nat, if_pos (by omega), RTrim_eq _ _ (by omega) (by omega), Option.bind_some, if_pos (by omega), Int.toNat_natCast, ByteArray.append_assoc]
      rw [hstep] at nx ⊢
      rw [hop]
      exact nx
     ·have hstep : fstep st t = (st.1, false) := by
       unfold fstep
       rw [if_pos hbl, if_neg hop]
      rw [if_neg hop]
      rw [hstep] at nx ⊢
      rw [Bool.eq_false_iff.2 hop]
      exact nx
    ·have hge := Lib.indexByte_ge (strOfNums t).data.toList 58
     have hcl := indexByte_lt (strOfNums t).data.toList 58
     have hse := Lib.size_eq (strOfNums t)
     rw [if_neg hbl, Colon_eq _ _ (by omega) (by omega), Option.bind_some]
     by_cases hc : cix (strOfNums t) = -1
     ·have hstep : fstep st t = (st.1, false) := by
       unfold fstep
       rw [if_neg hbl, if_pos hc]
      rw [hc, if_neg (by decide)]
      rw [hstep] at nx ⊢
      exact nx
     ·have hstep : fstep st t = (st.1 ++ [⟨trimB ((strOfNums t).extract 0 (cix (strOfNums t)).toNat), trimB ((strOfNums t).extract ((cix (strOfNums t)).toNat + 1) (strOfNums t).size)⟩], true) := by
       unfold fstep
       rw [if_neg hbl, if_neg hc]
      have e1 : ((strOfNums t).extract 0 (cix (strOfNums t)).toNat).size ≤ (strOfNums t).size := by
       rw [Lib.size_eq, Lib.size_eq, extract_list, List.length_drop, List.length_take]
       omega
      have e2 : ((strOfNums t).extract ((cix (strOfNums t)).toNat + 1) (strOfNums t).size).size ≤ (strOfNums t).size := by
       rw [Lib.size_eq, Lib.size_eq, extract_list, List.length_drop, List.length_take]
       omega
      have hcx : (0 : Int) ≤ cix (strOfNums t) ∧ cix (strOfNums t) < (strOfNums t).size := by
       unfold cix at hc ⊢
       omega
      rw [if_pos (by omega), if_pos (by omega), if_pos (by omega), RTrim_eq _ _ (by omega) (by omega), Option.bind_some, w64 _ (by omega) (by omega), if_pos (by omega), if_pos (by omega), show (cix (strOfNums t) + 1).toNat = (cix (strOfNums t)).toNat + 1 by omega, RTrim_eq _ _ (by omega) (by omega), Option.bind_some, if_pos (by omega), decide_eq_true (show cix (strOfNums t) ≥ ((0 : Nat) : Int) by omega)]
      rw [hstep] at nx ⊢
      exact nx
  ·obtain rfl : i = ts.length := by omega
   rw [if_neg (by omega), List.drop_length]
   rfl
def texts (l : List Int) : List (List Int) := (heads (lines l)).map txt
theorem texts_flat (l : List Int) : (texts l).flatten.length ≤ l.length := by
 unfold texts
 rw [← lines_head]
 have h1 := map_txt_flat (lines (l.take (hend l)))
 rw [lines_flatten, List.length_take] at h1
 omega
def fields (l : List Int) : List S78 := fgo (texts l) ([], false)
theorem RFields_eq (k : Nat) (l : List Int) (hl : l.length ≤ 50000) (hk : 4 * l.length + 20 < k) : letterboxref9_Fields.f k l = some (fields l) := by
 have h1 := hend_le l
 have ht : (l.take (hend l)).length ≤ l.length := by rw [List.length_take]; omega
 have h2 := lines_length_le (l.take (hend l))
 have h3 := texts_flat l
 have h4 : (texts l).length ≤ l.length := by unfold texts; rw [← lines_head, List.length_map]; omega
 unfold letterboxref9_Fields.f
 rw [RefHead_eq k l (by omega) (by omega), Option.bind_some, RefSplit_eq k _ (by omega) (by omega), Option.bind_some, lines_head]
 have := RFields_l0 (texts l) l.length (fun t h => Nat.le_trans (mem_flat_le h) h3) (by omega) (by omega) k 0 ([], false) 0 (by omega) (by omega) (by simp only [List.length_nil]; omega) (fun f hf => by cases hf) (by rw [List.drop_zero]; omega) (fun h => by cases h)
 rw [List.drop_zero] at this
 unfold fields texts
 rw [← fgo_heads]
 exact this

def low8 (b : UInt8) : UInt8 := UInt8.ofNat (lowI (b.toNat : Int)).toNat
theorem lowB_list (s : ByteArray) : (lowB s).data.toList = s.data.toList.map low8 := by
 unfold lowB
 rw [strOfNums_data]
 unfold bytesOf
 rw [List.map_map, List.map_map]
 rfl
def same (a b : ByteArray) : Bool := a.data.toList.map low8 == b.data.toList.map low8
theorem RSame_eq (a b : ByteArray) (ha : a.size ≤ 9223372036854775807) (hb : b.size ≤ 9223372036854775807) : letterboxref9_Same.f a b = some (same a b) := by
 unfold letterboxref9_Same.f letterboxref9_Low.f
 rw [if_pos ha, Option.bind_some, if_pos hb, Option.bind_some, Lib.toList_data, Lib.toList_data, lowB_list, lowB_list]
 rfl
theorem small_eq (b : UInt8) : head_small.f (b.toNat : Int) = some (lowI (b.toNat : Int)) := by
 have := UInt8.toNat_lt b
 unfold head_small.f lowI
 by_cases h1 : (b.toNat : Int) ≥ 65
 ·by_cases h2 : (b.toNat : Int) ≤ 90
  ·rw [if_pos h1, if_pos h2, if_pos ⟨h1, h2⟩]
   congr 1
   omega
  ·rw [if_pos h1, if_neg h2, if_neg (by omega)]
 ·rw [if_neg h1, if_neg (by omega)]
theorem low8_eq (x y : UInt8) : low8 x = low8 y ↔ lowI (x.toNat : Int) = lowI (y.toNat : Int) := by
 have h1 := UInt8.toNat_lt x
 have h2 := UInt8.toNat_lt y
 have r : ∀ n : Nat, n < 256 → 0 ≤ lowI (n : Int) ∧ lowI (n : Int) < 256 := by
  intro n hn
  unfold lowI
  split <;> omega
 exact u8_eq (r _ h1) (r _ h2)
theorem USame_l0 (a b : ByteArray) (hs : a.size = b.size) (ha : a.size ≤ 9223372036854775807) : ∀ (k i : Nat), i ≤ a.size → a.size - i < k → head_Same.l0 k a b a.size i = some ((a.data.toList.drop i).map low8 == (b.data.toList.drop i).map low8)
 | 0, _, _, h => absurd h (by omega)
 | k + 1, i, hi, hk => by
  have h1 := Lib.size_eq a
  have h2 := Lib.size_eq b
  unfold head_Same.l0
  by_cases hlt : i < a.size
  ·have ha2 : i < a.data.toList.length := by omega
   have hb2 : i < b.data.toList.length := by omega
   have hwr : wrap64 ((i : Int) + 1) = ((i + 1 : Nat) : Int) := by unfold wrap64; omega
   rw [if_pos (by omega), if_pos (by omega), if_pos (by omega), bt_nat a i _ (List.getElem?_eq_getElem ha2), small_eq, Option.bind_some, if_pos (by omega), bt_nat b i _ (List.getElem?_eq_getElem hb2), small_eq, Option.bind_some, hwr, List.drop_eq_getElem_cons ha2, List.drop_eq_getElem_cons hb2, List.map_cons, List.map_cons]
   by_cases he : lowI (a.data.toList[i].toNat : Int) = lowI (b.data.toList[i].toNat : Int)
   ·rw [if_pos he, (low8_eq _ _).2 he, USame_l0 a b hs ha k (i + 1) (by omega) (by omega)]
    congr 1
    rw [Bool.eq_iff_iff, beq_iff_eq, beq_iff_eq]
    exact ⟨fun h => by rw [h], fun h => (List.cons.inj h).2⟩
   ·rw [if_neg he]
    congr 1
    refine (beq_eq_false_iff_ne.2 fun h => he ((low8_eq _ _).1 (List.cons.inj h).1)).symm
  ·obtain rfl : i = a.size := by omega
   rw [if_neg (by omega), h1, List.drop_length, ← h1, hs, h2, List.drop_length]
   rfl
theorem USame_eq (k : Nat) (a b : ByteArray) (ha : a.size ≤ 9223372036854775807) (hk : a.size < k) : head_Same.f k a b = some (same a b) := by
 unfold head_Same.f same
 by_cases hs : a.size = b.size
 ·rw [if_pos (by omega), show (0 : Int) = ((0 : Nat) : Int) from rfl, USame_l0 a b hs ha k 0 (by omega) (by omega)]
  rfl
 ·rw [if_neg (by omega)]
  congr 1
  refine (beq_eq_false_iff_ne.2 fun h => hs ?_).symm
  have := congrArg List.length h
  rw [List.length_map, List.length_map] at this
  rw [Lib.size_eq, Lib.size_eq, this]
def fget (name : ByteArray) : List S78 → ByteArray × Bool
 | [] => (⟨#[]⟩, false)
 | f :: fs => if same f.f0 name = true then (f.f1, true) else fget name fs
theorem drop_F {xs : List S78} {i : Nat} (h : i < xs.length) : xs.drop i = xs.getD i z78 :: xs.drop (i + 1) := by
 rw [List.drop_eq_getElem_cons h, List.getD_eq_getElem?_getD, List.getElem?_eq_getElem h]
 rfl
theorem getD_F {xs : List S78} {i : Nat} (h : i < xs.length) : xs.getD i z78 ∈ xs := by
 rw [List.getD_eq_getElem?_getD, List.getElem?_eq_getElem h]
 exact List.getElem_mem h
theorem UGet_l0 (name : ByteArray) (F : List S78) (N : Nat) (hF : ∀ f ∈ F, f.f0.size ≤ N) (hN : N ≤ 100000) (hn : F.length ≤ 1000000) : ∀ (k i : Nat), i ≤ F.length → F.length - i + N < k → head_Get.l0 k name F F.length i = some (fget name (F.drop i))
 | 0, _, _, h => absurd h (by omega)
 | k + 1, i, hi, hk => by
  unfold head_Get.l0
  by_cases hlt : i < F.length
  ·have := hF _ (getD_F hlt)
   rw [if_pos (by omega), if_pos (by omega), if_pos (by omega), rd_Tf_nat, USame_eq k _ _ (by omega) (by omega), Option.bind_some, drop_F hlt]
   unfold fget
   by_cases h : same (F.getD i z78).f0 name = true
   ·rw [if_pos h, if_pos h]
   ·rw [if_neg h, if_neg h, w64 _ (by omega) (by omega)]
    exact UGet_l0 name F N hF hN hn k (i + 1) (by omega) (by omega)
  ·obtain rfl : i = F.length := by omega
   rw [if_neg (by omega), List.drop_length]
   rfl
theorem RGet_l0 (name : ByteArray) (hnm : name.size ≤ 9223372036854775807) (F : List S78) (N : Nat) (hF : ∀ f ∈ F, f.f0.size ≤ N) (hN : N ≤ 100000) (hn : F.length ≤ 1000000) : ∀ (k i : Nat), i ≤ F.length → F.length - i < k → letterboxref9_Get.l0 k name F i = some (fget name (F.drop i))
 | 0, _, _, h => absurd h (by omega)
 | k + 1, i, hi, hk => by
  unfold letterboxref9_Get.l0
  by_cases hlt : i < F.length
  ·have := hF _ (getD_F hlt)
   rw [if_pos (by omega), if_pos (by omega), rd_Tf_nat, RSame_eq _ _ (by omega) hnm, Option.bind_some, drop_F hlt]
   unfold fget
   by_cases h : same (F.getD i z78).f0 name = true
   ·rw [if_pos h, if_pos h]
   ·rw [if_neg h, if_neg h, w64 _ (by omega) (by omega)]
    exact RGet_l0 name hnm F N hF hN hn k (i + 1) (by omega) (by omega)
  ·obtain rfl : i = F.length := by omega
   rw [if_neg (by omega), List.drop_length]
   rfl
theorem fstep_f0 {st : St} {t : List Int} {N : Nat} (h : ∀ f ∈ st.1, f.f0.size ≤ N) (ho : st.2 = true → st.1 ≠ []) (ht : t.length ≤ N) : ∀ f ∈ (fstep st t).1, f.f0.size ≤ N := by
 have hs : (strOfNums t).size = t.length := by simp [strOfNums, ByteArray.size]
 unfold fstep
 intro f hf
 split at hf
 ·split at hf
  ·rename_i hop
   have hne := List.length_pos_iff.2 (ho hop)
   rcases List.mem_or_eq_of_mem_set hf with hf | rfl
   ·exact h f hf
   ·show ((st.1.getD (st.1.length - 1) z78).f0).size ≤ N
    exact h _ (getD_F (by omega))
  ·exact h f hf
 ·split at hf
  ·exact h f hf
  ·rcases List.mem_append.1 hf with hf | hf
   ·exact h f hf
   ·obtain rfl := List.mem_singleton.1 hf
    have h1 := trimB_le ((strOfNums t).extract 0 (cix (strOfNums t)).toNat)
    have h2 : ((strOfNums t).extract 0 (cix (strOfNums t)).toNat).size ≤ (strOfNums t).size := by
     rw [Lib.size_eq, Lib.size_eq, extract_list, List.length_drop, List.length_take]
     omega
    simp only
    omega
theorem fgo_f0 (N : Nat) : ∀ (ts : List (List Int)) (st : St), (∀ t ∈ ts, t.length ≤ N) → (∀ f ∈ st.1, f.f0.size ≤ N) → (st.2 = true → st.1 ≠ []) → (∀ f ∈ fgo ts st, f.f0.size ≤ N) ∧ (fgo ts st).length ≤ st.1.length + ts.length
 | [], st, _, h, _ => ⟨h, by unfold fgo; omega⟩
 | t :: ts, st, ht, h, ho => by
  unfold fgo
  have h1 : ∀ t ∈ ts, t.length ≤ N := fun t hh => ht t (List.mem_cons_of_mem _ hh)
  split
  ·have := fgo_f0 N ts st h1 h ho
   exact ⟨this.1, by rw [List.length_cons]; omega⟩
  ·have := fgo_f0 N ts (fstep st t) h1 (fstep_f0 h ho (ht t List.mem_cons_self)) (fstep_open ho)
   have h2 := fstep_len st t
   exact ⟨this.1, by rw [List.length_cons]; omega⟩
theorem fields_ok (l : List Int) : (∀ f ∈ fields l, f.f0.size ≤ l.length) ∧ (fields l).length ≤ l.length := by
 have h3 := texts_flat l
 have h2 := lines_length_le (l.take (hend l))
 have h4 : (texts l).length ≤ l.length := by
  unfold texts
  rw [← lines_head, List.length_map]
  rw [List.length_take] at h2
  omega
 have := fgo_f0 l.length (texts l) ([], false) (fun t h => Nat.le_trans (mem_flat_le h) h3) (fun f hf => by cases hf) (fun h => by cases h)
 exact ⟨this.1, by have h5 := this.2; simp only [List.length_nil] at h5; unfold fields; omega⟩
theorem UGet_eq (k : Nat) (l : List Int) (name : ByteArray) (hb : Byt l) (hl : l.length ≤ 50000) (hk : 2 * l.length + 1 < k) : head_Get.f k l name = some (fget name (fields l)) := by
 have h := fields_ok l
 unfold head_Get.f
 rw [UFields_eq k l hb hl (by omega), Option.bind_some, show fgo ((heads (lines l)).map txt) ([], false) = fields l from rfl, show (0 : Int) = ((0 : Nat) : Int) from rfl, UGet_l0 name (fields l) l.length h.1 (by omega) (by omega) k 0 (by omega) (by omega), List.drop_zero]
theorem RGet_eq (k : Nat) (l : List Int) (name : ByteArray) (hnm : name.size ≤ 9223372036854775807) (hl : l.length ≤ 50000) (hk : 4 * l.length + 20 < k) : letterboxref9_Get.f k l name = some (fget name (fields l)) := by
 have h := fields_ok l
 unfold letterboxref9_Get.f
 rw [RFields_eq k l hl hk, Option.bind_some, show (0 : Int) = ((0 : Nat) : Int) from rfl, RGet_l0 name hnm (fields l) l.length h.1 (by omega) (by omega) k 0 (by omega) (by omega), List.drop_zero]
end Go.Proofs.YtejhfghijgbckaaGreatDoor.HPure
-- halved
namespace Go.Proofs.YtejhfghijgbckaaGreatDoor.Spec
open Go.RowKit Go.Proofs.YtejhfghijgbckaaGreatDoor Go.Proofs.YtejhfghijgbckaaGreatDoor.P Go.Proofs.YtejhfghijgbckaaGreatDoorW.PrintWords Go.Proofs.YtejhfghijgbckaaGreatDoorW.PrintLast Go.Proofs.YtejhfghijgbckaaGreatDoorW.PrintMore
set_option linter.unusedVariables false
set_option linter.unusedSimpArgs false
/-! ### A text within a text -/
theorem index_long : ∀ (s sub : List UInt8), s.length < sub.length → Lib.index s sub = -1
 | [], sub, h => by
  rw [Lib.index, if_neg]
  intro e
  rw [List.isEmpty_iff.1 e] at h
  exact absurd h (by decide)
 | b :: l, sub, h => by
  have ih := index_long l sub (by rw [List.length_cons] at h; omega)
  have hp : ¬ sub.isPrefixOf (b :: l) = true := fun e => by
   have := (List.isPrefixOf_iff_prefix.1 e).length_le
   omega
  rw [Lib.index, if_neg hp, ih, if_pos (by decide)]
theorem index_cons (b : UInt8) (l sub : List UInt8) : decide (0 ≤ Lib.index (b :: l) sub) = (sub.isPrefixOf (b :: l) || decide (0 ≤ Lib.index l sub)) := by
 have hg := Lib.index_ge l sub
 rw [Lib.index]
 by_cases hp : sub.isPrefixOf (b :: l) = true
 ·rw [if_pos hp, hp]; rfl
 ·rw [if_neg hp, Bool.eq_false_iff.2 hp, Bool.false_or]
  by_cases h1 : Lib.index l sub = -1
  ·rw [if_pos (by rw [h1]; decide), h1]
  ·rw [if_neg (fun e => h1 (beq_iff_eq.1 e)), decide_eq_true (show 0 ≤ Lib.index l sub + 1 by omega), decide_eq_true (show 0 ≤ Lib.index l sub by omega)]
theorem low_sz (s : ByteArray) : (lowB s).size = s.size := by
 unfold lowB
 rw [Lib.size_eq]
 unfold strOfNums
 simp [bytesOf_length]
theorem pre_take (b l : List UInt8) : b.isPrefixOf l = decide (l.take b.length = b) := by
 rw [Bool.eq_iff_iff, decide_eq_true_iff, List.isPrefixOf_iff_prefix, List.prefix_iff_eq_take]
 exact ⟨fun h => h.symm, fun h => h.symm⟩
theorem inside_l0 (a b : ByteArray) (ha : a.size ≤ 1000000) (hb : b.size ≤ 140737488351232) : ∀ m i k, i + m = a.size → m + 1 ≤ k → letterboxref18_inside.l0 k a b (i : Int) = some (decide (0 ≤ Lib.index (a.data.toList.drop i) b.data.toList))
 | m, i, 0, _, h => absurd h (by omega)
 | 0, i, k + 1, hi, hk => by
  have ea := Lib.size_eq a
  have eb := Lib.size_eq b
  have hd : a.data.toList.drop i = [] := List.drop_of_length_le (by omega)
  rw [letterboxref18_inside.l0, w64 _ (by omega) (by omega), hd]
  by_cases h0 : b.size = 0
  ·have hbn : b.data.toList = [] := List.eq_nil_of_length_eq_zero (by omega)
   rw [if_pos (by omega), if_pos (by omega), if_pos (by omega), if_pos, hbn]
   ·rfl
   ·rw [Lib.toList_data, Lib.toList_data, hbn, extract_list]
    exact List.drop_of_length_le (by rw [List.length_take]; omega)
  ·rw [if_neg (by omega), index_long [] _ (by rw [List.length_nil]; omega)]
   rfl
 | m + 1, i, k + 1, hi, hk => by
  have ea := Lib.size_eq a
  have eb := Lib.size_eq b
  have hlt : i < a.data.toList.length := by omega
  have hd := List.drop_eq_getElem_cons hlt
  have next := inside_l0 a b ha hb m (i + 1) k (by omega) (by omega)
  rw [letterboxref18_inside.l0, w64 ((i : Int) + (b.size : Int)) (by omega) (by omega)]
  by_cases hfit : i + b.size ≤ a.size
  ·rw [if_pos (by omega), if_pos (by omega), if_pos (by omega)]
   have hx : (a.extract ((i : Int)).toNat (((i : Int) + (b.size : Int))).toNat).toList = (a.data.toList.drop i).take b.data.toList.length := by
    rw [Lib.toList_data, extract_list, show ((i : Int)).toNat = i by omega, show (((i : Int) + (b.size : Int))).toNat = i + b.size by omega, List.drop_take, ← eb]
    congr 1
    omega
   rw [hx, Lib.toList_data]
   have hc := index_cons a.data.toList[i] (a.data.toList.drop (i + 1)) b.data.toList
   rw [← hd, pre_take] at hc
   by_cases he : (a.data.toList.drop i).take b.data.toList.length = b.data.toList
   ·rw [if_pos he, hc, decide_eq_true he, Bool.true_or]
   ·rw [if_neg he, hc, decide_eq_false he, Bool.false_or, w64 ((i : Int) + 1) (by omega) (by omega), show ((i : Int) + 1) = ((i + 1 : Nat) : Int) from rfl, next]
  ·rw [if_neg (by omega), index_long _ _ (by rw [List.length_drop]; omega)]
   rfl
theorem inside_eq (u s : ByteArray) (hu : u.size ≤ 1000000) (hs : s.size ≤ 140737488351232) (k : Nat) (hk : u.size + 1 ≤ k) : letterboxref18_inside.f k u s = find_within.f s u := by
 unfold letterboxref18_inside.f find_within.f letterboxref9_Low.f find_small.f strings_Contains.f
 rw [if_pos (by omega), if_pos (by omega), Option.bind_some, Option.bind_some, Option.bind_some, Option.bind_some, low_sz, if_pos (by omega), Option.bind_some]
 have h := inside_l0 (lowB u) (lowB s) (by rw [low_sz]; exact hu) (by rw [low_sz]; exact hs) u.size 0 k (by rw [low_sz]; omega) (by omega)
 rw [List.drop_zero] at h
 exact h
theorem within_some (u s : ByteArray) (hu : u.size ≤ 1000000) (hs : s.size ≤ 140737488351232) : ∃ v, find_within.f s u = some v := by
 unfold find_within.f find_small.f strings_Contains.f
 rw [if_pos (by omega), if_pos (by omega), Option.bind_some, Option.bind_some, low_sz, if_pos (by omega), Option.bind_some]
 exact ⟨_, rfl⟩
end Go.Proofs.YtejhfghijgbckaaGreatDoor.Spec
namespace Go.Proofs.YtejhfghijgbckaaGreatDoor.HPure
open Go.RowKit Go.Proofs.YtejhfghijgbckaaGreatDoor Go.Proofs.YtejhfghijgbckaaGreatDoor.P Go.Proofs.YtejhfghijgbckaaGreatDoor.HSpec Go.Proofs.YtejhfghijgbckaaGreatDoorW.PrintWords Go.Proofs.YtejhfghijgbckaaGreatDoorW.PrintLast Go.Proofs.YtejhfghijgbckaaGreatDoorW.PrintMore
theorem fgo_f1 : ∀ (ts : List (List Int)) (st : St) (B : Nat), (∀ f ∈ st.1, f.f1.size ≤ B) → (st.2 = true → st.1 ≠ []) → ∀ f ∈ fgo ts st, f.f1.size ≤ B + ts.flatten.length + ts.length
 | [], st, B, h, _ => fun f hf => by
  have := h f hf
  simp only [List.flatten_nil, List.length_nil]
  omega
 | t :: ts, st, B, h, ho => fun f hf => by
  unfold fgo at hf
  rw [List.flatten_cons, List.length_append, List.length_cons]
  split at hf
  ·have := fgo_f1 ts st B h ho f hf
   omega
  ·have := fgo_f1 ts (fstep st t) (B + t.length + 1) (fstep_le h ho) (fstep_open ho) f hf
   omega
theorem fields_f1 (l : List Int) : ∀ f ∈ fields l, f.f1.size ≤ 2 * l.length := by
 intro f hf
 have h3 := texts_flat l
 have h2 := lines_length_le (l.take (hend l))
 have h4 : (texts l).length ≤ l.length := by
  unfold texts
  rw [← lines_head, List.length_map]
  rw [List.length_take] at h2
  omega
 have := fgo_f1 (texts l) ([], false) 0 (fun f hf => by cases hf) (fun h => by cases h) f hf
 omega
theorem fget_le (name : ByteArray) (B : Nat) : ∀ (F : List S78), (∀ f ∈ F, f.f1.size ≤ B) → (fget name F).1.size ≤ B
 | [], _ => Nat.zero_le _
 | x :: r, h => by
  unfold fget
  split
  ·exact h x List.mem_cons_self
  ·exact fget_le name B r fun f hf => h f (List.mem_cons_of_mem _ hf)
end Go.Proofs.YtejhfghijgbckaaGreatDoor.HPure
namespace Go.Proofs.YtejhfghijgbckaaGreatDoor.Spec
open Go.RowKit Go.Proofs.YtejhfghijgbckaaGreatDoor Go.Proofs.YtejhfghijgbckaaGreatDoor.P Go.Proofs.YtejhfghijgbckaaGreatDoorW.PrintWords Go.Proofs.YtejhfghijgbckaaGreatDoorW.PrintLast Go.Proofs.YtejhfghijgbckaaGreatDoorW.PrintMore
/-! ### Match -/
theorem rdKey (l : List Key) (i : Nat) (h : i < l.length) : rd_T27 l (i : Int) = l[i] := by
 unfold rd_T27
 rw [Int.toNat_natCast, List.getD_eq_getElem?_getD, List.getElem?_eq_getElem h]
 rfl
section
variable (m0 m1 m2 : Int) (lb : List Int) (pl la lu : Int)
abbrev RM (k : Nat) (x : Key) : Option Bool := letterboxref18_Match.f k x.f0 x.f1 x.f2 x.f3 x.f4 x.f5 m0 m1 m2 lb pl la lu
def Meets (x : Key) : Prop := ∃ v K, ∀ k, K ≤ k → matchF m0 m1 lb pl la lu k x = some v ∧ RM m0 m1 m2 lb pl la lu k x = some v
theorem and_loop (x : Key) (hx : x.f5.length ≤ 140737488351232) (h : ∀ y ∈ x.f5, Meets m0 m1 m2 lb pl la lu y) : ∀ (m i : Nat), i + m = x.f5.length → ∃ b K, ∀ k, K ≤ k → anyP (notP (matchF m0 m1 lb pl la lu k)) (x.f5.drop i) = some b ∧ letterboxref18_Match.l1 k pl la lu (i : Int) x.f0 x.f1 x.f2 x.f3 x.f4 x.f5 m0 m1 m2 lb = some (!b)
 | 0, i, hi => ⟨false, 1, fun k hk => by
   obtain ⟨k, rfl⟩ : ∃ q, k = q + 1 := ⟨k - 1, by omega⟩
   rw [letterboxref18_Match.l1, if_neg (by omega), List.drop_of_length_le (by omega)]
   exact ⟨rfl, rfl⟩⟩
 | m + 1, i, hi => by
  have hlt : i < x.f5.length := by omega
  obtain ⟨b, K1, h1⟩ := and_loop x hx h m (i + 1) (by omega)
  obtain ⟨v, K2, h2⟩ := h x.f5[i] (List.getElem_mem hlt)
  refine ⟨!v || b, K1 + K2 + 1, fun k hk => ?_⟩
  obtain ⟨k, rfl⟩ : ∃ q, k = q + 1 := ⟨k - 1, by omega⟩
  have g1 := h1 k (by omega)
  have g1' := h1 (k + 1) (by omega)
  have g2 := h2 k (by omega)
  have g2' := h2 (k + 1) (by omega)
  constructor
  ·rw [List.drop_eq_getElem_cons hlt, anyP, notP, g2'.1, Option.bind_some, Option.bind_some]
   cases v with
   | true => rw [if_neg (by decide), g1'.1]; rfl
   | false => rw [if_pos (by decide)]; rfl
  ·rw [letterboxref18_Match.l1, if_pos (by omega), if_pos (by omega), rdKey x.f5 i hlt, (show letterboxref18_Match.f k x.f5[i].f0 x.f5[i].f1 x.f5[i].f2 x.f5[i].f3 x.f5[i].f4 x.f5[i].f5 m0 m1 m2 lb pl la lu = some v from g2.2), Option.bind_some]
   cases v with
   | true => rw [if_pos rfl, w64 _ (by omega) (by omega), show ((i : Int) + 1) = ((i + 1 : Nat) : Int) from rfl, g1.2]; rfl
   | false => rw [if_neg Bool.false_ne_true]; rfl
theorem or_loop (x : Key) (hx : x.f5.length ≤ 140737488351232) (h : ∀ y ∈ x.f5, Meets m0 m1 m2 lb pl la lu y) : ∀ (m i : Nat), i + m = 2 → ∃ b K, ∀ k, K ≤ k → anyP (matchF m0 m1 lb pl la lu k) ((x.f5.take 2).drop i) = some b ∧ letterboxref18_Match.l0 k pl la lu (i : Int) x.f0 x.f1 x.f2 x.f3 x.f4 x.f5 m0 m1 m2 lb = some b
 | 0, i, hi => ⟨false, 2, fun k hk => by
   obtain ⟨k, rfl⟩ : ∃ q, k = q + 2 := ⟨k - 2, by omega⟩
   have hno : ∀ c : Bool, c = false → letterboxref18_Match.j1 (k + 1) pl la lu (i : Int) c x.f0 x.f1 x.f2 x.f3 x.f4 x.f5 m0 m1 m2 lb = some false := fun c hc => by rw [letterboxref18_Match.j1, if_neg (by rw [hc]; decide)]
   rw [letterboxref18_Match.l0, List.drop_of_length_le (by rw [List.length_take]; omega)]
   refine ⟨rfl, ?_⟩
   split
   ·exact hno _ (decide_eq_false (by omega))
   ·exact hno _ rfl⟩
 | m + 1, i, hi => by
  by_cases hlt : i < x.f5.length
  ·obtain ⟨b, K1, h1⟩ := or_loop x hx h m (i + 1) (by omega)
   obtain ⟨v, K2, h2⟩ := h x.f5[i] (List.getElem_mem hlt)
   refine ⟨v || b, K1 + K2 + 2, fun k hk => ?_⟩
   obtain ⟨k, rfl⟩ : ∃ q, k = q + 2 := ⟨k - 2, by omega⟩
   have g1 := h1 k (by omega)
   have g1' := h1 (k + 2) (by omega)
   have g2 := h2 k (by omega)
   have g2' := h2 (k + 2) (by omega)
   have hd : (x.f5.take 2).drop i = x.f5[i] :: (x.f5.take 2).drop (i + 1) := by
    rw [List.drop_eq_getElem_cons (by rw [List.length_take]; omega), List.getElem_take]
   constructor
   ·rw [hd, anyP, g2'.1, Option.bind_some]
    cases v with
    | true => rw [if_pos rfl]; rfl
    | false => rw [if_neg Bool.false_ne_true, g1'.1]; rfl
   ·rw [letterboxref18_Match.l0, if_pos (by omega), decide_eq_true (by omega), letterboxref18_Match.j1, if_pos rfl, if_pos (by omega), if_pos (by omega), rdKey x.f5 i hlt, (show letterboxref18_Match.f k x.f5[i].f0 x.f5[i].f1 x.f5[i].f2 x.f5[i].f3 x.f5[i].f4 x.f5[i].f5 m0 m1 m2 lb pl la lu = some v from g2.2), Option.bind_some]
    cases v with
    | true => rw [if_pos rfl]; rfl
    | false => rw [if_neg Bool.false_ne_true, w64 _ (by omega) (by omega), show ((i : Int) + 1) = ((i + 1 : Nat) : Int) from rfl, g1.2]; rfl
  ·refine ⟨false, 2, fun k hk => ?_⟩
   obtain ⟨k, rfl⟩ : ∃ q, k = q + 2 := ⟨k - 2, by omega⟩
   rw [letterboxref18_Match.l0, if_neg (by omega), letterboxref18_Match.j1, if_neg Bool.false_ne_true, List.drop_of_length_le (by rw [List.length_take]; omega)]
   exact ⟨rfl, rfl⟩
theorem meets (hlb : lb.length ≤ 1500) (hby : HPure.Byt lb) : ∀ (n : Nat) (x : Key), okD n x → Meets m0 m1 m2 lb pl la lu x
 | 0, _, h => h.elim
 | n + 1, x, h => by
  obtain ⟨b2, b3, b4, b5, hk⟩ := h
  have ih : ∀ y ∈ x.f5, Meets m0 m1 m2 lb pl la lu y := fun y hy => meets hlb hby n y (hk y hy)
  have hsz : (strOfNums lb).size ≤ 1500 := by
   unfold strOfNums
   rw [Lib.size_eq]
   simp
   exact hlb
  have simp1 : ∀ v K, (∀ k, K ≤ k → matchF m0 m1 lb pl la lu (k + 1) x = some v ∧ RM m0 m1 m2 lb pl la lu (k + 1) x = some v) → Meets m0 m1 m2 lb pl la lu x := fun v K hh => ⟨v, K + 1, fun k hk => by
   obtain ⟨k, rfl⟩ : ∃ q, k = q + 1 := ⟨k - 1, by omega⟩
   exact hh k (by omega)⟩
  by_cases k1 : x.f0 = 1
  ·exact simp1 true 0 fun k _ => ⟨by rw [matchF, if_pos k1], by rw [RM, letterboxref18_Match.f, if_pos k1]⟩
  by_cases k2 : x.f0 = 2
  ·exact simp1 _ 0 fun k _ => ⟨by rw [matchF, if_neg k1, if_pos k2], by rw [RM, letterboxref18_Match.f, if_neg k1, if_pos k2]⟩
  by_cases k3 : x.f0 = 3
  ·exact simp1 _ 0 fun k _ => ⟨by rw [matchF, if_neg k1, if_neg k2, if_pos k3], by rw [RM, letterboxref18_Match.f, if_neg k1, if_neg k2, if_pos k3]⟩
  by_cases k4 : x.f0 = 4
  ·exact simp1 _ 0 fun k _ => ⟨by rw [matchF, if_neg k1, if_neg k2, if_neg k3, if_pos k4], by rw [RM, letterboxref18_Match.f, if_neg k1, if_neg k2, if_neg k3, if_pos k4]⟩
  by_cases k5 : x.f0 = 5
  ·obtain ⟨v, hv⟩ := within_some (strOfNums lb) x.f3 (by omega) (by omega)
   refine simp1 v 2000 fun k hk => ⟨by rw [matchF, if_neg k1, if_neg k2, if_neg k3, if_neg k4, if_pos k5, hv], ?_⟩
   rw [RM, letterboxref18_Match.f, if_neg k1, if_neg k2, if_neg k3, if_neg k4, if_pos k5, inside_eq _ _ (by omega) (by omega) k (by omega), hv]
   rfl
  by_cases k6 : x.f0 = 6
  ·have hg := fun k hk => HPure.UGet_eq k lb x.f2 hby (by omega) hk
   have hr := fun k hk => HPure.RGet_eq k lb x.f2 (by omega) (by omega) hk
   have hle := HPure.fget_le x.f2 (2 * lb.length) (HPure.fields lb) (HPure.fields_f1 lb)
   obtain ⟨u, hu⟩ : ∃ u, u = HPure.fget x.f2 (HPure.fields lb) := ⟨_, rfl⟩
   rw [← hu] at hg hr hle
   obtain ⟨v, hv⟩ := within_some u.1 x.f3 (by omega) (by omega)
   cases hu2 : u.2 with
   | true =>
    refine simp1 v 20000 fun k hk => ⟨?_, ?_⟩
    ·rw [matchF, if_neg k1, if_neg k2, if_neg k3, if_neg k4, if_neg k5, if_pos k6, hg k (by omega), Option.bind_some, hu2, if_pos rfl, hv]
    ·rw [RM, letterboxref18_Match.f, if_neg k1, if_neg k2, if_neg k3, if_neg k4, if_neg k5, if_pos k6, hr k (by omega), Option.bind_some, hu2, if_pos rfl, inside_eq _ _ (by omega) (by omega) k (by omega), hv]
     rfl
   | false =>
    refine simp1 false 20000 fun k hk => ⟨?_, ?_⟩
    ·rw [matchF, if_neg k1, if_neg k2, if_neg k3, if_neg k4, if_neg k5, if_pos k6, hg k (by omega), Option.bind_some, hu2, if_neg Bool.false_ne_true]
    ·rw [RM, letterboxref18_Match.f, if_neg k1, if_neg k2, if_neg k3, if_neg k4, if_neg k5, if_pos k6, hr k (by omega), Option.bind_some, hu2, if_neg Bool.false_ne_true]
  by_cases k7 : x.f0 = 7
  ·refine simp1 _ (2 * x.f4.length + 1) fun k hk => ⟨by rw [matchF, if_neg k1, if_neg k2, if_neg k3, if_neg k4, if_neg k5, if_neg k6, if_pos k7]; rfl, ?_⟩
   rw [RM, letterboxref18_Match.f, if_neg k1, if_neg k2, if_neg k3, if_neg k4, if_neg k5, if_neg k6, if_pos k7, RHas_eq k _ _ _ (by omega) hk]
   rfl
  by_cases k8 : x.f0 = 8
  ·refine simp1 _ (2 * x.f4.length + 1) fun k hk => ⟨by rw [matchF, if_neg k1, if_neg k2, if_neg k3, if_neg k4, if_neg k5, if_neg k6, if_neg k7, if_pos k8]; rfl, ?_⟩
   rw [RM, letterboxref18_Match.f, if_neg k1, if_neg k2, if_neg k3, if_neg k4, if_neg k5, if_neg k6, if_neg k7, if_pos k8, RHas_eq k _ _ _ (by omega) hk]
   rfl
  by_cases k9 : x.f0 = 9
  ·cases hf : x.f5 with
   | nil =>
    refine simp1 false 0 fun k hk => ⟨?_, ?_⟩
    ·rw [matchF, if_neg k1, if_neg k2, if_neg k3, if_neg k4, if_neg k5, if_neg k6, if_neg k7, if_neg k8, if_pos k9, hf]
    ·rw [RM, letterboxref18_Match.f, if_neg k1, if_neg k2, if_neg k3, if_neg k4, if_neg k5, if_neg k6, if_neg k7, if_neg k8, if_pos k9, hf, if_neg (by decide)]
   | cons y r =>
    obtain ⟨v, K, hv⟩ := ih y (by rw [hf]; exact List.mem_cons_self)
    refine simp1 (!v) K fun k hk => ⟨?_, ?_⟩
    ·rw [matchF, if_neg k1, if_neg k2, if_neg k3, if_neg k4, if_neg k5, if_neg k6, if_neg k7, if_neg k8, if_pos k9, hf]
     show notP _ y = _
     unfold notP
     rw [(hv k hk).1]
     rfl
    ·have hrd : rd_T27 (y :: r) 0 = y := rfl
     rw [RM, letterboxref18_Match.f, if_neg k1, if_neg k2, if_neg k3, if_neg k4, if_neg k5, if_neg k6, if_neg k7, if_neg k8, if_pos k9, hf, if_pos (by rw [List.length_cons]; omega), if_pos (by rw [List.length_cons]; omega), hrd, (show letterboxref18_Match.f k y.f0 y.f1 y.f2 y.f3 y.f4 y.f5 m0 m1 m2 lb pl la lu = some v from (hv k hk).2)]
     rfl
  by_cases k10 : x.f0 = 10
  ·obtain ⟨b, K, hb⟩ := or_loop m0 m1 m2 lb pl la lu x b5 ih 2 0 rfl
   refine simp1 b K fun k hk => ⟨?_, ?_⟩
   ·rw [matchF, if_neg k1, if_neg k2, if_neg k3, if_neg k4, if_neg k5, if_neg k6, if_neg k7, if_neg k8, if_neg k9, if_pos k10]
    exact (hb k hk).1
   ·rw [RM, letterboxref18_Match.f, if_neg k1, if_neg k2, if_neg k3, if_neg k4, if_neg k5, if_neg k6, if_neg k7, if_neg k8, if_neg k9, if_pos k10]
    exact (hb k hk).2
  by_cases k11 : x.f0 = 11
  ·obtain ⟨b, K, hb⟩ := and_loop m0 m1 m2 lb pl la lu x b5 ih x.f5.length 0 (by omega)
   refine simp1 (!b) K fun k hk => ⟨?_, ?_⟩
   ·rw [matchF, if_neg k1, if_neg k2, if_neg k3, if_neg k4, if_neg k5, if_neg k6, if_neg k7, if_neg k8, if_neg k9, if_neg k10, if_pos k11]
    have h := (hb k hk).1
    rw [List.drop_zero] at h
    rw [h]
    rfl
   ·rw [RM, letterboxref18_Match.f, if_neg k1, if_neg k2, if_neg k3, if_neg k4, if_neg k5, if_neg k6, if_neg k7, if_neg k8, if_neg k9, if_neg k10, if_pos k11]
    exact (hb k hk).2
  ·exact simp1 false 0 fun k hk => ⟨by rw [matchF, if_neg k1, if_neg k2, if_neg k3, if_neg k4, if_neg k5, if_neg k6, if_neg k7, if_neg k8, if_neg k9, if_neg k10, if_neg k11], by rw [RM, letterboxref18_Match.f, if_neg k1, if_neg k2, if_neg k3, if_neg k4, if_neg k5, if_neg k6, if_neg k7, if_neg k8, if_neg k9, if_neg k10, if_neg k11]⟩
end
end Go.Proofs.YtejhfghijgbckaaGreatDoor.Spec
namespace Go.Proofs.YtejhfghijgbckaaGreatDoor.Spec
open Go.RowKit Go.Proofs.YtejhfghijgbckaaGreatDoor Go.Proofs.YtejhfghijgbckaaGreatDoor.P Go.Proofs.YtejhfghijgbckaaGreatDoorW.PrintWords Go.Proofs.YtejhfghijgbckaaGreatDoorW.PrintLast Go.Proofs.YtejhfghijgbckaaGreatDoorW.PrintMore
set_option linter.unusedVariables false
set_option linter.unusedSimpArgs false
abbrev RS (k : Nat) (x y : Key) : Option Bool := letterboxref18_Same.f k x.f0 x.f1 x.f2 x.f3 x.f4 x.f5 y.f0 y.f1 y.f2 y.f3 y.f4 y.f5
def SameAg (x y : Key) : Prop := ∃ v K, ∀ k, K ≤ k → sameF k x y = some v ∧ RS k x y = some v
theorem same_loop (x y : Key) (hx : x.f5.length ≤ 140737488351232) (hxy : x.f5.length = y.f5.length) (h : ∀ a ∈ x.f5, ∀ b, SameAg a b) : ∀ (m i : Nat), i + m = x.f5.length → ∃ b K, ∀ k, K ≤ k → Go.Proofs.YtejhfghijgbckaaGreatDoor.eqL (sameF k) (x.f5.drop i) (y.f5.drop i) = some b ∧ letterboxref18_Same.l0 k (i : Int) x.f0 x.f1 x.f2 x.f3 x.f4 x.f5 y.f0 y.f1 y.f2 y.f3 y.f4 y.f5 = some b
  | 0, i, hi => ⟨true, 1, fun k hk => by
      obtain ⟨k, rfl⟩ : ∃ q, k = q + 1 := ⟨k - 1, by omega⟩
      rw [letterboxref18_Same.l0, if_neg (by omega), List.drop_of_length_le (by omega), List.drop_of_length_le (by omega)]
      exact ⟨rfl, rfl⟩⟩
  | m + 1, i, hi => by
    have hlt : i < x.f5.length := by omega
    have hlt2 : i < y.f5.length := by omega
    obtain ⟨b, K1, h1⟩ := same_loop x y hx hxy h m (i + 1) (by omega)
    obtain ⟨v, K2, h2⟩ := h x.f5[i] (List.getElem_mem hlt) y.f5[i]
    refine ⟨v && b, K1 + K2 + 1, fun k hk => ?_⟩
    obtain ⟨k, rfl⟩ : ∃ q, k = q + 1 := ⟨k - 1, by omega⟩
    have g1 := h1 k (by omega)
    have g1' := h1 (k + 1) (by omega)
    have g2 := h2 k (by omega)
    have g2' := h2 (k + 1) (by omega)
    constructor
    · rw [List.drop_eq_getElem_cons hlt, List.drop_eq_getElem_cons hlt2, Go.Proofs.YtejhfghijgbckaaGreatDoor.eqL, if_pos (by rw [List.length_drop, List.length_drop, hxy]), g2'.1, Option.bind_some]
      cases v with
      | true => rw [if_pos rfl, g1'.1]; rfl
      | false => rw [if_neg Bool.false_ne_true]; rfl
    · rw [letterboxref18_Same.l0, if_pos (by omega), if_pos (by omega), if_pos (by omega), rdKey x.f5 i hlt, rdKey y.f5 i hlt2, (show letterboxref18_Same.f k x.f5[i].f0 x.f5[i].f1 x.f5[i].f2 x.f5[i].f3 x.f5[i].f4 x.f5[i].f5 y.f5[i].f0 y.f5[i].f1 y.f5[i].f2 y.f5[i].f3 y.f5[i].f4 y.f5[i].f5 = some v from g2.2), Option.bind_some]
      cases v with
      | true => rw [if_pos rfl, w64 _ (by omega) (by omega), show ((i : Int) + 1) = ((i + 1 : Nat) : Int) from rfl, g1.2]; rfl
      | false => rw [if_neg Bool.false_ne_true]; rfl
theorem sames : ∀ (n : Nat) (x : Key), okD n x → ∀ y, SameAg x y
  | 0, _, h, _ => h.elim
  | n + 1, x, h, y => by
    obtain ⟨b2, b3, b4, b5, hk⟩ := h
    have jt : ∀ k, letterboxref18_Same.j0 (k + 1) true x.f0 x.f1 x.f2 x.f3 x.f4 x.f5 y.f0 y.f1 y.f2 y.f3 y.f4 y.f5 = some false := fun k => by rw [letterboxref18_Same.j0, if_pos rfl]
    have no : (∀ k, sameF (k + 1) x y = some false ∧ RS (k + 2) x y = some false) → SameAg x y := fun hh => ⟨false, 2, fun k hk => by
      obtain ⟨k, rfl⟩ : ∃ q, k = q + 2 := ⟨k - 2, by omega⟩
      exact ⟨(hh (k + 1)).1, (hh k).2⟩⟩
    by_cases c0 : x.f0 = y.f0
    case neg => exact no fun k => ⟨by rw [sameF, if_neg c0], by rw [RS, letterboxref18_Same.f, if_neg c0, jt]⟩
    by_cases c1 : x.f1 = y.f1
    case neg => exact no fun k => ⟨by rw [sameF, if_pos c0, if_neg c1], by rw [RS, letterboxref18_Same.f, if_pos c0, if_neg c1, jt]⟩
    by_cases c2 : x.f2.toList = y.f2.toList
    case neg => exact no fun k => ⟨by rw [sameF, if_pos c0, if_pos c1, if_neg c2], by rw [RS, letterboxref18_Same.f, if_pos c0, if_pos c1, if_neg c2, jt]⟩
    by_cases c3 : x.f3.toList = y.f3.toList
    case neg => exact no fun k => ⟨by rw [sameF, if_pos c0, if_pos c1, if_pos c2, if_neg c3], by rw [RS, letterboxref18_Same.f, if_pos c0, if_pos c1, if_pos c2, if_neg c3, jt]⟩
    have hU := fun k hk => USame_eq k x.f4 y.f4 (by omega) hk
    have hR := fun k hk => RSame_eq k x.f4 y.f4 (by omega) hk
    obtain ⟨t, ht⟩ : ∃ t, t = eqL x.f4 y.f4 := ⟨_, rfl⟩
    rw [← ht] at hU hR
    cases t with
    | false =>
      refine ⟨false, x.f4.length + 4, fun k hk => ?_⟩
      obtain ⟨k, rfl⟩ : ∃ q, k = q + 2 := ⟨k - 2, by omega⟩
      exact ⟨by rw [sameF, if_pos c0, if_pos c1, if_pos c2, if_pos c3, hU (k + 1) (by omega), Option.bind_some, if_neg Bool.false_ne_true], by rw [RS, letterboxref18_Same.f, if_pos c0, if_pos c1, if_pos c2, if_pos c3, hR (k + 1) (by omega), Option.bind_some, if_neg Bool.false_ne_true, jt]⟩
    | true =>
      by_cases hl : x.f5.length = y.f5.length
      · obtain ⟨b, K, hb⟩ := same_loop x y b5 hl (fun a ha b => sames n a (hk a ha) b) x.f5.length 0 (by omega)
        refine ⟨b, x.f4.length + K + 4, fun k hk => ?_⟩
        obtain ⟨k, rfl⟩ : ∃ q, k = q + 2 := ⟨k - 2, by omega⟩
        have g1 := (hb (k + 1) (by omega)).1
        rw [List.drop_zero, List.drop_zero] at g1
        refine ⟨by rw [sameF, if_pos c0, if_pos c1, if_pos c2, if_pos c3, hU (k + 1) (by omega), Option.bind_some, if_pos rfl, g1], ?_⟩
        rw [RS, letterboxref18_Same.f, if_pos c0, if_pos c1, if_pos c2, if_pos c3, hR (k + 1) (by omega), Option.bind_some, if_pos rfl, letterboxref18_Same.j0, if_neg (by rw [bne_iff_ne]; omega)]
        exact (hb k (by omega)).2
      · refine ⟨false, x.f4.length + 4, fun k hk => ?_⟩
        obtain ⟨k, rfl⟩ : ∃ q, k = q + 2 := ⟨k - 2, by omega⟩
        exact ⟨by rw [sameF, if_pos c0, if_pos c1, if_pos c2, if_pos c3, hU (k + 1) (by omega), Option.bind_some, if_pos rfl, eqL_ne _ _ _ hl], by rw [RS, letterboxref18_Same.f, if_pos c0, if_pos c1, if_pos c2, if_pos c3, hR (k + 1) (by omega), Option.bind_some, if_pos rfl, letterboxref18_Same.j0, if_pos (by rw [bne_iff_ne]; omega)]⟩
/-! ### A key and itself -/
theorem self_loop (p : Key → Key → Option Bool) : ∀ l : List Key, (∀ y ∈ l, p y y = some true) → Go.Proofs.YtejhfghijgbckaaGreatDoor.eqL p l l = some true
  | [], _ => rfl
  | y :: r, h => by
    rw [Go.Proofs.YtejhfghijgbckaaGreatDoor.eqL, if_pos rfl, h y List.mem_cons_self, Option.bind_some, if_pos rfl, self_loop p r fun z hz => h z (List.mem_cons_of_mem _ hz)]
theorem all_K {P : Nat → Key → Prop} : ∀ l : List Key, (∀ y ∈ l, ∃ K, ∀ k, K ≤ k → P k y) → ∃ K, ∀ y ∈ l, ∀ k, K ≤ k → P k y
  | [], _ => ⟨0, fun y hy => by cases hy⟩
  | x :: r, h => by
    obtain ⟨K1, h1⟩ := h x List.mem_cons_self
    obtain ⟨K2, h2⟩ := all_K r fun y hy => h y (List.mem_cons_of_mem _ hy)
    refine ⟨K1 + K2, fun y hy k hk => ?_⟩
    rcases List.mem_cons.1 hy with e | e
    · rw [e]; exact h1 k (by omega)
    · exact h2 y e k (by omega)
theorem self_same : ∀ (n : Nat) (x : Key), okD n x → ∃ K, ∀ k, K ≤ k → sameF k x x = some true
  | 0, _, h => h.elim
  | n + 1, x, h => by
    obtain ⟨b2, b3, b4, b5, hk⟩ := h
    obtain ⟨K, hK⟩ := all_K (P := fun k y => sameF k y y = some true) x.f5 fun y hy => self_same n y (hk y hy)
    refine ⟨x.f4.length + K + 4, fun k hk2 => ?_⟩
    obtain ⟨k, rfl⟩ : ∃ q, k = q + 1 := ⟨k - 1, by omega⟩
    rw [sameF, if_pos rfl, if_pos rfl, if_pos rfl, if_pos rfl, USame_eq k x.f4 x.f4 (by omega) (by omega), eqL_refl, Option.bind_some, if_pos rfl]
    exact self_loop _ _ fun y hy => hK y hy k (by omega)
/-! ### How large a key is -/
theorem size_loop (x : Key) (hx : x.f5.length ≤ 140737488351232) (h : ∀ y ∈ x.f5, ∃ s K, ∀ k, K ≤ k → letterboxlaw18_size.f k y.f0 y.f1 y.f2 y.f3 y.f4 y.f5 = some s) : ∀ (m i : Nat) (acc : Int), i + m = x.f5.length → ∃ s K, ∀ k, K ≤ k → letterboxlaw18_size.l0 k acc (i : Int) x.f0 x.f1 x.f2 x.f3 x.f4 x.f5 = some s
  | 0, i, acc, hi => ⟨acc, 1, fun k hk => by
      obtain ⟨k, rfl⟩ : ∃ q, k = q + 1 := ⟨k - 1, by omega⟩
      rw [letterboxlaw18_size.l0, if_neg (by omega)]⟩
  | m + 1, i, acc, hi => by
    have hlt : i < x.f5.length := by omega
    by_cases ha : acc < 2000
    · obtain ⟨t, K2, h2⟩ := h x.f5[i] (List.getElem_mem hlt)
      obtain ⟨s, K1, h1⟩ := size_loop x hx h m (i + 1) (wrap64 (acc + t)) (by omega)
      refine ⟨s, K1 + K2 + 1, fun k hk => ?_⟩
      obtain ⟨k, rfl⟩ : ∃ q, k = q + 1 := ⟨k - 1, by omega⟩
      rw [letterboxlaw18_size.l0, if_pos (by omega), if_pos ha, if_pos (by omega), rdKey x.f5 i hlt, h2 k (by omega), Option.bind_some, w64 ((i : Int) + 1) (by omega) (by omega), show ((i : Int) + 1) = ((i + 1 : Nat) : Int) from rfl, h1 k (by omega)]
    · refine ⟨acc, 1, fun k hk => ?_⟩
      obtain ⟨k, rfl⟩ : ∃ q, k = q + 1 := ⟨k - 1, by omega⟩
      rw [letterboxlaw18_size.l0, if_pos (by omega), if_neg ha]
theorem size_tot : ∀ (n : Nat) (x : Key), okD n x → ∃ s K, ∀ k, K ≤ k → letterboxlaw18_size.f k x.f0 x.f1 x.f2 x.f3 x.f4 x.f5 = some s
  | 0, _, h => h.elim
  | n + 1, x, h => by
    obtain ⟨b2, b3, b4, b5, hk⟩ := h
    obtain ⟨s, K, hs⟩ := size_loop x b5 (fun y hy => size_tot n y (hk y hy)) x.f5.length 0 (wrap64 ((wrap64 ((wrap64 (1 + (x.f2.size : Int))) + (x.f3.size : Int))) + (x.f4.length : Int))) (by omega)
    refine ⟨s, K + 1, fun k hk2 => ?_⟩
    obtain ⟨k, rfl⟩ : ∃ q, k = q + 1 := ⟨k - 1, by omega⟩
    rw [letterboxlaw18_size.f]
    exact hs k (by omega)
end Go.Proofs.YtejhfghijgbckaaGreatDoor.Spec
