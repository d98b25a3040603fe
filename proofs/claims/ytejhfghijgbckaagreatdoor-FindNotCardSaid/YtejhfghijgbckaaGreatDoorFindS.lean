/- Numbers, ranges and sets as plain lists: both sides' functions compute them (find's seat). -/
import Derived.Lib.Atoi
import Derived.Lib.Join
import Derived.Test.YtejhfghijgbckaaGreatDoorFindA
import Derived.Test.YtejhfghijgbckaaGreatDoorPx2
import Derived.Test.YtejhfghijgbckaaGreatDoorPx3
import Derived.Lib.Strings
import Derived.Test.YtejhfghijgbckaaGreatDoorRefA
-- halved
namespace Go.Proofs.YtejhfghijgbckaaGreatDoor.Spec
open Go.RowKit Go.Proofs.YtejhfghijgbckaaGreatDoor Go.Proofs.YtejhfghijgbckaaGreatDoor.P Go.Proofs.YtejhfghijgbckaaGreatDoorW.PrintWords Go.Proofs.YtejhfghijgbckaaGreatDoorW.PrintLast Go.Proofs.YtejhfghijgbckaaGreatDoorW.PrintMore

theorem w64 (x : Int) (h0 : -9223372036854775808 ≤ x) (h1 : x ≤ 9223372036854775807) : wrap64 x = x := by unfold wrap64; omega
def mk (l : List UInt8) : ByteArray := ⟨l.toArray⟩
theorem mk_data (l : List UInt8) : (mk l).data.toList = l := rfl
theorem mk_size (l : List UInt8) : (mk l).size = l.length := rfl
theorem ext_list {s t : ByteArray} (h : s.data.toList = t.data.toList) : s = t := ByteArray.ext (Array.toList_inj.1 h)
theorem mk_of (s : ByteArray) : mk s.data.toList = s := ext_list rfl
theorem mk_toList (l : List UInt8) : (mk l).toList = l := Lib.toList_data _
theorem extract_list (s : ByteArray) (a b : Nat) : (s.extract a b).data.toList = (s.data.toList.take b).drop a := by
 simp [ByteArray.data_extract, List.drop_take]
theorem mk_take (l : List UInt8) (n : Nat) : (mk l).extract 0 n = mk (l.take n) := ext_list (by rw [extract_list]; rfl)
theorem mk_drop (l : List UInt8) (n : Nat) : (mk l).extract n (mk l).size = mk (l.drop n) := ext_list (by rw [extract_list, mk_size, mk_data, mk_data, List.take_length])
theorem bt_nat (s : ByteArray) (i : Nat) (b : UInt8) (h : s.data.toList[i]? = some b) : bt s (i : Int) = (b.toNat : Int) := by
 have hi : i < s.size := by rw [Lib.size_eq]; exact (List.getElem?_eq_some_iff.1 h).1
 have h2 := Lib.data_getElem? s i hi
 rw [h] at h2
 unfold bt
 simp only [Int.toNat_natCast]
 rw [dif_pos hi, ← Option.some.inj h2]

/-! ### A text cut at a byte -/
def cutL (c : UInt8) : List UInt8 → List UInt8 × Option (List UInt8)
 | [] => ([], none)
 | x :: r => if x = c then ([], some r) else (x :: (cutL c r).1, (cutL c r).2)
theorem cut_ix (c : UInt8) : ∀ l, (Lib.indexByte l c = -1 ∧ cutL c l = (l, none)) ∨ (0 ≤ Lib.indexByte l c ∧ Lib.indexByte l c < l.length ∧ cutL c l = (l.take (Lib.indexByte l c).toNat, some (l.drop ((Lib.indexByte l c).toNat + 1))))
 | [] => .inl ⟨rfl, rfl⟩
 | x :: r => by
  unfold Lib.indexByte cutL
  by_cases h : x = c
  ·right
   rw [if_pos h, h, beq_self_eq_true, if_pos rfl]
   exact ⟨Int.le_refl _, by rw [List.length_cons]; omega, rfl⟩
  ·rw [if_neg h, beq_eq_false_iff_ne.2 h, if_neg (by simp)]
   rcases cut_ix c r with ⟨h1, h2⟩ | ⟨h1, h3, h2⟩
   ·left
    rw [h1, h2]
    exact ⟨rfl, rfl⟩
   ·right
    have hne : (Lib.indexByte r c == -1) = false := beq_eq_false_iff_ne.2 (by omega)
    rw [hne, if_neg (by simp), h2, show (Lib.indexByte r c + 1).toNat = (Lib.indexByte r c).toNat + 1 by omega]
    exact ⟨by omega, by rw [List.length_cons]; omega, rfl⟩
theorem cut_len (c : UInt8) : ∀ l : List UInt8, (cutL c l).1.length ≤ l.length ∧ ∀ b, (cutL c l).2 = some b → (cutL c l).1.length + b.length + 1 = l.length
 | [] => ⟨Nat.le_refl _, fun b h => by cases h⟩
 | x :: r => by
  obtain ⟨h1, h2⟩ := cut_len c r
  unfold cutL
  by_cases h : x = c
  ·rw [if_pos h]
   exact ⟨Nat.zero_le _, fun b hb => by cases hb; simp⟩
  ·rw [if_neg h]
   exact ⟨by simp; omega, fun b hb => by have := h2 b hb; simp only [List.length_cons]; omega⟩
theorem cut_at (c : UInt8) (l : List UInt8) (hb : l.length ≤ 1000000) : strings_Cut.f (mk l) ⟨#[c]⟩ = some (match cutL c l with | (_, none) => (mk l, ⟨#[]⟩, false) | (a, some b) => (mk a, mk b, true)) := by
 unfold strings_Cut.f stringslite_Cut.f
 have hi : stringslite_Index.f (mk l) ⟨#[c]⟩ = some (Lib.indexByte l c) := rfl
 have hone : ((⟨#[c]⟩ : ByteArray).size : Int) = 1 := rfl
 rw [hi, Option.bind_some, hone]
 rcases cut_ix c l with ⟨h1, h2⟩ | ⟨h1, h3, h2⟩
 ·rw [if_neg (by omega), h2]
  rfl
 ·rw [if_pos (by omega), if_pos (by omega), mk_size, if_pos (by omega), w64 _ (by omega) (by omega), if_pos (by omega), if_pos (by omega), show (Lib.indexByte l c + 1).toNat = (Lib.indexByte l c).toNat + 1 by omega, h2, mk_take]
  have hd := mk_drop l ((Lib.indexByte l c).toNat + 1)
  rw [mk_size] at hd
  rw [hd]
  rfl
theorem Colon_l0 (l : List UInt8) (c : UInt8) (hb : l.length ≤ 1000000) : ∀ (k i : Nat), i ≤ l.length → l.length - i < k → letterboxref9_Colon.l0 k (mk l) (c.toNat : Int) i = some (if Lib.indexByte (l.drop i) c = -1 then -1 else i + Lib.indexByte (l.drop i) c)
 | 0, _, _, h => absurd h (by omega)
 | k + 1, i, hi, hk => by
  unfold letterboxref9_Colon.l0
  rw [mk_size]
  by_cases hlt : i < l.length
  ·have hd := List.drop_eq_getElem_cons hlt
   have hx : (mk l).data.toList[i]? = some l[i] := List.getElem?_eq_getElem hlt
   have hge := Lib.indexByte_ge (l.drop (i + 1)) c
   rw [if_pos (by omega), if_pos (by omega), bt_nat (mk l) i _ hx, hd]
   unfold Lib.indexByte
   by_cases hc : l[i] = c
   ·rw [hc]
    simp
   ·have hne : (l[i] == c) = false := beq_eq_false_iff_ne.2 hc
    have hne2 : ¬ ((l[i].toNat : Int) = (c.toNat : Int)) := by
     intro h
     exact hc (UInt8.toNat_inj.1 (Int.ofNat_inj.1 h))
    rw [if_neg hne2, hne, w64 _ (by omega) (by omega), show ((i : Int) + 1) = ((i + 1 : Nat) : Int) from rfl, Colon_l0 l c hb k (i + 1) (by omega) (by omega)]
    by_cases hm : Lib.indexByte (l.drop (i + 1)) c = -1
    ·rw [if_pos hm, hm]
     rfl
    ·have hm2 : (Lib.indexByte (l.drop (i + 1)) c == -1) = false := beq_eq_false_iff_ne.2 hm
     simp only [hm2, Bool.false_eq_true, if_false]
     rw [if_neg hm, if_neg (by omega)]
     congr 1
     omega
  ·obtain rfl : i = l.length := by omega
   rw [if_neg (by omega), List.drop_length]
   rfl
theorem Colon_eq (k : Nat) (l : List UInt8) (c : UInt8) (hb : l.length ≤ 1000000) (hk : l.length < k) : letterboxref9_Colon.f k (mk l) (c.toNat : Int) = some (Lib.indexByte l c) := by
 unfold letterboxref9_Colon.f
 rw [show (0 : Int) = ((0 : Nat) : Int) from rfl, Colon_l0 l c hb k 0 (by omega) (by omega), List.drop_zero]
 split
 ·rename_i h; rw [h]
 ·rw [show ((0 : Nat) : Int) = 0 from rfl, Int.zero_add]

/-! ### A number -/
def dig (b : UInt8) : Bool := decide (48 ≤ b.toNat) && decide (b.toNat ≤ 57)
def decV (acc : Nat) : List UInt8 → Nat
 | [] => acc
 | b :: r => decV (acc * 10 + (b.toNat - 48)) r
def num (l : List UInt8) : Int :=
 if l = [42] then 1073741824 else if l = [] ∨ 7 < l.length ∨ l.head? = some 48 then 0 else if l.all dig then (decV 0 l : Nat) else 0
theorem decFrom_all : ∀ (l : List UInt8) (acc : Nat), l.all dig = true → Lib.decFrom acc l = some (decV acc l)
 | [], _, _ => rfl
 | b :: r, acc, h => by
  rw [List.all_cons, Bool.and_eq_true] at h
  unfold Lib.decFrom Lib.digitVal decV
  have hb := h.1
  unfold dig at hb
  simp only [Bool.and_eq_true, decide_eq_true_eq] at hb
  rw [if_pos hb]
  exact decFrom_all r _ h.2
set_option maxRecDepth 100000 in
theorem contains_dig (b : UInt8) : ([48, 49, 50, 51, 52, 53, 54, 55, 56, 57] : List UInt8).contains b = dig b := by
 have key : ∀ n, n < 256 → ([48, 49, 50, 51, 52, 53, 54, 55, 56, 57] : List UInt8).contains (UInt8.ofNat n) = dig (UInt8.ofNat n) := by decide
 have := key b.toNat (UInt8.toNat_lt b)
 rwa [UInt8.ofNat_toNat] at this
theorem tw_mem {p : UInt8 → Bool} : ∀ (l : List UInt8) (x : UInt8), x ∈ l.takeWhile p → p x = true
 | [], x, h => by cases h
 | y :: l, x, h => by
  rw [List.takeWhile_cons] at h
  by_cases hy : p y = true
  ·rw [if_pos hy] at h
   rcases List.mem_cons.1 h with e | e
   ·rw [e]; exact hy
   ·exact tw_mem l x e
  ·rw [if_neg hy] at h; cases h
theorem dw_nil {p : UInt8 → Bool} : ∀ (l : List UInt8), (∀ x ∈ l, p x = true) → l.dropWhile p = []
 | [], _ => rfl
 | y :: l, h => by
  rw [List.dropWhile_cons, if_pos (h y List.mem_cons_self)]
  exact dw_nil l fun x hx => h x (List.mem_cons_of_mem _ hx)
theorem trim_nil (l : List UInt8) : Lib.trimS l [48, 49, 50, 51, 52, 53, 54, 55, 56, 57] = [] ↔ l.all dig = true := by
 unfold Lib.trimS Lib.trimLeftS Lib.trimRightS
 have hf : (fun x => List.contains ([48, 49, 50, 51, 52, 53, 54, 55, 56, 57] : List UInt8) x) = dig := funext contains_dig
 rw [hf]
 constructor
 ·intro h
  have h1 : ∀ x ∈ (l.reverse.dropWhile dig).reverse, dig x = true := by
   intro x hx
   have : (l.reverse.dropWhile dig).reverse = (l.reverse.dropWhile dig).reverse.takeWhile dig := by
    have := List.takeWhile_append_dropWhile (p := dig) (l := (l.reverse.dropWhile dig).reverse)
    rw [h, List.append_nil] at this
    exact this.symm
   rw [this] at hx
   exact tw_mem _ _ hx
  rw [List.all_eq_true]
  intro x hx
  have h2 : x ∈ l.reverse.takeWhile dig ++ l.reverse.dropWhile dig := by rw [List.takeWhile_append_dropWhile]; exact List.mem_reverse.2 hx
  rcases List.mem_append.1 h2 with h3 | h3
  ·exact tw_mem _ _ h3
  ·exact h1 x (List.mem_reverse.2 h3)
 ·intro h
  rw [List.all_eq_true] at h
  have : l.reverse.dropWhile dig = [] := dw_nil _ fun x hx => h x (List.mem_reverse.1 hx)
  rw [this]
  rfl
theorem UNumber_eq (l : List UInt8) : span_number.f (mk l) = some (num l) := by
 unfold span_number.f num
 rw [mk_toList, mk_size]
 by_cases h1 : l = [42]
 ·rw [if_pos h1, if_pos h1]
 ·rw [if_neg h1, if_neg h1]
  cases l with
  | nil => rfl
  | cons b r =>
   rw [if_neg (by simp)]
   by_cases h2 : 7 < (b :: r).length
   ·rw [if_pos (by omega), if_pos (.inr (.inl h2))]
   ·rw [if_neg (by omega), if_pos (by rw [List.length_cons]; omega)]
    have hb0 : bt (mk (b :: r)) 0 = (b.toNat : Int) := bt_nat (mk (b :: r)) 0 b rfl
    rw [hb0]
    by_cases h3 : b = 48
    ·rw [if_pos (by rw [h3]; rfl), if_pos (.inr (.inr (by rw [h3]; rfl)))]
    ·rw [if_neg (fun h => h3 (UInt8.toNat_inj.1 (by simpa using (Int.ofNat_inj.1 h)))), if_neg (show ¬ (b :: r = [] ∨ 7 < (b :: r).length ∨ (b :: r).head? = some 48) from by simp [h3] at h2 ⊢; omega)]
     have ht : strings_Trim.f (mk (b :: r)) ⟨#[48, 49, 50, 51, 52, 53, 54, 55, 56, 57]⟩ = some (mk (Lib.trimS (b :: r) [48, 49, 50, 51, 52, 53, 54, 55, 56, 57])) := by
      unfold strings_Trim.f
      rw [if_pos ⟨by rw [mk_size]; omega, by decide, by decide⟩]
      rfl
     rw [ht, Option.bind_some, mk_toList]
     by_cases h4 : (b :: r).all dig = true
     ·rw [if_pos ((trim_nil _).2 h4), if_pos h4]
      have ha : Lib.atoi (b :: r) = some (decV 0 (b :: r) : Nat) := by
       have h5 := h4
       rw [List.all_cons, Bool.and_eq_true] at h5
       have h6 := h5.1
       unfold dig at h6
       simp only [Bool.and_eq_true, decide_eq_true_eq] at h6
       have e1 : (b == 45) = false := beq_eq_false_iff_ne.2 (by rintro rfl; simp at h6)
       have e2 : (b == 43) = false := beq_eq_false_iff_ne.2 (by rintro rfl; simp at h6)
       have e3 : Lib.decNat (b :: r) = some (decV 0 (b :: r)) := by
        unfold Lib.decNat
        rw [if_neg (by simp), decFrom_all _ _ h4]
       simp only [Lib.atoi, e1, e2, e3, Bool.false_eq_true, if_false, Option.map_some]
       rfl
      unfold strconv_Atoi.f
      rw [if_pos (by rw [mk_size]; omega), mk_data, ha]
      rfl
     ·rw [if_neg (fun h => h4 ((trim_nil _).1 h)), if_neg h4]
theorem RNumber_l0 (l : List UInt8) (hl : l.length ≤ 7) : ∀ (k i v : Nat), i ≤ l.length → l.length - i < k → v < 10 ^ i → letterboxref12_number.l0 k (mk l) v i = some (if (l.drop i).all dig then ((decV v (l.drop i) : Nat) : Int) else 0)
 | 0, _, _, _, h, _ => absurd h (by omega)
 | k + 1, i, v, hi, hk, hv => by
  unfold letterboxref12_number.l0
  rw [mk_size]
  by_cases hlt : i < l.length
  ·have hd := List.drop_eq_getElem_cons hlt
   have hx : (mk l).data.toList[i]? = some l[i] := List.getElem?_eq_getElem hlt
   have hlt8 := UInt8.toNat_lt l[i]
   have hp : 10 ^ i ≤ 10 ^ 7 := Nat.pow_le_pow_right (by decide) (by omega)
   have h7 : (10 : Nat) ^ 7 = 10000000 := by decide
   rw [if_pos (by omega), if_pos (by omega), bt_nat (mk l) i _ hx, hd, List.all_cons]
   by_cases h1 : (l[i].toNat : Int) < 48
   ·have : dig l[i] = false := by unfold dig; rw [decide_eq_false (by omega)]; rfl
    rw [if_pos h1, this]
    rfl
   ·rw [if_neg h1]
    by_cases h2 : (l[i].toNat : Int) > 57
    ·have : dig l[i] = false := by unfold dig; rw [decide_eq_false (p := l[i].toNat ≤ 57) (by omega), Bool.and_false]
     rw [if_pos h2, this]
     rfl
    ·have : dig l[i] = true := by unfold dig; rw [decide_eq_true (by omega), decide_eq_true (by omega)]; rfl
     rw [if_neg h2, this, w64 (10 * (v : Int)) (by omega) (by omega), w64 (l[i].toNat : Int) (by omega) (by omega), w64 (10 * (v : Int) + (l[i].toNat : Int)) (by omega) (by omega), w64 _ (by omega) (by omega), w64 _ (by omega) (by omega),
      show (10 * (v : Int) + (l[i].toNat : Int) - 48) = ((v * 10 + (l[i].toNat - 48) : Nat) : Int) by omega, show ((i : Int) + 1) = ((i + 1 : Nat) : Int) from rfl, RNumber_l0 l hl k (i + 1) _ (by omega) (by omega) (by rw [Nat.pow_succ]; omega), Bool.true_and]
     rfl
  ·obtain rfl : i = l.length := by omega
   rw [if_neg (by omega), List.drop_length]
   rfl
theorem RNumber_eq (k : Nat) (hk : 10 ≤ k) (l : List UInt8) : letterboxref12_number.f k (mk l) = some (num l) := by
 obtain ⟨k, rfl⟩ : ∃ m, k = m + 1 := ⟨k - 1, by omega⟩
 unfold letterboxref12_number.f num
 rw [mk_toList, mk_size]
 by_cases h1 : l = [42]
 ·rw [if_pos h1, if_pos h1]
 ·rw [if_neg h1, if_neg h1]
  cases l with
  | nil => rfl
  | cons b r =>
   rw [if_neg (by rw [List.length_cons]; omega)]
   by_cases h2 : 7 < (b :: r).length
   ·rw [if_pos (by omega), if_pos (.inr (.inl h2))]
    rfl
   ·rw [if_neg (by omega), if_pos (by rw [List.length_cons]; omega)]
    have hb0 : bt (mk (b :: r)) 0 = (b.toNat : Int) := bt_nat (mk (b :: r)) 0 b rfl
    rw [hb0]
    by_cases h3 : b = 48
    ·rw [if_pos (.inr (.inr (by rw [h3]; rfl))), show (((b.toNat : Int)) == 48) = true by rw [h3]; rfl]
     rfl
    ·have e : (((b.toNat : Int)) == 48) = false := beq_eq_false_iff_ne.2 (fun h => h3 (UInt8.toNat_inj.1 (by simpa using (Int.ofNat_inj.1 h))))
     rw [e, if_neg (show ¬ (b :: r = [] ∨ 7 < (b :: r).length ∨ (b :: r).head? = some 48) from by simp [h3] at h2 ⊢; omega)]
     rw [letterboxref12_number.j0, if_neg Bool.false_ne_true]
     have := RNumber_l0 (b :: r) (by omega) k 0 0 (by omega) (by omega) (by decide)
     simpa using this

/-! ### A text as a set -/
def pieces (c : UInt8) : List UInt8 → List (List UInt8)
 | [] => [[]]
 | x :: r => if x = c then [] :: pieces c r else match pieces c r with
  | p :: ps => (x :: p) :: ps
  | [] => [[x]]
theorem pieces_cut (c : UInt8) : ∀ l, pieces c l = match cutL c l with | (a, none) => [a] | (a, some b) => a :: pieces c b
 | [] => rfl
 | x :: r => by
  rw [pieces, cutL]
  by_cases h : x = c
  ·rw [if_pos h, if_pos h]
  ·rw [if_neg h, if_neg h, pieces_cut c r]
   cases hc : (cutL c r).2 with
   | none => rw [show cutL c r = ((cutL c r).1, none) from Prod.ext rfl hc]
   | some b => rw [show cutL c r = ((cutL c r).1, some b) from Prod.ext rfl hc]
def ends (p : List UInt8) : List UInt8 × List UInt8 := match cutL 58 p with | (a, none) => (a, a) | (a, some b) => (a, b)
def rng (p : List UInt8) : Option S73 := if num (ends p).1 = 0 ∨ num (ends p).2 = 0 then none else some ⟨num (ends p).1, num (ends p).2⟩
def goP : List (List UInt8) → List S73 → Option (List S73)
 | [], acc => some acc
 | p :: ps, acc => match rng p with
  | none => none
  | some r => if 16 ≤ acc.length then none else goP ps (acc ++ [r])
def ans : Option (List S73) → List S73 × Int
 | none => ([], 3)
 | some l => (l, 0)
theorem colon (p : List UInt8) (hb : p.length ≤ 1000000) : strings_Cut.f (mk p) ⟨#[58]⟩ = some (mk (cutL 58 p).1, match (cutL 58 p).2 with | none => (⟨#[]⟩, false) | some b => (mk b, true)) := by
 rw [cut_at 58 p hb]
 rcases cut_ix 58 p with ⟨_, h⟩ | ⟨_, _, h⟩
 ·rw [h]
 ·rw [h]
theorem UParse_j1 (k : Nat) (acc : List S73) (rest : ByteArray) (more : Bool) (a b : List UInt8) (ha : acc.length ≤ 16) :
  span_Parse.j1 (k + 2) acc rest more (mk a) (mk b) = if num a = 0 ∨ num b = 0 ∨ 16 ≤ acc.length then some ([], 3) else span_Parse.l101 k (acc ++ [⟨num a, num b⟩]) rest more := by
 rw [span_Parse.j1, UNumber_eq, Option.bind_some]
 by_cases h1 : num a = 0
 ·rw [if_pos h1, if_pos (.inl h1), span_Parse.j2, if_pos rfl]
 ·rw [if_neg h1, UNumber_eq, Option.bind_some]
  by_cases h2 : num b = 0
  ·rw [if_pos h2, if_pos (.inr (.inl h2)), span_Parse.j2, if_pos rfl]
  ·rw [if_neg h2, span_Parse.j2]
   by_cases h3 : 16 ≤ acc.length
   ·rw [decide_eq_true (by omega), if_pos rfl, if_pos (.inr (.inr h3))]
   ·rw [decide_eq_false (by omega), if_neg (by simp), UNumber_eq, Option.bind_some, UNumber_eq, Option.bind_some, if_pos (by omega), if_neg (by rintro (h | h | h); exact h1 h; exact h2 h; exact h3 h)]
theorem UParse_l : ∀ (n : Nat) (l : List UInt8) (acc : List S73) (k : Nat), l.length ≤ n → l.length ≤ 100000 → acc.length ≤ 16 → 3 * n + 5 ≤ k → span_Parse.l101 k acc (mk l) true = some (ans (goP (pieces 44 l) acc))
 | n, l, acc, k, hn, hl, ha, hk => by
  obtain ⟨k, rfl⟩ : ∃ m, k = m + 3 := ⟨k - 3, by omega⟩
  obtain ⟨hc1, hc2⟩ := cut_len 44 l
  rw [span_Parse.l101, if_pos rfl, cut_at 44 l (by omega), Option.bind_some, pieces_cut 44 l]
  -- what stands behind the piece
  have tail : ∀ (p : List UInt8) (rest : ByteArray) (more : Bool) (ps : List (List UInt8)), p.length ≤ 100000 →
    (∀ r, ¬ 16 ≤ acc.length → span_Parse.l101 k (acc ++ [r]) rest more = some (ans (goP ps (acc ++ [r])))) →
    ((strings_Cut.f (mk p) (⟨#[58]⟩ : ByteArray)).bind fun bt108 => (if bt108.2.2 = true then (span_Parse.j1 (k + 2) acc rest more bt108.1 bt108.2.1) else (span_Parse.j1 (k + 2) acc rest more bt108.1 bt108.1))) = some (ans (goP (p :: ps) acc)) := by
   intro p rest more ps hp hrec
   rw [colon p (by omega), Option.bind_some]
   have key : ∀ a b, ends p = (a, b) → span_Parse.j1 (k + 2) acc rest more (mk a) (mk b) = some (ans (goP (p :: ps) acc)) := by
    intro a b he
    rw [UParse_j1 k acc rest more a b ha]
    unfold goP rng
    rw [he]
    by_cases h1 : num a = 0 ∨ num b = 0
    ·rw [if_pos (h1.elim .inl (fun h => .inr (.inl h))), if_pos h1]
     rfl
    ·rw [if_neg h1]
     by_cases h3 : 16 ≤ acc.length
     ·rw [if_pos (.inr (.inr h3))]
      simp only
      rw [if_pos h3]
      rfl
     ·rw [if_neg (by rintro (h | h | h); exact h1 (.inl h); exact h1 (.inr h); exact h3 h)]
      simp only
      rw [if_neg h3]
      exact hrec _ h3
   unfold ends at key
   cases hc : (cutL 58 p).2 with
   | none =>
    rw [show cutL 58 p = ((cutL 58 p).1, none) from Prod.ext rfl hc] at key
    rw [if_neg (by simp)]
    exact key _ _ rfl
   | some b =>
    rw [show cutL 58 p = ((cutL 58 p).1, some b) from Prod.ext rfl hc] at key
    rw [if_pos rfl]
    exact key _ _ rfl
  cases hc : (cutL 44 l).2 with
  | none =>
   rw [show cutL 44 l = ((cutL 44 l).1, none) from Prod.ext rfl hc]
   have hl1 : (cutL 44 l).1 = l := by
    rcases cut_ix 44 l with ⟨_, h⟩ | ⟨_, _, h⟩
    ·rw [h]
    ·rw [h] at hc; cases hc
   rw [hl1]
   refine tail l _ _ [] (by omega) (fun r h => ?_)
   obtain ⟨k, rfl⟩ : ∃ m, k = m + 1 := ⟨k - 1, by omega⟩
   rw [span_Parse.l101, if_neg (by simp)]
   rfl
  | some b =>
   rw [show cutL 44 l = ((cutL 44 l).1, some b) from Prod.ext rfl hc]
   have hlb := hc2 b hc
   refine tail _ _ _ _ (by omega) (fun r h => ?_)
   match n, hn, hk with
   | 0, hn, _ => exact absurd hn (by omega)
   | n + 1, hn, hk => exact UParse_l n b _ k (by omega) (by omega) (by rw [List.length_append]; simp; omega) (by omega)
theorem UParse_eq (k : Nat) (l : List UInt8) (hl : l.length ≤ 100000) (hk : 3 * l.length + 5 ≤ k) : span_Parse.f k (mk l) = some (ans (goP (pieces 44 l) [])) := by
 unfold span_Parse.f
 exact UParse_l l.length l [] k (Nat.le_refl _) hl (Nat.zero_le _) hk

theorem RParse_j2 (k : Nat) (x : ByteArray) (acc : List S73) (ix a b : Int) (ha : acc.length ≤ 16) :
  letterboxref12_Parse.j2 (k + 2) x acc ix a b = if a = 0 ∨ b = 0 ∨ 16 ≤ acc.length then some ([], 3) else
   (if ix < 0 then (some (acc ++ [⟨a, b⟩], 0)) else (if 0 ≤ (wrap64 (ix + 1)) then (if (wrap64 (ix + 1)) ≤ (x.size : Int) then (letterboxref12_Parse.l0 k (x.extract ((wrap64 (ix + 1)) : Int).toNat x.size) (acc ++ [⟨a, b⟩])) else (none)) else (none))) := by
 rw [letterboxref12_Parse.j2]
 by_cases h1 : a = 0
 ·rw [if_pos h1, if_pos (.inl h1), letterboxref12_Parse.j3, if_pos rfl]
 ·rw [if_neg h1]
  by_cases h2 : b = 0
  ·rw [if_pos h2, if_pos (.inr (.inl h2)), letterboxref12_Parse.j3, if_pos rfl]
  ·rw [if_neg h2, letterboxref12_Parse.j3]
   by_cases h3 : 16 ≤ acc.length
   ·rw [decide_eq_true (by omega), if_pos rfl, if_pos (.inr (.inr h3))]
   ·rw [decide_eq_false (by omega), if_neg (by simp), if_pos (by omega), Option.bind_some, if_neg (show ¬ (a = 0 ∨ b = 0 ∨ 16 ≤ acc.length) from by rintro (h | h | h); exact h1 h; exact h2 h; exact h3 h)]
theorem RParse_j1 (k : Nat) (x : ByteArray) (acc : List S73) (ix : Int) (p : List UInt8) (hp : p.length ≤ 2000) (hk : 2001 ≤ k) :
  letterboxref12_Parse.j1 (k + 3) x acc ix (mk p) = letterboxref12_Parse.j2 (k + 2) x acc ix (num (ends p).1) (num (ends p).2) := by
 have hcol : letterboxref9_Colon.f (k + 2) (mk p) 58 = some (Lib.indexByte p 58) := Colon_eq (k + 2) p 58 (by omega) (by omega)
 rw [letterboxref12_Parse.j1, hcol, Option.bind_some]
 unfold ends
 rcases cut_ix 58 p with ⟨h1, h2⟩ | ⟨h1, h3, h2⟩
 ·rw [h2, if_neg (by omega), RNumber_eq _ (by omega), Option.bind_some, Option.bind_some]
 ·rw [h2, if_pos (by omega), if_pos h1, mk_size, if_pos (by omega), mk_take, RNumber_eq _ (by omega), Option.bind_some, w64 _ (by omega) (by omega), if_pos (by omega), if_pos (by omega), show (Lib.indexByte p 58 + 1).toNat = (Lib.indexByte p 58).toNat + 1 by omega]
  have hd := mk_drop p ((Lib.indexByte p 58).toNat + 1)
  rw [mk_size] at hd
  rw [hd, RNumber_eq _ (by omega), Option.bind_some]
theorem RParse_l : ∀ (n : Nat) (l : List UInt8) (acc : List S73) (k : Nat), l.length ≤ n → l.length ≤ 2000 → acc.length ≤ 16 → 4 * n + 2010 ≤ k → letterboxref12_Parse.l0 k (mk l) acc = some (ans (goP (pieces 44 l) acc))
 | n, l, acc, k, hn, hl, ha, hk => by
  obtain ⟨k, rfl⟩ : ∃ m, k = m + 4 := ⟨k - 4, by omega⟩
  obtain ⟨hc1, hc2⟩ := cut_len 44 l
  have hcol : letterboxref9_Colon.f (k + 3) (mk l) 44 = some (Lib.indexByte l 44) := Colon_eq (k + 3) l 44 (by omega) (by omega)
  rw [letterboxref12_Parse.l0, hcol, Option.bind_some, pieces_cut 44 l]
  have tail : ∀ (p : List UInt8) (ix : Int) (ps : List (List UInt8)), p.length ≤ 2000 →
    (∀ r, ¬ 16 ≤ acc.length → (if ix < 0 then (some (acc ++ [r], (0 : Int))) else (if 0 ≤ (wrap64 (ix + 1)) then (if (wrap64 (ix + 1)) ≤ ((mk l).size : Int) then (letterboxref12_Parse.l0 k ((mk l).extract ((wrap64 (ix + 1)) : Int).toNat (mk l).size) (acc ++ [r])) else (none)) else (none))) = some (ans (goP ps (acc ++ [r])))) →
    letterboxref12_Parse.j1 (k + 3) (mk l) acc ix (mk p) = some (ans (goP (p :: ps) acc)) := by
   intro p ix ps hp hrec
   rw [RParse_j1 k _ acc ix p hp (by omega), RParse_j2 k _ acc ix _ _ ha]
   unfold goP rng
   by_cases h1 : num (ends p).1 = 0 ∨ num (ends p).2 = 0
   ·rw [if_pos (h1.elim .inl (fun h => .inr (.inl h))), if_pos h1]
    rfl
   ·rw [if_neg h1]
    by_cases h3 : 16 ≤ acc.length
    ·rw [if_pos (.inr (.inr h3))]
     simp only
     rw [if_pos h3]
     rfl
    ·rw [if_neg (by rintro (h | h | h); exact h1 (.inl h); exact h1 (.inr h); exact h3 h)]
     simp only
     rw [if_neg h3]
     exact hrec _ h3
  rcases cut_ix 44 l with ⟨h1, h2⟩ | ⟨h1, h3, h2⟩
  ·rw [h2, if_neg (by omega)]
   refine tail l _ [] (by omega) (fun r h => ?_)
   rw [if_pos (by omega)]
   rfl
  ·have hlb := hc2 (l.drop ((Lib.indexByte l 44).toNat + 1)) (by rw [h2])
   have hl1 : (l.take (Lib.indexByte l 44).toNat).length ≤ l.length := by rw [List.length_take]; omega
   rw [h2, if_pos (by omega), if_pos h1, mk_size, if_pos (by omega), mk_take]
   refine tail _ _ _ (by omega) (fun r h => ?_)
   have hd := mk_drop l ((Lib.indexByte l 44).toNat + 1)
   rw [if_neg (by omega), w64 _ (by omega) (by omega), if_pos (by omega), mk_size, if_pos (by omega), show (Lib.indexByte l 44 + 1).toNat = (Lib.indexByte l 44).toNat + 1 by omega, ← mk_size l, hd]
   match n, hn, hk with
   | 0, hn, _ => exact absurd hn (by omega)
   | n + 1, hn, hk => exact RParse_l n _ _ k (by omega) (by omega) (by rw [List.length_append]; simp; omega) (by omega)
theorem RParse_eq (k : Nat) (l : List UInt8) (hl : l.length ≤ 2000) (hk : 4 * l.length + 2010 ≤ k) : letterboxref12_Parse.f k (mk l) = some (ans (goP (pieces 44 l) [])) := by
 unfold letterboxref12_Parse.f
 exact RParse_l l.length l [] k (Nat.le_refl _) hl (Nat.zero_le _) hk

end Go.Proofs.YtejhfghijgbckaaGreatDoor.Spec
namespace Go.Proofs.YtejhfghijgbckaaGreatDoor.Spec
open Go.RowKit Go.Proofs.YtejhfghijgbckaaGreatDoor Go.Proofs.YtejhfghijgbckaaGreatDoor.P Go.Proofs.YtejhfghijgbckaaGreatDoorW.PrintWords Go.Proofs.YtejhfghijgbckaaGreatDoorW.PrintLast Go.Proofs.YtejhfghijgbckaaGreatDoorW.PrintMore
set_option linter.unusedVariables false
set_option linter.unusedSimpArgs false
def fl (w : List UInt8) : Int :=
 if w = [115, 101, 101, 110] then 1 else if w = [97, 110, 115, 119, 101, 114, 101, 100] then 2 else if w = [102, 108, 97, 103, 103, 101, 100] then 4
 else if w = [100, 101, 108, 101, 116, 101, 100] then 8 else if w = [100, 114, 97, 102, 116] then 16 else 0
theorem fl_pos {w : List UInt8} (h : ¬ fl w = 0) : 0 < fl w := by
 unfold fl at h ⊢
 split <;> (try decide)
 split <;> (try decide)
 split <;> (try decide)
 split <;> (try decide)
 split <;> (try decide)
 simp_all
def trimUn (w : List UInt8) : List UInt8 := if w.take 2 = [117, 110] then w.drop 2 else w
theorem strOf_length (l : List Int) : (strOfNums l).size = l.length := by
 unfold strOfNums
 rw [Lib.size_eq]
 simp
theorem lowB_size (s : ByteArray) : (lowB s).size = s.size := by
 unfold lowB
 rw [strOf_length, List.length_map, bytesOf_length]
theorem lowB_nil : lowB ⟨#[]⟩ = ⟨#[]⟩ := by rfl
theorem smallF_eq (s : ByteArray) (h : s.size ≤ 2000) : find_small.f s = some (lowB s) := by
 unfold find_small.f
 rw [if_pos (by omega)]
theorem flagF_eq (v : ByteArray) : find_flag.f v = some (fl v.toList) := by
 unfold find_flag.f fl
 split
 ·rfl
 split
 ·rfl
 split
 ·rfl
 split
 ·rfl
 split
 ·rfl
 ·rfl
theorem trimUn_eq (w : ByteArray) : strings_TrimPrefix.f w (⟨#[117, 110]⟩ : ByteArray) = some (mk (trimUn w.toList)) := by
 unfold strings_TrimPrefix.f Lib.trimPrefix Lib.hasPrefix trimUn mk
 rw [Lib.toList_data]
 have key : ∀ l : List UInt8, List.isPrefixOf [117, 110] l = decide (l.take 2 = [117, 110]) := by
  intro l
  match l with
  | [] => rfl
  | [a] =>
   simp [List.isPrefixOf]
  | a :: b :: r =>
   rw [Bool.eq_iff_iff, decide_eq_true_iff]
   simp only [List.isPrefixOf, List.take_succ_cons, List.take_zero, List.cons.injEq, and_true, Bool.and_true, Bool.and_eq_true, beq_iff_eq]
   exact ⟨fun h => ⟨h.1.symm, h.2.symm⟩, fun h => ⟨h.1.symm, h.2.symm⟩⟩
 by_cases h : w.data.toList.take 2 = [117, 110]
 ·rw [if_pos h, if_pos (by rw [show (⟨#[117, 110]⟩ : ByteArray).data.toList = [117, 110] from rfl, key, decide_eq_true h])]
  rfl
 ·rw [if_neg h, if_neg (by rw [show (⟨#[117, 110]⟩ : ByteArray).data.toList = [117, 110] from rfl, key, decide_eq_false h]; decide)]
/-! ### Sets -/
def setS (s : ByteArray) : List Rg × Int := ans (goP (pieces 44 s.data.toList) [])
theorem setF_eq (s : ByteArray) (b : Bool) (h : s.size ≤ 100000) : setF s b = some ((setS s).1, if (setS s).2 = 0 then b else true) := by
 unfold setF
 have e := UParse_eq (4 * s.size + 2010) s.data.toList (by rw [← Lib.size_eq]; exact h) (by rw [← Lib.size_eq]; omega)
 rw [mk_of] at e
 rw [e]
 rfl
/-! ### Numbers -/
def numV (l : List UInt8) : Option Nat := if l = [] ∨ 7 < l.length then none else if l.all dig then some (decV 0 l) else none
def numEnd (v : Option Nat) (l : List Tok) (b : Bool) : Int × List Tok × Bool := match v with | some v => ((v : Int), l, b) | none => (0, l, true)
theorem atoi_dig (b : UInt8) (r : List UInt8) (h : (b :: r).all dig = true) : Lib.atoi (b :: r) = some (decV 0 (b :: r) : Nat) := by
 have h5 := h
 rw [List.all_cons, Bool.and_eq_true] at h5
 have h6 := h5.1
 unfold dig at h6
 simp only [Bool.and_eq_true, decide_eq_true_eq] at h6
 have e1 : (b == 45) = false := beq_eq_false_iff_ne.2 (by rintro rfl; simp at h6)
 have e2 : (b == 43) = false := beq_eq_false_iff_ne.2 (by rintro rfl; simp at h6)
 have e3 : Lib.decNat (b :: r) = some (decV 0 (b :: r)) := by
  unfold Lib.decNat
  rw [if_neg (by simp), decFrom_all _ _ h]
 simp only [Lib.atoi, e1, e2, e3, Bool.false_eq_true, if_false, Option.map_some]
 rfl
theorem numberF_eq (l : List Tok) (b : Bool) : numberF l b = some (numEnd (numV (nextF [1] l b).1.data.toList) (nextF [1] l b).2.1 (nextF [1] l b).2.2) := by
 obtain ⟨s, hs⟩ : ∃ s, s = (nextF [1] l b).1 := ⟨_, rfl⟩
 obtain ⟨q, hq⟩ : ∃ q, q = s.data.toList := ⟨_, rfl⟩
 have hsq : s = mk q := by rw [hq, mk_of]
 unfold numberF numV
 rw [← hs, hsq, mk_toList, mk_data, mk_size]
 by_cases h1 : q = []
 ·rw [if_pos h1, if_pos (.inl h1)]; rfl
 ·rw [if_neg h1]
  by_cases h2 : 7 < q.length
  ·rw [if_pos (by omega), if_pos (.inr h2)]; rfl
  ·rw [if_neg (by omega), if_neg (by rintro (h | h); exact h1 h; exact h2 h)]
   have ht : strings_Trim.f (mk q) ⟨#[48, 49, 50, 51, 52, 53, 54, 55, 56, 57]⟩ = some (mk (Lib.trimS q [48, 49, 50, 51, 52, 53, 54, 55, 56, 57])) := by
    unfold strings_Trim.f
    rw [if_pos ⟨by rw [mk_size]; omega, by decide, by decide⟩]
    rfl
   rw [ht, Option.bind_some, mk_toList]
   by_cases h4 : q.all dig = true
   ·rw [if_pos ((trim_nil _).2 h4), if_pos h4]
    obtain ⟨c, r, rfl⟩ : ∃ c r, q = c :: r := by cases q with | nil => exact absurd rfl h1 | cons c r => exact ⟨c, r, rfl⟩
    unfold strconv_Atoi.f
    rw [if_pos (by rw [mk_size]; omega), mk_data, atoi_dig c r h4]
    rfl
   ·rw [if_neg (fun h => h4 ((trim_nil _).1 h)), if_neg h4]; rfl
end Go.Proofs.YtejhfghijgbckaaGreatDoor.Spec
namespace Go.Proofs.YtejhfghijgbckaaGreatDoor.Spec
open Go.RowKit Go.Proofs.YtejhfghijgbckaaGreatDoor Go.Proofs.YtejhfghijgbckaaGreatDoor.P Go.Proofs.YtejhfghijgbckaaGreatDoorW.PrintWords Go.Proofs.YtejhfghijgbckaaGreatDoorW.PrintLast Go.Proofs.YtejhfghijgbckaaGreatDoorW.PrintMore
set_option linter.unusedVariables false
set_option linter.unusedSimpArgs false
theorem low_eq (s : ByteArray) (h : s.size ≤ 2000) : letterboxref9_Low.f s = some (lowB s) := by
 unfold letterboxref9_Low.f
 rw [if_pos (by omega)]
theorem flagR_eq (v : ByteArray) : letterboxref18_flag.f 10 v = some (fl v.toList) := by
 unfold letterboxref18_flag.f fl
 rw [letterboxref18_flag.l0, if_pos (by decide), if_pos (by decide), if_pos (by decide), show (rdOf ByteArray.empty _ (0 : Int)).toList = ([115, 101, 101, 110] : List UInt8) by kernel_rfl]
 by_cases h0 : v.toList = ([115, 101, 101, 110] : List UInt8)
 ·rw [if_pos h0.symm, if_pos h0]; rfl
 rw [if_neg (fun e => h0 e.symm), if_neg h0]
 rw [show wrap64 (0 + 1) = 1 from w64 _ (by decide) (by decide)]
 rw [letterboxref18_flag.l0, if_pos (by decide), if_pos (by decide), if_pos (by decide), show (rdOf ByteArray.empty _ (1 : Int)).toList = ([97, 110, 115, 119, 101, 114, 101, 100] : List UInt8) by kernel_rfl]
 by_cases h1 : v.toList = ([97, 110, 115, 119, 101, 114, 101, 100] : List UInt8)
 ·rw [if_pos h1.symm, if_pos h1]; rfl
 rw [if_neg (fun e => h1 e.symm), if_neg h1]
 rw [show wrap64 (1 + 1) = 2 from w64 _ (by decide) (by decide)]
 rw [letterboxref18_flag.l0, if_pos (by decide), if_pos (by decide), if_pos (by decide), show (rdOf ByteArray.empty _ (2 : Int)).toList = ([102, 108, 97, 103, 103, 101, 100] : List UInt8) by kernel_rfl]
 by_cases h2 : v.toList = ([102, 108, 97, 103, 103, 101, 100] : List UInt8)
 ·rw [if_pos h2.symm, if_pos h2]; rfl
 rw [if_neg (fun e => h2 e.symm), if_neg h2]
 rw [show wrap64 (2 + 1) = 3 from w64 _ (by decide) (by decide)]
 rw [letterboxref18_flag.l0, if_pos (by decide), if_pos (by decide), if_pos (by decide), show (rdOf ByteArray.empty _ (3 : Int)).toList = ([100, 101, 108, 101, 116, 101, 100] : List UInt8) by kernel_rfl]
 by_cases h3 : v.toList = ([100, 101, 108, 101, 116, 101, 100] : List UInt8)
 ·rw [if_pos h3.symm, if_pos h3]; rfl
 rw [if_neg (fun e => h3 e.symm), if_neg h3]
 rw [show wrap64 (3 + 1) = 4 from w64 _ (by decide) (by decide)]
 rw [letterboxref18_flag.l0, if_pos (by decide), if_pos (by decide), if_pos (by decide), show (rdOf ByteArray.empty _ (4 : Int)).toList = ([100, 114, 97, 102, 116] : List UInt8) by kernel_rfl]
 by_cases h4 : v.toList = ([100, 114, 97, 102, 116] : List UInt8)
 ·rw [if_pos h4.symm, if_pos h4]; rfl
 rw [if_neg (fun e => h4 e.symm), if_neg h4]
 rw [show wrap64 (4 + 1) = 5 from w64 _ (by decide) (by decide), letterboxref18_flag.l0, if_neg (by decide)]
theorem rsetF_eq (s : ByteArray) (b : Bool) (h : s.size ≤ 2000) : rsetF s b = some ((setS s).1, b || (setS s).2 != 0) := by
 unfold rsetF
 have e := RParse_eq (4 * s.size + 2010) s.data.toList (by rw [← Lib.size_eq]; exact h) (by rw [← Lib.size_eq]; omega)
 rw [mk_of] at e
 rw [e]
 rfl
theorem Num_l0 (l : List UInt8) (hl : l.length ≤ 7) : ∀ (k i v : Nat), i ≤ l.length → l.length - i < k → v < 10 ^ i → letterboxref16_Num.l0 k (mk l) v i = some (if (l.drop i).all dig then ((decV v (l.drop i) : Nat) : Int) else -1)
 | 0, _, _, _, h, _ => absurd h (by omega)
 | k + 1, i, v, hi, hk, hv => by
  unfold letterboxref16_Num.l0
  rw [mk_size]
  by_cases hlt : i < l.length
  ·have hd := List.drop_eq_getElem_cons hlt
   have hx : (mk l).data.toList[i]? = some l[i] := List.getElem?_eq_getElem hlt
   have hlt8 := UInt8.toNat_lt l[i]
   have hp : 10 ^ i ≤ 10 ^ 7 := Nat.pow_le_pow_right (by decide) (by omega)
   have h7 : (10 : Nat) ^ 7 = 10000000 := by decide
   rw [if_pos (by omega), if_pos (by omega), bt_nat (mk l) i _ hx, hd, List.all_cons]
   by_cases h1 : (l[i].toNat : Int) < 48
   ·have : dig l[i] = false := by unfold dig; rw [decide_eq_false (by omega)]; rfl
    rw [if_pos h1, this]
    rfl
   ·rw [if_neg h1]
    by_cases h2 : (l[i].toNat : Int) > 57
    ·have : dig l[i] = false := by unfold dig; rw [decide_eq_false (p := l[i].toNat ≤ 57) (by omega), Bool.and_false]
     rw [if_pos h2, this]
     rfl
    ·have : dig l[i] = true := by unfold dig; rw [decide_eq_true (by omega), decide_eq_true (by omega)]; rfl
     rw [if_neg h2, this, w64 (10 * (v : Int)) (by omega) (by omega), w64 (l[i].toNat : Int) (by omega) (by omega), w64 (10 * (v : Int) + (l[i].toNat : Int)) (by omega) (by omega), w64 _ (by omega) (by omega), w64 _ (by omega) (by omega),
      show (10 * (v : Int) + (l[i].toNat : Int) - 48) = ((v * 10 + (l[i].toNat - 48) : Nat) : Int) by omega, show ((i : Int) + 1) = ((i + 1 : Nat) : Int) from rfl, Num_l0 l hl k (i + 1) _ (by omega) (by omega) (by rw [Nat.pow_succ]; omega), Bool.true_and]
     rfl
  ·obtain rfl : i = l.length := by omega
   rw [if_neg (by omega), List.drop_length]
   rfl
theorem Num_eq (k : Nat) (hk : 12 ≤ k) (l : List UInt8) : letterboxref16_Num.f k (mk l) = some (match numV l with | some v => (v : Int) | none => -1) := by
 obtain ⟨k, rfl⟩ : ∃ q, k = q + 1 := ⟨k - 1, by omega⟩
 unfold letterboxref16_Num.f numV
 rw [mk_size]
 by_cases h1 : l = []
 ·subst h1; rfl
 ·have hpos : 0 < l.length := List.length_pos_iff.2 h1
  rw [if_neg (by omega), letterboxref16_Num.j0]
  by_cases h2 : 7 < l.length
  ·rw [decide_eq_true (by omega), if_pos rfl, if_pos (.inr h2)]
  ·rw [decide_eq_false (by omega), if_neg (by decide), if_neg (by rintro (h | h); exact h1 h; exact h2 h)]
   have e := Num_l0 l (by omega) k 0 0 (Nat.zero_le _) (by omega) (by decide)
   rw [List.drop_zero] at e
   refine e.trans ?_
   by_cases h4 : l.all dig = true
   ·rw [if_pos h4, if_pos h4]
   ·rw [if_neg h4, if_neg h4]
theorem rnumF_eq (l : List Tok) (b : Bool) (hs : (atomR l b).1.size ≤ 2000) : rnumF l b = some (numEnd (numV (atomR l b).1.data.toList) (atomR l b).2.1 (atomR l b).2.2) := by
 unfold rnumF
 have e := Num_eq ((atomR l b).1.size + 20) (by omega) (atomR l b).1.data.toList
 rw [mk_of] at e
 rw [e, Option.bind_some]
 cases numV (atomR l b).1.data.toList with
 | none => rw [if_pos (by decide)]; show some (0, _, _ || true) = _; rw [Bool.or_true]; rfl
 | some v => have hv : ¬ ((v : Int) < 0) := Int.not_lt.2 (Int.natCast_nonneg v); dsimp only; rw [if_neg hv, decide_eq_false hv, Bool.or_false]; rfl
end Go.Proofs.YtejhfghijgbckaaGreatDoor.Spec
namespace Go.Proofs.YtejhfghijgbckaaGreatDoor.Spec
open Go.RowKit Go.Proofs.YtejhfghijgbckaaGreatDoor Go.Proofs.YtejhfghijgbckaaGreatDoor.P Go.Proofs.YtejhfghijgbckaaGreatDoorW.PrintWords Go.Proofs.YtejhfghijgbckaaGreatDoorW.PrintLast Go.Proofs.YtejhfghijgbckaaGreatDoorW.PrintMore
set_option linter.unusedVariables false
set_option linter.unusedSimpArgs false
structure Res (l : List Tok) (b : Bool) (r : KRes) : Prop where
 bad : b = true → r.2.2 = true
 suf : r.2.1 <:+ l
def Ag (r s : KRes) : Prop := r.2.2 = s.2.2 ∧ (r.2.2 = false → r = s)
structure Both (d : Int) (l : List Tok) (b : Bool) (r s : KRes) : Prop where
 f : Res l b r
 g : Res l b s
 ag : b = false → d < 4 → Ag r s
 deep : 4 ≤ d → s.2.2 = true
def okl (l : List Tok) : Prop := ∀ t ∈ l, t.f1.size ≤ 2000
theorem okl.suf {l m : List Tok} (h : okl l) (hs : m <:+ l) : okl m := fun t ht => h t (hs.subset ht)
theorem Ag.both {r s : KRes} (h1 : r.2.2 = true) (h2 : s.2.2 = true) : Ag r s := ⟨h1.trans h2.symm, fun h => absurd (h1.symm.trans h) (by decide)⟩
theorem Ag.refl (r : KRes) : Ag r r := ⟨rfl, fun _ => rfl⟩
theorem Res.rfl' (x : Key) (l : List Tok) (b : Bool) : Res l b (x, l, b) := ⟨fun h => h, List.suffix_refl l⟩
theorem Res.step {l m : List Tok} {b c : Bool} {r : KRes} (h : Res m c r) (hs : m <:+ l) (hb : b = true → c = true) : Res l b r := ⟨fun h1 => h.bad (hb h1), h.suf.trans hs⟩
theorem Res.ext {l : List Tok} {b : Bool} {r s : KRes} (h : Res l b r) (e : r.2 = s.2) : Res l b s := ⟨fun hb => by rw [← e]; exact h.bad hb, by rw [← e]; exact h.suf⟩
/-! ### next -/
theorem nextF_cons (ks : List Int) (y : Tok) (t : List Tok) (b : Bool) : nextF ks (y :: t) b = if ks.contains y.f0 = true then (y.f1, t, b) else (⟨#[]⟩, [], true) := rfl
theorem nextF_res (ks : List Int) (l : List Tok) (b : Bool) (x : Key) : Res l b (x, (nextF ks l b).2) := by
 cases l with
 | nil => exact ⟨fun _ => rfl, List.suffix_refl _⟩
 | cons y t =>
  rw [nextF_cons]
  split
  ·exact ⟨fun h => h, List.suffix_cons y t⟩
  ·exact ⟨fun _ => rfl, List.nil_suffix⟩
theorem nextF_size (ks : List Int) {l : List Tok} (b : Bool) (h : okl l) : (nextF ks l b).1.size ≤ 2000 := by
 cases l with
 | nil => exact Nat.zero_le _
 | cons y t =>
  rw [nextF_cons]
  split
  ·exact h y List.mem_cons_self
  ·exact Nat.zero_le _
theorem nextR_res (l : List Tok) (b : Bool) (x : Key) : Res l b (x, (nextR l b).2) := by
 cases l with
 | nil => exact ⟨fun _ => rfl, List.suffix_refl _⟩
 | cons y t => exact ⟨fun h => h, List.suffix_cons y t⟩
theorem nextR_size {l : List Tok} (b : Bool) (h : okl l) : (nextR l b).1.f1.size ≤ 2000 := by
 cases l with
 | nil => exact Nat.zero_le _
 | cons y t => exact h y List.mem_cons_self
theorem atomR_res (l : List Tok) (b : Bool) (x : Key) : Res l b (x, (atomR l b).2) := by
 unfold atomR
 exact ⟨fun h => by rw [(nextR_res l b x).bad h]; rfl, (nextR_res l b x).suf⟩
theorem textR_res (l : List Tok) (b : Bool) (x : Key) : Res l b (x, (textR l b).2) := by
 unfold textR
 exact ⟨fun h => by rw [(nextR_res l b x).bad h]; rfl, (nextR_res l b x).suf⟩
theorem text_ag (l : List Tok) (mkK : ByteArray → Key) : Ag (mkK (nextF [1, 2] l false).1, (nextF [1, 2] l false).2) (mkK (textR l false).1, (textR l false).2) := by
 cases l with
 | nil => exact Ag.both rfl rfl
 | cons y t =>
  by_cases h1 : y.f0 = 1
  ·have e1 : nextF [1, 2] (y :: t) false = (y.f1, t, false) := by simp [nextF, h1]
   have e2 : textR (y :: t) false = (y.f1, t, false) := by simp [textR, nextR, h1]
   rw [e1, e2]
   exact Ag.refl _
  ·by_cases h2 : y.f0 = 2
   ·have e1 : nextF [1, 2] (y :: t) false = (y.f1, t, false) := by simp [nextF, h2]
    have e2 : textR (y :: t) false = (y.f1, t, false) := by simp [textR, nextR, h2]
    rw [e1, e2]
    exact Ag.refl _
   ·have e1 : nextF [1, 2] (y :: t) false = (⟨#[]⟩, [], true) := by simp [nextF, h1, h2]
    have e2 : textR (y :: t) false = (y.f1, t, true) := by simp [textR, nextR, h1, h2]
    rw [e1, e2]
    exact Ag.both rfl rfl
theorem atom_cases (l : List Tok) : (nextF [1] l false = atomR l false ∧ (atomR l false).2.2 = false) ∨ ((nextF [1] l false).2.2 = true ∧ (atomR l false).2.2 = true) := by
 cases l with
 | nil => exact .inr ⟨rfl, rfl⟩
 | cons y t =>
  by_cases h1 : y.f0 = 1
  ·have e1 : nextF [1] (y :: t) false = (y.f1, t, false) := by simp [nextF, h1]
   have e2 : atomR (y :: t) false = (y.f1, t, false) := by simp [atomR, nextR, h1]
   rw [e1, e2]
   exact .inl ⟨rfl, rfl⟩
  ·have e1 : nextF [1] (y :: t) false = (⟨#[]⟩, [], true) := by simp [nextF, h1]
   have e2 : atomR (y :: t) false = (y.f1, t, true) := by simp [atomR, nextR, h1]
   rw [e1, e2]
   exact .inr ⟨rfl, rfl⟩
/-! ### Numbers and sets -/
theorem num_both (l : List Tok) (b : Bool) (h : okl l) (mkK : Int → Key) : ∃ n m, numberF l b = some n ∧ rnumF l b = some m ∧ Res l b (mkK n.1, n.2) ∧ Res l b (mkK m.1, m.2) ∧ (b = false → Ag (mkK n.1, n.2) (mkK m.1, m.2)) := by
 obtain ⟨v, hv⟩ : ∃ v, v = numV (nextF [1] l b).1.data.toList := ⟨_, rfl⟩
 obtain ⟨u, hu⟩ : ∃ u, u = numV (atomR l b).1.data.toList := ⟨_, rfl⟩
 have hs2 : (atomR l b).1.size ≤ 2000 := nextR_size b h
 have e1 := numberF_eq l b
 have e2 := rnumF_eq l b hs2
 rw [← hv] at e1
 rw [← hu] at e2
 refine ⟨_, _, e1, e2, ?_, ?_, ?_⟩
 ·have hr := nextF_res [1] l b (mkK 0)
  cases v with
  | none => exact ⟨fun _ => rfl, hr.suf⟩
  | some v => exact hr.ext rfl
 ·have hr := atomR_res l b (mkK 0)
  cases u with
  | none => exact ⟨fun _ => rfl, hr.suf⟩
  | some u => exact hr.ext rfl
 ·intro hb
  subst hb
  rcases atom_cases l with ⟨h1, h2⟩ | ⟨h1, h2⟩
  ·rw [h1] at hv ⊢
   have : u = v := hu.trans hv.symm
   subst this
   cases u with
   | none => exact Ag.both rfl rfl
   | some u => exact Ag.refl _
  ·refine Ag.both ?_ ?_
   ·cases v with
    | none => rfl
    | some v => exact h1
   ·cases u with
    | none => rfl
    | some u => exact h2
theorem set_both (s : ByteArray) (hs : s.size ≤ 2000) (b : Bool) : setF s b = some ((setS s).1, if (setS s).2 = 0 then b else true) ∧ rsetF s b = some ((setS s).1, if (setS s).2 = 0 then b else true) := by
 have e1 := setF_eq s b (by omega)
 have e2 := rsetF_eq s b hs
 refine ⟨e1, e2.trans ?_⟩
 by_cases h : (setS s).2 = 0
 ·rw [if_pos h, h]; cases b <;> rfl
 ·rw [if_neg h, bne_iff_ne.2 h, Bool.or_true]
theorem set_res (x : Key) (l : List Tok) (b : Bool) (e : Int) : Res l b (x, l, if e = 0 then b else true) := by
 refine ⟨fun h => ?_, List.suffix_refl l⟩
 show (if e = 0 then b else true) = true
 split
 ·exact h
 ·rfl
theorem uid_both (l : List Tok) (b : Bool) (h : okl l) (mkK : List Rg → Key) : ∃ n m, setF (nextF [1] l b).1 (nextF [1] l b).2.2 = some n ∧ rsetF (atomR l b).1 (atomR l b).2.2 = some m ∧ Res l b (mkK n.1, (nextF [1] l b).2.1, n.2) ∧ Res l b (mkK m.1, (atomR l b).2.1, m.2) ∧ (b = false → Ag (mkK n.1, (nextF [1] l b).2.1, n.2) (mkK m.1, (atomR l b).2.1, m.2)) := by
 have hs2 : (atomR l b).1.size ≤ 2000 := nextR_size b h
 have e1 := (set_both _ (nextF_size [1] b h) (nextF [1] l b).2.2).1
 have e2 := (set_both _ hs2 (atomR l b).2.2).2
 refine ⟨_, _, e1, e2, ?_, ?_, ?_⟩
 ·exact (set_res (mkK []) _ _ _).step (nextF_res [1] l b (mkK [])).suf (nextF_res [1] l b (mkK [])).bad |>.ext rfl
 ·exact (set_res (mkK []) _ _ _).step (atomR_res l b (mkK [])).suf (atomR_res l b (mkK [])).bad |>.ext rfl
 ·intro hb
  subst hb
  rcases atom_cases l with ⟨h1, h2⟩ | ⟨h1, h2⟩
  ·rw [h1]
   exact Ag.refl _
  ·have q : ∀ (e : Int) (c : Bool), c = true → (if e = 0 then c else true) = true := by intro e c hc; split; exact hc; rfl
   exact Ag.both (q _ _ h1) (q _ _ h2)
/-! ### A word -/
theorem word_both {K K' : List Tok → Bool → Option KRes} {d : Int} {l : List Tok} (hd : 0 ≤ d) (hl : okl l) (hK : ∀ l' b', l' <:+ l → ∃ r s, K l' b' = some r ∧ K' l' b' = some s ∧ Both d l' b' r s) (s : ByteArray) (hs : s.size ≤ 2000) (b : Bool) :
  ∃ r q, wordF K d s (lowB s) l b = some r ∧ wordR K' s l b = some q ∧ Res l b r ∧ Res l b q ∧ (b = false → d ≤ 4 → Ag r q) := by
 have hw : (lowB s).size ≤ 2000 := by rw [lowB_size]; exact hs
 obtain ⟨w, hwd⟩ : ∃ w, w = lowB s := ⟨_, rfl⟩
 rw [← hwd] at hw ⊢
 have hF : ∀ v : ByteArray, find_flag.f v = some (fl v.toList) := flagF_eq
 have hG : ∀ v : ByteArray, letterboxref18_flag.f 10 v = some (fl v.toList) := flagR_eq
 have hT := trimUn_eq w
 obtain ⟨W, hW⟩ : ∃ W, W = w.toList := ⟨_, rfl⟩
 have same : ∀ r : KRes, Res l b r → ∃ r' q, (some r : Option KRes) = some r' ∧ (some r : Option KRes) = some q ∧ Res l b r' ∧ Res l b q ∧ (b = false → d ≤ 4 → Ag r' q) := fun r h => ⟨r, r, rfl, rfl, h, h, fun _ _ => Ag.refl r⟩
 have setK : ∃ r q, ((setF s b).bind fun r => some (⟨7, 0, ⟨#[]⟩, ⟨#[]⟩, r.1, []⟩, l, r.2) : Option KRes) = some r ∧ ((rsetF s b).bind fun r => some (⟨7, 0, ⟨#[]⟩, ⟨#[]⟩, r.1, []⟩, l, r.2) : Option KRes) = some q ∧ Res l b r ∧ Res l b q ∧ (b = false → d ≤ 4 → Ag r q) := by
  rw [(set_both s hs b).1, (set_both s hs b).2]
  exact same _ (set_res _ _ _ _)
 unfold wordF wordR
 rw [low_eq s hs, ← hwd]
 simp only [hF, hG, hT, Option.bind_some, ← hW, mk_toList]
 by_cases hf : fl W = 0
 ·rw [if_pos hf]
  by_cases hu : fl (trimUn W) = 0
  ·rw [if_pos hu]
   by_cases k1 : W = ([97, 108, 108] : List UInt8)
   ·rw [if_pos k1, if_pos k1]
    exact same _ (Res.rfl' _ _ _)
   rw [if_neg k1, if_neg k1]
   by_cases k2 : W = ([108, 97, 114, 103, 101, 114] : List UInt8)
   ·rw [if_pos k2, if_pos k2]
    obtain ⟨n, m, h1, h2, h3, h4, h5⟩ := num_both l b hl fun n => ⟨3, n, ⟨#[]⟩, ⟨#[]⟩, [], []⟩
    rw [h1, h2]
    exact ⟨_, _, rfl, rfl, h3, h4, fun hb _ => h5 hb⟩
   rw [if_neg k2, if_neg k2]
   by_cases k3 : W = ([115, 109, 97, 108, 108, 101, 114] : List UInt8)
   ·rw [if_pos k3, if_pos k3]
    obtain ⟨n, m, h1, h2, h3, h4, h5⟩ := num_both l b hl fun n => ⟨4, n, ⟨#[]⟩, ⟨#[]⟩, [], []⟩
    rw [h1, h2]
    exact ⟨_, _, rfl, rfl, h3, h4, fun hb _ => h5 hb⟩
   rw [if_neg k3, if_neg k3]
   by_cases k4 : W = ([116, 101, 120, 116] : List UInt8)
   ·rw [if_pos k4, if_pos k4]
    exact ⟨_, _, rfl, rfl, nextF_res _ _ _ _, textR_res _ _ _, fun hb _ => by subst hb; exact text_ag l fun t => ⟨5, 0, ⟨#[]⟩, t, [], []⟩⟩
   rw [if_neg k4, if_neg k4]
   by_cases k5 : W = ([115, 117, 98, 106, 101, 99, 116] : List UInt8)
   ·rw [if_pos k5, if_pos k5]
    exact ⟨_, _, rfl, rfl, nextF_res _ _ _ _, textR_res _ _ _, fun hb _ => by subst hb; exact text_ag l fun t => ⟨6, 0, w, t, [], []⟩⟩
   rw [if_neg k5, if_neg k5]
   by_cases k6 : W = ([102, 114, 111, 109] : List UInt8)
   ·rw [if_pos k6, if_pos k6]
    exact ⟨_, _, rfl, rfl, nextF_res _ _ _ _, textR_res _ _ _, fun hb _ => by subst hb; exact text_ag l fun t => ⟨6, 0, w, t, [], []⟩⟩
   rw [if_neg k6, if_neg k6]
   by_cases k7 : W = ([116, 111] : List UInt8)
   ·rw [if_pos k7, if_pos k7]
    exact ⟨_, _, rfl, rfl, nextF_res _ _ _ _, textR_res _ _ _, fun hb _ => by subst hb; exact text_ag l fun t => ⟨6, 0, w, t, [], []⟩⟩
   rw [if_neg k7, if_neg k7]
   by_cases k8 : W = ([117, 105, 100] : List UInt8)
   ·rw [if_pos k8, if_pos k8]
    obtain ⟨n, m, h1, h2, h3, h4, h5⟩ := uid_both l b hl fun n => ⟨8, 0, ⟨#[]⟩, ⟨#[]⟩, n, []⟩
    rw [h1, h2]
    exact ⟨_, _, rfl, rfl, h3, h4, fun hb _ => h5 hb⟩
   rw [if_neg k8, if_neg k8]
   have hgo : goDeep d l <:+ l := by
    unfold goDeep
    split
    ·exact List.nil_suffix
    ·exact List.suffix_refl l
   have hgb : b = true → badDeep d b = true := fun h => by
    unfold badDeep
    split
    ·rfl
    ·exact h
   by_cases k9 : W = ([110, 111, 116] : List UInt8)
   ·rw [if_pos k9, if_pos k9]
    obtain ⟨r, s1, h1, h2, h3⟩ := hK (goDeep d l) (badDeep d b) hgo
    obtain ⟨r2, s2, g1, g2, g3⟩ := hK l b (List.suffix_refl l)
    rw [h1, g2]
    refine ⟨_, _, rfl, rfl, (h3.f.step hgo hgb).ext rfl, g3.g.ext rfl, fun hb hd4 => ?_⟩
    by_cases h4 : 4 ≤ d
    ·have e : badDeep d b = true := by unfold badDeep; rw [if_pos h4]
     exact Ag.both (h3.f.bad e) (g3.deep h4)
    ·have e1 : goDeep d l = l := by unfold goDeep; rw [if_neg h4]
     have e2 : badDeep d b = b := by unfold badDeep; rw [if_neg h4]
     rw [e1, e2] at h1
     obtain rfl : r2 = r := Option.some.inj (g1.symm.trans h1)
     obtain ⟨a1, a2⟩ := g3.ag hb (by omega)
     exact ⟨a1, fun h => by rw [a2 h]⟩
   rw [if_neg k9, if_neg k9]
   by_cases k10 : W = ([111, 114] : List UInt8)
   ·rw [if_pos k10, if_pos k10]
    obtain ⟨r, s1, h1, h2, h3⟩ := hK (goDeep d l) (badDeep d b) hgo
    obtain ⟨r2, s2, g1, g2, g3⟩ := hK l b (List.suffix_refl l)
    obtain ⟨p, p', i1, i2, i3⟩ := hK r.2.1 r.2.2 (h3.f.suf.trans hgo)
    obtain ⟨q, q', j1, j2, j3⟩ := hK s2.2.1 s2.2.2 g3.g.suf
    rw [h1, g2, Option.bind_some, Option.bind_some, i1, j2]
    refine ⟨_, _, rfl, rfl, ((i3.f.step h3.f.suf h3.f.bad).step hgo hgb).ext rfl, (j3.g.step g3.g.suf g3.g.bad).ext rfl, fun hb hd4 => ?_⟩
    by_cases h4 : 4 ≤ d
    ·have e : badDeep d b = true := by unfold badDeep; rw [if_pos h4]
     exact Ag.both (i3.f.bad (h3.f.bad e)) (j3.deep h4)
    ·have e1 : goDeep d l = l := by unfold goDeep; rw [if_neg h4]
     have e2 : badDeep d b = b := by unfold badDeep; rw [if_neg h4]
     rw [e1, e2] at h1
     obtain rfl : r2 = r := Option.some.inj (g1.symm.trans h1)
     obtain ⟨a1, a2⟩ := g3.ag hb (by omega)
     cases hr : r2.2.2 with
     | true => exact Ag.both (i3.f.bad hr) (j3.g.bad (a1.symm.trans hr))
     | false =>
      have e3 := a2 hr
      subst e3
      obtain rfl : p' = q' := Option.some.inj (i2.symm.trans j2)
      obtain ⟨b1, b2⟩ := i3.ag hr (by omega)
      exact ⟨b1, fun h => by rw [b2 h]⟩
   rw [if_neg k10, if_neg k10]
   rw [if_neg (by omega)]
   by_cases hsz : 2 < w.size
   ·rw [if_pos hsz]
    by_cases hun : (w.extract 0 2).toList = ([117, 110] : List UInt8)
    ·rw [if_pos hun]
     have h0 : fl (w.extract 2 w.size).toList = 0 := by
      have e : trimUn W = (w.extract 2 w.size).toList := by
       have e0 : (w.extract 0 2).toList = W.take 2 := by rw [hW, Lib.toList_data, Lib.toList_data, extract_list]; rfl
       have e1 : (w.extract 2 w.size).toList = W.drop 2 := by rw [hW, Lib.toList_data, Lib.toList_data, extract_list, Lib.size_eq, List.take_length]
       unfold trimUn
       rw [← e0, if_pos hun, e1]
      rw [← e]
      exact hu
     rw [if_neg (by omega)]
     exact setK
    ·rw [if_neg hun]
     exact setK
   ·rw [if_neg hsz]
    exact setK
  ·rw [if_neg hu]
   have hpre : W.take 2 = ([117, 110] : List UInt8) := by
    refine Decidable.byContradiction fun h => ?_
    unfold trimUn at hu
    rw [if_neg h] at hu
    exact hu hf
   have htr : trimUn W = W.drop 2 := by unfold trimUn; rw [if_pos hpre]
   have hlen : 2 < W.length := by
    refine Decidable.byContradiction fun h => ?_
    rw [htr, List.drop_of_length_le (by omega)] at hu
    exact hu rfl
   have hne : ∀ v : List UInt8, fl (trimUn v) = 0 → ¬ W = v := fun v h e => hu (by rw [e]; exact h)
   rw [if_neg (hne _ (by rfl)), if_neg (hne _ (by rfl)), if_neg (hne _ (by rfl)), if_neg (hne _ (by rfl)), if_neg (hne _ (by rfl)), if_neg (hne _ (by rfl)), if_neg (hne _ (by rfl)), if_neg (hne _ (by rfl)), if_neg (hne _ (by rfl)), if_neg (hne _ (by rfl))]
   rw [if_neg (by omega)]
   have e0 : (w.extract 0 2).toList = W.take 2 := by rw [hW, Lib.toList_data, Lib.toList_data, extract_list]; rfl
   have e1 : (w.extract 2 w.size).toList = W.drop 2 := by rw [hW, Lib.toList_data, Lib.toList_data, extract_list, Lib.size_eq, List.take_length]
   have hsz : 2 < w.size := by rw [Lib.size_eq, ← Lib.toList_data, ← hW]; exact hlen
   rw [if_pos hsz, e0, if_pos hpre, e1, ← htr, if_pos (fl_pos hu)]
   exact same _ (Res.rfl' _ _ _)
 ·rw [if_neg hf]
  have hne : ∀ v : List UInt8, fl v = 0 → ¬ W = v := fun v h e => hf (by rw [e]; exact h)
  rw [if_neg (hne _ (by rfl)), if_neg (hne _ (by rfl)), if_neg (hne _ (by rfl)), if_neg (hne _ (by rfl)), if_neg (hne _ (by rfl)), if_neg (hne _ (by rfl)), if_neg (hne _ (by rfl)), if_neg (hne _ (by rfl)), if_neg (hne _ (by rfl)), if_neg (hne _ (by rfl))]
  rw [if_pos (fl_pos hf)]
  exact same _ (Res.rfl' _ _ _)
end Go.Proofs.YtejhfghijgbckaaGreatDoor.Spec
namespace Go.Proofs.YtejhfghijgbckaaGreatDoor.Spec
open Go.RowKit Go.Proofs.YtejhfghijgbckaaGreatDoor Go.Proofs.YtejhfghijgbckaaGreatDoor.P Go.Proofs.YtejhfghijgbckaaGreatDoorW.PrintWords Go.Proofs.YtejhfghijgbckaaGreatDoorW.PrintLast Go.Proofs.YtejhfghijgbckaaGreatDoorW.PrintMore
set_option linter.unusedVariables false
set_option linter.unusedSimpArgs false
structure One (l : List Tok) (r s : KRes) : Prop where
 ag : Ag r s
 suf : r.2.1 <:+ l
 sufR : s.2.1 <:+ l
 lt : r.2.2 = false → r.2.1.length < l.length
 close : isNextF l 4 = true ∨ l.length = 0 → r.2.2 = true
theorem allL_bad (K : List Tok → Bool → Option KRes) (n : Nat) (kids : List Key) (l : List Tok) : allL K (n + 1) kids l true = some (kids, l, true) := by
 rw [allL, if_pos rfl]
theorem allR_bad (K : List Tok → Bool → Option KRes) (n : Nat) (kids : List Key) (l : List Tok) : allR K (n + 1) kids l true = some (kids, l, true) := by
 rw [allR, if_pos rfl]
theorem allP_bad (K : List Tok → Bool → Option KRes) (n : Nat) (kids : List Key) (l : List Tok) : allP K (n + 1) kids l true = some (kids, l, true) := by
 rw [allP]
 by_cases h : l.length = 0
 ·rw [if_pos h]
 ·rw [if_neg h, if_pos rfl]
def EndAg (r s : List Key × List Tok × Bool) : Prop :=
 (r.2.2 = true ∧ (s.2.2 = true ∨ s.1.length = 0)) ∨ (r = s ∧ r.2.2 = false ∧ ¬ r.1.length = 0 ∧ (r.2.1.length = 0 ∨ isNextF r.2.1 4 = true))
theorem all_both {K K' : List Tok → Bool → Option KRes} {t : List Tok} (hK : ∀ l', l' <:+ t → ∃ r s, K l' false = some r ∧ K' l' false = some s ∧ One l' r s) :
  ∀ (n m : Nat) (l : List Tok) (kids : List Key), l <:+ t → l.length + 2 ≤ n → l.length + 2 ≤ m → ∃ r s, allL K n kids l false = some r ∧ allR K' m kids l false = some s ∧ EndAg r s ∧ r.2.1 <:+ l ∧ s.2.1 <:+ l
 | 0, _, _, _, _, h, _ => absurd h (by omega)
 | _, 0, _, _, _, _, h => absurd h (by omega)
 | n + 1, m + 1, l, kids, hs, hn, hm => by
  obtain ⟨n, rfl⟩ : ∃ q, n = q + 1 := ⟨n - 1, by omega⟩
  obtain ⟨m, rfl⟩ : ∃ q, m = q + 1 := ⟨m - 1, by omega⟩
  obtain ⟨r, s, h1, h2, h3⟩ := hK l hs
  -- a call of both, and on
  have step : ∃ r' s', ((K l false).bind fun r => allL K (n + 1) (kids ++ [r.1]) r.2.1 r.2.2) = some r' ∧ ((K' l false).bind fun r => allR K' (m + 1) (kids ++ [r.1]) r.2.1 r.2.2) = some s' ∧ EndAg r' s' ∧ r'.2.1 <:+ l ∧ s'.2.1 <:+ l := by
   rw [h1, h2, Option.bind_some, Option.bind_some]
   obtain ⟨a1, a2⟩ := h3.ag
   cases hr : r.2.2 with
   | true =>
    rw [hr] at a1
    rw [← a1, allL_bad, allR_bad]
    exact ⟨_, _, rfl, rfl, .inl ⟨rfl, .inl rfl⟩, h3.suf, h3.sufR⟩
   | false =>
    have e := a2 hr
    subst e
    rw [hr]
    have hlt := h3.lt hr
    obtain ⟨r', s', g1, g2, g3, g4, g5⟩ := all_both hK (n + 1) (m + 1) r.2.1 (kids ++ [r.1]) (h3.suf.trans hs) (by omega) (by omega)
    exact ⟨r', s', g1, g2, g3, g4.trans h3.suf, g5.trans h3.suf⟩
  rw [allL, allR, if_neg Bool.false_ne_true, if_neg Bool.false_ne_true]
  by_cases hk : kids.length = 0
  ·rw [if_pos hk]
   by_cases hl : l.length = 0
   ·have hb := h3.close (.inr hl)
    rw [if_pos hl, h1, Option.bind_some, hb, allL_bad]
    exact ⟨_, _, rfl, rfl, .inl ⟨rfl, .inr hk⟩, h3.suf, List.suffix_refl l⟩
   ·rw [if_neg hl]
    by_cases hc : isNextF l 4 = true
    ·have hb := h3.close (.inl hc)
     rw [if_pos hc, h1, Option.bind_some, hb, allL_bad]
     exact ⟨_, _, rfl, rfl, .inl ⟨rfl, .inr hk⟩, h3.suf, List.suffix_refl l⟩
    ·rw [if_neg hc]
     exact step
  ·rw [if_neg hk]
   by_cases hl : l.length = 0
   ·rw [if_pos hl, if_pos hl]
    exact ⟨_, _, rfl, rfl, .inr ⟨rfl, rfl, hk, .inl hl⟩, List.suffix_refl l, List.suffix_refl l⟩
   ·rw [if_neg hl, if_neg hl]
    by_cases hc : isNextF l 4 = true
    ·rw [if_pos hc, if_pos hc]
     exact ⟨_, _, rfl, rfl, .inr ⟨rfl, rfl, hk, .inr hc⟩, List.suffix_refl l, List.suffix_refl l⟩
    ·rw [if_neg hc, if_neg hc]
     exact step
theorem allL_tot {K : List Tok → Bool → Option KRes} {t : List Tok} (hK : ∀ l' b', l' <:+ t → ∃ r, K l' b' = some r ∧ Res l' b' r ∧ (r.2.2 = false → r.2.1.length < l'.length)) :
  ∀ (n : Nat) (l : List Tok) (b : Bool) (kids : List Key), l <:+ t → l.length + 2 ≤ n → ∃ r, allL K n kids l b = some r ∧ (b = true → r.2.2 = true) ∧ r.2.1 <:+ l
 | 0, _, _, _, _, h => absurd h (by omega)
 | n + 1, l, b, kids, hs, hn => by
  obtain ⟨n, rfl⟩ : ∃ q, n = q + 1 := ⟨n - 1, by omega⟩
  cases b with
  | true => exact ⟨_, allL_bad _ _ _ _, fun _ => rfl, List.suffix_refl l⟩
  | false =>
   obtain ⟨r, h1, h2, h3⟩ := hK l false hs
   have step : ∃ r', ((K l false).bind fun r => allL K (n + 1) (kids ++ [r.1]) r.2.1 r.2.2) = some r' ∧ ((false : Bool) = true → r'.2.2 = true) ∧ r'.2.1 <:+ l := by
    rw [h1, Option.bind_some]
    cases hr : r.2.2 with
    | true => exact ⟨_, allL_bad _ _ _ _, fun h => absurd h (by decide), h2.suf⟩
    | false =>
     have hlt := h3 hr
     obtain ⟨r', g1, g2, g3⟩ := allL_tot hK (n + 1) r.2.1 false (kids ++ [r.1]) (h2.suf.trans hs) (by omega)
     exact ⟨r', g1, fun h => absurd h (by decide), g3.trans h2.suf⟩
   rw [allL, if_neg Bool.false_ne_true]
   by_cases hk : kids.length = 0
   ·rw [if_pos hk]
    exact step
   ·rw [if_neg hk]
    by_cases hl : l.length = 0
    ·rw [if_pos hl]
     exact ⟨_, rfl, fun h => absurd h (by decide), List.suffix_refl l⟩
    ·rw [if_neg hl]
     by_cases hc : isNextF l 4 = true
     ·rw [if_pos hc]
      exact ⟨_, rfl, fun h => absurd h (by decide), List.suffix_refl l⟩
     ·rw [if_neg hc]
      exact step
/-! ### A key -/
theorem word_none (K : List Tok → Bool → Option KRes) (d : Int) : wordF K d ⟨#[]⟩ ⟨#[]⟩ [] true = some (⟨7, 0, ⟨#[]⟩, ⟨#[]⟩, [], []⟩, [], true) := by
 have e : (⟨#[]⟩ : ByteArray).toList = [] := by rw [Lib.toList_data]
 have e2 : (mk (trimUn [])).toList = [] := by rw [mk_toList]; rfl
 unfold wordF
 rw [flagF_eq, Option.bind_some, e, if_pos (by rfl), trimUn_eq, Option.bind_some, flagF_eq, Option.bind_some, e, e2, if_pos (by rfl)]
 simp only [reduceCtorEq, if_false]
 rw [setF_eq ⟨#[]⟩ true (Nat.zero_le _)]
 rfl
theorem isNext_cons (x : Tok) (t : List Tok) (k : Int) : isNextF (x :: t) k = (x.f0 == k) := rfl
theorem next1_cons (x : Tok) (t : List Tok) (b : Bool) (k : Int) : nextF [k] (x :: t) b = if x.f0 = k then (x.f1, t, b) else (⟨#[]⟩, [], true) := by
 rw [nextF_cons]
 by_cases h : x.f0 = k
 ·rw [if_pos h, if_pos (by simp [h])]
 ·rw [if_neg h, if_neg (by simp [h])]
structure KeyB (d : Int) (l : List Tok) (b : Bool) (r s : KRes) : Prop where
 f : Res l b r
 g : Res l b s
 ag : b = false → d ≤ 4 → Ag r s
 deep : 5 ≤ d → s.2.2 = true
 lt : r.2.2 = false → r.2.1.length < l.length
 close : isNextF l 4 = true ∨ l.length = 0 → r.2.2 = true
theorem key_both : ∀ (n : Nat) (l : List Tok), l.length ≤ n → okl l → ∀ (kF kR : Nat) (d : Int) (b : Bool), 2 * n + 5 ≤ kF → 2 * n + 5 ≤ kR → 0 ≤ d → ∃ r s, keyF kF d l b = some r ∧ keyR kR d l b = some s ∧ KeyB d l b r s
 | n, [], hn, hl, kF, kR, d, b, hF, hR, hd => by
  obtain ⟨k, rfl⟩ : ∃ q, kF = q + 1 := ⟨kF - 1, by omega⟩
  obtain ⟨k', rfl⟩ : ∃ q, kR = q + 1 := ⟨kR - 1, by omega⟩
  have e1 : keyF (k + 1) d [] b = some (⟨7, 0, ⟨#[]⟩, ⟨#[]⟩, [], []⟩, [], true) := by
   rw [keyF, if_neg (by simp [isNextF])]
   have e : nextF [1] [] b = (⟨#[]⟩, [], true) := rfl
   rw [e, smallF_eq _ (Nat.zero_le _), Option.bind_some, lowB_nil]
   exact word_none _ _
  have e2 : keyR (k' + 1) d [] b = some (noKey, [], true) := by
   rw [keyR, show nextR [] b = ((⟨0, ⟨#[]⟩⟩ : Tok), ([] : List Tok), true) from rfl]
   exact if_pos rfl
  exact ⟨_, _, e1, e2, ⟨fun _ => rfl, List.suffix_refl _⟩, ⟨fun _ => rfl, List.suffix_refl _⟩, fun _ _ => Ag.both rfl rfl, fun _ => rfl, fun h => absurd h (by decide), fun _ => rfl⟩
 | 0, x :: t, hn, _, _, _, _, _, _, _, _ => absurd hn (by rw [List.length_cons]; omega)
 | n + 1, x :: t, hn, hl, kF, kR, d, b, hF, hR, hd => by
  obtain ⟨k, rfl⟩ : ∃ q, kF = q + 1 := ⟨kF - 1, by omega⟩
  obtain ⟨k', rfl⟩ : ∃ q, kR = q + 1 := ⟨kR - 1, by omega⟩
  have ht : t.length ≤ n := by rw [List.length_cons] at hn; omega
  have hlt : okl t := hl.suf (List.suffix_cons x t)
  have hx : x.f1.size ≤ 2000 := hl x List.mem_cons_self
  have ih : ∀ l' b', l' <:+ t → ∃ r s, keyF k (d + 1) l' b' = some r ∧ keyR k' (d + 1) l' b' = some s ∧ KeyB (d + 1) l' b' r s := fun l' b' h => key_both n l' (by have := h.length_le; omega) (hlt.suf h) k k' (d + 1) b' (by omega) (by omega) (by omega)
  have tc : t <:+ x :: t := List.suffix_cons x t
  have short : ∀ r : KRes, r.2.1 <:+ t → r.2.1.length < (x :: t).length := fun r h => by have := h.length_le; rw [List.length_cons]; omega
  have hnR : nextR (x :: t) b = (x, t, b) := rfl
  -- what the reference answers where it is bad at once
  have rbad : ∀ (r : KRes), keyF (k + 1) d (x :: t) b = some r → Res t b r → (isNextF (x :: t) 4 = true → r.2.2 = true) → (b = false → d ≤ 4 → r.2.2 = true) → keyR (k' + 1) d (x :: t) b = some (noKey, t, true) → ∃ r s, keyF (k + 1) d (x :: t) b = some r ∧ keyR (k' + 1) d (x :: t) b = some s ∧ KeyB d (x :: t) b r s := by
   intro r h1 h2 h3 h4 h5
   exact ⟨r, _, h1, h5, h2.step tc (fun h => h), ⟨fun _ => rfl, tc⟩, fun hb hd4 => Ag.both (h4 hb hd4) rfl, fun _ => rfl, fun _ => short r h2.suf, fun h => h.elim h3 (fun h => absurd h (by rw [List.length_cons]; omega))⟩
  have kR0 : (b = true ∨ d > 4) → keyR (k' + 1) d (x :: t) b = some (noKey, t, true) := by
   intro h
   rw [keyR, hnR]
   by_cases hb : b = true
   ·rw [if_pos hb]
   ·rw [if_neg hb, if_pos (h.resolve_left hb)]
  by_cases k1 : x.f0 = 1
  ·have eF : keyF (k + 1) d (x :: t) b = wordF (keyF k (d + 1)) d x.f1 (lowB x.f1) t b := by
    rw [keyF, if_neg (by rw [isNext_cons, k1]; decide), next1_cons, if_pos k1, smallF_eq _ hx, Option.bind_some]
   obtain ⟨r, q, h1, h2, h3, h4, h5⟩ := word_both (K := keyF k (d + 1)) (K' := keyR k' (d + 1)) hd hlt (fun l' b' h => by
    obtain ⟨r, s, g1, g2, g3⟩ := ih l' b' h
    exact ⟨r, s, g1, g2, g3.f, g3.g, fun hb hd4 => g3.ag hb (by omega), fun h4 => g3.deep (by omega)⟩) x.f1 hx b
   have nc : ¬ isNextF (x :: t) 4 = true := by rw [isNext_cons, k1]; decide
   by_cases hbd : b = true ∨ d > 4
   ·exact rbad r (eF.trans h1) h3 (fun h => absurd h nc) (fun hb hd4 => absurd hbd (by rintro (h | h); exact absurd (hb.symm.trans h) (by decide); omega)) (kR0 hbd)
   ·have hb : b = false := Bool.eq_false_iff.2 fun h => hbd (.inl h)
    have hd4 : ¬ d > 4 := fun h => hbd (.inr h)
    have eR : keyR (k' + 1) d (x :: t) b = some q := by
     rw [keyR, hnR, if_neg (fun h => hbd (.inl h)), if_neg hd4, if_pos k1]
     exact h2
    exact ⟨r, q, eF.trans h1, eR, h3.step tc (fun h => h), h4.step tc (fun h => h), fun hb hd => h5 hb hd, fun h => absurd h (by omega), fun _ => short r h3.suf, fun h => h.elim (fun h => absurd h nc) (fun h => absurd h (by rw [List.length_cons]; omega))⟩
  ·by_cases k3 : x.f0 = 3
   ·have nc : ¬ isNextF (x :: t) 4 = true := by rw [isNext_cons, k3]; decide
    have hgo : goDeep d t <:+ t := by
     unfold goDeep
     split
     ·exact List.nil_suffix
     ·exact List.suffix_refl t
    obtain ⟨r0, g1, g2, g3⟩ := allL_tot (K := keyF k (d + 1)) (t := t) (fun l' b' h => by
     obtain ⟨r, s, i1, i2, i3⟩ := ih l' b' h
     exact ⟨r, i1, i3.f, i3.lt⟩) k (goDeep d t) (badDeep d b) [] hgo (by have := hgo.length_le; omega)
    have eF : keyF (k + 1) d (x :: t) b = some (⟨11, 0, ⟨#[]⟩, ⟨#[]⟩, [], r0.1⟩, (nextF [4] r0.2.1 r0.2.2).2) := by
     rw [keyF, if_pos (by rw [isNext_cons, k3]; rfl), next1_cons, if_pos k3, g1, Option.bind_some]
    have hres : Res t b (⟨11, 0, ⟨#[]⟩, ⟨#[]⟩, [], r0.1⟩, (nextF [4] r0.2.1 r0.2.2).2) := by
     refine ⟨fun hb => (nextF_res [4] r0.2.1 r0.2.2 noKey).bad (g2 ?_), (nextF_res [4] r0.2.1 r0.2.2 noKey).suf.trans (g3.trans hgo)⟩
     unfold badDeep
     split
     ·rfl
     ·exact hb
    by_cases h4 : 4 ≤ d
    ·have hbd : badDeep d b = true := by unfold badDeep; rw [if_pos h4]
     have hrb : (nextF [4] r0.2.1 r0.2.2).2.2 = true := (nextF_res [4] r0.2.1 r0.2.2 noKey).bad (g2 hbd)
     by_cases hbd2 : b = true ∨ d > 4
     ·exact rbad _ eF hres (fun h => absurd h nc) (fun _ _ => hrb) (kR0 hbd2)
     ·have eR : keyR (k' + 1) d (x :: t) b = some (⟨11, 0, ⟨#[]⟩, ⟨#[]⟩, [], []⟩, t, true) := by
       obtain ⟨k', rfl⟩ : ∃ q, k' = q + 1 := ⟨k' - 1, by omega⟩
       rw [keyR, hnR, if_neg (fun h => hbd2 (.inl h)), if_neg (fun h => hbd2 (.inr h)), if_neg k1, if_pos k3, if_pos h4, allR_bad, Option.bind_some, if_pos rfl]
      exact ⟨_, _, eF, eR, hres.step tc (fun h => h), ⟨fun _ => rfl, tc⟩, fun _ _ => Ag.both hrb rfl, fun _ => rfl, fun _ => short _ hres.suf, fun h => h.elim (fun h => absurd h nc) (fun h => absurd h (by rw [List.length_cons]; omega))⟩
    ·by_cases hb : b = true
     ·exact rbad _ eF hres (fun h => absurd h nc) (fun h _ => absurd (h.symm.trans hb) (by decide)) (kR0 (.inl hb))
     ·obtain rfl : b = false := Bool.eq_false_iff.2 hb
      have e1 : goDeep d t = t := by unfold goDeep; rw [if_neg h4]
      have e2 : badDeep d false = false := by unfold badDeep; rw [if_neg h4]
      obtain ⟨r, s, i1, i2, i3, i4, i5⟩ := all_both (K := keyF k (d + 1)) (K' := keyR k' (d + 1)) (t := t) (fun l' h => by
       obtain ⟨r, s, j1, j2, j3⟩ := ih l' false h
       exact ⟨r, s, j1, j2, j3.ag rfl (by omega), j3.f.suf, j3.g.suf, j3.lt, j3.close⟩) k k' t [] (List.suffix_refl t) (by omega) (by omega)
      rw [e1, e2] at g1
      obtain rfl : r = r0 := Option.some.inj (i1.symm.trans g1)
      have eR : keyR (k' + 1) d (x :: t) false = some (if s.2.2 = true then (⟨11, 0, ⟨#[]⟩, ⟨#[]⟩, [], s.1⟩, s.2.1, true) else if s.1.length = 0 then (⟨11, 0, ⟨#[]⟩, ⟨#[]⟩, [], s.1⟩, s.2.1, true) else (⟨11, 0, ⟨#[]⟩, ⟨#[]⟩, [], s.1⟩, (nextR s.2.1 s.2.2).2.1, (nextR s.2.1 s.2.2).1.f0 != 4)) := by
       rw [keyR, hnR, if_neg Bool.false_ne_true, if_neg (by omega), if_neg k1, if_pos k3, if_neg h4, i2, Option.bind_some]
       by_cases c1 : s.2.2 = true
       ·rw [if_pos c1, if_pos c1]
       ·rw [if_neg c1, if_neg c1]
        by_cases c2 : s.1.length = 0
        ·rw [if_pos c2, if_pos c2]
        ·rw [if_neg c2, if_neg c2]
      have nx : (nextR s.2.1 s.2.2).2.1 <:+ s.2.1 := (nextR_res s.2.1 s.2.2 noKey).suf
      rcases i3 with ⟨c1, c2⟩ | ⟨c1, c2, c3, c4⟩
      ·have hrb : (nextF [4] r.2.1 r.2.2).2.2 = true := (nextF_res [4] r.2.1 r.2.2 noKey).bad c1
       refine ⟨_, _, eF, eR, hres.step tc (fun h => h), ?_, fun _ _ => Ag.both hrb ?_, fun h => absurd h (by omega), fun _ => short _ hres.suf, fun h => h.elim (fun h => absurd h nc) (fun h => absurd h (by rw [List.length_cons]; omega))⟩
       ·refine ⟨fun h => absurd h (by decide), ?_⟩
        split
        ·exact i5.trans tc
        ·split
         ·exact i5.trans tc
         ·exact nx.trans (i5.trans tc)
       ·by_cases q : s.2.2 = true
        ·rw [if_pos q]
        ·rw [if_neg q, if_pos (c2.resolve_left q)]
      ·subst c1
       have hag : Ag (⟨11, 0, ⟨#[]⟩, ⟨#[]⟩, [], r.1⟩, (nextF [4] r.2.1 r.2.2).2) (if r.2.2 = true then (⟨11, 0, ⟨#[]⟩, ⟨#[]⟩, [], r.1⟩, r.2.1, true) else if r.1.length = 0 then (⟨11, 0, ⟨#[]⟩, ⟨#[]⟩, [], r.1⟩, r.2.1, true) else (⟨11, 0, ⟨#[]⟩, ⟨#[]⟩, [], r.1⟩, (nextR r.2.1 r.2.2).2.1, (nextR r.2.1 r.2.2).1.f0 != 4)) := by
        rw [if_neg (by rw [c2]; decide), if_neg c3, c2]
        obtain ⟨kids, l2, b2⟩ := r
        cases l2 with
        | nil => exact Ag.both rfl rfl
        | cons y u =>
         have hy : y.f0 = 4 := beq_iff_eq.1 (c4.resolve_left (by rw [List.length_cons]; omega))
         show Ag (_, (nextF [4] (y :: u) false).2) (_, u, y.f0 != 4)
         rw [next1_cons, if_pos hy, hy]
         exact Ag.refl _
       refine ⟨_, _, eF, eR, hres.step tc (fun h => h), ?_, fun _ _ => hag, fun h => absurd h (by omega), fun _ => short _ hres.suf, fun h => h.elim (fun h => absurd h nc) (fun h => absurd h (by rw [List.length_cons]; omega))⟩
       refine ⟨fun h => absurd h (by decide), ?_⟩
       rw [if_neg (by rw [c2]; exact Bool.false_ne_true), if_neg c3]
       exact nx.trans (i5.trans tc)
   ·have eF : keyF (k + 1) d (x :: t) b = some (⟨7, 0, ⟨#[]⟩, ⟨#[]⟩, [], []⟩, [], true) := by
     rw [keyF, if_neg (by rw [isNext_cons]; exact fun h => k3 (beq_iff_eq.1 h)), next1_cons, if_neg k1, smallF_eq _ (Nat.zero_le _), Option.bind_some, lowB_nil]
     exact word_none _ _
    have eR : keyR (k' + 1) d (x :: t) b = some (noKey, t, true) := by
     by_cases hbd : b = true ∨ d > 4
     ·exact kR0 hbd
     ·rw [keyR, hnR, if_neg (fun h => hbd (.inl h)), if_neg (fun h => hbd (.inr h)), if_neg k1, if_neg k3]
    exact rbad _ eF ⟨fun _ => rfl, List.nil_suffix⟩ (fun _ => rfl) (fun _ _ => rfl) eR
/-! ### Parse -/
theorem parse_loop {K K' : List Tok → Bool → Option KRes} {t : List Tok} (hK : ∀ l', l' <:+ t → ∃ r s, K l' false = some r ∧ K' l' false = some s ∧ One l' r s) :
  ∀ (n m : Nat) (l : List Tok) (kids : List Key), l <:+ t → l.length + 2 ≤ n → l.length + 2 ≤ m → ∃ r s, allL K n kids l false = some r ∧ allP K' m kids l false = some s ∧
   (((r.2.2 = true ∨ r.2.1.length > 0) ∧ (s.2.2 = true ∨ s.1.length = 0)) ∨ (r = s ∧ r.2.2 = false ∧ r.2.1.length = 0 ∧ ¬ r.1.length = 0))
 | 0, _, _, _, _, h, _ => absurd h (by omega)
 | _, 0, _, _, _, _, h => absurd h (by omega)
 | n + 1, m + 1, l, kids, hs, hn, hm => by
  obtain ⟨n, rfl⟩ : ∃ q, n = q + 1 := ⟨n - 1, by omega⟩
  obtain ⟨m, rfl⟩ : ∃ q, m = q + 1 := ⟨m - 1, by omega⟩
  obtain ⟨r, s, h1, h2, h3⟩ := hK l hs
  have hbadP : r.2.2 = true → ((K' l false).bind fun r => allP K' (m + 1) (kids ++ [r.1]) r.2.1 r.2.2) = some (kids ++ [s.1], s.2.1, true) := fun hr => by
   rw [h2, Option.bind_some, ← h3.ag.1, hr, allP_bad]
  have step : ∃ r' s', ((K l false).bind fun r => allL K (n + 1) (kids ++ [r.1]) r.2.1 r.2.2) = some r' ∧ ((K' l false).bind fun r => allP K' (m + 1) (kids ++ [r.1]) r.2.1 r.2.2) = some s' ∧
    (((r'.2.2 = true ∨ r'.2.1.length > 0) ∧ (s'.2.2 = true ∨ s'.1.length = 0)) ∨ (r' = s' ∧ r'.2.2 = false ∧ r'.2.1.length = 0 ∧ ¬ r'.1.length = 0)) := by
   obtain ⟨a1, a2⟩ := h3.ag
   cases hr : r.2.2 with
   | true =>
    rw [hbadP hr, h1, Option.bind_some, hr, allL_bad]
    exact ⟨_, _, rfl, rfl, .inl ⟨.inl rfl, .inl rfl⟩⟩
   | false =>
    have e := a2 hr
    subst e
    rw [h1, h2, Option.bind_some, Option.bind_some, hr]
    have hlt := h3.lt hr
    exact parse_loop hK (n + 1) (m + 1) r.2.1 (kids ++ [r.1]) (h3.suf.trans hs) (by omega) (by omega)
  rw [allL, allP, if_neg Bool.false_ne_true]
  by_cases hk : kids.length = 0
  ·rw [if_pos hk]
   by_cases hl : l.length = 0
   ·have hb := h3.close (.inr hl)
    rw [if_pos hl, h1, Option.bind_some, hb, allL_bad]
    exact ⟨_, _, rfl, rfl, .inl ⟨.inl rfl, .inr hk⟩⟩
   ·rw [if_neg hl, if_neg Bool.false_ne_true]
    exact step
  ·rw [if_neg hk]
   by_cases hl : l.length = 0
   ·rw [if_pos hl, if_pos hl]
    exact ⟨_, _, rfl, rfl, .inr ⟨rfl, rfl, hl, hk⟩⟩
   ·rw [if_neg hl, if_neg hl, if_neg Bool.false_ne_true]
    by_cases hc : isNextF l 4 = true
    ·have hb := h3.close (.inl hc)
     rw [if_pos hc, hbadP hb]
     exact ⟨_, _, rfl, rfl, .inl ⟨.inr (by show l.length > 0; omega), .inl rfl⟩⟩
    ·rw [if_neg hc]
     exact step
theorem parse_same {l : List Tok} (hl : okl l) {k : Nat} (h1 : 2 * l.length + 5 ≤ k) (h2 : k ≤ 100000) : ∃ r, find_Parse.f k l = some r ∧ letterboxref18_Parse.f k l = some r := by
 have hm : min k 100000 = k := by omega
 obtain ⟨r, s, i1, i2, i3⟩ := parse_loop (K := keyF k 0) (K' := keyR k 0) (t := l) (fun l' h => by
  obtain ⟨r, s, j1, j2, j3⟩ := key_both l.length l' h.length_le (hl.suf h) k k 0 false h1 h1 (by omega)
  exact ⟨r, s, j1, j2, j3.ag rfl (by omega), j3.f.suf, j3.g.suf, j3.lt, j3.close⟩) k k l [] (List.suffix_refl l) (by omega) (by omega)
 unfold find_Parse.f letterboxref18_Parse.f
 rw [hm, i1, i2, Option.bind_some, Option.bind_some]
 rcases i3 with ⟨c1, c2⟩ | ⟨c1, c2, c3, c4⟩
 ·refine ⟨(0, 0, ⟨#[]⟩, ⟨#[]⟩, [], [], 3), ?_, ?_⟩
  ·by_cases q : r.2.2 = true
   ·rw [if_pos q]
   ·rw [if_neg q, if_pos (c1.resolve_left q)]
  ·by_cases q : s.2.2 = true
   ·rw [if_pos q]
   ·rw [if_neg q, if_pos (c2.resolve_left q)]
 ·subst c1
  have q : ¬ r.2.2 = true := by rw [c2]; decide
  rw [if_neg q, if_neg q, if_neg (by omega), if_neg c4]
  exact ⟨_, rfl, rfl⟩
end Go.Proofs.YtejhfghijgbckaaGreatDoor.Spec
