/- Numbers, ranges and sets as plain lists: both sides' functions compute them (find's seat). -/
import Derived.Lib.Atoi
import Derived.Lib.Join
import Derived.Test.YtejhfghijgbckaaGreatDoorFindA
import Derived.Test.YtejhfghijgbckaaGreatDoorPx2
import Derived.Test.YtejhfghijgbckaaGreatDoorPx2
import Derived.Test.YtejhfghijgbckaaGreatDoorPx2
import Derived.Test.YtejhfghijgbckaaGreatDoorPx3
import Derived.Test.YtejhfghijgbckaaGreatDoorPx2
import Derived.Test.YtejhfghijgbckaaGreatDoorPx3
import Derived.Test.YtejhfghijgbckaaGreatDoorPx3
namespace Go.Proofs.YtejhfghijgbckaaGreatDoor.Spec
open Go.RowKit Go.Proofs.YtejhfghijgbckaaGreatDoor Go.Proofs.YtejhfghijgbckaaGreatDoor.P Go.Proofs.YtejhfghijgbckaaGreatDoorW.PrintWords Go.Proofs.YtejhfghijgbckaaGreatDoorW.PrintLast Go.Proofs.YtejhfghijgbckaaGreatDoorW.PrintMore

theorem w64 (x : Int) (h0 : -9223372036854775808 ≤ x) (h1 : x ≤ 9223372036854775807) : wrap64 x = x := by unfold wrap64; omega
def mk (l : List UInt8) : ByteArray := ⟨l.toArray⟩
theorem mk_data (l : List UInt8) : (mk l).data.toList = l := rfl
theorem mk_size (l : List UInt8) : (mk l).size = l.length := rfl
theorem ext_list {s t : ByteArray} (h : s.data.toList = t.data.toList) : s = t := ByteArray.ext (Array.toList_inj.1 h)
theorem mk_of (s : ByteArray) : mk s.data.toList = s := ext_list rfl
theorem mk_toList (l : List UInt8) : (mk l).toList = l := Lib.toList_data _
theorem mk_app (a b : List UInt8) : mk a ++ mk b = mk (a ++ b) := ext_list (by simp [mk])
theorem extract_list (s : ByteArray) (a b : Nat) : (s.extract a b).data.toList = (s.data.toList.take b).drop a := by
  simp [ByteArray.data_extract, List.drop_take]
theorem mk_take (l : List UInt8) (n : Nat) : (mk l).extract 0 n = mk (l.take n) := ext_list (by rw [extract_list]; rfl)
theorem mk_drop (l : List UInt8) (n : Nat) : (mk l).extract n (mk l).size = mk (l.drop n) := ext_list (by rw [extract_list, mk_size, mk_data, mk_data, List.take_length])
theorem bt_nat (s : ByteArray) (i : Nat) (b : UInt8) (h : s.data.toList[i]? = some b) : bt s (i : Int) = (b.toNat : Int) := by
  have hi : i < s.size := by rw [Lib.size_eq]; exact (List.getElem?_eq_some_iff.1 h).1
  have h2 := Lib.data_getElem? s i hi
  rw [h] at h2
  unfold bt
  simp only [Int.toNat_natCast]
  rw [dif_pos hi, ← Option.some.inj h2]

/-! ### A text cut at a byte -/
def cutL (c : UInt8) : List UInt8 → List UInt8 × Option (List UInt8)
  | [] => ([], none)
  | x :: r => if x = c then ([], some r) else (x :: (cutL c r).1, (cutL c r).2)
theorem cut_ix (c : UInt8) : ∀ l, (Lib.indexByte l c = -1 ∧ cutL c l = (l, none)) ∨ (0 ≤ Lib.indexByte l c ∧ Lib.indexByte l c < l.length ∧ cutL c l = (l.take (Lib.indexByte l c).toNat, some (l.drop ((Lib.indexByte l c).toNat + 1))))
  | [] => .inl ⟨rfl, rfl⟩
  | x :: r => by
    unfold Lib.indexByte cutL
    by_cases h : x = c
    · right
      rw [if_pos h, h, beq_self_eq_true, if_pos rfl]
      exact ⟨Int.le_refl _, by rw [List.length_cons]; omega, rfl⟩
    · rw [if_neg h, beq_eq_false_iff_ne.2 h, if_neg (by simp)]
      rcases cut_ix c r with ⟨h1, h2⟩ | ⟨h1, h3, h2⟩
      · left
        rw [h1, h2]
        exact ⟨rfl, rfl⟩
      · right
        have hne : (Lib.indexByte r c == -1) = false := beq_eq_false_iff_ne.2 (by omega)
        rw [hne, if_neg (by simp), h2, show (Lib.indexByte r c + 1).toNat = (Lib.indexByte r c).toNat + 1 by omega]
        exact ⟨by omega, by rw [List.length_cons]; omega, rfl⟩
theorem cut_len (c : UInt8) : ∀ l : List UInt8, (cutL c l).1.length ≤ l.length ∧ ∀ b, (cutL c l).2 = some b → (cutL c l).1.length + b.length + 1 = l.length
  | [] => ⟨Nat.le_refl _, fun b h => by cases h⟩
  | x :: r => by
    obtain ⟨h1, h2⟩ := cut_len c r
    unfold cutL
    by_cases h : x = c
    · rw [if_pos h]
      exact ⟨Nat.zero_le _, fun b hb => by cases hb; simp⟩
    · rw [if_neg h]
      exact ⟨by simp; omega, fun b hb => by have := h2 b hb; simp only [List.length_cons]; omega⟩
theorem cut_at (c : UInt8) (l : List UInt8) (hb : l.length ≤ 1000000) : strings_Cut.f (mk l) ⟨#[c]⟩ = some (match cutL c l with | (_, none) => (mk l, ⟨#[]⟩, false) | (a, some b) => (mk a, mk b, true)) := by
  unfold strings_Cut.f stringslite_Cut.f
  have hi : stringslite_Index.f (mk l) ⟨#[c]⟩ = some (Lib.indexByte l c) := rfl
  have hone : ((⟨#[c]⟩ : ByteArray).size : Int) = 1 := rfl
  rw [hi, Option.bind_some, hone]
  rcases cut_ix c l with ⟨h1, h2⟩ | ⟨h1, h3, h2⟩
  · rw [if_neg (by omega), h2]
    rfl
  · rw [if_pos (by omega), if_pos (by omega), mk_size, if_pos (by omega), w64 _ (by omega) (by omega), if_pos (by omega), if_pos (by omega), show (Lib.indexByte l c + 1).toNat = (Lib.indexByte l c).toNat + 1 by omega, h2, mk_take]
    have hd := mk_drop l ((Lib.indexByte l c).toNat + 1)
    rw [mk_size] at hd
    rw [hd]
    rfl
/-! ### A number -/
def dig (b : UInt8) : Bool := decide (48 ≤ b.toNat) && decide (b.toNat ≤ 57)
def decV (acc : Nat) : List UInt8 → Nat
  | [] => acc
  | b :: r => decV (acc * 10 + (b.toNat - 48)) r
def num (l : List UInt8) : Int :=
  if l = [42] then 1073741824 else if l = [] ∨ 7 < l.length ∨ l.head? = some 48 then 0 else if l.all dig then (decV 0 l : Nat) else 0
theorem decFrom_all : ∀ (l : List UInt8) (acc : Nat), l.all dig = true → Lib.decFrom acc l = some (decV acc l)
  | [], _, _ => rfl
  | b :: r, acc, h => by
    rw [List.all_cons, Bool.and_eq_true] at h
    unfold Lib.decFrom Lib.digitVal decV
    have hb := h.1
    unfold dig at hb
    simp only [Bool.and_eq_true, decide_eq_true_eq] at hb
    rw [if_pos hb]
    exact decFrom_all r _ h.2
set_option maxRecDepth 100000 in
theorem contains_dig (b : UInt8) : ([48, 49, 50, 51, 52, 53, 54, 55, 56, 57] : List UInt8).contains b = dig b := by
  have key : ∀ n, n < 256 → ([48, 49, 50, 51, 52, 53, 54, 55, 56, 57] : List UInt8).contains (UInt8.ofNat n) = dig (UInt8.ofNat n) := by decide
  have := key b.toNat (UInt8.toNat_lt b)
  rwa [UInt8.ofNat_toNat] at this
theorem tw_mem {p : UInt8 → Bool} : ∀ (l : List UInt8) (x : UInt8), x ∈ l.takeWhile p → p x = true
  | [], x, h => by cases h
  | y :: l, x, h => by
    rw [List.takeWhile_cons] at h
    by_cases hy : p y = true
    · rw [if_pos hy] at h
      rcases List.mem_cons.1 h with e | e
      · rw [e]; exact hy
      · exact tw_mem l x e
    · rw [if_neg hy] at h; cases h
theorem dw_nil {p : UInt8 → Bool} : ∀ (l : List UInt8), (∀ x ∈ l, p x = true) → l.dropWhile p = []
  | [], _ => rfl
  | y :: l, h => by
    rw [List.dropWhile_cons, if_pos (h y List.mem_cons_self)]
    exact dw_nil l fun x hx => h x (List.mem_cons_of_mem _ hx)
theorem trim_nil (l : List UInt8) : Lib.trimS l [48, 49, 50, 51, 52, 53, 54, 55, 56, 57] = [] ↔ l.all dig = true := by
  unfold Lib.trimS Lib.trimLeftS Lib.trimRightS
  have hf : (fun x => List.contains ([48, 49, 50, 51, 52, 53, 54, 55, 56, 57] : List UInt8) x) = dig := funext contains_dig
  rw [hf]
  constructor
  · intro h
    have h1 : ∀ x ∈ (l.reverse.dropWhile dig).reverse, dig x = true := by
      intro x hx
      have : (l.reverse.dropWhile dig).reverse = (l.reverse.dropWhile dig).reverse.takeWhile dig := by
        have := List.takeWhile_append_dropWhile (p := dig) (l := (l.reverse.dropWhile dig).reverse)
        rw [h, List.append_nil] at this
        exact this.symm
      rw [this] at hx
      exact tw_mem _ _ hx
    rw [List.all_eq_true]
    intro x hx
    have h2 : x ∈ l.reverse.takeWhile dig ++ l.reverse.dropWhile dig := by rw [List.takeWhile_append_dropWhile]; exact List.mem_reverse.2 hx
    rcases List.mem_append.1 h2 with h3 | h3
    · exact tw_mem _ _ h3
    · exact h1 x (List.mem_reverse.2 h3)
  · intro h
    rw [List.all_eq_true] at h
    have : l.reverse.dropWhile dig = [] := dw_nil _ fun x hx => h x (List.mem_reverse.1 hx)
    rw [this]
    rfl
theorem UNumber_eq (l : List UInt8) : span_number.f (mk l) = some (num l) := by
  unfold span_number.f num
  rw [mk_toList, mk_size]
  by_cases h1 : l = [42]
  · rw [if_pos h1, if_pos h1]
  · rw [if_neg h1, if_neg h1]
    cases l with
    | nil => rfl
    | cons b r =>
      rw [if_neg (by simp)]
      by_cases h2 : 7 < (b :: r).length
      · rw [if_pos (by omega), if_pos (.inr (.inl h2))]
      · rw [if_neg (by omega), if_pos (by rw [List.length_cons]; omega)]
        have hb0 : bt (mk (b :: r)) 0 = (b.toNat : Int) := bt_nat (mk (b :: r)) 0 b rfl
        rw [hb0]
        by_cases h3 : b = 48
        · rw [if_pos (by rw [h3]; rfl), if_pos (.inr (.inr (by rw [h3]; rfl)))]
        · rw [if_neg (fun h => h3 (UInt8.toNat_inj.1 (by simpa using (Int.ofNat_inj.1 h)))), if_neg (show ¬ (b :: r = [] ∨ 7 < (b :: r).length ∨ (b :: r).head? = some 48) from by simp [h3] at h2 ⊢; omega)]
          have ht : strings_Trim.f (mk (b :: r)) ⟨#[48, 49, 50, 51, 52, 53, 54, 55, 56, 57]⟩ = some (mk (Lib.trimS (b :: r) [48, 49, 50, 51, 52, 53, 54, 55, 56, 57])) := by
            unfold strings_Trim.f
            rw [if_pos ⟨by rw [mk_size]; omega, by decide, by decide⟩]
            rfl
          rw [ht, Option.bind_some, mk_toList]
          by_cases h4 : (b :: r).all dig = true
          · rw [if_pos ((trim_nil _).2 h4), if_pos h4]
            have ha : Lib.atoi (b :: r) = some (decV 0 (b :: r) : Nat) := by
              have h5 := h4
              rw [List.all_cons, Bool.and_eq_true] at h5
              have h6 := h5.1
              unfold dig at h6
              simp only [Bool.and_eq_true, decide_eq_true_eq] at h6
              have e1 : (b == 45) = false := beq_eq_false_iff_ne.2 (by rintro rfl; simp at h6)
              have e2 : (b == 43) = false := beq_eq_false_iff_ne.2 (by rintro rfl; simp at h6)
              have e3 : Lib.decNat (b :: r) = some (decV 0 (b :: r)) := by
                unfold Lib.decNat
                rw [if_neg (by simp), decFrom_all _ _ h4]
              simp only [Lib.atoi, e1, e2, e3, Bool.false_eq_true, if_false, Option.map_some]
              rfl
            unfold strconv_Atoi.f
            rw [if_pos (by rw [mk_size]; omega), mk_data, ha]
            rfl
          · rw [if_neg (fun h => h4 ((trim_nil _).1 h)), if_neg h4]
/-! ### A text as a set -/
def pieces (c : UInt8) : List UInt8 → List (List UInt8)
  | [] => [[]]
  | x :: r => if x = c then [] :: pieces c r else match pieces c r with
    | p :: ps => (x :: p) :: ps
    | [] => [[x]]
theorem pieces_cut (c : UInt8) : ∀ l, pieces c l = match cutL c l with | (a, none) => [a] | (a, some b) => a :: pieces c b
  | [] => rfl
  | x :: r => by
    rw [pieces, cutL]
    by_cases h : x = c
    · rw [if_pos h, if_pos h]
    · rw [if_neg h, if_neg h, pieces_cut c r]
      cases hc : (cutL c r).2 with
      | none => rw [show cutL c r = ((cutL c r).1, none) from Prod.ext rfl hc]
      | some b => rw [show cutL c r = ((cutL c r).1, some b) from Prod.ext rfl hc]
def ends (p : List UInt8) : List UInt8 × List UInt8 := match cutL 58 p with | (a, none) => (a, a) | (a, some b) => (a, b)
def rng (p : List UInt8) : Option S73 := if num (ends p).1 = 0 ∨ num (ends p).2 = 0 then none else some ⟨num (ends p).1, num (ends p).2⟩
def goP : List (List UInt8) → List S73 → Option (List S73)
  | [], acc => some acc
  | p :: ps, acc => match rng p with
    | none => none
    | some r => if 16 ≤ acc.length then none else goP ps (acc ++ [r])
def ans : Option (List S73) → List S73 × Int
  | none => ([], 3)
  | some l => (l, 0)
theorem colon (p : List UInt8) (hb : p.length ≤ 1000000) : strings_Cut.f (mk p) ⟨#[58]⟩ = some (mk (cutL 58 p).1, match (cutL 58 p).2 with | none => (⟨#[]⟩, false) | some b => (mk b, true)) := by
  rw [cut_at 58 p hb]
  rcases cut_ix 58 p with ⟨_, h⟩ | ⟨_, _, h⟩
  · rw [h]
  · rw [h]
theorem UParse_j1 (k : Nat) (acc : List S73) (rest : ByteArray) (more : Bool) (a b : List UInt8) (ha : acc.length ≤ 16) :
    span_Parse.j1 (k + 2) acc rest more (mk a) (mk b) = if num a = 0 ∨ num b = 0 ∨ 16 ≤ acc.length then some ([], 3) else span_Parse.l101 k (acc ++ [⟨num a, num b⟩]) rest more := by
  rw [span_Parse.j1, UNumber_eq, Option.bind_some]
  by_cases h1 : num a = 0
  · rw [if_pos h1, if_pos (.inl h1), span_Parse.j2, if_pos rfl]
  · rw [if_neg h1, UNumber_eq, Option.bind_some]
    by_cases h2 : num b = 0
    · rw [if_pos h2, if_pos (.inr (.inl h2)), span_Parse.j2, if_pos rfl]
    · rw [if_neg h2, span_Parse.j2]
      by_cases h3 : 16 ≤ acc.length
      · rw [decide_eq_true (by omega), if_pos rfl, if_pos (.inr (.inr h3))]
      · rw [decide_eq_false (by omega), if_neg (by simp), UNumber_eq, Option.bind_some, UNumber_eq, Option.bind_some, if_pos (by omega), if_neg (by rintro (h | h | h); exact h1 h; exact h2 h; exact h3 h)]
theorem UParse_l : ∀ (n : Nat) (l : List UInt8) (acc : List S73) (k : Nat), l.length ≤ n → l.length ≤ 100000 → acc.length ≤ 16 → 3 * n + 5 ≤ k → span_Parse.l101 k acc (mk l) true = some (ans (goP (pieces 44 l) acc))
  | n, l, acc, k, hn, hl, ha, hk => by
    obtain ⟨k, rfl⟩ : ∃ m, k = m + 3 := ⟨k - 3, by omega⟩
    obtain ⟨hc1, hc2⟩ := cut_len 44 l
    rw [span_Parse.l101, if_pos rfl, cut_at 44 l (by omega), Option.bind_some, pieces_cut 44 l]
    -- what stands behind the piece
    have tail : ∀ (p : List UInt8) (rest : ByteArray) (more : Bool) (ps : List (List UInt8)), p.length ≤ 100000 →
        (∀ r, ¬ 16 ≤ acc.length → span_Parse.l101 k (acc ++ [r]) rest more = some (ans (goP ps (acc ++ [r])))) →
        ((strings_Cut.f (mk p) (⟨#[58]⟩ : ByteArray)).bind fun bt108 => (if bt108.2.2 = true then (span_Parse.j1 (k + 2) acc rest more bt108.1 bt108.2.1) else (span_Parse.j1 (k + 2) acc rest more bt108.1 bt108.1))) = some (ans (goP (p :: ps) acc)) := by
      intro p rest more ps hp hrec
      rw [colon p (by omega), Option.bind_some]
      have key : ∀ a b, ends p = (a, b) → span_Parse.j1 (k + 2) acc rest more (mk a) (mk b) = some (ans (goP (p :: ps) acc)) := by
        intro a b he
        rw [UParse_j1 k acc rest more a b ha]
        unfold goP rng
        rw [he]
        by_cases h1 : num a = 0 ∨ num b = 0
        · rw [if_pos (h1.elim .inl (fun h => .inr (.inl h))), if_pos h1]
          rfl
        · rw [if_neg h1]
          by_cases h3 : 16 ≤ acc.length
          · rw [if_pos (.inr (.inr h3))]
            simp only
            rw [if_pos h3]
            rfl
          · rw [if_neg (by rintro (h | h | h); exact h1 (.inl h); exact h1 (.inr h); exact h3 h)]
            simp only
            rw [if_neg h3]
            exact hrec _ h3
      unfold ends at key
      cases hc : (cutL 58 p).2 with
      | none =>
        rw [show cutL 58 p = ((cutL 58 p).1, none) from Prod.ext rfl hc] at key
        rw [if_neg (by simp)]
        exact key _ _ rfl
      | some b =>
        rw [show cutL 58 p = ((cutL 58 p).1, some b) from Prod.ext rfl hc] at key
        rw [if_pos rfl]
        exact key _ _ rfl
    cases hc : (cutL 44 l).2 with
    | none =>
      rw [show cutL 44 l = ((cutL 44 l).1, none) from Prod.ext rfl hc]
      have hl1 : (cutL 44 l).1 = l := by
        rcases cut_ix 44 l with ⟨_, h⟩ | ⟨_, _, h⟩
        · rw [h]
        · rw [h] at hc; cases hc
      rw [hl1]
      refine tail l _ _ [] (by omega) (fun r h => ?_)
      obtain ⟨k, rfl⟩ : ∃ m, k = m + 1 := ⟨k - 1, by omega⟩
      rw [span_Parse.l101, if_neg (by simp)]
      rfl
    | some b =>
      rw [show cutL 44 l = ((cutL 44 l).1, some b) from Prod.ext rfl hc]
      have hlb := hc2 b hc
      refine tail _ _ _ _ (by omega) (fun r h => ?_)
      match n, hn, hk with
      | 0, hn, _ => exact absurd hn (by omega)
      | n + 1, hn, hk => exact UParse_l n b _ k (by omega) (by omega) (by rw [List.length_append]; simp; omega) (by omega)
theorem UParse_eq (k : Nat) (l : List UInt8) (hl : l.length ≤ 100000) (hk : 3 * l.length + 5 ≤ k) : span_Parse.f k (mk l) = some (ans (goP (pieces 44 l) [])) := by
  unfold span_Parse.f
  exact UParse_l l.length l [] k (Nat.le_refl _) hl (Nat.zero_le _) hk

end Go.Proofs.YtejhfghijgbckaaGreatDoor.Spec
