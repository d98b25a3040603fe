/- Sets of numbers: what both sides' functions compute, as plain lists. -/
import Derived.Lib.Join
import Derived.Lib.ItoaNum
import Derived.Test.YtdgbllaenkcmbaaDoorSpanSpec
import Derived.Test.YtdgbllaenkcmbaaDoorPx2
import Derived.Test.YtdgbllaenkcmbaaDoorPx2
import Derived.Test.YtdgbllaenkcmbaaDoorPx3
import Derived.Test.YtdgbllaenkcmbaaDoorPx2
import Derived.Test.YtdgbllaenkcmbaaDoorPx4
import Derived.Test.YtdgbllaenkcmbaaDoorPx5
import Derived.Test.YtdgbllaenkcmbaaDoorPx5
import Derived.Test.YtdgbllaenkcmbaaDoorPx2
import Derived.Test.YtdgbllaenkcmbaaDoorPx2
namespace Go.Proofs.YtdgbllaenkcmbaaDoor.Spec
open Go.RowKit Go.Proofs.YtdgbllaenkcmbaaDoor Go.Proofs.YtdgbllaenkcmbaaDoor.P Go.Proofs.YtdgbllaenkcmbaaDoorW.PrintWords Go.Proofs.YtdgbllaenkcmbaaDoorW.PrintLast Go.Proofs.YtdgbllaenkcmbaaDoorW.PrintMore

/-! ### A text as a set -/
def pieces (c : UInt8) : List UInt8 → List (List UInt8)
  | [] => [[]]
  | x :: r => if x = c then [] :: pieces c r else match pieces c r with
    | p :: ps => (x :: p) :: ps
    | [] => [[x]]
theorem pieces_cut (c : UInt8) : ∀ l, pieces c l = match cutL c l with | (a, none) => [a] | (a, some b) => a :: pieces c b
  | [] => rfl
  | x :: r => by
    rw [pieces, cutL]
    by_cases h : x = c
    · rw [if_pos h, if_pos h]
    · rw [if_neg h, if_neg h, pieces_cut c r]
      cases hc : (cutL c r).2 with
      | none => rw [show cutL c r = ((cutL c r).1, none) from Prod.ext rfl hc]
      | some b => rw [show cutL c r = ((cutL c r).1, some b) from Prod.ext rfl hc]
def ends (p : List UInt8) : List UInt8 × List UInt8 := match cutL 58 p with | (a, none) => (a, a) | (a, some b) => (a, b)
def rng (p : List UInt8) : Option S32 := if num (ends p).1 = 0 ∨ num (ends p).2 = 0 then none else some ⟨num (ends p).1, num (ends p).2⟩
def goP : List (List UInt8) → List S32 → Option (List S32)
  | [], acc => some acc
  | p :: ps, acc => match rng p with
    | none => none
    | some r => if 16 ≤ acc.length then none else goP ps (acc ++ [r])
def ans : Option (List S32) → List S32 × Int
  | none => ([], 3)
  | some l => (l, 0)
theorem colon (p : List UInt8) (hb : p.length ≤ 1000000) : strings_Cut.f (mk p) ⟨#[58]⟩ = some (mk (cutL 58 p).1, match (cutL 58 p).2 with | none => (⟨#[]⟩, false) | some b => (mk b, true)) := by
  rw [cut_at 58 p hb]
  rcases cut_ix 58 p with ⟨_, h⟩ | ⟨_, _, h⟩
  · rw [h]
  · rw [h]
theorem UParse_j1 (k : Nat) (acc : List S32) (rest : ByteArray) (more : Bool) (a b : List UInt8) (ha : acc.length ≤ 16) :
    span_Parse.j1 (k + 2) acc rest more (mk a) (mk b) = if num a = 0 ∨ num b = 0 ∨ 16 ≤ acc.length then some ([], 3) else span_Parse.l101 k (acc ++ [⟨num a, num b⟩]) rest more := by
  rw [span_Parse.j1, UNumber_eq, Option.bind_some]
  by_cases h1 : num a = 0
  · rw [if_pos h1, if_pos (.inl h1), span_Parse.j2, if_pos rfl]
  · rw [if_neg h1, UNumber_eq, Option.bind_some]
    by_cases h2 : num b = 0
    · rw [if_pos h2, if_pos (.inr (.inl h2)), span_Parse.j2, if_pos rfl]
    · rw [if_neg h2, span_Parse.j2]
      by_cases h3 : 16 ≤ acc.length
      · rw [decide_eq_true (by omega), if_pos rfl, if_pos (.inr (.inr h3))]
      · rw [decide_eq_false (by omega), if_neg (by simp), UNumber_eq, Option.bind_some, UNumber_eq, Option.bind_some, if_pos (by omega), if_neg (by rintro (h | h | h); exact h1 h; exact h2 h; exact h3 h)]
theorem UParse_l : ∀ (n : Nat) (l : List UInt8) (acc : List S32) (k : Nat), l.length ≤ n → l.length ≤ 100000 → acc.length ≤ 16 → 3 * n + 5 ≤ k → span_Parse.l101 k acc (mk l) true = some (ans (goP (pieces 44 l) acc))
  | n, l, acc, k, hn, hl, ha, hk => by
    obtain ⟨k, rfl⟩ : ∃ m, k = m + 3 := ⟨k - 3, by omega⟩
    obtain ⟨hc1, hc2⟩ := cut_len 44 l
    rw [span_Parse.l101, if_pos rfl, cut_at 44 l (by omega), Option.bind_some, pieces_cut 44 l]
    -- what stands behind the piece
    have tail : ∀ (p : List UInt8) (rest : ByteArray) (more : Bool) (ps : List (List UInt8)), p.length ≤ 100000 →
        (∀ r, ¬ 16 ≤ acc.length → span_Parse.l101 k (acc ++ [r]) rest more = some (ans (goP ps (acc ++ [r])))) →
        ((strings_Cut.f (mk p) (⟨#[58]⟩ : ByteArray)).bind fun bt108 => (if bt108.2.2 = true then (span_Parse.j1 (k + 2) acc rest more bt108.1 bt108.2.1) else (span_Parse.j1 (k + 2) acc rest more bt108.1 bt108.1))) = some (ans (goP (p :: ps) acc)) := by
      intro p rest more ps hp hrec
      rw [colon p (by omega), Option.bind_some]
      have key : ∀ a b, ends p = (a, b) → span_Parse.j1 (k + 2) acc rest more (mk a) (mk b) = some (ans (goP (p :: ps) acc)) := by
        intro a b he
        rw [UParse_j1 k acc rest more a b ha]
        unfold goP rng
        rw [he]
        by_cases h1 : num a = 0 ∨ num b = 0
        · rw [if_pos (h1.elim .inl (fun h => .inr (.inl h))), if_pos h1]
          rfl
        · rw [if_neg h1]
          by_cases h3 : 16 ≤ acc.length
          · rw [if_pos (.inr (.inr h3))]
            simp only
            rw [if_pos h3]
            rfl
          · rw [if_neg (by rintro (h | h | h); exact h1 (.inl h); exact h1 (.inr h); exact h3 h)]
            simp only
            rw [if_neg h3]
            exact hrec _ h3
      unfold ends at key
      cases hc : (cutL 58 p).2 with
      | none =>
        rw [show cutL 58 p = ((cutL 58 p).1, none) from Prod.ext rfl hc] at key
        rw [if_neg (by simp)]
        exact key _ _ rfl
      | some b =>
        rw [show cutL 58 p = ((cutL 58 p).1, some b) from Prod.ext rfl hc] at key
        rw [if_pos rfl]
        exact key _ _ rfl
    cases hc : (cutL 44 l).2 with
    | none =>
      rw [show cutL 44 l = ((cutL 44 l).1, none) from Prod.ext rfl hc]
      have hl1 : (cutL 44 l).1 = l := by
        rcases cut_ix 44 l with ⟨_, h⟩ | ⟨_, _, h⟩
        · rw [h]
        · rw [h] at hc; cases hc
      rw [hl1]
      refine tail l _ _ [] (by omega) (fun r h => ?_)
      obtain ⟨k, rfl⟩ : ∃ m, k = m + 1 := ⟨k - 1, by omega⟩
      rw [span_Parse.l101, if_neg (by simp)]
      rfl
    | some b =>
      rw [show cutL 44 l = ((cutL 44 l).1, some b) from Prod.ext rfl hc]
      have hlb := hc2 b hc
      refine tail _ _ _ _ (by omega) (fun r h => ?_)
      match n, hn, hk with
      | 0, hn, _ => exact absurd hn (by omega)
      | n + 1, hn, hk => exact UParse_l n b _ k (by omega) (by omega) (by rw [List.length_append]; simp; omega) (by omega)
theorem UParse_eq (k : Nat) (l : List UInt8) (hl : l.length ≤ 100000) (hk : 3 * l.length + 5 ≤ k) : span_Parse.f k (mk l) = some (ans (goP (pieces 44 l) [])) := by
  unfold span_Parse.f
  exact UParse_l l.length l [] k (Nat.le_refl _) hl (Nat.zero_le _) hk

theorem RParse_j2 (k : Nat) (x : ByteArray) (acc : List S32) (ix a b : Int) (ha : acc.length ≤ 16) :
    letterboxref12_Parse.j2 (k + 2) x acc ix a b = if a = 0 ∨ b = 0 ∨ 16 ≤ acc.length then some ([], 3) else
      (if ix < 0 then (some (acc ++ [⟨a, b⟩], 0)) else (if 0 ≤ (wrap64 (ix + 1)) then (if (wrap64 (ix + 1)) ≤ (x.size : Int) then (letterboxref12_Parse.l0 k (x.extract ((wrap64 (ix + 1)) : Int).toNat x.size) (acc ++ [⟨a, b⟩])) else (none)) else (none))) := by
  rw [letterboxref12_Parse.j2]
  by_cases h1 : a = 0
  · rw [if_pos h1, if_pos (.inl h1), letterboxref12_Parse.j3, if_pos rfl]
  · rw [if_neg h1]
    by_cases h2 : b = 0
    · rw [if_pos h2, if_pos (.inr (.inl h2)), letterboxref12_Parse.j3, if_pos rfl]
    · rw [if_neg h2, letterboxref12_Parse.j3]
      by_cases h3 : 16 ≤ acc.length
      · rw [decide_eq_true (by omega), if_pos rfl, if_pos (.inr (.inr h3))]
      · rw [decide_eq_false (by omega), if_neg (by simp), if_pos (by omega), Option.bind_some, if_neg (show ¬ (a = 0 ∨ b = 0 ∨ 16 ≤ acc.length) from by rintro (h | h | h); exact h1 h; exact h2 h; exact h3 h)]
theorem RParse_j1 (k : Nat) (x : ByteArray) (acc : List S32) (ix : Int) (p : List UInt8) (hp : p.length ≤ 1000) (hk : 1001 ≤ k) :
    letterboxref12_Parse.j1 (k + 3) x acc ix (mk p) = letterboxref12_Parse.j2 (k + 2) x acc ix (num (ends p).1) (num (ends p).2) := by
  have hcol : letterboxref9_Colon.f (k + 2) (mk p) 58 = some (Lib.indexByte p 58) := Colon_eq (k + 2) p 58 (by omega) (by omega)
  rw [letterboxref12_Parse.j1, hcol, Option.bind_some]
  unfold ends
  rcases cut_ix 58 p with ⟨h1, h2⟩ | ⟨h1, h3, h2⟩
  · rw [h2, if_neg (by omega), RNumber_eq _ (by omega), Option.bind_some, Option.bind_some]
  · rw [h2, if_pos (by omega), if_pos h1, mk_size, if_pos (by omega), mk_take, RNumber_eq _ (by omega), Option.bind_some, w64 _ (by omega) (by omega), if_pos (by omega), if_pos (by omega), show (Lib.indexByte p 58 + 1).toNat = (Lib.indexByte p 58).toNat + 1 by omega]
    have hd := mk_drop p ((Lib.indexByte p 58).toNat + 1)
    rw [mk_size] at hd
    rw [hd, RNumber_eq _ (by omega), Option.bind_some]
theorem RParse_l : ∀ (n : Nat) (l : List UInt8) (acc : List S32) (k : Nat), l.length ≤ n → l.length ≤ 1000 → acc.length ≤ 16 → 4 * n + 1010 ≤ k → letterboxref12_Parse.l0 k (mk l) acc = some (ans (goP (pieces 44 l) acc))
  | n, l, acc, k, hn, hl, ha, hk => by
    obtain ⟨k, rfl⟩ : ∃ m, k = m + 4 := ⟨k - 4, by omega⟩
    obtain ⟨hc1, hc2⟩ := cut_len 44 l
    have hcol : letterboxref9_Colon.f (k + 3) (mk l) 44 = some (Lib.indexByte l 44) := Colon_eq (k + 3) l 44 (by omega) (by omega)
    rw [letterboxref12_Parse.l0, hcol, Option.bind_some, pieces_cut 44 l]
    have tail : ∀ (p : List UInt8) (ix : Int) (ps : List (List UInt8)), p.length ≤ 1000 →
        (∀ r, ¬ 16 ≤ acc.length → (if ix < 0 then (some (acc ++ [r], (0 : Int))) else (if 0 ≤ (wrap64 (ix + 1)) then (if (wrap64 (ix + 1)) ≤ ((mk l).size : Int) then (letterboxref12_Parse.l0 k ((mk l).extract ((wrap64 (ix + 1)) : Int).toNat (mk l).size) (acc ++ [r])) else (none)) else (none))) = some (ans (goP ps (acc ++ [r])))) →
        letterboxref12_Parse.j1 (k + 3) (mk l) acc ix (mk p) = some (ans (goP (p :: ps) acc)) := by
      intro p ix ps hp hrec
      rw [RParse_j1 k _ acc ix p hp (by omega), RParse_j2 k _ acc ix _ _ ha]
      unfold goP rng
      by_cases h1 : num (ends p).1 = 0 ∨ num (ends p).2 = 0
      · rw [if_pos (h1.elim .inl (fun h => .inr (.inl h))), if_pos h1]
        rfl
      · rw [if_neg h1]
        by_cases h3 : 16 ≤ acc.length
        · rw [if_pos (.inr (.inr h3))]
          simp only
          rw [if_pos h3]
          rfl
        · rw [if_neg (by rintro (h | h | h); exact h1 (.inl h); exact h1 (.inr h); exact h3 h)]
          simp only
          rw [if_neg h3]
          exact hrec _ h3
    rcases cut_ix 44 l with ⟨h1, h2⟩ | ⟨h1, h3, h2⟩
    · rw [h2, if_neg (by omega)]
      refine tail l _ [] (by omega) (fun r h => ?_)
      rw [if_pos (by omega)]
      rfl
    · have hlb := hc2 (l.drop ((Lib.indexByte l 44).toNat + 1)) (by rw [h2])
      have hl1 : (l.take (Lib.indexByte l 44).toNat).length ≤ l.length := by rw [List.length_take]; omega
      rw [h2, if_pos (by omega), if_pos h1, mk_size, if_pos (by omega), mk_take]
      refine tail _ _ _ (by omega) (fun r h => ?_)
      have hd := mk_drop l ((Lib.indexByte l 44).toNat + 1)
      rw [if_neg (by omega), w64 _ (by omega) (by omega), if_pos (by omega), mk_size, if_pos (by omega), show (Lib.indexByte l 44 + 1).toNat = (Lib.indexByte l 44).toNat + 1 by omega, ← mk_size l, hd]
      match n, hn, hk with
      | 0, hn, _ => exact absurd hn (by omega)
      | n + 1, hn, hk => exact RParse_l n _ _ k (by omega) (by omega) (by rw [List.length_append]; simp; omega) (by omega)
theorem RParse_eq (k : Nat) (l : List UInt8) (hl : l.length ≤ 1000) (hk : 4 * l.length + 1010 ≤ k) : letterboxref12_Parse.f k (mk l) = some (ans (goP (pieces 44 l) [])) := by
  unfold letterboxref12_Parse.f
  exact RParse_l l.length l [] k (Nat.le_refl _) hl (Nat.zero_le _) hk

/-! ### Has -/
theorem rd_nat (l : List S32) (i : Nat) (h : i < l.length) : rd_T32 l (i : Int) = l[i] := by
  unfold rd_T32
  rw [Int.toNat_natCast, List.getD_eq_getElem?_getD, List.getElem?_eq_getElem h]
  rfl
theorem RHas_l0 (l : List S32) (n last : Int) (hl : l.length ≤ 1000000) : ∀ (m i k : Nat), i + m = l.length → 2 * m + 1 ≤ k → letterboxref12_Has.l0 k l n last i = some (decide (1 ≤ n) && (l.drop i).any (within n last))
  | 0, i, k, hi, hk => by
    obtain ⟨k, rfl⟩ : ∃ m, k = m + 1 := ⟨k - 1, by omega⟩
    rw [letterboxref12_Has.l0, if_neg (by omega), List.drop_of_length_le (by omega)]
    simp
  | m + 1, i, k, hi, hk => by
    obtain ⟨k, rfl⟩ : ∃ m, k = m + 2 := ⟨k - 2, by omega⟩
    have hlt : i < l.length := by omega
    rw [letterboxref12_Has.l0, if_pos (by omega), if_pos (by omega), rd_nat l i hlt, List.drop_eq_getElem_cons hlt, List.any_cons]
    have next := RHas_l0 l n last hl m (i + 1) k (by omega) (by omega)
    have hw : wrap64 ((i : Int) + 1) = ((i + 1 : Nat) : Int) := w64 _ (by omega) (by omega)
    have key : ∀ a b, (if n ≥ 1 then (if n ≥ (mn a b) then (if n ≤ (mx a b) then (some true) else (letterboxref12_Has.l0 k l n last (wrap64 ((i : Int) + 1)))) else (letterboxref12_Has.l0 k l n last (wrap64 ((i : Int) + 1)))) else (letterboxref12_Has.l0 k l n last (wrap64 ((i : Int) + 1)))) = some (decide (1 ≤ n) && ((decide (mn a b ≤ n) && decide (n ≤ mx a b)) || (l.drop (i + 1)).any (within n last))) := by
      intro a b
      rw [hw, next]
      by_cases h1 : 1 ≤ n
      · rw [if_pos h1, decide_eq_true h1]
        by_cases h2 : mn a b ≤ n
        · rw [if_pos h2, decide_eq_true h2]
          by_cases h3 : n ≤ mx a b
          · rw [if_pos h3, decide_eq_true h3]; rfl
          · rw [if_neg h3, decide_eq_false h3]; rfl
        · rw [if_neg h2, decide_eq_false h2]; rfl
      · rw [if_neg h1, decide_eq_false h1]; rfl
    unfold within endOf
    by_cases ha : (l[i]).f0 = 1073741824
    · rw [if_pos ha, if_pos ha, letterboxref12_Has.j1]
      by_cases hb : (l[i]).f1 = 1073741824
      · rw [if_pos hb, if_pos hb]; exact key _ _
      · rw [if_neg hb, if_neg hb]; exact key _ _
    · rw [if_neg ha, if_neg ha, letterboxref12_Has.j1]
      by_cases hb : (l[i]).f1 = 1073741824
      · rw [if_pos hb, if_pos hb]; exact key _ _
      · rw [if_neg hb, if_neg hb]; exact key _ _
theorem RHas_eq (k : Nat) (l : List S32) (n last : Int) (hl : l.length ≤ 1000000) (hk : 2 * l.length + 1 ≤ k) : letterboxref12_Has.f k l n last = span_Has.f l n last := by
  unfold letterboxref12_Has.f span_Has.f
  exact RHas_l0 l n last hl l.length 0 k (by omega) hk

/-! ### Same -/
def eqR (a b : S32) : Bool := (a.f0 == b.f0) && (a.f1 == b.f1)
def eqL : List S32 → List S32 → Bool
  | [], [] => true
  | a :: l, b :: m => eqR a b && eqL l m
  | _, _ => false
theorem eqL_cons (a b : S32) (l m : List S32) : eqL (a :: l) (b :: m) = (eqR a b && eqL l m) := rfl
theorem eqL_refl : ∀ l, eqL l l = true
  | [] => rfl
  | a :: l => by rw [eqL_cons]; unfold eqR; rw [beq_self_eq_true, beq_self_eq_true, eqL_refl l]; rfl
theorem eqL_len : ∀ a b, a.length ≠ b.length → eqL a b = false
  | [], [], h => absurd rfl h
  | [], _ :: _, _ => rfl
  | _ :: _, [], _ => rfl
  | a :: l, b :: m, h => by rw [eqL_cons, eqL_len l m (by simpa using h), Bool.and_false]
theorem RSame_l0 (a b : List S32) (hab : a.length = b.length) (hl : a.length ≤ 1000000) : ∀ (m i k : Nat), i + m = a.length → m + 1 ≤ k → letterboxref12_Same.l0 k a b i = some (eqL (a.drop i) (b.drop i))
  | 0, i, k, hi, hk => by
    obtain ⟨k, rfl⟩ : ∃ m, k = m + 1 := ⟨k - 1, by omega⟩
    rw [letterboxref12_Same.l0, if_neg (by omega), List.drop_of_length_le (by omega), List.drop_of_length_le (by omega)]
    rfl
  | m + 1, i, k, hi, hk => by
    obtain ⟨k, rfl⟩ : ∃ m, k = m + 1 := ⟨k - 1, by omega⟩
    have hlt : i < a.length := by omega
    have hlt2 : i < b.length := by omega
    rw [letterboxref12_Same.l0, if_pos (by omega), if_pos (by omega), if_pos (by omega), rd_nat a i hlt, rd_nat b i hlt2, List.drop_eq_getElem_cons hlt, List.drop_eq_getElem_cons hlt2, w64 _ (by omega) (by omega), show ((i : Int) + 1) = ((i + 1 : Nat) : Int) from rfl, RSame_l0 a b hab hl m (i + 1) k (by omega) (by omega)]
    rw [eqL_cons]
    unfold eqR
    cases h0 : (a[i]).f0 == (b[i]).f0 <;> cases h1 : (a[i]).f1 == (b[i]).f1 <;> simp
theorem RSame_eq (k : Nat) (a b : List S32) (hl : a.length ≤ 1000000) (hk : a.length + 1 ≤ k) : letterboxref12_Same.f k a b = some (eqL a b) := by
  unfold letterboxref12_Same.f
  by_cases h : a.length = b.length
  · rw [if_pos (by omega)]
    exact RSame_l0 a b h hl a.length 0 k (by omega) hk
  · rw [if_neg (by omega), eqL_len a b h]
theorem USame_l0 (a b : List S32) (hab : a.length = b.length) (hl : a.length ≤ 1000000) : ∀ (m i k : Nat), i + m = a.length → m + 1 ≤ k → api_Range.l0 k a b (a.length : Int) i = some (eqL (a.drop i) (b.drop i))
  | 0, i, k, hi, hk => by
    obtain ⟨k, rfl⟩ : ∃ m, k = m + 1 := ⟨k - 1, by omega⟩
    rw [api_Range.l0, if_neg (by omega), List.drop_of_length_le (by omega), List.drop_of_length_le (by omega)]
    rfl
  | m + 1, i, k, hi, hk => by
    obtain ⟨k, rfl⟩ : ∃ m, k = m + 1 := ⟨k - 1, by omega⟩
    have hlt : i < a.length := by omega
    have hlt2 : i < b.length := by omega
    rw [api_Range.l0, if_pos (by omega), if_pos (by omega), if_pos (by omega), if_pos (by omega), rd_nat a i hlt, rd_nat b i hlt2, List.drop_eq_getElem_cons hlt, List.drop_eq_getElem_cons hlt2, w64 _ (by omega) (by omega), show ((i : Int) + 1) = ((i + 1 : Nat) : Int) from rfl, USame_l0 a b hab hl m (i + 1) k (by omega) (by omega)]
    rw [eqL_cons]
    unfold eqR
    cases h0 : (a[i]).f0 == (b[i]).f0 <;> cases h1 : (a[i]).f1 == (b[i]).f1 <;> simp
theorem USame_eq (k : Nat) (a b : List S32) (hl : a.length ≤ 1000000) (hk : a.length + 1 ≤ k) : span_Same.f k a b = some (eqL a b) := by
  unfold span_Same.f api_Range.f
  by_cases h : a.length = b.length
  · rw [if_pos (by omega), show (0 : Int) = ((0 : Nat) : Int) from rfl, USame_l0 a b h hl a.length 0 k (by omega) hk]
    rfl
  · rw [if_neg (by omega), eqL_len a b h]
    rfl

/-! ### A set as a text -/
def okSet (l : List S32) : Bool := decide (1 ≤ l.length) && (decide (l.length ≤ 16) && l.all okRange)
def dg (n : Int) : List UInt8 := if n = 1073741824 then [42] else Lib.decDigits n.toNat
def rtext (r : S32) : List UInt8 := dg r.f0 ++ if r.f1 = r.f0 then [] else 58 :: dg r.f1
def texts (l : List S32) : List UInt8 := Lib.join (l.map rtext) [44]
theorem decDigits_len : ∀ (k n : Nat), n < 10 ^ (k + 1) → (Lib.decDigits n).length ≤ k + 1
  | k, n, h => by
    rw [Lib.decDigits]
    by_cases h1 : n < 10
    · rw [dif_pos h1]; simp
    · rw [dif_neg h1, List.length_append]
      match k with
      | 0 => exact absurd h (by omega)
      | k + 1 =>
        have := decDigits_len k (n / 10) (by rw [Nat.pow_succ] at h; omega)
        simp
        omega
theorem okEnd_cases {n : Int} (h : okEnd n = true) : n = 1073741824 ∨ (1 ≤ n ∧ n ≤ 9999999 ∧ n ≠ 1073741824) := by
  unfold okEnd at h
  simp only [Bool.or_eq_true, beq_iff_eq, Bool.and_eq_true, decide_eq_true_eq] at h
  rcases h with h | h
  · exact .inl h
  · exact .inr ⟨h.1, h.2, by omega⟩
theorem dg_len {n : Int} (h : okEnd n = true) : (dg n).length ≤ 7 := by
  unfold dg
  rcases okEnd_cases h with rfl | ⟨h1, h2, h3⟩
  · rw [if_pos rfl]; decide
  · rw [if_neg h3]
    exact decDigits_len 6 n.toNat (by omega)
theorem rtext_len {r : S32} (h : okRange r = true) : (rtext r).length ≤ 15 := by
  unfold okRange at h
  rw [Bool.and_eq_true] at h
  unfold rtext
  have h0 := dg_len h.1
  have h1 := dg_len h.2
  rw [List.length_append]
  split
  · simp; omega
  · rw [List.length_cons]; omega
theorem UEnded {n : Int} (h : okEnd n = true) : span_ended.f n = some (mk (dg n)) := by
  unfold span_ended.f dg
  rcases okEnd_cases h with rfl | ⟨h1, h2, h3⟩
  · rw [if_pos rfl, if_pos rfl]; rfl
  · rw [if_neg h3, if_neg h3]
    unfold strconv_Itoa.f
    rw [if_pos (by omega)]
    unfold Lib.itoa
    rw [if_neg (by omega)]
    rfl
theorem RDec : ∀ (k n : Nat), n < 10 ^ (k + 1) → n < 100000000 → letterboxref12_Dec.f (k + 2) (n : Int) = some (mk (Lib.decDigits n))
  | k, n, h, hn => by
    rw [letterboxref12_Dec.f, Lib.decDigits]
    by_cases h1 : n < 10
    · rw [if_pos (by omega), dif_pos h1, w64 _ (by omega) (by omega)]
      congr 1
      refine ext_list ?_
      show (strOfNums [(48 + (n : Int)) % 256]).data.toList = [UInt8.ofNat (48 + n)]
      have : (48 + (n : Int)) % 256 = ((48 + n : Nat) : Int) := by omega
      rw [this]
      rfl
    · rw [if_neg (by omega), dif_neg h1]
      match k with
      | 0 => exact absurd h (by omega)
      | k + 1 =>
        have e1 : Int.tdiv (n : Int) 10 = ((n / 10 : Nat) : Int) := by rw [Int.tdiv_eq_ediv_of_nonneg (by omega)]; omega
        have e2 : Int.tmod (n : Int) 10 = ((n % 10 : Nat) : Int) := by rw [Int.tmod_eq_emod_of_nonneg (by omega)]; omega
        have d1 := RDec k (n / 10) (by rw [Nat.pow_succ] at h; omega) (by omega)
        have d2 : letterboxref12_Dec.f (k + 2) ((n % 10 : Nat) : Int) = some (mk [UInt8.ofNat (48 + n % 10)]) := by
          have := RDec k (n % 10) (by have : 10 ^ 1 ≤ 10 ^ (k + 1) := Nat.pow_le_pow_right (by decide) (by omega)
                                      omega) (by omega)
          rw [this, Lib.decDigits_one (by omega)]
        have hlen := decDigits_len 7 (n / 10) (by omega)
        rw [e1, e2, w64 _ (by omega) (by omega), d1, Option.bind_some, d2, Option.bind_some, if_pos (by rw [mk_size, mk_size]; simp; omega), mk_app]
theorem RDigits {n : Int} (h : okEnd n = true) (k : Nat) (hk : 9 ≤ k) : letterboxref12_digits.f k n = some (mk (dg n)) := by
  unfold letterboxref12_digits.f dg
  rcases okEnd_cases h with rfl | ⟨h1, h2, h3⟩
  · rw [if_pos rfl, if_pos rfl]; rfl
  · rw [if_neg h3, if_neg h3]
    obtain ⟨m, rfl⟩ : ∃ m : Nat, n = (m : Int) := ⟨n.toNat, by omega⟩
    obtain ⟨k, rfl⟩ : ∃ j, k = j + 2 := ⟨k - 2, by omega⟩
    have : (10 : Nat) ^ 8 ≤ 10 ^ (k + 1) := Nat.pow_le_pow_right (by decide) (by omega)
    rw [RDec k m (by omega) (by omega), Option.bind_some, Int.toNat_natCast]
theorem RIs_l0 (l : List S32) (hl : l.length ≤ 1000000) : ∀ (m i k : Nat), i + m = l.length → m + 1 ≤ k → letterboxref12_Is.l0 k l i = some ((l.drop i).all okRange && (decide (1 ≤ l.length) && decide (l.length ≤ 16)))
  | 0, i, k, hi, hk => by
    obtain ⟨k, rfl⟩ : ∃ m, k = m + 1 := ⟨k - 1, by omega⟩
    rw [letterboxref12_Is.l0, if_neg (by omega), List.drop_of_length_le (by omega)]
    by_cases h1 : 1 ≤ l.length
    · rw [if_pos (by omega), decide_eq_true h1]
      by_cases h2 : l.length ≤ 16
      · rw [decide_eq_true h2, decide_eq_true (by omega)]; rfl
      · rw [decide_eq_false h2, decide_eq_false (by omega)]; rfl
    · rw [if_neg (by omega), decide_eq_false h1]; rfl
  | m + 1, i, k, hi, hk => by
    obtain ⟨k, rfl⟩ : ∃ m, k = m + 1 := ⟨k - 1, by omega⟩
    have hlt : i < l.length := by omega
    have his : ∀ n, letterboxref12_is.f n = some (okEnd n) := by
      intro n
      unfold letterboxref12_is.f okEnd
      by_cases h1 : 1 ≤ n
      · rw [if_pos (by omega), decide_eq_true h1]
        by_cases h2 : n ≤ 9999999
        · rw [if_pos h2, decide_eq_true h2, Bool.and_self, Bool.or_true]
        · rw [if_neg h2, decide_eq_false h2, Bool.and_false, Bool.or_false]
      · rw [if_neg (by omega), decide_eq_false h1, Bool.false_and, Bool.or_false]
    rw [letterboxref12_Is.l0, if_pos (by omega), if_pos (by omega), rd_nat l i hlt, his, his, Option.bind_some, Option.bind_some, w64 _ (by omega) (by omega), show ((i : Int) + 1) = ((i + 1 : Nat) : Int) from rfl, RIs_l0 l hl m (i + 1) k (by omega) (by omega), List.drop_eq_getElem_cons hlt, List.all_cons]
    unfold okRange
    cases okEnd (l[i]).f0 <;> cases okEnd (l[i]).f1 <;> simp
theorem RIs_eq (k : Nat) (l : List S32) (hl : l.length ≤ 1000000) (hk : l.length + 1 ≤ k) : letterboxref12_Is.f k l = some (okSet l) := by
  unfold letterboxref12_Is.f okSet
  rw [show (0 : Int) = ((0 : Nat) : Int) from rfl, RIs_l0 l hl l.length 0 k (by omega) hk, List.drop_zero]
  cases l.all okRange <;> simp
theorem tail_len : ∀ (l : List S32), l.all okRange = true → (Lib.joinTail [44] (l.map rtext)).length ≤ 16 * l.length
  | [], _ => Nat.le_refl _
  | r :: l, h => by
    rw [List.all_cons, Bool.and_eq_true] at h
    have h1 := tail_len l h.2
    have h2 := rtext_len h.1
    show (([44] ++ rtext r) ++ Lib.joinTail [44] (l.map rtext)).length ≤ _
    rw [List.length_append, List.length_append, List.length_cons]
    simp
    omega
theorem texts_len (l : List S32) (h : l.all okRange = true) : (texts l).length ≤ 16 * l.length := by
  unfold texts
  match l, h with
  | [], _ => decide
  | r :: l, h =>
    rw [List.all_cons, Bool.and_eq_true] at h
    have h1 := tail_len l h.2
    have h2 := rtext_len h.1
    rw [List.map_cons, Lib.join_cons, List.length_append, List.length_cons]
    omega
theorem UPrint_l0 (l : List S32) (h : l.all okRange = true) (hl : l.length ≤ 16) : ∀ (m i k : Nat), i + m = l.length → m + 1 ≤ k → span_Print.l0 k ((l.take i).map fun r => mk (rtext r)) l (l.length : Int) i = some (mk (texts l))
  | 0, i, k, hi, hk => by
    obtain ⟨k, rfl⟩ : ∃ m, k = m + 1 := ⟨k - 1, by omega⟩
    have hmap : (l.map fun r => mk (rtext r)).map (fun s => s.data.toList) = l.map rtext := by rw [List.map_map]; rfl
    have hlen := texts_len l h
    rw [span_Print.l0, if_neg (by omega), List.take_of_length_le (by omega)]
    unfold strings_Join.f
    rw [hmap]
    rw [if_pos ⟨by rw [List.length_map]; omega, by show (texts l).length ≤ _; omega⟩]
    rfl
  | m + 1, i, k, hi, hk => by
    obtain ⟨k, rfl⟩ : ∃ m, k = m + 1 := ⟨k - 1, by omega⟩
    have hlt : i < l.length := by omega
    have hr := List.all_eq_true.1 h l[i] (List.getElem_mem hlt)
    have hr2 := hr
    unfold okRange at hr2
    rw [Bool.and_eq_true] at hr2
    have h0 := dg_len hr2.1
    have h1 := dg_len hr2.2
    have next : span_Print.l0 k (((l.take i).map fun r => mk (rtext r)) ++ [mk (rtext l[i])]) l (l.length : Int) (wrap64 ((i : Int) + 1)) = some (mk (texts l)) := by
      have e : ((l.take i).map fun r => mk (rtext r)) ++ [mk (rtext l[i])] = (l.take (i + 1)).map fun r => mk (rtext r) := by
        rw [List.take_succ_eq_append_getElem hlt, List.map_append]
        rfl
      rw [e, w64 _ (by omega) (by omega)]
      exact UPrint_l0 l h hl m (i + 1) k (by omega) (by omega)
    have hlt2 : ((l.take i).map fun r => mk (rtext r)).length < 8796093022208 := by rw [List.length_map, List.length_take]; omega
    rw [span_Print.l0, if_pos (by omega), if_pos (by omega), if_pos (by omega), rd_nat l i hlt, UEnded hr2.1, Option.bind_some]
    by_cases he : (l[i]).f1 = (l[i]).f0
    · rw [if_pos he, if_pos hlt2]
      unfold rtext at next
      rw [if_pos he, List.append_nil] at next
      exact next
    · rw [if_neg he, UEnded hr2.2, Option.bind_some, if_pos (by rw [mk_size]; omega), if_pos (by rw [mk_size, mk_size]; omega), if_pos hlt2]
      have hc : mk (dg (l[i]).f0) ++ ((⟨#[58]⟩ : ByteArray) ++ mk (dg (l[i]).f1)) = mk (rtext l[i]) := by
        rw [show (⟨#[58]⟩ : ByteArray) = mk [58] from rfl, mk_app, mk_app]
        unfold rtext
        rw [if_neg he]
        rfl
      rw [hc]
      exact next
theorem UPrint_eq (k : Nat) (l : List S32) (hk : l.length + 1 ≤ k) : span_Print.f k l = some (if okSet l = true then mk (texts l) else ⟨#[]⟩) := by
  unfold span_Print.f
  have : span_is.f l = some (okSet l) := rfl
  rw [this, Option.bind_some]
  by_cases h : okSet l = true
  · rw [if_pos h, if_pos h]
    unfold okSet at h
    simp only [Bool.and_eq_true, decide_eq_true_eq] at h
    exact UPrint_l0 l h.2.2 h.2.1 l.length 0 k (by omega) hk
  · rw [if_neg h, if_neg h]
theorem RPrint_l0 (l : List S32) (h : l.all okRange = true) (hl : l.length ≤ 16) : ∀ (m i k : Nat), i + m = l.length → 2 * m + 12 ≤ k → letterboxref12_Print.l0 k l (mk (texts (l.take i))) i = some (mk (texts l))
  | 0, i, k, hi, hk => by
    obtain ⟨k, rfl⟩ : ∃ m, k = m + 1 := ⟨k - 1, by omega⟩
    rw [letterboxref12_Print.l0, if_neg (by omega), List.take_of_length_le (by omega)]
  | m + 1, i, k, hi, hk => by
    obtain ⟨k, rfl⟩ : ∃ m, k = m + 2 := ⟨k - 2, by omega⟩
    have hlt : i < l.length := by omega
    have hr := List.all_eq_true.1 h l[i] (List.getElem_mem hlt)
    have hr2 := hr
    unfold okRange at hr2
    rw [Bool.and_eq_true] at hr2
    have h0 := dg_len hr2.1
    have h1 := dg_len hr2.2
    have htl := texts_len (l.take i) (by rw [List.all_eq_true] at h ⊢; exact fun x hx => h x (List.mem_of_mem_take hx))
    rw [List.length_take] at htl
    have step : ∀ pre : List UInt8, pre.length ≤ 1000 → pre ++ rtext l[i] = texts (l.take (i + 1)) → letterboxref12_Print.j1 (k + 1) l (mk pre) i = some (mk (texts l)) := by
      intro pre hp he2
      have next := RPrint_l0 l h hl m (i + 1) k (by omega) (by omega)
      rw [← he2] at next
      have hw : wrap64 ((i : Int) + 1) = ((i + 1 : Nat) : Int) := w64 _ (by omega) (by omega)
      rw [letterboxref12_Print.j1, if_pos (by omega), if_pos (by omega), rd_nat l i hlt, RDigits hr2.1 k (by omega), Option.bind_some, if_pos (by rw [mk_size, mk_size]; omega), hw]
      unfold rtext at next
      by_cases he : (l[i]).f1 = (l[i]).f0
      · rw [if_pos he, mk_app]
        rw [if_pos he, List.append_nil] at next
        exact next
      · rw [if_neg he] at next
        rw [if_neg he, if_pos (by rw [mk_size, mk_size]; omega), RDigits hr2.2 k (by omega), Option.bind_some, if_pos (by rw [mk_size, mk_size, mk_size]; omega), show (⟨#[58]⟩ : ByteArray) = mk [58] from rfl, mk_app, mk_app, mk_app]
        simpa using next
    rw [letterboxref12_Print.l0, if_pos (by omega)]
    have htake : (l.take (i + 1)).map rtext = (l.take i).map rtext ++ [rtext l[i]] := by
      rw [List.take_succ_eq_append_getElem hlt, List.map_append]
      rfl
    match i, hlt, hi, htl, step, htake, hr, hr2, h0, h1 with
    | 0, hlt, hi, htl, step, htake, _, _, _, _ =>
      rw [if_neg (by simp)]
      refine step _ (by omega) ?_
      unfold texts
      rw [htake]
      simp [Lib.join_one, Lib.join_nil]
    | i + 1, hlt, hi, htl, step, htake, _, _, _, _ =>
      rw [if_pos (by omega), if_pos (by rw [mk_size]; omega), show (⟨#[44]⟩ : ByteArray) = mk [44] from rfl, mk_app]
      refine step _ (by rw [List.length_append]; simp; omega) ?_
      unfold texts
      rw [htake]
      obtain ⟨x, r, hx⟩ : ∃ x r, (l.take (i + 1)).map rtext = x :: r := by
        cases hq : (l.take (i + 1)).map rtext with
        | nil => have := congrArg List.length hq; rw [List.length_map, List.length_take, List.length_nil] at this; omega
        | cons x r => exact ⟨x, r, rfl⟩
      rw [hx, List.cons_append, Lib.join_cons, Lib.join_cons]
      unfold Lib.joinTail
      simp
theorem RPrint_eq (k : Nat) (l : List S32) (hl : l.length ≤ 1000000) (hk : 2 * l.length + 12 ≤ k) : letterboxref12_Print.f k l = some (if okSet l = true then mk (texts l) else ⟨#[]⟩) := by
  unfold letterboxref12_Print.f
  rw [RIs_eq k l hl (by omega), Option.bind_some]
  by_cases h : okSet l = true
  · rw [if_pos h, if_pos h]
    unfold okSet at h
    simp only [Bool.and_eq_true, decide_eq_true_eq] at h
    have := RPrint_l0 l h.2.2 h.2.1 l.length 0 k (by omega) hk
    exact this
  · rw [if_neg h, if_neg h]
end Go.Proofs.YtdgbllaenkcmbaaDoor.Spec
