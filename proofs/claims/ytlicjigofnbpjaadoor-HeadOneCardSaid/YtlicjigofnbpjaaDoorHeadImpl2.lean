/- Trims, cuts and small letters: the library's and the reference's are one. -/
import Derived.Test.YtlicjigofnbpjaaDoorHeadImpl1
import Derived.Test.YtlicjigofnbpjaaDoorPx2
import Derived.Test.YtlicjigofnbpjaaDoorPx2
import Derived.Test.YtlicjigofnbpjaaDoorPx3
namespace Go.Proofs.YtlicjigofnbpjaaDoor.Pure
open Go.RowKit Go.Proofs.YtlicjigofnbpjaaDoor Go.Proofs.YtlicjigofnbpjaaDoor.P Go.Proofs.YtlicjigofnbpjaaDoor.Spec Go.Proofs.YtlicjigofnbpjaaDoorW.PrintWords Go.Proofs.YtlicjigofnbpjaaDoorW.PrintLast Go.Proofs.YtlicjigofnbpjaaDoorW.PrintMore

theorem ext_list {s t : ByteArray} (h : s.data.toList = t.data.toList) : s = t := ByteArray.ext (Array.toList_inj.1 h)
theorem extract_list (s : ByteArray) (a b : Nat) : (s.extract a b).data.toList = (s.data.toList.take b).drop a := by
  simp [ByteArray.data_extract, List.drop_take]
def blk (b : UInt8) : Bool := b == 32 || b == 9
def stripR (l : List UInt8) : List UInt8 := (l.reverse.dropWhile blk).reverse
theorem stripR_nil : stripR [] = [] := rfl
theorem stripR_cons (c : UInt8) (l : List UInt8) : stripR (c :: l) = if stripR l = [] then (if blk c then [] else [c]) else c :: stripR l := by
  unfold stripR
  rw [List.reverse_cons, List.dropWhile_append]
  by_cases h : List.dropWhile blk l.reverse = []
  · rw [h]
    simp only [List.isEmpty_nil, if_true, List.reverse_nil]
    by_cases hc : blk c = true
    · simp [List.dropWhile, hc]
    · simp [List.dropWhile, hc]
  · have h2 : (List.dropWhile blk l.reverse).isEmpty = false := by
      cases hh : List.dropWhile blk l.reverse with
      | nil => exact absurd hh h
      | cons _ _ => rfl
    rw [h2, if_neg (by decide), if_neg (by simpa using h), List.reverse_append]
    rfl
theorem strip_comm : ∀ l : List UInt8, (stripR l).dropWhile blk = stripR (l.dropWhile blk)
  | [] => rfl
  | c :: l => by
    have ih := strip_comm l
    rw [stripR_cons]
    by_cases hc : blk c = true
    · have hd : List.dropWhile blk (c :: l) = List.dropWhile blk l := by simp [List.dropWhile, hc]
      rw [hd]
      by_cases hs : stripR l = []
      · rw [if_pos hs, if_pos hc, ← ih, hs]
      · rw [if_neg hs, ← ih]
        simp [List.dropWhile, hc]
    · have hd : List.dropWhile blk (c :: l) = c :: l := by simp [List.dropWhile, hc]
      rw [hd, stripR_cons]
      split
      · simp [List.dropWhile, hc]
      · simp [List.dropWhile, hc]
/-- Without blanks at both ends. -/
def trimB (s : ByteArray) : ByteArray := ⟨(Lib.trimS s.data.toList [32, 9]).toArray⟩
theorem contains_blk (b : UInt8) : List.contains [32, 9] b = blk b := by
  unfold blk
  simp only [List.contains, List.elem]
  cases b == 32 <;> cases b == 9 <;> rfl
theorem trimB_list (s : ByteArray) : (trimB s).data.toList = stripR (s.data.toList.dropWhile blk) := by
  have hp : (fun b => List.contains [32, 9] b) = blk := funext contains_blk
  unfold trimB Lib.trimS Lib.trimLeftS Lib.trimRightS
  rw [hp]
  exact strip_comm _
theorem stripR_le (l : List UInt8) : (stripR l).length ≤ l.length := by
  unfold stripR
  rw [List.length_reverse]
  have := (List.dropWhile_sublist blk (l := l.reverse)).length_le
  rwa [List.length_reverse] at this
theorem trimB_le (s : ByteArray) : (trimB s).size ≤ s.size := by
  rw [Lib.size_eq, Lib.size_eq, trimB_list]
  exact Nat.le_trans (stripR_le _) (List.dropWhile_sublist blk).length_le
theorem trim_eq (s : ByteArray) (h : s.size ≤ 9223372036854775807) : strings_Trim.f s ⟨#[32, 9]⟩ = some (trimB s) := by
  unfold strings_Trim.f trimB
  rw [if_pos ⟨h, by decide, by decide⟩]

theorem bt_nat (s : ByteArray) (i : Nat) (b : UInt8) (h : s.data.toList[i]? = some b) : bt s (i : Int) = (b.toNat : Int) := by
  have hi : i < s.size := by rw [Lib.size_eq]; exact (List.getElem?_eq_some_iff.1 h).1
  have h2 := Lib.data_getElem? s i hi
  rw [h] at h2
  unfold bt
  simp only [Int.toNat_natCast]
  rw [dif_pos hi, ← Option.some.inj h2]
theorem blank_eq (b : UInt8) : letterboxref9_blank.f (b.toNat : Int) = some (blk b) := by
  unfold letterboxref9_blank.f blk
  by_cases h : (b.toNat : Int) = 32
  · obtain rfl : b = 32 := UInt8.toNat_inj.1 (by simpa using (Int.ofNat_inj.1 h))
    rfl
  · rw [if_neg h]
    have h1 : (b == 32) = false := by
      rw [beq_eq_false_iff_ne]
      rintro rfl
      exact h rfl
    rw [h1, Bool.false_or]
    congr 1
    rw [Bool.eq_iff_iff, beq_iff_eq, beq_iff_eq]
    constructor
    · intro h; exact UInt8.toNat_inj.1 (by simpa using (Int.ofNat_inj.1 h))
    · rintro rfl; rfl
theorem RTrim_l1 : ∀ (k : Nat) (s : ByteArray), s.size < k → s.size ≤ 1000000 → letterboxref9_Trim.l1 k s = some ⟨(stripR s.data.toList).toArray⟩
  | 0, _, h, _ => absurd h (by omega)
  | k + 1, s, hk, hb => by
    unfold letterboxref9_Trim.l1
    have hsz := Lib.size_eq s
    rcases List.eq_nil_or_concat s.data.toList with h0 | ⟨m, x, h0⟩
    · rw [h0] at hsz
      have hz : s.size = 0 := hsz
      rw [if_neg (by omega), h0]
      congr 1
      exact ext_list (by rw [h0]; rfl)
    · rw [List.concat_eq_append] at h0
      rw [h0, List.length_append, List.length_singleton] at hsz
      have hx : s.data.toList[m.length]? = some x := by rw [h0, List.getElem?_append_right (Nat.le_refl _), Nat.sub_self]; rfl
      rw [if_pos (by omega), w64 _ (by omega) (by omega), show ((s.size : Int) - 1) = ((m.length : Nat) : Int) by omega, if_pos (by omega), if_pos (by omega), bt_nat s _ x hx, blank_eq, Option.bind_some]
      have hr : stripR (m ++ [x]) = if blk x then stripR m else m ++ [x] := by
        unfold stripR
        rw [List.reverse_append]
        show (List.dropWhile blk (x :: m.reverse)).reverse = _
        by_cases hbx : blk x = true
        · simp [List.dropWhile, hbx]
        · simp [List.dropWhile, hbx]
      rw [h0, hr]
      by_cases hbx : blk x = true
      · have he : (s.extract 0 m.length).data.toList = m := by
          rw [extract_list, h0, List.drop_zero, List.take_left']
          rfl
        have hes : (s.extract 0 m.length).size = m.length := by rw [Lib.size_eq, he]
        rw [if_pos hbx, if_pos hbx, if_pos (by omega), Int.toNat_natCast, RTrim_l1 k _ (by omega) (by omega), he]
      · rw [if_neg hbx, if_neg hbx]
        congr 1
        exact ext_list h0
theorem RTrim_l0 : ∀ (k : Nat) (s : ByteArray), s.size + s.size + 3 < k → s.size ≤ 1000000 → letterboxref9_Trim.l0 k s = some (trimB s)
  | 0, _, h, _ => absurd h (by omega)
  | k + 1, s, hk, hb => by
    have fin : letterboxref9_Trim.j1 k s = some ⟨(stripR s.data.toList).toArray⟩ := by
      obtain ⟨k, rfl⟩ : ∃ j, k = j + 1 := ⟨k - 1, by omega⟩
      unfold letterboxref9_Trim.j1
      exact RTrim_l1 k s (by omega) hb
    unfold letterboxref9_Trim.l0
    have hsz := Lib.size_eq s
    cases h0 : s.data.toList with
    | nil =>
      rw [h0] at hsz fin
      have hz : s.size = 0 := hsz
      rw [if_neg (by omega), fin]
      congr 1
      exact ext_list (by rw [trimB_list, h0]; rfl)
    | cons x m =>
      rw [h0, List.length_cons] at hsz
      have hx : s.data.toList[0]? = some x := by rw [h0]; rfl
      rw [if_pos (by omega), if_pos (by omega), show (0 : Int) = ((0 : Nat) : Int) from rfl, bt_nat s _ x hx, blank_eq, Option.bind_some]
      by_cases hbx : blk x = true
      · have he : (s.extract 1 s.size).data.toList = m := by
          rw [extract_list, Lib.size_eq, List.take_length, h0]
          rfl
        have hes : (s.extract 1 s.size).size = m.length := by rw [Lib.size_eq, he]
        rw [if_pos hbx, if_pos (by omega), RTrim_l0 k _ (by omega) (by omega)]
        congr 1
        refine ext_list ?_
        rw [trimB_list, trimB_list, he, h0]
        simp [List.dropWhile, hbx]
      · rw [if_neg hbx, fin]
        congr 1
        refine ext_list ?_
        rw [trimB_list, h0]
        simp [List.dropWhile, hbx]
theorem RTrim_eq (k : Nat) (s : ByteArray) (hk : s.size + s.size + 3 < k) (hb : s.size ≤ 1000000) : letterboxref9_Trim.f k s = some (trimB s) := RTrim_l0 k s hk hb

/-- Where the colon is; -1: nowhere. -/
def cix (s : ByteArray) : Int := Lib.indexByte s.data.toList 58
theorem indexByte_lt : ∀ (l : List UInt8) (c : UInt8), Lib.indexByte l c < l.length
  | [], _ => by unfold Lib.indexByte; decide
  | b :: l, c => by
    have := indexByte_lt l c
    unfold Lib.indexByte
    rw [List.length_cons]
    split
    · omega
    · split
      · omega
      · omega
theorem Colon_l0 (s : ByteArray) (hb : s.size ≤ 1000000) : ∀ (k i : Nat), i ≤ s.size → s.size - i < k → letterboxref9_Colon.l0 k s 58 i = some (if Lib.indexByte (s.data.toList.drop i) 58 = -1 then -1 else i + Lib.indexByte (s.data.toList.drop i) 58)
  | 0, _, _, h => absurd h (by omega)
  | k + 1, i, hi, hk => by
    unfold letterboxref9_Colon.l0
    have hsz := Lib.size_eq s
    by_cases hlt : i < s.size
    · have hlt2 : i < s.data.toList.length := by omega
      have hd := List.drop_eq_getElem_cons hlt2
      have hx : s.data.toList[i]? = some s.data.toList[i] := List.getElem?_eq_getElem hlt2
      have hge := Lib.indexByte_ge (s.data.toList.drop (i + 1)) 58
      rw [if_pos (by omega), if_pos (by omega), bt_nat s i _ hx, hd]
      unfold Lib.indexByte
      by_cases hc : s.data.toList[i] = 58
      · rw [hc]
        simp
      · have hne : (s.data.toList[i] == 58) = false := beq_eq_false_iff_ne.2 hc
        have hne2 : ¬ ((s.data.toList[i].toNat : Int) = 58) := by
          intro h
          exact hc (UInt8.toNat_inj.1 (by simpa using (Int.ofNat_inj.1 h)))
        rw [if_neg hne2, hne, w64 _ (by omega) (by omega), show ((i : Int) + 1) = ((i + 1 : Nat) : Int) from rfl, Colon_l0 s hb k (i + 1) (by omega) (by omega)]
        by_cases hm : Lib.indexByte (s.data.toList.drop (i + 1)) 58 = -1
        · rw [if_pos hm, hm]
          rfl
        · have hm2 : (Lib.indexByte (s.data.toList.drop (i + 1)) 58 == -1) = false := beq_eq_false_iff_ne.2 hm
          simp only [hm2, Bool.false_eq_true, if_false]
          rw [if_neg hm, if_neg (by omega)]
          congr 1
          omega
    · obtain rfl : i = s.size := by omega
      rw [if_neg (by omega), hsz, List.drop_length]
      rfl
theorem Colon_eq (k : Nat) (s : ByteArray) (hb : s.size ≤ 1000000) (hk : s.size < k) : letterboxref9_Colon.f k s 58 = some (cix s) := by
  unfold letterboxref9_Colon.f cix
  rw [show (0 : Int) = ((0 : Nat) : Int) from rfl, Colon_l0 s hb k 0 (by omega) (by omega), List.drop_zero]
  split
  · rename_i h; rw [h]
  · rw [show ((0 : Nat) : Int) = 0 from rfl, Int.zero_add]
theorem cut_colon (s : ByteArray) (hb : s.size ≤ 1000000) : strings_Cut.f s ⟨#[58]⟩ = some (if cix s = -1 then (s, ⟨#[]⟩, false) else (s.extract 0 (cix s).toNat, s.extract ((cix s).toNat + 1) s.size, true)) := by
  have hge := Lib.indexByte_ge s.data.toList 58
  have hlt := indexByte_lt s.data.toList 58
  have hsz := Lib.size_eq s
  unfold strings_Cut.f stringslite_Cut.f
  have hi : stringslite_Index.f s ⟨#[58]⟩ = some (cix s) := rfl
  have hone : ((⟨#[58]⟩ : ByteArray).size : Int) = 1 := rfl
  rw [hi, Option.bind_some, hone]
  unfold cix
  by_cases h : Lib.indexByte s.data.toList 58 = -1
  · rw [if_neg (by omega), if_pos h]
    rfl
  · rw [if_pos (by omega), if_pos (by omega), if_pos (by omega), w64 _ (by omega) (by omega), if_pos (by omega), if_pos (by omega), if_neg h, show (Lib.indexByte s.data.toList 58 + 1).toNat = (Lib.indexByte s.data.toList 58).toNat + 1 by omega]
    rfl
theorem contains_eq (s : ByteArray) (b : UInt8) (m : List UInt8) (h : s.data.toList = b :: m) : strings_ContainsAny.f (s.extract 0 1) ⟨#[32, 9]⟩ = some (blk b) := by
  have he : (s.extract 0 1).data.toList = [b] := by rw [extract_list, h]; rfl
  have hsz : (s.extract 0 1).size = 1 := by rw [Lib.size_eq, he]; rfl
  unfold strings_ContainsAny.f
  rw [if_pos ⟨by decide, by decide, by decide⟩, hsz, he]
  by_cases ha : b.toNat < 128
  · rw [if_pos ⟨by decide, by unfold asciiB; rw [he]; simpa using ha⟩]
    congr 1
    unfold Lib.containsAny Lib.indexAny
    show decide (0 ≤ if List.contains [32, 9] b = true then (0 : Int) else _) = blk b
    rw [contains_blk]
    by_cases hb : blk b = true
    · rw [if_pos hb, hb]; rfl
    · rw [if_neg hb, Bool.eq_false_iff.2 hb]
      rfl
  · rw [if_neg (by rintro ⟨_, h2⟩; unfold asciiB at h2; rw [he] at h2; simp at h2; omega), if_pos rfl]
    congr 1
    unfold blk
    have h1 : (b == 32) = false := by rw [beq_eq_false_iff_ne]; rintro rfl; exact ha (by decide)
    have h2 : (b == 9) = false := by rw [beq_eq_false_iff_ne]; rintro rfl; exact ha (by decide)
    rw [h1, h2]
    rfl
end Go.Proofs.YtlicjigofnbpjaaDoor.Pure
