/- What the reference's head functions compute, as plain lists (out of the head seat's texts). -/
import Derived.Test.YtfabaenfglionaaGreatDoorUidHead
import Derived.Test.YtfabaenfglionaaGreatDoorPx8
import Derived.Test.YtfabaenfglionaaGreatDoorUidParts
import Derived.Test.YtfabaenfglionaaGreatDoorPx9
import Derived.Test.YtfabaenfglionaaGreatDoorPx10
namespace Go.Proofs.YtfabaenfglionaaGreatDoor.Pure
open Go.RowKit Go.Proofs.YtfabaenfglionaaGreatDoor Go.Proofs.YtfabaenfglionaaGreatDoor.P Go.Proofs.YtfabaenfglionaaGreatDoor.Spec Go.Proofs.YtfabaenfglionaaGreatDoorW.PrintWords Go.Proofs.YtfabaenfglionaaGreatDoorW.PrintLast Go.Proofs.YtfabaenfglionaaGreatDoorW.PrintMore

theorem next_eq (l : List Int) (hl : l.length ≤ 1000000) : ∀ (k i : Nat), i ≤ l.length → l.length - i < k → letterboxref9_next.l0 k l i = some ((i + fl (l.drop i) : Nat) : Int)
  | 0, _, _, h => absurd h (by omega)
  | k + 1, i, hi, hk => by
    unfold letterboxref9_next.l0
    by_cases hlt : i < l.length
    · rw [if_pos (by omega), if_pos (by omega), rd_nat, drop_at hlt]
      by_cases hc : l.getD i 0 = 10
      · rw [if_pos hc, fl_ten hc, w64 _ (by omega) (by omega)]
        unfold mn
        rw [if_neg (by omega)]
        rfl
      · rw [if_neg hc, fl_other hc, w64 _ (by omega) (by omega), show ((i : Int) + 1) = ((i + 1 : Nat) : Int) from rfl, next_eq l hl k (i + 1) (by omega) (by omega)]
        congr 2
        omega
    · obtain rfl : i = l.length := by omega
      rw [if_neg (by omega), List.drop_length, w64 _ (by omega) (by omega)]
      unfold mn
      rw [if_pos (by omega)]
      rfl
theorem Text_j0 (k : Nat) (l : List Int) (hl : l.length ≤ 1000000) (b : Bool) (hb : b = true ↔ (l ≠ [] ∧ l.getD (l.length - 1) 0 = 10)) : letterboxref9_Text.j0 (k + 1) l b = some (txt l) := by
  have tail : ∀ y : List Int, y.length ≤ 1000000 → (if (y.length : Int) > 0 then (if 0 ≤ (wrap64 ((y.length : Int) - 1)) then (if (wrap64 ((y.length : Int) - 1)) < (y.length : Int) then (if (rd y (wrap64 ((y.length : Int) - 1))) = 13 then (if (wrap64 ((y.length : Int) - 1)) ≤ (y.length : Int) then (some (y.take ((wrap64 ((y.length : Int) - 1)) : Int).toNat)) else (none)) else (some y)) else (none)) else (none)) else (some y)) = some (strip 13 y) := by
    intro y hy
    by_cases h0 : y = []
    · subst h0
      rfl
    · have hp := List.length_pos_iff.2 h0
      rw [if_pos (by omega), w64 _ (by omega) (by omega), show ((y.length : Int) - 1) = ((y.length - 1 : Nat) : Int) by omega, if_pos (by omega), if_pos (by omega), rd_nat, strip_last h0]
      split
      · rw [if_pos (by omega), Int.toNat_natCast]
      · rfl
  rw [letterboxref9_Text.j0]
  by_cases h : b = true
  · obtain ⟨h0, h10⟩ := hb.1 h
    have hp := List.length_pos_iff.2 h0
    rw [if_pos h, w64 ((l.length : Int) - 1) (by omega) (by omega), if_pos (by omega), if_pos (by omega), Option.bind_some, tail _ (by rw [List.length_take]; omega)]
    unfold txt
    rw [strip_last h0 10, if_pos h10, show ((l.length : Int) - 1).toNat = l.length - 1 by omega]
  · rw [if_neg h, tail l hl]
    unfold txt
    by_cases h0 : l = []
    · subst h0; rfl
    · rw [strip_last h0 10, if_neg (fun h10 => h (hb.2 ⟨h0, h10⟩))]
theorem Text_eq (k : Nat) (l : List Int) (hl : l.length ≤ 1000000) (hk : 0 < k) : letterboxref9_Text.f k l = some (txt l) := by
  obtain ⟨k, rfl⟩ : ∃ j, k = j + 1 := ⟨k - 1, by omega⟩
  unfold letterboxref9_Text.f
  by_cases h0 : l = []
  · rw [if_neg (by simp [h0])]
    exact Text_j0 k l hl _ (by simp [h0])
  · have hp := List.length_pos_iff.2 h0
    rw [if_pos (by omega), w64 _ (by omega) (by omega), show ((l.length : Int) - 1) = ((l.length - 1 : Nat) : Int) by omega, if_pos (by omega), if_pos (by omega), rd_nat]
    exact Text_j0 k l hl _ (by simp [h0])
theorem RefSplit_l0 (l : List Int) (hl : l.length ≤ 1000000) : ∀ (k i : Nat) (acc : List (List Int)), i ≤ l.length → l.length - i + 1 < k → acc.length + (l.length - i) ≤ 1000000 → letterboxref9_Split.l0 k l acc i = some (acc ++ (lines (l.drop i)).map txt)
  | 0, _, _, _, h, _ => absurd h (by omega)
  | k + 1, i, acc, hi, hk, ha => by
    unfold letterboxref9_Split.l0
    by_cases hlt : i < l.length
    · have hne : l.drop i ≠ [] := by rw [drop_at hlt]; simp
      have hp := fl_pos hne
      have hle := fl_le (l.drop i)
      rw [List.length_drop] at hle
      rw [if_pos (by omega)]
      unfold letterboxref9_next.f
      rw [next_eq l hl k i hi (by omega), Option.bind_some, if_pos (by omega), if_pos (by omega), if_pos (by omega), Int.toNat_natCast, Int.toNat_natCast, piece_at, Text_eq _ _ (by rw [List.length_take, List.length_drop]; omega) (by omega), Option.bind_some, if_pos (by omega), RefSplit_l0 l hl k _ _ (by omega) (by omega) (by simp; omega), lines_ne hne, List.map_cons, List.drop_drop, List.append_assoc]
      rfl
    · obtain rfl : i = l.length := by omega
      rw [if_neg (by omega), List.drop_length, lines_nil, List.map_nil, List.append_nil]
theorem RefSplit_eq (k : Nat) (l : List Int) (hl : l.length ≤ 1000000) (hk : l.length + 1 < k) : letterboxref9_Split.f k l = some ((lines l).map txt) := by
  unfold letterboxref9_Split.f
  exact RefSplit_l0 l hl k 0 [] (by omega) (by omega) (by simp; omega)
theorem RefEnd_l0 (l : List Int) (hl : l.length ≤ 1000000) : ∀ (k i : Nat), i ≤ l.length → l.length - i + 1 < k → letterboxref9_End.l0 k l i = some ((i + upto (lines (l.drop i)) : Nat) : Int)
  | 0, _, _, h => absurd h (by omega)
  | k + 1, i, hi, hk => by
    unfold letterboxref9_End.l0
    by_cases hlt : i < l.length
    · have hne : l.drop i ≠ [] := by rw [drop_at hlt]; simp
      have hp := fl_pos hne
      have hle := fl_le (l.drop i)
      rw [List.length_drop] at hle
      rw [if_pos (by omega)]
      unfold letterboxref9_next.f
      rw [next_eq l hl k i hi (by omega), Option.bind_some, if_pos (by omega), if_pos (by omega), if_pos (by omega), Int.toNat_natCast, Int.toNat_natCast, piece_at, Text_eq _ _ (by rw [List.length_take, List.length_drop]; omega) (by omega), Option.bind_some, lines_ne hne]
      unfold upto
      by_cases ht : txt ((l.drop i).take (fl (l.drop i))) = []
      · rw [if_pos (by rw [ht]; rfl), if_pos ht, List.length_take, List.length_drop]
        congr 2
        omega
      · rw [if_neg (by intro h; exact ht (List.eq_nil_of_length_eq_zero (by omega))), if_neg ht, RefEnd_l0 l hl k _ (by omega) (by omega), List.length_take, List.length_drop, List.drop_drop]
        congr 2
        omega
    · obtain rfl : i = l.length := by omega
      rw [if_neg (by omega), List.drop_length, lines_nil]
      rfl
theorem RefEnd_eq (k : Nat) (l : List Int) (hl : l.length ≤ 1000000) (hk : l.length + 1 < k) : letterboxref9_End.f k l = some (hend l : Int) := by
  unfold letterboxref9_End.f
  rw [show (0 : Int) = ((0 : Nat) : Int) from rfl, RefEnd_l0 l hl k 0 (by omega) (by omega), Nat.zero_add]
  rfl
theorem RefHead_eq (k : Nat) (l : List Int) (hl : l.length ≤ 1000000) (hk : l.length + 1 < k) : letterboxref9_Head.f k l = some (l.take (hend l)) := by
  have := hend_le l
  unfold letterboxref9_Head.f
  rw [RefEnd_eq k l hl hk, Option.bind_some, if_pos (by omega), if_pos (by omega), Int.toNat_natCast]
theorem blank_eq (b : UInt8) : letterboxref9_blank.f (b.toNat : Int) = some (blk b) := by
  unfold letterboxref9_blank.f blk
  by_cases h : (b.toNat : Int) = 32
  · obtain rfl : b = 32 := UInt8.toNat_inj.1 (by simpa using (Int.ofNat_inj.1 h))
    rfl
  · rw [if_neg h]
    have h1 : (b == 32) = false := by
      rw [beq_eq_false_iff_ne]
      rintro rfl
      exact h rfl
    rw [h1, Bool.false_or]
    congr 1
    rw [Bool.eq_iff_iff, beq_iff_eq, beq_iff_eq]
    constructor
    · intro h; exact UInt8.toNat_inj.1 (by simpa using (Int.ofNat_inj.1 h))
    · rintro rfl; rfl
theorem RTrim_l1 : ∀ (k : Nat) (s : ByteArray), s.size < k → s.size ≤ 1000000 → letterboxref9_Trim.l1 k s = some ⟨(stripR s.data.toList).toArray⟩
  | 0, _, h, _ => absurd h (by omega)
  | k + 1, s, hk, hb => by
    unfold letterboxref9_Trim.l1
    have hsz := Lib.size_eq s
    rcases List.eq_nil_or_concat s.data.toList with h0 | ⟨m, x, h0⟩
    · rw [h0] at hsz
      have hz : s.size = 0 := hsz
      rw [if_neg (by omega), h0]
      congr 1
      exact ext_list (by rw [h0]; rfl)
    · rw [List.concat_eq_append] at h0
      rw [h0, List.length_append, List.length_singleton] at hsz
      have hx : s.data.toList[m.length]? = some x := by rw [h0, List.getElem?_append_right (Nat.le_refl _), Nat.sub_self]; rfl
      rw [if_pos (by omega), w64 _ (by omega) (by omega), show ((s.size : Int) - 1) = ((m.length : Nat) : Int) by omega, if_pos (by omega), if_pos (by omega), bt_nat s _ x hx, blank_eq, Option.bind_some]
      have hr : stripR (m ++ [x]) = if blk x then stripR m else m ++ [x] := by
        unfold stripR
        rw [List.reverse_append]
        show (List.dropWhile blk (x :: m.reverse)).reverse = _
        by_cases hbx : blk x = true
        · simp [List.dropWhile, hbx]
        · simp [List.dropWhile, hbx]
      rw [h0, hr]
      by_cases hbx : blk x = true
      · have he : (s.extract 0 m.length).data.toList = m := by
          rw [extract_list, h0, List.drop_zero, List.take_left']
          rfl
        have hes : (s.extract 0 m.length).size = m.length := by rw [Lib.size_eq, he]
        rw [if_pos hbx, if_pos hbx, if_pos (by omega), Int.toNat_natCast, RTrim_l1 k _ (by omega) (by omega), he]
      · rw [if_neg hbx, if_neg hbx]
        congr 1
        exact ext_list h0
theorem RTrim_l0 : ∀ (k : Nat) (s : ByteArray), s.size + s.size + 3 < k → s.size ≤ 1000000 → letterboxref9_Trim.l0 k s = some (trimB s)
  | 0, _, h, _ => absurd h (by omega)
  | k + 1, s, hk, hb => by
    have fin : letterboxref9_Trim.j1 k s = some ⟨(stripR s.data.toList).toArray⟩ := by
      obtain ⟨k, rfl⟩ : ∃ j, k = j + 1 := ⟨k - 1, by omega⟩
      unfold letterboxref9_Trim.j1
      exact RTrim_l1 k s (by omega) hb
    unfold letterboxref9_Trim.l0
    have hsz := Lib.size_eq s
    cases h0 : s.data.toList with
    | nil =>
      rw [h0] at hsz fin
      have hz : s.size = 0 := hsz
      rw [if_neg (by omega), fin]
      congr 1
      exact ext_list (by rw [trimB_list, h0]; rfl)
    | cons x m =>
      rw [h0, List.length_cons] at hsz
      have hx : s.data.toList[0]? = some x := by rw [h0]; rfl
      rw [if_pos (by omega), if_pos (by omega), show (0 : Int) = ((0 : Nat) : Int) from rfl, bt_nat s _ x hx, blank_eq, Option.bind_some]
      by_cases hbx : blk x = true
      · have he : (s.extract 1 s.size).data.toList = m := by
          rw [extract_list, Lib.size_eq, List.take_length, h0]
          rfl
        have hes : (s.extract 1 s.size).size = m.length := by rw [Lib.size_eq, he]
        rw [if_pos hbx, if_pos (by omega), RTrim_l0 k _ (by omega) (by omega)]
        congr 1
        refine ext_list ?_
        rw [trimB_list, trimB_list, he, h0]
        simp [List.dropWhile, hbx]
      · rw [if_neg hbx, fin]
        congr 1
        refine ext_list ?_
        rw [trimB_list, h0]
        simp [List.dropWhile, hbx]
theorem RTrim_eq (k : Nat) (s : ByteArray) (hk : s.size + s.size + 3 < k) (hb : s.size ≤ 1000000) : letterboxref9_Trim.f k s = some (trimB s) := RTrim_l0 k s hk hb
theorem Colon_l0 (s : ByteArray) (hb : s.size ≤ 1000000) : ∀ (k i : Nat), i ≤ s.size → s.size - i < k → letterboxref9_Colon.l0 k s 58 i = some (if Lib.indexByte (s.data.toList.drop i) 58 = -1 then -1 else i + Lib.indexByte (s.data.toList.drop i) 58)
  | 0, _, _, h => absurd h (by omega)
  | k + 1, i, hi, hk => by
    unfold letterboxref9_Colon.l0
    have hsz := Lib.size_eq s
    by_cases hlt : i < s.size
    · have hlt2 : i < s.data.toList.length := by omega
      have hd := List.drop_eq_getElem_cons hlt2
      have hx : s.data.toList[i]? = some s.data.toList[i] := List.getElem?_eq_getElem hlt2
      have hge := Lib.indexByte_ge (s.data.toList.drop (i + 1)) 58
      rw [if_pos (by omega), if_pos (by omega), bt_nat s i _ hx, hd]
      unfold Lib.indexByte
      by_cases hc : s.data.toList[i] = 58
      · rw [hc]
        simp
      · have hne : (s.data.toList[i] == 58) = false := beq_eq_false_iff_ne.2 hc
        have hne2 : ¬ ((s.data.toList[i].toNat : Int) = 58) := by
          intro h
          exact hc (UInt8.toNat_inj.1 (by simpa using (Int.ofNat_inj.1 h)))
        rw [if_neg hne2, hne, w64 _ (by omega) (by omega), show ((i : Int) + 1) = ((i + 1 : Nat) : Int) from rfl, Colon_l0 s hb k (i + 1) (by omega) (by omega)]
        by_cases hm : Lib.indexByte (s.data.toList.drop (i + 1)) 58 = -1
        · rw [if_pos hm, hm]
          rfl
        · have hm2 : (Lib.indexByte (s.data.toList.drop (i + 1)) 58 == -1) = false := beq_eq_false_iff_ne.2 hm
          simp only [hm2, Bool.false_eq_true, if_false]
          rw [if_neg hm, if_neg (by omega)]
          congr 1
          omega
    · obtain rfl : i = s.size := by omega
      rw [if_neg (by omega), hsz, List.drop_length]
      rfl
theorem Colon_eq (k : Nat) (s : ByteArray) (hb : s.size ≤ 1000000) (hk : s.size < k) : letterboxref9_Colon.f k s 58 = some (cix s) := by
  unfold letterboxref9_Colon.f cix
  rw [show (0 : Int) = ((0 : Nat) : Int) from rfl, Colon_l0 s hb k 0 (by omega) (by omega), List.drop_zero]
  split
  · rename_i h; rw [h]
  · rw [show ((0 : Nat) : Int) = 0 from rfl, Int.zero_add]
theorem RFields_l0 (ts : List (List Int)) (N : Nat) (hN : ∀ t ∈ ts, t.length ≤ N) (hn : ts.length ≤ 100000) (hNb : N ≤ 100000) : ∀ (k i : Nat) (st : St) (B : Nat), i ≤ ts.length → 2 * (ts.length - i) + 2 * N + 10 < k → st.1.length + (ts.length - i) ≤ 200000 → (∀ f ∈ st.1, f.f1.size ≤ B) → B + (ts.drop i).flatten.length + (ts.length - i) ≤ 1000000 → (st.2 = true → st.1 ≠ []) →
    letterboxref9_Fields.l0 k st.1 st.2 ts (i : Int) = some (fgoR (ts.drop i) st)
  | 0, _, _, _, _, h, _, _, _, _ => absurd h (by omega)
  | 1, _, _, _, _, h, _, _, _, _ => absurd h (by omega)
  | k + 2, i, st, B, hi, hk, hlen, hB, hsum, ho => by
    unfold letterboxref9_Fields.l0
    by_cases hlt : i < ts.length
    · have hf := flat_at hlt
      have hNt := hN _ (getD_mem hlt)
      rw [if_pos (by omega), if_pos (by omega)]
      unfold letterboxref9_Fields.j1
      rw [rd_L1_nat, drop_atL hlt]
      unfold fgoR
      generalize ts.getD i [] = t at hNt hf
      have hss : (strOfNums t).size = t.length := by simp [strOfNums, ByteArray.size]
      have next : ∀ (st' : St) (B' : Nat), (∀ f ∈ st'.1, f.f1.size ≤ B') → B' + (ts.drop (i + 1)).flatten.length + (ts.length - (i + 1)) ≤ 1000000 → st'.1.length ≤ st.1.length + 1 → (st'.2 = true → st'.1 ≠ []) → letterboxref9_Fields.l0 k st'.1 st'.2 ts ((i : Int) + 1) = some (fgoR (ts.drop (i + 1)) st') := fun st' B' h1 h2 h3 h4 =>
        RFields_l0 ts N hN hn hNb k (i + 1) st' B' (by omega) (by omega) (by omega) h1 h2 h4
      by_cases ht : t = []
      · rw [if_neg (by simp [ht]), if_pos ht]
      · have hsl := str_list ht
        have htp := List.length_pos_iff.2 ht
        have htr := trimB_le (strOfNums t)
        have hb0 : (strOfNums t).data.toList[0]? = some (first t) := by rw [hsl]; rfl
        rw [if_pos (by simpa using htp), if_neg ht, if_pos (by omega), if_pos (by omega), if_pos (by omega), show (0 : Int) = ((0 : Nat) : Int) from rfl, bt_nat _ 0 _ hb0, blank_eq, Option.bind_some, w64 ((i : Int) + 1) (by omega) (by omega)]
        have nx := next (fstep st t) (B + t.length + 1) (fstep_le hB ho) (by omega) (fstep_len st t) (fstep_open ho)
        by_cases hbl : blk (first t) = true
        · rw [if_pos hbl]
          by_cases hop : st.2 = true
          · have hne := List.length_pos_iff.2 (ho hop)
            have hg := getD_le hB (st.1.length - 1) (by omega)
            have hstep : fstep st t = (st.1.set (st.1.length - 1) ⟨(st.1.getD (st.1.length - 1) z106).f0, (st.1.getD (st.1.length - 1) z106).f1 ++ ((⟨#[32]⟩ : ByteArray) ++ trimB (strOfNums t))⟩, true) := by
              unfold fstep
              rw [if_pos hbl, if_pos hop]
            rw [if_pos hop, w64 _ (by omega) (by omega), show ((st.1.length : Int) - 1) = ((st.1.length - 1 : Nat) : Int) by omega, if_pos (by omega), if_pos (by omega), rd_TF_nat, if_pos (by omega), RTrim_eq _ _ (by omega) (by omega), Option.bind_some, if_pos (by omega), Int.toNat_natCast, ByteArray.append_assoc]
            rw [hstep] at nx ⊢
            rw [hop]
            exact nx
          · have hstep : fstep st t = (st.1, false) := by
              unfold fstep
              rw [if_pos hbl, if_neg hop]
            rw [if_neg hop]
            rw [hstep] at nx ⊢
            rw [Bool.eq_false_iff.2 hop]
            exact nx
        · have hge := Lib.indexByte_ge (strOfNums t).data.toList 58
          have hcl := indexByte_lt (strOfNums t).data.toList 58
          have hse := Lib.size_eq (strOfNums t)
          rw [if_neg hbl, Colon_eq _ _ (by omega) (by omega), Option.bind_some]
          by_cases hc : cix (strOfNums t) = -1
          · have hstep : fstep st t = (st.1, false) := by
              unfold fstep
              rw [if_neg hbl, if_pos hc]
            rw [hc, if_neg (by decide)]
            rw [hstep] at nx ⊢
            exact nx
          · have hstep : fstep st t = (st.1 ++ [⟨trimB ((strOfNums t).extract 0 (cix (strOfNums t)).toNat), trimB ((strOfNums t).extract ((cix (strOfNums t)).toNat + 1) (strOfNums t).size)⟩], true) := by
              unfold fstep
              rw [if_neg hbl, if_neg hc]
            have e1 : ((strOfNums t).extract 0 (cix (strOfNums t)).toNat).size ≤ (strOfNums t).size := by
              rw [Lib.size_eq, Lib.size_eq, extract_list, List.length_drop, List.length_take]
              omega
            have e2 : ((strOfNums t).extract ((cix (strOfNums t)).toNat + 1) (strOfNums t).size).size ≤ (strOfNums t).size := by
              rw [Lib.size_eq, Lib.size_eq, extract_list, List.length_drop, List.length_take]
              omega
            have hcx : (0 : Int) ≤ cix (strOfNums t) ∧ cix (strOfNums t) < (strOfNums t).size := by
              unfold cix at hc ⊢
              omega
            rw [if_pos (by omega), if_pos (by omega), if_pos (by omega), RTrim_eq _ _ (by omega) (by omega), Option.bind_some, w64 _ (by omega) (by omega), if_pos (by omega), if_pos (by omega), show (cix (strOfNums t) + 1).toNat = (cix (strOfNums t)).toNat + 1 by omega, RTrim_eq _ _ (by omega) (by omega), Option.bind_some, if_pos (by omega), decide_eq_true (show cix (strOfNums t) ≥ ((0 : Nat) : Int) by omega)]
            rw [hstep] at nx ⊢
            exact nx
    · obtain rfl : i = ts.length := by omega
      rw [if_neg (by omega), List.drop_length]
      rfl
theorem RFields_eq (k : Nat) (l : List Int) (hl : l.length ≤ 50000) (hk : 4 * l.length + 20 < k) : letterboxref9_Fields.f k l = some (fields l) := by
  have h1 := hend_le l
  have ht : (l.take (hend l)).length ≤ l.length := by rw [List.length_take]; omega
  have h2 := lines_length_le (l.take (hend l))
  have h3 := texts_flat l
  have h4 : (texts l).length ≤ l.length := by unfold texts; rw [← lines_head, List.length_map]; omega
  unfold letterboxref9_Fields.f
  rw [RefHead_eq k l (by omega) (by omega), Option.bind_some, RefSplit_eq k _ (by omega) (by omega), Option.bind_some, lines_head]
  have := RFields_l0 (texts l) l.length (fun t h => Nat.le_trans (mem_flat_le h) h3) (by omega) (by omega) k 0 ([], false) 0 (by omega) (by omega) (by simp only [List.length_nil]; omega) (fun f hf => by cases hf) (by rw [List.drop_zero]; omega) (fun h => by cases h)
  rw [List.drop_zero] at this
  unfold fields texts
  rw [← fgo_heads]
  exact this
theorem RSame_eq (a b : ByteArray) (ha : a.size ≤ 9223372036854775807) (hb : b.size ≤ 9223372036854775807) : letterboxref9_Same.f a b = some (same a b) := by
  unfold letterboxref9_Same.f letterboxref9_Low.f
  rw [if_pos ha, Option.bind_some, if_pos hb, Option.bind_some, Lib.toList_data, Lib.toList_data, lowB_list, lowB_list]
  rfl
theorem RGet_l0 (name : ByteArray) (hnm : name.size ≤ 9223372036854775807) (F : List S106) (N : Nat) (hF : ∀ f ∈ F, f.f0.size ≤ N) (hN : N ≤ 100000) (hn : F.length ≤ 1000000) : ∀ (k i : Nat), i ≤ F.length → F.length - i < k → letterboxref9_Get.l0 k name F i = some (fget name (F.drop i))
  | 0, _, _, h => absurd h (by omega)
  | k + 1, i, hi, hk => by
    unfold letterboxref9_Get.l0
    by_cases hlt : i < F.length
    · have := hF _ (getD_F hlt)
      rw [if_pos (by omega), if_pos (by omega), rd_TF_nat, RSame_eq _ _ (by omega) hnm, Option.bind_some, drop_F hlt]
      unfold fget
      by_cases h : same (F.getD i z106).f0 name = true
      · rw [if_pos h, if_pos h]
      · rw [if_neg h, if_neg h, w64 _ (by omega) (by omega)]
        exact RGet_l0 name hnm F N hF hN hn k (i + 1) (by omega) (by omega)
    · obtain rfl : i = F.length := by omega
      rw [if_neg (by omega), List.drop_length]
      rfl
theorem RGet_eq (k : Nat) (l : List Int) (name : ByteArray) (hnm : name.size ≤ 9223372036854775807) (hl : l.length ≤ 50000) (hk : 4 * l.length + 20 < k) : letterboxref9_Get.f k l name = some (fget name (fields l)) := by
  have h := fields_ok l
  unfold letterboxref9_Get.f
  rw [RFields_eq k l hl hk, Option.bind_some, show (0 : Int) = ((0 : Nat) : Int) from rfl, RGet_l0 name hnm (fields l) l.length h.1 (by omega) (by omega) k 0 (by omega) (by omega), List.drop_zero]
end Go.Proofs.YtfabaenfglionaaGreatDoor.Pure
namespace Go.Proofs.YtfabaenfglionaaGreatDoor.Pure
open Go.RowKit Go.Proofs.YtfabaenfglionaaGreatDoor Go.Proofs.YtfabaenfglionaaGreatDoor.P Go.Proofs.YtfabaenfglionaaGreatDoor.Spec Go.Proofs.YtfabaenfglionaaGreatDoorW.PrintWords Go.Proofs.YtfabaenfglionaaGreatDoorW.PrintLast Go.Proofs.YtfabaenfglionaaGreatDoorW.PrintMore

theorem ColonC_l0 (c : UInt8) (s : ByteArray) (hb : s.size ≤ 1000000) : ∀ (k i : Nat), i ≤ s.size → s.size - i < k → letterboxref9_Colon.l0 k s (c.toNat : Int) i = some (if Lib.indexByte (s.data.toList.drop i) c = -1 then -1 else i + Lib.indexByte (s.data.toList.drop i) c)
  | 0, _, _, h => absurd h (by omega)
  | k + 1, i, hi, hk => by
    unfold letterboxref9_Colon.l0
    have hsz := Lib.size_eq s
    by_cases hlt : i < s.size
    · have hlt2 : i < s.data.toList.length := by omega
      have hd := List.drop_eq_getElem_cons hlt2
      have hx : s.data.toList[i]? = some s.data.toList[i] := List.getElem?_eq_getElem hlt2
      have hge := Lib.indexByte_ge (s.data.toList.drop (i + 1)) c
      rw [if_pos (by omega), if_pos (by omega), bt_nat s i _ hx, hd]
      unfold Lib.indexByte
      by_cases hc : s.data.toList[i] = c
      · rw [hc]
        simp
      · have hne : (s.data.toList[i] == c) = false := beq_eq_false_iff_ne.2 hc
        have hne2 : ¬ ((s.data.toList[i].toNat : Int) = (c.toNat : Int)) := by
          intro h
          exact hc (UInt8.toNat_inj.1 (by simpa using (Int.ofNat_inj.1 h)))
        rw [if_neg hne2, hne, w64 _ (by omega) (by omega), show ((i : Int) + 1) = ((i + 1 : Nat) : Int) from rfl, ColonC_l0 c s hb k (i + 1) (by omega) (by omega)]
        by_cases hm : Lib.indexByte (s.data.toList.drop (i + 1)) c = -1
        · rw [if_pos hm, hm]
          rfl
        · have hm2 : (Lib.indexByte (s.data.toList.drop (i + 1)) c == -1) = false := beq_eq_false_iff_ne.2 hm
          simp only [hm2, Bool.false_eq_true, if_false]
          rw [if_neg hm, if_neg (by omega)]
          congr 1
          omega
    · obtain rfl : i = s.size := by omega
      rw [if_neg (by omega), hsz, List.drop_length]
      rfl
theorem ColonC_eq (c : UInt8) (k : Nat) (s : ByteArray) (hb : s.size ≤ 1000000) (hk : s.size < k) : letterboxref9_Colon.f k s (c.toNat : Int) = some (Lib.indexByte s.data.toList c) := by
  unfold letterboxref9_Colon.f
  rw [show (0 : Int) = ((0 : Nat) : Int) from rfl, ColonC_l0 c s hb k 0 (by omega) (by omega), List.drop_zero]
  split
  · rename_i h; rw [h]
  · rw [show ((0 : Nat) : Int) = 0 from rfl, Int.zero_add]
theorem pieces_l0 (c : UInt8) : ∀ (k : Nat) (l : List UInt8) (acc : List ByteArray), l.length ≤ 100000 → acc.length + l.length ≤ 1000000 → 2 * l.length + 2 < k → letterboxref10_pieces.l0 k (mk l) (c.toNat : Int) acc = some (acc ++ (cuts c l).map mk)
  | 0, _, _, _, _, h => absurd h (by omega)
  | k + 1, l, acc, hl, ha, hk => by
    have hs := mk_size l
    unfold letterboxref10_pieces.l0
    rw [ColonC_eq c k (mk l) (by omega) (by omega), Option.bind_some, mk_list]
    by_cases hm : c ∈ l
    · obtain ⟨x, r, rfl, hx⟩ := split_at c l hm
      have hll : (x ++ c :: r).length = x.length + (r.length + 1) := by simp
      rw [ix_in c x r hx, if_neg (by omega), if_pos (by omega), if_pos (by omega), if_pos (by omega), w64 _ (by omega) (by omega), if_pos (by omega), if_pos (by omega), ext_tail x r c _ (by omega), ext_head x (c :: r) _ (by omega), pieces_l0 c k r _ (by omega) (by rw [List.length_append, List.length_singleton]; omega) (by omega), cuts_in c x r hx, List.append_assoc]
      rfl
    · rw [ix_out c l hm, if_pos (by decide), if_pos (by omega), cuts_out c l hm]
      rfl
def cut1 (c : UInt8) : List UInt8 → Option (List UInt8 × List UInt8)
  | [] => none
  | b :: l => if b = c then some ([], l) else (cut1 c l).map fun q => (b :: q.1, q.2)
theorem cut1_out (c : UInt8) : ∀ l : List UInt8, ¬ c ∈ l → cut1 c l = none
  | [], _ => rfl
  | b :: l, h => by
    rw [List.mem_cons, not_or] at h
    unfold cut1
    rw [if_neg (fun e => h.1 e.symm), cut1_out c l h.2]
    rfl
theorem cut1_in (c : UInt8) : ∀ x r : List UInt8, ¬ c ∈ x → cut1 c (x ++ c :: r) = some (x, r)
  | [], r, _ => by
    rw [List.nil_append]
    unfold cut1
    rw [if_pos rfl]
  | b :: x, r, h => by
    rw [List.mem_cons, not_or] at h
    rw [List.cons_append]
    unfold cut1
    rw [if_neg (fun e => h.1 e.symm), cut1_in c x r h.2]
    rfl
def bw : ByteArray := ⟨#[98, 111, 117, 110, 100, 97, 114, 121]⟩
def unq (v : ByteArray) : ByteArray := if 2 ≤ v.size ∧ bt v 0 = 34 ∧ bt v ((v.size : Int) - 1) = 34 then v.extract 1 (v.size - 1) else v
def bnd1 (s : ByteArray) : Option ByteArray := match cut1 61 s.data.toList with
  | none => none
  | some q => if same (trimB (mk q.1)) bw = true then some (unq (trimB (mk q.2))) else none
def bnds : List ByteArray → ByteArray
  | [] => ⟨#[]⟩
  | s :: r => match bnd1 s with
    | some v => v
    | none => bnds r
theorem bnd1_out {s : ByteArray} (h : ¬ (61 : UInt8) ∈ s.data.toList) : bnd1 s = none := by
  unfold bnd1
  rw [cut1_out 61 _ h]
theorem bnd1_in {s : ByteArray} {x r : List UInt8} (e : s.data.toList = x ++ 61 :: r) (h : ¬ (61 : UInt8) ∈ x) : bnd1 s = if same (trimB (mk x)) bw = true then some (unq (trimB (mk r))) else none := by
  unfold bnd1
  rw [e, cut1_in 61 x r h]
theorem prefix_eq (v : ByteArray) (h : 2 ≤ v.size) : strings_HasPrefix.f v ⟨#[34]⟩ = some (decide (bt v 0 = 34)) := by
  have h1 : (⟨#[34]⟩ : ByteArray).size = 1 := rfl
  have hs := Lib.size_eq v
  obtain ⟨a, l, hl⟩ : ∃ a l, v.data.toList = a :: l := by
    cases hv : v.data.toList with
    | nil =>
      rw [hv, List.length_nil] at hs
      omega
    | cons a l => exact ⟨a, l, rfl⟩
  have hb : bt v 0 = (a.toNat : Int) := bt_nat v 0 a (by rw [hl]; rfl)
  unfold strings_HasPrefix.f stringslite_HasPrefix.f
  rw [h1, if_pos (by omega), if_pos (by omega), if_pos (by omega), Option.bind_some, hb]
  congr 1
  rw [Bool.eq_iff_iff, beq_iff_eq, decide_eq_true_eq, Lib.toList_data, extract_list, hl, show (((1 : Nat) : Int)).toNat = 1 from rfl, Lib.toList_data]
  show ([a] : List UInt8) = [34] ↔ _
  constructor
  · intro h
    rw [(List.cons.inj h).1]
    rfl
  · intro h
    have : a = 34 := UInt8.toNat_inj.1 (by simpa using (Int.ofNat_inj.1 h))
    rw [this]
theorem suffix_eq (v : ByteArray) (h : 2 ≤ v.size) (hv : v.size ≤ 1000000) : strings_HasSuffix.f v ⟨#[34]⟩ = some (decide (bt v ((v.size : Int) - 1) = 34)) := by
  have h1 : (⟨#[34]⟩ : ByteArray).size = 1 := rfl
  have hs := Lib.size_eq v
  have hlt : v.size - 1 < v.data.toList.length := by omega
  have hb : bt v ((v.size : Int) - 1) = (v.data.toList[v.size - 1].toNat : Int) := by
    rw [show ((v.size : Int) - 1) = ((v.size - 1 : Nat) : Int) by omega]
    exact bt_nat v _ _ (List.getElem?_eq_getElem hlt)
  unfold strings_HasSuffix.f stringslite_HasSuffix.f
  rw [h1, if_pos (by omega), w64 _ (by omega) (by omega), if_pos (by omega), if_pos (by omega), Option.bind_some, hb]
  congr 1
  rw [Bool.eq_iff_iff, beq_iff_eq, decide_eq_true_eq, Lib.toList_data, extract_list, List.take_of_length_le (by omega), show ((v.size : Int) - ((1 : Nat) : Int)).toNat = v.size - 1 by omega, List.drop_eq_getElem_cons hlt, List.drop_eq_nil_of_le (by omega), Lib.toList_data]
  show ([v.data.toList[v.size - 1]] : List UInt8) = [34] ↔ _
  constructor
  · intro h
    rw [(List.cons.inj h).1]
    rfl
  · intro h
    have : v.data.toList[v.size - 1] = 34 := UInt8.toNat_inj.1 (by simpa using (Int.ofNat_inj.1 h))
    rw [this]
theorem bounded_eq (L : List ByteArray) (B : Nat) (hB : ∀ s ∈ L, s.size ≤ B) (hBl : B ≤ 100000) (hn : L.length ≤ 200000) : ∀ (k i : Nat), i ≤ L.length → 2 * (L.length - i) + B + 3 < k → mime_bounded.l0 k L L.length i = some (bnds (L.drop i))
  | 0, _, _, h => absurd h (by omega)
  | 1, _, _, h => absurd h (by omega)
  | k + 2, i, hi, hk => by
    unfold mime_bounded.l0
    by_cases hlt : i < L.length
    · have hs := getD_B hB i hlt
      have hd : L.drop i = L.getD i ByteArray.empty :: L.drop (i + 1) := by
        rw [List.drop_eq_getElem_cons hlt, List.getD_eq_getElem?_getD, List.getElem?_eq_getElem hlt]
        rfl
      rw [if_pos (by omega), if_pos (by omega), if_pos (by omega), rdOf_nat, hd]
      unfold bnds
      generalize L.getD i ByteArray.empty = s at hs
      have hw : wrap64 ((i : Int) + 1) = ((i + 1 : Nat) : Int) := w64 _ (by omega) (by omega)
      have next : mime_bounded.l0 k L L.length ((i + 1 : Nat) : Int) = some (bnds (L.drop (i + 1))) := bounded_eq L B hB hBl hn k (i + 1) (by omega) (by omega)
      by_cases hm : (61 : UInt8) ∈ s.data.toList
      · obtain ⟨x, r, hl, hx⟩ := split_at 61 _ hm
        have hsz := Lib.size_eq s
        rw [hl, List.length_append, List.length_cons] at hsz
        have e : s = mk (x ++ 61 :: r) := by rw [← hl, mk_self]
        have hxs := mk_size x
        have hrs := mk_size r
        have ht := trimB_le (mk x)
        rw [bnd1_in hl hx]
        rw [e, cut_in 61 x r hx (by omega), Option.bind_some]
        dsimp only
        rw [if_pos rfl, trim_eq _ (by omega), Option.bind_some, USame_eq (k + 1) _ _ (by omega) (by omega), Option.bind_some]
        rw [mime_bounded.j1, show (⟨#[98, 111, 117, 110, 100, 97, 114, 121]⟩ : ByteArray) = bw from rfl]
        by_cases hb : same (trimB (mk x)) bw = true
        · have ht2 := trimB_le (mk r)
          rw [if_neg (by rw [hb]; decide), trim_eq _ (by omega), Option.bind_some, if_pos hb]
          generalize trimB (mk r) = v at ht2
          simp only
          unfold unq
          by_cases h2 : 2 ≤ v.size
          · rw [if_pos (by omega), prefix_eq v h2, Option.bind_some, suffix_eq v h2 (by omega), w64 _ (by omega) (by omega)]
            by_cases h3 : bt v 0 = 34
            · rw [if_pos (decide_eq_true h3), Option.bind_some]
              by_cases h4 : bt v ((v.size : Int) - 1) = 34
              · rw [if_pos (decide_eq_true h4), if_pos (by omega), if_pos (by omega), if_pos ⟨h2, h3, h4⟩, show ((v.size : Int) - 1).toNat = v.size - 1 by omega]
              · rw [if_neg (by simpa using h4), if_neg (fun h => h4 h.2.2)]
            · rw [if_neg (by simpa using h3), if_neg (fun h => h3 h.2.1)]
          · rw [if_neg (by omega), if_neg (fun h => h2 h.1)]
        · rw [if_pos (by simpa using hb), if_neg hb, hw]
          exact next
      · rw [bnd1_out hm]
        rw [show s = mk s.data.toList from (mk_self s).symm, cut_out 61 _ hm, Option.bind_some]
        dsimp only
        rw [if_neg Bool.false_ne_true]
        rw [mime_bounded.j1, if_pos rfl, hw]
        exact next
    · rw [if_neg (by omega), List.drop_eq_nil_of_le (by omega)]
      rfl
def tm (p : ByteArray) : ByteArray × ByteArray := match cut1 47 (lowB (trimB p)).data.toList with
  | none => (⟨#[116, 101, 120, 116]⟩, ⟨#[112, 108, 97, 105, 110]⟩)
  | some q => if q.1 = [] ∨ q.2 = [] then (⟨#[116, 101, 120, 116]⟩, ⟨#[112, 108, 97, 105, 110]⟩) else (mk q.1, mk q.2)
def typ (v : ByteArray) : ByteArray × ByteArray × ByteArray := match (cuts 59 v.data.toList).map mk with
  | [] => (⟨#[]⟩, ⟨#[]⟩, ⟨#[]⟩)
  | p :: ps => ((tm p).1, (tm p).2, bnds ps)
theorem lowB_size (s : ByteArray) : (lowB s).size = s.size := by rw [Lib.size_eq, Lib.size_eq, lowB_list, List.length_map]
theorem Type_eq (k : Nat) (l : List Int) (hb : Byt l) (hl : l.length ≤ 20000) (hk : 8 * l.length + 20 < k) : mime_Type.f k l = some (typ (fget ctype (fields l)).1) := by
  have hv := fget_le (name := ctype) (fields_f1 l)
  unfold mime_Type.f
  rw [show (⟨#[99, 111, 110, 116, 101, 110, 116, 45, 116, 121, 112, 101]⟩ : ByteArray) = ctype from rfl, UGet_eq k l ctype hb (by omega) (by omega), Option.bind_some]
  generalize (fget ctype (fields l)).1 = v at hv
  have hvs := Lib.size_eq v
  have hlen := cuts_len 59 v.data.toList
  have hle := cuts_le 59 v.data.toList
  have hS : strings_Split.f k v ⟨#[59]⟩ = some ((cuts 59 v.data.toList).map mk) := by
    have := Split_eq k 59 v.data.toList (by omega) (by omega)
    rwa [mk_self] at this
  rw [hS, Option.bind_some]
  unfold typ
  obtain ⟨p, ps, hp⟩ : ∃ p ps, cuts 59 v.data.toList = p :: ps := by
    cases h : cuts 59 v.data.toList with
    | nil => exact absurd h (cuts_ne _ _)
    | cons p ps => exact ⟨p, ps, rfl⟩
  rw [hp] at hlen hle
  rw [hp, List.map_cons]
  rw [List.length_cons] at hlen
  have hB : ∀ s ∈ ps.map mk, s.size ≤ 2 * l.length := by
    intro s hs
    obtain ⟨x, hx, rfl⟩ := List.mem_map.1 hs
    have := hle x (List.mem_cons_of_mem _ hx)
    rw [mk_size]
    omega
  have hpm : (ps.map mk).length = ps.length := List.length_map ..
  have ho : mime_bounded.l0 k (ps.map mk) (ps.map mk).length ((0 : Nat) : Int) = some (bnds ((ps.map mk).drop 0)) := bounded_eq (ps.map mk) (2 * l.length) hB (by omega) (by omega) k 0 (by omega) (by omega)
  rw [List.drop_zero] at ho
  have ho2 : mime_bounded.f k (List.drop 1 (mk p :: ps.map mk)) = some (bnds (ps.map mk)) := ho
  have hps := hle p List.mem_cons_self
  have hms := mk_size p
  have htr := trimB_le (mk p)
  have hpos : (0 : Int) < ((mk p :: ps.map mk).length : Int) := by rw [List.length_cons]; omega
  rw [if_pos (by omega), ho2, Option.bind_some, if_pos hpos]
  rw [show rdOf ByteArray.empty (mk p :: ps.map mk) 0 = mk p from rfl, trim_eq _ (by omega), Option.bind_some]
  unfold mime_small.f
  rw [if_pos (by omega), Option.bind_some]
  have hlb := lowB_size (trimB (mk p))
  simp only [tm]
  generalize lowB (trimB (mk p)) = q at hlb
  have hqs := Lib.size_eq q
  by_cases hm : (47 : UInt8) ∈ q.data.toList
  · obtain ⟨x, r, hxr, hx⟩ := split_at 47 _ hm
    have e : q = mk (x ++ 47 :: r) := by rw [← hxr, mk_self]
    rw [hxr, List.length_append, List.length_cons] at hqs
    rw [hxr, cut1_in 47 x r hx, e, cut_in 47 x r hx (by omega), Option.bind_some]
    simp only [Lib.toList_data, mk_list]
    by_cases h1 : x = []
    · rw [if_pos h1, if_pos (.inl h1)]
    · by_cases h2 : r = []
      · rw [if_neg h1, if_pos h2, if_pos (.inr h2)]
      · rw [if_neg h1, if_neg h2, if_neg (by rintro (h | h); exact h1 h; exact h2 h)]
  · have e : strings_Cut.f q ⟨#[47]⟩ = some (q, ⟨#[]⟩, false) := by
      have := cut_out 47 _ hm
      rwa [mk_self] at this
    rw [cut1_out 47 _ hm, e, Option.bind_some]
    split
    · rfl
    · rw [if_pos (by rw [Lib.toList_data])]
end Go.Proofs.YtfabaenfglionaaGreatDoor.Pure
namespace Go.Proofs.YtfabaenfglionaaGreatDoor.Pure
open Go.RowKit Go.Proofs.YtfabaenfglionaaGreatDoor Go.Proofs.YtfabaenfglionaaGreatDoor.P Go.Proofs.YtfabaenfglionaaGreatDoor.Spec Go.Proofs.YtfabaenfglionaaGreatDoorW.PrintWords Go.Proofs.YtfabaenfglionaaGreatDoorW.PrintLast Go.Proofs.YtfabaenfglionaaGreatDoorW.PrintMore

theorem RType_l0 (L : List ByteArray) (s : ByteArray) (K : Int) (m n : ByteArray) (N : Nat) (hN : ∀ x ∈ L, x.size ≤ N) (hNb : N ≤ 100000) (hL : L.length ≤ 200000) (hfin : ∀ (k : Nat) (x : ByteArray), letterboxref10_Type.l0 (k + 1) L s K x 0 = some (m, n, x)) :
    ∀ (i k : Nat), i < L.length → 2 * i + 2 * N + 10 < k → letterboxref10_Type.l0 k L s K (bnds (L.drop (i + 1))) (i : Int) = some (m, n, bnds (L.drop 1))
  | 0, k, _, hk => by
    obtain ⟨k, rfl⟩ : ∃ j, k = j + 1 := ⟨k - 1, by omega⟩
    exact hfin k _
  | i + 1, k, hi, hk => by
    obtain ⟨k, rfl⟩ : ∃ j, k = j + 1 + 1 := ⟨k - 2, by omega⟩
    have hs := getD_B hN (i + 1) hi
    have hd : L.drop (i + 1) = L.getD (i + 1) ByteArray.empty :: L.drop (i + 1 + 1) := by
      rw [List.drop_eq_getElem_cons hi, List.getD_eq_getElem?_getD, List.getElem?_eq_getElem hi]
      rfl
    have ih := RType_l0 L s K m n N hN hNb hL hfin i
    generalize bnds (L.drop 1) = z at ih ⊢
    rw [hd] at ih
    unfold bnds at ih
    rw [letterboxref10_Type.l0, if_pos (by omega), if_pos (by omega), if_pos (by omega), rdOf_nat]
    generalize hy : bnds (L.drop (i + 1 + 1)) = y at ih
    have hrd : rdOf ByteArray.empty L ((i + 1 : Nat) : Int) = L.getD (i + 1) ByteArray.empty := rdOf_nat L (i + 1)
    generalize L.getD (i + 1) ByteArray.empty = t at hs hrd ih
    have hw : wrap64 (((i + 1 : Nat) : Int) - 1) = (i : Int) := by rw [w64 _ (by omega) (by omega)]; omega
    have hc := ColonC_eq 61 (k + 1) t (by omega) (by omega)
    rw [show (61 : Int) = ((61 : UInt8).toNat : Int) from rfl, hc, Option.bind_some]
    by_cases hm : (61 : UInt8) ∈ t.data.toList
    · obtain ⟨x, r, hl, hx⟩ := split_at 61 _ hm
      have hsz := Lib.size_eq t
      rw [hl, List.length_append, List.length_cons] at hsz
      have e : t = mk (x ++ 61 :: r) := by rw [← hl, mk_self]
      have hxs := mk_size x
      have hrs := mk_size r
      have ht := trimB_le (mk x)
      have ht2 := trimB_le (mk r)
      have e1 : t.extract 0 ((x.length : Int)).toNat = mk x := by
        rw [e]
        exact ext_head x (61 :: r) _ (by omega)
      have e2 : t.extract ((x.length : Int) + 1).toNat t.size = mk r := by
        rw [e]
        exact ext_tail x r 61 _ (by omega)
      rw [bnd1_in hl hx] at ih
      rw [hl, ix_in 61 x r hx, if_neg (by omega), if_pos (by omega), if_pos (by omega), e1, RTrim_eq (k + 1) (mk x) (by omega) (by omega), Option.bind_some, RSame_eq _ _ (by omega) (by decide), Option.bind_some, letterboxref10_Type.j1, show (⟨#[98, 111, 117, 110, 100, 97, 114, 121]⟩ : ByteArray) = bw from rfl]
      by_cases hb : same (trimB (mk x)) bw = true
      · rw [if_pos hb] at ih
        simp only at ih
        rw [if_neg (by rw [hb]; decide), if_pos (by omega), if_pos (by omega), w64 _ (by omega) (by omega), if_pos (by omega), hrd, if_pos (by omega), e2, RTrim_eq k (mk r) (by omega) (by omega), Option.bind_some, hw]
        generalize trimB (mk r) = v at ht2 ih
        unfold unq at ih
        by_cases h2 : 2 ≤ v.size
        · rw [if_pos (by omega), if_pos (by omega)]
          by_cases h3 : bt v 0 = 34
          · rw [if_pos h3, w64 _ (by omega) (by omega), if_pos (by omega), if_pos (by omega)]
            by_cases h4 : bt v ((v.size : Int) - 1) = 34
            · rw [if_pos ⟨h2, h3, h4⟩] at ih
              rw [if_pos h4, if_pos (by omega), if_pos (by omega), show ((v.size : Int) - 1).toNat = v.size - 1 by omega]
              exact ih k (by omega) (by omega)
            · rw [if_neg (fun h => h4 h.2.2)] at ih
              rw [if_neg h4]
              exact ih k (by omega) (by omega)
          · rw [if_neg (fun h => h3 h.2.1)] at ih
            rw [if_neg h3]
            exact ih k (by omega) (by omega)
        · rw [if_neg (fun h => h2 h.1)] at ih
          rw [if_neg (by omega)]
          exact ih k (by omega) (by omega)
      · rw [if_neg hb] at ih
        simp only at ih
        rw [if_pos (by simpa using hb), hw]
        exact ih k (by omega) (by omega)
    · rw [bnd1_out hm] at ih
      simp only at ih
      rw [ix_out 61 _ hm, if_pos (by decide), letterboxref10_Type.j1, if_pos rfl, hw]
      exact ih k (by omega) (by omega)
theorem RType_fin (L : List ByteArray) (p : ByteArray) (hp : p.size ≤ 100000) (k : Nat) (x : ByteArray) : letterboxref10_Type.l0 (k + 1) L (lowB (trimB p)) (Lib.indexByte (lowB (trimB p)).data.toList 47) x 0 = some ((tm p).1, (tm p).2, x) := by
  have hlb := lowB_size (trimB p)
  have htr := trimB_le p
  rw [letterboxref10_Type.l0, if_neg (by decide)]
  simp only [tm]
  generalize lowB (trimB p) = q at hlb
  have hqs := Lib.size_eq q
  by_cases hm : (47 : UInt8) ∈ q.data.toList
  · obtain ⟨y, r, hxr, hx⟩ := split_at 47 _ hm
    have e : q = mk (y ++ 47 :: r) := by rw [← hxr, mk_self]
    have e1 : q.extract 0 ((y.length : Int)).toNat = mk y := by
      rw [e]
      exact ext_head y (47 :: r) _ (by omega)
    have e2 : q.extract ((y.length : Int) + 1).toNat q.size = mk r := by
      rw [e]
      exact ext_tail y r 47 _ (by omega)
    rw [hxr, List.length_append, List.length_cons] at hqs
    rw [hxr, cut1_in 47 y r hx, ix_in 47 y r hx, w64 _ (by omega) (by omega), w64 _ (by omega) (by omega)]
    simp only
    by_cases h1 : y = []
    · rw [if_pos (by rw [h1]; decide), if_pos (.inl h1)]
    · have h1' := List.length_pos_iff.2 h1
      by_cases h2 : r = []
      · rw [if_neg (by omega), if_pos (by rw [h2] at hqs; simp at hqs; omega), if_pos (.inr h2)]
      · have h2' := List.length_pos_iff.2 h2
        rw [if_neg (by omega), if_neg (by omega), if_pos (by omega), if_pos (by omega), if_pos (by omega), if_pos (by omega), e1, e2, if_neg (by rintro (h | h); exact h1 h; exact h2 h)]
  · rw [cut1_out 47 _ hm, ix_out 47 _ hm, if_pos (by decide)]
def ctypeR : ByteArray := ⟨#[67, 111, 110, 116, 101, 110, 116, 45, 84, 121, 112, 101]⟩
theorem fget_name {a b : ByteArray} (h : a.data.toList.map low8 = b.data.toList.map low8) : ∀ F : List S106, fget a F = fget b F
  | [] => rfl
  | f :: F => by
    have e : same f.f0 a = same f.f0 b := by unfold same; rw [h]
    unfold fget
    rw [e, fget_name h F]
theorem fget_none (a : ByteArray) : ∀ F : List S106, (fget a F).2 = false → (fget a F).1 = ⟨#[]⟩
  | [], _ => rfl
  | f :: F, h => by
    unfold fget at h ⊢
    split at h
    · cases h
    · rename_i hs
      rw [if_neg hs]
      exact fget_none a F h
theorem RType_eq (k : Nat) (l : List Int) (hl : l.length ≤ 20000) (hk : 12 * l.length + 60 < k) : letterboxref10_Type.f k l = some (typ (fget ctype (fields l)).1) := by
  have hv := fget_le (name := ctype) (fields_f1 l)
  have hn := fget_none ctype (fields l)
  unfold letterboxref10_Type.f
  rw [show (⟨#[67, 111, 110, 116, 101, 110, 116, 45, 84, 121, 112, 101]⟩ : ByteArray) = ctypeR from rfl, RGet_eq k l ctypeR (by decide) (by omega) (by omega), Option.bind_some, fget_name (show ctypeR.data.toList.map low8 = ctype.data.toList.map low8 by decide)]
  generalize fget ctype (fields l) = v2 at hv hn
  obtain ⟨v, ok⟩ := v2
  simp only at hv hn ⊢
  cases ok with
  | false =>
    rw [if_neg (by decide), hn rfl]
    rfl
  | true =>
    have hvs := Lib.size_eq v
    have hlen := cuts_len 59 v.data.toList
    have hle := cuts_le 59 v.data.toList
    have hS : letterboxref10_pieces.f k v 59 = some ((cuts 59 v.data.toList).map mk) := by
      have := pieces_l0 59 k v.data.toList [] (by omega) (by simp; omega) (by omega)
      rw [mk_self] at this
      exact this
    rw [if_pos rfl, hS, Option.bind_some]
    unfold typ
    obtain ⟨p, ps, hp⟩ : ∃ p ps, cuts 59 v.data.toList = p :: ps := by
      cases h : cuts 59 v.data.toList with
      | nil => exact absurd h (cuts_ne _ _)
      | cons p ps => exact ⟨p, ps, rfl⟩
    rw [hp] at hlen hle
    rw [hp, List.map_cons]
    rw [List.length_cons] at hlen
    have hps := hle p List.mem_cons_self
    have hms := mk_size p
    have htr := trimB_le (mk p)
    have hlb := lowB_size (trimB (mk p))
    have hpm : (ps.map mk).length = ps.length := List.length_map ..
    have hN : ∀ s ∈ mk p :: ps.map mk, s.size ≤ 2 * l.length := by
      intro s hs
      rcases List.mem_cons.1 hs with rfl | hs
      · omega
      · obtain ⟨x, hx, rfl⟩ := List.mem_map.1 hs
        have := hle x (List.mem_cons_of_mem _ hx)
        rw [mk_size]
        omega
    have hcl : (mk p :: ps.map mk).length = ps.length + 1 := by rw [List.length_cons, hpm]
    have hlow : letterboxref9_Low.f (trimB (mk p)) = some (lowB (trimB (mk p))) := by
      unfold letterboxref9_Low.f
      rw [if_pos (by omega)]
    have hcol := ColonC_eq 47 k (lowB (trimB (mk p))) (by omega) (by omega)
    rw [if_pos (by omega), show rdOf ByteArray.empty (mk p :: ps.map mk) 0 = mk p from rfl, RTrim_eq k (mk p) (by omega) (by omega), Option.bind_some, hlow, Option.bind_some, show (47 : Int) = ((47 : UInt8).toNat : Int) from rfl, hcol, Option.bind_some, hcl, w64 _ (by omega) (by omega), show (((ps.length + 1 : Nat) : Int) - 1) = (ps.length : Int) by omega]
    have h := RType_l0 (mk p :: ps.map mk) (lowB (trimB (mk p))) _ _ _ (2 * l.length) hN (by omega) (by omega) (RType_fin (mk p :: ps.map mk) (mk p) (by omega)) ps.length k (by omega) (by omega)
    rw [List.drop_eq_nil_of_le (by omega)] at h
    exact h
end Go.Proofs.YtfabaenfglionaaGreatDoor.Pure
namespace Go.Proofs.YtfabaenfglionaaGreatDoor.Pure
open Go.RowKit Go.Proofs.YtfabaenfglionaaGreatDoor Go.Proofs.YtfabaenfglionaaGreatDoor.P Go.Proofs.YtfabaenfglionaaGreatDoor.Spec Go.Proofs.YtfabaenfglionaaGreatDoorW.PrintWords Go.Proofs.YtfabaenfglionaaGreatDoorW.PrintLast Go.Proofs.YtfabaenfglionaaGreatDoorW.PrintMore

theorem cutR_eq (k : Nat) (l : List Int) (a b : Nat) (hl : l.length ≤ 100000) (h1 : a ≤ b) (h2 : b ≤ l.length) : letterboxref10_cut.f (k + 1) l a b = some (ended l a b : Int) := by
  have hlen : ((l.take b).drop a).length = b - a := by
    rw [List.length_drop, List.length_take]
    omega
  have hget : ∀ j, a ≤ j → j < b → ((l.take b).drop a).getD (j - a) 0 = l.getD j 0 := by
    intro j hj1 hj2
    rw [List.getD_eq_getElem?_getD, List.getD_eq_getElem?_getD, List.getElem?_drop, List.getElem?_take, if_pos (by omega), show a + (j - a) = j by omega]
  have hE : ended l a b = a + (if (strip 10 ((l.take b).drop a)).length < ((l.take b).drop a).length then (strip 13 (strip 10 ((l.take b).drop a))).length else ((l.take b).drop a).length) := rfl
  generalize (l.take b).drop a = s at hlen hget hE
  generalize ended l a b = E at hE ⊢
  unfold letterboxref10_cut.f
  by_cases hab : a < b
  · have hne : s ≠ [] := by
      rintro rfl
      simp at hlen
      omega
    have hl1 : s.getD (s.length - 1) 0 = l.getD (b - 1) 0 := by
      rw [hlen, show b - a - 1 = (b - 1) - a by omega]
      exact hget (b - 1) (by omega) (by omega)
    have hw : wrap64 ((b : Int) - 1) = ((b - 1 : Nat) : Int) := by rw [w64 _ (by omega) (by omega)]; omega
    rw [if_pos (by omega), hw, if_pos (by omega), if_pos (by omega), rd_nat, letterboxref10_cut.j0, hw]
    rw [strip_last hne, hl1] at hE
    by_cases h10 : l.getD (b - 1) 0 = 10
    · have ht : (s.take (s.length - 1)).length = b - 1 - a := by
        rw [List.length_take]
        omega
      rw [if_pos h10, if_pos (by omega)] at hE
      rw [if_pos (beq_iff_eq.2 h10)]
      by_cases hab2 : a < b - 1
      · have hne2 : s.take (s.length - 1) ≠ [] := by
          intro e
          rw [e] at ht
          simp at ht
          omega
        have hl2 : (s.take (s.length - 1)).getD ((s.take (s.length - 1)).length - 1) 0 = l.getD (b - 2) 0 := by
          rw [ht, List.getD_eq_getElem?_getD, List.getElem?_take, if_pos (by omega), ← List.getD_eq_getElem?_getD, show b - 1 - a - 1 = (b - 2) - a by omega]
          exact hget (b - 2) (by omega) (by omega)
        have hw2 : wrap64 (((b - 1 : Nat) : Int) - 1) = ((b - 2 : Nat) : Int) := by rw [w64 _ (by omega) (by omega)]; omega
        rw [strip_last hne2, hl2] at hE
        rw [if_pos (by omega), hw2, if_pos (by omega), if_pos (by omega), rd_nat]
        by_cases h13 : l.getD (b - 2) 0 = 13
        · rw [if_pos h13, List.length_take, ht] at hE
          rw [if_pos h13]
          congr 1
          omega
        · rw [if_neg h13, ht] at hE
          rw [if_neg h13]
          congr 1
          omega
      · have hnil : s.take (s.length - 1) = [] := List.eq_nil_of_length_eq_zero (by omega)
        rw [hnil, strip_nil, List.length_nil] at hE
        rw [if_neg (by omega)]
        congr 1
        omega
    · rw [if_neg h10, if_neg (by omega), hlen] at hE
      rw [if_neg (by simpa using h10)]
      congr 1
      omega
  · have hs : s = [] := List.eq_nil_of_length_eq_zero (by omega)
    rw [hs, strip_nil, strip_nil, if_neg (by omega), List.length_nil] at hE
    rw [if_neg (by omega), letterboxref10_cut.j0, if_neg Bool.false_ne_true]
    congr 1
    omega
theorem RParts_l1 (l : List Int) (hl : l.length ≤ 20000) (o : ByteArray) (X : List S59) (op : Bool) (at' : Nat) (K : Nat) : ∀ (k n : Nat), n ≤ l.length → K + fl (l.drop n) + 1 ≤ k → ∃ k' e, K ≤ k' ∧ letterboxref10_Parts.l1 k l o X op at' (n : Int) = letterboxref10_Parts.j3 k' l o X op at' e ∧ mn (wrap64 (e + 1)) (l.length : Int) = ((n + fl (l.drop n) : Nat) : Int)
  | 0, _, _, h => absurd h (by omega)
  | k + 1, n, hn, hk => by
    rw [letterboxref10_Parts.l1]
    by_cases hlt : n < l.length
    · have hd := drop_at hlt
      have hfl := fl_le (l.drop (n + 1))
      rw [List.length_drop] at hfl
      rw [hd] at hk
      rw [if_pos (by omega), if_pos (by omega), rd_nat]
      by_cases h10 : l.getD n 0 = 10
      · rw [if_pos h10]
        rw [fl_ten h10] at hk
        refine ⟨k, (n : Int), by omega, rfl, ?_⟩
        rw [hd, fl_ten h10, w64 _ (by omega) (by omega)]
        unfold mn
        split <;> omega
      · rw [fl_other h10] at hk
        rw [if_neg h10, w64 _ (by omega) (by omega), show ((n : Int) + 1) = ((n + 1 : Nat) : Int) from rfl]
        obtain ⟨k', e, h1, h2, h3⟩ := RParts_l1 l hl o X op at' K k (n + 1) (by omega) (by omega)
        refine ⟨k', e, h1, h2, ?_⟩
        rw [h3, hd, fl_other h10]
        omega
    · obtain rfl : n = l.length := by omega
      rw [if_neg (by omega)]
      refine ⟨k, (l.length : Int), by omega, rfl, ?_⟩
      rw [List.drop_length, w64 _ (by omega) (by omega)]
      unfold mn fl
      split <;> omega
theorem last_rd (out : List S59) (p : S59) (h : out.length ≤ 100) : rd_T59 (out ++ [p]) (wrap64 (((out ++ [p]).length : Int) - 1)) = p := by
  rw [List.length_append, List.length_singleton, w64 _ (by omega) (by omega), show (((out.length + 1 : Nat) : Int) - 1) = (out.length : Int) by omega, rd_TP_nat, List.getD_eq_getElem?_getD, List.getElem?_append_right (Nat.le_refl _), Nat.sub_self]
  rfl
theorem last_set (out : List S59) (p q : S59) (h : out.length ≤ 100) : (out ++ [p]).set (wrap64 (((out ++ [p]).length : Int) - 1)).toNat q = out ++ [q] := by
  rw [List.length_append, List.length_singleton, w64 _ (by omega) (by omega), show (((out.length + 1 : Nat) : Int) - 1).toNat = out.length by omega, List.set_append_right _ _ (Nat.le_refl _), Nat.sub_self]
  rfl
def At (fr : Option Nat) (out X : List S59) (op : Bool) : Prop := match fr with
  | none => X = out ∧ op = false ∧ out.length ≤ 16
  | some f => X = out ++ [⟨(f : Int), (f : Int)⟩] ∧ op = true ∧ out.length ≤ 15
theorem RParts_fin (l : List Int) (hl : l.length ≤ 20000) (k at' : Nat) (fr : Option Nat) (out X : List S59) (op : Bool) (ha : at' ≤ l.length) (hA : At fr out X op) (hf : ∀ f, fr = some f → f ≤ at') :
    (if op = true then (if 0 ≤ (wrap64 ((X.length : Int) - 1)) then (if (wrap64 ((X.length : Int) - 1)) < (X.length : Int) then ((letterboxref10_cut.f (k + 1) l ((rd_T59 X (wrap64 ((X.length : Int) - 1))).f0) (at' : Int)).bind fun t => (some (X.set ((wrap64 ((X.length : Int) - 1)) : Int).toNat (⟨(rd_T59 X (wrap64 ((X.length : Int) - 1))).f0, t⟩ : S59)))) else (none)) else (none)) else (some X)) = some (fin l at' fr out) := by
  cases fr with
  | none =>
    obtain ⟨rfl, rfl, _⟩ := hA
    rw [if_neg Bool.false_ne_true]
    rfl
  | some f =>
    obtain ⟨rfl, rfl, ho⟩ := hA
    have hq := hf f rfl
    rw [if_pos rfl, last_rd out _ (by omega)]
    have hw : wrap64 (((out ++ [(⟨(f : Int), (f : Int)⟩ : S59)]).length : Int) - 1) = (out.length : Int) := by
      rw [List.length_append, List.length_singleton, w64 _ (by omega) (by omega)]
      omega
    rw [cutR_eq k l f at' (by omega) hq ha, Option.bind_some, last_set out _ _ (by omega), hw, if_pos (by omega), if_pos (by rw [List.length_append, List.length_singleton]; omega)]
    rfl
theorem marks_ne {t : List UInt8} {o : ByteArray} (h : t = (((⟨#[45, 45]⟩ : ByteArray) ++ o) ++ (⟨#[45, 45]⟩ : ByteArray)).toList) : ¬ t = ((⟨#[45, 45]⟩ : ByteArray) ++ o).toList := by
  intro h2
  have := congrArg List.length (h.symm.trans h2)
  rw [Lib.toList_data, Lib.toList_data, ← Lib.size_eq, ← Lib.size_eq, ByteArray.size_append, ByteArray.size_append] at this
  have h3 : (⟨#[45, 45]⟩ : ByteArray).size = 2 := rfl
  omega
theorem RParts_l0 (l : List Int) (hl : l.length ≤ 20000) (o : ByteArray) (hos : o.size ≤ 100000) : ∀ (g k at' : Nat) (fr : Option Nat) (out X : List S59) (op : Bool), at' ≤ l.length → l.length - at' ≤ g → 5 * (l.length - at') + 10 ≤ k → At fr out X op → (∀ f, fr = some f → f ≤ at') →
    letterboxref10_Parts.l0 k l o X op (at' : Int) = some (pgo l o (lines (l.drop at')) at' fr out) := by
  have stop : ∀ (k : Nat) (fr : Option Nat) (out X : List S59) (op : Bool), 2 ≤ k → At fr out X op → (∀ f, fr = some f → f ≤ l.length) → letterboxref10_Parts.l0 k l o X op (l.length : Int) = some (pgo l o (lines (l.drop l.length)) l.length fr out) := by
    intro k fr out X op hk hA hf
    obtain ⟨k, rfl⟩ : ∃ j, k = j + 1 + 1 := ⟨k - 2, by omega⟩
    rw [letterboxref10_Parts.l0, if_neg (by omega), RParts_fin l hl k l.length fr out X op (Nat.le_refl _) hA hf, List.drop_length]
    rfl
  intro g
  induction g with
  | zero =>
    intro k at' fr out X op h1 h2 h3 hA hf
    obtain rfl : at' = l.length := by omega
    exact stop k fr out X op (by omega) hA hf
  | succ g ih =>
    intro k at' fr out X op h1 h2 h3 hA hf
    by_cases hlt : at' < l.length
    · have hrl : (l.drop at').length = l.length - at' := List.length_drop ..
      have hne : l.drop at' ≠ [] := by
        intro e
        rw [e, List.length_nil] at hrl
        omega
      have hfp := fl_pos hne
      have hfle := fl_le (l.drop at')
      obtain ⟨k, rfl⟩ : ∃ j, k = j + 1 := ⟨k - 1, by omega⟩
      rw [letterboxref10_Parts.l0, if_pos (by omega)]
      obtain ⟨k', e, hk', hE, he⟩ := RParts_l1 l hl o X op at' (5 * (l.length - (at' + fl (l.drop at'))) + 12) k at' h1 (by omega)
      rw [hE]
      clear hE
      obtain ⟨k', rfl⟩ : ∃ j, k' = j + 1 + 1 + 1 := ⟨k' - 3, by omega⟩
      have hT : letterboxref9_Text.f (k' + 1 + 1) (((l.take ((at' + fl (l.drop at') : Nat) : Int).toNat).drop (at' : Int).toNat)) = some (txt ((l.drop at').take (fl (l.drop at')))) := by
        rw [Int.toNat_natCast, Int.toNat_natCast, piece_at, Text_eq _ _ (by rw [List.length_take]; omega) (by omega)]
      rw [letterboxref10_Parts.j3, he, if_pos (by omega), if_pos (by omega), if_pos (by omega), hT, Option.bind_some, if_pos (by omega), if_pos (by omega), lines_ne hne, List.drop_drop]
      have hxl : ((l.drop at').take (fl (l.drop at'))).length = fl (l.drop at') := by
        rw [List.length_take]
        omega
      clear hT he
      generalize (l.drop at').take (fl (l.drop at')) = x at hxl
      rw [← hxl] at hk' hfp hfle ⊢
      have later : ∀ f, fr = some f → f ≤ at' + x.length := fun f h => Nat.le_trans (hf f h) (by omega)
      have go : ∀ (fr' : Option Nat) (out' X' : List S59) (op' : Bool), At fr' out' X' op' → (∀ f, fr' = some f → f ≤ at' + x.length) → letterboxref10_Parts.l0 (k' + 1) l o X' op' ((at' + x.length : Nat) : Int) = some (pgo l o (lines (l.drop (at' + x.length))) (at' + x.length) fr' out') := by
        intro fr' out' X' op' hA' hf'
        exact ih (k' + 1) (at' + x.length) fr' out' X' op' (by omega) (by omega) (by omega) hA' hf'
      unfold pgo
      by_cases hk2 : (strOfNums (txt x)).toList = (((⟨#[45, 45]⟩ : ByteArray) ++ o) ++ (⟨#[45, 45]⟩ : ByteArray)).toList
      · rw [if_pos hk2, if_neg (marks_ne hk2), if_pos hk2, beq_iff_eq.2 hk2, letterboxref10_Parts.j4, if_pos rfl]
        cases fr with
        | none =>
          obtain ⟨rfl, rfl, _⟩ := hA
          rw [if_neg Bool.false_ne_true, if_pos rfl]
          rfl
        | some f =>
          obtain ⟨rfl, rfl, ho⟩ := hA
          have hq := hf f rfl
          have hw : wrap64 (((out ++ [(⟨(f : Int), (f : Int)⟩ : S59)]).length : Int) - 1) = (out.length : Int) := by
            rw [List.length_append, List.length_singleton, w64 _ (by omega) (by omega)]
            omega
          rw [if_pos rfl, last_rd out _ (by omega), cutR_eq _ l f at' (by omega) hq h1, Option.bind_some, last_set out _ _ (by omega), hw, if_pos (by omega), if_pos (by rw [List.length_append, List.length_singleton]; omega), Option.bind_some, if_pos rfl]
          rfl
      · have hb2 : ((strOfNums (txt x)).toList == (((⟨#[45, 45]⟩ : ByteArray) ++ o) ++ (⟨#[45, 45]⟩ : ByteArray)).toList) = false := beq_eq_false_iff_ne.2 hk2
        by_cases hk1 : (strOfNums (txt x)).toList = ((⟨#[45, 45]⟩ : ByteArray) ++ o).toList
        · rw [if_neg hk2, if_pos hk1, if_pos hk1, hb2, letterboxref10_Parts.j4]
          cases fr with
          | none =>
            obtain ⟨rfl, rfl, ho⟩ := hA
            simp only
            by_cases h16 : X.length < 16
            · rw [if_pos (decide_eq_true (by omega)), if_neg Bool.false_ne_true, if_neg Bool.false_ne_true, if_pos (by omega), if_pos h16]
              exact go (some (at' + x.length)) X _ true ⟨rfl, rfl, by omega⟩ (fun f h => by cases h; exact Nat.le_refl _)
            · rw [if_neg (by rw [decide_eq_false (by omega)]; exact Bool.false_ne_true), if_neg h16]
              exact go none X X false ⟨rfl, rfl, ho⟩ later
          | some f =>
            obtain ⟨rfl, rfl, ho⟩ := hA
            have hq := hf f rfl
            have hol : (out ++ [(⟨(f : Int), (f : Int)⟩ : S59)]).length = out.length + 1 := by rw [List.length_append, List.length_singleton]
            have hw : wrap64 (((out ++ [(⟨(f : Int), (f : Int)⟩ : S59)]).length : Int) - 1) = (out.length : Int) := by
              rw [hol, w64 _ (by omega) (by omega)]
              omega
            simp only
            by_cases h15 : out.length < 15
            · rw [if_pos (decide_eq_true (by omega)), if_pos trivial, last_rd out _ (by omega), cutR_eq _ l f at' (by omega) hq h1, Option.bind_some, last_set out _ _ (by omega), hw, if_pos (by omega), if_pos (by omega), Option.bind_some, if_neg Bool.false_ne_true, if_pos (by rw [List.length_append, List.length_singleton]; omega), if_pos h15]
              exact go (some (at' + x.length)) (out ++ [⟨(f : Int), (ended l f at' : Int)⟩]) _ true ⟨rfl, rfl, by rw [List.length_append, List.length_singleton]; omega⟩ (fun f h => by cases h; exact Nat.le_refl _)
            · rw [if_neg (by rw [decide_eq_false (by omega)]; exact Bool.false_ne_true), if_neg h15]
              exact go (some f) out _ true ⟨rfl, rfl, ho⟩ later
        · rw [if_neg hk2, if_neg hk1, if_neg hk1, if_neg hk2, hb2, letterboxref10_Parts.j4, if_neg Bool.false_ne_true]
          exact go fr out X op hA later
    · obtain rfl : at' = l.length := by omega
      exact stop k fr out X op (by omega) hA hf
def utyp (l : List Int) : ByteArray × ByteArray × ByteArray := typ (fget ctype (fields l)).1
def UP (l : List Int) : List S59 := uparts l (utyp l).1 (utyp l).2.2
theorem utyp_le (l : List Int) (hb : Byt l) (hl : l.length ≤ 20000) : (utyp l).2.2.size ≤ 2 * l.length := by
  obtain ⟨m, s, o, hT, ho⟩ := Type_ex (8 * l.length + 21) l hb hl (by omega)
  have h := Option.some.inj ((Type_eq (8 * l.length + 21) l hb hl (by omega)).symm.trans hT)
  show (typ (fget ctype (fields l)).1).2.2.size ≤ _
  rw [h]
  exact ho
theorem UP_ok (l : List Int) : Chain 0 (UP l) l.length ∧ (UP l).length ≤ 16 := uparts_ok l _ _
theorem UParts_eq (k : Nat) (l : List Int) (hb : Byt l) (hl : l.length ≤ 20000) (hk : 8 * l.length + 20 < k) : mime_Parts.f k l = some (UP l) := by
  have := utyp_le l hb hl
  exact Parts_eq k l hb hl (by omega) (m := (utyp l).1) (s := (utyp l).2.1) (o := (utyp l).2.2) (Type_eq k l hb hl hk) (by omega)
theorem RParts_eq (k : Nat) (l : List Int) (hb : Byt l) (hl : l.length ≤ 20000) (hk : 12 * l.length + 60 < k) : letterboxref10_Parts.f k l = some (UP l) := by
  obtain ⟨k, rfl⟩ : ∃ j, k = j + 1 := ⟨k - 1, by omega⟩
  have ho := utyp_le l hb hl
  have hh := hend_le l
  unfold letterboxref10_Parts.f UP uparts
  rw [RType_eq (k + 1) l hl hk, Option.bind_some, show typ (fget ctype (fields l)).1 = utyp l from rfl]
  generalize utyp l = t at ho
  obtain ⟨m, s, o⟩ := t
  simp only at ho ⊢
  show (if m.toList = multi then letterboxref10_Parts.j0 (k + 1) l o (o.toList == ([] : List UInt8)) else letterboxref10_Parts.j0 (k + 1) l o true) = _
  by_cases h1 : m.toList = multi
  · rw [if_pos h1, letterboxref10_Parts.j0]
    by_cases h2 : o.toList = []
    · rw [if_pos (beq_iff_eq.2 h2), if_neg (fun h => h.2 h2)]
    · rw [if_neg (fun h => h2 (beq_iff_eq.1 h)), if_pos ⟨h1, h2⟩, RefEnd_eq k l (by omega) (by omega), Option.bind_some]
      exact RParts_l0 l hl o (by omega) l.length k (hend l) none [] [] false hh (by omega) (by omega) ⟨rfl, rfl, by simp⟩ (fun f h => by cases h)
  · rw [if_neg h1, if_neg (fun h => h1 h.1), letterboxref10_Parts.j0, if_pos rfl]
def usec : List Int → List Int → List Int × Bool
  | b, [] => (b, true)
  | b, n :: rest =>
    if UP b = [] then (if n = 1 ∧ rest = [] then (b.drop (hend b), true) else ([], false))
    else if n < 1 ∨ n > ((UP b).length : Int) then ([], false)
    else usec ((b.take ((UP b).getD (n - 1).toNat z59).f1.toNat).drop ((UP b).getD (n - 1).toNat z59).f0.toNat) rest
end Go.Proofs.YtfabaenfglionaaGreatDoor.Pure
