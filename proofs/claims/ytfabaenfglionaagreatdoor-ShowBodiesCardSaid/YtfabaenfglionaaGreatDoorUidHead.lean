/- What the head's functions compute, as plain lists (out of the head seat's texts). -/
import Derived.Test.YtfabaenfglionaaGreatDoorHeadSpec
import Derived.Test.YtfabaenfglionaaGreatDoorPx2
namespace Go.Proofs.YtfabaenfglionaaGreatDoor.Pure
open Go.RowKit Go.Proofs.YtfabaenfglionaaGreatDoor Go.Proofs.YtfabaenfglionaaGreatDoor.P Go.Proofs.YtfabaenfglionaaGreatDoor.Spec Go.Proofs.YtfabaenfglionaaGreatDoorW.PrintWords Go.Proofs.YtfabaenfglionaaGreatDoorW.PrintLast Go.Proofs.YtfabaenfglionaaGreatDoorW.PrintMore

theorem w64 (x : Int) (h0 : -4611686018427387904 ≤ x) (h1 : x ≤ 4611686018427387904) : wrap64 x = x := by
  unfold wrap64
  omega
theorem rd_nat (l : List Int) (i : Nat) : rd l (i : Int) = l.getD i 0 := by unfold rd; rw [Int.toNat_natCast]
theorem drop_at {l : List Int} {i : Nat} (h : i < l.length) : l.drop i = l.getD i 0 :: l.drop (i + 1) := by
  rw [List.drop_eq_getElem_cons h, List.getD_eq_getElem?_getD, List.getElem?_eq_getElem h]
  rfl
theorem strip_last {l : List Int} (h : l ≠ []) (c : Int) : strip c l = if l.getD (l.length - 1) 0 = c then l.take (l.length - 1) else l := by
  have hp : l.length - 1 < l.length := by have := List.length_pos_iff.2 h; omega
  unfold strip
  rw [List.getLast?_eq_getElem?, List.getElem?_eq_getElem hp, List.getD_eq_getElem?_getD, List.getElem?_eq_getElem hp, ← List.dropLast_eq_take]
  simp only [Option.some.injEq, Option.getD_some]
theorem strip_nil (c : Int) : strip c [] = [] := rfl
theorem piece_at (l : List Int) (i : Nat) : (l.take (i + fl (l.drop i))).drop i = (l.drop i).take (fl (l.drop i)) := by
  rw [List.drop_take]
  congr 1
  omega
def Byt (l : List Int) : Prop := ∀ x ∈ l, 0 ≤ x ∧ x < 256
theorem Byt.tail {c : Int} {l : List Int} (h : Byt (c :: l)) : Byt l := fun x hx => h x (List.mem_cons_of_mem _ hx)
theorem Byt.head {c : Int} {l : List Int} (h : Byt (c :: l)) : 0 ≤ c ∧ c < 256 := h c List.mem_cons_self
theorem Byt.drop {l : List Int} (h : Byt l) (n : Nat) : Byt (l.drop n) := fun x hx => h x (List.mem_of_mem_drop hx)
theorem Byt.take {l : List Int} (h : Byt l) (n : Nat) : Byt (l.take n) := fun x hx => h x (List.mem_of_mem_take hx)
theorem Byt.line {l x : List Int} (h : Byt l) (hx : x ∈ lines l) : Byt x := fun c hc => h c (lines_mem_mem hx hc)
theorem Byt.txt {l : List Int} (h : Byt l) : Byt (txt l) := fun x hx => h x (txt_mem hx)
theorem u8_eq {x c : Int} (hx : 0 ≤ x ∧ x < 256) (hc : 0 ≤ c ∧ c < 256) : (UInt8.ofNat x.toNat = UInt8.ofNat c.toNat) ↔ x = c := by
  constructor
  · intro h
    have := congrArg UInt8.toNat h
    simp only [UInt8.toNat_ofNat'] at this
    omega
  · rintro rfl
    rfl
theorem index_ten {l : List Int} (h : Byt l) : Lib.indexByte (Lib.bytesOf l) (10 : Int).toNat.toUInt8 = if (10 : Int) ∈ l then (fl l : Int) - 1 else -1 := by
  induction l with
  | nil => rfl
  | cons c l ih =>
    have ih := ih h.tail
    have hb : Lib.bytesOf (c :: l) = UInt8.ofNat c.toNat :: Lib.bytesOf l := rfl
    rw [hb]
    unfold Lib.indexByte
    by_cases hc : c = 10
    · subst hc
      rw [fl_ten rfl]
      simp
    · have hne : (UInt8.ofNat c.toNat == (10 : Int).toNat.toUInt8) = false := by
        rw [beq_eq_false_iff_ne]
        intro he
        exact hc ((u8_eq h.head ⟨by decide, by decide⟩).1 he)
      rw [hne, ih, fl_other hc]
      by_cases hm : (10 : Int) ∈ l
      · have hp := fl_pos (l := l) (by rintro rfl; cases hm)
        rw [if_pos hm, if_pos (List.mem_cons_of_mem _ hm)]
        have h1 : (((fl l : Int) - 1) == -1) = false := beq_eq_false_iff_ne.2 (by omega)
        rw [h1, if_neg (by decide), if_neg (by decide)]
        omega
      · have hm2 : ¬ (10 : Int) ∈ c :: l := by
          intro hh
          rcases List.mem_cons.1 hh with h1 | h1
          · exact hc h1.symm
          · exact hm h1
        rw [if_neg hm, if_neg hm2, if_neg (by decide)]
        rfl
theorem count_ten {l : List Int} (h : Byt l) : Lib.countByte (Lib.bytesOf l) (10 : Int).toNat.toUInt8 = l.count 10 := by
  unfold Lib.countByte
  induction l with
  | nil => rfl
  | cons c l ih =>
    have ih := ih h.tail
    have hb : Lib.bytesOf (c :: l) = UInt8.ofNat c.toNat :: Lib.bytesOf l := rfl
    rw [hb, List.count_cons, List.count_cons, ih]
    congr 1
    by_cases hc : c = 10
    · subst hc; rfl
    · have h1 : (UInt8.ofNat c.toNat == (10 : Int).toNat.toUInt8) = false := by
        rw [beq_eq_false_iff_ne]
        intro he
        exact hc ((u8_eq h.head ⟨by decide, by decide⟩).1 he)
      have h2 : (c == (10 : Int)) = false := beq_eq_false_iff_ne.2 hc
      rw [h1, h2]
theorem pieces_in {l : List Int} (h : (10 : Int) ∈ l) : pieces l = l.take (fl l) :: pieces (l.drop (fl l)) := by
  induction l with
  | nil => cases h
  | cons c l ih =>
    by_cases hc : c = 10
    · rw [fl_ten hc]
      conv => lhs; unfold pieces
      rw [if_pos hc]
      simp [hc]
    · have hm : (10 : Int) ∈ l := by rcases List.mem_cons.1 h with h1 | h1; exact absurd h1.symm hc; exact h1
      rw [fl_other hc]
      conv => lhs; unfold pieces
      rw [if_neg hc, ih hm, List.drop_succ_cons, List.take_succ_cons]
theorem pieces_out {l : List Int} (h : ¬ (10 : Int) ∈ l) : pieces l = [l] := by
  induction l with
  | nil => rfl
  | cons c l ih =>
    conv => lhs; unfold pieces
    rw [if_neg (by intro hc; exact h (by simp [hc])), ih (fun hm => h (List.mem_cons_of_mem _ hm))]
theorem count_fl {l : List Int} (h : (10 : Int) ∈ l) : l.count 10 = (l.drop (fl l)).count 10 + 1 := by
  induction l with
  | nil => cases h
  | cons c l ih =>
    by_cases hc : c = 10
    · rw [fl_ten hc, List.count_cons]
      simp [hc]
    · have hm : (10 : Int) ∈ l := by rcases List.mem_cons.1 h with h1 | h1; exact absurd h1.symm hc; exact h1
      rw [fl_other hc, List.count_cons, List.drop_succ_cons, ih hm]
      simp [hc]
theorem take_set {α : Type} (l : List α) (i : Nat) (x : α) (h : i < l.length) : (l.set i x).take (i + 1) = l.take i ++ [x] := by
  rw [List.take_succ_eq_append_getElem (by simpa using h), List.getElem_set_self, List.take_set_of_le (Nat.le_refl _)]
theorem genSplit_l0 (n : Nat) (hn : n ≤ 1000000) : ∀ (k i : Nat) (s : List Int) (a : List (List Int)), Byt s → s.length ≤ 1000000 → i + s.count 10 = n → a.length = n + 1 → s.count 10 < k → G.bytes_genSplit.l0 k s [10] 1 n a i = some (a.take i ++ pieces s)
  | 0, _, _, _, _, _, _, _, h => absurd h (by omega)
  | k + 1, i, s, a, hb, hl, hi, ha, hk => by
    have hfl := fl_le s
    unfold G.bytes_genSplit.l0
    by_cases hm : (10 : Int) ∈ s
    · have hc := count_fl hm
      have hp := fl_pos (l := s) (by rintro rfl; cases hm)
      have hix : bytes_Index.f s [10] = some ((fl s : Int) - 1) := by
        unfold bytes_Index.f
        simp only
        rw [index_ten hb, if_pos hm]
      rw [if_pos (by omega), hix, Option.bind_some, if_neg (by omega), w64 ((fl s : Int) - 1 + 1) (by omega) (by omega), if_pos (by omega), if_pos (by omega), if_pos (by omega), if_pos (by omega)]
      simp only [List.length_cons, List.length_nil]
      rw [w64 _ (by omega) (by omega), if_pos (by omega), if_pos (by omega), Int.toNat_natCast, show ((fl s : Int) - 1 + ((0 + 1 : Nat) : Int)).toNat = fl s by omega, show ((fl s : Int) - 1 + 1).toNat = fl s by omega, w64 _ (by omega) (by omega), show ((i : Int) + 1) = ((i + 1 : Nat) : Int) from rfl,
        genSplit_l0 n hn k (i + 1) _ _ (hb.drop _) (by rw [List.length_drop]; omega) (by omega) (by rw [List.length_set]; exact ha) (by omega), take_set _ _ _ (by omega), pieces_in hm, List.append_assoc]
      rfl
    · have hc : s.count 10 = 0 := List.count_eq_zero.2 hm
      rw [if_neg (by omega), if_pos (by omega), if_pos (by omega), w64 _ (by omega) (by omega), if_pos (by omega), if_pos (by omega), Int.toNat_natCast, show ((i : Int) + 1).toNat = i + 1 by omega, take_set _ _ _ (by omega), pieces_out hm]
theorem SplitAfter_eq (k : Nat) (l : List Int) (hb : Byt l) (hl : l.length ≤ 100000) (hk : l.length + 1 < k) : bytes_SplitAfter.f k l [10] = some (pieces l) := by
  obtain ⟨k, rfl⟩ : ∃ j, k = j + 1 := ⟨k - 1, by omega⟩
  have hc := List.count_le_length (a := (10 : Int)) (l := l)
  have hct : bytes_Count.f l [10] = some (l.count 10 : Int) := by
    unfold bytes_Count.f
    simp only
    rw [count_ten hb]
  unfold bytes_SplitAfter.f G.bytes_SplitAfter.f G.bytes_genSplit.f
  simp only [List.length_cons, List.length_nil]
  rw [if_neg (by omega), if_neg (by omega), if_pos (by omega), hct, Option.bind_some, w64 _ (by omega) (by omega)]
  rw [G.bytes_genSplit.j0]
  have hmn : mn ((l.count 10 : Int) + 1) (wrap64 ((l.length : Int) + 1)) = ((l.count 10 + 1 : Nat) : Int) := by
    rw [w64 _ (by omega) (by omega)]
    unfold mn
    rw [if_neg (by omega)]
    rfl
  rw [hmn, if_pos (by omega), Int.toNat_natCast, if_pos (by omega), w64 _ (by omega) (by omega), show (((l.count 10 + 1 : Nat) : Int) - 1) = ((l.count 10 : Nat) : Int) by omega, show (0 : Int) = ((0 : Nat) : Int) from rfl]
  have := genSplit_l0 (l.count 10) (by omega) k 0 l (List.replicate (l.count 10 + 1) []) hb (by omega) (by omega) (by simp) (by omega)
  simpa using this
theorem cut_eq (k : Nat) (l : List Int) (hb : Byt l) (hl : l.length ≤ 100000) (hk : l.length + 1 < k) : head_cut.f k l = some (lines l) := by
  unfold head_cut.f
  by_cases h0 : l = []
  · rw [if_pos (by simp [h0]), h0, lines_nil]
  · have hlp := List.length_pos_iff.2 h0
    have hpl := lines_length_le l
    rw [if_neg (by omega), SplitAfter_eq k l hb hl hk, Option.bind_some]
    rcases pieces_lines l with ⟨x, xs, h1, h2, h3⟩ | h
    · rw [h3, List.length_append, List.length_singleton] at hpl
      have hx := List.length_pos_iff.2 h2
      rw [h1, h3, List.length_append, List.length_singleton, w64 _ (by omega) (by omega), if_pos (by omega), if_pos (by omega), if_neg]
      unfold rd_L6
      rw [List.getD_eq_getElem?_getD, show (((xs.length + 1 : Nat) : Int) - 1).toNat = xs.length by omega, List.getElem?_append_right (Nat.le_refl _), Nat.sub_self]
      simp
      omega
    · rw [h, List.length_append, List.length_singleton, w64 _ (by omega) (by omega), if_pos (by omega), if_pos (by omega), if_pos, if_pos (by omega), show ((((lines l).length + 1 : Nat) : Int) - 1).toNat = (lines l).length by omega, List.take_left']
      · rfl
      · unfold rd_L6
        rw [List.getD_eq_getElem?_getD, show ((((lines l).length + 1 : Nat) : Int) - 1).toNat = (lines l).length by omega, List.getElem?_append_right (Nat.le_refl _), Nat.sub_self]
        rfl
theorem suffix_last (l : List Int) (c : Int) (hb : Byt l) (hc : 0 ≤ c ∧ c < 256) : Lib.hasSuffix (Lib.bytesOf l) (Lib.bytesOf [c]) = decide (l.getLast? = some c) := by
  unfold Lib.hasSuffix
  rw [Bool.eq_iff_iff, List.isSuffixOf_iff_suffix, decide_eq_true_eq]
  rcases List.eq_nil_or_concat l with rfl | ⟨m, x, rfl⟩
  · constructor
    · intro h
      have := h.length_le
      simp [Lib.bytesOf] at this
    · intro h; cases h
  · rw [List.concat_eq_append] at hb ⊢
    have hbx : 0 ≤ x ∧ x < 256 := hb x (by simp)
    rw [List.getLast?_concat]
    have e1 : Lib.bytesOf (m ++ [x]) = Lib.bytesOf m ++ [UInt8.ofNat x.toNat] := by simp [Lib.bytesOf]
    have e2 : Lib.bytesOf [c] = [UInt8.ofNat c.toNat] := rfl
    rw [e1, e2]
    constructor
    · intro h
      obtain ⟨t, ht⟩ := h
      have := (List.append_inj_right' ht rfl)
      injection this with this
      rw [(u8_eq hc hbx).1 this]
    · intro h
      injection h with h
      subst h
      exact ⟨_, rfl⟩
theorem TrimSuffix_eq (l : List Int) (c : Int) (hb : Byt l) (hc : 0 ≤ c ∧ c < 256) (hl : l.length ≤ 1000000) : bytes_TrimSuffix.f l [c] = some (strip c l) := by
  unfold bytes_TrimSuffix.f bytes_HasSuffix.f
  rw [Option.bind_some, suffix_last l c hb hc]
  unfold strip
  by_cases h : l.getLast? = some c
  · have hne : l ≠ [] := by rintro rfl; cases h
    have hp := List.length_pos_iff.2 hne
    rw [decide_eq_true h, if_pos rfl, if_pos h]
    simp only [List.length_cons, List.length_nil]
    rw [w64 _ (by omega) (by omega), if_pos (by omega), if_pos (by omega), List.dropLast_eq_take, show ((l.length : Int) - ((0 + 1 : Nat) : Int)).toNat = l.length - 1 by omega]
  · rw [decide_eq_false h, if_neg (by simp), if_neg h]
theorem text_eq (l : List Int) (hb : Byt l) (hl : l.length ≤ 1000000) : head_text.f l = some (txt l) := by
  unfold head_text.f txt
  have h1 := strip_le 10 l
  rw [TrimSuffix_eq l 10 hb ⟨by decide, by decide⟩ hl, Option.bind_some, TrimSuffix_eq _ 13 (fun x hx => hb x (strip_mem hx)) ⟨by decide, by decide⟩ (by omega), Option.bind_some]
theorem rd_L1_nat (ls : List (List Int)) (i : Nat) : rd_L6 ls (i : Int) = ls.getD i [] := by unfold rd_L6; rw [Int.toNat_natCast]
theorem drop_atL {ls : List (List Int)} {i : Nat} (h : i < ls.length) : ls.drop i = ls.getD i [] :: ls.drop (i + 1) := by
  rw [List.drop_eq_getElem_cons h, List.getD_eq_getElem?_getD, List.getElem?_eq_getElem h]
  rfl
theorem getD_mem {ls : List (List Int)} {i : Nat} (h : i < ls.length) : ls.getD i [] ∈ ls := by
  rw [List.getD_eq_getElem?_getD, List.getElem?_eq_getElem h]
  exact List.getElem_mem h
theorem flat_at {ls : List (List Int)} {i : Nat} (h : i < ls.length) : (ls.drop i).flatten.length = (ls.getD i []).length + (ls.drop (i + 1)).flatten.length := by
  rw [drop_atL h, List.flatten_cons, List.length_append]
theorem end_l0 (ls : List (List Int)) (hb : ∀ x ∈ ls, Byt x) (hn : ls.length ≤ 1000000) : ∀ (k i m : Nat), i ≤ ls.length → ls.length - i < k → m + (ls.drop i).flatten.length ≤ 1000000 → head_end.l0 k m ls ls.length i = some ((m + upto (ls.drop i) : Nat) : Int)
  | 0, _, _, _, h, _ => absurd h (by omega)
  | k + 1, i, m, hi, hk, hm => by
    unfold head_end.l0
    by_cases hlt : i < ls.length
    · have hf := flat_at hlt
      rw [if_pos (by omega), if_pos (by omega), if_pos (by omega), rd_L1_nat, text_eq _ (hb _ (getD_mem hlt)) (by omega), Option.bind_some, drop_atL hlt]
      unfold upto
      by_cases ht : txt (ls.getD i []) = []
      · rw [if_pos (by rw [ht]; rfl), if_pos ht, w64 _ (by omega) (by omega)]
        rfl
      · rw [if_neg (by intro h; exact ht (List.eq_nil_of_length_eq_zero (by omega))), if_neg ht, w64 _ (by omega) (by omega), w64 _ (by omega) (by omega), show ((m : Int) + ((ls.getD i []).length : Int)) = ((m + (ls.getD i []).length : Nat) : Int) from rfl, show ((i : Int) + 1) = ((i + 1 : Nat) : Int) from rfl, end_l0 ls hb hn k _ _ (by omega) (by omega) (by omega)]
        congr 2
        omega
    · obtain rfl : i = ls.length := by omega
      rw [if_neg (by omega), List.drop_length]
      rfl
theorem end_eq (k : Nat) (l : List Int) (hb : Byt l) (hl : l.length ≤ 100000) (hk : l.length + 1 < k) : head_end.f k l = some (hend l : Int) := by
  have h1 := lines_length_le l
  unfold head_end.f
  rw [cut_eq k l hb hl hk, Option.bind_some]
  have := end_l0 (lines l) (fun x hx => hb.line hx) (by omega) k 0 0 (by omega) (by omega) (by rw [List.drop_zero, lines_flatten]; omega)
  rw [show (0 : Int) = ((0 : Nat) : Int) from rfl, this, Nat.zero_add]
  rfl
theorem ext_list {s t : ByteArray} (h : s.data.toList = t.data.toList) : s = t := ByteArray.ext (Array.toList_inj.1 h)
theorem extract_list (s : ByteArray) (a b : Nat) : (s.extract a b).data.toList = (s.data.toList.take b).drop a := by
  simp [ByteArray.data_extract, List.drop_take]
def blk (b : UInt8) : Bool := b == 32 || b == 9
def stripR (l : List UInt8) : List UInt8 := (l.reverse.dropWhile blk).reverse
theorem stripR_cons (c : UInt8) (l : List UInt8) : stripR (c :: l) = if stripR l = [] then (if blk c then [] else [c]) else c :: stripR l := by
  unfold stripR
  rw [List.reverse_cons, List.dropWhile_append]
  by_cases h : List.dropWhile blk l.reverse = []
  · rw [h]
    simp only [List.isEmpty_nil, if_true, List.reverse_nil]
    by_cases hc : blk c = true
    · simp [List.dropWhile, hc]
    · simp [List.dropWhile, hc]
  · have h2 : (List.dropWhile blk l.reverse).isEmpty = false := by
      cases hh : List.dropWhile blk l.reverse with
      | nil => exact absurd hh h
      | cons _ _ => rfl
    rw [h2, if_neg (by decide), if_neg (by simpa using h), List.reverse_append]
    rfl
theorem strip_comm : ∀ l : List UInt8, (stripR l).dropWhile blk = stripR (l.dropWhile blk)
  | [] => rfl
  | c :: l => by
    have ih := strip_comm l
    rw [stripR_cons]
    by_cases hc : blk c = true
    · have hd : List.dropWhile blk (c :: l) = List.dropWhile blk l := by simp [List.dropWhile, hc]
      rw [hd]
      by_cases hs : stripR l = []
      · rw [if_pos hs, if_pos hc, ← ih, hs]
      · rw [if_neg hs, ← ih]
        simp [List.dropWhile, hc]
    · have hd : List.dropWhile blk (c :: l) = c :: l := by simp [List.dropWhile, hc]
      rw [hd, stripR_cons]
      split
      · simp [List.dropWhile, hc]
      · simp [List.dropWhile, hc]
def trimB (s : ByteArray) : ByteArray := ⟨(Lib.trimS s.data.toList [32, 9]).toArray⟩
theorem contains_blk (b : UInt8) : List.contains [32, 9] b = blk b := by
  unfold blk
  simp only [List.contains, List.elem]
  cases b == 32 <;> cases b == 9 <;> rfl
theorem trimB_list (s : ByteArray) : (trimB s).data.toList = stripR (s.data.toList.dropWhile blk) := by
  have hp : (fun b => List.contains [32, 9] b) = blk := funext contains_blk
  unfold trimB Lib.trimS Lib.trimLeftS Lib.trimRightS
  rw [hp]
  exact strip_comm _
theorem stripR_le (l : List UInt8) : (stripR l).length ≤ l.length := by
  unfold stripR
  rw [List.length_reverse]
  have := (List.dropWhile_sublist blk (l := l.reverse)).length_le
  rwa [List.length_reverse] at this
theorem trimB_le (s : ByteArray) : (trimB s).size ≤ s.size := by
  rw [Lib.size_eq, Lib.size_eq, trimB_list]
  exact Nat.le_trans (stripR_le _) (List.dropWhile_sublist blk).length_le
theorem trim_eq (s : ByteArray) (h : s.size ≤ 9223372036854775807) : strings_Trim.f s ⟨#[32, 9]⟩ = some (trimB s) := by
  unfold strings_Trim.f trimB
  rw [if_pos ⟨h, by decide, by decide⟩]
theorem bt_nat (s : ByteArray) (i : Nat) (b : UInt8) (h : s.data.toList[i]? = some b) : bt s (i : Int) = (b.toNat : Int) := by
  have hi : i < s.size := by rw [Lib.size_eq]; exact (List.getElem?_eq_some_iff.1 h).1
  have h2 := Lib.data_getElem? s i hi
  rw [h] at h2
  unfold bt
  simp only [Int.toNat_natCast]
  rw [dif_pos hi, ← Option.some.inj h2]
def cix (s : ByteArray) : Int := Lib.indexByte s.data.toList 58
theorem indexByte_lt : ∀ (l : List UInt8) (c : UInt8), Lib.indexByte l c < l.length
  | [], _ => by unfold Lib.indexByte; decide
  | b :: l, c => by
    have := indexByte_lt l c
    unfold Lib.indexByte
    rw [List.length_cons]
    split
    · omega
    · split
      · omega
      · omega
theorem cut_colon (s : ByteArray) (hb : s.size ≤ 1000000) : strings_Cut.f s ⟨#[58]⟩ = some (if cix s = -1 then (s, ⟨#[]⟩, false) else (s.extract 0 (cix s).toNat, s.extract ((cix s).toNat + 1) s.size, true)) := by
  have hge := Lib.indexByte_ge s.data.toList 58
  have hlt := indexByte_lt s.data.toList 58
  have hsz := Lib.size_eq s
  unfold strings_Cut.f stringslite_Cut.f
  have hi : stringslite_Index.f s ⟨#[58]⟩ = some (cix s) := rfl
  have hone : ((⟨#[58]⟩ : ByteArray).size : Int) = 1 := rfl
  rw [hi, Option.bind_some, hone]
  unfold cix
  by_cases h : Lib.indexByte s.data.toList 58 = -1
  · rw [if_neg (by omega), if_pos h]
    rfl
  · rw [if_pos (by omega), if_pos (by omega), if_pos (by omega), w64 _ (by omega) (by omega), if_pos (by omega), if_pos (by omega), if_neg h, show (Lib.indexByte s.data.toList 58 + 1).toNat = (Lib.indexByte s.data.toList 58).toNat + 1 by omega]
    rfl
theorem contains_eq (s : ByteArray) (b : UInt8) (m : List UInt8) (h : s.data.toList = b :: m) : strings_ContainsAny.f (s.extract 0 1) ⟨#[32, 9]⟩ = some (blk b) := by
  have he : (s.extract 0 1).data.toList = [b] := by rw [extract_list, h]; rfl
  have hsz : (s.extract 0 1).size = 1 := by rw [Lib.size_eq, he]; rfl
  unfold strings_ContainsAny.f
  rw [if_pos ⟨by decide, by decide, by decide⟩, hsz, he]
  by_cases ha : b.toNat < 128
  · rw [if_pos ⟨by decide, by unfold asciiB; rw [he]; simpa using ha⟩]
    congr 1
    unfold Lib.containsAny Lib.indexAny
    show decide (0 ≤ if List.contains [32, 9] b = true then (0 : Int) else _) = blk b
    rw [contains_blk]
    by_cases hb : blk b = true
    · rw [if_pos hb, hb]; rfl
    · rw [if_neg hb, Bool.eq_false_iff.2 hb]
      rfl
  · rw [if_neg (by rintro ⟨_, h2⟩; unfold asciiB at h2; rw [he] at h2; simp at h2; omega), if_pos rfl]
    congr 1
    unfold blk
    have h1 : (b == 32) = false := by rw [beq_eq_false_iff_ne]; rintro rfl; exact ha (by decide)
    have h2 : (b == 9) = false := by rw [beq_eq_false_iff_ne]; rintro rfl; exact ha (by decide)
    rw [h1, h2]
    rfl
theorem fl_take : ∀ (l : List Int) (n : Nat), fl (l.take (fl l + n)) = fl l
  | [], _ => by simp [fl]
  | c :: l, n => by
    by_cases hc : c = 10
    · rw [fl_ten hc, Nat.add_comm 1 n, List.take_succ_cons, fl_ten hc]
    · rw [fl_other hc, show fl l + 1 + n = (fl l + n) + 1 by omega, List.take_succ_cons, fl_other hc, fl_take l n]
theorem lines_take {l : List Int} (h : l ≠ []) (n : Nat) : lines (l.take (fl l + n)) = l.take (fl l) :: lines ((l.drop (fl l)).take n) := by
  have hp := fl_pos h
  have hle := fl_le l
  have hne : l.take (fl l + n) ≠ [] := by
    intro he
    have h1 : (l.take (fl l + n)).length = 0 := by rw [he]; rfl
    rw [List.length_take] at h1
    omega
  rw [lines_ne hne, fl_take, List.take_take, List.drop_take, Nat.min_eq_left (by omega), show fl l + n - fl l = n by omega]
def heads : List (List Int) → List (List Int)
  | [] => []
  | x :: xs => if txt x = [] then [x] else x :: heads xs
theorem heads_cons (x : List Int) (xs : List (List Int)) : heads (x :: xs) = if txt x = [] then [x] else x :: heads xs := rfl
theorem upto_cons (x : List Int) (xs : List (List Int)) : upto (x :: xs) = if txt x = [] then x.length else x.length + upto xs := rfl
theorem lines_head (l : List Int) : lines (l.take (hend l)) = heads (lines l) := by
  induction l using line_ind with
  | h0 => rfl
  | h1 l hl ih =>
    have hle := fl_le l
    have hx : (l.take (fl l)).length = fl l := by rw [List.length_take]; omega
    unfold hend at ih ⊢
    rw [lines_ne hl, upto_cons, heads_cons, hx]
    by_cases ht : txt (l.take (fl l)) = []
    · rw [if_pos ht, if_pos ht]
      have := lines_take hl 0
      simpa [lines_nil] using this
    · rw [if_neg ht, if_neg ht, lines_take hl, ih]
theorem map_txt_flat : ∀ ls : List (List Int), (ls.map txt).flatten.length ≤ ls.flatten.length
  | [] => Nat.le_refl _
  | x :: xs => by
    have := map_txt_flat xs
    have := txt_le x
    rw [List.map_cons, List.flatten_cons, List.flatten_cons, List.length_append, List.length_append]
    omega
theorem mem_flat_le {ls : List (List Int)} {x : List Int} (h : x ∈ ls) : x.length ≤ ls.flatten.length := by
  induction ls with
  | nil => cases h
  | cons y ys ih =>
    rw [List.flatten_cons, List.length_append]
    rcases List.mem_cons.1 h with rfl | h
    · omega
    · have := ih h
      omega
abbrev St : Type := List S106 × Bool
def first (t : List Int) : UInt8 := UInt8.ofNat (t.getD 0 0).toNat
def fstep (st : St) (t : List Int) : St :=
  if blk (first t) = true then
    if st.2 = true then (st.1.set (st.1.length - 1) ⟨(st.1.getD (st.1.length - 1) z106).f0, (st.1.getD (st.1.length - 1) z106).f1 ++ ((⟨#[32]⟩ : ByteArray) ++ trimB (strOfNums t))⟩, true) else (st.1, false)
  else if cix (strOfNums t) = -1 then (st.1, false)
  else (st.1 ++ [⟨trimB ((strOfNums t).extract 0 (cix (strOfNums t)).toNat), trimB ((strOfNums t).extract ((cix (strOfNums t)).toNat + 1) (strOfNums t).size)⟩], true)
def fgo : List (List Int) → St → List S106
  | [], st => st.1
  | t :: ts, st => if t = [] then fgo ts st else fgo ts (fstep st t)
def fgoR : List (List Int) → St → List S106
  | [], st => st.1
  | t :: ts, st => if t = [] then st.1 else fgoR ts (fstep st t)
theorem fgo_heads : ∀ (ls : List (List Int)) (st : St), fgoR ((heads ls).map txt) st = fgo ((heads ls).map txt) st
  | [], _ => rfl
  | x :: xs, st => by
    rw [heads_cons]
    by_cases ht : txt x = []
    · rw [if_pos ht, List.map_cons, ht]
      rfl
    · rw [if_neg ht, List.map_cons]
      unfold fgoR fgo
      rw [if_neg ht, if_neg ht, fgo_heads xs]
theorem str_list {t : List Int} (h : t ≠ []) : (strOfNums t).data.toList = first t :: (t.drop 1).map fun n => UInt8.ofNat n.toNat := by
  cases t with
  | nil => exact absurd rfl h
  | cons c t => rfl
theorem rd_TF_nat (xs : List S106) (i : Nat) : rd_T106 xs (i : Int) = xs.getD i z106 := by unfold rd_T106; rw [Int.toNat_natCast]
theorem getD_le {xs : List S106} {B : Nat} (h : ∀ f ∈ xs, f.f1.size ≤ B) (i : Nat) (hi : i < xs.length) : (xs.getD i z106).f1.size ≤ B := by
  rw [List.getD_eq_getElem?_getD, List.getElem?_eq_getElem hi]
  exact h _ (List.getElem_mem hi)
theorem fstep_le {st : St} {t : List Int} {B : Nat} (h : ∀ f ∈ st.1, f.f1.size ≤ B) (ho : st.2 = true → st.1 ≠ []) : ∀ f ∈ (fstep st t).1, f.f1.size ≤ B + t.length + 1 := by
  have hs : (strOfNums t).size = t.length := by simp [strOfNums, ByteArray.size]
  have ht := trimB_le (strOfNums t)
  unfold fstep
  intro f hf
  split at hf
  · split at hf
    · rename_i hop
      have hne := List.length_pos_iff.2 (ho hop)
      rcases List.mem_or_eq_of_mem_set hf with hf | rfl
      · have := h f hf; omega
      · have := getD_le h (st.1.length - 1) (by omega)
        simp only [ByteArray.size_append]
        have h1 : (⟨#[32]⟩ : ByteArray).size = 1 := rfl
        omega
    · have := h f hf; omega
  · split at hf
    · have := h f hf; omega
    · rcases List.mem_append.1 hf with hf | hf
      · have := h f hf; omega
      · obtain rfl := List.mem_singleton.1 hf
        have h1 := trimB_le ((strOfNums t).extract ((cix (strOfNums t)).toNat + 1) (strOfNums t).size)
        have h2 : ((strOfNums t).extract ((cix (strOfNums t)).toNat + 1) (strOfNums t).size).size ≤ (strOfNums t).size := by
          rw [Lib.size_eq, Lib.size_eq, extract_list, List.length_drop, List.length_take]
          omega
        simp only
        omega
theorem fstep_open {st : St} {t : List Int} (ho : st.2 = true → st.1 ≠ []) : (fstep st t).2 = true → (fstep st t).1 ≠ [] := by
  unfold fstep
  split
  · split
    · rename_i hop
      intro _ h
      have := congrArg List.length h
      rw [List.length_set] at this
      exact ho hop (List.eq_nil_of_length_eq_zero this)
    · intro h; cases h
  · split
    · intro h; cases h
    · intro _ h; simp at h
theorem fstep_len (st : St) (t : List Int) : (fstep st t).1.length ≤ st.1.length + 1 := by
  unfold fstep
  split
  · split <;> simp
  · split <;> simp
def lastI (st : St) : Int := if st.2 = true then (st.1.length : Int) - 1 else -1
theorem UFields_l100 (ls : List (List Int)) (hb : ∀ x ∈ ls, Byt x) (hn : ls.length ≤ 100000) : ∀ (k i : Nat) (st : St) (B : Nat), i ≤ ls.length → ls.length - i < k → st.1.length + (ls.length - i) ≤ 200000 → (∀ f ∈ st.1, f.f1.size ≤ B) → B + (ls.drop i).flatten.length + (ls.length - i) ≤ 1000000 → (st.2 = true → st.1 ≠ []) →
    head_Fields.l100 k st.1 ls (lastI st) ((i : Int) - 1) = some (fgo ((ls.drop i).map txt) st)
  | 0, _, _, _, _, h, _, _, _, _ => absurd h (by omega)
  | k + 1, i, st, B, hi, hk, hlen, hB, hsum, ho => by
    unfold head_Fields.l100
    rw [w64 _ (by omega) (by omega), show ((i : Int) - 1 + 1) = (i : Int) by omega]
    by_cases hlt : i < ls.length
    · have hf := flat_at hlt
      have hbt := (hb _ (getD_mem hlt)).txt
      have hlt2 := txt_le (ls.getD i [])
      rw [if_neg (by omega), if_pos (by omega), if_pos (by omega), rd_L1_nat, text_eq _ (hb _ (getD_mem hlt)) (by omega), Option.bind_some, drop_atL hlt, List.map_cons]
      unfold fgo
      generalize txt (ls.getD i []) = t at hbt hlt2
      have hss : (strOfNums t).size = t.length := by simp [strOfNums, ByteArray.size]
      have next : ∀ (st' : St) (B' : Nat), (∀ f ∈ st'.1, f.f1.size ≤ B') → B' + (ls.drop (i + 1)).flatten.length + (ls.length - (i + 1)) ≤ 1000000 → st'.1.length ≤ st.1.length + 1 → (st'.2 = true → st'.1 ≠ []) → head_Fields.l100 k st'.1 ls (lastI st') (i : Int) = some (fgo ((ls.drop (i + 1)).map txt) st') := by
        intro st' B' h1 h2 h3 h4
        have := UFields_l100 ls hb hn k (i + 1) st' B' (by omega) (by omega) (by omega) h1 h2 h4
        rwa [show (((i + 1 : Nat) : Int) - 1) = (i : Int) by omega] at this
      by_cases ht : t = []
      · have h0 : (strOfNums t).toList = [] := by rw [ht, Lib.toList_data]; rfl
        rw [if_pos h0, if_pos ht]
        exact next st B hB (by omega) (by omega) ho
      · have hsl := str_list ht
        have htp := List.length_pos_iff.2 ht
        have h0 : ¬ (strOfNums t).toList = [] := by
          rw [Lib.toList_data, hsl]
          simp
        have htr := trimB_le (strOfNums t)
        rw [if_neg h0, if_neg ht, if_pos (by decide), if_pos (by omega), contains_eq _ _ _ hsl, Option.bind_some]
        have nx := next (fstep st t) (B + t.length + 1) (fstep_le hB ho) (by omega) (fstep_len st t) (fstep_open ho)
        by_cases hbl : blk (first t) = true
        · rw [if_pos hbl]
          by_cases hop : st.2 = true
          · have hne := List.length_pos_iff.2 (ho hop)
            have hg := getD_le hB (st.1.length - 1) (by omega)
            have hstep : fstep st t = (st.1.set (st.1.length - 1) ⟨(st.1.getD (st.1.length - 1) z106).f0, (st.1.getD (st.1.length - 1) z106).f1 ++ ((⟨#[32]⟩ : ByteArray) ++ trimB (strOfNums t))⟩, true) := by
              unfold fstep
              rw [if_pos hbl, if_pos hop]
            have hl : lastI st = ((st.1.length - 1 : Nat) : Int) := by unfold lastI; rw [if_pos hop]; omega
            rw [hl, if_pos (by omega), if_pos (by omega), if_pos (by omega), trim_eq _ (by omega), Option.bind_some, if_pos (by omega), rd_TF_nat, if_pos (by omega), Int.toNat_natCast]
            have hl2 : lastI (fstep st t) = ((st.1.length - 1 : Nat) : Int) := by
              rw [hstep]
              unfold lastI
              rw [if_pos rfl, List.length_set]
              omega
            rw [hl2] at nx
            rw [hstep] at nx ⊢
            exact nx
          · have hl : lastI st = -1 := by unfold lastI; rw [if_neg hop]
            have hstep : fstep st t = (st.1, false) := by
              unfold fstep
              rw [if_pos hbl, if_neg hop]
            have hl2 : lastI (fstep st t) = -1 := by rw [hstep]; rfl
            rw [hl, if_neg (by decide)]
            rw [hl2] at nx
            rw [hstep] at nx ⊢
            exact nx
        · rw [if_neg hbl, cut_colon _ (by omega), Option.bind_some]
          by_cases hc : cix (strOfNums t) = -1
          · have hstep : fstep st t = (st.1, false) := by
              unfold fstep
              rw [if_neg hbl, if_pos hc]
            have hl2 : lastI (fstep st t) = -1 := by rw [hstep]; rfl
            rw [if_pos hc, if_neg (by simp)]
            rw [hl2] at nx
            rw [hstep] at nx ⊢
            exact nx
          · have hstep : fstep st t = (st.1 ++ [⟨trimB ((strOfNums t).extract 0 (cix (strOfNums t)).toNat), trimB ((strOfNums t).extract ((cix (strOfNums t)).toNat + 1) (strOfNums t).size)⟩], true) := by
              unfold fstep
              rw [if_neg hbl, if_neg hc]
            have hl2 : lastI (fstep st t) = (st.1.length : Int) := by
              rw [hstep]
              unfold lastI
              rw [if_pos rfl, List.length_append, List.length_singleton]
              omega
            have e1 : ((strOfNums t).extract 0 (cix (strOfNums t)).toNat).size ≤ (strOfNums t).size := by
              rw [Lib.size_eq, Lib.size_eq, extract_list, List.length_drop, List.length_take]
              omega
            have e2 : ((strOfNums t).extract ((cix (strOfNums t)).toNat + 1) (strOfNums t).size).size ≤ (strOfNums t).size := by
              rw [Lib.size_eq, Lib.size_eq, extract_list, List.length_drop, List.length_take]
              omega
            rw [if_neg hc]
            simp only [if_true]
            rw [trim_eq _ (by omega), Option.bind_some, trim_eq _ (by omega), Option.bind_some, if_pos (by omega)]
            rw [hl2] at nx
            rw [hstep] at nx ⊢
            exact nx
    · obtain rfl : i = ls.length := by omega
      rw [if_pos (by omega), List.drop_length]
      rfl
theorem UFields_eq (k : Nat) (l : List Int) (hb : Byt l) (hl : l.length ≤ 50000) (hk : l.length + 1 < k) : head_Fields.f k l = some (fgo ((heads (lines l)).map txt) ([], false)) := by
  have h1 := hend_le l
  have ht : (l.take (hend l)).length ≤ l.length := by rw [List.length_take]; omega
  have h2 := lines_length_le (l.take (hend l))
  unfold head_Fields.f
  rw [end_eq k l hb (by omega) hk, Option.bind_some, if_pos (by omega), if_pos (by omega), Int.toNat_natCast, cut_eq k _ (hb.take _) (by omega) (by omega), Option.bind_some]
  have := UFields_l100 (lines (l.take (hend l))) (fun x hx => (hb.take _).line hx) (by omega) k 0 ([], false) 0 (by omega) (by omega) (by simp only [List.length_nil]; omega) (fun f hf => by cases hf) (by rw [List.drop_zero, lines_flatten]; omega) (fun h => by cases h)
  rw [List.drop_zero, lines_head] at this
  rw [lines_head]
  exact this
def texts (l : List Int) : List (List Int) := (heads (lines l)).map txt
theorem texts_flat (l : List Int) : (texts l).flatten.length ≤ l.length := by
  unfold texts
  rw [← lines_head]
  have h1 := map_txt_flat (lines (l.take (hend l)))
  rw [lines_flatten, List.length_take] at h1
  omega
def fields (l : List Int) : List S106 := fgo (texts l) ([], false)
def low8 (b : UInt8) : UInt8 := UInt8.ofNat (lowI (b.toNat : Int)).toNat
theorem lowB_list (s : ByteArray) : (lowB s).data.toList = s.data.toList.map low8 := by
  unfold lowB
  rw [strOfNums_data]
  unfold bytesOf
  rw [List.map_map, List.map_map]
  rfl
def same (a b : ByteArray) : Bool := a.data.toList.map low8 == b.data.toList.map low8
theorem small_eq (b : UInt8) : head_small.f (b.toNat : Int) = some (lowI (b.toNat : Int)) := by
  have := UInt8.toNat_lt b
  unfold head_small.f lowI
  by_cases h1 : (b.toNat : Int) ≥ 65
  · by_cases h2 : (b.toNat : Int) ≤ 90
    · rw [if_pos h1, if_pos h2, if_pos ⟨h1, h2⟩]
      congr 1
      omega
    · rw [if_pos h1, if_neg h2, if_neg (by omega)]
  · rw [if_neg h1, if_neg (by omega)]
theorem low8_eq (x y : UInt8) : low8 x = low8 y ↔ lowI (x.toNat : Int) = lowI (y.toNat : Int) := by
  have h1 := UInt8.toNat_lt x
  have h2 := UInt8.toNat_lt y
  have r : ∀ n : Nat, n < 256 → 0 ≤ lowI (n : Int) ∧ lowI (n : Int) < 256 := by
    intro n hn
    unfold lowI
    split <;> omega
  exact u8_eq (r _ h1) (r _ h2)
theorem USame_l0 (a b : ByteArray) (hs : a.size = b.size) (ha : a.size ≤ 9223372036854775807) : ∀ (k i : Nat), i ≤ a.size → a.size - i < k → head_Same.l0 k a b a.size i = some ((a.data.toList.drop i).map low8 == (b.data.toList.drop i).map low8)
  | 0, _, _, h => absurd h (by omega)
  | k + 1, i, hi, hk => by
    have h1 := Lib.size_eq a
    have h2 := Lib.size_eq b
    unfold head_Same.l0
    by_cases hlt : i < a.size
    · have ha2 : i < a.data.toList.length := by omega
      have hb2 : i < b.data.toList.length := by omega
      have hwr : wrap64 ((i : Int) + 1) = ((i + 1 : Nat) : Int) := by unfold wrap64; omega
      rw [if_pos (by omega), if_pos (by omega), if_pos (by omega), bt_nat a i _ (List.getElem?_eq_getElem ha2), small_eq, Option.bind_some, if_pos (by omega), bt_nat b i _ (List.getElem?_eq_getElem hb2), small_eq, Option.bind_some, hwr, List.drop_eq_getElem_cons ha2, List.drop_eq_getElem_cons hb2, List.map_cons, List.map_cons]
      by_cases he : lowI (a.data.toList[i].toNat : Int) = lowI (b.data.toList[i].toNat : Int)
      · rw [if_pos he, (low8_eq _ _).2 he, USame_l0 a b hs ha k (i + 1) (by omega) (by omega)]
        congr 1
        rw [Bool.eq_iff_iff, beq_iff_eq, beq_iff_eq]
        exact ⟨fun h => by rw [h], fun h => (List.cons.inj h).2⟩
      · rw [if_neg he]
        congr 1
        refine (beq_eq_false_iff_ne.2 fun h => he ((low8_eq _ _).1 (List.cons.inj h).1)).symm
    · obtain rfl : i = a.size := by omega
      rw [if_neg (by omega), h1, List.drop_length, ← h1, hs, h2, List.drop_length]
      rfl
theorem USame_eq (k : Nat) (a b : ByteArray) (ha : a.size ≤ 9223372036854775807) (hk : a.size < k) : head_Same.f k a b = some (same a b) := by
  unfold head_Same.f same
  by_cases hs : a.size = b.size
  · rw [if_pos (by omega), show (0 : Int) = ((0 : Nat) : Int) from rfl, USame_l0 a b hs ha k 0 (by omega) (by omega)]
    rfl
  · rw [if_neg (by omega)]
    congr 1
    refine (beq_eq_false_iff_ne.2 fun h => hs ?_).symm
    have := congrArg List.length h
    rw [List.length_map, List.length_map] at this
    rw [Lib.size_eq, Lib.size_eq, this]
def fget (name : ByteArray) : List S106 → ByteArray × Bool
  | [] => (⟨#[]⟩, false)
  | f :: fs => if same f.f0 name = true then (f.f1, true) else fget name fs
theorem drop_F {xs : List S106} {i : Nat} (h : i < xs.length) : xs.drop i = xs.getD i z106 :: xs.drop (i + 1) := by
  rw [List.drop_eq_getElem_cons h, List.getD_eq_getElem?_getD, List.getElem?_eq_getElem h]
  rfl
theorem getD_F {xs : List S106} {i : Nat} (h : i < xs.length) : xs.getD i z106 ∈ xs := by
  rw [List.getD_eq_getElem?_getD, List.getElem?_eq_getElem h]
  exact List.getElem_mem h
theorem UGet_l0 (name : ByteArray) (F : List S106) (N : Nat) (hF : ∀ f ∈ F, f.f0.size ≤ N) (hN : N ≤ 100000) (hn : F.length ≤ 1000000) : ∀ (k i : Nat), i ≤ F.length → F.length - i + N < k → head_Get.l0 k name F F.length i = some (fget name (F.drop i))
  | 0, _, _, h => absurd h (by omega)
  | k + 1, i, hi, hk => by
    unfold head_Get.l0
    by_cases hlt : i < F.length
    · have := hF _ (getD_F hlt)
      rw [if_pos (by omega), if_pos (by omega), if_pos (by omega), rd_TF_nat, USame_eq k _ _ (by omega) (by omega), Option.bind_some, drop_F hlt]
      unfold fget
      by_cases h : same (F.getD i z106).f0 name = true
      · rw [if_pos h, if_pos h]
      · rw [if_neg h, if_neg h, w64 _ (by omega) (by omega)]
        exact UGet_l0 name F N hF hN hn k (i + 1) (by omega) (by omega)
    · obtain rfl : i = F.length := by omega
      rw [if_neg (by omega), List.drop_length]
      rfl
theorem fstep_f0 {st : St} {t : List Int} {N : Nat} (h : ∀ f ∈ st.1, f.f0.size ≤ N) (ho : st.2 = true → st.1 ≠ []) (ht : t.length ≤ N) : ∀ f ∈ (fstep st t).1, f.f0.size ≤ N := by
  have hs : (strOfNums t).size = t.length := by simp [strOfNums, ByteArray.size]
  unfold fstep
  intro f hf
  split at hf
  · split at hf
    · rename_i hop
      have hne := List.length_pos_iff.2 (ho hop)
      rcases List.mem_or_eq_of_mem_set hf with hf | rfl
      · exact h f hf
      · show ((st.1.getD (st.1.length - 1) z106).f0).size ≤ N
        exact h _ (getD_F (by omega))
    · exact h f hf
  · split at hf
    · exact h f hf
    · rcases List.mem_append.1 hf with hf | hf
      · exact h f hf
      · obtain rfl := List.mem_singleton.1 hf
        have h1 := trimB_le ((strOfNums t).extract 0 (cix (strOfNums t)).toNat)
        have h2 : ((strOfNums t).extract 0 (cix (strOfNums t)).toNat).size ≤ (strOfNums t).size := by
          rw [Lib.size_eq, Lib.size_eq, extract_list, List.length_drop, List.length_take]
          omega
        simp only
        omega
theorem fgo_f0 (N : Nat) : ∀ (ts : List (List Int)) (st : St), (∀ t ∈ ts, t.length ≤ N) → (∀ f ∈ st.1, f.f0.size ≤ N) → (st.2 = true → st.1 ≠ []) → (∀ f ∈ fgo ts st, f.f0.size ≤ N) ∧ (fgo ts st).length ≤ st.1.length + ts.length
  | [], st, _, h, _ => ⟨h, by unfold fgo; omega⟩
  | t :: ts, st, ht, h, ho => by
    unfold fgo
    have h1 : ∀ t ∈ ts, t.length ≤ N := fun t hh => ht t (List.mem_cons_of_mem _ hh)
    split
    · have := fgo_f0 N ts st h1 h ho
      exact ⟨this.1, by rw [List.length_cons]; omega⟩
    · have := fgo_f0 N ts (fstep st t) h1 (fstep_f0 h ho (ht t List.mem_cons_self)) (fstep_open ho)
      have h2 := fstep_len st t
      exact ⟨this.1, by rw [List.length_cons]; omega⟩
theorem fields_ok (l : List Int) : (∀ f ∈ fields l, f.f0.size ≤ l.length) ∧ (fields l).length ≤ l.length := by
  have h3 := texts_flat l
  have h2 := lines_length_le (l.take (hend l))
  have h4 : (texts l).length ≤ l.length := by
    unfold texts
    rw [← lines_head, List.length_map]
    rw [List.length_take] at h2
    omega
  have := fgo_f0 l.length (texts l) ([], false) (fun t h => Nat.le_trans (mem_flat_le h) h3) (fun f hf => by cases hf) (fun h => by cases h)
  exact ⟨this.1, by have h5 := this.2; simp only [List.length_nil] at h5; unfold fields; omega⟩
theorem UGet_eq (k : Nat) (l : List Int) (name : ByteArray) (hb : Byt l) (hl : l.length ≤ 50000) (hk : 2 * l.length + 1 < k) : head_Get.f k l name = some (fget name (fields l)) := by
  have h := fields_ok l
  unfold head_Get.f
  rw [UFields_eq k l hb hl (by omega), Option.bind_some, show fgo ((heads (lines l)).map txt) ([], false) = fields l from rfl, show (0 : Int) = ((0 : Nat) : Int) from rfl, UGet_l0 name (fields l) l.length h.1 (by omega) (by omega) k 0 (by omega) (by omega), List.drop_zero]
theorem UBody_eq (k : Nat) (l : List Int) (hb : Byt l) (hl : l.length ≤ 50000) (hk : l.length + 1 < k) : head_Body.f k l = some (l.drop (hend l)) := by
  have h1 := hend_le l
  unfold head_Body.f bytes_Clone.f
  rw [end_eq k l hb (by omega) hk, Option.bind_some, if_pos (by omega), if_pos (by omega), Int.toNat_natCast, if_pos (by rw [List.length_drop]; omega)]
  rfl
end Go.Proofs.YtfabaenfglionaaGreatDoor.Pure
