/- What the program's functions of chapter 9 compute: cut, text, end. -/
import Derived.Test.YtlicjigofnbpjaaDoorHeadImpl0
import Derived.Test.YtlicjigofnbpjaaDoorPx2
namespace Go.Proofs.YtlicjigofnbpjaaDoor.Pure
open Go.RowKit Go.Proofs.YtlicjigofnbpjaaDoor Go.Proofs.YtlicjigofnbpjaaDoor.P Go.Proofs.YtlicjigofnbpjaaDoor.Spec Go.Proofs.YtlicjigofnbpjaaDoorW.PrintWords Go.Proofs.YtlicjigofnbpjaaDoorW.PrintLast Go.Proofs.YtlicjigofnbpjaaDoorW.PrintMore

/-- Bytes. -/
def Byt (l : List Int) : Prop := ∀ x ∈ l, 0 ≤ x ∧ x < 256
theorem Byt.tail {c : Int} {l : List Int} (h : Byt (c :: l)) : Byt l := fun x hx => h x (List.mem_cons_of_mem _ hx)
theorem Byt.head {c : Int} {l : List Int} (h : Byt (c :: l)) : 0 ≤ c ∧ c < 256 := h c List.mem_cons_self
theorem Byt.drop {l : List Int} (h : Byt l) (n : Nat) : Byt (l.drop n) := fun x hx => h x (List.mem_of_mem_drop hx)
theorem Byt.take {l : List Int} (h : Byt l) (n : Nat) : Byt (l.take n) := fun x hx => h x (List.mem_of_mem_take hx)
theorem Byt.line {l x : List Int} (h : Byt l) (hx : x ∈ lines l) : Byt x := fun c hc => h c (lines_mem_mem hx hc)
theorem Byt.txt {l : List Int} (h : Byt l) : Byt (txt l) := fun x hx => h x (txt_mem hx)
theorem u8_eq {x c : Int} (hx : 0 ≤ x ∧ x < 256) (hc : 0 ≤ c ∧ c < 256) : (UInt8.ofNat x.toNat = UInt8.ofNat c.toNat) ↔ x = c := by
  constructor
  · intro h
    have := congrArg UInt8.toNat h
    simp only [UInt8.toNat_ofNat'] at this
    omega
  · rintro rfl
    rfl
theorem index_ten {l : List Int} (h : Byt l) : Lib.indexByte (Lib.bytesOf l) (10 : Int).toNat.toUInt8 = if (10 : Int) ∈ l then (fl l : Int) - 1 else -1 := by
  induction l with
  | nil => rfl
  | cons c l ih =>
    have ih := ih h.tail
    have hb : Lib.bytesOf (c :: l) = UInt8.ofNat c.toNat :: Lib.bytesOf l := rfl
    rw [hb]
    unfold Lib.indexByte
    by_cases hc : c = 10
    · subst hc
      rw [fl_ten rfl]
      simp
    · have hne : (UInt8.ofNat c.toNat == (10 : Int).toNat.toUInt8) = false := by
        rw [beq_eq_false_iff_ne]
        intro he
        exact hc ((u8_eq h.head ⟨by decide, by decide⟩).1 he)
      rw [hne, ih, fl_other hc]
      by_cases hm : (10 : Int) ∈ l
      · have hp := fl_pos (l := l) (by rintro rfl; cases hm)
        rw [if_pos hm, if_pos (List.mem_cons_of_mem _ hm)]
        have h1 : (((fl l : Int) - 1) == -1) = false := beq_eq_false_iff_ne.2 (by omega)
        rw [h1, if_neg (by decide), if_neg (by decide)]
        omega
      · have hm2 : ¬ (10 : Int) ∈ c :: l := by
          intro hh
          rcases List.mem_cons.1 hh with h1 | h1
          · exact hc h1.symm
          · exact hm h1
        rw [if_neg hm, if_neg hm2, if_neg (by decide)]
        rfl
theorem count_ten {l : List Int} (h : Byt l) : Lib.countByte (Lib.bytesOf l) (10 : Int).toNat.toUInt8 = l.count 10 := by
  unfold Lib.countByte
  induction l with
  | nil => rfl
  | cons c l ih =>
    have ih := ih h.tail
    have hb : Lib.bytesOf (c :: l) = UInt8.ofNat c.toNat :: Lib.bytesOf l := rfl
    rw [hb, List.count_cons, List.count_cons, ih]
    congr 1
    by_cases hc : c = 10
    · subst hc; rfl
    · have h1 : (UInt8.ofNat c.toNat == (10 : Int).toNat.toUInt8) = false := by
        rw [beq_eq_false_iff_ne]
        intro he
        exact hc ((u8_eq h.head ⟨by decide, by decide⟩).1 he)
      have h2 : (c == (10 : Int)) = false := beq_eq_false_iff_ne.2 hc
      rw [h1, h2]
theorem pieces_in {l : List Int} (h : (10 : Int) ∈ l) : pieces l = l.take (fl l) :: pieces (l.drop (fl l)) := by
  induction l with
  | nil => cases h
  | cons c l ih =>
    by_cases hc : c = 10
    · rw [fl_ten hc]
      conv => lhs; unfold pieces
      rw [if_pos hc]
      simp [hc]
    · have hm : (10 : Int) ∈ l := by rcases List.mem_cons.1 h with h1 | h1; exact absurd h1.symm hc; exact h1
      rw [fl_other hc]
      conv => lhs; unfold pieces
      rw [if_neg hc, ih hm, List.drop_succ_cons, List.take_succ_cons]
theorem pieces_out {l : List Int} (h : ¬ (10 : Int) ∈ l) : pieces l = [l] := by
  induction l with
  | nil => rfl
  | cons c l ih =>
    conv => lhs; unfold pieces
    rw [if_neg (by intro hc; exact h (by simp [hc])), ih (fun hm => h (List.mem_cons_of_mem _ hm))]
theorem count_fl {l : List Int} (h : (10 : Int) ∈ l) : l.count 10 = (l.drop (fl l)).count 10 + 1 := by
  induction l with
  | nil => cases h
  | cons c l ih =>
    by_cases hc : c = 10
    · rw [fl_ten hc, List.count_cons]
      simp [hc]
    · have hm : (10 : Int) ∈ l := by rcases List.mem_cons.1 h with h1 | h1; exact absurd h1.symm hc; exact h1
      rw [fl_other hc, List.count_cons, List.drop_succ_cons, ih hm]
      simp [hc]
theorem take_set {α : Type} (l : List α) (i : Nat) (x : α) (h : i < l.length) : (l.set i x).take (i + 1) = l.take i ++ [x] := by
  rw [List.take_succ_eq_append_getElem (by simpa using h), List.getElem_set_self, List.take_set_of_le (Nat.le_refl _)]
theorem genSplit_l0 (n : Nat) (hn : n ≤ 1000000) : ∀ (k i : Nat) (s : List Int) (a : List (List Int)), Byt s → s.length ≤ 1000000 → i + s.count 10 = n → a.length = n + 1 → s.count 10 < k → G.bytes_genSplit.l0 k s [10] 1 n a i = some (a.take i ++ pieces s)
  | 0, _, _, _, _, _, _, _, h => absurd h (by omega)
  | k + 1, i, s, a, hb, hl, hi, ha, hk => by
    have hfl := fl_le s
    unfold G.bytes_genSplit.l0
    by_cases hm : (10 : Int) ∈ s
    · have hc := count_fl hm
      have hp := fl_pos (l := s) (by rintro rfl; cases hm)
      have hix : bytes_Index.f s [10] = some ((fl s : Int) - 1) := by
        unfold bytes_Index.f
        simp only
        rw [index_ten hb, if_pos hm]
      rw [if_pos (by omega), hix, Option.bind_some, if_neg (by omega), w64 ((fl s : Int) - 1 + 1) (by omega) (by omega), if_pos (by omega), if_pos (by omega), if_pos (by omega), if_pos (by omega)]
      simp only [List.length_cons, List.length_nil]
      rw [w64 _ (by omega) (by omega), if_pos (by omega), if_pos (by omega), Int.toNat_natCast, show ((fl s : Int) - 1 + ((0 + 1 : Nat) : Int)).toNat = fl s by omega, show ((fl s : Int) - 1 + 1).toNat = fl s by omega, w64 _ (by omega) (by omega), show ((i : Int) + 1) = ((i + 1 : Nat) : Int) from rfl,
        genSplit_l0 n hn k (i + 1) _ _ (hb.drop _) (by rw [List.length_drop]; omega) (by omega) (by rw [List.length_set]; exact ha) (by omega), take_set _ _ _ (by omega), pieces_in hm, List.append_assoc]
      rfl
    · have hc : s.count 10 = 0 := List.count_eq_zero.2 hm
      rw [if_neg (by omega), if_pos (by omega), if_pos (by omega), w64 _ (by omega) (by omega), if_pos (by omega), if_pos (by omega), Int.toNat_natCast, show ((i : Int) + 1).toNat = i + 1 by omega, take_set _ _ _ (by omega), pieces_out hm]
theorem SplitAfter_eq (k : Nat) (l : List Int) (hb : Byt l) (hl : l.length ≤ 100000) (hk : l.length + 1 < k) : bytes_SplitAfter.f k l [10] = some (pieces l) := by
  obtain ⟨k, rfl⟩ : ∃ j, k = j + 1 := ⟨k - 1, by omega⟩
  have hc := List.count_le_length (a := (10 : Int)) (l := l)
  have hct : bytes_Count.f l [10] = some (l.count 10 : Int) := by
    unfold bytes_Count.f
    simp only
    rw [count_ten hb]
  unfold bytes_SplitAfter.f G.bytes_SplitAfter.f G.bytes_genSplit.f
  simp only [List.length_cons, List.length_nil]
  rw [if_neg (by omega), if_neg (by omega), if_pos (by omega), hct, Option.bind_some, w64 _ (by omega) (by omega)]
  rw [G.bytes_genSplit.j0]
  have hmn : mn ((l.count 10 : Int) + 1) (wrap64 ((l.length : Int) + 1)) = ((l.count 10 + 1 : Nat) : Int) := by
    rw [w64 _ (by omega) (by omega)]
    unfold mn
    rw [if_neg (by omega)]
    rfl
  rw [hmn, if_pos (by omega), Int.toNat_natCast, if_pos (by omega), w64 _ (by omega) (by omega), show (((l.count 10 + 1 : Nat) : Int) - 1) = ((l.count 10 : Nat) : Int) by omega, show (0 : Int) = ((0 : Nat) : Int) from rfl]
  have := genSplit_l0 (l.count 10) (by omega) k 0 l (List.replicate (l.count 10 + 1) []) hb (by omega) (by omega) (by simp) (by omega)
  simpa using this
theorem cut_eq (k : Nat) (l : List Int) (hb : Byt l) (hl : l.length ≤ 100000) (hk : l.length + 1 < k) : head_cut.f k l = some (lines l) := by
  unfold head_cut.f
  by_cases h0 : l = []
  · rw [if_pos (by simp [h0]), h0, lines_nil]
  · have hlp := List.length_pos_iff.2 h0
    have hpl := lines_length_le l
    rw [if_neg (by omega), SplitAfter_eq k l hb hl hk, Option.bind_some]
    rcases pieces_lines l with ⟨x, xs, h1, h2, h3⟩ | h
    · rw [h3, List.length_append, List.length_singleton] at hpl
      have hx := List.length_pos_iff.2 h2
      rw [h1, h3, List.length_append, List.length_singleton, w64 _ (by omega) (by omega), if_pos (by omega), if_pos (by omega), if_neg]
      unfold rd_L1
      rw [List.getD_eq_getElem?_getD, show (((xs.length + 1 : Nat) : Int) - 1).toNat = xs.length by omega, List.getElem?_append_right (Nat.le_refl _), Nat.sub_self]
      simp
      omega
    · rw [h, List.length_append, List.length_singleton, w64 _ (by omega) (by omega), if_pos (by omega), if_pos (by omega), if_pos, if_pos (by omega), show ((((lines l).length + 1 : Nat) : Int) - 1).toNat = (lines l).length by omega, List.take_left']
      · rfl
      · unfold rd_L1
        rw [List.getD_eq_getElem?_getD, show ((((lines l).length + 1 : Nat) : Int) - 1).toNat = (lines l).length by omega, List.getElem?_append_right (Nat.le_refl _), Nat.sub_self]
        rfl
theorem suffix_last (l : List Int) (c : Int) (hb : Byt l) (hc : 0 ≤ c ∧ c < 256) : Lib.hasSuffix (Lib.bytesOf l) (Lib.bytesOf [c]) = decide (l.getLast? = some c) := by
  unfold Lib.hasSuffix
  rw [Bool.eq_iff_iff, List.isSuffixOf_iff_suffix, decide_eq_true_eq]
  rcases List.eq_nil_or_concat l with rfl | ⟨m, x, rfl⟩
  · constructor
    · intro h
      have := h.length_le
      simp [Lib.bytesOf] at this
    · intro h; cases h
  · rw [List.concat_eq_append] at hb ⊢
    have hbx : 0 ≤ x ∧ x < 256 := hb x (by simp)
    rw [List.getLast?_concat]
    have e1 : Lib.bytesOf (m ++ [x]) = Lib.bytesOf m ++ [UInt8.ofNat x.toNat] := by simp [Lib.bytesOf]
    have e2 : Lib.bytesOf [c] = [UInt8.ofNat c.toNat] := rfl
    rw [e1, e2]
    constructor
    · intro h
      obtain ⟨t, ht⟩ := h
      have := (List.append_inj_right' ht rfl)
      injection this with this
      rw [(u8_eq hc hbx).1 this]
    · intro h
      injection h with h
      subst h
      exact ⟨_, rfl⟩
theorem TrimSuffix_eq (l : List Int) (c : Int) (hb : Byt l) (hc : 0 ≤ c ∧ c < 256) (hl : l.length ≤ 1000000) : bytes_TrimSuffix.f l [c] = some (strip c l) := by
  unfold bytes_TrimSuffix.f bytes_HasSuffix.f
  rw [Option.bind_some, suffix_last l c hb hc]
  unfold strip
  by_cases h : l.getLast? = some c
  · have hne : l ≠ [] := by rintro rfl; cases h
    have hp := List.length_pos_iff.2 hne
    rw [decide_eq_true h, if_pos rfl, if_pos h]
    simp only [List.length_cons, List.length_nil]
    rw [w64 _ (by omega) (by omega), if_pos (by omega), if_pos (by omega), List.dropLast_eq_take, show ((l.length : Int) - ((0 + 1 : Nat) : Int)).toNat = l.length - 1 by omega]
  · rw [decide_eq_false h, if_neg (by simp), if_neg h]
theorem text_eq (l : List Int) (hb : Byt l) (hl : l.length ≤ 1000000) : head_text.f l = some (txt l) := by
  unfold head_text.f txt
  have h1 := strip_le 10 l
  rw [TrimSuffix_eq l 10 hb ⟨by decide, by decide⟩ hl, Option.bind_some, TrimSuffix_eq _ 13 (fun x hx => hb x (strip_mem hx)) ⟨by decide, by decide⟩ (by omega), Option.bind_some]
theorem rd_L1_nat (ls : List (List Int)) (i : Nat) : rd_L1 ls (i : Int) = ls.getD i [] := by unfold rd_L1; rw [Int.toNat_natCast]
theorem drop_atL {ls : List (List Int)} {i : Nat} (h : i < ls.length) : ls.drop i = ls.getD i [] :: ls.drop (i + 1) := by
  rw [List.drop_eq_getElem_cons h, List.getD_eq_getElem?_getD, List.getElem?_eq_getElem h]
  rfl
theorem getD_mem {ls : List (List Int)} {i : Nat} (h : i < ls.length) : ls.getD i [] ∈ ls := by
  rw [List.getD_eq_getElem?_getD, List.getElem?_eq_getElem h]
  exact List.getElem_mem h
theorem flat_at {ls : List (List Int)} {i : Nat} (h : i < ls.length) : (ls.drop i).flatten.length = (ls.getD i []).length + (ls.drop (i + 1)).flatten.length := by
  rw [drop_atL h, List.flatten_cons, List.length_append]
theorem end_l0 (ls : List (List Int)) (hb : ∀ x ∈ ls, Byt x) (hn : ls.length ≤ 1000000) : ∀ (k i m : Nat), i ≤ ls.length → ls.length - i < k → m + (ls.drop i).flatten.length ≤ 1000000 → head_end.l0 k m ls ls.length i = some ((m + upto (ls.drop i) : Nat) : Int)
  | 0, _, _, _, h, _ => absurd h (by omega)
  | k + 1, i, m, hi, hk, hm => by
    unfold head_end.l0
    by_cases hlt : i < ls.length
    · have hf := flat_at hlt
      rw [if_pos (by omega), if_pos (by omega), if_pos (by omega), rd_L1_nat, text_eq _ (hb _ (getD_mem hlt)) (by omega), Option.bind_some, drop_atL hlt]
      unfold upto
      by_cases ht : txt (ls.getD i []) = []
      · rw [if_pos (by rw [ht]; rfl), if_pos ht, w64 _ (by omega) (by omega)]
        rfl
      · rw [if_neg (by intro h; exact ht (List.eq_nil_of_length_eq_zero (by omega))), if_neg ht, w64 _ (by omega) (by omega), w64 _ (by omega) (by omega), show ((m : Int) + ((ls.getD i []).length : Int)) = ((m + (ls.getD i []).length : Nat) : Int) from rfl, show ((i : Int) + 1) = ((i + 1 : Nat) : Int) from rfl, end_l0 ls hb hn k _ _ (by omega) (by omega) (by omega)]
        congr 2
        omega
    · obtain rfl : i = ls.length := by omega
      rw [if_neg (by omega), List.drop_length]
      rfl
theorem end_eq (k : Nat) (l : List Int) (hb : Byt l) (hl : l.length ≤ 100000) (hk : l.length + 1 < k) : head_end.f k l = some (hend l : Int) := by
  have h1 := lines_length_le l
  unfold head_end.f
  rw [cut_eq k l hb hl hk, Option.bind_some]
  have := end_l0 (lines l) (fun x hx => hb.line hx) (by omega) k 0 0 (by omega) (by omega) (by rw [List.drop_zero, lines_flatten]; omega)
  rw [show (0 : Int) = ((0 : Nat) : Int) from rfl, this, Nat.zero_add]
  rfl
end Go.Proofs.YtlicjigofnbpjaaDoor.Pure
