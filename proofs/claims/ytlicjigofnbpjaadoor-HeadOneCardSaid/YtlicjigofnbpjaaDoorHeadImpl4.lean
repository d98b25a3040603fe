/- The reference's fields; one text or not; a field by its name. -/
import Derived.Test.YtlicjigofnbpjaaDoorHeadImpl3
import Derived.Test.YtlicjigofnbpjaaDoorPx4
import Derived.Test.YtlicjigofnbpjaaDoorPx115
import Derived.Test.YtlicjigofnbpjaaDoorPx113
import Derived.Test.YtlicjigofnbpjaaDoorPx117
namespace Go.Proofs.YtlicjigofnbpjaaDoor.Pure
open Go.RowKit Go.Proofs.YtlicjigofnbpjaaDoor Go.Proofs.YtlicjigofnbpjaaDoor.P Go.Proofs.YtlicjigofnbpjaaDoor.Spec Go.Proofs.YtlicjigofnbpjaaDoorW.PrintWords Go.Proofs.YtlicjigofnbpjaaDoorW.PrintLast Go.Proofs.YtlicjigofnbpjaaDoorW.PrintMore

theorem RFields_l0 (ts : List (List Int)) (N : Nat) (hN : ∀ t ∈ ts, t.length ≤ N) (hn : ts.length ≤ 100000) (hNb : N ≤ 100000) : ∀ (k i : Nat) (st : St) (B : Nat), i ≤ ts.length → 2 * (ts.length - i) + 2 * N + 10 < k → st.1.length + (ts.length - i) ≤ 200000 → (∀ f ∈ st.1, f.f1.size ≤ B) → B + (ts.drop i).flatten.length + (ts.length - i) ≤ 1000000 → (st.2 = true → st.1 ≠ []) →
    letterboxref9_Fields.l0 k st.1 st.2 ts (i : Int) = some (fgoR (ts.drop i) st)
  | 0, _, _, _, _, h, _, _, _, _ => absurd h (by omega)
  | 1, _, _, _, _, h, _, _, _, _ => absurd h (by omega)
  | k + 2, i, st, B, hi, hk, hlen, hB, hsum, ho => by
    unfold letterboxref9_Fields.l0
    by_cases hlt : i < ts.length
    · have hf := flat_at hlt
      have hNt := hN _ (getD_mem hlt)
      rw [if_pos (by omega), if_pos (by omega)]
      unfold letterboxref9_Fields.j1
      rw [rd_L1_nat, drop_atL hlt]
      unfold fgoR
      generalize ts.getD i [] = t at hNt hf
      have hss : (strOfNums t).size = t.length := by simp [strOfNums, ByteArray.size]
      have next : ∀ (st' : St) (B' : Nat), (∀ f ∈ st'.1, f.f1.size ≤ B') → B' + (ts.drop (i + 1)).flatten.length + (ts.length - (i + 1)) ≤ 1000000 → st'.1.length ≤ st.1.length + 1 → (st'.2 = true → st'.1 ≠ []) → letterboxref9_Fields.l0 k st'.1 st'.2 ts ((i : Int) + 1) = some (fgoR (ts.drop (i + 1)) st') := fun st' B' h1 h2 h3 h4 =>
        RFields_l0 ts N hN hn hNb k (i + 1) st' B' (by omega) (by omega) (by omega) h1 h2 h4
      by_cases ht : t = []
      · rw [if_neg (by simp [ht]), if_pos ht]
      · have hsl := str_list ht
        have htp := List.length_pos_iff.2 ht
        have htr := trimB_le (strOfNums t)
        have hb0 : (strOfNums t).data.toList[0]? = some (first t) := by rw [hsl]; rfl
        rw [if_pos (by simpa using htp), if_neg ht, if_pos (by omega), if_pos (by omega), if_pos (by omega), show (0 : Int) = ((0 : Nat) : Int) from rfl, bt_nat _ 0 _ hb0, blank_eq, Option.bind_some, w64 ((i : Int) + 1) (by omega) (by omega)]
        have nx := next (fstep st t) (B + t.length + 1) (fstep_le hB ho) (by omega) (fstep_len st t) (fstep_open ho)
        by_cases hbl : blk (first t) = true
        · rw [if_pos hbl]
          by_cases hop : st.2 = true
          · have hne := List.length_pos_iff.2 (ho hop)
            have hg := getD_le hB (st.1.length - 1) (by omega)
            have hstep : fstep st t = (st.1.set (st.1.length - 1) ⟨(st.1.getD (st.1.length - 1) z26).f0, (st.1.getD (st.1.length - 1) z26).f1 ++ ((⟨#[32]⟩ : ByteArray) ++ trimB (strOfNums t))⟩, true) := by
              unfold fstep
              rw [if_pos hbl, if_pos hop]
            rw [if_pos hop, w64 _ (by omega) (by omega), show ((st.1.length : Int) - 1) = ((st.1.length - 1 : Nat) : Int) by omega, if_pos (by omega), if_pos (by omega), rd_T26_nat, if_pos (by omega), RTrim_eq _ _ (by omega) (by omega), Option.bind_some, if_pos (by omega), Int.toNat_natCast, ByteArray.append_assoc]
            rw [hstep] at nx ⊢
            rw [hop]
            exact nx
          · have hstep : fstep st t = (st.1, false) := by
              unfold fstep
              rw [if_pos hbl, if_neg hop]
            rw [if_neg hop]
            rw [hstep] at nx ⊢
            rw [Bool.eq_false_iff.2 hop]
            exact nx
        · have hge := Lib.indexByte_ge (strOfNums t).data.toList 58
          have hcl := indexByte_lt (strOfNums t).data.toList 58
          have hse := Lib.size_eq (strOfNums t)
          rw [if_neg hbl, Colon_eq _ _ (by omega) (by omega), Option.bind_some]
          by_cases hc : cix (strOfNums t) = -1
          · have hstep : fstep st t = (st.1, false) := by
              unfold fstep
              rw [if_neg hbl, if_pos hc]
            rw [hc, if_neg (by decide)]
            rw [hstep] at nx ⊢
            exact nx
          · have hstep : fstep st t = (st.1 ++ [⟨trimB ((strOfNums t).extract 0 (cix (strOfNums t)).toNat), trimB ((strOfNums t).extract ((cix (strOfNums t)).toNat + 1) (strOfNums t).size)⟩], true) := by
              unfold fstep
              rw [if_neg hbl, if_neg hc]
            have e1 : ((strOfNums t).extract 0 (cix (strOfNums t)).toNat).size ≤ (strOfNums t).size := by
              rw [Lib.size_eq, Lib.size_eq, extract_list, List.length_drop, List.length_take]
              omega
            have e2 : ((strOfNums t).extract ((cix (strOfNums t)).toNat + 1) (strOfNums t).size).size ≤ (strOfNums t).size := by
              rw [Lib.size_eq, Lib.size_eq, extract_list, List.length_drop, List.length_take]
              omega
            have hcx : (0 : Int) ≤ cix (strOfNums t) ∧ cix (strOfNums t) < (strOfNums t).size := by
              unfold cix at hc ⊢
              omega
            rw [if_pos (by omega), if_pos (by omega), if_pos (by omega), RTrim_eq _ _ (by omega) (by omega), Option.bind_some, w64 _ (by omega) (by omega), if_pos (by omega), if_pos (by omega), show (cix (strOfNums t) + 1).toNat = (cix (strOfNums t)).toNat + 1 by omega, RTrim_eq _ _ (by omega) (by omega), Option.bind_some, if_pos (by omega), decide_eq_true (show cix (strOfNums t) ≥ ((0 : Nat) : Int) by omega)]
            rw [hstep] at nx ⊢
            exact nx
    · obtain rfl : i = ts.length := by omega
      rw [if_neg (by omega), List.drop_length]
      rfl
/-- The texts of a head's lines. -/
def texts (l : List Int) : List (List Int) := (heads (lines l)).map txt
theorem texts_flat (l : List Int) : (texts l).flatten.length ≤ l.length := by
  unfold texts
  rw [← lines_head]
  have h1 := map_txt_flat (lines (l.take (hend l)))
  rw [lines_flatten, List.length_take] at h1
  omega
/-- A head's fields. -/
def fields (l : List Int) : List S26 := fgo (texts l) ([], false)
theorem RFields_eq (k : Nat) (l : List Int) (hl : l.length ≤ 50000) (hk : 4 * l.length + 20 < k) : letterboxref9_Fields.f k l = some (fields l) := by
  have h1 := hend_le l
  have ht : (l.take (hend l)).length ≤ l.length := by rw [List.length_take]; omega
  have h2 := lines_length_le (l.take (hend l))
  have h3 := texts_flat l
  have h4 : (texts l).length ≤ l.length := by unfold texts; rw [← lines_head, List.length_map]; omega
  unfold letterboxref9_Fields.f
  rw [RefHead_eq k l (by omega) (by omega), Option.bind_some, RefSplit_eq k _ (by omega) (by omega), Option.bind_some, lines_head]
  have := RFields_l0 (texts l) l.length (fun t h => Nat.le_trans (mem_flat_le h) h3) (by omega) (by omega) k 0 ([], false) 0 (by omega) (by omega) (by simp only [List.length_nil]; omega) (fun f hf => by cases hf) (by rw [List.drop_zero]; omega) (fun h => by cases h)
  rw [List.drop_zero] at this
  unfold fields texts
  rw [← fgo_heads]
  exact this

def low8 (b : UInt8) : UInt8 := UInt8.ofNat (lowI (b.toNat : Int)).toNat
theorem lowB_list (s : ByteArray) : (lowB s).data.toList = s.data.toList.map low8 := by
  unfold lowB
  rw [strOfNums_data]
  unfold bytesOf
  rw [List.map_map, List.map_map]
  rfl
/-- Whether two texts are one, A to Z as a to z. -/
def same (a b : ByteArray) : Bool := a.data.toList.map low8 == b.data.toList.map low8
theorem RSame_eq (a b : ByteArray) (ha : a.size ≤ 9223372036854775807) (hb : b.size ≤ 9223372036854775807) : letterboxref9_Same.f a b = some (same a b) := by
  unfold letterboxref9_Same.f letterboxref9_Low.f
  rw [if_pos ha, Option.bind_some, if_pos hb, Option.bind_some, Lib.toList_data, Lib.toList_data, lowB_list, lowB_list]
  rfl
theorem small_eq (b : UInt8) : head_small.f (b.toNat : Int) = some (lowI (b.toNat : Int)) := by
  have := UInt8.toNat_lt b
  unfold head_small.f lowI
  by_cases h1 : (b.toNat : Int) ≥ 65
  · by_cases h2 : (b.toNat : Int) ≤ 90
    · rw [if_pos h1, if_pos h2, if_pos ⟨h1, h2⟩]
      congr 1
      omega
    · rw [if_pos h1, if_neg h2, if_neg (by omega)]
  · rw [if_neg h1, if_neg (by omega)]
theorem low8_eq (x y : UInt8) : low8 x = low8 y ↔ lowI (x.toNat : Int) = lowI (y.toNat : Int) := by
  have h1 := UInt8.toNat_lt x
  have h2 := UInt8.toNat_lt y
  have r : ∀ n : Nat, n < 256 → 0 ≤ lowI (n : Int) ∧ lowI (n : Int) < 256 := by
    intro n hn
    unfold lowI
    split <;> omega
  exact u8_eq (r _ h1) (r _ h2)
theorem USame_l0 (a b : ByteArray) (hs : a.size = b.size) (ha : a.size ≤ 9223372036854775807) : ∀ (k i : Nat), i ≤ a.size → a.size - i < k → head_Same.l0 k a b a.size i = some ((a.data.toList.drop i).map low8 == (b.data.toList.drop i).map low8)
  | 0, _, _, h => absurd h (by omega)
  | k + 1, i, hi, hk => by
    have h1 := Lib.size_eq a
    have h2 := Lib.size_eq b
    unfold head_Same.l0
    by_cases hlt : i < a.size
    · have ha2 : i < a.data.toList.length := by omega
      have hb2 : i < b.data.toList.length := by omega
      have hwr : wrap64 ((i : Int) + 1) = ((i + 1 : Nat) : Int) := by unfold wrap64; omega
      rw [if_pos (by omega), if_pos (by omega), if_pos (by omega), bt_nat a i _ (List.getElem?_eq_getElem ha2), small_eq, Option.bind_some, if_pos (by omega), bt_nat b i _ (List.getElem?_eq_getElem hb2), small_eq, Option.bind_some, hwr, List.drop_eq_getElem_cons ha2, List.drop_eq_getElem_cons hb2, List.map_cons, List.map_cons]
      by_cases he : lowI (a.data.toList[i].toNat : Int) = lowI (b.data.toList[i].toNat : Int)
      · rw [if_pos he, (low8_eq _ _).2 he, USame_l0 a b hs ha k (i + 1) (by omega) (by omega)]
        congr 1
        rw [Bool.eq_iff_iff, beq_iff_eq, beq_iff_eq]
        exact ⟨fun h => by rw [h], fun h => (List.cons.inj h).2⟩
      · rw [if_neg he]
        congr 1
        refine (beq_eq_false_iff_ne.2 fun h => he ((low8_eq _ _).1 (List.cons.inj h).1)).symm
    · obtain rfl : i = a.size := by omega
      rw [if_neg (by omega), h1, List.drop_length, ← h1, hs, h2, List.drop_length]
      rfl
theorem USame_eq (k : Nat) (a b : ByteArray) (ha : a.size ≤ 9223372036854775807) (hk : a.size < k) : head_Same.f k a b = some (same a b) := by
  unfold head_Same.f same
  by_cases hs : a.size = b.size
  · rw [if_pos (by omega), show (0 : Int) = ((0 : Nat) : Int) from rfl, USame_l0 a b hs ha k 0 (by omega) (by omega)]
    rfl
  · rw [if_neg (by omega)]
    congr 1
    refine (beq_eq_false_iff_ne.2 fun h => hs ?_).symm
    have := congrArg List.length h
    rw [List.length_map, List.length_map] at this
    rw [Lib.size_eq, Lib.size_eq, this]
/-- The first field of a name. -/
def fget (name : ByteArray) : List S26 → ByteArray × Bool
  | [] => (⟨#[]⟩, false)
  | f :: fs => if same f.f0 name = true then (f.f1, true) else fget name fs
theorem drop_F {xs : List S26} {i : Nat} (h : i < xs.length) : xs.drop i = xs.getD i z26 :: xs.drop (i + 1) := by
  rw [List.drop_eq_getElem_cons h, List.getD_eq_getElem?_getD, List.getElem?_eq_getElem h]
  rfl
theorem getD_F {xs : List S26} {i : Nat} (h : i < xs.length) : xs.getD i z26 ∈ xs := by
  rw [List.getD_eq_getElem?_getD, List.getElem?_eq_getElem h]
  exact List.getElem_mem h
theorem UGet_l0 (name : ByteArray) (F : List S26) (N : Nat) (hF : ∀ f ∈ F, f.f0.size ≤ N) (hN : N ≤ 100000) (hn : F.length ≤ 1000000) : ∀ (k i : Nat), i ≤ F.length → F.length - i + N < k → head_Get.l0 k name F F.length i = some (fget name (F.drop i))
  | 0, _, _, h => absurd h (by omega)
  | k + 1, i, hi, hk => by
    unfold head_Get.l0
    by_cases hlt : i < F.length
    · have := hF _ (getD_F hlt)
      rw [if_pos (by omega), if_pos (by omega), if_pos (by omega), rd_T26_nat, USame_eq k _ _ (by omega) (by omega), Option.bind_some, drop_F hlt]
      unfold fget
      by_cases h : same (F.getD i z26).f0 name = true
      · rw [if_pos h, if_pos h]
      · rw [if_neg h, if_neg h, w64 _ (by omega) (by omega)]
        exact UGet_l0 name F N hF hN hn k (i + 1) (by omega) (by omega)
    · obtain rfl : i = F.length := by omega
      rw [if_neg (by omega), List.drop_length]
      rfl
theorem RGet_l0 (name : ByteArray) (hnm : name.size ≤ 9223372036854775807) (F : List S26) (N : Nat) (hF : ∀ f ∈ F, f.f0.size ≤ N) (hN : N ≤ 100000) (hn : F.length ≤ 1000000) : ∀ (k i : Nat), i ≤ F.length → F.length - i < k → letterboxref9_Get.l0 k name F i = some (fget name (F.drop i))
  | 0, _, _, h => absurd h (by omega)
  | k + 1, i, hi, hk => by
    unfold letterboxref9_Get.l0
    by_cases hlt : i < F.length
    · have := hF _ (getD_F hlt)
      rw [if_pos (by omega), if_pos (by omega), rd_T26_nat, RSame_eq _ _ (by omega) hnm, Option.bind_some, drop_F hlt]
      unfold fget
      by_cases h : same (F.getD i z26).f0 name = true
      · rw [if_pos h, if_pos h]
      · rw [if_neg h, if_neg h, w64 _ (by omega) (by omega)]
        exact RGet_l0 name hnm F N hF hN hn k (i + 1) (by omega) (by omega)
    · obtain rfl : i = F.length := by omega
      rw [if_neg (by omega), List.drop_length]
      rfl
theorem fstep_f0 {st : St} {t : List Int} {N : Nat} (h : ∀ f ∈ st.1, f.f0.size ≤ N) (ho : st.2 = true → st.1 ≠ []) (ht : t.length ≤ N) : ∀ f ∈ (fstep st t).1, f.f0.size ≤ N := by
  have hs : (strOfNums t).size = t.length := by simp [strOfNums, ByteArray.size]
  unfold fstep
  intro f hf
  split at hf
  · split at hf
    · rename_i hop
      have hne := List.length_pos_iff.2 (ho hop)
      rcases List.mem_or_eq_of_mem_set hf with hf | rfl
      · exact h f hf
      · show ((st.1.getD (st.1.length - 1) z26).f0).size ≤ N
        exact h _ (getD_F (by omega))
    · exact h f hf
  · split at hf
    · exact h f hf
    · rcases List.mem_append.1 hf with hf | hf
      · exact h f hf
      · obtain rfl := List.mem_singleton.1 hf
        have h1 := trimB_le ((strOfNums t).extract 0 (cix (strOfNums t)).toNat)
        have h2 : ((strOfNums t).extract 0 (cix (strOfNums t)).toNat).size ≤ (strOfNums t).size := by
          rw [Lib.size_eq, Lib.size_eq, extract_list, List.length_drop, List.length_take]
          omega
        simp only
        omega
theorem fgo_f0 (N : Nat) : ∀ (ts : List (List Int)) (st : St), (∀ t ∈ ts, t.length ≤ N) → (∀ f ∈ st.1, f.f0.size ≤ N) → (st.2 = true → st.1 ≠ []) → (∀ f ∈ fgo ts st, f.f0.size ≤ N) ∧ (fgo ts st).length ≤ st.1.length + ts.length
  | [], st, _, h, _ => ⟨h, by unfold fgo; omega⟩
  | t :: ts, st, ht, h, ho => by
    unfold fgo
    have h1 : ∀ t ∈ ts, t.length ≤ N := fun t hh => ht t (List.mem_cons_of_mem _ hh)
    split
    · have := fgo_f0 N ts st h1 h ho
      exact ⟨this.1, by rw [List.length_cons]; omega⟩
    · have := fgo_f0 N ts (fstep st t) h1 (fstep_f0 h ho (ht t List.mem_cons_self)) (fstep_open ho)
      have h2 := fstep_len st t
      exact ⟨this.1, by rw [List.length_cons]; omega⟩
theorem fields_ok (l : List Int) : (∀ f ∈ fields l, f.f0.size ≤ l.length) ∧ (fields l).length ≤ l.length := by
  have h3 := texts_flat l
  have h2 := lines_length_le (l.take (hend l))
  have h4 : (texts l).length ≤ l.length := by
    unfold texts
    rw [← lines_head, List.length_map]
    rw [List.length_take] at h2
    omega
  have := fgo_f0 l.length (texts l) ([], false) (fun t h => Nat.le_trans (mem_flat_le h) h3) (fun f hf => by cases hf) (fun h => by cases h)
  exact ⟨this.1, by have h5 := this.2; simp only [List.length_nil] at h5; unfold fields; omega⟩
theorem UGet_eq (k : Nat) (l : List Int) (name : ByteArray) (hb : Byt l) (hl : l.length ≤ 50000) (hk : 2 * l.length + 1 < k) : head_Get.f k l name = some (fget name (fields l)) := by
  have h := fields_ok l
  unfold head_Get.f
  rw [UFields_eq k l hb hl (by omega), Option.bind_some, show fgo ((heads (lines l)).map txt) ([], false) = fields l from rfl, show (0 : Int) = ((0 : Nat) : Int) from rfl, UGet_l0 name (fields l) l.length h.1 (by omega) (by omega) k 0 (by omega) (by omega), List.drop_zero]
theorem RGet_eq (k : Nat) (l : List Int) (name : ByteArray) (hnm : name.size ≤ 9223372036854775807) (hl : l.length ≤ 50000) (hk : 4 * l.length + 20 < k) : letterboxref9_Get.f k l name = some (fget name (fields l)) := by
  have h := fields_ok l
  unfold letterboxref9_Get.f
  rw [RFields_eq k l hl hk, Option.bind_some, show (0 : Int) = ((0 : Nat) : Int) from rfl, RGet_l0 name hnm (fields l) l.length h.1 (by omega) (by omega) k 0 (by omega) (by omega), List.drop_zero]
end Go.Proofs.YtlicjigofnbpjaaDoor.Pure
