/- What Stuff, Split, Lines, Head and Body compute. -/
import Derived.Test.YtlicjigofnbpjaaDoorHeadImpl6
import Derived.Test.YtlicjigofnbpjaaDoorPx5
import Derived.Test.YtlicjigofnbpjaaDoorPx5
import Derived.Test.YtlicjigofnbpjaaDoorPx7
import Derived.Test.YtlicjigofnbpjaaDoorPx6
import Derived.Test.YtlicjigofnbpjaaDoorPx9
namespace Go.Proofs.YtlicjigofnbpjaaDoor.Pure
open Go.RowKit Go.Proofs.YtlicjigofnbpjaaDoor Go.Proofs.YtlicjigofnbpjaaDoor.P Go.Proofs.YtlicjigofnbpjaaDoor.Spec Go.Proofs.YtlicjigofnbpjaaDoorW.PrintWords Go.Proofs.YtlicjigofnbpjaaDoorW.PrintLast Go.Proofs.YtlicjigofnbpjaaDoorW.PrintMore

theorem head_getD {l : List Int} (h : l ≠ []) : l.head? = some (l.getD 0 0) := by
  cases l with
  | nil => exact absurd rfl h
  | cons c l => rfl
theorem dot_snoc (ts : List (List Int)) (i : Nat) (h : i < ts.length) : ts.drop i = ts.getD i [] :: ts.drop (i + 1) := drop_atL h
def body (ts : List (List Int)) : List Int := (ts.map fun t => dot t ++ [13, 10]).flatten
theorem body_cons (t : List Int) (ts : List (List Int)) : body (t :: ts) = dot t ++ [13, 10] ++ body ts := rfl
theorem UStuff_l0 (ls : List (List Int)) (hb : ∀ x ∈ ls, Byt x) (hne : ∀ x ∈ ls, x ≠ []) (hn : ls.length ≤ 100000) : ∀ (k i : Nat) (acc : List Int), i ≤ ls.length → ls.length - i < k → acc.length + (ls.drop i).flatten.length + 3 * (ls.length - i) ≤ 1000000 → head_Stuff.l0 k acc ls ls.length i = some (acc ++ body ((ls.drop i).map txt) ++ [46, 13, 10])
  | 0, _, _, _, h, _ => absurd h (by omega)
  | k + 1, i, acc, hi, hk, ha => by
    unfold head_Stuff.l0
    have e2 : bytesOf (⟨#[13, 10]⟩ : ByteArray) = [13, 10] := rfl
    have e3 : bytesOf (⟨#[46, 13, 10]⟩ : ByteArray) = [46, 13, 10] := rfl
    by_cases hlt : i < ls.length
    · have hf := flat_at hlt
      have hm := getD_mem hlt
      have hx := hne _ hm
      have hp := List.length_pos_iff.2 hx
      have htl := txt_le (ls.getD i [])
      have hhd := txt_head (ls.getD i [])
      rw [head_getD hx] at hhd
      rw [if_pos (by omega), if_pos (by omega), if_pos (by omega), rd_L1_nat, if_pos (by omega), text_eq _ (hb _ hm) (by omega), drop_atL hlt, List.map_cons, body_cons, e2, show (0 : Int) = ((0 : Nat) : Int) from rfl, rd_nat, w64 _ (by omega) (by omega)]
      generalize txt (ls.getD i []) = t at htl hhd
      by_cases h46 : (ls.getD i []).getD 0 0 = 46
      · have hd : dot t = 46 :: t := by unfold dot; rw [if_pos (hhd.2 (by rw [h46]))]
        have l1 : (acc ++ [(46 : Int)]).length = acc.length + 1 := by simp
        have l2 : (acc ++ [(46 : Int)] ++ t).length = acc.length + 1 + t.length := by rw [List.length_append, l1]
        rw [if_pos h46, if_pos (by omega), Option.bind_some, Option.bind_some, if_pos (by omega), Option.bind_some, if_pos (by omega)]
        have := UStuff_l0 ls hb hne hn k (i + 1) (acc ++ [46] ++ t ++ [13, 10]) (by omega) (by omega) (by rw [List.length_append, l2]; simp only [List.length_cons, List.length_nil]; omega)
        rw [show ((i : Int) + 1) = ((i + 1 : Nat) : Int) from rfl, this, hd]
        simp
      · have hd : dot t = t := by
          unfold dot
          rw [if_neg]
          intro h
          have := hhd.1 h
          injection this with this
          exact h46 this
        have l2 : (acc ++ t).length = acc.length + t.length := List.length_append
        rw [if_neg h46, Option.bind_some, if_pos (by omega), Option.bind_some, if_pos (by omega)]
        have := UStuff_l0 ls hb hne hn k (i + 1) (acc ++ t ++ [13, 10]) (by omega) (by omega) (by rw [List.length_append, l2]; simp only [List.length_cons, List.length_nil]; omega)
        rw [show ((i : Int) + 1) = ((i + 1 : Nat) : Int) from rfl, this, hd]
        simp
    · obtain rfl : i = ls.length := by omega
      rw [if_neg (by omega), if_pos (by omega), e3, List.drop_length]
      simp [body]
theorem UStuff_eq (k : Nat) (l : List Int) (hb : Byt l) (hl : l.length ≤ 50000) (hk : l.length + 1 < k) : head_Stuff.f k l = some (sent ((lines l).map txt)) := by
  have h1 := lines_length_le l
  unfold head_Stuff.f
  rw [cut_eq k l hb (by omega) hk, Option.bind_some, show (0 : Int) = ((0 : Nat) : Int) from rfl, UStuff_l0 (lines l) (fun x hx => hb.line hx) (fun x hx => lines_mem_ne hx) (by omega) k 0 [] (by omega) (by omega) (by rw [List.drop_zero, lines_flatten]; simp only [List.length_nil]; omega), List.drop_zero]
  rfl
theorem bt_str {t : List Int} (hb : Byt t) (h : t ≠ []) : bt (strOfNums t) 0 = t.getD 0 0 := by
  have h0 : (strOfNums t).data.toList[0]? = some (first t) := by rw [str_list h]; rfl
  refine (bt_nat (strOfNums t) 0 _ h0).trans ?_
  unfold first
  have hm : t.getD 0 0 ∈ t := by
    cases t with
    | nil => exact absurd rfl h
    | cons c t => simp
  have := hb _ hm
  simp only [UInt8.toNat_ofNat']
  omega
theorem str_toList (t : List Int) : (strOfNums t).toList = t.map fun n => UInt8.ofNat n.toNat := by rw [Lib.toList_data, strOfNums_data]
theorem dot_str {t : List Int} (h : t.head? = some 46) : (strOfNums (dot t)).toList = ((⟨#[46]⟩ : ByteArray) ++ strOfNums t).toList := by
  have hd : dot t = 46 :: t := by unfold dot; rw [if_pos h]
  rw [hd, str_toList, Lib.toList_data, ByteArray.data_append, Array.toList_append, strOfNums_data]
  rfl
theorem USplit_l0 (ls : List (List Int)) (hb : ∀ x ∈ ls, Byt x) (hl : ∀ x ∈ ls, x.length ≤ 1000000) (hn : ls.length ≤ 100000) : ∀ (k i : Nat) (acc : List (List Int)), i ≤ ls.length → ls.length - i < k → acc.length + (ls.length - i) ≤ 1000000 → head_Split.l0 k acc ls ls.length i = some (acc ++ (ls.drop i).map txt)
  | 0, _, _, _, h, _ => absurd h (by omega)
  | k + 1, i, acc, hi, hk, ha => by
    unfold head_Split.l0
    by_cases hlt : i < ls.length
    · have hm := getD_mem hlt
      have h1 := hl _ hm
      have htl := txt_le (ls.getD i [])
      rw [if_pos (by omega), if_pos (by omega), if_pos (by omega), rd_L1_nat, Option.bind_some, text_eq _ (hb _ hm) (by omega), Option.bind_some, if_pos (by simp only [List.length_nil]; omega), if_pos (by omega), w64 _ (by omega) (by omega), drop_atL hlt, List.map_cons, List.nil_append]
      have := USplit_l0 ls hb hl hn k (i + 1) (acc ++ [txt (ls.getD i [])]) (by omega) (by omega) (by rw [List.length_append]; simp only [List.length_cons, List.length_nil]; omega)
      rw [show ((i : Int) + 1) = ((i + 1 : Nat) : Int) from rfl, this, List.append_assoc]
      rfl
    · obtain rfl : i = ls.length := by omega
      rw [if_neg (by omega), List.drop_length]
      simp
theorem USplit_eq (k : Nat) (l : List Int) (hb : Byt l) (hl : l.length ≤ 50000) (hk : l.length + 1 < k) : head_Split.f k l = some ((lines l).map txt) := by
  have h1 := lines_length_le l
  unfold head_Split.f
  rw [cut_eq k l hb (by omega) hk, Option.bind_some, show (0 : Int) = ((0 : Nat) : Int) from rfl, USplit_l0 (lines l) (fun x hx => hb.line hx) (fun x hx => by have := mem_flat_le hx; rw [lines_flatten] at this; omega) (by omega) k 0 [] (by omega) (by omega) (by simp only [List.length_nil]; omega), List.drop_zero]
  rfl
theorem ULines_eq (k : Nat) (l : List Int) (hb : Byt l) (hl : l.length ≤ 50000) (hk : l.length + 1 < k) : head_Lines.f k l = some ((lines l).length : Int) := by
  unfold head_Lines.f
  rw [cut_eq k l hb (by omega) hk, Option.bind_some]
theorem UHead_eq (k : Nat) (l : List Int) (hb : Byt l) (hl : l.length ≤ 50000) (hk : l.length + 1 < k) : head_Head.f k l = some (l.take (hend l)) := by
  have h1 := hend_le l
  unfold head_Head.f bytes_Clone.f
  rw [end_eq k l hb (by omega) hk, Option.bind_some, if_pos (by omega), if_pos (by omega), Int.toNat_natCast, if_pos (by rw [List.length_take]; omega)]
  rfl
theorem UBody_eq (k : Nat) (l : List Int) (hb : Byt l) (hl : l.length ≤ 50000) (hk : l.length + 1 < k) : head_Body.f k l = some (l.drop (hend l)) := by
  have h1 := hend_le l
  unfold head_Body.f bytes_Clone.f
  rw [end_eq k l hb (by omega) hk, Option.bind_some, if_pos (by omega), if_pos (by omega), Int.toNat_natCast, if_pos (by rw [List.length_drop]; omega)]
  rfl
theorem getD_txt (ls : List (List Int)) (i : Nat) (h : i < ls.length) : (ls.map txt).getD i [] = txt (ls.getD i []) := by
  rw [List.getD_eq_getElem?_getD, List.getElem?_map, List.getElem?_eq_getElem h, List.getD_eq_getElem?_getD, List.getElem?_eq_getElem h]
  rfl
end Go.Proofs.YtlicjigofnbpjaaDoor.Pure
