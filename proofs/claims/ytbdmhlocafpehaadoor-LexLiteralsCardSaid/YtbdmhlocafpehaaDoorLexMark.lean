/- What 'marked' and 'Wants' answer of a line that ends in a mark of digits; what the laws' 'dec' prints. -/
import Derived.Lib.Atoi
import Derived.Test.YtbdmhlocafpehaaDoorPx2
namespace Go.Proofs.YtbdmhlocafpehaaDoor.LexM
open Go.RowKit Go.Proofs.YtbdmhlocafpehaaDoor Go.Proofs.YtbdmhlocafpehaaDoor.P Go.Proofs.YtbdmhlocafpehaaDoorW.PrintWords Go.Proofs.YtbdmhlocafpehaaDoorW.PrintLast Go.Proofs.YtbdmhlocafpehaaDoorW.PrintMore

theorem w64 (x : Int) (h0 : -9223372036854775808 ≤ x) (h1 : x ≤ 9223372036854775807) : wrap64 x = x := by unfold wrap64; omega
/-- The text of some bytes. -/
def mk (l : List UInt8) : ByteArray := ⟨l.toArray⟩
theorem mk_data (l : List UInt8) : (mk l).data.toList = l := rfl
theorem mk_size (l : List UInt8) : (mk l).size = l.length := rfl
theorem ext_list {s t : ByteArray} (h : s.data.toList = t.data.toList) : s = t := ByteArray.ext (Array.toList_inj.1 h)
theorem mk_toList (l : List UInt8) : (mk l).toList = l := Lib.toList_data _
theorem mk_app (a b : List UInt8) : mk a ++ mk b = mk (a ++ b) := ext_list (by simp [mk])
/-- Bytes as numbers. -/
def numsB (l : List UInt8) : List Int := l.map fun b => (b.toNat : Int)
theorem bytes_mk (l : List UInt8) : bytesOf (mk l) = numsB l := rfl
theorem str_nums (l : List UInt8) : strOfNums (numsB l) = mk l := by
  apply ext_list
  rw [strOfNums_data, mk_data]
  unfold numsB
  rw [List.map_map]
  conv => rhs; rw [← List.map_id l]
  refine List.map_congr_left fun b _ => ?_
  simp
def dig (b : UInt8) : Bool := decide (48 ≤ b.toNat) && decide (b.toNat ≤ 57)
def decV (acc : Nat) : List UInt8 → Nat
  | [] => acc
  | b :: r => decV (acc * 10 + (b.toNat - 48)) r
theorem decFrom_all : ∀ (l : List UInt8) (acc : Nat), l.all dig = true → Lib.decFrom acc l = some (decV acc l)
  | [], _, _ => rfl
  | b :: r, acc, h => by
    rw [List.all_cons, Bool.and_eq_true] at h
    unfold Lib.decFrom Lib.digitVal decV
    have hb := h.1
    unfold dig at hb
    simp only [Bool.and_eq_true, decide_eq_true_eq] at hb
    rw [if_pos hb]
    exact decFrom_all r _ h.2
set_option maxRecDepth 100000 in
theorem contains_dig (b : UInt8) : ([48, 49, 50, 51, 52, 53, 54, 55, 56, 57] : List UInt8).contains b = dig b := by
  have key : ∀ n, n < 256 → ([48, 49, 50, 51, 52, 53, 54, 55, 56, 57] : List UInt8).contains (UInt8.ofNat n) = dig (UInt8.ofNat n) := by decide
  have := key b.toNat (UInt8.toNat_lt b)
  rwa [UInt8.ofNat_toNat] at this
theorem tw_mem {p : UInt8 → Bool} : ∀ (l : List UInt8) (x : UInt8), x ∈ l.takeWhile p → p x = true
  | [], x, h => by cases h
  | y :: l, x, h => by
    rw [List.takeWhile_cons] at h
    by_cases hy : p y = true
    · rw [if_pos hy] at h
      rcases List.mem_cons.1 h with e | e
      · rw [e]; exact hy
      · exact tw_mem l x e
    · rw [if_neg hy] at h; cases h
theorem dw_nil {p : UInt8 → Bool} : ∀ (l : List UInt8), (∀ x ∈ l, p x = true) → l.dropWhile p = []
  | [], _ => rfl
  | y :: l, h => by
    rw [List.dropWhile_cons, if_pos (h y List.mem_cons_self)]
    exact dw_nil l fun x hx => h x (List.mem_cons_of_mem _ hx)
theorem trim_nil (l : List UInt8) : Lib.trimS l [48, 49, 50, 51, 52, 53, 54, 55, 56, 57] = [] ↔ l.all dig = true := by
  unfold Lib.trimS Lib.trimLeftS Lib.trimRightS
  have hf : (fun x => List.contains ([48, 49, 50, 51, 52, 53, 54, 55, 56, 57] : List UInt8) x) = dig := funext contains_dig
  rw [hf]
  constructor
  · intro h
    have h1 : ∀ x ∈ (l.reverse.dropWhile dig).reverse, dig x = true := by
      intro x hx
      have : (l.reverse.dropWhile dig).reverse = (l.reverse.dropWhile dig).reverse.takeWhile dig := by
        have := List.takeWhile_append_dropWhile (p := dig) (l := (l.reverse.dropWhile dig).reverse)
        rw [h, List.append_nil] at this
        exact this.symm
      rw [this] at hx
      exact tw_mem _ _ hx
    rw [List.all_eq_true]
    intro x hx
    have h2 : x ∈ l.reverse.takeWhile dig ++ l.reverse.dropWhile dig := by rw [List.takeWhile_append_dropWhile]; exact List.mem_reverse.2 hx
    rcases List.mem_append.1 h2 with h3 | h3
    · exact tw_mem _ _ h3
    · exact h1 x (List.mem_reverse.2 h3)
  · intro h
    rw [List.all_eq_true] at h
    have : l.reverse.dropWhile dig = [] := dw_nil _ fun x hx => h x (List.mem_reverse.1 hx)
    rw [this]
    rfl

theorem decV_app : ∀ (a b : List UInt8) (acc : Nat), decV acc (a ++ b) = decV (decV acc a) b
  | [], _, _ => rfl
  | _ :: r, b, _ => decV_app r b _
/-! ### The last opening bracket -/
theorem last_at (c : Int) (a b : List Int) (hb : c ∉ b) (hl : (a ++ c :: b).length ≤ 4611686018427387904) : ∀ (m k : Nat), m ≤ b.length → m < k → G.bytealg_LastIndexByte.l0 k (a ++ c :: b) c ((a.length + m : Nat) : Int) = some (a.length : Int)
  | 0, k, hm, hk => by
    obtain ⟨k, rfl⟩ : ∃ k', k = k' + 1 := ⟨k - 1, by omega⟩
    have hr : rd (a ++ c :: b) ((a.length + 0 : Nat) : Int) = c := by
      unfold rd
      simp [List.getD_eq_getElem?_getD]
    rw [G.bytealg_LastIndexByte.l0, if_pos (by omega), if_pos (by omega), if_pos (by simp; omega), hr, if_pos rfl]
    rfl
  | m + 1, k, hm, hk => by
    obtain ⟨k, rfl⟩ : ∃ k', k = k' + 1 := ⟨k - 1, by omega⟩
    simp only [List.length_append, List.length_cons] at hl
    have hr : rd (a ++ c :: b) ((a.length + (m + 1) : Nat) : Int) ≠ c := by
      unfold rd
      simp only [Int.toNat_natCast]
      rw [List.getD_eq_getElem?_getD, List.getElem?_append_right (by omega), show a.length + (m + 1) - a.length = m + 1 by omega, List.getElem?_cons_succ, List.getElem?_eq_getElem (by omega)]
      exact fun h => hb (h ▸ List.getElem_mem _)
    rw [G.bytealg_LastIndexByte.l0, if_pos (by omega), if_pos (by omega), if_pos (by simp; omega), if_neg hr, w64 _ (by omega) (by omega), show (((a.length + (m + 1) : Nat) : Int) - 1) = ((a.length + m : Nat) : Int) by omega]
    exact last_at c a b hb (by simpa using hl) m k (by omega) (by omega)
/-! ### A line's mark -/
theorem nums_no (l : List UInt8) (h : l.all dig = true) : (123 : Int) ∉ numsB l ++ [125] := by
  intro hm
  rcases List.mem_append.1 hm with hm | hm
  · obtain ⟨b, hb, he⟩ := List.mem_map.1 hm
    have := List.all_eq_true.1 h b hb
    unfold dig at this
    simp only [Bool.and_eq_true, decide_eq_true_eq] at this
    omega
  · simp at hm
theorem marked_at (pre : List Int) (ds : List UInt8) (h : ds.all dig = true) (hp : pre.length ≤ 1000000000) (hd : ds.length ≤ 1000000000) (k : Nat) (hk : ds.length + 5 < k) :
    G.lex_marked.f k (pre ++ 123 :: (numsB ds ++ [125])) = some (if ds = [] ∨ 7 < ds.length then (-1, 0) else ((pre.length : Int), ((decV 0 ds : Nat) : Int))) := by
  obtain ⟨k, rfl⟩ : ∃ k', k = k' + 1 := ⟨k - 1, by omega⟩
  have hnl : (numsB ds).length = ds.length := List.length_map ..
  have hl : (pre ++ 123 :: (numsB ds ++ [125])).length = pre.length + (ds.length + 2) := by simp [hnl]
  have hr : rd (pre ++ 123 :: (numsB ds ++ [125])) ((pre.length + (ds.length + 1) : Nat) : Int) = 125 := by
    unfold rd
    simp only [Int.toNat_natCast]
    rw [List.getD_eq_getElem?_getD, List.getElem?_append_right (by omega), show pre.length + (ds.length + 1) - pre.length = ds.length + 1 by omega, List.getElem?_cons_succ, List.getElem?_append_right (by omega)]
    simp [hnl]
  have hw : wrap64 (((pre ++ 123 :: (numsB ds ++ [125])).length : Int) - 1) = ((pre.length + (ds.length + 1) : Nat) : Int) := by
    rw [hl, w64 _ (by omega) (by omega)]; omega
  have hlast : G.bytes_LastIndexByte.f k (pre ++ 123 :: (numsB ds ++ [125])) 123 = some (pre.length : Int) := by
    unfold G.bytes_LastIndexByte.f G.bytealg_LastIndexByte.f
    rw [hw, last_at 123 pre (numsB ds ++ [125]) (nums_no ds h) (by rw [hl]; omega) (ds.length + 1) k (by simp [hnl]) (by omega)]
    rfl
  have hcut : ((pre ++ 123 :: (numsB ds ++ [125])).take (pre.length + (ds.length + 1))).drop (pre.length + 1) = numsB ds := by
    rw [List.drop_take, show pre ++ 123 :: (numsB ds ++ [125]) = (pre ++ [123]) ++ (numsB ds ++ [125]) by simp,
      show pre.length + 1 = (pre ++ [(123 : Int)]).length by simp, List.drop_left, show pre.length + (ds.length + 1) - (pre ++ [(123 : Int)]).length = (numsB ds).length by rw [List.length_append, hnl]; simp only [List.length_singleton]; omega, List.take_left]
  have hw2 : wrap64 ((pre.length : Int) + 1) = ((pre.length + 1 : Nat) : Int) := by rw [w64 _ (by omega) (by omega)]; rfl
  unfold G.lex_marked.f
  rw [hw, if_neg (by rw [hl]; omega), if_pos (by omega), if_pos (by rw [hl]; omega), hr, show ((125 : Int) != 125) = false from rfl, G.lex_marked.j0, if_neg (by simp), hlast, Option.bind_some, hw, hw2, if_neg (by omega), if_pos (by omega), if_pos (by omega), if_pos (by rw [hl]; omega)]
  simp only [Int.toNat_natCast]
  rw [hcut, str_nums, mk_toList, mk_size]
  by_cases h0 : ds = []
  · rw [if_pos h0, if_pos (.inl h0)]
  rw [if_neg h0]
  by_cases h7 : 7 < ds.length
  · rw [if_pos (by omega), if_pos (.inr h7)]
  rw [if_neg (by omega), if_neg (by simp [h0, h7])]
  have ht : strings_Trim.f (mk ds) ⟨#[48, 49, 50, 51, 52, 53, 54, 55, 56, 57]⟩ = some (mk (Lib.trimS ds [48, 49, 50, 51, 52, 53, 54, 55, 56, 57])) := by
    unfold strings_Trim.f
    rw [if_pos ⟨by rw [mk_size]; omega, by decide, by decide⟩]
    rfl
  rw [ht, Option.bind_some, mk_toList, if_pos ((trim_nil _).2 h)]
  have ha : Lib.atoi ds = some (decV 0 ds : Nat) := by
    cases ds with
    | nil => exact absurd rfl h0
    | cons b r =>
      have h5 := h
      rw [List.all_cons, Bool.and_eq_true] at h5
      have h6 := h5.1
      unfold dig at h6
      simp only [Bool.and_eq_true, decide_eq_true_eq] at h6
      have e1 : (b == 45) = false := beq_eq_false_iff_ne.2 (by rintro rfl; simp at h6)
      have e2 : (b == 43) = false := beq_eq_false_iff_ne.2 (by rintro rfl; simp at h6)
      have e3 : Lib.decNat (b :: r) = some (decV 0 (b :: r)) := by
        unfold Lib.decNat
        rw [if_neg (by simp), decFrom_all _ _ h]
      simp only [Lib.atoi, e1, e2, e3, Bool.false_eq_true, if_false, Option.map_some]
      rfl
  unfold G.strconv_Atoi.f
  rw [if_pos (by rw [mk_size]; omega), mk_data, ha]
  rfl
/-- A line that does not end so. -/
theorem marked_not (l : List Int) (c : Int) (hc : c ≠ 125) (hl : l.length ≤ 1000000000) (k : Nat) : G.lex_marked.f (k + 1) (l ++ [c]) = some (-1, 0) := by
  have hn : (l ++ [c]).length = l.length + 1 := by simp
  have hw : wrap64 (((l ++ [c]).length : Int) - 1) = ((l.length : Nat) : Int) := by rw [hn, w64 _ (by omega) (by omega)]; omega
  have hr : rd (l ++ [c]) (l.length : Int) = c := by
    unfold rd
    simp [List.getD_eq_getElem?_getD]
  unfold G.lex_marked.f
  rw [hw, if_neg (by rw [hn]; omega), if_pos (by omega), if_pos (by rw [hn]; omega), hr, G.lex_marked.j0, if_pos (by simpa using hc)]
/-! ### Numbers in digits -/
theorem dec_at : ∀ (m n k : Nat), n < 10 ^ (m + 1) → m ≤ 15 → m < k → ∃ ds : List UInt8, letterboxlaw17_dec.f k n = some (mk ds) ∧ ds.all dig = true ∧ decV 0 ds = n ∧ 1 ≤ ds.length ∧ ds.length ≤ m + 1
  | m, n, 0, _, _, h => absurd h (by omega)
  | m, n, k + 1, hn, hm, hk => by
    by_cases h10 : n < 10
    · refine ⟨[UInt8.ofNat (48 + n)], ?_, ?_, ?_, Nat.le_refl _, by simp⟩
      · rw [letterboxlaw17_dec.f, if_pos (by omega), w64 _ (by omega) (by omega), show ((48 + (n : Int)) % 256) = ((48 + n : Nat) : Int) by omega]
        refine congrArg some (ext_list ?_)
        rw [strOfNums_data]
        show [UInt8.ofNat (((48 + n : Nat) : Int)).toNat] = [UInt8.ofNat (48 + n)]
        rw [Int.toNat_natCast]
      · have : (UInt8.ofNat (48 + n)).toNat = 48 + n := by rw [UInt8.toNat_ofNat']; omega
        rw [List.all_cons, List.all_nil, Bool.and_true, dig, this, decide_eq_true (by omega), decide_eq_true (by omega)]; rfl
      · have : (UInt8.ofNat (48 + n)).toNat = 48 + n := by rw [UInt8.toNat_ofNat']; omega
        show 0 * 10 + ((UInt8.ofNat (48 + n)).toNat - 48) = n
        rw [this, Nat.zero_mul, Nat.zero_add, Nat.add_sub_cancel_left]
    · obtain ⟨m, rfl⟩ : ∃ m', m = m' + 1 := by
        cases m with
        | zero => exact absurd hn (by omega)
        | succ m => exact ⟨m, rfl⟩
      have hp : n / 10 < 10 ^ (m + 1) := by rw [Nat.pow_succ] at hn; omega
      have hbig : n < 10 ^ 17 := Nat.lt_of_lt_of_le hn (Nat.pow_le_pow_right (by decide) (by omega))
      have h17 : (10 : Nat) ^ 17 = 100000000000000000 := by decide
      obtain ⟨a, ha, ha1, ha2, ha3, ha4⟩ := dec_at m (n / 10) k hp (by omega) (by omega)
      obtain ⟨b, hb, hb1, hb2, hb3, hb4⟩ := dec_at 0 (n % 10) k (by omega) (by omega) (by omega)
      refine ⟨a ++ b, ?_, ?_, ?_, by simp; omega, by simp; omega⟩
      · have e1 : wrap64 (Int.tdiv (n : Int) 10) = ((n / 10 : Nat) : Int) := by
          rw [Int.tdiv_eq_ediv_of_nonneg (by omega), w64 _ (by omega) (by omega)]; omega
        have e2 : Int.tmod (n : Int) 10 = ((n % 10 : Nat) : Int) := by
          rw [Int.tmod_eq_emod_of_nonneg (by omega)]; omega
        rw [letterboxlaw17_dec.f, if_neg (by omega), e1, ha, e2, hb]
        show (if (mk a).size + (mk b).size ≤ 9223372036854775807 then some (mk a ++ mk b) else none) = _
        rw [if_pos (by rw [mk_size, mk_size]; omega), mk_app]
      · rw [List.all_append, ha1, hb1]; rfl
      · rw [decV_app, ha2]
        match b, hb2, hb3, hb4 with
        | [x], hb2, _, _ =>
          have hb5 : 0 * 10 + (x.toNat - 48) = n % 10 := hb2
          show n / 10 * 10 + (x.toNat - 48) = n
          omega
end Go.Proofs.YtbdmhlocafpehaaDoor.LexM
