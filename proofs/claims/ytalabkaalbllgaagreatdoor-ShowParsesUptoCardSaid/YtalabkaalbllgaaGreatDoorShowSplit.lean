/- strings.Split at one byte, as lists of bytes (as in the mime seat). -/
import Derived.Test.YtalabkaalbllgaaGreatDoorPx1
namespace Go.Proofs.YtalabkaalbllgaaGreatDoor.Pure
open Go.RowKit Go.Proofs.YtalabkaalbllgaaGreatDoor Go.Proofs.YtalabkaalbllgaaGreatDoor.P Go.Proofs.YtalabkaalbllgaaGreatDoorW.PrintWords Go.Proofs.YtalabkaalbllgaaGreatDoorW.PrintLast Go.Proofs.YtalabkaalbllgaaGreatDoorW.PrintMore

theorem w64 (x : Int) (h0 : -9223372036854775808 ≤ x) (h1 : x ≤ 9223372036854775807) : wrap64 x = x := by unfold wrap64; omega
theorem ext_list {s t : ByteArray} (h : s.data.toList = t.data.toList) : s = t := ByteArray.ext (Array.toList_inj.1 h)
theorem extract_list (s : ByteArray) (a b : Nat) : (s.extract a b).data.toList = (s.data.toList.take b).drop a := by
  simp [ByteArray.data_extract, List.drop_take]
def mk (l : List UInt8) : ByteArray := ⟨l.toArray⟩
theorem mk_list (l : List UInt8) : (mk l).data.toList = l := rfl
theorem mk_self (s : ByteArray) : mk s.data.toList = s := ext_list (mk_list _)
theorem mk_size (l : List UInt8) : (mk l).size = l.length := by rw [Lib.size_eq, mk_list]
theorem take_set {α : Type} (l : List α) (i : Nat) (x : α) (h : i < l.length) : (l.set i x).take (i + 1) = l.take i ++ [x] := by
  rw [List.take_succ_eq_append_getElem (by simpa using h), List.getElem_set_self, List.take_set_of_le (Nat.le_refl _)]

/-- The pieces between the bytes c. -/
def cuts (c : UInt8) : List UInt8 → List (List UInt8)
  | [] => [[]]
  | b :: l => if b = c then [] :: cuts c l else
    match cuts c l with
    | [] => [[b]]
    | x :: xs => (b :: x) :: xs
theorem cuts_out (c : UInt8) : ∀ l : List UInt8, ¬ c ∈ l → cuts c l = [l]
  | [], _ => rfl
  | b :: l, h => by
    rw [List.mem_cons, not_or] at h
    unfold cuts
    rw [if_neg (fun e => h.1 e.symm), cuts_out c l h.2]
theorem cuts_in (c : UInt8) : ∀ x r : List UInt8, ¬ c ∈ x → cuts c (x ++ c :: r) = x :: cuts c r
  | [], r, _ => by
    rw [List.nil_append]
    conv => lhs; unfold cuts
    rw [if_pos rfl]
  | b :: x, r, h => by
    rw [List.mem_cons, not_or] at h
    rw [List.cons_append]
    conv => lhs; unfold cuts
    rw [if_neg (fun e => h.1 e.symm), cuts_in c x r h.2]
theorem ix_out (c : UInt8) : ∀ l : List UInt8, ¬ c ∈ l → Lib.indexByte l c = -1
  | [], _ => rfl
  | b :: l, h => by
    rw [List.mem_cons, not_or] at h
    unfold Lib.indexByte
    rw [beq_eq_false_iff_ne.2 (fun e => h.1 e.symm), ix_out c l h.2]
    rfl
theorem ix_in (c : UInt8) : ∀ x r : List UInt8, ¬ c ∈ x → Lib.indexByte (x ++ c :: r) c = x.length
  | [], r, _ => by unfold Lib.indexByte; simp
  | b :: x, r, h => by
    rw [List.mem_cons, not_or] at h
    have ih := ix_in c x r h.2
    rw [List.cons_append]
    unfold Lib.indexByte
    have hb : (b == c) = false := beq_eq_false_iff_ne.2 (fun e => h.1 e.symm)
    rw [hb, ih]
    have h2 : ((x.length : Int) == -1) = false := beq_eq_false_iff_ne.2 (by omega)
    rw [h2, List.length_cons]
    simp
theorem split_at (c : UInt8) : ∀ l : List UInt8, c ∈ l → ∃ x r, l = x ++ c :: r ∧ ¬ c ∈ x
  | [], h => by cases h
  | b :: l, h => by
    by_cases hb : b = c
    · exact ⟨[], l, by rw [hb]; rfl, by simp⟩
    · have hm : c ∈ l := by
        rcases List.mem_cons.1 h with h | h
        · exact absurd h.symm hb
        · exact h
      obtain ⟨x, r, rfl, hx⟩ := split_at c l hm
      exact ⟨b :: x, r, rfl, by rw [List.mem_cons, not_or]; exact ⟨fun e => hb e.symm, hx⟩⟩
theorem cuts_ne (c : UInt8) (l : List UInt8) : cuts c l ≠ [] := by
  cases l with
  | nil => simp [cuts]
  | cons b l =>
    unfold cuts
    split
    · simp
    · split <;> simp
theorem cuts_len (c : UInt8) : ∀ l : List UInt8, (cuts c l).length ≤ l.length + 1
  | [] => by simp [cuts]
  | b :: l => by
    have := cuts_len c l
    unfold cuts
    split
    · rw [List.length_cons, List.length_cons]
      omega
    · split
      · simp
      · rename_i h
        rw [h, List.length_cons] at this
        rw [List.length_cons, List.length_cons]
        omega
theorem cuts_le (c : UInt8) : ∀ l : List UInt8, ∀ x ∈ cuts c l, x.length ≤ l.length
  | [], x, h => by
    simp [cuts] at h
    simp [h]
  | b :: l, x, h => by
    have ih := cuts_le c l
    unfold cuts at h
    rw [List.length_cons]
    split at h
    · rcases List.mem_cons.1 h with rfl | h
      · simp
      · have := ih x h
        omega
    · split at h
      · rename_i he
        exact absurd he (cuts_ne c l)
      · rename_i y ys he
        rw [he] at ih
        rcases List.mem_cons.1 h with rfl | h
        · have := ih y List.mem_cons_self
          rw [List.length_cons]
          omega
        · have := ih x (List.mem_cons_of_mem _ h)
          omega
theorem ext_head (x r : List UInt8) (n : Nat) (h : n = x.length) : (mk (x ++ r)).extract 0 n = mk x := ext_list (by
  rw [extract_list, mk_list, mk_list, h, List.take_left, List.drop_zero])
theorem ext_tail (x r : List UInt8) (c : UInt8) (n : Nat) (h : n = x.length + 1) : (mk (x ++ c :: r)).extract n (mk (x ++ c :: r)).size = mk r := ext_list (by
  rw [extract_list, mk_size, mk_list, mk_list, List.take_length, h, show x ++ c :: r = (x ++ [c]) ++ r by simp, show x.length + 1 = (x ++ [c]).length by simp, List.drop_left])
theorem sgs_l0 (c : UInt8) (n : Nat) (hn : n ≤ 1000000) : ∀ (k i : Nat) (l : List UInt8) (a : List ByteArray), l.length ≤ 1000000 → i + l.count c = n → a.length = n + 1 → l.count c < k → G.strings_genSplit.l0 k (mk l) ⟨#[c]⟩ 0 n a i = some (a.take i ++ (cuts c l).map mk)
  | 0, _, _, _, _, _, _, h => absurd h (by omega)
  | k + 1, i, l, a, hl, hi, ha, hk => by
    have h1 : (⟨#[c]⟩ : ByteArray).size = 1 := rfl
    unfold G.strings_genSplit.l0
    by_cases hm : c ∈ l
    · obtain ⟨x, r, rfl, hx⟩ := split_at c l hm
      have hc : (x ++ c :: r).count c = r.count c + 1 := by
        rw [List.count_append, List.count_eq_zero.2 hx, List.count_cons_self]
        omega
      have hll : (x ++ c :: r).length = x.length + (r.length + 1) := by simp
      have hs := mk_size (x ++ c :: r)
      have hix : strings_Index.f (mk (x ++ c :: r)) ⟨#[c]⟩ = some (x.length : Int) := congrArg some (ix_in c x r hx)
      rw [if_pos (by omega), hix, Option.bind_some, if_neg (by omega), h1, w64 ((x.length : Int) + 0) (by omega) (by omega), if_pos (by omega), if_pos (by omega), if_pos (by omega), if_pos (by omega), w64 ((x.length : Int) + ((1 : Nat) : Int)) (by omega) (by omega), if_pos (by omega), if_pos (by omega), w64 _ (by omega) (by omega),
        ext_tail x r c _ (by omega), ext_head x (c :: r) _ (by omega), Int.toNat_natCast, show ((i : Int) + 1) = ((i + 1 : Nat) : Int) from rfl,
        sgs_l0 c n hn k (i + 1) r _ (by omega) (by omega) (by rw [List.length_set]; exact ha) (by omega), take_set _ _ _ (by omega), cuts_in c x r hx, List.append_assoc]
      rfl
    · have hc : l.count c = 0 := List.count_eq_zero.2 hm
      rw [if_neg (by omega), if_pos (by omega), if_pos (by omega), w64 _ (by omega) (by omega), if_pos (by omega), if_pos (by omega), Int.toNat_natCast, show ((i : Int) + 1).toNat = i + 1 by omega, take_set _ _ _ (by omega), cuts_out c l hm]
      rfl
theorem Split_eq (k : Nat) (c : UInt8) (l : List UInt8) (hl : l.length ≤ 100000) (hk : l.length + 1 < k) : strings_Split.f k (mk l) ⟨#[c]⟩ = some ((cuts c l).map mk) := by
  obtain ⟨k, rfl⟩ : ∃ j, k = j + 1 := ⟨k - 1, by omega⟩
  have hc := List.count_le_length (a := c) (l := l)
  have hct : strings_Count.f (mk l) ⟨#[c]⟩ = some (l.count c : Int) := rfl
  have hs := mk_size l
  have hne : ¬ (⟨#[c]⟩ : ByteArray).toList = ([] : List UInt8) := by
    rw [Lib.toList_data]
    simp
  unfold strings_Split.f G.strings_Split.f G.strings_genSplit.f
  rw [if_neg (by omega), if_neg hne, if_pos (by omega), hct, Option.bind_some, w64 _ (by omega) (by omega)]
  rw [G.strings_genSplit.j0]
  have hmn : mn ((l.count c : Int) + 1) (wrap64 (((mk l).size : Int) + 1)) = ((l.count c + 1 : Nat) : Int) := by
    rw [w64 _ (by omega) (by omega)]
    unfold mn
    rw [if_neg (by omega)]
    rfl
  rw [hmn, if_pos (by omega), Int.toNat_natCast, if_pos (by omega), w64 _ (by omega) (by omega), show (((l.count c + 1 : Nat) : Int) - 1) = ((l.count c : Nat) : Int) by omega, show (0 : Int) = ((0 : Nat) : Int) from rfl]
  have := sgs_l0 c (l.count c) (by omega) k 0 l (List.replicate (l.count c + 1) ⟨#[]⟩) (by omega) (by omega) (by simp) (by omega)
  rw [show ((0 : Nat) : Int) = 0 from rfl] at this ⊢
  rw [this, Option.bind_some, List.take_zero, List.nil_append]
end Go.Proofs.YtalabkaalbllgaaGreatDoor.Pure
