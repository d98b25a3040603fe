/- strings.Split and strings.Cut at one byte, as lists of bytes; the boundary; what a message is. -/
import Derived.Test.YtfabaenfglionaaGreatDoorUidHead
import Derived.Test.YtfabaenfglionaaGreatDoorPx3
namespace Go.Proofs.YtfabaenfglionaaGreatDoor.Pure
open Go.RowKit Go.Proofs.YtfabaenfglionaaGreatDoor Go.Proofs.YtfabaenfglionaaGreatDoor.P Go.Proofs.YtfabaenfglionaaGreatDoor.Spec Go.Proofs.YtfabaenfglionaaGreatDoorW.PrintWords Go.Proofs.YtfabaenfglionaaGreatDoorW.PrintLast Go.Proofs.YtfabaenfglionaaGreatDoorW.PrintMore

def mk (l : List UInt8) : ByteArray := ⟨l.toArray⟩
theorem mk_list (l : List UInt8) : (mk l).data.toList = l := rfl
theorem mk_self (s : ByteArray) : mk s.data.toList = s := ext_list (mk_list _)
theorem mk_size (l : List UInt8) : (mk l).size = l.length := by rw [Lib.size_eq, mk_list]
def cuts (c : UInt8) : List UInt8 → List (List UInt8)
  | [] => [[]]
  | b :: l => if b = c then [] :: cuts c l else
    match cuts c l with
    | [] => [[b]]
    | x :: xs => (b :: x) :: xs
theorem cuts_out (c : UInt8) : ∀ l : List UInt8, ¬ c ∈ l → cuts c l = [l]
  | [], _ => rfl
  | b :: l, h => by
    rw [List.mem_cons, not_or] at h
    unfold cuts
    rw [if_neg (fun e => h.1 e.symm), cuts_out c l h.2]
theorem cuts_in (c : UInt8) : ∀ x r : List UInt8, ¬ c ∈ x → cuts c (x ++ c :: r) = x :: cuts c r
  | [], r, _ => by
    rw [List.nil_append]
    conv => lhs; unfold cuts
    rw [if_pos rfl]
  | b :: x, r, h => by
    rw [List.mem_cons, not_or] at h
    rw [List.cons_append]
    conv => lhs; unfold cuts
    rw [if_neg (fun e => h.1 e.symm), cuts_in c x r h.2]
theorem ix_out (c : UInt8) : ∀ l : List UInt8, ¬ c ∈ l → Lib.indexByte l c = -1
  | [], _ => rfl
  | b :: l, h => by
    rw [List.mem_cons, not_or] at h
    unfold Lib.indexByte
    rw [beq_eq_false_iff_ne.2 (fun e => h.1 e.symm), ix_out c l h.2]
    rfl
theorem ix_in (c : UInt8) : ∀ x r : List UInt8, ¬ c ∈ x → Lib.indexByte (x ++ c :: r) c = x.length
  | [], r, _ => by unfold Lib.indexByte; simp
  | b :: x, r, h => by
    rw [List.mem_cons, not_or] at h
    have ih := ix_in c x r h.2
    rw [List.cons_append]
    unfold Lib.indexByte
    have hb : (b == c) = false := beq_eq_false_iff_ne.2 (fun e => h.1 e.symm)
    rw [hb, ih]
    have h2 : ((x.length : Int) == -1) = false := beq_eq_false_iff_ne.2 (by omega)
    rw [h2, List.length_cons]
    simp
theorem split_at (c : UInt8) : ∀ l : List UInt8, c ∈ l → ∃ x r, l = x ++ c :: r ∧ ¬ c ∈ x
  | [], h => by cases h
  | b :: l, h => by
    by_cases hb : b = c
    · exact ⟨[], l, by rw [hb]; rfl, by simp⟩
    · have hm : c ∈ l := by
        rcases List.mem_cons.1 h with h | h
        · exact absurd h.symm hb
        · exact h
      obtain ⟨x, r, rfl, hx⟩ := split_at c l hm
      exact ⟨b :: x, r, rfl, by rw [List.mem_cons, not_or]; exact ⟨fun e => hb e.symm, hx⟩⟩
theorem cuts_ne (c : UInt8) (l : List UInt8) : cuts c l ≠ [] := by
  cases l with
  | nil => simp [cuts]
  | cons b l =>
    unfold cuts
    split
    · simp
    · split <;> simp
theorem cuts_len (c : UInt8) : ∀ l : List UInt8, (cuts c l).length ≤ l.length + 1
  | [] => by simp [cuts]
  | b :: l => by
    have := cuts_len c l
    unfold cuts
    split
    · rw [List.length_cons, List.length_cons]
      omega
    · split
      · simp
      · rename_i h
        rw [h, List.length_cons] at this
        rw [List.length_cons, List.length_cons]
        omega
theorem cuts_le (c : UInt8) : ∀ l : List UInt8, ∀ x ∈ cuts c l, x.length ≤ l.length
  | [], x, h => by
    simp [cuts] at h
    simp [h]
  | b :: l, x, h => by
    have ih := cuts_le c l
    unfold cuts at h
    rw [List.length_cons]
    split at h
    · rcases List.mem_cons.1 h with rfl | h
      · simp
      · have := ih x h
        omega
    · split at h
      · rename_i he
        exact absurd he (cuts_ne c l)
      · rename_i y ys he
        rw [he] at ih
        rcases List.mem_cons.1 h with rfl | h
        · have := ih y List.mem_cons_self
          rw [List.length_cons]
          omega
        · have := ih x (List.mem_cons_of_mem _ h)
          omega
theorem ext_head (x r : List UInt8) (n : Nat) (h : n = x.length) : (mk (x ++ r)).extract 0 n = mk x := ext_list (by
  rw [extract_list, mk_list, mk_list, h, List.take_left, List.drop_zero])
theorem ext_tail (x r : List UInt8) (c : UInt8) (n : Nat) (h : n = x.length + 1) : (mk (x ++ c :: r)).extract n (mk (x ++ c :: r)).size = mk r := ext_list (by
  rw [extract_list, mk_size, mk_list, mk_list, List.take_length, h, show x ++ c :: r = (x ++ [c]) ++ r by simp, show x.length + 1 = (x ++ [c]).length by simp, List.drop_left])
theorem sgs_l0 (c : UInt8) (n : Nat) (hn : n ≤ 1000000) : ∀ (k i : Nat) (l : List UInt8) (a : List ByteArray), l.length ≤ 1000000 → i + l.count c = n → a.length = n + 1 → l.count c < k → G.strings_genSplit.l0 k (mk l) ⟨#[c]⟩ 0 n a i = some (a.take i ++ (cuts c l).map mk)
  | 0, _, _, _, _, _, _, h => absurd h (by omega)
  | k + 1, i, l, a, hl, hi, ha, hk => by
    have h1 : (⟨#[c]⟩ : ByteArray).size = 1 := rfl
    unfold G.strings_genSplit.l0
    by_cases hm : c ∈ l
    · obtain ⟨x, r, rfl, hx⟩ := split_at c l hm
      have hc : (x ++ c :: r).count c = r.count c + 1 := by
        rw [List.count_append, List.count_eq_zero.2 hx, List.count_cons_self]
        omega
      have hll : (x ++ c :: r).length = x.length + (r.length + 1) := by simp
      have hs := mk_size (x ++ c :: r)
      have hix : strings_Index.f (mk (x ++ c :: r)) ⟨#[c]⟩ = some (x.length : Int) := congrArg some (ix_in c x r hx)
      rw [if_pos (by omega), hix, Option.bind_some, if_neg (by omega), h1, w64 ((x.length : Int) + 0) (by omega) (by omega), if_pos (by omega), if_pos (by omega), if_pos (by omega), if_pos (by omega), w64 ((x.length : Int) + ((1 : Nat) : Int)) (by omega) (by omega), if_pos (by omega), if_pos (by omega), w64 _ (by omega) (by omega),
        ext_tail x r c _ (by omega), ext_head x (c :: r) _ (by omega), Int.toNat_natCast, show ((i : Int) + 1) = ((i + 1 : Nat) : Int) from rfl,
        sgs_l0 c n hn k (i + 1) r _ (by omega) (by omega) (by rw [List.length_set]; exact ha) (by omega), take_set _ _ _ (by omega), cuts_in c x r hx, List.append_assoc]
      rfl
    · have hc : l.count c = 0 := List.count_eq_zero.2 hm
      rw [if_neg (by omega), if_pos (by omega), if_pos (by omega), w64 _ (by omega) (by omega), if_pos (by omega), if_pos (by omega), Int.toNat_natCast, show ((i : Int) + 1).toNat = i + 1 by omega, take_set _ _ _ (by omega), cuts_out c l hm]
      rfl
theorem Split_eq (k : Nat) (c : UInt8) (l : List UInt8) (hl : l.length ≤ 100000) (hk : l.length + 1 < k) : strings_Split.f k (mk l) ⟨#[c]⟩ = some ((cuts c l).map mk) := by
  obtain ⟨k, rfl⟩ : ∃ j, k = j + 1 := ⟨k - 1, by omega⟩
  have hc := List.count_le_length (a := c) (l := l)
  have hct : strings_Count.f (mk l) ⟨#[c]⟩ = some (l.count c : Int) := rfl
  have hs := mk_size l
  have hne : ¬ (⟨#[c]⟩ : ByteArray).toList = ([] : List UInt8) := by
    rw [Lib.toList_data]
    simp
  unfold strings_Split.f G.strings_Split.f G.strings_genSplit.f
  rw [if_neg (by omega), if_neg hne, if_pos (by omega), hct, Option.bind_some, w64 _ (by omega) (by omega)]
  rw [G.strings_genSplit.j0]
  have hmn : mn ((l.count c : Int) + 1) (wrap64 (((mk l).size : Int) + 1)) = ((l.count c + 1 : Nat) : Int) := by
    rw [w64 _ (by omega) (by omega)]
    unfold mn
    rw [if_neg (by omega)]
    rfl
  rw [hmn, if_pos (by omega), Int.toNat_natCast, if_pos (by omega), w64 _ (by omega) (by omega), show (((l.count c + 1 : Nat) : Int) - 1) = ((l.count c : Nat) : Int) by omega, show (0 : Int) = ((0 : Nat) : Int) from rfl]
  have := sgs_l0 c (l.count c) (by omega) k 0 l (List.replicate (l.count c + 1) ⟨#[]⟩) (by omega) (by omega) (by simp) (by omega)
  rw [show ((0 : Nat) : Int) = 0 from rfl] at this ⊢
  rw [this, Option.bind_some, List.take_zero, List.nil_append]
theorem cut_out (c : UInt8) (l : List UInt8) (h : ¬ c ∈ l) : strings_Cut.f (mk l) ⟨#[c]⟩ = some (mk l, ⟨#[]⟩, false) := by
  have hix : stringslite_Index.f (mk l) ⟨#[c]⟩ = some (-1) := congrArg some (ix_out c l h)
  unfold strings_Cut.f stringslite_Cut.f
  rw [hix, Option.bind_some, if_neg (by decide)]
  rfl
theorem cut_in (c : UInt8) (x r : List UInt8) (h : ¬ c ∈ x) (hl : x.length + r.length ≤ 1000000) : strings_Cut.f (mk (x ++ c :: r)) ⟨#[c]⟩ = some (mk x, mk r, true) := by
  have hix : stringslite_Index.f (mk (x ++ c :: r)) ⟨#[c]⟩ = some (x.length : Int) := congrArg some (ix_in c x r h)
  have hs := mk_size (x ++ c :: r)
  have hll : (x ++ c :: r).length = x.length + (r.length + 1) := by simp
  have h1 : (⟨#[c]⟩ : ByteArray).size = 1 := rfl
  unfold strings_Cut.f stringslite_Cut.f
  rw [hix, Option.bind_some, if_pos (by omega), if_pos (by omega), if_pos (by omega), h1, w64 _ (by omega) (by omega), if_pos (by omega), if_pos (by omega), ext_tail x r c _ (by omega), ext_head x (c :: r) _ (by omega)]
  rfl
theorem prefix_ex (v : ByteArray) (c : UInt8) (h : 2 ≤ v.size) : ∃ b, strings_HasPrefix.f v ⟨#[c]⟩ = some b := by
  have h1 : (⟨#[c]⟩ : ByteArray).size = 1 := rfl
  unfold strings_HasPrefix.f stringslite_HasPrefix.f
  rw [h1, if_pos (by omega), if_pos (by omega), if_pos (by omega)]
  exact ⟨_, rfl⟩
theorem suffix_ex (v : ByteArray) (c : UInt8) (h : 2 ≤ v.size) (hv : v.size ≤ 1000000) : ∃ b, strings_HasSuffix.f v ⟨#[c]⟩ = some b := by
  have h1 : (⟨#[c]⟩ : ByteArray).size = 1 := rfl
  unfold strings_HasSuffix.f stringslite_HasSuffix.f
  rw [h1, if_pos (by omega), w64 _ (by omega) (by omega), if_pos (by omega), if_pos (by omega)]
  exact ⟨_, rfl⟩
theorem rdOf_nat (L : List ByteArray) (i : Nat) : rdOf ByteArray.empty L (i : Int) = L.getD i ByteArray.empty := by unfold rdOf; rw [Int.toNat_natCast]
theorem getD_B {L : List ByteArray} {B : Nat} (h : ∀ s ∈ L, s.size ≤ B) (i : Nat) (hi : i < L.length) : (L.getD i ByteArray.empty).size ≤ B := by
  rw [List.getD_eq_getElem?_getD, List.getElem?_eq_getElem hi]
  exact h _ (List.getElem_mem hi)
theorem bounded_l0 (L : List ByteArray) (B : Nat) (hB : ∀ s ∈ L, s.size ≤ B) (hBl : B ≤ 100000) (hn : L.length ≤ 200000) : ∀ (k i : Nat), i ≤ L.length → 2 * (L.length - i) + B + 3 < k → ∃ r, mime_bounded.l0 k L L.length i = some r ∧ r.size ≤ B
  | 0, _, _, h => absurd h (by omega)
  | 1, _, _, h => absurd h (by omega)
  | k + 2, i, hi, hk => by
    unfold mime_bounded.l0
    by_cases hlt : i < L.length
    · have hs := getD_B hB i hlt
      rw [if_pos (by omega), if_pos (by omega), if_pos (by omega), rdOf_nat]
      generalize L.getD i ByteArray.empty = s at hs
      have hw : wrap64 ((i : Int) + 1) = ((i + 1 : Nat) : Int) := w64 _ (by omega) (by omega)
      have next : ∃ r, mime_bounded.l0 k L L.length ((i + 1 : Nat) : Int) = some r ∧ r.size ≤ B := bounded_l0 L B hB hBl hn k (i + 1) (by omega) (by omega)
      by_cases hm : (61 : UInt8) ∈ s.data.toList
      · obtain ⟨x, r, hl, hx⟩ := split_at 61 _ hm
        have hsz := Lib.size_eq s
        rw [hl, List.length_append, List.length_cons] at hsz
        have e : s = mk (x ++ 61 :: r) := by rw [← hl, mk_self]
        have hxs := mk_size x
        have hrs := mk_size r
        have ht := trimB_le (mk x)
        rw [e, cut_in 61 x r hx (by omega), Option.bind_some]
        dsimp only
        rw [if_pos rfl, trim_eq _ (by omega), Option.bind_some, USame_eq (k + 1) _ _ (by omega) (by omega), Option.bind_some]
        unfold mime_bounded.j1
        by_cases hb : (!same (trimB (mk x)) (⟨#[98, 111, 117, 110, 100, 97, 114, 121]⟩ : ByteArray)) = true
        · rw [if_pos hb, hw]
          exact next
        · have ht2 := trimB_le (mk r)
          rw [if_neg hb, trim_eq _ (by omega), Option.bind_some]
          generalize trimB (mk r) = v at ht2
          by_cases h2 : 2 ≤ v.size
          · obtain ⟨p, hp⟩ := prefix_ex v 34 h2
            obtain ⟨q, hq⟩ := suffix_ex v 34 h2 (by omega)
            rw [if_pos (by omega), hp, Option.bind_some]
            by_cases hpt : p = true
            · rw [if_pos hpt, hq, Option.bind_some]
              by_cases hqt : q = true
              · rw [if_pos hqt, w64 _ (by omega) (by omega), if_pos (by omega), if_pos (by omega)]
                refine ⟨_, rfl, ?_⟩
                rw [Lib.size_eq, extract_list, List.length_drop, List.length_take]
                omega
              · rw [if_neg hqt]
                exact ⟨_, rfl, by omega⟩
            · rw [if_neg hpt]
              exact ⟨_, rfl, by omega⟩
          · rw [if_neg (by omega)]
            exact ⟨_, rfl, by omega⟩
      · rw [show s = mk s.data.toList from (mk_self s).symm, cut_out 61 _ hm, Option.bind_some]
        dsimp only
        rw [if_neg Bool.false_ne_true]
        unfold mime_bounded.j1
        rw [if_pos rfl, hw]
        exact next
    · rw [if_neg (by omega)]
      exact ⟨_, rfl, by show 0 ≤ B; omega⟩
theorem fgo_f1 : ∀ (ts : List (List Int)) (st : St) (B : Nat), (∀ f ∈ st.1, f.f1.size ≤ B) → (st.2 = true → st.1 ≠ []) → ∀ f ∈ fgo ts st, f.f1.size ≤ B + ts.flatten.length + ts.length
  | [], _, B, h, _ => fun f hf => by
    have := h f hf
    omega
  | t :: ts, st, B, h, ho => fun f hf => by
    rw [List.flatten_cons, List.length_append, List.length_cons]
    unfold fgo at hf
    split at hf
    · have := fgo_f1 ts st B h ho f hf
      omega
    · have := fgo_f1 ts (fstep st t) (B + t.length + 1) (fstep_le h ho) (fstep_open ho) f hf
      omega
theorem fields_f1 (l : List Int) : ∀ f ∈ fields l, f.f1.size ≤ 2 * l.length := by
  intro f hf
  have h3 := texts_flat l
  have h2 := lines_length_le (l.take (hend l))
  have h4 : (texts l).length ≤ l.length := by
    unfold texts
    rw [← lines_head, List.length_map]
    rw [List.length_take] at h2
    omega
  have := fgo_f1 (texts l) ([], false) 0 (fun f hf => by cases hf) (fun h => by cases h) f hf
  omega
theorem fget_le {name : ByteArray} {F : List S106} {B : Nat} (h : ∀ f ∈ F, f.f1.size ≤ B) : (fget name F).1.size ≤ B := by
  induction F with
  | nil => show 0 ≤ B; omega
  | cons f F ih =>
    unfold fget
    split
    · exact h f List.mem_cons_self
    · exact ih fun g hg => h g (List.mem_cons_of_mem _ hg)
def ctype : ByteArray := ⟨#[99, 111, 110, 116, 101, 110, 116, 45, 116, 121, 112, 101]⟩
theorem Type_ex (k : Nat) (l : List Int) (hb : Byt l) (hl : l.length ≤ 20000) (hk : 8 * l.length + 20 < k) : ∃ m s o, mime_Type.f k l = some (m, s, o) ∧ o.size ≤ 2 * l.length := by
  have hv := fget_le (name := ctype) (fields_f1 l)
  unfold mime_Type.f
  rw [show (⟨#[99, 111, 110, 116, 101, 110, 116, 45, 116, 121, 112, 101]⟩ : ByteArray) = ctype from rfl, UGet_eq k l ctype hb (by omega) (by omega), Option.bind_some]
  generalize (fget ctype (fields l)).1 = v at hv
  have hvs := Lib.size_eq v
  have hlen := cuts_len 59 v.data.toList
  have hle := cuts_le 59 v.data.toList
  rw [show v = mk v.data.toList from (mk_self v).symm, Split_eq k 59 _ (by omega) (by omega), Option.bind_some]
  obtain ⟨p, ps, hp⟩ : ∃ p ps, cuts 59 v.data.toList = p :: ps := by
    cases h : cuts 59 v.data.toList with
    | nil => exact absurd h (cuts_ne _ _)
    | cons p ps => exact ⟨p, ps, rfl⟩
  rw [hp] at hlen hle
  rw [hp, List.map_cons]
  rw [List.length_cons] at hlen
  have hB : ∀ s ∈ ps.map mk, s.size ≤ 2 * l.length := by
    intro s hs
    obtain ⟨x, hx, rfl⟩ := List.mem_map.1 hs
    have := hle x (List.mem_cons_of_mem _ hx)
    rw [mk_size]
    omega
  have hpm : (ps.map mk).length = ps.length := List.length_map ..
  obtain ⟨o, ho, hos⟩ := bounded_l0 (ps.map mk) (2 * l.length) hB (by omega) (by omega) k 0 (by omega) (by omega)
  have ho2 : mime_bounded.f k (List.drop 1 (mk p :: ps.map mk)) = some o := ho
  have hps := hle p List.mem_cons_self
  have hms := mk_size p
  have htr := trimB_le (mk p)
  have hpos : (0 : Int) < ((mk p :: ps.map mk).length : Int) := by rw [List.length_cons]; omega
  rw [if_pos (by omega), ho2, Option.bind_some, if_pos hpos]
  rw [show rdOf ByteArray.empty (mk p :: ps.map mk) 0 = mk p from rfl, trim_eq _ (by omega), Option.bind_some]
  unfold mime_small.f
  rw [if_pos (by omega), Option.bind_some]
  obtain ⟨q, hq⟩ : ∃ q, strings_Cut.f (lowB (trimB (mk p))) ⟨#[47]⟩ = some q := by
    have hlb : (lowB (trimB (mk p))).size = (trimB (mk p)).size := by
      rw [Lib.size_eq, Lib.size_eq, lowB_list, List.length_map]
    by_cases hm : (47 : UInt8) ∈ (lowB (trimB (mk p))).data.toList
    · obtain ⟨x, r, hxr, hx⟩ := split_at 47 _ hm
      have hsz := Lib.size_eq (lowB (trimB (mk p)))
      rw [hxr, List.length_append, List.length_cons] at hsz
      exact ⟨_, by rw [show lowB (trimB (mk p)) = mk (x ++ 47 :: r) from by rw [← hxr, mk_self], cut_in 47 x r hx (by omega)]⟩
    · exact ⟨_, by rw [show lowB (trimB (mk p)) = mk (lowB (trimB (mk p))).data.toList from (mk_self _).symm, cut_out 47 _ hm]⟩
  rw [hq, Option.bind_some]
  by_cases h1 : q.1.toList = ([] : List UInt8)
  · rw [if_pos h1]
    exact ⟨_, _, _, rfl, hos⟩
  · rw [if_neg h1]
    by_cases h2 : q.2.1.toList = ([] : List UInt8)
    · rw [if_pos h2]
      exact ⟨_, _, _, rfl, hos⟩
    · rw [if_neg h2]
      exact ⟨_, _, _, rfl, hos⟩
end Go.Proofs.YtfabaenfglionaaGreatDoor.Pure
