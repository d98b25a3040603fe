/- Both readings of a head's fields are one. -/
import Derived.Test.YtlicjigofnbpjaaDoorHeadImpl2
namespace Go.Proofs.YtlicjigofnbpjaaDoor.Pure
open Go.RowKit Go.Proofs.YtlicjigofnbpjaaDoor Go.Proofs.YtlicjigofnbpjaaDoor.P Go.Proofs.YtlicjigofnbpjaaDoor.Spec Go.Proofs.YtlicjigofnbpjaaDoorW.PrintWords Go.Proofs.YtlicjigofnbpjaaDoorW.PrintLast Go.Proofs.YtlicjigofnbpjaaDoorW.PrintMore

theorem fl_take : ∀ (l : List Int) (n : Nat), fl (l.take (fl l + n)) = fl l
  | [], _ => by simp [fl]
  | c :: l, n => by
    by_cases hc : c = 10
    · rw [fl_ten hc, Nat.add_comm 1 n, List.take_succ_cons, fl_ten hc]
    · rw [fl_other hc, show fl l + 1 + n = (fl l + n) + 1 by omega, List.take_succ_cons, fl_other hc, fl_take l n]
theorem lines_take {l : List Int} (h : l ≠ []) (n : Nat) : lines (l.take (fl l + n)) = l.take (fl l) :: lines ((l.drop (fl l)).take n) := by
  have hp := fl_pos h
  have hle := fl_le l
  have hne : l.take (fl l + n) ≠ [] := by
    intro he
    have h1 : (l.take (fl l + n)).length = 0 := by rw [he]; rfl
    rw [List.length_take] at h1
    omega
  rw [lines_ne hne, fl_take, List.take_take, List.drop_take, Nat.min_eq_left (by omega), show fl l + n - fl l = n by omega]
/-- The lines up to the first empty one, it too. -/
def heads : List (List Int) → List (List Int)
  | [] => []
  | x :: xs => if txt x = [] then [x] else x :: heads xs
theorem heads_cons (x : List Int) (xs : List (List Int)) : heads (x :: xs) = if txt x = [] then [x] else x :: heads xs := rfl
theorem upto_cons (x : List Int) (xs : List (List Int)) : upto (x :: xs) = if txt x = [] then x.length else x.length + upto xs := rfl
theorem lines_head (l : List Int) : lines (l.take (hend l)) = heads (lines l) := by
  induction l using line_ind with
  | h0 => rfl
  | h1 l hl ih =>
    have hle := fl_le l
    have hx : (l.take (fl l)).length = fl l := by rw [List.length_take]; omega
    unfold hend at ih ⊢
    rw [lines_ne hl, upto_cons, heads_cons, hx]
    by_cases ht : txt (l.take (fl l)) = []
    · rw [if_pos ht, if_pos ht]
      have := lines_take hl 0
      simpa [lines_nil] using this
    · rw [if_neg ht, if_neg ht, lines_take hl, ih]

theorem map_txt_flat : ∀ ls : List (List Int), (ls.map txt).flatten.length ≤ ls.flatten.length
  | [] => Nat.le_refl _
  | x :: xs => by
    have := map_txt_flat xs
    have := txt_le x
    rw [List.map_cons, List.flatten_cons, List.flatten_cons, List.length_append, List.length_append]
    omega
theorem mem_flat_le {ls : List (List Int)} {x : List Int} (h : x ∈ ls) : x.length ≤ ls.flatten.length := by
  induction ls with
  | nil => cases h
  | cons y ys ih =>
    rw [List.flatten_cons, List.length_append]
    rcases List.mem_cons.1 h with rfl | h
    · omega
    · have := ih h
      omega
abbrev St : Type := List S26 × Bool
def first (t : List Int) : UInt8 := UInt8.ofNat (t.getD 0 0).toNat
/-- A head's line that is not empty. -/
def fstep (st : St) (t : List Int) : St :=
  if blk (first t) = true then
    if st.2 = true then (st.1.set (st.1.length - 1) ⟨(st.1.getD (st.1.length - 1) z26).f0, (st.1.getD (st.1.length - 1) z26).f1 ++ ((⟨#[32]⟩ : ByteArray) ++ trimB (strOfNums t))⟩, true) else (st.1, false)
  else if cix (strOfNums t) = -1 then (st.1, false)
  else (st.1 ++ [⟨trimB ((strOfNums t).extract 0 (cix (strOfNums t)).toNat), trimB ((strOfNums t).extract ((cix (strOfNums t)).toNat + 1) (strOfNums t).size)⟩], true)
def fgo : List (List Int) → St → List S26
  | [], st => st.1
  | t :: ts, st => if t = [] then fgo ts st else fgo ts (fstep st t)
def fgoR : List (List Int) → St → List S26
  | [], st => st.1
  | t :: ts, st => if t = [] then st.1 else fgoR ts (fstep st t)
theorem fgo_heads : ∀ (ls : List (List Int)) (st : St), fgoR ((heads ls).map txt) st = fgo ((heads ls).map txt) st
  | [], _ => rfl
  | x :: xs, st => by
    rw [heads_cons]
    by_cases ht : txt x = []
    · rw [if_pos ht, List.map_cons, ht]
      rfl
    · rw [if_neg ht, List.map_cons]
      unfold fgoR fgo
      rw [if_neg ht, if_neg ht, fgo_heads xs]

theorem S26_ext {a b : S26} (h0 : a.f0 = b.f0) (h1 : a.f1 = b.f1) : a = b := by cases a; cases b; cases h0; cases h1; rfl
theorem str_list {t : List Int} (h : t ≠ []) : (strOfNums t).data.toList = first t :: (t.drop 1).map fun n => UInt8.ofNat n.toNat := by
  cases t with
  | nil => exact absurd rfl h
  | cons c t => rfl
theorem rd_T26_nat (xs : List S26) (i : Nat) : rd_T26 xs (i : Int) = xs.getD i z26 := by unfold rd_T26; rw [Int.toNat_natCast]
theorem getD_le {xs : List S26} {B : Nat} (h : ∀ f ∈ xs, f.f1.size ≤ B) (i : Nat) (hi : i < xs.length) : (xs.getD i z26).f1.size ≤ B := by
  rw [List.getD_eq_getElem?_getD, List.getElem?_eq_getElem hi]
  exact h _ (List.getElem_mem hi)
/-- What a line leaves as it was: no field's value grows by more than the line, and one. -/
theorem fstep_le {st : St} {t : List Int} {B : Nat} (h : ∀ f ∈ st.1, f.f1.size ≤ B) (ho : st.2 = true → st.1 ≠ []) : ∀ f ∈ (fstep st t).1, f.f1.size ≤ B + t.length + 1 := by
  have hs : (strOfNums t).size = t.length := by simp [strOfNums, ByteArray.size]
  have ht := trimB_le (strOfNums t)
  unfold fstep
  intro f hf
  split at hf
  · split at hf
    · rename_i hop
      have hne := List.length_pos_iff.2 (ho hop)
      rcases List.mem_or_eq_of_mem_set hf with hf | rfl
      · have := h f hf; omega
      · have := getD_le h (st.1.length - 1) (by omega)
        simp only [ByteArray.size_append]
        have h1 : (⟨#[32]⟩ : ByteArray).size = 1 := rfl
        omega
    · have := h f hf; omega
  · split at hf
    · have := h f hf; omega
    · rcases List.mem_append.1 hf with hf | hf
      · have := h f hf; omega
      · obtain rfl := List.mem_singleton.1 hf
        have h1 := trimB_le ((strOfNums t).extract ((cix (strOfNums t)).toNat + 1) (strOfNums t).size)
        have h2 : ((strOfNums t).extract ((cix (strOfNums t)).toNat + 1) (strOfNums t).size).size ≤ (strOfNums t).size := by
          rw [Lib.size_eq, Lib.size_eq, extract_list, List.length_drop, List.length_take]
          omega
        simp only
        omega
theorem fstep_open {st : St} {t : List Int} (ho : st.2 = true → st.1 ≠ []) : (fstep st t).2 = true → (fstep st t).1 ≠ [] := by
  unfold fstep
  split
  · split
    · rename_i hop
      intro _ h
      have := congrArg List.length h
      rw [List.length_set] at this
      exact ho hop (List.eq_nil_of_length_eq_zero this)
    · intro h; cases h
  · split
    · intro h; cases h
    · intro _ h; simp at h
theorem fstep_len (st : St) (t : List Int) : (fstep st t).1.length ≤ st.1.length + 1 := by
  unfold fstep
  split
  · split <;> simp
  · split <;> simp
/-- The program's 'last', in Go's number. -/
def lastI (st : St) : Int := if st.2 = true then (st.1.length : Int) - 1 else -1

theorem UFields_l100 (ls : List (List Int)) (hb : ∀ x ∈ ls, Byt x) (hn : ls.length ≤ 100000) : ∀ (k i : Nat) (st : St) (B : Nat), i ≤ ls.length → ls.length - i < k → st.1.length + (ls.length - i) ≤ 200000 → (∀ f ∈ st.1, f.f1.size ≤ B) → B + (ls.drop i).flatten.length + (ls.length - i) ≤ 1000000 → (st.2 = true → st.1 ≠ []) →
    head_Fields.l100 k st.1 ls (lastI st) ((i : Int) - 1) = some (fgo ((ls.drop i).map txt) st)
  | 0, _, _, _, _, h, _, _, _, _ => absurd h (by omega)
  | k + 1, i, st, B, hi, hk, hlen, hB, hsum, ho => by
    unfold head_Fields.l100
    rw [w64 _ (by omega) (by omega), show ((i : Int) - 1 + 1) = (i : Int) by omega]
    by_cases hlt : i < ls.length
    · have hf := flat_at hlt
      have hbt := (hb _ (getD_mem hlt)).txt
      have hlt2 := txt_le (ls.getD i [])
      rw [if_neg (by omega), if_pos (by omega), if_pos (by omega), rd_L1_nat, text_eq _ (hb _ (getD_mem hlt)) (by omega), Option.bind_some, drop_atL hlt, List.map_cons]
      unfold fgo
      generalize txt (ls.getD i []) = t at hbt hlt2
      have hss : (strOfNums t).size = t.length := by simp [strOfNums, ByteArray.size]
      have next : ∀ (st' : St) (B' : Nat), (∀ f ∈ st'.1, f.f1.size ≤ B') → B' + (ls.drop (i + 1)).flatten.length + (ls.length - (i + 1)) ≤ 1000000 → st'.1.length ≤ st.1.length + 1 → (st'.2 = true → st'.1 ≠ []) → head_Fields.l100 k st'.1 ls (lastI st') (i : Int) = some (fgo ((ls.drop (i + 1)).map txt) st') := by
        intro st' B' h1 h2 h3 h4
        have := UFields_l100 ls hb hn k (i + 1) st' B' (by omega) (by omega) (by omega) h1 h2 h4
        rwa [show (((i + 1 : Nat) : Int) - 1) = (i : Int) by omega] at this
      by_cases ht : t = []
      · have h0 : (strOfNums t).toList = [] := by rw [ht, Lib.toList_data]; rfl
        rw [if_pos h0, if_pos ht]
        exact next st B hB (by omega) (by omega) ho
      · have hsl := str_list ht
        have htp := List.length_pos_iff.2 ht
        have h0 : ¬ (strOfNums t).toList = [] := by
          rw [Lib.toList_data, hsl]
          simp
        have htr := trimB_le (strOfNums t)
        rw [if_neg h0, if_neg ht, if_pos (by decide), if_pos (by omega), contains_eq _ _ _ hsl, Option.bind_some]
        have nx := next (fstep st t) (B + t.length + 1) (fstep_le hB ho) (by omega) (fstep_len st t) (fstep_open ho)
        by_cases hbl : blk (first t) = true
        · rw [if_pos hbl]
          by_cases hop : st.2 = true
          · have hne := List.length_pos_iff.2 (ho hop)
            have hg := getD_le hB (st.1.length - 1) (by omega)
            have hstep : fstep st t = (st.1.set (st.1.length - 1) ⟨(st.1.getD (st.1.length - 1) z26).f0, (st.1.getD (st.1.length - 1) z26).f1 ++ ((⟨#[32]⟩ : ByteArray) ++ trimB (strOfNums t))⟩, true) := by
              unfold fstep
              rw [if_pos hbl, if_pos hop]
            have hl : lastI st = ((st.1.length - 1 : Nat) : Int) := by unfold lastI; rw [if_pos hop]; omega
            rw [hl, if_pos (by omega), if_pos (by omega), if_pos (by omega), trim_eq _ (by omega), Option.bind_some, if_pos (by omega), rd_T26_nat, if_pos (by omega), Int.toNat_natCast]
            have hl2 : lastI (fstep st t) = ((st.1.length - 1 : Nat) : Int) := by
              rw [hstep]
              unfold lastI
              rw [if_pos rfl, List.length_set]
              omega
            rw [hl2] at nx
            rw [hstep] at nx ⊢
            exact nx
          · have hl : lastI st = -1 := by unfold lastI; rw [if_neg hop]
            have hstep : fstep st t = (st.1, false) := by
              unfold fstep
              rw [if_pos hbl, if_neg hop]
            have hl2 : lastI (fstep st t) = -1 := by rw [hstep]; rfl
            rw [hl, if_neg (by decide)]
            rw [hl2] at nx
            rw [hstep] at nx ⊢
            exact nx
        · rw [if_neg hbl, cut_colon _ (by omega), Option.bind_some]
          by_cases hc : cix (strOfNums t) = -1
          · have hstep : fstep st t = (st.1, false) := by
              unfold fstep
              rw [if_neg hbl, if_pos hc]
            have hl2 : lastI (fstep st t) = -1 := by rw [hstep]; rfl
            rw [if_pos hc, if_neg (by simp)]
            rw [hl2] at nx
            rw [hstep] at nx ⊢
            exact nx
          · have hstep : fstep st t = (st.1 ++ [⟨trimB ((strOfNums t).extract 0 (cix (strOfNums t)).toNat), trimB ((strOfNums t).extract ((cix (strOfNums t)).toNat + 1) (strOfNums t).size)⟩], true) := by
              unfold fstep
              rw [if_neg hbl, if_neg hc]
            have hl2 : lastI (fstep st t) = (st.1.length : Int) := by
              rw [hstep]
              unfold lastI
              rw [if_pos rfl, List.length_append, List.length_singleton]
              omega
            have e1 : ((strOfNums t).extract 0 (cix (strOfNums t)).toNat).size ≤ (strOfNums t).size := by
              rw [Lib.size_eq, Lib.size_eq, extract_list, List.length_drop, List.length_take]
              omega
            have e2 : ((strOfNums t).extract ((cix (strOfNums t)).toNat + 1) (strOfNums t).size).size ≤ (strOfNums t).size := by
              rw [Lib.size_eq, Lib.size_eq, extract_list, List.length_drop, List.length_take]
              omega
            rw [if_neg hc]
            simp only [if_true]
            rw [trim_eq _ (by omega), Option.bind_some, trim_eq _ (by omega), Option.bind_some, if_pos (by omega)]
            rw [hl2] at nx
            rw [hstep] at nx ⊢
            exact nx
    · obtain rfl : i = ls.length := by omega
      rw [if_pos (by omega), List.drop_length]
      rfl
theorem UFields_eq (k : Nat) (l : List Int) (hb : Byt l) (hl : l.length ≤ 50000) (hk : l.length + 1 < k) : head_Fields.f k l = some (fgo ((heads (lines l)).map txt) ([], false)) := by
  have h1 := hend_le l
  have ht : (l.take (hend l)).length ≤ l.length := by rw [List.length_take]; omega
  have h2 := lines_length_le (l.take (hend l))
  unfold head_Fields.f
  rw [end_eq k l hb (by omega) hk, Option.bind_some, if_pos (by omega), if_pos (by omega), Int.toNat_natCast, cut_eq k _ (hb.take _) (by omega) (by omega), Option.bind_some]
  have := UFields_l100 (lines (l.take (hend l))) (fun x hx => (hb.take _).line hx) (by omega) k 0 ([], false) 0 (by omega) (by omega) (by simp only [List.length_nil]; omega) (fun f hf => by cases hf) (by rw [List.drop_zero, lines_flatten]; omega) (fun h => by cases h)
  rw [List.drop_zero, lines_head] at this
  rw [lines_head]
  exact this
end Go.Proofs.YtlicjigofnbpjaaDoor.Pure
