/- MarkTells over numbers, texts and lists alone. -/
import Derived.Test.YtknjokgacafifaaDoorMarkImpl
import Derived.Test.YtknjokgacafifaaDoorPx106
namespace Go.Proofs.YtknjokgacafifaaDoor.Pure
open Go.RowKit Go.Proofs.YtknjokgacafifaaDoor Go.Proofs.YtknjokgacafifaaDoor.P Go.Proofs.YtknjokgacafifaaDoor.Spec Go.Proofs.YtknjokgacafifaaDoorW.PrintWords Go.Proofs.YtknjokgacafifaaDoorW.PrintLast Go.Proofs.YtknjokgacafifaaDoorW.PrintMore

theorem RParse_l1 (L : List ByteArray) (hs : ∀ s ∈ L, s.size ≤ 9223372036854775807) (i : Nat) (hlt : i < L.length) (k : Nat) (acc : Int) :
    letterboxref11_Parse.l1 (k + 6) L acc i false 0 = if flagOf L[i] = 0 then some (0, 3) else letterboxref11_Parse.l0 k L (Go.bits .or .i64 acc (flagOf L[i])) (wrap64 ((i : Int) + 1)) := by
  have hsz := hs _ (List.getElem_mem hlt)
  have step : ∀ (k : Nat) (acc : Int) (found : Bool) (j : Int) (n : ByteArray), j < 5 → letterboxref11_Name.f j = some n → n.size ≤ 9223372036854775807 → 0 ≤ IntKind.u64.wrap j →
      letterboxref11_Parse.l1 (k + 1) L acc i found j = if eqF L[i] n = true then letterboxref11_Parse.l1 k L (Go.bits .or .i64 acc (shl .i64 1 (IntKind.u64.wrap j))) i true (wrap64 (j + 1)) else letterboxref11_Parse.l1 k L acc i found (wrap64 (j + 1)) := by
    intro k acc found j n h5 hn hns hu
    rw [letterboxref11_Parse.l1, if_pos h5, if_pos (by omega), if_pos (by omega), hn, Option.bind_some, rd_nat L i hlt, RSame_eq _ _ hsz hns, Option.bind_some, ← eqF_same, if_pos hu]
  have fin_t : ∀ (k : Nat) (acc : Int), letterboxref11_Parse.l1 (k + 1) L acc i true 5 = letterboxref11_Parse.l0 k L acc (wrap64 ((i : Int) + 1)) := by
    intro k acc
    rw [letterboxref11_Parse.l1, if_neg (by decide), if_pos rfl]
  have fin_f : ∀ (k : Nat) (acc : Int), letterboxref11_Parse.l1 (k + 1) L acc i false 5 = some (0, 3) := by
    intro k acc
    rw [letterboxref11_Parse.l1, if_neg (by decide), if_neg Bool.false_ne_true]
  have s0 := fun k acc found => step k acc found 0 n0 (by decide) rfl (by decide) (by decide)
  have s1 := fun k acc found => step k acc found 1 n1 (by decide) rfl (by decide) (by decide)
  have s2 := fun k acc found => step k acc found 2 n2 (by decide) rfl (by decide) (by decide)
  have s3 := fun k acc found => step k acc found 3 n3 (by decide) rfl (by decide) (by decide)
  have s4 := fun k acc found => step k acc found 4 n4 (by decide) rfl (by decide) (by decide)
  rw [show wrap64 ((0 : Int) + 1) = 1 from w64 (0 + 1) (by decide) (by decide)] at s0
  rw [show wrap64 ((1 : Int) + 1) = 2 from w64 (1 + 1) (by decide) (by decide)] at s1
  rw [show wrap64 ((2 : Int) + 1) = 3 from w64 (2 + 1) (by decide) (by decide)] at s2
  rw [show wrap64 ((3 : Int) + 1) = 4 from w64 (3 + 1) (by decide) (by decide)] at s3
  rw [show wrap64 ((4 : Int) + 1) = 5 from w64 (4 + 1) (by decide) (by decide)] at s4
  have one := fun a b (hab : sameB a b = false) (ha : eqF L[i] a = true) => (by rw [eqF_one L[i] a b hab ha]; exact Bool.false_ne_true : ¬ eqF L[i] b = true)
  unfold flagOf
  by_cases h0 : eqF L[i] n0 = true
  · rw [s0, if_pos h0, s1, if_neg (one n0 n1 (by decide) h0), s2, if_neg (one n0 n2 (by decide) h0), s3, if_neg (one n0 n3 (by decide) h0), s4, if_neg (one n0 n4 (by decide) h0), fin_t, if_pos h0, if_neg (by decide)]
    rfl
  by_cases h1 : eqF L[i] n1 = true
  · rw [s0, if_neg h0, s1, if_pos h1, s2, if_neg (one n1 n2 (by decide) h1), s3, if_neg (one n1 n3 (by decide) h1), s4, if_neg (one n1 n4 (by decide) h1), fin_t, if_neg h0, if_pos h1, if_neg (by decide)]
    rfl
  by_cases h2 : eqF L[i] n2 = true
  · rw [s0, if_neg h0, s1, if_neg h1, s2, if_pos h2, s3, if_neg (one n2 n3 (by decide) h2), s4, if_neg (one n2 n4 (by decide) h2), fin_t, if_neg h0, if_neg h1, if_pos h2, if_neg (by decide)]
    rfl
  by_cases h3 : eqF L[i] n3 = true
  · rw [s0, if_neg h0, s1, if_neg h1, s2, if_neg h2, s3, if_pos h3, s4, if_neg (one n3 n4 (by decide) h3), fin_t, if_neg h0, if_neg h1, if_neg h2, if_pos h3, if_neg (by decide)]
    rfl
  by_cases h4 : eqF L[i] n4 = true
  · rw [s0, if_neg h0, s1, if_neg h1, s2, if_neg h2, s3, if_neg h3, s4, if_pos h4, fin_t, if_neg h0, if_neg h1, if_neg h2, if_neg h3, if_pos h4, if_neg (by decide)]
    rfl
  rw [s0, if_neg h0, s1, if_neg h1, s2, if_neg h2, s3, if_neg h3, s4, if_neg h4, fin_f, if_neg h0, if_neg h1, if_neg h2, if_neg h3, if_neg h4, if_pos rfl]
theorem RParse_l (L : List ByteArray) (hs : ∀ s ∈ L, s.size ≤ 9223372036854775807) (hl : L.length ≤ 9223372036854775807) : ∀ (m i k : Nat) (acc : Int), i + m = L.length → 7 * m + 1 ≤ k → letterboxref11_Parse.l0 k L acc i = some (parseF (L.drop i) acc)
  | 0, i, k, acc, hi, hk => by
    obtain ⟨k, rfl⟩ : ∃ m, k = m + 1 := ⟨k - 1, by omega⟩
    rw [letterboxref11_Parse.l0, if_neg (by omega), List.drop_of_length_le (by omega)]
    rfl
  | m + 1, i, k, acc, hi, hk => by
    obtain ⟨k, rfl⟩ : ∃ m, k = m + 7 := ⟨k - 7, by omega⟩
    have hlt : i < L.length := by omega
    rw [letterboxref11_Parse.l0, if_pos (by omega), RParse_l1 L hs i hlt k acc, List.drop_eq_getElem_cons hlt]
    unfold parseF
    by_cases h : flagOf L[i] = 0
    · rw [if_pos h, if_pos h]
    · rw [if_neg h, if_neg h, w64 _ (by omega) (by omega), show ((i : Int) + 1) = ((i + 1 : Nat) : Int) from rfl]
      exact RParse_l L hs hl m (i + 1) k _ (by omega) (by omega)
theorem RParse_eq (k : Nat) (L : List ByteArray) (hs : ∀ s ∈ L, s.size ≤ 9223372036854775807) (hl : L.length ≤ 9223372036854775807) (hk : 7 * L.length + 1 ≤ k) : letterboxref11_Parse.f k L = some (parseF L 0) := by
  unfold letterboxref11_Parse.f
  exact RParse_l L hs hl L.length 0 k 0 (by omega) hk

/-! ### Flags as a text: only five of a number's bits are asked -/
def bit (f x : Int) : Bool := Go.bits .and .i64 (shr .i64 f x) 1 == 1
def Alike (f g : Int) : Prop := ∀ i : Nat, i < 5 → bit f i = bit g i
theorem bit_iff (f x : Int) : (Go.bits .and .i64 (shr .i64 f x) 1 = 1) ↔ bit f x = true := beq_iff_eq.symm
theorem UPrint_alike (f g : Int) (h : Alike f g) : ∀ (k : Nat) (acc : List ByteArray) (i : Nat), mark_Print.l0 k f acc nm 5 i = mark_Print.l0 k g acc nm 5 i
  | 0, _, _ => rfl
  | k + 1, acc, i => by
    rw [mark_Print.l0, mark_Print.l0]
    by_cases h5 : (i : Int) < 5
    · have hw : wrap64 ((i : Int) + 1) = ((i + 1 : Nat) : Int) := w64 _ (by omega) (by omega)
      have hb := h i (by omega)
      simp only [bit_iff, hb, hw, UPrint_alike f g h k]
    · rw [if_neg h5, if_neg h5]
theorem RPrint_alike (f g : Int) (h : Alike f g) : ∀ (k : Nat) (acc : ByteArray) (i : Nat), letterboxref11_Print.l0 k f acc i = letterboxref11_Print.l0 k g acc i
  | 0, _, _ => rfl
  | k + 1, acc, i => by
    rw [letterboxref11_Print.l0, letterboxref11_Print.l0]
    by_cases h5 : (i : Int) < 5
    · have hw : wrap64 ((i : Int) + 1) = ((i + 1 : Nat) : Int) := w64 _ (by omega) (by omega)
      have hu : IntKind.u64.wrap (i : Int) = (i : Int) := by
        have : i = 0 ∨ i = 1 ∨ i = 2 ∨ i = 3 ∨ i = 4 := by omega
        rcases this with rfl | rfl | rfl | rfl | rfl <;> decide
      have hb := h i (by omega)
      simp only [hu, bit_iff, hb, hw, RPrint_alike f g h k]
    · rw [if_neg h5, if_neg h5]
def nOf (b0 b1 b2 b3 b4 : Bool) : Nat := b0.toNat + 2 * b1.toNat + 4 * b2.toNat + 8 * b3.toNat + 16 * b4.toNat
theorem nOf_bits : ∀ b0 b1 b2 b3 b4 : Bool, nOf b0 b1 b2 b3 b4 < 32 ∧ bit (nOf b0 b1 b2 b3 b4) 0 = b0 ∧ bit (nOf b0 b1 b2 b3 b4) 1 = b1 ∧ bit (nOf b0 b1 b2 b3 b4) 2 = b2 ∧ bit (nOf b0 b1 b2 b3 b4) 3 = b3 ∧ bit (nOf b0 b1 b2 b3 b4) 4 = b4 := by decide +kernel
theorem alike (f : Int) : ∃ n : Nat, n < 32 ∧ Alike f n := by
  obtain ⟨h, h0, h1, h2, h3, h4⟩ := nOf_bits (bit f 0) (bit f 1) (bit f 2) (bit f 3) (bit f 4)
  refine ⟨_, h, fun i hi => ?_⟩
  have : i = 0 ∨ i = 1 ∨ i = 2 ∨ i = 3 ∨ i = 4 := by omega
  rcases this with rfl | rfl | rfl | rfl | rfl
  · exact h0.symm
  · exact h1.symm
  · exact h2.symm
  · exact h3.symm
  · exact h4.symm
def okPrint (n : Nat) : Bool := match mark_Print.f 60 n, letterboxref11_Print.f 60 n with
  | some a, some b => a.toList == b.toList
  | _, _ => false
theorem okPrint_all : (List.range 32).all okPrint = true := by decide +kernel
theorem up_U (f : Int) (r : ByteArray) (h : mark_Print.f 60 f = some r) : ∀ m, mark_Print.f (60 + m) f = some r
  | 0 => h
  | m + 1 => mark_Print.mono f (60 + m) r (up_U f r h m)
theorem up_R (f : Int) (r : ByteArray) (h : letterboxref11_Print.f 60 f = some r) : ∀ m, letterboxref11_Print.f (60 + m) f = some r
  | 0 => h
  | m + 1 => letterboxref11_Print.mono f (60 + m) r (up_R f r h m)
theorem prints (f : Int) (k : Nat) (hk : 60 ≤ k) : ∃ a b, mark_Print.f k f = some a ∧ letterboxref11_Print.f k f = some b ∧ a.toList = b.toList := by
  obtain ⟨n, hn, ha⟩ := alike f
  obtain ⟨m, rfl⟩ : ∃ m, k = 60 + m := ⟨k - 60, by omega⟩
  have hu : ∀ k, mark_Print.f k f = mark_Print.f k n := fun k => UPrint_alike f n ha k [] 0
  have hr : ∀ k, letterboxref11_Print.f k f = letterboxref11_Print.f k n := fun k => RPrint_alike f n ha k ⟨#[]⟩ 0
  have hok := List.all_eq_true.1 okPrint_all n (List.mem_range.2 hn)
  unfold okPrint at hok
  split at hok
  · rename_i a b h1 h2
    exact ⟨a, b, by rw [hu]; exact up_U n a h1 m, by rw [hr]; exact up_R n b h2 m, beq_iff_eq.1 hok⟩
  · cases hok
theorem MarkTells_l0 (L : List ByteArray) (hs : ∀ s ∈ L, s.size ≤ 9223372036854775807) (hl : L.length ≤ 9223372036854775807) (f mode old : Int) : ∀ (m i k : Nat) (x : Int), i + m = L.length → m + 7 * L.length + 100 ≤ k → letterboxlaw11_MarkTells.l0 k L f mode old x i = some true
  | 0, i, k, x, hi, hk => by
    obtain ⟨k, rfl⟩ : ∃ m, k = m + 1 := ⟨k - 1, by omega⟩
    rw [letterboxlaw11_MarkTells.l0, if_neg (by omega)]
    by_cases h : x > 500
    · rw [if_pos h]
    · obtain ⟨a, b, h1, h2, h3⟩ := prints f k (by omega)
      have hap : mark_Apply.f mode old f = letterboxref11_Apply.f mode old f := rfl
      obtain ⟨v, hv⟩ : ∃ v, letterboxref11_Apply.f mode old f = some v := by
        unfold letterboxref11_Apply.f
        split
        · exact ⟨_, rfl⟩
        · split
          · exact ⟨_, rfl⟩
          · split <;> exact ⟨_, rfl⟩
      rw [if_neg h, UParse_eq k L hl (by omega), Option.bind_some, RParse_eq k L hs hl (by omega), Option.bind_some, if_pos rfl, if_pos rfl, h1, Option.bind_some, h2, Option.bind_some, if_pos h3, hap, hv, Option.bind_some, Option.bind_some, if_pos rfl, known_eq k (by omega)]
      rfl
  | m + 1, i, k, x, hi, hk => by
    obtain ⟨k, rfl⟩ : ∃ m, k = m + 1 := ⟨k - 1, by omega⟩
    rw [letterboxlaw11_MarkTells.l0, if_pos (by omega), if_pos (by omega), w64 ((i : Int) + 1) (by omega) (by omega), show ((i : Int) + 1) = ((i + 1 : Nat) : Int) from rfl]
    exact MarkTells_l0 L hs hl f mode old m (i + 1) k _ (by omega) (by omega)
theorem MarkTells (L : List ByteArray) (f mode old : Int) (hw : L.length ≤ 9223372036854775807 ∧ ∀ s ∈ L, s.size ≤ 9223372036854775807) (_ : (Lit.int .i64 f).wf = true) (_ : (Lit.int .i64 mode).wf = true) (_ : (Lit.int .i64 old).wf = true) : ∃ k, letterboxlaw11_MarkTells.f k L f mode old = some true :=
  ⟨L.length + 7 * L.length + 100, MarkTells_l0 L hw.2 hw.1 f mode old L.length 0 _ 0 (by omega) (by omega)⟩
end Go.Proofs.YtknjokgacafifaaDoor.Pure
