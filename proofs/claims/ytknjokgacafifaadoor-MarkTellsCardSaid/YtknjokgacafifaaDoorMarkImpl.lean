/- What the mark functions compute, as plain lists. -/
import Derived.Lib.Fold
import Derived.Test.YtknjokgacafifaaDoorPx1
import Derived.Test.YtknjokgacafifaaDoorPx1
import Derived.Test.YtknjokgacafifaaDoorPx2
import Derived.Test.YtknjokgacafifaaDoorPx2
import Derived.Test.YtknjokgacafifaaDoorPx3
import Derived.Test.YtknjokgacafifaaDoorPx1
namespace Go.Proofs.YtknjokgacafifaaDoor.Spec
open Go.RowKit Go.Proofs.YtknjokgacafifaaDoor Go.Proofs.YtknjokgacafifaaDoor.P Go.Proofs.YtknjokgacafifaaDoorW.PrintWords Go.Proofs.YtknjokgacafifaaDoorW.PrintLast Go.Proofs.YtknjokgacafifaaDoorW.PrintMore

theorem w64 (x : Int) (h0 : -9223372036854775808 ≤ x) (h1 : x ≤ 9223372036854775807) : wrap64 x = x := by unfold wrap64; omega
theorem known_true : letterboxlaw11_known.f 60 = some true := by decide +kernel
theorem known_up : ∀ m, letterboxlaw11_known.f (60 + m) = some true
  | 0 => known_true
  | m + 1 => letterboxlaw11_known.mono (60 + m) true (known_up m)
theorem known_eq (k : Nat) (hk : 60 ≤ k) : letterboxlaw11_known.f k = some true := by
  obtain ⟨m, rfl⟩ : ∃ m, k = 60 + m := ⟨k - 60, by omega⟩
  exact known_up m
def n0 : ByteArray := ⟨#[92, 83, 101, 101, 110]⟩
def n1 : ByteArray := ⟨#[92, 65, 110, 115, 119, 101, 114, 101, 100]⟩
def n2 : ByteArray := ⟨#[92, 70, 108, 97, 103, 103, 101, 100]⟩
def n3 : ByteArray := ⟨#[92, 68, 101, 108, 101, 116, 101, 100]⟩
def n4 : ByteArray := ⟨#[92, 68, 114, 97, 102, 116]⟩
def nm : List ByteArray := [n0, n1, n2, n3, n4]
def eqF (s n : ByteArray) : Bool := if s.size = n.size then Lib.equalFold s.data.toList n.data.toList else false
def flagOf (s : ByteArray) : Int := if eqF s n0 = true then 1 else if eqF s n1 = true then 2 else if eqF s n2 = true then 4 else if eqF s n3 = true then 8 else if eqF s n4 = true then 16 else 0
theorem flag_eq (k : Nat) (hk : 7 ≤ k) (s : ByteArray) : mark_flag.f k s = some (flagOf s) := by
  obtain ⟨k, rfl⟩ : ∃ m, k = m + 6 := ⟨k - 6, by omega⟩
  have step : ∀ (k : Nat) (i : Int) (n : ByteArray), 0 ≤ i → i < 5 → rdOf ByteArray.empty nm i = n → (n.size < 4294967281 ∧ asciiB n = true) → mark_flag.l0 (k + 1) s nm 5 i = if eqF s n = true then some (shl .i64 1 i) else mark_flag.l0 k s nm 5 (wrap64 (i + 1)) := by
    intro k i n h0 h5 hn ha
    have hsame : mark_same.f s n = some (eqF s n) := by unfold mark_same.f; rw [if_pos ha]; rfl
    rw [mark_flag.l0, if_pos h5, if_pos h0, if_pos (show i < ((nm.length : Nat) : Int) from h5), hn, hsame, Option.bind_some]
  unfold mark_flag.f
  have hnames : mark_names.f = some nm := rfl
  rw [hnames, Option.bind_some]
  show mark_flag.l0 (k + 6) s nm 5 0 = _
  unfold flagOf
  rw [step _ 0 n0 (by decide) (by decide) rfl ⟨by decide, by decide⟩, show wrap64 (0 + 1) = 1 from w64 (0 + 1) (by decide) (by decide), step _ 1 n1 (by decide) (by decide) rfl ⟨by decide, by decide⟩, show wrap64 (1 + 1) = 2 from w64 (1 + 1) (by decide) (by decide), step _ 2 n2 (by decide) (by decide) rfl ⟨by decide, by decide⟩, show wrap64 (2 + 1) = 3 from w64 (2 + 1) (by decide) (by decide), step _ 3 n3 (by decide) (by decide) rfl ⟨by decide, by decide⟩, show wrap64 (3 + 1) = 4 from w64 (3 + 1) (by decide) (by decide), step _ 4 n4 (by decide) (by decide) rfl ⟨by decide, by decide⟩, show wrap64 (4 + 1) = 5 from w64 (4 + 1) (by decide) (by decide)]
  by_cases h0 : eqF s n0 = true
  · rw [if_pos h0, if_pos h0]; rfl
  rw [if_neg h0, if_neg h0]
  by_cases h1 : eqF s n1 = true
  · rw [if_pos h1, if_pos h1]; rfl
  rw [if_neg h1, if_neg h1]
  by_cases h2 : eqF s n2 = true
  · rw [if_pos h2, if_pos h2]; rfl
  rw [if_neg h2, if_neg h2]
  by_cases h3 : eqF s n3 = true
  · rw [if_pos h3, if_pos h3]; rfl
  rw [if_neg h3, if_neg h3]
  by_cases h4 : eqF s n4 = true
  · rw [if_pos h4, if_pos h4]; rfl
  rw [if_neg h4, if_neg h4, mark_flag.l0, if_neg (by decide)]
def parseF : List ByteArray → Int → Int × Int
  | [], acc => (acc, 0)
  | s :: r, acc => if flagOf s = 0 then (0, 3) else parseF r (Go.bits .or .i64 acc (flagOf s))
theorem rd_nat (L : List ByteArray) (i : Nat) (h : i < L.length) : rdOf ByteArray.empty L (i : Int) = L[i] := by
  unfold rdOf
  rw [Int.toNat_natCast, List.getD_eq_getElem?_getD, List.getElem?_eq_getElem h]
  rfl
theorem UParse_l (L : List ByteArray) (hl : L.length ≤ 9223372036854775807) : ∀ (m i k : Nat) (acc : Int), i + m = L.length → m + 8 ≤ k → mark_Parse.l0 k acc L (L.length : Int) i = some (parseF (L.drop i) acc)
  | 0, i, k, acc, hi, hk => by
    obtain ⟨k, rfl⟩ : ∃ m, k = m + 1 := ⟨k - 1, by omega⟩
    rw [mark_Parse.l0, if_neg (by omega), List.drop_of_length_le (by omega)]
    rfl
  | m + 1, i, k, acc, hi, hk => by
    obtain ⟨k, rfl⟩ : ∃ m, k = m + 1 := ⟨k - 1, by omega⟩
    have hlt : i < L.length := by omega
    rw [mark_Parse.l0, if_pos (by omega), if_pos (by omega), if_pos (by omega), rd_nat L i hlt, flag_eq k (by omega) _, Option.bind_some, List.drop_eq_getElem_cons hlt]
    unfold parseF
    by_cases h : flagOf L[i] = 0
    · rw [if_pos h, if_pos h]
    · rw [if_neg h, if_neg h, w64 _ (by omega) (by omega), show ((i : Int) + 1) = ((i + 1 : Nat) : Int) from rfl]
      exact UParse_l L hl m (i + 1) k _ (by omega) (by omega)
theorem UParse_eq (k : Nat) (L : List ByteArray) (hl : L.length ≤ 9223372036854775807) (hk : L.length + 8 ≤ k) : mark_Parse.f k L = some (parseF L 0) := by
  unfold mark_Parse.f
  exact UParse_l L hl L.length 0 k 0 (by omega) hk
theorem parse_bad : ∀ (L : List ByteArray) (acc : Int), (∃ s ∈ L, flagOf s = 0) → parseF L acc = (0, 3)
  | [], _, h => by obtain ⟨s, hs, _⟩ := h; cases hs
  | x :: L, acc, h => by
    unfold parseF
    by_cases h0 : flagOf x = 0
    · rw [if_pos h0]
    · rw [if_neg h0]
      obtain ⟨s, hs, hf⟩ := h
      rcases List.mem_cons.1 hs with e | e
      · rw [e] at hf; exact absurd hf h0
      · exact parse_bad L _ ⟨s, e, hf⟩
theorem flag_none (s : ByteArray) (h : ∀ b, s.data.toList[0]? = some b → b.toNat ≠ 92) : flagOf s = 0 := by
  have key : ∀ (n : ByteArray) (m : List UInt8), n.data.toList = 92 :: m → eqF s n ≠ true := by
    intro n m hn
    unfold eqF
    split
    · rename_i hsz
      rw [hn]
      cases hl : s.data.toList with
      | nil =>
        rw [Lib.size_eq, Lib.size_eq, hl, hn] at hsz
        cases hsz
      | cons b r =>
        rw [hl] at h
        have hb := h b rfl
        rw [Lib.equalFold_no]
        · simp
        · unfold Lib.foldEq
          refine decide_eq_false ?_
          have e92 : (92 : UInt8).toNat = 92 := rfl
          rw [e92]
          omega
    · simp
  unfold flagOf
  rw [if_neg (key n0 _ rfl), if_neg (key n1 _ rfl), if_neg (key n2 _ rfl), if_neg (key n3 _ rfl), if_neg (key n4 _ rfl)]
theorem and65535 (n : Int) : Go.bits .and .i64 n 65535 = n % 65536 := by
  have h1 : (BitVec.ofInt 64 65535).toNat = 2 ^ 16 - 1 := by decide
  have key : (BitVec.ofInt 64 n &&& BitVec.ofInt 64 65535).toNat = (n % ((2 ^ 64 : Nat) : Int)).toNat % 2 ^ 16 := by
    rw [BitVec.toNat_and, BitVec.toNat_ofInt, h1, Nat.and_two_pow_sub_one_eq_mod]
  show IntKind.i64.wrap ((BitVec.ofInt 64 n &&& BitVec.ofInt 64 65535).toNat : Nat) = n % 65536
  rw [key, IntKind.wrap_i64]
  omega
def low8 (b : UInt8) : UInt8 := UInt8.ofNat (lowI (b.toNat : Int)).toNat
theorem lowB_list (s : ByteArray) : (lowB s).data.toList = s.data.toList.map low8 := by
  unfold lowB
  rw [strOfNums_data]
  unfold bytesOf
  rw [List.map_map, List.map_map]
  rfl
def sameB (s n : ByteArray) : Bool := s.data.toList.map low8 == n.data.toList.map low8
theorem RSame_eq (a b : ByteArray) (ha : a.size ≤ 9223372036854775807) (hb : b.size ≤ 9223372036854775807) : letterboxref9_Same.f a b = some (sameB a b) := by
  unfold letterboxref9_Same.f letterboxref9_Low.f
  rw [if_pos ha, Option.bind_some, if_pos hb, Option.bind_some, Lib.toList_data, Lib.toList_data, lowB_list, lowB_list]
  rfl
theorem u8_eq {x c : Int} (hx : 0 ≤ x ∧ x < 256) (hc : 0 ≤ c ∧ c < 256) : (UInt8.ofNat x.toNat = UInt8.ofNat c.toNat) ↔ x = c := by
  constructor
  · intro h
    have := congrArg UInt8.toNat h
    rw [UInt8.toNat_ofNat', UInt8.toNat_ofNat'] at this
    omega
  · intro h; rw [h]
theorem low8_eq (x y : UInt8) : low8 x = low8 y ↔ lowI (x.toNat : Int) = lowI (y.toNat : Int) := by
  have h1 := UInt8.toNat_lt x
  have h2 := UInt8.toNat_lt y
  have r : ∀ n : Nat, n < 256 → 0 ≤ lowI (n : Int) ∧ lowI (n : Int) < 256 := by
    intro n hn
    unfold lowI
    split <;> omega
  exact u8_eq (r _ h1) (r _ h2)
theorem fold_low (x y : UInt8) : Lib.foldEq x y = (low8 x == low8 y) := by
  have h : Lib.foldEq x y = true ↔ low8 x = low8 y := by
    rw [low8_eq]
    unfold Lib.foldEq lowI
    rw [decide_eq_true_eq]
    split <;> split <;> omega
  cases hf : Lib.foldEq x y with
  | true => rw [(h.1 hf), beq_self_eq_true]
  | false =>
    refine (beq_eq_false_iff_ne.2 fun e => ?_).symm
    rw [h.2 e] at hf
    cases hf
theorem fold_same : ∀ (l m : List UInt8), l.length = m.length → Lib.equalFold l m = (l.map low8 == m.map low8)
  | [], [], _ => rfl
  | [], _ :: _, h => by cases h
  | _ :: _, [], h => by cases h
  | x :: l, y :: m, h => by
    have hr := fold_same l m (by simpa using h)
    show (Lib.foldEq x y && Lib.equalFold l m) = _
    rw [fold_low, hr]
    rfl
theorem eqF_same (s n : ByteArray) : eqF s n = sameB s n := by
  unfold eqF sameB
  by_cases h : s.size = n.size
  · rw [if_pos h, fold_same _ _ (by rw [← Lib.size_eq, ← Lib.size_eq]; exact h)]
  · rw [if_neg h]
    refine (beq_eq_false_iff_ne.2 fun e => h ?_).symm
    have := congrArg List.length e
    rw [List.length_map, List.length_map, ← Lib.size_eq, ← Lib.size_eq] at this
    exact this
/-- At most one name is it. -/
theorem eqF_one (s a b : ByteArray) (hab : sameB a b = false) (ha : eqF s a = true) : eqF s b = false := by
  rw [eqF_same] at ha ⊢
  unfold sameB at *
  have e := beq_iff_eq.1 ha
  rw [e]
  exact hab
end Go.Proofs.YtknjokgacafifaaDoor.Spec
