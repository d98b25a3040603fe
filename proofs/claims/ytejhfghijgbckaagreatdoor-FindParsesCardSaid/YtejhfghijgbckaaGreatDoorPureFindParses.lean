/- FindParses holds of every input: the plain part. -/
import Derived.Test.YtejhfghijgbckaaGreatDoorFindS
import Derived.Test.YtejhfghijgbckaaGreatDoorFindC
import Derived.Test.YtejhfghijgbckaaGreatDoorPx103
namespace Go.Proofs.YtejhfghijgbckaaGreatDoor.Pure
set_option linter.unusedVariables false
open Go.RowKit Go.Proofs.YtejhfghijgbckaaGreatDoor Go.Proofs.YtejhfghijgbckaaGreatDoor.Spec Go.Proofs.YtejhfghijgbckaaGreatDoor.P Go.Proofs.YtejhfghijgbckaaGreatDoorW.PrintWords Go.Proofs.YtejhfghijgbckaaGreatDoorW.PrintLast Go.Proofs.YtejhfghijgbckaaGreatDoorW.PrintMore
theorem rdT_nat (l : List Tok) (i : Nat) (h : i < l.length) : rd_T42 l (i : Int) = l[i] := by
  unfold rd_T42
  rw [Int.toNat_natCast, List.getD_eq_getElem?_getD, List.getElem?_eq_getElem h]
  rfl
def cnt : List Tok → Nat
  | [] => 0
  | t :: r => 1 + t.f1.size + cnt r
theorem cnt_mem : ∀ (l : List Tok) (t : Tok), t ∈ l → t.f1.size ≤ cnt l
  | [], _, h => by cases h
  | x :: r, t, h => by
    unfold cnt
    rcases List.mem_cons.1 h with e | e
    · rw [e]; omega
    · have := cnt_mem r t e; omega
theorem cnt_le (l : List Tok) (hw : ∀ t ∈ l, t.f1.size ≤ 140737488351232) : cnt l ≤ l.length * 140737488351233 := by
  induction l with
  | nil => exact Nat.zero_le _
  | cons x r ih =>
    have h1 := hw x List.mem_cons_self
    have h2 := ih fun t ht => hw t (List.mem_cons_of_mem _ ht)
    unfold cnt
    rw [List.length_cons, Nat.succ_mul]
    omega
theorem heavy_few (l : List Tok) (hl : l.length ≤ 80) (hw : ∀ t ∈ l, t.f1.size ≤ 140737488351232) : ∀ (m i k n : Nat), i + m = l.length → m < k → n + cnt (l.drop i) ≤ 80 * 140737488351233 → letterboxlaw18_heavy.l0 k l n i = some (decide (n + cnt (l.drop i) > 1500))
  | m, i, 0, _, _, h, _ => absurd h (by omega)
  | 0, i, k + 1, n, hi, _, hn => by
    rw [letterboxlaw18_heavy.l0, if_neg (by omega), List.drop_of_length_le (by omega)]
    by_cases h : n > 1500
    · rw [if_pos (by omega), decide_eq_true (by show n + 0 > 1500; omega)]
    · rw [if_neg (by omega), decide_eq_false (by omega), decide_eq_false (by show ¬ n + 0 > 1500; omega)]
  | m + 1, i, k + 1, n, hi, hk, hn => by
    have hlt : i < l.length := by omega
    have hd := List.drop_eq_getElem_cons hlt
    have hz := hw l[i] (List.getElem_mem hlt)
    rw [hd] at hn ⊢
    unfold cnt at hn ⊢
    rw [letterboxlaw18_heavy.l0, if_pos (by omega), if_pos (by omega), rdT_nat l i hlt, w64 ((n : Int) + 1) (by omega) (by omega), w64 ((n : Int) + 1 + (l[i].f1.size : Int)) (by omega) (by omega), w64 ((i : Int) + 1) (by omega) (by omega), show ((n : Int) + 1 + (l[i].f1.size : Int)) = ((n + 1 + l[i].f1.size : Nat) : Int) by omega, show ((i : Int) + 1) = ((i + 1 : Nat) : Int) from rfl,
      heavy_few l hl hw m (i + 1) k (n + 1 + l[i].f1.size) (by omega) (by omega) (by omega)]
    rw [show n + 1 + l[i].f1.size + cnt (l.drop (i + 1)) = n + (1 + l[i].f1.size + cnt (l.drop (i + 1))) by omega]
theorem heavy_many (l : List Tok) (hl : 80 < l.length) (hb : l.length ≤ 9223372036854775806) : ∀ (m i k : Nat) (n : Int), i + m = l.length → m < k → letterboxlaw18_heavy.l0 k l n i = some true
  | m, i, 0, _, _, h => absurd h (by omega)
  | 0, i, k + 1, n, hi, _ => by
    rw [letterboxlaw18_heavy.l0, if_neg (by omega)]
    by_cases h : n > 1500
    · rw [if_pos h]
    · rw [if_neg h, decide_eq_true (by omega)]
  | m + 1, i, k + 1, n, hi, hk => by
    rw [letterboxlaw18_heavy.l0, if_pos (by omega), if_pos (by omega), w64 ((i : Int) + 1) (by omega) (by omega), show ((i : Int) + 1) = ((i + 1 : Nat) : Int) from rfl]
    exact heavy_many l hl hb m (i + 1) k _ (by omega) (by omega)
theorem FindParses (l : List Tok) (hb : l.length ≤ 140737488351232 ∧ ∀ t ∈ l, t.f1.size ≤ 140737488351232) : ∃ k, letterboxlaw18_FindParses.f k l = some true := by
  obtain ⟨hb, hw⟩ := hb
  by_cases h80 : l.length ≤ 80
  · have hh : ∀ k, 100 ≤ k → letterboxlaw18_heavy.f k l = some (decide (cnt l > 1500)) := fun k hk => by
      have hc := cnt_le l hw
      have e := heavy_few l h80 hw l.length 0 k 0 (by omega) (by omega) (by
        rw [List.drop_zero]
        have : l.length * 140737488351233 ≤ 80 * 140737488351233 := Nat.mul_le_mul_right _ h80
        omega)
      rw [List.drop_zero, Nat.zero_add] at e
      exact e
    by_cases hc : cnt l > 1500
    · refine ⟨100, ?_⟩
      unfold letterboxlaw18_FindParses.f
      rw [hh 100 (Nat.le_refl _), decide_eq_true hc, Option.bind_some, if_pos rfl]
    · have hl : okl l := fun t ht => by have := cnt_mem l t ht; omega
      obtain ⟨r, h1, h2⟩ := parse_same hl (k := 1000) (by omega) (by omega)
      have hok := parse_well hl (by omega) h1
      obtain ⟨K, hs⟩ := same_refl _ _ hok
      have up : ∀ j, find_Parse.f (1000 + j) l = some r := fun j => by
        induction j with
        | zero => exact h1
        | succ j ih => exact find_Parse.mono l (1000 + j) r ih
      have upR : ∀ j, letterboxref18_Parse.f (1000 + j) l = some r := fun j => by
        induction j with
        | zero => exact h2
        | succ j ih => exact letterboxref18_Parse.mono l (1000 + j) r ih
      have hk := known_true (980 + K)
      refine ⟨1000 + K, ?_⟩
      unfold letterboxlaw18_FindParses.f
      rw [hh _ (by omega), decide_eq_false hc, Option.bind_some, if_neg Bool.false_ne_true, up K, Option.bind_some, upR K, Option.bind_some, hs (1000 + K) (by omega), Option.bind_some, if_pos rfl, if_pos rfl, show 1000 + K = 20 + (980 + K) by omega, hk]
      rfl
  · refine ⟨l.length + 1, ?_⟩
    have e := heavy_many l (by omega) (by omega) l.length 0 (l.length + 1) 0 (by omega) (by omega)
    unfold letterboxlaw18_FindParses.f letterboxlaw18_heavy.f
    have e' : letterboxlaw18_heavy.l0 (l.length + 1) l 0 0 = some true := e
    rw [e', Option.bind_some, if_pos rfl]
end Go.Proofs.YtejhfghijgbckaaGreatDoor.Pure
