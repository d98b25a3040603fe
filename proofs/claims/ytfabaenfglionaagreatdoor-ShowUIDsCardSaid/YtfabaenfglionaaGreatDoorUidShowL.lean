/- Show's list of texts: what Show answers of items that big lets in. -/
import Derived.Test.YtfabaenfglionaaGreatDoorUidTold
import Derived.Test.YtfabaenfglionaaGreatDoorPx4
namespace Go.Proofs.YtfabaenfglionaaGreatDoor.Pure
open Go.RowKit Go.Proofs.YtfabaenfglionaaGreatDoor Go.Proofs.YtfabaenfglionaaGreatDoor.P Go.Proofs.YtfabaenfglionaaGreatDoor.Spec Go.Proofs.YtfabaenfglionaaGreatDoorW.PrintWords Go.Proofs.YtfabaenfglionaaGreatDoorW.PrintLast Go.Proofs.YtfabaenfglionaaGreatDoorW.PrintMore

theorem told_up {a b : Nat} (h : a ≤ b) {x : Int} {p : List Int} {u f d : Int} {m : List Int} {t : ByteArray} (hp : show_told.f a x p u f d m = some t) : show_told.f b x p u f d m = some t := by
  obtain ⟨j, rfl⟩ : ∃ j, b = a + j := ⟨b - a, by omega⟩
  clear h
  induction j with
  | zero => exact hp
  | succ j ih => exact show_told.mono x p u f d m (a + j) _ ih
structure Msg (u d : Int) (m : List Int) : Prop where
  u0 : 0 ≤ u ∧ u ≤ 9223372036854775807
  d0 : 0 ≤ d ∧ d ≤ 9223372036854775807
  b : Byt m
  l : m.length ≤ 1500
def TT (u f d : Int) (m : List Int) (x : S40) : ByteArray := (show_told.f 14000 x.f0 x.f1 u f d m).getD ByteArray.empty
theorem TT_ok {u d : Int} {m : List Int} (f : Int) (h : Msg u d m) {x : S40} (hx : Ok x) {k : Nat} (hk : 14000 ≤ k) : show_told.f k x.f0 x.f1 u f d m = some (TT u f d m x) ∧ (TT u f d m x).size ≤ 40000 := by
  obtain ⟨t, ht, hs⟩ := told_ex 14000 x u f d m hx h.u0 h.d0 h.b h.l (Nat.le_refl _)
  have e : TT u f d m x = t := by unfold TT; rw [ht]; rfl
  rw [e]
  exact ⟨told_up hk ht, hs⟩
def shown (x2 : Int) (x9 : List ByteArray) : Option ByteArray := show_Show.l0 1 x2 x9 [] 0 0 0 0 0 []
theorem shown_ex (x2 : Int) (h0 : 0 ≤ x2) (h1 : x2 ≤ 9223372036854775807) (outs : List ByteArray) (hl : outs.length ≤ 100) (hs : ∀ t ∈ outs, t.size ≤ 40000) : ∃ t, shown x2 outs = some t := by
  obtain ⟨n, hn, hns⟩ := Itoa_ex x2 (by omega) h1
  obtain ⟨t, ht, hts⟩ := Join_ex outs (⟨#[32]⟩ : ByteArray) 40000 rfl hs (by omega) (by omega)
  have h2 : t.size ≤ 4000100 := Nat.le_trans hts (Nat.le_trans (Nat.mul_le_mul_left _ hl) (by decide))
  unfold shown show_Show.l0
  rw [if_neg (by decide), hn, Option.bind_some, if_pos (by omega), if_pos (by omega), ht, Option.bind_some, if_pos (by omega), if_pos (by omega), if_pos (by omega)]
  exact ⟨_, rfl⟩
theorem Show_l0 {u d : Int} {m : List Int} (f : Int) (hM : Msg u d m) (x2 : Int) (l : List S40) (hl : l.length ≤ 50) (hok : ∀ x ∈ l, Ok x) : ∀ (k i : Nat) (outs : List ByteArray), i ≤ l.length → outs.length ≤ 50 + i → 14001 + (l.length - i) ≤ k → show_Show.l0 k x2 outs l (l.length : Int) (i : Int) u f d m = shown x2 (outs ++ (l.drop i).map (TT u f d m))
  | 0, _, _, _, _, h => absurd h (by omega)
  | k + 1, i, outs, hi, ho, hk => by
    by_cases hlt : i < l.length
    · have hd : l.drop i = l[i] :: l.drop (i + 1) := List.drop_eq_getElem_cons hlt
      have hr : rd_T40 l (i : Int) = l[i] := by
        unfold rd_T40
        rw [Int.toNat_natCast, List.getD_eq_getElem?_getD, List.getElem?_eq_getElem hlt]
        rfl
      have hT := (TT_ok f hM (hok _ (List.getElem_mem hlt)) (show 14000 ≤ k by omega)).1
      unfold show_Show.l0
      rw [if_pos (by omega), if_pos (by omega), if_pos (by omega), hr, hT, Option.bind_some, if_pos (by omega), show wrap64 ((i : Int) + 1) = ((i + 1 : Nat) : Int) from w64 _ (by omega) (by omega)]
      rw [Show_l0 f hM x2 l hl hok k (i + 1) (outs ++ [TT u f d m l[i]]) (by omega) (by rw [List.length_append, List.length_singleton]; omega) (by omega), hd, List.map_cons, List.append_assoc]
      rfl
    · have he : l.drop i = [] := List.drop_eq_nil_of_le (by omega)
      rw [he, List.map_nil, List.append_nil]
      unfold show_Show.l0 shown
      rw [if_neg (by omega)]
      conv => rhs; unfold show_Show.l0
      rw [if_neg (by decide)]
theorem Show_eq {u d : Int} {m : List Int} (f : Int) (hM : Msg u d m) (x2 : Int) (l : List S40) (hl : l.length ≤ 50) (hok : ∀ x ∈ l, Ok x) (k : Nat) (hk : 14100 ≤ k) (v : Bool) :
    show_Show.f k l u f d m x2 v = shown x2 ((if (v && !(l.any fun x => x.f0 == 2)) = true then [TT u f d m ⟨2, []⟩] else []) ++ l.map (TT u f d m)) := by
  obtain ⟨k, rfl⟩ : ∃ j, k = j + 1 + 1 := ⟨k - 2, by omega⟩
  have ok2 : Ok (⟨2, []⟩ : S40) := ⟨Nat.zero_le _, fun n h => by cases h⟩
  have hT : show_told.f (k + 1) 2 [] u f d m = some (TT u f d m ⟨2, []⟩) := (TT_ok f hM ok2 (show 14000 ≤ k + 1 by omega)).1
  have fin : ∀ outs : List ByteArray, outs.length ≤ 50 → show_Show.j1 (k + 1) l x2 outs u f d m = shown x2 (outs ++ l.map (TT u f d m)) := by
    intro outs ho
    rw [show_Show.j1]
    exact Show_l0 f hM x2 l hl hok k 0 outs (Nat.zero_le _) (by omega) (by omega)
  unfold show_Show.f
  cases v with
  | false =>
    rw [if_neg (by decide), if_neg (by simp)]
    rw [show_Show.j0]
    rw [if_neg (by decide)]
    exact fin [] (by decide)
  | true =>
    rw [if_pos rfl, show api_Item.f l = some (l.any fun x => x.f0 == 2) from rfl, Option.bind_some]
    rw [show_Show.j0]
    rw [Bool.true_and]
    by_cases h : (!(l.any fun x => x.f0 == 2)) = true
    · rw [if_pos h, if_pos h, hT, Option.bind_some, if_pos (by decide)]
      exact fin [TT u f d m ⟨2, []⟩] (by simp)
    · rw [if_neg h, if_neg h]
      exact fin [] (by decide)
end Go.Proofs.YtfabaenfglionaaGreatDoor.Pure
