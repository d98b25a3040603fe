/- What small, path and item answer, as lists of bytes. -/
import Derived.Test.YtalabkaalbllgaaGreatDoorShowSplit
namespace Go.Proofs.YtalabkaalbllgaaGreatDoor.Pure
open Go.RowKit Go.Proofs.YtalabkaalbllgaaGreatDoor Go.Proofs.YtalabkaalbllgaaGreatDoor.P Go.Proofs.YtalabkaalbllgaaGreatDoorW.PrintWords Go.Proofs.YtalabkaalbllgaaGreatDoorW.PrintLast Go.Proofs.YtalabkaalbllgaaGreatDoorW.PrintMore

theorem mk_toList (l : List UInt8) : (mk l).toList = l := Lib.toList_data _
theorem mk_app (a b : List UInt8) : mk a ++ mk b = mk (a ++ b) := ext_list (by simp [mk])
theorem bt_mk (l : List UInt8) (i : Nat) (b : UInt8) (h : l[i]? = some b) : bt (mk l) (i : Int) = (b.toNat : Int) := by
  have hi : i < (mk l).size := by rw [mk_size]; exact (List.getElem?_eq_some_iff.1 h).1
  have h2 := Lib.data_getElem? (mk l) i hi
  rw [mk_list, h] at h2
  unfold bt
  simp only [Int.toNat_natCast]
  rw [dif_pos hi, ← Option.some.inj h2]
/-! ### small -/
def low1 (b : UInt8) : UInt8 := if 65 ≤ b.toNat ∧ b.toNat ≤ 90 then UInt8.ofNat (b.toNat + 32) else b
def lowL (l : List UInt8) : List UInt8 := l.map low1
theorem low_mk (l : List UInt8) : lowB (mk l) = mk (lowL l) := by
  apply ext_list
  unfold lowB lowL
  rw [strOfNums_data, mk_list]
  unfold bytesOf
  rw [mk_list, List.map_map, List.map_map]
  refine List.map_congr_left fun b _ => ?_
  show UInt8.ofNat (lowI (b.toNat : Int)).toNat = low1 b
  unfold lowI low1
  by_cases h : 65 ≤ b.toNat ∧ b.toNat ≤ 90
  · rw [if_pos h, if_pos (by omega)]
    congr 1
  · rw [if_neg h, if_neg (by omega)]
    simp
theorem small_mk (l : List UInt8) (h : l.length ≤ 1000000) : show_small.f (mk l) = some (mk (lowL l)) := by
  unfold show_small.f
  rw [if_pos (by rw [mk_size]; omega), low_mk]
/-! ### path -/
def good (x : List UInt8) : Bool := match x with | [b] => decide (49 ≤ b.toNat ∧ b.toNat ≤ 57) | _ => false
def val (x : List UInt8) : Int := match x with | [b] => (b.toNat : Int) - 48 | _ => 0
def pathC (c : List (List UInt8)) : List Int × Bool := if c.all good = true then (c.map val, decide ((c.length : Int) ≤ 4)) else ([], false)
def pathP (l : List UInt8) : List Int × Bool := if l = [] then ([], true) else pathC (cuts 46 l)
theorem path_l0 (c : List (List UInt8)) (hc : c.length ≤ 1000000) : ∀ (m i k : Nat) (acc : List Int), i + m = c.length → m < k → acc.length = i → show_path.l0 k (c.map mk) acc (c.map mk) (c.length : Int) i = some (if (c.drop i).all good = true then (acc ++ (c.drop i).map val, decide ((c.length : Int) ≤ 4)) else ([], false))
  | 0, i, k, acc, h, hk, ha => by
    obtain ⟨k, rfl⟩ : ∃ k', k = k' + 1 := ⟨k - 1, by omega⟩
    rw [show_path.l0, if_neg (by omega), List.drop_of_length_le (by omega), List.length_map]
    simp
  | m + 1, i, k, acc, h, hk, ha => by
    obtain ⟨k, rfl⟩ : ∃ k', k = k' + 1 := ⟨k - 1, by omega⟩
    have hi : i < c.length := by omega
    obtain ⟨x, hx⟩ : ∃ x, c[i]? = some x := ⟨_, List.getElem?_eq_getElem hi⟩
    have hr : rdOf ByteArray.empty (c.map mk) (i : Int) = mk x := by
      unfold rdOf
      rw [Int.toNat_natCast, List.getD_eq_getElem?_getD, List.getElem?_map, hx]
      rfl
    have hd : c.drop i = x :: c.drop (i + 1) := by
      rw [List.drop_eq_getElem_cons hi]
      rw [List.getElem?_eq_getElem hi] at hx
      rw [Option.some.inj hx]
    rw [show_path.l0, if_pos (by omega), if_pos (by omega), if_pos (by rw [List.length_map]; omega), hr, mk_size, hd, List.all_cons]
    by_cases h1 : (x.length : Int) = 1
    · obtain ⟨b, rfl⟩ : ∃ b, x = [b] := List.length_eq_one_iff.1 (by omega)
      have hb : bt (mk [b]) 0 = (b.toNat : Int) := bt_mk [b] 0 b rfl
      rw [if_pos h1, if_pos (by simp), hb]
      by_cases h2 : (b.toNat : Int) < 49
      · rw [if_pos h2, show good [b] = false from decide_eq_false (by omega)]
        rfl
      · rw [if_neg h2]
        by_cases h3 : (b.toNat : Int) > 57
        · rw [if_pos h3, show good [b] = false from decide_eq_false (by omega)]
          rfl
        · rw [if_neg h3, if_pos (by omega), show good [b] = true from decide_eq_true (by omega), w64 _ (by omega) (by omega), show ((i : Int) + 1) = ((i + 1 : Nat) : Int) from rfl, show ((b.toNat : Int) - 48) % 256 = (b.toNat : Int) - 48 by omega,
            path_l0 c hc m (i + 1) k _ (by omega) (by omega) (by simp; omega), Bool.true_and, List.append_assoc]
          rfl
    · have hg : good x = false := by
        unfold good
        split
        · exact absurd rfl h1
        · rfl
      rw [if_neg h1, hg]
      rfl
theorem path_mk (l : List UInt8) (hl : l.length ≤ 100000) (k : Nat) (hk : l.length + 3 < k) : show_path.f k (mk l) = some (pathP l) := by
  unfold show_path.f pathP
  rw [mk_toList]
  by_cases h : l = []
  · rw [if_pos h, if_pos h]
  · have hcl := cuts_len 46 l
    rw [if_neg h, if_neg h, Split_eq k 46 l hl (by omega), Option.bind_some, List.length_map]
    have := path_l0 (cuts 46 l) (by omega) (cuts 46 l).length 0 k [] (by omega) (by omega) rfl
    rw [List.drop_zero] at this
    rw [show (0 : Int) = ((0 : Nat) : Int) from rfl, this]
    rfl
/-! ### item -/
def bodyP : List UInt8 := [98, 111, 100, 121, 46, 112, 101, 101, 107, 91]
def itemP (s : List UInt8) : Int × List Int × Bool :=
  if s = [102, 108, 97, 103, 115] then (1, [], true) else if s = [117, 105, 100] then (2, [], true) else if s = [105, 110, 116, 101, 114, 110, 97, 108, 100, 97, 116, 101] then (3, [], true) else
  if s = [114, 102, 99, 56, 50, 50, 46, 115, 105, 122, 101] then (4, [], true) else if s = [98, 111, 100, 121, 46, 112, 101, 101, 107, 91, 104, 101, 97, 100, 101, 114, 93] then (6, [], true) else
  if s = [98, 111, 100, 121, 46, 112, 101, 101, 107, 91, 116, 101, 120, 116, 93] then (7, [], true) else
  (5, (pathP (Lib.trimSuffix (Lib.trimPrefix s bodyP) [93])).1, Lib.hasPrefix s bodyP && (Lib.hasSuffix (Lib.trimPrefix s bodyP) [93] && (pathP (Lib.trimSuffix (Lib.trimPrefix s bodyP) [93])).2))
theorem trimP_len (s p : List UInt8) : (Lib.trimPrefix s p).length ≤ s.length := by
  unfold Lib.trimPrefix
  split
  · rw [List.length_drop]; omega
  · omega
theorem trimS_len (s p : List UInt8) : (Lib.trimSuffix s p).length ≤ s.length := by
  unfold Lib.trimSuffix
  split
  · rw [List.length_take]; omega
  · omega
theorem item_mk (l : List UInt8) (hl : l.length ≤ 100000) (k : Nat) (hk : l.length + 3 < k) : show_item.f k (mk l) = some (itemP (lowL l)) := by
  have hll : (lowL l).length = l.length := List.length_map ..
  unfold show_item.f itemP
  rw [small_mk l (by omega), Option.bind_some, mk_toList]
  generalize hs : lowL l = s at hll
  by_cases c1 : s = [102, 108, 97, 103, 115]
  · rw [if_pos c1, if_pos c1]
  rw [if_neg c1, if_neg c1]
  by_cases c2 : s = [117, 105, 100]
  · rw [if_pos c2, if_pos c2]
  rw [if_neg c2, if_neg c2]
  by_cases c3 : s = [105, 110, 116, 101, 114, 110, 97, 108, 100, 97, 116, 101]
  · rw [if_pos c3, if_pos c3]
  rw [if_neg c3, if_neg c3]
  by_cases c4 : s = [114, 102, 99, 56, 50, 50, 46, 115, 105, 122, 101]
  · rw [if_pos c4, if_pos c4]
  rw [if_neg c4, if_neg c4]
  by_cases c5 : s = [98, 111, 100, 121, 46, 112, 101, 101, 107, 91, 104, 101, 97, 100, 101, 114, 93]
  · rw [if_pos c5, if_pos c5]
  rw [if_neg c5, if_neg c5]
  by_cases c6 : s = [98, 111, 100, 121, 46, 112, 101, 101, 107, 91, 116, 101, 120, 116, 93]
  · rw [if_pos c6, if_pos c6]
  rw [if_neg c6, if_neg c6]
  have t1 := trimP_len s bodyP
  have t2 := trimS_len (Lib.trimPrefix s bodyP) [93]
  have e1 : strings_CutPrefix.f (mk s) (⟨#[98, 111, 100, 121, 46, 112, 101, 101, 107, 91]⟩ : ByteArray) = some (mk (Lib.trimPrefix s bodyP), Lib.hasPrefix s bodyP) := rfl
  have e2 : strings_CutSuffix.f (mk (Lib.trimPrefix s bodyP)) (⟨#[93]⟩ : ByteArray) = some (mk (Lib.trimSuffix (Lib.trimPrefix s bodyP) [93]), Lib.hasSuffix (Lib.trimPrefix s bodyP) [93]) := by
    unfold strings_CutSuffix.f
    rw [if_pos (by rw [mk_size]; omega)]
    rfl
  rw [e1, Option.bind_some]
  show (strings_CutSuffix.f (mk (Lib.trimPrefix s bodyP)) (⟨#[93]⟩ : ByteArray)).bind _ = _
  rw [e2, Option.bind_some]
  show (show_path.f k (mk (Lib.trimSuffix (Lib.trimPrefix s bodyP) [93]))).bind _ = _
  rw [path_mk _ (by omega) k (by omega), Option.bind_some]
  show (if Lib.hasPrefix s bodyP = true then (if Lib.hasSuffix (Lib.trimPrefix s bodyP) [93] = true then _ else _) else _) = _
  cases Lib.hasPrefix s bodyP <;> cases Lib.hasSuffix (Lib.trimPrefix s bodyP) [93] <;> rfl
/-! ### Parse of one token -/
theorem parse_one (k : Nat) (hk : 1 ≤ k) (s : ByteArray) (a : Int) (b : List Int) (c : Bool) (h : show_item.f k s = some (a, b, c)) : show_Parse.f (k + 3) [⟨1, s⟩] = some (if c = true then ([⟨a, b⟩], 0) else ([], 3)) := by
  obtain ⟨k, rfl⟩ : ∃ k', k = k' + 1 := ⟨k - 1, by omega⟩
  unfold show_Parse.f
  rw [if_neg (by simp), show_Parse.j0, if_neg (by simp), if_pos (by simp), show_Parse.j1, show_Parse.l100, if_neg (by simp), if_pos (by omega), if_pos (by simp)]
  show (show_item.f (k + 1) s).bind _ = _
  rw [h, Option.bind_some]
  cases c with
  | false => rfl
  | true =>
    rw [if_pos rfl, if_pos (by rfl), if_pos (by simp), show_Parse.l100, if_pos (by simp [wrap64])]
    rfl
end Go.Proofs.YtalabkaalbllgaaGreatDoor.Pure
