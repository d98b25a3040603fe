/- ShowParses over texts and lists alone. -/
import Derived.Test.YtalabkaalbllgaaGreatDoorShowItem
import Derived.Test.YtalabkaalbllgaaGreatDoorShowKnown
import Derived.Test.YtalabkaalbllgaaGreatDoorPx104
namespace Go.Proofs.YtalabkaalbllgaaGreatDoor.Pure
set_option linter.unusedSectionVars false
open Go.RowKit Go.Proofs.YtalabkaalbllgaaGreatDoor Go.Proofs.YtalabkaalbllgaaGreatDoor.P Go.Proofs.YtalabkaalbllgaaGreatDoorW.PrintWords Go.Proofs.YtalabkaalbllgaaGreatDoorW.PrintLast Go.Proofs.YtalabkaalbllgaaGreatDoorW.PrintMore

/-! ### A path -/
def dig1 (b : UInt8) : Bool := decide (49 ≤ b.toNat ∧ b.toNat ≤ 57)
def pP : List UInt8 → Option (List Int)
  | [] => none
  | [b] => if dig1 b = true then some [(b.toNat : Int) - 48] else none
  | b :: c :: r => if dig1 b = true ∧ c = 46 then (pP r).map fun l => ((b.toNat : Int) - 48) :: l else none
theorem dig1_ne {b : UInt8} (h : dig1 b = true) : b ≠ 46 := fun e => by
  rw [e] at h
  exact absurd h (by decide)
theorem cuts_cons (b : UInt8) (r : List UInt8) : cuts 46 (b :: r) = if b = 46 then [] :: cuts 46 r else match cuts 46 r with | [] => [[b]] | x :: xs => (b :: x) :: xs := by
  rw [cuts]
  rfl
theorem cuts_pP : ∀ l : List UInt8, (∀ p, pP l = some p → (cuts 46 l).all good = true ∧ (cuts 46 l).map val = p) ∧ (pP l = none → (cuts 46 l).all good = false)
  | [] => ⟨fun p h => (by cases h), fun _ => rfl⟩
  | [b] => by
    rw [pP]
    by_cases h : dig1 b = true
    · have hne := dig1_ne h
      rw [if_pos h, cuts_out 46 [b] (by simp; exact fun e => hne e.symm)]
      refine ⟨fun p hp => ?_, fun hp => (by cases hp)⟩
      obtain rfl := Option.some.inj hp
      refine ⟨?_, rfl⟩
      rw [List.all_cons, List.all_nil, Bool.and_true]
      exact h
    · rw [if_neg h]
      refine ⟨fun p hp => (by cases hp), fun _ => ?_⟩
      by_cases hb : b = 46
      · subst hb; rfl
      · rw [cuts_out 46 [b] (by simp; exact fun e => hb e.symm), List.all_cons, List.all_nil, Bool.and_true]
        exact Bool.eq_false_iff.2 h
  | b :: c :: r => by
    obtain ⟨ih1, ih2⟩ := cuts_pP r
    rw [pP]
    by_cases h : dig1 b = true ∧ c = 46
    · obtain ⟨hb, rfl⟩ := h
      have hne := dig1_ne hb
      have hc : cuts 46 (b :: 46 :: r) = [b] :: cuts 46 r := cuts_in 46 [b] r (by simp; exact fun e => hne e.symm)
      have hg : good [b] = true := hb
      rw [if_pos ⟨hb, rfl⟩, hc, List.all_cons, hg, Bool.true_and]
      cases hp : pP r with
      | none => exact ⟨fun p h => (by cases h), fun _ => ih2 hp⟩
      | some q =>
        refine ⟨fun p h => ?_, fun h => by cases h⟩
        obtain rfl := Option.some.inj h
        obtain ⟨a1, a2⟩ := ih1 q hp
        exact ⟨a1, by rw [List.map_cons, a2]; rfl⟩
    · rw [if_neg h]
      refine ⟨fun p hp => (by cases hp), fun _ => ?_⟩
      by_cases hb : b = 46
      · rw [cuts_cons, if_pos hb]; rfl
      · by_cases hc : c = 46
        · have hd : dig1 b = false := Bool.eq_false_iff.2 fun e => h ⟨e, hc⟩
          subst hc
          rw [show cuts 46 (b :: 46 :: r) = [b] :: cuts 46 r from cuts_in 46 [b] r (by simp; exact fun e => hb e.symm), List.all_cons, show good [b] = false from hd]
          rfl
        · rw [cuts_cons, if_neg hb, cuts_cons, if_neg hc]
          cases cuts 46 r with
          | nil => rfl
          | cons x xs => rfl
theorem pathC_pP (l : List UInt8) : pathC (cuts 46 l) = match pP l with | some p => (p, decide ((p.length : Int) ≤ 4)) | none => ([], false) := by
  obtain ⟨h1, h2⟩ := cuts_pP l
  unfold pathC
  cases hp : pP l with
  | none => rw [h2 hp]; rfl
  | some p =>
    obtain ⟨a1, a2⟩ := h1 p hp
    have hl := congrArg List.length a2
    rw [List.length_map] at hl
    rw [a1, if_pos rfl, a2, hl]
/-- The reference's path. -/
theorem rpath_l0 (l : List UInt8) (hl : l.length ≤ 1000000) : ∀ (m i k : Nat) (acc : List Int), m = l.length - i → i ≤ l.length → i % 2 = 0 → 3 * m + 5 < k → acc.length ≤ i →
    ∃ q ok, letterboxref19_path.l0 k (mk l) acc i = some (q, ok) ∧ (∀ p, pP (l.drop i) = some p → q = acc ++ p ∧ ok = decide (((acc.length + p.length : Nat) : Int) ≤ 4)) ∧ (pP (l.drop i) = none → ok = false)
  | m, i, k, acc, hm, hi, he, hk, ha => by
    obtain ⟨k, rfl⟩ : ∃ k', k = k' + 3 := ⟨k - 3, by omega⟩
    have hsz := mk_size l
    have htm : Int.tmod (i : Int) 2 = 0 := by rw [Int.tmod_eq_emod_of_nonneg (by omega)]; omega
    by_cases h0 : i = l.length
    · refine ⟨acc, false, ?_, fun p hp => ?_, fun _ => rfl⟩
      · rw [letterboxref19_path.l0, if_neg (by omega), if_neg (by omega)]
      · rw [List.drop_of_length_le (by omega)] at hp; cases hp
    · have hlt : i < l.length := by omega
      obtain ⟨b, hb⟩ : ∃ b, l[i]? = some b := ⟨_, List.getElem?_eq_getElem hlt⟩
      have hd : l.drop i = b :: l.drop (i + 1) := by
        rw [List.drop_eq_getElem_cons hlt]
        rw [List.getElem?_eq_getElem hlt] at hb
        rw [Option.some.inj hb]
      have hbt := bt_mk l i b hb
      have hw1 : wrap64 ((i : Int) + 1) = ((i + 1 : Nat) : Int) := by rw [w64 _ (by omega) (by omega)]; rfl
      have hfalse : ∀ a, letterboxref19_path.j2 (k + 1) (mk l) a i true = some ([], false) := fun a => by rw [letterboxref19_path.j2, if_pos rfl]
      rw [letterboxref19_path.l0, if_pos (by omega), htm, if_neg (by omega), letterboxref19_path.j1, if_neg (by simp), htm, if_pos rfl, if_pos (by omega), if_pos (by omega), hbt]
      by_cases h1 : dig1 b = true
      · have hdd := of_decide_eq_true h1
        rw [if_neg (by omega), decide_eq_false (by omega), letterboxref19_path.j2, if_neg (by simp), htm, if_pos rfl, if_pos (by omega), if_pos (by omega), if_pos (by omega), hbt, w64 (b.toNat : Int) (by omega) (by omega), w64 _ (by omega) (by omega), hw1]
        -- the odd place
        obtain ⟨k, rfl⟩ : ∃ k', k = k' + 3 := ⟨k - 3, by omega⟩
        have htm1 : Int.tmod ((i + 1 : Nat) : Int) 2 = 1 := by rw [Int.tmod_eq_emod_of_nonneg (by omega)]; omega
        by_cases h2 : i + 1 = l.length
        · refine ⟨acc ++ [(b.toNat : Int) - 48], decide (((acc ++ [(b.toNat : Int) - 48]).length : Int) ≤ 4), ?_, fun p hp => ?_, fun hp => ?_⟩
          · rw [letterboxref19_path.l0, if_neg (by omega), if_pos (by omega)]
          · rw [hd, List.drop_of_length_le (by omega), pP, if_pos h1] at hp
            obtain rfl := Option.some.inj hp
            exact ⟨rfl, by simp⟩
          · rw [hd, List.drop_of_length_le (by omega), pP, if_pos h1] at hp
            cases hp
        · have hlt2 : i + 1 < l.length := by omega
          obtain ⟨c, hc⟩ : ∃ c, l[i + 1]? = some c := ⟨_, List.getElem?_eq_getElem hlt2⟩
          have hd2 : l.drop (i + 1) = c :: l.drop (i + 2) := by
            rw [List.drop_eq_getElem_cons hlt2]
            rw [List.getElem?_eq_getElem hlt2] at hc
            rw [Option.some.inj hc]
          have hbt2 := bt_mk l (i + 1) c hc
          have hw2 : wrap64 (((i + 1 : Nat) : Int) + 1) = ((i + 2 : Nat) : Int) := by rw [w64 _ (by omega) (by omega)]; omega
          rw [letterboxref19_path.l0, if_pos (by omega), htm1, if_pos rfl, if_pos (by omega), hbt2, letterboxref19_path.j1]
          by_cases h3 : c = 46
          · have hne : ((c.toNat : Int) != 46) = false := by subst h3; rfl
            rw [hne, if_neg (by simp), htm1, if_neg (by omega), letterboxref19_path.j2, if_neg (by simp), htm1, if_neg (by omega), hw2]
            obtain ⟨q, ok, e1, e2, e3⟩ := rpath_l0 l hl (l.length - (i + 2)) (i + 2) k (acc ++ [(b.toNat : Int) - 48]) rfl (by omega) (by omega) (by omega) (by simp; omega)
            refine ⟨q, ok, e1, fun p hp => ?_, fun hp => ?_⟩
            · rw [hd, hd2, pP, if_pos ⟨h1, h3⟩] at hp
              obtain ⟨p2, hp2, rfl⟩ := Option.map_eq_some_iff.1 hp
              obtain ⟨r1, r2⟩ := e2 p2 hp2
              refine ⟨by rw [r1, List.append_assoc]; rfl, ?_⟩
              rw [r2]
              refine decide_eq_decide.2 ?_
              simp
              omega
            · rw [hd, hd2, pP, if_pos ⟨h1, h3⟩] at hp
              exact e3 (Option.map_eq_none_iff.1 hp)
          · have hne : ((c.toNat : Int) != 46) = true := by
              refine bne_iff_ne.2 fun e => h3 ?_
              exact UInt8.toNat_inj.1 (by show c.toNat = 46; omega)
            rw [hne, if_pos rfl, letterboxref19_path.j2, if_pos rfl]
            refine ⟨[], false, rfl, fun p hp => ?_, fun _ => rfl⟩
            rw [hd, hd2, pP, if_neg (fun e => h3 e.2)] at hp
            cases hp
      · have hn : pP (l.drop i) = none := by
          rw [hd]
          cases l.drop (i + 1) with
          | nil => rw [pP, if_neg h1]
          | cons c r => rw [pP, if_neg (fun e => h1 e.1)]
        have hnd : ¬ (49 ≤ b.toNat ∧ b.toNat ≤ 57) := fun e => h1 (decide_eq_true e)
        refine ⟨[], false, ?_, fun p hp => (by rw [hn] at hp; cases hp), fun _ => rfl⟩
        by_cases h4 : (b.toNat : Int) < 49
        · rw [if_pos h4, hfalse]
        · rw [if_neg h4, decide_eq_true (by omega), hfalse]
  termination_by m => m
/-! ### An item -/
def Eqv (a b : Int × List Int × Bool) : Prop := a.2.2 = b.2.2 ∧ (a.2.2 = true → a = b)
theorem rpath_eqv (l : List UInt8) (hl : l.length ≤ 1000000) (k : Nat) (hk : 3 * l.length + 5 < k) : ∃ q ok, letterboxref19_path.f k (mk l) = some (q, ok) ∧ (pathC (cuts 46 l)).2 = ok ∧ (ok = true → (pathC (cuts 46 l)).1 = q) := by
  obtain ⟨q, ok, h1, h2, h3⟩ := rpath_l0 l hl l.length 0 k [] (by omega) (by omega) rfl hk (Nat.le_refl _)
  rw [List.drop_zero] at h2 h3
  refine ⟨q, ok, h1, ?_, ?_⟩
  · rw [pathC_pP]
    cases hp : pP l with
    | none => rw [h3 hp]
    | some p =>
      obtain ⟨_, r2⟩ := h2 p hp
      rw [r2]
      show decide ((p.length : Int) ≤ 4) = _
      refine decide_eq_decide.2 ?_
      simp
  · intro hok
    rw [pathC_pP]
    cases hp : pP l with
    | none => rw [h3 hp] at hok; cases hok
    | some p => rw [(h2 p hp).1]; rfl
def namesR : List ByteArray := [(⟨#[102, 108, 97, 103, 115]⟩ : ByteArray), (⟨#[117, 105, 100]⟩ : ByteArray), (⟨#[105, 110, 116, 101, 114, 110, 97, 108, 100, 97, 116, 101]⟩ : ByteArray), (⟨#[114, 102, 99, 56, 50, 50, 46, 115, 105, 122, 101]⟩ : ByteArray), (⟨#[98, 111, 100, 121, 46, 112, 101, 101, 107, 91, 93]⟩ : ByteArray), (⟨#[98, 111, 100, 121, 46, 112, 101, 101, 107, 91, 104, 101, 97, 100, 101, 114, 93]⟩ : ByteArray), (⟨#[98, 111, 100, 121, 46, 112, 101, 101, 107, 91, 116, 101, 120, 116, 93]⟩ : ByteArray)]
/-- One name is looked at. -/
theorem ritem_step (k i : Nat) (hi : i < 7) (s : List UInt8) (n : List UInt8) (hn : namesR.getD i ByteArray.empty = mk n) :
    letterboxref19_item.l0 (k + 1) (mk s) namesR i = if n = s then some (((i + 1 : Nat) : Int), [], true) else letterboxref19_item.l0 k (mk s) namesR ((i + 1 : Nat) : Int) := by
  have hr : rdOf ByteArray.empty namesR (i : Int) = mk n := by
    unfold rdOf
    rw [Int.toNat_natCast]
    exact hn
  have hw : wrap64 ((i : Int) + 1) = ((i + 1 : Nat) : Int) := by rw [w64 _ (by omega) (by omega)]; rfl
  rw [letterboxref19_item.l0, if_pos (by omega), if_pos (by omega), if_pos (by show (i : Int) < ((7 : Nat) : Int); omega), hr, mk_toList, mk_toList, hw]
theorem ritem_eqv (l : List UInt8) (hl : l.length ≤ 100000) (k : Nat) (hk : 3 * l.length + 50 < k) : ∃ r, letterboxref19_item.f k (mk l) = some r ∧ Eqv (itemP (lowL l)) r := by
  have hll : (lowL l).length = l.length := List.length_map ..
  have hlow : letterboxref9_Low.f (mk l) = some (mk (lowL l)) := by
    unfold letterboxref9_Low.f
    rw [if_pos (by rw [mk_size]; omega), low_mk]
  have hf : letterboxref19_item.f k (mk l) = letterboxref19_item.l0 k (mk (lowL l)) namesR ((0 : Nat) : Int) := by
    unfold letterboxref19_item.f
    rw [hlow]
    rfl
  rw [hf]
  generalize hs : lowL l = s at hll
  clear hs hf hlow
  obtain ⟨k, rfl⟩ : ∃ k', k = k' + 1 + 1 + 1 + 1 + 1 + 1 + 1 + 1 := ⟨k - 8, by omega⟩
  rw [ritem_step _ 0 (by omega) s [102, 108, 97, 103, 115] rfl]
  unfold itemP
  by_cases c1 : s = [102, 108, 97, 103, 115]
  · rw [if_pos c1, if_pos c1.symm]; exact ⟨_, rfl, rfl, fun _ => rfl⟩
  rw [if_neg c1, if_neg (fun e => c1 e.symm), ritem_step _ 1 (by omega) s [117, 105, 100] rfl]
  by_cases c2 : s = [117, 105, 100]
  · rw [if_pos c2, if_pos c2.symm]; exact ⟨_, rfl, rfl, fun _ => rfl⟩
  rw [if_neg c2, if_neg (fun e => c2 e.symm), ritem_step _ 2 (by omega) s [105, 110, 116, 101, 114, 110, 97, 108, 100, 97, 116, 101] rfl]
  by_cases c3 : s = [105, 110, 116, 101, 114, 110, 97, 108, 100, 97, 116, 101]
  · rw [if_pos c3, if_pos c3.symm]; exact ⟨_, rfl, rfl, fun _ => rfl⟩
  rw [if_neg c3, if_neg (fun e => c3 e.symm), ritem_step _ 3 (by omega) s [114, 102, 99, 56, 50, 50, 46, 115, 105, 122, 101] rfl]
  by_cases c4 : s = [114, 102, 99, 56, 50, 50, 46, 115, 105, 122, 101]
  · rw [if_pos c4, if_pos c4.symm]; exact ⟨_, rfl, rfl, fun _ => rfl⟩
  rw [if_neg c4, if_neg (fun e => c4 e.symm), ritem_step _ 4 (by omega) s [98, 111, 100, 121, 46, 112, 101, 101, 107, 91, 93] rfl]
  by_cases c0 : s = [98, 111, 100, 121, 46, 112, 101, 101, 107, 91, 93]
  · rw [if_pos c0.symm, c0, if_neg (by simp), if_neg (by simp)]
    exact ⟨_, rfl, rfl, fun _ => rfl⟩
  rw [if_neg (fun e => c0 e.symm), ritem_step _ 5 (by omega) s [98, 111, 100, 121, 46, 112, 101, 101, 107, 91, 104, 101, 97, 100, 101, 114, 93] rfl]
  by_cases c5 : s = [98, 111, 100, 121, 46, 112, 101, 101, 107, 91, 104, 101, 97, 100, 101, 114, 93]
  · rw [if_pos c5, if_pos c5.symm]; exact ⟨_, rfl, rfl, fun _ => rfl⟩
  rw [if_neg c5, if_neg (fun e => c5 e.symm), ritem_step _ 6 (by omega) s [98, 111, 100, 121, 46, 112, 101, 101, 107, 91, 116, 101, 120, 116, 93] rfl]
  by_cases c6 : s = [98, 111, 100, 121, 46, 112, 101, 101, 107, 91, 116, 101, 120, 116, 93]
  · rw [if_pos c6, if_pos c6.symm]; exact ⟨_, rfl, rfl, fun _ => rfl⟩
  rw [if_neg c6, if_neg (fun e => c6 e.symm), letterboxref19_item.l0, if_neg (by omega), mk_size]
  have hw : wrap64 ((s.length : Int) - 1) = (s.length : Int) - 1 := w64 _ (by omega) (by omega)
  rw [hw]
  have hextr : ((mk s).extract 0 10).toList = s.take 10 := by
    rw [Lib.toList_data, extract_list, mk_list, List.drop_zero]
  rw [hextr]
  -- the shape of the text
  by_cases hpre : Lib.hasPrefix s bodyP = true
  · obtain ⟨R, rfl⟩ : ∃ R, s = bodyP ++ R := by
      obtain ⟨R, hR⟩ := List.isPrefixOf_iff_prefix.1 hpre
      exact ⟨R, hR.symm⟩
    have htp : Lib.trimPrefix (bodyP ++ R) bodyP = R := by
      unfold Lib.trimPrefix
      rw [if_pos hpre, List.drop_left]
    rw [htp, hpre, Bool.true_and]
    have htk : (bodyP ++ R).take 10 = [98, 111, 100, 121, 46, 112, 101, 101, 107, 91] := List.take_left (l₁ := bodyP)
    have hlen : (bodyP ++ R).length = 10 + R.length := by rw [List.length_append]; rfl
    by_cases hsuf : Lib.hasSuffix R [93] = true
    · obtain ⟨X, rfl⟩ : ∃ X, R = X ++ [93] := by
        obtain ⟨X, hX⟩ := List.isSuffixOf_iff_suffix.1 hsuf
        exact ⟨X, hX.symm⟩
      have hts : Lib.trimSuffix (X ++ [93]) [93] = X := by
        unfold Lib.trimSuffix
        rw [if_pos hsuf, List.length_append, Nat.add_sub_cancel, List.take_left]
      have hX : X ≠ [] := by rintro rfl; exact c0 rfl
      have hXl : 1 ≤ X.length := List.length_pos_iff.2 hX
      have hlen2 : (X ++ [(93 : UInt8)]).length = X.length + 1 := by simp
      rw [hlen2] at hlen
      have hlast : bt (mk (bodyP ++ (X ++ [93]))) (((bodyP ++ (X ++ [93])).length : Int) - 1) = 93 := by
        have := bt_mk (bodyP ++ (X ++ [93])) (10 + X.length) 93 (by
          rw [List.getElem?_append_right (by show 10 ≤ _; omega), show 10 + X.length - bodyP.length = X.length by show 10 + X.length - 10 = _; omega, List.getElem?_append_right (Nat.le_refl _), Nat.sub_self]; rfl)
        rw [hlen, show (((10 + (X.length + 1) : Nat) : Int) - 1) = ((10 + X.length : Nat) : Int) by omega]
        exact this
      have hext : (mk (bodyP ++ (X ++ [93]))).extract 10 (((bodyP ++ (X ++ [93])).length : Int) - 1).toNat = mk X := by
        apply ext_list
        rw [extract_list, mk_list, mk_list, hlen, show (((10 + (X.length + 1) : Nat) : Int) - 1).toNat = 10 + X.length by omega, ← List.append_assoc, show 10 + X.length = (bodyP ++ X).length by rw [List.length_append]; rfl, List.take_left]
        exact List.drop_left (l₁ := bodyP)
      obtain ⟨q, ok, e1, e2, e3⟩ := rpath_eqv X (by omega) k (by omega)
      have hpp : pathP X = pathC (cuts 46 X) := by unfold pathP; rw [if_neg hX]
      rw [hts, hsuf, Bool.true_and, hpp, if_neg (by omega), if_pos (by omega), if_pos (by omega), htk, if_pos rfl, if_pos (by omega), if_pos (by omega), hlast, if_pos rfl, if_pos (by omega), if_pos (by omega), hext, e1, Option.bind_some]
      refine ⟨_, rfl, e2, fun h => ?_⟩
      have hok : ok = true := e2.symm.trans h
      show ((5 : Int), (pathC (cuts 46 X)).1, (pathC (cuts 46 X)).2) = (5, q, ok)
      rw [e3 hok, e2]
    · have hsf : Lib.hasSuffix R [93] = false := Bool.eq_false_iff.2 hsuf
      rw [hsf, Bool.false_and]
      by_cases h12 : ((bodyP ++ R).length : Int) < 12
      · rw [if_pos h12]; exact ⟨_, rfl, rfl, fun h => by cases h⟩
      · have hR0 : R ≠ [] := by rintro rfl; exact h12 (by decide)
        have hlast : ¬ bt (mk (bodyP ++ R)) (((bodyP ++ R).length : Int) - 1) = 93 := by
          intro e
          have hRl : 0 < R.length := List.length_pos_iff.2 hR0
          obtain ⟨b, hb⟩ : ∃ b, R[R.length - 1]? = some b := ⟨_, List.getElem?_eq_getElem (by omega)⟩
          have := bt_mk (bodyP ++ R) (10 + (R.length - 1)) b (by
            rw [List.getElem?_append_right (by show 10 ≤ _; omega), show 10 + (R.length - 1) - bodyP.length = R.length - 1 by show 10 + (R.length - 1) - 10 = _; omega]; exact hb)
          rw [hlen, show (((10 + R.length : Nat) : Int) - 1) = ((10 + (R.length - 1) : Nat) : Int) by omega, this] at e
          obtain rfl : b = 93 := UInt8.toNat_inj.1 (by show b.toNat = 93; omega)
          refine hsuf ?_
          unfold Lib.hasSuffix
          refine List.isSuffixOf_iff_suffix.2 ⟨R.take (R.length - 1), ?_⟩
          have h5 : R.drop (R.length - 1) = [93] := by
            rw [List.drop_eq_getElem_cons (by omega), show R.length - 1 + 1 = R.length by omega, List.drop_length]
            rw [List.getElem?_eq_getElem (by omega)] at hb
            rw [Option.some.inj hb]
          rw [← h5, List.take_append_drop]
        rw [if_neg h12, if_pos (by omega), if_pos (by omega), htk, if_pos rfl, if_pos (by omega), if_pos (by omega), if_neg hlast]
        exact ⟨_, rfl, rfl, fun h => by cases h⟩
  · have hpf : Lib.hasPrefix s bodyP = false := Bool.eq_false_iff.2 hpre
    rw [hpf, Bool.false_and]
    by_cases h12 : (s.length : Int) < 12
    · rw [if_pos h12]; exact ⟨_, rfl, rfl, fun h => by cases h⟩
    · have htk : ¬ s.take 10 = [98, 111, 100, 121, 46, 112, 101, 101, 107, 91] := by
        intro e
        refine hpre ?_
        unfold Lib.hasPrefix
        refine List.isPrefixOf_iff_prefix.2 ⟨s.drop 10, ?_⟩
        show [98, 111, 100, 121, 46, 112, 101, 101, 107, 91] ++ s.drop 10 = s
        rw [← e, List.take_append_drop]
      rw [if_neg h12, if_pos (by omega), if_pos (by omega), if_neg htk]
      exact ⟨_, rfl, rfl, fun h => by cases h⟩
/-! ### The tokens -/
def pI (x : S38) : Option S28 := if (itemP (lowL x.f1.data.toList)).2.2 = true ∧ x.f0 = 1 then some ⟨(itemP (lowL x.f1.data.toList)).1, (itemP (lowL x.f1.data.toList)).2.1⟩ else none
def pAll : List S38 → Option (List S28)
  | [] => some []
  | x :: r => match pI x with | none => none | some y => (pAll r).map fun q => y :: q
theorem pAll_length : ∀ (l : List S38) (q : List S28), pAll l = some q → q.length = l.length
  | [], q, h => by obtain rfl := Option.some.inj h; rfl
  | x :: r, q, h => by
    rw [pAll] at h
    split at h
    · cases h
    · obtain ⟨q2, h2, rfl⟩ := Option.map_eq_some_iff.1 h
      rw [List.length_cons, List.length_cons, pAll_length r q2 h2]
def fin (o : Option (List S28)) : List S28 × Int := match o with | some q => if q = [] then ([], 3) else (q, 0) | none => ([], 3)
section
variable (L : List S38) (hs : ∀ x ∈ L, x.f1.size ≤ 100000) (hl : L.length ≤ 1000000)
include hs hl
theorem tok_at (i : Nat) (hi : i < L.length) : ∃ x, rd_T38 L (i : Int) = x ∧ L.drop i = x :: L.drop (i + 1) ∧ x.f1.size ≤ 100000 := by
  refine ⟨L[i], ?_, List.drop_eq_getElem_cons hi, hs _ (List.getElem_mem _)⟩
  unfold rd_T38
  rw [Int.toNat_natCast, List.getD_eq_getElem?_getD, List.getElem?_eq_getElem hi]
  rfl
theorem prog_loop : ∀ (m i : Nat) (acc : List S28), i + m = L.length → acc.length = i → ∃ K, ∀ k, K ≤ k → show_Parse.l100 k L acc i = some (match pAll (L.drop i) with | some q => (acc ++ q, 0) | none => ([], 3))
  | 0, i, acc, h, ha => ⟨1, fun k hk => by
    obtain ⟨k, rfl⟩ : ∃ k', k = k' + 1 := ⟨k - 1, by omega⟩
    rw [show_Parse.l100, if_pos (by omega), List.drop_of_length_le (by omega)]
    simp [pAll]⟩
  | m + 1, i, acc, h, ha => by
    obtain ⟨x, hx, hd, hsz⟩ := tok_at L hs hl i (by omega)
    have hmk : x.f1 = mk x.f1.data.toList := (mk_self _).symm
    have hll : x.f1.data.toList.length = x.f1.size := (Lib.size_eq _).symm
    have hit : ∀ k, 100010 ≤ k → show_item.f k x.f1 = some (itemP (lowL x.f1.data.toList)) := fun k hk => by
      rw [hmk]
      exact item_mk _ (by omega) k (by omega)
    by_cases hc : (itemP (lowL x.f1.data.toList)).2.2 = true ∧ x.f0 = 1
    · obtain ⟨K, hK⟩ := prog_loop m (i + 1) (acc ++ [⟨(itemP (lowL x.f1.data.toList)).1, (itemP (lowL x.f1.data.toList)).2.1⟩]) (by omega) (by simp; omega)
      refine ⟨K + 100020, fun k hk => ?_⟩
      obtain ⟨k, rfl⟩ : ∃ k', k = k' + 1 := ⟨k - 1, by omega⟩
      rw [show_Parse.l100, if_neg (by omega), if_pos (by omega), if_pos (by omega), hx, hit k (by omega), Option.bind_some, if_pos hc.1, if_pos hc.2, if_pos (by omega), w64 _ (by omega) (by omega), show ((i : Int) + 1) = ((i + 1 : Nat) : Int) from rfl, hK k (by omega), hd, pAll]
      unfold pI
      rw [if_pos hc]
      cases pAll (L.drop (i + 1)) with
      | none => rfl
      | some q => show some (acc ++ [_] ++ q, (0 : Int)) = some (acc ++ _ :: q, 0); rw [List.append_assoc]; rfl
    · refine ⟨100020, fun k hk => ?_⟩
      obtain ⟨k, rfl⟩ : ∃ k', k = k' + 1 := ⟨k - 1, by omega⟩
      rw [show_Parse.l100, if_neg (by omega), if_pos (by omega), if_pos (by omega), hx, hit k (by omega), Option.bind_some, hd, pAll]
      unfold pI
      rw [if_neg hc]
      by_cases h1 : (itemP (lowL x.f1.data.toList)).2.2 = true
      · rw [if_pos h1, if_neg (fun e => hc ⟨h1, e⟩)]
      · rw [if_neg h1]
theorem ref_loop : ∀ (m i : Nat) (acc : List S28), i + m = L.length → acc.length = i → ∃ K, ∀ k, K ≤ k → letterboxref19_Parse.l0 k L acc i = some (match pAll (L.drop i) with | some q => if acc ++ q = [] then ([], 3) else (acc ++ q, 0) | none => ([], 3))
  | 0, i, acc, h, ha => ⟨1, fun k hk => by
    obtain ⟨k, rfl⟩ : ∃ k', k = k' + 1 := ⟨k - 1, by omega⟩
    rw [letterboxref19_Parse.l0, if_neg (by omega), List.drop_of_length_le (by omega), pAll]
    show _ = some (if acc ++ [] = [] then ([], 3) else (acc ++ [], 0))
    rw [List.append_nil]
    cases acc with
    | nil => rfl
    | cons a r => rw [if_neg (by simp; omega), if_neg (by simp)]⟩
  | m + 1, i, acc, h, ha => by
    obtain ⟨x, hx, hd, hsz⟩ := tok_at L hs hl i (by omega)
    have hmk : x.f1 = mk x.f1.data.toList := (mk_self _).symm
    have hll : x.f1.data.toList.length = x.f1.size := (Lib.size_eq _).symm
    have hit : ∀ k, 300060 ≤ k → ∃ r, letterboxref19_item.f k x.f1 = some r ∧ Eqv (itemP (lowL x.f1.data.toList)) r := fun k hk => by
      rw [hmk]
      exact ritem_eqv _ (by omega) k (by omega)
    by_cases hc : (itemP (lowL x.f1.data.toList)).2.2 = true ∧ x.f0 = 1
    · obtain ⟨K, hK⟩ := ref_loop m (i + 1) (acc ++ [⟨(itemP (lowL x.f1.data.toList)).1, (itemP (lowL x.f1.data.toList)).2.1⟩]) (by omega) (by simp; omega)
      refine ⟨K + 300070, fun k hk => ?_⟩
      obtain ⟨k, rfl⟩ : ∃ k', k = k' + 1 := ⟨k - 1, by omega⟩
      obtain ⟨r, hr, _, hq⟩ := hit k (by omega)
      obtain rfl := hq hc.1
      rw [letterboxref19_Parse.l0, if_pos (by omega), if_pos (by omega), hx, hr, Option.bind_some, if_pos hc.2, if_pos hc.1, if_pos (by omega), w64 _ (by omega) (by omega), show ((i : Int) + 1) = ((i + 1 : Nat) : Int) from rfl, hK k (by omega), hd, pAll]
      unfold pI
      rw [if_pos hc]
      cases pAll (L.drop (i + 1)) with
      | none => rfl
      | some q =>
        show some (if acc ++ [_] ++ q = [] then _ else (acc ++ [_] ++ q, (0 : Int))) = some (if acc ++ _ :: q = [] then _ else (acc ++ _ :: q, 0))
        rw [List.append_assoc]
        rfl
    · refine ⟨300070, fun k hk => ?_⟩
      obtain ⟨k, rfl⟩ : ∃ k', k = k' + 1 := ⟨k - 1, by omega⟩
      obtain ⟨r, hr, hb, _⟩ := hit k (by omega)
      rw [letterboxref19_Parse.l0, if_pos (by omega), if_pos (by omega), hx, hr, Option.bind_some, hd, pAll]
      unfold pI
      rw [if_neg hc]
      by_cases h1 : x.f0 = 1
      · rw [if_pos h1, if_neg (by rw [← hb]; exact fun e => hc ⟨e, h1⟩)]
      · rw [if_neg h1]
end
/-! ### Parse -/
def inn (l : List S38) : List S38 := (l.take (l.length - 1)).drop 1
def strip (l : List S38) : Prop := (l.getD 0 z38).f0 = 3 ∧ (l.getD (l.length - 1) z38).f0 = 4
def pRest (l : List S38) : List S28 × Int := if l.length = 1 then fin (pAll l) else ([], 3)
open Classical in
noncomputable def pR (l : List S38) : List S28 × Int := if 3 ≤ l.length ∧ strip l then fin (pAll (inn l)) else pRest l
theorem fin_of {L : List S38} (h : L ≠ []) : (match pAll L with | some q => (([] : List S28) ++ q, (0 : Int)) | none => ([], 3)) = fin (pAll L) := by
  unfold fin
  cases hp : pAll L with
  | none => rfl
  | some q =>
    have hq : q ≠ [] := by
      rintro rfl
      have := pAll_length L [] hp
      exact h (List.eq_nil_of_length_eq_zero this.symm)
    show ([] ++ q, (0 : Int)) = if q = [] then ([], 3) else (q, 0)
    rw [if_neg hq]
    rfl
section
variable (l : List S38) (hs : ∀ x ∈ l, x.f1.size ≤ 100000) (hl : l.length ≤ 1000000)
include hs hl
theorem prog_parse : ∃ K, ∀ k, K ≤ k → show_Parse.f k l = some (pR l) := by
  have hsi : ∀ x ∈ inn l, x.f1.size ≤ 100000 := fun x hx => hs x (List.mem_of_mem_take (List.mem_of_mem_drop hx))
  have hil : (inn l).length = l.length - 2 := by unfold inn; rw [List.length_drop, List.length_take]; omega
  obtain ⟨K1, h1⟩ := prog_loop l hs hl l.length 0 [] (by omega) rfl
  obtain ⟨K2, h2⟩ := prog_loop (inn l) hsi (by omega) (inn l).length 0 [] (by omega) rfl
  rw [List.drop_zero] at h1 h2
  have j0f : ∀ k, K1 + 2 ≤ k → show_Parse.j0 k l false = some (pRest l) := fun k hk => by
    unfold pRest
    obtain ⟨k, rfl⟩ : ∃ k', k = k' + 2 := ⟨k - 2, by omega⟩
    rw [show_Parse.j0, if_neg (by simp)]
    by_cases hc : l.length = 1
    · have hne : l ≠ [] := by rintro rfl; simp at hc
      rw [if_pos (by omega), if_pos hc, show_Parse.j1, show (0 : Int) = ((0 : Nat) : Int) from rfl, h1 k (by omega), fin_of hne]
    · rw [if_neg (by omega), if_neg hc]
  have j0t : 3 ≤ l.length → ∀ k, K2 + 2 ≤ k → show_Parse.j0 k l true = some (fin (pAll (inn l))) := fun h3 k hk => by
    obtain ⟨k, rfl⟩ : ∃ k', k = k' + 2 := ⟨k - 2, by omega⟩
    have hne : inn l ≠ [] := by intro e; rw [e] at hil; simp at hil; omega
    have hw : wrap64 ((l.length : Int) - 1) = ((l.length - 1 : Nat) : Int) := by rw [w64 _ (by omega) (by omega)]; omega
    rw [show_Parse.j0, if_pos rfl, hw, if_pos (by omega), if_pos (by omega), Int.toNat_natCast]
    show show_Parse.j1 (k + 1) (inn l) = _
    rw [show_Parse.j1, show (0 : Int) = ((0 : Nat) : Int) from rfl, h2 k (by omega), fin_of hne]
  refine ⟨K1 + K2 + 2, fun k hk => ?_⟩
  unfold show_Parse.f pR
  by_cases h3 : 3 ≤ l.length
  · have hw : wrap64 ((l.length : Int) - 1) = ((l.length - 1 : Nat) : Int) := by rw [w64 _ (by omega) (by omega)]; omega
    have e0 : rd_T38 l 0 = l.getD 0 z38 := rfl
    have e1 : rd_T38 l ((l.length - 1 : Nat) : Int) = l.getD (l.length - 1) z38 := by unfold rd_T38; rw [Int.toNat_natCast]
    rw [if_pos (by omega), if_pos (by omega), e0, hw, e1]
    by_cases c1 : (l.getD 0 z38).f0 = 3
    · rw [if_pos c1, if_pos (by omega), if_pos (by omega)]
      by_cases c2 : (l.getD (l.length - 1) z38).f0 = 4
      · rw [show ((l.getD (l.length - 1) z38).f0 == 4) = true from beq_iff_eq.2 c2, j0t h3 k (by omega), if_pos ⟨h3, c1, c2⟩]
      · rw [show ((l.getD (l.length - 1) z38).f0 == 4) = false from beq_eq_false_iff_ne.2 c2, j0f k (by omega), if_neg (fun e => c2 e.2.2)]
    · rw [if_neg c1, j0f k (by omega), if_neg (fun e => c1 e.2.1)]
  · rw [if_neg (by omega), j0f k (by omega), if_neg (fun e => h3 e.1)]
theorem ref_parse : ∃ K, ∀ k, K ≤ k → letterboxref19_Parse.f k l = some (pR l) := by
  have hsi : ∀ x ∈ inn l, x.f1.size ≤ 100000 := fun x hx => hs x (List.mem_of_mem_take (List.mem_of_mem_drop hx))
  have hil : (inn l).length = l.length - 2 := by unfold inn; rw [List.length_drop, List.length_take]; omega
  obtain ⟨K1, h1⟩ := ref_loop l hs hl l.length 0 [] (by omega) rfl
  obtain ⟨K2, h2⟩ := ref_loop (inn l) hsi (by omega) (inn l).length 0 [] (by omega) rfl
  rw [List.drop_zero] at h1 h2
  have hfin : ∀ L : List S38, (match pAll L with | some q => if ([] : List S28) ++ q = [] then ([], (3 : Int)) else ([] ++ q, 0) | none => ([], 3)) = fin (pAll L) := fun L => by
    unfold fin
    cases pAll L <;> rfl
  have j0f : ∀ k, K1 + 2 ≤ k → letterboxref19_Parse.j0 k l false = some (pRest l) := fun k hk => by
    unfold pRest
    obtain ⟨k, rfl⟩ : ∃ k', k = k' + 2 := ⟨k - 2, by omega⟩
    rw [letterboxref19_Parse.j0, if_neg (by simp)]
    by_cases hc : l.length = 1
    · rw [if_pos (by omega), if_pos hc, letterboxref19_Parse.j1, show (0 : Int) = ((0 : Nat) : Int) from rfl, h1 k (by omega), hfin]
    · rw [if_neg (by omega), if_neg hc]
  have j0t : 2 ≤ l.length → ∀ k, K2 + 2 ≤ k → letterboxref19_Parse.j0 k l true = some (fin (pAll (inn l))) := fun h3 k hk => by
    obtain ⟨k, rfl⟩ : ∃ k', k = k' + 2 := ⟨k - 2, by omega⟩
    have hw : wrap64 ((l.length : Int) - 1) = ((l.length - 1 : Nat) : Int) := by rw [w64 _ (by omega) (by omega)]; omega
    rw [letterboxref19_Parse.j0, if_pos rfl, hw, if_pos (by omega), if_pos (by omega), Int.toNat_natCast]
    show letterboxref19_Parse.j1 (k + 1) (inn l) = _
    rw [letterboxref19_Parse.j1, show (0 : Int) = ((0 : Nat) : Int) from rfl, h2 k (by omega), hfin]
  refine ⟨K1 + K2 + 2, fun k hk => ?_⟩
  unfold letterboxref19_Parse.f pR
  by_cases h2l : 2 ≤ l.length
  · have hw : wrap64 ((l.length : Int) - 1) = ((l.length - 1 : Nat) : Int) := by rw [w64 _ (by omega) (by omega)]; omega
    have e0 : rd_T38 l 0 = l.getD 0 z38 := rfl
    have e1 : rd_T38 l ((l.length - 1 : Nat) : Int) = l.getD (l.length - 1) z38 := by unfold rd_T38; rw [Int.toNat_natCast]
    rw [if_pos (by omega), if_pos (by omega), e0, hw, e1]
    by_cases c1 : (l.getD 0 z38).f0 = 3
    · rw [if_pos c1, if_pos (by omega), if_pos (by omega)]
      by_cases c2 : (l.getD (l.length - 1) z38).f0 = 4
      · rw [show ((l.getD (l.length - 1) z38).f0 == 4) = true from beq_iff_eq.2 c2, j0t h2l k (by omega)]
        by_cases h3 : 3 ≤ l.length
        · rw [if_pos ⟨h3, c1, c2⟩]
        · unfold pRest
          rw [if_neg (fun e => h3 e.1), if_neg (by omega), show inn l = [] from List.eq_nil_of_length_eq_zero (by omega)]
          rfl
      · rw [show ((l.getD (l.length - 1) z38).f0 == 4) = false from beq_eq_false_iff_ne.2 c2, j0f k (by omega), if_neg (fun e => c2 e.2.2)]
    · rw [if_neg c1, j0f k (by omega), if_neg (fun e => c1 e.2.1)]
  · rw [if_neg (by omega), j0f k (by omega), if_neg (fun e => h2l (by omega))]
end
/-! ### Same -/
theorem same_refl (a : List S28) (ha : a.length ≤ 4611686018427387904) (hp : ∀ x ∈ a, x.f1.length ≤ 4611686018427387904) : ∃ K, ∀ k, K ≤ k → letterboxref19_Same.f k a a = some true := by
  have at_ : ∀ i, i < a.length → (rd_T28 a (i : Int)).f1.length ≤ 4611686018427387904 := fun i hi => by
    unfold rd_T28
    rw [Int.toNat_natCast, List.getD_eq_getElem?_getD, List.getElem?_eq_getElem hi]
    exact hp _ (List.getElem_mem _)
  have inner : ∀ (i : Nat), i < a.length → ∀ (m j k : Nat), j + m = (rd_T28 a (i : Int)).f1.length → letterboxref19_Same.l1 (k + m + 1) a a i j = letterboxref19_Same.l0 k a a ((i + 1 : Nat) : Int) := by
    intro i hi m
    induction m with
    | zero =>
      intro j k h
      rw [letterboxref19_Same.l1, if_pos (by omega), if_pos (by omega), if_neg (by omega), w64 _ (by omega) (by omega)]
      rfl
    | succ m ih =>
      intro j k h
      have := at_ i hi
      rw [← Nat.add_assoc, letterboxref19_Same.l1, if_pos (by omega), if_pos (by omega), if_pos (by omega), if_pos (by omega), if_pos (by omega), if_pos (by omega), if_pos rfl, w64 _ (by omega) (by omega), show ((j : Int) + 1) = ((j + 1 : Nat) : Int) from rfl]
      exact ih (j + 1) k (by omega)
  have outer : ∀ (m i : Nat), i + m = a.length → ∃ K, ∀ k, K ≤ k → letterboxref19_Same.l0 k a a i = some true := by
    intro m
    induction m with
    | zero =>
      intro i h
      refine ⟨1, fun k hk => ?_⟩
      obtain ⟨k, rfl⟩ : ∃ k', k = k' + 1 := ⟨k - 1, by omega⟩
      rw [letterboxref19_Same.l0, if_neg (by omega)]
    | succ m ih =>
      intro i h
      obtain ⟨K, hK⟩ := ih (i + 1) (by omega)
      refine ⟨K + (rd_T28 a (i : Int)).f1.length + 3, fun k hk => ?_⟩
      obtain ⟨k, rfl⟩ : ∃ k', k = (k' + (rd_T28 a (i : Int)).f1.length + 1) + 2 := ⟨k - (rd_T28 a (i : Int)).f1.length - 3, by omega⟩
      rw [letterboxref19_Same.l0, if_pos (by omega), if_pos (by omega), if_pos (by omega), if_pos rfl, show ((((rd_T28 a (i : Int)).f1).length : Int) != (((rd_T28 a (i : Int)).f1).length : Int)) = false by simp, letterboxref19_Same.j1, if_neg (by simp), show (0 : Int) = ((0 : Nat) : Int) from rfl, inner i (by omega) _ 0 k (by omega)]
      exact hK k (by omega)
  obtain ⟨K, hK⟩ := outer a.length 0 (by omega)
  exact ⟨K, fun k hk => by unfold letterboxref19_Same.f; rw [if_pos rfl]; exact hK k hk⟩
theorem pathP_len (s : List UInt8) : (pathP s).1.length ≤ s.length + 1 := by
  have := cuts_len 46 s
  unfold pathP pathC
  split
  · simp
  · split
    · rw [List.length_map]; exact this
    · simp
theorem itemP_len (s : List UInt8) : (itemP s).2.1.length ≤ s.length + 1 := by
  have h1 := pathP_len (Lib.trimSuffix (Lib.trimPrefix s bodyP) [93])
  have h2 := trimS_len (Lib.trimPrefix s bodyP) [93]
  have h3 := trimP_len s bodyP
  unfold itemP
  repeat' split
  all_goals first | (show (([] : List Int)).length ≤ _; simp; done) | (show (pathP _).1.length ≤ _; omega)
theorem pAll_len : ∀ (l : List S38) (q : List S28), (∀ x ∈ l, x.f1.size ≤ 100000) → pAll l = some q → ∀ y ∈ q, y.f1.length ≤ 100001
  | [], q, _, h => by obtain rfl := Option.some.inj h; exact fun y hy => absurd hy (by simp)
  | x :: r, q, hs, h => by
    rw [pAll] at h
    split at h
    · cases h
    · rename_i y0 hy0
      obtain ⟨q2, h2, rfl⟩ := Option.map_eq_some_iff.1 h
      intro y hy
      rcases List.mem_cons.1 hy with rfl | hy
      · unfold pI at hy0
        split at hy0
        · obtain rfl := Option.some.inj hy0
          have h4 := itemP_len (lowL x.f1.data.toList)
          have h5 := hs x (List.mem_cons_self ..)
          have h6 : (lowL x.f1.data.toList).length = x.f1.size := by unfold lowL; rw [List.length_map, Lib.size_eq]
          show (itemP (lowL x.f1.data.toList)).2.1.length ≤ _
          omega
        · cases hy0
      · exact pAll_len r q2 (fun z hz => hs z (List.mem_cons_of_mem _ hz)) h2 y hy
theorem fin_len (L : List S38) (hs : ∀ x ∈ L, x.f1.size ≤ 100000) : (fin (pAll L)).1.length ≤ L.length ∧ ∀ y ∈ (fin (pAll L)).1, y.f1.length ≤ 100001 := by
  unfold fin
  cases hp : pAll L with
  | none => exact ⟨Nat.zero_le _, fun y hy => absurd hy (by simp)⟩
  | some q =>
    show ((if q = [] then (([] : List S28), (3 : Int)) else (q, 0)).1.length ≤ _) ∧ _
    by_cases h : q = []
    · rw [if_pos h]; exact ⟨Nat.zero_le _, fun y hy => absurd hy (by simp [h])⟩
    · rw [if_neg h]
      refine ⟨by rw [pAll_length L q hp]; exact Nat.le_refl _, fun y hy => ?_⟩
      have hy2 : y ∈ (if q = [] then (([] : List S28), (3 : Int)) else (q, 0)).1 := hy
      rw [if_neg h] at hy2
      exact pAll_len L q hs hp y hy2
/-! ### The law -/
def sumT : List S38 → Nat
  | [] => 0
  | x :: r => 1 + x.f1.size + sumT r
theorem sumT_mem : ∀ {l : List S38} {x : S38}, x ∈ l → x.f1.size ≤ sumT l
  | b :: r, x, h => by
    rw [sumT]
    rcases List.mem_cons.1 h with rfl | h
    · omega
    · have := sumT_mem h; omega
theorem sumT_len : ∀ l : List S38, l.length ≤ sumT l
  | [] => Nat.le_refl _
  | b :: r => by
    have := sumT_len r
    rw [sumT, List.length_cons]
    omega
theorem law_l0 (l : List S38) (hl : sumT l ≤ 1000000000) (K : Nat) (hK : sumT l ≤ 2000 → ∀ k, K ≤ k → ((show_Parse.f k l).bind fun bt199 => ((letterboxref19_Parse.f k l).bind fun bt203 => ((letterboxref19_Same.f k bt199.1 bt203.1).bind fun t207 => (if t207 = true then (if bt199.2 = bt203.2 then ((letterboxlaw19_known.f k).bind fun t208 => (some t208)) else (some false)) else (some false))))) = some true) :
    ∀ (m i k n : Nat), i + m = l.length → K + m < k → n + sumT (l.drop i) = sumT l → letterboxlaw19_ShowParses.l0 k l n i = some true
  | 0, i, k, n, h, hk, hn => by
    obtain ⟨k, rfl⟩ : ∃ k', k = k' + 1 := ⟨k - 1, by omega⟩
    rw [List.drop_of_length_le (by omega)] at hn
    have hn2 : n = sumT l := hn
    rw [letterboxlaw19_ShowParses.l0, if_neg (by omega)]
    by_cases h2 : sumT l ≤ 2000
    · rw [if_neg (by omega)]; exact hK h2 k (by omega)
    · rw [if_pos (by omega)]
  | m + 1, i, k, n, h, hk, hn => by
    obtain ⟨k, rfl⟩ : ∃ k', k = k' + 1 := ⟨k - 1, by omega⟩
    have hll := sumT_len l
    have hd : l.drop i = rd_T38 l (i : Int) :: l.drop (i + 1) := by
      unfold rd_T38
      rw [Int.toNat_natCast, List.drop_eq_getElem_cons (by omega), List.getD_eq_getElem?_getD, List.getElem?_eq_getElem (by omega)]
      rfl
    rw [hd, sumT] at hn
    rw [letterboxlaw19_ShowParses.l0, if_pos (by omega), if_pos (by omega), w64 ((n : Int) + 1) (by omega) (by omega), w64 _ (by omega) (by omega), w64 ((i : Int) + 1) (by omega) (by omega),
      show ((n : Int) + 1 + ((rd_T38 l (i : Int)).f1.size : Int)) = ((n + 1 + (rd_T38 l (i : Int)).f1.size : Nat) : Int) by omega, show ((i : Int) + 1) = ((i + 1 : Nat) : Int) from rfl]
    exact law_l0 l hl K hK m (i + 1) k _ (by omega) (by omega) (by omega)
theorem ShowParses (l : List S38) (hl : sumT l ≤ 1000000000) : ∃ k, letterboxlaw19_ShowParses.f k l = some true := by
  by_cases h2 : sumT l ≤ 2000
  · have hs : ∀ x ∈ l, x.f1.size ≤ 100000 := fun x hx => by have := sumT_mem hx; omega
    have hn : l.length ≤ 1000000 := by have := sumT_len l; omega
    obtain ⟨K1, h1⟩ := prog_parse l hs hn
    obtain ⟨K2, h3⟩ := ref_parse l hs hn
    have hlen : (pR l).1.length ≤ 4611686018427387904 ∧ ∀ y ∈ (pR l).1, y.f1.length ≤ 4611686018427387904 := by
      have hsi : ∀ x ∈ inn l, x.f1.size ≤ 100000 := fun x hx => hs x (List.mem_of_mem_take (List.mem_of_mem_drop hx))
      have hil : (inn l).length ≤ l.length := by unfold inn; rw [List.length_drop, List.length_take]; omega
      have f1 := fin_len (inn l) hsi
      have f2 := fin_len l hs
      unfold pR pRest
      split
      · exact ⟨by omega, fun y hy => by have := f1.2 y hy; omega⟩
      · split
        · exact ⟨by omega, fun y hy => by have := f2.2 y hy; omega⟩
        · exact ⟨Nat.zero_le _, fun y hy => absurd hy (by simp)⟩
    obtain ⟨K3, h4⟩ := same_refl (pR l).1 hlen.1 hlen.2
    refine ⟨K1 + K2 + K3 + 20 + l.length + 1, law_l0 l hl (K1 + K2 + K3 + 20) (fun _ k hk => ?_) l.length 0 _ 0 (by omega) (by omega) (by rw [List.drop_zero]; omega)⟩
    obtain ⟨k, rfl⟩ : ∃ k', k = 20 + k' := ⟨k - 20, by omega⟩
    rw [h1 _ (by omega), Option.bind_some, h3 _ (by omega), Option.bind_some, h4 _ (by omega), Option.bind_some, if_pos rfl, if_pos rfl, known_true]
    rfl
  · exact ⟨l.length + 1, law_l0 l hl 0 (fun h => absurd h h2) l.length 0 _ 0 (by omega) (by omega) (by rw [List.drop_zero]; omega)⟩
end Go.Proofs.YtalabkaalbllgaaGreatDoor.Pure
