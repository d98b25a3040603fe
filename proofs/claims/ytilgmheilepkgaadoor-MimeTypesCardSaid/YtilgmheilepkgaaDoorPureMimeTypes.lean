/- MimeTypes over texts and lists alone. -/
import Derived.Test.YtilgmheilepkgaaDoorMimeMsg
import Derived.Test.YtilgmheilepkgaaDoorMimeParts
import Derived.Test.YtilgmheilepkgaaDoorPx106
namespace Go.Proofs.YtilgmheilepkgaaDoor.Pure
open Go.RowKit Go.Proofs.YtilgmheilepkgaaDoor Go.Proofs.YtilgmheilepkgaaDoor.P Go.Proofs.YtilgmheilepkgaaDoor.Spec Go.Proofs.YtilgmheilepkgaaDoorW.PrintWords Go.Proofs.YtilgmheilepkgaaDoorW.PrintLast Go.Proofs.YtilgmheilepkgaaDoorW.PrintMore

theorem data_app (a b : ByteArray) : (a ++ b).data.toList = a.data.toList ++ b.data.toList := by rw [ByteArray.data_append, Array.toList_append]
def Cb (b : UInt8) : Prop := (97 ≤ b.toNat ∧ b.toNat ≤ 122) ∨ (48 ≤ b.toNat ∧ b.toNat ≤ 57)
theorem cb_no {b c : UInt8} (h : Cb b) (hc : ¬ Cb c) : b ≠ c := fun e => hc (e ▸ h)
theorem cb_blk {b : UInt8} (h : Cb b) : blk b = false := by
  unfold blk
  rw [beq_eq_false_iff_ne.2 (cb_no h (by unfold Cb; decide)), beq_eq_false_iff_ne.2 (cb_no h (by unfold Cb; decide))]
  rfl
theorem cb_low {b : UInt8} (h : Cb b) : ¬ (65 ≤ b.toNat ∧ b.toNat ≤ 90) := by
  unfold Cb at h
  omega
theorem clean_l0 (s : ByteArray) (hs : s.size ≤ 140737488351232) : ∀ (k i : Nat), i ≤ s.size → s.size - i < k → (∀ j, j < i → ∀ b, s.data.toList[j]? = some b → Cb b) → ∃ t, letterboxlaw10_clean.l0 k s i = some t ∧ (t = true → (∀ b ∈ s.data.toList, Cb b) ∧ 1 ≤ s.size ∧ s.size ≤ 30)
  | 0, _, _, h, _ => absurd h (by omega)
  | k + 1, i, hi, hk, hc => by
    have hse := Lib.size_eq s
    unfold letterboxlaw10_clean.l0
    by_cases hlt : i < s.size
    · have hlt2 : i < s.data.toList.length := by omega
      have hx : s.data.toList[i]? = some s.data.toList[i] := List.getElem?_eq_getElem hlt2
      have next : Cb s.data.toList[i] → ∃ t, letterboxlaw10_clean.l0 k s (wrap64 ((i : Int) + 1)) = some t ∧ (t = true → (∀ b ∈ s.data.toList, Cb b) ∧ 1 ≤ s.size ∧ s.size ≤ 30) := by
        intro hb
        rw [show wrap64 ((i : Int) + 1) = ((i + 1 : Nat) : Int) from by unfold wrap64; omega]
        refine clean_l0 s hs k (i + 1) (by omega) (by omega) fun j hj b hjb => ?_
        by_cases e : j = i
        · subst e
          rw [hx] at hjb
          rw [← Option.some.inj hjb]
          exact hb
        · exact hc j (by omega) b hjb
      rw [if_pos (by omega), if_pos (by omega), bt_nat s i _ hx]
      unfold Cb at next
      generalize s.data.toList[i] = x at next
      by_cases e1 : ((x.toNat : Nat) : Int) < 97
      · rw [if_pos e1]
        by_cases e2 : ((x.toNat : Nat) : Int) < 48
        · rw [if_pos e2]
          exact ⟨false, rfl, fun h => by cases h⟩
        · rw [if_neg e2]
          by_cases e3 : ((x.toNat : Nat) : Int) > 57
          · rw [if_pos e3]
            exact ⟨false, rfl, fun h => by cases h⟩
          · rw [if_neg e3]
            exact next (by omega)
      · rw [if_neg e1]
        by_cases e4 : ((x.toNat : Nat) : Int) > 122
        · rw [if_pos e4, if_neg (by omega), if_pos (by omega)]
          exact ⟨false, rfl, fun h => by cases h⟩
        · rw [if_neg e4]
          exact next (by omega)
    · obtain rfl : i = s.size := by omega
      rw [if_neg (by omega)]
      by_cases h1 : (s.size : Int) ≥ 1
      · rw [if_pos h1]
        refine ⟨_, rfl, fun h => ⟨fun b hb => ?_, by omega, by have := of_decide_eq_true h; omega⟩⟩
        obtain ⟨j, hj, rfl⟩ := List.mem_iff_getElem.1 hb
        exact hc j (by omega) _ (List.getElem?_eq_getElem hj)
      · rw [if_neg h1]
        exact ⟨false, rfl, fun h => by cases h⟩
theorem clean_ex (k : Nat) (s : ByteArray) (hs : s.size ≤ 140737488351232) (hk : s.size < k) : ∃ t, letterboxlaw10_clean.f k s = some t ∧ (t = true → (∀ b ∈ s.data.toList, Cb b) ∧ 1 ≤ s.size ∧ s.size ≤ 30) :=
  clean_l0 s hs k 0 (by omega) (by omega) (fun j hj => absurd hj (by omega))
def nmBig : List UInt8 := [67, 79, 78, 84, 69, 78, 84, 45, 84, 89, 80, 69]
def nmMix : List UInt8 := [67, 111, 110, 116, 101, 110, 116, 45, 84, 121, 112, 101]
theorem nm_big : Nm nmBig := ⟨by decide, by decide⟩
theorem nm_mix : Nm nmMix := ⟨by decide, by decide⟩
theorem same_big : same (mk nmBig) ctype = true := by decide +kernel
theorem same_mix : same (mk nmMix) ctype = true := by decide +kernel
theorem empty_list : (⟨#[]⟩ : ByteArray).toList = [] := by rw [Lib.toList_data]
section
variable {X Y Z : List UInt8}
theorem first_type (k : Nat) (hX : ∀ b ∈ X, Cb b) (hY : ∀ b ∈ Y, Cb b) (hZ : ∀ b ∈ Z, 97 ≤ b.toNat ∧ b.toNat ≤ 122) (x1 : 1 ≤ X.length) (x2 : X.length ≤ 30) (y1 : 1 ≤ Y.length) (y2 : Y.length ≤ 30) (z2 : Z.length ≤ 100) (hk : 3000 ≤ k) :
    mime_Type.f k (one nmBig (32 :: 32 :: (X ++ 47 :: (Y ++ 32 :: 59 :: 32 :: Z))) []) = some (mk X, mk Y, ⟨#[]⟩) := by
  have zc : ∀ b ∈ Z, Cb b := fun b hb => .inl (hZ b hb)
  have no : ∀ c : UInt8, ¬ Cb c → (¬ c ∈ X ∧ ¬ c ∈ Y ∧ ¬ c ∈ Z) := fun c hc => ⟨fun h => hc (hX c h), fun h => hc (hY c h), fun h => hc (zc c h)⟩
  have n10 := no 10 (by unfold Cb; decide)
  have n47 := no 47 (by unfold Cb; decide)
  have n59 := no 59 (by unfold Cb; decide)
  have n61 := no 61 (by unfold Cb; decide)
  have hten : ¬ (10 : UInt8) ∈ (32 :: 32 :: (X ++ 47 :: (Y ++ 32 :: 59 :: 32 :: Z)) : List UInt8) := by simp [n10]
  have hlen : (one nmBig (32 :: 32 :: (X ++ 47 :: (Y ++ 32 :: 59 :: 32 :: Z))) []).length ≤ 250 := by
    rw [one_length]
    simp only [List.length_append, List.length_cons, List.length_nil, nmBig]
    omega
  obtain ⟨b, r, rfl⟩ : ∃ b r, X = b :: r := by
    cases X with
    | nil => simp at x1
    | cons b r => exact ⟨b, r, rfl⟩
  have hb0 := cb_blk (hX b List.mem_cons_self)
  have hv : (trimB (mk (32 :: 32 :: ((b :: r) ++ 47 :: (Y ++ 32 :: 59 :: 32 :: Z))))).data.toList = ((b :: r) ++ 47 :: (Y ++ [32])) ++ 59 :: stripR (32 :: Z) := by
    rw [trimB_list, mk_list, List.dropWhile_cons, if_pos (by decide), List.dropWhile_cons, if_pos (by decide), List.cons_append, List.dropWhile_cons, if_neg (by rw [hb0]; exact Bool.false_ne_true), ← List.cons_append,
      show (b :: r) ++ 47 :: (Y ++ 32 :: 59 :: 32 :: Z) = ((b :: r) ++ 47 :: (Y ++ [32])) ++ 59 :: (32 :: Z) by simp, stripR_in _ _ _ (by decide)]
  have hR : ∀ c ∈ stripR (32 :: Z), c = 32 ∨ c ∈ Z := fun c hc => List.mem_cons.1 (stripR_mem hc)
  have r59 : ¬ (59 : UInt8) ∈ stripR (32 :: Z) := fun h => (hR _ h).elim (by decide) n59.2.2
  have r61 : ¬ (61 : UInt8) ∈ stripR (32 :: Z) := fun h => (hR _ h).elim (by decide) n61.2.2
  have hcuts : cuts 59 (trimB (mk (32 :: 32 :: ((b :: r) ++ 47 :: (Y ++ 32 :: 59 :: 32 :: Z))))).data.toList = ((b :: r) ++ 47 :: (Y ++ [32])) :: [stripR (32 :: Z)] := by
    rw [hv, cuts_in, cuts_out _ _ r59]
    have := n59.1
    have := n59.2.1
    simp_all
  have hbd : mime_bounded.f k ([stripR (32 :: Z)].map mk) = some ⟨#[]⟩ :=
    bounded_none [mk (stripR (32 :: Z))] (fun s hs => by rw [List.mem_singleton.1 hs, mk_list]; exact r61) (by simp) k 0 (by simp) (by simp; omega)
  have hXY : ∀ c ∈ (b :: r) ++ 47 :: Y, blk c = false ∧ ¬ (65 ≤ c.toNat ∧ c.toNat ≤ 90) := by
    intro c hc
    rcases List.mem_append.1 hc with hc | hc
    · exact ⟨cb_blk (hX c hc), cb_low (hX c hc)⟩
    · rcases List.mem_cons.1 hc with rfl | hc
      · decide
      · exact ⟨cb_blk (hY c hc), cb_low (hY c hc)⟩
  have htr : trimB (mk ((b :: r) ++ 47 :: (Y ++ [32]))) = mk ((b :: r) ++ 47 :: Y) := ext_list (by
    rw [trimB_list, mk_list, mk_list, List.cons_append, List.dropWhile_cons, if_neg (by rw [hb0]; exact Bool.false_ne_true), ← List.cons_append, show (b :: r) ++ 47 :: (Y ++ [32]) = ((b :: r) ++ 47 :: Y) ++ [32] by simp, stripR_blank _ fun c hc => (hXY c hc).1])
  have := Type_val k _ (one_byt (nm := nmBig) (vl := 32 :: 32 :: ((b :: r) ++ 47 :: (Y ++ 32 :: 59 :: 32 :: Z))) (rest := []) (fun x hx => by cases hx)) (by omega) (by omega) _ (one_get nm_big hten same_big) _ _ hcuts _ hbd (mk (b :: r)) (mk Y) true (by
    rw [htr, lowB_self _ fun c hc => (hXY c hc).2]
    exact cut_in 47 (b :: r) Y n47.1 (by omega))
  rw [this, if_neg (by rw [Lib.toList_data, mk_list]; simp), if_neg (by rw [Lib.toList_data, mk_list]; intro h; rw [h] at y1; simp at y1)]
theorem second_type (k : Nat) (hX : ∀ b ∈ X, Cb b) (x1 : 1 ≤ X.length) (x2 : X.length ≤ 30) (hk : 3000 ≤ k) :
    mime_Type.f k (one nmMix (32 :: X) []) = some ((⟨#[116, 101, 120, 116]⟩ : ByteArray), (⟨#[112, 108, 97, 105, 110]⟩ : ByteArray), ⟨#[]⟩) := by
  have no : ∀ c : UInt8, ¬ Cb c → ¬ c ∈ X := fun c hc h => hc (hX c h)
  have n10 := no 10 (by unfold Cb; decide)
  have n47 := no 47 (by unfold Cb; decide)
  have n59 := no 59 (by unfold Cb; decide)
  have hten : ¬ (10 : UInt8) ∈ (32 :: X : List UInt8) := by simp [n10]
  have hlen : (one nmMix (32 :: X) []).length ≤ 250 := by
    rw [one_length]
    simp only [List.length_append, List.length_cons, List.length_nil, nmMix]
    omega
  have hXb : ∀ c ∈ X, blk c = false := fun c hc => cb_blk (hX c hc)
  have hv : trimB (mk (32 :: X)) = mk X := ext_list (by
    rw [trimB_list, mk_list, mk_list, List.dropWhile_cons, if_pos (by decide), dw_self _ hXb, stripR_self _ hXb])
  have hcuts : cuts 59 (mk X).data.toList = X :: [] := by rw [mk_list, cuts_out _ _ n59]
  have hbd : mime_bounded.f k (([] : List (List UInt8)).map mk) = some ⟨#[]⟩ :=
    bounded_none [] (fun s hs => by cases hs) (by simp) k 0 (by simp) (by simp; omega)
  have := Type_val k _ (one_byt (nm := nmMix) (vl := 32 :: X) (rest := []) (fun x hx => by cases hx)) (by omega) (by omega) (mk X) ((one_get nm_mix hten same_mix).trans hv) _ _ hcuts _ hbd (mk X) ⟨#[]⟩ false (by
    rw [trim_self X hXb, lowB_self _ fun c hc => cb_low (hX c hc)]
    exact cut_out 47 X n47)
  rw [this, if_neg (by rw [Lib.toList_data, mk_list]; intro h; rw [h] at x1; simp at x1), if_pos empty_list]
end
theorem MimeTypes_end (a b c : ByteArray) (ha : ∀ x ∈ a.data.toList, Cb x) (hb : ∀ x ∈ b.data.toList, Cb x) (hc : ∀ x ∈ c.data.toList, 97 ≤ x.toNat ∧ x.toNat ≤ 122) (a1 : 1 ≤ a.size) (a2 : a.size ≤ 30) (b1 : 1 ≤ b.size) (b2 : b.size ≤ 30) (c2 : c.size ≤ 100) (k : Nat) (hk : 3000 ≤ k) :
    letterboxlaw10_MimeTypes.l0 (k + 1) a b c (c.size : Int) = some true := by
  have hsa := Lib.size_eq a
  have hsb := Lib.size_eq b
  have hsc := Lib.size_eq c
  rw [letterboxlaw10_MimeTypes.l0, if_neg (by omega), if_pos (by omega), if_pos (by omega), if_pos (by omega), if_pos (by omega), if_pos (by omega), if_pos (by omega)]
  have e1 : bytesOf (((((((⟨#[67, 79, 78, 84, 69, 78, 84, 45, 84, 89, 80, 69, 58, 32, 32]⟩ : ByteArray) ++ a) ++ (⟨#[47]⟩ : ByteArray)) ++ b) ++ (⟨#[32, 59, 32]⟩ : ByteArray)) ++ c) ++ (⟨#[13, 10, 13, 10]⟩ : ByteArray)) = one nmBig (32 :: 32 :: (a.data.toList ++ 47 :: (b.data.toList ++ 32 :: 59 :: 32 :: c.data.toList))) [] := by
    rw [bytes_ints]
    simp only [data_app]
    unfold one nmBig ints
    simp
  have e2 : bytesOf (((⟨#[67, 111, 110, 116, 101, 110, 116, 45, 84, 121, 112, 101, 58, 32]⟩ : ByteArray) ++ a) ++ (⟨#[13, 10, 13, 10]⟩ : ByteArray)) = one nmMix (32 :: a.data.toList) [] := by
    rw [bytes_ints]
    simp only [data_app]
    unfold one nmMix ints
    simp
  have s1 : (((((((⟨#[67, 79, 78, 84, 69, 78, 84, 45, 84, 89, 80, 69, 58, 32, 32]⟩ : ByteArray) ++ a) ++ (⟨#[47]⟩ : ByteArray)) ++ b) ++ (⟨#[32, 59, 32]⟩ : ByteArray)) ++ c) ++ (⟨#[13, 10, 13, 10]⟩ : ByteArray)).size ≤ 9223372036854775807 := by
    have := congrArg List.length e1
    rw [bytesOf_length, one_length] at this
    simp only [List.length_append, List.length_cons, List.length_nil, nmBig] at this
    omega
  have s2 : (((⟨#[67, 111, 110, 116, 101, 110, 116, 45, 84, 121, 112, 101, 58, 32]⟩ : ByteArray) ++ a) ++ (⟨#[13, 10, 13, 10]⟩ : ByteArray)).size ≤ 9223372036854775807 := by
    have := congrArg List.length e2
    rw [bytesOf_length, one_length] at this
    simp only [List.length_append, List.length_cons, List.length_nil, nmMix] at this
    omega
  unfold conv_9_22.f
  rw [if_pos s1, e1, Option.bind_some, first_type k ha hb hc (by omega) (by omega) (by omega) (by omega) (by omega) hk, Option.bind_some, if_pos (by omega), if_pos (by omega), if_pos s2, e2, Option.bind_some, second_type k ha (by omega) (by omega) hk, Option.bind_some, mk_self, mk_self]
  dsimp only
  rw [if_pos rfl, if_pos rfl, if_pos empty_list, if_pos (by rw [Lib.toList_data]), if_pos (by rw [Lib.toList_data]), if_pos empty_list, known_at k (by omega)]
  rfl
theorem MimeTypes_l0 (a b c : ByteArray) (ha : ∀ x ∈ a.data.toList, Cb x) (hb : ∀ x ∈ b.data.toList, Cb x) (a1 : 1 ≤ a.size) (a2 : a.size ≤ 30) (b1 : 1 ≤ b.size) (b2 : b.size ≤ 30) (c2 : c.size ≤ 100) : ∀ (m i k : Nat), i + m = c.size → (∀ j, j < i → ∀ x, c.data.toList[j]? = some x → 97 ≤ x.toNat ∧ x.toNat ≤ 122) → m + 3001 ≤ k → letterboxlaw10_MimeTypes.l0 k a b c i = some true
  | 0, i, k, hi, hv, hk => by
    obtain ⟨k, rfl⟩ : ∃ m, k = m + 1 := ⟨k - 1, by omega⟩
    obtain rfl : i = c.size := by omega
    refine MimeTypes_end a b c ha hb ?_ a1 a2 b1 b2 c2 k (by omega)
    intro x hx
    obtain ⟨j, hj, rfl⟩ := List.mem_iff_getElem.1 hx
    exact hv j (by rw [Lib.size_eq]; exact hj) _ (List.getElem?_eq_getElem hj)
  | m + 1, i, k, hi, hv, hk => by
    obtain ⟨k, rfl⟩ : ∃ m, k = m + 1 := ⟨k - 1, by omega⟩
    have hlt : i < c.data.toList.length := by rw [← Lib.size_eq]; omega
    have hx : c.data.toList[i]? = some c.data.toList[i] := List.getElem?_eq_getElem hlt
    rw [letterboxlaw10_MimeTypes.l0, if_pos (by omega), if_pos (by omega), bt_nat c i _ hx]
    by_cases e1 : ((c.data.toList[i].toNat : Nat) : Int) < 97
    · rw [if_pos e1]
    rw [if_neg e1]
    by_cases e2 : ((c.data.toList[i].toNat : Nat) : Int) > 122
    · rw [if_pos e2]
    rw [if_neg e2, w64 _ (by omega) (by omega), show ((i : Int) + 1) = ((i + 1 : Nat) : Int) from rfl]
    refine MimeTypes_l0 a b c ha hb a1 a2 b1 b2 c2 m (i + 1) k (by omega) (fun j hj x hjx => ?_) (by omega)
    by_cases e : j = i
    · subst e
      rw [hx] at hjx
      rw [← Option.some.inj hjx]
      omega
    · exact hv j (by omega) x hjx
theorem MimeTypes (a b c : ByteArray) (ha : a.size ≤ 140737488351232) (hb : b.size ≤ 140737488351232) (_ : c.size ≤ 140737488351232) : ∃ k, letterboxlaw10_MimeTypes.f k a b c = some true := by
  refine ⟨10000 + a.size + b.size, ?_⟩
  have j0t : letterboxlaw10_MimeTypes.j0 (10000 + a.size + b.size) a b c true = some true := by
    rw [show 10000 + a.size + b.size = (9999 + a.size + b.size) + 1 by omega, letterboxlaw10_MimeTypes.j0, if_pos rfl]
  obtain ⟨t, h1, h2⟩ := clean_ex (10000 + a.size + b.size) a ha (by omega)
  obtain ⟨u, h3, h4⟩ := clean_ex (10000 + a.size + b.size) b hb (by omega)
  unfold letterboxlaw10_MimeTypes.f
  rw [h1, Option.bind_some]
  by_cases e1 : t = true
  · obtain ⟨pa, pa1, pa2⟩ := h2 e1
    rw [if_pos e1, h3, Option.bind_some]
    by_cases e2 : u = true
    · obtain ⟨pb, pb1, pb2⟩ := h4 e2
      rw [if_pos e2]
      by_cases e3 : (c.size : Int) > 100
      · rw [decide_eq_true e3, j0t]
      · rw [decide_eq_false e3, show 10000 + a.size + b.size = (9999 + a.size + b.size) + 1 by omega, letterboxlaw10_MimeTypes.j0, if_neg Bool.false_ne_true]
        exact MimeTypes_l0 a b c pa pb pa1 pa2 pb1 pb2 (by omega) c.size 0 _ (by omega) (fun j hj => absurd hj (by omega)) (by omega)
    · rw [if_neg e2, j0t]
  · rw [if_neg e1, j0t]
end Go.Proofs.YtilgmheilepkgaaDoor.Pure
