/- MimeParts over texts and lists of numbers alone. -/
import Derived.Test.YtilgmheilepkgaaDoorMimeMk
import Derived.Test.YtilgmheilepkgaaDoorPx105
-- halved
namespace Go.Proofs.YtilgmheilepkgaaDoor.Pure
open Go.RowKit Go.Proofs.YtilgmheilepkgaaDoor Go.Proofs.YtilgmheilepkgaaDoor.P Go.Proofs.YtilgmheilepkgaaDoor.Spec Go.Proofs.YtilgmheilepkgaaDoorW.PrintWords Go.Proofs.YtilgmheilepkgaaDoorW.PrintLast Go.Proofs.YtilgmheilepkgaaDoorW.PrintMore

theorem kclean_l0 (s : ByteArray) (hs : s.size ≤ 140737488351232) : ∀ (k i : Nat), i ≤ s.size → s.size - i < k → (∀ j, j < i → ∀ b, s.data.toList[j]? = some b → Cl b) → ∃ t, letterboxlaw10_clean.l0 k s i = some t ∧ (t = true → (∀ b ∈ s.data.toList, Cl b) ∧ 1 ≤ s.size ∧ s.size ≤ 30)
 | 0, _, _, h, _ => absurd h (by omega)
 | k + 1, i, hi, hk, hc => by
  have hse := Lib.size_eq s
  unfold letterboxlaw10_clean.l0
  by_cases hlt : i < s.size
  ·have hlt2 : i < s.data.toList.length := by omega
   have hx : s.data.toList[i]? = some s.data.toList[i] := List.getElem?_eq_getElem hlt2
   have next : Cl s.data.toList[i] → ∃ t, letterboxlaw10_clean.l0 k s (wrap64 ((i : Int) + 1)) = some t ∧ (t = true → (∀ b ∈ s.data.toList, Cl b) ∧ 1 ≤ s.size ∧ s.size ≤ 30) := by
    intro hb
    rw [show wrap64 ((i : Int) + 1) = ((i + 1 : Nat) : Int) from by unfold wrap64; omega]
    refine kclean_l0 s hs k (i + 1) (by omega) (by omega) fun j hj b hjb => ?_
    by_cases e : j = i
    ·subst e
     rw [hx] at hjb
     rw [← Option.some.inj hjb]
     exact hb
    ·exact hc j (by omega) b hjb
   rw [if_pos (by omega), if_pos (by omega), bt_nat s i _ hx]
   unfold Cl at next
   generalize s.data.toList[i] = x at next
   by_cases e1 : ((x.toNat : Nat) : Int) < 97
   ·rw [if_pos e1]
    by_cases e2 : ((x.toNat : Nat) : Int) < 48
    ·rw [if_pos e2]
     exact ⟨false, rfl, fun h => by cases h⟩
    ·rw [if_neg e2]
     by_cases e3 : ((x.toNat : Nat) : Int) > 57
     ·rw [if_pos e3]
      exact ⟨false, rfl, fun h => by cases h⟩
     ·rw [if_neg e3]
      exact next (by omega)
   ·rw [if_neg e1]
    by_cases e4 : ((x.toNat : Nat) : Int) > 122
    ·rw [if_pos e4, if_neg (by omega), if_pos (by omega)]
     exact ⟨false, rfl, fun h => by cases h⟩
    ·rw [if_neg e4]
     exact next (by omega)
  ·obtain rfl : i = s.size := by omega
   rw [if_neg (by omega)]
   by_cases h1 : (s.size : Int) ≥ 1
   ·rw [if_pos h1]
    refine ⟨_, rfl, fun h => ⟨fun b hb => ?_, by omega, by have := of_decide_eq_true h; omega⟩⟩
    obtain ⟨j, hj, rfl⟩ := List.mem_iff_getElem.1 hb
    exact hc j (by omega) _ (List.getElem?_eq_getElem hj)
   ·rw [if_neg h1]
    exact ⟨false, rfl, fun h => by cases h⟩
theorem kclean_ex (k : Nat) (s : ByteArray) (hs : s.size ≤ 140737488351232) (hk : s.size < k) : ∃ t, letterboxlaw10_clean.f k s = some t ∧ (t = true → (∀ b ∈ s.data.toList, Cl b) ∧ 1 ≤ s.size ∧ s.size ≤ 30) :=
 kclean_l0 s hs k 0 (by omega) (by omega) (fun j hj => absurd hj (by omega))
theorem clone_some (l : List Int) (h : l.length ≤ 100000) : bytes_Clone.f l = some l := by unfold bytes_Clone.f; rw [if_pos (by omega)]
/-- A section by a path of one number. -/
theorem section_one (k : Nat) (M p : List Int) (ps : List S34) (hp : mime_Parts.f k M = some ps) (i s : Nat) (hi : ps[i]? = some ⟨(s : Int), ((s + p.length : Nat) : Int)⟩) (hl : s + p.length ≤ M.length) (hM : M.length ≤ 19000) (hn : ps.length ≤ 16) (he : (M.take (s + p.length)).drop s = p) : mime_Section.f (k + 3) M [((i + 1 : Nat) : Int)] = some (p, true) := by
 have hil : i < ps.length := (List.getElem?_eq_some_iff.1 hi).1
 have hp2 : mime_Parts.f (k + 2) M = some ps := mime_Parts.mono _ _ _ (mime_Parts.mono _ _ _ hp)
 have hpl : p.length ≤ M.length := by omega
 have hw1 : wrap64 (((i + 1 : Nat) : Int) - 1) = (i : Int) := by rw [w64 _ (by omega) (by omega)]; omega
 have hrd : rd_T34 ps (i : Int) = ⟨(s : Int), ((s + p.length : Nat) : Int)⟩ := by rw [rd_T34_nat, List.getD_eq_getElem?_getD, hi]; rfl
 unfold mime_Section.f
 rw [if_neg (by simp)]
 unfold mime_Section.l0
 rw [if_pos (by simp), if_pos (by omega), if_pos (by simp), hp2, Option.bind_some, if_neg (by omega)]
 rw [show rd [((i + 1 : Nat) : Int)] 0 = ((i + 1 : Nat) : Int) from rfl]
 unfold mime_Section.j1
 rw [if_neg Bool.false_ne_true, if_neg (by omega), if_neg (by omega), hw1, if_pos (by omega), if_pos (by omega), hrd]
 simp only
 rw [if_pos (by omega), if_pos (by omega), if_pos (by omega), Int.toNat_natCast, Int.toNat_natCast, he]
 rw [show wrap64 ((0 : Int) + 1) = 1 from w64 _ (by omega) (by omega)]
 unfold mime_Section.l0
 rw [if_neg (by simp), clone_some p (by omega)]
 rfl
theorem section_end (k : Nat) (M : List Int) (hb : Byt M) (ps : List S34) (hp : mime_Parts.f k M = some ps) (hM : M.length ≤ 19000) (hn : ps.length ≤ 16) (hk : 20000 ≤ k) : ∃ x, mime_Section.f (k + 3) M [((ps.length : Nat) : Int) + 1] = some (x, decide (ps.length = 0)) := by
 have hp2 : mime_Parts.f (k + 2) M = some ps := mime_Parts.mono _ _ _ (mime_Parts.mono _ _ _ hp)
 unfold mime_Section.f
 rw [if_neg (by simp)]
 unfold mime_Section.l0
 rw [if_pos (by simp), if_pos (by omega), if_pos (by simp), hp2, Option.bind_some]
 rw [show rd [((ps.length : Nat) : Int) + 1] 0 = ((ps.length : Nat) : Int) + 1 from rfl]
 by_cases h0 : ps.length = 0
 ·rw [if_pos (by omega), if_pos (by omega)]
  unfold mime_Section.j1
  rw [if_pos (show ((0 : Int) == wrap64 (([((ps.length : Nat) : Int) + 1].length : Int) - 1)) = true from by rw [List.length_singleton, w64 _ (by omega) (by omega)]; rfl), UBody_eq _ M hb (by omega) (by omega), Option.bind_some, decide_eq_true h0]
  exact ⟨_, rfl⟩
 ·rw [if_neg (by omega)]
  unfold mime_Section.j1
  rw [if_neg Bool.false_ne_true, if_neg (by omega), if_pos (by omega), decide_eq_false h0]
  exact ⟨_, rfl⟩
theorem parts_l2 (M : List Int) (hbM : Byt M) (hM : M.length ≤ 19000) (parts : List (List Int)) (ps : List S34) (K : Nat) (hK : 160000 ≤ K) (hp : mime_Parts.f K M = some ps) (hpl : ps.length = parts.length) (hn : parts.length ≤ 16) (hat : ∀ (i : Nat) (p : List Int), parts[i]? = some p → ∃ s : Nat, ps[i]? = some (⟨(s : Int), ((s + p.length : Nat) : Int)⟩ : S34) ∧ s + p.length ≤ M.length ∧ (M.take (s + p.length)).drop s = p) : ∀ (d i k : Nat), i + d = parts.length → K + 3 + 2 * d + 1 ≤ k → letterboxlaw10_MimeParts.l2 k parts M ps i = some true
 | 0, i, k, hi, hk => by
  obtain ⟨k, rfl⟩ : ∃ m, k = m + 1 := ⟨k - 1, by omega⟩
  obtain ⟨j, rfl⟩ : ∃ j, k = K + j + 3 := ⟨k - K - 3, by omega⟩
  have hpj : mime_Parts.f (K + j) M = some ps := at_rounds (g := fun k => mime_Parts.f k M) (fun k => mime_Parts.mono _ _) (Nat.le_add_right K j) hp
  obtain ⟨x, hx⟩ := section_end (K + j) M hbM ps hpj hM (by omega) (by omega)
  rw [hpl] at hx
  unfold letterboxlaw10_MimeParts.l2
  rw [if_neg (by omega), w64 _ (by omega) (by omega), hx, Option.bind_some]
  simp only
  have e : (decide (parts.length = 0) == ((parts.length : Int) == 0)) = true := by
   by_cases h0 : parts.length = 0
   ·rw [decide_eq_true h0, h0]; rfl
   ·rw [decide_eq_false h0, beq_eq_false_iff_ne.2 (by omega : ¬ ((parts.length : Int) = 0))]; rfl
  rw [e, if_pos rfl, known_at _ (by omega)]
  rfl
 | d + 1, i, k, hi, hk => by
  obtain ⟨k, rfl⟩ : ∃ m, k = m + 2 := ⟨k - 2, by omega⟩
  obtain ⟨j, rfl⟩ : ∃ j, k = K + j + 3 := ⟨k - K - 3, by omega⟩
  have hpj : mime_Parts.f (K + j) M = some ps := at_rounds (g := fun k => mime_Parts.f k M) (fun k => mime_Parts.mono _ _) (Nat.le_add_right K j) hp
  obtain ⟨p, hpi⟩ : ∃ p, parts[i]? = some p := ⟨_, List.getElem?_eq_getElem (by omega)⟩
  obtain ⟨s, h1, h2, h3⟩ := hat i p hpi
  have hsec := section_one (K + j) M p ps hpj i s h1 h2 hM (by omega) h3
  have hrd : rd_T34 ps (i : Int) = ⟨(s : Int), ((s + p.length : Nat) : Int)⟩ := by rw [rd_T34_nat, List.getD_eq_getElem?_getD, h1]; rfl
  have hrl : rd_L1 parts (i : Int) = p := by rw [rd_L1_nat, List.getD_eq_getElem?_getD, hpi]; rfl
  have hw : wrap64 ((i : Int) + 1) = ((i + 1 : Nat) : Int) := w64 _ (by omega) (by omega)
  unfold letterboxlaw10_MimeParts.l2
  rw [if_pos (by omega), if_pos (by omega), hrd]
  simp only
  rw [if_neg (by omega), if_neg (by omega), if_neg (by omega), if_pos (by omega), if_pos (by omega), if_pos (by omega), if_pos (by omega), Int.toNat_natCast, Int.toNat_natCast, h3, hrl]
  rw [show ((strOfNums p).toList != (strOfNums p).toList) = false from by simp]
  unfold letterboxlaw10_MimeParts.j4
  rw [if_neg Bool.false_ne_true, hw, hsec, Option.bind_some]
  simp only [if_true]
  rw [if_pos (by omega), if_pos (by omega), hrl, if_pos rfl]
  exact parts_l2 M hbM hM parts ps K hK hp hpl hn hat d (i + 1) _ (by omega) (by omega)
theorem mparts_length (bound : ByteArray) : ∀ parts : List (List Int), (mParts bound parts).length = parts.length * (bound.size + 6) + parts.flatten.length
 | [] => by simp [mParts]
 | p :: ps => by
  have ih := mparts_length bound ps
  have hs := Lib.size_eq bound
  unfold mParts at ih ⊢
  have h1 := Nat.succ_mul ps.length (bound.size + 6)
  rw [List.flatMap_cons, List.length_append, ih, List.flatten_cons]
  unfold mMark nInts
  simp only [List.length_map, List.length_append, List.length_cons, List.length_nil]
  simp only [Nat.succ_eq_add_one] at h1
  omega
theorem mmsg_length (bound : ByteArray) (q : Bool) (parts : List (List Int)) (hb : bound.size ≤ 30) (hn : parts.length ≤ 16) : (mMsg bound q parts).length ≤ 800 + parts.flatten.length := by
 have hs := Lib.size_eq bound
 unfold mMsg
 rw [List.length_append, List.length_append, mparts_length]
 have h1 : (mStart bound q).length ≤ 90 := by
  unfold mStart mQ nInts
  cases q <;> simp [mHead, mPre] at * <;> omega
 have h2 : (mLast bound).length ≤ 50 := by
  unfold mLast nInts
  simp [mEnd] at *
  omega
 have h3 : parts.length * (bound.size + 6) ≤ 16 * 36 := Nat.mul_le_mul hn (by omega)
 omega
theorem mmsg_byt (bound : ByteArray) (q : Bool) (parts : List (List Int)) (h : ∀ p ∈ parts, Byt p) : Byt (mMsg bound q parts) := by
 have hbm : ∀ l : List UInt8, Byt (nInts l) := fun l => ints_byt l
 intro x hx
 unfold mMsg at hx
 rcases List.mem_append.1 hx with hx | hx
 ·rcases List.mem_append.1 hx with hx | hx
  ·exact hbm _ x hx
  ·unfold mParts at hx
   obtain ⟨p, hp, hx⟩ := List.mem_flatMap.1 hx
   rcases List.mem_append.1 hx with hx | hx
   ·rcases List.mem_append.1 hx with hx | hx
    ·exact hbm _ x hx
    ·exact h p hp x hx
   ·simp at hx; omega
 ·exact hbm _ x hx
theorem message_some (bound : ByteArray) (q : Bool) (parts : List (List Int)) (hb : bound.size ≤ 30) (hl : (mMsg bound q parts).length ≤ 19000) : letterboxlaw10_message.f bound parts q = some (mMsg bound q parts) := by
 unfold letterboxlaw10_message.f
 unfold mMsg at hl ⊢
 rw [if_pos ⟨by omega, by omega⟩]
theorem parts_fin (bound : ByteArray) (q : Bool) (parts : List (List Int)) (hB : ∀ b ∈ bound.data.toList, Cl b) (h1 : 1 ≤ bound.size) (h2 : bound.size ≤ 30) (hn : parts.length ≤ 16) (hf : parts.flatten.length ≤ 1500) (hby : ∀ p ∈ parts, Byt p) (hno : ∀ p ∈ parts, ¬ (45 : Int) ∈ p) (k : Nat) (hk : 170000 ≤ k) :
  ((letterboxlaw10_message.f bound parts q).bind fun t353 => ((mime_Parts.f k t353).bind fun t356 => (if (t356.length : Int) = (parts.length : Int) then (letterboxlaw10_MimeParts.l2 k parts t353 t356 0) else (some false)))) = some true := by
 have hl := mmsg_length bound q parts h2 hn
 have hbs : mk bound.data.toList = bound := mk_self bound
 have hg : ∀ p ∈ parts, ∀ x ∈ lines (p ++ [13, 10]), Plain bound x := by
  intro p hp x hx
  have hpb : Byt (p ++ [13, 10]) := by
   intro y hy
   rcases List.mem_append.1 hy with hy | hy
   ·exact hby p hp y hy
   ·simp at hy; omega
  rw [← hbs]
  refine plain_no _ x (hpb.line hx) fun h45 => ?_
  rcases List.mem_append.1 (lines_mem_mem hx h45) with h | h
  ·exact hno p hp h
  ·simp at h
 obtain ⟨ps, hp, hpl, hat⟩ := msg_parts 160000 bound q hB h1 h2 parts hg hby hn (by omega) (by omega)
 have hpk : mime_Parts.f k (mMsg bound q parts) = some ps := at_rounds (g := fun k => mime_Parts.f k (mMsg bound q parts)) (fun k => mime_Parts.mono _ _) (by omega : 160000 ≤ k) hp
 rw [message_some bound q parts h2 (by omega), Option.bind_some, hpk, Option.bind_some, if_pos (by omega)]
 exact parts_l2 _ (mmsg_byt bound q parts hby) (by omega) parts ps 160000 (by omega) hp hpl hn hat parts.length 0 k (by omega) (by omega)
theorem parts_l1 (bound : ByteArray) (q : Bool) (parts : List (List Int)) (n : Int) (i : Nat) (p : List Int) (hpi : parts[i]? = some p) (hpl : p.length ≤ 140737488351232) (hil : parts.length ≤ 16) (K : Nat) (H : ¬ (45 : Int) ∈ p → ∀ k, K ≤ k → letterboxlaw10_MimeParts.l0 k bound parts q n ((i + 1 : Nat) : Int) = some true) : ∀ (d c k : Nat), c + d = p.length → (∀ j, j < c → ¬ p.getD j 0 = 45) → K + d + 1 ≤ k → letterboxlaw10_MimeParts.l1 k bound parts q n i c = some true
 | 0, c, k, hc, hj, hk => by
  obtain ⟨k, rfl⟩ : ∃ m, k = m + 1 := ⟨k - 1, by omega⟩
  have hi : i < parts.length := (List.getElem?_eq_some_iff.1 hpi).1
  have hrl : rd_L1 parts (i : Int) = p := by rw [rd_L1_nat, List.getD_eq_getElem?_getD, hpi]; rfl
  unfold letterboxlaw10_MimeParts.l1
  rw [if_pos (by omega), if_pos (by omega), hrl, if_neg (by omega), w64 _ (by omega) (by omega), show ((i : Int) + 1) = ((i + 1 : Nat) : Int) from rfl]
  refine H (fun hm => ?_) k (by omega)
  obtain ⟨j, hjl, he⟩ := List.mem_iff_getElem.1 hm
  refine hj j (by omega) ?_
  rw [List.getD_eq_getElem?_getD, List.getElem?_eq_getElem hjl, he]
  rfl
 | d + 1, c, k, hc, hj, hk => by
  obtain ⟨k, rfl⟩ : ∃ m, k = m + 1 := ⟨k - 1, by omega⟩
  have hi : i < parts.length := (List.getElem?_eq_some_iff.1 hpi).1
  have hrl : rd_L1 parts (i : Int) = p := by rw [rd_L1_nat, List.getD_eq_getElem?_getD, hpi]; rfl
  unfold letterboxlaw10_MimeParts.l1
  rw [if_pos (by omega), if_pos (by omega), hrl, if_pos (by omega), if_pos (by omega), rd_nat]
  by_cases h45 : p.getD c 0 = 45
  ·rw [if_pos h45]
  ·rw [if_neg h45, w64 _ (by omega) (by omega), show ((c : Int) + 1) = ((c + 1 : Nat) : Int) from rfl]
   refine parts_l1 bound q parts n i p hpi hpl hil K H d (c + 1) k (by omega) (fun j hj2 => ?_) (by omega)
   by_cases e : j = c
   ·rw [e]; exact h45
   ·exact hj j (by omega)
theorem parts_l0 (bound : ByteArray) (q : Bool) (parts : List (List Int)) (hB : ∀ b ∈ bound.data.toList, Cl b) (h1 : 1 ≤ bound.size) (h2 : bound.size ≤ 30) (hn : parts.length ≤ 16) (hlen : ∀ p ∈ parts, p.length ≤ 140737488351232) (hby : ∀ p ∈ parts, Byt p) : ∀ (d i k : Nat), i + d = parts.length → (∀ p ∈ parts.take i, ¬ (45 : Int) ∈ p) → 170000 + d + (parts.drop i).flatten.length + d + 1 ≤ k → letterboxlaw10_MimeParts.l0 k bound parts q ((i + (parts.take i).flatten.length : Nat) : Int) i = some true
 | 0, i, k, hi, hno, hk => by
  obtain ⟨k, rfl⟩ : ∃ m, k = m + 1 := ⟨k - 1, by omega⟩
  obtain rfl : i = parts.length := by omega
  rw [List.take_length] at hno ⊢
  unfold letterboxlaw10_MimeParts.l0
  rw [if_neg (by omega)]
  by_cases hbig : ((parts.length + parts.flatten.length : Nat) : Int) > 1500
  ·rw [if_pos hbig]
  ·rw [if_neg hbig]
   exact parts_fin bound q parts hB h1 h2 hn (by omega) hby hno k (by omega)
 | d + 1, i, k, hi, hno, hk => by
  obtain ⟨k, rfl⟩ : ∃ m, k = m + 1 := ⟨k - 1, by omega⟩
  have hil : i < parts.length := by omega
  have hpi : parts[i]? = some parts[i] := List.getElem?_eq_getElem hil
  have hrl : rd_L1 parts (i : Int) = parts[i] := by rw [rd_L1_nat, List.getD_eq_getElem?_getD, hpi]; rfl
  have hpl := hlen _ (List.getElem_mem hil)
  have hfl : (parts.take i).flatten.length ≤ 2251799813619712 := by
   have : ∀ (l : List (List Int)), (∀ p ∈ l, p.length ≤ 140737488351232) → l.flatten.length ≤ l.length * 140737488351232 := by
    intro l
    induction l with
    | nil => intro _; simp
    | cons a l ih =>
     intro h
     have h3 := ih (fun p hp => h p (List.mem_cons_of_mem _ hp))
     have h4 := h a List.mem_cons_self
     rw [List.flatten_cons, List.length_append, List.length_cons, Nat.add_mul]
     omega
   have h3 := this (parts.take i) (fun p hp => hlen p (List.mem_of_mem_take hp))
   have h4 : (parts.take i).length ≤ 16 := by rw [List.length_take]; omega
   omega
  have htk : (parts.take (i + 1)).flatten.length = (parts.take i).flatten.length + parts[i].length := by
   rw [List.take_succ_eq_append_getElem hil, List.flatten_append, List.length_append]
   simp
  have hdr : (parts.drop i).flatten.length = parts[i].length + (parts.drop (i + 1)).flatten.length := by
   rw [List.drop_eq_getElem_cons hil, List.flatten_cons, List.length_append]
  unfold letterboxlaw10_MimeParts.l0
  rw [if_pos (by omega), if_pos (by omega), hrl, w64 (((i + (parts.take i).flatten.length : Nat) : Int) + 1) (by omega) (by omega), w64 _ (by omega) (by omega)]
  rw [show (((i + (parts.take i).flatten.length : Nat) : Int) + 1 + (parts[i].length : Int)) = ((i + 1 + (parts.take (i + 1)).flatten.length : Nat) : Int) by rw [htk]; omega]
  refine parts_l1 bound q parts _ i parts[i] hpi hpl hn (170000 + d + (parts.drop (i + 1)).flatten.length + d + 1) (fun hm k' hk' => ?_) parts[i].length 0 k (by omega) (fun j hj => absurd hj (by omega)) (by omega)
  refine parts_l0 bound q parts hB h1 h2 hn hlen hby d (i + 1) k' (by omega) (fun p hp => ?_) hk'
  rw [List.take_succ_eq_append_getElem hil] at hp
  rcases List.mem_append.1 hp with hp | hp
  ·exact hno p hp
  ·rw [List.mem_singleton.1 hp]; exact hm
theorem MimeParts (bound : ByteArray) (parts : List (List Int)) (q : Bool) (hb : bound.size ≤ 140737488351232) (_ : parts.length ≤ 140737488351232) (hw : ∀ r ∈ parts, r.length ≤ 140737488351232 ∧ ∀ n ∈ r, (Lit.int .u8 n).wf = true) : ∃ k, letterboxlaw10_MimeParts.f k bound parts q = some true := by
 refine ⟨bound.size + 170000 + 2 * parts.length + parts.flatten.length + 10, ?_⟩
 obtain ⟨t, ht, hc⟩ := kclean_ex (bound.size + 170000 + 2 * parts.length + parts.flatten.length + 10) bound hb (by omega)
 unfold letterboxlaw10_MimeParts.f
 rw [ht, Option.bind_some]
 have j0t : letterboxlaw10_MimeParts.j0 (bound.size + 170000 + 2 * parts.length + parts.flatten.length + 10) bound parts q true = some true := by rw [letterboxlaw10_MimeParts.j0, if_pos rfl]
 by_cases h : t = true
 ·rw [if_pos h]
  by_cases hn : (parts.length : Int) > 16
  ·rw [decide_eq_true hn]
   exact j0t
  ·rw [decide_eq_false hn, letterboxlaw10_MimeParts.j0, if_neg Bool.false_ne_true]
   obtain ⟨hB, h1, h2⟩ := hc h
   have := parts_l0 bound q parts hB h1 h2 (by omega) (fun p hp => (hw p hp).1) (fun p hp => Byt.of (hw p hp).2) parts.length 0 (bound.size + 170000 + 2 * parts.length + parts.flatten.length + 9) (by omega) (by simp) (by rw [List.drop_zero]; omega)
   simpa using this
 ·rw [if_neg h]
  exact j0t
end Go.Proofs.YtilgmheilepkgaaDoor.Pure
