/- MimeDeep over lists of numbers alone. -/
import Derived.Test.YtilgmheilepkgaaDoorMimeMk
import Derived.Test.YtilgmheilepkgaaDoorPx103
namespace Go.Proofs.YtilgmheilepkgaaDoor.Pure
open Go.RowKit Go.Proofs.YtilgmheilepkgaaDoor Go.Proofs.YtilgmheilepkgaaDoor.P Go.Proofs.YtilgmheilepkgaaDoor.Spec Go.Proofs.YtilgmheilepkgaaDoorW.PrintWords Go.Proofs.YtilgmheilepkgaaDoorW.PrintLast Go.Proofs.YtilgmheilepkgaaDoorW.PrintMore
set_option linter.unusedVariables false

theorem dclone (l : List Int) (h : l.length ≤ 100000) : bytes_Clone.f l = some l := by unfold bytes_Clone.f; rw [if_pos (by omega)]
theorem dmparts_length (bound : ByteArray) : ∀ parts : List (List Int), (mParts bound parts).length = parts.length * (bound.size + 6) + parts.flatten.length
  | [] => by simp [mParts]
  | p :: ps => by
    have ih := dmparts_length bound ps
    have hs := Lib.size_eq bound
    unfold mParts at ih ⊢
    have h1 := Nat.succ_mul ps.length (bound.size + 6)
    rw [List.flatMap_cons, List.length_append, ih, List.flatten_cons]
    unfold mMark nInts
    simp only [List.length_map, List.length_append, List.length_cons, List.length_nil]
    simp only [Nat.succ_eq_add_one] at h1
    omega
theorem dmsg_length (bound : ByteArray) (q : Bool) (parts : List (List Int)) (hb : bound.size ≤ 30) (hn : parts.length ≤ 16) : (mMsg bound q parts).length ≤ 800 + parts.flatten.length := by
  have hs := Lib.size_eq bound
  unfold mMsg
  rw [List.length_append, List.length_append, dmparts_length]
  have h1 : (mStart bound q).length ≤ 90 := by
    unfold mStart mQ nInts
    cases q <;> simp [mHead, mPre] at * <;> omega
  have h2 : (mLast bound).length ≤ 50 := by
    unfold mLast nInts
    simp [mEnd] at *
    omega
  have h3 : parts.length * (bound.size + 6) ≤ 16 * 36 := Nat.mul_le_mul hn (by omega)
  omega
theorem dmsg_byt (bound : ByteArray) (q : Bool) (parts : List (List Int)) (h : ∀ p ∈ parts, Byt p) : Byt (mMsg bound q parts) := by
  have hbm : ∀ l : List UInt8, Byt (nInts l) := fun l => ints_byt l
  intro x hx
  unfold mMsg at hx
  rcases List.mem_append.1 hx with hx | hx
  · rcases List.mem_append.1 hx with hx | hx
    · exact hbm _ x hx
    · unfold mParts at hx
      obtain ⟨p, hp, hx⟩ := List.mem_flatMap.1 hx
      rcases List.mem_append.1 hx with hx | hx
      · rcases List.mem_append.1 hx with hx | hx
        · exact hbm _ x hx
        · exact h p hp x hx
      · simp at hx; omega
  · exact hbm _ x hx
def dB (i : Nat) : ByteArray := mk [UInt8.ofNat (97 + i)]
def dT (t : List Int) : Nat → List Int
  | 0 => [13, 10] ++ t
  | i + 1 => mMsg (dB i) (Int.tmod (i : Int) 2 == 0) [[13, 10, 120], dT t i]
theorem dB_list (i : Nat) : (dB i).data.toList = [UInt8.ofNat (97 + i)] := rfl
theorem dB_size (i : Nat) : (dB i).size = 1 := rfl
theorem dB_cl (i : Nat) (hi : i < 6) : ∀ b ∈ (dB i).data.toList, Cl b := by
  intro b hb
  rw [dB_list] at hb
  rw [List.mem_singleton.1 hb]
  have : (UInt8.ofNat (97 + i)).toNat = 97 + i := by rw [UInt8.toNat_ofNat']; omega
  unfold Cl
  omega
theorem dB_str (i : Nat) (hi : i < 6) : strOfNums [(wrap64 (97 + (i : Int))) % 256] = dB i := by
  rw [w64 _ (by omega) (by omega)]
  refine ext_list ?_
  rw [strOfNums_data, dB_list, List.map_cons, List.map_nil]
  congr 2
  omega
theorem plain_start (o : ByteArray) (x : List Int) (hx : Byt x) (h : ¬ (txt x).head? = some 45) : Plain o x := by
  have key : ∀ r : List UInt8, ¬ (strOfNums (txt x)).toList = 45 :: r := by
    intro r he
    rw [str_toList] at he
    cases ht : txt x with
    | nil => rw [ht] at he; simp at he
    | cons c m =>
      rw [ht, List.map_cons] at he
      injection he with h1 _
      have hc := hx c (txt_mem (by rw [ht]; exact List.mem_cons_self))
      have : c = 45 := (u8_eq hc (by omega)).1 (by rw [h1]; rfl)
      rw [ht, this] at h
      exact h rfl
  constructor
  · intro he
    refine key ([45] ++ o.data.toList) ?_
    rw [he, Lib.toList_data, ByteArray.data_append, Array.toList_append]
    rfl
  · intro he
    refine key ([45] ++ o.data.toList ++ [45, 45]) ?_
    rw [he, Lib.toList_data, ByteArray.data_append, Array.toList_append, ByteArray.data_append, Array.toList_append]
    rfl
theorem plain_mark (i j : Nat) (hi : i < j) (hj : j < 6) : Plain (dB j) (nInts ([45, 45] ++ (dB i).data.toList ++ [13, 10])) := by
  have h1 := mark_text (dB i).data.toList
  have hne : UInt8.ofNat (97 + i) ≠ UInt8.ofNat (97 + j) := by
    intro h
    have := congrArg UInt8.toNat h
    rw [UInt8.toNat_ofNat', UInt8.toNat_ofNat'] at this
    omega
  unfold Plain
  rw [h1]
  simp only [Lib.toList_data, ByteArray.data_append, Array.toList_append, mk_list, dB_list]
  exact ⟨by simpa using hne, by simp⟩
theorem plain_endm (i j : Nat) (hi : i < j) (hj : j < 6) : Plain (dB j) (nInts ([45, 45] ++ (dB i).data.toList ++ [45, 45, 13, 10])) := by
  have h1 := end_text (dB i).data.toList
  have hne : UInt8.ofNat (97 + i) ≠ UInt8.ofNat (97 + j) := by
    intro h
    have := congrArg UInt8.toNat h
    rw [UInt8.toNat_ofNat', UInt8.toNat_ofNat'] at this
    omega
  unfold Plain
  rw [h1]
  simp only [Lib.toList_data, ByteArray.data_append, Array.toList_append, mk_list, dB_list]
  exact ⟨by simp, by simpa using hne⟩
theorem two_lines (bound : ByteArray) (hB : ∀ b ∈ bound.data.toList, Cl b) (q : Bool) (p1 p2 : List Int) : ∀ x ∈ lines (mMsg bound q [p1, p2] ++ [13, 10]), (¬ (txt x).head? = some 45 ∧ Byt x) ∨ x = nInts ([45, 45] ++ bound.data.toList ++ [13, 10]) ∨ x = nInts ([45, 45] ++ bound.data.toList ++ [45, 45, 13, 10]) ∨ x ∈ lines (p1 ++ [13, 10]) ∨ x ∈ lines (p2 ++ [13, 10]) := by
  have hten : ¬ (10 : UInt8) ∈ mVal (mQ bound q) := by
    have hb10 : ¬ (10 : UInt8) ∈ bound.data.toList := fun h => absurd (hB _ h) (by unfold Cl; decide)
    unfold mQ
    cases q <;> simp [mVal, mMult, mMixed, mBnd, hb10]
  have h10 : ¬ (10 : UInt8) ∈ [45, 45] ++ bound.data.toList ++ [45, 45] := by
    have : ¬ (10 : UInt8) ∈ bound.data.toList := fun h => absurd (hB _ h) (by unfold Cl; decide)
    simp [this]
  have e2 : mLast bound = ints ([45, 45] ++ bound.data.toList ++ [45, 45]) ++ [13, 10] ++ [98, 101, 104, 105, 110, 100] := by unfold mLast nInts ints mEnd; simp
  have e3 : nInts ([45, 45] ++ bound.data.toList ++ [45, 45, 13, 10]) = ints ([45, 45] ++ bound.data.toList ++ [45, 45]) ++ [13, 10] := by unfold nInts ints; simp
  have e4 : mMark bound = nInts ([45, 45] ++ bound.data.toList ++ [13, 10]) := rfl
  have hlast : lines (mLast bound ++ [13, 10]) = nInts ([45, 45] ++ bound.data.toList ++ [45, 45, 13, 10]) :: [[98, 101, 104, 105, 110, 100, 13, 10]] := by
    rw [e2, e3, List.append_assoc, lines_crlf (ints_ten h10)]
    rfl
  have e : mMsg bound q [p1, p2] ++ [13, 10] = ints (mName ++ 58 :: mVal (mQ bound q)) ++ [13, 10] ++ (([] : List Int) ++ [13, 10] ++ (mPream ++ [13, 10] ++ (nInts ([45, 45] ++ bound.data.toList ++ [13, 10]) ++ ((p1 ++ [13]) ++ [10] ++ (nInts ([45, 45] ++ bound.data.toList ++ [13, 10]) ++ ((p2 ++ [13]) ++ [10] ++ (mLast bound ++ [13, 10]))))))) := by
    have h1 : mMsg bound q [p1, p2] = one mName (mVal (mQ bound q)) (mPream ++ [13, 10] ++ (mParts bound [p1, p2] ++ mLast bound)) := by
      unfold mMsg
      rw [List.append_assoc, msg_one]
    rw [h1]
    unfold one mParts
    rw [e4]
    simp only [List.flatMap_cons, List.flatMap_nil, List.append_assoc, List.nil_append, List.append_nil, List.cons_append]
  intro x hx
  rw [e, lines_crlf (one_ten mname hten), lines_crlf (by simp), lines_crlf (by decide), mark_line _ hB, lines_app, mark_line _ hB, lines_app, hlast] at hx
  simp only [List.mem_cons, List.mem_append, List.not_mem_nil, or_false] at hx
  have hbi : ∀ l : List UInt8, Byt (ints l ++ [13, 10]) := by
    intro l y hy
    rcases List.mem_append.1 hy with hy | hy
    · exact ints_byt l y hy
    · simp at hy; omega
  rcases hx with rfl | rfl | rfl | rfl | hx | rfl | hx | rfl | rfl
  · exact .inl ⟨by rw [txt_crlf]; simp [ints, mName], hbi _⟩
  · exact .inl ⟨by rw [txt_crlf]; simp, by intro y hy; simp at hy; omega⟩
  · exact .inl ⟨by rw [txt_crlf]; simp [mPream], by intro y hy; simp [mPream] at hy; omega⟩
  · exact .inr (.inl rfl)
  · exact .inr (.inr (.inr (.inl (by simpa using hx))))
  · exact .inr (.inl rfl)
  · exact .inr (.inr (.inr (.inr (by simpa using hx))))
  · exact .inr (.inr (.inl rfl))
  · exact .inl ⟨by rw [show ([98, 101, 104, 105, 110, 100, 13, 10] : List Int) = [98, 101, 104, 105, 110, 100] ++ [13, 10] from rfl, txt_crlf]; simp, by intro y hy; simp at hy; omega⟩
/-- A count over two parts. -/
theorem count_two (k deep n0 n1 : Nat) (M p1 p2 : List Int) (ps : List S34) (s0 s1 : Nat) (hd : deep ≤ 3) (hM : M.length ≤ 19000) (hp : mime_Parts.f (k + 4) M = some ps) (hpl : ps.length = 2) (a1 : ps[0]? = some (⟨(s0 : Int), ((s0 + p1.length : Nat) : Int)⟩ : S34)) (a2 : s0 + p1.length ≤ M.length) (a3 : (M.take (s0 + p1.length)).drop s0 = p1) (b1 : ps[1]? = some (⟨(s1 : Int), ((s1 + p2.length : Nat) : Int)⟩ : S34)) (b2 : s1 + p2.length ≤ M.length) (b3 : (M.take (s1 + p2.length)).drop s1 = p2)
    (c0 : mime_counted.f (k + 2) p1 ((deep + 1 : Nat) : Int) = some (n0 : Int)) (c1 : mime_counted.f (k + 1) p2 ((deep + 1 : Nat) : Int) = some (n1 : Int)) (h0 : n0 ≤ 1000) (h1 : n1 ≤ 1000) : mime_counted.f (k + 5) M (deep : Int) = some ((n0 + n1 : Nat) : Int) := by
  have hr0 : rd_T34 ps (0 : Int) = ⟨(s0 : Int), ((s0 + p1.length : Nat) : Int)⟩ := by rw [show (0 : Int) = ((0 : Nat) : Int) from rfl, rd_T34_nat, List.getD_eq_getElem?_getD, a1]; rfl
  have hr1 : rd_T34 ps (1 : Int) = ⟨(s1 : Int), ((s1 + p2.length : Nat) : Int)⟩ := by rw [show (1 : Int) = ((1 : Nat) : Int) from rfl, rd_T34_nat, List.getD_eq_getElem?_getD, b1]; rfl
  have hw : wrap64 ((deep : Int) + 1) = ((deep + 1 : Nat) : Int) := w64 _ (by omega) (by omega)
  have hdd : decide ((deep : Int) ≥ 4) = false := decide_eq_false (by omega)
  unfold mime_counted.f
  rw [hp, Option.bind_some, if_neg (by omega), hdd]
  unfold mime_counted.j0
  rw [if_neg Bool.false_ne_true]
  unfold mime_counted.l0
  rw [if_pos (by omega), if_pos (by omega), if_pos (by omega), hr0]
  simp only
  rw [if_pos (by omega), if_pos (by omega), if_pos (by omega), Int.toNat_natCast, Int.toNat_natCast, a3, hw, c0, Option.bind_some, show wrap64 ((0 : Int) + 1) = 1 from w64 _ (by omega) (by omega), w64 (0 + (n0 : Int)) (by omega) (by omega)]
  unfold mime_counted.l0
  rw [if_pos (by omega), if_pos (by omega), if_pos (by omega), hr1]
  simp only
  rw [if_pos (by omega), if_pos (by omega), if_pos (by omega), Int.toNat_natCast, Int.toNat_natCast, b3, hw, c1, Option.bind_some, w64 (0 + (n0 : Int) + (n1 : Int)) (by omega) (by omega), show wrap64 ((1 : Int) + 1) = 2 from w64 _ (by omega) (by omega)]
  unfold mime_counted.l0
  rw [if_neg (by omega)]
  congr 1
  omega
theorem section_two (k d idx : Nat) (M p2 : List Int) (ps : List S34) (s1 : Nat) (hM : M.length ≤ 19000) (hi : idx < d) (hd : d ≤ 4) (hp : mime_Parts.f (k + 1) M = some ps) (hpl : ps.length = 2) (b1 : ps[1]? = some (⟨(s1 : Int), ((s1 + p2.length : Nat) : Int)⟩ : S34)) (b2 : s1 + p2.length ≤ M.length) (b3 : (M.take (s1 + p2.length)).drop s1 = p2) (R : List Int × Bool) (hr : mime_Section.l0 k p2 (List.replicate d 2) (List.replicate d 2) (d : Int) ((idx + 1 : Nat) : Int) = some R) : mime_Section.l0 (k + 2) M (List.replicate d 2) (List.replicate d 2) (d : Int) (idx : Int) = some R := by
  have hrd : rd_T34 ps (1 : Int) = ⟨(s1 : Int), ((s1 + p2.length : Nat) : Int)⟩ := by rw [show (1 : Int) = ((1 : Nat) : Int) from rfl, rd_T34_nat, List.getD_eq_getElem?_getD, b1]; rfl
  have hr2 : rd (List.replicate d 2) (idx : Int) = 2 := by
    rw [rd_nat, List.getD_eq_getElem?_getD, List.getElem?_replicate, if_pos (by omega)]
    rfl
  have hrl : (List.replicate d (2 : Int)).length = d := List.length_replicate
  unfold mime_Section.l0
  rw [if_pos (by omega), if_pos (by omega), if_pos (by omega), hp, Option.bind_some, if_neg (by omega), hr2]
  unfold mime_Section.j1
  rw [if_neg Bool.false_ne_true, if_neg (by omega), if_neg (by omega), show wrap64 (2 - 1) = 1 from w64 _ (by omega) (by omega), if_pos (by omega), if_pos (by omega), hrd]
  simp only
  rw [if_pos (by omega), if_pos (by omega), if_pos (by omega), Int.toNat_natCast, Int.toNat_natCast, b3, w64 _ (by omega) (by omega)]
  exact hr
theorem dT_succ (t : List Int) (i : Nat) : dT t (i + 1) = mMsg (dB i) (Int.tmod (i : Int) 2 == 0) [[13, 10, 120], dT t i] := by rw [dT]
section
variable (t : List Int) (ht : ∀ c ∈ t, 97 ≤ c ∧ c ≤ 122) (hl : t.length ≤ 200)
include ht
theorem text_lines : ∀ x ∈ lines ([13, 10] ++ t ++ [13, 10]), ∀ o, Plain o x := by
  intro x hx o
  have h10 : ¬ (10 : Int) ∈ t := fun h => by have := ht _ h; omega
  have e : lines ([13, 10] ++ t ++ [13, 10]) = [[13, 10], t ++ [13, 10]] := by
    have := lines_crlf (m := []) (r := t ++ [13, 10]) (by simp)
    rw [List.nil_append] at this
    rw [List.append_assoc, this]
    have h2 := lines_crlf (m := t) (r := []) h10
    rw [List.append_nil] at h2
    rw [h2]
    rfl
  rw [e] at hx
  simp only [List.mem_cons, List.not_mem_nil, or_false] at hx
  rcases hx with rfl | rfl
  · exact plain_start o _ (by intro y hy; simp at hy; omega) (by decide)
  · refine plain_start o _ ?_ ?_
    · intro y hy
      rcases List.mem_append.1 hy with hy | hy
      · have := ht y hy; omega
      · simp at hy; omega
    · rw [txt_crlf]
      cases t with
      | nil => simp
      | cons c m =>
        have := ht c List.mem_cons_self
        simp
        omega
theorem deep_lines : ∀ (i : Nat), i ≤ 6 → ∀ x ∈ lines (dT t i ++ [13, 10]), ∀ j, i ≤ j → j < 6 → Plain (dB j) x
  | 0, _, x, hx, j, _, _ => text_lines t ht x hx _
  | i + 1, hi, x, hx, j, hij, hj => by
    rcases two_lines (dB i) (dB_cl i (by omega)) _ _ _ x hx with h | rfl | rfl | h | h
    · exact plain_start _ _ h.2 h.1
    · exact plain_mark i j (by omega) hj
    · exact plain_endm i j (by omega) hj
    · exact text_lines [120] (by intro c hc; simp at hc; omega) x h _
    · exact deep_lines i (by omega) x h j (by omega) hj
theorem deep_byt : ∀ i : Nat, Byt (dT t i)
  | 0 => by
    intro y hy
    rcases List.mem_append.1 hy with hy | hy
    · simp at hy; omega
    · have := ht y hy; omega
  | i + 1 => dmsg_byt _ _ _ (by
      intro p hp
      simp only [List.mem_cons, List.not_mem_nil, or_false] at hp
      rcases hp with rfl | rfl
      · intro y hy; simp at hy; omega
      · exact deep_byt i)
include hl
omit ht in
theorem deep_len : ∀ i : Nat, (dT t i).length ≤ 202 + 803 * i
  | 0 => by unfold dT; simp; omega
  | i + 1 => by
    have ih := deep_len i
    have := dmsg_length (dB i) (Int.tmod (i : Int) 2 == 0) [[13, 10, 120], dT t i] (by rw [dB_size]; omega) (by simp)
    simp only [List.flatten_cons, List.flatten_nil, List.length_append, List.length_cons, List.length_nil] at this
    unfold dT
    omega
omit ht in
theorem deep_lt (i : Nat) (hi : i ≤ 6) : (dT t i).length ≤ 19000 := by
  have := deep_len t hl i
  omega
theorem deep_parts (i : Nat) (hi : i < 6) (k : Nat) (hk : 160000 ≤ k) : ∃ ps, mime_Parts.f k (dT t (i + 1)) = some ps ∧ ps.length = 2 ∧ ∀ (n : Nat) (p : List Int), ([[13, 10, 120], dT t i] : List (List Int))[n]? = some p → ∃ s : Nat, ps[n]? = some (⟨(s : Int), ((s + p.length : Nat) : Int)⟩ : S34) ∧ s + p.length ≤ (dT t (i + 1)).length ∧ ((dT t (i + 1)).take (s + p.length)).drop s = p := by
  have hlen := deep_lt t hl (i + 1) (by omega)
  have hdl := deep_lines t ht i (by omega)
  have hdb := deep_byt t ht i
  rw [dT_succ] at hlen ⊢
  generalize dT t i = T at hlen hdl hdb
  have hsz := dB_size i
  refine msg_parts k (dB i) (Int.tmod (i : Int) 2 == 0) (dB_cl i hi) (by omega) (by omega) [[13, 10, 120], T] ?_ ?_ (by simp) (by omega) hk
  · intro p hp x hx
    simp only [List.mem_cons, List.not_mem_nil, or_false] at hp
    rcases hp with rfl | rfl
    · exact text_lines [120] (by intro c hc; simp at hc; omega) x hx _
    · exact hdl x hx i (Nat.le_refl _) hi
  · intro p hp
    simp only [List.mem_cons, List.not_mem_nil, or_false] at hp
    rcases hp with rfl | rfl
    · intro y hy; simp at hy; omega
    · exact hdb
theorem text_parts (k : Nat) (hk : 2000 ≤ k) : mime_Parts.f k (dT t 0) = some [] := by
  have hb := deep_byt t ht 0
  have hlen := deep_len t hl 0
  have h10 : ¬ (10 : Int) ∈ t := fun h => by have := ht _ h; omega
  have hhd : heads (lines (dT t 0)) = [[13, 10]] := by
    have : lines (dT t 0) = [13, 10] :: lines t := lines_crlf (m := []) (r := t) (by simp)
    rw [this, heads_cons, if_pos (by decide)]
  have hf : fields (dT t 0) = [] := by
    unfold fields texts
    rw [hhd]
    rfl
  have hT := Type_val k (dT t 0) hb (by omega) (by omega) ByteArray.empty (by rw [hf]; rfl) [] [] (by rfl) (⟨#[]⟩ : ByteArray) (by obtain ⟨j, rfl⟩ : ∃ j, k = j + 1 := ⟨k - 1, by omega⟩; rfl) (mk []) (⟨#[]⟩ : ByteArray) false (by decide +kernel)
  rw [if_pos (by rw [Lib.toList_data, mk_list])] at hT
  have hP := Parts_eq k (dT t 0) hb (by omega) (by omega) hT (by decide)
  rw [hP]
  unfold uparts
  rw [if_neg (fun h => absurd h.1 (by rw [Lib.toList_data]; decide))]
theorem deep_section (d : Nat) (hd : d ≤ 4) : ∀ (m k : Nat), m ≤ d → 160000 + 2 * m + 1 ≤ k → mime_Section.l0 k (dT t m) (List.replicate d 2) (List.replicate d 2) (d : Int) ((d - m : Nat) : Int) = some (dT t 0, true)
  | 0, k, hm, hk => by
    obtain ⟨k, rfl⟩ : ∃ j, k = j + 1 := ⟨k - 1, by omega⟩
    have := deep_len t hl 0
    generalize dT t 0 = T at this
    unfold mime_Section.l0
    rw [if_neg (by omega), dclone _ (by omega)]
    rfl
  | m + 1, k, hm, hk => by
    obtain ⟨k, rfl⟩ : ∃ j, k = j + 2 := ⟨k - 2, by omega⟩
    obtain ⟨ps, hp, hpl, hat⟩ := deep_parts t ht hl m (by omega) (k + 1) (by omega)
    obtain ⟨s, h1, h2, h3⟩ := hat 1 (dT t m) rfl
    have hlen := deep_lt t hl (m + 1) (by omega)
    have ih := deep_section d hd m k (by omega) (by omega)
    generalize dT t 0 = T0 at ih
    generalize dT t (m + 1) = M at hp h2 h3 hlen
    generalize dT t m = T at h1 h2 h3 ih
    exact section_two k d (d - (m + 1)) M T ps s (by omega) (by omega) hd hp hpl h1 h2 h3 _ (by rw [show d - (m + 1) + 1 = d - m by omega]; exact ih)
omit ht hl in
theorem xtext : ∀ c ∈ ([120] : List Int), 97 ≤ c ∧ c ≤ 122 := by intro c hc; simp at hc; omega
theorem deep_count : ∀ (m deep k : Nat), m + deep ≤ 4 → 160000 + 5 * m + 1 ≤ k → mime_counted.f k (dT t m) (deep : Int) = some ((m + 1 : Nat) : Int)
  | 0, deep, k, hm, hk => by
    obtain ⟨k, rfl⟩ : ∃ j, k = j + 2 := ⟨k - 2, by omega⟩
    have hp := text_parts t ht hl (k + 1) (by omega)
    generalize dT t 0 = T at hp
    unfold mime_counted.f
    rw [hp, Option.bind_some, if_pos (by simp)]
    unfold mime_counted.j0
    rw [if_pos rfl]
    rfl
  | m + 1, deep, k, hm, hk => by
    obtain ⟨k, rfl⟩ : ∃ j, k = j + 5 := ⟨k - 5, by omega⟩
    obtain ⟨ps, hp, hpl, hat⟩ := deep_parts t ht hl m (by omega) (k + 4) (by omega)
    obtain ⟨s0, a1, a2, a3⟩ := hat 0 [13, 10, 120] rfl
    obtain ⟨s1, b1, b2, b3⟩ := hat 1 (dT t m) rfl
    have hlen := deep_lt t hl (m + 1) (by omega)
    have hx : mime_Parts.f (k + 1) [13, 10, 120] = some [] := by
      have := text_parts [120] xtext (by simp) (k + 1) (by omega)
      rw [dT] at this
      exact this
    have c0 : mime_counted.f (k + 2) [13, 10, 120] ((deep + 1 : Nat) : Int) = some ((1 : Nat) : Int) := by
      generalize ([13, 10, 120] : List Int) = X at hx
      unfold mime_counted.f
      rw [hx, Option.bind_some, if_pos (by simp)]
      unfold mime_counted.j0
      rw [if_pos rfl]
      rfl
    have c1 := deep_count m (deep + 1) (k + 1) (by omega) (by omega)
    generalize dT t (m + 1) = M at hp a2 a3 b2 b3 hlen
    generalize dT t m = T at b1 b2 b3 c1
    have := count_two k deep 1 (m + 1) M [13, 10, 120] T ps s0 s1 (by omega) (by omega) hp hpl a1 a2 a3 b1 b2 b3 c0 c1 (by omega) (by omega)
    rw [this]
    congr 1
    omega
theorem deep_l1 (d : Nat) (hd : d ≤ 6) : ∀ (r i k : Nat), i + r = d → 170000 + r + 1 ≤ k → letterboxlaw10_MimeDeep.l1 k t d (dT t i) (List.replicate i 2) i = some true
  | 0, i, k, hi, hk => by
    obtain ⟨k, rfl⟩ : ∃ j, k = j + 1 := ⟨k - 1, by omega⟩
    obtain rfl : i = d := by omega
    unfold letterboxlaw10_MimeDeep.l1
    rw [if_neg (by omega)]
    by_cases h4 : i ≤ 4
    · have hs : mime_Section.f k (dT t i) (List.replicate i 2) = some (dT t 0, true) := by
        unfold mime_Section.f
        rw [if_neg (by rw [List.length_replicate]; omega), List.length_replicate]
        have := deep_section t ht hl i h4 i k (Nat.le_refl _) (by omega)
        rw [Nat.sub_self] at this
        exact this
      have hc : mime_Count.f k (dT t i) = some ((i + 1 : Nat) : Int) := by
        unfold mime_Count.f
        rw [show (0 : Int) = ((0 : Nat) : Int) from rfl, deep_count t ht hl i 0 k (by omega) (by omega)]
        rfl
      rw [hs, Option.bind_some, Option.bind_some, if_pos (by simp; omega), if_neg (by omega)]
      simp only [if_true]
      rw [if_pos (by rfl), hc, Option.bind_some, if_pos (by rw [w64 _ (by omega) (by omega)]; omega), known_at k (by omega)]
      rfl
    · have hs : mime_Section.f k (dT t i) (List.replicate i 2) = some ([], false) := by
        unfold mime_Section.f
        rw [if_pos (by rw [List.length_replicate]; omega)]
      rw [hs, Option.bind_some, Option.bind_some, if_pos (by simp; omega), if_pos (by omega)]
      simp only [Bool.false_eq_true, if_false]
      rw [known_at k (by omega)]
      rfl
  | r + 1, i, k, hi, hk => by
    obtain ⟨k, rfl⟩ : ∃ j, k = j + 1 := ⟨k - 1, by omega⟩
    have hlen := deep_lt t hl (i + 1) (by omega)
    have hsz := dB_size i
    have hm : letterboxlaw10_message.f (dB i) [[13, 10, 120], dT t i] (Int.tmod (i : Int) 2 == 0) = some (dT t (i + 1)) := by
      rw [dT_succ] at hlen ⊢
      generalize dT t i = T at hlen
      unfold letterboxlaw10_message.f
      unfold mMsg at hlen ⊢
      rw [if_pos ⟨by omega, by omega⟩]
    unfold letterboxlaw10_MimeDeep.l1
    rw [if_pos (by omega), dB_str i (by omega), hm, Option.bind_some, if_pos (by rw [List.length_replicate]; omega), w64 _ (by omega) (by omega), show List.replicate i (2 : Int) ++ [2] = List.replicate (i + 1) 2 from by rw [List.replicate_succ'], show ((i : Int) + 1) = ((i + 1 : Nat) : Int) from rfl]
    exact deep_l1 d hd r (i + 1) k (by omega) (by omega)
end
theorem deep_l0 (t : List Int) (hl : t.length ≤ 200) (d : Nat) (hd : d ≤ 6) : ∀ (r i k : Nat), i + r = t.length → (∀ c ∈ t.take i, 97 ≤ c ∧ c ≤ 122) → 180000 + r + 1 ≤ k → letterboxlaw10_MimeDeep.l0 k t d i = some true
  | 0, i, k, hi, hc, hk => by
    obtain ⟨k, rfl⟩ : ∃ j, k = j + 1 := ⟨k - 1, by omega⟩
    rw [List.take_of_length_le (by omega)] at hc
    unfold letterboxlaw10_MimeDeep.l0
    rw [if_neg (by omega), Option.bind_some, if_pos (by simp; omega)]
    exact deep_l1 t hc hl d hd d 0 k (by omega) (by omega)
  | r + 1, i, k, hi, hc, hk => by
    obtain ⟨k, rfl⟩ : ∃ j, k = j + 1 := ⟨k - 1, by omega⟩
    unfold letterboxlaw10_MimeDeep.l0
    rw [if_pos (by omega), if_pos (by omega), rd_nat]
    by_cases h1 : t.getD i 0 < 97
    · rw [if_pos h1]
    · rw [if_neg h1]
      by_cases h2 : t.getD i 0 > 122
      · rw [if_pos h2]
      · rw [if_neg h2, w64 _ (by omega) (by omega), show ((i : Int) + 1) = ((i + 1 : Nat) : Int) from rfl]
        refine deep_l0 t hl d hd r (i + 1) k (by omega) (fun c hcm => ?_) (by omega)
        rw [List.take_succ_eq_append_getElem (by omega)] at hcm
        rcases List.mem_append.1 hcm with hcm | hcm
        · exact hc c hcm
        · rw [List.mem_singleton.1 hcm]
          have : t.getD i 0 = t[i] := by rw [List.getD_eq_getElem?_getD, List.getElem?_eq_getElem (by omega)]; rfl
          omega
theorem MimeDeep (t : List Int) (d : Int) (_ : ∀ x ∈ t, (Lit.int .u8 x).wf = true) (_ : (Lit.int .i64 d).wf = true) : ∃ k, letterboxlaw10_MimeDeep.f k t d = some true := by
  refine ⟨200000, ?_⟩
  have j0t : letterboxlaw10_MimeDeep.j0 200000 t d true = some true := by rw [letterboxlaw10_MimeDeep.j0, if_pos rfl]
  unfold letterboxlaw10_MimeDeep.f
  by_cases h1 : (t.length : Int) > 200
  · rw [if_pos h1]; exact j0t
  · rw [if_neg h1]
    by_cases h2 : d < 0
    · rw [if_pos h2]; exact j0t
    · rw [if_neg h2]
      by_cases h3 : d > 6
      · rw [decide_eq_true h3]; exact j0t
      · obtain ⟨n, rfl⟩ : ∃ n : Nat, d = n := ⟨d.toNat, by omega⟩
        rw [decide_eq_false h3, letterboxlaw10_MimeDeep.j0, if_neg Bool.false_ne_true]
        exact deep_l0 t (by omega) n (by omega) t.length 0 199999 (by omega) (by simp) (by omega)
end Go.Proofs.YtilgmheilepkgaaDoor.Pure
