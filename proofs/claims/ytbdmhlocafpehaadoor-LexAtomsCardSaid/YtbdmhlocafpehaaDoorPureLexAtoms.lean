/- LexAtoms over texts and lists alone. -/
import Derived.Test.YtbdmhlocafpehaaDoorLexSpec
import Derived.Test.YtbdmhlocafpehaaDoorLexKnown
import Derived.Test.YtbdmhlocafpehaaDoorPx103
namespace Go.Proofs.YtbdmhlocafpehaaDoor.Pure
open Go.RowKit Go.Proofs.YtbdmhlocafpehaaDoor Go.Proofs.YtbdmhlocafpehaaDoor.P Go.Proofs.YtbdmhlocafpehaaDoorW.PrintWords Go.Proofs.YtbdmhlocafpehaaDoorW.PrintLast Go.Proofs.YtbdmhlocafpehaaDoorW.PrintMore

theorem bt_nat (s : ByteArray) (i : Nat) (b : UInt8) (h : s.data.toList[i]? = some b) : bt s (i : Int) = (b.toNat : Int) := by
  have hi : i < s.size := by rw [Lib.size_eq]; exact (List.getElem?_eq_some_iff.1 h).1
  have h2 := Lib.data_getElem? s i hi
  rw [h] at h2
  unfold bt
  simp only [Int.toNat_natCast]
  rw [dif_pos hi, ← Option.some.inj h2]

/-! ### A text cut at a byte -/
theorem w64 (n : Int) (h0 : 0 ≤ n) (h1 : n ≤ 9223372036854775806) : wrap64 (n + 1) = n + 1 := by unfold wrap64; omega
theorem plain_l0 (s : ByteArray) (hs : s.size ≤ 140737488351232) : ∀ (k i : Nat), i ≤ s.size → s.size - i < k → (∀ j, j < i → ∀ b, s.data.toList[j]? = some b → 32 ≤ b.toNat ∧ b.toNat ≤ 126) → ∃ t, letterboxlaw17_plain.l0 k s i = some t ∧ (t = true → ∀ b ∈ s.data.toList, 32 ≤ b.toNat ∧ b.toNat ≤ 126)
  | 0, _, _, h, _ => absurd h (by omega)
  | k + 1, i, hi, hk, hc => by
    have hse := Lib.size_eq s
    unfold letterboxlaw17_plain.l0
    by_cases hlt : i < s.size
    · have hlt2 : i < s.data.toList.length := by omega
      have hx : s.data.toList[i]? = some s.data.toList[i] := List.getElem?_eq_getElem hlt2
      rw [if_pos (by omega), if_pos (by omega), bt_nat s i _ hx]
      generalize s.data.toList[i] = x at hx
      by_cases e1 : ((x.toNat : Nat) : Int) < 32
      · rw [if_pos e1]; exact ⟨false, rfl, fun h => absurd h (by simp)⟩
      · rw [if_neg e1]
        by_cases e2 : ((x.toNat : Nat) : Int) > 126
        · rw [if_pos e2]; exact ⟨false, rfl, fun h => absurd h (by simp)⟩
        · rw [if_neg e2, w64 _ (by omega) (by omega), show ((i : Int) + 1) = ((i + 1 : Nat) : Int) from rfl]
          refine plain_l0 s hs k (i + 1) (by omega) (by omega) fun j hj b hjb => ?_
          by_cases e : j = i
          · subst e; rw [hx] at hjb; rw [← Option.some.inj hjb]; omega
          · exact hc j (by omega) b hjb
    · rw [if_neg (by omega)]
      refine ⟨true, rfl, fun _ b hb => ?_⟩
      obtain ⟨j, hj, rfl⟩ := List.mem_iff_getElem.1 hb
      exact hc j (by omega) _ (List.getElem?_eq_getElem hj)
/-- The scan for a closing bracket. -/
theorem scan_l0 (a0 a1 : Int) (s : ByteArray) (hs : s.size ≤ 140737488351232) (hp : ∀ b ∈ s.data.toList, 32 ≤ b.toNat ∧ b.toNat ≤ 126) (K : Nat)
    (next : ∀ k, K ≤ k → (∀ b ∈ s.data.toList, 32 ≤ b.toNat ∧ b.toNat ≤ 126 ∧ b.toNat ≠ 93) → letterboxlaw17_LexAtoms.l1 k a0 a1 s [] 0 = some true) : ∀ (k i : Nat), i ≤ s.size → s.size - i + K < k → (∀ j, j < i → ∀ b, s.data.toList[j]? = some b → b.toNat ≠ 93) → letterboxlaw17_LexAtoms.l0 k a0 a1 s i = some true
  | 0, _, _, h, _ => absurd h (by omega)
  | k + 1, i, hi, hk, hc => by
    have hse := Lib.size_eq s
    rw [letterboxlaw17_LexAtoms.l0]
    by_cases hlt : i < s.size
    · have hlt2 : i < s.data.toList.length := by omega
      have hx : s.data.toList[i]? = some s.data.toList[i] := List.getElem?_eq_getElem hlt2
      rw [if_pos (by omega), if_pos (by omega), bt_nat s i _ hx]
      generalize s.data.toList[i] = x at hx
      by_cases e1 : ((x.toNat : Nat) : Int) = 93
      · rw [if_pos e1]
      · rw [if_neg e1, w64 _ (by omega) (by omega), show ((i : Int) + 1) = ((i + 1 : Nat) : Int) from rfl]
        refine scan_l0 a0 a1 s hs hp K next k (i + 1) (by omega) (by omega) fun j hj b hjb => ?_
        by_cases e : j = i
        · subst e; rw [hx] at hjb; rw [← Option.some.inj hjb]; omega
        · exact hc j (by omega) b hjb
    · rw [if_neg (by omega)]
      refine next k (by omega) fun b hb => ⟨(hp b hb).1, (hp b hb).2, ?_⟩
      obtain ⟨j, hj, rfl⟩ := List.mem_iff_getElem.1 hb
      exact hc j (by omega) _ (List.getElem?_eq_getElem hj)
/-! ### The law's line -/
theorem atomsL_succ (s : List Int) (b : Nat) : ∀ n, atomsL s b (n + 1) = atomsL s b n ++ atomL s ++ List.replicate b 32
  | 0 => by simp [atomsL]
  | n + 1 => by
    show atomL s ++ (List.replicate b 32 ++ atomsL s b (n + 1)) = (atomL s ++ (List.replicate b 32 ++ atomsL s b n)) ++ atomL s ++ List.replicate b 32
    rw [atomsL_succ s b n]
    simp only [List.append_assoc]
theorem atomsL_length (s : List Int) (b : Nat) : ∀ n, (atomsL s b n).length = n * (s.length + 4 + b)
  | 0 => by simp [atomsL]
  | n + 1 => by
    have h := atomsL_length s b n
    rw [atomsL, List.length_append, List.length_append, List.length_replicate, h, Nat.succ_mul]
    simp [atomL]
    omega
theorem lex_one (k : Nat) (x : List Int) (hx : x.length ≤ 100000000) (t : List Tk) (e : Int)
    (h : (match tgo (x.length + 1) x 0 [] with | none => none | some (.inl e) => some (([] : List Tk), e) | some (.inr t) => some (t, (0 : Int))) = some (t, e)) : lex_Lex.f (k + 1) [x] [] = some (t, e) := by
  have hf : G.lex_fits.f (k + 1) [x] [] = some true := by
    unfold G.lex_fits.f
    rw [if_pos (by simp [wrap64]), G.lex_fits.l0, if_neg (by simp)]
  unfold lex_Lex.f
  rw [hf]
  show lxGo (k + 1) [x] [] (1 + 1) 0 [] = _
  rw [lxGo, if_pos (by simp), if_pos (by simpa using hx), if_neg (by simp)]
  refine Eq.trans ?_ h
  show (match tgo (x.length + 1) x 0 [] with | none => none | some (.inl e) => some ([], e) | some (.inr t) => if 0 = ([] : List (List Int)).length then some (t, 0) else none) = _
  rfl
theorem atom_bytes (s : ByteArray) : bytesOf (((⟨#[97, 91]⟩ : ByteArray) ++ s) ++ (⟨#[93, 122]⟩ : ByteArray)) = atomL (bytesOf s) := by
  unfold bytesOf atomL
  simp [ByteArray.data_append]
theorem str_toList_ (t : List Int) : (strOfNums t).toList = t.map fun n => UInt8.ofNat n.toNat := by rw [Lib.toList_data, strOfNums_data]
theorem str_bytes (s : ByteArray) : (strOfNums (bytesOf s)).toList = s.toList := by
  rw [str_toList_, Lib.toList_data]
  unfold bytesOf
  rw [List.map_map]
  conv => rhs; rw [← List.map_id s.data.toList]
  refine List.map_congr_left fun b _ => ?_
  simp
section
set_option linter.unusedSectionVars false
variable (n b : Nat) (s : ByteArray) (hn : n ≤ 80) (hb : 1 ≤ b ∧ b ≤ 5) (hs : s.size ≤ 40) (hi : Inside (bytesOf s))
include hn hb hs hi
/-- The tokens are looked at. -/
theorem look_l3 (hn6 : n ≤ 64) : ∀ (m i k : Nat), i + m = n → 21 + m < k → letterboxlaw17_LexAtoms.l3 k n s (List.replicate n ⟨1, strOfNums (atomL (bytesOf s))⟩) i = some true
  | 0, i, k, h, hk => by
    obtain ⟨k, rfl⟩ : ∃ k', k = (20 + k') + 1 := ⟨k - 21, by omega⟩
    rw [letterboxlaw17_LexAtoms.l3, if_neg (by omega), known_true]
    rfl
  | m + 1, i, k, h, hk => by
    obtain ⟨k, rfl⟩ : ∃ k', k = k' + 1 := ⟨k - 1, by omega⟩
    have hr : rd_T31 (List.replicate n (⟨1, strOfNums (atomL (bytesOf s))⟩ : Tk)) (i : Int) = ⟨1, strOfNums (atomL (bytesOf s))⟩ := by
      unfold rd_T31
      simp only [Int.toNat_natCast]
      rw [List.getD_eq_getElem?_getD, List.getElem?_replicate, if_pos (by omega)]
      rfl
    rw [letterboxlaw17_LexAtoms.l3, if_pos (by omega), if_pos (by omega), if_pos (by rw [List.length_replicate]; omega), if_pos (by omega), if_pos (by omega), hr, ← atom_bytes, str_bytes, if_neg (by simp), w64 _ (by omega) (by omega), atom_bytes]
    exact look_l3 hn6 m (i + 1) k (by omega) (by omega)
/-- Behind the last atom. -/
theorem told_l1 (k : Nat) (hk : 100 < k) : letterboxlaw17_LexAtoms.l1 k n b s (atomsL (bytesOf s) b n) n = some true := by
  obtain ⟨k, rfl⟩ : ∃ k', k = (20 + k') + 1 + 1 := ⟨k - 22, by omega⟩
  have hbl := bytesOf_length s
  have hL := atomsL_length (bytesOf s) b n
  have hL2 : n * ((bytesOf s).length + 4 + b) ≤ 80 * 49 := Nat.mul_le_mul hn (by omega)
  have ht := tgo_atoms (bytesOf s) hi b hb.1 n ((atomsL (bytesOf s) b n).length + 1) (atomsL (bytesOf s) b n) 0 [] rfl (by omega) (by simp)
  rw [letterboxlaw17_LexAtoms.l1, if_neg (by omega)]
  by_cases h6 : n ≤ 64
  · rw [if_pos (by simpa using h6)] at ht
    rw [lex_one (20 + k) _ (by omega) (List.replicate n ⟨1, strOfNums (atomL (bytesOf s))⟩) 0 (by rw [ht]; rfl)]
    show (if (n : Int) > 64 then _ else if (0 : Int) = 0 then letterboxlaw17_LexAtoms.j4 (20 + k + 1) n s (List.replicate n ⟨1, strOfNums (atomL (bytesOf s))⟩) (((List.replicate n (⟨1, strOfNums (atomL (bytesOf s))⟩ : Tk)).length : Int) != (n : Int)) else _) = _
    rw [if_neg (by omega), if_pos rfl, List.length_replicate, show ((n : Int) != (n : Int)) = false by simp, letterboxlaw17_LexAtoms.j4, if_neg (by simp)]
    exact look_l3 n b s hn hb hs hi h6 n 0 (20 + k) (by omega) (by omega)
  · rw [if_neg (by simpa using h6)] at ht
    rw [lex_one (20 + k) _ (by omega) [] 5 (by rw [ht])]
    show (if (n : Int) > 64 then (if (5 : Int) = 5 then (if ((0 : Nat) : Int) = 0 then ((letterboxlaw17_known.f (20 + k + 1)).bind fun t134 => some t134) else some false) else some false) else _) = _
    rw [if_pos (by omega), if_pos rfl, if_pos (by rfl), Nat.add_assoc, known_true]
    rfl
theorem build_l2 (i : Nat) (hin : i < n) : ∀ (m c k : Nat) (x : List Int), c + m = b → x.length + m ≤ 8000 → letterboxlaw17_LexAtoms.l2 (k + m + 1) n b s x i c = letterboxlaw17_LexAtoms.l1 k n b s (x ++ List.replicate m 32) ((i + 1 : Nat) : Int)
  | 0, c, k, x, h, hx => by
    rw [letterboxlaw17_LexAtoms.l2, if_neg (by omega), w64 _ (by omega) (by omega), List.replicate_zero, List.append_nil]
    rfl
  | m + 1, c, k, x, h, hx => by
    rw [← Nat.add_assoc, letterboxlaw17_LexAtoms.l2, if_pos (by omega), if_pos (by omega), w64 _ (by omega) (by omega), show ((c : Int) + 1) = ((c + 1 : Nat) : Int) from rfl,
      build_l2 i hin m (c + 1) k (x ++ [32]) (by omega) (by simp; omega), List.append_assoc]
    rfl
theorem build_l1 : ∀ (m i k : Nat), i + m = n → 100 + 10 * m < k → letterboxlaw17_LexAtoms.l1 k n b s (atomsL (bytesOf s) b i) i = some true
  | 0, i, k, h, hk => by
    obtain rfl : i = n := by omega
    exact told_l1 i b s hn hb hs hi k (by omega)
  | m + 1, i, k, h, hk => by
    obtain ⟨k, rfl⟩ : ∃ k', k = ((k' + b) + 1) + 1 := ⟨k - b - 2, by omega⟩
    have hbl := bytesOf_length s
    have hL := atomsL_length (bytesOf s) b i
    have hL2 : i * ((bytesOf s).length + 4 + b) ≤ 80 * 49 := Nat.mul_le_mul (by omega) (by omega)
    have hal : (atomL (bytesOf s)).length = (bytesOf s).length + 4 := by simp [atomL]
    have hc : conv_9_23.f (((⟨#[97, 91]⟩ : ByteArray) ++ s) ++ (⟨#[93, 122]⟩ : ByteArray)) = some (atomL (bytesOf s)) := by
      have hz : (((⟨#[97, 91]⟩ : ByteArray) ++ s) ++ (⟨#[93, 122]⟩ : ByteArray)).size ≤ 9223372036854775807 := by
        rw [ByteArray.size_append, ByteArray.size_append]
        show 2 + s.size + 2 ≤ _
        omega
      unfold conv_9_23.f
      rw [if_pos hz, atom_bytes]
    rw [letterboxlaw17_LexAtoms.l1, if_pos (by omega), if_pos (by omega), if_pos (by omega), hc]
    show (if (atomsL (bytesOf s) b i).length + (atomL (bytesOf s)).length < 140737488355328 then _ else _) = _
    rw [if_pos (by omega)]
    show letterboxlaw17_LexAtoms.l2 (k + b + 1) n b s (atomsL (bytesOf s) b i ++ atomL (bytesOf s)) i ((0 : Nat) : Int) = _
    rw [build_l2 n b s hn hb hs hi i (by omega) b 0 k _ (by omega) (by rw [List.length_append]; omega), ← atomsL_succ]
    exact build_l1 m (i + 1) k (by omega) (by omega)
end
theorem inside_of (s : ByteArray) (h : ∀ b ∈ s.data.toList, 32 ≤ b.toNat ∧ b.toNat ≤ 126 ∧ b.toNat ≠ 93) : Inside (bytesOf s) := by
  intro c hc
  unfold bytesOf at hc
  obtain ⟨b, hb, rfl⟩ := List.mem_map.1 hc
  have := h b hb
  omega
theorem LexAtoms (a0 a1 : Int) (a2 : ByteArray) (_ : (Lit.int .i64 a0).wf = true) (_ : (Lit.int .i64 a1).wf = true) (hs : a2.size ≤ 140737488351232) : ∃ k, letterboxlaw17_LexAtoms.f k a0 a1 a2 = some true := by
  refine ⟨2000, ?_⟩
  have hj : letterboxlaw17_LexAtoms.j0 2000 a0 a1 a2 true = some true := by rw [letterboxlaw17_LexAtoms.j0, if_pos rfl]
  unfold letterboxlaw17_LexAtoms.f
  by_cases h1 : a0 < 0
  · rw [if_pos h1, hj]
  by_cases h2 : a0 > 80
  · rw [if_neg h1, if_pos h2, hj]
  by_cases h3 : a1 < 1
  · rw [if_neg h1, if_neg h2, if_pos h3, hj]
  by_cases h4 : a1 > 5
  · rw [if_neg h1, if_neg h2, if_neg h3, if_pos h4, hj]
  by_cases h5 : (a2.size : Int) > 40
  · rw [if_neg h1, if_neg h2, if_neg h3, if_neg h4, if_pos h5, hj]
  rw [if_neg h1, if_neg h2, if_neg h3, if_neg h4, if_neg h5]
  obtain ⟨t, ht, hp⟩ := plain_l0 a2 hs 2000 0 (by omega) (by omega) (fun j hj => absurd hj (by omega))
  have hp0 : letterboxlaw17_plain.f 2000 a2 = some t := ht
  rw [hp0]
  cases t with
  | false => exact hj
  | true =>
    show letterboxlaw17_LexAtoms.j0 2000 a0 a1 a2 false = _
    rw [letterboxlaw17_LexAtoms.j0, if_neg (by simp)]
    obtain ⟨n, rfl⟩ : ∃ n : Nat, a0 = n := ⟨a0.toNat, by omega⟩
    obtain ⟨b, rfl⟩ : ∃ b : Nat, a1 = b := ⟨a1.toNat, by omega⟩
    refine scan_l0 n b a2 hs (hp rfl) 1000 (fun k hk hin => ?_) 1999 0 (by omega) (by omega) (fun j hj => absurd hj (by omega))
    exact build_l1 n b a2 (by omega) (by omega) (by omega) (inside_of a2 hin) n 0 k (by omega) (by omega)
end Go.Proofs.YtbdmhlocafpehaaDoor.Pure
