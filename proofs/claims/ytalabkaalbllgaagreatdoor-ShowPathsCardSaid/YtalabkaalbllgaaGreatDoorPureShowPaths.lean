/- ShowPaths over texts and lists alone. -/
import Derived.Test.YtalabkaalbllgaaGreatDoorShowItem
import Derived.Test.YtalabkaalbllgaaGreatDoorShowKnown
import Derived.Test.YtalabkaalbllgaaGreatDoorPx105
namespace Go.Proofs.YtalabkaalbllgaaGreatDoor.Pure
open Go.RowKit Go.Proofs.YtalabkaalbllgaaGreatDoor Go.Proofs.YtalabkaalbllgaaGreatDoor.P Go.Proofs.YtalabkaalbllgaaGreatDoorW.PrintWords Go.Proofs.YtalabkaalbllgaaGreatDoorW.PrintLast Go.Proofs.YtalabkaalbllgaaGreatDoorW.PrintMore

def dg (x : Int) : UInt8 := UInt8.ofNat (48 + x).toNat
def sepD : List Int → List UInt8
  | [] => []
  | [x] => [dg x]
  | x :: y :: r => dg x :: 46 :: sepD (y :: r)
def Dig (p : List Int) : Prop := ∀ x ∈ p, 0 ≤ x ∧ x ≤ 9
theorem dg_nat {x : Int} (h : 0 ≤ x ∧ x ≤ 9) : (dg x).toNat = 48 + x.toNat := by
  unfold dg
  rw [UInt8.toNat_ofNat']
  omega
theorem dg_ne {x : Int} (h : 0 ≤ x ∧ x ≤ 9) (b : UInt8) (hb : b.toNat < 48 ∨ 57 < b.toNat) : dg x ≠ b := fun e => by
  have := dg_nat h
  rw [e] at this
  omega
theorem sepD_snoc : ∀ (p : List Int) (x : Int), p ≠ [] → sepD (p ++ [x]) = sepD p ++ [46] ++ [dg x]
  | [], _, h => absurd rfl h
  | [a], x, _ => rfl
  | a :: b :: r, x, _ => by
    have ih := sepD_snoc (b :: r) x (by simp)
    show dg a :: 46 :: sepD (b :: r ++ [x]) = _
    rw [ih]
    rfl
theorem sepD_len : ∀ p : List Int, (sepD p).length ≤ 2 * p.length
  | [] => Nat.le_refl _
  | [a] => by simp [sepD]
  | a :: b :: r => by
    have := sepD_len (b :: r)
    simp only [sepD, List.length_cons] at this ⊢
    omega
theorem sepD_cuts : ∀ p : List Int, p ≠ [] → Dig p → cuts 46 (sepD p) = p.map fun x => [dg x]
  | [], h, _ => absurd rfl h
  | [a], _, h => cuts_out 46 [dg a] (by simp; exact fun e => dg_ne (h a (by simp)) 46 (by decide) e.symm)
  | a :: b :: r, _, h => by
    have ih := sepD_cuts (b :: r) (by simp) (fun x hx => h x (List.mem_cons_of_mem _ hx))
    show cuts 46 ([dg a] ++ 46 :: sepD (b :: r)) = _
    rw [cuts_in 46 [dg a] _ (by simp; exact fun e => dg_ne (h a (by simp)) 46 (by decide) e.symm), ih]
    rfl
theorem sepD_low : ∀ p : List Int, Dig p → lowL (sepD p) = sepD p
  | [], _ => rfl
  | [a], h => by
    have h0 := h a (by simp)
    have h1 := dg_nat h0
    show [low1 (dg a)] = [dg a]
    unfold low1
    rw [if_neg (by omega)]
  | a :: b :: r, h => by
    have h0 := h a (by simp)
    have h1 := dg_nat h0
    show low1 (dg a) :: low1 46 :: lowL (sepD (b :: r)) = _
    rw [sepD_low (b :: r) (fun x hx => h x (List.mem_cons_of_mem _ hx)), show low1 46 = 46 by rfl]
    unfold low1
    rw [if_neg (by omega)]
    rfl
def allOne (p : List Int) : Bool := p.all fun x => decide (x ≥ 1)
theorem all_good : ∀ p : List Int, Dig p → (p.map fun x => [dg x]).all good = allOne p
  | [], _ => rfl
  | a :: r, h => by
    have h0 := h a (by simp)
    have h1 := dg_nat h0
    have ih := all_good r (fun x hx => h x (List.mem_cons_of_mem _ hx))
    unfold allOne at ih ⊢
    rw [List.map_cons, List.all_cons, List.all_cons, ih]
    congr 1
    show decide (49 ≤ (dg a).toNat ∧ (dg a).toNat ≤ 57) = decide (a ≥ 1)
    refine decide_eq_decide.2 ?_
    omega
theorem path_sep (p : List Int) (hp : p ≠ []) (h : Dig p) : pathP (sepD p) = if allOne p = true then (p, decide ((p.length : Int) ≤ 4)) else ([], false) := by
  have hne : sepD p ≠ [] := by
    intro e
    have := sepD_cuts p hp h
    rw [e] at this
    cases p with
    | nil => exact hp rfl
    | cons a r => have := List.cons.inj this; exact absurd this.1.symm (by simp)
  unfold pathP pathC
  rw [if_neg hne, sepD_cuts p hp h, List.length_map]
  have hg := all_good p h
  have hv : (p.map fun x => [dg x]).map val = p := by
    rw [List.map_map]
    conv => rhs; rw [← List.map_id p]
    refine List.map_congr_left fun x hx => ?_
    have := dg_nat (h x hx)
    have h0 := h x hx
    show ((dg x).toNat : Int) - 48 = x
    omega
  rw [hg, hv]
/-! ### The law's token -/
def bodyQ : List UInt8 := [66, 79, 68, 89, 46, 112, 101, 101, 107, 91]
theorem item_sep (p : List Int) (hp : p ≠ []) (h : Dig p) (k : Nat) (hl : p.length ≤ 8) (hk : 100 < k) :
    show_item.f k (mk (bodyQ ++ sepD p ++ [93])) = some (5, (pathP (sepD p)).1, (pathP (sepD p)).2) := by
  have hsl := sepD_len p
  have hlow : lowL (bodyQ ++ sepD p ++ [93]) = bodyP ++ (sepD p ++ [93]) := by
    unfold lowL
    rw [List.map_append, List.map_append, List.append_assoc]
    have := sepD_low p h
    unfold lowL at this
    rw [this]
    rfl
  obtain ⟨x, r, hx, hd⟩ : ∃ x r, sepD p ++ [93] = dg x :: r ∧ (0 ≤ x ∧ x ≤ 9) := by
    match p, hp with
    | [a], _ => exact ⟨a, [93], rfl, h a (by simp)⟩
    | a :: b :: r, _ => exact ⟨a, _, rfl, h a (by simp)⟩
  rw [item_mk _ (by simp [bodyQ]; omega) k (by simp [bodyQ]; omega), hlow]
  have hpre : Lib.hasPrefix (bodyP ++ (sepD p ++ [93])) bodyP = true := by
    unfold Lib.hasPrefix
    exact List.isPrefixOf_iff_prefix.2 (List.prefix_append ..)
  have htp : Lib.trimPrefix (bodyP ++ (sepD p ++ [93])) bodyP = sepD p ++ [93] := by
    unfold Lib.trimPrefix
    rw [if_pos hpre, List.drop_left]
  have hsuf : Lib.hasSuffix (sepD p ++ [93]) [93] = true := by
    unfold Lib.hasSuffix
    exact List.isSuffixOf_iff_suffix.2 (List.suffix_append ..)
  have hts : Lib.trimSuffix (sepD p ++ [93]) [93] = sepD p := by
    unfold Lib.trimSuffix
    rw [if_pos hsuf, List.length_append, Nat.add_sub_cancel, List.take_left]
  unfold itemP
  have n5 : ¬ bodyP ++ (sepD p ++ [93]) = [98, 111, 100, 121, 46, 112, 101, 101, 107, 91, 104, 101, 97, 100, 101, 114, 93] := by
    rw [hx]
    intro e
    have := congrArg (fun l => l[10]?) e
    exact dg_ne hd 104 (by decide) (Option.some.inj this)
  have n6 : ¬ bodyP ++ (sepD p ++ [93]) = [98, 111, 100, 121, 46, 112, 101, 101, 107, 91, 116, 101, 120, 116, 93] := by
    rw [hx]
    intro e
    have := congrArg (fun l => l[10]?) e
    exact dg_ne hd 116 (by decide) (Option.some.inj this)
  rw [if_neg (by simp [bodyP]), if_neg (by simp [bodyP]), if_neg (by simp [bodyP]), if_neg (by simp [bodyP]), if_neg n5, if_neg n6, htp, hts, hpre, hsuf, Bool.true_and, Bool.true_and]
section
variable (l : List Int) (h1 : 1 ≤ l.length) (h8 : l.length ≤ 8)
include h1 h8
theorem same_l1 (r : List S28) : ∀ (m i k : Nat), i + m = l.length → 30 + m < k → letterboxlaw19_ShowPaths.l1 k l (⟨5, l⟩ :: r) i = some true
  | 0, i, k, h, hk => by
    obtain ⟨k, rfl⟩ : ∃ k', k = (20 + k') + 1 := ⟨k - 21, by omega⟩
    rw [letterboxlaw19_ShowPaths.l1, if_neg (by omega), known_true]
    rfl
  | m + 1, i, k, h, hk => by
    obtain ⟨k, rfl⟩ : ∃ k', k = k' + 1 := ⟨k - 1, by omega⟩
    have hr : rd_T28 (⟨5, l⟩ :: r : List S28) 0 = ⟨5, l⟩ := rfl
    rw [letterboxlaw19_ShowPaths.l1, if_pos (by omega), if_pos (by simp), if_pos (by omega), hr, if_pos (by show (i : Int) < (l.length : Int); omega), if_pos rfl, w64 _ (by omega) (by omega), show ((i : Int) + 1) = ((i + 1 : Nat) : Int) from rfl]
    exact same_l1 r m (i + 1) k (by omega) (by omega)
def okB (p : List Int) : Bool := decide ((l.length : Int) ≤ 4) && allOne p
omit h1 h8 in
theorem okB_snoc (p : List Int) (x : Int) : okB l (p ++ [x]) = (okB l p && decide (x ≥ 1)) := by
  unfold okB allOne
  rw [List.all_append, Bool.and_assoc]
  simp
theorem done_l0 (hD : Dig l) (k : Nat) (hk : 200 < k) : letterboxlaw19_ShowPaths.l0 k l (mk (bodyQ ++ sepD l)) (okB l l) l.length = some true := by
  obtain ⟨k, rfl⟩ : ∃ k', k = (20 + k') + 5 := ⟨k - 25, by omega⟩
  have hne : l ≠ [] := by intro e; rw [e] at h1; simp at h1
  have hsl := sepD_len l
  have hit := item_sep l hne hD (20 + k + 1) h8 (by omega)
  have hpo := parse_one (20 + k + 1) (by omega) _ _ _ _ hit
  rw [path_sep l hne hD] at hpo
  have happ : mk (bodyQ ++ sepD l) ++ (⟨#[93]⟩ : ByteArray) = mk (bodyQ ++ sepD l ++ [93]) := by
    rw [show (⟨#[93]⟩ : ByteArray) = mk [93] from rfl, mk_app]
  rw [letterboxlaw19_ShowPaths.l0, if_neg (by omega), if_pos (by rw [mk_size]; simp [bodyQ]; omega), happ]
  show (show_Parse.f (20 + k + 1 + 3) [⟨1, mk (bodyQ ++ sepD l ++ [93])⟩]).bind _ = _
  have hkn := known_true (k + 4)
  rw [hpo, Option.bind_some]
  unfold okB
  cases ha : allOne l with
  | false =>
    rw [Bool.and_false]
    show (letterboxlaw19_known.f (20 + (k + 4))).bind (fun t => some t) = some true
    rw [hkn]
    rfl
  | true =>
    by_cases h4 : (l.length : Int) ≤ 4
    · rw [decide_eq_true h4]
      show letterboxlaw19_ShowPaths.j3 (20 + k + 4) l [⟨5, l⟩] ((l.length : Int) != (l.length : Int)) = some true
      rw [show ((l.length : Int) != (l.length : Int)) = false by simp, letterboxlaw19_ShowPaths.j3, if_neg (by simp)]
      exact same_l1 l h1 h8 [] l.length 0 _ (by omega) (by omega)
    · rw [decide_eq_false h4]
      show (letterboxlaw19_known.f (20 + (k + 4))).bind (fun t => some t) = some true
      rw [hkn]
      rfl
theorem loop_l0 : ∀ (m i k : Nat), i + m = l.length → 250 + 2 * m < k → Dig (l.take i) → letterboxlaw19_ShowPaths.l0 k l (mk (bodyQ ++ sepD (l.take i))) (okB l (l.take i)) i = some true
  | 0, i, k, h, hk, hD => by
    obtain rfl : i = l.length := by omega
    rw [List.take_length] at hD ⊢
    exact done_l0 l h1 h8 hD k (by omega)
  | m + 1, i, k, h, hk, hD => by
    obtain ⟨k, rfl⟩ : ∃ k', k = k' + 2 := ⟨k - 2, by omega⟩
    have hi : i < l.length := by omega
    obtain ⟨x, hx⟩ : ∃ x, l[i]? = some x := ⟨_, List.getElem?_eq_getElem hi⟩
    have hr : rd l (i : Int) = x := by
      unfold rd
      rw [Int.toNat_natCast, List.getD_eq_getElem?_getD, hx]
      rfl
    have htk : l.take (i + 1) = l.take i ++ [x] := by rw [List.take_add_one, hx]; rfl
    have hsl := sepD_len (l.take i)
    rw [List.length_take] at hsl
    have hbad : ∀ y b, letterboxlaw19_ShowPaths.j2 (k + 1) l y b i true = some true := fun y b => by rw [letterboxlaw19_ShowPaths.j2, if_pos rfl]
    rw [letterboxlaw19_ShowPaths.l0, if_pos (by omega), if_pos (by omega), hr]
    by_cases c1 : x < 0
    · rw [if_pos c1, hbad]
    rw [if_neg c1]
    by_cases c2 : x > 9
    · rw [decide_eq_true c2, hbad]
    have hxd : 0 ≤ x ∧ x ≤ 9 := by omega
    have hD2 : Dig (l.take (i + 1)) := by
      rw [htk]
      intro y hy
      rcases List.mem_append.1 hy with hy | hy
      · exact hD y hy
      · rw [List.mem_singleton.1 hy]; exact hxd
    have hstr : strOfNums [(wrap64 (48 + x)) % 256] = mk [dg x] := by
      apply ext_list
      rw [strOfNums_data, mk_list, w64 _ (by omega) (by omega)]
      show [UInt8.ofNat ((48 + x) % 256).toNat] = [dg x]
      unfold dg
      rw [show (48 + x) % 256 = 48 + x by omega]
    have hsz : (mk (bodyQ ++ sepD (l.take i))).size ≤ 100 := by rw [mk_size]; simp [bodyQ]; omega
    have hgo := loop_l0 m (i + 1) k (by omega) (by omega) hD2
    rw [htk, okB_snoc] at hgo
    rw [decide_eq_false c2, letterboxlaw19_ShowPaths.j2, if_neg (by simp), hr, w64 ((i : Int) + 1) (by omega) (by omega), show ((i : Int) + 1) = ((i + 1 : Nat) : Int) from rfl]
    by_cases c0 : i = 0
    · subst c0
      have e0 : mk (bodyQ ++ sepD (l.take 0)) ++ mk [dg x] = mk (bodyQ ++ sepD (l.take 0 ++ [x])) := by rw [mk_app]; simp [sepD]
      cases hok : okB l (l.take 0) with
      | true =>
        rw [hok, Bool.true_and] at hgo
        rw [if_pos rfl, if_pos (by omega), if_pos (by omega), if_neg (by omega), Option.bind_some, hstr, if_pos (by rw [mk_size [dg x]]; simp only [List.length_singleton]; omega), e0]
        exact hgo
      | false =>
        rw [hok, Bool.false_and] at hgo
        rw [if_neg (by simp), if_neg (by omega), if_pos (by omega), if_pos (by omega), Option.bind_some, hstr, if_pos (by rw [mk_size [dg x]]; simp only [List.length_singleton]; omega), e0]
        exact hgo
    · have hne : l.take i ≠ [] := by
        intro e
        rcases List.take_eq_nil_iff.1 e with e | e
        · exact c0 e
        · rw [e] at h1; simp at h1
      have e0 : mk (bodyQ ++ sepD (l.take i)) ++ (⟨#[46]⟩ : ByteArray) ++ mk [dg x] = mk (bodyQ ++ sepD (l.take i ++ [x])) := by
        rw [show (⟨#[46]⟩ : ByteArray) = mk [46] from rfl, mk_app, mk_app, sepD_snoc _ _ hne]
        simp only [List.append_assoc]
      cases hok : okB l (l.take i) with
      | true =>
        rw [hok, Bool.true_and] at hgo
        rw [if_pos rfl, if_pos (by omega), if_pos (by omega), if_pos (by omega), if_pos (by omega), Option.bind_some, hstr, if_pos (by rw [mk_size [dg x]]; simp only [List.length_singleton]; omega), e0]
        exact hgo
      | false =>
        rw [hok, Bool.false_and] at hgo
        rw [if_neg (by simp), if_pos (by omega), if_pos (by omega), if_pos (by omega), if_pos (by omega), Option.bind_some, hstr, if_pos (by rw [mk_size [dg x]]; simp only [List.length_singleton]; omega), e0]
        exact hgo
end
theorem ShowPaths (l0 : List Int) (_ : ∀ n ∈ l0, (Lit.int .i64 n).wf = true) : ∃ k, letterboxlaw19_ShowPaths.f k l0 = some true := by
  refine ⟨400, ?_⟩
  have hj : letterboxlaw19_ShowPaths.j0 400 l0 true = some true := by rw [letterboxlaw19_ShowPaths.j0, if_pos rfl]
  unfold letterboxlaw19_ShowPaths.f
  by_cases c1 : (l0.length : Int) < 1
  · rw [if_pos c1, hj]
  rw [if_neg c1]
  by_cases c2 : (l0.length : Int) > 8
  · rw [decide_eq_true c2, hj]
  rw [decide_eq_false c2, letterboxlaw19_ShowPaths.j0, if_neg (by simp)]
  have := loop_l0 l0 (by omega) (by omega) l0.length 0 399 (by omega) (by omega) (fun x hx => by simp at hx)
  unfold okB allOne at this
  rw [List.take_zero, List.all_nil, Bool.and_true] at this
  exact this
end Go.Proofs.YtalabkaalbllgaaGreatDoor.Pure
