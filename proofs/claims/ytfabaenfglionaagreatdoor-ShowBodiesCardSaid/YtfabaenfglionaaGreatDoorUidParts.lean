/- Where a message's parts are; how many there are. -/
import Derived.Test.YtfabaenfglionaaGreatDoorUidSplit
import Derived.Test.YtfabaenfglionaaGreatDoorPx3
namespace Go.Proofs.YtfabaenfglionaaGreatDoor.Pure
open Go.RowKit Go.Proofs.YtfabaenfglionaaGreatDoor Go.Proofs.YtfabaenfglionaaGreatDoor.P Go.Proofs.YtfabaenfglionaaGreatDoor.Spec Go.Proofs.YtfabaenfglionaaGreatDoorW.PrintWords Go.Proofs.YtfabaenfglionaaGreatDoorW.PrintLast Go.Proofs.YtfabaenfglionaaGreatDoorW.PrintMore

def Chain : Nat → List S59 → Nat → Prop
  | lo, [], hi => lo ≤ hi
  | lo, p :: ps, hi => ∃ a b : Nat, p.f0 = (a : Int) ∧ p.f1 = (b : Int) ∧ lo ≤ a ∧ a ≤ b ∧ Chain b ps hi
theorem Chain.up : ∀ {ps : List S59} {lo mid hi : Nat}, Chain lo ps mid → mid ≤ hi → Chain lo ps hi
  | [], _, _, _, h, hm => Nat.le_trans h hm
  | _ :: _, _, _, _, ⟨a, b, h0, h1, h2, h3, h4⟩, hm => ⟨a, b, h0, h1, h2, h3, h4.up hm⟩
theorem Chain.snoc : ∀ {ps : List S59} {lo mid hi a b : Nat}, Chain lo ps mid → mid ≤ a → a ≤ b → b ≤ hi → Chain lo (ps ++ [⟨a, b⟩]) hi
  | [], _, _, _, a, b, h, h1, h2, h3 => ⟨a, b, rfl, rfl, Nat.le_trans h h1, h2, h3⟩
  | _ :: _, _, _, _, _, _, ⟨a, b, h0, h1, h2, h3, h4⟩, k1, k2, k3 => ⟨a, b, h0, h1, h2, h3, h4.snoc k1 k2 k3⟩
theorem Chain.le : ∀ {ps : List S59} {lo hi : Nat}, Chain lo ps hi → lo ≤ hi
  | [], _, _, h => h
  | _ :: _, _, _, ⟨_, _, _, _, h2, h3, h4⟩ => Nat.le_trans h2 (Nat.le_trans h3 h4.le)
theorem Chain.mem : ∀ {ps : List S59} {lo hi : Nat} {p : S59}, Chain lo ps hi → p ∈ ps → ∃ a b : Nat, p.f0 = (a : Int) ∧ p.f1 = (b : Int) ∧ a ≤ b ∧ b ≤ hi
  | q :: ps, _, _, p, ⟨a, b, h0, h1, _, h3, h4⟩, hm => by
    rcases List.mem_cons.1 hm with rfl | hm
    · exact ⟨a, b, h0, h1, h3, h4.le⟩
    · exact h4.mem hm
def ended (l : List Int) (a b : Nat) : Nat := a + (if (strip 10 ((l.take b).drop a)).length < ((l.take b).drop a).length then (strip 13 (strip 10 ((l.take b).drop a))).length else ((l.take b).drop a).length)
theorem ended_le {l : List Int} {a b : Nat} (h1 : a ≤ b) : a ≤ ended l a b ∧ ended l a b ≤ b := by
  have h2 := strip_le 10 ((l.take b).drop a)
  have h3 := strip_le 13 (strip 10 ((l.take b).drop a))
  have h4 : ((l.take b).drop a).length ≤ b - a := by
    rw [List.length_drop, List.length_take]
    omega
  unfold ended
  split <;> omega
theorem ended_eq (l : List Int) (a b : Nat) (hb : Byt l) (hl : l.length ≤ 100000) (h1 : a ≤ b) (h2 : b ≤ l.length) : mime_ended.f l a b = some ((a : Int), (ended l a b : Int)) := by
  have hbs : Byt ((l.take b).drop a) := (hb.take b).drop a
  have hlen : ((l.take b).drop a).length = b - a := by
    rw [List.length_drop, List.length_take]
    omega
  unfold mime_ended.f ended
  rw [if_pos (by omega), if_pos (by omega), if_pos (by omega), Int.toNat_natCast, Int.toNat_natCast]
  generalize (l.take b).drop a = s at hbs hlen
  have s1 := strip_le 10 s
  have s2 := strip_le 13 (strip 10 s)
  rw [TrimSuffix_eq s 10 hbs (by omega) (by omega), Option.bind_some]
  by_cases hc : (strip 10 s).length < s.length
  · rw [if_pos (by omega), if_pos hc, TrimSuffix_eq _ 13 (fun x hx => hbs x (strip_mem hx)) (by omega) (by omega), Option.bind_some, w64 _ (by omega) (by omega)]
    rfl
  · rw [if_neg (by omega), if_neg hc, w64 _ (by omega) (by omega)]
    rfl
theorem fl_out : ∀ l : List Int, ¬ (10 : Int) ∈ l → fl l = l.length
  | [], _ => rfl
  | c :: l, h => by
    rw [List.mem_cons, not_or] at h
    rw [fl_other (fun e => h.1 e.symm), fl_out l h.2, List.length_cons]
def fromI : Option Nat → Int
  | none => -1
  | some f => (f : Int)
def fin (l : List Int) (at' : Nat) (fr : Option Nat) (out : List S59) : List S59 :=
  match fr with
  | none => out
  | some f => out ++ [⟨(f : Int), (ended l f at' : Int)⟩]
def pgo (l : List Int) (o : ByteArray) : List (List Int) → Nat → Option Nat → List S59 → List S59
  | [], at', fr, out => fin l at' fr out
  | x :: xs, at', fr, out =>
    if (strOfNums (txt x)).toList = ((⟨#[45, 45]⟩ : ByteArray) ++ o).toList then
      match fr with
      | none => if out.length < 16 then pgo l o xs (at' + x.length) (some (at' + x.length)) out else pgo l o xs (at' + x.length) none out
      | some f => if out.length < 15 then pgo l o xs (at' + x.length) (some (at' + x.length)) (out ++ [⟨(f : Int), (ended l f at' : Int)⟩]) else pgo l o xs (at' + x.length) (some f) out
    else if (strOfNums (txt x)).toList = (((⟨#[45, 45]⟩ : ByteArray) ++ o) ++ (⟨#[45, 45]⟩ : ByteArray)).toList then fin l at' fr out
    else pgo l o xs (at' + x.length) fr out
theorem fin_eq (l : List Int) (hb : Byt l) (hl : l.length ≤ 20000) (at' : Nat) (ha : at' ≤ l.length) (fr : Option Nat) (hf : ∀ f, fr = some f → f ≤ at') (out : List S59) (ho : out.length ≤ 16) :
    (if fromI fr ≥ 0 then ((mime_ended.f l (fromI fr) (mx at' (fromI fr))).bind fun bt => (if out.length < 8796093022208 then (some (out ++ [(⟨bt.1, bt.2⟩ : S59)])) else (none))) else (some out)) = some (fin l at' fr out) := by
  cases fr with
  | none => rfl
  | some f =>
    have h := hf f rfl
    have hmx : mx (at' : Int) (fromI (some f)) = (at' : Int) := by
      show mx (at' : Int) (f : Int) = (at' : Int)
      unfold mx
      split <;> omega
    rw [hmx]
    unfold fromI fin
    simp only
    rw [if_pos (by omega), ended_eq l f at' hb (by omega) h ha, Option.bind_some, if_pos (by omega)]
theorem Parts_end (l : List Int) (hb : Byt l) (hl : l.length ≤ 20000) (o : ByteArray) (k : Nat) (fr : Option Nat) (hf : ∀ f, fr = some f → f ≤ l.length) (out : List S59) (ho : out.length ≤ 16) :
    mime_Parts.l101 (k + 1) l o (l.length : Int) (fromI fr) out = some (pgo l o [] l.length fr out) := by
  unfold mime_Parts.l101
  rw [if_pos (by omega), fin_eq l hb hl l.length (Nat.le_refl _) fr hf out ho]
  rfl
theorem Parts_l101 (l : List Int) (hb : Byt l) (hl : l.length ≤ 20000) (o : ByteArray) (hos : o.size ≤ 100000) : ∀ (n k at' : Nat) (fr : Option Nat) (out : List S59), at' ≤ l.length → l.length - at' ≤ n → 3 * n + 1 ≤ k → (∀ f, fr = some f → f ≤ at') → out.length ≤ 16 →
    mime_Parts.l101 k l o (at' : Int) (fromI fr) out = some (pgo l o (lines (l.drop at')) at' fr out)
  | 0, k, at', fr, out, h1, h2, h3, h4, h5 => by
    obtain rfl : at' = l.length := by omega
    obtain ⟨j, rfl⟩ : ∃ j, k = j + 1 := ⟨k - 1, by omega⟩
    rw [List.drop_length, Parts_end l hb hl o j fr h4 out h5]
    rfl
  | n + 1, k, at', fr, out, h1, h2, h3, h4, h5 => by
    by_cases hlt : at' = l.length
    · subst hlt
      obtain ⟨j, rfl⟩ : ∃ j, k = j + 1 := ⟨k - 1, by omega⟩
      rw [List.drop_length, Parts_end l hb hl o j fr h4 out h5]
      rfl
    · obtain ⟨j, rfl⟩ : ∃ j, k = j + 3 := ⟨k - 3, by omega⟩
      have hrl : (l.drop at').length = l.length - at' := List.length_drop ..
      have hne : l.drop at' ≠ [] := by
        intro e
        rw [e] at hrl
        simp at hrl
        omega
      have hbr : Byt (l.drop at') := hb.drop at'
      have hfp := fl_pos hne
      have hfle := fl_le (l.drop at')
      have hxl : ((l.drop at').take (fl (l.drop at'))).length = fl (l.drop at') := by
        rw [List.length_take]
        omega
      have hdd : (l.drop at').drop (fl (l.drop at')) = l.drop (at' + fl (l.drop at')) := by rw [List.drop_drop]
      have hline : ∀ (K : Nat), (if (bytes_IndexByte.f (l.drop at') 10).getD 0 ≥ 0 then (if 0 ≤ (wrap64 ((bytes_IndexByte.f (l.drop at') 10).getD 0 + 1)) then (if (wrap64 ((bytes_IndexByte.f (l.drop at') 10).getD 0 + 1)) ≤ ((l.drop at').length : Int) then (mime_Parts.j2 K l o at' (fromI fr) out ((l.drop at').take ((wrap64 ((bytes_IndexByte.f (l.drop at') 10).getD 0 + 1)) : Int).toNat)) else (none)) else (none)) else (mime_Parts.j2 K l o at' (fromI fr) out (l.drop at'))) = mime_Parts.j2 K l o at' (fromI fr) out ((l.drop at').take (fl (l.drop at'))) := by
        intro K
        have e : (bytes_IndexByte.f (l.drop at') 10).getD 0 = if (10 : Int) ∈ l.drop at' then (fl (l.drop at') : Int) - 1 else -1 := index_ten hbr
        rw [e]
        by_cases hm : (10 : Int) ∈ l.drop at'
        · rw [if_pos hm, if_pos (by omega), w64 _ (by omega) (by omega), if_pos (by omega), if_pos (by omega), show ((fl (l.drop at') : Int) - 1 + 1).toNat = fl (l.drop at') by omega]
        · rw [if_neg hm, if_neg (by omega), fl_out _ hm, List.take_length]
      unfold mime_Parts.l101
      rw [if_neg (by omega), if_pos (by omega), if_pos (by omega), Option.bind_some, Int.toNat_natCast]
      have hi : bytes_IndexByte.f (l.drop at') 10 = some ((bytes_IndexByte.f (l.drop at') 10).getD 0) := rfl
      rw [hi, Option.bind_some, hline, lines_ne hne, hdd]
      generalize hx : (l.drop at').take (fl (l.drop at')) = x at hxl
      have hbx : Byt x := by rw [← hx]; exact hbr.take _
      have hx6 : x.length ≤ 1000000 := by omega
      clear hline hi
      have next : ∀ (fr' : Option Nat) (out' : List S59), (∀ f, fr' = some f → f ≤ at' + x.length) → out'.length ≤ 16 → mime_Parts.l101 j l o ((at' : Int) + (x.length : Int)) (fromI fr') out' = some (pgo l o (lines (l.drop (at' + fl (l.drop at')))) (at' + x.length) fr' out') := by
        intro fr' out' g1 g2
        have := Parts_l101 l hb hl o hos n j (at' + x.length) fr' out' (by omega) (by omega) (by omega) g1 g2
        rw [← hxl]
        exact this
      have next1 : ∀ (fr' : Option Nat) (out' : List S59), (∀ f, fr' = some f → f ≤ at' + x.length) → out'.length ≤ 16 → mime_Parts.l101 (j + 1) l o ((at' : Int) + (x.length : Int)) (fromI fr') out' = some (pgo l o (lines (l.drop (at' + fl (l.drop at')))) (at' + x.length) fr' out') := by
        intro fr' out' g1 g2
        have := Parts_l101 l hb hl o hos n (j + 1) (at' + x.length) fr' out' (by omega) (by omega) (by omega) g1 g2
        rw [← hxl]
        exact this
      have hw : wrap64 ((at' : Int) + (x.length : Int)) = (at' : Int) + (x.length : Int) := w64 _ (by omega) (by omega)
      have later : ∀ f, fr = some f → f ≤ at' + x.length := fun f hf => Nat.le_trans (h4 f hf) (by omega)
      unfold mime_Parts.j2 pgo
      rw [TrimSuffix_eq x 10 hbx ⟨by decide, by decide⟩ hx6, Option.bind_some, TrimSuffix_eq _ 13 (fun y hy => hbx y (strip_mem hy)) ⟨by decide, by decide⟩ (Nat.le_trans (strip_le 10 x) hx6), Option.bind_some, show strip 13 (strip 10 x) = txt x from rfl, if_pos (by omega)]
      by_cases hk1 : (strOfNums (txt x)).toList = ((⟨#[45, 45]⟩ : ByteArray) ++ o).toList
      · rw [if_pos hk1, if_pos hk1]
        cases fr with
        | none =>
          simp only
          rw [show fromI none = -1 from rfl, if_pos (by omega)]
          by_cases h16 : out.length < 16
          · rw [if_pos (by omega), if_pos h16]
            unfold mime_Parts.j3
            rw [if_pos rfl, if_neg (by omega), hw]
            exact next (some (at' + x.length)) out (fun f hf => by cases hf; exact Nat.le_refl _) h5
          · rw [if_neg (by omega), if_neg h16, if_neg (by omega)]
            unfold mime_Parts.j3
            rw [if_neg Bool.false_ne_true, hw]
            exact next none out (fun f hf => by cases hf) h5
        | some f =>
          have hf := h4 f rfl
          simp only
          rw [show fromI (some f) = (f : Int) from rfl, if_neg (by omega), if_pos (by omega)]
          unfold mime_Parts.j3
          by_cases h15 : out.length < 15
          · rw [if_pos (decide_eq_true (by omega)), if_pos h15, if_pos (by omega), ended_eq l f at' hb (by omega) hf h1, Option.bind_some, if_pos (by omega), hw]
            exact next (some (at' + x.length)) _ (fun f hf => by cases hf; exact Nat.le_refl _) (by rw [List.length_append, List.length_singleton]; omega)
          · rw [if_neg (by rw [decide_eq_false (by omega)]; exact Bool.false_ne_true), if_neg h15, hw]
            exact next (some f) out later h5
      · rw [if_neg hk1, if_neg hk1, if_pos (by omega)]
        by_cases hk2 : (strOfNums (txt x)).toList = (((⟨#[45, 45]⟩ : ByteArray) ++ o) ++ (⟨#[45, 45]⟩ : ByteArray)).toList
        · rw [if_pos hk2, if_pos hk2]
          exact fin_eq l hb hl at' h1 fr h4 out h5
        · rw [if_neg hk2, if_neg hk2, hw]
          exact next1 fr out later h5
theorem pgo_ok (l : List Int) (o : ByteArray) : ∀ (xs : List (List Int)) (at' : Nat) (fr : Option Nat) (out : List S59), at' + xs.flatten.length ≤ l.length → (match fr with | none => out.length ≤ 16 ∧ Chain 0 out at' | some f => f ≤ at' ∧ out.length ≤ 15 ∧ Chain 0 out f) →
    Chain 0 (pgo l o xs at' fr out) l.length ∧ (pgo l o xs at' fr out).length ≤ 16 := by
  have hfin : ∀ (at' : Nat) (fr : Option Nat) (out : List S59), at' ≤ l.length → (match fr with | none => out.length ≤ 16 ∧ Chain 0 out at' | some f => f ≤ at' ∧ out.length ≤ 15 ∧ Chain 0 out f) → Chain 0 (fin l at' fr out) l.length ∧ (fin l at' fr out).length ≤ 16 := by
    intro at' fr out h1 h2
    cases fr with
    | none => exact ⟨h2.2.up h1, h2.1⟩
    | some f =>
      have he := ended_le (l := l) h2.1
      refine ⟨h2.2.2.snoc (Nat.le_refl _) he.1 (Nat.le_trans he.2 h1), ?_⟩
      have := h2.2.1
      unfold fin
      simp only
      rw [List.length_append, List.length_singleton]
      omega
  intro xs
  induction xs with
  | nil =>
    intro at' fr out h1 h2
    exact hfin at' fr out (by simpa using h1) h2
  | cons x xs ih =>
    intro at' fr out h1 h2
    rw [List.flatten_cons, List.length_append] at h1
    unfold pgo
    by_cases hk1 : (strOfNums (txt x)).toList = ((⟨#[45, 45]⟩ : ByteArray) ++ o).toList
    · rw [if_pos hk1]
      cases fr with
      | none =>
        simp only
        by_cases h16 : out.length < 16
        · rw [if_pos h16]
          exact ih _ _ _ (by omega) ⟨Nat.le_refl _, by omega, h2.2.up (by omega)⟩
        · rw [if_neg h16]
          exact ih _ _ _ (by omega) ⟨h2.1, h2.2.up (by omega)⟩
      | some f =>
        have he := ended_le (l := l) h2.1
        have h3 := h2.1
        have h4 := h2.2.1
        simp only
        by_cases h15 : out.length < 15
        · rw [if_pos h15]
          exact ih _ _ _ (by omega) ⟨Nat.le_refl _, by rw [List.length_append, List.length_singleton]; omega, h2.2.2.snoc (Nat.le_refl _) he.1 (by omega)⟩
        · rw [if_neg h15]
          exact ih _ _ _ (by omega) ⟨by omega, h4, h2.2.2⟩
    · rw [if_neg hk1]
      by_cases hk2 : (strOfNums (txt x)).toList = (((⟨#[45, 45]⟩ : ByteArray) ++ o) ++ (⟨#[45, 45]⟩ : ByteArray)).toList
      · rw [if_pos hk2]
        exact hfin at' fr out (by omega) h2
      · rw [if_neg hk2]
        refine ih _ _ _ (by omega) ?_
        cases fr with
        | none => exact ⟨h2.1, h2.2.up (by omega)⟩
        | some f =>
          have h3 := h2.1
          exact ⟨by omega, h2.2.1, h2.2.2⟩
def multi : List UInt8 := [109, 117, 108, 116, 105, 112, 97, 114, 116]
def uparts (l : List Int) (m o : ByteArray) : List S59 := if m.toList = multi ∧ ¬ o.toList = [] then pgo l o (lines (l.drop (hend l))) (hend l) none [] else []
theorem Parts_eq (k : Nat) (l : List Int) (hb : Byt l) (hl : l.length ≤ 20000) (hk : 3 * l.length + 10 < k) {m s o : ByteArray} (hT : mime_Type.f k l = some (m, s, o)) (ho : o.size ≤ 100000) : mime_Parts.f k l = some (uparts l m o) := by
  obtain ⟨j, rfl⟩ : ∃ j, k = j + 1 := ⟨k - 1, by omega⟩
  have hh := hend_le l
  unfold mime_Parts.f
  rw [hT, Option.bind_some]
  show (if m.toList = multi then mime_Parts.j0 (j + 1) l o (o.toList == ([] : List UInt8)) else mime_Parts.j0 (j + 1) l o true) = _
  unfold uparts
  by_cases h1 : m.toList = multi
  · rw [if_pos h1]
    rw [mime_Parts.j0]
    by_cases h2 : o.toList = []
    · rw [if_pos (beq_iff_eq.2 h2), if_neg (fun h => h.2 h2)]
    · rw [if_neg (fun h => h2 (beq_iff_eq.1 h)), if_pos ⟨h1, h2⟩, UBody_eq j l hb (by omega) (by omega), Option.bind_some, List.length_drop, w64 _ (by omega) (by omega), show ((l.length : Int) - ((l.length - hend l : Nat) : Int)) = ((hend l : Nat) : Int) by omega]
      exact Parts_l101 l hb hl o ho l.length j (hend l) none [] hh (by omega) (by omega) (fun f hf => by cases hf) (by simp)
  · rw [if_neg h1, if_neg (fun h => h1 h.1)]
    rw [mime_Parts.j0]
    rw [if_pos rfl]
theorem uparts_ok (l : List Int) (m o : ByteArray) : Chain 0 (uparts l m o) l.length ∧ (uparts l m o).length ≤ 16 := by
  unfold uparts
  split
  · refine pgo_ok l o _ _ _ _ ?_ ⟨by simp, Nat.zero_le _⟩
    rw [lines_flatten, List.length_drop]
    have := hend_le l
    omega
  · exact ⟨Nat.zero_le _, by simp⟩
theorem Parts_ex (k : Nat) (l : List Int) (hb : Byt l) (hl : l.length ≤ 20000) (hk : 8 * l.length + 20 < k) : ∃ ps, mime_Parts.f k l = some ps ∧ Chain 0 ps l.length ∧ ps.length ≤ 16 := by
  obtain ⟨m, s, o, hT, ho⟩ := Type_ex k l hb hl hk
  have := uparts_ok l m o
  exact ⟨_, Parts_eq k l hb hl (by omega) hT (by omega), this.1, this.2⟩
theorem rd_TP_nat (xs : List S59) (i : Nat) : rd_T59 xs (i : Int) = xs.getD i z59 := by unfold rd_T59; rw [Int.toNat_natCast]
theorem getD_P {xs : List S59} {i : Nat} (h : i < xs.length) : xs.getD i z59 ∈ xs := by
  rw [List.getD_eq_getElem?_getD, List.getElem?_eq_getElem h]
  exact List.getElem_mem h
theorem Byt.of {l : List Int} (h : ∀ x ∈ l, (Lit.int .u8 x).wf = true) : Byt l := by
  intro x hx
  have := h x hx
  simp [Lit.wf, IntKind.min, IntKind.max, IntKind.signed, IntKind.bits] at this
  omega
end Go.Proofs.YtfabaenfglionaaGreatDoor.Pure
