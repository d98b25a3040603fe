/- A message with one field ahead of its body; what its type is. -/
import Derived.Test.YtilgmheilepkgaaDoorMimeSplit
namespace Go.Proofs.YtilgmheilepkgaaDoor.Spec
theorem fl_until {m r : List Int} (h : ¬ (10 : Int) ∈ m) : fl (m ++ 10 :: r) = m.length + 1 := by
  induction m with
  | nil => rw [List.nil_append, fl_ten rfl]; rfl
  | cons c m ih =>
    rw [List.cons_append, fl_other (by intro hc; exact h (by simp [hc])), ih (fun hm => h (List.mem_cons_of_mem _ hm))]
    rfl
theorem lines_until {m r : List Int} (h : ¬ (10 : Int) ∈ m) : lines (m ++ 10 :: r) = (m ++ [10]) :: lines r := by
  rw [lines_ne (by simp), fl_until h]
  congr 1
  · rw [List.take_append, List.take_of_length_le (by omega), show m.length + 1 - m.length = 1 by omega]
    rfl
  · congr 1
    rw [List.drop_append, List.drop_of_length_le (by omega), show m.length + 1 - m.length = 1 by omega]
    rfl
theorem strip_concat (c x : Int) (m : List Int) : strip c (m ++ [x]) = if x = c then m else m ++ [x] := by
  unfold strip
  rw [List.getLast?_concat]
  simp only [Option.some.injEq, List.dropLast_concat]
theorem txt_crlf (m : List Int) : txt (m ++ [13, 10]) = m := by
  unfold txt
  rw [show m ++ [(13 : Int), 10] = (m ++ [13]) ++ [10] by simp, strip_concat, if_pos rfl, strip_concat, if_pos rfl]
theorem lines_crlf {m r : List Int} (h : ¬ (10 : Int) ∈ m) : lines (m ++ [13, 10] ++ r) = (m ++ [13, 10]) :: lines r := by
  have h2 : ¬ (10 : Int) ∈ m ++ [13] := by
    intro hm
    rcases List.mem_append.1 hm with h1 | h1
    · exact h h1
    · exact absurd (List.mem_singleton.1 h1) (by decide)
  have := lines_until (r := r) h2
  simpa using this
end Go.Proofs.YtilgmheilepkgaaDoor.Spec
namespace Go.Proofs.YtilgmheilepkgaaDoor.Pure
open Go.RowKit Go.Proofs.YtilgmheilepkgaaDoor Go.Proofs.YtilgmheilepkgaaDoor.P Go.Proofs.YtilgmheilepkgaaDoor.Spec Go.Proofs.YtilgmheilepkgaaDoorW.PrintWords Go.Proofs.YtilgmheilepkgaaDoorW.PrintLast Go.Proofs.YtilgmheilepkgaaDoorW.PrintMore

def ints (l : List UInt8) : List Int := l.map fun b => ((b.toNat : Nat) : Int)
theorem bytes_ints (s : ByteArray) : bytesOf s = ints s.data.toList := rfl
theorem ints_app (a b : List UInt8) : ints (a ++ b) = ints a ++ ints b := List.map_append
theorem ints_len (l : List UInt8) : (ints l).length = l.length := List.length_map ..
theorem ints_back (l : List UInt8) : (ints l).map (fun n => UInt8.ofNat n.toNat) = l := by
  unfold ints
  rw [List.map_map]
  have : ((fun n : Int => UInt8.ofNat n.toNat) ∘ fun b : UInt8 => ((b.toNat : Nat) : Int)) = id := by
    funext b
    simp
  rw [this, List.map_id]
theorem str_ints (l : List UInt8) : strOfNums (ints l) = mk l := ext_list (by rw [strOfNums_data, ints_back, mk_list])
theorem ints_mem {l : List UInt8} {n : Int} (h : n ∈ ints l) : ∃ b ∈ l, ((b.toNat : Nat) : Int) = n := List.mem_map.1 h
theorem ints_byt (l : List UInt8) : Byt (ints l) := by
  intro x hx
  obtain ⟨b, _, rfl⟩ := ints_mem hx
  have := UInt8.toNat_lt b
  omega
theorem ints_ten {l : List UInt8} (h : ¬ (10 : UInt8) ∈ l) : ¬ (10 : Int) ∈ ints l := by
  intro hm
  obtain ⟨b, hb, he⟩ := ints_mem hm
  have : b = 10 := UInt8.toNat_inj.1 (by simp; omega)
  rw [this] at hb
  exact h hb
theorem dw_self : ∀ l : List UInt8, (∀ b ∈ l, blk b = false) → l.dropWhile blk = l
  | [], _ => rfl
  | b :: l, h => by rw [List.dropWhile_cons, if_neg (by rw [h b List.mem_cons_self]; exact Bool.false_ne_true)]
theorem stripR_self (l : List UInt8) (h : ∀ b ∈ l, blk b = false) : stripR l = l := by
  unfold stripR
  rw [dw_self _ (fun b hb => h b (List.mem_reverse.1 hb)), List.reverse_reverse]
theorem trim_self (l : List UInt8) (h : ∀ b ∈ l, blk b = false) : trimB (mk l) = mk l :=
  ext_list (by rw [trimB_list, mk_list, dw_self _ h, stripR_self _ h])
theorem stripR_in : ∀ (x : List UInt8) (c : UInt8) (y : List UInt8), blk c = false → stripR (x ++ c :: y) = x ++ c :: stripR y
  | [], c, y, h => by
    rw [List.nil_append, List.nil_append, stripR_cons]
    split
    · rename_i he
      rw [he, if_neg (by rw [h]; exact Bool.false_ne_true)]
    · rfl
  | b :: x, c, y, h => by
    rw [List.cons_append, stripR_cons, stripR_in x c y h, if_neg (by simp), List.cons_append]
theorem stripR_mem {b : UInt8} {l : List UInt8} (h : b ∈ stripR l) : b ∈ l := by
  unfold stripR at h
  have h1 := List.mem_reverse.1 h
  exact List.mem_reverse.1 ((List.dropWhile_sublist _).subset h1)
theorem stripR_blank (x : List UInt8) (h : ∀ b ∈ x, blk b = false) : stripR (x ++ [32]) = x := by
  unfold stripR
  rw [List.reverse_append, List.reverse_singleton, List.singleton_append, List.dropWhile_cons, if_pos (by decide), dw_self _ (fun b hb => h b (List.mem_reverse.1 hb)), List.reverse_reverse]
/-- A message with one field. -/
def one (nm vl : List UInt8) (rest : List Int) : List Int := ints (nm ++ 58 :: vl) ++ [13, 10] ++ (([] : List Int) ++ [13, 10] ++ rest)
/-- What a field's name may be. -/
def Nm (nm : List UInt8) : Prop := nm ≠ [] ∧ ∀ b ∈ nm, blk b = false ∧ b ≠ 58 ∧ b ≠ 10
section
variable {nm vl : List UInt8} {rest : List Int}
theorem one_ten (hn : Nm nm) (hv : ¬ (10 : UInt8) ∈ vl) : ¬ (10 : Int) ∈ ints (nm ++ 58 :: vl) := by
  refine ints_ten fun h => ?_
  rcases List.mem_append.1 h with h | h
  · exact (hn.2 _ h).2.2 rfl
  · rcases List.mem_cons.1 h with h | h
    · exact absurd h (by decide)
    · exact hv h
theorem one_ne (_ : Nm nm) : ints (nm ++ 58 :: vl) ≠ [] := by
  intro h
  have := congrArg List.length h
  rw [ints_len] at this
  simp at this
theorem one_lines (hn : Nm nm) (hv : ¬ (10 : UInt8) ∈ vl) : lines (one nm vl rest) = (ints (nm ++ 58 :: vl) ++ [13, 10]) :: (([] : List Int) ++ [13, 10]) :: lines rest := by
  unfold one
  rw [lines_crlf (one_ten hn hv), lines_crlf (by simp)]
theorem one_heads (hn : Nm nm) (hv : ¬ (10 : UInt8) ∈ vl) : heads (lines (one nm vl rest)) = [ints (nm ++ 58 :: vl) ++ [13, 10], ([] : List Int) ++ [13, 10]] := by
  rw [one_lines hn hv, heads_cons, txt_crlf, if_neg (one_ne hn), heads_cons, txt_crlf, if_pos rfl]
theorem one_hend (hn : Nm nm) (hv : ¬ (10 : UInt8) ∈ vl) : hend (one nm vl rest) = (nm ++ 58 :: vl).length + 4 := by
  unfold hend
  rw [one_lines hn hv, upto_cons, txt_crlf, if_neg (one_ne hn), upto_cons, txt_crlf, if_pos rfl, List.length_append, ints_len]
  simp only [List.length_cons, List.length_nil, List.length_append]
theorem one_length : (one nm vl rest).length = (nm ++ 58 :: vl).length + 4 + rest.length := by
  unfold one
  rw [List.length_append, List.length_append, List.length_append, List.length_append, ints_len]
  simp only [List.length_cons, List.length_nil]
  omega
theorem one_body (hn : Nm nm) (hv : ¬ (10 : UInt8) ∈ vl) : (one nm vl rest).drop (hend (one nm vl rest)) = rest := by
  rw [one_hend hn hv]
  unfold one
  rw [← List.append_assoc]
  have : (nm ++ 58 :: vl).length + 4 = (ints (nm ++ 58 :: vl) ++ [13, 10] ++ (([] : List Int) ++ [13, 10])).length := by
    simp only [List.length_append, ints_len, List.length_cons, List.length_nil]
  rw [this, List.drop_left]
theorem one_fields (hn : Nm nm) (hv : ¬ (10 : UInt8) ∈ vl) : fields (one nm vl rest) = [⟨mk nm, trimB (mk vl)⟩] := by
  have nc : ¬ (58 : UInt8) ∈ nm := fun h => (hn.2 _ h).2.1 rfl
  have nb : ∀ b ∈ nm, blk b = false := fun b h => (hn.2 b h).1
  have hst := str_ints (nm ++ 58 :: vl)
  have d : (strOfNums (ints (nm ++ 58 :: vl))).data.toList = nm ++ 58 :: vl := by rw [hst, mk_list]
  have c : cix (strOfNums (ints (nm ++ 58 :: vl))) = (nm.length : Int) := by
    unfold cix
    rw [d]
    exact ix_in 58 nm vl nc
  have hf : blk (first (ints (nm ++ 58 :: vl))) = false := by
    obtain ⟨b, r, rfl⟩ : ∃ b r, nm = b :: r := by
      cases nm with
      | nil => exact absurd rfl hn.1
      | cons b r => exact ⟨b, r, rfl⟩
    have e : first (ints ((b :: r) ++ 58 :: vl)) = b := by
      unfold first ints
      simp
    rw [e]
    exact nb b List.mem_cons_self
  have s1 : fstep ([], false) (ints (nm ++ 58 :: vl)) = ([⟨mk nm, trimB (mk vl)⟩], true) := by
    unfold fstep
    rw [if_neg (by rw [hf]; exact Bool.false_ne_true), if_neg (by rw [c]; omega), c, hst, Int.toNat_natCast, ext_tail nm vl 58 _ rfl, ext_head nm (58 :: vl) _ rfl, trim_self nm nb]
    rfl
  unfold fields texts
  rw [one_heads hn hv]
  simp only [List.map_cons, List.map_nil, txt_crlf]
  rw [fgo, if_neg (one_ne hn), fgo, if_pos rfl, fgo, s1]
theorem one_get {name : ByteArray} (hn : Nm nm) (hv : ¬ (10 : UInt8) ∈ vl) (hs : same (mk nm) name = true) : (fget name (fields (one nm vl rest))).1 = trimB (mk vl) := by
  rw [one_fields hn hv]
  unfold fget
  rw [if_pos hs]
theorem one_byt (hr : Byt rest) : Byt (one nm vl rest) := by
  intro x hx
  unfold one at hx
  rcases List.mem_append.1 hx with hx | hx
  · rcases List.mem_append.1 hx with hx | hx
    · exact ints_byt _ x hx
    · simp at hx
      omega
  · rcases List.mem_append.1 hx with hx | hx
    · simp at hx
      omega
    · exact hr x hx
end
theorem bounded_none (L : List ByteArray) (hL : ∀ s ∈ L, ¬ (61 : UInt8) ∈ s.data.toList) (hn : L.length ≤ 200000) : ∀ (k i : Nat), i ≤ L.length → 2 * (L.length - i) + 1 ≤ k → mime_bounded.l0 k L L.length i = some ⟨#[]⟩
  | 0, _, _, h => absurd h (by omega)
  | 1, i, hi, h => by
    obtain rfl : i = L.length := by omega
    unfold mime_bounded.l0
    rw [if_neg (by omega)]
  | k + 2, i, hi, hk => by
    unfold mime_bounded.l0
    by_cases hlt : i < L.length
    · have hm : ¬ (61 : UInt8) ∈ (L.getD i ByteArray.empty).data.toList := by
        rw [List.getD_eq_getElem?_getD, List.getElem?_eq_getElem hlt]
        exact hL _ (List.getElem_mem hlt)
      rw [if_pos (by omega), if_pos (by omega), if_pos (by omega), rdOf_nat]
      generalize L.getD i ByteArray.empty = s at hm
      rw [show s = mk s.data.toList from (mk_self s).symm, cut_out 61 _ hm, Option.bind_some]
      dsimp only
      rw [if_neg Bool.false_ne_true]
      unfold mime_bounded.j1
      rw [if_pos rfl, w64 _ (by omega) (by omega), show ((i : Int) + 1) = ((i + 1 : Nat) : Int) from rfl]
      exact bounded_none L hL hn k (i + 1) (by omega) (by omega)
    · rw [if_neg (by omega)]
/-- What a message is, by its field. -/
theorem Type_val (k : Nat) (l : List Int) (hb : Byt l) (hl : l.length ≤ 20000) (hk : 8 * l.length + 20 < k) (v : ByteArray) (hv : (fget ctype (fields l)).1 = v) (p : List UInt8) (ps : List (List UInt8)) (hp : cuts 59 v.data.toList = p :: ps) (o : ByteArray) (ho : mime_bounded.f k (ps.map mk) = some o) (m s : ByteArray) (b : Bool) (hc : strings_Cut.f (lowB (trimB (mk p))) ⟨#[47]⟩ = some (m, s, b)) :
    mime_Type.f k l = some (if m.toList = [] then ((⟨#[116, 101, 120, 116]⟩ : ByteArray), (⟨#[112, 108, 97, 105, 110]⟩ : ByteArray), o) else if s.toList = [] then ((⟨#[116, 101, 120, 116]⟩ : ByteArray), (⟨#[112, 108, 97, 105, 110]⟩ : ByteArray), o) else (m, s, o)) := by
  have hv0 := fget_le (name := ctype) (fields_f1 l)
  unfold mime_Type.f
  rw [show (⟨#[99, 111, 110, 116, 101, 110, 116, 45, 116, 121, 112, 101]⟩ : ByteArray) = ctype from rfl, UGet_eq k l ctype hb (by omega) (by omega), Option.bind_some, hv]
  rw [hv] at hv0
  have hvs := Lib.size_eq v
  have hle := cuts_le 59 v.data.toList
  rw [show v = mk v.data.toList from (mk_self v).symm, Split_eq k 59 _ (by omega) (by omega), Option.bind_some]
  rw [hp] at hle
  rw [hp, List.map_cons]
  have ho2 : mime_bounded.f k (List.drop 1 (mk p :: ps.map mk)) = some o := ho
  have hps := hle p List.mem_cons_self
  have hms := mk_size p
  have htr := trimB_le (mk p)
  have hpos : (0 : Int) < ((mk p :: ps.map mk).length : Int) := by rw [List.length_cons]; omega
  rw [if_pos (by omega), ho2, Option.bind_some, if_pos hpos]
  rw [show rdOf ByteArray.empty (mk p :: ps.map mk) 0 = mk p from rfl, trim_eq _ (by omega), Option.bind_some]
  unfold mime_small.f
  rw [if_pos (by omega), Option.bind_some, hc, Option.bind_some]
  by_cases h1 : m.toList = ([] : List UInt8)
  · rw [if_pos h1, if_pos h1]
  · rw [if_neg h1, if_neg h1]
    by_cases h2 : s.toList = ([] : List UInt8)
    · rw [if_pos h2, if_pos h2]
    · rw [if_neg h2, if_neg h2]
theorem low8_id {b : UInt8} (h : ¬ (65 ≤ b.toNat ∧ b.toNat ≤ 90)) : low8 b = b := by
  unfold low8 lowI
  rw [if_neg (by omega), Int.toNat_natCast]
  exact UInt8.ofNat_toNat
theorem lowB_self (l : List UInt8) (h : ∀ b ∈ l, ¬ (65 ≤ b.toNat ∧ b.toNat ≤ 90)) : lowB (mk l) = mk l := ext_list (by
  rw [lowB_list, mk_list]
  conv => rhs; rw [← List.map_id l]
  exact List.map_congr_left fun b hb => low8_id (h b hb))
end Go.Proofs.YtilgmheilepkgaaDoor.Pure
