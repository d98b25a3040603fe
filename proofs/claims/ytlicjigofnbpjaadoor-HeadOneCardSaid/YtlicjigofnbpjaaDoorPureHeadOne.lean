/- HeadOne over numbers, texts and lists alone. -/
import Derived.Test.YtlicjigofnbpjaaDoorHeadImpl4
import Derived.Test.YtlicjigofnbpjaaDoorHeadImpl7
import Derived.Test.YtlicjigofnbpjaaDoorPx106
namespace Go.Proofs.YtlicjigofnbpjaaDoor.Pure
open Go.RowKit Go.Proofs.YtlicjigofnbpjaaDoor Go.Proofs.YtlicjigofnbpjaaDoor.P Go.Proofs.YtlicjigofnbpjaaDoor.Spec Go.Proofs.YtlicjigofnbpjaaDoorW.PrintWords Go.Proofs.YtlicjigofnbpjaaDoorW.PrintLast Go.Proofs.YtlicjigofnbpjaaDoorW.PrintMore

theorem ext8 {s t : ByteArray} (h : s.data.toList = t.data.toList) : s = t := ext_list h
theorem bytes_app (a b : ByteArray) : bytesOf (a ++ b) = bytesOf a ++ bytesOf b := by
  unfold bytesOf
  simp
theorem bytes_byt (s : ByteArray) : Byt (bytesOf s) := by
  intro x hx
  unfold bytesOf at hx
  obtain ⟨b, _, rfl⟩ := List.mem_map.1 hx
  have := UInt8.toNat_lt b
  omega
theorem back8 (s : ByteArray) : (bytesOf s).map (fun n => UInt8.ofNat n.toNat) = s.data.toList := by
  unfold bytesOf
  rw [List.map_map]
  have : ((fun n : Int => UInt8.ofNat n.toNat) ∘ fun b : UInt8 => ((b.toNat : Nat) : Int)) = id := by
    funext b
    simp
  rw [this, List.map_id]
theorem ix_until : ∀ (x r : List UInt8), ¬ (58 : UInt8) ∈ x → Lib.indexByte (x ++ 58 :: r) 58 = x.length
  | [], r, _ => by unfold Lib.indexByte; simp
  | b :: x, r, h => by
    rw [List.mem_cons, not_or] at h
    have ih := ix_until x r h.2
    rw [List.cons_append]
    unfold Lib.indexByte
    have hb : (b == 58) = false := beq_eq_false_iff_ne.2 (fun e => h.1 e.symm)
    rw [hb, ih]
    have h2 : ((x.length : Int) == -1) = false := beq_eq_false_iff_ne.2 (by omega)
    rw [h2, List.length_cons]
    simp
theorem dw_self : ∀ l : List UInt8, (∀ b ∈ l, blk b = false) → l.dropWhile blk = l
  | [], _ => rfl
  | b :: l, h => by rw [List.dropWhile_cons, if_neg (by rw [h b List.mem_cons_self]; exact Bool.false_ne_true)]
theorem stripR_self (l : List UInt8) (h : ∀ b ∈ l, blk b = false) : stripR l = l := by
  unfold stripR
  rw [dw_self _ (fun b hb => h b (List.mem_reverse.1 hb)), List.reverse_reverse]
theorem trim_self (s : ByteArray) (h : ∀ b ∈ s.data.toList, blk b = false) : trimB s = s :=
  ext8 (by rw [trimB_list, dw_self _ h, stripR_self _ h])
theorem trim_blank (l : List UInt8) : trimB ⟨(32 :: l).toArray⟩ = trimB ⟨l.toArray⟩ :=
  ext8 (by
    rw [trimB_list, trimB_list]
    show stripR ((32 :: l).dropWhile blk) = stripR (l.dropWhile blk)
    rw [List.dropWhile_cons, if_pos (by decide)])
theorem low8_low8 (b : UInt8) : low8 (low8 b) = low8 b := by
  have h := UInt8.toNat_lt b
  have e : (low8 b).toNat = (lowI (b.toNat : Int)).toNat := by
    unfold low8
    rw [UInt8.toNat_ofNat']
    unfold lowI
    split <;> omega
  rw [low8_eq]
  rw [e]
  unfold lowI
  split
  · rw [if_neg (by omega)]; omega
  · rename_i hn
    rw [if_neg (by omega)]; omega
section
variable (name value : ByteArray) (body : List Int)
def L1 : List Int := 120 :: (bytesOf name ++ [58, 32, 110, 111])
def L2 : List Int := bytesOf name ++ [58, 32] ++ bytesOf value
def msg : List Int := L1 name ++ [13, 10] ++ (L2 name value ++ [13, 10] ++ ([] ++ [13, 10] ++ body))
def Letters : Prop := ∀ b ∈ name.data.toList, 65 ≤ b.toNat ∧ b.toNat ≤ 122
def NoEnds : Prop := ∀ b ∈ value.data.toList, b.toNat ≠ 10 ∧ b.toNat ≠ 13
variable {name value body}
theorem mem_bytes {s : ByteArray} {n : Int} (h : n ∈ bytesOf s) : ∃ b ∈ s.data.toList, ((b.toNat : Nat) : Int) = n := by
  unfold bytesOf at h
  exact List.mem_map.1 h
theorem out_L1 (hn : Letters name) : ¬ (10 : Int) ∈ L1 name := by
  intro h
  unfold L1 at h
  rcases List.mem_cons.1 h with h | h
  · exact absurd h (by decide)
  · rcases List.mem_append.1 h with h | h
    · obtain ⟨b, hb, e⟩ := mem_bytes h
      have := hn b hb
      omega
    · simp at h
theorem out_L2 (hn : Letters name) (hv : NoEnds value) : ¬ (10 : Int) ∈ L2 name value := by
  intro h
  unfold L2 at h
  rcases List.mem_append.1 h with h | h
  · rcases List.mem_append.1 h with h | h
    · obtain ⟨b, hb, e⟩ := mem_bytes h
      have := hn b hb
      omega
    · simp at h
  · obtain ⟨b, hb, e⟩ := mem_bytes h
    have := hv b hb
    omega
theorem lines_msg (hn : Letters name) (hv : NoEnds value) : lines (msg name value body) = (L1 name ++ [13, 10]) :: (L2 name value ++ [13, 10]) :: ([] ++ [13, 10]) :: lines body := by
  unfold msg
  rw [lines_crlf (out_L1 hn), lines_crlf (out_L2 hn hv), lines_crlf (by simp)]
theorem L1_ne : L1 name ≠ [] := by unfold L1; simp
theorem L2_ne : L2 name value ≠ [] := by unfold L2; simp
theorem heads_msg (hn : Letters name) (hv : NoEnds value) : heads (lines (msg name value body)) = [L1 name ++ [13, 10], L2 name value ++ [13, 10], [] ++ [13, 10]] := by
  rw [lines_msg hn hv, heads_cons, txt_crlf, if_neg L1_ne, heads_cons, txt_crlf, if_neg L2_ne, heads_cons, txt_crlf, if_pos rfl]
theorem body_msg (hn : Letters name) (hv : NoEnds value) : (msg name value body).drop (hend (msg name value body)) = body := by
  unfold hend
  rw [lines_msg hn hv, upto_cons, txt_crlf, if_neg L1_ne, upto_cons, txt_crlf, if_neg L2_ne, upto_cons, txt_crlf, if_pos rfl]
  unfold msg
  rw [← List.append_assoc, ← List.append_assoc]
  have : (L1 name ++ [13, 10]).length + ((L2 name value ++ [13, 10]).length + (([] : List Int) ++ [13, 10]).length) = (L1 name ++ [13, 10] ++ (L2 name value ++ [13, 10]) ++ ([] ++ [13, 10])).length := by
    simp only [List.length_append]
    omega
  rw [this, List.drop_left]
theorem first_L2 {b : UInt8} {r : List UInt8} (h : name.data.toList = b :: r) : first (L2 name value) = b := by
  unfold first L2 bytesOf
  rw [h]
  simp
theorem fields_msg (hn : Letters name) (hv : NoEnds value) (h1 : 1 ≤ name.size) : ∃ f : S26, f.f0.size = name.size + 1 ∧ fields (msg name value body) = [f, ⟨name, trimB value⟩] := by
  have nb : ∀ b ∈ name.data.toList, blk b = false := by
    intro b hb
    have := hn b hb
    unfold blk
    rw [beq_eq_false_iff_ne.2 (by rintro rfl; simp at this), beq_eq_false_iff_ne.2 (by rintro rfl; simp at this)]
    rfl
  have nc : ¬ (58 : UInt8) ∈ name.data.toList := by
    intro h
    have := hn 58 h
    simp at this
  have d1 : (strOfNums (L1 name)).data.toList = (120 :: name.data.toList) ++ 58 :: [32, 110, 111] := by
    rw [strOfNums_data]
    unfold L1
    rw [List.map_cons, List.map_append, back8]
    rfl
  have d2 : (strOfNums (L2 name value)).data.toList = name.data.toList ++ 58 :: (32 :: value.data.toList) := by
    rw [strOfNums_data]
    unfold L2
    rw [List.map_append, List.map_append, back8, back8, List.append_assoc]
    rfl
  have c1 : cix (strOfNums (L1 name)) = ((120 :: name.data.toList).length : Int) := by
    unfold cix
    rw [d1]
    refine ix_until _ _ ?_
    intro h
    rcases List.mem_cons.1 h with h | h
    · exact absurd h (by decide)
    · exact nc h
  have c2 : cix (strOfNums (L2 name value)) = (name.data.toList.length : Int) := by
    unfold cix
    rw [d2]
    exact ix_until _ _ nc
  have hsz := Lib.size_eq name
  obtain ⟨b, r, hbr⟩ : ∃ b r, name.data.toList = b :: r := by
    cases h : name.data.toList with
    | nil =>
      rw [h, List.length_nil] at hsz
      omega
    | cons b r => exact ⟨b, r, rfl⟩
  have s1 : fstep ([], false) (L1 name) = ([⟨trimB ((strOfNums (L1 name)).extract 0 (cix (strOfNums (L1 name))).toNat), trimB ((strOfNums (L1 name)).extract ((cix (strOfNums (L1 name))).toNat + 1) (strOfNums (L1 name)).size)⟩], true) := by
    unfold fstep
    rw [show first (L1 name) = 120 from rfl, if_neg (show ¬ blk 120 = true from by decide), if_neg (by rw [c1]; omega)]
    rfl
  have s2 : ∀ f : S26, fstep ([f], true) (L2 name value) = ([f, ⟨name, trimB value⟩], true) := by
    intro f
    have hb := nb b (by rw [hbr]; exact List.mem_cons_self)
    have e0 : (strOfNums (L2 name value)).extract 0 (cix (strOfNums (L2 name value))).toNat = name := ext8 (by
      rw [extract_list, d2, c2, List.drop_zero, Int.toNat_natCast, List.take_left])
    have e1 : (strOfNums (L2 name value)).extract ((cix (strOfNums (L2 name value))).toNat + 1) (strOfNums (L2 name value)).size = ⟨(32 :: value.data.toList).toArray⟩ := ext8 (by
      rw [extract_list, Lib.size_eq, List.take_length, d2, c2, Int.toNat_natCast]
      rw [show name.data.toList.length + 1 = (name.data.toList ++ [58]).length by simp, show name.data.toList ++ 58 :: (32 :: value.data.toList) = (name.data.toList ++ [58]) ++ (32 :: value.data.toList) by simp, List.drop_left])
    unfold fstep
    rw [first_L2 hbr, if_neg (by rw [hb]; exact Bool.false_ne_true), if_neg (by rw [c2]; omega), e0, e1, trim_self name nb, trim_blank]
    have : (⟨value.data.toList.toArray⟩ : ByteArray) = value := ext8 rfl
    rw [this]
    rfl
  refine ⟨⟨trimB ((strOfNums (L1 name)).extract 0 (cix (strOfNums (L1 name))).toNat), trimB ((strOfNums (L1 name)).extract ((cix (strOfNums (L1 name))).toNat + 1) (strOfNums (L1 name)).size)⟩, ?_, ?_⟩
  · have e0 : (strOfNums (L1 name)).extract 0 (cix (strOfNums (L1 name))).toNat = ⟨(120 :: name.data.toList).toArray⟩ := ext8 (by
      rw [extract_list, d1, c1, List.drop_zero, Int.toNat_natCast, List.take_left])
    show (trimB ((strOfNums (L1 name)).extract 0 (cix (strOfNums (L1 name))).toNat)).size = _
    rw [e0, trim_self]
    · rw [Lib.size_eq]
      show (120 :: name.data.toList).length = _
      rw [List.length_cons, ← hsz]
    · intro b hb
      rcases List.mem_cons.1 hb with h | h
      · rw [h]; decide
      · exact nb b h
  · unfold fields texts
    rw [heads_msg hn hv]
    simp only [List.map_cons, List.map_nil, txt_crlf]
    rw [fgo, if_neg L1_ne, fgo, if_neg L2_ne, fgo, if_pos rfl, fgo, s1, s2]
theorem get_msg (hn : Letters name) (hv : NoEnds value) (h1 : 1 ≤ name.size) : fget (lowB name) (fields (msg name value body)) = (trimB value, true) ∧ (fields (msg name value body)).length = 2 := by
  obtain ⟨f, hf, he⟩ := fields_msg (body := body) hn hv h1
  rw [he]
  have n1 : same f.f0 (lowB name) = false := by
    unfold same
    refine beq_eq_false_iff_ne.2 fun e => ?_
    have := congrArg List.length e
    rw [lowB_list, List.length_map, List.length_map, List.length_map, ← Lib.size_eq, ← Lib.size_eq] at this
    omega
  have n2 : same name (lowB name) = true := by
    unfold same
    rw [lowB_list, List.map_map]
    refine beq_iff_eq.2 (List.map_congr_left fun b _ => ?_)
    exact (low8_low8 b).symm
  refine ⟨?_, rfl⟩
  unfold fget
  rw [n1, if_neg Bool.false_ne_true]
  unfold fget
  rw [if_pos n2]
end
theorem HeadOne_end (name value : ByteArray) (body : List Int) (hb : Byt body) (h1 : 1 ≤ name.size) (h2 : name.size ≤ 40) (h3 : value.size ≤ 100) (h4 : body.length ≤ 500) (hn : Letters name) (hv : NoEnds value) (k : Nat) (hk : 5000 ≤ k) :
    letterboxlaw9_HeadOne.l1 (k + 1) name value body (value.size : Int) = some true := by
  rw [letterboxlaw9_HeadOne.l1, if_neg (by omega), if_pos (by omega), if_pos (by omega), if_pos (by omega), if_pos (by omega), if_pos (by omega), if_pos (by omega)]
  have hmsg : bytesOf (((((((⟨#[120]⟩ : ByteArray) ++ name) ++ (⟨#[58, 32, 110, 111, 13, 10]⟩ : ByteArray)) ++ name) ++ (⟨#[58, 32]⟩ : ByteArray)) ++ value) ++ (⟨#[13, 10, 13, 10]⟩ : ByteArray)) ++ body = msg name value body := by
    simp only [bytes_app]
    unfold msg L1 L2
    have e1 : bytesOf (⟨#[120]⟩ : ByteArray) = [120] := rfl
    have e2 : bytesOf (⟨#[58, 32, 110, 111, 13, 10]⟩ : ByteArray) = [58, 32, 110, 111, 13, 10] := rfl
    have e3 : bytesOf (⟨#[58, 32]⟩ : ByteArray) = [58, 32] := rfl
    have e4 : bytesOf (⟨#[13, 10, 13, 10]⟩ : ByteArray) = [13, 10, 13, 10] := rfl
    rw [e1, e2, e3, e4]
    simp
  have hlen : (msg name value body).length ≤ 1000 := by
    unfold msg L1 L2
    simp only [List.length_append, List.length_cons, List.length_nil, bytesOf_length]
    omega
  have hsz : (((((((⟨#[120]⟩ : ByteArray) ++ name) ++ (⟨#[58, 32, 110, 111, 13, 10]⟩ : ByteArray)) ++ name) ++ (⟨#[58, 32]⟩ : ByteArray)) ++ value) ++ (⟨#[13, 10, 13, 10]⟩ : ByteArray)).size + body.length ≤ 140737488355328 := by
    have := congrArg List.length hmsg
    rw [List.length_append, bytesOf_length] at this
    omega
  have hbm : Byt (msg name value body) := by
    rw [← hmsg]
    intro x hx
    rcases List.mem_append.1 hx with h | h
    · exact bytes_byt _ x h
    · exact hb x h
  obtain ⟨hg, hl⟩ := get_msg (body := body) hn hv h1
  have hlow : letterboxref9_Low.f name = some (lowB name) := by unfold letterboxref9_Low.f; rw [if_pos (by omega)]
  have hnb : name.size ≤ 9223372036854775807 := by omega
  unfold conva.f
  rw [if_pos hsz, hmsg, Option.bind_some, hlow, Option.bind_some, UGet_eq k _ _ hbm (by omega) (by omega), Option.bind_some, hg, if_pos rfl, RTrim_eq k value (by omega) (by omega), Option.bind_some, if_pos rfl, UBody_eq k _ hbm (by omega) (by omega), Option.bind_some, body_msg hn hv, if_pos rfl,
    UFields_eq k _ hbm (by omega) (by omega), Option.bind_some, show fgo ((heads (lines (msg name value body))).map txt) ([], false) = fields (msg name value body) from rfl, hl, if_pos (by decide), known_at k (by omega)]
  rfl
theorem HeadOne_l1 (name value : ByteArray) (body : List Int) (hb : Byt body) (h1 : 1 ≤ name.size) (h2 : name.size ≤ 40) (h3 : value.size ≤ 100) (h4 : body.length ≤ 500) (hn : Letters name) : ∀ (m i k : Nat), i + m = value.size → (∀ j, j < i → ∀ b, value.data.toList[j]? = some b → b.toNat ≠ 10 ∧ b.toNat ≠ 13) → m + 5001 ≤ k → letterboxlaw9_HeadOne.l1 k name value body i = some true
  | 0, i, k, hi, hv, hk => by
    obtain ⟨k, rfl⟩ : ∃ m, k = m + 1 := ⟨k - 1, by omega⟩
    obtain rfl : i = value.size := by omega
    refine HeadOne_end name value body hb h1 h2 h3 h4 hn ?_ k (by omega)
    intro b hb
    obtain ⟨j, hj, rfl⟩ := List.mem_iff_getElem.1 hb
    exact hv j (by rw [Lib.size_eq]; exact hj) _ (List.getElem?_eq_getElem hj)
  | m + 1, i, k, hi, hv, hk => by
    obtain ⟨k, rfl⟩ : ∃ m, k = m + 1 := ⟨k - 1, by omega⟩
    have hlt : i < value.data.toList.length := by rw [← Lib.size_eq]; omega
    have hx : value.data.toList[i]? = some value.data.toList[i] := List.getElem?_eq_getElem hlt
    rw [letterboxlaw9_HeadOne.l1, if_pos (by omega), if_pos (by omega), bt_nat value i _ hx]
    by_cases e1 : ((value.data.toList[i].toNat : Nat) : Int) = 10
    · rw [if_pos e1]
    rw [if_neg e1]
    by_cases e2 : ((value.data.toList[i].toNat : Nat) : Int) = 13
    · rw [if_pos e2]
    rw [if_neg e2, w64 _ (by omega) (by omega), show ((i : Int) + 1) = ((i + 1 : Nat) : Int) from rfl]
    refine HeadOne_l1 name value body hb h1 h2 h3 h4 hn m (i + 1) k (by omega) (fun j hj b hjb => ?_) (by omega)
    by_cases e : j = i
    · subst e
      rw [hx] at hjb
      rw [← Option.some.inj hjb]
      omega
    · exact hv j (by omega) b hjb
theorem HeadOne_l0 (name value : ByteArray) (body : List Int) (hb : Byt body) (h1 : 1 ≤ name.size) (h2 : name.size ≤ 40) (h3 : value.size ≤ 100) (h4 : body.length ≤ 500) : ∀ (m i k : Nat), i + m = name.size → (∀ j, j < i → ∀ b, name.data.toList[j]? = some b → 65 ≤ b.toNat ∧ b.toNat ≤ 122) → m + 5200 ≤ k → letterboxlaw9_HeadOne.l0 k name value body i = some true
  | 0, i, k, hi, hv, hk => by
    obtain ⟨k, rfl⟩ : ∃ m, k = m + 1 := ⟨k - 1, by omega⟩
    rw [letterboxlaw9_HeadOne.l0, if_neg (by omega)]
    refine HeadOne_l1 name value body hb h1 h2 h3 h4 ?_ value.size 0 k (by omega) (fun j hj => absurd hj (by omega)) (by omega)
    intro b hb
    obtain ⟨j, hj, rfl⟩ := List.mem_iff_getElem.1 hb
    exact hv j (by rw [← Lib.size_eq] at hj; omega) _ (List.getElem?_eq_getElem hj)
  | m + 1, i, k, hi, hv, hk => by
    obtain ⟨k, rfl⟩ : ∃ m, k = m + 1 := ⟨k - 1, by omega⟩
    have hlt : i < name.data.toList.length := by rw [← Lib.size_eq]; omega
    have hx : name.data.toList[i]? = some name.data.toList[i] := List.getElem?_eq_getElem hlt
    have next : (65 ≤ name.data.toList[i].toNat ∧ name.data.toList[i].toNat ≤ 122) → letterboxlaw9_HeadOne.l0 k name value body (wrap64 ((i : Int) + 1)) = some true := by
      intro hl
      rw [w64 _ (by omega) (by omega), show ((i : Int) + 1) = ((i + 1 : Nat) : Int) from rfl]
      refine HeadOne_l0 name value body hb h1 h2 h3 h4 m (i + 1) k (by omega) (fun j hj b hjb => ?_) (by omega)
      by_cases e : j = i
      · subst e
        rw [hx] at hjb
        rw [← Option.some.inj hjb]
        exact hl
      · exact hv j (by omega) b hjb
    rw [letterboxlaw9_HeadOne.l0, if_pos (by omega), if_pos (by omega), bt_nat name i _ hx]
    by_cases e1 : ((name.data.toList[i].toNat : Nat) : Int) < 65
    · rw [if_pos e1]
    rw [if_neg e1]
    by_cases e2 : ((name.data.toList[i].toNat : Nat) : Int) > 122
    · rw [if_pos e2]
    rw [if_neg e2]
    by_cases e3 : ((name.data.toList[i].toNat : Nat) : Int) > 90
    · rw [if_pos e3]
      by_cases e4 : ((name.data.toList[i].toNat : Nat) : Int) < 97
      · rw [if_pos e4]
      · rw [if_neg e4]; exact next (by omega)
    · rw [if_neg e3]; exact next (by omega)
theorem HeadOne (name value : ByteArray) (body : List Int) (_ : name.size ≤ 140737488351232) (_ : value.size ≤ 140737488351232) (hw : ∀ x ∈ body, (Lit.int .u8 x).wf = true) : ∃ k, letterboxlaw9_HeadOne.f k name value body = some true := by
  have hb := Byt.of hw
  refine ⟨6001, ?_⟩
  have j0t : letterboxlaw9_HeadOne.j0 6001 name value body true = some true := by rw [letterboxlaw9_HeadOne.j0, if_pos rfl]
  unfold letterboxlaw9_HeadOne.f
  by_cases h1 : (name.size : Int) < 1
  · rw [if_pos h1, j0t]
  rw [if_neg h1]
  by_cases h2 : (name.size : Int) > 40
  · rw [if_pos h2, j0t]
  rw [if_neg h2]
  by_cases h3 : (value.size : Int) > 100
  · rw [if_pos h3, j0t]
  rw [if_neg h3]
  by_cases h4 : (body.length : Int) > 500
  · rw [decide_eq_true h4, j0t]
  rw [decide_eq_false h4, letterboxlaw9_HeadOne.j0, if_neg Bool.false_ne_true]
  exact HeadOne_l0 name value body hb (by omega) (by omega) (by omega) (by omega) name.size 0 6000 (by omega) (fun j hj => absurd hj (by omega)) (by omega)
end Go.Proofs.YtlicjigofnbpjaaDoor.Pure
