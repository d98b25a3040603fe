/- Messages that are made of parts: their type, their lines, their parts. -/
import Derived.Test.YtilgmheilepkgaaDoorMimeMsg
import Derived.Test.YtilgmheilepkgaaDoorMimeParts
import Derived.Test.YtilgmheilepkgaaDoorMimeMessage
-- halved
namespace Go.Proofs.YtilgmheilepkgaaDoor.Pure
open Go.RowKit Go.Proofs.YtilgmheilepkgaaDoor Go.Proofs.YtilgmheilepkgaaDoor.P Go.Proofs.YtilgmheilepkgaaDoor.Spec Go.Proofs.YtilgmheilepkgaaDoorW.PrintWords Go.Proofs.YtilgmheilepkgaaDoorW.PrintLast Go.Proofs.YtilgmheilepkgaaDoorW.PrintMore

def Cl (b : UInt8) : Prop := (97 ≤ b.toNat ∧ b.toNat ≤ 122) ∨ (48 ≤ b.toNat ∧ b.toNat ≤ 57)
theorem cl_no {b c : UInt8} (h : Cl b) (hc : ¬ Cl c) : b ≠ c := fun e => hc (e ▸ h)
theorem cl_blk {b : UInt8} (h : Cl b) : blk b = false := by
 unfold blk
 rw [beq_eq_false_iff_ne.2 (cl_no h (by unfold Cl; decide)), beq_eq_false_iff_ne.2 (cl_no h (by unfold Cl; decide))]
 rfl
def mMult : List UInt8 := [77, 117, 108, 116, 105, 112, 97, 114, 116]
def mMixed : List UInt8 := [77, 105, 120, 101, 100]
def mBnd : List UInt8 := [98, 111, 117, 110, 100, 97, 114, 121]
def mVal (Q : List UInt8) : List UInt8 := 32 :: ((mMult ++ 47 :: mMixed) ++ 59 :: (32 :: mBnd ++ 61 :: Q))
def mName : List UInt8 := [67, 111, 110, 116, 101, 110, 116, 45, 84, 121, 112, 101]
def mPream : List Int := [112, 114, 101, 97, 109, 98, 108, 101]
theorem mname : Nm mName := ⟨by decide, by decide⟩
theorem same_name : same (mk mName) ctype = true := by decide +kernel
theorem same_bnd : same (mk mBnd) (⟨#[98, 111, 117, 110, 100, 97, 114, 121]⟩ : ByteArray) = true := by decide +kernel
theorem msg_one (bound : ByteArray) (q : Bool) (X : List Int) : mStart bound q ++ X = one mName (mVal (mQ bound q)) (mPream ++ [13, 10] ++ X) := by
 unfold mStart one nInts ints mHead mPre mName mVal mMult mMixed mBnd mPream
 simp only [List.map_append, List.map_cons, List.map_nil, List.cons_append, List.nil_append, List.append_assoc]
 rfl
theorem prefix_cl (v : List UInt8) (h : ∀ b ∈ v, Cl b) (h2 : 2 ≤ v.length) : strings_HasPrefix.f (mk v) ⟨#[34]⟩ = some false := by
 obtain ⟨b, r, rfl⟩ : ∃ b r, v = b :: r := by
  cases v with
  | nil => simp at h2
  | cons b r => exact ⟨b, r, rfl⟩
 have h1 : (⟨#[34]⟩ : ByteArray).size = 1 := rfl
 have hs := mk_size (b :: r)
 unfold strings_HasPrefix.f stringslite_HasPrefix.f
 rw [h1, if_pos (by omega), if_pos (by omega), if_pos (by omega)]
 have e : ((mk (b :: r)).extract 0 1).toList = [b] := by
  rw [Lib.toList_data, extract_list, mk_list]
  rfl
 have e2 : ((mk (b :: r)).extract 0 (((1 : Nat) : Int) : Int).toNat).toList = [b] := e
 rw [e2, Option.bind_some]
 have : b ≠ 34 := cl_no (h b List.mem_cons_self) (by unfold Cl; decide)
 have e3 : (⟨#[34]⟩ : ByteArray).toList = [34] := by rw [Lib.toList_data]
 rw [e3, beq_eq_false_iff_ne.2 (by simpa using this)]
theorem prefix_q (B : List UInt8) : strings_HasPrefix.f (mk (34 :: B ++ [34])) ⟨#[34]⟩ = some true := by
 have h1 : (⟨#[34]⟩ : ByteArray).size = 1 := rfl
 have hs := mk_size (34 :: B ++ [34])
 simp only [List.length_append, List.length_cons, List.length_nil] at hs
 unfold strings_HasPrefix.f stringslite_HasPrefix.f
 rw [h1, if_pos (by omega), if_pos (by omega), if_pos (by omega)]
 have e : ((mk (34 :: B ++ [34])).extract 0 1).toList = [34] := by
  rw [Lib.toList_data, extract_list, mk_list]
  rfl
 have e2 : ((mk (34 :: B ++ [34])).extract 0 (((1 : Nat) : Int) : Int).toNat).toList = [34] := e
 rw [e2, Option.bind_some, Lib.toList_data]
 rfl
theorem suffix_q (B : List UInt8) (hB : B.length ≤ 1000) : strings_HasSuffix.f (mk (34 :: B ++ [34])) ⟨#[34]⟩ = some true := by
 have h1 : (⟨#[34]⟩ : ByteArray).size = 1 := rfl
 have hs := mk_size (34 :: B ++ [34])
 simp only [List.length_append, List.length_cons, List.length_nil] at hs
 unfold strings_HasSuffix.f stringslite_HasSuffix.f
 rw [h1, if_pos (by omega), w64 _ (by omega) (by omega), if_pos (by omega), if_pos (by omega)]
 have e : ((mk (34 :: B ++ [34])).extract (B.length + 1) (mk (34 :: B ++ [34])).size).toList = [34] := by
  rw [Lib.toList_data, extract_list, mk_size, mk_list, List.take_length, show B.length + 1 = (34 :: B).length from rfl, List.drop_left]
 rw [show ((((mk (34 :: B ++ [34])).size : Int) - ((1 : Nat) : Int)) : Int).toNat = B.length + 1 by omega, e, Option.bind_some, Lib.toList_data]
 rfl
theorem bounded_one (k : Nat) (B Q : List UInt8) (hB : ∀ b ∈ B, Cl b) (h1 : 1 ≤ B.length) (h2 : B.length ≤ 30) (hQ : Q = B ∨ Q = 34 :: B ++ [34]) (hk : 50 ≤ k) : mime_bounded.f k [mk (32 :: mBnd ++ 61 :: Q)] = some (mk B) := by
 obtain ⟨j, rfl⟩ : ∃ j, k = j + 2 := ⟨k - 2, by omega⟩
 have hql : Q.length ≤ 32 := by
  rcases hQ with h | h <;> rw [h] <;> (try simp) <;> omega
 have hqb : ∀ b ∈ Q, blk b = false := by
  intro b hb
  rcases hQ with rfl | rfl
  ·exact cl_blk (hB b hb)
  ·simp only [List.cons_append, List.mem_cons, List.mem_append, List.not_mem_nil, or_false] at hb
   rcases hb with rfl | hb | rfl
   ·decide
   ·exact cl_blk (hB b hb)
   ·decide
 unfold mime_bounded.f mime_bounded.l0
 rw [if_pos (by simp), if_pos (by omega), if_pos (by simp), show rdOf ByteArray.empty [mk (32 :: mBnd ++ 61 :: Q)] 0 = mk (32 :: mBnd ++ 61 :: Q) from rfl]
 rw [cut_in 61 (32 :: mBnd) Q (by decide) (by simp [mBnd]; omega), Option.bind_some]
 dsimp only
 have ht : trimB (mk (32 :: mBnd)) = mk mBnd := by decide +kernel
 rw [if_pos rfl, trim_eq _ (by rw [mk_size]; decide), Option.bind_some, ht, USame_eq (j + 1) _ _ (by rw [mk_size]; decide) (by rw [mk_size]; simp [mBnd]; omega), Option.bind_some, same_bnd]
 unfold mime_bounded.j1
 rw [if_neg (by decide), trim_eq _ (by rw [mk_size]; omega), Option.bind_some, trim_self _ hqb]
 have hs := mk_size Q
 rcases hQ with rfl | rfl
 ·by_cases h3 : 2 ≤ Q.length
  ·rw [if_pos (by omega), prefix_cl Q hB h3, Option.bind_some, if_neg Bool.false_ne_true]
  ·rw [if_neg (by omega)]
 ·have hs2 : (mk (34 :: B ++ [34])).size = B.length + 2 := by rw [hs]; simp
  rw [if_pos (by omega), prefix_q, Option.bind_some, if_pos rfl, suffix_q B (by omega), Option.bind_some, if_pos rfl, w64 _ (by omega) (by omega), if_pos (by omega), if_pos (by omega)]
  congr 1
  refine ext_list ?_
  rw [extract_list, mk_list, mk_list, hs2, show (((B.length + 2 : Nat) : Int) - 1).toNat = (34 :: B).length by simp; omega, List.take_left]
  rfl
theorem msg_type (k : Nat) (B Q : List UInt8) (hB : ∀ b ∈ B, Cl b) (h1 : 1 ≤ B.length) (h2 : B.length ≤ 30) (hQ : Q = B ∨ Q = 34 :: B ++ [34]) (rest : List Int) (hr : Byt rest) (hl : rest.length ≤ 19000) (hk : 160000 ≤ k) :
  mime_Type.f k (one mName (mVal Q) rest) = some (mk multi, mk [109, 105, 120, 101, 100], mk B) := by
 have hql : Q.length ≤ 32 := by
  rcases hQ with h | h <;> rw [h] <;> (try simp) <;> omega
 have hqc : ∀ b ∈ Q, Cl b ∨ b = 34 := by
  intro b hb
  rcases hQ with rfl | rfl
  ·exact .inl (hB b hb)
  ·simp only [List.cons_append, List.mem_cons, List.mem_append, List.not_mem_nil, or_false] at hb
   rcases hb with rfl | hb | rfl
   ·exact .inr rfl
   ·exact .inl (hB b hb)
   ·exact .inr rfl
 have qno : ∀ c : UInt8, ¬ Cl c → c ≠ 34 → ¬ c ∈ Q := fun c h h3 hm => (hqc c hm).elim h h3
 have hten : ¬ (10 : UInt8) ∈ mVal Q := by
  have := qno 10 (by unfold Cl; decide) (by decide)
  simp [mVal, mMult, mMixed, mBnd, this]
 have hlen : (one mName (mVal Q) rest).length ≤ 19200 := by
  rw [one_length]
  simp only [List.length_append, List.length_cons, List.length_nil, mName, mVal, mMult, mMixed, mBnd]
  omega
 have hv : (trimB (mk (mVal Q))).data.toList = (mMult ++ 47 :: mMixed) ++ 59 :: (32 :: mBnd ++ 61 :: Q) := by
  unfold mVal
  rw [trimB_list, mk_list, List.dropWhile_cons, if_pos (by decide)]
  have e : ((mMult ++ 47 :: mMixed) ++ 59 :: (32 :: mBnd ++ 61 :: Q)).dropWhile blk = ((mMult ++ 47 :: mMixed) ++ 59 :: (32 :: mBnd)) ++ 61 :: Q := by
   rw [show (mMult ++ 47 :: mMixed) ++ 59 :: (32 :: mBnd ++ 61 :: Q) = ((mMult ++ 47 :: mMixed) ++ 59 :: (32 :: mBnd)) ++ 61 :: Q by simp]
   rfl
  rw [e, stripR_in _ _ _ (by decide), stripR_self]
  ·simp
  ·intro b hb
   rcases hqc b hb with h | rfl
   ·exact cl_blk h
   ·decide
 have hcuts : cuts 59 (trimB (mk (mVal Q))).data.toList = (mMult ++ 47 :: mMixed) :: [32 :: mBnd ++ 61 :: Q] := by
  rw [hv, cuts_in _ _ _ (by decide), cuts_out]
  have := qno 59 (by unfold Cl; decide) (by decide)
  simp [mBnd, this]
 have := Type_val k _ (one_byt (nm := mName) (vl := mVal Q) (rest := rest) hr) (by omega) (by omega) _ (one_get mname hten same_name) _ _ hcuts _ (bounded_one k B Q hB h1 h2 hQ (by omega)) (mk multi) (mk [109, 105, 120, 101, 100]) true (by decide +kernel)
 rw [this, if_neg (by rw [Lib.toList_data, mk_list]; decide), if_neg (by rw [Lib.toList_data, mk_list]; decide)]

/-! Lines of what is put together, and what the parts are. -/
theorem lines_end : ∀ (x : List Int), lines (x ++ [10]) ≠ []
 | [] => by rw [List.nil_append, lines_ten rfl]; simp
 | c :: x => by
  rw [List.cons_append]
  by_cases hc : c = 10
  ·rw [lines_ten hc]; simp
  ·rw [lines_other hc]; split <;> simp
theorem lines_app : ∀ (x rest : List Int), lines ((x ++ [10]) ++ rest) = lines (x ++ [10]) ++ lines rest
 | [], rest => by rw [List.nil_append, List.singleton_append, lines_ten rfl, lines_ten rfl]; rfl
 | c :: x, rest => by
  have ih := lines_app x rest
  have hne := lines_end x
  rw [List.cons_append, List.cons_append]
  by_cases hc : c = 10
  ·rw [lines_ten hc, lines_ten hc, ih]; rfl
  ·rw [lines_other hc, lines_other hc, ih]
   cases h : lines (x ++ [10]) with
   | nil => exact absurd h hne
   | cons y ys => rfl
/-- A line that is no mark. -/
def Plain (o : ByteArray) (x : List Int) : Prop := ¬ (strOfNums (txt x)).toList = ((⟨#[45, 45]⟩ : ByteArray) ++ o).toList ∧ ¬ (strOfNums (txt x)).toList = (((⟨#[45, 45]⟩ : ByteArray) ++ o) ++ (⟨#[45, 45]⟩ : ByteArray)).toList
theorem pgo_skip (l : List Int) (o : ByteArray) (rest : List (List Int)) : ∀ (xs : List (List Int)) (at' : Nat) (fr : Option Nat) (out : List S34), (∀ x ∈ xs, Plain o x) → pgo l o (xs ++ rest) at' fr out = pgo l o rest (at' + xs.flatten.length) fr out
 | [], at', fr, out, _ => by simp
 | x :: xs, at', fr, out, h => by
  have hx := h x List.mem_cons_self
  rw [List.cons_append, pgo.eq_def]
  simp only
  rw [if_neg hx.1, if_neg hx.2, pgo_skip l o rest xs _ fr out (fun y hy => h y (List.mem_cons_of_mem _ hy)), List.flatten_cons, List.length_append, Nat.add_assoc]
def spans (m : Nat) : Nat → List (List Int) → List S34
 | _, [] => []
 | a, p :: ps => ⟨((a + m : Nat) : Int), ((a + m + p.length : Nat) : Int)⟩ :: spans m (a + m + p.length + 2) ps
theorem spans_length (m : Nat) : ∀ (a : Nat) (ps : List (List Int)), (spans m a ps).length = ps.length
 | _, [] => rfl
 | a, p :: ps => by rw [spans, List.length_cons, List.length_cons, spans_length m _ ps]
theorem mark_text (B : List UInt8) : (strOfNums (txt (nInts ([45, 45] ++ B ++ [13, 10])))).toList = ((⟨#[45, 45]⟩ : ByteArray) ++ mk B).toList := by
 have e : nInts ([45, 45] ++ B ++ [13, 10]) = ints ([45, 45] ++ B) ++ [13, 10] := by unfold nInts ints; simp
 rw [e, txt_crlf, str_ints, Lib.toList_data, Lib.toList_data, mk_list, ByteArray.data_append, Array.toList_append, mk_list]
theorem end_text (B : List UInt8) : (strOfNums (txt (nInts ([45, 45] ++ B ++ [45, 45, 13, 10])))).toList = (((⟨#[45, 45]⟩ : ByteArray) ++ mk B) ++ (⟨#[45, 45]⟩ : ByteArray)).toList := by
 have e : nInts ([45, 45] ++ B ++ [45, 45, 13, 10]) = ints ([45, 45] ++ B ++ [45, 45]) ++ [13, 10] := by unfold nInts ints; simp
 rw [e, txt_crlf, str_ints, Lib.toList_data, Lib.toList_data, mk_list, ByteArray.data_append, Array.toList_append, ByteArray.data_append, Array.toList_append, mk_list]
theorem mark_ne (B : List UInt8) : ¬ (((⟨#[45, 45]⟩ : ByteArray) ++ mk B) ++ (⟨#[45, 45]⟩ : ByteArray)).toList = ((⟨#[45, 45]⟩ : ByteArray) ++ mk B).toList := by
 intro h
 have := congrArg List.length h
 rw [Lib.toList_data, Lib.toList_data, ByteArray.data_append, Array.toList_append, List.length_append] at this
 simp at this
theorem nints_ten {l : List UInt8} (h : ¬ (10 : UInt8) ∈ l) : ¬ (10 : Int) ∈ nInts l := ints_ten h
theorem mark_line (B : List UInt8) (hB : ∀ b ∈ B, Cl b) (rest : List Int) : lines (nInts ([45, 45] ++ B ++ [13, 10]) ++ rest) = nInts ([45, 45] ++ B ++ [13, 10]) :: lines rest := by
 have e : nInts ([45, 45] ++ B ++ [13, 10]) = ints ([45, 45] ++ B) ++ [13, 10] := by unfold nInts ints; simp
 have h10 : ¬ (10 : UInt8) ∈ [45, 45] ++ B := by
  have : ¬ (10 : UInt8) ∈ B := fun h => absurd (hB _ h) (by unfold Cl; decide)
  simp [this]
 rw [e, lines_crlf (ints_ten h10)]
theorem last_line (B : List UInt8) (hB : ∀ b ∈ B, Cl b) : lines (nInts ([45, 45] ++ B ++ mEnd)) = nInts ([45, 45] ++ B ++ [45, 45, 13, 10]) :: [[98, 101, 104, 105, 110, 100]] := by
 have e : nInts ([45, 45] ++ B ++ mEnd) = ints ([45, 45] ++ B ++ [45, 45]) ++ [13, 10] ++ [98, 101, 104, 105, 110, 100] := by unfold nInts ints mEnd; simp
 have e2 : nInts ([45, 45] ++ B ++ [45, 45, 13, 10]) = ints ([45, 45] ++ B ++ [45, 45]) ++ [13, 10] := by unfold nInts ints; simp
 have h10 : ¬ (10 : UInt8) ∈ [45, 45] ++ B ++ [45, 45] := by
  have : ¬ (10 : UInt8) ∈ B := fun h => absurd (hB _ h) (by unfold Cl; decide)
  simp [this]
 rw [e, e2, lines_crlf (ints_ten h10)]
 rfl
theorem ended_crlf {l : List Int} {a n : Nat} {p rest : List Int} (h : l.drop a = p ++ [13, 10] ++ rest) (hn : n = a + p.length + 2) : ended l a n = a + p.length := by
 have e : (l.take n).drop a = p ++ [13, 10] := by
  rw [List.drop_take, h, hn, show a + p.length + 2 - a = (p ++ [13, 10]).length by simp; omega, List.take_left]
 unfold ended
 have e1 : strip 10 (p ++ [13, 10]) = p ++ [13] := by
  rw [show p ++ [(13 : Int), 10] = (p ++ [13]) ++ [10] by simp, strip_concat, if_pos rfl]
 rw [e, e1, strip_concat, if_pos rfl, if_pos (by simp)]
theorem pgo_parts (l : List Int) (bound : ByteArray) (B : List UInt8) (hb : bound.data.toList = B) (hB : ∀ b ∈ B, Cl b) : ∀ (parts : List (List Int)) (at' : Nat) (fr : Option Nat) (out : List S34), (∀ p ∈ parts, ∀ x ∈ lines (p ++ [13, 10]), Plain (mk B) x) → out.length + parts.length + (if fr = none then 0 else 1) ≤ 16 → l.drop at' = mParts bound parts ++ mLast bound → (∀ f, fr = some f → f ≤ at') →
  pgo l (mk B) (lines (mParts bound parts ++ mLast bound)) at' fr out = fin l at' fr out ++ spans (mMark bound).length at' parts
 | [], at', fr, out, _, _, _, _ => by
  unfold mParts mLast
  rw [List.flatMap_nil, List.nil_append, hb, last_line B hB, pgo.eq_def]
  simp only
  rw [end_text, if_neg (mark_ne B), if_pos rfl, spans, List.append_nil]
 | p :: ps, at', fr, out, hg, hn, hd, hf => by
  have hmk : mMark bound = nInts ([45, 45] ++ B ++ [13, 10]) := by unfold mMark; rw [hb]
  have e : mParts bound (p :: ps) ++ mLast bound = mMark bound ++ ((p ++ [13, 10]) ++ (mParts bound ps ++ mLast bound)) := by
   unfold mParts
   rw [List.flatMap_cons]
   simp only [List.append_assoc]
  have hln : lines (mParts bound (p :: ps) ++ mLast bound) = mMark bound :: (lines (p ++ [13, 10]) ++ lines (mParts bound ps ++ mLast bound)) := by
   rw [e, hmk, mark_line B hB, show p ++ [(13 : Int), 10] = (p ++ [13]) ++ [10] by simp, lines_app]
  have hd2 : l.drop (at' + (mMark bound).length) = p ++ [13, 10] ++ (mParts bound ps ++ mLast bound) := by
   rw [← List.drop_drop, hd, e, List.drop_left]
  have hd3 : l.drop (at' + (mMark bound).length + p.length + 2) = mParts bound ps ++ mLast bound := by
   rw [show at' + (mMark bound).length + p.length + 2 = (at' + (mMark bound).length) + (p ++ [(13 : Int), 10]).length by simp; omega, ← List.drop_drop, hd2, List.drop_left]
  have hfl : (lines (p ++ [13, 10])).flatten.length = p.length + 2 := by rw [lines_flatten]; simp
  have hend := ended_crlf hd2 rfl
  rw [List.length_cons] at hn
  have go : ∀ out' : List S34, out'.length + ps.length + 1 ≤ 16 → pgo l (mk B) (lines (p ++ [13, 10]) ++ lines (mParts bound ps ++ mLast bound)) (at' + (mMark bound).length) (some (at' + (mMark bound).length)) out' = out' ++ spans (mMark bound).length at' (p :: ps) := by
   intro out' ho
   rw [pgo_skip _ _ _ _ _ _ _ (hg p List.mem_cons_self), hfl, show at' + (mMark bound).length + (p.length + 2) = at' + (mMark bound).length + p.length + 2 by omega,
    pgo_parts l bound B hb hB ps _ _ _ (fun q hq => hg q (List.mem_cons_of_mem _ hq)) (by simpa using ho) hd3 (fun f hf => by cases hf; omega)]
   unfold fin
   simp only
   rw [hend, spans, List.append_assoc, List.singleton_append]
  rw [hln, pgo.eq_def]
  simp only
  rw [hmk, mark_text, if_pos rfl, ← hmk]
  cases fr with
  | none =>
   simp only [if_true] at hn
   simp only
   rw [if_pos (by omega), go out (by omega)]
   rfl
  | some f =>
   rw [if_neg (by simp)] at hn
   simp only
   rw [if_pos (by omega), go _ (by simp; omega)]
   unfold fin
   rfl
theorem spans_at (m : Nat) (bound : ByteArray) (hm : m = (mMark bound).length) (l : List Int) (T : List Int) : ∀ (parts : List (List Int)) (a i : Nat) (p : List Int), l.drop a = mParts bound parts ++ T → parts[i]? = some p → ∃ s : Nat, (spans m a parts)[i]? = some ⟨(s : Int), ((s + p.length : Nat) : Int)⟩ ∧ s + p.length ≤ l.length ∧ (l.take (s + p.length)).drop s = p
 | [], _, _, _, _, h => by simp at h
 | q :: ps, a, i, p, hd, h => by
  have e : mParts bound (q :: ps) ++ T = mMark bound ++ ((q ++ [13, 10]) ++ (mParts bound ps ++ T)) := by
   unfold mParts
   rw [List.flatMap_cons]
   simp only [List.append_assoc]
  have hd2 : l.drop (a + m) = q ++ ([13, 10] ++ (mParts bound ps ++ T)) := by
   rw [← List.drop_drop, hd, e, hm, List.drop_left, List.append_assoc]
  have hd3 : l.drop (a + m + q.length + 2) = mParts bound ps ++ T := by
   rw [show a + m + q.length + 2 = (a + m) + (q ++ [(13 : Int), 10]).length by simp; omega, ← List.drop_drop, hd2, ← List.append_assoc, List.drop_left]
  cases i with
  | zero =>
   obtain rfl : q = p := by simpa using h
   refine ⟨a + m, rfl, ?_, ?_⟩
   ·have := congrArg List.length hd2
    simp only [List.length_drop, List.length_append, List.length_cons] at this
    omega
   ·rw [List.drop_take, hd2, show a + m + q.length - (a + m) = q.length by omega, List.take_left]
  | succ i =>
   obtain ⟨s, h1, h2, h3⟩ := spans_at m bound hm l T ps _ i p hd3 (by simpa using h)
   exact ⟨s, by rw [spans, List.getElem?_cons_succ]; exact h1, h2, h3⟩
/-- The message, and where its first part's mark stands. -/
def mMsg (bound : ByteArray) (q : Bool) (parts : List (List Int)) : List Int := mStart bound q ++ mParts bound parts ++ mLast bound
theorem plain_no (B : List UInt8) (x : List Int) (hx : Byt x) (h : ¬ (45 : Int) ∈ x) : Plain (mk B) x := by
 have key : ¬ (45 : UInt8) ∈ (strOfNums (txt x)).toList := by
  rw [str_toList]
  intro hm
  obtain ⟨n, hn, he⟩ := List.mem_map.1 hm
  have hr := hx n (txt_mem hn)
  have : n = 45 := (u8_eq hr (by omega)).1 (by rw [he]; rfl)
  exact h (this ▸ txt_mem hn)
 constructor
 ·intro he
  rw [he, Lib.toList_data, ByteArray.data_append, Array.toList_append] at key
  exact key (by simp)
 ·intro he
  rw [he, Lib.toList_data, ByteArray.data_append, Array.toList_append] at key
  exact key (by simp)
theorem msg_parts (k : Nat) (bound : ByteArray) (q : Bool) (hB : ∀ b ∈ bound.data.toList, Cl b) (h1 : 1 ≤ bound.size) (h2 : bound.size ≤ 30) (parts : List (List Int)) (hg : ∀ p ∈ parts, ∀ x ∈ lines (p ++ [13, 10]), Plain bound x) (hby : ∀ p ∈ parts, Byt p) (hn : parts.length ≤ 16) (hl : (mMsg bound q parts).length ≤ 19000) (hk : 160000 ≤ k) :
  ∃ ps, mime_Parts.f k (mMsg bound q parts) = some ps ∧ ps.length = parts.length ∧ ∀ (i : Nat) (p : List Int), parts[i]? = some p → ∃ s : Nat, ps[i]? = some (⟨(s : Int), ((s + p.length : Nat) : Int)⟩ : S34) ∧ s + p.length ≤ (mMsg bound q parts).length ∧ ((mMsg bound q parts).take (s + p.length)).drop s = p := by
 have hbs : mk bound.data.toList = bound := mk_self bound
 have hsz := Lib.size_eq bound
 have hone : mMsg bound q parts = one mName (mVal (mQ bound q)) (mPream ++ [13, 10] ++ (mParts bound parts ++ mLast bound)) := by
  unfold mMsg
  rw [List.append_assoc, msg_one]
 have hQ : mQ bound q = bound.data.toList ∨ mQ bound q = 34 :: bound.data.toList ++ [34] := by
  unfold mQ
  cases q
  ·exact .inl rfl
  ·exact .inr (by simp)
 have hbm : ∀ l : List UInt8, Byt (nInts l) := fun l => ints_byt l
 have hbp : Byt (mParts bound parts) := by
  intro x hx
  unfold mParts at hx
  obtain ⟨p, hp, hx⟩ := List.mem_flatMap.1 hx
  rcases List.mem_append.1 hx with hx | hx
  ·rcases List.mem_append.1 hx with hx | hx
   ·exact hbm _ x hx
   ·exact hby p hp x hx
  ·simp at hx; omega
 have hbr : Byt (mPream ++ [13, 10] ++ (mParts bound parts ++ mLast bound)) := by
  intro x hx
  rcases List.mem_append.1 hx with hx | hx
  ·simp [mPream] at hx; omega
  ·rcases List.mem_append.1 hx with hx | hx
   ·exact hbp x hx
   ·exact hbm _ x hx
 have hten : ¬ (10 : UInt8) ∈ mVal (mQ bound q) := by
  have hb10 : ¬ (10 : UInt8) ∈ bound.data.toList := fun h => absurd (hB _ h) (by unfold Cl; decide)
  rcases hQ with e | e <;> rw [e] <;> simp [mVal, mMult, mMixed, mBnd, hb10]
 have hlr : (mPream ++ [13, 10] ++ (mParts bound parts ++ mLast bound)).length ≤ 19000 := by
  have := one_length (nm := mName) (vl := mVal (mQ bound q)) (rest := mPream ++ [13, 10] ++ (mParts bound parts ++ mLast bound))
  rw [← hone] at this
  omega
 have hT := msg_type k bound.data.toList (mQ bound q) hB (by omega) (by omega) hQ _ hbr hlr hk
 rw [← hone, hbs] at hT
 have hbM : Byt (mMsg bound q parts) := by rw [hone]; exact one_byt hbr
 have hP := Parts_eq k _ hbM (by omega) (by omega) hT (by omega)
 have hne : ¬ bound.toList = [] := by
  rw [Lib.toList_data]
  intro h
  rw [h] at hsz
  exact absurd h1 (by rw [hsz]; decide)
 have hbody := one_body (rest := mPream ++ [13, 10] ++ (mParts bound parts ++ mLast bound)) mname hten
 have hhe := one_hend (rest := mPream ++ [13, 10] ++ (mParts bound parts ++ mLast bound)) mname hten
 rw [← hone] at hbody hhe
 have hdrop : (mMsg bound q parts).drop (hend (mMsg bound q parts) + 10) = mParts bound parts ++ mLast bound := by
  rw [← List.drop_drop, hbody, show 10 = (mPream ++ [(13 : Int), 10]).length by rfl, List.drop_left]
 have hval : uparts (mMsg bound q parts) (mk multi) bound = spans (mMark bound).length (hend (mMsg bound q parts) + 10) parts := by
  unfold uparts
  rw [if_pos ⟨by rw [Lib.toList_data, mk_list], hne⟩, hbody, lines_crlf (by decide)]
  have hpre : Plain bound (mPream ++ [13, 10]) := by
   rw [← hbs]
   exact plain_no _ _ (by intro x hx; simp [mPream] at hx; omega) (by decide)
  have hsk := pgo_skip (mMsg bound q parts) bound (lines (mParts bound parts ++ mLast bound)) [mPream ++ [13, 10]] (hend (mMsg bound q parts)) none [] (fun x hx => by rw [List.mem_singleton.1 hx]; exact hpre)
  rw [List.singleton_append] at hsk
  rw [hsk]
  have := pgo_parts (mMsg bound q parts) bound bound.data.toList rfl hB parts (hend (mMsg bound q parts) + 10) none [] (by rw [hbs]; exact hg) (by simpa using hn) hdrop (fun f hf => by cases hf)
  rw [hbs] at this
  exact this
 refine ⟨_, hP, by rw [hval, spans_length], fun i p hp => ?_⟩
 rw [hval]
 exact spans_at _ bound rfl _ _ parts _ i p hdrop hp
end Go.Proofs.YtilgmheilepkgaaDoor.Pure
