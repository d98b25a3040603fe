/- The message that the laws make out of parts, by hand: its row grows out of a text's row. -/
import Derived.Test.YtilgmheilepkgaaDoorGRow
import Derived.Outline
-- halved
namespace Go.Proofs.YtilgmheilepkgaaDoor
open Go.RowKit Go.Proofs.YtilgmheilepkgaaDoorW.PrintWords Go.Proofs.YtilgmheilepkgaaDoorW.PrintLast Go.Proofs.YtilgmheilepkgaaDoorW.PrintMore
set_option linter.unusedVariables false
set_option linter.unusedSimpArgs false

def mHead : List UInt8 := [67, 111, 110, 116, 101, 110, 116, 45, 84, 121, 112, 101, 58, 32, 77, 117, 108, 116, 105, 112, 97, 114, 116, 47, 77, 105, 120, 101, 100, 59, 32, 98, 111, 117, 110, 100, 97, 114, 121, 61]
def mPre : List UInt8 := [13, 10, 13, 10, 112, 114, 101, 97, 109, 98, 108, 101, 13, 10]
def mEnd : List UInt8 := [45, 45, 13, 10, 98, 101, 104, 105, 110, 100]
def nInts (l : List UInt8) : List Int := l.map fun b => ((b.toNat : Nat) : Int)
def mQ (bound : ByteArray) (quoted : Bool) : List UInt8 := if quoted then [34] ++ bound.data.toList ++ [34] else bound.data.toList
def mStart (bound : ByteArray) (quoted : Bool) : List Int := nInts (mHead ++ mQ bound quoted ++ mPre)
def mMark (bound : ByteArray) : List Int := nInts ([45, 45] ++ bound.data.toList ++ [13, 10])
def mParts (bound : ByteArray) (parts : List (List Int)) : List Int := parts.flatMap fun p => mMark bound ++ p ++ [13, 10]
def mLast (bound : ByteArray) : List Int := nInts ([45, 45] ++ bound.data.toList ++ mEnd)
def letterboxlaw10_message.f (bound : ByteArray) (parts : List (List Int)) (quoted : Bool) : Option (List Int) :=
 if bound.size ≤ 1000000 ∧ (mStart bound quoted ++ mParts bound parts ++ mLast bound).length ≤ 140737488355328 then some (mStart bound quoted ++ mParts bound parts ++ mLast bound) else none
theorem sz_ {s : ByteArray} {n : Nat} (h : s.size ≤ n) : s.data.toList.length ≤ n := by rw [data_length]; exact h
theorem conv_G {w : World} (s : ByteArray) (l : List UInt8) (hl : s.data.toList = l) (hs : l.length ≤ 9223372036854775807) :
  ∃ v w', (convert 9 22 (.string s)).run Tryd.prog w = .ok v w' ∧ GRow w' w.heap.size v (nInts l) ∧ Below w.heap.size w w' := by
 subst hl
 rw [data_length] at hs
 have hsize := Lib.bytesWorld_size w 5 s
 exact ⟨_, _, Lib.run_convert_string_bytes w 9 22 5 s Tryd.underlying9 Tryd.underlying22 Tryd.underlying5, G_conv w s hs, ⟨rfl, rfl, rfl, by rw [hsize]; omega, fun k hk => Lib.bytesWorld_at_old w 5 s k hk⟩⟩
section
variable {ops : Array Oper} {rest : List Oper} {o : Oper} {a : Act} {Q : Exit → Act → World → Prop}
/-- '[]byte' of a text. -/
theorem convG_ {w : World} (N : Option Tmp) (hd : o.dst = N) (hg : o.guard = none) {x : Operand} (hop : o.op = .convert 9 22 x) {s : ByteArray} (hx : a.eval x = .string s) (l : List UInt8) (hl : s.data.toList = l) (hs : l.length ≤ 9223372036854775807)
  (h : ∀ v w', GRow w' w.heap.size v (nInts l) → Below w.heap.size w w' → wpList Tryd.prog ops Q rest (a.put N v) w') : wpList Tryd.prog ops Q (o :: rest) a w := by
 obtain ⟨v, w', hr, h1, h2⟩ := conv_G (w := w) s l hl hs
 refine wpList_plain hg fun K hK => ?_
 unfold Oper.wp execOp
 simp only [hop, hx, Sem.run_bind, hr, Result.andThen_ok, Sem.run_pure]
 subst hd
 exact hK _ _ (h _ _ h1 h2)
end
/-- An append to such a row is one again. -/
theorem G_append2 (w : World) (base : Nat) (_hbase : base ≤ w.heap.size) (ty : TypeId) {v : Value} {xs ys : List Int} (hG : GRow w base v xs) {A : Option Addr} {c : Nat} (hC : Kd.C (Kd.int .u8) w A ys.length ys) (hc : ys.length ≤ c) (hlen : xs.length + ys.length ≤ 140737488355328) :
  ∃ v' w', (Builtin.append_ #[22, 22] ty #[v, .slice A ys.length c]).run Tryd.prog w = .ok v' w' ∧ GRow w' base v' (xs ++ ys) ∧ Below base w w' ∧ w.grownBy w' v.ownBlock ∧ (v'.ownBlock = v.ownBlock ∨ ∃ b, v'.ownBlock = some b ∧ w.heap.size ≤ b) := by
 have ht := Tryd.underlying22
 obtain ⟨b, cap, rfl, h1, h2, h3, h4, h5, h6⟩ := hG
 have hmx : maxLen = 9223372036854775807 := by rfl
 obtain ⟨i0, hi, hzz⟩ := Option.map_eq_some_iff.1 (show (Tryd.prog.info? 5).map (fun i => (i.zero, i.size, i.bytes)) = some (some (.int .u8 0), 1, 1) by kernel_rfl)
 simp only [Prod.mk.injEq] at hzz
 obtain ⟨hz0, hz1, hz2⟩ := hzz
 rcases Nat.eq_zero_or_pos ys.length with h0 | h0
 ·obtain rfl := List.eq_nil_of_length_eq_zero h0
  refine ⟨.slice (some ⟨b, 0, none⟩) xs.length cap, w, ?_, ?_, Below.refl _ _, grown_of_below (Below.refl _ _) _, .inl rfl⟩
  ·cases A with
   | none => simp [Builtin.append_, run_underlying ht, sizeOf, typeInfo, hi, Builtin.lenOf, Builtin.firstCells, h3, storeCells]
   | some ad => simp [Builtin.append_, run_underlying ht, sizeOf, typeInfo, hi, Builtin.lenOf, Builtin.firstCells, h3, storeCells, loadCells, loadCellsFrom]
  ·rw [List.append_nil]
   exact ⟨b, cap, rfl, h1, h2, h3, h4, h5, h6⟩
 ·obtain ⟨ad, rfl, hcell⟩ := bytes_cells hC h0
  have hnews : ∀ j u, (ys.map (Value.int .u8))[j]? = some u → w.cell? (ad.add j) = some u := by
   intro j u hj
   rw [List.getElem?_map] at hj
   obtain ⟨x, hx1, hx2⟩ := Option.map_eq_some_iff.1 hj
   have hjl := (List.getElem?_eq_some_iff.1 hx1).1
   rw [hcell j hjl, List.getD_eq_getElem?_getD, hx1, ← hx2]
   rfl
  have hone : ∀ u ∈ ys.map (Value.int .u8), u.oneCell' = true := by
   intro u hu
   obtain ⟨x, _, rfl⟩ := List.mem_map.1 hu
   rfl
  have hnl : (ys.map (Value.int .u8)).length = ys.length * i0.size := by rw [List.length_map, hz1, Nat.mul_one]
  have hlen2 : xs.length + ys.length = (xs ++ ys).length := by rw [List.length_append]
  by_cases hroom : xs.length + ys.length ≤ cap
  ·have hsp : ∀ j, j < (ys.map (Value.int .u8)).length → (w.cell? ⟨b, 0 + xs.length * i0.size + j, none⟩).isSome = true ∧ w.frozen? ⟨b, 0 + xs.length * i0.size + j, none⟩ = false := by
    intro j hj
    rw [List.length_map] at hj
    exact h5 _ (by rw [hz1]; omega)
   have hrun := run_append_room_cells (P := Tryd.prog) w 22 ty 5 i0 ht hi b 0 xs.length cap ad ys.length c (ys.map (Value.int .u8)) hnl hnews hone hroom (fun j hj => (hsp j hj).1) (fun j hj => (hsp j hj).2)
   have hs4 := setCells_size b (ys.map (Value.int .u8)) (0 + xs.length * i0.size) w
   refine ⟨_, _, hrun, ⟨b, cap, by rw [hlen2], h1, by rw [hs4.1]; exact h2, by omega, by omega, fun j hj => ?_, fun j x hj => ?_⟩, ⟨hs4.2.1, hs4.2.2.1, hs4.2.2.2, by rw [hs4.1]; exact Nat.le_refl _, fun k hk => setCells_old _ _ _ _ k (by omega)⟩, ⟨hs4.2.1, hs4.2.2.1, hs4.2.2.2, by rw [hs4.1]; exact Nat.le_refl _, fun k _ hne => setCells_far _ _ k (fun e => hne (by rw [e]; rfl))⟩, .inl rfl⟩
   ·have hj5 := h5 j hj
    exact ⟨setCells_some _ _ _ _ _ hj5.1, by rw [setCells_frozen]; exact hj5.2⟩
   ·rw [hz1, Nat.mul_one, Nat.zero_add] at *
    by_cases hjs : j < xs.length
    ·rw [List.getElem?_append_left (by omega)] at hj
     rw [World.cell?_setCells_out _ _ _ _ _ (fun _ _ => .inl hjs)]
     exact h6 j x hj
    ·rw [List.getElem?_append_right (by omega)] at hj
     have hjl := (List.getElem?_eq_some_iff.1 hj).1
     have := World.cell?_setCells_in b (ys.map (Value.int .u8)) xs.length w (fun j hj => (hsp j hj).1) (j - xs.length) (by rw [List.length_map]; exact hjl)
     rw [show xs.length + (j - xs.length) = j by omega] at this
     rw [this]
     have := (List.getElem?_eq_some_iff.1 hj).2
     simp [this]
  ·obtain ⟨v', w', hrun, hown, hgr⟩ := run_append_arg_grows (P := Tryd.prog) w 22 ty 5 i0 (.int .u8 0) 1 1 ht hi hz0 hz1 hz2 rfl (by decide) ⟨b, 0, none⟩ xs.length cap (xs.map (Value.int .u8)) (by rw [List.length_map]; omega)
    (fun j u hj => by
     rw [List.getElem?_map] at hj
     obtain ⟨x, hx1, hx2⟩ := Option.map_eq_some_iff.1 hj
     rw [add_plain, ← hx2]
     exact h6 j x hx1) ad ys.length c (ys.map (Value.int .u8)) (by rw [List.length_map]; omega) hnews (by omega) (by omega) (by omega)
   have hB2 : Below base w w' := ⟨hgr.os, hgr.tape, hgr.output, hgr.size, fun k hk => hgr.block k (by omega) (by simp)⟩
   have hG2 : w.grownBy w' (Value.slice (some ⟨b, 0, none⟩) xs.length cap).ownBlock := ⟨hgr.os, hgr.tape, hgr.output, hgr.size, fun k hk _ => hgr.block k hk (by simp)⟩
   refine ⟨v', w', hrun, ?_, hB2, hG2, .inr (by obtain ⟨_, h7 | ⟨g, cap', cur, rfl, hbg, _⟩⟩ := hown; exact absurd h7.2 (by omega); exact ⟨g, rfl, hbg⟩)⟩
   obtain ⟨_, h7 | ⟨g, cap', cur, rfl, hbg, hh, hnc, hcmx, hcs, htk⟩⟩ := hown
   ·exact absurd h7.2 (by omega)
   ·refine ⟨g, cap', by rw [hlen2], by omega, (Array.getElem?_eq_some_iff.1 hh).1, by rw [← hlen2]; exact hnc, by omega, fun j hj => ⟨?_, ?_⟩, fun j x hj => ?_⟩
    ·simp [World.cell?, hh]
     omega
    ·simp [World.frozen?, hh]
    ·have hjl := (List.getElem?_eq_some_iff.1 hj).1
     rw [← hlen2] at hjl
     have h8 : cur.toList[j]? = some (.int .u8 x) := by
      have h9 : (cur.toList.take ((xs.length + ys.length) * 1))[j]? = some (.int .u8 x) := by
       rw [htk, ← List.map_append, List.getElem?_map, hj]
       rfl
      rw [List.getElem?_take, if_pos (by omega)] at h9
      exact h9
     simp only [World.cell?, hh]
     simpa using h8
section
variable {ops : Array Oper} {o : Oper} {a : Act} {Q : Exit → Act → World → Prop}
/-- An append to such a row, as a step of a region that draws: what else there is stays. -/
theorem appG_step {w : World} {K : Act → World → Prop} (N : Option Tmp) (hw : Region.wanted o (yielded ops a.tmps) = true) (hd : o.dst = N) {x y : Operand} (hop : o.op = .call { callee := .builtin .append, args := #[x, y], argTypes := #[22, 22] }) {v : Value} {xs ys : List Int} {A : Option Addr} {c : Nat} (hx : a.eval x = v) (hy : a.eval y = .slice A ys.length c) (base : Nat) (hbase : base ≤ w.heap.size) (hG : GRow w base v xs) (hC : Kd.C (Kd.int .u8) w A ys.length ys) (hc : ys.length ≤ c) (hlen : xs.length + ys.length ≤ 140737488355328)
  (h : ∀ v' w', GRow w' base v' (xs ++ ys) → Below base w w' → w.grownBy w' v.ownBlock → (v'.ownBlock = v.ownBlock ∨ ∃ b, v'.ownBlock = some b ∧ w.heap.size ≤ b) → K (a.put N v') w') : if Region.wanted o (yielded ops a.tmps) = true then Oper.wp Tryd.prog o a w K Q else K (a.put N undef) w := by
 rw [if_pos hw]
 obtain ⟨v', w', hr, h1, h2, h3, h4⟩ := G_append2 w base hbase o.type hG hC hc hlen
 unfold Oper.wp execOp
 simp only [hop, resolve, invoke, builtin, Sem.run_bind, Sem.run_pure, Result.andThen_ok, List.map_toArray, List.map_cons, List.map_nil, hx, hy, hr]
 subst hd
 exact h _ _ h1 h2 h3 h4
/-- '[]byte' of a text, as such a step. -/
theorem convG_step {w : World} {K : Act → World → Prop} (N : Option Tmp) (hw : Region.wanted o (yielded ops a.tmps) = true) (hd : o.dst = N) {x : Operand} (hop : o.op = .convert 9 22 x) {s : ByteArray} (hx : a.eval x = .string s) (l : List UInt8) (hl : s.data.toList = l) (hs : l.length ≤ 9223372036854775807)
  (h : ∀ v w', GRow w' w.heap.size v (nInts l) → Below w.heap.size w w' → K (a.put N v) w') : if Region.wanted o (yielded ops a.tmps) = true then Oper.wp Tryd.prog o a w K Q else K (a.put N undef) w := by
 rw [if_pos hw]
 obtain ⟨v, w', hr, h1, h2⟩ := conv_G (w := w) s l hl hs
 unfold Oper.wp execOp
 simp only [hop, hx, Sem.run_bind, hr, Result.andThen_ok, Sem.run_pure]
 subst hd
 exact h _ _ h1 h2
end
/-- The row of two bytes that is laid for an append. -/
structure CrLf (w : World) (base : Nat) (b : Nat) (v : Value) : Prop where
 lt : b < w.heap.size
 ge : base ≤ b
 cells : w.heap[b]? = some (.cells #[.int .u8 13, .int .u8 10] 5 (0, 0))
 far : some b ≠ v.ownBlock
theorem CrLf.C {w : World} {base b : Nat} {v : Value} (h : CrLf w base b v) : Kd.C (Kd.int .u8) w (some ⟨b, 0, none⟩) 2 [13, 10] := by
 obtain ⟨A, c, he, hl, hr⟩ := Kd.R_reads (base := 0) (ok := fun _ => True) (e := 5) (Kd.R_of_own (enc := Value.int .u8) (h1 := fun _ => rfl) (e := 5) (w := w) (base := 0) (ok := fun _ => True) (v := .slice (some ⟨b, 0, none⟩) 2 2) (xs := [13, 10]) ⟨rfl, .inr ⟨b, 2, #[.int .u8 13, .int .u8 10], rfl, Nat.zero_le _, h.cells, by decide, by decide, rfl, rfl⟩⟩ (fun _ _ => trivial))
 injection he with h1 h2 h3
 subst h1
 exact hr
theorem CrLf.new {w : World} {base : Nat} {v : Value} {xs : List Int} (hb : base ≤ w.heap.size) (hG : GRow w base v xs) : CrLf (w.alloc (.cells #[.int .u8 13, .int .u8 10] 5)) base w.heap.size v := by
 obtain ⟨b, cap, rfl, h1, h2, _⟩ := hG
 exact ⟨by simp, hb, by simp [World.alloc, -World.alloc_eq], by simp [Value.ownBlock]; omega⟩
theorem CrLf.below {w w1 : World} {base b : Nat} {v : Value} (h : CrLf w base b v) (hb : Below w.heap.size w w1) : CrLf w1 base b v :=
 ⟨Nat.lt_of_lt_of_le h.lt hb.size, h.ge, (hb.block _ h.lt).trans h.cells, h.far⟩
theorem CrLf.grown {w w1 : World} {base b : Nat} {v v1 : Value} (h : CrLf w base b v) (hg : w.grownBy w1 v.ownBlock) (hat : v1.ownBlock = v.ownBlock ∨ ∃ b, v1.ownBlock = some b ∧ w.heap.size ≤ b) : CrLf w1 base b v1 :=
 ⟨Nat.lt_of_lt_of_le h.lt hg.size, h.ge, (hg.block _ h.lt h.far).trans h.cells, by
  rcases hat with hat | ⟨k, hk, hle⟩
  ·rw [hat]; exact h.far
  ·rw [hk]; intro he; injection he with he; have := h.lt; omega⟩
theorem mList (s : ByteArray) (q : Bool) : (if q = true then (⟨#[34]⟩ ++ s ++ ⟨#[34]⟩ : ByteArray) else s).data.toList = mQ s q := by
 unfold mQ
 cases q <;> simp
theorem rows_at {w : World} {A : Option Addr} {n : Nat} {l : List (List Int)} (h : Kd.C (Kd.slice 5 (Kd.int .u8)) w A n l) (i : Nat) (p : List Int) (hp : l[i]? = some p) : ∃ ad B c, A = some ad ∧ w.cell? (ad.add i) = some (.slice B p.length c) ∧ Kd.C (Kd.int .u8) w B p.length p ∧ p.length ≤ c := by
 have hn : 0 < n := by have := (List.getElem?_eq_some_iff.1 hp).1; have := h.1; omega
 obtain ⟨hl, hm, hc⟩ := h
 obtain ⟨ad, rfl, hc2⟩ := hc hn
 obtain ⟨cs, hs, hr, hcell⟩ := hc2 i p hp
 obtain ⟨B, c, rfl, hpc, hC⟩ := hr
 have := hcell 0 _ rfl
 have hsz : (Kd.slice 5 (Kd.int .u8)).sz = 1 := rfl
 rw [hsz, Nat.mul_one, Nat.add_zero] at this
 exact ⟨ad, B, c, rfl, this, hC, hpc⟩
/-- What the row holds behind i rounds. -/
def mAt (bound : ByteArray) (quoted : Bool) (parts : List (List Int)) (i : Nat) : List Int := mStart bound quoted ++ mParts bound (parts.take i)
theorem mAt_succ (bound : ByteArray) (quoted : Bool) (parts : List (List Int)) (i : Nat) (p : List Int) (h : parts[i]? = some p) : mAt bound quoted parts (i + 1) = mAt bound quoted parts i ++ mMark bound ++ p ++ [13, 10] := by
 obtain ⟨hl, rfl⟩ := List.getElem?_eq_some_iff.1 h
 unfold mAt mParts
 rw [List.take_succ_eq_append_getElem hl, List.flatMap_append]
 simp
theorem mAt_le (bound : ByteArray) (quoted : Bool) (parts : List (List Int)) (i : Nat) : (mAt bound quoted parts i).length ≤ (mStart bound quoted ++ mParts bound parts).length := by
 unfold mAt mParts
 have : (parts.flatMap fun p => mMark bound ++ p ++ [13, 10]) = ((parts.take i).flatMap fun p => mMark bound ++ p ++ [13, 10]) ++ ((parts.drop i).flatMap fun p => mMark bound ++ p ++ [13, 10]) := by
  rw [← List.flatMap_append, List.take_append_drop]
 rw [this]
 simp only [List.length_append]
 omega
structure MsgIn (w wx : World) (bound : ByteArray) (quoted : Bool) (parts : List (List Int)) (i : Nat) (v : Value) : Prop where
 below : Below w.heap.size w wx
 row : GRow wx w.heap.size v (mAt bound quoted parts i)

set_option maxHeartbeats 8000000 in
set_option maxRecDepth 1000000 in
theorem letterboxlaw10_message.calls (a0 : ByteArray) (A1 : Option Addr) (c1 : Nat) (l1 : List (List Int)) (a2 : Bool) (r : List Int) (w : World) (hr1 : Kd.C (Kd.slice 5 (Kd.int .u8)) w A1 l1.length l1) (hc1 : l1.length ≤ c1) (h : letterboxlaw10_message.f a0 l1 a2 = some r) :
  Calls Tryd.prog 8 #[.string a0, .slice A1 l1.length c1, .bool a2] w fun e w' => ∃ v0_ : Value, e = .returned v0_ ∧ Kd.V (Kd.int .u8) 5 w' w.heap.size (fun k_ => w.heap.size ≤ k_) v0_ r ∧ Below w.heap.size w w' := by
 unfold letterboxlaw10_message.f at h
 split at h
 case isFalse => cases h
 rename_i hsz
 obtain rfl := Option.some.inj h
 clear h
 have HS := Aside0.mk hsz
 have HR := Aside0.mk hr1
 have HM := Aside0.mk (Kd.C_max hr1)
 have hsz1 := hsz.1
 clear hsz hr1 hc1
 obtain ⟨q, hq⟩ : ∃ q : Bool, q = a2 := ⟨_, rfl⟩
 have HQ := Aside0.mk hq
 rw [← hq] at HS
 rw [show mStart a0 a2 = mStart a0 q from by rw [hq]]
 clear hq
 cases a2
 case' false =>
  go_enter Tryd.func8, Tryd.ntmps8
  go_wp2_with ((with_reducible refine gate_dst (N := 18) rfl ?_); refine convG_ (some 18) rfl rfl rfl (s := _) rfl (mHead ++ mQ a0 q ++ mPre) (by rw [HQ.out]; simp [mHead, mQ, mPre]) (by have hz := sz_ hsz1; rw [HQ.out]; simp only [List.length_append, mHead, mQ, mPre, List.length_cons, List.length_nil, if_true, Bool.false_eq_true, if_false]; omega) ?_; intro v w2 hG hb; have IN := Aside0.mk (MsgIn.mk (quoted := q) (parts := l1) (i := 0) hb (by rw [show mAt a0 q l1 0 = nInts (mHead ++ mQ a0 q ++ mPre) from by simp [mAt, mParts, mStart]]; exact hG)); clear hG hb)
 case' true =>
  go_enter Tryd.func8, Tryd.ntmps8
  go_wp2_with ((with_reducible refine gate_dst (N := 18) rfl ?_); refine convG_ (some 18) rfl rfl rfl (s := _) rfl (mHead ++ mQ a0 q ++ mPre) (by rw [HQ.out]; simp [mHead, mQ, mPre]) (by have hz := sz_ hsz1; rw [HQ.out]; simp only [List.length_append, mHead, mQ, mPre, List.length_cons, List.length_nil, if_true, Bool.false_eq_true, if_false]; omega) ?_; intro v w2 hG hb; have IN := Aside0.mk (MsgIn.mk (quoted := q) (parts := l1) (i := 0) hb (by rw [show mAt a0 q l1 0 = nInts (mHead ++ mQ a0 q ++ mPre) from by simp [mAt, mParts, mStart]]; exact hG)); clear hG hb)
 all_goals
 go_loopg [8, 9] l1.length (fun g u8 u9 wz => ∃ i : Nat, i + g = l1.length ∧ u9 = .int .i64 i ∧ MsgIn w wz a0 q l1 i u8)
 case atStart => exact ⟨0, by omega, rfl, IN.out⟩
 case round =>
  obtain ⟨i, hig, rfl, hin⟩ := hrel
  clear IN
  have HI := Aside0.mk hin
  clear hin
  rename_i vr
  have hm := HM.out
  cases gk with
  | zero =>
   obtain rfl : i = l1.length := by omega
   go_wp2_with (first | ((with_reducible refine gate_dst (N := 42) rfl ?_); refine convG_ (some 42) rfl rfl rfl (s := _) rfl ([45, 45] ++ a0.data.toList ++ mEnd) (by simp [mEnd]) (by have hz := sz_ hsz1; simp only [List.length_append, mEnd, List.length_cons, List.length_nil]; omega) ?_; intro v5 w5 hG5 hb5; obtain ⟨Aq5, cq5, rfl⟩ := G_slice hG5; have HB5 := Aside0.mk (below_step HI.out.below hb5); have HG5 := Aside0.mk (G_below HI.out.row hb5); have HC5 := Aside0.mk (G_C hG5); clear hG5 hb5) | ((with_reducible refine gate_dst (N := 43) rfl ?_); refine appG_ (some 43) rfl rfl rfl (xs := mAt a0 q l1 l1.length) (ys := nInts ([45, 45] ++ a0.data.toList ++ mEnd)) rfl rfl w.heap.size HB5.out.size HG5.out HC5.out.1 HC5.out.2 (by have h1 := HS.out.2; have h2 := mAt_le a0 q l1 l1.length; unfold mLast at h1; rw [List.length_append] at h1; omega) ?_; intro v6 w6 hG6 hb6; have HB6 := Aside0.mk (HB5.out.trans hb6); have HG6 := Aside0.mk hG6; clear hG6 hb6))
   go_ret
   refine ⟨_, rfl, ?_, HB6.out⟩
   have := G_V HG6.out
   unfold mAt at this
   rw [List.take_length] at this
   exact this
  | succ g =>
   have hi : i < l1.length := by omega
   obtain ⟨p, hpe⟩ : ∃ p, l1[i]? = some p := ⟨_, List.getElem?_eq_getElem hi⟩
   obtain ⟨ad, B, c, rfl, hc0, hp0, hp1⟩ := rows_at HR.out i p hpe
   have hcell0 := Aside0.mk hc0
   have hp2 := Aside0.mk hp0
   have hp3 := Aside0.mk hp1
   clear hc0 hp0 hp1
   have HBs := Aside0.mk HI.out.below
   have HGs := Aside0.mk HI.out.row
   have hsucc := Aside0.mk (mAt_succ a0 q l1 i p hpe)
   have hlen : Aside0 ((mAt a0 q l1 i ++ mMark a0 ++ p ++ [13, 10]).length ≤ 140737488355328) := Aside0.mk (by rw [← hsucc.out]; have h1 := HS.out.2; have h2 := mAt_le a0 q l1 (i + 1); rw [List.length_append] at h1; omega)
   clear HI hpe
   obtain ⟨xs0, hxs⟩ : ∃ xs0, mAt a0 q l1 i = xs0 := ⟨_, rfl⟩
   rw [hxs] at HGs hlen hsucc
   clear hxs
   have ha1 : ¬ 9223372036854775807 < 2 + a0.size := by omega
   have ha2 : ¬ 9223372036854775807 < 2 + a0.size + 2 := by omega
   go_wp2
   refine start_ (n := 14) (S := fun w' => w'.cell? (ad.add i) = some (.slice B p.length c)) (ds := []) #[false, false, false, false, false, false, false, false, false, false, false, false, false, false] (by kernel_rfl) rfl rfl (pw_cell_below HBs.out hcell0.out) (fun hHeld => ?_)
   have HB0 := Aside0.mk (below_drew HBs.out)
   have HG0 := Aside0.mk (G_below HGs.out (below_drew (Below.refl _ _)))
   clear HBs HGs
   refine pure_ (i := 0) (N := some 25) (v := ?_) (a' := ?_) #[true, false, false, false, false, false, false, false, false, false, false, false, false, false] rfl rfl (by kernel_rfl) (fun _ _ _ h => h) (Or.inl ⟨by rfl, ?_⟩) ?_ ?_
   rotate_left
   ·intro w'
    go_simp
    with_reducible rfl
   rotate_left
   ·simp only [Act.put, List.setIfInBounds_toArray, List.set_cons_zero, List.set_cons_succ, i64_w, i32_w]
    rfl
   refine pure_ (i := 1) (N := some 26) (v := ?_) (a' := ?_) #[true, true, false, false, false, false, false, false, false, false, false, false, false, false] rfl rfl (by kernel_rfl) (fun _ _ _ h => h) (Or.inl ⟨by rfl, ?_⟩) ?_ ?_
   rotate_left
   ·intro w'
    go_simp
    with_reducible rfl
   rotate_left
   ·simp only [Act.put, List.setIfInBounds_toArray, List.set_cons_zero, List.set_cons_succ, i64_w, i32_w]
    rfl
   refine pure_ (i := 2) (N := some 27) (v := ?_) (a' := ?_) #[true, true, true, false, false, false, false, false, false, false, false, false, false, false] rfl rfl (by kernel_rfl) (fun _ _ _ h => h) (Or.inl ⟨by rfl, ?_⟩) ?_ ?_
   rotate_left
   ·intro w'
    go_simp
    with_reducible rfl
   rotate_left
   ·simp only [Act.put, List.setIfInBounds_toArray, List.set_cons_zero, List.set_cons_succ, i64_w, i32_w]
    rfl
   refine pure_ (i := 3) (N := some 28) (v := ?_) (a' := ?_) #[true, true, true, true, false, false, false, false, false, false, false, false, false, false] rfl rfl (by kernel_rfl) (fun _ _ _ h => h) (Or.inl ⟨by rfl, ?_⟩) ?_ ?_
   rotate_left
   ·intro w'
    go_simp
    with_reducible rfl
   rotate_left
   ·simp only [Act.put, List.setIfInBounds_toArray, List.set_cons_zero, List.set_cons_succ, i64_w, i32_w]
    rfl
   refine pure_ (i := 6) (N := some 31) (v := ?_) (a' := ?_) #[true, true, true, true, false, false, true, false, false, false, false, false, false, false] rfl rfl (by kernel_rfl) (fun _ _ _ h => h) (Or.inl ⟨by rfl, ?_⟩) ?_ ?_
   rotate_left
   ·intro w'
    go_simp
    with_reducible rfl
   rotate_left
   ·simp only [Act.put, List.setIfInBounds_toArray, List.set_cons_zero, List.set_cons_succ, i64_w, i32_w]
    rfl
   refine pure_ (i := 7) (N := some 32) (v := ?_) (a' := ?_) #[true, true, true, true, false, false, true, true, false, false, false, false, false, false] rfl rfl (by kernel_rfl) (fun _ _ _ h => h) (Or.inl ⟨by rfl, ?_⟩) ?_ ?_
   rotate_left
   ·intro w'
    go_simp
    with_reducible rfl
   rotate_left
   ·simp only [Act.put, List.setIfInBounds_toArray, List.set_cons_zero, List.set_cons_succ, i64_w, i32_w]
    rfl
   refine pure_ (i := 8) (N := some 33) (v := ?_) (a' := ?_) #[true, true, true, true, false, false, true, true, true, false, false, false, false, false] rfl rfl (by kernel_rfl) (fun _ _ _ h => h) (Or.inl ⟨by rfl, ?_⟩) ?_ ?_
   rotate_left
   ·intro w'
    go_simp
    with_reducible rfl
   rotate_left
   ·simp only [Act.put, List.setIfInBounds_toArray, List.set_cons_zero, List.set_cons_succ, i64_w, i32_w]
    rfl
   refine take_ (i := 9) (N := some 34) (v := ?_) (a' := ?_) #[true, true, true, true, false, false, true, true, true, true, false, false, false, false] rfl rfl (by kernel_rfl) (fun _ _ _ h => h) (Or.inl ⟨by rfl, ?_⟩) hHeld ?_ ?_
   rotate_left
   ·intro w' s0
    go_simp
    with_reducible rfl
   rotate_left
   ·simp only [Act.put, List.setIfInBounds_toArray, List.set_cons_zero, List.set_cons_succ, i64_w, i32_w]
    rfl
   refine two_ (i := 4) (j := 11) (Ni := some 29) (Nj := some 36) #[true, true, true, true, true, false, true, true, true, true, false, false, false, false] #[true, true, true, true, false, false, true, true, true, true, false, true, false, false] rfl rfl rfl rfl (by kernel_rfl) (by decide) (by decide) (fun K hK => ?_) (fun K hK => ?_)
   ·skip
    refine convG_step (some 29) (by rfl) rfl rfl (s := _) rfl ([45, 45] ++ a0.data.toList ++ [13, 10]) (by simp) (by have hz := sz_ hsz1; simp only [List.length_append, List.length_cons, List.length_nil]; omega) ?_
    intro u1 w1 hG1 hb1
    obtain ⟨Aq1, cq1, rfl⟩ := G_slice hG1
    have HB1 := Aside0.mk (below_step HB0.out hb1)
    have HG1 := Aside0.mk (G_below HG0.out hb1)
    have HC1 := Aside0.mk (G_C hG1)
    clear hG1 hb1
    refine hK.out _ _ (pw_cell_below HB1.out hcell0.out) (fun hHeld => ?_)
    clear hK K
    refine norm_ (a' := ?_) ?_ ?_
    rotate_left
    ·show Act.put _ (some 29) _ = _
     simp only [Act.put, List.setIfInBounds_toArray, List.set_cons_zero, List.set_cons_succ, i64_w, i32_w]
     rfl
    refine two_ (i := 5) (j := 11) (Ni := some 30) (Nj := some 36) #[true, true, true, true, true, true, true, true, true, true, false, false, false, false] #[true, true, true, true, true, false, true, true, true, true, false, true, false, false] rfl rfl rfl rfl (by kernel_rfl) (by decide) (by decide) (fun K hK => ?_) (fun K hK => ?_)
    ·skip
     refine appG_step (some 30) (by rfl) rfl rfl (xs := xs0) (ys := mMark a0) rfl rfl w.heap.size HB1.out.size HG1.out HC1.out.1 HC1.out.2 (by have := hlen.out; simp only [List.length_append, List.length_cons, List.length_nil] at this ⊢; omega) ?_
     intro u2 w2 hG2 hb2 hg2 hat2
     have HB2 := Aside0.mk (Below.trans HB1.out hb2)
     have HG2 := Aside0.mk hG2
     clear hG2 hb2 hg2 hat2
     refine hK.out _ _ (pw_cell_below HB2.out hcell0.out) (fun hHeld => ?_)
     clear hK K
     refine norm_ (a' := ?_) ?_ ?_
     rotate_left
     ·show Act.put _ (some 30) _ = _
      simp only [Act.put, List.setIfInBounds_toArray, List.set_cons_zero, List.set_cons_succ, i64_w, i32_w]
      rfl
     refine two_ (i := 10) (j := 11) (Ni := some 35) (Nj := some 36) #[true, true, true, true, true, true, true, true, true, true, true, false, false, false] #[true, true, true, true, true, true, true, true, true, true, false, true, false, false] rfl rfl rfl rfl (by kernel_rfl) (by decide) (by decide) (fun K hK => ?_) (fun K hK => ?_)
     ·skip
      refine appG_step (some 35) (by rfl) rfl rfl (xs := xs0 ++ mMark a0) (ys := p) rfl rfl w.heap.size HB2.out.size HG2.out (Kd.C_below hp2.out HB2.out) hp3.out (by have := hlen.out; simp only [List.length_append, List.length_cons, List.length_nil] at this ⊢; omega) ?_
      intro u3 w3 hG3 hb3 hg3 hat3
      have HB3 := Aside0.mk (Below.trans HB2.out hb3)
      have HG3 := Aside0.mk hG3
      clear hG3 hb3 hg3 hat3
      refine hK.out _ _ (pw_cell_below HB3.out hcell0.out) (fun hHeld => ?_)
      clear hK K
      refine norm_ (a' := ?_) ?_ ?_
      rotate_left
      ·show Act.put _ (some 35) _ = _
       simp only [Act.put, List.setIfInBounds_toArray, List.set_cons_zero, List.set_cons_succ, i64_w, i32_w]
       rfl
      refine one_ (i := 11) (N := some 36) #[true, true, true, true, true, true, true, true, true, true, true, true, false, false] rfl rfl (by kernel_rfl) (by decide) (fun K hK => ?_)
      refine value_ (w1 := ?_) (v := ?_) (by rfl) rfl ?_ ?_
      rotate_left 2
      ·go_simp
       constructor
       ·rfl
       ·rfl
      have HB4 := Aside0.mk (below_alloc HB3.out (.cells #[.int .u8 13, .int .u8 10] 5))
      have HG4 := Aside0.mk (G_below HG3.out (below_alloc (Below.refl _ _) (.cells #[.int .u8 13, .int .u8 10] 5)))
      have HR4 := Aside0.mk (CrLf.new HB3.out.size HG3.out)
      have HC4 := Aside0.mk (And.intro (Kd.C_alloc HC1.out.1 (.cells #[.int .u8 13, .int .u8 10] 5)) HC1.out.2)
      refine hK.out _ _ (pw_cell_below HB4.out hcell0.out) (fun hHeld => ?_)
      clear hK K
      refine norm_ (a' := ?_) ?_ ?_
      rotate_left
      ·show Act.put _ (some 36) _ = _
       simp only [Act.put, List.setIfInBounds_toArray, List.set_cons_zero, List.set_cons_succ, i64_w, i32_w]
       rfl
      refine one_ (i := 12) (N := some 37) #[true, true, true, true, true, true, true, true, true, true, true, true, true, false] rfl rfl (by kernel_rfl) (by decide) (fun K hK => ?_)
      refine appG_step (some 37) (by rfl) rfl rfl (xs := xs0 ++ mMark a0 ++ p) (ys := [13, 10]) rfl rfl w.heap.size HB4.out.size HG4.out HR4.out.C (by decide) (by have := hlen.out; simp only [List.length_append, List.length_cons, List.length_nil] at this ⊢; omega) ?_
      intro u5 w5 hG5 hb5 hg5 hat5
      have HB5 := Aside0.mk (Below.trans HB4.out hb5)
      have HG5 := Aside0.mk hG5
      have HR5 := Aside0.mk (CrLf.grown HR4.out hg5 hat5)
      clear hG5 hb5 hg5 hat5
      refine hK.out _ _ (pw_cell_below HB5.out hcell0.out) (fun hHeld => ?_)
      clear hK K
      refine norm_ (a' := ?_) ?_ ?_
      rotate_left
      ·show Act.put _ (some 37) _ = _
       simp only [Act.put, List.setIfInBounds_toArray, List.set_cons_zero, List.set_cons_succ, i64_w, i32_w]
       rfl
      refine pure_ (i := 13) (N := some 8) (v := ?_) (a' := ?_) #[true, true, true, true, true, true, true, true, true, true, true, true, true, true] rfl rfl (by kernel_rfl) (fun _ _ _ h => h) (Or.inl ⟨by rfl, ?_⟩) ?_ ?_
      rotate_left
      ·intro w'
       go_simp
       with_reducible rfl
      rotate_left
      ·simp only [Act.put, List.setIfInBounds_toArray, List.set_cons_zero, List.set_cons_succ, i64_w, i32_w]
       rfl
      refine done_ (by kernel_rfl) ?_
      have HBe := HB5
      have HGe := HG5
      rw [← hsucc.out] at HGe
      go_wp2
      go_roundg g
      case measure => omega
      case rel => exact ⟨i + 1, by omega, by simp, ⟨HBe.out, HGe.out⟩⟩
     ·skip
      refine value_ (w1 := ?_) (v := ?_) (by rfl) rfl ?_ ?_
      rotate_left 2
      ·go_simp
       constructor
       ·rfl
       ·rfl
      have HB6 := Aside0.mk (below_alloc HB2.out (.cells #[.int .u8 13, .int .u8 10] 5))
      have HG6 := Aside0.mk (G_below HG2.out (below_alloc (Below.refl _ _) (.cells #[.int .u8 13, .int .u8 10] 5)))
      have HR6 := Aside0.mk (CrLf.new HB2.out.size HG2.out)
      have HC6 := Aside0.mk (And.intro (Kd.C_alloc HC1.out.1 (.cells #[.int .u8 13, .int .u8 10] 5)) HC1.out.2)
      refine hK.out _ _ (pw_cell_below HB6.out hcell0.out) (fun hHeld => ?_)
      clear hK K
      refine norm_ (a' := ?_) ?_ ?_
      rotate_left
      ·show Act.put _ (some 36) _ = _
       simp only [Act.put, List.setIfInBounds_toArray, List.set_cons_zero, List.set_cons_succ, i64_w, i32_w]
       rfl
      refine one_ (i := 10) (N := some 35) #[true, true, true, true, true, true, true, true, true, true, true, true, false, false] rfl rfl (by kernel_rfl) (by decide) (fun K hK => ?_)
      refine appG_step (some 35) (by rfl) rfl rfl (xs := xs0 ++ mMark a0) (ys := p) rfl rfl w.heap.size HB6.out.size HG6.out (Kd.C_below hp2.out HB6.out) hp3.out (by have := hlen.out; simp only [List.length_append, List.length_cons, List.length_nil] at this ⊢; omega) ?_
      intro u7 w7 hG7 hb7 hg7 hat7
      have HB7 := Aside0.mk (Below.trans HB6.out hb7)
      have HG7 := Aside0.mk hG7
      have HR7 := Aside0.mk (CrLf.grown HR6.out hg7 hat7)
      clear hG7 hb7 hg7 hat7
      refine hK.out _ _ (pw_cell_below HB7.out hcell0.out) (fun hHeld => ?_)
      clear hK K
      refine norm_ (a' := ?_) ?_ ?_
      rotate_left
      ·show Act.put _ (some 35) _ = _
       simp only [Act.put, List.setIfInBounds_toArray, List.set_cons_zero, List.set_cons_succ, i64_w, i32_w]
       rfl
      refine one_ (i := 12) (N := some 37) #[true, true, true, true, true, true, true, true, true, true, true, true, true, false] rfl rfl (by kernel_rfl) (by decide) (fun K hK => ?_)
      refine appG_step (some 37) (by rfl) rfl rfl (xs := xs0 ++ mMark a0 ++ p) (ys := [13, 10]) rfl rfl w.heap.size HB7.out.size HG7.out HR7.out.C (by decide) (by have := hlen.out; simp only [List.length_append, List.length_cons, List.length_nil] at this ⊢; omega) ?_
      intro u8 w8 hG8 hb8 hg8 hat8
      have HB8 := Aside0.mk (Below.trans HB7.out hb8)
      have HG8 := Aside0.mk hG8
      have HR8 := Aside0.mk (CrLf.grown HR7.out hg8 hat8)
      clear hG8 hb8 hg8 hat8
      refine hK.out _ _ (pw_cell_below HB8.out hcell0.out) (fun hHeld => ?_)
      clear hK K
      refine norm_ (a' := ?_) ?_ ?_
      rotate_left
      ·show Act.put _ (some 37) _ = _
       simp only [Act.put, List.setIfInBounds_toArray, List.set_cons_zero, List.set_cons_succ, i64_w, i32_w]
       rfl
      refine pure_ (i := 13) (N := some 8) (v := ?_) (a' := ?_) #[true, true, true, true, true, true, true, true, true, true, true, true, true, true] rfl rfl (by kernel_rfl) (fun _ _ _ h => h) (Or.inl ⟨by rfl, ?_⟩) ?_ ?_
      rotate_left
      ·intro w'
       go_simp
       with_reducible rfl
      rotate_left
      ·simp only [Act.put, List.setIfInBounds_toArray, List.set_cons_zero, List.set_cons_succ, i64_w, i32_w]
       rfl
      refine done_ (by kernel_rfl) ?_
      have HBe := HB8
      have HGe := HG8
      rw [← hsucc.out] at HGe
      go_wp2
      go_roundg g
      case measure => omega
      case rel => exact ⟨i + 1, by omega, by simp, ⟨HBe.out, HGe.out⟩⟩
    ·skip
     refine value_ (w1 := ?_) (v := ?_) (by rfl) rfl ?_ ?_
     rotate_left 2
     ·go_simp
      constructor
      ·rfl
      ·rfl
     have HB9 := Aside0.mk (below_alloc HB1.out (.cells #[.int .u8 13, .int .u8 10] 5))
     have HG9 := Aside0.mk (G_below HG1.out (below_alloc (Below.refl _ _) (.cells #[.int .u8 13, .int .u8 10] 5)))
     have HR9 := Aside0.mk (CrLf.new HB1.out.size HG1.out)
     have HC9 := Aside0.mk (And.intro (Kd.C_alloc HC1.out.1 (.cells #[.int .u8 13, .int .u8 10] 5)) HC1.out.2)
     refine hK.out _ _ (pw_cell_below HB9.out hcell0.out) (fun hHeld => ?_)
     clear hK K
     refine norm_ (a' := ?_) ?_ ?_
     rotate_left
     ·show Act.put _ (some 36) _ = _
      simp only [Act.put, List.setIfInBounds_toArray, List.set_cons_zero, List.set_cons_succ, i64_w, i32_w]
      rfl
     refine one_ (i := 5) (N := some 30) #[true, true, true, true, true, true, true, true, true, true, false, true, false, false] rfl rfl (by kernel_rfl) (by decide) (fun K hK => ?_)
     refine appG_step (some 30) (by rfl) rfl rfl (xs := xs0) (ys := mMark a0) rfl rfl w.heap.size HB9.out.size HG9.out HC9.out.1 HC9.out.2 (by have := hlen.out; simp only [List.length_append, List.length_cons, List.length_nil] at this ⊢; omega) ?_
     intro u10 w10 hG10 hb10 hg10 hat10
     have HB10 := Aside0.mk (Below.trans HB9.out hb10)
     have HG10 := Aside0.mk hG10
     have HR10 := Aside0.mk (CrLf.grown HR9.out hg10 hat10)
     clear hG10 hb10 hg10 hat10
     refine hK.out _ _ (pw_cell_below HB10.out hcell0.out) (fun hHeld => ?_)
     clear hK K
     refine norm_ (a' := ?_) ?_ ?_
     rotate_left
     ·show Act.put _ (some 30) _ = _
      simp only [Act.put, List.setIfInBounds_toArray, List.set_cons_zero, List.set_cons_succ, i64_w, i32_w]
      rfl
     refine one_ (i := 10) (N := some 35) #[true, true, true, true, true, true, true, true, true, true, true, true, false, false] rfl rfl (by kernel_rfl) (by decide) (fun K hK => ?_)
     refine appG_step (some 35) (by rfl) rfl rfl (xs := xs0 ++ mMark a0) (ys := p) rfl rfl w.heap.size HB10.out.size HG10.out (Kd.C_below hp2.out HB10.out) hp3.out (by have := hlen.out; simp only [List.length_append, List.length_cons, List.length_nil] at this ⊢; omega) ?_
     intro u11 w11 hG11 hb11 hg11 hat11
     have HB11 := Aside0.mk (Below.trans HB10.out hb11)
     have HG11 := Aside0.mk hG11
     have HR11 := Aside0.mk (CrLf.grown HR10.out hg11 hat11)
     clear hG11 hb11 hg11 hat11
     refine hK.out _ _ (pw_cell_below HB11.out hcell0.out) (fun hHeld => ?_)
     clear hK K
     refine norm_ (a' := ?_) ?_ ?_
     rotate_left
     ·show Act.put _ (some 35) _ = _
      simp only [Act.put, List.setIfInBounds_toArray, List.set_cons_zero, List.set_cons_succ, i64_w, i32_w]
      rfl
     refine one_ (i := 12) (N := some 37) #[true, true, true, true, true, true, true, true, true, true, true, true, true, false] rfl rfl (by kernel_rfl) (by decide) (fun K hK => ?_)
     refine appG_step (some 37) (by rfl) rfl rfl (xs := xs0 ++ mMark a0 ++ p) (ys := [13, 10]) rfl rfl w.heap.size HB11.out.size HG11.out HR11.out.C (by decide) (by have := hlen.out; simp only [List.length_append, List.length_cons, List.length_nil] at this ⊢; omega) ?_
     intro u12 w12 hG12 hb12 hg12 hat12
     have HB12 := Aside0.mk (Below.trans HB11.out hb12)
     have HG12 := Aside0.mk hG12
     have HR12 := Aside0.mk (CrLf.grown HR11.out hg12 hat12)
     clear hG12 hb12 hg12 hat12
     refine hK.out _ _ (pw_cell_below HB12.out hcell0.out) (fun hHeld => ?_)
     clear hK K
     refine norm_ (a' := ?_) ?_ ?_
     rotate_left
     ·show Act.put _ (some 37) _ = _
      simp only [Act.put, List.setIfInBounds_toArray, List.set_cons_zero, List.set_cons_succ, i64_w, i32_w]
      rfl
     refine pure_ (i := 13) (N := some 8) (v := ?_) (a' := ?_) #[true, true, true, true, true, true, true, true, true, true, true, true, true, true] rfl rfl (by kernel_rfl) (fun _ _ _ h => h) (Or.inl ⟨by rfl, ?_⟩) ?_ ?_
     rotate_left
     ·intro w'
      go_simp
      with_reducible rfl
     rotate_left
     ·simp only [Act.put, List.setIfInBounds_toArray, List.set_cons_zero, List.set_cons_succ, i64_w, i32_w]
      rfl
     refine done_ (by kernel_rfl) ?_
     have HBe := HB12
     have HGe := HG12
     rw [← hsucc.out] at HGe
     go_wp2
     go_roundg g
     case measure => omega
     case rel => exact ⟨i + 1, by omega, by simp, ⟨HBe.out, HGe.out⟩⟩
   ·skip
    refine value_ (w1 := ?_) (v := ?_) (by rfl) rfl ?_ ?_
    rotate_left 2
    ·go_simp
     constructor
     ·rfl
     ·rfl
    have HB13 := Aside0.mk (below_alloc HB0.out (.cells #[.int .u8 13, .int .u8 10] 5))
    have HG13 := Aside0.mk (G_below HG0.out (below_alloc (Below.refl _ _) (.cells #[.int .u8 13, .int .u8 10] 5)))
    have HR13 := Aside0.mk (CrLf.new HB0.out.size HG0.out)
    refine hK.out _ _ (pw_cell_below HB13.out hcell0.out) (fun hHeld => ?_)
    clear hK K
    refine norm_ (a' := ?_) ?_ ?_
    rotate_left
    ·show Act.put _ (some 36) _ = _
     simp only [Act.put, List.setIfInBounds_toArray, List.set_cons_zero, List.set_cons_succ, i64_w, i32_w]
     rfl
    refine one_ (i := 4) (N := some 29) #[true, true, true, true, true, false, true, true, true, true, false, true, false, false] rfl rfl (by kernel_rfl) (by decide) (fun K hK => ?_)
    refine convG_step (some 29) (by rfl) rfl rfl (s := _) rfl ([45, 45] ++ a0.data.toList ++ [13, 10]) (by simp) (by have hz := sz_ hsz1; simp only [List.length_append, List.length_cons, List.length_nil]; omega) ?_
    intro u14 w14 hG14 hb14
    obtain ⟨Aq14, cq14, rfl⟩ := G_slice hG14
    have HB14 := Aside0.mk (below_step HB13.out hb14)
    have HG14 := Aside0.mk (G_below HG13.out hb14)
    have HC14 := Aside0.mk (G_C hG14)
    have HR14 := Aside0.mk (CrLf.below HR13.out hb14)
    clear hG14 hb14
    refine hK.out _ _ (pw_cell_below HB14.out hcell0.out) (fun hHeld => ?_)
    clear hK K
    refine norm_ (a' := ?_) ?_ ?_
    rotate_left
    ·show Act.put _ (some 29) _ = _
     simp only [Act.put, List.setIfInBounds_toArray, List.set_cons_zero, List.set_cons_succ, i64_w, i32_w]
     rfl
    refine one_ (i := 5) (N := some 30) #[true, true, true, true, true, true, true, true, true, true, false, true, false, false] rfl rfl (by kernel_rfl) (by decide) (fun K hK => ?_)
    refine appG_step (some 30) (by rfl) rfl rfl (xs := xs0) (ys := mMark a0) rfl rfl w.heap.size HB14.out.size HG14.out HC14.out.1 HC14.out.2 (by have := hlen.out; simp only [List.length_append, List.length_cons, List.length_nil] at this ⊢; omega) ?_
    intro u15 w15 hG15 hb15 hg15 hat15
    have HB15 := Aside0.mk (Below.trans HB14.out hb15)
    have HG15 := Aside0.mk hG15
    have HR15 := Aside0.mk (CrLf.grown HR14.out hg15 hat15)
    clear hG15 hb15 hg15 hat15
    refine hK.out _ _ (pw_cell_below HB15.out hcell0.out) (fun hHeld => ?_)
    clear hK K
    refine norm_ (a' := ?_) ?_ ?_
    rotate_left
    ·show Act.put _ (some 30) _ = _
     simp only [Act.put, List.setIfInBounds_toArray, List.set_cons_zero, List.set_cons_succ, i64_w, i32_w]
     rfl
    refine one_ (i := 10) (N := some 35) #[true, true, true, true, true, true, true, true, true, true, true, true, false, false] rfl rfl (by kernel_rfl) (by decide) (fun K hK => ?_)
    refine appG_step (some 35) (by rfl) rfl rfl (xs := xs0 ++ mMark a0) (ys := p) rfl rfl w.heap.size HB15.out.size HG15.out (Kd.C_below hp2.out HB15.out) hp3.out (by have := hlen.out; simp only [List.length_append, List.length_cons, List.length_nil] at this ⊢; omega) ?_
    intro u16 w16 hG16 hb16 hg16 hat16
    have HB16 := Aside0.mk (Below.trans HB15.out hb16)
    have HG16 := Aside0.mk hG16
    have HR16 := Aside0.mk (CrLf.grown HR15.out hg16 hat16)
    clear hG16 hb16 hg16 hat16
    refine hK.out _ _ (pw_cell_below HB16.out hcell0.out) (fun hHeld => ?_)
    clear hK K
    refine norm_ (a' := ?_) ?_ ?_
    rotate_left
    ·show Act.put _ (some 35) _ = _
     simp only [Act.put, List.setIfInBounds_toArray, List.set_cons_zero, List.set_cons_succ, i64_w, i32_w]
     rfl
    refine one_ (i := 12) (N := some 37) #[true, true, true, true, true, true, true, true, true, true, true, true, true, false] rfl rfl (by kernel_rfl) (by decide) (fun K hK => ?_)
    refine appG_step (some 37) (by rfl) rfl rfl (xs := xs0 ++ mMark a0 ++ p) (ys := [13, 10]) rfl rfl w.heap.size HB16.out.size HG16.out HR16.out.C (by decide) (by have := hlen.out; simp only [List.length_append, List.length_cons, List.length_nil] at this ⊢; omega) ?_
    intro u17 w17 hG17 hb17 hg17 hat17
    have HB17 := Aside0.mk (Below.trans HB16.out hb17)
    have HG17 := Aside0.mk hG17
    have HR17 := Aside0.mk (CrLf.grown HR16.out hg17 hat17)
    clear hG17 hb17 hg17 hat17
    refine hK.out _ _ (pw_cell_below HB17.out hcell0.out) (fun hHeld => ?_)
    clear hK K
    refine norm_ (a' := ?_) ?_ ?_
    rotate_left
    ·show Act.put _ (some 37) _ = _
     simp only [Act.put, List.setIfInBounds_toArray, List.set_cons_zero, List.set_cons_succ, i64_w, i32_w]
     rfl
    refine pure_ (i := 13) (N := some 8) (v := ?_) (a' := ?_) #[true, true, true, true, true, true, true, true, true, true, true, true, true, true] rfl rfl (by kernel_rfl) (fun _ _ _ h => h) (Or.inl ⟨by rfl, ?_⟩) ?_ ?_
    rotate_left
    ·intro w'
     go_simp
     with_reducible rfl
    rotate_left
    ·simp only [Act.put, List.setIfInBounds_toArray, List.set_cons_zero, List.set_cons_succ, i64_w, i32_w]
     rfl
    refine done_ (by kernel_rfl) ?_
    have HBe := HB17
    have HGe := HG17
    rw [← hsucc.out] at HGe
    go_wp2
    go_roundg g
    case measure => omega
    case rel => exact ⟨i + 1, by omega, by simp, ⟨HBe.out, HGe.out⟩⟩
end Go.Proofs.YtilgmheilepkgaaDoor
