/- A row of bytes that may be written in its place though its block bears a mark beyond its end: what '[]byte' of a constant or of a text hands back, and what is appended to it. -/
import Derived.Test.YtbdmhlocafpehaaDoorConvA
namespace Go.Proofs.YtbdmhlocafpehaaDoor
open Go.RowKit Go.Proofs.YtbdmhlocafpehaaDoorW.PrintWords Go.Proofs.YtbdmhlocafpehaaDoorW.PrintLast Go.Proofs.YtbdmhlocafpehaaDoorW.PrintMore

def GRow (w : World) (base : Nat) (v : Value) (xs : List Int) : Prop :=
  ∃ b cap, v = .slice (some ⟨b, 0, none⟩) xs.length cap ∧ base ≤ b ∧ b < w.heap.size ∧ xs.length ≤ cap ∧ xs.length ≤ 9223372036854775807 ∧
    (∀ j, j < cap → (w.cell? ⟨b, j, none⟩).isSome = true ∧ w.frozen? ⟨b, j, none⟩ = false) ∧ ∀ j x, xs[j]? = some x → w.cell? ⟨b, j, none⟩ = some (.int .u8 x)
theorem G_keep {w w1 : World} {base : Nat} {v : Value} {xs : List Int} (h : GRow w base v xs) (hs : w.heap.size ≤ w1.heap.size) (hk : ∀ k, k < w.heap.size → w1.heap[k]? = w.heap[k]?) : GRow w1 base v xs := by
  obtain ⟨b, cap, rfl, h1, h2, h3, h4, h5, h6⟩ := h
  have hb := hk b h2
  refine ⟨b, cap, rfl, h1, Nat.lt_of_lt_of_le h2 hs, h3, h4, fun j hj => ?_, fun j x hx => ?_⟩
  · have := h5 j hj
    simpa only [World.cell?, World.frozen?, hb] using this
  · have := h6 j x hx
    simpa only [World.cell?, hb] using this
theorem G_below {w w1 : World} {base : Nat} {v : Value} {xs : List Int} (h : GRow w base v xs) (hb : Below w.heap.size w w1) : GRow w1 base v xs := G_keep h hb.size hb.block
theorem G_lower {w : World} {base b' : Nat} {v : Value} {xs : List Int} (h : GRow w base v xs) (hb : b' ≤ base) : GRow w b' v xs := by
  obtain ⟨b, cap, rfl, h1, h2⟩ := h
  exact ⟨b, cap, rfl, Nat.le_trans hb h1, h2⟩
theorem G_slice {w : World} {base : Nat} {v : Value} {xs : List Int} (h : GRow w base v xs) : ∃ A c, v = .slice A xs.length c := by
  obtain ⟨b, cap, rfl, _⟩ := h
  exact ⟨_, _, rfl⟩
theorem G_V {w : World} {base : Nat} {v : Value} {xs : List Int} (h : GRow w base v xs) : Kd.V (Kd.int .u8) 5 w base (fun k_ => base ≤ k_) v xs := by
  obtain ⟨b, cap, rfl, h1, h2, h3, h4, _, h6⟩ := h
  exact V_of_cells h1 h2 h3 h4 h6
theorem G_Vb {w : World} {base : Nat} (base' : Nat) {v : Value} {xs : List Int} (h : GRow w base v xs) : Kd.V (Kd.int .u8) 5 w base' (fun k_ => base ≤ k_) v xs := by
  obtain ⟨b, cap, rfl, h1, h2, h3, h4, _, h6⟩ := h
  obtain ⟨A, c, he, hl, hW⟩ := V_of_cells (e := 5) h1 h2 h3 h4 h6
  exact ⟨A, c, he, hl, hW⟩
theorem G_C {w : World} {base : Nat} {A : Option Addr} {c : Nat} {xs : List Int} (h : GRow w base (.slice A xs.length c) xs) : Kd.C (Kd.int .u8) w A xs.length xs ∧ xs.length ≤ c :=
  ⟨(Kd.V_reads' (G_V h)).2.2, (Kd.V_reads' (G_V h)).2.1⟩
theorem G_lit (w : World) (cs : List Int) (hl : cs.length ≤ 9223372036854775807) : GRow (litWorld w (cs.map (Value.int .u8)).toArray 5) w.heap.size (.slice (some ⟨w.heap.size, 0, none⟩) cs.length cs.length) cs := by
  have hs : (litWorld w (cs.map (Value.int .u8)).toArray 5).heap.size = w.heap.size + 1 := by simp [litWorld, World.freeze, World.alloc, -World.alloc_eq]
  have hn := litWorld_new w (cs.map (Value.int .u8)).toArray 5
  refine ⟨w.heap.size, cs.length, rfl, Nat.le_refl _, by rw [hs]; omega, Nat.le_refl _, hl, fun j hj => ⟨?_, ?_⟩, fun j x hx => ?_⟩
  · simp [World.cell?, hn, hj]
  · simp [World.frozen?, hn]
    omega
  · simp [World.cell?, hn, hx]
theorem G_conv (w : World) (s : ByteArray) (hl : s.size ≤ 9223372036854775807) : GRow (Lib.bytesWorld w 5 s) w.heap.size (convd w 5 s) (bytesOf s) := by
  have hbl := bytesOf_length s
  have hge := grownCap_ge w s.size 0 5
  refine ⟨w.heap.size, grownCap w s.size 0 5, by rw [hbl]; rfl, Nat.le_refl _, by rw [Lib.bytesWorld_size]; omega, by rw [hbl]; exact hge, by rw [hbl]; exact hl, fun j hj => bw_some w 5 s j hj, fun j x hj => ?_⟩
  have hjl : j < s.size := by have := (List.getElem?_eq_some_iff.1 hj).1; rwa [hbl] at this
  rw [Lib.bytesWorld_cell w 5 s j hjl]
  unfold bytesOf at hj
  rw [List.getElem?_map] at hj
  obtain ⟨b, hb1, hb2⟩ := Option.map_eq_some_iff.1 hj
  rw [List.getD_eq_getElem?_getD, hb1]
  exact congrArg (fun z => some (Value.int .u8 z)) hb2
theorem setCells_frozen (b : Nat) (q : Addr) : ∀ (vs : List Value) (o : Nat) (w : World), (w.setCells b o vs).frozen? q = w.frozen? q
  | [], _, _ => rfl
  | v :: r, o, w => by
    show ((w.setCell ⟨b, o, none⟩ v).setCells b (o + 1) r).frozen? q = _
    rw [setCells_frozen b q r (o + 1) _, World.frozen?_setCell]
theorem setCells_some (b : Nat) (q : Addr) : ∀ (vs : List Value) (o : Nat) (w : World), (w.cell? q).isSome = true → ((w.setCells b o vs).cell? q).isSome = true
  | [], _, _, h => h
  | v :: r, o, w, h => by
    obtain ⟨x, hx⟩ := Option.isSome_iff_exists.1 h
    obtain ⟨y, hy⟩ := cell?_setCell_some (p := ⟨b, o, none⟩) (x := v) hx
    exact setCells_some b q r (o + 1) _ (by rw [hy]; rfl)
/-- An append to such a row is one again. -/
theorem G_append (w : World) (base : Nat) (_hbase : base ≤ w.heap.size) (ty : TypeId) {v : Value} {xs ys : List Int} (hG : GRow w base v xs) {A : Option Addr} {c : Nat} (hC : Kd.C (Kd.int .u8) w A ys.length ys) (hc : ys.length ≤ c) (hlen : xs.length + ys.length ≤ 140737488355328) :
    ∃ v' w', (Builtin.append_ #[23, 23] ty #[v, .slice A ys.length c]).run Tryd.prog w = .ok v' w' ∧ GRow w' base v' (xs ++ ys) ∧ Below base w w' := by
  have ht := Tryd.underlying23
  obtain ⟨b, cap, rfl, h1, h2, h3, h4, h5, h6⟩ := hG
  have hmx : maxLen = 9223372036854775807 := by rfl
  obtain ⟨i0, hi, hzz⟩ := Option.map_eq_some_iff.1 (show (Tryd.prog.info? 5).map (fun i => (i.zero, i.size, i.bytes)) = some (some (.int .u8 0), 1, 1) by kernel_rfl)
  simp only [Prod.mk.injEq] at hzz
  obtain ⟨hz0, hz1, hz2⟩ := hzz
  rcases Nat.eq_zero_or_pos ys.length with h0 | h0
  · obtain rfl := List.eq_nil_of_length_eq_zero h0
    refine ⟨.slice (some ⟨b, 0, none⟩) xs.length cap, w, ?_, ?_, Below.refl _ _⟩
    · cases A with
      | none => simp [Builtin.append_, run_underlying ht, sizeOf, typeInfo, hi, Builtin.lenOf, Builtin.firstCells, h3, storeCells]
      | some ad => simp [Builtin.append_, run_underlying ht, sizeOf, typeInfo, hi, Builtin.lenOf, Builtin.firstCells, h3, storeCells, loadCells, loadCellsFrom]
    · rw [List.append_nil]
      exact ⟨b, cap, rfl, h1, h2, h3, h4, h5, h6⟩
  · obtain ⟨ad, rfl, hcell⟩ := bytes_cells hC h0
    have hnews : ∀ j u, (ys.map (Value.int .u8))[j]? = some u → w.cell? (ad.add j) = some u := by
      intro j u hj
      rw [List.getElem?_map] at hj
      obtain ⟨x, hx1, hx2⟩ := Option.map_eq_some_iff.1 hj
      have hjl := (List.getElem?_eq_some_iff.1 hx1).1
      rw [hcell j hjl, List.getD_eq_getElem?_getD, hx1, ← hx2]
      rfl
    have hone : ∀ u ∈ ys.map (Value.int .u8), u.oneCell' = true := by
      intro u hu
      obtain ⟨x, _, rfl⟩ := List.mem_map.1 hu
      rfl
    have hnl : (ys.map (Value.int .u8)).length = ys.length * i0.size := by rw [List.length_map, hz1, Nat.mul_one]
    have hlen2 : xs.length + ys.length = (xs ++ ys).length := by rw [List.length_append]
    by_cases hroom : xs.length + ys.length ≤ cap
    · have hsp : ∀ j, j < (ys.map (Value.int .u8)).length → (w.cell? ⟨b, 0 + xs.length * i0.size + j, none⟩).isSome = true ∧ w.frozen? ⟨b, 0 + xs.length * i0.size + j, none⟩ = false := by
        intro j hj
        rw [List.length_map] at hj
        exact h5 _ (by rw [hz1]; omega)
      have hrun := run_append_room_cells (P := Tryd.prog) w 23 ty 5 i0 ht hi b 0 xs.length cap ad ys.length c (ys.map (Value.int .u8)) hnl hnews hone hroom (fun j hj => (hsp j hj).1) (fun j hj => (hsp j hj).2)
      have hs4 := setCells_size b (ys.map (Value.int .u8)) (0 + xs.length * i0.size) w
      refine ⟨_, _, hrun, ⟨b, cap, by rw [hlen2], h1, by rw [hs4.1]; exact h2, by omega, by omega, fun j hj => ?_, fun j x hj => ?_⟩, ⟨hs4.2.1, hs4.2.2.1, hs4.2.2.2, by rw [hs4.1]; exact Nat.le_refl _, fun k hk => setCells_old _ _ _ _ k (by omega)⟩⟩
      · have hj5 := h5 j hj
        exact ⟨setCells_some _ _ _ _ _ hj5.1, by rw [setCells_frozen]; exact hj5.2⟩
      · rw [hz1, Nat.mul_one, Nat.zero_add] at *
        by_cases hjs : j < xs.length
        · rw [List.getElem?_append_left (by omega)] at hj
          rw [World.cell?_setCells_out _ _ _ _ _ (fun _ _ => .inl hjs)]
          exact h6 j x hj
        · rw [List.getElem?_append_right (by omega)] at hj
          have hjl := (List.getElem?_eq_some_iff.1 hj).1
          have := World.cell?_setCells_in b (ys.map (Value.int .u8)) xs.length w (fun j hj => (hsp j hj).1) (j - xs.length) (by rw [List.length_map]; exact hjl)
          rw [show xs.length + (j - xs.length) = j by omega] at this
          rw [this]
          have := (List.getElem?_eq_some_iff.1 hj).2
          simp [this]
    · obtain ⟨v', w', hrun, hown, hgr⟩ := run_append_arg_grows (P := Tryd.prog) w 23 ty 5 i0 (.int .u8 0) 1 1 ht hi hz0 hz1 hz2 rfl (by decide) ⟨b, 0, none⟩ xs.length cap (xs.map (Value.int .u8)) (by rw [List.length_map]; omega)
        (fun j u hj => by
          rw [List.getElem?_map] at hj
          obtain ⟨x, hx1, hx2⟩ := Option.map_eq_some_iff.1 hj
          rw [add_plain, ← hx2]
          exact h6 j x hx1) ad ys.length c (ys.map (Value.int .u8)) (by rw [List.length_map]; omega) hnews (by omega) (by omega) (by omega)
      have hB2 : Below base w w' := ⟨hgr.os, hgr.tape, hgr.output, hgr.size, fun k hk => hgr.block k (by omega) (by simp)⟩
      refine ⟨v', w', hrun, ?_, hB2⟩
      obtain ⟨_, h7 | ⟨g, cap', cur, rfl, hbg, hh, hnc, hcmx, hcs, htk⟩⟩ := hown
      · exact absurd h7.2 (by omega)
      · refine ⟨g, cap', by rw [hlen2], by omega, (Array.getElem?_eq_some_iff.1 hh).1, by rw [← hlen2]; exact hnc, by omega, fun j hj => ⟨?_, ?_⟩, fun j x hj => ?_⟩
        · simp [World.cell?, hh]
          omega
        · simp [World.frozen?, hh]
        · have hjl := (List.getElem?_eq_some_iff.1 hj).1
          rw [← hlen2] at hjl
          have h8 : cur.toList[j]? = some (.int .u8 x) := by
            have h9 : (cur.toList.take ((xs.length + ys.length) * 1))[j]? = some (.int .u8 x) := by
              rw [htk, ← List.map_append, List.getElem?_map, hj]
              rfl
            rw [List.getElem?_take, if_pos (by omega)] at h9
            exact h9
          simp only [World.cell?, hh]
          simpa using h8
section
variable {ops : Array Oper} {rest : List Oper} {o : Oper} {a : Act} {Q : Exit → Act → World → Prop}
/-- '[]byte' of a constant: its second step. -/
theorem litC_ {w : World} (cs ys : List Int) (hy : ys = cs) (N : Option Tmp) (hd : o.dst = N) (hg : o.guard = none) {x : Operand} (hop : o.op = .convert 23 23 x) {n : Nat} (hx : a.eval x = .slice (some ⟨w.heap.size, 0, none⟩) n n) (hn : ys.length = n) (hl : ys.length ≤ 9223372036854775807)
    (h : ∀ w', GRow w' w.heap.size (.slice (some ⟨w.heap.size, 0, none⟩) ys.length ys.length) ys → Below w.heap.size w w' → wpList Tryd.prog ops Q rest (a.put N (.slice (some ⟨w.heap.size, 0, none⟩) ys.length ys.length)) w') : wpList Tryd.prog ops Q (o :: rest) a (w.alloc (.cells (cs.map (Value.int .u8)).toArray 5)) := by
  subst hy hn
  refine wpList_plain hg fun K hK => ?_
  unfold Oper.wp execOp
  simp only [hop, hx, Sem.run_bind, run_convert_lit (P := Tryd.prog) w 23 5 (ys.map (Value.int .u8)).toArray ys.length ys.length Tryd.underlying23 Tryd.underlying5, Result.andThen_ok, Sem.run_pure]
  subst hd
  exact hK _ _ (h _ (G_lit w ys hl) (litWorld_below w _ _))
/-- An append to such a row. -/
theorem appG_ {w : World} (N : Option Tmp) (hd : o.dst = N) (hg : o.guard = none) {x y : Operand} (hop : o.op = .call { callee := .builtin .append, args := #[x, y], argTypes := #[23, 23] }) {v : Value} {xs ys : List Int} {A : Option Addr} {c : Nat} (hx : a.eval x = v) (hy : a.eval y = .slice A ys.length c) (base : Nat) (hbase : base ≤ w.heap.size) (hG : GRow w base v xs) (hC : Kd.C (Kd.int .u8) w A ys.length ys) (hc : ys.length ≤ c) (hlen : xs.length + ys.length ≤ 140737488355328)
    (h : ∀ v' w', GRow w' base v' (xs ++ ys) → Below base w w' → wpList Tryd.prog ops Q rest (a.put N v') w') : wpList Tryd.prog ops Q (o :: rest) a w := by
  obtain ⟨v', w', hr, h1, h2⟩ := G_append w base hbase o.type hG hC hc hlen
  refine wpList_plain hg fun K hK => ?_
  unfold Oper.wp execOp
  simp only [hop, resolve, invoke, builtin, Sem.run_bind, Sem.run_pure, Result.andThen_ok, List.map_toArray, List.map_cons, List.map_nil, hx, hy, hr]
  subst hd
  exact hK _ _ (h _ _ h1 h2)
end
end Go.Proofs.YtbdmhlocafpehaaDoor
