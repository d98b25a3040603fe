/- An append to '[]byte(s)', told as one call: the row that is made of a text bears a mark beyond its end, so it is no row of the call's own in the printed words; what comes of the append is read as what is shared. -/
import Derived.ArgAppend
import Derived.Test.YtejhfghijgbckaaGreatDoorBytes
namespace Go.Proofs.YtejhfghijgbckaaGreatDoor
open Go.RowKit Go.Proofs.YtejhfghijgbckaaGreatDoorW.PrintWords Go.Proofs.YtejhfghijgbckaaGreatDoorW.PrintLast Go.Proofs.YtejhfghijgbckaaGreatDoorW.PrintMore

/-- The slice that '[]byte(s)' hands back in world w. -/
def convd (w : World) (e : TypeId) (s : ByteArray) : Value := .slice (some ⟨w.heap.size, 0, none⟩) s.size (grownCap w s.size 0 e)
def AppC (P : Program) (t ty e : TypeId) (s : ByteArray) (y : Value) (w : World) (Q : Ending → World → Prop) : Prop :=
  ∃ v w', (Builtin.append_ #[t, t] ty #[convd w e s, y]).run P (Lib.bytesWorld w e s) = .ok v w' ∧ Q (.returned v) w'
theorem AppC.mono {P : Program} {t ty e : TypeId} {s : ByteArray} {y : Value} {w : World} {Q R : Ending → World → Prop} (h : AppC P t ty e s y w Q) (hq : ∀ e w', Q e w' → R e w') : AppC P t ty e s y w R := by
  obtain ⟨v, w', hr, h⟩ := h
  exact ⟨v, w', hr, hq _ _ h⟩
section
variable {P : Program} {ops : Array Oper} {rest : List Oper} {o : Oper} {a : Act} {Q : Exit → Act → World → Prop}
theorem convS_ {w : World} (N : Option Tmp) (hd : o.dst = N) (hg : o.guard = none) {src dst e : TypeId} {x : Operand} {s : ByteArray} (hop : o.op = .convert src dst x) (hx : a.eval x = .string s) {u : TypeDesc} (hs : P.underlying src = some u) (hds : P.underlying dst = some (.slice e)) (he : P.underlying e = some (.int .u8))
    (h : wpList P ops Q rest (a.put N (convd w e s)) (Lib.bytesWorld w e s)) : wpList P ops Q (o :: rest) a w := by
  refine wpList_plain hg fun K hK => ?_
  unfold Oper.wp execOp
  simp only [hop, hx, Sem.run_bind, Lib.run_convert_string_bytes w src dst e s hs hds he, Result.andThen_ok, Sem.run_pure]
  subst hd
  exact hK _ _ h
theorem appL_ {w : World} (N : Option Tmp) (hd : o.dst = N) (hg : o.guard = none) {t e : TypeId} {x y : Operand} {s : ByteArray} {vy : Value} (hop : o.op = .call { callee := .builtin .append, args := #[x, y], argTypes := #[t, t] }) (hx : a.eval x = convd w e s) (hy : a.eval y = vy)
    (h : AppC P t o.type e s vy w fun e' w' => ∃ v, e' = .returned v ∧ wpList P ops Q rest (a.put N v) w') : wpList P ops Q (o :: rest) a (Lib.bytesWorld w e s) := by
  obtain ⟨v, w', hr, v', hv, h⟩ := h
  obtain rfl : v = v' := by injection hv
  refine wpList_plain hg fun K hK => ?_
  unfold Oper.wp execOp
  simp only [hop, resolve, invoke, builtin, Sem.run_bind, Sem.run_pure, Result.andThen_ok, List.map_toArray, List.map_cons, List.map_nil, hx, hy, hr]
  subst hd
  exact hK _ _ h
end
theorem convS1_ {ops : Array Oper} {rest : List Oper} {o : Oper} {a : Act} {Q : Exit → Act → World → Prop} {w : World} (N : Option Tmp) (hd : o.dst = N) (hg : o.guard = none) {x : Operand} {s : ByteArray} (hop : o.op = .convert 9 35 x) (hx : a.eval x = .string s)
    (h : wpList Tryz.prog ops Q rest (a.put N (convd w 5 s)) (Lib.bytesWorld w 5 s)) : wpList Tryz.prog ops Q (o :: rest) a w :=
  convS_ N hd hg hop hx Tryz.underlying9 Tryz.underlying35 Tryz.underlying5 h
theorem bw_below (w : World) (e : TypeId) (s : ByteArray) : Below w.heap.size w (Lib.bytesWorld w e s) :=
  ⟨rfl, rfl, rfl, by rw [Lib.bytesWorld_size]; omega, fun k hk => Lib.bytesWorld_at_old w e s k hk⟩
theorem bw_some (w : World) (e : TypeId) (s : ByteArray) (j : Nat) (h : j < grownCap w s.size 0 e) : ((Lib.bytesWorld w e s).cell? ⟨w.heap.size, j, none⟩).isSome = true ∧ (Lib.bytesWorld w e s).frozen? ⟨w.heap.size, j, none⟩ = false := by
  have hn := Lib.bytesWorld_at_new w e s
  have hge := grownCap_ge w s.size 0 e
  have hsz : (Lib.bytesCells w e s).size = grownCap w s.size 0 e := by
    unfold Lib.bytesCells
    simp
    have : s.data.size = s.size := rfl
    omega
  rw [hsz] at hn
  constructor
  · simp [World.cell?, hn, hsz, h]
  · simp [World.frozen?, hn]
    omega
/-- Cells of bytes, read as a shared row. -/
theorem V_of_cells {w : World} {e : TypeId} {base b : Nat} {cap : Nat} {xs : List Int} (hb : base ≤ b) (hlt : b < w.heap.size) (hl : xs.length ≤ cap) (hm : xs.length ≤ 9223372036854775807) (hc : ∀ j x, xs[j]? = some x → w.cell? ⟨b, j, none⟩ = some (.int .u8 x)) :
    Kd.V (Kd.int .u8) e w base (fun k_ => base ≤ k_) (.slice (some ⟨b, 0, none⟩) xs.length cap) xs := by
  refine ⟨_, _, rfl, hl, ?_⟩
  intro W' hW
  refine ⟨rfl, hm, fun _ => ⟨_, rfl, fun j p hj => ⟨[.int .u8 p], rfl, rfl, fun i u hu => ?_⟩⟩⟩
  obtain rfl : i = 0 := by
    rcases i with _ | i
    · rfl
    · simp at hu
  obtain rfl : Value.int .u8 p = u := by simpa using hu
  have hsz : (Kd.int .u8).sz = 1 := rfl
  rw [hsz, Nat.mul_one, Nat.add_zero, add_plain]
  have hbk := hW b hb hlt
  rw [← hc j p hj]
  simp only [World.cell?, hbk]
theorem setCells_old (b : Nat) : ∀ (vs : List Value) (o : Nat) (w : World) (k : Nat), k ≠ b → (w.setCells b o vs).heap[k]? = w.heap[k]?
  | [], _, _, _, _ => rfl
  | v :: r, o, w, k, h => by
    show ((w.setCell ⟨b, o, none⟩ v).setCells b (o + 1) r).heap[k]? = _
    rw [setCells_old b r (o + 1) _ k h]
    exact Below.heap_setCell w ⟨b, o, none⟩ v k h
theorem setCells_size (b : Nat) : ∀ (vs : List Value) (o : Nat) (w : World), (w.setCells b o vs).heap.size = w.heap.size ∧ (w.setCells b o vs).os = w.os ∧ (w.setCells b o vs).tape = w.tape ∧ (w.setCells b o vs).output = w.output
  | [], _, _ => ⟨rfl, rfl, rfl, rfl⟩
  | v :: r, o, w => by
    have h1 := setCells_size b r (o + 1) (w.setCell ⟨b, o, none⟩ v)
    have h3 : (w.setCell ⟨b, o, none⟩ v).heap.size = w.heap.size ∧ (w.setCell ⟨b, o, none⟩ v).os = w.os ∧ (w.setCell ⟨b, o, none⟩ v).tape = w.tape ∧ (w.setCell ⟨b, o, none⟩ v).output = w.output := by
      have h0 := Below.setCell (B := 0) (a := w) (w := w) ⟨rfl, rfl, rfl, Nat.le_refl _, fun k hk => rfl⟩ (p := ⟨b, o, none⟩) (Nat.zero_le _) v
      refine ⟨?_, h0.os, h0.tape, h0.output⟩
      simp [World.setCell]
    exact ⟨h1.1.trans h3.1, h1.2.1.trans h3.2.1, h1.2.2.1.trans h3.2.2.1, h1.2.2.2.trans h3.2.2.2⟩
/-- An append of a row of bytes. -/
def conva.f (s : ByteArray) (ys : List Int) : Option (List Int) := if s.size + ys.length ≤ 140737488355328 then some (bytesOf s ++ ys) else none
theorem conva_calls {ty : TypeId} (s : ByteArray) (A1 : Option Addr) (c1 : Nat) (l1 : List Int) (r : List Int) (w : World) (hr1 : Kd.C (Kd.int .u8) w A1 l1.length l1) (_ : l1.length ≤ c1) (h : conva.f s l1 = some r) :
    AppC Tryz.prog 35 ty 5 s (.slice A1 l1.length c1) w fun e w' => ∃ v0_ : Value, e = .returned v0_ ∧ Kd.V (Kd.int .u8) 5 w' w.heap.size (fun k_ => w.heap.size ≤ k_) v0_ r ∧ Below w.heap.size w w' := by
  have ht := Tryz.underlying35
  unfold conva.f at h
  split at h
  · rename_i hsz
    obtain rfl := Option.some.inj h
    have hbl := bytesOf_length s
    have hge := grownCap_ge w s.size 0 5
    have hmx : maxLen = 9223372036854775807 := by rfl
    have hcm := grownCap_le_maxLen w s.size 0 5 (by omega)
    have hB := bw_below w 5 s
    have hbsz := Lib.bytesWorld_size w 5 s
    obtain ⟨i0, hi, hzz⟩ := Option.map_eq_some_iff.1 (show (Tryz.prog.info? 5).map (fun i => (i.zero, i.size, i.bytes)) = some (some (.int .u8 0), 1, 1) by kernel_rfl)
    simp only [Prod.mk.injEq] at hzz
    obtain ⟨hz0, hz1, hz2⟩ := hzz
    have hold : ∀ j x, (bytesOf s)[j]? = some x → (Lib.bytesWorld w 5 s).cell? ⟨w.heap.size, j, none⟩ = some (.int .u8 x) := by
      intro j x hj
      have hjl : j < s.size := by have := (List.getElem?_eq_some_iff.1 hj).1; rwa [hbl] at this
      rw [Lib.bytesWorld_cell w 5 s j hjl]
      unfold bytesOf at hj
      rw [List.getElem?_map] at hj
      obtain ⟨b, hb1, hb2⟩ := Option.map_eq_some_iff.1 hj
      rw [List.getD_eq_getElem?_getD, hb1]
      exact congrArg (fun z => some (Value.int .u8 z)) hb2
    rcases Nat.eq_zero_or_pos l1.length with h0 | h0
    · -- nothing is appended
      obtain rfl := List.eq_nil_of_length_eq_zero h0
      refine ⟨convd w 5 s, Lib.bytesWorld w 5 s, ?_, _, rfl, ?_, hB⟩
      · unfold convd
        have hroom : s.size + 0 ≤ grownCap w s.size 0 5 := by omega
        cases A1 with
        | none => simp [Builtin.append_, run_underlying ht, sizeOf, typeInfo, hi, Builtin.lenOf, Builtin.firstCells, hge, storeCells]
        | some ad => simp [Builtin.append_, run_underlying ht, sizeOf, typeInfo, hi, Builtin.lenOf, Builtin.firstCells, hge, storeCells, loadCells, loadCellsFrom]
      · rw [List.append_nil]
        have := V_of_cells (e := 5) (cap := grownCap w s.size 0 5) (base := w.heap.size) (Nat.le_refl _) (w := Lib.bytesWorld w 5 s) (by rw [hbsz]; omega) (by rw [hbl]; exact hge) (by rw [hbl]; omega) hold
        rw [hbl] at this
        exact this
    · obtain ⟨ad, rfl, hcell⟩ := bytes_cells (Kd.C_below hr1 hB) h0
      have hnews : ∀ j u, (l1.map (Value.int .u8))[j]? = some u → (Lib.bytesWorld w 5 s).cell? (ad.add j) = some u := by
        intro j u hj
        rw [List.getElem?_map] at hj
        obtain ⟨x, hx1, hx2⟩ := Option.map_eq_some_iff.1 hj
        have hjl := (List.getElem?_eq_some_iff.1 hx1).1
        rw [hcell j hjl, List.getD_eq_getElem?_getD, hx1, ← hx2]
        rfl
      have hone : ∀ u ∈ l1.map (Value.int .u8), u.oneCell' = true := by
        intro u hu
        obtain ⟨x, _, rfl⟩ := List.mem_map.1 hu
        rfl
      have hnl : (l1.map (Value.int .u8)).length = l1.length * i0.size := by rw [List.length_map, hz1, Nat.mul_one]
      by_cases hroom : s.size + l1.length ≤ grownCap w s.size 0 5
      · have hsp : ∀ j, j < (l1.map (Value.int .u8)).length → ((Lib.bytesWorld w 5 s).cell? ⟨w.heap.size, 0 + s.size * i0.size + j, none⟩).isSome = true ∧ (Lib.bytesWorld w 5 s).frozen? ⟨w.heap.size, 0 + s.size * i0.size + j, none⟩ = false := by
          intro j hj
          rw [List.length_map] at hj
          exact bw_some w 5 s _ (by rw [hz1]; omega)
        have hrun := run_append_room_cells (P := Tryz.prog) (Lib.bytesWorld w 5 s) 35 ty 5 i0 ht hi w.heap.size 0 s.size (grownCap w s.size 0 5) ad l1.length c1 (l1.map (Value.int .u8)) hnl hnews hone hroom (fun j hj => (hsp j hj).1) (fun j hj => (hsp j hj).2)
        refine ⟨_, _, hrun, _, rfl, ?_, ?_⟩
        · have hlen : s.size + l1.length = (bytesOf s ++ l1).length := by rw [List.length_append, hbl]
          rw [hlen]
          refine V_of_cells (Nat.le_refl _) (by rw [(setCells_size _ _ _ _).1, hbsz]; omega) (by rw [← hlen]; exact hroom) (by rw [← hlen]; omega) ?_
          intro j x hj
          rw [hz1, Nat.mul_one, Nat.zero_add] at *
          by_cases hjs : j < s.size
          · rw [List.getElem?_append_left (by omega)] at hj
            rw [World.cell?_setCells_out _ _ _ _ _ (fun _ _ => .inl hjs)]
            exact hold j x hj
          · rw [List.getElem?_append_right (by omega), hbl] at hj
            have hjl := (List.getElem?_eq_some_iff.1 hj).1
            have := World.cell?_setCells_in w.heap.size (l1.map (Value.int .u8)) s.size (Lib.bytesWorld w 5 s) (fun j hj => (hsp j hj).1) (j - s.size) (by rw [List.length_map]; exact hjl)
            rw [show s.size + (j - s.size) = j by omega] at this
            rw [this]
            have := (List.getElem?_eq_some_iff.1 hj).2
            simp [this]
        · have hs4 := setCells_size w.heap.size (l1.map (Value.int .u8)) (0 + s.size * i0.size) (Lib.bytesWorld w 5 s)
          exact ⟨hs4.2.1.trans hB.os, hs4.2.2.1.trans hB.tape, hs4.2.2.2.trans hB.output, by rw [hs4.1]; exact hB.size, fun k hk => by rw [setCells_old _ _ _ _ k (by omega)]; exact hB.block k hk⟩
      · obtain ⟨v', w', hrun, hown, hgr⟩ := run_append_arg_grows (P := Tryz.prog) (Lib.bytesWorld w 5 s) 35 ty 5 i0 (.int .u8 0) 1 1 ht hi hz0 hz1 hz2 rfl (by decide) ⟨w.heap.size, 0, none⟩ s.size (grownCap w s.size 0 5) ((bytesOf s).map (Value.int .u8)) (by rw [List.length_map, hbl]; omega)
          (fun j u hj => by
            rw [List.getElem?_map] at hj
            obtain ⟨x, hx1, hx2⟩ := Option.map_eq_some_iff.1 hj
            rw [add_plain, ← hx2]
            exact hold j x hx1) ad l1.length c1 (l1.map (Value.int .u8)) (by rw [List.length_map]; omega) hnews (by omega) (by omega) (by omega)
        have hB2 : Below w.heap.size w w' := ⟨hgr.os.trans hB.os, hgr.tape.trans hB.tape, hgr.output.trans hB.output, Nat.le_trans hB.size hgr.size, fun k hk => (hgr.block k (by omega) (by simp)).trans (hB.block k hk)⟩
        refine ⟨v', w', hrun, v', rfl, ?_, hB2⟩
        obtain ⟨hlen, h3 | ⟨g, cap, cur, rfl, hbg, hh, hnc, hcmx, hcs, htk⟩⟩ := hown
        · exact absurd h3.2 (by omega)
        · have hlen2 : s.size + l1.length = (bytesOf s ++ l1).length := by rw [List.length_append, hbl]
          rw [hlen2]
          refine V_of_cells (by omega) (Array.getElem?_eq_some_iff.1 hh).1 (by rw [← hlen2]; exact hnc) (by rw [← hlen2]; omega) ?_
          intro j x hj
          have hjl := (List.getElem?_eq_some_iff.1 hj).1
          rw [← hlen2] at hjl
          have h5 : cur.toList[j]? = some (.int .u8 x) := by
            have h6 : (cur.toList.take ((s.size + l1.length) * 1))[j]? = some (.int .u8 x) := by
              rw [htk, ← List.map_append, List.getElem?_map, hj]
              rfl
            rw [List.getElem?_take, if_pos (by omega)] at h6
            exact h6
          simp only [World.cell?, hh]
          simpa using h5
  · cases h
end Go.Proofs.YtejhfghijgbckaaGreatDoor
