/- Plain words used by the seat's texts: slices of strings as the printed contracts tell them, and their cells. -/
import Derived.Test.YtejhfghijgbckaaGreatDoorWMore
import Derived.Lib.AppendStr
import Derived.Lib.ConvBytes
namespace Go.Proofs.YtejhfghijgbckaaGreatDoor
open Go.RowKit Go.Proofs.YtejhfghijgbckaaGreatDoorW.PrintWords Go.Proofs.YtejhfghijgbckaaGreatDoorW.PrintLast Go.Proofs.YtejhfghijgbckaaGreatDoorW.PrintMore

theorem strings_cells {w : World} {A : Option Addr} {n : Nat} {l : List ByteArray} (h : Kd.C Kd.string w A n l) (hn : 0 < n) :
    ∃ b o, A = some ⟨b, o, none⟩ ∧ b < w.heap.size ∧ ∀ (j : Nat) x, l[j]? = some x → w.cell? ⟨b, o + j, none⟩ = some (.string x) := by
  obtain ⟨hl, _, hc⟩ := h
  obtain ⟨ad, rfl, hc2⟩ := hc hn
  have h0 : ∀ (j : Nat) x, l[j]? = some x → w.cell? (ad.add j) = some (.string x) := by
    intro j x hx
    obtain ⟨c, hs, hr, hcell⟩ := hc2 j x hx
    have hr' : c = [.string x] := hr
    subst hr'
    have := hcell 0 (.string x) rfl
    have e : j * Kd.string.sz + 0 = j := by show j * 1 + 0 = j; omega
    rwa [e] at this
  have h00 := h0 0 (l[0]'(by omega)) (List.getElem?_eq_getElem (by omega))
  have e0 : ad.add 0 = ad := by simp [Addr.add]
  rw [e0] at h00
  have hs := World.cell?_spot h00
  have hb := World.block_lt_of_cell? w ad h00
  obtain ⟨b, o, s⟩ := ad
  obtain rfl : s = none := by simpa using hs
  refine ⟨b, o, rfl, hb, fun j x hx => ?_⟩
  have := h0 j x hx
  unfold Addr.add at this
  split at this
  · rename_i h; subst h; simpa using this
  · exact this

/-- 's[:h:h]'. -/
theorem cut_to3 {P : Program} (t e : TypeId) (kh km : IntKind) {i : TypeInfo} (ht : P.underlying t = some (.slice e)) (hi : P.info? e = some i) (A : Option Addr) (n c : Nat) (j : Int) (h0 : 0 ≤ j) (hm : j ≤ n) (hc : n ≤ c) :
    ∀ W : World, (Instr.slice t (.slice A n c) none (some (.int kh j)) (some (.int km j))).run P W = .ok (.slice A j.toNat j.toNat) W := by
  intro W
  have hel : P.elem t = e := by simp [Program.elem, ht]
  have hu : P.underlying t = some (.slice (P.elem t)) := by rw [hel]; exact ht
  have ha : (A.map fun x => x.add 0) = A := by cases A <;> simp [Addr.add]
  rw [run_slice_hm W t A n c hu kh km j j h0 (Int.le_refl _) (by omega), hel]
  simp [sizeOf, typeInfo, hi, sliced, Result.andThen, ha]
/-- It does not answer true. -/
def NT (o : Option Bool) : Prop := ¬ o = some true
theorem NT.none : NT none := fun h => by cases h
theorem NT.false : NT (some false) := fun h => by cases h
theorem NT.ite {c : Prop} [Decidable c] {a b : Option Bool} (ha : NT a) (hb : NT b) : NT (if c then a else b) := by split <;> assumption
theorem NT.bind {α : Type} {a : Option α} {f : α → Option Bool} (h : ∀ x, NT (f x)) : NT (a.bind f) := by
  cases a with
  | none => exact NT.none
  | some x => exact h x

section
variable {P : Program} {ops : Array Oper} {rest : List Oper} {o : Oper} {a : Act} {Q : Exit → Act → World → Prop}
/-- A text appended to a row of bytes of the call's own: the row's block is the old one, or a new one. -/
theorem append_str_at (w : World) (base : Nat) (t u ty e : TypeId) (i : TypeInfo) (ht : P.underlying t = some (.slice e)) (hu : P.underlying u = some .string) (hi : P.info? e = some i) (hz : i.zero = some (.int .u8 0))
    (hsize : i.size = 1) (hby : i.bytes = 1) (v : Value) (n : Nat) (xs : List Value) (hown : w.ownsRow base e 1 v n xs) (s : ByteArray) (hbytes : n + s.size ≤ 140737488355328) (hbase : base ≤ w.heap.size) :
    ∃ v' w', (Builtin.append_ #[t, u] ty #[v, .string s]).run P w = .ok v' w' ∧ w'.ownsRow base e 1 v' (n + s.size) (xs ++ Lib.strCells s) ∧ w.grownBy w' v.ownBlock ∧ (v'.ownBlock = v.ownBlock ∨ ∃ b, v'.ownBlock = some b ∧ w.heap.size ≤ b) := by
  obtain ⟨v', w', hr, ho, hg, _⟩ := Lib.run_append_own_string (P := P) w base t u ty e i ht hu hi hz hsize hby v n xs hown s (by simp only [maxLen]; omega) hbytes hbase
  refine ⟨v', w', hr, ho, hg, ?_⟩
  have hxl : xs.length = n := by simpa using hown.1
  rcases hown.2 with ⟨rfl, h0⟩ | ⟨g, cap, cur, rfl, hbg, hcell, hnc, hcm, hcs, htake⟩
  · subst h0
    obtain rfl : xs = [] := List.eq_nil_of_length_eq_zero hxl
    obtain ⟨v2, w2, hr2, ho2, _, _⟩ := Lib.run_append_own_string (P := P) w w.heap.size t u ty e i ht hu hi hz hsize hby (.slice none 0 0) 0 [] ⟨by simp, .inl ⟨rfl, rfl⟩⟩ s (by simp only [maxLen]; omega) hbytes (Nat.le_refl _)
    obtain ⟨rfl, rfl⟩ : v' = v2 ∧ w' = w2 := by
      have e := hr.symm.trans hr2
      injection e with e1 e2
      exact ⟨e1, e2⟩
    cases hb : v'.ownBlock with
    | none => exact .inl rfl
    | some k => exact .inr ⟨k, rfl, own_base ho2 k hb⟩
  · by_cases hroom : n + s.size ≤ cap
    · have hr2 := Lib.run_append_room_string (P := P) w t u ty e i ht hu hi hsize g n cap cur hcell s hroom (by rw [hcs]; omega)
      have e := hr.symm.trans hr2
      injection e with e1 e2
      rw [e1]
      exact .inl rfl
    · have holds : ∀ j u, xs[j]? = some u → w.cell? ((⟨g, 0, none⟩ : Addr).add j) = some u := hown.cells (g := g) rfl
      have hr2 := Lib.run_append_grow_string (P := P) w t u ty e i (.int .u8 0) ht hu hi hz ⟨g, 0, none⟩ n cap xs (by rw [hsize]; simpa using hxl) holds s (by omega) (by omega) (by rw [hby]; exact growslice_fits (by omega) (by omega))
      have e := hr.symm.trans hr2
      injection e with e1 e2
      rw [e1]
      exact .inr ⟨w.heap.size, rfl, Nat.le_refl _⟩

/-- '[]byte(s)' of a text, as a call is told. -/
def ConvC (P : Program) (src dst : TypeId) (s : ByteArray) (w : World) (Q : Ending → World → Prop) : Prop := ∃ v w', (convert src dst (.string s)).run P w = .ok v w' ∧ Q (.returned v) w'
theorem ConvC.mono {src dst : TypeId} {s : ByteArray} {w : World} {Q R : Ending → World → Prop} (h : ConvC P src dst s w Q) (hq : ∀ e w', Q e w' → R e w') : ConvC P src dst s w R := by
  obtain ⟨v, w', hr, h⟩ := h
  exact ⟨v, w', hr, hq _ _ h⟩
theorem convL_ {w : World} (N : Option Tmp) (hd : o.dst = N) (hg : o.guard = none) {src dst : TypeId} {x : Operand} {s : ByteArray} (hop : o.op = .convert src dst x) (hx : a.eval x = .string s)
    (h : ConvC P src dst s w fun e w' => ∃ v, e = .returned v ∧ wpList P ops Q rest (a.put N v) w') : wpList P ops Q (o :: rest) a w := by
  obtain ⟨v, w', hr, v', hv, h⟩ := h
  obtain rfl : v = v' := by injection hv
  refine wpList_plain hg fun K hK => ?_
  unfold Oper.wp execOp
  simp only [hop, hx, Sem.run_bind, hr, Result.andThen_ok, Sem.run_pure]
  subst hd
  exact hK _ _ h
/-- The new row is read as what is shared. -/
theorem conv_V {w : World} (src dst e : TypeId) (s : ByteArray) {u : TypeDesc} (hs : P.underlying src = some u) (hd : P.underlying dst = some (.slice e)) (he : P.underlying e = some (.int .u8)) (hlen : s.size ≤ 9223372036854775807) :
    ConvC P src dst s w fun e' w' => ∃ v, e' = .returned v ∧ Kd.V (Kd.int .u8) e w' w.heap.size (fun k_ => w.heap.size ≤ k_) v (bytesOf s) ∧ Below w.heap.size w w' := by
  refine ⟨_, _, Lib.run_convert_string_bytes w src dst e s hs hd he, _, rfl, ?_, ?_⟩
  · have hl : (bytesOf s).length = s.size := bytesOf_length s
    refine ⟨some ⟨w.heap.size, 0, none⟩, grownCap w s.size 0 e, by rw [hl], by rw [hl]; exact grownCap_ge w s.size 0 e, ?_⟩
    intro W' hW
    refine ⟨rfl, by rw [hl]; exact hlen, fun _ => ⟨_, rfl, fun j p hj => ⟨[.int .u8 p], rfl, rfl, fun i u hu => ?_⟩⟩⟩
    obtain rfl : i = 0 := by
      rcases i with _ | i
      · rfl
      · simp at hu
    obtain rfl : Value.int .u8 p = u := by simpa using hu
    have hjl : j < s.size := by have := (List.getElem?_eq_some_iff.1 hj).1; rwa [hl] at this
    have hsz : (Kd.int .u8).sz = 1 := rfl
    rw [hsz, Nat.mul_one, Nat.add_zero, add_plain]
    have hb : W'.heap[w.heap.size]? = (Lib.bytesWorld w e s).heap[w.heap.size]? := hW _ (Nat.le_refl _) (by rw [Lib.bytesWorld_size]; omega)
    have hc := Lib.bytesWorld_cell w e s j hjl
    have hp : ((s.data.toList.getD j 0).toNat : Int) = p := by
      unfold bytesOf at hj
      rw [List.getElem?_map] at hj
      obtain ⟨b, hb1, hb2⟩ := Option.map_eq_some_iff.1 hj
      rw [List.getD_eq_getElem?_getD, hb1]
      exact hb2
    rw [← hp, ← hc]
    simp only [World.cell?, hb]
  · have hsize := Lib.bytesWorld_size w e s
    exact ⟨rfl, rfl, rfl, by rw [hsize]; omega, fun k hk => Lib.bytesWorld_at_old w e s k hk⟩

theorem R_append_str {w0 W : World} (base : Nat) (hgd : o.guard = none) (s x : Operand) (t u e : TypeId)
    (ho : o.op = .call { callee := .builtin .append, args := #[s, x], argTypes := #[t, u] })
    (ht : P.underlying t = some (.slice e)) (hu : P.underlying u = some .string) (hinfo : (P.info? e).map (fun i => (i.zero, i.size, i.bytes)) = some (some (.int .u8 0), 1, 1))
    (v : Value) (xs : List Int) (y : ByteArray) (ok : Nat → Prop) (hs : a.eval s = v) (hx : a.eval x = .string y)
    (HO : Kd.R (Kd.int .u8) e W base ok v xs) (hfresh : ∀ k, W.heap.size ≤ k → ok k) (HB : Below base w0 W) (hbase : base ≤ W.heap.size) (hl : xs.length + y.size ≤ 140737488355328)
    (h : ∀ v1 w1, Kd.R (Kd.int .u8) e w1 base ok v1 (xs ++ bytesOf y) → Below base w0 w1 → W.grownBy w1 v.ownBlock → (v1.ownBlock = v.ownBlock ∨ ∃ b, v1.ownBlock = some b ∧ W.heap.size ≤ b) → wpList P ops Q rest (a.put o.dst v1) w1) :
    wpList P ops Q (o :: rest) a W := by
  obtain ⟨i0, hi, hzz⟩ := Option.map_eq_some_iff.1 hinfo
  simp only [Prod.mk.injEq] at hzz
  obtain ⟨hz0, hz1, hz2⟩ := hzz
  have HO2 := Kd.own_of_R HO
  obtain ⟨v1, w1, hr, hown, hg, hat⟩ := append_str_at (P := P) W base t u o.type e i0 ht hu hi hz0 hz1 hz2 v xs.length (nums .u8 xs) HO2 y hl hbase
  refine wpList_plain hgd fun K hK => ?_
  unfold Oper.wp execOp
  simp only [ho, resolve, invoke, builtin, Sem.run_bind, Sem.run_pure, Result.andThen_ok, List.map_toArray, List.map_cons, List.map_nil, hs, hx, hr]
  refine hK _ _ ?_
  have hl2 : (xs ++ bytesOf y).length = xs.length + y.size := by rw [List.length_append, bytesOf_length]
  have hc : nums .u8 (xs ++ bytesOf y) = nums .u8 xs ++ Lib.strCells y := by
    rw [nums_append]
    congr 1
    simp [nums, bytesOf, Lib.strCells]
  refine h v1 w1 (Kd.R_of_own (h1 := fun _ => rfl) (by rw [hl2, show encs (Value.int .u8) (xs ++ bytesOf y) = nums .u8 xs ++ Lib.strCells y from hc]; exact hown) (fun k hk => ?_)) (HB.grown hg hbase (own_base HO2)) hg hat
  rcases hat with he | ⟨b, hb, hlt⟩
  · exact HO.1 k (he ▸ hk)
  · obtain rfl : b = k := Option.some.inj (hb.symm.trans hk)
    exact hfresh b hlt
end
/-- string(b), b shared. -/
theorem V_string {P : Program} {w : World} {src dst e : TypeId} {base : Nat} {ok : Nat → Prop} {v : Value} {xs : List Int} (hs : P.underlying src = some (.slice e)) (he : P.underlying e = some (.int .u8)) (hd : P.underlying dst = some .string)
    (h : Kd.V (Kd.int .u8) e w base ok v xs) : (convert src dst v).run P w = .ok (.string (strOfNums xs)) w := by
  obtain ⟨A, c, rfl⟩ := Kd.V_slice h
  exact Kd.C_string hs he hd (Kd.V_reads' h).2.2
end Go.Proofs.YtejhfghijgbckaaGreatDoor
