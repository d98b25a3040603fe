/- Plain words used by the seat's texts: slices of strings as the printed contracts tell them, and their cells. -/
import Derived.Test.YtejhfghijgbckaaGreatDoorWMore
import Derived.Lib.AppendStr
import Derived.Lib.ConvBytes
namespace Go.Proofs.YtejhfghijgbckaaGreatDoor
open Go.RowKit Go.Proofs.YtejhfghijgbckaaGreatDoorW.PrintWords Go.Proofs.YtejhfghijgbckaaGreatDoorW.PrintLast Go.Proofs.YtejhfghijgbckaaGreatDoorW.PrintMore

theorem cut_to3 {P : Program} (t e : TypeId) (kh km : IntKind) {i : TypeInfo} (ht : P.underlying t = some (.slice e)) (hi : P.info? e = some i) (A : Option Addr) (n c : Nat) (j : Int) (h0 : 0 ≤ j) (hm : j ≤ n) (hc : n ≤ c) :
    ∀ W : World, (Instr.slice t (.slice A n c) none (some (.int kh j)) (some (.int km j))).run P W = .ok (.slice A j.toNat j.toNat) W := by
  intro W
  have hel : P.elem t = e := by simp [Program.elem, ht]
  have hu : P.underlying t = some (.slice (P.elem t)) := by rw [hel]; exact ht
  have ha : (A.map fun x => x.add 0) = A := by cases A <;> simp [Addr.add]
  rw [run_slice_hm W t A n c hu kh km j j h0 (Int.le_refl _) (by omega), hel]
  simp [sizeOf, typeInfo, hi, sliced, Result.andThen, ha]
def NT (o : Option Bool) : Prop := ¬ o = some true
theorem NT.none : NT none := fun h => by cases h
theorem NT.false : NT (some false) := fun h => by cases h
theorem NT.ite {c : Prop} [Decidable c] {a b : Option Bool} (ha : NT a) (hb : NT b) : NT (if c then a else b) := by split <;> assumption
theorem NT.bind {α : Type} {a : Option α} {f : α → Option Bool} (h : ∀ x, NT (f x)) : NT (a.bind f) := by
  cases a with
  | none => exact NT.none
  | some x => exact h x

section
variable {P : Program} {ops : Array Oper} {rest : List Oper} {o : Oper} {a : Act} {Q : Exit → Act → World → Prop}
def ConvC (P : Program) (src dst : TypeId) (s : ByteArray) (w : World) (Q : Ending → World → Prop) : Prop := ∃ v w', (convert src dst (.string s)).run P w = .ok v w' ∧ Q (.returned v) w'
theorem ConvC.mono {src dst : TypeId} {s : ByteArray} {w : World} {Q R : Ending → World → Prop} (h : ConvC P src dst s w Q) (hq : ∀ e w', Q e w' → R e w') : ConvC P src dst s w R := by
  obtain ⟨v, w', hr, h⟩ := h
  exact ⟨v, w', hr, hq _ _ h⟩
theorem conv_V {w : World} (src dst e : TypeId) (s : ByteArray) {u : TypeDesc} (hs : P.underlying src = some u) (hd : P.underlying dst = some (.slice e)) (he : P.underlying e = some (.int .u8)) (hlen : s.size ≤ 9223372036854775807) :
    ConvC P src dst s w fun e' w' => ∃ v, e' = .returned v ∧ Kd.V (Kd.int .u8) e w' w.heap.size (fun k_ => w.heap.size ≤ k_) v (bytesOf s) ∧ Below w.heap.size w w' := by
  refine ⟨_, _, Lib.run_convert_string_bytes w src dst e s hs hd he, _, rfl, ?_, ?_⟩
  · have hl : (bytesOf s).length = s.size := bytesOf_length s
    refine ⟨some ⟨w.heap.size, 0, none⟩, grownCap w s.size 0 e, by rw [hl], by rw [hl]; exact grownCap_ge w s.size 0 e, ?_⟩
    intro W' hW
    refine ⟨rfl, by rw [hl]; exact hlen, fun _ => ⟨_, rfl, fun j p hj => ⟨[.int .u8 p], rfl, rfl, fun i u hu => ?_⟩⟩⟩
    obtain rfl : i = 0 := by
      rcases i with _ | i
      · rfl
      · simp at hu
    obtain rfl : Value.int .u8 p = u := by simpa using hu
    have hjl : j < s.size := by have := (List.getElem?_eq_some_iff.1 hj).1; rwa [hl] at this
    have hsz : (Kd.int .u8).sz = 1 := rfl
    rw [hsz, Nat.mul_one, Nat.add_zero, add_plain]
    have hb : W'.heap[w.heap.size]? = (Lib.bytesWorld w e s).heap[w.heap.size]? := hW _ (Nat.le_refl _) (by rw [Lib.bytesWorld_size]; omega)
    have hc := Lib.bytesWorld_cell w e s j hjl
    have hp : ((s.data.toList.getD j 0).toNat : Int) = p := by
      unfold bytesOf at hj
      rw [List.getElem?_map] at hj
      obtain ⟨b, hb1, hb2⟩ := Option.map_eq_some_iff.1 hj
      rw [List.getD_eq_getElem?_getD, hb1]
      exact hb2
    rw [← hp, ← hc]
    simp only [World.cell?, hb]
  · have hsize := Lib.bytesWorld_size w e s
    exact ⟨rfl, rfl, rfl, by rw [hsize]; omega, fun k hk => Lib.bytesWorld_at_old w e s k hk⟩

end
end Go.Proofs.YtejhfghijgbckaaGreatDoor
