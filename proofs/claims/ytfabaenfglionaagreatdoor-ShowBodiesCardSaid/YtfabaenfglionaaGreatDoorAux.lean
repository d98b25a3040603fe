/- Plain words used by the seat's texts: slices of strings as the printed contracts tell them, and their cells. -/
import Derived.Test.YtfabaenfglionaaGreatDoorWMore
import Derived.Lib.AppendStr
import Derived.Lib.ConvBytes
namespace Go.Proofs.YtfabaenfglionaaGreatDoor
open Go.RowKit Go.Proofs.YtfabaenfglionaaGreatDoorW.PrintWords Go.Proofs.YtfabaenfglionaaGreatDoorW.PrintLast Go.Proofs.YtfabaenfglionaaGreatDoorW.PrintMore

theorem strings_cells {w : World} {A : Option Addr} {n : Nat} {l : List ByteArray} (h : Kd.C Kd.string w A n l) (hn : 0 < n) :
    ∃ b o, A = some ⟨b, o, none⟩ ∧ b < w.heap.size ∧ ∀ (j : Nat) x, l[j]? = some x → w.cell? ⟨b, o + j, none⟩ = some (.string x) := by
  obtain ⟨hl, _, hc⟩ := h
  obtain ⟨ad, rfl, hc2⟩ := hc hn
  have h0 : ∀ (j : Nat) x, l[j]? = some x → w.cell? (ad.add j) = some (.string x) := by
    intro j x hx
    obtain ⟨c, hs, hr, hcell⟩ := hc2 j x hx
    have hr' : c = [.string x] := hr
    subst hr'
    have := hcell 0 (.string x) rfl
    have e : j * Kd.string.sz + 0 = j := by show j * 1 + 0 = j; omega
    rwa [e] at this
  have h00 := h0 0 (l[0]'(by omega)) (List.getElem?_eq_getElem (by omega))
  have e0 : ad.add 0 = ad := by simp [Addr.add]
  rw [e0] at h00
  have hs := World.cell?_spot h00
  have hb := World.block_lt_of_cell? w ad h00
  obtain ⟨b, o, s⟩ := ad
  obtain rfl : s = none := by simpa using hs
  refine ⟨b, o, rfl, hb, fun j x hx => ?_⟩
  have := h0 j x hx
  unfold Addr.add at this
  split at this
  · rename_i h; subst h; simpa using this
  · exact this

theorem cut_to3 {P : Program} (t e : TypeId) (kh km : IntKind) {i : TypeInfo} (ht : P.underlying t = some (.slice e)) (hi : P.info? e = some i) (A : Option Addr) (n c : Nat) (j : Int) (h0 : 0 ≤ j) (hm : j ≤ n) (hc : n ≤ c) :
    ∀ W : World, (Instr.slice t (.slice A n c) none (some (.int kh j)) (some (.int km j))).run P W = .ok (.slice A j.toNat j.toNat) W := by
  intro W
  have hel : P.elem t = e := by simp [Program.elem, ht]
  have hu : P.underlying t = some (.slice (P.elem t)) := by rw [hel]; exact ht
  have ha : (A.map fun x => x.add 0) = A := by cases A <;> simp [Addr.add]
  rw [run_slice_hm W t A n c hu kh km j j h0 (Int.le_refl _) (by omega), hel]
  simp [sizeOf, typeInfo, hi, sliced, Result.andThen, ha]
def NT (o : Option Bool) : Prop := ¬ o = some true
theorem NT.none : NT none := fun h => by cases h
theorem NT.false : NT (some false) := fun h => by cases h
theorem NT.ite {c : Prop} [Decidable c] {a b : Option Bool} (ha : NT a) (hb : NT b) : NT (if c then a else b) := by split <;> assumption
theorem NT.bind {α : Type} {a : Option α} {f : α → Option Bool} (h : ∀ x, NT (f x)) : NT (a.bind f) := by
  cases a with
  | none => exact NT.none
  | some x => exact h x

section
variable {P : Program} {ops : Array Oper} {rest : List Oper} {o : Oper} {a : Act} {Q : Exit → Act → World → Prop}
end
theorem V_string {P : Program} {w : World} {src dst e : TypeId} {base : Nat} {ok : Nat → Prop} {v : Value} {xs : List Int} (hs : P.underlying src = some (.slice e)) (he : P.underlying e = some (.int .u8)) (hd : P.underlying dst = some .string)
    (h : Kd.V (Kd.int .u8) e w base ok v xs) : (convert src dst v).run P w = .ok (.string (strOfNums xs)) w := by
  obtain ⟨A, c, rfl⟩ := Kd.V_slice h
  exact Kd.C_string hs he hd (Kd.V_reads' h).2.2
end Go.Proofs.YtfabaenfglionaaGreatDoor
