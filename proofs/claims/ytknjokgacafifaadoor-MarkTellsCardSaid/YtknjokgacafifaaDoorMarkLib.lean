/- The contracts of the library functions and of mark.same that the printed walks call, in their form. -/
import Derived.Test.YtknjokgacafifaaDoorAux
import Derived.Test.YtknjokgacafifaaDoorShelf
import Derived.Test.YtknjokgacafifaaDoorMarkFold
namespace Go.Proofs.YtknjokgacafifaaDoor
open Go.RowKit Go.Proofs.YtknjokgacafifaaDoorW.PrintWords Go.Proofs.YtknjokgacafifaaDoorW.PrintLast Go.Proofs.YtknjokgacafifaaDoorW.PrintMore

def strings_Join.f (l : List ByteArray) (sep : ByteArray) : Option ByteArray :=
  if l.length ≤ 140737488355328 ∧ (Lib.join (l.map (·.data.toList)) sep.data.toList).length ≤ 140737488355328 then some ⟨(Lib.join (l.map (·.data.toList)) sep.data.toList).toArray⟩ else none
theorem strings_Join.calls (A0 : Option Addr) (c0 : Nat) (l0 : List ByteArray) (a1 : ByteArray) (r : ByteArray) (w : World) (hr0 : Kd.C Kd.string w A0 l0.length l0) (hc0 : l0.length ≤ c0) (h : strings_Join.f l0 a1 = some r) :
    Calls Tryd.prog 15 #[.slice A0 l0.length c0, .string a1] w fun e w' => e = .returned (.string r) ∧ Below w.heap.size w w' := by
  unfold strings_Join.f at h
  split at h
  · rename_i hb
    obtain rfl := Option.some.inj h
    rcases Nat.eq_zero_or_pos l0.length with h0 | h0
    · obtain rfl := List.eq_nil_of_length_eq_zero h0
      exact (Tryd.strings_Join_none A0 c0 a1 w).mono fun e w' ⟨he, hw⟩ => ⟨he, hw ▸ Below.refl _ _⟩
    · obtain ⟨b, o, rfl, hlt, hc⟩ := strings_cells hr0 h0
      exact Tryd.strings_Join b o c0 l0 a1 w hc hlt hb.1 hc0 hb.2
  · cases h

def mark_same.f (a b : ByteArray) : Option Bool :=
  if b.size < 4294967281 ∧ asciiB b = true then some (if a.size = b.size then Lib.equalFold a.data.toList b.data.toList else false) else none
set_option maxRecDepth 100000 in
theorem mark_same.calls (a0 a1 : ByteArray) (r : Bool) (w : World) (HL0 : Laid w) (h : mark_same.f a0 a1 = some r) :
    Calls Tryd.prog 22 #[.string a0, .string a1] w fun e w' => e = .returned (.bool r) ∧ Below w.heap.size w w' := by
  unfold mark_same.f at h
  split at h
  · rename_i hb
    obtain ⟨h1, h3⟩ := hb
    by_cases hs : a0.size = a1.size
    · rw [if_pos hs] at h
      obtain rfl := Option.some.inj h
      have hcall : Calls Tryd.prog 26 #[.string a0, .string a1] w fun e w' => e = .returned (.bool (Lib.equalFold a0.data.toList a1.data.toList)) ∧ Below w.heap.size w w' := by
        cases h2 : asciiB a0 with
        | true => exact (Tryd.strings_EqualFold a0 a1 w (by omega) (asciiB_at h2) (asciiB_at h3)).mono fun e w' ⟨he, hw⟩ => ⟨he, hw ▸ Below.refl _ _⟩
        | false =>
          rw [equalFold_bad _ _ (by rw [← Lib.size_eq, ← Lib.size_eq]; exact hs) h2 h3]
          exact EqualFold_bad a0 a1 w HL0 hs (by omega) h2 h3
      have hb : ((a0.size : Int) == (a1.size : Int)) = true := beq_iff_eq.2 (by omega)
      have hb2 : ((a0.size) == (a1.size)) = true := beq_iff_eq.2 (by omega)
      clear hs HL0
      go_enter Tryd.func22, Tryd.ntmps22
      go_wp2_with (go_at_call 26; refine hcall.mono ?_; rintro e w' ⟨rfl, hbel⟩)
      go_ret
      exact ⟨rfl, hbel⟩
    · rw [if_neg hs] at h
      obtain rfl := Option.some.inj h
      have hb : ((a0.size : Int) == (a1.size : Int)) = false := beq_eq_false_iff_ne.2 (by omega)
      have hb2 : ((a0.size) == (a1.size)) = false := beq_eq_false_iff_ne.2 (by omega)
      clear hs HL0
      go_enter Tryd.func22, Tryd.ntmps22
      go_wp2
      go_ret
      exact ⟨rfl, by repeat (first | exact Below.refl _ _ | apply Below.drew | apply pw_below_drewN)⟩
  · cases h
end Go.Proofs.YtknjokgacafifaaDoor
