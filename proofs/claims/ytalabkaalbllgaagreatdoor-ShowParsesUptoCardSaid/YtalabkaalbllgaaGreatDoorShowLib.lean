/- The contracts that the walks of the show seat lean on. -/
import Derived.Test.YtalabkaalbllgaaGreatDoorGx
import Derived.Test.YtalabkaalbllgaaGreatDoorShowLow
namespace Go.Proofs.YtalabkaalbllgaaGreatDoor
open Go.RowKit Go.Proofs.YtalabkaalbllgaaGreatDoorW.PrintWords Go.Proofs.YtalabkaalbllgaaGreatDoorW.PrintLast Go.Proofs.YtalabkaalbllgaaGreatDoorW.PrintMore
def strings_Split.f (k : Nat) (a0 a1 : ByteArray) : Option (List ByteArray) := G.strings_Split.f k a0 a1
theorem strings_Split.mono : ∀ a0 a1 k, LeO (strings_Split.f k a0 a1) (strings_Split.f (k + 1) a0 a1) := G.strings_Split.mono
theorem strings_Split.calls (k : Nat) (a0 : ByteArray) (a1 : ByteArray) (r : List ByteArray) (w : World) (h : strings_Split.f k a0 a1 = some r) :
    Calls Tryz.prog 58 #[.string a0, .string a1] w fun e w' => ∃ v0_ : Value, e = .returned (v0_) ∧ Kd.R Kd.string 9 w' w.heap.size (fun _ => True) v0_ r ∧ Below w.heap.size w w' := G.strings_Split.calls k a0 a1 r w h
def strings_CutPrefix.f (s p : ByteArray) : Option (ByteArray × Bool) := some (⟨(Lib.trimPrefix s.data.toList p.data.toList).toArray⟩, Lib.hasPrefix s.data.toList p.data.toList)
theorem strings_CutPrefix.calls (a0 a1 : ByteArray) (r1 : ByteArray) (r2 : Bool) (w : World) (h : strings_CutPrefix.f a0 a1 = some (r1, r2)) :
    Calls Tryz.prog 38 #[.string a0, .string a1] w fun e w' => e = .returned (.tuple #[.string r1, .bool r2]) ∧ Below w.heap.size w w' := by
  obtain ⟨rfl, rfl⟩ := Prod.mk.inj (Option.some.inj h)
  exact (Tryz.strings_CutPrefix a0 a1 w).mono fun e w' ⟨he, hw⟩ => ⟨he, hw ▸ Below.refl _ _⟩
def strings_CutSuffix.f (s p : ByteArray) : Option (ByteArray × Bool) := if s.size ≤ 9223372036854775807 then some (⟨(Lib.trimSuffix s.data.toList p.data.toList).toArray⟩, Lib.hasSuffix s.data.toList p.data.toList) else none
theorem strings_CutSuffix.calls (a0 a1 : ByteArray) (r1 : ByteArray) (r2 : Bool) (w : World) (h : strings_CutSuffix.f a0 a1 = some (r1, r2)) :
    Calls Tryz.prog 39 #[.string a0, .string a1] w fun e w' => e = .returned (.tuple #[.string r1, .bool r2]) ∧ Below w.heap.size w w' := by
  unfold strings_CutSuffix.f at h
  split at h
  · rename_i hb
    obtain ⟨rfl, rfl⟩ := Prod.mk.inj (Option.some.inj h)
    exact (Tryz.strings_CutSuffix a0 a1 w hb).mono fun e w' ⟨he, hw⟩ => ⟨he, hw ▸ Below.refl _ _⟩
  · cases h
end Go.Proofs.YtalabkaalbllgaaGreatDoor
