/- The library's functions that the find seat's walks lean on, in their form. -/
import Derived.Test.YtejhfghijgbckaaGreatDoorGx
import Derived.Test.YtejhfghijgbckaaGreatDoorHeadAny
import Derived.Test.YtejhfghijgbckaaGreatDoorHeadLow
import Derived.Lib.Atoi
import Derived.Test.YtejhfghijgbckaaGreatDoorFindLow
namespace Go.Proofs.YtejhfghijgbckaaGreatDoor
open Go.RowKit Go.Proofs.YtejhfghijgbckaaGreatDoorW.PrintWords Go.Proofs.YtejhfghijgbckaaGreatDoorW.PrintLast Go.Proofs.YtejhfghijgbckaaGreatDoorW.PrintMore

def bytes_SplitAfter.f (k : Nat) (l0 l1 : List Int) : Option (List (List Int)) := G.bytes_SplitAfter.f k l0 l1
theorem bytes_SplitAfter.mono : ∀ a0 a1 k, LeO (bytes_SplitAfter.f k a0 a1) (bytes_SplitAfter.f (k + 1) a0 a1) := G.bytes_SplitAfter.mono
theorem bytes_SplitAfter.calls (k : Nat) (P0_ : Nat → Prop) (A0 : Option Addr) (c0 : Nat) (l0 : List Int) (A1 : Option Addr) (c1 : Nat) (l1 : List Int) (r : List (List Int)) (w : World) (hs0 : Kd.V (Kd.int .u8) 5 w w.heap.size (fun k_ => P0_ k_) (.slice A0 l0.length c0) l0) (hr1 : Kd.C (Kd.int .u8) w A1 l1.length l1) (hc1 : l1.length ≤ c1) (h : bytes_SplitAfter.f k l0 l1 = some r) :
    Calls Tryz.prog 84 #[.slice A0 l0.length c0, .slice A1 l1.length c1] w fun e w' => ∃ v0_ : Value, e = .returned (v0_) ∧ Kd.V (Kd.slice 5 (Kd.int .u8)) 35 w' w.heap.size (fun k_ => (P0_ k_ ∨ w.heap.size ≤ k_)) v0_ r ∧ Below w.heap.size w w' :=
  (G.bytes_SplitAfter.calls k P0_ A0 c0 l0 A1 c1 l1 r w hs0 hr1 hc1 h).mono fun _ _ ⟨v, he, hN, hb⟩ => ⟨v, he, Kd.N_V hN, hb⟩

def bytes_HasSuffix.f (l0 l1 : List Int) : Option Bool := some (Lib.hasSuffix (Lib.bytesOf l0) (Lib.bytesOf l1))
theorem bytes_HasSuffix.calls (A0 : Option Addr) (c0 : Nat) (l0 : List Int) (A1 : Option Addr) (c1 : Nat) (l1 : List Int) (r : Bool) (w : World) (hr0 : Kd.C (Kd.int .u8) w A0 l0.length l0) (hc0 : l0.length ≤ c0) (hr1 : Kd.C (Kd.int .u8) w A1 l1.length l1) (_ : l1.length ≤ c1) (h : bytes_HasSuffix.f l0 l1 = some r) :
    Calls Tryz.prog 109 #[.slice A0 l0.length c0, .slice A1 l1.length c1] w fun e w' => e = .returned (.bool r) ∧ Below w.heap.size w w' := by
  obtain rfl := Option.some.inj h
  exact (Tryz.bytes_HasSuffix_all A0 A1 _ c0 _ c1 l0 l1 w rfl rfl hc0 hr0.2.1 (bytes_in hr0) (bytes_in hr1)).mono fun _ _ ⟨he, hw⟩ => ⟨he, hw ▸ Below.refl _ _⟩
def Laid (w : World) : Prop := ∃ m, w.cell? ⟨0, 0, none⟩ = some (.int .i64 m)
theorem Laid.below {w w' : World} (h : Laid w) (hb : Below w.heap.size w w') : Laid w' := by
  obtain ⟨m, hm⟩ := h
  exact ⟨m, (hb.cell (World.block_lt_of_cell? w _ hm)).trans hm⟩
def strings_Contains.f (s sub : ByteArray) : Option Bool := if s.size < 4294967281 then some (Lib.contains s.data.toList sub.data.toList) else none
theorem strings_Contains.calls (a0 a1 : ByteArray) (r : Bool) (w : World) (HL0 : Laid w) (h : strings_Contains.f a0 a1 = some r) :
    Calls Tryz.prog 40 #[.string a0, .string a1] w fun e w' => e = .returned (.bool r) ∧ Below w.heap.size w w' := by
  unfold strings_Contains.f at h
  split at h
  case isFalse => cases h
  rename_i hb
  obtain rfl := Option.some.inj h
  obtain ⟨m, hm⟩ := HL0
  exact (Tryz.strings_Contains a0 a1 m w hb hm).mono fun _ _ ⟨he, hw⟩ => ⟨he, hw ▸ Below.refl _ _⟩
def strings_TrimPrefix.f (s p : ByteArray) : Option ByteArray := some ⟨(Lib.trimPrefix s.data.toList p.data.toList).toArray⟩
theorem strings_TrimPrefix.calls (a0 a1 : ByteArray) (r : ByteArray) (w : World) (h : strings_TrimPrefix.f a0 a1 = some r) :
    Calls Tryz.prog 54 #[.string a0, .string a1] w fun e w' => e = .returned (.string r) ∧ Below w.heap.size w w' := by
  obtain rfl := Option.some.inj h
  exact (Tryz.strings_TrimPrefix a0 a1 w).mono fun _ _ ⟨he, hw⟩ => ⟨he, hw ▸ Below.refl _ _⟩
end Go.Proofs.YtejhfghijgbckaaGreatDoor
