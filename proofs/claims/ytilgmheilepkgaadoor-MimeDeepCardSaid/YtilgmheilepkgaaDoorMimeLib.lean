/- The library's functions that the mime seat's walks lean on, in their form. -/
import Derived.Test.YtilgmheilepkgaaDoorGx
import Derived.Test.YtilgmheilepkgaaDoorHeadAny
import Derived.Test.YtilgmheilepkgaaDoorMimeLow
namespace Go.Proofs.YtilgmheilepkgaaDoor
open Go.RowKit Go.Proofs.YtilgmheilepkgaaDoorW.PrintWords Go.Proofs.YtilgmheilepkgaaDoorW.PrintLast Go.Proofs.YtilgmheilepkgaaDoorW.PrintMore

def bytes_SplitAfter.f (k : Nat) (l0 l1 : List Int) : Option (List (List Int)) := G.bytes_SplitAfter.f k l0 l1
theorem bytes_SplitAfter.mono : ∀ a0 a1 k, LeO (bytes_SplitAfter.f k a0 a1) (bytes_SplitAfter.f (k + 1) a0 a1) := G.bytes_SplitAfter.mono
theorem bytes_SplitAfter.calls (k : Nat) (P0_ : Nat → Prop) (A0 : Option Addr) (c0 : Nat) (l0 : List Int) (A1 : Option Addr) (c1 : Nat) (l1 : List Int) (r : List (List Int)) (w : World) (hs0 : Kd.V (Kd.int .u8) 5 w w.heap.size (fun k_ => P0_ k_) (.slice A0 l0.length c0) l0) (hr1 : Kd.C (Kd.int .u8) w A1 l1.length l1) (hc1 : l1.length ≤ c1) (h : bytes_SplitAfter.f k l0 l1 = some r) :
    Calls Tryd.prog 58 #[.slice A0 l0.length c0, .slice A1 l1.length c1] w fun e w' => ∃ v0_ : Value, e = .returned (v0_) ∧ Kd.V (Kd.slice 5 (Kd.int .u8)) 22 w' w.heap.size (fun k_ => (P0_ k_ ∨ w.heap.size ≤ k_)) v0_ r ∧ Below w.heap.size w w' :=
  (G.bytes_SplitAfter.calls k P0_ A0 c0 l0 A1 c1 l1 r w hs0 hr1 hc1 h).mono fun _ _ ⟨v, he, hN, hb⟩ => ⟨v, he, Kd.N_V hN, hb⟩

def bytes_Clone.f (l : List Int) : Option (List Int) := if l.length ≤ 140737488355328 then some l else none
theorem bytes_Clone.calls (A0 : Option Addr) (c0 : Nat) (l0 : List Int) (r : List Int) (w : World) (hr0 : Kd.C (Kd.int .u8) w A0 l0.length l0) (_ : l0.length ≤ c0) (h : bytes_Clone.f l0 = some r) :
    Calls Tryd.prog 16 #[.slice A0 l0.length c0] w fun e w' => ∃ v0_ : Value, e = .returned (v0_) ∧ Kd.R (Kd.int .u8) 5 w' w.heap.size (fun _ => True) v0_ r ∧ Below w.heap.size w w' := by
  unfold bytes_Clone.f at h
  split at h
  case isFalse => cases h
  rename_i hb
  obtain rfl := Option.some.inj h
  rcases A0 with _ | a
  · have h0 : l0 = [] := by
      rcases Nat.eq_zero_or_pos l0.length with h0 | h0
      · exact List.eq_nil_of_length_eq_zero h0
      · obtain ⟨ad, he, _⟩ := bytes_cells hr0 h0
        cases he
    subst h0
    exact (Tryd.bytes_Clone_nil _ _ _).mono fun _ _ ⟨he, hw⟩ => ⟨_, he, Kd.R_nil _ _ _ _ _, hw ▸ Below.refl _ _⟩
  · refine (Tryd.bytes_Clone_at a l0.length c0 l0 w rfl hb (fun i hi => ?_)).mono fun _ _ ⟨v, he, ho, _, hbl⟩ => ⟨v, he, Kd.R_of_own (h1 := fun _ => rfl) (ok := fun _ => True) ho (fun _ _ => trivial), hbl⟩
    obtain ⟨ad', he, hc⟩ := bytes_cells hr0 (by omega)
    obtain rfl := Option.some.inj he
    exact hc i hi
def bytes_HasSuffix.f (l0 l1 : List Int) : Option Bool := some (Lib.hasSuffix (Lib.bytesOf l0) (Lib.bytesOf l1))
theorem bytes_HasSuffix.calls (A0 : Option Addr) (c0 : Nat) (l0 : List Int) (A1 : Option Addr) (c1 : Nat) (l1 : List Int) (r : Bool) (w : World) (hr0 : Kd.C (Kd.int .u8) w A0 l0.length l0) (hc0 : l0.length ≤ c0) (hr1 : Kd.C (Kd.int .u8) w A1 l1.length l1) (_ : l1.length ≤ c1) (h : bytes_HasSuffix.f l0 l1 = some r) :
    Calls Tryd.prog 29 #[.slice A0 l0.length c0, .slice A1 l1.length c1] w fun e w' => e = .returned (.bool r) ∧ Below w.heap.size w w' := by
  obtain rfl := Option.some.inj h
  exact (Tryd.bytes_HasSuffix_all A0 A1 _ c0 _ c1 l0 l1 w rfl rfl hc0 hr0.2.1 (bytes_in hr0) (bytes_in hr1)).mono fun _ _ ⟨he, hw⟩ => ⟨he, hw ▸ Below.refl _ _⟩
def strings_Split.f (k : Nat) (a0 a1 : ByteArray) : Option (List ByteArray) := G.strings_Split.f k a0 a1
theorem strings_Split.mono : ∀ a0 a1 k, LeO (strings_Split.f k a0 a1) (strings_Split.f (k + 1) a0 a1) := G.strings_Split.mono
theorem strings_Split.calls (k : Nat) (a0 : ByteArray) (a1 : ByteArray) (r : List ByteArray) (w : World) (h : strings_Split.f k a0 a1 = some r) :
    Calls Tryd.prog 22 #[.string a0, .string a1] w fun e w' => ∃ v0_ : Value, e = .returned (v0_) ∧ Kd.R Kd.string 9 w' w.heap.size (fun _ => True) v0_ r ∧ Below w.heap.size w w' := G.strings_Split.calls k a0 a1 r w h
end Go.Proofs.YtilgmheilepkgaaDoor
