/- The library's functions that the walks of ShowUIDs and ShowBodies lean on, in their form. -/
import Derived.Shelf.Strings.SlTrimAscii
import Derived.Lib.AtoiErrMem
import Derived.Lib.AppendIntMem
import Derived.WalkSmall
import Derived.Lib.LaidU8
import Derived.MakeChecks
import Derived.Test.YtfabaenfglionaaGreatDoorRows
import Derived.Test.YtfabaenfglionaaGreatDoorShelf
import Derived.Test.YtfabaenfglionaaGreatDoorGx
import Derived.Test.YtfabaenfglionaaGreatDoorHeadAny
import Derived.Test.YtfabaenfglionaaGreatDoorUidLow
namespace Go.Proofs.YtfabaenfglionaaGreatDoor
open Go.Lib Go.RowKit Go.Proofs.YtfabaenfglionaaGreatDoorW.PrintWords Go.Proofs.YtfabaenfglionaaGreatDoorW.PrintLast Go.Proofs.YtfabaenfglionaaGreatDoorW.PrintMore

def bytes_SplitAfter.f (k : Nat) (l0 l1 : List Int) : Option (List (List Int)) := G.bytes_SplitAfter.f k l0 l1
theorem bytes_SplitAfter.calls (k : Nat) (P0_ : Nat → Prop) (A0 : Option Addr) (c0 : Nat) (l0 : List Int) (A1 : Option Addr) (c1 : Nat) (l1 : List Int) (r : List (List Int)) (w : World) (hs0 : Kd.V (Kd.int .u8) 5 w w.heap.size (fun k_ => P0_ k_) (.slice A0 l0.length c0) l0) (hr1 : Kd.C (Kd.int .u8) w A1 l1.length l1) (hc1 : l1.length ≤ c1) (h : bytes_SplitAfter.f k l0 l1 = some r) :
    Calls Tryz.prog 79 #[.slice A0 l0.length c0, .slice A1 l1.length c1] w fun e w' => ∃ v0_ : Value, e = .returned (v0_) ∧ Kd.V (Kd.slice 5 (Kd.int .u8)) 34 w' w.heap.size (fun k_ => (P0_ k_ ∨ w.heap.size ≤ k_)) v0_ r ∧ Below w.heap.size w w' :=
  (G.bytes_SplitAfter.calls k P0_ A0 c0 l0 A1 c1 l1 r w hs0 hr1 hc1 h).mono fun _ _ ⟨v, he, hN, hb⟩ => ⟨v, he, Kd.N_V hN, hb⟩

def bytes_Clone.f (l : List Int) : Option (List Int) := if l.length ≤ 140737488355328 then some l else none
theorem bytes_Clone.calls (A0 : Option Addr) (c0 : Nat) (l0 : List Int) (r : List Int) (w : World) (hr0 : Kd.C (Kd.int .u8) w A0 l0.length l0) (_ : l0.length ≤ c0) (h : bytes_Clone.f l0 = some r) :
    Calls Tryz.prog 47 #[.slice A0 l0.length c0] w fun e w' => ∃ v0_ : Value, e = .returned (v0_) ∧ Kd.R (Kd.int .u8) 5 w' w.heap.size (fun _ => True) v0_ r ∧ Below w.heap.size w w' := by
  unfold bytes_Clone.f at h
  split at h
  case isFalse => cases h
  rename_i hb
  obtain rfl := Option.some.inj h
  rcases A0 with _ | a
  · have h0 : l0 = [] := by
      rcases Nat.eq_zero_or_pos l0.length with h0 | h0
      · exact List.eq_nil_of_length_eq_zero h0
      · obtain ⟨ad, he, _⟩ := bytes_cells hr0 h0
        cases he
    subst h0
    exact (Tryz.bytes_Clone_nil _ _ _).mono fun _ _ ⟨he, hw⟩ => ⟨_, he, Kd.R_nil _ _ _ _ _, hw ▸ Below.refl _ _⟩
  · refine (Tryz.bytes_Clone_at a l0.length c0 l0 w rfl hb (fun i hi => ?_)).mono fun _ _ ⟨v, he, ho, _, hbl⟩ => ⟨v, he, Kd.R_of_own (h1 := fun _ => rfl) (ok := fun _ => True) ho (fun _ _ => trivial), hbl⟩
    obtain ⟨ad', he, hc⟩ := bytes_cells hr0 (by omega)
    obtain rfl := Option.some.inj he
    exact hc i hi
def bytes_HasSuffix.f (l0 l1 : List Int) : Option Bool := some (Lib.hasSuffix (Lib.bytesOf l0) (Lib.bytesOf l1))
theorem bytes_HasSuffix.calls (A0 : Option Addr) (c0 : Nat) (l0 : List Int) (A1 : Option Addr) (c1 : Nat) (l1 : List Int) (r : Bool) (w : World) (hr0 : Kd.C (Kd.int .u8) w A0 l0.length l0) (hc0 : l0.length ≤ c0) (hr1 : Kd.C (Kd.int .u8) w A1 l1.length l1) (_ : l1.length ≤ c1) (h : bytes_HasSuffix.f l0 l1 = some r) :
    Calls Tryz.prog 86 #[.slice A0 l0.length c0, .slice A1 l1.length c1] w fun e w' => e = .returned (.bool r) ∧ Below w.heap.size w w' := by
  obtain rfl := Option.some.inj h
  exact (Tryz.bytes_HasSuffix_all A0 A1 _ c0 _ c1 l0 l1 w rfl rfl hc0 hr0.2.1 (bytes_in hr0) (bytes_in hr1)).mono fun _ _ ⟨he, hw⟩ => ⟨he, hw ▸ Below.refl _ _⟩
def strings_Split.f (k : Nat) (a0 a1 : ByteArray) : Option (List ByteArray) := G.strings_Split.f k a0 a1
theorem strings_Split.calls (k : Nat) (a0 : ByteArray) (a1 : ByteArray) (r : List ByteArray) (w : World) (h : strings_Split.f k a0 a1 = some r) :
    Calls Tryz.prog 45 #[.string a0, .string a1] w fun e w' => ∃ v0_ : Value, e = .returned (v0_) ∧ Kd.R Kd.string 9 w' w.heap.size (fun _ => True) v0_ r ∧ Below w.heap.size w w' := G.strings_Split.calls k a0 a1 r w h
def Laid (w : World) : Prop := TabIs Tryz.prog w "internal/strconv.uint64pow10" .u64 pow10Tab
theorem Laid.below {w w' : World} (h : Laid w) (hb : Below w.heap.size w w') : Laid w' := by
  have hg : Tryz.prog.globalNamed "internal/strconv.uint64pow10" = some 0 := by kernel_rfl
  unfold Laid TabIs at h ⊢
  refine var?_below hb hg ?_ h
  rcases Nat.lt_or_ge 0 w.heap.size with h1 | h1
  · exact h1
  · have h2 : w.heap[(0 : Nat)]? = none := Array.getElem?_eq_none h1
    simp [World.var?, hg, h2] at h
set_option maxRecDepth 100000 in
theorem pow10_data : (Rows.laid_internal_strconv_uint64pow10 : DataW Unit) = tabData .u64 pow10Tab := by kernel_rfl
theorem laid_of {w : World} {l : List (String × DataW Unit)} (hL : laidMetH Tryz.prog l w) (hp : (l.all fun x => x.2.handleName?.isNone) = true) (h1 : ("internal/strconv.uint64pow10", Rows.laid_internal_strconv_uint64pow10) ∈ l) : Laid w := by
  rw [MakeChecks.laidMetH_plain _ _ _ hp] at hL
  have h2 := laidMet.reads hL h1
  rw [pow10_data] at h2
  obtain ⟨g, t, cs, fuel, p, hg, hty, hvar, hd⟩ := h2
  obtain rfl := Option.some.inj ((show Tryz.prog.globalNamed "internal/strconv.uint64pow10" = some 0 by kernel_rfl).symm.trans hg)
  have hcs := cells_of_tab (n := 20) (e := 95) (by
    obtain rfl := Option.some.inj ((show (Tryz.prog.globals[0]?).map (·.type) = some 118 by kernel_rfl).symm.trans hty)
    exact Tryz.underlying118) Tryz.underlying95 (by kernel_rfl) (by
    obtain rfl := Option.some.inj ((show (Tryz.prog.globals[0]?).map (·.type) = some 118 by kernel_rfl).symm.trans hty)
    kernel_rfl) hd
  unfold Laid TabIs
  rw [hvar, ← hcs]
theorem below_grown (w : World) (k : Nat) (os : Array Obj) : Below w.heap.size w (Sort.grow (w.drewN k) os) :=
  ⟨rfl, rfl, rfl, by show w.heap.size ≤ (w.heap ++ os).size; rw [Array.size_append]; omega, fun j hj => by show (w.heap ++ os)[j]? = w.heap[j]?; rw [Array.getElem?_append_left hj]⟩

def strings_Join.f (l : List ByteArray) (sep : ByteArray) : Option ByteArray :=
  if l.length ≤ 140737488355328 ∧ (Lib.join (l.map (·.data.toList)) sep.data.toList).length ≤ 140737488355328 then some ⟨(Lib.join (l.map (·.data.toList)) sep.data.toList).toArray⟩ else none
theorem strings_Join.calls (A0 : Option Addr) (c0 : Nat) (l0 : List ByteArray) (a1 : ByteArray) (r : ByteArray) (w : World) (hr0 : Kd.C Kd.string w A0 l0.length l0) (hc0 : l0.length ≤ c0) (h : strings_Join.f l0 a1 = some r) :
    Calls Tryz.prog 21 #[.slice A0 l0.length c0, .string a1] w fun e w' => e = .returned (.string r) ∧ Below w.heap.size w w' := by
  unfold strings_Join.f at h
  split at h
  · rename_i hb
    obtain rfl := Option.some.inj h
    rcases Nat.eq_zero_or_pos l0.length with h0 | h0
    · obtain rfl := List.eq_nil_of_length_eq_zero h0
      exact (Tryz.strings_Join_none A0 c0 a1 w).mono fun e w' ⟨he, hw⟩ => ⟨he, hw ▸ Below.refl _ _⟩
    · obtain ⟨b, o, rfl, hlt, hc⟩ := strings_cells hr0 h0
      exact Tryz.strings_Join b o c0 l0 a1 w hc hlt hb.1 hc0 hb.2
  · cases h

def strconv_Itoa.f (n : Int) : Option ByteArray := if -9223372036854775808 ≤ n ∧ n ≤ 9223372036854775807 then some ⟨(Lib.itoa n).toArray⟩ else none
theorem strconv_Itoa.calls (a0 : Int) (r : ByteArray) (w : World) (HL0 : Laid w) (h : strconv_Itoa.f a0 = some r) :
    Calls Tryz.prog 20 #[.int .i64 a0] w fun e w' => e = .returned (.string r) ∧ Below w.heap.size w w' := by
  unfold strconv_Itoa.f at h
  split at h
  · rename_i hb
    obtain rfl := Option.some.inj h
    refine (Tryz.strconv_Itoa a0 hb.1 hb.2 w HL0).mono fun e w' ⟨he, k, os, hw⟩ => ⟨he, ?_⟩
    rw [hw]
    exact below_grown w k os
  · cases h
end Go.Proofs.YtfabaenfglionaaGreatDoor
