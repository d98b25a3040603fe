/- The contracts of bytes.Index, bytes.Count, bytes.IndexByte, and of strings.Index and strings.Count at a text of one byte, in the printed walks' form. -/
import Derived.Test.YtfabaenfglionaaGreatDoorBytes
import Derived.Test.YtfabaenfglionaaGreatDoorShelf
namespace Go.Proofs.YtfabaenfglionaaGreatDoor
open Go.RowKit Go.Proofs.YtfabaenfglionaaGreatDoorW.PrintWords Go.Proofs.YtfabaenfglionaaGreatDoorW.PrintLast Go.Proofs.YtfabaenfglionaaGreatDoorW.PrintMore

def bytes_explode.f (_ : List Int) (_ : Int) : Option (List (List Int)) := none
theorem bytes_explode.calls (A0 : Option Addr) (c0 : Nat) (l0 : List Int) (a1 : Int) (r : List (List Int)) (w : World) (_ : Kd.C (Kd.int .u8) w A0 l0.length l0) (_ : l0.length ≤ c0) (h : bytes_explode.f l0 a1 = some r) :
    Calls Tryz.prog 119 #[.slice A0 l0.length c0, .int .i64 a1] w fun e w' => ∃ v0_ : Value, e = .returned v0_ ∧ Kd.N (Kd.slice 5 (Kd.int .u8)) 34 w' w.heap.size (fun k_ => (w.heap.size ≤ k_)) v0_ r ∧ Below w.heap.size w w' := by cases h

set_option maxHeartbeats 2000000 in
set_option maxRecDepth 1000000 in
theorem bytes_IndexByte_none (n c : Nat) (hn : n = 0) (cv : Int) (w : World) :
    Calls Tryz.prog 65 #[.slice none n c, .int .u8 cv] w fun e w' => e = .returned (.int .i64 (-1)) ∧ w' = w := by
  go_enter Tryz.func65, Tryz.ntmps65
  go_wp2
  rw [run_callFunc_extern Tryz.func85 (by kernel_rfl) (by kernel_rfl) (by kernel_rfl) (e := Extern.BytealgIndexByte.indexByte) (by kernel_rfl), Lib.run_indexByteNil w _ _ cv]
  simp only [Result.andThen]
  rw [Oper.upon_value]
  go_wp2
  go_ret
  exact ⟨rfl, rfl⟩
set_option maxHeartbeats 2000000 in
set_option maxRecDepth 1000000 in
theorem bytes_Index_one_none (c b2 o2 d : Nat) (cv : Int) (w : World) (hc2 : w.cell? ⟨b2, o2, none⟩ = some (.int .u8 cv)) :
    Calls Tryz.prog 121 #[.slice none 0 c, .slice (some ⟨b2, o2, none⟩) 1 d] w fun e w' => e = .returned (.int .i64 (-1)) ∧ w' = w := by
  go_enter Tryz.func121, Tryz.ntmps121
  go_wp2_with (go_at_call 65; refine (bytes_IndexByte_none _ _ rfl _ _).mono ?_; rintro e w' ⟨rfl, rfl⟩)
  go_ret
  exact ⟨rfl, rfl⟩
def bytes_Index.f (l s : List Int) : Option Int :=
  match s with
  | [cv] => some (Lib.indexByte (Lib.bytesOf l) cv.toNat.toUInt8)
  | _ => none
theorem bytes_Index.calls (A0 : Option Addr) (c0 : Nat) (l0 : List Int) (A1 : Option Addr) (c1 : Nat) (l1 : List Int) (r : Int) (w : World) (hr0 : Kd.C (Kd.int .u8) w A0 l0.length l0) (hc0 : l0.length ≤ c0) (hr1 : Kd.C (Kd.int .u8) w A1 l1.length l1) (hc1 : l1.length ≤ c1) (h : bytes_Index.f l0 l1 = some r) :
    Calls Tryz.prog 121 #[.slice A0 l0.length c0, .slice A1 l1.length c1] w fun e w' => e = .returned (.int .i64 r) ∧ Below w.heap.size w w' := by
  unfold bytes_Index.f at h
  split at h
  · rename_i cv
    obtain rfl := Option.some.inj h
    obtain ⟨b2, o2, rfl, h2⟩ := bytes_one hr1 rfl
    rcases A0 with _ | ad
    · have h0 : l0 = [] := by
        rcases Nat.eq_zero_or_pos l0.length with h0 | h0
        · exact List.eq_nil_of_length_eq_zero h0
        · obtain ⟨ad, he, _⟩ := bytes_cells hr0 h0
          cases he
      subst h0
      exact (bytes_Index_one_none c0 b2 o2 c1 cv w h2).mono fun e w' ⟨he, hw⟩ => ⟨he, hw ▸ Below.refl _ _⟩
    · refine (Tryz.bytes_Index_one_at ad l0.length c0 b2 o2 c1 l0 cv w rfl (fun i hi => ?_) h2).mono fun e w' ⟨he, hw⟩ => ⟨he, hw ▸ Below.refl _ _⟩
      obtain ⟨ad', he, hc⟩ := bytes_cells hr0 (by omega)
      obtain rfl := Option.some.inj he
      exact hc i hi
  · cases h

set_option maxHeartbeats 2000000 in
set_option maxRecDepth 1000000 in
theorem bytes_Count_one_none (c b2 o2 d : Nat) (cv : Int) (w : World) (hc2 : w.cell? ⟨b2, o2, none⟩ = some (.int .u8 cv)) :
    Calls Tryz.prog 120 #[.slice none 0 c, .slice (some ⟨b2, o2, none⟩) 1 d] w fun e w' => e = .returned (.int .i64 0) ∧ w' = w := by
  go_enter Tryz.func120, Tryz.ntmps120
  go_wp2
  rw [run_callFunc_extern Tryz.func131 (by kernel_rfl) (by kernel_rfl) (by kernel_rfl) (e := Extern.BytealgCount.count) (by kernel_rfl), Lib.run_countNil w _ _ cv]
  simp only [Result.andThen]
  rw [Oper.upon_value]
  go_wp2
  go_ret
  exact ⟨rfl, rfl⟩
def bytes_Count.f (l s : List Int) : Option Int :=
  match s with
  | [cv] => some (Lib.countByte (Lib.bytesOf l) cv.toNat.toUInt8)
  | _ => none
theorem bytes_Count.calls (A0 : Option Addr) (c0 : Nat) (l0 : List Int) (A1 : Option Addr) (c1 : Nat) (l1 : List Int) (r : Int) (w : World) (hr0 : Kd.C (Kd.int .u8) w A0 l0.length l0) (hc0 : l0.length ≤ c0) (hr1 : Kd.C (Kd.int .u8) w A1 l1.length l1) (hc1 : l1.length ≤ c1) (h : bytes_Count.f l0 l1 = some r) :
    Calls Tryz.prog 120 #[.slice A0 l0.length c0, .slice A1 l1.length c1] w fun e w' => e = .returned (.int .i64 r) ∧ Below w.heap.size w w' := by
  unfold bytes_Count.f at h
  split at h
  · rename_i cv
    obtain rfl := Option.some.inj h
    obtain ⟨b2, o2, rfl, h2⟩ := bytes_one hr1 rfl
    rcases A0 with _ | ad
    · have h0 : l0 = [] := by
        rcases Nat.eq_zero_or_pos l0.length with h0 | h0
        · exact List.eq_nil_of_length_eq_zero h0
        · obtain ⟨ad, he, _⟩ := bytes_cells hr0 h0
          cases he
      subst h0
      exact (bytes_Count_one_none c0 b2 o2 c1 cv w h2).mono fun e w' ⟨he, hw⟩ => ⟨he, hw ▸ Below.refl _ _⟩
    · refine (Tryz.bytes_Count_one_at ad l0.length c0 b2 o2 c1 l0 cv w rfl (fun i hi => ?_) h2).mono fun e w' ⟨he, hw⟩ => ⟨he, hw ▸ Below.refl _ _⟩
      obtain ⟨ad', he, hc⟩ := bytes_cells hr0 (by omega)
      obtain rfl := Option.some.inj he
      exact hc i hi
  · cases h

def bytes_IndexByte.f (l : List Int) (cv : Int) : Option Int := some (Lib.indexByte (Lib.bytesOf l) cv.toNat.toUInt8)
theorem bytes_IndexByte.calls (A0 : Option Addr) (c0 : Nat) (l0 : List Int) (a1 : Int) (r : Int) (w : World) (hr0 : Kd.C (Kd.int .u8) w A0 l0.length l0) (_ : l0.length ≤ c0) (h : bytes_IndexByte.f l0 a1 = some r) :
    Calls Tryz.prog 65 #[.slice A0 l0.length c0, .int .u8 a1] w fun e w' => e = .returned (.int .i64 r) ∧ Below w.heap.size w w' := by
  obtain rfl := Option.some.inj h
  rcases A0 with _ | ad
  · have h0 : l0 = [] := by
      rcases Nat.eq_zero_or_pos l0.length with h0 | h0
      · exact List.eq_nil_of_length_eq_zero h0
      · obtain ⟨ad, he, _⟩ := bytes_cells hr0 h0
        cases he
    subst h0
    exact (bytes_IndexByte_none 0 c0 rfl a1 w).mono fun e w' ⟨he, hw⟩ => ⟨he, hw ▸ Below.refl _ _⟩
  · refine (Tryz.bytes_IndexByte_at ad l0.length c0 l0 a1 w rfl (fun i hi => ?_)).mono fun e w' ⟨he, hw⟩ => ⟨he, hw ▸ Below.refl _ _⟩
    obtain ⟨ad', he, hc⟩ := bytes_cells hr0 (by omega)
    obtain rfl := Option.some.inj he
    exact hc i hi

def strings_Index.f (s sub : ByteArray) : Option Int :=
  match sub.data.toList with
  | [c] => some (Lib.indexByte s.data.toList c)
  | _ => none
theorem strings_Index.calls (a0 a1 : ByteArray) (r : Int) (w : World) (h : strings_Index.f a0 a1 = some r) :
    Calls Tryz.prog 78 #[.string a0, .string a1] w fun e w' => e = .returned (.int .i64 r) ∧ Below w.heap.size w w' := by
  unfold strings_Index.f at h
  split at h
  · rename_i c hc
    obtain rfl := Option.some.inj h
    obtain rfl : a1 = ⟨#[c]⟩ := by
      rcases a1 with ⟨⟨l⟩⟩
      exact congrArg (fun l => ByteArray.mk ⟨l⟩) hc
    exact (Tryz.strings_Index_one a0 c w).mono fun e w' ⟨he, hw⟩ => ⟨he, hw ▸ Below.refl _ _⟩
  · cases h
def strings_Count.f (s sub : ByteArray) : Option Int :=
  match sub.data.toList with
  | [c] => some (Lib.countByte s.data.toList c)
  | _ => none
theorem strings_Count.calls (a0 a1 : ByteArray) (r : Int) (w : World) (h : strings_Count.f a0 a1 = some r) :
    Calls Tryz.prog 77 #[.string a0, .string a1] w fun e w' => e = .returned (.int .i64 r) ∧ Below w.heap.size w w' := by
  unfold strings_Count.f at h
  split at h
  · rename_i c hc
    obtain rfl := Option.some.inj h
    obtain rfl : a1 = ⟨#[c]⟩ := by
      rcases a1 with ⟨⟨l⟩⟩
      exact congrArg (fun l => ByteArray.mk ⟨l⟩) hc
    exact (Tryz.strings_Count_one a0 c w).mono fun e w' ⟨he, hw⟩ => ⟨he, hw ▸ Below.refl _ _⟩
  · cases h
def strings_explode.f (_ : ByteArray) (_ : Int) : Option (List ByteArray) := none
theorem strings_explode.calls (a0 : ByteArray) (a1 : Int) (r : List ByteArray) (w : World) (h : strings_explode.f a0 a1 = some r) :
    Calls Tryz.prog 76 #[.string a0, .int .i64 a1] w fun e w' => ∃ v0_ : Value, e = .returned v0_ ∧ Kd.R Kd.string 9 w' w.heap.size (fun _ => True) v0_ r ∧ Below w.heap.size w w' := by cases h
end Go.Proofs.YtfabaenfglionaaGreatDoor
