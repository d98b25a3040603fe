/- strings.ContainsAny of a text of one byte, of strings.Trim and stringslite.Index, in the printed walks' form. -/
import Derived.Shelf.Strings.SlTrimAscii
import Derived.Lib.OthersKept
import Derived.Test.YtfabaenfglionaaGreatDoorAux
import Derived.Test.YtfabaenfglionaaGreatDoorShelf
namespace Go.Proofs.YtfabaenfglionaaGreatDoor
open Go.RowKit Go.Proofs.YtfabaenfglionaaGreatDoorW.PrintWords Go.Proofs.YtfabaenfglionaaGreatDoorW.PrintLast Go.Proofs.YtfabaenfglionaaGreatDoorW.PrintMore

def asciiB (s : ByteArray) : Bool := s.data.toList.all fun b => decide (b.toNat < 128)
theorem asciiB_at {s : ByteArray} (h : asciiB s = true) (j : Nat) (b : UInt8) (hj : s.data.toList[j]? = some b) : b.toNat < 128 :=
  of_decide_eq_true (List.all_eq_true.1 h b (List.mem_of_getElem? hj))
set_option maxHeartbeats 8000000 in
set_option maxRecDepth 1000000 in
theorem IndexRune_fault (s : ByteArray) (w : World) (hascii : asciiB s = true) :
    Calls Tryz.prog 135 #[.string s, .int .i32 65533] w fun e w' => e = .returned (.int .i64 (-1)) ∧ ∃ pos, w' = w.iter s pos := by
  have HA : Aside (∀ (j : Nat) b, s.data.toList[j]? = some b → b.toNat < 128) := asciiB_at hascii
  clear hascii
  go_enter Tryz.func135, Tryz.ntmps135
  go_wp2
  go_loopg [5, 6] s.size (fun g _ _ wx => ∃ i : Nat, i + g = s.size ∧ wx = w.iter s i)
  case atStart => exact ⟨0, by omega, rfl⟩
  case round =>
    obtain ⟨i, hig, rfl⟩ := hrel
    cases gk with
    | zero =>
      obtain rfl : i = s.size := by omega
      have hnx := run_next_end (P := Tryz.prog) w s s.size
      go_wp2
      go_ret
      exact ⟨rfl, _, rfl⟩
    | succ g =>
      have hi : i < s.size := by omega
      obtain ⟨x, hx⟩ : ∃ x : UInt8, s[i]'hi = x := ⟨_, rfl⟩
      have hxl : s.data.toList[i]? = some x := by rw [← hx]; exact Lib.data_getElem? s i hi
      have hx128 : x.toNat < 128 := HA.out i x hxl
      have hnx := fun ty => run_next_ascii (P := Tryz.prog) w s i ty hi (by rw [hx]; exact hx128)
      rw [hx] at hnx
      clear hxl hx
      have hne : ((x.toNat : Int) == 65533) = false := beq_eq_false_iff_ne.2 (by omega)
      go_wp2
      go_roundg g
      case measure => omega
      case rel => exact ⟨i + 1, by omega, rfl⟩

theorem iter_old (w : World) (s t : ByteArray) (p : Nat) : ((w.iter s 1).iter t p).heap[w.heap.size]? = some (.stringIter s 1) := by
  have h1 : (w.iter s 1).heap.size = w.heap.size + 1 := by simp [World.iter]
  have := World.iter_heap w s 1
  rw [← this]
  show ((w.iter s 1).heap.push _)[w.heap.size]? = _
  rw [Array.getElem?_push]
  rw [if_neg (by omega)]

theorem decode_bad (s : ByteArray) (h1 : s.size = 1) (ha : 128 ≤ (s[0]'(by omega)).toNat) : Utf8.decode s 0 = (65533, 1) := by
  have hn : ¬ (s[0]'(by omega)).toNat < 128 := by omega
  simp only [Utf8.decode, get_at s 0 (by omega), hn, if_false, h1]
  simp [Utf8.runeError]

set_option maxHeartbeats 8000000 in
set_option maxRecDepth 1000000 in
theorem IndexAny_bad (s chars : ByteArray) (w : World) (h1 : s.size = 1) (ha : 128 ≤ (s[0]'(by omega)).toNat) (h2 : 2 ≤ chars.size) (hc : asciiB chars = true) :
    Calls Tryz.prog 134 #[.string s, .string chars] w fun e w' => e = .returned (.int .i64 (-1)) ∧ Below w.heap.size w w' := by
  have hemp : chars.toList.isEmpty = false := by
    rw [Lib.toList_data]
    cases h : chars.data.toList with
    | nil => have := Lib.size_eq chars; rw [h, List.length_nil] at this; omega
    | cons _ _ => rfl
  have hn1 : ((chars.size : Int) == 1) = false := beq_eq_false_iff_ne.2 (by omega)
  have h8z : decide ((8 : Int) < (s.size : Int)) = false := decide_eq_false (by omega)
  have HD : Aside (Utf8.decode s 0 = (65533, 1)) := decode_bad s h1 ha
  have hnx := fun ty => run_next_any (P := Tryz.prog) w s 0 ty (by omega)
  simp only [HD.out] at hnx
  have HS : Aside (s.size = 1) := h1
  clear ha h1
  go_enter Tryz.func134, Tryz.ntmps134
  go_wp2_with (go_at_call 139; refine (Tryz.strings_shouldUseASCIISet _ _).mono ?_; rintro e w' ⟨rfl, hw⟩; rw [hw, h8z])
  go_loopg [9, 10] 1 (fun g _ _ wx => (g = 1 ∧ wx = w.iter s 0) ∨ (g = 0 ∧ ∃ p, wx = ((w.iter s 1).iter chars p : World)))
  case atStart => exact .inl ⟨rfl, rfl⟩
  case round =>
    rcases hrel with ⟨rfl, rfl⟩ | ⟨rfl, p, rfl⟩
    · go_wp2_with (go_at_call 135; refine (IndexRune_fault _ _ hc).mono ?_; rintro e w' ⟨rfl, p, hw⟩; rw [hw])
      go_roundg 0
      case measure => omega
      case rel => exact .inr ⟨rfl, p, rfl⟩
    · have hnx2 := fun ty => Go.Lib.run_next_end_at (P := Tryz.prog) ((w.iter s 1).iter chars p) w.heap.size s 1 ty (iter_old w s chars p) (by have := HS.out; omega)
      go_wp2
      go_ret
      exact ⟨rfl, below_alloc (below_alloc (Below.refl _ _) _) _⟩
theorem ContainsAny_bad (s chars : ByteArray) (w : World) (h1 : s.size = 1) (ha : 128 ≤ (s[0]'(by omega)).toNat) (h2 : 2 ≤ chars.size) (hc : asciiB chars = true) :
    Calls Tryz.prog 122 #[.string s, .string chars] w fun e w' => e = .returned (.bool false) ∧ Below w.heap.size w w' := by
  go_enter Tryz.func122, Tryz.ntmps122
  go_wp2_with (go_at_call 134; refine (IndexAny_bad s chars w h1 ha h2 hc).mono ?_; rintro e w' ⟨rfl, hb⟩)
  go_ret
  exact ⟨rfl, hb⟩

def strings_ContainsAny.f (s cs : ByteArray) : Option Bool :=
  if asciiB cs = true ∧ 2 ≤ cs.size ∧ cs.size < 100 then
    if s.size < 1000 ∧ asciiB s = true then some (Lib.containsAny s.data.toList cs.data.toList)
    else if s.size = 1 then some false else none
  else none
theorem strings_ContainsAny.calls (a0 a1 : ByteArray) (r : Bool) (w : World) (h : strings_ContainsAny.f a0 a1 = some r) :
    Calls Tryz.prog 122 #[.string a0, .string a1] w fun e w' => e = .returned (.bool r) ∧ Below w.heap.size w w' := by
  unfold strings_ContainsAny.f at h
  split at h
  · rename_i hc
    split at h
    · rename_i ha
      obtain rfl := Option.some.inj h
      exact Tryz.strings_ContainsAny_laid a0 a1 w (by omega) (by omega) (asciiB_at ha.2) (asciiB_at hc.1)
    · rename_i hn
      split at h
      · rename_i h1
        obtain rfl := Option.some.inj h
        refine ContainsAny_bad a0 a1 w h1 ?_ hc.2.1 hc.1
        refine Nat.le_of_not_lt fun hlt => hn ⟨by omega, ?_⟩
        refine List.all_eq_true.2 fun b hb => ?_
        have hl : a0.data.toList.length = 1 := by rw [← Lib.size_eq]; exact h1
        obtain ⟨j, hj, rfl⟩ := List.mem_iff_getElem.1 hb
        obtain rfl : j = 0 := by omega
        exact decide_eq_true hlt
      · cases h
  · cases h

def strings_Trim.f (s cs : ByteArray) : Option ByteArray :=
  if s.size ≤ 9223372036854775807 ∧ cs.size < 100 ∧ asciiB cs = true then some ⟨(Lib.trimS s.data.toList cs.data.toList).toArray⟩ else none
theorem strings_Trim.calls (a0 a1 : ByteArray) (r : ByteArray) (w : World) (h : strings_Trim.f a0 a1 = some r) :
    Calls Tryz.prog 84 #[.string a0, .string a1] w fun e w' => e = .returned (.string r) ∧ Below w.heap.size w w' := by
  unfold strings_Trim.f at h
  split at h
  · rename_i hc
    obtain rfl := Option.some.inj h
    exact Any.strings_Trim_laid Tryz.lays160 (by kernel_rfl) a0 a1 w hc.1 (by omega) (asciiB_at hc.2.2)
  · cases h

def stringslite_Index.f (s sub : ByteArray) : Option Int :=
  match sub.data.toList with
  | [c] => some (Lib.indexByte s.data.toList c)
  | _ => none
theorem stringslite_Index.calls (a0 a1 : ByteArray) (r : Int) (w : World) (h : stringslite_Index.f a0 a1 = some r) :
    Calls Tryz.prog 97 #[.string a0, .string a1] w fun e w' => e = .returned (.int .i64 r) ∧ Below w.heap.size w w' := by
  unfold stringslite_Index.f at h
  split at h
  · rename_i c hc
    obtain rfl := Option.some.inj h
    obtain rfl : a1 = ⟨#[c]⟩ := by
      rcases a1 with ⟨⟨l⟩⟩
      exact congrArg (fun l => ByteArray.mk ⟨l⟩) hc
    exact (Tryz.stringslite_Index_one a0 c w).mono fun e w' ⟨he, hw⟩ => ⟨he, hw ▸ Below.refl _ _⟩
  · cases h
end Go.Proofs.YtfabaenfglionaaGreatDoor
