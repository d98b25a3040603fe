/- mime.small, show.small and letterboxref9.Low, by hand: its row is made out of a text, and written. -/
import Derived.Test.YtfabaenfglionaaGreatDoorBytes
import Derived.Test.YtfabaenfglionaaGreatDoorShelf
namespace Go.Proofs.YtfabaenfglionaaGreatDoor
open Go.RowKit Go.Proofs.YtfabaenfglionaaGreatDoorW.PrintWords Go.Proofs.YtfabaenfglionaaGreatDoorW.PrintLast Go.Proofs.YtfabaenfglionaaGreatDoorW.PrintMore

def lowI (c : Int) : Int := if 65 ≤ c ∧ c ≤ 90 then c + 32 else c
def lowB (s : ByteArray) : ByteArray := strOfNums ((bytesOf s).map lowI)
def lowAt (l : List Int) (i : Nat) : List Int := (l.take i).map lowI ++ l.drop i
theorem lowAt_length (l : List Int) (i : Nat) (h : i ≤ l.length) : (lowAt l i).length = l.length := by
  simp [lowAt]
  omega
structure LowIn (w wx : World) (l : List Int) : Prop where
  below : Below w.heap.size w wx
  cells : ∀ j, j < l.length → wx.cell? ⟨w.heap.size, j, none⟩ = some (.int .u8 (l.getD j 0))
  thaw : ∀ j, j < l.length → wx.frozen? ⟨w.heap.size, j, none⟩ = false
theorem LowIn.start (w : World) (e : TypeId) (s : ByteArray) : LowIn w (Lib.bytesWorld w e s) (bytesOf s) := by
  have hl := bytesOf_length s
  refine ⟨?_, fun j hj => ?_, fun j hj => ?_⟩
  · have hsize := Lib.bytesWorld_size w e s
    exact ⟨rfl, rfl, rfl, by rw [hsize]; omega, fun k hk => Lib.bytesWorld_at_old w e s k hk⟩
  · rw [Lib.bytesWorld_cell w e s j (by omega)]
    rw [List.getD_eq_getElem?_getD, List.getD_eq_getElem?_getD]
    unfold bytesOf
    rw [List.getElem?_map, List.getElem?_eq_getElem (by rw [← Lib.size_eq]; omega)]
    rfl
  · have hc : s.size ≤ (Lib.bytesCells w e s).size := by
      simp [Lib.bytesCells]
    simp only [World.frozen?, Lib.bytesWorld_at_new, Bool.and_eq_false_imp, decide_eq_true_eq]
    intro h
    omega
theorem LowIn.set {w wx : World} {l : List Int} (h : LowIn w wx l) (i : Nat) (hi : i < l.length) (n : Int) : LowIn w (wx.setCell ⟨w.heap.size, i, none⟩ (.int .u8 n)) (l.set i n) := by
  refine ⟨below_set h.below (Nat.le_refl _), fun j hj => ?_, fun j hj => ?_⟩
  · rw [List.length_set] at hj
    rcases Nat.decEq i j with hne | rfl
    · rw [World.cell?_setCell_other _ _ _ _ (by intro hx; injection hx with _ hx; omega), h.cells j hj]
      simp [List.getD_eq_getElem?_getD, List.getElem?_set_ne hne]
    · rw [World.cell?_setCell_same _ _ _ (h.cells i hi)]
      simp [List.getD_eq_getElem?_getD, List.getElem?_set_self hi]
  · rw [List.length_set] at hj
    rw [World.frozen?_setCell]
    exact h.thaw j hj
theorem LowIn.C {w wx : World} {l : List Int} (h : LowIn w wx l) (hb : l.length ≤ 9223372036854775807) : Kd.C (Kd.int .u8) wx (some ⟨w.heap.size, 0, none⟩) l.length l := by
  refine ⟨rfl, hb, fun _ => ⟨_, rfl, fun j p hj => ⟨[.int .u8 p], rfl, rfl, fun i u hu => ?_⟩⟩⟩
  obtain rfl : i = 0 := by
    rcases i with _ | i
    · rfl
    · simp at hu
  obtain rfl : Value.int .u8 p = u := by simpa using hu
  have hjl := (List.getElem?_eq_some_iff.1 hj).1
  have hsz : (Kd.int .u8).sz = 1 := rfl
  rw [hsz, Nat.mul_one, Nat.add_zero, add_plain, h.cells j hjl, List.getD_eq_getElem?_getD, hj]
  rfl
theorem lowAt_succ_same (l : List Int) (i : Nat) (h : i < l.length) (hx : lowI (l.getD i 0) = l.getD i 0) : lowAt l (i + 1) = lowAt l i := by
  have hg : l.getD i 0 = l[i] := by simp [List.getD_eq_getElem?_getD, h]
  rw [hg] at hx
  unfold lowAt
  rw [List.take_succ_eq_append_getElem h, List.map_append, List.append_assoc, List.drop_eq_getElem_cons h, List.map_singleton, hx]
  rfl
theorem lowAt_succ_set (l : List Int) (i : Nat) (h : i < l.length) : lowAt l (i + 1) = (lowAt l i).set i (lowI (l.getD i 0)) := by
  have hg : l.getD i 0 = l[i] := by simp [List.getD_eq_getElem?_getD, h]
  rw [hg]
  unfold lowAt
  have hl : ((l.take i).map lowI).length = i := by simp; omega
  rw [List.take_succ_eq_append_getElem h, List.map_append, List.append_assoc, List.drop_eq_getElem_cons h, List.map_singleton, List.set_append_right _ _ (by omega), hl, Nat.sub_self]
  rfl
theorem lowAt_getD (l : List Int) (i : Nat) (h : i < l.length) : (lowAt l i).getD i 0 = l.getD i 0 := by
  unfold lowAt
  have hl : ((l.take i).map lowI).length = i := by simp; omega
  rw [List.getD_eq_getElem?_getD, List.getD_eq_getElem?_getD, List.getElem?_append_right (by omega), hl, Nat.sub_self, List.getElem?_drop]
  rfl

theorem bytesOf_range (s : ByteArray) (i : Nat) : 0 ≤ (bytesOf s).getD i 0 ∧ (bytesOf s).getD i 0 < 256 := by
  unfold bytesOf
  rw [List.getD_eq_getElem?_getD, List.getElem?_map]
  rcases s.data.toList[i]? with _ | b
  · simp
  · have := UInt8.toNat_lt b
    simp
    omega
theorem u8_small (n : Int) (h0 : 0 ≤ n) (h1 : n < 256) : IntKind.u8.wrap n = n := by
  simp [IntKind.wrap, IntKind.bits, IntKind.signed]
  omega

def mime_small.f (s : ByteArray) : Option ByteArray := if s.size ≤ 9223372036854775807 then some (lowB s) else none

set_option maxHeartbeats 8000000 in
set_option maxRecDepth 1000000 in
theorem mime_small.calls (a0 : ByteArray) (r : ByteArray) (w : World) (h : mime_small.f a0 = some r) :
    Calls Tryz.prog 83 #[.string a0] w fun e w' => e = .returned (.string r) ∧ Below w.heap.size w w' := by
  unfold mime_small.f at h
  split at h
  case isFalse => cases h
  rename_i hb
  obtain rfl := Option.some.inj h
  have HB : Aside (a0.size ≤ 9223372036854775807) := hb
  have HL : Aside ((bytesOf a0).length = a0.size) := bytesOf_length a0
  clear h hb
  have hconv := Lib.run_convert_string_bytes w 9 34 5 a0 Tryz.underlying9 Tryz.underlying34 Tryz.underlying5
  have HS := Aside0.mk (LowIn.start w 5 a0)
  generalize hwx : Lib.bytesWorld w 5 a0 = wx at hconv HS
  generalize hcap : grownCap w a0.size 0 5 = cap at hconv
  clear hwx hcap
  go_enter Tryz.func83, Tryz.ntmps83
  go_wp2
  go_loopg [10, 4, 5] a0.size (fun g u10 _ _ wz => ∃ i : Nat, i + g = a0.size ∧ u10 = .int .i64 i ∧ LowIn w wz (lowAt (bytesOf a0) i))
  case atStart => exact ⟨0, by omega, rfl, by simpa [lowAt] using HS.out⟩
  case round =>
    obtain ⟨i, hig, rfl, hin⟩ := hrel
    clear hconv HS
    have HI := Aside0.mk hin
    clear hin
    have hll : (lowAt (bytesOf a0) i).length = a0.size := by rw [lowAt_length _ _ (by rw [HL.out]; omega), HL.out]
    cases gk with
    | zero =>
      obtain rfl : i = a0.size := by omega
      have hC := HI.out.C (by have := HB.out; omega)
      rw [hll] at hC
      have hback := fun c => Kd.C_string (P := Tryz.prog) (src := 34) (dst := 9) (c := c) Tryz.underlying34 Tryz.underlying5 Tryz.underlying9 hC
      have he : strOfNums (lowAt (bytesOf a0) a0.size) = lowB a0 := by
        unfold lowB lowAt
        rw [← HL.out, List.take_length, List.drop_length, List.append_nil]
      rw [he] at hback
      have HBe := Aside0.mk HI.out.below
      clear hC HI he
      go_wp2
      go_ret
      exact ⟨rfl, HBe.out⟩
    | succ g =>
      have hi : i < a0.size := by omega
      have hcell := HI.out.cells i (by omega)
      have hthaw := HI.out.thaw i (by omega)
      rw [lowAt_getD _ _ (by rw [HL.out]; omega)] at hcell
      obtain ⟨c, hc⟩ : ∃ c : Int, (bytesOf a0).getD i 0 = c := ⟨_, rfl⟩
      have hcr : 0 ≤ c ∧ c < 256 := by
        rw [← hc]
        exact bytesOf_range a0 i
      rw [hc] at hcell
      have hi64 : i < 9223372036854775807 := by have := HB.out; omega
      by_cases hup : 65 ≤ c ∧ c ≤ 90
      · obtain ⟨hup1, hup2⟩ := hup
        have hw97 : IntKind.u8.wrap (c + 97) = c + 97 := by
          exact u8_small _ (by omega) (by omega)
        have hw32 : IntKind.u8.wrap (c + 97 - 65) = c + 32 := by
          rw [u8_small _ (by omega) (by omega)]
          omega
        have HNX := Aside0.mk (HI.out.set i (by omega) (c + 32))
        rw [show (lowAt (bytesOf a0) i).set i (c + 32) = lowAt (bytesOf a0) (i + 1) from by rw [lowAt_succ_set _ _ (by rw [HL.out]; omega), hc, lowI, if_pos ⟨hup1, hup2⟩]] at HNX
        clear HI hll hc
        go_wp2
        go_roundg g
        case measure => omega
        case rel => exact ⟨i + 1, by omega, by simp, HNX.out⟩
      · have HNX := Aside0.mk HI.out
        rw [← lowAt_succ_same _ _ (by rw [HL.out]; omega) (by rw [hc, lowI, if_neg hup])] at HNX
        clear HI hll hc
        by_cases h65 : 65 ≤ c
        · have h90 : ¬ c ≤ 90 := fun h => hup ⟨h65, h⟩
          clear hup
          go_wp2
          go_roundg g
          case measure => omega
          case rel => exact ⟨i + 1, by omega, by simp, HNX.out⟩
        · clear hup
          go_wp2
          go_roundg g
          case measure => omega
          case rel => exact ⟨i + 1, by omega, by simp, HNX.out⟩

def show_small.f (s : ByteArray) : Option ByteArray := if s.size ≤ 9223372036854775807 then some (lowB s) else none

set_option maxHeartbeats 8000000 in
set_option maxRecDepth 1000000 in
theorem show_small.calls (a0 : ByteArray) (r : ByteArray) (w : World) (h : show_small.f a0 = some r) :
    Calls Tryz.prog 24 #[.string a0] w fun e w' => e = .returned (.string r) ∧ Below w.heap.size w w' := by
  unfold show_small.f at h
  split at h
  case isFalse => cases h
  rename_i hb
  obtain rfl := Option.some.inj h
  have HB : Aside (a0.size ≤ 9223372036854775807) := hb
  have HL : Aside ((bytesOf a0).length = a0.size) := bytesOf_length a0
  clear h hb
  have hconv := Lib.run_convert_string_bytes w 9 34 5 a0 Tryz.underlying9 Tryz.underlying34 Tryz.underlying5
  have HS := Aside0.mk (LowIn.start w 5 a0)
  generalize hwx : Lib.bytesWorld w 5 a0 = wx at hconv HS
  generalize hcap : grownCap w a0.size 0 5 = cap at hconv
  clear hwx hcap
  go_enter Tryz.func24, Tryz.ntmps24
  go_wp2
  go_loopg [10, 4, 5] a0.size (fun g u10 _ _ wz => ∃ i : Nat, i + g = a0.size ∧ u10 = .int .i64 i ∧ LowIn w wz (lowAt (bytesOf a0) i))
  case atStart => exact ⟨0, by omega, rfl, by simpa [lowAt] using HS.out⟩
  case round =>
    obtain ⟨i, hig, rfl, hin⟩ := hrel
    clear hconv HS
    have HI := Aside0.mk hin
    clear hin
    have hll : (lowAt (bytesOf a0) i).length = a0.size := by rw [lowAt_length _ _ (by rw [HL.out]; omega), HL.out]
    cases gk with
    | zero =>
      obtain rfl : i = a0.size := by omega
      have hC := HI.out.C (by have := HB.out; omega)
      rw [hll] at hC
      have hback := fun c => Kd.C_string (P := Tryz.prog) (src := 34) (dst := 9) (c := c) Tryz.underlying34 Tryz.underlying5 Tryz.underlying9 hC
      have he : strOfNums (lowAt (bytesOf a0) a0.size) = lowB a0 := by
        unfold lowB lowAt
        rw [← HL.out, List.take_length, List.drop_length, List.append_nil]
      rw [he] at hback
      have HBe := Aside0.mk HI.out.below
      clear hC HI he
      go_wp2
      go_ret
      exact ⟨rfl, HBe.out⟩
    | succ g =>
      have hi : i < a0.size := by omega
      have hcell := HI.out.cells i (by omega)
      have hthaw := HI.out.thaw i (by omega)
      rw [lowAt_getD _ _ (by rw [HL.out]; omega)] at hcell
      obtain ⟨c, hc⟩ : ∃ c : Int, (bytesOf a0).getD i 0 = c := ⟨_, rfl⟩
      have hcr : 0 ≤ c ∧ c < 256 := by
        rw [← hc]
        exact bytesOf_range a0 i
      rw [hc] at hcell
      have hi64 : i < 9223372036854775807 := by have := HB.out; omega
      by_cases hup : 65 ≤ c ∧ c ≤ 90
      · obtain ⟨hup1, hup2⟩ := hup
        have hw97 : IntKind.u8.wrap (c + 97) = c + 97 := by
          exact u8_small _ (by omega) (by omega)
        have hw32 : IntKind.u8.wrap (c + 97 - 65) = c + 32 := by
          rw [u8_small _ (by omega) (by omega)]
          omega
        have HNX := Aside0.mk (HI.out.set i (by omega) (c + 32))
        rw [show (lowAt (bytesOf a0) i).set i (c + 32) = lowAt (bytesOf a0) (i + 1) from by rw [lowAt_succ_set _ _ (by rw [HL.out]; omega), hc, lowI, if_pos ⟨hup1, hup2⟩]] at HNX
        clear HI hll hc
        go_wp2
        go_roundg g
        case measure => omega
        case rel => exact ⟨i + 1, by omega, by simp, HNX.out⟩
      · have HNX := Aside0.mk HI.out
        rw [← lowAt_succ_same _ _ (by rw [HL.out]; omega) (by rw [hc, lowI, if_neg hup])] at HNX
        clear HI hll hc
        by_cases h65 : 65 ≤ c
        · have h90 : ¬ c ≤ 90 := fun h => hup ⟨h65, h⟩
          clear hup
          go_wp2
          go_roundg g
          case measure => omega
          case rel => exact ⟨i + 1, by omega, by simp, HNX.out⟩
        · clear hup
          go_wp2
          go_roundg g
          case measure => omega
          case rel => exact ⟨i + 1, by omega, by simp, HNX.out⟩

def letterboxref9_Low.f (s : ByteArray) : Option ByteArray := if s.size ≤ 9223372036854775807 then some (lowB s) else none

set_option maxHeartbeats 8000000 in
set_option maxRecDepth 1000000 in
theorem letterboxref9_Low.calls (a0 : ByteArray) (r : ByteArray) (w : World) (h : letterboxref9_Low.f a0 = some r) :
    Calls Tryz.prog 28 #[.string a0] w fun e w' => e = .returned (.string r) ∧ Below w.heap.size w w' := by
  unfold letterboxref9_Low.f at h
  split at h
  case isFalse => cases h
  rename_i hb
  obtain rfl := Option.some.inj h
  have HB : Aside (a0.size ≤ 9223372036854775807) := hb
  have HL : Aside ((bytesOf a0).length = a0.size) := bytesOf_length a0
  clear h hb
  have hconv := Lib.run_convert_string_bytes w 9 34 5 a0 Tryz.underlying9 Tryz.underlying34 Tryz.underlying5
  have HS := Aside0.mk (LowIn.start w 5 a0)
  generalize hwx : Lib.bytesWorld w 5 a0 = wx at hconv HS
  generalize hcap : grownCap w a0.size 0 5 = cap at hconv
  clear hwx hcap
  go_enter Tryz.func28, Tryz.ntmps28
  go_wp2
  go_loopg [4] a0.size (fun g u4 wz => ∃ i : Nat, i + g = a0.size ∧ u4 = .int .i64 i ∧ LowIn w wz (lowAt (bytesOf a0) i))
  case atStart => exact ⟨0, by omega, rfl, by simpa [lowAt] using HS.out⟩
  case round =>
    obtain ⟨i, hig, rfl, hin⟩ := hrel
    clear hconv HS
    have HI := Aside0.mk hin
    clear hin
    have hll : (lowAt (bytesOf a0) i).length = a0.size := by rw [lowAt_length _ _ (by rw [HL.out]; omega), HL.out]
    cases gk with
    | zero =>
      obtain rfl : i = a0.size := by omega
      have hC := HI.out.C (by have := HB.out; omega)
      rw [hll] at hC
      have hback := fun c => Kd.C_string (P := Tryz.prog) (src := 34) (dst := 9) (c := c) Tryz.underlying34 Tryz.underlying5 Tryz.underlying9 hC
      have he : strOfNums (lowAt (bytesOf a0) a0.size) = lowB a0 := by
        unfold lowB lowAt
        rw [← HL.out, List.take_length, List.drop_length, List.append_nil]
      rw [he] at hback
      have HBe := Aside0.mk HI.out.below
      clear hC HI he
      go_wp2
      go_ret
      exact ⟨rfl, HBe.out⟩
    | succ g =>
      have hi : i < a0.size := by omega
      have hcell := HI.out.cells i (by omega)
      have hthaw := HI.out.thaw i (by omega)
      rw [lowAt_getD _ _ (by rw [HL.out]; omega)] at hcell
      obtain ⟨c, hc⟩ : ∃ c : Int, (bytesOf a0).getD i 0 = c := ⟨_, rfl⟩
      have hcr : 0 ≤ c ∧ c < 256 := by
        rw [← hc]
        exact bytesOf_range a0 i
      rw [hc] at hcell
      have hi64 : i < 9223372036854775807 := by have := HB.out; omega
      by_cases hup : 65 ≤ c ∧ c ≤ 90
      · obtain ⟨hup1, hup2⟩ := hup
        have hw32 : IntKind.u8.wrap (c + 32) = c + 32 := by
          exact u8_small _ (by omega) (by omega)
        have HNX := Aside0.mk (HI.out.set i (by omega) (c + 32))
        rw [show (lowAt (bytesOf a0) i).set i (c + 32) = lowAt (bytesOf a0) (i + 1) from by rw [lowAt_succ_set _ _ (by rw [HL.out]; omega), hc, lowI, if_pos ⟨hup1, hup2⟩]] at HNX
        clear HI hll hc
        go_wp2
        go_roundg g
        case measure => omega
        case rel => exact ⟨i + 1, by omega, by simp, HNX.out⟩
      · have HNX := Aside0.mk HI.out
        rw [← lowAt_succ_same _ _ (by rw [HL.out]; omega) (by rw [hc, lowI, if_neg hup])] at HNX
        clear HI hll hc
        by_cases h65 : 65 ≤ c
        · have h90 : ¬ c ≤ 90 := fun h => hup ⟨h65, h⟩
          clear hup
          go_wp2
          go_roundg g
          case measure => omega
          case rel => exact ⟨i + 1, by omega, by simp, HNX.out⟩
        · clear hup
          go_wp2
          go_roundg g
          case measure => omega
          case rel => exact ⟨i + 1, by omega, by simp, HNX.out⟩
end Go.Proofs.YtfabaenfglionaaGreatDoor
