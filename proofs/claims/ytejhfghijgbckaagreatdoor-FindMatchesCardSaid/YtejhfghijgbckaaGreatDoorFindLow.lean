/- find.small, by hand: its row is made out of a text, and written. -/
import Derived.Test.YtejhfghijgbckaaGreatDoorHeadLow
namespace Go.Proofs.YtejhfghijgbckaaGreatDoor
open Go.RowKit Go.Proofs.YtejhfghijgbckaaGreatDoorW.PrintWords Go.Proofs.YtejhfghijgbckaaGreatDoorW.PrintLast Go.Proofs.YtejhfghijgbckaaGreatDoorW.PrintMore
def find_small.f (s : ByteArray) : Option ByteArray := if s.size ≤ 9223372036854775807 then some (lowB s) else none

set_option maxHeartbeats 8000000 in
set_option maxRecDepth 1000000 in
theorem find_small.calls (a0 : ByteArray) (r : ByteArray) (w : World) (h : find_small.f a0 = some r) :
    Calls Tryz.prog 41 #[.string a0] w fun e w' => e = .returned (.string r) ∧ Below w.heap.size w w' := by
  unfold find_small.f at h
  split at h
  case isFalse => cases h
  rename_i hb
  obtain rfl := Option.some.inj h
  have HB : Aside (a0.size ≤ 9223372036854775807) := hb
  have HL : Aside ((bytesOf a0).length = a0.size) := bytesOf_length a0
  clear h hb
  have hconv := Lib.run_convert_string_bytes w 9 35 5 a0 Tryz.underlying9 Tryz.underlying35 Tryz.underlying5
  have HS := Aside0.mk (LowIn.start w 5 a0)
  generalize hwx : Lib.bytesWorld w 5 a0 = wx at hconv HS
  generalize hcap : grownCap w a0.size 0 5 = cap at hconv
  clear hwx hcap
  go_enter Tryz.func41, Tryz.ntmps41
  go_wp2
  go_loopg [10, 4, 5] a0.size (fun g u10 _ _ wz => ∃ i : Nat, i + g = a0.size ∧ u10 = .int .i64 i ∧ LowIn w wz (lowAt (bytesOf a0) i))
  case atStart => exact ⟨0, by omega, rfl, by simpa [lowAt] using HS.out⟩
  case round =>
    obtain ⟨i, hig, rfl, hin⟩ := hrel
    clear hconv HS
    have HI := Aside0.mk hin
    clear hin
    have hll : (lowAt (bytesOf a0) i).length = a0.size := by rw [lowAt_length _ _ (by rw [HL.out]; omega), HL.out]
    cases gk with
    | zero =>
      obtain rfl : i = a0.size := by omega
      have hC := HI.out.C (by have := HB.out; omega)
      rw [hll] at hC
      have hback := fun c => Kd.C_string (P := Tryz.prog) (src := 35) (dst := 9) (c := c) Tryz.underlying35 Tryz.underlying5 Tryz.underlying9 hC
      have he : strOfNums (lowAt (bytesOf a0) a0.size) = lowB a0 := by
        unfold lowB lowAt
        rw [← HL.out, List.take_length, List.drop_length, List.append_nil]
      rw [he] at hback
      have HBe := Aside0.mk HI.out.below
      clear hC HI he
      go_wp2
      go_ret
      exact ⟨rfl, HBe.out⟩
    | succ g =>
      have hi : i < a0.size := by omega
      have hcell := HI.out.cells i (by omega)
      have hthaw := HI.out.thaw i (by omega)
      rw [lowAt_getD _ _ (by rw [HL.out]; omega)] at hcell
      obtain ⟨c, hc⟩ : ∃ c : Int, (bytesOf a0).getD i 0 = c := ⟨_, rfl⟩
      have hcr : 0 ≤ c ∧ c < 256 := by
        rw [← hc]
        exact bytesOf_range a0 i
      rw [hc] at hcell
      have hi64 : i < 9223372036854775807 := by have := HB.out; omega
      by_cases hup : 65 ≤ c ∧ c ≤ 90
      · obtain ⟨hup1, hup2⟩ := hup
        have hw97 : IntKind.u8.wrap (c + 97) = c + 97 := by
          exact u8_small _ (by omega) (by omega)
        have hw32 : IntKind.u8.wrap (c + 97 - 65) = c + 32 := by
          rw [u8_small _ (by omega) (by omega)]
          omega
        have HNX := Aside0.mk (HI.out.set i (by omega) (c + 32))
        rw [show (lowAt (bytesOf a0) i).set i (c + 32) = lowAt (bytesOf a0) (i + 1) from by rw [lowAt_succ_set _ _ (by rw [HL.out]; omega), hc, lowI, if_pos ⟨hup1, hup2⟩]] at HNX
        clear HI hll hc
        go_wp2
        go_roundg g
        case measure => omega
        case rel => exact ⟨i + 1, by omega, by simp, HNX.out⟩
      · have HNX := Aside0.mk HI.out
        rw [← lowAt_succ_same _ _ (by rw [HL.out]; omega) (by rw [hc, lowI, if_neg hup])] at HNX
        clear HI hll hc
        by_cases h65 : 65 ≤ c
        · have h90 : ¬ c ≤ 90 := fun h => hup ⟨h65, h⟩
          clear hup
          go_wp2
          go_roundg g
          case measure => omega
          case rel => exact ⟨i + 1, by omega, by simp, HNX.out⟩
        · clear hup
          go_wp2
          go_roundg g
          case measure => omega
          case rel => exact ⟨i + 1, by omega, by simp, HNX.out⟩
end Go.Proofs.YtejhfghijgbckaaGreatDoor
