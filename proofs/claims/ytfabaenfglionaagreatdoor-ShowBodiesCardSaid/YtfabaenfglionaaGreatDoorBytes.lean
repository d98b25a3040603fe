/- Rows of bytes as the printed contracts tell them, and their cells. -/
import Derived.Test.YtfabaenfglionaaGreatDoorAux
import Derived.Test.YtfabaenfglionaaGreatDoorShelf
import Derived.Shelf.Bytes.SlSmallAll
namespace Go.Proofs.YtfabaenfglionaaGreatDoor
open Go.RowKit Go.Proofs.YtfabaenfglionaaGreatDoorW.PrintWords Go.Proofs.YtfabaenfglionaaGreatDoorW.PrintLast Go.Proofs.YtfabaenfglionaaGreatDoorW.PrintMore

theorem bytes_cells {w : World} {A : Option Addr} {n : Nat} {l : List Int} (h : Kd.C (Kd.int .u8) w A n l) (hn : 0 < n) :
    ∃ ad, A = some ad ∧ ∀ i, i < n → w.cell? (ad.add i) = some (.int .u8 (l.getD i 0)) := (Kd.reads_of_C (d := (0 : Int)) h).2.2 hn
theorem bytes_in {w : World} {A : Option Addr} {n : Nat} {l : List Int} (h : Kd.C (Kd.int .u8) w A n l) : Lib.BytesIn w A n l := by
  intro hn
  obtain ⟨ad, rfl, hc⟩ := bytes_cells h hn
  exact Lib.BytesIn.of_cells hc hn
theorem bytes_one {w : World} {A : Option Addr} {l : List Int} {cv : Int} (h : Kd.C (Kd.int .u8) w A l.length l) (hl : l = [cv]) :
    ∃ b o, A = some ⟨b, o, none⟩ ∧ w.cell? ⟨b, o, none⟩ = some (.int .u8 cv) := by
  subst hl
  obtain ⟨b, o, rfl, hc⟩ := bytes_in h (by simp)
  exact ⟨b, o, rfl, by simpa using hc 0 (by simp)⟩
end Go.Proofs.YtfabaenfglionaaGreatDoor
