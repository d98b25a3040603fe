/- Plain words used by the seat's texts: slices of strings as the printed contracts tell them, and their cells. -/
import Derived.Test.YthaeijemjlnbaaaDoorWMore
import Derived.Shelf.Strings.OnBuilder
namespace Go.Proofs.YthaeijemjlnbaaaDoor
open Go.RowKit Go.Proofs.YthaeijemjlnbaaaDoorW.PrintWords Go.Proofs.YthaeijemjlnbaaaDoorW.PrintLast Go.Proofs.YthaeijemjlnbaaaDoorW.PrintMore

theorem strings_cells {w : World} {A : Option Addr} {n : Nat} {l : List ByteArray} (h : Kd.C Kd.string w A n l) (hn : 0 < n) :
    ∃ b o, A = some ⟨b, o, none⟩ ∧ b < w.heap.size ∧ ∀ (j : Nat) x, l[j]? = some x → w.cell? ⟨b, o + j, none⟩ = some (.string x) := by
  obtain ⟨hl, _, hc⟩ := h
  obtain ⟨ad, rfl, hc2⟩ := hc hn
  have h0 : ∀ (j : Nat) x, l[j]? = some x → w.cell? (ad.add j) = some (.string x) := by
    intro j x hx
    obtain ⟨c, hs, hr, hcell⟩ := hc2 j x hx
    have hr' : c = [.string x] := hr
    subst hr'
    have := hcell 0 (.string x) rfl
    have e : j * Kd.string.sz + 0 = j := by show j * 1 + 0 = j; omega
    rwa [e] at this
  have h00 := h0 0 (l[0]'(by omega)) (List.getElem?_eq_getElem (by omega))
  have e0 : ad.add 0 = ad := by simp [Addr.add]
  rw [e0] at h00
  have hs := World.cell?_spot h00
  have hb := World.block_lt_of_cell? w ad h00
  obtain ⟨b, o, s⟩ := ad
  obtain rfl : s = none := by simpa using hs
  refine ⟨b, o, rfl, hb, fun j x hx => ?_⟩
  have := h0 j x hx
  unfold Addr.add at this
  split at this
  · rename_i h; subst h; simpa using this
  · exact this
end Go.Proofs.YthaeijemjlnbaaaDoor
