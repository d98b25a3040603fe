/- Rows of texts that are arguments, opened in the printed contracts' words. -/
import Derived.Deep.Strs
import Derived.Test.YtknjokgacafifaaDoorMarkLib
import Derived.Test.YtknjokgacafifaaDoorPx0
namespace Go.Proofs.YtknjokgacafifaaDoor
open Go.RowKit Go.Proofs.YtknjokgacafifaaDoor.P Go.Proofs.YtknjokgacafifaaDoorW.PrintWords Go.Proofs.YtknjokgacafifaaDoorW.PrintLast Go.Proofs.YtknjokgacafifaaDoorW.PrintMore

theorem open_strs {H : Type} {enc : TypeId × Value → H} {W : World} {t e : TypeId} {A : Option Addr} {len cap : Nat} {d : DataW H} {p : List MemPlace} (ht : Tryd.prog.underlying t = some (.slice e)) (he : Tryd.prog.underlying e = some .string) (hce : Tryd.prog.cellsOf e = 1) (h : DataW.Trod enc Tryd.prog W 0 (fun _ => true) true t (.slice A len cap) d p) :
    ∃ l : List ByteArray, l.length = len ∧ Kd.C Kd.string W A l.length l ∧ l.length ≤ cap ∧ l.length ≤ 9223372036854775807 ∧ ∀ s ∈ l, s.size ≤ 9223372036854775807 := by
  obtain ⟨fuel, hf⟩ := h
  rcases Deep.open_strs ht he hce hf with ⟨hcs, _⟩ | ⟨a, len', cap', m, S, hcs, _, hl, hm, hmm, _, hx⟩
  · simp [Value.cells] at hcs
    obtain ⟨rfl, rfl, rfl⟩ := hcs
    exact ⟨[], rfl, ⟨rfl, by simp, fun h => absurd h (by simp)⟩, Nat.le_refl _, by simp, by simp⟩
  · simp [Value.cells] at hcs
    obtain ⟨rfl, rfl, rfl⟩ := hcs
    have hmx : maxLen = 9223372036854775807 := by rfl
    rw [if_pos rfl] at hmm
    have hlen : ((List.range len).map S).length = len := by simp
    refine ⟨(List.range len).map S, hlen, ⟨rfl, by rw [hlen]; omega, fun _ => ⟨a, rfl, fun j x hj => ?_⟩⟩, by rw [hlen]; exact hl, by rw [hlen]; omega, fun r hr => ?_⟩
    · have hjl : j < len := by have := (List.getElem?_eq_some_iff.1 hj).1; rwa [hlen] at this
      have hx0 : S j = x := by
        rw [List.getElem?_map, List.getElem?_range hjl] at hj
        exact Option.some.inj hj
      obtain ⟨h0, -⟩ := hx j (by omega)
      rw [hx0] at h0
      refine ⟨[.string x], rfl, rfl, fun i u hu => ?_⟩
      have hsz : Kd.string.sz = 1 := rfl
      rw [hsz, Nat.mul_one]
      rcases i with _ | i
      · obtain rfl : Value.string x = u := by simpa using hu
        exact h0
      · simp at hu
    · obtain ⟨i, hi, rfl⟩ := List.mem_map.1 hr
      have := (hx i (by have := List.mem_range.1 hi; omega)).2
      omega
theorem laid_of_markNone {W : World} (h : laidMetH Tryd.prog Rows.markNoneRow.laid W) : Laid W := laid_of h (by kernel_rfl) (by simp [Rows.markNoneRow]) (by simp [Rows.markNoneRow])
theorem laid_of_markTells {W : World} (h : laidMetH Tryd.prog Rows.markTellsRow.laid W) : Laid W := laid_of h (by kernel_rfl) (by simp [Rows.markTellsRow]) (by simp [Rows.markTellsRow])
end Go.Proofs.YtknjokgacafifaaDoor
