/- Rows of ranges that are arguments, opened in the printed contracts' words. -/
import Derived.Deep.SlicePairs
import Derived.Test.YtdgbllaenkcmbaaDoorPx0
namespace Go.Proofs.YtdgbllaenkcmbaaDoor
open Go.RowKit Go.Proofs.YtdgbllaenkcmbaaDoor.P Go.Proofs.YtdgbllaenkcmbaaDoorW.PrintWords Go.Proofs.YtdgbllaenkcmbaaDoorW.PrintLast Go.Proofs.YtdgbllaenkcmbaaDoorW.PrintMore

instance : Inhabited S32 := ⟨z32⟩
def WfR (r : S32) : Prop := (Lit.int .i64 r.f0).wf = true ∧ (Lit.int .i64 r.f1).wf = true
theorem open_kd_22 {H : Type} {enc : TypeId × Value → H} {W : World} {A : Option Addr} {len cap : Nat} {d : DataW H} {p : List MemPlace} (h : DataW.Trod enc Tryd.prog W 0 (fun _ => true) true 22 (.slice A len cap) d p) :
    ∃ l : List S32, l.length = len ∧ Kd.C k32 W A l.length l ∧ l.length ≤ cap ∧ ∀ r ∈ l, WfR r := by
  obtain ⟨fuel, hf⟩ := h
  rcases Deep.open_slice_pairs Tryd.underlying22 Tryd.underlying32 (by kernel_rfl) rfl rfl (by kernel_rfl) (by kernel_rfl) hf with ⟨hcs, _⟩ | ⟨a, len', cap', m, n, V0, V1, D0, D1, P0, P1, hcs, _, hl, hm, hmm, _, hx⟩
  · simp [Value.cells] at hcs
    obtain ⟨rfl, rfl, rfl⟩ := hcs
    exact ⟨[], rfl, ⟨rfl, by simp, fun h => absurd h (by simp)⟩, Nat.le_refl _, by simp⟩
  · simp [Value.cells] at hcs
    obtain ⟨rfl, rfl, rfl⟩ := hcs
    have hmax : len ≤ 9223372036854775807 := by have : maxLen = 9223372036854775807 := by rfl
                                                omega
    rw [if_pos rfl] at hmm
    have each : ∀ i, i < len → ∃ r : S32, W.cell? (a.add (i * 2)) = some (.int .i64 r.f0) ∧ W.cell? (a.add (i * 2 + 1)) = some (.int .i64 r.f1) ∧ WfR r := by
      intro i hi
      obtain ⟨h0, h1, h2, h3⟩ := hx i (by omega)
      obtain ⟨z0, hz0, hd0, hw0⟩ := DataW.trod_int Tryd.underlying3 h2
      obtain ⟨z1, hz1, hd1, hw1⟩ := DataW.trod_int Tryd.underlying3 h3
      have e0 : V0 i = .int .i64 z0 := by simpa using hz0
      have e1 : V1 i = .int .i64 z1 := by simpa using hz1
      exact ⟨⟨z0, z1⟩, by rw [h0, e0], by rw [h1, e1], hw0, hw1⟩
    obtain ⟨q, hq⟩ := Deep.choose_lt each
    have hlen : ((List.range len).map q).length = len := by simp
    refine ⟨(List.range len).map q, hlen, ⟨rfl, by rw [hlen]; exact hmax, fun _ => ⟨a, rfl, fun j x hj => ?_⟩⟩, by rw [hlen]; exact hl, fun r hr => ?_⟩
    · have hjl : j < len := by have := (List.getElem?_eq_some_iff.1 hj).1; rwa [hlen] at this
      have hx0 : q j = x := by
        rw [List.getElem?_map, List.getElem?_range hjl] at hj
        exact Option.some.inj hj
      obtain ⟨h0, h1, -⟩ := hq j hjl
      rw [hx0] at h0 h1
      refine ⟨[.int .i64 x.f0, .int .i64 x.f1], rfl, k32_mk W x, fun i u hu => ?_⟩
      have hsz : k32.sz = 2 := rfl
      rw [hsz]
      rcases i with _ | _ | i
      · obtain rfl : Value.int .i64 x.f0 = u := by simpa using hu
        exact h0
      · obtain rfl : Value.int .i64 x.f1 = u := by simpa using hu
        exact h1
      · simp at hu
    · obtain ⟨i, hi, rfl⟩ := List.mem_map.1 hr
      exact (hq i (List.mem_range.1 hi)).2.2
theorem laid_of_spanBack {W : World} (h : laidMetH Tryd.prog Rows.spanBackRow.laid W) : Laid W := laid_of h (by kernel_rfl) (by simp [Rows.spanBackRow])
theorem laid_of_spanEnds {W : World} (h : laidMetH Tryd.prog Rows.spanEndsRow.laid W) : Laid W := laid_of h (by kernel_rfl) (by simp [Rows.spanEndsRow])
theorem laid_of_spanJoins {W : World} (h : laidMetH Tryd.prog Rows.spanJoinsRow.laid W) : Laid W := laid_of h (by kernel_rfl) (by simp [Rows.spanJoinsRow])
theorem laid_of_spanMany {W : World} (h : laidMetH Tryd.prog Rows.spanManyRow.laid W) : Laid W := laid_of h (by kernel_rfl) (by simp [Rows.spanManyRow])
theorem laid_of_spanNone {W : World} (h : laidMetH Tryd.prog Rows.spanNoneRow.laid W) : Laid W := laid_of h (by kernel_rfl) (by simp [Rows.spanNoneRow])
theorem laid_of_spanTells {W : World} (h : laidMetH Tryd.prog Rows.spanTellsRow.laid W) : Laid W := laid_of h (by kernel_rfl) (by simp [Rows.spanTellsRow])
end Go.Proofs.YtdgbllaenkcmbaaDoor
