/- A row of tokens that is an argument, opened in the printed contracts' words, with the bound that the second form gives. -/
import Derived.Deep.SlicePairs
import Derived.Test.YtalabkaalbllgaaGreatDoorRows
import Derived.Test.YtalabkaalbllgaaGreatDoorPureShowParses
namespace Go.Proofs.YtalabkaalbllgaaGreatDoor
open Go.RowKit Go.Proofs.YtalabkaalbllgaaGreatDoor.P Go.Proofs.YtalabkaalbllgaaGreatDoorW.PrintWords Go.Proofs.YtalabkaalbllgaaGreatDoorW.PrintLast Go.Proofs.YtalabkaalbllgaaGreatDoorW.PrintMore
instance : Inhabited S38 := ⟨z38⟩
theorem bulk_sum {H : Type} {D0 D1 : Nat → DataW H} : ∀ (xs : List Nat) (q : Nat → S38), (∀ i ∈ xs, D1 i = .lit (.string (q i).f1.data.toList)) → Pure.sumT (xs.map q) ≤ Rows.uptoBulkAll (xs.map fun i => DataW.agg [D0 i, D1 i])
  | [], _, _ => Nat.le_refl _
  | i :: r, q, h => by
    have ih := bulk_sum (D0 := D0) (D1 := D1) r q (fun j hj => h j (List.mem_cons_of_mem _ hj))
    have h1 := h i (List.mem_cons_self ..)
    have h2 := Lib.size_eq (q i).f1
    rw [List.map_cons, List.map_cons, Pure.sumT, Rows.uptoBulkAll, h1]
    simp only [Rows.uptoBulk, Rows.uptoBulkAll]
    omega
theorem open_kdb_36 {H : Type} {enc : TypeId × Value → H} {W : World} {A : Option Addr} {len cap : Nat} {d : DataW H} {p : List MemPlace} (h : DataW.Trod enc Tryz.prog W 0 (fun _ => true) true 36 (.slice A len cap) d p) :
    ∃ l : List S38, l.length = len ∧ Kd.C k38 W A l.length l ∧ l.length ≤ cap ∧ Pure.sumT l ≤ Rows.uptoBulk d := by
  obtain ⟨fuel, hf⟩ := h
  rcases Deep.open_slice_pairs Tryz.underlying36 Tryz.underlying38 (by kernel_rfl) rfl rfl (by kernel_rfl) (by kernel_rfl) hf with ⟨hcs, _⟩ | ⟨a, len', cap', m, n, V0, V1, D0, D1, P0, P1, hcs, _, hl, hm, hmm, hd, hx⟩
  · simp [Value.cells] at hcs
    obtain ⟨rfl, rfl, rfl⟩ := hcs
    exact ⟨[], rfl, ⟨rfl, by simp, fun h => absurd h (by simp)⟩, Nat.le_refl _, Nat.zero_le _⟩
  · simp [Value.cells] at hcs
    obtain ⟨rfl, rfl, rfl⟩ := hcs
    have hmx : maxLen = 9223372036854775807 := by rfl
    have hmax : len ≤ 9223372036854775807 := by omega
    rw [if_pos rfl] at hmm
    have each : ∀ i, i < len → ∃ r : S38, W.cell? (a.add (i * 2)) = some (.int .i64 r.f0) ∧ W.cell? (a.add (i * 2 + 1)) = some (.string r.f1) ∧ D1 i = .lit (.string r.f1.data.toList) := by
      intro i hi
      obtain ⟨h0, h1, h2, h3⟩ := hx i (by omega)
      obtain ⟨z0, hz0, hd0, hw0⟩ := DataW.trod_int Tryz.underlying3 h2
      obtain ⟨z1, hz1, hd1, hw1⟩ := DataW.trod_string Tryz.underlying9 h3
      have e0 : V0 i = .int .i64 z0 := by simpa using hz0
      have e1 : V1 i = .string z1 := by simpa using hz1
      exact ⟨⟨z0, z1⟩, by rw [h0, e0], by rw [h1, e1], (Prod.mk.inj hd1).1⟩
    obtain ⟨q, hq⟩ := Deep.choose_lt each
    have hlen : ((List.range len).map q).length = len := by simp
    refine ⟨(List.range len).map q, hlen, ⟨rfl, by rw [hlen]; exact hmax, fun _ => ⟨a, rfl, fun j x hj => ?_⟩⟩, by rw [hlen]; exact hl, ?_⟩
    · have hjl : j < len := by have := (List.getElem?_eq_some_iff.1 hj).1; rwa [hlen] at this
      have hx0 : q j = x := by
        rw [List.getElem?_map, List.getElem?_range hjl] at hj
        exact Option.some.inj hj
      obtain ⟨h0, h1, -⟩ := hq j hjl
      rw [hx0] at h0 h1
      refine ⟨[.int .i64 x.f0, .string x.f1], rfl, k38_mk W x, fun i u hu => ?_⟩
      have hsz : k38.sz = 2 := rfl
      rw [hsz]
      rcases i with _ | _ | i
      · obtain rfl : Value.int .i64 x.f0 = u := by simpa using hu
        exact h0
      · obtain rfl : Value.string x.f1 = u := by simpa using hu
        exact h1
      · simp at hu
    · have hdd := (Prod.mk.inj hd).1
      rw [hdd]
      have h5 := bulk_sum (D0 := D0) (D1 := D1) (List.range len) q (fun i hi => (hq i (List.mem_range.1 hi)).2.2)
      simp only [Rows.uptoBulk]
      omega
end Go.Proofs.YtalabkaalbllgaaGreatDoor
