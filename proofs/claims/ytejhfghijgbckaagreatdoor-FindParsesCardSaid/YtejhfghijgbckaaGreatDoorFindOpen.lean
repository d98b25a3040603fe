/- A row of tokens that is an argument, opened in the printed contracts' words, with the reach's bound on its texts. -/
import Derived.Deep.SlicePairs
import Derived.SizedLaws
import Derived.Test.YtejhfghijgbckaaGreatDoorAux
import Derived.Test.YtejhfghijgbckaaGreatDoorPx0
namespace Go.Proofs.YtejhfghijgbckaaGreatDoor
open Go.RowKit Go.Proofs.YtejhfghijgbckaaGreatDoor.P Go.Proofs.YtejhfghijgbckaaGreatDoorW.PrintWords Go.Proofs.YtejhfghijgbckaaGreatDoorW.PrintLast Go.Proofs.YtejhfghijgbckaaGreatDoorW.PrintMore
instance : Inhabited S42 := ⟨z42⟩
theorem weightsAll_mem {H : Type} {P : Program} {e : TypeId} : ∀ {ds : List (DataW H)} {d : DataW H}, d ∈ ds → ∀ n ∈ d.weights P e, n ∈ DataW.weightsAll P e ds
  | [], _, h, _, _ => by cases h
  | d0 :: ds, d, h, n, hn => by
    rw [DataW.weightsAll]
    rcases List.mem_cons.1 h with rfl | h
    · exact List.mem_append_left _ hn
    · exact List.mem_append_right _ (weightsAll_mem h n hn)
theorem open_kdw_22 {H : Type} {enc : TypeId × Value → H} {W : World} {A : Option Addr} {len cap : Nat} {d : DataW H} {p : List MemPlace} (h : DataW.Trod enc Tryz.prog W 0 (fun _ => true) true 22 (.slice A len cap) d p) (hw : ∀ n ∈ d.weights Tryz.prog 22, n ≤ reachBytes) :
    ∃ l : List S42, l.length = len ∧ Kd.C k42 W A l.length l ∧ l.length ≤ cap ∧ (l.length ≤ 140737488351232 ∧ ∀ t ∈ l, t.f1.size ≤ 140737488351232) := by
  obtain ⟨fuel, hf⟩ := h
  rcases Deep.open_slice_pairs Tryz.underlying22 Tryz.underlying42 (by kernel_rfl) rfl rfl (by kernel_rfl) (by kernel_rfl) hf with ⟨hcs, _⟩ | ⟨a, len', cap', m, n, V0, V1, D0, D1, P0, P1, hcs, _, hl, hm, hmm, hd, hx⟩
  · simp [Value.cells] at hcs
    obtain ⟨rfl, rfl, rfl⟩ := hcs
    exact ⟨[], rfl, ⟨rfl, by simp, fun h => absurd h (by simp)⟩, Nat.le_refl _, by simp, by simp⟩
  · simp [Value.cells] at hcs
    obtain ⟨rfl, rfl, rfl⟩ := hcs
    have hmx : maxLen = 9223372036854775807 := by rfl
    have hre : reachBytes = 140737488351232 := by rfl
    have hmax : len ≤ 9223372036854775807 := by omega
    rw [if_pos rfl] at hmm
    injection hd with hd _
    have each : ∀ i, i < len → ∃ r : S42, W.cell? (a.add (i * 2)) = some (.int .i64 r.f0) ∧ W.cell? (a.add (i * 2 + 1)) = some (.string r.f1) ∧ r.f1.size ≤ 140737488351232 := by
      intro i hi
      obtain ⟨h0, h1, h2, h3⟩ := hx i (by omega)
      obtain ⟨z0, hz0, hd0, hw0⟩ := DataW.trod_int Tryz.underlying3 h2
      obtain ⟨z1, hz1, hd1, hw1⟩ := DataW.trod_string Tryz.underlying9 h3
      have e0 : V0 i = .int .i64 z0 := by simpa using hz0
      have e1 : V1 i = .string z1 := by simpa using hz1
      have d1 : D1 i = .lit (.string z1.data.toList) := (Prod.mk.inj hd1).1
      have hm1 : (DataW.agg [D0 i, D1 i] : DataW H) ∈ (List.range len).map fun i => DataW.agg [D0 i, D1 i] := List.mem_map.2 ⟨i, List.mem_range.2 hi, rfl⟩
      have hn : z1.data.toList.length ∈ (DataW.agg [D0 i, D1 i] : DataW H).weights Tryz.prog 42 := by
        rw [DataW.weights, Tryz.underlying42]
        simp only [DataW.weightsEach, d1, DataW.weights, List.map_cons, List.map_nil, List.append_nil]
        exact List.mem_append_right _ List.mem_cons_self
      have h8 := hw _ (by rw [hd, DataW.weights, Tryz.underlying22]; simp only; exact List.mem_cons_of_mem _ (List.mem_append_left _ (weightsAll_mem hm1 _ hn)))
      exact ⟨⟨z0, z1⟩, by rw [h0, e0], by rw [h1, e1], by show z1.size ≤ _; rw [Lib.size_eq]; omega⟩
    have htop : len ≤ 140737488351232 := by
      have h8 := hw _ (by rw [hd, DataW.weights, Tryz.underlying22]; simp only; exact List.mem_cons.2 (.inl rfl))
      rw [List.length_map, List.length_range, List.length_map, List.length_range] at h8
      have h9 : (len + (m - len)) * 1 ≤ (len + (m - len)) * Tryz.prog.bytesOf 42 := Nat.mul_le_mul_left _ (of_decide_eq_true (by kernel_rfl))
      omega
    obtain ⟨q, hq⟩ := Deep.choose_lt each
    have hlen : ((List.range len).map q).length = len := by simp
    refine ⟨(List.range len).map q, hlen, ⟨rfl, by rw [hlen]; exact hmax, fun _ => ⟨a, rfl, fun j x hj => ?_⟩⟩, by rw [hlen]; exact hl, by rw [hlen]; exact htop, fun t ht => ?_⟩
    · have hjl : j < len := by have := (List.getElem?_eq_some_iff.1 hj).1; rwa [hlen] at this
      have hx0 : q j = x := by
        rw [List.getElem?_map, List.getElem?_range hjl] at hj
        exact Option.some.inj hj
      obtain ⟨h0, h1, -⟩ := hq j hjl
      rw [hx0] at h0 h1
      refine ⟨[.int .i64 x.f0, .string x.f1], rfl, k42_mk W x, fun i u hu => ?_⟩
      have hsz : k42.sz = 2 := rfl
      rw [hsz]
      rcases i with _ | _ | i
      · obtain rfl : Value.int .i64 x.f0 = u := by simpa using hu
        exact h0
      · obtain rfl : Value.string x.f1 = u := by simpa using hu
        exact h1
      · simp at hu
    · obtain ⟨j, hj, rfl⟩ := List.mem_map.1 ht
      exact (hq j (List.mem_range.1 hj)).2.2
end Go.Proofs.YtejhfghijgbckaaGreatDoor
