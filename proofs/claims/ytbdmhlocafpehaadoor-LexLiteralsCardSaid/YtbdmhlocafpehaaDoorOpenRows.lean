/- Rows of rows of bytes that are arguments, opened in the printed contracts' words, with the reach's bound. -/
import Derived.Deep.Matrix
import Derived.SizedLaws
import Derived.Test.YtbdmhlocafpehaaDoorAux
import Derived.Test.YtbdmhlocafpehaaDoorProg
namespace Go.Proofs.YtbdmhlocafpehaaDoor
open Go.RowKit Go.ChangeShapes Go.WideShapes Go.Proofs.YtbdmhlocafpehaaDoorW.PrintWords Go.Proofs.YtbdmhlocafpehaaDoorW.PrintLast Go.Proofs.YtbdmhlocafpehaaDoorW.PrintMore

theorem weightsAll_mem {H : Type} {P : Program} {e : TypeId} : ∀ {ds : List (DataW H)} {d : DataW H}, d ∈ ds → ∀ n ∈ d.weights P e, n ∈ DataW.weightsAll P e ds
  | [], _, h, _, _ => by cases h
  | d0 :: ds, d, h, n, hn => by
    rw [DataW.weightsAll]
    rcases List.mem_cons.1 h with rfl | h
    · exact List.mem_append_left _ hn
    · exact List.mem_append_right _ (weightsAll_mem h n hn)
set_option maxRecDepth 100000 in
theorem open_rows {H : Type} {enc : TypeId × Value → H} {W : World} {t e q : TypeId} {k : IntKind} {A : Option Addr} {len cap : Nat} {d : DataW H} {p : List MemPlace} (ht : Tryd.prog.underlying t = some (.slice e)) (he : Tryd.prog.underlying e = some (.slice q)) (hq : Tryd.prog.underlying q = some (.int k)) (ce : Tryd.prog.cellsOf e = 1) (cq : Tryd.prog.cellsOf q = 1)
    (h : DataW.Trod enc Tryd.prog W 0 (fun _ => true) true t (.slice A len cap) d p) (hw : ∀ n ∈ d.weights Tryd.prog t, n ≤ reachBytes) (hb : 1 ≤ Tryd.prog.bytesOf q) (hbe : 1 ≤ Tryd.prog.bytesOf e) :
    ∃ l : List (List Int), l.length = len ∧ Kd.C (Kd.slice q (Kd.int k)) W A l.length l ∧ l.length ≤ cap ∧ l.length ≤ 140737488351232 ∧ ∀ r ∈ l, r.length ≤ 140737488351232 ∧ ∀ n ∈ r, (Lit.int k n).wf = true := by
  obtain ⟨fuel, hf⟩ := h
  rcases Deep.open_int_rows ht he hq ce cq hf with ⟨hcs, _⟩ | ⟨a, len', cap', B, L, C, Z, hcs, _, hl, hm, hx, hr⟩
  · simp [Value.cells] at hcs
    obtain ⟨rfl, rfl, rfl⟩ := hcs
    exact ⟨[], rfl, ⟨rfl, by simp, fun h => absurd h (by simp)⟩, Nat.le_refl _, by simp, by simp⟩
  · simp [Value.cells] at hcs
    obtain ⟨rfl, rfl, rfl⟩ := hcs
    have hmx : maxLen = 9223372036854775807 := by rfl
    have hre : reachBytes = 140737488351232 := by rfl
    injection hx with hd _
    have hlen : ((List.range len).map fun r => (Z r).take (L r)).length = len := by simp
    have hrow : ∀ r, r < len → (L r) ≤ 140737488351232 := by
      intro r hlt
      obtain ⟨_, h2, _, h4, _, h6, _⟩ := hr r (by omega)
      cases hB : B r with
      | none => have := h6 hB; omega
      | some a' =>
        have hm1 : Deep.intRow (H := H) k (B r) (L r) (Z r) ∈ (List.range len).map fun r => Deep.intRow (H := H) k (B r) (L r) (Z r) := List.mem_map.2 ⟨r, List.mem_range.2 hlt, rfl⟩
        have hn : ((Z r).length) * Tryd.prog.bytesOf q ∈ (Deep.intRow (H := H) k (B r) (L r) (Z r)).weights Tryd.prog e := by
          unfold Deep.intRow
          rw [hB]
          simp only
          rw [DataW.weights, he]
          simp only
          refine List.mem_cons.2 (.inl ?_)
          have : (lits (H := H) k ((Z r).take (L r))).length + (lits (H := H) k ((Z r).drop (L r))).length = (Z r).length := by
            unfold lits
            rw [List.length_map, List.length_map, List.length_take, List.length_drop]
            omega
          rw [this]
        have h8 := hw _ (by rw [hd, DataW.weights, ht]; simp only; exact List.mem_cons_of_mem _ (List.mem_append_left _ (weightsAll_mem hm1 _ hn)))
        have h9 : (Z r).length * 1 ≤ (Z r).length * Tryd.prog.bytesOf q := Nat.mul_le_mul_left _ hb
        omega
    have htop : len ≤ 140737488351232 := by
      have h8 := hw _ (by rw [hd, DataW.weights, ht]; simp only; exact List.mem_cons.2 (.inl rfl))
      rw [List.length_map, List.length_range, List.length_map, List.length_range] at h8
      have h9 : (len + (cap - len)) * 1 ≤ (len + (cap - len)) * Tryd.prog.bytesOf e := Nat.mul_le_mul_left _ hbe
      omega
    refine ⟨(List.range len).map fun r => (Z r).take (L r), hlen, ⟨rfl, by rw [hlen]; omega, fun _ => ⟨a, rfl, fun j x hj => ?_⟩⟩, by rw [hlen]; exact hl, by rw [hlen]; exact htop, fun r hr2 => ?_⟩
    · have hjl : j < len := by have := (List.getElem?_eq_some_iff.1 hj).1; rwa [hlen] at this
      have hx0 : (Z j).take (L j) = x := by
        rw [List.getElem?_map, List.getElem?_range hjl] at hj
        exact Option.some.inj hj
      obtain ⟨h1, h2, h3, h4, h5, h6, h7⟩ := hr j (by omega)
      have hxl : x.length = L j := by rw [← hx0, List.length_take]; omega
      refine ⟨[.slice (B j) x.length (C j)], rfl, ⟨B j, C j, rfl, by omega, ⟨rfl, by omega, fun hp => ?_⟩⟩, fun i u hu => ?_⟩
      · cases hB : B j with
        | none => have := h6 hB; omega
        | some a' =>
          refine ⟨a', rfl, fun i y hi => ⟨[.int k y], rfl, rfl, fun c u hu => ?_⟩⟩
          have hsz : (Kd.int k).sz = 1 := rfl
          rw [hsz, Nat.mul_one]
          rcases c with _ | c
          · obtain rfl : Value.int k y = u := by simpa using hu
            have hil : i < x.length := (List.getElem?_eq_some_iff.1 hi).1
            obtain ⟨_, hcell⟩ := h7 a' hB
            rw [Nat.add_zero, hcell i (by omega)]
            congr 2
            rw [← hx0, List.getElem?_take, if_pos (by omega)] at hi
            rw [List.getD_eq_getElem?_getD, hi]
            rfl
          · simp at hu
      · have hsz : (Kd.slice q (Kd.int k)).sz = 1 := rfl
        rw [hsz, Nat.mul_one]
        rcases i with _ | i
        · obtain rfl : Value.slice (B j) x.length (C j) = u := by simpa using hu
          rw [Nat.add_zero, h1, hxl]
        · simp at hu
    · obtain ⟨i, hi, rfl⟩ := List.mem_map.1 hr2
      have hil := List.mem_range.1 hi
      obtain ⟨_, _, _, _, h5, _, _⟩ := hr i (by omega)
      refine ⟨?_, fun n hn => h5 n (List.mem_of_mem_take hn)⟩
      have := hrow i hil
      rw [List.length_take]
      omega
end Go.Proofs.YtbdmhlocafpehaaDoor
