/- A row of items and a message that are arguments, opened in the printed contracts' words, with the reach's bounds. -/
import Derived.Deep.SlicePairs
import Derived.SizedLaws
import Derived.OpenShut
import Derived.ShutString
import Derived.WalkKit
import Derived.ProofKit
import Derived.LaidMore
import Derived.Lay
import Derived.Test.YtfabaenfglionaaGreatDoorAux
import Derived.Test.YtfabaenfglionaaGreatDoorPx0
namespace Go.Proofs.YtfabaenfglionaaGreatDoor
open Go.ChangeShapes Go.WideShapes Go.ChangeAt Go.RowKit Go.Proofs.YtfabaenfglionaaGreatDoor.P Go.Proofs.YtfabaenfglionaaGreatDoorW.PrintWords Go.Proofs.YtfabaenfglionaaGreatDoorW.PrintLast Go.Proofs.YtfabaenfglionaaGreatDoorW.PrintMore
instance : Inhabited S40 := ⟨z40⟩
theorem weightsEach_mem {H : Type} {P : Program} : ∀ {ts : List TypeId} {ds : List (DataW H)} {j : Nat} {t : TypeId} {d : DataW H}, ts[j]? = some t → ds[j]? = some d → ∀ n ∈ d.weights P t, n ∈ DataW.weightsEach P ts ds
  | [], _, _, _, _, h, _, _, _ => by simp at h
  | _ :: _, [], _, _, _, _, h, _, _ => by simp at h
  | u :: ts, e :: ds, 0, t, d, h1, h2, n, hn => by
    obtain rfl : u = t := by simpa using h1
    obtain rfl : e = d := by simpa using h2
    rw [DataW.weightsEach]
    exact List.mem_append_left _ hn
  | u :: ts, e :: ds, j + 1, t, d, h1, h2, n, hn => by
    rw [DataW.weightsEach]
    exact List.mem_append_right _ (weightsEach_mem (j := j) (by simpa using h1) (by simpa using h2) n hn)
theorem open_row {H : Type} {enc : TypeId × Value → H} {W : World} {t e : TypeId} {k : IntKind} {fuel : Nat} {cs : List Value} {y : DataW H × List MemPlace} (ht : Tryz.prog.underlying t = some (.slice e)) (he : Tryz.prog.underlying e = some (.int k)) (hc : Tryz.prog.cellsOf e = 1) (hb : 1 ≤ Tryz.prog.bytesOf e)
    (h : DataW.trod enc Tryz.prog W 0 (fun _ => true) true fuel t cs = some y) (hw : ∀ n ∈ y.1.weights Tryz.prog t, n ≤ reachBytes) :
    ∃ (A : Option Addr) (cap : Nat) (l : List Int), cs = [.slice A l.length cap] ∧ Kd.C (Kd.int k) W A l.length l ∧ l.length ≤ cap ∧ l.length ≤ 140737488351232 ∧ ∀ n ∈ l, (Lit.int k n).wf = true := by
  rcases open_ints ht he hc h with ⟨hcs, _⟩ | ⟨x, l, c, zs, hcs, _, hlc, hm, hz, hy, hcell, hwz⟩
  · exact ⟨none, 0, [], hcs, Kd.C_nil _ _, Nat.le_refl _, Nat.zero_le _, fun n hn => by cases hn⟩
  · have hzl : zs.length = c := by simpa using hz
    have hre : reachBytes = 140737488351232 := by rfl
    have hzb : zs.length ≤ 140737488351232 := by
      have h8 := hw (((lits (H := H) k (zs.take l)).length + (lits (H := H) k (zs.drop l)).length) * Tryz.prog.bytesOf e) (by rw [hy, DataW.weights, ht]; simp only; exact List.mem_cons.2 (.inl rfl))
      have h7 : (lits (H := H) k (zs.take l)).length + (lits (H := H) k (zs.drop l)).length = zs.length := by
        unfold lits
        rw [List.length_map, List.length_map, List.length_take, List.length_drop]
        omega
      rw [h7] at h8
      have h9 : zs.length * 1 ≤ zs.length * Tryz.prog.bytesOf e := Nat.mul_le_mul_left _ hb
      omega
    obtain ⟨l', hl2, hr0, hm2, hw2, hc2⟩ := ReadsInt.ofRowC (.inr ⟨x, rfl, hlc, hm, hzl, hcell, hwz⟩ : (some x = none ∧ l = 0 ∧ c = 0 ∧ zs = []) ∨ ∃ y, some x = some y ∧ l ≤ c ∧ c ≤ maxLen ∧ zs.length = c ∧ (∀ i, i < zs.length → W.cell? (y.add i) = some (.int k (zs.getD i 0))) ∧ ∀ n ∈ zs, (Lit.int k n).wf = true)
    subst hl2
    exact ⟨some x, c, l', hcs, Kd.C_of_reads (d := (0 : Int)) (h1 := fun _ => rfl) hr0, hc2, by omega, hw2⟩
theorem cells_agg {v : Value} {cs : List Value} (h : v.cells.toList = cs) (hn : 2 ≤ cs.length) : v = .agg cs.toArray := by
  cases v <;> first | (simp [Value.cells] at h; subst h; simp at hn; done) | skip
  simp [Value.cells] at h
  rw [← h]
theorem list4 {l : List Value} {a b c d : Value} (hl : l.length = 4) (h0 : (l.drop 0).take 1 = [a]) (h1 : (l.drop 1).take 1 = [b]) (h2 : (l.drop 2).take 1 = [c]) (h3 : (l.drop 3).take 1 = [d]) : l = [a, b, c, d] := by
  match l, hl with
  | [w, x, y, z], _ => simp at h0 h1 h2 h3; rw [h0, h1, h2, h3]
set_option maxRecDepth 100000 in
theorem open_msgw {H : Type} {enc : TypeId × Value → H} {W : World} {v : Value} {d : DataW H} {p : List MemPlace} (h : DataW.Trod enc Tryz.prog W 0 (fun _ => true) true 36 v d p) (hw : ∀ n ∈ d.weights Tryz.prog 36, n ≤ reachBytes) :
    ∃ (a0 a1 a2 : Int) (A : Option Addr) (cap : Nat) (l : List Int), v = .agg #[.int .i64 a0, .int .i64 a1, .int .i64 a2, .slice A l.length cap] ∧ Kd.C (Kd.int .u8) W A l.length l ∧ l.length ≤ cap ∧ (l.length ≤ 140737488351232 ∧ (∀ n ∈ l, (Lit.int .u8 n).wf = true) ∧
      (Lit.int .i64 a0).wf = true ∧ (Lit.int .i64 a2).wf = true) := by
  obtain ⟨fuel, hf⟩ := h
  obtain ⟨xs, n, rfl, hx, hl, hlen, hfs⟩ := DataW.trod_struct Tryz.underlying36 hf
  have h4 : xs.length = 4 := hlen
  obtain ⟨y0, y1, y2, y3, rfl⟩ : ∃ y0 y1 y2 y3, xs = [y0, y1, y2, y3] := by
    match xs, h4 with
    | [y0, y1, y2, y3], _ => exact ⟨y0, y1, y2, y3, rfl⟩
  have f0 := hfs 0 _ rfl
  have f1 := hfs 1 _ rfl
  have f2 := hfs 2 _ rfl
  have f3 := hfs 3 _ rfl
  have hl' : v.cells.toList.length = 4 := hl
  have hd : d = DataW.agg [y0.1, y1.1, y2.1, y3.1] := (Prod.mk.inj hx).1
  have hw3 : ∀ n ∈ y3.1.weights Tryz.prog 34, n ≤ reachBytes := by
    intro n hn
    refine hw n ?_
    rw [hd, DataW.weights, Tryz.underlying36]
    exact weightsEach_mem (j := 3) (t := 34) rfl rfl n hn
  obtain ⟨z0, e0, _, w0⟩ := DataW.trod_int Tryz.underlying3 f0
  obtain ⟨z1, e1, _, w1⟩ := DataW.trod_int Tryz.underlying3 f1
  obtain ⟨z2, e2, _, w2⟩ := DataW.trod_int Tryz.underlying3 f2
  obtain ⟨A, cap, l, e3, hC, hcap, hbl, hwf⟩ := open_row Tryz.underlying34 Tryz.underlying5 (by kernel_rfl) (of_decide_eq_true (by kernel_rfl)) f3 hw3
  have hcells := list4 hl' e0 e1 e2 e3
  exact ⟨z0, z1, z2, A, cap, l, cells_agg hcells (by simp), hC, hcap, hbl, hwf, w0, w2⟩
theorem laid_of_showBodies {W : World} (h : laidMetH Tryz.prog Rows.showBodiesRow.laid W) : Laid W := laid_of h (by kernel_rfl) (by simp [Rows.showBodiesRow])
end Go.Proofs.YtfabaenfglionaaGreatDoor
