/- A message that is an argument, opened in the printed contracts' words. -/
import Derived.Test.YtejhfghijgbckaaGreatDoorFindOpen
import Derived.OpenShut
import Derived.ShutString
import Derived.WalkKit
import Derived.ProofKit
import Derived.LaidMore
import Derived.Lay
namespace Go.Proofs.YtejhfghijgbckaaGreatDoor
open Go.ChangeShapes Go.WideShapes Go.ChangeAt Go.RowKit Go.Proofs.YtejhfghijgbckaaGreatDoor.P Go.Proofs.YtejhfghijgbckaaGreatDoorW.PrintWords Go.Proofs.YtejhfghijgbckaaGreatDoorW.PrintLast Go.Proofs.YtejhfghijgbckaaGreatDoorW.PrintMore
theorem cells_agg {v : Value} {cs : List Value} (h : v.cells.toList = cs) (hn : 2 ≤ cs.length) : v = .agg cs.toArray := by
  cases v <;> first | (simp [Value.cells] at h; subst h; simp at hn; done) | skip
  simp [Value.cells] at h
  rw [← h]
theorem list4 {l : List Value} {a b c d : Value} (hl : l.length = 4) (h0 : (l.drop 0).take 1 = [a]) (h1 : (l.drop 1).take 1 = [b]) (h2 : (l.drop 2).take 1 = [c]) (h3 : (l.drop 3).take 1 = [d]) : l = [a, b, c, d] := by
  match l, hl with
  | [w, x, y, z], _ => simp at h0 h1 h2 h3; rw [h0, h1, h2, h3]
set_option maxRecDepth 100000 in
theorem open_msg {H : Type} {enc : TypeId × Value → H} {W : World} {v : Value} {d : DataW H} {p : List MemPlace} (h : DataW.Trod enc Tryz.prog W 0 (fun _ => true) true 37 v d p) :
    ∃ (a0 a1 a2 : Int) (A : Option Addr) (cap : Nat) (l : List Int), v = .agg #[.int .i64 a0, .int .i64 a1, .int .i64 a2, .slice A l.length cap] ∧ Kd.C (Kd.int .u8) W A l.length l ∧ l.length ≤ cap ∧ (∀ n ∈ l, (Lit.int .u8 n).wf = true) ∧
      (Lit.int .i64 a0).wf = true ∧ (Lit.int .i64 a1).wf = true ∧ (Lit.int .i64 a2).wf = true := by
  obtain ⟨fuel, hf⟩ := h
  obtain ⟨xs, n, rfl, hx, hl, hlen, hfs⟩ := DataW.trod_struct Tryz.underlying37 hf
  have h4 : xs.length = 4 := hlen
  obtain ⟨y0, y1, y2, y3, rfl⟩ : ∃ y0 y1 y2 y3, xs = [y0, y1, y2, y3] := by
    match xs, h4 with
    | [y0, y1, y2, y3], _ => exact ⟨y0, y1, y2, y3, rfl⟩
  have f0 := hfs 0 _ rfl
  have f1 := hfs 1 _ rfl
  have f2 := hfs 2 _ rfl
  have f3 := hfs 3 _ rfl
  have hl' : v.cells.toList.length = 4 := hl
  obtain ⟨z0, e0, _, w0⟩ := DataW.trod_int Tryz.underlying3 f0
  obtain ⟨z1, e1, _, w1⟩ := DataW.trod_int Tryz.underlying3 f1
  obtain ⟨z2, e2, _, w2⟩ := DataW.trod_int Tryz.underlying3 f2
  have row : ∃ (A : Option Addr) (cap : Nat) (l : List Int), (v.cells.toList.drop 3).take 1 = [.slice A l.length cap] ∧ Kd.C (Kd.int .u8) W A l.length l ∧ l.length ≤ cap ∧ ∀ n ∈ l, (Lit.int .u8 n).wf = true := by
    rcases open_ints Tryz.underlying35 Tryz.underlying5 (by kernel_rfl) f3 with ⟨hcs, _⟩ | ⟨x, l, c, zs, hcs, _, hlc, hm, hz, _, hcell, hwz⟩
    · exact ⟨none, 0, [], hcs, Kd.C_nil _ _, Nat.le_refl _, fun n hn => by cases hn⟩
    · have hzl : zs.length = c := by simpa using hz
      obtain ⟨l', hl2, hr0, hm2, hw2, hc2⟩ := ReadsInt.ofRowC (.inr ⟨x, rfl, hlc, hm, hzl, hcell, hwz⟩ : (some x = none ∧ l = 0 ∧ c = 0 ∧ zs = []) ∨ ∃ y, some x = some y ∧ l ≤ c ∧ c ≤ maxLen ∧ zs.length = c ∧ (∀ i, i < zs.length → W.cell? (y.add i) = some (.int .u8 (zs.getD i 0))) ∧ ∀ n ∈ zs, (Lit.int .u8 n).wf = true)
      subst hl2
      exact ⟨some x, c, l', hcs, Kd.C_of_reads (d := (0 : Int)) (h1 := fun _ => rfl) hr0, hc2, hw2⟩
  obtain ⟨A, cap, l, e3, hC, hcap, hwf⟩ := row
  have hcells := list4 hl' e0 e1 e2 e3
  exact ⟨z0, z1, z2, A, cap, l, cells_agg hcells (by simp), hC, hcap, hwf, w0, w1, w2⟩
end Go.Proofs.YtejhfghijgbckaaGreatDoor
