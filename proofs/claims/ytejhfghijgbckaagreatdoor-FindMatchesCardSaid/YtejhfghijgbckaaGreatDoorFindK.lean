/- A row of tokens that is an argument, opened in the printed contracts' words, with the reach's bound on its texts. -/
import Derived.Deep.SlicePairs
import Derived.SizedLaws
import Derived.Test.YtejhfghijgbckaaGreatDoorAux
import Derived.Test.YtejhfghijgbckaaGreatDoorPx0
import Derived.OpenShut
import Derived.ShutString
import Derived.WalkKit
import Derived.ProofKit
import Derived.LaidMore
import Derived.Lay
namespace Go.Proofs.YtejhfghijgbckaaGreatDoor
open Go.RowKit Go.Proofs.YtejhfghijgbckaaGreatDoor.P Go.Proofs.YtejhfghijgbckaaGreatDoorW.PrintWords Go.Proofs.YtejhfghijgbckaaGreatDoorW.PrintLast Go.Proofs.YtejhfghijgbckaaGreatDoorW.PrintMore
instance : Inhabited S42 := ⟨z42⟩
theorem weightsAll_mem {H : Type} {P : Program} {e : TypeId} : ∀ {ds : List (DataW H)} {d : DataW H}, d ∈ ds → ∀ n ∈ d.weights P e, n ∈ DataW.weightsAll P e ds
  | [], _, h, _, _ => by cases h
  | d0 :: ds, d, h, n, hn => by
    rw [DataW.weightsAll]
    rcases List.mem_cons.1 h with rfl | h
    · exact List.mem_append_left _ hn
    · exact List.mem_append_right _ (weightsAll_mem h n hn)
end Go.Proofs.YtejhfghijgbckaaGreatDoor
namespace Go.Proofs.YtejhfghijgbckaaGreatDoor
open Go.ChangeShapes Go.WideShapes Go.ChangeAt Go.RowKit Go.Proofs.YtejhfghijgbckaaGreatDoor.P Go.Proofs.YtejhfghijgbckaaGreatDoorW.PrintWords Go.Proofs.YtejhfghijgbckaaGreatDoorW.PrintLast Go.Proofs.YtejhfghijgbckaaGreatDoorW.PrintMore
theorem cells_agg {v : Value} {cs : List Value} (h : v.cells.toList = cs) (hn : 2 ≤ cs.length) : v = .agg cs.toArray := by
  cases v <;> first | (simp [Value.cells] at h; subst h; simp at hn; done) | skip
  simp [Value.cells] at h
  rw [← h]
theorem list4 {l : List Value} {a b c d : Value} (hl : l.length = 4) (h0 : (l.drop 0).take 1 = [a]) (h1 : (l.drop 1).take 1 = [b]) (h2 : (l.drop 2).take 1 = [c]) (h3 : (l.drop 3).take 1 = [d]) : l = [a, b, c, d] := by
  match l, hl with
  | [w, x, y, z], _ => simp at h0 h1 h2 h3; rw [h0, h1, h2, h3]
set_option maxRecDepth 100000 in
theorem open_msg {H : Type} {enc : TypeId × Value → H} {W : World} {v : Value} {d : DataW H} {p : List MemPlace} (h : DataW.Trod enc Tryz.prog W 0 (fun _ => true) true 37 v d p) :
    ∃ (a0 a1 a2 : Int) (A : Option Addr) (cap : Nat) (l : List Int), v = .agg #[.int .i64 a0, .int .i64 a1, .int .i64 a2, .slice A l.length cap] ∧ Kd.C (Kd.int .u8) W A l.length l ∧ l.length ≤ cap ∧ (∀ n ∈ l, (Lit.int .u8 n).wf = true) ∧
      (Lit.int .i64 a0).wf = true ∧ (Lit.int .i64 a1).wf = true ∧ (Lit.int .i64 a2).wf = true := by
  obtain ⟨fuel, hf⟩ := h
  obtain ⟨xs, n, rfl, hx, hl, hlen, hfs⟩ := DataW.trod_struct Tryz.underlying37 hf
  have h4 : xs.length = 4 := hlen
  obtain ⟨y0, y1, y2, y3, rfl⟩ : ∃ y0 y1 y2 y3, xs = [y0, y1, y2, y3] := by
    match xs, h4 with
    | [y0, y1, y2, y3], _ => exact ⟨y0, y1, y2, y3, rfl⟩
  have f0 := hfs 0 _ rfl
  have f1 := hfs 1 _ rfl
  have f2 := hfs 2 _ rfl
  have f3 := hfs 3 _ rfl
  have hl' : v.cells.toList.length = 4 := hl
  obtain ⟨z0, e0, _, w0⟩ := DataW.trod_int Tryz.underlying3 f0
  obtain ⟨z1, e1, _, w1⟩ := DataW.trod_int Tryz.underlying3 f1
  obtain ⟨z2, e2, _, w2⟩ := DataW.trod_int Tryz.underlying3 f2
  have row : ∃ (A : Option Addr) (cap : Nat) (l : List Int), (v.cells.toList.drop 3).take 1 = [.slice A l.length cap] ∧ Kd.C (Kd.int .u8) W A l.length l ∧ l.length ≤ cap ∧ ∀ n ∈ l, (Lit.int .u8 n).wf = true := by
    rcases open_ints Tryz.underlying35 Tryz.underlying5 (by kernel_rfl) f3 with ⟨hcs, _⟩ | ⟨x, l, c, zs, hcs, _, hlc, hm, hz, _, hcell, hwz⟩
    · exact ⟨none, 0, [], hcs, Kd.C_nil _ _, Nat.le_refl _, fun n hn => by cases hn⟩
    · have hzl : zs.length = c := by simpa using hz
      obtain ⟨l', hl2, hr0, hm2, hw2, hc2⟩ := ReadsInt.ofRowC (.inr ⟨x, rfl, hlc, hm, hzl, hcell, hwz⟩ : (some x = none ∧ l = 0 ∧ c = 0 ∧ zs = []) ∨ ∃ y, some x = some y ∧ l ≤ c ∧ c ≤ maxLen ∧ zs.length = c ∧ (∀ i, i < zs.length → W.cell? (y.add i) = some (.int .u8 (zs.getD i 0))) ∧ ∀ n ∈ zs, (Lit.int .u8 n).wf = true)
      subst hl2
      exact ⟨some x, c, l', hcs, Kd.C_of_reads (d := (0 : Int)) (h1 := fun _ => rfl) hr0, hc2, hw2⟩
  obtain ⟨A, cap, l, e3, hC, hcap, hwf⟩ := row
  have hcells := list4 hl' e0 e1 e2 e3
  exact ⟨z0, z1, z2, A, cap, l, cells_agg hcells (by simp), hC, hcap, hwf, w0, w1, w2⟩
end Go.Proofs.YtejhfghijgbckaaGreatDoor
namespace Go.Proofs.YtejhfghijgbckaaGreatDoor
open Go.ChangeShapes Go.WideShapes Go.ChangeAt Go.RowKit Go.Proofs.YtejhfghijgbckaaGreatDoor.P Go.Proofs.YtejhfghijgbckaaGreatDoorW.PrintWords Go.Proofs.YtejhfghijgbckaaGreatDoorW.PrintLast Go.Proofs.YtejhfghijgbckaaGreatDoorW.PrintMore

def okD : Nat → S27 → Prop
  | 0, _ => False
  | n + 1, x => x.f2.size ≤ 140737488351232 ∧ x.f3.size ≤ 140737488351232 ∧ x.f4.length ≤ 140737488351232 ∧ x.f5.length ≤ 140737488351232 ∧ ∀ y ∈ x.f5, okD n y
theorem okD_mono : ∀ (n m : Nat) (x : S27), n ≤ m → okD n x → okD m x
  | 0, _, _, _, h => h.elim
  | n + 1, 0, _, hm, _ => absurd hm (by omega)
  | n + 1, m + 1, x, hm, h => ⟨h.1, h.2.1, h.2.2.1, h.2.2.2.1, fun y hy => okD_mono n m y (by omega) (h.2.2.2.2 y hy)⟩
instance : Inhabited S73 := ⟨z73⟩
instance : Inhabited S27 := ⟨z27⟩
theorem list6 {l : List Value} {a b c d e f : Value} (hl : l.length = 6) (h0 : (l.drop 0).take 1 = [a]) (h1 : (l.drop 1).take 1 = [b]) (h2 : (l.drop 2).take 1 = [c]) (h3 : (l.drop 3).take 1 = [d]) (h4 : (l.drop 4).take 1 = [e]) (h5 : (l.drop 5).take 1 = [f]) : l = [a, b, c, d, e, f] := by
  match l, hl with
  | [u, v, w, x, y, z], _ => simp at h0 h1 h2 h3 h4 h5; rw [h0, h1, h2, h3, h4, h5]
set_option maxRecDepth 100000 in
theorem open_ranges {H : Type} {enc : TypeId × Value → H} {W : World} {fuel : Nat} {cs : List Value} {y : DataW H × List MemPlace} (h : DataW.trod enc Tryz.prog W 0 (fun _ => true) true fuel 24 cs = some y) (hw : ∀ n ∈ y.1.weights Tryz.prog 24, n ≤ reachBytes) :
    ∃ (A : Option Addr) (cap : Nat) (l : List S73), cs = [.slice A l.length cap] ∧ Kd.C k73 W A l.length l ∧ l.length ≤ cap ∧ l.length ≤ 140737488351232 := by
  rcases Deep.open_slice_pairs Tryz.underlying24 Tryz.underlying73 (by kernel_rfl) rfl rfl (by kernel_rfl) (by kernel_rfl) h with ⟨hcs, _⟩ | ⟨a, len, cap, m, n, V0, V1, D0, D1, P0, P1, hcs, _, hl, hm, hmm, hd, hx⟩
  · exact ⟨none, 0, [], hcs, Kd.C_nil _ _, Nat.le_refl _, Nat.zero_le _⟩
  · have hmx : maxLen = 9223372036854775807 := by rfl
    have hre : reachBytes = 140737488351232 := by rfl
    rw [if_pos rfl] at hmm
    have each : ∀ i, i < len → ∃ r : S73, W.cell? (a.add (i * 2)) = some (.int .i64 r.f0) ∧ W.cell? (a.add (i * 2 + 1)) = some (.int .i64 r.f1) := by
      intro i hi
      obtain ⟨h0, h1, h2, h3⟩ := hx i (by omega)
      obtain ⟨z0, hz0, hd0, hw0⟩ := DataW.trod_int Tryz.underlying3 h2
      obtain ⟨z1, hz1, hd1, hw1⟩ := DataW.trod_int Tryz.underlying3 h3
      have e0 : V0 i = .int .i64 z0 := by simpa using hz0
      have e1 : V1 i = .int .i64 z1 := by simpa using hz1
      exact ⟨⟨z0, z1⟩, by rw [h0, e0], by rw [h1, e1]⟩
    have htop : len ≤ 140737488351232 := by
      have h8 := hw _ (by rw [hd, DataW.weights, Tryz.underlying24]; simp only; exact List.mem_cons.2 (.inl rfl))
      rw [List.length_map, List.length_range, List.length_map, List.length_range] at h8
      have h9 : (len + (m - len)) * 1 ≤ (len + (m - len)) * Tryz.prog.bytesOf 73 := Nat.mul_le_mul_left _ (of_decide_eq_true (by kernel_rfl))
      omega
    obtain ⟨q, hq⟩ := Deep.choose_lt each
    have hlen : ((List.range len).map q).length = len := by simp
    refine ⟨some a, cap, (List.range len).map q, by rw [hlen]; exact hcs, ⟨rfl, by rw [hlen]; omega, fun _ => ⟨a, rfl, fun j x hj => ?_⟩⟩, by rw [hlen]; exact hl, by rw [hlen]; exact htop⟩
    have hjl : j < len := by have := (List.getElem?_eq_some_iff.1 hj).1; rwa [hlen] at this
    have hx0 : q j = x := by
      rw [List.getElem?_map, List.getElem?_range hjl] at hj
      exact Option.some.inj hj
    obtain ⟨h0, h1⟩ := hq j hjl
    rw [hx0] at h0 h1
    refine ⟨[.int .i64 x.f0, .int .i64 x.f1], rfl, k73_mk W x, fun i u hu => ?_⟩
    have hsz : k73.sz = 2 := rfl
    rw [hsz]
    rcases i with _ | _ | i
    · obtain rfl : Value.int .i64 x.f0 = u := by simpa using hu
      exact h0
    · obtain rfl : Value.int .i64 x.f1 = u := by simpa using hu
      exact h1
    · simp at hu
theorem weightsEach_mem {H : Type} {P : Program} : ∀ {ts : List TypeId} {ds : List (DataW H)} {j : Nat} {t : TypeId} {d : DataW H}, ts[j]? = some t → ds[j]? = some d → ∀ n ∈ d.weights P t, n ∈ DataW.weightsEach P ts ds
  | [], _, _, _, _, h, _, _, _ => by simp at h
  | _ :: _, [], _, _, _, _, h, _, _ => by simp at h
  | u :: ts, e :: ds, 0, t, d, h1, h2, n, hn => by
    obtain rfl : u = t := by simpa using h1
    obtain rfl : e = d := by simpa using h2
    rw [DataW.weightsEach]
    exact List.mem_append_left _ hn
  | u :: ts, e :: ds, j + 1, t, d, h1, h2, n, hn => by
    rw [DataW.weightsEach]
    exact List.mem_append_right _ (weightsEach_mem (j := j) (by simpa using h1) (by simpa using h2) n hn)
def KeyAt (W : World) (x : S27) (cs : List Value) : Prop :=
  ∃ A4 c4 A5 c5, cs = [.int .i64 x.f0, .int .i64 x.f1, .string x.f2, .string x.f3, .slice A4 x.f4.length c4, .slice A5 x.f5.length c5] ∧ x.f4.length ≤ c4 ∧ Kd.C k73 W A4 x.f4.length x.f4 ∧ x.f5.length ≤ c5 ∧ Kd.C k27 W A5 x.f5.length x.f5
set_option maxRecDepth 100000 in
theorem open_keyF {H : Type} {enc : TypeId × Value → H} {W : World} : ∀ (fuel : Nat) (cs : List Value) (y : DataW H × List MemPlace), DataW.trod enc Tryz.prog W 0 (fun _ => true) true fuel 27 cs = some y → (∀ n ∈ y.1.weights Tryz.prog 27, n ≤ reachBytes) → ∃ x, KeyAt W x cs ∧ okD fuel x := by
  intro fuel
  induction fuel using Nat.strongRecOn with
  | _ fuel ih =>
  intro cs y hf hw
  have hmx : maxLen = 9223372036854775807 := by rfl
  have hre : reachBytes = 140737488351232 := by rfl
  obtain ⟨xs, n, rfl, hx, hl, hlen, hfs⟩ := DataW.trod_struct Tryz.underlying27 hf
  have h6 : xs.length = 6 := hlen
  obtain ⟨y0, y1, y2, y3, y4, y5, rfl⟩ : ∃ y0 y1 y2 y3 y4 y5, xs = [y0, y1, y2, y3, y4, y5] := by
    match xs, h6 with
    | [y0, y1, y2, y3, y4, y5], _ => exact ⟨y0, y1, y2, y3, y4, y5, rfl⟩
  have f0 := hfs 0 _ rfl
  have f1 := hfs 1 _ rfl
  have f2 := hfs 2 _ rfl
  have f3 := hfs 3 _ rfl
  have f4 := hfs 4 _ rfl
  have f5 := hfs 5 _ rfl
  have hl' : cs.length = 6 := hl
  have hwE : ∀ (j : Nat) (t : TypeId) (d : DataW H), ([3, 3, 9, 9, 24, 25] : List TypeId)[j]? = some t → ([y0.1, y1.1, y2.1, y3.1, y4.1, y5.1] : List (DataW H))[j]? = some d → ∀ n ∈ d.weights Tryz.prog t, n ≤ reachBytes := by
    intro j t d h1 h2 n hn
    refine hw n ?_
    rw [hx]
    show n ∈ (DataW.agg [y0.1, y1.1, y2.1, y3.1, y4.1, y5.1]).weights Tryz.prog 27
    rw [DataW.weights, Tryz.underlying27]
    exact weightsEach_mem h1 h2 n hn
  obtain ⟨z0, e0, _, _⟩ := DataW.trod_int Tryz.underlying3 f0
  obtain ⟨z1, e1, _, _⟩ := DataW.trod_int Tryz.underlying3 f1
  obtain ⟨z2, e2, d2, _⟩ := DataW.trod_string Tryz.underlying9 f2
  obtain ⟨z3, e3, d3, _⟩ := DataW.trod_string Tryz.underlying9 f3
  have s2 : z2.size ≤ 140737488351232 := by
    have h := hwE 2 9 y2.1 rfl rfl z2.data.toList.length (by rw [d2]; simp [DataW.weights])
    rw [Lib.size_eq]; omega
  have s3 : z3.size ≤ 140737488351232 := by
    have h := hwE 3 9 y3.1 rfl rfl z3.data.toList.length (by rw [d3]; simp [DataW.weights])
    rw [Lib.size_eq]; omega
  obtain ⟨A4, c4, l4, e4, hC4, hc4, hb4⟩ := open_ranges f4 (hwE 4 24 y4.1 rfl rfl)
  have row : ∃ (A : Option Addr) (cap : Nat) (l : List S27), (cs.drop 5).take 1 = [.slice A l.length cap] ∧ Kd.C k27 W A l.length l ∧ l.length ≤ cap ∧ l.length ≤ 140737488351232 ∧ ∀ y ∈ l, okD n y := by
    have hw5 := hwE 5 25 y5.1 rfl rfl
    rcases DataW.trod_slice Tryz.underlying25 f5 with ⟨hcs, _⟩ | ⟨a, len, cap, elems, rest, n5, hn5, hcs, hy5, hb, hlc, hm, hlens, hel, hsp, hns⟩
    · exact ⟨none, 0, [], hcs, Kd.C_nil _ _, Nat.le_refl _, Nat.zero_le _, fun y hy => by cases hy⟩
    · subst hn5
      have hc6 : Tryz.prog.cellsOf 27 = 6 := by kernel_rfl
      rw [hc6] at hel
      have each : ∀ i, i < len → ∃ r : S27, (∃ c, World.cells? W 0 (a.add (i * 6)) 6 = some c ∧ KeyAt W r c) ∧ okD n5 r := by
        intro i hi
        have he := hel i hi
        have hg : elems[i]? = some elems[i] := List.getElem?_eq_getElem (by omega)
        rw [hg] at he
        obtain ⟨c, h1, h2⟩ := Option.bind_eq_some_iff.1 he
        have hmem : elems[i].1 ∈ elems.map (·.1) := List.mem_map.2 ⟨elems[i], List.getElem_mem _, rfl⟩
        obtain ⟨r, hr, hd⟩ := ih n5 (by omega) c elems[i] h2 (fun q hq => hw5 q (by
          rw [hy5, DataW.weights, Tryz.underlying25]
          simp only
          exact List.mem_cons_of_mem _ (List.mem_append_left _ (weightsAll_mem hmem _ hq))))
        exact ⟨r, ⟨c, h1, hr⟩, hd⟩
      have htop : len ≤ 140737488351232 := by
        have h8 := hw5 _ (by rw [hy5, DataW.weights, Tryz.underlying25]; simp only; exact List.mem_cons.2 (.inl rfl))
        rw [List.length_map, List.length_map, hlens] at h8
        have h9 : (len + rest.length) * 1 ≤ (len + rest.length) * Tryz.prog.bytesOf 27 := Nat.mul_le_mul_left _ (of_decide_eq_true (by kernel_rfl))
        omega
      obtain ⟨q, hq⟩ := Deep.choose_lt each
      have hlen2 : ((List.range len).map q).length = len := by simp
      refine ⟨some a, cap, (List.range len).map q, by rw [hlen2]; exact hcs, ⟨rfl, by rw [hlen2]; omega, fun _ => ⟨a, rfl, fun j x hj => ?_⟩⟩, by rw [hlen2]; exact hlc, by rw [hlen2]; exact htop, fun y hy => ?_⟩
      · have hjl : j < len := by have := (List.getElem?_eq_some_iff.1 hj).1; rwa [hlen2] at this
        have hx0 : q j = x := by
          rw [List.getElem?_map, List.getElem?_range hjl] at hj
          exact Option.some.inj hj
        obtain ⟨⟨c, h1, hk⟩, -⟩ := hq j hjl
        rw [hx0] at hk
        obtain ⟨A4, c4, A5, c5, rfl, l4, g4, l5, g5⟩ := hk
        obtain ⟨_, hl6, hcell⟩ := World.cells?_some h1
        have hsz : k27.sz = 6 := rfl
        refine ⟨_, rfl, k27_mk W x l4 g4 l5 g5, fun i u hu => ?_⟩
        rw [hsz]
        have hi : i < 6 := by have := (List.getElem?_eq_some_iff.1 hu).1; simpa using this
        have h := hcell i hi
        rw [hu] at h
        rw [← h, Addr.add_add]
      · obtain ⟨j, hj, rfl⟩ := List.mem_map.1 hy
        exact okD_mono n5 (n5 + 1) _ (by omega) (hq j (List.mem_range.1 hj)).2
  obtain ⟨A5, c5, l5, e5, hC5, hc5, hb5, hm⟩ := row
  exact ⟨⟨z0, z1, z2, z3, l4, l5⟩, ⟨A4, c4, A5, c5, list6 hl' e0 e1 e2 e3 e4 e5, hc4, hC4, hc5, hC5⟩, s2, s3, hb4, hb5, hm⟩
theorem open_key {H : Type} {enc : TypeId × Value → H} {W : World} {v : Value} {d : DataW H} {p : List MemPlace} (h : DataW.Trod enc Tryz.prog W 0 (fun _ => true) true 27 v d p) (hw : ∀ n ∈ d.weights Tryz.prog 27, n ≤ reachBytes) :
    ∃ (x : S27) (A4 : Option Addr) (c4 : Nat) (A5 : Option Addr) (c5 : Nat), v = .agg #[.int .i64 x.f0, .int .i64 x.f1, .string x.f2, .string x.f3, .slice A4 x.f4.length c4, .slice A5 x.f5.length c5] ∧ Kd.C k73 W A4 x.f4.length x.f4 ∧ x.f4.length ≤ c4 ∧ Kd.C k27 W A5 x.f5.length x.f5 ∧ x.f5.length ≤ c5 ∧ ∃ n, okD n x := by
  obtain ⟨fuel, hf⟩ := h
  obtain ⟨x, ⟨A4, c4, A5, c5, hcs, l4, g4, l5, g5⟩, hd⟩ := open_keyF fuel _ _ hf hw
  exact ⟨x, A4, c4, A5, c5, cells_agg hcs (by simp), g4, l4, g5, l5, fuel, hd⟩
end Go.Proofs.YtejhfghijgbckaaGreatDoor
