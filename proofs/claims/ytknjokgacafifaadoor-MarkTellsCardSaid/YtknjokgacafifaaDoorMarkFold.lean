/- strings.EqualFold of two texts of one length, of which the second is of ASCII bytes: the tables of unicode.SimpleFold as the row lays them; the two runes beyond ASCII that fold with ASCII letters. -/
import Derived.Lib.LaidU8
import Derived.Lib.OthersKept
import Derived.Laws.RangeAny
import Derived.Lib.MapLaws
import Derived.Lib.Fold
import Derived.Shelf.Unicode.Decode
import Derived.MakeChecks
import Derived.Test.YtknjokgacafifaaDoorRows
import Derived.Test.YtknjokgacafifaaDoorAux
import Derived.Test.YtknjokgacafifaaDoorScope
import Derived.Test.YtknjokgacafifaaDoorShelf
namespace Go.Proofs.YtknjokgacafifaaDoor
open Go.Lib Go.RowKit Go.Proofs.YtknjokgacafifaaDoorW.PrintWords Go.Proofs.YtknjokgacafifaaDoorW.PrintLast Go.Proofs.YtknjokgacafifaaDoorW.PrintMore

def foldF (c : Nat) : Nat := if 65 ≤ c ∧ c ≤ 90 then c + 32 else if c = 107 then 8490 else if c = 115 then 383 else if 97 ≤ c ∧ c ≤ 122 then c - 32 else c
def foldZ : List Int := (List.range 128).map fun c => (foldF c : Int)
def orbitT : List (Nat × Nat) := [(75, 107), (83, 115), (107, 8490), (115, 383), (181, 924), (197, 229), (223, 7838), (229, 8491), (304, 304), (305, 305), (383, 83), (452, 453), (453, 454), (454, 452), (455, 456), (456, 457), (457, 455), (458, 459), (459, 460), (460, 458), (497, 498), (498, 499), (499, 497), (837, 921), (912, 8147), (914, 946), (917, 949), (920, 952), (921, 953), (922, 954), (924, 956), (928, 960), (929, 961), (931, 962), (934, 966), (937, 969), (944, 8163), (946, 976), (949, 1013), (952, 977), (953, 8126), (954, 1008), (956, 181), (960, 982), (961, 1009), (962, 963), (963, 931), (966, 981), (969, 8486), (976, 914), (977, 1012), (981, 934), (982, 928), (1008, 922), (1009, 929), (1012, 920), (1013, 917), (1042, 1074), (1044, 1076), (1054, 1086), (1057, 1089), (1058, 1090), (1066, 1098), (1074, 7296), (1076, 7297), (1086, 7298), (1089, 7299), (1090, 7300), (1098, 7302), (1122, 1123), (1123, 7303), (7296, 1042), (7297, 1044), (7298, 1054), (7299, 1057), (7300, 7301), (7301, 1058), (7302, 1066), (7303, 1122), (7304, 42570), (7776, 7777), (7777, 7835), (7835, 7776), (7838, 223), (8126, 837), (8147, 912), (8163, 944), (8486, 937), (8490, 75), (8491, 197), (42570, 42571), (42571, 7304), (64261, 64262), (64262, 64261)]
def orbA (i : Nat) : Nat := (orbitT.getD i (0, 0)).1
def orbB (i : Nat) : Nat := (orbitT.getD i (0, 0)).2
/-- The two tables lie where the program's variables are. -/
structure Laid (w : World) : Prop where
  fold : ∀ i, i < 128 → w.cell? ⟨1, i, none⟩ = some (.int .u16 (foldF i : Nat))
  orbit : ∃ R o c, w.cell? ⟨2, 0, none⟩ = some (.slice (some ⟨R, o, none⟩) 94 c) ∧ ∀ i, i < 94 → w.cell? ⟨R, o + i * 2, none⟩ = some (.int .u16 (orbA i : Nat)) ∧ w.cell? ⟨R, o + i * 2 + 1, none⟩ = some (.int .u16 (orbB i : Nat))

theorem cell_lt {w : World} {b o : Nat} {v : Value} (h : w.cell? ⟨b, o, none⟩ = some v) : b < w.heap.size := by
  rcases Nat.lt_or_ge b w.heap.size with h1 | h1
  · exact h1
  · have h2 : w.heap[b]? = none := Array.getElem?_eq_none h1
    simp [World.cell?, h2] at h
theorem Laid.below {w w' : World} (h : Laid w) (hb : Below w.heap.size w w') : Laid w' := by
  obtain ⟨h1, R, o, c, h2, h3⟩ := h
  refine ⟨fun i hi => ?_, R, o, c, ?_, fun i hi => ⟨?_, ?_⟩⟩
  · rw [hb.cell (p := ⟨1, i, none⟩) (cell_lt (h1 i hi))]; exact h1 i hi
  · rw [hb.cell (p := ⟨2, 0, none⟩) (cell_lt h2)]; exact h2
  · rw [hb.cell (p := ⟨R, o + i * 2, none⟩) (cell_lt (h3 i hi).1)]; exact (h3 i hi).1
  · rw [hb.cell (p := ⟨R, o + i * 2 + 1, none⟩) (cell_lt (h3 i hi).2)]; exact (h3 i hi).2

set_option maxRecDepth 100000 in
theorem orbit_data : (Rows.laid_unicode_caseOrbit : DataW Unit) = .slice (orbitT.map fun x => .agg ([(x.1 : Int), (x.2 : Int)].map fun z => .lit (.int .u16 z))) [] := by kernel_rfl
set_option maxRecDepth 100000 in
theorem fold_data : (Rows.laid_unicode_asciiFold : DataW Unit) = tabData .u16 foldZ := by kernel_rfl
theorem laid_of_reads {w : World} (h1 : VarReads Tryd.prog w "unicode.asciiFold" Rows.laid_unicode_asciiFold) (h2 : VarReads Tryd.prog w "unicode.caseOrbit" Rows.laid_unicode_caseOrbit) : Laid w := by
  rw [fold_data] at h1
  rw [orbit_data] at h2
  refine ⟨fun c hc => ?_, ?_⟩
  · obtain ⟨g, t, cs, fuel, p, hg, hty, hvar, hd⟩ := h1
    obtain rfl := Option.some.inj ((show Tryd.prog.globalNamed "unicode.asciiFold" = some 1 by kernel_rfl).symm.trans hg)
    obtain rfl := Option.some.inj ((show (Tryd.prog.globals[1]?).map (·.type) = some 59 by kernel_rfl).symm.trans hty)
    have hcs := cells_of_tab Tryd.underlying59 Tryd.underlying58 (by kernel_rfl) (by kernel_rfl) hd
    rw [World.var?_cell hg hvar c, ← Array.getElem?_toList, hcs]
    simp [foldZ, hc]
  · obtain ⟨g, t, cs, fuel, p, hg, hty, hvar, hd⟩ := h2
    obtain rfl := Option.some.inj ((show Tryd.prog.globalNamed "unicode.caseOrbit" = some 2 by kernel_rfl).symm.trans hg)
    obtain rfl := Option.some.inj ((show (Tryd.prog.globals[2]?).map (·.type) = some 60 by kernel_rfl).symm.trans hty)
    rcases DataW.trod_slice Tryd.underlying60 hd with ⟨_, hx'⟩ | ⟨a', len, cap, el, rs, m, rfl, hc0, hx', _, hlc, _, hel, helem, hsp, _⟩
    · cases hx'
    have e0 := congrArg Prod.fst hx'
    simp only [DataW.slice.injEq] at e0
    obtain ⟨eE, eR⟩ := e0
    have hlen : len = 94 := by
      have := congrArg List.length eE
      rw [List.length_map, List.length_map] at this
      have h94 : orbitT.length = 94 := by kernel_rfl
      omega
    subst hlen
    have hcE : Tryd.prog.cellsOf 62 = 2 := by kernel_rfl
    have hrow : ∀ i, i < 94 → ∀ j, j < 2 → w.cell? ((a'.add (i * 2)).add j) = ([.int .u16 (orbA i : Nat), .int .u16 (orbB i : Nat)] : List Value)[j]? := by
      intro i hi j hj
      have h1 := helem i hi
      rw [hcE] at h1
      obtain ⟨b, hb⟩ : ∃ b, el[i]? = some b := ⟨el[i]'(by omega), List.getElem?_eq_getElem (by omega)⟩
      rw [hb] at h1
      obtain ⟨ce, hce, hte⟩ := Option.bind_eq_some_iff.1 h1
      have hb1 : b.1 = .agg (([(orbA i : Int), (orbB i : Int)] : List Int).map fun z => .lit (.int .u16 z)) := by
        have := congrArg (·[i]?) eE
        simp only [List.getElem?_map, hb, Option.map_some] at this
        have hi' : i < orbitT.length := by
          have h94 : orbitT.length = 94 := by kernel_rfl
          omega
        rw [List.getElem?_eq_getElem hi'] at this
        simp only [Option.map_some, Option.some.injEq] at this
        rw [← this]
        unfold orbA orbB
        rw [List.getD_eq_getElem?_getD, List.getElem?_eq_getElem hi']
        rfl
      have hcs := ints_of_struct (p := b.2) Tryd.underlying62 (fun j f hj => by
        match j, hj with
        | 0, hj => simp at hj; subst hj; exact ⟨Tryd.underlying58, rfl, by kernel_rfl⟩
        | 1, hj => simp at hj; subst hj; exact ⟨Tryd.underlying58, rfl, by kernel_rfl⟩
        | j + 2, hj => simp at hj) (by rw [hcE]; rfl) (by rw [← hb1]; exact hte)
      obtain ⟨_, _, hcc⟩ := World.cells?_some hce
      rw [hcc j hj, hcs]
      rfl
    obtain ⟨R, oR, sR⟩ := a'
    obtain rfl : sR = none := by
      have h00 := hrow 0 (by omega) 0 (by omega)
      have : (Addr.add (Addr.add ⟨R, oR, sR⟩ (0 * 2)) 0) = ⟨R, oR, sR⟩ := by simp [Addr.add]
      rw [this] at h00
      exact cell_spot h00
    refine ⟨R, oR, cap, ?_, fun i hi => ?_⟩
    · rw [World.var?_cell hg hvar 0, ← Array.getElem?_toList, hc0]
      rfl
    · have k0 := hrow i hi 0 (by omega)
      have k1 := hrow i hi 1 (by omega)
      rw [Addr.add_lit, Addr.add_lit] at k0 k1
      exact ⟨by simpa using k0, by simpa using k1⟩
theorem laid_of {w : World} {l : List (String × DataW Unit)} (hL : laidMetH Tryd.prog l w) (hp : (l.all fun x => x.2.handleName?.isNone) = true) (h1 : ("unicode.asciiFold", Rows.laid_unicode_asciiFold) ∈ l) (h2 : ("unicode.caseOrbit", Rows.laid_unicode_caseOrbit) ∈ l) : Laid w := by
  rw [MakeChecks.laidMetH_plain _ _ _ hp] at hL
  exact laid_of_reads (laidMet.reads hL h1) (laidMet.reads hL h2)

theorem foldF_lt (c : Nat) (h : c < 128) : foldF c < 65536 := by
  unfold foldF; split
  · omega
  · split
    · omega
    · split
      · omega
      · split <;> omega
set_option maxHeartbeats 1000000 in
set_option maxRecDepth 1000000 in
theorem SimpleFold_low (c : Nat) (hc : c < 128) (w : World) (hL : Laid w) :
    Calls Tryd.prog 30 #[.int .i32 c] w fun e w' => e = .returned (.int .i32 (foldF c : Nat)) ∧ w' = w := by
  have h0 : ¬ (c : Int) < 0 := by omega
  have h1 : ¬ (c : Int) > 1114111 := by omega
  have h2 : (c : Int) < 128 := by omega
  have c0 := hL.fold c hc
  have hf := foldF_lt c hc
  generalize foldF c = f at c0 hf
  clear hL
  go_enter Tryd.func30, Tryd.ntmps30
  go_wp2
  go_ret
  exact ⟨rfl, rfl⟩

set_option maxHeartbeats 1000000 in
set_option maxRecDepth 1000000 in
theorem SimpleFold_orbit (k : Nat) (hk : k < 94) (h128 : 128 ≤ orbA k) (hA : orbA k < 65536) (hB : orbB k < 65536) (hlo : ∀ m, m < k → orbA m < orbA k) (hhi : ∀ m, k ≤ m → m < 94 → orbA k ≤ orbA m) (hall : ∀ m, m < 94 → orbA m < 65536) (w : World) (hL : Laid w) :
    Calls Tryd.prog 30 #[.int .i32 (orbA k : Nat)] w fun e w' => e = .returned (.int .i32 (orbB k : Nat)) ∧ w' = w := by
  obtain ⟨R, o, cp, hv, hT⟩ := hL.orbit
  have HT : Aside (∀ i, i < 94 → w.cell? ⟨R, o + i * 2, none⟩ = some (.int .u16 (orbA i : Nat)) ∧ w.cell? ⟨R, o + i * 2 + 1, none⟩ = some (.int .u16 (orbB i : Nat))) := hT
  have HLO : Aside (∀ m, m < k → orbA m < orbA k) := hlo
  have HHI : Aside (∀ m, k ≤ m → m < 94 → orbA k ≤ orbA m) := hhi
  have HALL : Aside (∀ m, m < 94 → orbA m < 65536) := hall
  clear hT hL hlo hhi hall
  obtain ⟨x, hx⟩ : ∃ x, orbA k = x := ⟨_, rfl⟩
  obtain ⟨y, hy⟩ : ∃ y, orbB k = y := ⟨_, rfl⟩
  have HX0 : Aside (orbA k = x) := hx
  have HY0 : Aside (orbB k = y) := hy
  rw [hx] at hA h128
  rw [hy] at hB
  rw [hx, hy]
  clear hx hy
  have h0 : ¬ (x : Int) < 0 := by omega
  have h1 : ¬ (x : Int) > 1114111 := by omega
  have h2 : ¬ (x : Int) < 128 := by omega
  go_enter Tryd.func30, Tryd.ntmps30
  go_wp2
  go_loopg [3, 4] 94 (fun g s3 s4 wx => wx = w ∧ ∃ lo hi : Nat, s3 = .int .i64 lo ∧ s4 = .int .i64 hi ∧ lo ≤ k ∧ k ≤ hi ∧ hi ≤ 94 ∧ hi - lo ≤ g ∧ (hi = k ∨ hi ≤ 94))
  case atStart => exact ⟨rfl, 0, 94, rfl, rfl, Nat.zero_le _, by omega, by omega, by omega, by omega⟩
  case round =>
    obtain ⟨rfl, lo, hi, rfl, rfl, hlk, hkh, hh, hg, -⟩ := hrel
    by_cases hlt : lo < hi
    · have hz : (lo : Int) < (hi : Int) := by omega
      obtain ⟨m, hm⟩ : ∃ m, (lo + hi) / 2 = m := ⟨_, rfl⟩
      have hmr : lo ≤ m ∧ m < hi := by omega
      have hmz : ((lo : Int) + (hi : Int)) / 2 = (m : Int) := by omega
      obtain ⟨c0, -⟩ := HT.out m (by omega)
      have ha := HALL.out m (by omega)
      obtain ⟨am, ham⟩ : ∃ am, orbA m = am := ⟨_, rfl⟩
      by_cases hmk : m < k
      · have hb := HLO.out m hmk
        rw [HX0.out] at hb
        rw [ham] at c0 ha hb
        have hbz : (am : Int) < (x : Int) := by omega
        clear ham
        go_wp2
        go_roundg (hi - (m + 1))
        case measure => omega
        case rel => exact ⟨rfl, m + 1, hi, by first | rfl | simp, rfl, by omega, by omega, by omega, by omega, by omega⟩
      · have hb := HHI.out m (by omega) (by omega)
        rw [HX0.out] at hb
        rw [ham] at c0 ha hb
        have hbz : ¬ (am : Int) < (x : Int) := by omega
        clear ham
        go_wp2
        go_roundg (m - lo)
        case measure => omega
        case rel => exact ⟨rfl, lo, m, rfl, rfl, by omega, by omega, by omega, by omega, by omega⟩
    · obtain rfl : lo = k := by omega
      obtain rfl : hi = lo := by omega
      have hz : ¬ ((hi : Int) < (hi : Int)) := by omega
      have hn : (hi : Int) < 94 := by omega
      obtain ⟨c0, c1⟩ := HT.out hi hk
      rw [HX0.out] at c0
      rw [HY0.out] at c1
      go_wp2
      go_ret
      exact ⟨rfl, rfl⟩

def nx (r : Nat) : Nat := if r < 128 then foldF r else if r = 8490 then 75 else 83
def good (r : Nat) : Prop := r < 128 ∨ r = 8490 ∨ r = 383
set_option maxRecDepth 100000 in
theorem good_nx {r : Nat} (h : good r) : good (nx r) := by
  rcases h with h | rfl | rfl
  · have key : ∀ c, c < 128 → (nx c < 128 ∨ nx c = 8490 ∨ nx c = 383) := by decide
    exact key r h
  · exact .inl (by decide)
  · exact .inl (by decide)
/-- How many rounds lead back. -/
def back : Nat → Nat → Nat → Prop
  | 0, r, c => r = c
  | m + 1, r, c => r = c ∨ back m (nx r) c
instance (m r c : Nat) : Decidable (back m r c) := by
  induction m generalizing r with
  | zero => exact inferInstanceAs (Decidable (r = c))
  | succ m ih => exact @instDecidableOr _ _ _ (ih (nx r))
set_option maxRecDepth 100000 in
theorem back_all : ∀ c, c < 128 → back 2 (nx c) c := by decide
set_option maxRecDepth 100000 in
theorem SimpleFold_good (r : Nat) (h : good r) (w : World) (hL : Laid w) :
    Calls Tryd.prog 30 #[.int .i32 r] w fun e w' => e = .returned (.int .i32 (nx r : Nat)) ∧ w' = w := by
  rcases h with h | rfl | rfl
  · have e : nx r = foldF r := if_pos h
    rw [e]
    exact SimpleFold_low r h w hL
  · have key : ∀ m, m < 94 → 88 ≤ m → orbA 88 ≤ orbA m := by decide
    exact SimpleFold_orbit 88 (by omega) (by decide) (by decide) (by decide) (by decide) (fun m h1 h2 => key m h2 h1) (by decide) w hL
  · have key : ∀ m, m < 94 → 10 ≤ m → orbA 10 ≤ orbA m := by decide
    exact SimpleFold_orbit 10 (by omega) (by decide) (by decide) (by decide) (by decide) (fun m h1 h2 => key m h2 h1) (by decide) w hL
def asciiB (s : ByteArray) : Bool := s.data.toList.all fun b => decide (b.toNat < 128)
theorem asciiB_at {s : ByteArray} (h : asciiB s = true) (j : Nat) (b : UInt8) (hj : s.data.toList[j]? = some b) : b.toNat < 128 := by
  have := List.all_eq_true.1 h b (List.mem_of_getElem? hj)
  simpa using this
theorem first_bad : ∀ l : List UInt8, (l.all fun b => decide (b.toNat < 128)) = false → ∃ (f : Nat) (b : UInt8), l[f]? = some b ∧ 128 ≤ b.toNat ∧ ∀ (j : Nat) (c : UInt8), j < f → l[j]? = some c → c.toNat < 128
  | [], h => by cases h
  | x :: l, h => by
    by_cases hx : x.toNat < 128
    · rw [List.all_cons, decide_eq_true hx, Bool.true_and] at h
      obtain ⟨f, b, h1, h2, h3⟩ := first_bad l h
      refine ⟨f + 1, b, by simpa using h1, h2, fun j c hj hc => ?_⟩
      cases j with
      | zero => obtain rfl : x = c := by simpa using hc
                exact hx
      | succ j => exact h3 j c (by omega) (by simpa using hc)
    · exact ⟨0, x, rfl, by omega, fun j c hj => absurd hj (by omega)⟩
theorem decode_facts (s : ByteArray) (p : Nat) (hp : p < s.size) : 1 ≤ (Utf8.decode s p).2 ∧ p + (Utf8.decode s p).2 ≤ s.size ∧ (Utf8.decode s p).1 ≤ 1114111 ∧ ((Utf8.decode s p).2 = 1 → (Utf8.decode s p).1 < 128 ∨ (Utf8.decode s p).1 = 65533) ∧ (128 ≤ (s[p]'hp).toNat → 128 ≤ (Utf8.decode s p).1) := by
  have e : s.get! p = s[p]'hp := get_at s p hp
  rw [Lib.decode_at, e]
  have h256 := UInt8.toNat_lt (s[p]'hp)
  generalize (s[p]'hp).toNat = b0 at h256
  rcases decodeN_shape (s.size - p) b0 (s.get! (p + 1)).toNat (s.get! (p + 2)).toNat (s.get! (p + 3)).toNat with ⟨h0, h⟩ | ⟨h0, h1, h2, h3, h⟩ | ⟨h0, h1, h2, h3, h4, h5, h⟩ | ⟨h0, h1, h2, h3, h4, h5, h6, h⟩ | h
  · rw [h]; exact ⟨by omega, by omega, by omega, fun _ => .inl h0, fun h => by omega⟩
  · rw [h]; exact ⟨by omega, by omega, by omega, fun h => by omega, fun _ => h3⟩
  · rw [h]; exact ⟨by omega, by omega, by omega, fun h => by omega, fun _ => by omega⟩
  · rw [h]; exact ⟨by omega, by omega, by omega, fun h => by omega, fun _ => by omega⟩
  · rw [h]; exact ⟨by omega, by omega, by omega, fun _ => .inr rfl, fun _ => by omega⟩
theorem ext_from (s : ByteArray) (a : Nat) : (s.extract a s.size).data.toList = s.data.toList.drop a := by
  have e : (s.extract a s.size).data.toList = (s.data.toList.take s.size).drop a := by simp [ByteArray.data_extract, List.drop_take]
  rw [e, Lib.size_eq, List.take_length]
set_option maxHeartbeats 8000000 in
set_option maxRecDepth 1000000 in
theorem EqualFold_bad (s t : ByteArray) (w : World) (hL : Laid w) (hsz : s.size = t.size) (hs : s.size < 4294967281) (hs2 : asciiB s = false) (ht : asciiB t = true) :
    Calls Tryd.prog 26 #[.string s, .string t] w fun e w' => e = .returned (.bool false) ∧ Below w.heap.size w w' := by
  have HLd := Aside0.mk hL
  have HT : Aside0 (∀ (j : Nat) b, t.data.toList[j]? = some b → b.toNat < 128) := ⟨asciiB_at ht⟩
  obtain ⟨f, bf, hf1, hf2, hf3⟩ := first_bad _ hs2
  have HF1 := Aside0.mk hf1
  have HF2 := Aside0.mk hf2
  have HF3 := Aside0.mk hf3
  have hfs : f < s.size := by rw [Lib.size_eq]; exact (List.getElem?_eq_some_iff.1 hf1).1
  have HTL := Aside0.mk ht
  have hmin : min (s.size : Int) (t.size : Int) = (s.size : Int) := by omega
  clear hL hs2 ht hf1 hf2 hf3
  go_enter Tryd.func26, Tryd.ntmps26
  go_wp2
  refine wp_scope_sp scope_pan ?_
  intro X HX
  go_wp2
  go_loopg [5] s.size (fun g s5 wx => w = wx ∧ ∃ i : Nat, i + g = s.size ∧ s5 = .int .i64 i ∧ i ≤ f)
  case atStart => exact ⟨rfl, 0, by omega, rfl, Nat.zero_le _⟩
  case round =>
    obtain ⟨rfl, i, hig, rfl, hif⟩ := hrel
    cases gk with
    | zero => exact absurd hfs (by omega)
    | succ g =>
      have hisz : (i : Int) < (s.size : Int) := by omega
      have hitz : (i : Int) < (t.size : Int) := by omega
      obtain ⟨x, hx⟩ : ∃ x : UInt8, s[i]'(by omega) = x := ⟨_, rfl⟩
      obtain ⟨y, hy⟩ : ∃ y : UInt8, t[i]'(by omega) = y := ⟨_, rfl⟩
      have hxl : s.data.toList[i]? = some x := by rw [← hx]; exact Lib.data_getElem? s i (by omega)
      have hyl : t.data.toList[i]? = some y := by rw [← hy]; exact Lib.data_getElem? t i (by omega)
      have hy128 : y.toNat < 128 := HT.out i y hyl
      have hx256 := UInt8.toNat_lt x
      have hor : bits .or .u8 (x.toNat : Int) (y.toNat : Int) = ((x.toNat ||| y.toNat : Nat) : Int) := u8_or_nat _ _ (by omega) (by omega)
      by_cases hlt : i < f
      · have hx128 : x.toNat < 128 := HF3.out i x hlt hxl
        have hor128 : ¬ ((128 : Int) ≤ ((x.toNat ||| y.toNat : Nat) : Int)) := by have := Nat.or_lt_two_pow (n := 7) hx128 hy128; omega
        clear hxl hyl
        go_wp2
        all_goals (try simp only [beq_iff_eq, beq_eq_false_iff_ne, ne_eq] at *)
        all_goals first
          | (go_roundg g
             case measure => omega
             case rel => exact ⟨rfl, i + 1, by omega, by first | rfl | simp, by omega⟩)
          | ((try simp only [Exit.then, Exit.inBlock])
             refine HX.ret ?_
             go_ret
             exact ⟨rfl, Below.refl _ _⟩)
      · obtain rfl : i = f := by omega
        have hxb : x = bf := by have := HF1.out; rw [hxl] at this; exact Option.some.inj this
        have hx128 : 128 ≤ x.toNat := by rw [hxb]; exact HF2.out
        have hor128 : (128 : Int) ≤ ((x.toNat ||| y.toNat : Nat) : Int) := by have := Nat.left_le_or (n := x.toNat) (m := y.toNat); omega
        clear hxl hyl hxb
        go_wp2
        go_step3
        (try simp only [Exit.then, Exit.inBlock])
        first | refine HX.jump (by decide) rfl ?_ | refine HX.jump rfl ?_
        obtain ⟨s1, hs1⟩ : ∃ s1, s.extract i s.size = s1 := ⟨_, rfl⟩
        obtain ⟨t1, ht1⟩ : ∃ t1, t.extract i t.size = t1 := ⟨_, rfl⟩
        have hl1 : s1.data.toList = s.data.toList.drop i := by rw [← hs1]; exact ext_from s i
        have hl2 : t1.data.toList = t.data.toList.drop i := by rw [← ht1]; exact ext_from t i
        have HN := Aside0.mk (show t1.size = s1.size ∧ 0 < s1.size ∧ s1.size < 4294967281 by
          rw [Lib.size_eq, Lib.size_eq, hl1, hl2, List.length_drop, List.length_drop, ← Lib.size_eq, ← Lib.size_eq]; omega)
        have HA := Aside0.mk (show asciiB t1 = true by
          unfold asciiB
          rw [hl2, List.all_eq_true]
          have := HTL.out
          unfold asciiB at this
          rw [List.all_eq_true] at this
          exact fun x hx => this x (List.mem_of_mem_drop hx))
        have HB0 := Aside0.mk (show ∀ h : 0 < s1.size, 128 ≤ (s1[0]'h).toNat by
          intro h
          have e := Lib.data_getElem? s1 0 h
          rw [hl1, List.getElem?_drop, Nat.add_zero, HF1.out] at e
          rw [← Option.some.inj e]
          exact HF2.out)
        have hii : (i : Int) ≤ (s.size : Int) := by omega
        have hii2 : (i : Int) ≤ (t.size : Int) := by omega
        have hs1b : s.extract i t.size = s1 := by rw [← hsz]; exact hs1
        clear hs1 hl1 hl2 HT HF1 HF2 HF3 HTL hx hy hx128 hor hor128 hx256 hy128 hmin
        go_wp2
        go_loopg [1] s1.size (fun g s1v wx => ∃ (p j : Nat) (t2 : ByteArray), s1v = .string t2 ∧ wx = w.iter s1 p ∧ Aside0 (p + g = s1.size ∧ t2.size + j = s1.size ∧ ((p = 0 ∧ j = 0) ∨ j < p)) ∧ Aside0 (asciiB t2 = true))
        case atStart => exact ⟨0, 0, t1, rfl, rfl, ⟨by omega, by have := HN.out; omega, .inl ⟨rfl, rfl⟩⟩, HA⟩
        case round =>
          obtain ⟨p, j, t2, rfl, rfl, HP, HA2⟩ := hrel
          clear hs1b ht1
          cases gk with
          | zero =>
            have hpe : ¬ p < s1.size := by have := HP.out; omega
            have hnx := run_next_end (P := Tryd.prog) w s1 p
            have hp1 : p = s1.size := by have := HP.out; omega
            have hne : ((t2.size : Int) == 0) = false := beq_eq_false_iff_ne.2 (by have := HP.out; have := HN.out; omega)
            subst hp1
            go_wp2
            refine HX.ret ?_
            go_ret
            exact ⟨rfl, below_alloc (Below.refl _ _) _⟩
          | succ g =>
            have hp : p < s1.size := by have := HP.out; omega
            obtain ⟨d1, d2, d3, d4, d5⟩ := decode_facts s1 p hp
            have hnx := fun ty => run_next_any (P := Tryd.prog) w s1 p ty hp
            have D0 : Aside0 (p = 0 → 128 ≤ (Utf8.decode s1 p).1) := ⟨fun h => by subst h; exact d5 (HB0.out hp)⟩
            obtain ⟨sr, hsr⟩ : ∃ sr, (Utf8.decode s1 p).1 = sr := ⟨_, rfl⟩
            obtain ⟨wd, hwd⟩ : ∃ wd, (Utf8.decode s1 p).2 = wd := ⟨_, rfl⟩
            rw [hsr] at d3 d4
            rw [hwd] at d1 d2 d4
            simp only [hsr, hwd] at hnx D0
            have D1 := Aside0.mk (show 1 ≤ wd ∧ p + wd ≤ s1.size from ⟨d1, d2⟩)
            have D4 := Aside0.mk d4
            clear hsr hwd d1 d2 d4 d5
            have h2 : 0 < t2.size := by have := HP.out; omega
            have hne : ((t2.size : Int) == 0) = false := beq_eq_false_iff_ne.2 (by omega)
            obtain ⟨y, hy⟩ : ∃ y : UInt8, t2[0]'h2 = y := ⟨_, rfl⟩
            have hyl : t2.data.toList[0]? = some y := by rw [← hy]; exact Lib.data_getElem? t2 0 h2
            have hy128 : y.toNat < 128 := asciiB_at HA2.out 0 y hyl
            have HY := Aside0.mk hyl
            clear hy hyl
            have hone : (1 : Int) ≤ (t2.size : Int) := by omega
            have HA3 := Aside0.mk (show asciiB (t2.extract 1 t2.size) = true by
              have := HA2.out
              unfold asciiB at this ⊢
              rw [ext_from]
              rw [List.all_eq_true] at this ⊢
              exact fun x hx => this x (List.mem_of_mem_drop hx))
            have HS3 := Aside0.mk (show (t2.extract 1 t2.size).size + 1 = t2.size by rw [Lib.size_eq, ext_from, List.length_drop, ← Lib.size_eq]; omega)
            by_cases hlow : sr < 128
            · have HJ := Aside0.mk (show j < p by
                have h1 := HP.out.2.2
                have h2 := D0.out
                omega)
              clear D0 D4
              go_wp2_with (go_at_call 29; refine (Tryd.utf8_DecodeRuneInString_ascii t2 y _ HY.out hy128).mono ?_; rintro e w' ⟨rfl, hw⟩; rw [hw])
              all_goals first
                | (go_roundg (s1.size - (p + wd))
                   case measure => have := HP.out; have := D1.out; omega
                   case rel => exact ⟨p + wd, j + 1, t2.extract 1 t2.size, rfl, rfl, ⟨by have := D1.out; omega, by have := HP.out; have := HS3.out; omega, .inr (by have := HJ.out; have := D1.out; omega)⟩, HA3⟩)
                | (refine HX.ret ?_
                   go_ret
                   exact ⟨rfl, below_alloc (Below.refl _ _) _⟩)
            · have hlt : (y.toNat : Int) < (sr : Int) := by omega
              have hnlt : ¬ (sr : Int) < 128 := by omega
              have heq : ((y.toNat : Int) == (sr : Int)) = false := beq_eq_false_iff_ne.2 (by omega)
              have hLw := Aside0.mk (Laid.below (w' := w.iter s1 (p + wd)) HLd.out (below_alloc (Below.refl _ _) _))
              have HSR := Aside0.mk hlow
              clear hlow
              go_wp2_with (first | (go_at_call 29; refine (Tryd.utf8_DecodeRuneInString_ascii t2 y _ HY.out hy128).mono ?_; rintro e w' ⟨rfl, hw⟩; rw [hw]) | (go_at_call 30; refine (SimpleFold_good y.toNat (.inl hy128) _ hLw.out).mono ?_; rintro e w' ⟨rfl, hw⟩; rw [hw]))
              go_loopg [13] 2 (fun g2 s13 wx => wx = w.iter s1 (p + wd) ∧ ∃ r : Nat, s13 = .int .i32 r ∧ Aside0 (good r) ∧ Aside0 (back g2 r y.toNat))
              case atStart => exact ⟨rfl, nx y.toNat, rfl, ⟨good_nx (.inl hy128)⟩, ⟨back_all y.toNat hy128⟩⟩
              case round =>
                obtain ⟨rfl, r, rfl, HG, HBK⟩ := hrel
                have hr65 : r < 65536 := by have := HG.out; unfold good at this; omega
                by_cases hry : r = y.toNat
                · have e1 : ((r : Int) == (y.toNat : Int)) = true := beq_iff_eq.2 (by omega)
                  have e3 : ((r : Int) != (y.toNat : Int)) = false := bne_eq_false_iff_eq.2 (by omega)
                  have e2 : ((r : Int) == (sr : Int)) = false := beq_eq_false_iff_ne.2 (by omega)
                  clear hry
                  go_wp2
                  refine HX.ret ?_
                  go_ret
                  exact ⟨rfl, below_alloc (Below.refl _ _) _⟩
                · have e1 : ((r : Int) == (y.toNat : Int)) = false := beq_eq_false_iff_ne.2 (by omega)
                  have e3 : ((r : Int) != (y.toNat : Int)) = true := bne_iff_ne.2 (by omega)
                  by_cases hrs : (r : Int) < (sr : Int)
                  · have HBK2 : Aside0 (∃ m, gk = m + 1 ∧ back m (nx r) y.toNat) := by
                      have hb := HBK.out
                      cases gk with
                      | zero => exact absurd hb hry
                      | succ m => exact ⟨m, rfl, hb.resolve_left hry⟩
                    clear hry
                    go_wp2_with (go_at_call 30; refine (SimpleFold_good r HG.out _ hLw.out).mono ?_; rintro e w' ⟨rfl, hw⟩; rw [hw])
                    go_roundg (gk - 1)
                    case measure => obtain ⟨m, hm, _⟩ := HBK2.out; omega
                    case rel => exact ⟨rfl, nx r, rfl, ⟨good_nx HG.out⟩, ⟨by obtain ⟨m, hm, hb⟩ := HBK2.out; rw [hm]; exact hb⟩⟩
                  · by_cases hre : r = sr
                    · have e2 : ((r : Int) == (sr : Int)) = true := beq_iff_eq.2 (by omega)
                      have HW2 := Aside0.mk (show p = 0 → 2 ≤ wd by
                        intro _
                        have h4 := D4.out
                        have h1 := D1.out
                        have h6 := HG.out
                        have h7 := HSR.out
                        unfold good at h6
                        rcases Nat.lt_or_ge wd 2 with hw2 | hw2
                        · rcases h4 (by omega) with h8 | h8 <;> omega
                        · exact hw2)
                      clear hry hre
                      go_wp2
                      go_roundg (s1.size - (p + wd))
                      case measure => have := HP.out; have := D1.out; omega
                      case rel => exact ⟨p + wd, j + 1, t2.extract 1 t2.size, rfl, rfl, ⟨by have := D1.out; omega, by have := HP.out; have := HS3.out; omega, .inr (by have := HP.out.2.2; have := HW2.out; have := D1.out; omega)⟩, HA3⟩
                    · have e2 : ((r : Int) == (sr : Int)) = false := beq_eq_false_iff_ne.2 (by omega)
                      clear hry hre
                      go_wp2
                      refine HX.ret ?_
                      go_ret
                      exact ⟨rfl, below_alloc (Below.refl _ _) _⟩

theorem equalFold_bad : ∀ (l m : List UInt8), l.length = m.length → (l.all fun b => decide (b.toNat < 128)) = false → (m.all fun b => decide (b.toNat < 128)) = true → Lib.equalFold l m = false
  | [], _, _, h, _ => by cases h
  | x :: l, [], h, _, _ => by cases h
  | x :: l, y :: m, h, h1, h2 => by
    rw [List.all_cons, Bool.and_eq_true, decide_eq_true_eq] at h2
    cases hf : Lib.foldEq x y with
    | false => exact Lib.equalFold_no x y l m hf
    | true =>
      rw [Lib.equalFold_yes x y l m hf]
      have hx : x.toNat < 128 := by
        unfold Lib.foldEq at hf
        have := of_decide_eq_true hf
        omega
      rw [List.all_cons, decide_eq_true hx, Bool.true_and] at h1
      exact equalFold_bad l m (by simpa using h) h1 h2.2
end Go.Proofs.YtknjokgacafifaaDoor
