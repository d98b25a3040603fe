/- Rows of bytes as the printed contracts tell them, and their cells. -/
import Derived.Test.YtejhfghijgbckaaGreatDoorAux
import Derived.Test.YtejhfghijgbckaaGreatDoorShelf
import Derived.Shelf.Bytes.SlSmallAll
namespace Go.Proofs.YtejhfghijgbckaaGreatDoor
open Go.RowKit Go.Proofs.YtejhfghijgbckaaGreatDoorW.PrintWords Go.Proofs.YtejhfghijgbckaaGreatDoorW.PrintLast Go.Proofs.YtejhfghijgbckaaGreatDoorW.PrintMore

theorem bytes_cells {w : World} {A : Option Addr} {n : Nat} {l : List Int} (h : Kd.C (Kd.int .u8) w A n l) (hn : 0 < n) :
    ∃ ad, A = some ad ∧ ∀ i, i < n → w.cell? (ad.add i) = some (.int .u8 (l.getD i 0)) := (Kd.reads_of_C (d := (0 : Int)) h).2.2 hn
theorem bytes_in {w : World} {A : Option Addr} {n : Nat} {l : List Int} (h : Kd.C (Kd.int .u8) w A n l) : Lib.BytesIn w A n l := by
  intro hn
  obtain ⟨ad, rfl, hc⟩ := bytes_cells h hn
  exact Lib.BytesIn.of_cells hc hn
theorem bytes_one {w : World} {A : Option Addr} {l : List Int} {cv : Int} (h : Kd.C (Kd.int .u8) w A l.length l) (hl : l = [cv]) :
    ∃ b o, A = some ⟨b, o, none⟩ ∧ w.cell? ⟨b, o, none⟩ = some (.int .u8 cv) := by
  subst hl
  obtain ⟨b, o, rfl, hc⟩ := bytes_in h (by simp)
  exact ⟨b, o, rfl, by simpa using hc 0 (by simp)⟩
def litWorld (w : World) (cs : Array Value) (e : TypeId) : World := (w.alloc (.cells cs e)).freeze ⟨w.heap.size, cs.size, none⟩ 1
theorem run_convert_lit {P : Program} (w : World) (t e : TypeId) (cs : Array Value) (n c : Nat) (hd : P.underlying t = some (.slice e)) (he : P.underlying e = some (.int .u8)) :
    (convert t t (.slice (some ⟨w.heap.size, 0, none⟩) n c)).run P (w.alloc (.cells cs e)) = .ok (.slice (some ⟨w.heap.size, 0, none⟩) n c) (litWorld w cs e) := by
  have hsh : (w.alloc (.cells cs e)).shape? w.heap.size = some (e, cs.size) := by
    simp [World.shape?, World.alloc, -World.alloc_eq]
  simp [convert, run_underlying hd, run_underlying he, markStringish, litWorld, hsh, Result.andThen]
theorem litWorld_new (w : World) (cs : Array Value) (e : TypeId) : (litWorld w cs e).heap[w.heap.size]? = some (.cells cs e (cs.size, cs.size + 1)) := by
  simp [litWorld, World.freeze, World.alloc, -World.alloc_eq]
  rw [Array.getElem_modify_self]
  simp
theorem litWorld_old (w : World) (cs : Array Value) (e : TypeId) (j : Nat) (hj : j < w.heap.size) : (litWorld w cs e).heap[j]? = w.heap[j]? := by
  have h1 : w.heap.size ≠ j := by omega
  simp [litWorld, World.freeze, World.alloc, -World.alloc_eq, Array.getElem?_modify, Array.getElem?_push, h1, Ne.symm h1]
theorem litWorld_below (w : World) (cs : Array Value) (e : TypeId) : Below w.heap.size w (litWorld w cs e) := by
  have hs : (litWorld w cs e).heap.size = w.heap.size + 1 := by simp [litWorld, World.freeze, World.alloc, -World.alloc_eq]
  exact ⟨rfl, rfl, rfl, by rw [hs]; omega, fun k hk => litWorld_old w cs e k hk⟩
theorem litWorld_C (w : World) (e : TypeId) (xs : List Int) (hb : xs.length ≤ 9223372036854775807) : Kd.C (Kd.int .u8) (litWorld w (xs.map (Value.int .u8)).toArray e) (some ⟨w.heap.size, 0, none⟩) xs.length xs := by
  refine ⟨rfl, hb, fun _ => ⟨_, rfl, fun j p hj => ⟨[.int .u8 p], rfl, rfl, fun i u hu => ?_⟩⟩⟩
  obtain rfl : i = 0 := by
    rcases i with _ | i
    · rfl
    · simp at hu
  obtain rfl : Value.int .u8 p = u := by simpa using hu
  have hsz : (Kd.int .u8).sz = 1 := rfl
  rw [hsz, Nat.mul_one, Nat.add_zero, add_plain]
  simp [World.cell?, litWorld_new, hj]
end Go.Proofs.YtejhfghijgbckaaGreatDoor
