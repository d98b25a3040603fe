/- Short names, for the length of the texts. -/
import Derived.Test.YtejhfghijgbckaaGreatDoorPx0
import Derived.Test.YtejhfghijgbckaaGreatDoorWInv
namespace Go.Proofs.YtejhfghijgbckaaGreatDoor
open Go.RowKit Go.Proofs.YtejhfghijgbckaaGreatDoorW.PrintWords Go.Proofs.YtejhfghijgbckaaGreatDoorW.PrintLast Go.Proofs.YtejhfghijgbckaaGreatDoorW.PrintMore
theorem am {p : Prop} (h : p) : Aside0 p := ⟨h⟩
abbrev rA := @Kd.R_alloc
abbrev rN := @Kd.R_drewN
abbrev rD := @Kd.R_drew
abbrev bA := @below_alloc
abbrev bN := @pw_below_drewN
abbrev bD := @below_drew1
abbrev kN := @blk_drewN
abbrev kD := @blk_drew
abbrev kA := @blk_alloc
theorem putSel_free {b : Nat → Bool} {j : Nat} {t : Tmp} {u0 u : Value} : ∀ {L : List (Nat × Tmp × Value)} {a : Act} (k : Nat), b j = false → L[k]? = some (j, t, u0) → putSel a b L = putSel a b (L.set k (j, t, u))
  | [], a, k, hb, h => by simp at h
  | e :: r, a, 0, hb, h => by
    obtain rfl : e = (j, t, u0) := by simpa using h
    simp only [List.set_cons_zero]
    unfold putSel
    rw [if_neg (by rw [hb]; decide), if_neg (by rw [hb]; decide)]
  | e :: r, a, k + 1, hb, h => by
    simp only [List.set_cons_succ]
    unfold putSel
    exact putSel_free k hb (by simpa using h)
theorem putSel_up2 {b : Nat → Bool} {i j : Nat} {t s : Tmp} {v0 v u0 u : Value} {a : Act} {L L' : List (Nat × Tmp × Value)} (k q : Nat) (hb : b i = false) (hj : b j = false) (hL2 : L[q]? = some (j, s, u0)) (hL : (L.set q (j, s, u))[k]? = some (i, t, v0)) (hL' : (L.set q (j, s, u)).set k (i, t, v) = L')
    (hd : (((L.set q (j, s, u)).take k ++ (L.set q (j, s, u)).drop (k + 1)).all fun e => !(e.1 == i) && !(e.2.1 == t)) = true) : (putSel a b L).put (some t) v = putSel a (up b i) L' := by
  rw [putSel_free q hj hL2 (u := u)]
  exact putSel_upk k hb hL hL' hd
def adr : Value → Addr
  | .slice (some a) _ _ => a
  | _ => ⟨0, 0, none⟩
theorem adr_row {α : Type} {d : Kd α} {e base : Nat} {ok : Nat → Prop} {v : Value} {xs : List α} {w : World} (h : Kd.R d e w base ok v xs) (hl : 0 < (xs.length : Int)) : ∃ c, v = .slice (some (adr v)) xs.length c := by
  obtain ⟨A, c, rfl⟩ := Kd.R_slice h
  obtain ⟨a, ha, _⟩ := (Kd.R_reads' h).2.2.2.2 (by omega)
  subst ha
  exact ⟨c, rfl⟩
theorem adr_ne {α : Type} {d : Kd α} {e base : Nat} {ok : Nat → Prop} {v : Value} {xs : List α} {w : World} (_ : Kd.R d e w base ok v xs) (hl : 0 < (xs.length : Int)) : xs ≠ [] := fun h => by rw [h] at hl; simp at hl
class Ext (w W : World) : Prop where
  b : Below w.heap.size w W
instance (w : World) : Ext w w := ⟨Below.refl _ _⟩
instance (w W : World) (o : Obj) [x : Ext w W] : Ext w (W.alloc o) := ⟨below_alloc x.b o⟩
instance (w W : World) (n : Nat) [x : Ext w W] : Ext w (W.drewN n) := ⟨pw_below_drewN x.b n⟩
instance (w W : World) [x : Ext w W] : Ext w W.drew := ⟨below_drew x.b⟩
theorem rx {α : Type} {d : Kd α} {e base : Nat} {ok : Nat → Prop} {v : Value} {xs : List α} {w W w' : World} [x : Ext w W] (h : Kd.R d e w base ok v xs) (hb : Below W.heap.size W w') : Kd.R d e w' base ok v xs := Kd.R_below h (below_step x.b hb)
theorem bx {g : Nat} {o : Obj} {w W w' : World} [x : Ext w W] (h : w.heap[g]? = some o) (hb : Below W.heap.size W w') : w'.heap[g]? = some o := ((below_step x.b hb).block _ (blk_lt h)).trans h
theorem hx {u w W w' : World} [x : Ext w W] (h : Below u.heap.size u w) (hb : Below W.heap.size W w') : Below u.heap.size u w' := below_step h (below_step x.b hb)
end Go.Proofs.YtejhfghijgbckaaGreatDoor
