/- Short names, for the length of the texts. -/
import Derived.Test.YtejhfghijgbckaaGreatDoorPx0
import Derived.Test.YtejhfghijgbckaaGreatDoorWInv
namespace Go.Proofs.YtejhfghijgbckaaGreatDoor
open Go.RowKit Go.Proofs.YtejhfghijgbckaaGreatDoorW.PrintWords Go.Proofs.YtejhfghijgbckaaGreatDoorW.PrintLast Go.Proofs.YtejhfghijgbckaaGreatDoorW.PrintMore
theorem am {p : Prop} (h : p) : Aside0 p := ⟨h⟩
abbrev rA := @Kd.R_alloc
abbrev rN := @Kd.R_drewN
abbrev rD := @Kd.R_drew
abbrev bA := @below_alloc
abbrev bN := @pw_below_drewN
abbrev bD := @below_drew1
abbrev kN := @blk_drewN
abbrev kD := @blk_drew
abbrev kA := @blk_alloc
class Ext (w W : World) : Prop where
  b : Below w.heap.size w W
instance (w : World) : Ext w w := ⟨Below.refl _ _⟩
instance (w W : World) (o : Obj) [x : Ext w W] : Ext w (W.alloc o) := ⟨below_alloc x.b o⟩
instance (w W : World) (n : Nat) [x : Ext w W] : Ext w (W.drewN n) := ⟨pw_below_drewN x.b n⟩
instance (w W : World) [x : Ext w W] : Ext w W.drew := ⟨below_drew x.b⟩
theorem rx {α : Type} {d : Kd α} {e base : Nat} {ok : Nat → Prop} {v : Value} {xs : List α} {w W w' : World} [x : Ext w W] (h : Kd.R d e w base ok v xs) (hb : Below W.heap.size W w') : Kd.R d e w' base ok v xs := Kd.R_below h (below_step x.b hb)
theorem bx {g : Nat} {o : Obj} {w W w' : World} [x : Ext w W] (h : w.heap[g]? = some o) (hb : Below W.heap.size W w') : w'.heap[g]? = some o := ((below_step x.b hb).block _ (blk_lt h)).trans h
theorem hx {u w W w' : World} [x : Ext w W] (h : Below u.heap.size u w) (hb : Below W.heap.size W w') : Below u.heap.size u w' := below_step h (below_step x.b hb)
end Go.Proofs.YtejhfghijgbckaaGreatDoor
