/- Short names, for the length of the texts: what stands a hundred times in the printed walks is a theorem whose argument is found by the block itself. -/
import Derived.Test.YtfabaenfglionaaGreatDoorGx0
import Derived.Test.YtfabaenfglionaaGreatDoorWInv
namespace Go.Proofs.YtfabaenfglionaaGreatDoor
open Go.RowKit Go.Proofs.YtfabaenfglionaaGreatDoorW.PrintWords Go.Proofs.YtfabaenfglionaaGreatDoorW.PrintLast Go.Proofs.YtfabaenfglionaaGreatDoorW.PrintMore
theorem am {p : Prop} (h : p) : Aside0 p := ⟨h⟩
abbrev rA := @Kd.R_alloc
abbrev rN := @Kd.R_drewN
abbrev rD := @Kd.R_drew
abbrev bA := @below_alloc
abbrev bN := @pw_below_drewN
abbrev bD := @below_drew1
abbrev kN := @blk_drewN
abbrev kD := @blk_drew
abbrev kA := @blk_alloc
class Ext (w W : World) : Prop where
  b : Below w.heap.size w W
instance (w : World) : Ext w w := ⟨Below.refl _ _⟩
instance (w W : World) (o : Obj) [x : Ext w W] : Ext w (W.alloc o) := ⟨below_alloc x.b o⟩
instance (w W : World) (n : Nat) [x : Ext w W] : Ext w (W.drewN n) := ⟨pw_below_drewN x.b n⟩
instance (w W : World) [x : Ext w W] : Ext w W.drew := ⟨below_drew x.b⟩
theorem rx {α : Type} {d : Kd α} {e base : Nat} {ok : Nat → Prop} {v : Value} {xs : List α} {w W w' : World} [x : Ext w W] (h : Kd.R d e w base ok v xs) (hb : Below W.heap.size W w') : Kd.R d e w' base ok v xs := Kd.R_below h (below_step x.b hb)
theorem bx {g : Nat} {o : Obj} {w W w' : World} [x : Ext w W] (h : w.heap[g]? = some o) (hb : Below W.heap.size W w') : w'.heap[g]? = some o := ((below_step x.b hb).block _ (blk_lt h)).trans h
theorem az {p : Prop} (h : p := by first | (with_reducible assumption) | assumption) : p := h
theorem mz {p : Prop} (h : p := by (try simp only [List.map_toArray, List.map_cons, List.map_nil]); first | done | rfl | (simp only [List.length_drop, List.length_take]; rfl)) : p := h
theorem sz {p : Prop} (h : p := by first | rfl | (simp; done) | (simp [*]; done)) : p := h
theorem ez {p : Prop} (h : p := by first | rfl | (simp [errW_none, errW_some] <;> rfl) | (simp [*, errW_none, errW_some] <;> rfl)) : p := h
theorem dz {p : Prop} (h : p := by first | exact ⟨rfl, _, World.drewN_drewN _ _ _⟩ | exact ⟨rfl, _, Eq.trans (World.drewN_drewN _ _ _) (congrArg (World.drewN _) (Nat.add_assoc _ _ _))⟩) : p := h
theorem nl {p : Prop} (h : p := by first | exact Kd.R_nil _ _ _ _ _ | exact Kd.N_nil _ _ _ _ _ | exact Kd.V_nil _ _ _ _ _ | exact Kd.Q_nil _ _ _ _ _ | exact Kd.S_nil _ _ _ _ _) : p := h
theorem bz {n : Nat} {w W : World} (h : Below n w W := by repeat (first | (with_reducible first | exact HB.out | apply bA | apply bN | apply bD) | exact HB.out)) : Below n w W := h
theorem vz {α : Type} {d : Kd α} {e base : Nat} {ok : Nat → Prop} {v : Value} {xs : List α} {w W : World} (h : Kd.V d e w base ok v xs) (g : Kd.V d e w base ok v xs → Kd.V d e W base ok v xs := by intro h_; (with_reducible repeat (first | apply Kd.V_alloc | apply Kd.V_drewN | apply Kd.V_drew)); exact h_) : Kd.V d e W base ok v xs := g h
theorem rz {α : Type} {d : Kd α} {e base : Nat} {ok : Nat → Prop} {v : Value} {xs : List α} {w W : World} (h : Kd.R d e w base ok v xs) (g : Kd.R d e w base ok v xs → Kd.R d e W base ok v xs := by intro h_; (with_reducible repeat (first | apply rA | apply rN | apply rD)); exact h_) : Kd.R d e W base ok v xs := g h
theorem nz {α : Type} {d : Kd α} {e base : Nat} {ok : Nat → Prop} {v : Value} {xs : List α} {w W : World} (h : Kd.N d e w base ok v xs) (g : Kd.N d e w base ok v xs → Kd.N d e W base ok v xs := by intro h_; (with_reducible repeat (first | apply Kd.N_alloc | apply Kd.N_drewN | apply Kd.N_drew)); exact h_) : Kd.N d e W base ok v xs := g h
theorem cz {α : Type} {d : Kd α} {A : Option Addr} {n : Nat} {xs : List α} {w W : World} (h : Kd.C d w A n xs) (g : Kd.C d w A n xs → Kd.C d W A n xs := by intro h_; repeat (first | exact h_ | (with_reducible refine Kd.C_alloc ?_ _) | (with_reducible refine Kd.C_drewN ?_ _) | (with_reducible refine Kd.C_drew ?_))) : Kd.C d W A n xs := g h
end Go.Proofs.YtfabaenfglionaaGreatDoor
