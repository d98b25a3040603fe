/- A scope with labels, walked in the text's order: what stands behind its exits is kept behind a name; a jump back to a label is a loop with an invariant that bears a number, a jump forward goes on at the label. -/
import Derived.Scope
import Derived.ScopeJumps
import Derived.Deep.LoopGhost
namespace Go.Proofs.YtfabaenfglionaaGreatDoor
open Go

structure ScopeR (P : Program) (c : Code) (Q : Exit → Act → World → Prop) (l : Nat) (J : Nat → Act → World → Prop) (n : Nat) (Y : Exit → Act → World → Prop) : Prop where
  ret : ∀ {a w}, Q .ret a w → Y .ret a w
  normal : ∀ {a w}, Q .normal a w → Y .normal a w
  exit : ∀ {id a w}, Q (.exit id) a w → Y (.exit id) a w
  pan : ∀ {ch a a' w}, a'.defers = a.defers → Y (.panic ch) a w → Y (.panic ch) a' w
  jump : ∀ {d r a w}, d ≠ l → findLabel c d = some r → r.wp P Y a w → Y (.goto d) a w
  again : ∀ {a w}, Handed J n a w → Y (.goto l) a w

structure ScopeP (P : Program) (c : Code) (Q X : Exit → Act → World → Prop) : Prop where
  ret : ∀ {a w}, Q .ret a w → X .ret a w
  normal : ∀ {a w}, Q .normal a w → X .normal a w
  exit : ∀ {id a w}, Q (.exit id) a w → X (.exit id) a w
  pan : ∀ {ch a a' w}, a'.defers = a.defers → X (.panic ch) a w → X (.panic ch) a' w
  jump : ∀ {d r a w}, findLabel c d = some r → r.wp P X a w → X (.goto d) a w
  loop : ∀ {l r}, findLabel c l = some (.seq .skip r) → ∀ (I : Nat → Act → World → Prop) (n₀ : Nat) {a w}, I n₀ a w →
    (∀ n a w, I n a w → ∀ (J : Nat → Act → World → Prop) (Y : Exit → Act → World → Prop), (∀ k a' w', I k a' w' → J k a' w') → ScopeR P c Q l J n Y → r.wp P Y a w) → r.wp P X a w

section
variable {P : Program} {c : Code} {Q : Exit → Act → World → Prop}
def ScopeGoes (P : Program) (c : Code) (Q : Exit → Act → World → Prop) (r : Code) (a : Act) (w : World) : Prop :=
  ∀ b k cs, ∃ e a' w', Q e a' w' ∧ Arrives P (lone (b.at a (.code r :: .inScope c :: k)) cs w) b k cs e a' w'
def scopeX (P : Program) (c : Code) (Q : Exit → Act → World → Prop) : Exit → Act → World → Prop
  | .goto l, a, w => ∃ r, findLabel c l = some r ∧ ScopeGoes P c Q r a w
  | e, a, w => Q e a w
theorem scope_gotoIn {l : Nat} {r : Code} (hf : findLabel c l = some r) (k : List Item) : gotoIn l (.inScope c :: k) = some (.code r :: .inScope c :: k) := by simp [gotoIn, hf]
theorem scopeGoes_of {r : Code} {a : Act} {w : World} (h : r.wp P (scopeX P c Q) a w) : ScopeGoes P c Q r a w := by
  intro b k cs
  obtain ⟨e, a₁, w₁, hq, harr⟩ := h b (.inScope c :: k) cs
  cases e with
  | normal => exact ⟨.normal, a₁, w₁, hq, Steps.trans harr (.one step_inScope)⟩
  | exit id => exact ⟨.exit id, a₁, w₁, hq, fun k' hk => harr k' (by simp [exitTo, hk])⟩
  | goto l' =>
    obtain ⟨r', hf, hg⟩ := hq
    obtain ⟨e₂, a₂, w₂, hq₂, harr₂⟩ := hg b k cs
    exact ⟨e₂, a₂, w₂, hq₂, .of_steps (harr _ (scope_gotoIn hf k)) harr₂⟩
  | ret => exact ⟨_, a₁, w₁, hq, harr⟩
  | panic ch => exact ⟨_, a₁, w₁, hq, harr⟩
  | outgrown => exact ⟨_, a₁, w₁, hq, harr⟩
theorem scope_loop (hQ : ∀ {ch a a' w}, a'.defers = a.defers → Q (.panic ch) a w → Q (.panic ch) a' w) {l : Nat} {r : Code} (hf : findLabel c l = some (.seq .skip r)) (I : Nat → Act → World → Prop) (n₀ : Nat) {a : Act} {w : World} (h₀ : I n₀ a w)
    (round : ∀ n a w, I n a w → ∀ (J : Nat → Act → World → Prop) (Y : Exit → Act → World → Prop), (∀ k a' w', I k a' w' → J k a' w') → ScopeR P c Q l J n Y → r.wp P Y a w) : r.wp P (scopeX P c Q) a w := by
  have key : ∀ n a w, I n a w → ScopeGoes P c Q (.seq .skip r) a w := by
    intro n
    induction n using Nat.strongRecOn with
    | _ n ih =>
      intro a w hI
      -- every exit but a jump back is as the scope tells it; a jump back goes on by what is known of smaller numbers
      refine scopeGoes_of (wp_seq (wp_skip ?_))
      refine round n a w hI I (scopeX P c Q) (fun _ _ _ h => h) ⟨fun h => h, fun h => h, fun h => h, fun hd h => hQ hd h, fun _ hd hr => ⟨_, hd, scopeGoes_of hr⟩, fun ⟨n', hlt, hI'⟩ => ⟨_, hf, ih n' hlt _ _ hI'⟩⟩
  exact round n₀ a w h₀ I (scopeX P c Q) (fun _ _ _ h => h) ⟨fun h => h, fun h => h, fun h => h, fun hd h => hQ hd h, fun _ hd hr => ⟨_, hd, scopeGoes_of hr⟩, fun ⟨n', _, hI'⟩ => ⟨_, hf, key n' _ _ hI'⟩⟩
theorem wp_label_seq {l : Nat} {r : Code} {a : Act} {w : World} (h : r.wp P Q a w) : ((Code.label l).seq r).wp P Q a w := wp_seq (wp_label h)
theorem wp_scope_sp {a : Act} {w : World} (hQ : ∀ {ch a a' w}, a'.defers = a.defers → Q (.panic ch) a w → Q (.panic ch) a' w) (h : ∀ X, ScopeP P c Q X → c.wp P X a w) : (Code.scope c).wp P Q a w := by
  intro b k cs
  have hc := h (scopeX P c Q) ⟨fun h => h, fun h => h, fun h => h, fun hd h => hQ hd h, fun hd hr => ⟨_, hd, scopeGoes_of hr⟩, fun hf I n₀ _ _ h₀ round => scope_loop hQ hf I n₀ h₀ round⟩
  obtain ⟨e, a', w', hq, harr⟩ := scopeGoes_of hc b k cs
  exact ⟨e, a', w', hq, .of_steps (.one step_scope) harr⟩
end
theorem put_defers (a : Act) (N : Option Tmp) (v : Value) : (a.put N v).defers = a.defers := by cases N <;> rfl
theorem scope_pan {P : Program} {fn : Func} {R : Ending → World → Prop} {ch : List PanicEntry} {a a' : Act} {w : World} (hd : a'.defers = a.defers) (h : bodyPost P fn R (.panic ch) a w) : bodyPost P fn R (.panic ch) a' w := ⟨hd.trans h.1, h.2⟩
end Go.Proofs.YtfabaenfglionaaGreatDoor
