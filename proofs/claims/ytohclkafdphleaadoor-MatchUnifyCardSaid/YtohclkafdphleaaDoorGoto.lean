/- A scope with one label to which the run jumps back, walked as a loop: the label is the loop's head, each goto a round's end. No conditions. -/
import Derived.ScopeJumps
import Derived.WalkMore
import Derived.Deep.LoopGhost
namespace Go.Proofs.YtohclkafdphleaaDoor
open Go
section
variable {P : Program} {Q : Exit → Act → World → Prop} {a : Act} {w : World}
/-- From the label on the run ends in Q, after whatever jumps. -/
inductive Jumped (P : Program) (Q : Exit → Act → World → Prop) (l : Nat) (rest : Code) : Act → World → Prop
  | mk (J : Act → World → Prop) (a : Act) (w : World) (hJ : ∀ a' w', J a' w' → Jumped P Q l rest a' w') (h : rest.wp P (Exit.jump l J Q) a w) : Jumped P Q l rest a w

theorem wp_scope_any {c rest : Code} (l : Nat) (hf : findLabel c l = some rest) (first : c.wp P (Exit.jump l (Jumped P Q l rest) Q) a w) : (Code.scope c).wp P Q a w := by
  intro b k cs
  have hg : gotoIn l (.inScope c :: k) = some (.code rest :: .inScope c :: k) := by simp [gotoIn, hf]
  have key : ∀ a w, Jumped P Q l rest a w → ∃ e a' w', Q e a' w' ∧ Arrives P (lone (b.at a (.code rest :: .inScope c :: k)) cs w) b k cs e a' w' := by
    intro a w h
    induction h with
    | mk J a w hJ h ih =>
      obtain ⟨e, a₁, w₁, hq, harr⟩ := h b (.inScope c :: k) cs
      cases e with
      | normal => exact ⟨.normal, a₁, w₁, hq, Steps.trans harr (.one step_inScope)⟩
      | exit id => exact ⟨.exit id, a₁, w₁, hq, fun k' hk => harr k' (by simp [exitTo, hk])⟩
      | goto l' =>
        obtain ⟨rfl, hJ'⟩ := hq
        obtain ⟨e₂, a₂, w₂, hq₂, harr₂⟩ := ih _ _ hJ'
        exact ⟨e₂, a₂, w₂, hq₂, .of_steps (harr _ hg) harr₂⟩
      | ret => exact ⟨_, a₁, w₁, hq, harr⟩
      | panic ch => exact ⟨_, a₁, w₁, hq, harr⟩
      | outgrown => exact ⟨_, a₁, w₁, hq, harr⟩
  obtain ⟨e, a₁, w₁, hq, harr⟩ := first b (.inScope c :: k) cs
  cases e with
  | normal => exact ⟨.normal, a₁, w₁, hq, .head step_scope (Steps.trans harr (.one step_inScope))⟩
  | exit id => exact ⟨.exit id, a₁, w₁, hq, fun k' hk => .head step_scope (harr k' (by simp [exitTo, hk]))⟩
  | goto l' =>
    obtain ⟨rfl, hJ'⟩ := hq
    obtain ⟨e₂, a₂, w₂, hq₂, harr₂⟩ := key a₁ w₁ hJ'
    exact ⟨e₂, a₂, w₂, hq₂, .of_steps (.head step_scope (harr _ hg)) harr₂⟩
  | ret => exact ⟨_, a₁, w₁, hq, .of_steps (.one step_scope) harr⟩
  | panic ch => exact ⟨_, a₁, w₁, hq, .of_steps (.one step_scope) harr⟩
  | outgrown => exact ⟨_, a₁, w₁, hq, .of_steps (.one step_scope) harr⟩

/-- What the walk's end asks at a way out that is no jump. -/
theorem jump_ret {l : Nat} {J : Act → World → Prop} : Exit.jump l J Q .ret a w = Q .ret a w := rfl

theorem wp_jumped_loop {rest : Code} (l : Nat) (I : Nat → Act → World → Prop) (n₀ : Nat) (h₀ : I n₀ a w)
    (round : ∀ n a w, I n a w → ∀ (J : Nat → Act → World → Prop) (K : Act → World → Prop), (∀ k a' w', I k a' w' → J k a' w') → (∀ a' w', Handed J n a' w' → K a' w') → rest.wp P (Exit.jump l K Q) a w) :
    rest.wp P (Exit.jump l (Jumped P Q l (Code.skip.seq rest)) Q) a w := by
  have key : ∀ n a w, I n a w → Jumped P Q l (Code.skip.seq rest) a w := by
    intro n
    induction n using Nat.strongRecOn with
    | _ n ih =>
      intro a w h
      refine .mk (fun a' w' => ∃ n', n' < n ∧ I n' a' w') a w (fun a' w' hq => ?_) (wp_seq (wp_skip (round n a w h I _ (fun _ _ _ q => q) fun _ _ q => q)))
      obtain ⟨n', hlt, hI⟩ := hq
      exact ih n' hlt a' w' hI
  have h1 := round n₀ a w h₀ I _ (fun _ _ _ q => q) fun _ _ q => q
  refine wp_mono h1 ?_
  intro e a' w' hq
  cases e with
  | goto l' =>
    obtain ⟨e1, n', _, hI⟩ := hq
    exact ⟨e1, key n' a' w' hI⟩
  | normal => exact hq
  | exit id => exact hq
  | ret => exact hq
  | panic ch => exact hq
  | outgrown => exact hq
theorem wp_goto_jump {l : Nat} {K : Act → World → Prop} (h : K a w) : (Code.goto l).wp P (Exit.jump l K Q) a w := wp_goto ⟨rfl, h⟩
end
end Go.Proofs.YtohclkafdphleaaDoor
