/- A scope with one label to which the run jumps back, walked as a loop: the label is the loop's head, each goto a round's end. No conditions. -/
import Derived.ScopeJumps
import Derived.WalkMore
import Derived.Deep.LoopGhost
namespace Go.Proofs.YteffiodbflmfkaaDoor
open Go
section
variable {P : Program} {Q : Exit → Act → World → Prop} {a : Act} {w : World}
/-- From the label on the run ends in Q, after whatever jumps. -/
inductive Jumped (P : Program) (Q : Exit → Act → World → Prop) (l : Nat) (rest : Code) : Act → World → Prop
 | mk (J : Act → World → Prop) (a : Act) (w : World) (hJ : ∀ a' w', J a' w' → Jumped P Q l rest a' w') (h : rest.wp P (Exit.jump l J Q) a w) : Jumped P Q l rest a w

theorem wp_scope_any {c rest : Code} (l : Nat) (hf : findLabel c l = some rest) (first : c.wp P (Exit.jump l (Jumped P Q l rest) Q) a w) : (Code.scope c).wp P Q a w := by
 intro b k cs
 have hg : gotoIn l (.inScope c :: k) = some (.code rest :: .inScope c :: k) := by simp [gotoIn, hf]
 have key : ∀ a w, Jumped P Q l rest a w → ∃ e a' w', Q e a' w' ∧ Arrives P (lone (b.at a (.code rest :: .inScope c :: k)) cs w) b k cs e a' w' := by
  intro a w h
  induction h with
  | mk J a w hJ h ih =>
   obtain ⟨e, a₁, w₁, hq, harr⟩ := h b (.inScope c :: k) cs
   cases e with
   | normal => exact ⟨.normal, a₁, w₁, hq, Steps.trans harr (.one step_inScope)⟩
   | exit id => exact ⟨.exit id, a₁, w₁, hq, fun k' hk => harr k' (by simp [exitTo, hk])⟩
   | goto l' =>
    obtain ⟨rfl, hJ'⟩ := hq
    obtain ⟨e₂, a₂, w₂, hq₂, harr₂⟩ := ih _ _ hJ'
    exact ⟨e₂, a₂, w₂, hq₂, .of_steps (harr _ hg) harr₂⟩
   | ret => exact ⟨_, a₁, w₁, hq, harr⟩
   | panic ch => exact ⟨_, a₁, w₁, hq, harr⟩
   | outgrown => exact ⟨_, a₁, w₁, hq, harr⟩
 obtain ⟨e, a₁, w₁, hq, harr⟩ := first b (.inScope c :: k) cs
 cases e with
 | normal => exact ⟨.normal, a₁, w₁, hq, .head step_scope (Steps.trans harr (.one step_inScope))⟩
 | exit id => exact ⟨.exit id, a₁, w₁, hq, fun k' hk => .head step_scope (harr k' (by simp [exitTo, hk]))⟩
 | goto l' =>
  obtain ⟨rfl, hJ'⟩ := hq
  obtain ⟨e₂, a₂, w₂, hq₂, harr₂⟩ := key a₁ w₁ hJ'
  exact ⟨e₂, a₂, w₂, hq₂, .of_steps (.head step_scope (harr _ hg)) harr₂⟩
 | ret => exact ⟨_, a₁, w₁, hq, .of_steps (.one step_scope) harr⟩
 | panic ch => exact ⟨_, a₁, w₁, hq, .of_steps (.one step_scope) harr⟩
 | outgrown => exact ⟨_, a₁, w₁, hq, .of_steps (.one step_scope) harr⟩

/-- What the walk's end asks at a way out that is no jump. -/
theorem jump_ret {l : Nat} {J : Act → World → Prop} : Exit.jump l J Q .ret a w = Q .ret a w := rfl

theorem wp_jumped_loop {rest : Code} (l : Nat) (I : Nat → Act → World → Prop) (n₀ : Nat) (h₀ : I n₀ a w)
  (round : ∀ n a w, I n a w → ∀ (J : Nat → Act → World → Prop) (K : Act → World → Prop), (∀ k a' w', I k a' w' → J k a' w') → (∀ a' w', Handed J n a' w' → K a' w') → rest.wp P (Exit.jump l K Q) a w) :
  rest.wp P (Exit.jump l (Jumped P Q l (Code.skip.seq rest)) Q) a w := by
 have key : ∀ n a w, I n a w → Jumped P Q l (Code.skip.seq rest) a w := by
  intro n
  induction n using Nat.strongRecOn with
  | _ n ih =>
   intro a w h
   refine .mk (fun a' w' => ∃ n', n' < n ∧ I n' a' w') a w (fun a' w' hq => ?_) (wp_seq (wp_skip (round n a w h I _ (fun _ _ _ q => q) fun _ _ q => q)))
   obtain ⟨n', hlt, hI⟩ := hq
   exact ih n' hlt a' w' hI
 have h1 := round n₀ a w h₀ I _ (fun _ _ _ q => q) fun _ _ q => q
 refine wp_mono h1 ?_
 intro e a' w' hq
 cases e with
 | goto l' =>
  obtain ⟨e1, n', _, hI⟩ := hq
  exact ⟨e1, key n' a' w' hI⟩
 | normal => exact hq
 | exit id => exact hq
 | ret => exact hq
 | panic ch => exact hq
 | outgrown => exact hq
/-! two labels, the second one behind the first -/
/-- As Q; by a goto to label l: J. -/
def Exit.jumpE (l : Nat) (J : Act → World → Prop) (Q : Exit → Act → World → Prop) : Exit → Act → World → Prop
 | .goto l', a, w => cond (Nat.beq l' l) (l' = l ∧ J a w) (Q (.goto l') a w)
 | e, a, w => Q e a w
theorem jumpE_ret {l : Nat} {J : Act → World → Prop} : Exit.jumpE l J Q .ret a w = Q .ret a w := rfl
abbrev Two (l0 l1 : Nat) (J0 J1 : Act → World → Prop) (Q : Exit → Act → World → Prop) : Exit → Act → World → Prop := Exit.jumpE l1 J1 (Exit.jump l0 J0 Q)
inductive Jumped2 (P : Program) (Q : Exit → Act → World → Prop) (l0 l1 : Nat) (rest0 rest1 : Code) : Bool → Act → World → Prop
 | zero (J0 J1 : Act → World → Prop) (a : Act) (w : World) (h0 : ∀ a' w', J0 a' w' → Jumped2 P Q l0 l1 rest0 rest1 false a' w') (h1 : ∀ a' w', J1 a' w' → Jumped2 P Q l0 l1 rest0 rest1 true a' w') (h : rest0.wp P (Two l0 l1 J0 J1 Q) a w) : Jumped2 P Q l0 l1 rest0 rest1 false a w
 | one (J0 J1 : Act → World → Prop) (a : Act) (w : World) (h0 : ∀ a' w', J0 a' w' → Jumped2 P Q l0 l1 rest0 rest1 false a' w') (h1 : ∀ a' w', J1 a' w' → Jumped2 P Q l0 l1 rest0 rest1 true a' w') (h : rest1.wp P (Two l0 l1 J0 J1 Q) a w) : Jumped2 P Q l0 l1 rest0 rest1 true a w
theorem two_goto {l0 l1 l : Nat} {J0 J1 : Act → World → Prop} (h : Two l0 l1 J0 J1 Q (.goto l) a w) : (l = l1 ∧ J1 a w) ∨ (l = l0 ∧ J0 a w) := by
 have h' : cond (Nat.beq l l1) (l = l1 ∧ J1 a w) (l = l0 ∧ J0 a w) := h
 cases e : Nat.beq l l1 with
 | true => rw [e] at h'; exact .inl h'
 | false => rw [e] at h'; exact .inr h'
theorem wp_scope_two {c rest0 rest1 : Code} (l0 l1 : Nat) (hf0 : findLabel c l0 = some rest0) (hf1 : findLabel c l1 = some rest1) (first : c.wp P (Two l0 l1 (Jumped2 P Q l0 l1 rest0 rest1 false) (Jumped2 P Q l0 l1 rest0 rest1 true) Q) a w) : (Code.scope c).wp P Q a w := by
 intro b k cs
 have hg0 : gotoIn l0 (.inScope c :: k) = some (.code rest0 :: .inScope c :: k) := by simp [gotoIn, hf0]
 have hg1 : gotoIn l1 (.inScope c :: k) = some (.code rest1 :: .inScope c :: k) := by simp [gotoIn, hf1]
 have key : ∀ z a w, Jumped2 P Q l0 l1 rest0 rest1 z a w → ∃ e a' w', Q e a' w' ∧ Arrives P (lone (b.at a (.code (if z then rest1 else rest0) :: .inScope c :: k)) cs w) b k cs e a' w' := by
  intro z a w h
  induction h with
  | zero J0 J1 a w h0 h1 h ih0 ih1 =>
   obtain ⟨e, a₁, w₁, hq, harr⟩ := h b (.inScope c :: k) cs
   cases e with
   | normal => exact ⟨.normal, a₁, w₁, hq, Steps.trans harr (.one step_inScope)⟩
   | exit id => exact ⟨.exit id, a₁, w₁, hq, fun k' hk => harr k' (by simp [exitTo, hk])⟩
   | goto l' =>
    rcases two_goto hq with ⟨rfl, hJ'⟩ | ⟨rfl, hJ'⟩
    ·obtain ⟨e₂, a₂, w₂, hq₂, harr₂⟩ := ih1 _ _ hJ'
     exact ⟨e₂, a₂, w₂, hq₂, .of_steps (harr _ hg1) harr₂⟩
    ·obtain ⟨e₂, a₂, w₂, hq₂, harr₂⟩ := ih0 _ _ hJ'
     exact ⟨e₂, a₂, w₂, hq₂, .of_steps (harr _ hg0) harr₂⟩
   | ret => exact ⟨_, a₁, w₁, hq, harr⟩
   | panic ch => exact ⟨_, a₁, w₁, hq, harr⟩
   | outgrown => exact ⟨_, a₁, w₁, hq, harr⟩
  | one J0 J1 a w h0 h1 h ih0 ih1 =>
   obtain ⟨e, a₁, w₁, hq, harr⟩ := h b (.inScope c :: k) cs
   cases e with
   | normal => exact ⟨.normal, a₁, w₁, hq, Steps.trans harr (.one step_inScope)⟩
   | exit id => exact ⟨.exit id, a₁, w₁, hq, fun k' hk => harr k' (by simp [exitTo, hk])⟩
   | goto l' =>
    rcases two_goto hq with ⟨rfl, hJ'⟩ | ⟨rfl, hJ'⟩
    ·obtain ⟨e₂, a₂, w₂, hq₂, harr₂⟩ := ih1 _ _ hJ'
     exact ⟨e₂, a₂, w₂, hq₂, .of_steps (harr _ hg1) harr₂⟩
    ·obtain ⟨e₂, a₂, w₂, hq₂, harr₂⟩ := ih0 _ _ hJ'
     exact ⟨e₂, a₂, w₂, hq₂, .of_steps (harr _ hg0) harr₂⟩
   | ret => exact ⟨_, a₁, w₁, hq, harr⟩
   | panic ch => exact ⟨_, a₁, w₁, hq, harr⟩
   | outgrown => exact ⟨_, a₁, w₁, hq, harr⟩
 obtain ⟨e, a₁, w₁, hq, harr⟩ := first b (.inScope c :: k) cs
 cases e with
 | normal => exact ⟨.normal, a₁, w₁, hq, .head step_scope (Steps.trans harr (.one step_inScope))⟩
 | exit id => exact ⟨.exit id, a₁, w₁, hq, fun k' hk => .head step_scope (harr k' (by simp [exitTo, hk]))⟩
 | goto l' =>
  rcases two_goto hq with ⟨rfl, hJ'⟩ | ⟨rfl, hJ'⟩
  ·obtain ⟨e₂, a₂, w₂, hq₂, harr₂⟩ := key true a₁ w₁ hJ'
   exact ⟨e₂, a₂, w₂, hq₂, .of_steps (.head step_scope (harr _ hg1)) harr₂⟩
  ·obtain ⟨e₂, a₂, w₂, hq₂, harr₂⟩ := key false a₁ w₁ hJ'
   exact ⟨e₂, a₂, w₂, hq₂, .of_steps (.head step_scope (harr _ hg0)) harr₂⟩
 | ret => exact ⟨_, a₁, w₁, hq, .of_steps (.one step_scope) harr⟩
 | panic ch => exact ⟨_, a₁, w₁, hq, .of_steps (.one step_scope) harr⟩
 | outgrown => exact ⟨_, a₁, w₁, hq, .of_steps (.one step_scope) harr⟩
/-- From the second label on: jumps to the first one are K. -/
inductive Inner2 (P : Program) (Q : Exit → Act → World → Prop) (l0 l1 : Nat) (K : Act → World → Prop) (rest1 : Code) : Act → World → Prop
 | mk (J : Act → World → Prop) (a : Act) (w : World) (hJ : ∀ a' w', J a' w' → Inner2 P Q l0 l1 K rest1 a' w') (h : rest1.wp P (Two l0 l1 K J Q) a w) : Inner2 P Q l0 l1 K rest1 a w
theorem Inner2.jumped {l0 l1 : Nat} {K : Act → World → Prop} {rest0 rest1 : Code} (hK : ∀ a' w', K a' w' → Jumped2 P Q l0 l1 rest0 rest1 false a' w') {a : Act} {w : World} (h : Inner2 P Q l0 l1 K rest1 a w) : Jumped2 P Q l0 l1 rest0 rest1 true a w := by
 induction h with
 | mk J a w hJ h ih => exact .one K J a w hK ih h
theorem wp_jumped2_outer {rest rest1 : Code} (l0 l1 : Nat) (I : Nat → Act → World → Prop) (n₀ : Nat) (h₀ : I n₀ a w)
  (round : ∀ n a w, I n a w → ∀ (J : Nat → Act → World → Prop) (K : Act → World → Prop), (∀ k a' w', I k a' w' → J k a' w') → (∀ a' w', Handed J n a' w' → K a' w') → rest.wp P (Two l0 l1 K (Inner2 P Q l0 l1 K rest1) Q) a w) :
  rest.wp P (Two l0 l1 (Jumped2 P Q l0 l1 (Code.skip.seq rest) rest1 false) (Jumped2 P Q l0 l1 (Code.skip.seq rest) rest1 true) Q) a w := by
 have key : ∀ n a w, I n a w → Jumped2 P Q l0 l1 (Code.skip.seq rest) rest1 false a w := by
  intro n
  induction n using Nat.strongRecOn with
  | _ n ih =>
   intro a w h
   have hK : ∀ a' w', (∃ n', n' < n ∧ I n' a' w') → Jumped2 P Q l0 l1 (Code.skip.seq rest) rest1 false a' w' := fun a' w' ⟨n', hlt, hI⟩ => ih n' hlt a' w' hI
   exact .zero (fun a' w' => ∃ n', n' < n ∧ I n' a' w') _ a w hK (fun a' w' hi => Inner2.jumped hK hi) (wp_seq (wp_skip (round n a w h I _ (fun _ _ _ q => q) fun _ _ q => q)))
 have h1 := round n₀ a w h₀ I _ (fun _ _ _ q => q) fun _ _ q => q
 refine wp_mono h1 ?_
 intro e a' w' hq
 have hK : ∀ a' w', Handed I n₀ a' w' → Jumped2 P Q l0 l1 (Code.skip.seq rest) rest1 false a' w' := fun a' w' ⟨n', _, hI⟩ => key n' a' w' hI
 cases e with
 | goto l' =>
  show cond (Nat.beq l' l1) (l' = l1 ∧ Jumped2 P Q l0 l1 (Code.skip.seq rest) rest1 true a' w') (l' = l0 ∧ Jumped2 P Q l0 l1 (Code.skip.seq rest) rest1 false a' w')
  have hq' : cond (Nat.beq l' l1) (l' = l1 ∧ Inner2 P Q l0 l1 (Handed I n₀) rest1 a' w') (l' = l0 ∧ Handed I n₀ a' w') := hq
  cases e : Nat.beq l' l1 with
  | true => rw [e] at hq'; exact ⟨hq'.1, Inner2.jumped hK hq'.2⟩
  | false => rw [e] at hq'; exact ⟨hq'.1, hK _ _ hq'.2⟩
 | normal => exact hq
 | exit id => exact hq
 | ret => exact hq
 | panic ch => exact hq
 | outgrown => exact hq
theorem wp_jumped2_inner {rest : Code} {K0 : Act → World → Prop} (l0 l1 : Nat) (I : Nat → Act → World → Prop) (n₀ : Nat) (h₀ : I n₀ a w)
  (round : ∀ n a w, I n a w → ∀ (J : Nat → Act → World → Prop) (K : Act → World → Prop), (∀ k a' w', I k a' w' → J k a' w') → (∀ a' w', Handed J n a' w' → K a' w') → rest.wp P (Two l0 l1 K0 K Q) a w) :
  rest.wp P (Two l0 l1 K0 (Inner2 P Q l0 l1 K0 (Code.skip.seq rest)) Q) a w := by
 have key : ∀ n a w, I n a w → Inner2 P Q l0 l1 K0 (Code.skip.seq rest) a w := by
  intro n
  induction n using Nat.strongRecOn with
  | _ n ih =>
   intro a w h
   exact .mk (fun a' w' => ∃ n', n' < n ∧ I n' a' w') a w (fun a' w' ⟨n', hlt, hI⟩ => ih n' hlt a' w' hI) (wp_seq (wp_skip (round n a w h I _ (fun _ _ _ q => q) fun _ _ q => q)))
 have h1 := round n₀ a w h₀ I _ (fun _ _ _ q => q) fun _ _ q => q
 refine wp_mono h1 ?_
 intro e a' w' hq
 cases e with
 | goto l' =>
  show cond (Nat.beq l' l1) (l' = l1 ∧ Inner2 P Q l0 l1 K0 (Code.skip.seq rest) a' w') (l' = l0 ∧ K0 a' w')
  have hq' : cond (Nat.beq l' l1) (l' = l1 ∧ Handed I n₀ a' w') (l' = l0 ∧ K0 a' w') := hq
  cases e : Nat.beq l' l1 with
  | true => rw [e] at hq'; obtain ⟨h2, n', _, hI⟩ := hq'; exact ⟨h2, key n' a' w' hI⟩
  | false => rw [e] at hq'; exact hq'
 | normal => exact hq
 | exit id => exact hq
 | ret => exact hq
 | panic ch => exact hq
 | outgrown => exact hq
end
end Go.Proofs.YteffiodbflmfkaaDoor
