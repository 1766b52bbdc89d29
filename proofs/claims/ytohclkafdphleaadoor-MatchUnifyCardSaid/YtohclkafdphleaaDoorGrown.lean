/- What growV and matchV tell, plainly: the first row with its variables put makes the second one. -/
import Derived.Test.YtohclkafdphleaaDoorAwake5
import Derived.Test.YtohclkafdphleaaDoorPUx0
namespace Go.Proofs.YtohclkafdphleaaDoor.PU
open Go Go.RowKit Go.Proofs.YtohclkafdphleaaDoorW.PrintWords Go.Proofs.YtohclkafdphleaaDoorW.PrintLast Go.Proofs.YtohclkafdphleaaDoor
set_option linter.unusedVariables false
set_option linter.unusedSimpArgs false

/-- A code with the binds put: a variable's term. -/
def putS (σ : List (List Int)) (c : Int) : List Int := if 0 ≤ c then [c] else σ.getD (-1 - c).toNat []
theorem getD_set_same (σ : List (List Int)) (v : Nat) (t : List Int) (h : v < σ.length) : (σ.set v t).getD v [] = t := by simp [List.getD_eq_getElem?_getD, h]
theorem getD_set_other (σ : List (List Int)) (v u : Nat) (t : List Int) (h : u ≠ v) : (σ.set v t).getD u [] = σ.getD u [] := by
  rw [List.getD_eq_getElem?_getD, List.getD_eq_getElem?_getD, List.getElem?_set, if_neg (fun e => h e.symm)]
theorem grow_sound {l : List S73} {b : List Int} : ∀ (a : List Int) (i : Nat) (σ σ' : List (List Int)), i ≤ b.length → σ.length = 24 → (∀ c ∈ a, -24 ≤ c) → growV l b a i σ = some σ' →
    σ'.length = 24 ∧ (∀ v, σ.getD v [] ≠ [] → σ'.getD v [] = σ.getD v []) ∧ b.drop i = a.flatMap (putS σ') ∧ ∀ c ∈ a, c < 0 → isN (arS l) 1 (σ'.getD (-1 - c).toNat []) := by
  intro a
  induction a with
  | nil =>
    intro i σ σ' hi hl hc e
    simp only [growV] at e
    split at e
    · rename_i h
      obtain rfl := Option.some.inj e
      exact ⟨hl, fun _ _ => rfl, by rw [h, List.drop_length]; rfl, fun c hc => absurd hc (by simp)⟩
    · cases e
  | cons c a ih =>
    intro i σ σ' hi hl hc e
    simp only [growV] at e
    have hca : ∀ x ∈ a, -24 ≤ x := fun x hx => hc x (List.mem_cons_of_mem _ hx)
    split at e
    · cases e
    · rename_i hib
      have hib' : i < b.length := by omega
      split at e
      · rename_i h0
        split at e
        · rename_i hr
          obtain ⟨h1, h2, h3, h4⟩ := ih (i + 1) σ σ' (by omega) hl hca e
          refine ⟨h1, h2, ?_, ?_⟩
          · rw [drop_cons b i hib', h3, hr]
            simp [putS, h0]
          · intro x hx hx0
            rcases List.mem_cons.1 hx with rfl | hx
            · omega
            · exact h4 x hx hx0
        · cases e
      · rename_i h0
        have hcv : (-1 - c).toNat < 24 := by have := hc c (by simp); omega
        split at e
        · cases e
        · rename_i s hs
          obtain ⟨t, ht, htn⟩ := skipN_split _ _ _ hs
          have hsl : s.length ≤ b.length - i := by
            have := congrArg List.length ht
            rw [List.length_drop, List.length_append] at this
            omega
          have hlt : t.length = b.length - s.length - i := by
            have := congrArg List.length ht
            rw [List.length_drop, List.length_append] at this
            omega
          have htt : (b.take (b.length - s.length)).drop i = t := by
            rw [List.drop_take, ht, ← hlt]
            simp
          have hdd : b.drop (b.length - s.length) = s := by
            have : b.length - s.length = i + t.length := by omega
            rw [this, ← List.drop_drop, ht]
            simp
          have htp : t ≠ [] := by
            have := isN_pos htn
            intro e
            rw [e] at this
            simp at this
          rw [htt] at e
          have fin : ∀ (τ : List (List Int)), τ.length = 24 → (∀ v, σ.getD v [] ≠ [] → τ.getD v [] = σ.getD v []) → τ.getD (-1 - c).toNat [] = t → growV l b a (b.length - s.length) τ = some σ' →
              σ'.length = 24 ∧ (∀ v, σ.getD v [] ≠ [] → σ'.getD v [] = σ.getD v []) ∧ b.drop i = (c :: a).flatMap (putS σ') ∧ ∀ x ∈ c :: a, x < 0 → isN (arS l) 1 (σ'.getD (-1 - x).toNat []) := by
            intro τ hτl hτ hτc e
            obtain ⟨h1, h2, h3, h4⟩ := ih (b.length - s.length) τ σ' (by omega) hτl hca e
            have hv : σ'.getD (-1 - c).toNat [] = t := by
              rw [h2 _ (by rw [hτc]; exact htp), hτc]
            refine ⟨h1, fun v hv => ?_, ?_, ?_⟩
            · rw [h2 v (by rw [hτ v hv]; exact hv), hτ v hv]
            · rw [hdd] at h3
              rw [ht, h3, List.flatMap_cons]
              congr 1
              rw [putS, if_neg h0, hv]
            · intro x hx hx0
              rcases List.mem_cons.1 hx with rfl | hx
              · rw [hv]; exact htn
              · exact h4 x hx hx0
          split at e
          · rename_i hn
            refine fin _ (by rw [List.length_set]; exact hl) (fun v hv => ?_) (getD_set_same σ _ t (by omega)) e
            by_cases hvc : v = (-1 - c).toNat
            · rw [hvc] at hv; exact absurd hn hv
            · exact getD_set_other σ _ v t hvc
          · split at e
            · rename_i hn he
              exact fin σ hl (fun _ _ => rfl) he e
            · cases e
theorem putS_pos {l : List S73} {σ : List (List Int)} {c : Int} (h : c < 0 → isN (arS l) 1 (σ.getD (-1 - c).toNat [])) : 1 ≤ (putS σ c).length := by
  unfold putS
  split
  · simp
  · exact isN_pos (h (by omega))
theorem flat_length {l : List S73} {σ : List (List Int)} : ∀ (a : List Int), (∀ c ∈ a, c < 0 → isN (arS l) 1 (σ.getD (-1 - c).toNat [])) → a.length ≤ (a.flatMap (putS σ)).length
  | [], _ => by simp
  | c :: a, h => by
    have h1 := putS_pos (h c (by simp))
    have h2 := flat_length a (fun x hx => h x (List.mem_cons_of_mem _ hx))
    simp only [List.flatMap_cons, List.length_append, List.length_cons]
    omega
/-- As long as the row itself: each code stands for one code. -/
theorem flat_same {l : List S73} {σ : List (List Int)} : ∀ (a : List Int), (∀ c ∈ a, c < 0 → isN (arS l) 1 (σ.getD (-1 - c).toNat [])) → (a.flatMap (putS σ)).length ≤ a.length → a.flatMap (putS σ) = a.map (fun c => (putS σ c).headD 0)
  | [], _, _ => by simp
  | c :: a, h, hl => by
    have h1 := putS_pos (h c (by simp))
    have hr : ∀ x ∈ a, x < 0 → isN (arS l) 1 (σ.getD (-1 - x).toNat []) := fun x hx => h x (List.mem_cons_of_mem _ hx)
    have h2 := flat_length a hr
    simp only [List.flatMap_cons, List.length_append, List.length_cons] at hl
    have h3 := flat_same a hr (by omega)
    rw [List.flatMap_cons, List.map_cons, h3]
    have h4 : (putS σ c).length = 1 := by omega
    obtain ⟨x, hx⟩ := List.length_eq_one_iff.1 h4
    rw [hx]
    rfl
theorem match_yes {l : List S73} {a b : List Int} (h : (matchV l a b).2.1 = true) : IsRow l a ∧ IsRow l b ∧ ∃ σ, growV l b a 0 (List.replicate 24 []) = some σ ∧ matchV l a b = (listTo σ 24, true, 0) ∧ b = a.flatMap (putS σ) ∧ ∀ c ∈ a, c < 0 → isN (arS l) 1 (σ.getD (-1 - c).toNat []) := by
  by_cases hr : IsRow l a ∧ IsRow l b
  · refine ⟨hr.1, hr.2, ?_⟩
    rw [matchV_ok hr.1 hr.2] at h ⊢
    cases e : growV l b a 0 (List.replicate 24 []) with
    | none => rw [e] at h; simp at h
    | some σ =>
      obtain ⟨_, _, h3, h4⟩ := grow_sound a 0 _ σ (Nat.zero_le _) List.length_replicate (row_codes hr.1) e
      exact ⟨σ, rfl, rfl, by rw [← h3]; rfl, h4⟩
  · rw [matchV_bad hr] at h
    simp at h
theorem match_no {l : List S73} {a b : List Int} (h : (matchV l a b).2.1 = false) : (matchV l a b).1 = [] := by
  by_cases hr : IsRow l a ∧ IsRow l b
  · rw [matchV_ok hr.1 hr.2] at h ⊢
    cases e : growV l b a 0 (List.replicate 24 []) with
    | none => rfl
    | some σ => rw [e] at h; simp at h
  · rw [matchV_bad hr]
open Classical in
theorem match_code (l : List S73) (a b : List Int) : (matchV l a b).2.2 = if IsRow l a ∧ IsRow l b then 0 else 500 := by
  by_cases hr : IsRow l a ∧ IsRow l b
  · rw [matchV_ok hr.1 hr.2, if_pos hr]
    cases e : growV l b a 0 (List.replicate 24 []) with
    | none => rfl
    | some σ => rfl
  · rw [matchV_bad hr, if_neg hr]
theorem match_code_swap (l : List S73) (a b : List Int) : (matchV l a b).2.2 = (matchV l b a).2.2 := by
  classical
  rw [match_code, match_code]
  by_cases h : IsRow l a ∧ IsRow l b
  · rw [if_pos h, if_pos h.symm]
  · rw [if_neg h, if_neg (fun k => h k.symm)]
end Go.Proofs.YtohclkafdphleaaDoor.PU
