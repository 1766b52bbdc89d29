/- Terms put in for the variables of rows: plainly. -/
import Derived.Test.YtohclkafdphleaaDoorTerms
import Derived.Test.YtohclkafdphleaaDoorPUx0
namespace Go.Proofs.YtohclkafdphleaaDoor.PU
open Go Go.RowKit Go.Proofs.YtohclkafdphleaaDoorW.PrintWords Go.Proofs.YtohclkafdphleaaDoorW.PrintLast Go.Proofs.YtohclkafdphleaaDoor
set_option linter.unusedVariables false
set_option linter.unusedSimpArgs false
/-- A code, a row with terms put in for variables. -/
def subC (σ : Int → List Int) (c : Int) : List Int := if 0 ≤ c then [c] else σ c
def subV (σ : Int → List Int) : List Int → List Int
  | [] => []
  | c :: r => subC σ c ++ subV σ r
def Good (l : List S73) (σ : Int → List Int) : Prop := ∀ c, -24 ≤ c → c < 0 → isN (arS l) 1 (σ c)
theorem subV_append (σ : Int → List Int) (r u : List Int) : subV σ (r ++ u) = subV σ r ++ subV σ u := by
  induction r with
  | nil => rfl
  | cons c r ih => simp only [List.cons_append, subV, ih, List.append_assoc]
theorem subC_pos (σ : Int → List Int) {c : Int} (h : 0 ≤ c) : subC σ c = [c] := if_pos h
theorem subC_neg (σ : Int → List Int) {c : Int} (h : c < 0) : subC σ c = σ c := if_neg (by omega)
theorem subV_isN {l : List S73} {σ : Int → List Int} (hg : Good l σ) : ∀ (r : List Int) (n : Nat), isN (arS l) n r → isN (arS l) n (subV σ r) := by
  intro r
  induction r with
  | nil => intro n h; exact h
  | cons c r ih =>
    intro n h
    cases n with
    | zero => have := isN_zero h; cases this
    | succ n =>
      obtain ⟨m, h1, h2⟩ := isN_cons.1 h
      have h3 := ih _ h2
      simp only [subV]
      by_cases hc : 0 ≤ c
      · rw [subC_pos σ hc]
        exact isN_cons.2 ⟨m, h1, h3⟩
      · obtain ⟨rfl, hlo⟩ := arS_neg (by omega) h1
        rw [subC_neg σ (by omega), Nat.add_comm n 1]
        exact isN_append (hg c hlo (by omega)) h3
theorem subV_congr {θ θ' : Int → List Int} : ∀ (r : List Int), (∀ c ∈ r, c < 0 → θ c = θ' c) → subV θ r = subV θ' r := by
  intro r
  induction r with
  | nil => intro _; rfl
  | cons c r ih =>
    intro h
    simp only [subV]
    rw [ih (fun c hc => h c (List.mem_cons_of_mem _ hc))]
    congr 1
    unfold subC
    split
    · rfl
    · exact h c (List.mem_cons_self ..) (by omega)
theorem subV_sub (θ₁ θ₂ : Int → List Int) (r : List Int) : subV θ₂ (subV θ₁ r) = subV (fun c => subV θ₂ (θ₁ c)) r := by
  induction r with
  | nil => rfl
  | cons c r ih =>
    simp only [subV, subV_append, ih]
    congr 1
    by_cases hc : 0 ≤ c
    · rw [subC_pos _ hc, subC_pos _ hc]
      simp [subV, subC_pos _ hc]
    · rw [subC_neg _ (by omega), subC_neg _ (by omega)]
end Go.Proofs.YtohclkafdphleaaDoor.PU
