/- The terms of a row, one by one: what the printed Pieces answers. Terms put in for the variables of rows: plainly. -/
import Derived.Test.YteffiodbflmfkaaDoorTerms
import Derived.Test.YteffiodbflmfkaaDoorPPx0
import Derived.Test.YteffiodbflmfkaaDoorPPx3
import Derived.Test.YteffiodbflmfkaaDoorPPx6
namespace Go.Proofs.YteffiodbflmfkaaDoor.PP
open Go Go.RowKit Go.Proofs.YteffiodbflmfkaaDoorW.PrintWords Go.Proofs.YteffiodbflmfkaaDoorW.PrintLast Go.Proofs.YteffiodbflmfkaaDoor
set_option linter.unusedVariables false
set_option linter.unusedSimpArgs false
def pcs (l : List S59) (r : List Int) : List (List Int) := parts (arS l) r.length r
theorem parts_more {ar : Int → Option Nat} : ∀ (n : Nat) (r : List Int), r.length ≤ n → ∀ m, n ≤ m → parts ar m r = parts ar n r := by
 intro n
 induction n with
 | zero =>
  intro r hr m hm
  have : r = [] := List.length_eq_zero_iff.1 (by omega)
  subst this
  cases m with
  | zero => rfl
  | succ m => simp only [parts]; rw [skipN_nil]
 | succ n ih =>
  intro r hr m hm
  obtain ⟨m, rfl⟩ : ∃ q, m = q + 1 := ⟨m - 1, by omega⟩
  simp only [parts]
  cases e : skipN ar r 1 with
  | none => rfl
  | some s =>
   obtain ⟨t, ht, hn⟩ := skipN_split _ _ _ e
   have := isN_pos hn
   have hl : r.length = t.length + s.length := by rw [ht]; simp
   simp only
   rw [ih s (by omega) m (by omega)]
theorem pcs_none {l : List S59} {r : List Int} (h : skipN (arS l) r 1 = none) : pcs l r = [] := by
 unfold pcs
 cases e : r.length with
 | zero => rfl
 | succ n => simp only [parts]; rw [h]
theorem pcs_cons {l : List S59} {t s : List Int} (h : isN (arS l) 1 t) : pcs l (t ++ s) = t :: pcs l s := by
 have := isN_pos h
 unfold pcs
 obtain ⟨k, hk⟩ : ∃ k, (t ++ s).length = k + 1 := ⟨(t ++ s).length - 1, by rw [List.length_append]; omega⟩
 rw [hk, parts_cons h, parts_more s.length s (Nat.le_refl _) k (by rw [List.length_append] at hk; omega)]
theorem pcs_row {l : List S59} {n : Nat} {r : List Int} (h : isN (arS l) n r) : pcs l r = parts (arS l) n r := by
 unfold pcs
 have hp := isN_pos h
 induction n generalizing r with
 | zero =>
  have := isN_zero h
  subst this
  rfl
 | succ n ih =>
  rw [Nat.add_comm] at h
  obtain ⟨t, s, rfl, h1, h2⟩ := isN_split h
  have := pcs_cons (l := l) (s := s) h1
  unfold pcs at this
  rw [this, parts_cons h1, ih h2 (isN_pos h2)]
theorem pcs_mem {l : List S59} : ∀ (n : Nat) (r : List Int), r.length ≤ n → (pcs l r).length ≤ r.length ∧ ∀ t ∈ pcs l r, isN (arS l) 1 t ∧ t.length ≤ r.length ∧ ∀ c ∈ t, c ∈ r := by
 intro n
 induction n with
 | zero =>
  intro r hr
  have : r = [] := List.length_eq_zero_iff.1 (by omega)
  subst this
  exact ⟨Nat.le_refl _, fun t ht => by cases ht⟩
 | succ n ih =>
  intro r hr
  rcases skip_cases (l := l) r 0 with ⟨t, s, e, ht⟩ | e
  ·rw [List.drop_zero] at e
   subst e
   have hp := isN_pos ht
   have hl : (t ++ s).length = t.length + s.length := List.length_append
   obtain ⟨h1, h2⟩ := ih s (by omega)
   rw [pcs_cons ht]
   refine ⟨by simp only [List.length_cons]; omega, fun x hx => ?_⟩
   rcases List.mem_cons.1 hx with rfl | hx
   ·exact ⟨ht, by omega, fun c hc => List.mem_append.2 (.inl hc)⟩
   ·obtain ⟨a, b, c⟩ := h2 x hx
    exact ⟨a, by omega, fun y hy => List.mem_append.2 (.inr (c y hy))⟩
  ·rw [List.drop_zero] at e
   rw [pcs_none e]
   exact ⟨Nat.zero_le _, fun t ht => by cases ht⟩
end Go.Proofs.YteffiodbflmfkaaDoor.PP
namespace Go.Proofs.YteffiodbflmfkaaDoor.PP
open Go Go.RowKit Go.Proofs.YteffiodbflmfkaaDoorW.PrintWords Go.Proofs.YteffiodbflmfkaaDoorW.PrintLast Go.Proofs.YteffiodbflmfkaaDoor
set_option linter.unusedVariables false
set_option linter.unusedSimpArgs false
/-- A code, a row with terms put in for variables. -/
def subC (σ : Int → List Int) (c : Int) : List Int := if 0 ≤ c then [c] else σ c
def subV (σ : Int → List Int) : List Int → List Int
 | [] => []
 | c :: r => subC σ c ++ subV σ r
def Good (l : List S59) (σ : Int → List Int) : Prop := ∀ c, -24 ≤ c → c < 0 → isN (arS l) 1 (σ c)
theorem subV_append (σ : Int → List Int) (r u : List Int) : subV σ (r ++ u) = subV σ r ++ subV σ u := by
 induction r with
 | nil => rfl
 | cons c r ih => simp only [List.cons_append, subV, ih, List.append_assoc]
theorem subC_pos (σ : Int → List Int) {c : Int} (h : 0 ≤ c) : subC σ c = [c] := if_pos h
theorem subC_neg (σ : Int → List Int) {c : Int} (h : c < 0) : subC σ c = σ c := if_neg (by omega)
theorem subV_isN {l : List S59} {σ : Int → List Int} (hg : Good l σ) : ∀ (r : List Int) (n : Nat), isN (arS l) n r → isN (arS l) n (subV σ r) := by
 intro r
 induction r with
 | nil => intro n h; exact h
 | cons c r ih =>
  intro n h
  cases n with
  | zero => have := isN_zero h; cases this
  | succ n =>
   obtain ⟨m, h1, h2⟩ := isN_cons.1 h
   have h3 := ih _ h2
   simp only [subV]
   by_cases hc : 0 ≤ c
   ·rw [subC_pos σ hc]
    exact isN_cons.2 ⟨m, h1, h3⟩
   ·obtain ⟨rfl, hlo⟩ := arS_neg (by omega) h1
    rw [subC_neg σ (by omega), Nat.add_comm n 1]
    exact isN_append (hg c hlo (by omega)) h3
theorem subV_congr {θ θ' : Int → List Int} : ∀ (r : List Int), (∀ c ∈ r, c < 0 → θ c = θ' c) → subV θ r = subV θ' r := by
 intro r
 induction r with
 | nil => intro _; rfl
 | cons c r ih =>
  intro h
  simp only [subV]
  rw [ih (fun c hc => h c (List.mem_cons_of_mem _ hc))]
  congr 1
  unfold subC
  split
  ·rfl
  ·exact h c (List.mem_cons_self ..) (by omega)
theorem subV_sub (θ₁ θ₂ : Int → List Int) (r : List Int) : subV θ₂ (subV θ₁ r) = subV (fun c => subV θ₂ (θ₁ c)) r := by
 induction r with
 | nil => rfl
 | cons c r ih =>
  simp only [subV, subV_append, ih]
  congr 1
  by_cases hc : 0 ≤ c
  ·rw [subC_pos _ hc, subC_pos _ hc]
   simp [subV, subC_pos _ hc]
  ·rw [subC_neg _ (by omega), subC_neg _ (by omega)]
end Go.Proofs.YteffiodbflmfkaaDoor.PP
