/- What stands for variables, put into rows: plainly. What is more stays so, whatever is put in for variables: plainly. -/
import Derived.Test.YtmikhfinakjbjaaDoorTerms
import Derived.Test.YtmikhfinakjbjaaDoorBinds
import Derived.Test.YtmikhfinakjbjaaDoorKbos
import Derived.Test.YtmikhfinakjbjaaDoorPOx0
namespace Go.Proofs.YtmikhfinakjbjaaDoor.PO
open Go Go.RowKit Go.Proofs.YtmikhfinakjbjaaDoorW.PrintWords Go.Proofs.YtmikhfinakjbjaaDoorW.PrintLast Go.Proofs.YtmikhfinakjbjaaDoor
set_option linter.unusedVariables false
set_option linter.unusedSimpArgs false
/-- A code, a row with terms put in for variables. -/
def subC (σ : Int → List Int) (c : Int) : List Int := if 0 ≤ c then [c] else σ c
def subV (σ : Int → List Int) : List Int → List Int
  | [] => []
  | c :: r => subC σ c ++ subV σ r
def ofB (s : List S56) (c : Int) : List Int := if bfindV s (-1 - c) = [] then [c] else bfindV s (-1 - c)
theorem onV_sub (s : List S56) (r : List Int) : onV s r = subV (ofB s) r := by
  induction r with
  | nil => rfl
  | cons c r ih => simp only [onV, subV, ih]; rfl
def Good (l : List S45) (σ : Int → List Int) : Prop := ∀ c, -24 ≤ c → c < 0 → isN (arS l) 1 (σ c)
theorem subV_append (σ : Int → List Int) (r u : List Int) : subV σ (r ++ u) = subV σ r ++ subV σ u := by
  induction r with
  | nil => rfl
  | cons c r ih => simp only [List.cons_append, subV, ih, List.append_assoc]
theorem subC_pos (σ : Int → List Int) {c : Int} (h : 0 ≤ c) : subC σ c = [c] := if_pos h
theorem subC_neg (σ : Int → List Int) {c : Int} (h : c < 0) : subC σ c = σ c := if_neg (by omega)
theorem subV_isN {l : List S45} {σ : Int → List Int} (hg : Good l σ) : ∀ (r : List Int) (n : Nat), isN (arS l) n r → isN (arS l) n (subV σ r) := by
  intro r
  induction r with
  | nil => intro n h; exact h
  | cons c r ih =>
    intro n h
    cases n with
    | zero => have := isN_zero h; cases this
    | succ n =>
      obtain ⟨m, h1, h2⟩ := isN_cons.1 h
      have h3 := ih _ h2
      simp only [subV]
      by_cases hc : 0 ≤ c
      · rw [subC_pos σ hc]
        exact isN_cons.2 ⟨m, h1, h3⟩
      · obtain ⟨rfl, hlo⟩ := arS_neg (by omega) h1
        rw [subC_neg σ (by omega), Nat.add_comm n 1]
        exact isN_append (hg c hlo (by omega)) h3
end Go.Proofs.YtmikhfinakjbjaaDoor.PO
namespace Go.Proofs.YtmikhfinakjbjaaDoor.PO
open Go Go.RowKit Go.Proofs.YtmikhfinakjbjaaDoorW.PrintWords Go.Proofs.YtmikhfinakjbjaaDoorW.PrintLast Go.Proofs.YtmikhfinakjbjaaDoor
set_option linter.unusedVariables false
set_option linter.unusedSimpArgs false
/-- How much variables bring along: e of each, as often as it stands there. -/
def ext (e : Nat → Nat) (r : List Int) : Nat → Nat
  | 0 => 0
  | n + 1 => ext e r n + r.count (-1 - (n : Int)) * e n
theorem ext_nil (e : Nat → Nat) : ∀ n, ext e [] n = 0
  | 0 => rfl
  | n + 1 => by simp [ext, ext_nil e n]
theorem ext_cons (e : Nat → Nat) (c : Int) (r : List Int) : ∀ n, ext e (c :: r) n = ext e r n + (if c < 0 ∧ -(n : Int) ≤ c then e (-1 - c).toNat else 0)
  | 0 => by
    rw [if_neg (by omega)]
    rfl
  | n + 1 => by
    simp only [ext]
    have hcnt : (c :: r).count (-1 - (n : Int)) = r.count (-1 - (n : Int)) + (if c = -1 - (n : Int) then 1 else 0) := by
      rw [List.count_cons]
      by_cases h : c = -1 - (n : Int)
      · simp [h]
      · simp [h]
    rw [ext_cons e c r n, hcnt]
    by_cases h : c = -1 - (n : Int)
    · have e1 : (-1 - c).toNat = n := by omega
      rw [if_pos h, if_neg (by omega), if_pos (by omega), e1, Nat.add_mul]
      omega
    · rw [if_neg h]
      simp only [Nat.add_zero]
      by_cases h1 : c < 0 ∧ -(n : Int) ≤ c
      · rw [if_pos h1, if_pos (by omega)]
        omega
      · rw [if_neg h1, if_neg (by omega)]
        omega
theorem ext_cov (e : Nat → Nat) {a b : List Int} (h : Cov a b) : ∀ n, n ≤ 24 → ext e b n ≤ ext e a n
  | 0, _ => Nat.le_refl _
  | n + 1, hn => by
    have h1 := ext_cov e h n (by omega)
    have h2 := Nat.mul_le_mul_right (e n) (h n (by omega))
    simp only [ext]
    omega
theorem count_sub (σ : Int → List Int) (u : Int) (hu : u < 0) : ∀ (r : List Int), (∀ c ∈ r, -24 ≤ c) → (subV σ r).count u = ext (fun v => (σ (-1 - (v : Int))).count u) r 24 := by
  intro r
  induction r with
  | nil => intro _; rw [ext_nil]; rfl
  | cons c r ih =>
    intro hr
    have h1 := ih (fun c hc => hr c (List.mem_cons_of_mem _ hc))
    have hc := hr c (List.mem_cons_self ..)
    simp only [subV, List.count_append]
    rw [h1, ext_cons]
    by_cases h0 : 0 ≤ c
    · rw [subC_pos σ h0, if_neg (by omega), List.count_singleton, if_neg (by simp; omega)]
      omega
    · rw [subC_neg σ (by omega), if_pos ⟨by omega, by omega⟩]
      have : -1 - (((-1 - c).toNat : Nat) : Int) = c := by omega
      rw [this]
      omega
theorem cov_sub (σ : Int → List Int) {a b : List Int} (ha : ∀ c ∈ a, -24 ≤ c) (hb : ∀ c ∈ b, -24 ≤ c) (h : Cov a b) : Cov (subV σ a) (subV σ b) := by
  intro v hv
  rw [count_sub σ _ (by omega) a ha, count_sub σ _ (by omega) b hb]
  exact ext_cov _ h 24 (Nat.le_refl _)
theorem one_sum {l : List S45} (hs : SignOk l) {t : List Int} (h : isN (arS l) 1 t) : 1 ≤ sumV l t := by
  have h1 := (sumV_bd hs (fun c hc => (codes_row h c hc).2)).1
  have h2 := isN_pos h
  omega
theorem sum_sub {l : List S45} {σ : Int → List Int} (hs : SignOk l) (hg : Good l σ) : ∀ (r : List Int), (∀ c ∈ r, -24 ≤ c) → sumV l (subV σ r) = sumV l r + (ext (fun v => (sumV l (σ (-1 - (v : Int))) - 1).toNat) r 24 : Nat) := by
  intro r
  induction r with
  | nil => intro _; rw [ext_nil]; rfl
  | cons c r ih =>
    intro hr
    have h1 := ih (fun c hc => hr c (List.mem_cons_of_mem _ hc))
    have hc := hr c (List.mem_cons_self ..)
    simp only [subV, sumV_append, sumV]
    rw [h1, ext_cons]
    by_cases h0 : 0 ≤ c
    · rw [subC_pos σ h0, if_neg (by omega)]
      simp only [sumV]
      omega
    · rw [subC_neg σ (by omega), if_pos ⟨by omega, by omega⟩]
      have : -1 - (((-1 - c).toNat : Nat) : Int) = c := by omega
      rw [this]
      have hp := one_sum hs (hg c hc (by omega))
      have hw : wtV l c = 1 := by unfold wtV; rw [if_pos (by omega)]
      omega
theorem more_sub {l : List S45} {σ : Int → List Int} (hs : SignOk l) (hg : Good l σ) {a b : List Int} (h : More l a b) : Text l a → Text l b → More l (subV σ a) (subV σ b) := by
  induction h with
  | @heavy a b h hw =>
    intro ta tb
    have ca := fun c hc => (text_codes ta c hc).1
    have cb := fun c hc => (text_codes tb c hc).1
    refine .heavy (cov_sub σ ca cb h) ?_
    rw [sum_sub hs hg a ca, sum_sub hs hg b cb]
    have := ext_cov (fun v => (sumV l (σ (-1 - (v : Int))) - 1).toNat) h 24 (Nat.le_refl _)
    omega
  | @head c d r s h hw hc =>
    intro ta tb
    have ca := fun c hc => (text_codes ta c hc).1
    have cb := fun c hc => (text_codes tb c hc).1
    have hcov := cov_sub σ ca cb h
    have hext := ext_cov (fun v => (sumV l (σ (-1 - (v : Int))) - 1).toNat) h 24 (Nat.le_refl _)
    have sa := sum_sub hs hg _ ca
    have sb := sum_sub hs hg _ cb
    have hd : 0 ≤ d := by
      rcases Int.lt_or_le d 0 with hd | hd
      · exfalso
        obtain ⟨_, c', r', e, _, c1, _, hr⟩ := ta
        injection e with e1 e2
        subst e1; subst e2
        obtain ⟨_, d', s', e, _, d1, _, hs'⟩ := tb
        injection e with e1 e2
        subst e1; subst e2
        unfold arT at hs'
        rw [if_pos hd] at hs'
        have := isN_zero hs'
        subst this
        have hwd : wtV l d = 1 := by unfold wtV; rw [if_pos hd]
        simp only [sumV] at hw
        have hrs := (sumV_bd hs (fun c hc => (codes_row hr c hc).2)).1
        have hwc : 1 ≤ wtV l c := (wtV_bd hs (by assumption)).1
        have : r = [] := List.length_eq_zero_iff.1 (by omega)
        subst this
        have := h (-1 - d).toNat (by omega)
        rw [show -1 - (((-1 - d).toNat : Nat) : Int) = d by omega] at this
        have e0 : (c == d) = false := by simp; omega
        simp [List.count_cons, e0] at this
      · exact hd
    have hc0 : 0 ≤ c := by omega
    have ea : subV σ (c :: r) = c :: subV σ r := by simp only [subV]; rw [subC_pos σ hc0]; rfl
    have eb : subV σ (d :: s) = d :: subV σ s := by simp only [subV]; rw [subC_pos σ hd]; rfl
    rcases Int.lt_or_le (sumV l (subV σ (d :: s))) (sumV l (subV σ (c :: r))) with hlt | hle
    · exact .heavy hcov hlt
    · have hw2 : sumV l (subV σ (c :: r)) = sumV l (subV σ (d :: s)) := by omega
      rw [ea, eb] at hcov hw2 ⊢
      exact .head hcov hw2 hc
  | @args c n p x u y v h hw hp hx hy hne hm ih =>
    intro ta tb
    have ca := fun c hc => (text_codes ta c hc).1
    have cb := fun c hc => (text_codes tb c hc).1
    have hcov := cov_sub σ ca cb h
    have hext := ext_cov (fun v => (sumV l (σ (-1 - (v : Int))) - 1).toNat) h 24 (Nat.le_refl _)
    have sa := sum_sub hs hg _ ca
    have sb := sum_sub hs hg _ cb
    have la := text_len ta
    have lb := text_len tb
    simp only [List.length_cons, List.length_append] at la lb
    have hm' := ih (text_one hs (by omega) hx) (text_one hs (by omega) hy)
    have hc0 : 0 ≤ c := by
      rcases Int.lt_or_le c 0 with hc | hc
      · exfalso
        obtain ⟨_, c', r', e, _, _, _, hr⟩ := ta
        injection e with e1 e2
        subst e1; subst e2
        unfold arT at hr
        rw [if_pos hc] at hr
        have h0 := congrArg List.length (isN_zero hr)
        have hxp := isN_pos hx
        simp only [List.length_append, List.length_nil] at h0
        omega
      · exact hc
    have ee : ∀ z w, subV σ (c :: (p ++ (z ++ w))) = c :: (subV σ p ++ (subV σ z ++ subV σ w)) := by
      intro z w
      simp only [subV, subV_append]
      rw [subC_pos σ hc0]
      rfl
    rcases Int.lt_or_le (sumV l (subV σ (c :: (p ++ (y ++ v))))) (sumV l (subV σ (c :: (p ++ (x ++ u))))) with hlt | hle
    · exact .heavy hcov hlt
    · have hw2 : sumV l (subV σ (c :: (p ++ (x ++ u)))) = sumV l (subV σ (c :: (p ++ (y ++ v)))) := by omega
      rw [ee, ee] at hcov hw2 ⊢
      exact .args hcov hw2 (subV_isN hg p n hp) (subV_isN hg x 1 hx) (subV_isN hg y 1 hy) hm'.ne hm'
end Go.Proofs.YtmikhfinakjbjaaDoor.PO
