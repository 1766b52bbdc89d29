/- Rows of terms in prefix notation, plainly: how many codes so many terms take; what is a row of n terms; no program in sight. -/
import Derived.WalkKit
namespace Go.Proofs.YtohclkafdphleaaDoor
set_option linter.unusedVariables false

/-- What is left behind n terms; none: there are no n terms. -/
def skipN (ar : Int → Option Nat) : List Int → Nat → Option (List Int)
  | [], n => if n = 0 then some [] else none
  | c :: r, n => if n = 0 then some (c :: r) else (ar c).bind fun m => skipN ar r (n - 1 + m)
def isN (ar : Int → Option Nat) (n : Nat) (t : List Int) : Prop := skipN ar t n = some []

section
variable {ar : Int → Option Nat}
theorem skipN_zero (r : List Int) : skipN ar r 0 = some r := by cases r <;> simp [skipN]
theorem skipN_cons (c : Int) (r : List Int) (n : Nat) : skipN ar (c :: r) (n + 1) = (ar c).bind fun m => skipN ar r (n + m) := by
  simp [skipN]
theorem skipN_nil (n : Nat) : skipN ar [] (n + 1) = none := by simp [skipN]
theorem skipN_append : ∀ (t : List Int) (n : Nat) (u s : List Int), skipN ar t n = some u → skipN ar (t ++ s) n = some (u ++ s) := by
  intro t
  induction t with
  | nil =>
    intro n u s h
    cases n with
    | zero => simp [skipN] at h; subst h; simp [skipN_zero]
    | succ n => simp [skipN] at h
  | cons c t ih =>
    intro n u s h
    cases n with
    | zero => rw [skipN_zero] at h; obtain rfl := Option.some.inj h; rw [skipN_zero]
    | succ n =>
      rw [List.cons_append]
      rw [skipN_cons] at h ⊢
      cases e : ar c with
      | none => rw [e] at h; simp at h
      | some m => rw [e] at h; exact ih _ _ _ h
theorem skipN_add : ∀ (r : List Int) (m n : Nat), skipN ar r (m + n) = (skipN ar r m).bind fun s => skipN ar s n := by
  intro r
  induction r with
  | nil =>
    intro m n
    cases m with
    | zero => simp [skipN_zero]
    | succ m => rw [show m + 1 + n = (m + n) + 1 by omega, skipN_nil, skipN_nil]; rfl
  | cons c r ih =>
    intro m n
    cases m with
    | zero => simp [skipN_zero]
    | succ m =>
      rw [show m + 1 + n = (m + n) + 1 by omega, skipN_cons, skipN_cons]
      cases e : ar c with
      | none => rfl
      | some k =>
        show skipN ar r (m + n + k) = (skipN ar r (m + k)).bind _
        rw [show m + n + k = (m + k) + n by omega, ih]
theorem skipN_split : ∀ (r : List Int) (n : Nat) (s : List Int), skipN ar r n = some s → ∃ t, r = t ++ s ∧ isN ar n t := by
  intro r
  induction r with
  | nil =>
    intro n s h
    cases n with
    | zero => rw [skipN_zero] at h; obtain rfl := Option.some.inj h; exact ⟨[], rfl, skipN_zero _⟩
    | succ n => rw [skipN_nil] at h; cases h
  | cons c r ih =>
    intro n s h
    cases n with
    | zero => rw [skipN_zero] at h; obtain rfl := Option.some.inj h; exact ⟨[], rfl, skipN_zero _⟩
    | succ n =>
      rw [skipN_cons] at h
      cases e : ar c with
      | none => rw [e] at h; cases h
      | some m =>
        rw [e] at h
        obtain ⟨t, ht, hn⟩ := ih _ _ h
        exact ⟨c :: t, by rw [ht]; rfl, by show skipN ar (c :: t) (n + 1) = some []; rw [skipN_cons, e]; exact hn⟩
theorem isN_nil : isN ar 0 [] := skipN_zero _
theorem isN_zero {t : List Int} (h : isN ar 0 t) : t = [] := by unfold isN at h; rw [skipN_zero] at h; exact Option.some.inj h
theorem isN_append {m n : Nat} {t u : List Int} (h : isN ar m t) (k : isN ar n u) : isN ar (m + n) (t ++ u) := by
  unfold isN at *
  rw [skipN_add, skipN_append t m [] u h]
  exact k
theorem isN_skip {n : Nat} {t s : List Int} (h : isN ar n t) : skipN ar (t ++ s) n = some s := skipN_append t n [] s h
theorem isN_split {m n : Nat} {r : List Int} (h : isN ar (m + n) r) : ∃ t u, r = t ++ u ∧ isN ar m t ∧ isN ar n u := by
  unfold isN at h
  rw [skipN_add] at h
  obtain ⟨s, h1, h2⟩ := Option.bind_eq_some_iff.1 h
  obtain ⟨t, rfl, ht⟩ := skipN_split _ _ _ h1
  exact ⟨t, s, rfl, ht, h2⟩
theorem isN_prefix {n : Nat} {t u s s' : List Int} (h : isN ar n t) (k : isN ar n u) (e : t ++ s = u ++ s') : t = u ∧ s = s' := by
  have h1 := isN_skip (s := s) h
  have h2 := isN_skip (s := s') k
  rw [e, h2] at h1
  obtain rfl := Option.some.inj h1
  exact ⟨List.append_cancel_right e, rfl⟩
theorem isN_cons {n : Nat} {c : Int} {r : List Int} : isN ar (n + 1) (c :: r) ↔ ∃ m, ar c = some m ∧ isN ar (n + m) r := by
  unfold isN
  rw [skipN_cons]
  cases e : ar c with
  | none => simp
  | some m => simp
theorem isN_one {t : List Int} (h : isN ar 1 t) : ∃ c r m, t = c :: r ∧ ar c = some m ∧ isN ar m r := by
  cases t with
  | nil => unfold isN at h; rw [skipN_nil] at h; cases h
  | cons c r =>
    obtain ⟨m, h1, h2⟩ := isN_cons.1 h
    exact ⟨c, r, m, rfl, h1, by simpa using h2⟩
theorem isN_pos {n : Nat} {t : List Int} (h : isN ar n t) : n ≤ t.length := by
  induction t generalizing n with
  | nil =>
    cases n with
    | zero => simp
    | succ n => unfold isN at h; rw [skipN_nil] at h; cases h
  | cons c r ih =>
    cases n with
    | zero => simp
    | succ n =>
      obtain ⟨m, _, h2⟩ := isN_cons.1 h
      have := ih h2
      simp only [List.length_cons]
      omega
theorem isN_uniq {m n : Nat} {t : List Int} (h : isN ar m t) (k : isN ar n t) : m = n := by
  induction t generalizing m n with
  | nil =>
    have := isN_pos h
    have := isN_pos k
    simp at *
    omega
  | cons c r ih =>
    cases m with
    | zero => have := isN_zero h; cases this
    | succ m =>
      cases n with
      | zero => have := isN_zero k; cases this
      | succ n =>
        obtain ⟨x, h1, h2⟩ := isN_cons.1 h
        obtain ⟨y, k1, k2⟩ := isN_cons.1 k
        rw [h1] at k1
        obtain rfl := Option.some.inj k1
        have := ih h2 k2
        omega
theorem isN_mem {n : Nat} {t : List Int} (h : isN ar n t) : ∀ c ∈ t, ∃ m, ar c = some m := by
  induction t generalizing n with
  | nil => intro c hc; cases hc
  | cons d r ih =>
    cases n with
    | zero => have := isN_zero h; cases this
    | succ n =>
      obtain ⟨m, h1, h2⟩ := isN_cons.1 h
      intro c hc
      rcases List.mem_cons.1 hc with rfl | hc
      · exact ⟨m, h1⟩
      · exact ih h2 c hc

/-! the terms of a row, one by one -/
def parts (ar : Int → Option Nat) : Nat → List Int → List (List Int)
  | 0, _ => []
  | n + 1, r => match skipN ar r 1 with
    | none => []
    | some s => r.take (r.length - s.length) :: parts ar n s
theorem parts_cons {n : Nat} {t s : List Int} (h : isN ar 1 t) : parts ar (n + 1) (t ++ s) = t :: parts ar n s := by
  simp only [parts]
  rw [isN_skip h]
  simp
theorem parts_flatten {n : Nat} : ∀ {r : List Int}, isN ar n r → (parts ar n r).flatten = r ∧ (parts ar n r).length = n ∧ ∀ t ∈ parts ar n r, isN ar 1 t := by
  induction n with
  | zero => intro r h; have := isN_zero h; subst this; simp [parts]
  | succ n ih =>
    intro r h
    rw [Nat.add_comm] at h
    obtain ⟨t, u, rfl, h1, h2⟩ := isN_split h
    rw [parts_cons h1]
    obtain ⟨a, b, c⟩ := ih h2
    refine ⟨by simp [a], by simp [b], fun x hx => ?_⟩
    rcases List.mem_cons.1 hx with rfl | hx
    · exact h1
    · exact c x hx
theorem isN_flatten {ps : List (List Int)} (h : ∀ t ∈ ps, isN ar 1 t) : isN ar ps.length ps.flatten := by
  induction ps with
  | nil => exact isN_nil
  | cons t ps ih =>
    have := isN_append (h t (List.mem_cons_self ..)) (ih (fun x hx => h x (List.mem_cons_of_mem _ hx)))
    rw [Nat.add_comm] at this
    simpa using this
end
end Go.Proofs.YtohclkafdphleaaDoor
