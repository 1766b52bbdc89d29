/- The order on terms and atoms, plainly: what is more; that it is an order; that it does not turn. What the printed IsAtom answers. What the printed Compare answers. -/
import Derived.Test.YtfnemhkiopgeaaaDoorOrder
import Derived.Test.YtfnemhkiopgeaaaDoorTerms
import Derived.Test.YtfnemhkiopgeaaaDoorPKx0
import Derived.Test.YtfnemhkiopgeaaaDoorPKx4
import Derived.Test.YtfnemhkiopgeaaaDoorPKx12
import Derived.Test.YtfnemhkiopgeaaaDoorPKx13
namespace Go.Proofs.YtfnemhkiopgeaaaDoor.PK
open Go Go.RowKit Go.Proofs.YtfnemhkiopgeaaaDoorW.PrintWords Go.Proofs.YtfnemhkiopgeaaaDoorW.PrintLast Go.Proofs.YtfnemhkiopgeaaaDoor
set_option linter.unusedVariables false
set_option linter.unusedSimpArgs false
def Cov (a b : List Int) : Prop := ∀ v : Nat, v < 24 → b.count (-1 - (v : Int)) ≤ a.count (-1 - (v : Int))
theorem coversTo_iff (a b : List Int) : ∀ n, coversTo a b n = true ↔ ∀ v : Nat, v < n → b.count (-1 - (v : Int)) ≤ a.count (-1 - (v : Int)) := by
  intro n
  induction n with
  | zero => exact ⟨fun _ v hv => by omega, fun _ => rfl⟩
  | succ n ih =>
    simp only [coversTo, Bool.and_eq_true, decide_eq_true_eq, ih]
    constructor
    · rintro ⟨h1, h2⟩ v hv
      rcases Nat.lt_or_ge v n with h | h
      · exact h1 v h
      · obtain rfl : v = n := by omega
        exact h2
    · intro h
      exact ⟨fun v hv => h v (by omega), h n (by omega)⟩
theorem covers_iff (a b : List Int) : coversB a b = true ↔ Cov a b := coversTo_iff a b 24
theorem Cov.rfl' (a : List Int) : Cov a a := fun _ _ => Nat.le_refl _
theorem Cov.trans {a b c : List Int} (h : Cov a b) (k : Cov b c) : Cov a c := fun v hv => Nat.le_trans (k v hv) (h v hv)

inductive More (l : List S58) : List Int → List Int → Prop
  | heavy {a b : List Int} (h : Cov a b) (hw : sumV l b < sumV l a) : More l a b
  | head {c d : Int} {r s : List Int} (h : Cov (c :: r) (d :: s)) (hw : sumV l (c :: r) = sumV l (d :: s)) (hc : d < c) : More l (c :: r) (d :: s)
  | args {c : Int} {n : Nat} {p x u y v : List Int} (h : Cov (c :: (p ++ (x ++ u))) (c :: (p ++ (y ++ v)))) (hw : sumV l (c :: (p ++ (x ++ u))) = sumV l (c :: (p ++ (y ++ v)))) (hp : isN (arS l) n p) (hx : isN (arS l) 1 x) (hy : isN (arS l) 1 y) (hne : x ≠ y) (hm : More l x y) :
      More l (c :: (p ++ (x ++ u))) (c :: (p ++ (y ++ v)))
theorem More.inv {l : List S58} {a b : List Int} (h : More l a b) : Cov a b ∧ (sumV l b < sumV l a ∨ (sumV l a = sumV l b ∧ ((∃ c d r s, a = c :: r ∧ b = d :: s ∧ d < c) ∨ ∃ c n p x u y v, a = c :: (p ++ (x ++ u)) ∧ b = c :: (p ++ (y ++ v)) ∧ isN (arS l) n p ∧ isN (arS l) 1 x ∧ isN (arS l) 1 y ∧ x ≠ y ∧ More l x y))) := by
  cases h with
  | heavy h hw => exact ⟨h, .inl hw⟩
  | head h hw hc => exact ⟨h, .inr ⟨hw, .inl ⟨_, _, _, _, rfl, rfl, hc⟩⟩⟩
  | args h hw hp hx hy hne hm => exact ⟨h, .inr ⟨hw, .inr ⟨_, _, _, _, _, _, _, rfl, rfl, hp, hx, hy, hne, hm⟩⟩⟩
theorem More.cov {l : List S58} {a b : List Int} (h : More l a b) : Cov a b := h.inv.1
theorem More.sum {l : List S58} {a b : List Int} (h : More l a b) : sumV l b ≤ sumV l a := by
  rcases h.inv.2 with h | h
  · omega
  · omega
/-- Two ways to part two rows at a place where they are unlike. -/
theorem split_lt {ar : Int → Option Nat} {n n' : Nat} {p x u p' u' : List Int} (hp : isN ar n p) (hx : isN ar 1 x) (hp' : isN ar n' p') (hlt : n < n') (ea : p ++ (x ++ u) = p' ++ u') :
    ∃ w, p' = p ++ (x ++ w) := by
  obtain ⟨m, rfl⟩ : ∃ m, n' = n + (1 + m) := ⟨n' - n - 1, by omega⟩
  obtain ⟨q, t, rfl, hq, ht⟩ := isN_split hp'
  obtain ⟨z, w, rfl, hz, hw⟩ := isN_split ht
  rw [List.append_assoc, List.append_assoc] at ea
  obtain ⟨rfl, e2⟩ := isN_prefix hp hq ea
  obtain ⟨rfl, _⟩ := isN_prefix hx hz e2
  exact ⟨w, rfl⟩
theorem More.ne {l : List S58} {a b : List Int} (h : More l a b) : a ≠ b := by
  rintro rfl
  rcases h.inv.2 with h | ⟨_, ⟨c, d, r, s, h1, h2, h3⟩ | ⟨c, n, p, x, u, y, v, h1, h2, hp, hx, hy, hne, _⟩⟩
  · omega
  · rw [h1] at h2
    injection h2
    omega
  · rw [h1] at h2
    injection h2 with _ h2
    exact hne (isN_prefix hx hy (List.append_cancel_left h2)).1
theorem More.trans {l : List S58} {a b c : List Int} (h : More l a b) : More l b c → More l a c := by
  induction h generalizing c with
  | heavy h hw => intro k; exact .heavy (h.trans k.cov) (by have := k.sum; omega)
  | @head c0 d r s h hw hc =>
    intro k
    have hcov := h.trans k.cov
    have hsum := k.sum
    rcases k.inv.2 with k | ⟨e, ⟨c', d', r', s', h1, h2, h3⟩ | ⟨c', n, p, x, u, y, v, h1, h2, _⟩⟩
    · exact .heavy hcov (by omega)
    · injection h1 with h1 _
      subst h2
      exact .head hcov (by omega) (by omega)
    · injection h1 with h1 _
      subst h2
      exact .head hcov (by omega) (by omega)
  | @args c0 n p x u y v h hw hp hx hy hne hm ih =>
    intro k
    have hcov := h.trans k.cov
    rcases k.inv.2 with k | ⟨e, ⟨c', d', r', s', h1, h2, h3⟩ | ⟨c', n', p', y', u', z', w', h1, h2, hp', hy', hz', hne', hm'⟩⟩
    · exact .heavy hcov (by omega)
    · injection h1 with h1 _
      subst h2
      exact .head hcov (by omega) (by omega)
    · injection h1 with h0 h1
      subst h0
      subst h2
      rcases Nat.lt_trichotomy n n' with hn | hn | hn
      · obtain ⟨w, e1⟩ := split_lt hp hy hp' hn h1
        have e2 : p' ++ (z' ++ w') = p ++ (y ++ (w ++ (z' ++ w'))) := by rw [e1]; simp
        rw [e2] at hcov e ⊢
        exact .args hcov (by omega) hp hx hy hne hm
      · subst hn
        obtain ⟨rfl, e1⟩ := isN_prefix hp hp' h1
        obtain ⟨rfl, e2⟩ := isN_prefix hy hy' e1
        have hxz := ih hm'
        exact .args hcov (by omega) hp hx hz' hxz.ne hxz
      · obtain ⟨w, e1⟩ := split_lt hp' hy' hp hn h1.symm
        have e2 : p ++ (x ++ u) = p' ++ (y' ++ (w ++ (x ++ u))) := by rw [e1]; simp
        rw [e2] at hcov hw ⊢
        exact .args hcov (by omega) hp' hy' hz' hne' hm'

/-! the printed test answers so -/
theorem unlike_iff {l : List S58} : ∀ (k : Nat) (r s : List Int), r.length ≤ k → ∀ x y, unlikeV (pcs l r) (pcs l s) = some (x, y) ↔ ∃ n p u v, r = p ++ (x ++ u) ∧ s = p ++ (y ++ v) ∧ isN (arS l) n p ∧ isN (arS l) 1 x ∧ isN (arS l) 1 y ∧ x ≠ y := by
  intro k
  induction k with
  | zero =>
    intro r s hk x y
    have : r = [] := List.length_eq_zero_iff.1 (by omega)
    subst this
    constructor
    · intro h; cases h
    · rintro ⟨n, p, u, v, h1, _, _, hx, _⟩
      have := isN_pos hx
      have h2 := congrArg List.length h1
      simp only [List.length_append, List.length_nil] at h2
      omega
  | succ k ih =>
    intro r s hk x y
    constructor
    · intro h
      rcases skip_cases (l := l) r 0 with ⟨t, r', e, ht⟩ | e
      · rw [List.drop_zero] at e
        subst e
        rw [pcs_cons ht] at h
        rcases skip_cases (l := l) s 0 with ⟨t', s', e', ht'⟩ | e'
        · rw [List.drop_zero] at e'
          subst e'
          rw [pcs_cons ht'] at h
          simp only [unlikeV] at h
          split at h
          · rename_i hc
            subst hc
            have := isN_pos ht
            obtain ⟨n, p, u, v, h1, h2, hp, hx, hy, hne⟩ := (ih r' s' (by rw [List.length_append] at hk; omega) x y).1 h
            exact ⟨1 + n, t ++ p, u, v, by rw [h1]; simp, by rw [h2]; simp, isN_append ht hp, hx, hy, hne⟩
          · rename_i hc
            injection h with h
            injection h with h1 h2
            subst h1; subst h2
            exact ⟨0, [], r', s', rfl, rfl, isN_nil, ht, ht', hc⟩
        · rw [List.drop_zero] at e'
          rw [pcs_none e', unlikeV_nil] at h
          cases h
      · rw [List.drop_zero] at e
        rw [pcs_none e] at h
        cases h
    · rintro ⟨n, p, u, v, rfl, rfl, hp, hx, hy, hne⟩
      cases n with
      | zero =>
        have := isN_zero hp
        subst this
        simp only [List.nil_append]
        rw [pcs_cons hx, pcs_cons hy]
        simp only [unlikeV]
        rw [if_neg hne]
      | succ n =>
        rw [Nat.add_comm] at hp
        obtain ⟨t, q, rfl, h1, h2⟩ := isN_split hp
        have := isN_pos h1
        rw [List.append_assoc, List.append_assoc, pcs_cons h1, pcs_cons h1]
        simp only [unlikeV, if_true]
        exact (ih _ _ (by simp only [List.length_append] at hk ⊢; omega) x y).2 ⟨n, q, u, v, rfl, rfl, h2, hx, hy, hne⟩
theorem moreV_iff {l : List S58} : ∀ (n : Nat) (a b : List Int), a.length ≤ n → a ≠ [] → b ≠ [] → (moreV l n a b = true ↔ More l a b) := by
  intro n
  induction n with
  | zero => intro a b h ha; exact absurd (List.length_eq_zero_iff.1 (by omega)) ha
  | succ n ih =>
    intro a b hn ha hb
    obtain ⟨c, r, rfl⟩ := List.exists_cons_of_ne_nil ha
    obtain ⟨d, s, rfl⟩ := List.exists_cons_of_ne_nil hb
    simp only [moreV, Bool.and_eq_true, covers_iff, List.drop_succ_cons, List.drop_zero]
    have e1 : rd (c :: r) 0 = c := rfl
    have e2 : rd (d :: s) 0 = d := rfl
    rw [e1, e2]
    simp only [List.length_cons] at hn
    by_cases hw : sumV l (c :: r) = sumV l (d :: s)
    · rw [if_pos hw]
      by_cases hc : c = d
      · subst hc
        rw [if_pos rfl]
        constructor
        · rintro ⟨hcov, hm⟩
          cases hu : unlikeV (pcs l r) (pcs l s) with
          | none => rw [hu] at hm; cases hm
          | some xy =>
            obtain ⟨x, y⟩ := xy
            rw [hu] at hm
            obtain ⟨k, p, u, v, rfl, rfl, hp, hx, hy, hne⟩ := (unlike_iff r.length r s (Nat.le_refl _) x y).1 hu
            have h1 := isN_pos hx
            have h2 := isN_pos hy
            exact .args hcov hw hp hx hy hne ((ih x y (by simp only [List.length_append] at hn; omega) (by rintro rfl; simp at h1) (by rintro rfl; simp at h2)).1 hm)
        · intro h
          refine ⟨h.cov, ?_⟩
          rcases h.inv.2 with k | ⟨_, ⟨c', d', r', s', h1, h2, h3⟩ | ⟨c', k, p, x, u, y, v, h1, h2, hp, hx, hy, hne, hm⟩⟩
          · omega
          · injection h1 with h1 _
            injection h2 with h2 _
            omega
          · injection h1 with _ h1
            injection h2 with _ h2
            subst h1; subst h2
            rw [(unlike_iff _ _ _ (Nat.le_refl _) x y).2 ⟨k, p, u, v, rfl, rfl, hp, hx, hy, hne⟩]
            have h1 := isN_pos hx
            have h2 := isN_pos hy
            exact (ih x y (by simp only [List.length_append] at hn; omega) (by rintro rfl; simp at h1) (by rintro rfl; simp at h2)).2 hm
      · rw [if_neg hc, decide_eq_true_eq]
        constructor
        · rintro ⟨hcov, hlt⟩
          exact .head hcov hw hlt
        · intro h
          refine ⟨h.cov, ?_⟩
          rcases h.inv.2 with k | ⟨_, ⟨c', d', r', s', h1, h2, h3⟩ | ⟨c', k, p, x, u, y, v, h1, h2, _⟩⟩
          · omega
          · injection h1 with h1 _
            injection h2 with h2 _
            omega
          · injection h1 with h1 _
            injection h2 with h2 _
            omega
    · rw [if_neg hw, decide_eq_true_eq]
      constructor
      · rintro ⟨hcov, hlt⟩
        exact .heavy hcov hlt
      · intro h
        refine ⟨h.cov, ?_⟩
        have := h.sum
        omega
end Go.Proofs.YtfnemhkiopgeaaaDoor.PK
namespace Go.Proofs.YtfnemhkiopgeaaaDoor.PK
open Go Go.RowKit Go.Proofs.YtfnemhkiopgeaaaDoorW.PrintWords Go.Proofs.YtfnemhkiopgeaaaDoorW.PrintLast Go.Proofs.YtfnemhkiopgeaaaDoor
set_option linter.unusedVariables false
set_option linter.unusedSimpArgs false
open Classical in
theorem isAtom_ev {l : List S58} (a : List Int) : Ev (fun k => term_IsAtom.f k l a) (decide (Atom l a)) := by
  unfold term_IsAtom.f
  cases a with
  | nil =>
    refine Ev.if_pos (by simp) (Ev.some_ ?_)
    have : ¬ Atom l [] := by rintro ⟨p, r, h, _⟩; cases h
    simp [this]
  | cons p r =>
    refine Ev.if_neg (by simp only [List.length_cons]; omega) (Ev.if_pos (by simp only [List.length_cons]; omega) ?_)
    have e : rd (p :: r) 0 = p := rfl
    rw [e]
    have no : ∀ (h : ¬ Atom l (p :: r)), decide (Atom l (p :: r)) = false := fun h => decide_eq_false h
    by_cases h0 : p < 0
    · refine Ev.if_pos h0 (Ev.some_ (no ?_).symm)
      rintro ⟨p', r', h, h', _⟩
      injection h with h _
      omega
    · refine Ev.if_neg h0 ?_
      by_cases h1 : p ≥ (l.length : Int)
      · refine Ev.if_pos h1 (Ev.some_ (no ?_).symm)
        rintro ⟨p', r', h, _, h', _⟩
        injection h with h _
        omega
      · refine Ev.if_neg h1 (Ev.if_pos (by omega) (Ev.if_pos (by omega) ?_))
        have e2 : rd_T58 l p = l.getD p.toNat z58 := rfl
        rw [e2]
        by_cases h2 : (l.getD p.toNat z58).f1 = 0
        · refine Ev.if_pos h2 (Ev.if_pos (by simp only [List.length_cons]; omega) ?_)
          rw [List.drop_succ_cons, List.drop_zero]
          by_cases hr : IsRow l r
          · obtain ⟨n, hn⟩ := hr
            obtain ⟨o, ho, h3⟩ := begins_row hn
            have har := sign_arity hn.1 p.toNat (by omega)
            refine Ev.bind h3 (Ev.if_pos rfl (Ev.some_ ?_))
            by_cases h4 : n = (l.getD p.toNat z58).f2.toNat
            · have : Atom l (p :: r) := ⟨p, r, rfl, by omega, by omega, h2, by rw [← h4]; exact hn⟩
              simp only [this, decide_true, beq_iff_eq]
              omega
            · have : ¬ Atom l (p :: r) := by
                rintro ⟨p', r', h, _, _, _, h5⟩
                injection h with h h'
                subst h; subst h'
                exact h4 (isN_uniq hn.2.2 h5.2.2)
              simp only [this, decide_false, beq_eq_false_iff_ne, ne_eq]
              omega
          · refine Ev.bind (begins_no hr) (Ev.if_neg (by simp) (Ev.some_ (no ?_).symm))
            rintro ⟨p', r', h, _, _, _, h5⟩
            injection h with h h'
            subst h; subst h'
            exact hr ⟨_, h5⟩
        · refine Ev.if_neg h2 (Ev.some_ (no ?_).symm)
          rintro ⟨p', r', h, _, _, h', _⟩
          injection h with h _
          subst h
          exact h2 h'
end Go.Proofs.YtfnemhkiopgeaaaDoor.PK
namespace Go.Proofs.YtfnemhkiopgeaaaDoor.PK
open Go Go.RowKit Go.Proofs.YtfnemhkiopgeaaaDoorW.PrintWords Go.Proofs.YtfnemhkiopgeaaaDoorW.PrintLast Go.Proofs.YtfnemhkiopgeaaaDoor
set_option linter.unusedVariables false
set_option linter.unusedSimpArgs false
open Classical in
theorem more_ev {l : List S58} {a b : List Int} (ha : Text l a) (hb : Text l b) : Ev (fun k => order_more.f k l a b) (decide (More l a b)) := by
  obtain ⟨a1, a2, a3⟩ := text_len ha
  obtain ⟨b1, b2, b3⟩ := text_len hb
  obtain ⟨K, hK⟩ := (may_ev l).as_ (signB_true.2 ha.1)
  refine ⟨K, fun k hk => ?_⟩
  show order_more.f k l a b = _
  unfold order_more.f
  rw [if_pos ⟨hK k hk, a1, a2, b1, b2, text_codes ha, text_codes hb⟩]
  congr 1
  have := moreV_iff (l := l) a.length a b (Nat.le_refl _) a3 b3
  by_cases h : More l a b
  · rw [this.2 h, decide_eq_true h]
  · rw [decide_eq_false h]
    simpa [h] using this
/-- May two texts be compared? -/
def Both (l : List S58) (a b : List Int) : Prop := (Row l 1 a ∧ Row l 1 b) ∨ (Atom l a ∧ Atom l b)
theorem Both.texts {l : List S58} {a b : List Int} (h : Both l a b) : Text l a ∧ Text l b := by
  rcases h with ⟨h, k⟩ | ⟨h, k⟩
  · exact ⟨text_term h, text_term k⟩
  · exact ⟨text_atom h, text_atom k⟩
open Classical in
noncomputable def whichV (l : List S58) (a b : List Int) : Int := if a = b then 1 else if More l a b then 2 else if More l b a then 0 else 3
open Classical in
noncomputable def CompareV (l : List S58) (a b : List Int) : Int × Int := if Both l a b then (whichV l a b, 0) else (0, 600)
theorem compare_ev (l : List S58) (a b : List Int) : Ev (fun k => order_Compare.f k l a b) (CompareV l a b) := by
  classical
  have j1 : ∀ bb : Bool, (bb = true ↔ ¬ Both l a b) → Ev (fun k => order_Compare.j1 k l a b bb) (CompareV l a b) := by
    intro bb hbb
    unfold CompareV
    by_cases h : Both l a b
    · rw [if_pos h]
      obtain ⟨ha, hb⟩ := h.texts
      have hn : ¬ bb = true := fun e => (hbb.1 e) h
      refine Ev.step (f := fun k => (slices_Equal_int_int.f k a b).bind fun t276 => (if t276 = true then (some ((1 : Int), (0 : Int))) else ((order_more.f k l a b).bind fun t277 => (if t277 = true then (some (2, 0)) else ((order_more.f k l b a).bind fun t278 => (if t278 = true then (some (0, 0)) else (some (3, 0)))))))) (fun k => ?_) (Ev.bind (equal_ev a b (by have := text_len ha; omega)) ?_)
      · simp only [order_Compare.j1]
        rw [if_neg hn]
      · unfold whichV
        by_cases he : a = b
        · rw [if_pos he]
          exact Ev.if_pos (by simpa using he) (Ev.now _)
        · rw [if_neg he]
          refine Ev.if_neg (by simpa using he) (Ev.bind (more_ev ha hb) ?_)
          by_cases h1 : More l a b
          · rw [if_pos h1]
            exact Ev.if_pos (by simpa using h1) (Ev.now _)
          · rw [if_neg h1]
            refine Ev.if_neg (by simpa using h1) (Ev.bind (more_ev hb ha) ?_)
            by_cases h2 : More l b a
            · rw [if_pos h2]
              exact Ev.if_pos (by simpa using h2) (Ev.now _)
            · rw [if_neg h2]
              exact Ev.if_neg (by simpa using h2) (Ev.now _)
    · rw [if_neg h]
      refine Ev.step (f := fun _ => some ((0 : Int), (600 : Int))) (fun k => ?_) (Ev.now _)
      simp only [order_Compare.j1]
      rw [if_pos (hbb.2 h)]
  have j0 : ∀ (x y : Bool), ((x = true ∨ y = true) ↔ Both l a b) → Ev (fun k => order_Compare.j0 k l a b x y) (CompareV l a b) := by
    intro x y hxy
    cases x with
    | true =>
      refine Ev.step (fun k => ?_) (j1 false ?_)
      · simp only [order_Compare.j0]
        rw [if_pos trivial]
      · have := hxy.1 (.inl rfl)
        simp [this]
    | false =>
      refine Ev.step (fun k => ?_) (j1 (!y) ?_)
      · simp only [order_Compare.j0]
        rw [if_neg (by simp)]
      · cases y with
        | true => have := hxy.1 (.inr rfl); simp [this]
        | false => simp only [Bool.not_false, true_iff]; intro h; have := hxy.2 h; simp at this
  unfold order_Compare.f
  refine Ev.bind (isTerm_ev l a) ?_
  by_cases h1 : Row l 1 a
  · refine Ev.if_pos (by simpa using h1) (Ev.bind (isTerm_ev l b) (Ev.bind (isAtom_ev a) ?_))
    by_cases h2 : Atom l a
    · refine Ev.if_pos (by simpa using h2) (Ev.bind (isAtom_ev b) (j0 _ _ ?_))
      simp [Both, h1, h2]
    · refine Ev.if_neg (by simpa using h2) (j0 _ _ ?_)
      simp [Both, h1, h2]
  · refine Ev.if_neg (by simpa using h1) (Ev.bind (isAtom_ev a) ?_)
    by_cases h2 : Atom l a
    · refine Ev.if_pos (by simpa using h2) (Ev.bind (isAtom_ev b) (j0 _ _ ?_))
      simp [Both, h1, h2]
    · refine Ev.if_neg (by simpa using h2) (j0 _ _ ?_)
      simp [Both, h1, h2]
end Go.Proofs.YtfnemhkiopgeaaaDoor.PK
