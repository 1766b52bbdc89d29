/- What the printed IsAtom answers. -/
import Derived.Test.YteffiodbflmfkaaDoorTerms
import Derived.Test.YteffiodbflmfkaaDoorPPx0
import Derived.Test.YteffiodbflmfkaaDoorPPx4
namespace Go.Proofs.YteffiodbflmfkaaDoor.PP
open Go Go.RowKit Go.Proofs.YteffiodbflmfkaaDoorW.PrintWords Go.Proofs.YteffiodbflmfkaaDoorW.PrintLast Go.Proofs.YteffiodbflmfkaaDoor
set_option linter.unusedVariables false
set_option linter.unusedSimpArgs false
open Classical in
theorem isAtom_ev {l : List S59} (a : List Int) : Ev (fun k => term_IsAtom.f k l a) (decide (Atom l a)) := by
 unfold term_IsAtom.f
 cases a with
 | nil =>
  refine Ev.if_pos (by simp) (Ev.some_ ?_)
  have : ¬ Atom l [] := by rintro ⟨p, r, h, _⟩; cases h
  simp [this]
 | cons p r =>
  refine Ev.if_neg (by simp only [List.length_cons]; omega) (Ev.if_pos (by simp only [List.length_cons]; omega) ?_)
  have e : rd (p :: r) 0 = p := rfl
  rw [e]
  have no : ∀ (h : ¬ Atom l (p :: r)), decide (Atom l (p :: r)) = false := fun h => decide_eq_false h
  by_cases h0 : p < 0
  ·refine Ev.if_pos h0 (Ev.some_ (no ?_).symm)
   rintro ⟨p', r', h, h', _⟩
   injection h with h _
   omega
  ·refine Ev.if_neg h0 ?_
   by_cases h1 : p ≥ (l.length : Int)
   ·refine Ev.if_pos h1 (Ev.some_ (no ?_).symm)
    rintro ⟨p', r', h, _, h', _⟩
    injection h with h _
    omega
   ·refine Ev.if_neg h1 (Ev.if_pos (by omega) (Ev.if_pos (by omega) ?_))
    have e2 : rd_T59 l p = l.getD p.toNat z59 := rfl
    rw [e2]
    by_cases h2 : (l.getD p.toNat z59).f1 = 0
    ·refine Ev.if_pos h2 (Ev.if_pos (by simp only [List.length_cons]; omega) ?_)
     rw [List.drop_succ_cons, List.drop_zero]
     by_cases hr : IsRow l r
     ·obtain ⟨n, hn⟩ := hr
      obtain ⟨o, ho, h3⟩ := begins_row hn
      have har := sign_arity hn.1 p.toNat (by omega)
      refine Ev.bind h3 (Ev.if_pos rfl (Ev.some_ ?_))
      by_cases h4 : n = (l.getD p.toNat z59).f2.toNat
      ·have : Atom l (p :: r) := ⟨p, r, rfl, by omega, by omega, h2, by rw [← h4]; exact hn⟩
       simp only [this, decide_true, beq_iff_eq]
       omega
      ·have : ¬ Atom l (p :: r) := by
        rintro ⟨p', r', h, _, _, _, h5⟩
        injection h with h h'
        subst h; subst h'
        exact h4 (isN_uniq hn.2.2 h5.2.2)
       simp only [this, decide_false, beq_eq_false_iff_ne, ne_eq]
       omega
     ·refine Ev.bind (begins_no hr) (Ev.if_neg (by simp) (Ev.some_ (no ?_).symm))
      rintro ⟨p', r', h, _, _, _, h5⟩
      injection h with h h'
      subst h; subst h'
      exact hr ⟨_, h5⟩
    ·refine Ev.if_neg h2 (Ev.some_ (no ?_).symm)
     rintro ⟨p', r', h, _, _, h', _⟩
     injection h with h _
     subst h
     exact h2 h'
end Go.Proofs.YteffiodbflmfkaaDoor.PP
