/- The ways of a text's paths, plainly. -/
import Derived.Test.YteffiodbflmfkaaDoorPathS
import Derived.Test.YteffiodbflmfkaaDoorAtoms
import Derived.Test.YteffiodbflmfkaaDoorPPx0
import Derived.Test.YteffiodbflmfkaaDoorPPx4
import Derived.Test.YteffiodbflmfkaaDoorPPx6
namespace Go.Proofs.YteffiodbflmfkaaDoor.PP
open Go Go.RowKit Go.Proofs.YteffiodbflmfkaaDoorW.PrintWords Go.Proofs.YteffiodbflmfkaaDoorW.PrintLast Go.Proofs.YteffiodbflmfkaaDoor
set_option linter.unusedVariables false
set_option linter.unusedSimpArgs false
def waysRs (f : List Int → List Int → List (List Int)) (way : List Int) : Nat → List (List Int) → List (List Int)
 | _, [] => []
 | i, p :: ps => f (way ++ [(i : Int)]) p ++ waysRs f way (i + 1) ps
def waysR (l : List S59) : Nat → List Int → List Int → List (List Int)
 | 0, way, t => [way]
 | k + 1, way, t => way :: waysRs (waysR l k) way 0 (pcsU l (t.drop 1))
def endW (w : List Int) (c : Int) : List Int := w ++ [endC c]
theorem textS_split {l : List S59} {t : List Int} (h : TextS l t) : ∃ c r, t = c :: r ∧ (pcsU l r).flatten = r ∧ (∀ p ∈ pcsU l r, TextS l p ∧ p.length ≤ r.length) := by
 obtain ⟨c, r, e, _, _, h3, h4⟩ := h.cons
 obtain ⟨f1, _, f3⟩ := textS_parts h.sig h3 h4
 exact ⟨c, r, e, f1, f3⟩
theorem paths_zip {l : List S59} : ∀ (k : Nat) (way t : List Int), TextS l t → t.length ≤ k + 1 → (waysR l k way t).length = t.length ∧ pathR l k way t = List.zipWith endW (waysR l k way t) t := by
 intro k
 induction k with
 | zero =>
  intro way t ht hk
  obtain ⟨c, r, rfl, _, _⟩ := textS_split ht
  obtain rfl : r = [] := by simp only [List.length_cons] at hk; exact List.length_eq_zero_iff.1 (by omega)
  exact ⟨rfl, rfl⟩
 | succ k ih =>
  intro way t ht hk
  obtain ⟨c, r, rfl, f1, f3⟩ := textS_split ht
  simp only [List.length_cons] at hk
  have key : ∀ (ps : List (List Int)) (i : Nat), (∀ p ∈ ps, TextS l p ∧ p.length ≤ k + 1) → (waysRs (waysR l k) way i ps).length = ps.flatten.length ∧ pathRs (pathR l k) way i ps = List.zipWith endW (waysRs (waysR l k) way i ps) ps.flatten := by
   intro ps
   induction ps with
   | nil => intro i _; exact ⟨rfl, rfl⟩
   | cons p ps ih2 =>
    intro i hp
    have h0 := hp p (List.mem_cons_self ..)
    obtain ⟨a1, a2⟩ := ih (way ++ [(i : Int)]) p h0.1 h0.2
    obtain ⟨b1, b2⟩ := ih2 (i + 1) (fun q hq => hp q (List.mem_cons_of_mem _ hq))
    simp only [waysRs, pathRs, List.flatten_cons, List.length_append]
    rw [a2, b2, List.zipWith_append a1]
    exact ⟨by omega, rfl⟩
  obtain ⟨a1, a2⟩ := key (pcsU l r) 0 (fun p hp => ⟨(f3 p hp).1, by have := (f3 p hp).2; omega⟩)
  rw [f1] at a1 a2
  refine ⟨?_, ?_⟩
  ·show (way :: waysRs (waysR l k) way 0 (pcsU l r)).length = _
   rw [List.length_cons, a1, List.length_cons]
  ·show (way ++ [endC c]) :: pathRs (pathR l k) way 0 (pcsU l r) = _
   rw [a2]
   rfl
theorem ways_pre {l : List S59} : ∀ (k : Nat) (way t w : List Int), w ∈ waysR l k way t → ∃ s, w = way ++ s := by
 intro k
 induction k with
 | zero =>
  intro way t w h
  obtain rfl := List.mem_singleton.1 h
  exact ⟨[], by simp⟩
 | succ k ih =>
  intro way t w h
  have key : ∀ (ps : List (List Int)) (i : Nat), w ∈ waysRs (waysR l k) way i ps → ∃ s, w = way ++ s := by
   intro ps
   induction ps with
   | nil => intro i h; cases h
   | cons p ps ih2 =>
    intro i h
    simp only [waysRs] at h
    rcases List.mem_append.1 h with h | h
    ·obtain ⟨s, rfl⟩ := ih _ _ _ h
     exact ⟨[(i : Int)] ++ s, by simp⟩
    ·exact ih2 (i + 1) h
  rcases List.mem_cons.1 h with rfl | h
  ·exact ⟨[], by simp⟩
  ·exact key _ _ h
theorem waysRs_pre {l : List S59} {k : Nat} {way w : List Int} : ∀ (ps : List (List Int)) (i : Nat), w ∈ waysRs (waysR l k) way i ps → ∃ (j : Nat) (s : List Int), i ≤ j ∧ w = way ++ [(j : Int)] ++ s := by
 intro ps
 induction ps with
 | nil => intro i h; cases h
 | cons p ps ih =>
  intro i h
  simp only [waysRs] at h
  rcases List.mem_append.1 h with h | h
  ·obtain ⟨s, rfl⟩ := ways_pre _ _ _ _ h
   exact ⟨i, s, Nat.le_refl _, rfl⟩
  ·obtain ⟨j, s, hj, rfl⟩ := ih (i + 1) h
   exact ⟨j, s, by omega, rfl⟩
theorem ways_nodup {l : List S59} : ∀ (k : Nat) (way t : List Int), (waysR l k way t).Nodup := by
 intro k
 induction k with
 | zero => intro way t; simp [waysR]
 | succ k ih =>
  intro way t
  have key : ∀ (ps : List (List Int)) (i : Nat), (waysRs (waysR l k) way i ps).Nodup := by
   intro ps
   induction ps with
   | nil => intro i; simp [waysRs]
   | cons p ps ih2 =>
    intro i
    simp only [waysRs]
    rw [List.nodup_append]
    refine ⟨ih _ _, ih2 (i + 1), fun a ha b hb e => ?_⟩
    subst e
    obtain ⟨s, e1⟩ := ways_pre _ _ _ _ ha
    obtain ⟨j, s', hj, e2⟩ := waysRs_pre _ _ hb
    rw [e1, List.append_assoc, List.append_assoc] at e2
    have e3 := List.append_cancel_left e2
    injection e3 with e4 _
    omega
  show (way :: waysRs (waysR l k) way 0 (pcsU l (t.drop 1))).Nodup
  rw [List.nodup_cons]
  refine ⟨fun h => ?_, key _ _⟩
  obtain ⟨j, s, _, e⟩ := waysRs_pre _ _ h
  have := congrArg List.length e
  simp at this
theorem ways_len {l : List S59} : ∀ (k : Nat) (way t w : List Int), w ∈ waysR l k way t → w.length ≤ way.length + k := by
 intro k
 induction k with
 | zero =>
  intro way t w h
  obtain rfl := List.mem_singleton.1 h
  omega
 | succ k ih =>
  intro way t w h
  have key : ∀ (ps : List (List Int)) (i : Nat), w ∈ waysRs (waysR l k) way i ps → w.length ≤ way.length + 1 + k := by
   intro ps
   induction ps with
   | nil => intro i h; cases h
   | cons p ps ih2 =>
    intro i h
    simp only [waysRs] at h
    rcases List.mem_append.1 h with h | h
    ·have := ih _ _ _ h
     rw [List.length_append, List.length_singleton] at this
     exact this
    ·exact ih2 (i + 1) h
  rcases List.mem_cons.1 h with rfl | h
  ·omega
  ·have := key _ _ h
   omega
theorem pathV_facts {l : List S59} {t : List Int} (ht : Text l t) : ∃ W : List (List Int), W.length = t.length ∧ W.Nodup ∧ pathV l t = List.zipWith endW W t ∧ W.head? = some [] ∧ ∀ w ∈ W, w.length ≤ 100 := by
 have hS := text_textS ht
 obtain ⟨h1, h2⟩ := paths_zip t.length [] t hS (by omega)
 refine ⟨waysR l t.length [] t, h1, ways_nodup _ _ _, h2, ?_, fun w hw => ?_⟩
 ·cases t.length <;> rfl
 ·have := ways_len _ _ _ _ hw
  have := (text_len ht).2.1
  simp only [List.length_nil] at *
  omega
theorem paths_at {W : List (List Int)} {t : List Int} (h : W.length = t.length) {i : Nat} (hi : i < t.length) : rd_L3 (List.zipWith endW W t) (i : Int) = W[i] ++ [endC (rd t (i : Int))] := by
 unfold rd_L3
 rw [Int.toNat_natCast, List.getD_eq_getElem?_getD, List.getElem?_eq_getElem (by rw [List.length_zipWith]; omega), List.getElem_zipWith, rd_nat t i hi]
 rfl
theorem zip_length {W : List (List Int)} {t : List Int} (h : W.length = t.length) : (List.zipWith endW W t).length = t.length := by rw [List.length_zipWith]; omega
theorem last_at (w : List Int) (x : Int) : wrap64 (((w ++ [x]).length : Int) - 1) = (w.length : Int) ∨ 4611686018427387904 ≤ w.length := by
 by_cases h : 4611686018427387904 ≤ w.length
 ·exact .inr h
 ·left
  rw [List.length_append, List.length_singleton]
  unfold wrap64
  omega
open Classical in
theorem pathsP_ev (l : List S59) (t : List Int) : Ev (fun k => path_Paths.f k l t) (if Row l 1 t ∨ Atom l t then (pathV l t, 0) else ([], 1200)) := by
 unfold path_Paths.f path_IsText.f
 have hrow : ∀ h : Row l 1 t ∨ Atom l t, Text l t := fun h => h.elim text_term text_atom
 by_cases h1 : Row l 1 t
 ·rw [if_pos (.inl h1)]
  have e := paths_ev (text_term h1)
  refine Ev.bind (a := true) ?_ (Ev.if_pos rfl (Ev.bind e (Ev.some_ rfl)))
  exact Ev.bind (isTerm_ev l t) (Ev.if_pos (decide_eq_true h1) (Ev.some_ rfl))
 ·by_cases h2 : Atom l t
  ·rw [if_pos (.inr h2)]
   have e := paths_ev (text_atom h2)
   refine Ev.bind (a := true) ?_ (Ev.if_pos rfl (Ev.bind e (Ev.some_ rfl)))
   exact Ev.bind (isTerm_ev l t) (Ev.if_neg (by simp [h1]) (Ev.bind (isAtom_ev t) (Ev.some_ (decide_eq_true h2))))
  ·rw [if_neg (fun h => h.elim h1 h2)]
   refine Ev.bind (a := false) ?_ (Ev.if_neg (by decide) (Ev.some_ rfl))
   exact Ev.bind (isTerm_ev l t) (Ev.if_neg (by simp [h1]) (Ev.bind (isAtom_ev t) (Ev.some_ (decide_eq_false h2))))
end Go.Proofs.YteffiodbflmfkaaDoor.PP
