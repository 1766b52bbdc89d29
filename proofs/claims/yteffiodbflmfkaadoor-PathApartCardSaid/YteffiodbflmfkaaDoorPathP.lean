/- What Find tells, plainly. -/
import Derived.Test.YteffiodbflmfkaaDoorBecomes
import Derived.Test.YteffiodbflmfkaaDoorUnite
import Derived.Test.YteffiodbflmfkaaDoorAtoms
import Derived.Test.YteffiodbflmfkaaDoorPPx0
import Derived.Test.YteffiodbflmfkaaDoorPPx4
import Derived.Test.YteffiodbflmfkaaDoorPPx17
import Derived.Test.YteffiodbflmfkaaDoorPPx18
import Derived.Test.YteffiodbflmfkaaDoorPPx19
namespace Go.Proofs.YteffiodbflmfkaaDoor.PP
open Go Go.RowKit Go.Proofs.YteffiodbflmfkaaDoorW.PrintWords Go.Proofs.YteffiodbflmfkaaDoorW.PrintLast Go.Proofs.YteffiodbflmfkaaDoor
set_option linter.unusedVariables false
set_option linter.unusedSimpArgs false
open Classical in
theorem isText_ev (l : List S59) (t : List Int) : Ev (fun k => path_IsText.f k l t) (decide (TextT l t)) := by
 unfold path_IsText.f
 refine Ev.bind (isTerm_ev l t) ?_
 by_cases h1 : Row l 1 t
 ·exact Ev.if_pos (decide_eq_true h1) (Ev.some_ (decide_eq_true (p := TextT l t) ⟨h1.1, .inl h1⟩).symm)
 ·refine Ev.if_neg (by simp [h1]) (Ev.bind (isAtom_ev t) (Ev.some_ ?_))
  by_cases h2 : Atom l t
  ·have : TextT l t := ⟨by obtain ⟨p, r, _, _, _, _, h⟩ := h2; exact h.1, .inr h2⟩
   rw [decide_eq_true h2, decide_eq_true this]
  ·have : ¬ TextT l t := fun h => h.2.elim h1 h2
   rw [decide_eq_false h2, decide_eq_false this]
theorem atom_row {l : List S59} {t : List Int} (h : Atom l t) : ¬ Row l 1 t := by
 rintro ⟨_, _, hn⟩
 obtain ⟨p, r, rfl, h0, h1, h2, _⟩ := h
 obtain ⟨m, hm⟩ := isN_mem hn p (List.mem_cons_self ..)
 exact (arS_pos h0 hm).2.1 h2
noncomputable def fitsV (l : List S59) (u t : List Int) (way : Int) : Bool := if way = 0 then uniteV l t u else if way = 1 then becomesV l t u else becomesV l u t
theorem unite_f {l : List S59} {a b : List Int} (ha : TextT l a) (hb : TextT l b) : path_unite.f l a b = some (uniteV l a b) := if_pos ⟨ha, hb⟩
theorem becomes_f {l : List S59} {a b : List Int} (ha : TextT l a) (hb : TextT l b) : path_becomes.f l a b = some (becomesV l a b) := if_pos ⟨textT_text ha, textT_text hb⟩
theorem fits_ev {l : List S59} {u t : List Int} (hu : TextT l u) (ht : TextT l t) (way : Int) : Ev (fun k => path_fits.f l u t way) (fitsV l u t way) := by
 unfold path_fits.f
 by_cases h0 : way = 0
 ·have e : fitsV l u t way = uniteV l t u := if_pos h0
  rw [e]
  refine Ev.if_pos h0 ?_
  rw [unite_f ht hu]
  exact Ev.now _
 ·refine Ev.if_neg h0 ?_
  by_cases h1 : way = 1
  ·have e : fitsV l u t way = becomesV l t u := by unfold fitsV; rw [if_neg h0, if_pos h1]
   rw [e]
   refine Ev.if_pos h1 ?_
   rw [becomes_f ht hu]
   exact Ev.now _
  ·have e : fitsV l u t way = becomesV l u t := by unfold fitsV; rw [if_neg h0, if_neg h1]
   rw [e]
   refine Ev.if_neg h1 ?_
   rw [becomes_f hu ht]
   exact Ev.now _
def badT (l : List S59) (ts : List (List Int)) : Prop := ∃ u ∈ ts, u ≠ [] ∧ ¬ TextT l u
def idxV (p : List Int → Bool) : Nat → List (List Int) → List Int
 | _, [] => []
 | i, u :: us => if p u = true then (i : Int) :: idxV p (i + 1) us else idxV p (i + 1) us
noncomputable def hitV (l : List S59) (t : List Int) (way : Int) (u : List Int) : Bool := if u = [] then false else fitsV l u t way
open Classical in
noncomputable def findPV (l : List S59) (ts : List (List Int)) (t : List Int) (way : Int) : List Int × Int := if 0 ≤ way ∧ way ≤ 2 ∧ TextT l t ∧ ¬ badT l ts then (idxV (hitV l t way) 0 ts, 0) else ([], 1200)
theorem idxV_no {p : List Int → Bool} {i : Nat} {u : List Int} {us : List (List Int)} (h : ¬ p u = true) : idxV p i (u :: us) = idxV p (i + 1) us := if_neg h
theorem idxV_yes {p : List Int → Bool} {i : Nat} {u : List Int} {us : List (List Int)} (h : p u = true) : idxV p i (u :: us) = (i : Int) :: idxV p (i + 1) us := if_pos h
theorem idxV_len (p : List Int → Bool) : ∀ (us : List (List Int)) (i : Nat), (idxV p i us).length ≤ us.length
 | [], _ => Nat.le_refl _
 | u :: us, i => by
  have := idxV_len p us (i + 1)
  simp only [idxV]
  split <;> simp <;> omega
theorem idxV_mem (p : List Int → Bool) : ∀ (us : List (List Int)) (i j : Nat), (j : Int) ∈ idxV p i us ↔ ∃ u, i ≤ j ∧ us[j - i]? = some u ∧ p u = true := by
 intro us
 induction us with
 | nil => intro i j; simp [idxV]
 | cons u us ih =>
  intro i j
  have h := ih (i + 1) j
  have key : (∃ v, i ≤ j ∧ (u :: us)[j - i]? = some v ∧ p v = true) ↔ (j = i ∧ p u = true) ∨ ∃ v, i + 1 ≤ j ∧ us[j - (i + 1)]? = some v ∧ p v = true := by
   constructor
   ·rintro ⟨v, h1, h2, h3⟩
    rcases Nat.eq_or_lt_of_le h1 with e | e
    ·subst e
     rw [Nat.sub_self] at h2
     obtain rfl := Option.some.inj h2
     exact .inl ⟨rfl, h3⟩
    ·right
     refine ⟨v, e, ?_, h3⟩
     rw [show j - i = (j - (i + 1)) + 1 by omega] at h2
     exact h2
   ·rintro (⟨rfl, h3⟩ | ⟨v, h1, h2, h3⟩)
    ·exact ⟨u, Nat.le_refl _, by rw [Nat.sub_self]; rfl, h3⟩
    ·refine ⟨v, by omega, ?_, h3⟩
     rw [show j - i = (j - (i + 1)) + 1 by omega]
     exact h2
  rw [key, ← h]
  simp only [idxV]
  split
  ·rename_i hp
   rw [List.mem_cons]
   constructor
   ·rintro (e | e)
    ·exact .inl ⟨by omega, hp⟩
    ·exact .inr e
   ·rintro (⟨e, _⟩ | e)
    ·exact .inl (by omega)
    ·exact .inr e
  ·rename_i hp
   exact ⟨.inr, fun h => h.elim (fun h => absurd h.2 hp) id⟩
open Classical in
theorem findP_loop {l : List S59} {t : List Int} {way : Int} (ht : TextT l t) (ts : List (List Int)) (hl : ts.length ≤ 17592186044000) : ∀ (d i : Nat) (out : List Int), ts.length - i = d → i ≤ ts.length → out.length ≤ i →
  Ev (fun k => path_Find.l0 k l t way out ts (ts.length : Int) (i : Int)) (if badT l (ts.drop i) then ([], 1200) else (out ++ idxV (hitV l t way) i (ts.drop i), 0)) := by
 intro d
 induction d with
 | zero =>
  intro i out hd hi ho
  obtain rfl : i = ts.length := by omega
  have hb : ¬ badT l (ts.drop ts.length) := by rintro ⟨u, hu, _⟩; rw [List.drop_length] at hu; cases hu
  rw [if_neg hb, List.drop_length]
  exact Ev.step (fun k => rfl) (Ev.if_neg (by omega) (Ev.some_ (by simp [idxV])))
 | succ d ih =>
  intro i out hd hi ho
  have hlt : i < ts.length := by omega
  obtain ⟨u, hu⟩ : ∃ u, u = ts[i] := ⟨_, rfl⟩
  have hdr : ts.drop i = u :: ts.drop (i + 1) := by rw [hu]; exact List.drop_eq_getElem_cons hlt
  have hrd : rd_L3 ts (i : Int) = u := by
   unfold rd_L3
   rw [Int.toNat_natCast, List.getD_eq_getElem?_getD, List.getElem?_eq_getElem hlt, hu]
   rfl
  refine Ev.step (fun k => rfl) (Ev.if_pos (by omega) (Ev.if_pos (by omega) (Ev.if_pos (by omega) ?_)))
  rw [hrd, wrap_nat i (by omega), hdr]
  have bad_cons : ∀ (hok : u = [] ∨ TextT l u), (badT l (u :: ts.drop (i + 1)) ↔ badT l (ts.drop (i + 1))) := by
   intro hok
   constructor
   ·rintro ⟨v, hv, h1, h2⟩
    rcases List.mem_cons.1 hv with rfl | hv
    ·exact absurd (hok.resolve_left h1) h2
    ·exact ⟨v, hv, h1, h2⟩
   ·rintro ⟨v, hv, h⟩
    exact ⟨v, List.mem_cons_of_mem _ hv, h⟩
  by_cases he : u = []
  ·have h1 := ih (i + 1) out (by omega) (by omega) (by omega)
   refine Ev.if_pos (by rw [he]; rfl) ?_
   have hh : hitV l t way u = false := if_pos he
   simp only [bad_cons (.inl he)]
   rw [idxV_no (by rw [hh]; decide)]
   exact h1
  ·have hpos := List.length_pos_iff.2 he
   refine Ev.if_neg (by omega) (Ev.bind (isText_ev l u) ?_)
   by_cases hT : TextT l u
   ·refine Ev.if_pos (by simp [hT]) (Ev.bind (fits_ev hT ht way) ?_)
    have hh : hitV l t way u = fitsV l u t way := if_neg he
    simp only [bad_cons (.inr hT)]
    by_cases hf : fitsV l u t way = true
    ·have h1 := ih (i + 1) (out ++ [(i : Int)]) (by omega) (by omega) (by rw [List.length_append, List.length_singleton]; omega)
     refine Ev.if_pos hf (Ev.if_pos (by omega) ?_)
     rw [idxV_yes (by rw [hh]; exact hf)]
     rw [List.append_assoc] at h1
     exact h1
    ·have h1 := ih (i + 1) out (by omega) (by omega) (by omega)
     refine Ev.if_neg hf ?_
     rw [idxV_no (by rw [hh]; exact hf)]
     exact h1
   ·refine Ev.if_neg (by simp [hT]) (Ev.some_ ?_)
    rw [if_pos ⟨u, List.mem_cons_self .., he, hT⟩]
theorem findP_ev (l : List S59) (ts : List (List Int)) (t : List Int) (way : Int) (hl : ts.length ≤ 17592186044000) : Ev (fun k => path_Find.f k l ts t way) (findPV l ts t way) := by
 classical
 have jt : ∀ x : Bool, x = true → Ev (fun k => path_Find.j0 k l ts t way x) ([], 1200) := fun x hx => Ev.step (fun k => rfl) (Ev.if_pos hx (Ev.now _))
 unfold path_Find.f
 by_cases h0 : way < 0
 ·have e : findPV l ts t way = ([], 1200) := if_neg (fun h => by omega)
  rw [e]
  exact Ev.if_pos h0 (jt _ rfl)
 ·refine Ev.if_neg h0 ?_
  by_cases h1 : way > 2
  ·have e : findPV l ts t way = ([], 1200) := if_neg (fun h => by omega)
   rw [e]
   exact Ev.if_pos h1 (jt _ rfl)
  ·refine Ev.if_neg h1 (Ev.bind (isText_ev l t) ?_)
   by_cases h2 : TextT l t
   ·obtain ⟨x, hx⟩ : ∃ x, x = !decide (TextT l t) := ⟨_, rfl⟩
    rw [← hx]
    rw [decide_eq_true h2] at hx
    refine Ev.step (fun k => rfl) (Ev.if_neg (by rw [hx]; decide) ?_)
    have h3 := findP_loop (way := way) h2 ts hl ts.length 0 [] rfl (Nat.zero_le _) (Nat.le_refl _)
    rw [List.drop_zero, List.nil_append] at h3
    have e : findPV l ts t way = if badT l ts then ([], 1200) else (idxV (hitV l t way) 0 ts, 0) := by
     unfold findPV
     by_cases hb : badT l ts
     ·rw [if_pos hb, if_neg (fun h => h.2.2.2 hb)]
     ·rw [if_neg hb, if_pos ⟨by omega, by omega, h2, hb⟩]
    rw [e]
    exact h3
   ·have e : findPV l ts t way = ([], 1200) := if_neg (fun h => h2 h.2.2.1)
    rw [e]
    exact jt _ (by rw [decide_eq_false h2]; rfl)
end Go.Proofs.YteffiodbflmfkaaDoor.PP
