/- PathFinds, plainly: the document's Find tells the same. -/
import Derived.Test.YteffiodbflmfkaaDoorWantPathFinds
import Derived.Test.YteffiodbflmfkaaDoorAwake12
import Derived.Test.YteffiodbflmfkaaDoorRefIsTerm
import Derived.Test.YteffiodbflmfkaaDoorRefFits
import Derived.Test.YteffiodbflmfkaaDoorPPx0
import Derived.Test.YteffiodbflmfkaaDoorPPx2
import Derived.Test.YteffiodbflmfkaaDoorPPx6
import Derived.Test.YteffiodbflmfkaaDoorPPx7
import Derived.Test.YteffiodbflmfkaaDoorPPx12
import Derived.Test.YteffiodbflmfkaaDoorPPx24
import Derived.Test.YteffiodbflmfkaaDoorPPx25
import Derived.Test.YteffiodbflmfkaaDoorPPx26
namespace Go.Proofs.YteffiodbflmfkaaDoor.PP
open Go Go.RowKit Go.Proofs.YteffiodbflmfkaaDoorW.PrintWords Go.Proofs.YteffiodbflmfkaaDoorW.PrintLast Go.Proofs.YteffiodbflmfkaaDoor
set_option linter.unusedVariables false
set_option linter.unusedSimpArgs false
theorem become_isSome (l : List S59) (a b : List Int) : (becomeV l a b).2 = (growV l b a 0 (List.replicate 24 [])).isSome := by
 unfold becomeV
 cases growV l b a 0 (List.replicate 24 []) <;> rfl
theorem body_term {l : List S59} {t : List Int} (h : Row l 1 t) : bodyV l t = t ∧ headV l t = -1 := by
 have : ¬ Atom l t := fun k => atom_row k h
 exact ⟨if_neg this, if_neg this⟩
theorem body_atom {l : List S59} {t : List Int} (h : Atom l t) : bodyV l t = t.drop 1 ∧ headV l t = rd t 0 := ⟨if_pos h, if_pos h⟩
theorem atom_head {l : List S59} {t : List Int} (h : Atom l t) : 0 ≤ rd t 0 ∧ ∃ r, t = rd t 0 :: r := by
 obtain ⟨p, r, rfl, h0, _⟩ := h
 exact ⟨h0, r, rfl⟩
theorem becomes_term {l : List S59} {a b : List Int} (ha : Row l 1 a) (hb : Row l 1 b) : becomesV l a b = (growV l b a 0 (List.replicate 24 [])).isSome := by
 classical
 unfold becomesV
 rw [if_pos (by rw [decide_eq_true ha, decide_eq_true hb])]
theorem becomes_atom {l : List S59} {a b : List Int} (ha : Atom l a) (hb : Atom l b) : becomesV l a b = if rd a 0 = rd b 0 then (growV l (b.drop 1) (a.drop 1) 0 (List.replicate 24 [])).isSome else false := by
 classical
 unfold becomesV
 rw [if_pos (by rw [decide_eq_false (atom_row ha), decide_eq_false (atom_row hb)])]
 obtain ⟨h0, r, hr⟩ := atom_head ha
 obtain ⟨_, s, hs⟩ := atom_head hb
 generalize rd a 0 = p at *
 generalize rd b 0 = q at *
 subst hr hs
 rw [grow_head h0]
 by_cases e : p = q
 ·rw [if_pos e.symm, if_pos e]
  rfl
 ·rw [if_neg (fun k => e k.symm), if_neg e]
  rfl
theorem becomes_mixed {l : List S59} {a b : List Int} (h : ¬ (Row l 1 a ↔ Row l 1 b)) : becomesV l a b = false := by
 classical
 unfold becomesV
 split
 ·rename_i k
  exfalso
  refine h ⟨fun x => ?_, fun x => ?_⟩
  ·exact of_decide_eq_true (by rw [← k]; exact decide_eq_true x)
  ·exact of_decide_eq_true (by rw [k]; exact decide_eq_true x)
 ·rfl
theorem fits_same {l : List S59} {u t : List Int} (hu : TextT l u) (ht : TextT l t) {way : Int} (h0 : 0 ≤ way) (h2 : way ≤ 2) : fitsR l u t way = fitsV l u t way := by
 have w3 : way = 0 ∨ way = 1 ∨ way = 2 := by omega
 unfold fitsR fitsV
 rcases hu.2 with h1 | h1 <;> rcases ht.2 with h3 | h3
 ·obtain ⟨b1, c1⟩ := body_term h1
  obtain ⟨b2, c2⟩ := body_term h3
  rw [b1, c1, b2, c2, if_pos rfl, become_isSome, become_isSome, becomes_term h3 h1, becomes_term h1 h3, unite_term h3 h1]
  rcases w3 with rfl | rfl | rfl <;> rfl
 ·obtain ⟨b1, c1⟩ := body_term h1
  obtain ⟨b2, c2⟩ := body_atom h3
  have hh := (atom_head h3).1
  have m : ¬ (Row l 1 u ↔ Row l 1 t) := fun k => atom_row h3 (k.1 h1)
  rw [c1, c2, if_neg (by omega), becomes_mixed m, becomes_mixed (fun k => m k.symm), unite_no (fun k => atom_row h3 k.1) (fun k => atom_row k.2.2 h1)]
  rcases w3 with rfl | rfl | rfl <;> rfl
 ·obtain ⟨b1, c1⟩ := body_atom h1
  obtain ⟨b2, c2⟩ := body_term h3
  have hh := (atom_head h1).1
  have m : ¬ (Row l 1 u ↔ Row l 1 t) := fun k => atom_row h1 (k.2 h3)
  rw [c1, c2, if_neg (by omega), becomes_mixed m, becomes_mixed (fun k => m k.symm), unite_no (fun k => atom_row h1 k.2) (fun k => atom_row k.2.1 h3)]
  rcases w3 with rfl | rfl | rfl <;> rfl
 ·obtain ⟨b1, c1⟩ := body_atom h1
  obtain ⟨b2, c2⟩ := body_atom h3
  rw [b1, c1, b2, c2, become_isSome, become_isSome, becomes_atom h3 h1, becomes_atom h1 h3]
  by_cases e : rd u 0 = rd t 0
  ·rw [if_pos e, if_pos e.symm, if_pos e, unite_atom h3 h1 e.symm]
   rcases w3 with rfl | rfl | rfl <;> rfl
  ·have e' : ¬ rd t 0 = rd u 0 := fun k => e k.symm
   rw [unite_no (fun k => atom_row h3 k.1) (fun k => e k.1.symm)]
   simp only [if_neg e, if_neg e']
   rcases w3 with rfl | rfl | rfl <;> rfl
theorem refIsText_ev {l : List S59} (hs : SignOk l) (t : List Int) : Ev (fun k => quaereref11_IsText.f k l t) (@decide (TextT l t) (Classical.propDecidable _)) := by
 classical
 unfold quaereref11_IsText.f
 refine Ev.bind (refIsTerm_ev hs t) ?_
 by_cases h1 : Row l 1 t
 ·exact Ev.if_pos (decide_eq_true h1) (Ev.some_ (decide_eq_true (p := TextT l t) ⟨h1.1, .inl h1⟩).symm)
 ·refine Ev.if_neg (by simp [h1]) (Ev.bind (refIsAtom_ev hs t) (Ev.some_ ?_))
  by_cases h2 : Atom l t
  ·have : TextT l t := ⟨hs, .inr h2⟩
   rw [decide_eq_true h2, decide_eq_true this]
  ·have : ¬ TextT l t := fun h => h.2.elim h1 h2
   rw [decide_eq_false h2, decide_eq_false this]
section
variable {l : List S59} {ts : List (List Int)} {t : List Int} {way : Int}
theorem refFind_l1 (ht : TextT l t) (hb : ¬ badT l ts) (h0 : 0 ≤ way) (h2 : way ≤ 2) (hl : ts.length ≤ 17592186044000) : ∀ (d i : Nat) (out : List Int), ts.length - i = d → i ≤ ts.length → out.length ≤ i →
  Ev (fun k => quaereref11_Find.l1 k l ts t way out (i : Int)) (out ++ idxV (hitV l t way) i (ts.drop i), 0) := by
 intro d
 induction d with
 | zero =>
  intro i out hd hi ho
  obtain rfl : i = ts.length := by omega
  rw [List.drop_length]
  exact Ev.step (fun k => rfl) (Ev.if_neg (by omega) (Ev.some_ (by simp [idxV])))
 | succ d ih =>
  intro i out hd hi ho
  have hlt : i < ts.length := by omega
  have hrd : rd_L3 ts (i : Int) = ts[i] := by
   unfold rd_L3
   rw [Int.toNat_natCast, List.getD_eq_getElem?_getD, List.getElem?_eq_getElem hlt]
   rfl
  rw [List.drop_eq_getElem_cons hlt]
  refine Ev.step (fun k => rfl) (Ev.if_pos (by omega) (Ev.if_pos (by omega) ?_))
  rw [hrd, wrap_nat i (by omega)]
  by_cases he : ts[i] = []
  ·refine Ev.if_neg (by rw [he]; simp) ?_
   have hh : hitV l t way ts[i] = false := if_pos he
   rw [idxV_no (by rw [hh]; decide)]
   exact ih (i + 1) out (by omega) (by omega) (by omega)
  ·have hu : TextT l ts[i] := Classical.byContradiction fun h => hb ⟨ts[i], List.getElem_mem _, he, h⟩
   have hpos := List.length_pos_iff.2 he
   have hh : hitV l t way ts[i] = fitsV l ts[i] t way := if_neg he
   have hf : quaereref11_fits.f l ts[i] t way = some (fitsV l ts[i] t way) := by
    rw [← fits_same hu ht h0 h2]
    exact if_pos ⟨hu, ht⟩
   refine Ev.if_pos (by omega) ?_
   rw [hf]
   simp only [Option.bind_some]
   by_cases hy : fitsV l ts[i] t way = true
   ·refine Ev.if_pos hy (Ev.if_pos (by omega) ?_)
    rw [idxV_yes (by rw [hh]; exact hy)]
    have h1 := ih (i + 1) (out ++ [(i : Int)]) (by omega) (by omega) (by rw [List.length_append, List.length_singleton]; omega)
    rw [List.append_assoc] at h1
    exact h1
   ·refine Ev.if_neg hy ?_
    rw [idxV_no (by rw [hh]; exact hy)]
    exact ih (i + 1) out (by omega) (by omega) (by omega)
open Classical in
theorem refFind_l0 (ht : TextT l t) (h0 : 0 ≤ way) (h2 : way ≤ 2) (hl : ts.length ≤ 17592186044000) : ∀ (d i : Nat), ts.length - i = d → i ≤ ts.length → (∀ u ∈ ts.take i, u = [] ∨ TextT l u) →
  Ev (fun k => quaereref11_Find.l0 k l ts t way (i : Int)) (if badT l ts then ([], 1200) else (idxV (hitV l t way) 0 ts, 0)) := by
 intro d
 induction d with
 | zero =>
  intro i hd hi hb
  obtain rfl : i = ts.length := by omega
  rw [List.take_length] at hb
  have hnb : ¬ badT l ts := by
   rintro ⟨u, hu, h3, h4⟩
   exact (hb u hu).elim h3 h4
  rw [if_neg hnb]
  have h1 := refFind_l1 (way := way) ht hnb h0 h2 hl ts.length 0 [] rfl (Nat.zero_le _) (Nat.le_refl _)
  rw [List.drop_zero, List.nil_append] at h1
  exact Ev.step (fun k => rfl) (Ev.if_neg (by omega) h1)
 | succ d ih =>
  intro i hd hi hb
  have hlt : i < ts.length := by omega
  have hrd : rd_L3 ts (i : Int) = ts[i] := by
   unfold rd_L3
   rw [Int.toNat_natCast, List.getD_eq_getElem?_getD, List.getElem?_eq_getElem hlt]
   rfl
  have next : (ts[i] = [] ∨ TextT l ts[i]) → Ev (fun k => quaereref11_Find.l0 k l ts t way ((i + 1 : Nat) : Int)) (if badT l ts then ([], 1200) else (idxV (hitV l t way) 0 ts, 0)) := fun hok => ih (i + 1) (by omega) (by omega) (fun u hu => by
   rw [List.take_succ_eq_append_getElem hlt] at hu
   rcases List.mem_append.1 hu with hu | hu
   ·exact hb u hu
   ·obtain rfl := List.mem_singleton.1 hu
    exact hok)
  refine Ev.step (fun k => rfl) (Ev.if_pos (by omega) (Ev.if_pos (by omega) ?_))
  rw [hrd, wrap_nat i (by omega)]
  by_cases he : ts[i] = []
  ·exact Ev.if_neg (by rw [he]; simp) (next (.inl he))
  ·have hpos := List.length_pos_iff.2 he
   refine Ev.if_pos (by omega) (Ev.bind (refIsText_ev ht.1 ts[i]) ?_)
   by_cases hu : TextT l ts[i]
   ·exact Ev.if_pos (by simp [hu]) (next (.inr hu))
   ·refine Ev.if_neg (by simp [hu]) (Ev.some_ ?_)
    rw [if_pos ⟨ts[i], List.getElem_mem _, he, hu⟩]
end
theorem refFind_ev (l : List S59) (ts : List (List Int)) (t : List Int) (way : Int) (hl : ts.length ≤ 17592186044000) : Ev (fun k => quaereref11_Find.f k l ts t way) (findPV l ts t way) := by
 classical
 have jt : ∀ x : Bool, x = true → Ev (fun k => quaereref11_Find.j0 k l ts t way x) ([], 1200) := fun x hx => Ev.step (fun k => rfl) (Ev.if_pos hx (Ev.now _))
 unfold quaereref11_Find.f
 refine Ev.bind (ref_may_ev l) ?_
 by_cases hs : SignOk l
 ·refine Ev.if_pos (signB_true.2 hs) ?_
  by_cases h0 : way < 0
  ·have e : findPV l ts t way = ([], 1200) := if_neg (fun h => by omega)
   rw [e]
   exact Ev.if_pos h0 (jt _ rfl)
  ·refine Ev.if_neg h0 ?_
   by_cases h1 : way > 2
   ·have e : findPV l ts t way = ([], 1200) := if_neg (fun h => by omega)
    rw [e]
    exact Ev.if_pos h1 (jt _ rfl)
   ·refine Ev.if_neg h1 (Ev.bind (refIsText_ev hs t) ?_)
    by_cases h2 : TextT l t
    ·obtain ⟨x, hx⟩ : ∃ x, x = !decide (TextT l t) := ⟨_, rfl⟩
     have hx2 : x = false := by rw [hx, decide_eq_true h2]; rfl
     have h3 := refFind_l0 (way := way) h2 (by omega) (by omega) hl ts.length 0 rfl (Nat.zero_le _) (fun u hu => by simp at hu)
     have e : findPV l ts t way = if badT l ts then ([], 1200) else (idxV (hitV l t way) 0 ts, 0) := by
      unfold findPV
      by_cases hb : badT l ts
      ·rw [if_pos hb, if_neg (fun h => h.2.2.2 hb)]
      ·rw [if_neg hb, if_pos ⟨by omega, by omega, h2, hb⟩]
     rw [e, ← hx]
     exact Ev.step (fun k => rfl) (Ev.if_neg (by rw [hx2]; decide) h3)
    ·have e : findPV l ts t way = ([], 1200) := if_neg (fun h => h2 h.2.2.1)
     rw [e]
     exact jt _ (by rw [decide_eq_false h2]; rfl)
 ·refine Ev.if_neg (fun h => hs (signB_true.1 h)) ?_
  have e : findPV l ts t way = ([], 1200) := if_neg (fun h => hs h.2.2.1.1)
  rw [e]
  exact jt _ rfl
theorem copyInts_f (a : List Int) (h : a.length < 17592186044400) : quaerelaw0_CopyInts.f a = some a := by
 unfold quaerelaw0_CopyInts.f
 first | (rw [if_pos (by omega)]; simp) | (simp; omega) | (rw [if_pos (by simp; omega)]; simp)
theorem copyRows_loop (ts : List (List Int)) (hl : ts.length ≤ 5864062014800) (hx : ∀ u ∈ ts, u.length < 17592186044400) : ∀ (d i : Nat) (out : List (List Int)), ts.length - i = d → i ≤ ts.length → out.length = i → out ++ ts.drop i = ts → Ev (fun k => quaerelaw0_CopyRows.l0 k ts out (i : Int)) ts := by
 intro d
 induction d with
 | zero =>
  intro i out hd hi ho he
  obtain rfl : i = ts.length := by omega
  rw [List.drop_length, List.append_nil] at he
  exact Ev.step (fun k => rfl) (Ev.if_neg (by omega) (Ev.some_ he))
 | succ d ih =>
  intro i out hd hi ho he
  have hlt : i < ts.length := by omega
  have hrd : rd_L3 ts (i : Int) = ts[i] := by
   unfold rd_L3
   rw [Int.toNat_natCast, List.getD_eq_getElem?_getD, List.getElem?_eq_getElem hlt]
   rfl
  refine Ev.step (fun k => rfl) (Ev.if_pos (by omega) (Ev.if_pos (by omega) ?_))
  rw [hrd, copyInts_f _ (hx _ (List.getElem_mem _))]
  simp only [Option.bind_some]
  refine Ev.if_pos (by omega) ?_
  rw [wrap_nat i (by omega)]
  refine ih (i + 1) (out ++ [ts[i]]) (by omega) (by omega) (by rw [List.length_append, List.length_singleton, ho]) ?_
  rw [List.append_assoc, List.singleton_append, ← List.drop_eq_getElem_cons hlt]
  exact he
theorem sameRows_loop (ts : List (List Int)) (hl : ts.length ≤ 5864062014806) (hx : ∀ u ∈ ts, u.length < 17592186044400) : ∀ (d i : Nat), ts.length - i = d → i ≤ ts.length → Ev (fun k => quaerelaw0_SameRows.l0 k ts ts (i : Int)) true := by
 intro d
 induction d with
 | zero =>
  intro i hd hi
  exact Ev.step (fun k => rfl) (Ev.if_neg (by omega) (Ev.some_ rfl))
 | succ d ih =>
  intro i hd hi
  have hlt : i < ts.length := by omega
  have hrd : rd_L3 ts (i : Int) = ts[i] := by
   unfold rd_L3
   rw [Int.toNat_natCast, List.getD_eq_getElem?_getD, List.getElem?_eq_getElem hlt]
   rfl
  have h1 := hx ts[i] (List.getElem_mem _)
  refine Ev.step (fun k => rfl) (Ev.if_pos (by omega) (Ev.if_pos (by omega) (Ev.if_pos (by omega) ?_)))
  rw [hrd]
  refine Ev.bind (sameInts_ev _ _ (by omega)) (Ev.if_pos (by simp) ?_)
  rw [wrap_nat i (by omega)]
  exact ih (i + 1) (by omega) (by omega)
theorem sameRows_ev (ts : List (List Int)) (hl : ts.length ≤ 5864062014806) (hx : ∀ u ∈ ts, u.length < 17592186044400) : Ev (fun k => quaerelaw0_SameRows.f k ts ts) true := by
 unfold quaerelaw0_SameRows.f
 exact Ev.if_pos rfl (sameRows_loop ts hl hx ts.length 0 rfl (Nat.zero_le _))
theorem quaerelaw12_PathFinds.pure : quaerelaw12_PathFinds.Pure := by
 intro l ts t way _ hts _ _
 have hl : ts.length ≤ 5864062014800 := by have := hts.1; omega
 have hx : ∀ u ∈ ts, u.length < 17592186044400 := fun u hu => by have := (hts.2 u hu).1; omega
 refine Ev.get (r := true) ?_
 have hn : (findPV l ts t way).1.length ≤ 17592186044000 := by
  unfold findPV
  split
  ·have := idxV_len (hitV l t way) ts 0
   show (idxV (hitV l t way) 0 ts).length ≤ _
   omega
  ·simp
 unfold quaerelaw12_PathFinds.f
 refine Ev.bind (copyRows_loop ts hl hx ts.length 0 [] rfl (Nat.zero_le _) rfl rfl) (Ev.bind (findP_ev l ts t way (by omega)) (Ev.bind (refFind_ev l ts t way (by omega)) ?_))
 refine Ev.bind (sameInts_ev _ _ (by omega)) (Ev.if_pos (by simp) ?_)
 simp only [quaerelaw0_Num.f, Option.bind_some]
 refine Ev.if_pos trivial (Ev.bind (sameRows_ev ts (by omega) hx) (Ev.if_pos rfl (Ev.bind awake12_ev (Ev.some_ rfl))))
end Go.Proofs.YteffiodbflmfkaaDoor.PP
