/- PathMade, plainly. -/
import Derived.Test.YteffiodbflmfkaaDoorWantPathMade
import Derived.Test.YteffiodbflmfkaaDoorAwake12
import Derived.Test.YteffiodbflmfkaaDoorPathW
import Derived.Test.YteffiodbflmfkaaDoorApply
import Derived.Test.YteffiodbflmfkaaDoorPPx0
import Derived.Test.YteffiodbflmfkaaDoorPPx6
import Derived.Test.YteffiodbflmfkaaDoorPPx33
namespace Go.Proofs.YteffiodbflmfkaaDoor.PP
open Go Go.RowKit Go.Proofs.YteffiodbflmfkaaDoorW.PrintWords Go.Proofs.YteffiodbflmfkaaDoorW.PrintLast Go.Proofs.YteffiodbflmfkaaDoor
set_option linter.unusedVariables false
set_option linter.unusedSimpArgs false
theorem made_in {l : List S59} {x t : List Int} {way : Int} (hx : TextT l x) (ht : TextT l t) (h0 : 0 ≤ way) (h2 : way ≤ 2) (h : fitsV l x t way = true) : findPV l [[], x] t way = ([1], 0) := by
 have hb : ¬ badT l [[], x] := by
  rintro ⟨v, hv, h3, h4⟩
  simp only [List.mem_cons, List.not_mem_nil, or_false] at hv
  rcases hv with rfl | rfl
  ·exact h3 rfl
  ·exact h4 hx
 have e : findPV l [[], x] t way = (idxV (hitV l t way) 0 [[], x], 0) := if_pos ⟨h0, h2, ht, hb⟩
 have n : hitV l t way [] = false := if_pos rfl
 have y : hitV l t way x = true := (if_neg (textT_ne hx)).trans h
 rw [e, idxV_no (by rw [n]; decide), idxV_yes y]
 rfl
theorem made_in2 {l : List S59} {x t : List Int} {way : Int} (hx : TextT l x) (ht : TextT l t) (h0 : 0 ≤ way) (h2 : way ≤ 2) (h : fitsV l x t way = true) : findPV l [x, []] t way = ([0], 0) := by
 have hb : ¬ badT l [x, []] := by
  rintro ⟨v, hv, h3, h4⟩
  simp only [List.mem_cons, List.not_mem_nil, or_false] at hv
  rcases hv with rfl | rfl
  ·exact h4 hx
  ·exact h3 rfl
 have e : findPV l [x, []] t way = (idxV (hitV l t way) 0 [x, []], 0) := if_pos ⟨h0, h2, ht, hb⟩
 have n : hitV l t way [] = false := if_pos rfl
 have y : hitV l t way x = true := (if_neg (textT_ne hx)).trans h
 rw [e, idxV_yes y, idxV_no (by rw [n]; decide)]
 rfl
theorem become_made {l : List S59} {t : List Int} {θ : Int → List Int} (ht : Row l 1 t) (hx : Row l 1 (subV θ t)) (hg : Good l θ) : becomesV l t (subV θ t) = true := by
 classical
 have hm := match_made hg ⟨1, ht⟩ hx.2.1
 rw [matchV_ok ⟨1, ht⟩ ⟨1, hx⟩] at hm
 unfold becomesV
 rw [if_pos (by rw [decide_eq_true ht, decide_eq_true hx])]
 cases h : growV l (subV θ t) t 0 (List.replicate 24 []) with
 | some σ => rfl
 | none => rw [h] at hm; simp at hm
theorem quaerelaw12_PathMade.pure : quaerelaw12_PathMade.Pure := by
 classical
 intro l s t _ _ _
 refine Ev.get (r := true) ?_
 unfold quaerelaw12_PathMade.f
 refine Ev.bind awake12_ev (Ev.if_pos rfl (Ev.bind (apply_ev l s t) (Ev.bind (pathsP_ev l t) ?_)))
 simp only [quaerelaw0_Num.f, Option.bind_some]
 have jt : ∀ r, Ev (fun k => quaerelaw12_PathMade.j0 k l t r true) true := fun r => by
  obtain ⟨x, hx⟩ : ∃ x, x = true := ⟨_, rfl⟩
  have : Ev (fun k => quaerelaw12_PathMade.j0 k l t r x) true := Ev.step (fun k => rfl) (Ev.if_pos hx (Ev.now _))
  rw [hx] at this
  exact this
 by_cases h1 : (ApplyV l s t).2 = 0
 ·refine Ev.if_pos h1 ?_
  obtain ⟨hb, ⟨n, hn⟩, hla, ea⟩ := applyV_ok h1
  by_cases h : Row l 1 t ∨ Atom l t
  ·rw [if_pos h]
   have ht : Row l 1 t := h.resolve_right (fun ha => by
    obtain ⟨p, r, rfl, h0, _, h2, _⟩ := ha
    obtain ⟨m, hm⟩ := isN_mem hn.2.2 p (List.mem_cons_self ..)
    exact (arS_pos h0 hm).2.1 h2)
   have hg := good_ofB hb
   have hx : Row l 1 (onV s t) := ⟨ht.1, hla, onV_isN hb ht.2.2⟩
   have htT : TextT l t := ⟨ht.1, .inl ht⟩
   have hxT : TextT l (onV s t) := ⟨ht.1, .inl hx⟩
   have hbm : becomesV l t (onV s t) = true := by
    rw [onV_sub] at hx ⊢
    exact become_made ht hx hg
   have f1 : fitsV l (onV s t) t 1 = true := by
    unfold fitsV
    rw [if_neg (by decide), if_pos rfl]
    exact hbm
   have f2 : fitsV l t (onV s t) 2 = true := by
    unfold fitsV
    rw [if_neg (by decide), if_neg (by decide)]
    exact hbm
   rw [ea]
   have g1 := findP_ev l [[], onV s t] t 1 (by simp)
   have g2 := findP_ev l [t, []] (onV s t) 2 (by simp)
   rw [made_in hxT htT (by decide) (by decide) f1] at g1
   rw [made_in2 htT hxT (by decide) (by decide) f2] at g2
   obtain ⟨x, hx0⟩ : ∃ x, x = ((0 : Int) != 0) := ⟨_, rfl⟩
   have hx1 : x = false := hx0
   show Ev (fun k => quaerelaw12_PathMade.j0 k l t (onV s t) ((0 : Int) != 0)) true
   rw [← hx0]
   refine Ev.step (fun k => rfl) (Ev.if_neg (by rw [hx1]; decide) (Ev.bind g1 (Ev.bind g2 ?_)))
   simp only [quaerelaw0_Num.f, Option.bind_some]
   exact Ev.if_pos trivial (Ev.bind (sameInts_ev _ _ (by simp)) (Ev.if_pos (by simp) (Ev.if_pos trivial (Ev.bind (sameInts_ev _ _ (by simp)) (Ev.some_ (by simp))))))
  ·rw [if_neg h]
   exact jt _
 ·exact Ev.if_neg h1 (jt _)
end Go.Proofs.YteffiodbflmfkaaDoor.PP
