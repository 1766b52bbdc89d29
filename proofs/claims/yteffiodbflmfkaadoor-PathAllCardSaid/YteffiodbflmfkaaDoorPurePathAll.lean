/- PathAll, plainly. -/
import Derived.Test.YteffiodbflmfkaaDoorWantPathAll
import Derived.Test.YteffiodbflmfkaaDoorAwake12
import Derived.Test.YteffiodbflmfkaaDoorPathW
import Derived.Test.YteffiodbflmfkaaDoorPPx0
import Derived.Test.YteffiodbflmfkaaDoorPPx6
import Derived.Test.YteffiodbflmfkaaDoorPPx28
namespace Go.Proofs.YteffiodbflmfkaaDoor.PP
open Go Go.RowKit Go.Proofs.YteffiodbflmfkaaDoorW.PrintWords Go.Proofs.YteffiodbflmfkaaDoorW.PrintLast Go.Proofs.YteffiodbflmfkaaDoor
set_option linter.unusedVariables false
set_option linter.unusedSimpArgs false
section
variable {W : List (List Int)} {t : List Int} {P : List (List Int)}
theorem all_l1 (hW : W.length = t.length) (hn : W.Nodup) (ht : t.length ≤ 49) (hP : P = List.zipWith endW W t) (hw : ∀ w ∈ W, w.length ≤ 100) {i : Nat} (hi : i < t.length)
  (h : Ev (fun k => quaerelaw12_PathAll.l0 k t P ((i + 1 : Nat) : Int)) true) : ∀ (d j : Nat), i - j = d → j ≤ i → Ev (fun k => quaerelaw12_PathAll.l1 k t P (i : Int) (j : Int)) true := by
 have hl : P.length = t.length := by rw [hP]; exact zip_length hW
 intro d
 induction d with
 | zero =>
  intro j hd hj
  refine Ev.step (fun k => rfl) (Ev.if_neg (by omega) ?_)
  rw [wrap_nat i (by omega)]
  exact h
 | succ d ih =>
  intro j hd hj
  have hi2 : i < W.length := by omega
  have hj2 : j < W.length := by omega
  have ei : rd_L3 P (i : Int) = W[i] ++ [endC (rd t (i : Int))] := by rw [hP]; exact paths_at hW hi
  have ej : rd_L3 P (j : Int) = W[j] ++ [endC (rd t (j : Int))] := by rw [hP]; exact paths_at hW (by omega)
  have li := hw W[i] (List.getElem_mem _)
  have lj := hw W[j] (List.getElem_mem _)
  have wi := (last_at W[i] (endC (rd t (i : Int)))).resolve_right (by omega)
  have wj := (last_at W[j] (endC (rd t (j : Int)))).resolve_right (by omega)
  have hne : W[i] ≠ W[j] := fun e => List.pairwise_iff_getElem.1 hn j i hj2 hi2 (by omega) e.symm
  refine Ev.step (fun k => rfl) (Ev.if_pos (by omega) (Ev.if_pos (by omega) (Ev.if_pos (by omega) ?_)))
  rw [ei, ej, wi, wj]
  refine Ev.if_pos (by omega) (Ev.if_pos (by simp only [List.length_append, List.length_singleton]; omega) (Ev.if_pos (by omega) (Ev.if_pos (by omega) (Ev.if_pos (by omega) (Ev.if_pos (by simp only [List.length_append, List.length_singleton]; omega) ?_)))))
  rw [Int.toNat_natCast, Int.toNat_natCast, List.take_left, List.take_left]
  refine Ev.bind (sameInts_ev _ _ (by omega)) (Ev.if_neg (by simp [hne]) ?_)
  rw [wrap_nat j (by omega)]
  exact ih (j + 1) (by omega) (by omega)
theorem all_l0 (hW : W.length = t.length) (hn : W.Nodup) (ht : t.length ≤ 49) (hpos : 0 < t.length) (hP : P = List.zipWith endW W t) (hw : ∀ w ∈ W, w.length ≤ 100) (hh : W.head? = some []) : ∀ (d i : Nat), t.length - i = d → i ≤ t.length → Ev (fun k => quaerelaw12_PathAll.l0 k t P (i : Int)) true := by
 have hl : P.length = t.length := by rw [hP]; exact zip_length hW
 intro d
 induction d with
 | zero =>
  intro i hd hi
  have hW0 : 0 < W.length := by omega
  have e0 : rd_L3 P 0 = W[0] ++ [endC (rd t 0)] := (congrArg (fun p => rd_L3 p 0) hP).trans (paths_at (i := 0) hW hpos)
  have e1 : W[0] = [] := by
   rw [List.head?_eq_getElem?, List.getElem?_eq_getElem (by omega)] at hh
   exact Option.some.inj hh
  refine Ev.step (fun k => rfl) (Ev.if_neg (by omega) (Ev.if_pos (by omega) (Ev.if_pos (by omega) (Ev.some_ ?_))))
  rw [e0, e1]
  rfl
 | succ d ih =>
  intro i hd hi
  have hlt : i < t.length := by omega
  have hi2 : i < W.length := by omega
  have ei : rd_L3 P (i : Int) = W[i] ++ [endC (rd t (i : Int))] := by rw [hP]; exact paths_at hW hlt
  have li := hw W[i] (List.getElem_mem _)
  have wi := (last_at W[i] (endC (rd t (i : Int)))).resolve_right (by omega)
  have jn : ∀ x, x = false → Ev (fun k => quaerelaw12_PathAll.j1 k t P (i : Int) x) true := fun x hx => Ev.step (fun k => rfl) (Ev.if_neg (by rw [hx]; decide) (all_l1 hW hn ht hP hw hlt (ih (i + 1) (by omega) (by omega)) i 0 rfl (Nat.zero_le _)))
  refine Ev.step (fun k => rfl) (Ev.if_pos (by omega) (Ev.if_pos (by omega) ?_))
  rw [ei, wi]
  refine Ev.if_neg (by simp only [List.length_append, List.length_singleton]; omega) (Ev.if_pos (by omega) (Ev.if_pos (by simp only [List.length_append, List.length_singleton]; omega) (Ev.if_pos (by omega) ?_)))
  rw [rd_last]
  refine jn _ ?_
  show (endC (rd t (i : Int)) != endC (rd t (i : Int))) = false
  simp
end
theorem quaerelaw12_PathAll.pure : quaerelaw12_PathAll.Pure := by
 classical
 intro l t _ _
 refine Ev.get (r := true) ?_
 unfold quaerelaw12_PathAll.f
 refine Ev.bind awake12_ev (Ev.if_pos rfl (Ev.bind (pathsP_ev l t) ?_))
 simp only [quaerelaw0_Num.f, Option.bind_some]
 by_cases h : Row l 1 t ∨ Atom l t
 ·rw [if_pos h]
  have hT : Text l t := h.elim text_term text_atom
  obtain ⟨h1, h2, h3⟩ := text_len hT
  obtain ⟨W, a1, a2, a3, a4, hw⟩ := pathV_facts hT
  refine Ev.if_pos rfl (Ev.if_pos ?_ (all_l0 a1 a2 h2 (by omega) a3 hw a4 t.length 0 rfl (Nat.zero_le _)))
  show ((pathV l t).length : Int) = _
  rw [a3, zip_length a1]
 ·rw [if_neg h]
  exact Ev.if_neg (by decide) (Ev.some_ rfl)
end Go.Proofs.YteffiodbflmfkaaDoor.PP
