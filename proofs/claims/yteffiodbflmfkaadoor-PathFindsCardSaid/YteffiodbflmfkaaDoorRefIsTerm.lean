/- What the reference's printed IsTerm answers. -/
import Derived.Test.YteffiodbflmfkaaDoorTerms
import Derived.Test.YteffiodbflmfkaaDoorRefTerms
import Derived.Test.YteffiodbflmfkaaDoorPPx0
import Derived.Test.YteffiodbflmfkaaDoorPPx11
namespace Go.Proofs.YteffiodbflmfkaaDoor.PP
open Go Go.RowKit Go.Proofs.YteffiodbflmfkaaDoorW.PrintWords Go.Proofs.YteffiodbflmfkaaDoorW.PrintLast Go.Proofs.YteffiodbflmfkaaDoor
set_option linter.unusedVariables false
set_option linter.unusedSimpArgs false
open Classical in
theorem refIsTerm_ev {l : List S59} (hs : SignOk l) (r : List Int) : Ev (fun k => quaereref1_IsTerm.f k l r) (decide (Row l 1 r)) := by
 unfold quaereref1_IsTerm.f
 refine Ev.bind (terms_ev hs r) (Ev.some_ ?_)
 by_cases h : IsRow l r
 ·obtain ⟨n, hn⟩ := h
  rw [termsV_row hn]
  by_cases h1 : n = 1
  ·subst h1
   simp [hn]
  ·have : ¬ Row l 1 r := fun k => h1 (isN_uniq hn.2.2 k.2.2)
   simp only [this, decide_false, beq_eq_false_iff_ne, ne_eq]
   omega
 ·rw [termsV_no h]
  have : ¬ Row l 1 r := fun k => h ⟨1, k⟩
  simp [this]
end Go.Proofs.YteffiodbflmfkaaDoor.PP
