/- What the printed IsRow answers. -/
import Derived.Test.YteffiodbflmfkaaDoorTerms
import Derived.Test.YteffiodbflmfkaaDoorPPx0
import Derived.Test.YteffiodbflmfkaaDoorPPx9
namespace Go.Proofs.YteffiodbflmfkaaDoor.PP
open Go Go.RowKit Go.Proofs.YteffiodbflmfkaaDoorW.PrintWords Go.Proofs.YteffiodbflmfkaaDoorW.PrintLast Go.Proofs.YteffiodbflmfkaaDoor
set_option linter.unusedVariables false
set_option linter.unusedSimpArgs false
open Classical in
theorem isRow_ev (l : List S59) (r : List Int) : Ev (fun k => term_IsRow.f k l r) (decide (IsRow l r)) := by
 unfold term_IsRow.f
 by_cases h : IsRow l r
 ·obtain ⟨n, hn⟩ := h
  obtain ⟨o, _, h2⟩ := begins_row hn
  refine Ev.bind h2 (Ev.some_ ?_)
  have : IsRow l r := ⟨n, hn⟩
  simp [this]
 ·exact Ev.bind (begins_no h) (Ev.some_ (by simp [h]))
end Go.Proofs.YteffiodbflmfkaaDoor.PP
