/- What the one package-level variable (sign.equals) holds: the fact that the contracts thread through. -/
import Derived.Test.YteffiodbflmfkaaDoorProg
import Derived.Test.YteffiodbflmfkaaDoorWWords
namespace Go.Proofs.YteffiodbflmfkaaDoor
open Go Go.RowKit Go.Proofs.YteffiodbflmfkaaDoorW.PrintWords
structure Glob (w : World) : Prop where mk :: (out : w.cell? ⟨0, 0, none⟩ = some (.string ⟨#[61]⟩) ∧ w.cell? ⟨0, 1, none⟩ = some (.int .i64 0) ∧ w.cell? ⟨0, 2, none⟩ = some (.int .i64 2) ∧ w.cell? ⟨0, 3, none⟩ = some (.int .i64 1) ∧ True)
theorem Glob.below {w W : World} (h : Glob w) (hb : Below w.heap.size w W) : Glob W := by
  obtain ⟨h0, h1, h2, h3, _⟩ := h.out
  exact ⟨⟨pw_cell_below hb h0, pw_cell_below hb h1, pw_cell_below hb h2, pw_cell_below hb h3, trivial⟩⟩
end Go.Proofs.YteffiodbflmfkaaDoor
