/- Unification and binds of a signature: what the laws lean on. -/
import Derived.Test.YteffiodbflmfkaaDoorUniPl
import Derived.Test.YteffiodbflmfkaaDoorPPx0
namespace Go.Proofs.YteffiodbflmfkaaDoor.PP
open Go Go.RowKit Go.Proofs.YteffiodbflmfkaaDoorW.PrintWords Go.Proofs.YteffiodbflmfkaaDoorW.PrintLast Go.Proofs.YteffiodbflmfkaaDoor
set_option linter.unusedVariables false
set_option linter.unusedSimpArgs false
theorem arS_var0 {l : List S59} {c : Int} (h0 : -24 ≤ c) (h1 : c < 0) : arS l c = some 0 := by
 unfold arS
 rw [if_pos h1, if_pos h0]
theorem arU_neg {l : List S59} {c : Int} (h0 : -48 ≤ c) (h1 : c < 0) : arU l c = some 0 := by
 unfold arU
 rw [if_pos h1, if_pos h0]
/-- Binds of a signature's variables, as binds of all. -/
def widen (θ : Int → List Int) (c : Int) : List Int := if -24 ≤ c then θ c else [c]
theorem widen_good {l : List S59} {θ : Int → List Int} (h : Good l θ) : GoodA (arU l) (widen θ) := by
 intro c hc ha
 have hlo := arU_lo hc ha
 unfold widen
 split
 ·rename_i h0
  exact arU_isN (h c h0 hc)
 ·exact isN_cons.2 ⟨0, arU_neg hlo hc, isN_nil⟩
theorem widen_sub {l : List S59} {n : Nat} {r : List Int} (hr : isN (arS l) n r) (θ : Int → List Int) : subV (widen θ) r = subV θ r :=
 subV_congr r (fun c hc _ => if_pos (codes_row hr c hc).1)
theorem Mgu.same {l : List S59} {a b : List Int} {τ ς : Int → List Int} (h : Mgu l a b τ ς) : subV ς a = subV ς b := (h.2 ς h.1.good).2 h.1.resp
theorem Mgu.symm {l : List S59} {a b : List Int} {τ ς : Int → List Int} (h : Mgu l a b τ ς) : Mgu l b a τ ς := ⟨h.1, fun θ hg => by rw [← h.2 θ hg]; exact ⟨fun e => e.symm, fun e => e.symm⟩⟩
/-- What makes both the same is what is told and then itself. -/
theorem Mgu.factor {l : List S59} {a b : List Int} {n m : Nat} {τ ς θ : Int → List Int} (h : Mgu l a b τ ς) (hs : Good l ς) (ha : isN (arS l) n a) (hb : isN (arS l) m b) (hg : Good l θ) (he : subV θ a = subV θ b) {c : Int} (h0 : -24 ≤ c) (h1 : c < 0) : subV θ (ς c) = θ c := by
 have hr : Resp (widen θ) τ := (h.2 _ (widen_good hg)).1 (by rw [widen_sub ha, widen_sub hb, he])
 have h2 := h.1.factor (arU_var l) hr c h1 (by rw [arU_neg (by omega) h1]; simp)
 rw [widen_sub (hs c h0 h1)] at h2
 rw [h2]
 exact if_pos h0
/-! one variable and a term -/
end Go.Proofs.YteffiodbflmfkaaDoor.PP
