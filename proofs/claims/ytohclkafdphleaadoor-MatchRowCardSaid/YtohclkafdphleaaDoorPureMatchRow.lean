/- MatchRow, plainly. -/
import Derived.Test.YtohclkafdphleaaDoorWantMatchRow
import Derived.Test.YtohclkafdphleaaDoorMade
import Derived.Test.YtohclkafdphleaaDoorPNx0
import Derived.Test.YtohclkafdphleaaDoorPNx3
import Derived.Test.YtohclkafdphleaaDoorPNx5
import Derived.Test.YtohclkafdphleaaDoorPNx11
namespace Go.Proofs.YtohclkafdphleaaDoor.PN
open Go Go.RowKit Go.Proofs.YtohclkafdphleaaDoorW.PrintWords Go.Proofs.YtohclkafdphleaaDoorW.PrintLast Go.Proofs.YtohclkafdphleaaDoor
set_option linter.unusedVariables false
set_option linter.unusedSimpArgs false
theorem good_then {l : List S73} {θ₁ θ₂ : Int → List Int} (h₁ : Good l θ₁) (h₂ : Good l θ₂) : Good l (fun c => subV θ₂ (θ₁ c)) := fun c h0 h1 => subV_isN h₂ _ 1 (h₁ c h0 h1)
theorem quaerelaw5_MatchRow.pure : quaerelaw5_MatchRow.Pure := by
  classical
  intro l s u a _ _ _ _
  refine Ev.get (r := true) ?_
  unfold quaerelaw5_MatchRow.f
  simp only [quaerelaw0_Num.f, Option.bind_some]
  have jt : ∀ x y, Ev (fun k => quaerelaw5_MatchRow.j0 k l a x y true) true := fun x y => Ev.step (f := fun _ => some true) (fun k => by simp only [quaerelaw5_MatchRow.j0]; rw [if_pos trivial]) (Ev.now _)
  refine Ev.bind awake5_ev (Ev.if_pos rfl (Ev.bind (apply_ev l s a) (Ev.bind (apply_ev l u _) ?_)))
  by_cases h1 : (ApplyV l s a).2 = 0
  · refine Ev.if_pos h1 ?_
    obtain ⟨hb, ⟨n, hn⟩, hla, ea⟩ := applyV_ok h1
    rw [ea]
    simp only
    by_cases h2 : (ApplyV l u (onV s a)).2 = 0
    · obtain ⟨hb2, _, hlb, eb⟩ := applyV_ok h2
      rw [eb]
      simp only
      have hg1 := good_ofB hb
      have hg2 := good_ofB hb2
      have hrow : IsRow l (onV s a) := ⟨n, hn.1, hla, onV_isN hb hn.2.2⟩
      have m1 := match_made hg1 ⟨n, hn⟩ (by rw [← onV_sub]; exact hla)
      have m2 := match_made hg2 hrow (by rw [← onV_sub]; exact hlb)
      have m3 := match_made (good_then hg1 hg2) ⟨n, hn⟩ (by rw [← subV_sub, ← onV_sub, ← onV_sub]; exact hlb)
      rw [← onV_sub] at m1 m2
      rw [← subV_sub, ← onV_sub, ← onV_sub] at m3
      have e0 : ((0 : Int) != 0) = false := rfl
      rw [e0]
      refine Ev.step (f := fun _ => some true) (fun k => ?_) (Ev.now _)
      simp only [quaerelaw5_MatchRow.j0, quaerelaw0_Num.f, Option.bind_some, show ∀ x y, match_Match.f l x y = some (matchV l x y) from fun _ _ => rfl]
      rw [if_neg (by decide), m1, m2, m3]
      rfl
    · have e0 : ((ApplyV l u (onV s a)).2 != 0) = true := by simpa using h2
      rw [e0]
      exact jt _ _
  · exact Ev.if_neg h1 (jt _ _)
end Go.Proofs.YtohclkafdphleaaDoor.PN
