/- What Unify tells, as binds. -/
import Derived.Test.YtaegdhpcnpojnaaDoorUniLs
import Derived.Test.YtaegdhpcnpojnaaDoorApply
import Derived.Test.YtaegdhpcnpojnaaDoorPUx0
namespace Go.Proofs.YtaegdhpcnpojnaaDoor.PU
open Go Go.RowKit Go.Proofs.YtaegdhpcnpojnaaDoorW.PrintWords Go.Proofs.YtaegdhpcnpojnaaDoorW.PrintLast Go.Proofs.YtaegdhpcnpojnaaDoor
set_option linter.unusedVariables false
set_option linter.unusedSimpArgs false
theorem good_ne {l : List S66} {ς : Int → List Int} (hg : Good l ς) {c : Int} (h0 : -24 ≤ c) (h1 : c < 0) : ς c ≠ [] := by
  have := isN_pos (hg c h0 h1)
  intro h
  rw [h] at this
  simp at this
theorem bindsOk_list {l : List S66} {ς : Int → List Int} (hs : SignOk l) (hg : Good l ς) (hsh : ∀ v : Nat, v < 24 → ¬ 48 < (ς (-1 - (v : Int))).length) : BindsOk l (listS ς 24) := by
  refine bindsOk_of hs (listS_rise ς 24) (fun b hb => ?_)
  obtain ⟨v, hv, h0, h1, h2⟩ := (listS_mem ς b 24).1 hb
  refine ⟨by omega, by omega, ?_, by rw [h0]; exact h2⟩
  rw [h1]
  have := hsh v hv
  exact ⟨hs, by omega, hg _ (by omega) (by omega)⟩
theorem ofB_list {l : List S66} {ς : Int → List Int} (hg : Good l ς) {c : Int} (h0 : -24 ≤ c) (h1 : c < 0) : ofB (listS ς 24) c = ς c := by
  obtain ⟨v, hv⟩ : ∃ v : Nat, c = -1 - (v : Int) := ⟨(-1 - c).toNat, by omega⟩
  subst hv
  unfold ofB
  rw [show -1 - (-1 - (v : Int)) = (v : Int) by omega]
  by_cases hc : ς (-1 - (v : Int)) = [-1 - (v : Int)]
  · have : bfindV (listS ς 24) (v : Int) = [] := by
      apply bfindV_none
      intro b hb e
      obtain ⟨u, hu, g0, g1, g2⟩ := (listS_mem ς b 24).1 hb
      obtain rfl : u = v := by omega
      rw [g1] at g2
      exact g2 hc
    rw [if_pos this, hc]
  · have hm : (⟨(v : Int), ς (-1 - (v : Int))⟩ : S41) ∈ listS ς 24 := (listS_mem ς _ 24).2 ⟨v, by omega, rfl, rfl, hc⟩
    have : bfindV (listS ς 24) (v : Int) = ς (-1 - (v : Int)) := by
      have h := bfindV_rise (listS_rise ς 24) hm
      exact h
    rw [this, if_neg (good_ne hg h0 h1)]
theorem onV_list {l : List S66} {ς : Int → List Int} (hg : Good l ς) {n : Nat} {r : List Int} (hr : isN (arS l) n r) : onV (listS ς 24) r = subV ς r := by
  rw [onV_sub]
  exact subV_congr r (fun c hc h1 => ofB_list hg (codes_row hr c hc).1 h1)
end Go.Proofs.YtaegdhpcnpojnaaDoor.PU
