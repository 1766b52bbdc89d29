-- written by a program of this session's (wip/tools/pp.py), after the kit's print
import Derived.Test.YteffiodbflmfkaaDoorPPx0
import Derived.Test.YteffiodbflmfkaaDoorBinds
namespace Go.Proofs.YteffiodbflmfkaaDoor.PP
open Go.RowKit Go.Proofs.YteffiodbflmfkaaDoorW.PrintWords Go.Proofs.YteffiodbflmfkaaDoorW.PrintLast Go.Proofs.YteffiodbflmfkaaDoorW.PrintMore
attribute [local go_sem] jump_ret jumpE_ret max2_int min2_int max_two min_two max_three min_three max_four min_four   -- for this text's walks alone
set_option linter.unusedVariables false
set_option linter.unusedSimpArgs false

-- OWNPART Derived.Test.YteffiodbflmfkaaDoorBinds
/-! ### bind_On: by hand (nil rows): Find.lean -/
def bind_On.f (l0 : List S66) (l1 : List Int) : Option (List Int) := if l0.length ≤ 1000 ∧ (∀ b ∈ l0, b.f1 ≠ []) ∧ (∀ b ∈ l0, b.f1.length ≤ 48) ∧ l1.length ≤ 60 ∧ (∀ c ∈ l1, -24 ≤ c ∧ c ≤ 1000) then some (onV l0 l1) else none
theorem bind_On.calls (A0 : Option Addr) (c0 : Nat) (l0 : List S66) (A1 : Option Addr) (c1 : Nat) (l1 : List Int) (r : List Int) (w : World) (hr0 : Kd.C k66 w A0 l0.length l0) (hc0 : l0.length ≤ c0) (hr1 : Kd.C (Kd.int .i64) w A1 l1.length l1) (hc1 : l1.length ≤ c1) (h : bind_On.f l0 l1 = some r) :
  Calls Tryd.prog 35 #[.slice A0 l0.length c0, .slice A1 l1.length c1] w fun e w' => ∃ v0_ : Value, e = .returned (v0_) ∧ Kd.R (Kd.int .i64) 3 w' w.heap.size (fun _ => True) v0_ r ∧ Below w.heap.size w w' := by
 unfold bind_On.f at h
 split at h
 ·rename_i hc
  obtain rfl := Option.some.inj h
  obtain ⟨h1, h2, h3, h4, h5⟩ := hc
  exact on_calls A0 c0 l0 A1 c1 l1 w hr0 hc0 hr1 hc1 h1 h2 h3 h4 h5
 ·cases h

end Go.Proofs.YteffiodbflmfkaaDoor.PP
