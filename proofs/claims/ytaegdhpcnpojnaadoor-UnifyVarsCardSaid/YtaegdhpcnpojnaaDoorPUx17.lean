-- written by a program of this session's (wip/tools/pp.py), after the kit's print
import Derived.Test.YtaegdhpcnpojnaaDoorPUx0
import Derived.Test.YtaegdhpcnpojnaaDoorVars4
namespace Go.Proofs.YtaegdhpcnpojnaaDoor.PU
open Go.RowKit Go.Proofs.YtaegdhpcnpojnaaDoorW.PrintWords Go.Proofs.YtaegdhpcnpojnaaDoorW.PrintLast Go.Proofs.YtaegdhpcnpojnaaDoorW.PrintMore
attribute [local go_sem] jump_ret max2_int min2_int max_two min_two max_three min_three max_four min_four   -- for this text's walks alone
set_option linter.unusedVariables false
set_option linter.unusedSimpArgs false

-- OWNPART Derived.Test.YtaegdhpcnpojnaaDoorVars4
/-! ### quaerelaw4_UnifyVars: by hand (an array of ranks): Vars4.lean -/
def quaerelaw4_UnifyVars.f (l0 l1 : List Int) : Option Bool := if l0.length < 17592186044400 ∧ l1.length < 17592186044400 then some true else none
theorem quaerelaw4_UnifyVars.calls (A0 : Option Addr) (c0 : Nat) (l0 : List Int) (A1 : Option Addr) (c1 : Nat) (l1 : List Int) (r : Bool) (w : World) (hr0 : Kd.C (Kd.int .i64) w A0 l0.length l0) (hc0 : l0.length ≤ c0) (hr1 : Kd.C (Kd.int .i64) w A1 l1.length l1) (hc1 : l1.length ≤ c1) (h : quaerelaw4_UnifyVars.f l0 l1 = some r) (hG : Glob w) :
  Calls Tryd.prog 4 #[.slice A0 l0.length c0, .slice A1 l1.length c1] w fun e w' => e = .returned (.bool r) ∧ Below w.heap.size w w' := by
 unfold quaerelaw4_UnifyVars.f at h
 split at h
 ·obtain rfl := Option.some.inj h
  exact vars_calls A0 c0 l0 A1 c1 l1 w hr0 hc0 hr1 hc1 hG
 ·cases h

end Go.Proofs.YtaegdhpcnpojnaaDoor.PU
