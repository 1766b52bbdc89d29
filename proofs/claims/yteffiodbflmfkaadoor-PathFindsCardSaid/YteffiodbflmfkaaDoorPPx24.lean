-- written by a program of this session's (wip/tools/pp.py), after the kit's print
import Derived.Test.YteffiodbflmfkaaDoorPPx0
import Derived.Test.YteffiodbflmfkaaDoorRefFits
namespace Go.Proofs.YteffiodbflmfkaaDoor.PP
open Go.RowKit Go.Proofs.YteffiodbflmfkaaDoorW.PrintWords Go.Proofs.YteffiodbflmfkaaDoorW.PrintLast Go.Proofs.YteffiodbflmfkaaDoorW.PrintMore
attribute [local go_sem] jump_ret jumpE_ret max2_int min2_int max_two min_two max_three min_three max_four min_four   -- for this text's walks alone
set_option linter.unusedVariables false
set_option linter.unusedSimpArgs false

-- OWNPART Derived.Test.YteffiodbflmfkaaDoorRefFits
/-! ### quaereref11_fits: by hand (what rest tells lies in what came in): RefFits.lean -/
open Classical in
noncomputable def quaereref11_fits.f (l0 : List S59) (l1 l2 : List Int) (a3 : Int) : Option Bool := if TextT l0 l1 ∧ TextT l0 l2 then some (fitsR l0 l1 l2 a3) else none
theorem quaereref11_fits.calls (A0 : Option Addr) (c0 : Nat) (l0 : List S59) (A1 : Option Addr) (c1 : Nat) (l1 : List Int) (A2 : Option Addr) (c2 : Nat) (l2 : List Int) (a3 : Int) (r : Bool) (w : World) (hr0 : Kd.C k59 w A0 l0.length l0) (hc0 : l0.length ≤ c0) (hr1 : Kd.C (Kd.int .i64) w A1 l1.length l1) (hc1 : l1.length ≤ c1) (hr2 : Kd.C (Kd.int .i64) w A2 l2.length l2) (hc2 : l2.length ≤ c2) (h : quaereref11_fits.f l0 l1 l2 a3 = some r) :
  Calls Tryd.prog 32 #[.slice A0 l0.length c0, .slice A1 l1.length c1, .slice A2 l2.length c2, .int .i64 a3] w fun e w' => e = .returned (.bool r) ∧ Below w.heap.size w w' := by
 unfold quaereref11_fits.f at h
 split at h
 ·rename_i ht
  obtain rfl := Option.some.inj h
  exact fits_calls A0 c0 l0 A1 c1 l1 A2 c2 l2 a3 w ht.1 ht.2 hr0 hc0 hr1 hc1 hr2 hc2
 ·cases h

end Go.Proofs.YteffiodbflmfkaaDoor.PP
