-- written by a program of this session's (wip/tools/pp.py), after the kit's print
import Derived.Test.YtfnemhkiopgeaaaDoorPKx0
import Derived.Test.YtfnemhkiopgeaaaDoorPKx3
import Derived.Test.YtfnemhkiopgeaaaDoorOrder
namespace Go.Proofs.YtfnemhkiopgeaaaDoor.PK
open Go.RowKit Go.Proofs.YtfnemhkiopgeaaaDoorW.PrintWords Go.Proofs.YtfnemhkiopgeaaaDoorW.PrintLast Go.Proofs.YtfnemhkiopgeaaaDoorW.PrintMore
attribute [local go_sem] jump_ret max2_int min2_int max_two min_two max_three min_three max_four min_four   -- for this text's walks alone
set_option linter.unusedVariables false
set_option linter.unusedSimpArgs false

-- OWNPART Derived.Test.YtfnemhkiopgeaaaDoorOrder
/-! ### order_more: by hand (nil rows, arrays): More.lean -/
def order_more.f (k : Nat) (l0 : List S58) (l1 l2 : List Int) : Option Bool := if sign_May.f k l0 = some true ∧ 1 ≤ l1.length ∧ l1.length ≤ 49 ∧ 1 ≤ l2.length ∧ l2.length ≤ 49 ∧ (∀ c ∈ l1, -24 ≤ c ∧ c < (l0.length : Int)) ∧ (∀ c ∈ l2, -24 ≤ c ∧ c < (l0.length : Int)) then some (moreV l0 l1.length l1 l2) else none
theorem order_more.mono : ∀ a0 a1 a2 k, LeO (order_more.f k a0 a1 a2) (order_more.f (k + 1) a0 a1 a2) := by
 intro a0 a1 a2 k r h
 unfold order_more.f at h ⊢
 split at h
 ·rename_i hc
  rw [if_pos ⟨sign_May.mono _ _ _ hc.1, hc.2⟩]
  exact h
 ·cases h
theorem order_more.calls (k : Nat) (A0 : Option Addr) (c0 : Nat) (l0 : List S58) (A1 : Option Addr) (c1 : Nat) (l1 : List Int) (A2 : Option Addr) (c2 : Nat) (l2 : List Int) (r : Bool) (w : World) (hr0 : Kd.C k58 w A0 l0.length l0) (hc0 : l0.length ≤ c0) (hr1 : Kd.C (Kd.int .i64) w A1 l1.length l1) (hc1 : l1.length ≤ c1) (hr2 : Kd.C (Kd.int .i64) w A2 l2.length l2) (hc2 : l2.length ≤ c2) (h : order_more.f k l0 l1 l2 = some r) :
  Calls Tryd.prog 38 #[.slice A0 l0.length c0, .slice A1 l1.length c1, .slice A2 l2.length c2] w fun e w' => e = .returned (.bool r) ∧ Below w.heap.size w w' := by
 unfold order_more.f at h
 split at h
 ·rename_i hc
  obtain ⟨h0, h1, h2, h3, h4, h5, h6⟩ := hc
  have hs : SignOk l0 := signB_true.1 ((may_ev l0).uniq (Ev.at_ (fun k => sign_May.mono l0 k) k h0))
  have h' := more_calls A0 c0 l0 A1 c1 l1 A2 c2 l2 w hs h1 h2 h3 h4 h5 h6 hr0 hc0 hr1 hc1 hr2 hc2
  rw [Option.some.inj h] at h'
  exact h'
 ·cases h

end Go.Proofs.YtfnemhkiopgeaaaDoor.PK
