-- written by a program of this session's (wip/tools/pp.py), after the kit's print
import Derived.Test.YtfnemhkiopgeaaaDoorPKx0
import Derived.Test.YtfnemhkiopgeaaaDoorTopss
namespace Go.Proofs.YtfnemhkiopgeaaaDoor.PK
open Go.RowKit Go.Proofs.YtfnemhkiopgeaaaDoorW.PrintWords Go.Proofs.YtfnemhkiopgeaaaDoorW.PrintLast Go.Proofs.YtfnemhkiopgeaaaDoorW.PrintMore
attribute [local go_sem] jump_ret max2_int min2_int max_two min_two max_three min_three max_four min_four   -- for this text's walks alone
set_option linter.unusedVariables false
set_option linter.unusedSimpArgs false

-- OWNPART Derived.Test.YtfnemhkiopgeaaaDoorTopss
/-! ### lit_Tops: by hand (closures): Tops.lean -/
def lit_Tops.f (k : Nat) (l0 : List S58) (l1 : List S25) : Option (List Int × Int) := topsF k l0 l1
theorem lit_Tops.mono : ∀ a0 a1 k, LeO (lit_Tops.f k a0 a1) (lit_Tops.f (k + 1) a0 a1) := fun a0 a1 k => topsF_mono a0 a1 k
theorem lit_Tops.calls (k : Nat) (A0 : Option Addr) (c0 : Nat) (l0 : List S58) (A1 : Option Addr) (c1 : Nat) (l1 : List S25) (r1 : List Int) (r2 : Int) (w : World) (hr0 : Kd.C k58 w A0 l0.length l0) (hc0 : l0.length ≤ c0) (hr1 : Kd.C k25 w A1 l1.length l1) (hc1 : l1.length ≤ c1) (h : lit_Tops.f k l0 l1 = some (r1, r2)) (hG : Glob w) :
  Calls Tryd.prog 19 #[.slice A0 l0.length c0, .slice A1 l1.length c1] w fun e w' => ∃ v0_ : Value, e = .returned (.tuple #[v0_, .int .i64 r2]) ∧ Kd.R (Kd.int .i64) 3 w' w.heap.size (fun _ => True) v0_ r1 ∧ Below w.heap.size w w' :=
 topsF_calls k A0 c0 l0 A1 c1 l1 r1 r2 w hr0 hc0 hr1 hc1 h hG

end Go.Proofs.YtfnemhkiopgeaaaDoor.PK
