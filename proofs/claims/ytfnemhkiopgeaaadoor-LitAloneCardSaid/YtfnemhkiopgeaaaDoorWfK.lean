/- The bounds of structs that come in, and that they open. -/
import Derived.Test.YtfnemhkiopgeaaaDoorPKx0
import Derived.Test.YtfnemhkiopgeaaaDoorOpen
namespace Go.Proofs.YtfnemhkiopgeaaaDoor.PK
open Go Go.RowKit Go.Proofs.YtfnemhkiopgeaaaDoorW.PrintWords Go.Proofs.YtfnemhkiopgeaaaDoorW.PrintLast
def Wf58 (x : S58) : Prop := WfS x.f0 ∧ WfI x.f1 ∧ WfI x.f2 ∧ WfI x.f3
theorem opens_k58 : Opens Tryd.prog 58 k58 Wf58 := opens_struct (fun p : (ByteArray) × (Int) × (Int) × (Int) => (⟨p.1, p.2.1, p.2.2.1, p.2.2.2⟩ : S58)) Tryd.underlying58 (by kernel_rfl) (opensF_cons rfl (by kernel_rfl) (opens_string Tryd.underlying9) (opensF_cons rfl (by kernel_rfl) (opens_int Tryd.underlying3) (opensF_cons rfl (by kernel_rfl) (opens_int Tryd.underlying3) (opensF_one rfl (by kernel_rfl) (opens_int Tryd.underlying3))))) (fun _ => rfl) (fun _ h => h)
def Wf25 (x : S25) : Prop := (fun _ : Bool => True) x.f0 ∧ (WfL 8 WfI) x.f1
theorem opens_k25 : Opens Tryd.prog 25 k25 Wf25 := opens_struct (fun p : (Bool) × (List (Int)) => (⟨p.1, p.2⟩ : S25)) Tryd.underlying25 (by kernel_rfl) (opensF_cons rfl (by kernel_rfl) (opens_bool Tryd.underlying4) (opensF_one rfl (by kernel_rfl) (opens_slice Tryd.underlying23 (by kernel_rfl) (by kernel_rfl) (opens_int Tryd.underlying3)))) (fun _ => rfl) (fun _ h => h)
end Go.Proofs.YtfnemhkiopgeaaaDoor.PK
