/- The bounds of structs that come in, and that they open. -/
import Derived.Test.YteffiodbflmfkaaDoorPPx0
import Derived.Test.YteffiodbflmfkaaDoorOpen
namespace Go.Proofs.YteffiodbflmfkaaDoor.PP
open Go Go.RowKit Go.Proofs.YteffiodbflmfkaaDoorW.PrintWords Go.Proofs.YteffiodbflmfkaaDoorW.PrintLast
def Wf59 (x : S59) : Prop := WfS x.f0 ∧ WfI x.f1 ∧ WfI x.f2 ∧ WfI x.f3
theorem opens_k59 : Opens Tryd.prog 59 k59 Wf59 := opens_struct (fun p : (ByteArray) × (Int) × (Int) × (Int) => (⟨p.1, p.2.1, p.2.2.1, p.2.2.2⟩ : S59)) Tryd.underlying59 (by kernel_rfl) (opensF_cons rfl (by kernel_rfl) (opens_string Tryd.underlying9) (opensF_cons rfl (by kernel_rfl) (opens_int Tryd.underlying3) (opensF_cons rfl (by kernel_rfl) (opens_int Tryd.underlying3) (opensF_one rfl (by kernel_rfl) (opens_int Tryd.underlying3))))) (fun _ => rfl) (fun _ h => h)
def Wf66 (x : S66) : Prop := WfI x.f0 ∧ (WfL 8 WfI) x.f1
theorem opens_k66 : Opens Tryd.prog 66 k66 Wf66 := opens_struct (fun p : (Int) × (List (Int)) => (⟨p.1, p.2⟩ : S66)) Tryd.underlying66 (by kernel_rfl) (opensF_cons rfl (by kernel_rfl) (opens_int Tryd.underlying3) (opensF_one rfl (by kernel_rfl) (opens_slice Tryd.underlying23 (by kernel_rfl) (by kernel_rfl) (opens_int Tryd.underlying3)))) (fun _ => rfl) (fun _ h => h)
end Go.Proofs.YteffiodbflmfkaaDoor.PP
