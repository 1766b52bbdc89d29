/- The bounds of structs that come in, and that they open. -/
import Derived.Test.YtaegdhpcnpojnaaDoorPUx0
import Derived.Test.YtaegdhpcnpojnaaDoorOpen
namespace Go.Proofs.YtaegdhpcnpojnaaDoor.PU
open Go Go.RowKit Go.Proofs.YtaegdhpcnpojnaaDoorW.PrintWords Go.Proofs.YtaegdhpcnpojnaaDoorW.PrintLast
def Wf66 (x : S66) : Prop := WfS x.f0 ∧ WfI x.f1 ∧ WfI x.f2 ∧ WfI x.f3
theorem opens_k66 : Opens Tryd.prog 66 k66 Wf66 := opens_struct (fun p : (ByteArray) × (Int) × (Int) × (Int) => (⟨p.1, p.2.1, p.2.2.1, p.2.2.2⟩ : S66)) Tryd.underlying66 (by kernel_rfl) (opensF_cons rfl (by kernel_rfl) (opens_string Tryd.underlying9) (opensF_cons rfl (by kernel_rfl) (opens_int Tryd.underlying3) (opensF_cons rfl (by kernel_rfl) (opens_int Tryd.underlying3) (opensF_one rfl (by kernel_rfl) (opens_int Tryd.underlying3))))) (fun _ => rfl) (fun _ h => h)
def Wf41 (x : S41) : Prop := WfI x.f0 ∧ (WfL 8 WfI) x.f1
theorem opens_k41 : Opens Tryd.prog 41 k41 Wf41 := opens_struct (fun p : (Int) × (List (Int)) => (⟨p.1, p.2⟩ : S41)) Tryd.underlying41 (by kernel_rfl) (opensF_cons rfl (by kernel_rfl) (opens_int Tryd.underlying3) (opensF_one rfl (by kernel_rfl) (opens_slice Tryd.underlying23 (by kernel_rfl) (by kernel_rfl) (opens_int Tryd.underlying3)))) (fun _ => rfl) (fun _ h => h)
end Go.Proofs.YtaegdhpcnpojnaaDoor.PU
