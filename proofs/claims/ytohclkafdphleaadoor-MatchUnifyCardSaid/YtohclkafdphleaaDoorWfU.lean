/- The bounds of structs that come in, and that they open. -/
import Derived.Test.YtohclkafdphleaaDoorPUx0
import Derived.Test.YtohclkafdphleaaDoorOpen
namespace Go.Proofs.YtohclkafdphleaaDoor.PU
open Go Go.RowKit Go.Proofs.YtohclkafdphleaaDoorW.PrintWords Go.Proofs.YtohclkafdphleaaDoorW.PrintLast
def Wf73 (x : S73) : Prop := WfS x.f0 ∧ WfI x.f1 ∧ WfI x.f2 ∧ WfI x.f3
theorem opens_k73 : Opens Tryd.prog 73 k73 Wf73 := opens_struct (fun p : (ByteArray) × (Int) × (Int) × (Int) => (⟨p.1, p.2.1, p.2.2.1, p.2.2.2⟩ : S73)) Tryd.underlying73 (by kernel_rfl) (opensF_cons rfl (by kernel_rfl) (opens_string Tryd.underlying9) (opensF_cons rfl (by kernel_rfl) (opens_int Tryd.underlying3) (opensF_cons rfl (by kernel_rfl) (opens_int Tryd.underlying3) (opensF_one rfl (by kernel_rfl) (opens_int Tryd.underlying3))))) (fun _ => rfl) (fun _ h => h)
end Go.Proofs.YtohclkafdphleaaDoor.PU
