/- The bounds of structs that come in, and that they open. -/
import Derived.Test.YtmgombdimppnpaaDoorPSx0
import Derived.Test.YtmgombdimppnpaaDoorOpen
namespace Go.Proofs.YtmgombdimppnpaaDoor.PS
open Go Go.RowKit Go.Proofs.YtmgombdimppnpaaDoorW.PrintWords Go.Proofs.YtmgombdimppnpaaDoorW.PrintLast
def Wf33 (x : S33) : Prop := WfS x.f0 ∧ WfI x.f1 ∧ WfI x.f2 ∧ WfI x.f3
theorem opens_k33 : Opens Tryd.prog 33 k33 Wf33 := opens_struct (fun p : (ByteArray) × (Int) × (Int) × (Int) => (⟨p.1, p.2.1, p.2.2.1, p.2.2.2⟩ : S33)) Tryd.underlying33 (by kernel_rfl) (opensF_cons rfl (by kernel_rfl) (opens_string Tryd.underlying9) (opensF_cons rfl (by kernel_rfl) (opens_int Tryd.underlying3) (opensF_cons rfl (by kernel_rfl) (opens_int Tryd.underlying3) (opensF_one rfl (by kernel_rfl) (opens_int Tryd.underlying3))))) (fun _ => rfl) (fun _ h => h)
end Go.Proofs.YtmgombdimppnpaaDoor.PS
