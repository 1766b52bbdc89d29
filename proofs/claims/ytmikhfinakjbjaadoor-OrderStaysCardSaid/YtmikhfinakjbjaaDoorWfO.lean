/- The bounds of structs that come in, and that they open. -/
import Derived.Test.YtmikhfinakjbjaaDoorPOx0
import Derived.Test.YtmikhfinakjbjaaDoorOpen
namespace Go.Proofs.YtmikhfinakjbjaaDoor.PO
open Go Go.RowKit Go.Proofs.YtmikhfinakjbjaaDoorW.PrintWords Go.Proofs.YtmikhfinakjbjaaDoorW.PrintLast
def Wf45 (x : S45) : Prop := WfS x.f0 ∧ WfI x.f1 ∧ WfI x.f2 ∧ WfI x.f3
theorem opens_k45 : Opens Tryd.prog 45 k45 Wf45 := opens_struct (fun p : (ByteArray) × (Int) × (Int) × (Int) => (⟨p.1, p.2.1, p.2.2.1, p.2.2.2⟩ : S45)) Tryd.underlying45 (by kernel_rfl) (opensF_cons rfl (by kernel_rfl) (opens_string Tryd.underlying9) (opensF_cons rfl (by kernel_rfl) (opens_int Tryd.underlying3) (opensF_cons rfl (by kernel_rfl) (opens_int Tryd.underlying3) (opensF_one rfl (by kernel_rfl) (opens_int Tryd.underlying3))))) (fun _ => rfl) (fun _ h => h)
def Wf56 (x : S56) : Prop := WfI x.f0 ∧ (WfL 8 WfI) x.f1
theorem opens_k56 : Opens Tryd.prog 56 k56 Wf56 := opens_struct (fun p : (Int) × (List (Int)) => (⟨p.1, p.2⟩ : S56)) Tryd.underlying56 (by kernel_rfl) (opensF_cons rfl (by kernel_rfl) (opens_int Tryd.underlying3) (opensF_one rfl (by kernel_rfl) (opens_slice Tryd.underlying23 (by kernel_rfl) (by kernel_rfl) (opens_int Tryd.underlying3)))) (fun _ => rfl) (fun _ h => h)
end Go.Proofs.YtmikhfinakjbjaaDoor.PO
