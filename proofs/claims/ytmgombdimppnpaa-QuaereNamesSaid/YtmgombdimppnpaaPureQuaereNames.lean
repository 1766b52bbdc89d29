/- QuaereNames answers true: every error, limit and kind is the document's. It takes no input: a closed sentence. -/
import Derived.Test.YtmgombdimppnpaaPQuaereNamesx2
namespace Go.Proofs.Ytmgombdimppnpaa.Pure
open Go.RowKit Go.Proofs.Ytmgombdimppnpaa.PQuaereNames Go.Proofs.YtmgombdimppnpaaW.PrintWords Go.Proofs.YtmgombdimppnpaaW.PrintLast

/-- YOURS: quaerelaw0_QuaereNames.f  = some true
What it reaches (each with k first where it has rounds; `.mono`: more rounds tell the same; `.l0`, ..: its loops, with `.mono_l`): quaerelaw0_Num.f, quaerelaw0_errors1.f, quaerelaw0_errors2.f, quaerelaw0_errors3.f, quaerelaw0_errors4.f, quaerelaw0_numbers1.f, quaerelaw0_numbers2.f, quaerelaw0_numbers3.f, quaerelaw0_numbers4.f, quaerelaw0_QuaereNames.f -/
theorem QuaereNames : quaerelaw0_QuaereNames.Pure := by
  unfold quaerelaw0_QuaereNames.Pure
  rfl

end Go.Proofs.Ytmgombdimppnpaa.Pure
