/-
  NARROWER THAN 'FOR EVERY INPUT', by the rows' own cells (each row's printed sentence says how): Paths: laid · PathFinds: laid · PathWays: laid · PathAll: laid · PathApart: laid · PathMade: laid.
  DERIVED. THE GIVEN ROWS OF THIS SEAT. 6 by the template 'for every input the law returns true; each argument reads behind the call as it read before'; 0 by the template 'total and deterministic' (their statements: YteffiodbflmfkaaDoorTotals.lean).
  GIVEN WITH THE SEED: the statements are not yours to turn. If you find one false, say at which input.
  Laid BY PROGRAM, IN A SANDBOX (cutbox-rows.mjs): the forced cells as the released guide's own fill.sh prints them over the translation b6825f674add60c5… (all of the seat's roots in one cut). By AI agents, Wed Nov 11 2026. No macro, syntax, notation, axiom, sorry.
-/
import Derived.Test.YteffiodbflmfkaaDoorChecked
import GoSem.Claim
import GoSem.ClaimJoined
import GoSem.ClaimMapViews
import Derived.JoinedTies
import Derived.KernelRfl
namespace Go.Proofs.YteffiodbflmfkaaDoor
/- THE CELL 'sum', in the pinned program and in every row, IS THE sha256 OF THE DUMP (.gsa) THAT YteffiodbflmfkaaDoorProg.lean LOADS. Nothing in Lean hashes anything: it is a label: what it is worth is what the hold of that sum in a sandbox is worth. -/
noncomputable def Tryd.pinned : Pinned := { name := "yteffiodbflmfkaadoor", sum := "b6825f674add60c56bf642e3327a91122b292dea01eb548e0eed66c1ad598404", checked := Tryd.checked }
namespace Rows
def none {H : Type} : Left H := { results := [], args := [] }

/- WHAT THE LISTED PACKAGE-LEVEL VARIABLES READ AS WHEN THE CALL BEGINS. Each datum BY PROGRAM (the guide's laid-datum.mjs) off the statement by which the dump's own 'gosem.cut.vars' lays the variable. In a bare row this is a premise. The card (YteffiodbflmfkaaDoorCards.lean) ties it to the program's text. -/
def laid_quaere_sign_equals {H : Type} : DataW H := .agg [.lit (.string [61]), .lit (.int .i64 0), .lit (.int .i64 2), .lit (.int .i64 1)]

/-- 'quaerelaw12.Paths': WHATEVER THE INPUT: true; the input reads as it did. -/
def pathsSpec : ChangeSpec := { name := "paths", fn := fun _ => fun
  | [d1, d2] => { results := [.lit (.bool true)], args := [d1, d2] }
  | _ => none }
def pathsRow : OpenClaim := { program := "yteffiodbflmfkaadoor", sum := "b6825f674add60c56bf642e3327a91122b292dea01eb548e0eed66c1ad598404", func := "quaere/quaerelaw12.Paths", spec := "paths", recurses := true, named := ["quaere/sign.equals"], apart := false, laid := [("quaere/sign.equals", laid_quaere_sign_equals)] }
def PathsSaid : Prop := pathsRow.holds Tryd.pinned (OpenSpec.ofChange pathsSpec)

/-- ITS FALSE NEIGHBOUR: 'it returns false'. Refute it at one input. -/
def pathsWrong : ChangeSpec := { name := "paths", fn := fun _ => fun
  | [d1, d2] => { results := [.lit (.bool false)], args := [d1, d2] }
  | _ => none }
def PathsWrongFalsely : Prop := pathsRow.holds Tryd.pinned (OpenSpec.ofChange pathsWrong)

/-- 'quaerelaw12.PathFinds': WHATEVER THE INPUT: true; the input reads as it did. -/
def pathFindsSpec : ChangeSpec := { name := "pathFinds", fn := fun _ => fun
  | [d1, d2, d3, d4] => { results := [.lit (.bool true)], args := [d1, d2, d3, d4] }
  | _ => none }
def pathFindsRow : OpenClaim := { program := "yteffiodbflmfkaadoor", sum := "b6825f674add60c56bf642e3327a91122b292dea01eb548e0eed66c1ad598404", func := "quaere/quaerelaw12.PathFinds", spec := "pathFinds", recurses := true, named := ["quaere/sign.equals"], apart := false, laid := [("quaere/sign.equals", laid_quaere_sign_equals)] }
def PathFindsSaid : Prop := pathFindsRow.holds Tryd.pinned (OpenSpec.ofChange pathFindsSpec)

/-- ITS FALSE NEIGHBOUR: 'it returns false'. Refute it at one input. -/
def pathFindsWrong : ChangeSpec := { name := "pathFinds", fn := fun _ => fun
  | [d1, d2, d3, d4] => { results := [.lit (.bool false)], args := [d1, d2, d3, d4] }
  | _ => none }
def PathFindsWrongFalsely : Prop := pathFindsRow.holds Tryd.pinned (OpenSpec.ofChange pathFindsWrong)

/-- 'quaerelaw12.PathWays': WHATEVER THE INPUT: true; the input reads as it did. -/
def pathWaysSpec : ChangeSpec := { name := "pathWays", fn := fun _ => fun
  | [d1, d2, d3] => { results := [.lit (.bool true)], args := [d1, d2, d3] }
  | _ => none }
def pathWaysRow : OpenClaim := { program := "yteffiodbflmfkaadoor", sum := "b6825f674add60c56bf642e3327a91122b292dea01eb548e0eed66c1ad598404", func := "quaere/quaerelaw12.PathWays", spec := "pathWays", named := ["quaere/sign.equals"], apart := false, laid := [("quaere/sign.equals", laid_quaere_sign_equals)] }
def PathWaysSaid : Prop := pathWaysRow.holds Tryd.pinned (OpenSpec.ofChange pathWaysSpec)

/-- ITS FALSE NEIGHBOUR: 'it returns false'. Refute it at one input. -/
def pathWaysWrong : ChangeSpec := { name := "pathWays", fn := fun _ => fun
  | [d1, d2, d3] => { results := [.lit (.bool false)], args := [d1, d2, d3] }
  | _ => none }
def PathWaysWrongFalsely : Prop := pathWaysRow.holds Tryd.pinned (OpenSpec.ofChange pathWaysWrong)

/-- 'quaerelaw12.PathAll': WHATEVER THE INPUT: true; the input reads as it did. -/
def pathAllSpec : ChangeSpec := { name := "pathAll", fn := fun _ => fun
  | [d1, d2] => { results := [.lit (.bool true)], args := [d1, d2] }
  | _ => none }
def pathAllRow : OpenClaim := { program := "yteffiodbflmfkaadoor", sum := "b6825f674add60c56bf642e3327a91122b292dea01eb548e0eed66c1ad598404", func := "quaere/quaerelaw12.PathAll", spec := "pathAll", named := ["quaere/sign.equals"], apart := false, laid := [("quaere/sign.equals", laid_quaere_sign_equals)] }
def PathAllSaid : Prop := pathAllRow.holds Tryd.pinned (OpenSpec.ofChange pathAllSpec)

/-- ITS FALSE NEIGHBOUR: 'it returns false'. Refute it at one input. -/
def pathAllWrong : ChangeSpec := { name := "pathAll", fn := fun _ => fun
  | [d1, d2] => { results := [.lit (.bool false)], args := [d1, d2] }
  | _ => none }
def PathAllWrongFalsely : Prop := pathAllRow.holds Tryd.pinned (OpenSpec.ofChange pathAllWrong)

/-- 'quaerelaw12.PathApart': WHATEVER THE INPUT: true; the input reads as it did. -/
def pathApartSpec : ChangeSpec := { name := "pathApart", fn := fun _ => fun
  | [d1, d2, d3] => { results := [.lit (.bool true)], args := [d1, d2, d3] }
  | _ => none }
def pathApartRow : OpenClaim := { program := "yteffiodbflmfkaadoor", sum := "b6825f674add60c56bf642e3327a91122b292dea01eb548e0eed66c1ad598404", func := "quaere/quaerelaw12.PathApart", spec := "pathApart", named := ["quaere/sign.equals"], apart := false, laid := [("quaere/sign.equals", laid_quaere_sign_equals)] }
def PathApartSaid : Prop := pathApartRow.holds Tryd.pinned (OpenSpec.ofChange pathApartSpec)

/-- ITS FALSE NEIGHBOUR: 'it returns false'. Refute it at one input. -/
def pathApartWrong : ChangeSpec := { name := "pathApart", fn := fun _ => fun
  | [d1, d2, d3] => { results := [.lit (.bool false)], args := [d1, d2, d3] }
  | _ => none }
def PathApartWrongFalsely : Prop := pathApartRow.holds Tryd.pinned (OpenSpec.ofChange pathApartWrong)

/-- 'quaerelaw12.PathMade': WHATEVER THE INPUT: true; the input reads as it did. -/
def pathMadeSpec : ChangeSpec := { name := "pathMade", fn := fun _ => fun
  | [d1, d2, d3] => { results := [.lit (.bool true)], args := [d1, d2, d3] }
  | _ => none }
def pathMadeRow : OpenClaim := { program := "yteffiodbflmfkaadoor", sum := "b6825f674add60c56bf642e3327a91122b292dea01eb548e0eed66c1ad598404", func := "quaere/quaerelaw12.PathMade", spec := "pathMade", named := ["quaere/sign.equals"], apart := false, laid := [("quaere/sign.equals", laid_quaere_sign_equals)] }
def PathMadeSaid : Prop := pathMadeRow.holds Tryd.pinned (OpenSpec.ofChange pathMadeSpec)

/-- ITS FALSE NEIGHBOUR: 'it returns false'. Refute it at one input. -/
def pathMadeWrong : ChangeSpec := { name := "pathMade", fn := fun _ => fun
  | [d1, d2, d3] => { results := [.lit (.bool false)], args := [d1, d2, d3] }
  | _ => none }
def PathMadeWrongFalsely : Prop := pathMadeRow.holds Tryd.pinned (OpenSpec.ofChange pathMadeWrong)

/- THE SECOND FORM. 'bulk': how many values and letters a reading holds, each counted each time it is reached (what is shared counts as often as it is met; a slice's spare places count too). A statement '..UptoSaid' is the law's where the arguments, and the package variables that the reading takes, are together of bulk at most 1048576: NARROWER than '..Said'. Prove '..Said' where nothing that the law and all that it calls make is longer than what came in: it says more and counts as full. Else prove '..UptoSaid'. A law counts once. -/
mutual
def uptoBulk {H : Type} : DataW H → Nat
  | .lit (.string bytes) => bytes.length + 1
  | .lit _ => 1
  | .nil => 1
  | .ptr d => uptoBulk d + 1
  | .slice elems spare => uptoBulkAll elems + uptoBulkAll spare + 1
  | .agg parts => uptoBulkAll parts + 1
  | .iface _ d => uptoBulk d + 1
  | .map entries => uptoBulkEntries entries + 1
  | .held _ => 1
def uptoBulkAll {H : Type} : List (DataW H) → Nat
  | [] => 0
  | d :: r => uptoBulk d + uptoBulkAll r
def uptoBulkEntries {H : Type} : List (Lit × DataW H) → Nat
  | [] => 0
  | x :: r => uptoBulkEntry x + uptoBulkEntries r
def uptoBulkEntry {H : Type} : Lit × DataW H → Nat
  | (.string bytes, d) => bytes.length + uptoBulk d + 1
  | (_, d) => uptoBulk d + 1
 end
def uptoSmall : (H : Type) → List (DataW H) → Bool := fun _ ds => decide (uptoBulkAll ds ≤ 1048576)
def OpenSpec.upto (s : _root_.Go.ChangeSpec) : _root_.Go.OpenSpec := { _root_.Go.OpenSpec.ofChange s with cond := some uptoSmall }

/-- 'quaerelaw12.Paths', WHERE WHAT IT READS IS OF BULK AT MOST 1048576: true; the input reads as it did. -/
def pathsUptoRow : OpenClaim := { program := "yteffiodbflmfkaadoor", sum := "b6825f674add60c56bf642e3327a91122b292dea01eb548e0eed66c1ad598404", func := "quaere/quaerelaw12.Paths", spec := "paths", recurses := true, named := ["quaere/sign.equals"], apart := false, laid := [("quaere/sign.equals", laid_quaere_sign_equals)], narrowed := true }
def PathsUptoSaid : Prop := pathsUptoRow.holds Tryd.pinned (OpenSpec.upto pathsSpec)

/-- 'quaerelaw12.PathFinds', WHERE WHAT IT READS IS OF BULK AT MOST 1048576: true; the input reads as it did. -/
def pathFindsUptoRow : OpenClaim := { program := "yteffiodbflmfkaadoor", sum := "b6825f674add60c56bf642e3327a91122b292dea01eb548e0eed66c1ad598404", func := "quaere/quaerelaw12.PathFinds", spec := "pathFinds", recurses := true, named := ["quaere/sign.equals"], apart := false, laid := [("quaere/sign.equals", laid_quaere_sign_equals)], narrowed := true }
def PathFindsUptoSaid : Prop := pathFindsUptoRow.holds Tryd.pinned (OpenSpec.upto pathFindsSpec)

/-- 'quaerelaw12.PathWays', WHERE WHAT IT READS IS OF BULK AT MOST 1048576: true; the input reads as it did. -/
def pathWaysUptoRow : OpenClaim := { program := "yteffiodbflmfkaadoor", sum := "b6825f674add60c56bf642e3327a91122b292dea01eb548e0eed66c1ad598404", func := "quaere/quaerelaw12.PathWays", spec := "pathWays", named := ["quaere/sign.equals"], apart := false, laid := [("quaere/sign.equals", laid_quaere_sign_equals)], narrowed := true }
def PathWaysUptoSaid : Prop := pathWaysUptoRow.holds Tryd.pinned (OpenSpec.upto pathWaysSpec)

/-- 'quaerelaw12.PathAll', WHERE WHAT IT READS IS OF BULK AT MOST 1048576: true; the input reads as it did. -/
def pathAllUptoRow : OpenClaim := { program := "yteffiodbflmfkaadoor", sum := "b6825f674add60c56bf642e3327a91122b292dea01eb548e0eed66c1ad598404", func := "quaere/quaerelaw12.PathAll", spec := "pathAll", named := ["quaere/sign.equals"], apart := false, laid := [("quaere/sign.equals", laid_quaere_sign_equals)], narrowed := true }
def PathAllUptoSaid : Prop := pathAllUptoRow.holds Tryd.pinned (OpenSpec.upto pathAllSpec)

/-- 'quaerelaw12.PathApart', WHERE WHAT IT READS IS OF BULK AT MOST 1048576: true; the input reads as it did. -/
def pathApartUptoRow : OpenClaim := { program := "yteffiodbflmfkaadoor", sum := "b6825f674add60c56bf642e3327a91122b292dea01eb548e0eed66c1ad598404", func := "quaere/quaerelaw12.PathApart", spec := "pathApart", named := ["quaere/sign.equals"], apart := false, laid := [("quaere/sign.equals", laid_quaere_sign_equals)], narrowed := true }
def PathApartUptoSaid : Prop := pathApartUptoRow.holds Tryd.pinned (OpenSpec.upto pathApartSpec)

/-- 'quaerelaw12.PathMade', WHERE WHAT IT READS IS OF BULK AT MOST 1048576: true; the input reads as it did. -/
def pathMadeUptoRow : OpenClaim := { program := "yteffiodbflmfkaadoor", sum := "b6825f674add60c56bf642e3327a91122b292dea01eb548e0eed66c1ad598404", func := "quaere/quaerelaw12.PathMade", spec := "pathMade", named := ["quaere/sign.equals"], apart := false, laid := [("quaere/sign.equals", laid_quaere_sign_equals)], narrowed := true }
def PathMadeUptoSaid : Prop := pathMadeUptoRow.holds Tryd.pinned (OpenSpec.upto pathMadeSpec)

end Rows
end Go.Proofs.YteffiodbflmfkaaDoor
