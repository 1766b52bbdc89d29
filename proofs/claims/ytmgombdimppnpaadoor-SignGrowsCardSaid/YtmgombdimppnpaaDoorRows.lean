/-
  NARROWER THAN 'FOR EVERY INPUT', by the rows' own cells (each row's printed sentence says how): Signs: laid · SignAdds: laid · SignGrows: laid · SignNames: laid · SignFull: laid.
  DERIVED. THE GIVEN ROWS OF THIS SEAT. 5 by the template 'for every input the law returns true; each argument reads behind the call as it read before'; 0 by the template 'total and deterministic' (their statements: YtmgombdimppnpaaDoorTotals.lean).
  GIVEN WITH THE SEED: the statements are not yours to turn. If you find one false, say at which input.
  Laid BY PROGRAM, IN A SANDBOX (cutbox-rows.mjs): the forced cells as the released guide's own fill.sh prints them over the translation bb9b299f3eaf6100… (all of the seat's roots in one cut). By AI agents, Wed Nov 11 2026. No macro, syntax, notation, axiom, sorry.
-/
import Derived.Test.YtmgombdimppnpaaDoorChecked
import GoSem.Claim
import GoSem.ClaimJoined
import GoSem.ClaimMapViews
import Derived.JoinedTies
import Derived.KernelRfl
namespace Go.Proofs.YtmgombdimppnpaaDoor
/- THE CELL 'sum', in the pinned program and in every row, IS THE sha256 OF THE DUMP (.gsa) THAT YtmgombdimppnpaaDoorProg.lean LOADS. Nothing in Lean hashes anything: it is a label: what it is worth is what the hold of that sum in a sandbox is worth. -/
noncomputable def Tryd.pinned : Pinned := { name := "ytmgombdimppnpaadoor", sum := "bb9b299f3eaf61007c996dc7d0f5eaeaf1034bb8a7ac95f7f73b8949d0652315", checked := Tryd.checked }
namespace Rows
def none {H : Type} : Left H := { results := [], args := [] }

/- WHAT THE LISTED PACKAGE-LEVEL VARIABLES READ AS WHEN THE CALL BEGINS. Each datum BY PROGRAM (the guide's laid-datum.mjs) off the statement by which the dump's own 'gosem.cut.vars' lays the variable. In a bare row this is a premise. The card (YtmgombdimppnpaaDoorCards.lean) ties it to the program's text. -/
def laid_quaere_sign_equals {H : Type} : DataW H := .agg [.lit (.string [61]), .lit (.int .i64 0), .lit (.int .i64 2), .lit (.int .i64 1)]

/-- 'quaerelaw1.Signs': WHATEVER THE INPUT: true; the input reads as it did. -/
def signsSpec : ChangeSpec := { name := "signs", fn := fun _ => fun
  | [d1, d2] => { results := [.lit (.bool true)], args := [d1, d2] }
  | _ => none }
def signsRow : OpenClaim := { program := "ytmgombdimppnpaadoor", sum := "bb9b299f3eaf61007c996dc7d0f5eaeaf1034bb8a7ac95f7f73b8949d0652315", func := "quaere/quaerelaw1.Signs", spec := "signs", named := ["quaere/sign.equals"], apart := false, laid := [("quaere/sign.equals", laid_quaere_sign_equals)] }
def SignsSaid : Prop := signsRow.holds Tryd.pinned (OpenSpec.ofChange signsSpec)

/-- ITS FALSE NEIGHBOUR: 'it returns false'. Refute it at one input. -/
def signsWrong : ChangeSpec := { name := "signs", fn := fun _ => fun
  | [d1, d2] => { results := [.lit (.bool false)], args := [d1, d2] }
  | _ => none }
def SignsWrongFalsely : Prop := signsRow.holds Tryd.pinned (OpenSpec.ofChange signsWrong)

/-- 'quaerelaw1.SignAdds': WHATEVER THE INPUT: true; the input reads as it did. -/
def signAddsSpec : ChangeSpec := { name := "signAdds", fn := fun _ => fun
  | [d1, d2] => { results := [.lit (.bool true)], args := [d1, d2] }
  | _ => none }
def signAddsRow : OpenClaim := { program := "ytmgombdimppnpaadoor", sum := "bb9b299f3eaf61007c996dc7d0f5eaeaf1034bb8a7ac95f7f73b8949d0652315", func := "quaere/quaerelaw1.SignAdds", spec := "signAdds", named := ["quaere/sign.equals"], apart := false, laid := [("quaere/sign.equals", laid_quaere_sign_equals)] }
def SignAddsSaid : Prop := signAddsRow.holds Tryd.pinned (OpenSpec.ofChange signAddsSpec)

/-- ITS FALSE NEIGHBOUR: 'it returns false'. Refute it at one input. -/
def signAddsWrong : ChangeSpec := { name := "signAdds", fn := fun _ => fun
  | [d1, d2] => { results := [.lit (.bool false)], args := [d1, d2] }
  | _ => none }
def SignAddsWrongFalsely : Prop := signAddsRow.holds Tryd.pinned (OpenSpec.ofChange signAddsWrong)

/-- 'quaerelaw1.SignGrows': WHATEVER THE INPUT: true; the input reads as it did. -/
def signGrowsSpec : ChangeSpec := { name := "signGrows", fn := fun _ => fun
  | [d1, d2] => { results := [.lit (.bool true)], args := [d1, d2] }
  | _ => none }
def signGrowsRow : OpenClaim := { program := "ytmgombdimppnpaadoor", sum := "bb9b299f3eaf61007c996dc7d0f5eaeaf1034bb8a7ac95f7f73b8949d0652315", func := "quaere/quaerelaw1.SignGrows", spec := "signGrows", named := ["quaere/sign.equals"], apart := false, laid := [("quaere/sign.equals", laid_quaere_sign_equals)] }
def SignGrowsSaid : Prop := signGrowsRow.holds Tryd.pinned (OpenSpec.ofChange signGrowsSpec)

/-- ITS FALSE NEIGHBOUR: 'it returns false'. Refute it at one input. -/
def signGrowsWrong : ChangeSpec := { name := "signGrows", fn := fun _ => fun
  | [d1, d2] => { results := [.lit (.bool false)], args := [d1, d2] }
  | _ => none }
def SignGrowsWrongFalsely : Prop := signGrowsRow.holds Tryd.pinned (OpenSpec.ofChange signGrowsWrong)

/-- 'quaerelaw1.SignNames': WHATEVER THE INPUT: true; the input reads as it did. -/
def signNamesSpec : ChangeSpec := { name := "signNames", fn := fun _ => fun
  | [d] => { results := [.lit (.bool true)], args := [d] }
  | _ => none }
def signNamesRow : OpenClaim := { program := "ytmgombdimppnpaadoor", sum := "bb9b299f3eaf61007c996dc7d0f5eaeaf1034bb8a7ac95f7f73b8949d0652315", func := "quaere/quaerelaw1.SignNames", spec := "signNames", named := ["quaere/sign.equals"], apart := false, laid := [("quaere/sign.equals", laid_quaere_sign_equals)] }
def SignNamesSaid : Prop := signNamesRow.holds Tryd.pinned (OpenSpec.ofChange signNamesSpec)

/-- ITS FALSE NEIGHBOUR: 'it returns false'. Refute it at one input. -/
def signNamesWrong : ChangeSpec := { name := "signNames", fn := fun _ => fun
  | [d] => { results := [.lit (.bool false)], args := [d] }
  | _ => none }
def SignNamesWrongFalsely : Prop := signNamesRow.holds Tryd.pinned (OpenSpec.ofChange signNamesWrong)

/-- 'quaerelaw1.SignFull': WHATEVER THE INPUT: true; the input reads as it did. -/
def signFullSpec : ChangeSpec := { name := "signFull", fn := fun _ => fun
  | [d] => { results := [.lit (.bool true)], args := [d] }
  | _ => none }
def signFullRow : OpenClaim := { program := "ytmgombdimppnpaadoor", sum := "bb9b299f3eaf61007c996dc7d0f5eaeaf1034bb8a7ac95f7f73b8949d0652315", func := "quaere/quaerelaw1.SignFull", spec := "signFull", named := ["quaere/sign.equals"], apart := false, laid := [("quaere/sign.equals", laid_quaere_sign_equals)] }
def SignFullSaid : Prop := signFullRow.holds Tryd.pinned (OpenSpec.ofChange signFullSpec)

/-- ITS FALSE NEIGHBOUR: 'it returns false'. Refute it at one input. -/
def signFullWrong : ChangeSpec := { name := "signFull", fn := fun _ => fun
  | [d] => { results := [.lit (.bool false)], args := [d] }
  | _ => none }
def SignFullWrongFalsely : Prop := signFullRow.holds Tryd.pinned (OpenSpec.ofChange signFullWrong)

/- THE SECOND FORM. 'bulk': how many values and letters a reading holds, each counted each time it is reached (what is shared counts as often as it is met; a slice's spare places count too). A statement '..UptoSaid' is the law's where the arguments, and the package variables that the reading takes, are together of bulk at most 1048576: NARROWER than '..Said'. Prove '..Said' where nothing that the law and all that it calls make is longer than what came in: it says more and counts as full. Else prove '..UptoSaid'. A law counts once. -/
mutual
def uptoBulk {H : Type} : DataW H → Nat
  | .lit (.string bytes) => bytes.length + 1
  | .lit _ => 1
  | .nil => 1
  | .ptr d => uptoBulk d + 1
  | .slice elems spare => uptoBulkAll elems + uptoBulkAll spare + 1
  | .agg parts => uptoBulkAll parts + 1
  | .iface _ d => uptoBulk d + 1
  | .map entries => uptoBulkEntries entries + 1
  | .held _ => 1
def uptoBulkAll {H : Type} : List (DataW H) → Nat
  | [] => 0
  | d :: r => uptoBulk d + uptoBulkAll r
def uptoBulkEntries {H : Type} : List (Lit × DataW H) → Nat
  | [] => 0
  | x :: r => uptoBulkEntry x + uptoBulkEntries r
def uptoBulkEntry {H : Type} : Lit × DataW H → Nat
  | (.string bytes, d) => bytes.length + uptoBulk d + 1
  | (_, d) => uptoBulk d + 1
 end
def uptoSmall : (H : Type) → List (DataW H) → Bool := fun _ ds => decide (uptoBulkAll ds ≤ 1048576)
def OpenSpec.upto (s : _root_.Go.ChangeSpec) : _root_.Go.OpenSpec := { _root_.Go.OpenSpec.ofChange s with cond := some uptoSmall }

/-- 'quaerelaw1.Signs', WHERE WHAT IT READS IS OF BULK AT MOST 1048576: true; the input reads as it did. -/
def signsUptoRow : OpenClaim := { program := "ytmgombdimppnpaadoor", sum := "bb9b299f3eaf61007c996dc7d0f5eaeaf1034bb8a7ac95f7f73b8949d0652315", func := "quaere/quaerelaw1.Signs", spec := "signs", named := ["quaere/sign.equals"], apart := false, laid := [("quaere/sign.equals", laid_quaere_sign_equals)], narrowed := true }
def SignsUptoSaid : Prop := signsUptoRow.holds Tryd.pinned (OpenSpec.upto signsSpec)

/-- 'quaerelaw1.SignAdds', WHERE WHAT IT READS IS OF BULK AT MOST 1048576: true; the input reads as it did. -/
def signAddsUptoRow : OpenClaim := { program := "ytmgombdimppnpaadoor", sum := "bb9b299f3eaf61007c996dc7d0f5eaeaf1034bb8a7ac95f7f73b8949d0652315", func := "quaere/quaerelaw1.SignAdds", spec := "signAdds", named := ["quaere/sign.equals"], apart := false, laid := [("quaere/sign.equals", laid_quaere_sign_equals)], narrowed := true }
def SignAddsUptoSaid : Prop := signAddsUptoRow.holds Tryd.pinned (OpenSpec.upto signAddsSpec)

/-- 'quaerelaw1.SignGrows', WHERE WHAT IT READS IS OF BULK AT MOST 1048576: true; the input reads as it did. -/
def signGrowsUptoRow : OpenClaim := { program := "ytmgombdimppnpaadoor", sum := "bb9b299f3eaf61007c996dc7d0f5eaeaf1034bb8a7ac95f7f73b8949d0652315", func := "quaere/quaerelaw1.SignGrows", spec := "signGrows", named := ["quaere/sign.equals"], apart := false, laid := [("quaere/sign.equals", laid_quaere_sign_equals)], narrowed := true }
def SignGrowsUptoSaid : Prop := signGrowsUptoRow.holds Tryd.pinned (OpenSpec.upto signGrowsSpec)

/-- 'quaerelaw1.SignNames', WHERE WHAT IT READS IS OF BULK AT MOST 1048576: true; the input reads as it did. -/
def signNamesUptoRow : OpenClaim := { program := "ytmgombdimppnpaadoor", sum := "bb9b299f3eaf61007c996dc7d0f5eaeaf1034bb8a7ac95f7f73b8949d0652315", func := "quaere/quaerelaw1.SignNames", spec := "signNames", named := ["quaere/sign.equals"], apart := false, laid := [("quaere/sign.equals", laid_quaere_sign_equals)], narrowed := true }
def SignNamesUptoSaid : Prop := signNamesUptoRow.holds Tryd.pinned (OpenSpec.upto signNamesSpec)

/-- 'quaerelaw1.SignFull', WHERE WHAT IT READS IS OF BULK AT MOST 1048576: true; the input reads as it did. -/
def signFullUptoRow : OpenClaim := { program := "ytmgombdimppnpaadoor", sum := "bb9b299f3eaf61007c996dc7d0f5eaeaf1034bb8a7ac95f7f73b8949d0652315", func := "quaere/quaerelaw1.SignFull", spec := "signFull", named := ["quaere/sign.equals"], apart := false, laid := [("quaere/sign.equals", laid_quaere_sign_equals)], narrowed := true }
def SignFullUptoSaid : Prop := signFullUptoRow.holds Tryd.pinned (OpenSpec.upto signFullSpec)

end Rows
end Go.Proofs.YtmgombdimppnpaaDoor
