/-
  NARROWER THAN 'FOR EVERY INPUT', by the rows' own cells (each row's printed sentence says how): Lits: laid · LitTops: laid · LitOpposite: laid · LitOrder: laid · LitTopThere: laid · LitAlone: laid.
  DERIVED. THE GIVEN ROWS OF THIS SEAT. 6 by the template 'for every input the law returns true; each argument reads behind the call as it read before'; 0 by the template 'total and deterministic' (their statements: YtfnemhkiopgeaaaDoorTotals.lean).
  GIVEN WITH THE SEED: the statements are not yours to turn. If you find one false, say at which input.
  Laid BY PROGRAM, IN A SANDBOX (cutbox-rows.mjs): the forced cells as the released guide's own fill.sh prints them over the translation dca930237bd4548d… (all of the seat's roots in one cut). By AI agents, Wed Nov 11 2026. No macro, syntax, notation, axiom, sorry.
-/
import Derived.Test.YtfnemhkiopgeaaaDoorChecked
import GoSem.Claim
import GoSem.ClaimJoined
import GoSem.ClaimMapViews
import Derived.JoinedTies
import Derived.KernelRfl
namespace Go.Proofs.YtfnemhkiopgeaaaDoor
/- THE CELL 'sum', in the pinned program and in every row, IS THE sha256 OF THE DUMP (.gsa) THAT YtfnemhkiopgeaaaDoorProg.lean LOADS. Nothing in Lean hashes anything: it is a label: what it is worth is what the hold of that sum in a sandbox is worth. -/
noncomputable def Tryd.pinned : Pinned := { name := "ytfnemhkiopgeaaadoor", sum := "dca930237bd4548dd14bab2b07b39879163488b3556ebee03c292369eadc1777", checked := Tryd.checked }
namespace Rows
def none {H : Type} : Left H := { results := [], args := [] }

/- WHAT THE LISTED PACKAGE-LEVEL VARIABLES READ AS WHEN THE CALL BEGINS. Each datum BY PROGRAM (the guide's laid-datum.mjs) off the statement by which the dump's own 'gosem.cut.vars' lays the variable. In a bare row this is a premise. The card (YtfnemhkiopgeaaaDoorCards.lean) ties it to the program's text. -/
def laid_quaere_sign_equals {H : Type} : DataW H := .agg [.lit (.string [61]), .lit (.int .i64 0), .lit (.int .i64 2), .lit (.int .i64 1)]

/-- 'quaerelaw7.Lits': WHATEVER THE INPUT: true; the input reads as it did. -/
def litsSpec : ChangeSpec := { name := "lits", fn := fun _ => fun
  | [d1, d2, d3] => { results := [.lit (.bool true)], args := [d1, d2, d3] }
  | _ => none }
def litsRow : OpenClaim := { program := "ytfnemhkiopgeaaadoor", sum := "dca930237bd4548dd14bab2b07b39879163488b3556ebee03c292369eadc1777", func := "quaere/quaerelaw7.Lits", spec := "lits", unfollowed := true, recurses := true, named := ["quaere/sign.equals"], apart := false, laid := [("quaere/sign.equals", laid_quaere_sign_equals)] }
def LitsSaid : Prop := litsRow.holds Tryd.pinned (OpenSpec.ofChange litsSpec)

/-- ITS FALSE NEIGHBOUR: 'it returns false'. Refute it at one input. -/
def litsWrong : ChangeSpec := { name := "lits", fn := fun _ => fun
  | [d1, d2, d3] => { results := [.lit (.bool false)], args := [d1, d2, d3] }
  | _ => none }
def LitsWrongFalsely : Prop := litsRow.holds Tryd.pinned (OpenSpec.ofChange litsWrong)

/-- 'quaerelaw7.LitTops': WHATEVER THE INPUT: true; the input reads as it did. -/
def litTopsSpec : ChangeSpec := { name := "litTops", fn := fun _ => fun
  | [d1, d2] => { results := [.lit (.bool true)], args := [d1, d2] }
  | _ => none }
def litTopsRow : OpenClaim := { program := "ytfnemhkiopgeaaadoor", sum := "dca930237bd4548dd14bab2b07b39879163488b3556ebee03c292369eadc1777", func := "quaere/quaerelaw7.LitTops", spec := "litTops", unfollowed := true, recurses := true, named := ["quaere/sign.equals"], apart := false, laid := [("quaere/sign.equals", laid_quaere_sign_equals)] }
def LitTopsSaid : Prop := litTopsRow.holds Tryd.pinned (OpenSpec.ofChange litTopsSpec)

/-- ITS FALSE NEIGHBOUR: 'it returns false'. Refute it at one input. -/
def litTopsWrong : ChangeSpec := { name := "litTops", fn := fun _ => fun
  | [d1, d2] => { results := [.lit (.bool false)], args := [d1, d2] }
  | _ => none }
def LitTopsWrongFalsely : Prop := litTopsRow.holds Tryd.pinned (OpenSpec.ofChange litTopsWrong)

/-- 'quaerelaw7.LitOpposite': WHATEVER THE INPUT: true; the input reads as it did. -/
def litOppositeSpec : ChangeSpec := { name := "litOpposite", fn := fun _ => fun
  | [d1, d2] => { results := [.lit (.bool true)], args := [d1, d2] }
  | _ => none }
def litOppositeRow : OpenClaim := { program := "ytfnemhkiopgeaaadoor", sum := "dca930237bd4548dd14bab2b07b39879163488b3556ebee03c292369eadc1777", func := "quaere/quaerelaw7.LitOpposite", spec := "litOpposite", unfollowed := true, recurses := true, named := ["quaere/sign.equals"], apart := false, laid := [("quaere/sign.equals", laid_quaere_sign_equals)] }
def LitOppositeSaid : Prop := litOppositeRow.holds Tryd.pinned (OpenSpec.ofChange litOppositeSpec)

/-- ITS FALSE NEIGHBOUR: 'it returns false'. Refute it at one input. -/
def litOppositeWrong : ChangeSpec := { name := "litOpposite", fn := fun _ => fun
  | [d1, d2] => { results := [.lit (.bool false)], args := [d1, d2] }
  | _ => none }
def LitOppositeWrongFalsely : Prop := litOppositeRow.holds Tryd.pinned (OpenSpec.ofChange litOppositeWrong)

/-- 'quaerelaw7.LitOrder': WHATEVER THE INPUT: true; the input reads as it did. -/
def litOrderSpec : ChangeSpec := { name := "litOrder", fn := fun _ => fun
  | [d1, d2, d3] => { results := [.lit (.bool true)], args := [d1, d2, d3] }
  | _ => none }
def litOrderRow : OpenClaim := { program := "ytfnemhkiopgeaaadoor", sum := "dca930237bd4548dd14bab2b07b39879163488b3556ebee03c292369eadc1777", func := "quaere/quaerelaw7.LitOrder", spec := "litOrder", unfollowed := true, recurses := true, named := ["quaere/sign.equals"], apart := false, laid := [("quaere/sign.equals", laid_quaere_sign_equals)] }
def LitOrderSaid : Prop := litOrderRow.holds Tryd.pinned (OpenSpec.ofChange litOrderSpec)

/-- ITS FALSE NEIGHBOUR: 'it returns false'. Refute it at one input. -/
def litOrderWrong : ChangeSpec := { name := "litOrder", fn := fun _ => fun
  | [d1, d2, d3] => { results := [.lit (.bool false)], args := [d1, d2, d3] }
  | _ => none }
def LitOrderWrongFalsely : Prop := litOrderRow.holds Tryd.pinned (OpenSpec.ofChange litOrderWrong)

/-- 'quaerelaw7.LitTopThere': WHATEVER THE INPUT: true; the input reads as it did. -/
def litTopThereSpec : ChangeSpec := { name := "litTopThere", fn := fun _ => fun
  | [d1, d2] => { results := [.lit (.bool true)], args := [d1, d2] }
  | _ => none }
def litTopThereRow : OpenClaim := { program := "ytfnemhkiopgeaaadoor", sum := "dca930237bd4548dd14bab2b07b39879163488b3556ebee03c292369eadc1777", func := "quaere/quaerelaw7.LitTopThere", spec := "litTopThere", unfollowed := true, recurses := true, named := ["quaere/sign.equals"], apart := false, laid := [("quaere/sign.equals", laid_quaere_sign_equals)] }
def LitTopThereSaid : Prop := litTopThereRow.holds Tryd.pinned (OpenSpec.ofChange litTopThereSpec)

/-- ITS FALSE NEIGHBOUR: 'it returns false'. Refute it at one input. -/
def litTopThereWrong : ChangeSpec := { name := "litTopThere", fn := fun _ => fun
  | [d1, d2] => { results := [.lit (.bool false)], args := [d1, d2] }
  | _ => none }
def LitTopThereWrongFalsely : Prop := litTopThereRow.holds Tryd.pinned (OpenSpec.ofChange litTopThereWrong)

/-- 'quaerelaw7.LitAlone': WHATEVER THE INPUT: true; the input reads as it did. -/
def litAloneSpec : ChangeSpec := { name := "litAlone", fn := fun _ => fun
  | [d1, d2] => { results := [.lit (.bool true)], args := [d1, d2] }
  | _ => none }
def litAloneRow : OpenClaim := { program := "ytfnemhkiopgeaaadoor", sum := "dca930237bd4548dd14bab2b07b39879163488b3556ebee03c292369eadc1777", func := "quaere/quaerelaw7.LitAlone", spec := "litAlone", unfollowed := true, recurses := true, named := ["quaere/sign.equals"], apart := false, laid := [("quaere/sign.equals", laid_quaere_sign_equals)] }
def LitAloneSaid : Prop := litAloneRow.holds Tryd.pinned (OpenSpec.ofChange litAloneSpec)

/-- ITS FALSE NEIGHBOUR: 'it returns false'. Refute it at one input. -/
def litAloneWrong : ChangeSpec := { name := "litAlone", fn := fun _ => fun
  | [d1, d2] => { results := [.lit (.bool false)], args := [d1, d2] }
  | _ => none }
def LitAloneWrongFalsely : Prop := litAloneRow.holds Tryd.pinned (OpenSpec.ofChange litAloneWrong)

/- THE SECOND FORM. 'bulk': how many values and letters a reading holds, each counted each time it is reached (what is shared counts as often as it is met; a slice's spare places count too). A statement '..UptoSaid' is the law's where the arguments, and the package variables that the reading takes, are together of bulk at most 1048576: NARROWER than '..Said'. Prove '..Said' where nothing that the law and all that it calls make is longer than what came in: it says more and counts as full. Else prove '..UptoSaid'. A law counts once. -/
mutual
def uptoBulk {H : Type} : DataW H → Nat
  | .lit (.string bytes) => bytes.length + 1
  | .lit _ => 1
  | .nil => 1
  | .ptr d => uptoBulk d + 1
  | .slice elems spare => uptoBulkAll elems + uptoBulkAll spare + 1
  | .agg parts => uptoBulkAll parts + 1
  | .iface _ d => uptoBulk d + 1
  | .map entries => uptoBulkEntries entries + 1
  | .held _ => 1
def uptoBulkAll {H : Type} : List (DataW H) → Nat
  | [] => 0
  | d :: r => uptoBulk d + uptoBulkAll r
def uptoBulkEntries {H : Type} : List (Lit × DataW H) → Nat
  | [] => 0
  | x :: r => uptoBulkEntry x + uptoBulkEntries r
def uptoBulkEntry {H : Type} : Lit × DataW H → Nat
  | (.string bytes, d) => bytes.length + uptoBulk d + 1
  | (_, d) => uptoBulk d + 1
 end
def uptoSmall : (H : Type) → List (DataW H) → Bool := fun _ ds => decide (uptoBulkAll ds ≤ 1048576)
def OpenSpec.upto (s : _root_.Go.ChangeSpec) : _root_.Go.OpenSpec := { _root_.Go.OpenSpec.ofChange s with cond := some uptoSmall }

/-- 'quaerelaw7.Lits', WHERE WHAT IT READS IS OF BULK AT MOST 1048576: true; the input reads as it did. -/
def litsUptoRow : OpenClaim := { program := "ytfnemhkiopgeaaadoor", sum := "dca930237bd4548dd14bab2b07b39879163488b3556ebee03c292369eadc1777", func := "quaere/quaerelaw7.Lits", spec := "lits", unfollowed := true, recurses := true, named := ["quaere/sign.equals"], apart := false, laid := [("quaere/sign.equals", laid_quaere_sign_equals)], narrowed := true }
def LitsUptoSaid : Prop := litsUptoRow.holds Tryd.pinned (OpenSpec.upto litsSpec)

/-- 'quaerelaw7.LitTops', WHERE WHAT IT READS IS OF BULK AT MOST 1048576: true; the input reads as it did. -/
def litTopsUptoRow : OpenClaim := { program := "ytfnemhkiopgeaaadoor", sum := "dca930237bd4548dd14bab2b07b39879163488b3556ebee03c292369eadc1777", func := "quaere/quaerelaw7.LitTops", spec := "litTops", unfollowed := true, recurses := true, named := ["quaere/sign.equals"], apart := false, laid := [("quaere/sign.equals", laid_quaere_sign_equals)], narrowed := true }
def LitTopsUptoSaid : Prop := litTopsUptoRow.holds Tryd.pinned (OpenSpec.upto litTopsSpec)

/-- 'quaerelaw7.LitOpposite', WHERE WHAT IT READS IS OF BULK AT MOST 1048576: true; the input reads as it did. -/
def litOppositeUptoRow : OpenClaim := { program := "ytfnemhkiopgeaaadoor", sum := "dca930237bd4548dd14bab2b07b39879163488b3556ebee03c292369eadc1777", func := "quaere/quaerelaw7.LitOpposite", spec := "litOpposite", unfollowed := true, recurses := true, named := ["quaere/sign.equals"], apart := false, laid := [("quaere/sign.equals", laid_quaere_sign_equals)], narrowed := true }
def LitOppositeUptoSaid : Prop := litOppositeUptoRow.holds Tryd.pinned (OpenSpec.upto litOppositeSpec)

/-- 'quaerelaw7.LitOrder', WHERE WHAT IT READS IS OF BULK AT MOST 1048576: true; the input reads as it did. -/
def litOrderUptoRow : OpenClaim := { program := "ytfnemhkiopgeaaadoor", sum := "dca930237bd4548dd14bab2b07b39879163488b3556ebee03c292369eadc1777", func := "quaere/quaerelaw7.LitOrder", spec := "litOrder", unfollowed := true, recurses := true, named := ["quaere/sign.equals"], apart := false, laid := [("quaere/sign.equals", laid_quaere_sign_equals)], narrowed := true }
def LitOrderUptoSaid : Prop := litOrderUptoRow.holds Tryd.pinned (OpenSpec.upto litOrderSpec)

/-- 'quaerelaw7.LitTopThere', WHERE WHAT IT READS IS OF BULK AT MOST 1048576: true; the input reads as it did. -/
def litTopThereUptoRow : OpenClaim := { program := "ytfnemhkiopgeaaadoor", sum := "dca930237bd4548dd14bab2b07b39879163488b3556ebee03c292369eadc1777", func := "quaere/quaerelaw7.LitTopThere", spec := "litTopThere", unfollowed := true, recurses := true, named := ["quaere/sign.equals"], apart := false, laid := [("quaere/sign.equals", laid_quaere_sign_equals)], narrowed := true }
def LitTopThereUptoSaid : Prop := litTopThereUptoRow.holds Tryd.pinned (OpenSpec.upto litTopThereSpec)

/-- 'quaerelaw7.LitAlone', WHERE WHAT IT READS IS OF BULK AT MOST 1048576: true; the input reads as it did. -/
def litAloneUptoRow : OpenClaim := { program := "ytfnemhkiopgeaaadoor", sum := "dca930237bd4548dd14bab2b07b39879163488b3556ebee03c292369eadc1777", func := "quaere/quaerelaw7.LitAlone", spec := "litAlone", unfollowed := true, recurses := true, named := ["quaere/sign.equals"], apart := false, laid := [("quaere/sign.equals", laid_quaere_sign_equals)], narrowed := true }
def LitAloneUptoSaid : Prop := litAloneUptoRow.holds Tryd.pinned (OpenSpec.upto litAloneSpec)

end Rows
end Go.Proofs.YtfnemhkiopgeaaaDoor
