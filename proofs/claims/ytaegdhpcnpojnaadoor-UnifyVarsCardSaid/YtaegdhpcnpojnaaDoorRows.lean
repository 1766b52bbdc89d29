/-
  NARROWER THAN 'FOR EVERY INPUT', by the rows' own cells (each row's printed sentence says how): Unifies: laid · UnifyVars: laid · UnifyDeep: laid · UnifySames: laid · UnifyMade: laid · UnifyAny: laid.
  DERIVED. THE GIVEN ROWS OF THIS SEAT. 6 by the template 'for every input the law returns true; each argument reads behind the call as it read before'; 0 by the template 'total and deterministic' (their statements: YtaegdhpcnpojnaaDoorTotals.lean).
  GIVEN WITH THE SEED: the statements are not yours to turn. If you find one false, say at which input.
  Laid BY PROGRAM, IN A SANDBOX (cutbox-rows.mjs): the forced cells as the released guide's own fill.sh prints them over the translation 538fbbfc6040041f… (all of the seat's roots in one cut). By AI agents, Wed Nov 11 2026. No macro, syntax, notation, axiom, sorry.
-/
import Derived.Test.YtaegdhpcnpojnaaDoorChecked
import GoSem.Claim
import GoSem.ClaimJoined
import GoSem.ClaimMapViews
import Derived.JoinedTies
import Derived.KernelRfl
namespace Go.Proofs.YtaegdhpcnpojnaaDoor
/- THE CELL 'sum', in the pinned program and in every row, IS THE sha256 OF THE DUMP (.gsa) THAT YtaegdhpcnpojnaaDoorProg.lean LOADS. Nothing in Lean hashes anything: it is a label: what it is worth is what the hold of that sum in a sandbox is worth. -/
noncomputable def Tryd.pinned : Pinned := { name := "ytaegdhpcnpojnaadoor", sum := "538fbbfc6040041f483a0d472b574d99063822270012fb56b3c6a72ee70aa9ac", checked := Tryd.checked }
namespace Rows
def none {H : Type} : Left H := { results := [], args := [] }

/- WHAT THE LISTED PACKAGE-LEVEL VARIABLES READ AS WHEN THE CALL BEGINS. Each datum BY PROGRAM (the guide's laid-datum.mjs) off the statement by which the dump's own 'gosem.cut.vars' lays the variable. In a bare row this is a premise. The card (YtaegdhpcnpojnaaDoorCards.lean) ties it to the program's text. -/
def laid_quaere_sign_equals {H : Type} : DataW H := .agg [.lit (.string [61]), .lit (.int .i64 0), .lit (.int .i64 2), .lit (.int .i64 1)]

/-- 'quaerelaw4.Unifies': WHATEVER THE INPUT: true; the input reads as it did. -/
def unifiesSpec : ChangeSpec := { name := "unifies", fn := fun _ => fun
  | [d1, d2, d3] => { results := [.lit (.bool true)], args := [d1, d2, d3] }
  | _ => none }
def unifiesRow : OpenClaim := { program := "ytaegdhpcnpojnaadoor", sum := "538fbbfc6040041f483a0d472b574d99063822270012fb56b3c6a72ee70aa9ac", func := "quaere/quaerelaw4.Unifies", spec := "unifies", recurses := true, named := ["quaere/sign.equals"], apart := false, laid := [("quaere/sign.equals", laid_quaere_sign_equals)] }
def UnifiesSaid : Prop := unifiesRow.holds Tryd.pinned (OpenSpec.ofChange unifiesSpec)

/-- ITS FALSE NEIGHBOUR: 'it returns false'. Refute it at one input. -/
def unifiesWrong : ChangeSpec := { name := "unifies", fn := fun _ => fun
  | [d1, d2, d3] => { results := [.lit (.bool false)], args := [d1, d2, d3] }
  | _ => none }
def UnifiesWrongFalsely : Prop := unifiesRow.holds Tryd.pinned (OpenSpec.ofChange unifiesWrong)

/-- 'quaerelaw4.UnifyVars': WHATEVER THE INPUT: true; the input reads as it did. -/
def unifyVarsSpec : ChangeSpec := { name := "unifyVars", fn := fun _ => fun
  | [d1, d2] => { results := [.lit (.bool true)], args := [d1, d2] }
  | _ => none }
def unifyVarsRow : OpenClaim := { program := "ytaegdhpcnpojnaadoor", sum := "538fbbfc6040041f483a0d472b574d99063822270012fb56b3c6a72ee70aa9ac", func := "quaere/quaerelaw4.UnifyVars", spec := "unifyVars", recurses := true, named := ["quaere/sign.equals"], apart := false, laid := [("quaere/sign.equals", laid_quaere_sign_equals)] }
def UnifyVarsSaid : Prop := unifyVarsRow.holds Tryd.pinned (OpenSpec.ofChange unifyVarsSpec)

/-- ITS FALSE NEIGHBOUR: 'it returns false'. Refute it at one input. -/
def unifyVarsWrong : ChangeSpec := { name := "unifyVars", fn := fun _ => fun
  | [d1, d2] => { results := [.lit (.bool false)], args := [d1, d2] }
  | _ => none }
def UnifyVarsWrongFalsely : Prop := unifyVarsRow.holds Tryd.pinned (OpenSpec.ofChange unifyVarsWrong)

/-- 'quaerelaw4.UnifyDeep': WHATEVER THE INPUT: true; the input reads as it did. -/
def unifyDeepSpec : ChangeSpec := { name := "unifyDeep", fn := fun _ => fun
  | [d1, d2, d3] => { results := [.lit (.bool true)], args := [d1, d2, d3] }
  | _ => none }
def unifyDeepRow : OpenClaim := { program := "ytaegdhpcnpojnaadoor", sum := "538fbbfc6040041f483a0d472b574d99063822270012fb56b3c6a72ee70aa9ac", func := "quaere/quaerelaw4.UnifyDeep", spec := "unifyDeep", recurses := true, named := ["quaere/sign.equals"], apart := false, laid := [("quaere/sign.equals", laid_quaere_sign_equals)] }
def UnifyDeepSaid : Prop := unifyDeepRow.holds Tryd.pinned (OpenSpec.ofChange unifyDeepSpec)

/-- ITS FALSE NEIGHBOUR: 'it returns false'. Refute it at one input. -/
def unifyDeepWrong : ChangeSpec := { name := "unifyDeep", fn := fun _ => fun
  | [d1, d2, d3] => { results := [.lit (.bool false)], args := [d1, d2, d3] }
  | _ => none }
def UnifyDeepWrongFalsely : Prop := unifyDeepRow.holds Tryd.pinned (OpenSpec.ofChange unifyDeepWrong)

/-- 'quaerelaw4.UnifySames': WHATEVER THE INPUT: true; the input reads as it did. -/
def unifySamesSpec : ChangeSpec := { name := "unifySames", fn := fun _ => fun
  | [d1, d2, d3] => { results := [.lit (.bool true)], args := [d1, d2, d3] }
  | _ => none }
def unifySamesRow : OpenClaim := { program := "ytaegdhpcnpojnaadoor", sum := "538fbbfc6040041f483a0d472b574d99063822270012fb56b3c6a72ee70aa9ac", func := "quaere/quaerelaw4.UnifySames", spec := "unifySames", recurses := true, named := ["quaere/sign.equals"], apart := false, laid := [("quaere/sign.equals", laid_quaere_sign_equals)] }
def UnifySamesSaid : Prop := unifySamesRow.holds Tryd.pinned (OpenSpec.ofChange unifySamesSpec)

/-- ITS FALSE NEIGHBOUR: 'it returns false'. Refute it at one input. -/
def unifySamesWrong : ChangeSpec := { name := "unifySames", fn := fun _ => fun
  | [d1, d2, d3] => { results := [.lit (.bool false)], args := [d1, d2, d3] }
  | _ => none }
def UnifySamesWrongFalsely : Prop := unifySamesRow.holds Tryd.pinned (OpenSpec.ofChange unifySamesWrong)

/-- 'quaerelaw4.UnifyMade': WHATEVER THE INPUT: true; the input reads as it did. -/
def unifyMadeSpec : ChangeSpec := { name := "unifyMade", fn := fun _ => fun
  | [d1, d2, d3] => { results := [.lit (.bool true)], args := [d1, d2, d3] }
  | _ => none }
def unifyMadeRow : OpenClaim := { program := "ytaegdhpcnpojnaadoor", sum := "538fbbfc6040041f483a0d472b574d99063822270012fb56b3c6a72ee70aa9ac", func := "quaere/quaerelaw4.UnifyMade", spec := "unifyMade", recurses := true, named := ["quaere/sign.equals"], apart := false, laid := [("quaere/sign.equals", laid_quaere_sign_equals)] }
def UnifyMadeSaid : Prop := unifyMadeRow.holds Tryd.pinned (OpenSpec.ofChange unifyMadeSpec)

/-- ITS FALSE NEIGHBOUR: 'it returns false'. Refute it at one input. -/
def unifyMadeWrong : ChangeSpec := { name := "unifyMade", fn := fun _ => fun
  | [d1, d2, d3] => { results := [.lit (.bool false)], args := [d1, d2, d3] }
  | _ => none }
def UnifyMadeWrongFalsely : Prop := unifyMadeRow.holds Tryd.pinned (OpenSpec.ofChange unifyMadeWrong)

/-- 'quaerelaw4.UnifyAny': WHATEVER THE INPUT: true; the input reads as it did. -/
def unifyAnySpec : ChangeSpec := { name := "unifyAny", fn := fun _ => fun
  | [d1, d2, d3, d4] => { results := [.lit (.bool true)], args := [d1, d2, d3, d4] }
  | _ => none }
def unifyAnyRow : OpenClaim := { program := "ytaegdhpcnpojnaadoor", sum := "538fbbfc6040041f483a0d472b574d99063822270012fb56b3c6a72ee70aa9ac", func := "quaere/quaerelaw4.UnifyAny", spec := "unifyAny", recurses := true, named := ["quaere/sign.equals"], apart := false, laid := [("quaere/sign.equals", laid_quaere_sign_equals)] }
def UnifyAnySaid : Prop := unifyAnyRow.holds Tryd.pinned (OpenSpec.ofChange unifyAnySpec)

/-- ITS FALSE NEIGHBOUR: 'it returns false'. Refute it at one input. -/
def unifyAnyWrong : ChangeSpec := { name := "unifyAny", fn := fun _ => fun
  | [d1, d2, d3, d4] => { results := [.lit (.bool false)], args := [d1, d2, d3, d4] }
  | _ => none }
def UnifyAnyWrongFalsely : Prop := unifyAnyRow.holds Tryd.pinned (OpenSpec.ofChange unifyAnyWrong)

/- THE SECOND FORM. 'bulk': how many values and letters a reading holds, each counted each time it is reached (what is shared counts as often as it is met; a slice's spare places count too). A statement '..UptoSaid' is the law's where the arguments, and the package variables that the reading takes, are together of bulk at most 1048576: NARROWER than '..Said'. Prove '..Said' where nothing that the law and all that it calls make is longer than what came in: it says more and counts as full. Else prove '..UptoSaid'. A law counts once. -/
mutual
def uptoBulk {H : Type} : DataW H → Nat
  | .lit (.string bytes) => bytes.length + 1
  | .lit _ => 1
  | .nil => 1
  | .ptr d => uptoBulk d + 1
  | .slice elems spare => uptoBulkAll elems + uptoBulkAll spare + 1
  | .agg parts => uptoBulkAll parts + 1
  | .iface _ d => uptoBulk d + 1
  | .map entries => uptoBulkEntries entries + 1
  | .held _ => 1
def uptoBulkAll {H : Type} : List (DataW H) → Nat
  | [] => 0
  | d :: r => uptoBulk d + uptoBulkAll r
def uptoBulkEntries {H : Type} : List (Lit × DataW H) → Nat
  | [] => 0
  | x :: r => uptoBulkEntry x + uptoBulkEntries r
def uptoBulkEntry {H : Type} : Lit × DataW H → Nat
  | (.string bytes, d) => bytes.length + uptoBulk d + 1
  | (_, d) => uptoBulk d + 1
 end
def uptoSmall : (H : Type) → List (DataW H) → Bool := fun _ ds => decide (uptoBulkAll ds ≤ 1048576)
def OpenSpec.upto (s : _root_.Go.ChangeSpec) : _root_.Go.OpenSpec := { _root_.Go.OpenSpec.ofChange s with cond := some uptoSmall }

/-- 'quaerelaw4.Unifies', WHERE WHAT IT READS IS OF BULK AT MOST 1048576: true; the input reads as it did. -/
def unifiesUptoRow : OpenClaim := { program := "ytaegdhpcnpojnaadoor", sum := "538fbbfc6040041f483a0d472b574d99063822270012fb56b3c6a72ee70aa9ac", func := "quaere/quaerelaw4.Unifies", spec := "unifies", recurses := true, named := ["quaere/sign.equals"], apart := false, laid := [("quaere/sign.equals", laid_quaere_sign_equals)], narrowed := true }
def UnifiesUptoSaid : Prop := unifiesUptoRow.holds Tryd.pinned (OpenSpec.upto unifiesSpec)

/-- 'quaerelaw4.UnifyVars', WHERE WHAT IT READS IS OF BULK AT MOST 1048576: true; the input reads as it did. -/
def unifyVarsUptoRow : OpenClaim := { program := "ytaegdhpcnpojnaadoor", sum := "538fbbfc6040041f483a0d472b574d99063822270012fb56b3c6a72ee70aa9ac", func := "quaere/quaerelaw4.UnifyVars", spec := "unifyVars", recurses := true, named := ["quaere/sign.equals"], apart := false, laid := [("quaere/sign.equals", laid_quaere_sign_equals)], narrowed := true }
def UnifyVarsUptoSaid : Prop := unifyVarsUptoRow.holds Tryd.pinned (OpenSpec.upto unifyVarsSpec)

/-- 'quaerelaw4.UnifyDeep', WHERE WHAT IT READS IS OF BULK AT MOST 1048576: true; the input reads as it did. -/
def unifyDeepUptoRow : OpenClaim := { program := "ytaegdhpcnpojnaadoor", sum := "538fbbfc6040041f483a0d472b574d99063822270012fb56b3c6a72ee70aa9ac", func := "quaere/quaerelaw4.UnifyDeep", spec := "unifyDeep", recurses := true, named := ["quaere/sign.equals"], apart := false, laid := [("quaere/sign.equals", laid_quaere_sign_equals)], narrowed := true }
def UnifyDeepUptoSaid : Prop := unifyDeepUptoRow.holds Tryd.pinned (OpenSpec.upto unifyDeepSpec)

/-- 'quaerelaw4.UnifySames', WHERE WHAT IT READS IS OF BULK AT MOST 1048576: true; the input reads as it did. -/
def unifySamesUptoRow : OpenClaim := { program := "ytaegdhpcnpojnaadoor", sum := "538fbbfc6040041f483a0d472b574d99063822270012fb56b3c6a72ee70aa9ac", func := "quaere/quaerelaw4.UnifySames", spec := "unifySames", recurses := true, named := ["quaere/sign.equals"], apart := false, laid := [("quaere/sign.equals", laid_quaere_sign_equals)], narrowed := true }
def UnifySamesUptoSaid : Prop := unifySamesUptoRow.holds Tryd.pinned (OpenSpec.upto unifySamesSpec)

/-- 'quaerelaw4.UnifyMade', WHERE WHAT IT READS IS OF BULK AT MOST 1048576: true; the input reads as it did. -/
def unifyMadeUptoRow : OpenClaim := { program := "ytaegdhpcnpojnaadoor", sum := "538fbbfc6040041f483a0d472b574d99063822270012fb56b3c6a72ee70aa9ac", func := "quaere/quaerelaw4.UnifyMade", spec := "unifyMade", recurses := true, named := ["quaere/sign.equals"], apart := false, laid := [("quaere/sign.equals", laid_quaere_sign_equals)], narrowed := true }
def UnifyMadeUptoSaid : Prop := unifyMadeUptoRow.holds Tryd.pinned (OpenSpec.upto unifyMadeSpec)

/-- 'quaerelaw4.UnifyAny', WHERE WHAT IT READS IS OF BULK AT MOST 1048576: true; the input reads as it did. -/
def unifyAnyUptoRow : OpenClaim := { program := "ytaegdhpcnpojnaadoor", sum := "538fbbfc6040041f483a0d472b574d99063822270012fb56b3c6a72ee70aa9ac", func := "quaere/quaerelaw4.UnifyAny", spec := "unifyAny", recurses := true, named := ["quaere/sign.equals"], apart := false, laid := [("quaere/sign.equals", laid_quaere_sign_equals)], narrowed := true }
def UnifyAnyUptoSaid : Prop := unifyAnyUptoRow.holds Tryd.pinned (OpenSpec.upto unifyAnySpec)

end Rows
end Go.Proofs.YtaegdhpcnpojnaaDoor
