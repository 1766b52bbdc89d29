/-
  NARROWER THAN 'FOR EVERY INPUT', by the rows' own cells (each row's printed sentence says how): Matches: laid · MatchBoth: laid · MatchLess: laid · MatchMade: laid · MatchRow: laid · MatchUnify: laid.
  DERIVED. THE GIVEN ROWS OF THIS SEAT. 6 by the template 'for every input the law returns true; each argument reads behind the call as it read before'; 0 by the template 'total and deterministic' (their statements: YtohclkafdphleaaDoorTotals.lean).
  GIVEN WITH THE SEED: the statements are not yours to turn. If you find one false, say at which input.
  Laid BY PROGRAM, IN A SANDBOX (cutbox-rows.mjs): the forced cells as the released guide's own fill.sh prints them over the translation b310e820f4641275… (all of the seat's roots in one cut). By AI agents, Wed Nov 11 2026. No macro, syntax, notation, axiom, sorry.
-/
import Derived.Test.YtohclkafdphleaaDoorChecked
import GoSem.Claim
import GoSem.ClaimJoined
import GoSem.ClaimMapViews
import Derived.JoinedTies
import Derived.KernelRfl
namespace Go.Proofs.YtohclkafdphleaaDoor
/- THE CELL 'sum', in the pinned program and in every row, IS THE sha256 OF THE DUMP (.gsa) THAT YtohclkafdphleaaDoorProg.lean LOADS. Nothing in Lean hashes anything: it is a label: what it is worth is what the hold of that sum in a sandbox is worth. -/
noncomputable def Tryd.pinned : Pinned := { name := "ytohclkafdphleaadoor", sum := "b310e820f4641275dc2e4c4446c9d1a92bc6f8ad889048097e43f5cfc6e2ba8c", checked := Tryd.checked }
namespace Rows
def none {H : Type} : Left H := { results := [], args := [] }

/- WHAT THE LISTED PACKAGE-LEVEL VARIABLES READ AS WHEN THE CALL BEGINS. Each datum BY PROGRAM (the guide's laid-datum.mjs) off the statement by which the dump's own 'gosem.cut.vars' lays the variable. In a bare row this is a premise. The card (YtohclkafdphleaaDoorCards.lean) ties it to the program's text. -/
def laid_quaere_sign_equals {H : Type} : DataW H := .agg [.lit (.string [61]), .lit (.int .i64 0), .lit (.int .i64 2), .lit (.int .i64 1)]

/-- 'quaerelaw5.Matches': WHATEVER THE INPUT: true; the input reads as it did. -/
def matchesSpec : ChangeSpec := { name := "matches", fn := fun _ => fun
  | [d1, d2, d3] => { results := [.lit (.bool true)], args := [d1, d2, d3] }
  | _ => none }
def matchesRow : OpenClaim := { program := "ytohclkafdphleaadoor", sum := "b310e820f4641275dc2e4c4446c9d1a92bc6f8ad889048097e43f5cfc6e2ba8c", func := "quaere/quaerelaw5.Matches", spec := "matches", named := ["quaere/sign.equals"], apart := false, laid := [("quaere/sign.equals", laid_quaere_sign_equals)] }
def MatchesSaid : Prop := matchesRow.holds Tryd.pinned (OpenSpec.ofChange matchesSpec)

/-- ITS FALSE NEIGHBOUR: 'it returns false'. Refute it at one input. -/
def matchesWrong : ChangeSpec := { name := "matches", fn := fun _ => fun
  | [d1, d2, d3] => { results := [.lit (.bool false)], args := [d1, d2, d3] }
  | _ => none }
def MatchesWrongFalsely : Prop := matchesRow.holds Tryd.pinned (OpenSpec.ofChange matchesWrong)

/-- 'quaerelaw5.MatchBoth': WHATEVER THE INPUT: true; the input reads as it did. -/
def matchBothSpec : ChangeSpec := { name := "matchBoth", fn := fun _ => fun
  | [d1, d2, d3] => { results := [.lit (.bool true)], args := [d1, d2, d3] }
  | _ => none }
def matchBothRow : OpenClaim := { program := "ytohclkafdphleaadoor", sum := "b310e820f4641275dc2e4c4446c9d1a92bc6f8ad889048097e43f5cfc6e2ba8c", func := "quaere/quaerelaw5.MatchBoth", spec := "matchBoth", named := ["quaere/sign.equals"], apart := false, laid := [("quaere/sign.equals", laid_quaere_sign_equals)] }
def MatchBothSaid : Prop := matchBothRow.holds Tryd.pinned (OpenSpec.ofChange matchBothSpec)

/-- ITS FALSE NEIGHBOUR: 'it returns false'. Refute it at one input. -/
def matchBothWrong : ChangeSpec := { name := "matchBoth", fn := fun _ => fun
  | [d1, d2, d3] => { results := [.lit (.bool false)], args := [d1, d2, d3] }
  | _ => none }
def MatchBothWrongFalsely : Prop := matchBothRow.holds Tryd.pinned (OpenSpec.ofChange matchBothWrong)

/-- 'quaerelaw5.MatchLess': WHATEVER THE INPUT: true; the input reads as it did. -/
def matchLessSpec : ChangeSpec := { name := "matchLess", fn := fun _ => fun
  | [d1, d2, d3] => { results := [.lit (.bool true)], args := [d1, d2, d3] }
  | _ => none }
def matchLessRow : OpenClaim := { program := "ytohclkafdphleaadoor", sum := "b310e820f4641275dc2e4c4446c9d1a92bc6f8ad889048097e43f5cfc6e2ba8c", func := "quaere/quaerelaw5.MatchLess", spec := "matchLess", named := ["quaere/sign.equals"], apart := false, laid := [("quaere/sign.equals", laid_quaere_sign_equals)] }
def MatchLessSaid : Prop := matchLessRow.holds Tryd.pinned (OpenSpec.ofChange matchLessSpec)

/-- ITS FALSE NEIGHBOUR: 'it returns false'. Refute it at one input. -/
def matchLessWrong : ChangeSpec := { name := "matchLess", fn := fun _ => fun
  | [d1, d2, d3] => { results := [.lit (.bool false)], args := [d1, d2, d3] }
  | _ => none }
def MatchLessWrongFalsely : Prop := matchLessRow.holds Tryd.pinned (OpenSpec.ofChange matchLessWrong)

/-- 'quaerelaw5.MatchMade': WHATEVER THE INPUT: true; the input reads as it did. -/
def matchMadeSpec : ChangeSpec := { name := "matchMade", fn := fun _ => fun
  | [d1, d2, d3] => { results := [.lit (.bool true)], args := [d1, d2, d3] }
  | _ => none }
def matchMadeRow : OpenClaim := { program := "ytohclkafdphleaadoor", sum := "b310e820f4641275dc2e4c4446c9d1a92bc6f8ad889048097e43f5cfc6e2ba8c", func := "quaere/quaerelaw5.MatchMade", spec := "matchMade", named := ["quaere/sign.equals"], apart := false, laid := [("quaere/sign.equals", laid_quaere_sign_equals)] }
def MatchMadeSaid : Prop := matchMadeRow.holds Tryd.pinned (OpenSpec.ofChange matchMadeSpec)

/-- ITS FALSE NEIGHBOUR: 'it returns false'. Refute it at one input. -/
def matchMadeWrong : ChangeSpec := { name := "matchMade", fn := fun _ => fun
  | [d1, d2, d3] => { results := [.lit (.bool false)], args := [d1, d2, d3] }
  | _ => none }
def MatchMadeWrongFalsely : Prop := matchMadeRow.holds Tryd.pinned (OpenSpec.ofChange matchMadeWrong)

/-- 'quaerelaw5.MatchRow': WHATEVER THE INPUT: true; the input reads as it did. -/
def matchRowSpec : ChangeSpec := { name := "matchRow", fn := fun _ => fun
  | [d1, d2, d3, d4] => { results := [.lit (.bool true)], args := [d1, d2, d3, d4] }
  | _ => none }
def matchRowRow : OpenClaim := { program := "ytohclkafdphleaadoor", sum := "b310e820f4641275dc2e4c4446c9d1a92bc6f8ad889048097e43f5cfc6e2ba8c", func := "quaere/quaerelaw5.MatchRow", spec := "matchRow", named := ["quaere/sign.equals"], apart := false, laid := [("quaere/sign.equals", laid_quaere_sign_equals)] }
def MatchRowSaid : Prop := matchRowRow.holds Tryd.pinned (OpenSpec.ofChange matchRowSpec)

/-- ITS FALSE NEIGHBOUR: 'it returns false'. Refute it at one input. -/
def matchRowWrong : ChangeSpec := { name := "matchRow", fn := fun _ => fun
  | [d1, d2, d3, d4] => { results := [.lit (.bool false)], args := [d1, d2, d3, d4] }
  | _ => none }
def MatchRowWrongFalsely : Prop := matchRowRow.holds Tryd.pinned (OpenSpec.ofChange matchRowWrong)

/-- 'quaerelaw5.MatchUnify': WHATEVER THE INPUT: true; the input reads as it did. -/
def matchUnifySpec : ChangeSpec := { name := "matchUnify", fn := fun _ => fun
  | [d1, d2, d3] => { results := [.lit (.bool true)], args := [d1, d2, d3] }
  | _ => none }
def matchUnifyRow : OpenClaim := { program := "ytohclkafdphleaadoor", sum := "b310e820f4641275dc2e4c4446c9d1a92bc6f8ad889048097e43f5cfc6e2ba8c", func := "quaere/quaerelaw5.MatchUnify", spec := "matchUnify", recurses := true, named := ["quaere/sign.equals"], apart := false, laid := [("quaere/sign.equals", laid_quaere_sign_equals)] }
def MatchUnifySaid : Prop := matchUnifyRow.holds Tryd.pinned (OpenSpec.ofChange matchUnifySpec)

/-- ITS FALSE NEIGHBOUR: 'it returns false'. Refute it at one input. -/
def matchUnifyWrong : ChangeSpec := { name := "matchUnify", fn := fun _ => fun
  | [d1, d2, d3] => { results := [.lit (.bool false)], args := [d1, d2, d3] }
  | _ => none }
def MatchUnifyWrongFalsely : Prop := matchUnifyRow.holds Tryd.pinned (OpenSpec.ofChange matchUnifyWrong)

/- THE SECOND FORM. 'bulk': how many values and letters a reading holds, each counted each time it is reached (what is shared counts as often as it is met; a slice's spare places count too). A statement '..UptoSaid' is the law's where the arguments, and the package variables that the reading takes, are together of bulk at most 1048576: NARROWER than '..Said'. Prove '..Said' where nothing that the law and all that it calls make is longer than what came in: it says more and counts as full. Else prove '..UptoSaid'. A law counts once. -/
mutual
def uptoBulk {H : Type} : DataW H → Nat
  | .lit (.string bytes) => bytes.length + 1
  | .lit _ => 1
  | .nil => 1
  | .ptr d => uptoBulk d + 1
  | .slice elems spare => uptoBulkAll elems + uptoBulkAll spare + 1
  | .agg parts => uptoBulkAll parts + 1
  | .iface _ d => uptoBulk d + 1
  | .map entries => uptoBulkEntries entries + 1
  | .held _ => 1
def uptoBulkAll {H : Type} : List (DataW H) → Nat
  | [] => 0
  | d :: r => uptoBulk d + uptoBulkAll r
def uptoBulkEntries {H : Type} : List (Lit × DataW H) → Nat
  | [] => 0
  | x :: r => uptoBulkEntry x + uptoBulkEntries r
def uptoBulkEntry {H : Type} : Lit × DataW H → Nat
  | (.string bytes, d) => bytes.length + uptoBulk d + 1
  | (_, d) => uptoBulk d + 1
 end
def uptoSmall : (H : Type) → List (DataW H) → Bool := fun _ ds => decide (uptoBulkAll ds ≤ 1048576)
def OpenSpec.upto (s : _root_.Go.ChangeSpec) : _root_.Go.OpenSpec := { _root_.Go.OpenSpec.ofChange s with cond := some uptoSmall }

/-- 'quaerelaw5.Matches', WHERE WHAT IT READS IS OF BULK AT MOST 1048576: true; the input reads as it did. -/
def matchesUptoRow : OpenClaim := { program := "ytohclkafdphleaadoor", sum := "b310e820f4641275dc2e4c4446c9d1a92bc6f8ad889048097e43f5cfc6e2ba8c", func := "quaere/quaerelaw5.Matches", spec := "matches", named := ["quaere/sign.equals"], apart := false, laid := [("quaere/sign.equals", laid_quaere_sign_equals)], narrowed := true }
def MatchesUptoSaid : Prop := matchesUptoRow.holds Tryd.pinned (OpenSpec.upto matchesSpec)

/-- 'quaerelaw5.MatchBoth', WHERE WHAT IT READS IS OF BULK AT MOST 1048576: true; the input reads as it did. -/
def matchBothUptoRow : OpenClaim := { program := "ytohclkafdphleaadoor", sum := "b310e820f4641275dc2e4c4446c9d1a92bc6f8ad889048097e43f5cfc6e2ba8c", func := "quaere/quaerelaw5.MatchBoth", spec := "matchBoth", named := ["quaere/sign.equals"], apart := false, laid := [("quaere/sign.equals", laid_quaere_sign_equals)], narrowed := true }
def MatchBothUptoSaid : Prop := matchBothUptoRow.holds Tryd.pinned (OpenSpec.upto matchBothSpec)

/-- 'quaerelaw5.MatchLess', WHERE WHAT IT READS IS OF BULK AT MOST 1048576: true; the input reads as it did. -/
def matchLessUptoRow : OpenClaim := { program := "ytohclkafdphleaadoor", sum := "b310e820f4641275dc2e4c4446c9d1a92bc6f8ad889048097e43f5cfc6e2ba8c", func := "quaere/quaerelaw5.MatchLess", spec := "matchLess", named := ["quaere/sign.equals"], apart := false, laid := [("quaere/sign.equals", laid_quaere_sign_equals)], narrowed := true }
def MatchLessUptoSaid : Prop := matchLessUptoRow.holds Tryd.pinned (OpenSpec.upto matchLessSpec)

/-- 'quaerelaw5.MatchMade', WHERE WHAT IT READS IS OF BULK AT MOST 1048576: true; the input reads as it did. -/
def matchMadeUptoRow : OpenClaim := { program := "ytohclkafdphleaadoor", sum := "b310e820f4641275dc2e4c4446c9d1a92bc6f8ad889048097e43f5cfc6e2ba8c", func := "quaere/quaerelaw5.MatchMade", spec := "matchMade", named := ["quaere/sign.equals"], apart := false, laid := [("quaere/sign.equals", laid_quaere_sign_equals)], narrowed := true }
def MatchMadeUptoSaid : Prop := matchMadeUptoRow.holds Tryd.pinned (OpenSpec.upto matchMadeSpec)

/-- 'quaerelaw5.MatchRow', WHERE WHAT IT READS IS OF BULK AT MOST 1048576: true; the input reads as it did. -/
def matchRowUptoRow : OpenClaim := { program := "ytohclkafdphleaadoor", sum := "b310e820f4641275dc2e4c4446c9d1a92bc6f8ad889048097e43f5cfc6e2ba8c", func := "quaere/quaerelaw5.MatchRow", spec := "matchRow", named := ["quaere/sign.equals"], apart := false, laid := [("quaere/sign.equals", laid_quaere_sign_equals)], narrowed := true }
def MatchRowUptoSaid : Prop := matchRowUptoRow.holds Tryd.pinned (OpenSpec.upto matchRowSpec)

/-- 'quaerelaw5.MatchUnify', WHERE WHAT IT READS IS OF BULK AT MOST 1048576: true; the input reads as it did. -/
def matchUnifyUptoRow : OpenClaim := { program := "ytohclkafdphleaadoor", sum := "b310e820f4641275dc2e4c4446c9d1a92bc6f8ad889048097e43f5cfc6e2ba8c", func := "quaere/quaerelaw5.MatchUnify", spec := "matchUnify", recurses := true, named := ["quaere/sign.equals"], apart := false, laid := [("quaere/sign.equals", laid_quaere_sign_equals)], narrowed := true }
def MatchUnifyUptoSaid : Prop := matchUnifyUptoRow.holds Tryd.pinned (OpenSpec.upto matchUnifySpec)

end Rows
end Go.Proofs.YtohclkafdphleaaDoor
