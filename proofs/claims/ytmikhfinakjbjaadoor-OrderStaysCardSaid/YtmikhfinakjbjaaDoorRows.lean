/-
  NARROWER THAN 'FOR EVERY INPUT', by the rows' own cells (each row's printed sentence says how): Orders: laid · OrderTurns: laid · OrderRow: laid · OrderGround: laid · OrderWithin: laid · OrderStays: laid.
  DERIVED. THE GIVEN ROWS OF THIS SEAT. 6 by the template 'for every input the law returns true; each argument reads behind the call as it read before'; 0 by the template 'total and deterministic' (their statements: YtmikhfinakjbjaaDoorTotals.lean).
  GIVEN WITH THE SEED: the statements are not yours to turn. If you find one false, say at which input.
  Laid BY PROGRAM, IN A SANDBOX (cutbox-rows.mjs): the forced cells as the released guide's own fill.sh prints them over the translation 76ac2519da68d318… (all of the seat's roots in one cut). By AI agents, Wed Nov 11 2026. No macro, syntax, notation, axiom, sorry.
-/
import Derived.Test.YtmikhfinakjbjaaDoorChecked
import GoSem.Claim
import GoSem.ClaimJoined
import GoSem.ClaimMapViews
import Derived.JoinedTies
import Derived.KernelRfl
namespace Go.Proofs.YtmikhfinakjbjaaDoor
/- THE CELL 'sum', in the pinned program and in every row, IS THE sha256 OF THE DUMP (.gsa) THAT YtmikhfinakjbjaaDoorProg.lean LOADS. Nothing in Lean hashes anything: it is a label: what it is worth is what the hold of that sum in a sandbox is worth. -/
noncomputable def Tryd.pinned : Pinned := { name := "ytmikhfinakjbjaadoor", sum := "76ac2519da68d3180efa50064f508837a174481c18139365272236db68cf053f", checked := Tryd.checked }
namespace Rows
def none {H : Type} : Left H := { results := [], args := [] }

/- WHAT THE LISTED PACKAGE-LEVEL VARIABLES READ AS WHEN THE CALL BEGINS. Each datum BY PROGRAM (the guide's laid-datum.mjs) off the statement by which the dump's own 'gosem.cut.vars' lays the variable. In a bare row this is a premise. The card (YtmikhfinakjbjaaDoorCards.lean) ties it to the program's text. -/
def laid_quaere_sign_equals {H : Type} : DataW H := .agg [.lit (.string [61]), .lit (.int .i64 0), .lit (.int .i64 2), .lit (.int .i64 1)]

/-- 'quaerelaw6.Orders': WHATEVER THE INPUT: true; the input reads as it did. -/
def ordersSpec : ChangeSpec := { name := "orders", fn := fun _ => fun
  | [d1, d2, d3] => { results := [.lit (.bool true)], args := [d1, d2, d3] }
  | _ => none }
def ordersRow : OpenClaim := { program := "ytmikhfinakjbjaadoor", sum := "76ac2519da68d3180efa50064f508837a174481c18139365272236db68cf053f", func := "quaere/quaerelaw6.Orders", spec := "orders", recurses := true, named := ["quaere/sign.equals"], apart := false, laid := [("quaere/sign.equals", laid_quaere_sign_equals)] }
def OrdersSaid : Prop := ordersRow.holds Tryd.pinned (OpenSpec.ofChange ordersSpec)

/-- ITS FALSE NEIGHBOUR: 'it returns false'. Refute it at one input. -/
def ordersWrong : ChangeSpec := { name := "orders", fn := fun _ => fun
  | [d1, d2, d3] => { results := [.lit (.bool false)], args := [d1, d2, d3] }
  | _ => none }
def OrdersWrongFalsely : Prop := ordersRow.holds Tryd.pinned (OpenSpec.ofChange ordersWrong)

/-- 'quaerelaw6.OrderTurns': WHATEVER THE INPUT: true; the input reads as it did. -/
def orderTurnsSpec : ChangeSpec := { name := "orderTurns", fn := fun _ => fun
  | [d1, d2, d3] => { results := [.lit (.bool true)], args := [d1, d2, d3] }
  | _ => none }
def orderTurnsRow : OpenClaim := { program := "ytmikhfinakjbjaadoor", sum := "76ac2519da68d3180efa50064f508837a174481c18139365272236db68cf053f", func := "quaere/quaerelaw6.OrderTurns", spec := "orderTurns", named := ["quaere/sign.equals"], apart := false, laid := [("quaere/sign.equals", laid_quaere_sign_equals)] }
def OrderTurnsSaid : Prop := orderTurnsRow.holds Tryd.pinned (OpenSpec.ofChange orderTurnsSpec)

/-- ITS FALSE NEIGHBOUR: 'it returns false'. Refute it at one input. -/
def orderTurnsWrong : ChangeSpec := { name := "orderTurns", fn := fun _ => fun
  | [d1, d2, d3] => { results := [.lit (.bool false)], args := [d1, d2, d3] }
  | _ => none }
def OrderTurnsWrongFalsely : Prop := orderTurnsRow.holds Tryd.pinned (OpenSpec.ofChange orderTurnsWrong)

/-- 'quaerelaw6.OrderRow': WHATEVER THE INPUT: true; the input reads as it did. -/
def orderRowSpec : ChangeSpec := { name := "orderRow", fn := fun _ => fun
  | [d1, d2, d3, d4] => { results := [.lit (.bool true)], args := [d1, d2, d3, d4] }
  | _ => none }
def orderRowRow : OpenClaim := { program := "ytmikhfinakjbjaadoor", sum := "76ac2519da68d3180efa50064f508837a174481c18139365272236db68cf053f", func := "quaere/quaerelaw6.OrderRow", spec := "orderRow", named := ["quaere/sign.equals"], apart := false, laid := [("quaere/sign.equals", laid_quaere_sign_equals)] }
def OrderRowSaid : Prop := orderRowRow.holds Tryd.pinned (OpenSpec.ofChange orderRowSpec)

/-- ITS FALSE NEIGHBOUR: 'it returns false'. Refute it at one input. -/
def orderRowWrong : ChangeSpec := { name := "orderRow", fn := fun _ => fun
  | [d1, d2, d3, d4] => { results := [.lit (.bool false)], args := [d1, d2, d3, d4] }
  | _ => none }
def OrderRowWrongFalsely : Prop := orderRowRow.holds Tryd.pinned (OpenSpec.ofChange orderRowWrong)

/-- 'quaerelaw6.OrderGround': WHATEVER THE INPUT: true; the input reads as it did. -/
def orderGroundSpec : ChangeSpec := { name := "orderGround", fn := fun _ => fun
  | [d1, d2, d3] => { results := [.lit (.bool true)], args := [d1, d2, d3] }
  | _ => none }
def orderGroundRow : OpenClaim := { program := "ytmikhfinakjbjaadoor", sum := "76ac2519da68d3180efa50064f508837a174481c18139365272236db68cf053f", func := "quaere/quaerelaw6.OrderGround", spec := "orderGround", named := ["quaere/sign.equals"], apart := false, laid := [("quaere/sign.equals", laid_quaere_sign_equals)] }
def OrderGroundSaid : Prop := orderGroundRow.holds Tryd.pinned (OpenSpec.ofChange orderGroundSpec)

/-- ITS FALSE NEIGHBOUR: 'it returns false'. Refute it at one input. -/
def orderGroundWrong : ChangeSpec := { name := "orderGround", fn := fun _ => fun
  | [d1, d2, d3] => { results := [.lit (.bool false)], args := [d1, d2, d3] }
  | _ => none }
def OrderGroundWrongFalsely : Prop := orderGroundRow.holds Tryd.pinned (OpenSpec.ofChange orderGroundWrong)

/-- 'quaerelaw6.OrderWithin': WHATEVER THE INPUT: true; the input reads as it did. -/
def orderWithinSpec : ChangeSpec := { name := "orderWithin", fn := fun _ => fun
  | [d1, d2, d3] => { results := [.lit (.bool true)], args := [d1, d2, d3] }
  | _ => none }
def orderWithinRow : OpenClaim := { program := "ytmikhfinakjbjaadoor", sum := "76ac2519da68d3180efa50064f508837a174481c18139365272236db68cf053f", func := "quaere/quaerelaw6.OrderWithin", spec := "orderWithin", named := ["quaere/sign.equals"], apart := false, laid := [("quaere/sign.equals", laid_quaere_sign_equals)] }
def OrderWithinSaid : Prop := orderWithinRow.holds Tryd.pinned (OpenSpec.ofChange orderWithinSpec)

/-- ITS FALSE NEIGHBOUR: 'it returns false'. Refute it at one input. -/
def orderWithinWrong : ChangeSpec := { name := "orderWithin", fn := fun _ => fun
  | [d1, d2, d3] => { results := [.lit (.bool false)], args := [d1, d2, d3] }
  | _ => none }
def OrderWithinWrongFalsely : Prop := orderWithinRow.holds Tryd.pinned (OpenSpec.ofChange orderWithinWrong)

/-- 'quaerelaw6.OrderStays': WHATEVER THE INPUT: true; the input reads as it did. -/
def orderStaysSpec : ChangeSpec := { name := "orderStays", fn := fun _ => fun
  | [d1, d2, d3, d4] => { results := [.lit (.bool true)], args := [d1, d2, d3, d4] }
  | _ => none }
def orderStaysRow : OpenClaim := { program := "ytmikhfinakjbjaadoor", sum := "76ac2519da68d3180efa50064f508837a174481c18139365272236db68cf053f", func := "quaere/quaerelaw6.OrderStays", spec := "orderStays", named := ["quaere/sign.equals"], apart := false, laid := [("quaere/sign.equals", laid_quaere_sign_equals)] }
def OrderStaysSaid : Prop := orderStaysRow.holds Tryd.pinned (OpenSpec.ofChange orderStaysSpec)

/-- ITS FALSE NEIGHBOUR: 'it returns false'. Refute it at one input. -/
def orderStaysWrong : ChangeSpec := { name := "orderStays", fn := fun _ => fun
  | [d1, d2, d3, d4] => { results := [.lit (.bool false)], args := [d1, d2, d3, d4] }
  | _ => none }
def OrderStaysWrongFalsely : Prop := orderStaysRow.holds Tryd.pinned (OpenSpec.ofChange orderStaysWrong)

/- THE SECOND FORM. 'bulk': how many values and letters a reading holds, each counted each time it is reached (what is shared counts as often as it is met; a slice's spare places count too). A statement '..UptoSaid' is the law's where the arguments, and the package variables that the reading takes, are together of bulk at most 1048576: NARROWER than '..Said'. Prove '..Said' where nothing that the law and all that it calls make is longer than what came in: it says more and counts as full. Else prove '..UptoSaid'. A law counts once. -/
mutual
def uptoBulk {H : Type} : DataW H → Nat
  | .lit (.string bytes) => bytes.length + 1
  | .lit _ => 1
  | .nil => 1
  | .ptr d => uptoBulk d + 1
  | .slice elems spare => uptoBulkAll elems + uptoBulkAll spare + 1
  | .agg parts => uptoBulkAll parts + 1
  | .iface _ d => uptoBulk d + 1
  | .map entries => uptoBulkEntries entries + 1
  | .held _ => 1
def uptoBulkAll {H : Type} : List (DataW H) → Nat
  | [] => 0
  | d :: r => uptoBulk d + uptoBulkAll r
def uptoBulkEntries {H : Type} : List (Lit × DataW H) → Nat
  | [] => 0
  | x :: r => uptoBulkEntry x + uptoBulkEntries r
def uptoBulkEntry {H : Type} : Lit × DataW H → Nat
  | (.string bytes, d) => bytes.length + uptoBulk d + 1
  | (_, d) => uptoBulk d + 1
 end
def uptoSmall : (H : Type) → List (DataW H) → Bool := fun _ ds => decide (uptoBulkAll ds ≤ 1048576)
def OpenSpec.upto (s : _root_.Go.ChangeSpec) : _root_.Go.OpenSpec := { _root_.Go.OpenSpec.ofChange s with cond := some uptoSmall }

/-- 'quaerelaw6.Orders', WHERE WHAT IT READS IS OF BULK AT MOST 1048576: true; the input reads as it did. -/
def ordersUptoRow : OpenClaim := { program := "ytmikhfinakjbjaadoor", sum := "76ac2519da68d3180efa50064f508837a174481c18139365272236db68cf053f", func := "quaere/quaerelaw6.Orders", spec := "orders", recurses := true, named := ["quaere/sign.equals"], apart := false, laid := [("quaere/sign.equals", laid_quaere_sign_equals)], narrowed := true }
def OrdersUptoSaid : Prop := ordersUptoRow.holds Tryd.pinned (OpenSpec.upto ordersSpec)

/-- 'quaerelaw6.OrderTurns', WHERE WHAT IT READS IS OF BULK AT MOST 1048576: true; the input reads as it did. -/
def orderTurnsUptoRow : OpenClaim := { program := "ytmikhfinakjbjaadoor", sum := "76ac2519da68d3180efa50064f508837a174481c18139365272236db68cf053f", func := "quaere/quaerelaw6.OrderTurns", spec := "orderTurns", named := ["quaere/sign.equals"], apart := false, laid := [("quaere/sign.equals", laid_quaere_sign_equals)], narrowed := true }
def OrderTurnsUptoSaid : Prop := orderTurnsUptoRow.holds Tryd.pinned (OpenSpec.upto orderTurnsSpec)

/-- 'quaerelaw6.OrderRow', WHERE WHAT IT READS IS OF BULK AT MOST 1048576: true; the input reads as it did. -/
def orderRowUptoRow : OpenClaim := { program := "ytmikhfinakjbjaadoor", sum := "76ac2519da68d3180efa50064f508837a174481c18139365272236db68cf053f", func := "quaere/quaerelaw6.OrderRow", spec := "orderRow", named := ["quaere/sign.equals"], apart := false, laid := [("quaere/sign.equals", laid_quaere_sign_equals)], narrowed := true }
def OrderRowUptoSaid : Prop := orderRowUptoRow.holds Tryd.pinned (OpenSpec.upto orderRowSpec)

/-- 'quaerelaw6.OrderGround', WHERE WHAT IT READS IS OF BULK AT MOST 1048576: true; the input reads as it did. -/
def orderGroundUptoRow : OpenClaim := { program := "ytmikhfinakjbjaadoor", sum := "76ac2519da68d3180efa50064f508837a174481c18139365272236db68cf053f", func := "quaere/quaerelaw6.OrderGround", spec := "orderGround", named := ["quaere/sign.equals"], apart := false, laid := [("quaere/sign.equals", laid_quaere_sign_equals)], narrowed := true }
def OrderGroundUptoSaid : Prop := orderGroundUptoRow.holds Tryd.pinned (OpenSpec.upto orderGroundSpec)

/-- 'quaerelaw6.OrderWithin', WHERE WHAT IT READS IS OF BULK AT MOST 1048576: true; the input reads as it did. -/
def orderWithinUptoRow : OpenClaim := { program := "ytmikhfinakjbjaadoor", sum := "76ac2519da68d3180efa50064f508837a174481c18139365272236db68cf053f", func := "quaere/quaerelaw6.OrderWithin", spec := "orderWithin", named := ["quaere/sign.equals"], apart := false, laid := [("quaere/sign.equals", laid_quaere_sign_equals)], narrowed := true }
def OrderWithinUptoSaid : Prop := orderWithinUptoRow.holds Tryd.pinned (OpenSpec.upto orderWithinSpec)

/-- 'quaerelaw6.OrderStays', WHERE WHAT IT READS IS OF BULK AT MOST 1048576: true; the input reads as it did. -/
def orderStaysUptoRow : OpenClaim := { program := "ytmikhfinakjbjaadoor", sum := "76ac2519da68d3180efa50064f508837a174481c18139365272236db68cf053f", func := "quaere/quaerelaw6.OrderStays", spec := "orderStays", named := ["quaere/sign.equals"], apart := false, laid := [("quaere/sign.equals", laid_quaere_sign_equals)], narrowed := true }
def OrderStaysUptoSaid : Prop := orderStaysUptoRow.holds Tryd.pinned (OpenSpec.upto orderStaysSpec)

end Rows
end Go.Proofs.YtmikhfinakjbjaaDoor
