/- The comparisons of two rows of numbers: what the printed loops answer. -/
import Derived.Test.YtmikhfinakjbjaaDoorTerms
import Derived.Test.YtmikhfinakjbjaaDoorPOx0
import Derived.Test.YtmikhfinakjbjaaDoorPOx4
namespace Go.Proofs.YtmikhfinakjbjaaDoor.PO
open Go Go.RowKit Go.Proofs.YtmikhfinakjbjaaDoorW.PrintWords Go.Proofs.YtmikhfinakjbjaaDoorW.PrintLast Go.Proofs.YtmikhfinakjbjaaDoor
set_option linter.unusedVariables false

theorem sameInts_loop (a b : List Int) (hl : a.length = b.length) (hn : a.length ≤ 9223372036854775807) : ∀ (d i : Nat), a.length - i = d → i ≤ a.length → Ev (fun k => quaerelaw0_SameInts.l0 k a b (i : Int)) (decide (a.drop i = b.drop i)) := by
  intro d
  induction d with
  | zero =>
    intro i hd hi
    refine Ev.step (f := fun _ => some true) (fun k => ?_) (Ev.some_ ?_)
    · simp only [quaerelaw0_SameInts.l0]
      rw [if_neg (by omega)]
    · rw [List.drop_eq_nil_of_le (by omega), List.drop_eq_nil_of_le (by omega)]
      simp
  | succ d ih =>
    intro i hd hi
    have hlt : i < a.length := by omega
    by_cases e : rd a (i : Int) = rd b (i : Int)
    · refine Ev.step (f := fun k => quaerelaw0_SameInts.l0 k a b ((i + 1 : Nat) : Int)) (fun k => ?_) ((ih (i + 1) (by omega) (by omega)).as_ ?_)
      · simp only [quaerelaw0_SameInts.l0]
        rw [if_pos (by omega), if_pos (by omega), if_pos (by omega), if_pos e, wrap_nat i (by omega)]
      · rw [decide_eq_decide, drop_eq_iff hl hlt]
        simp [e]
    · refine Ev.step (f := fun k => some false) (fun k => ?_) (Ev.some_ ?_)
      · simp only [quaerelaw0_SameInts.l0]
        rw [if_pos (by omega), if_pos (by omega), if_pos (by omega), if_neg e]
      · symm
        rw [decide_eq_false_iff_not, drop_eq_iff hl hlt]
        exact fun h => e h.1
open Classical in
theorem sameInts_ev (a b : List Int) (hn : a.length ≤ 9223372036854775807) : Ev (fun k => quaerelaw0_SameInts.f k a b) (decide (a = b)) := by
  unfold quaerelaw0_SameInts.f
  by_cases hl : a.length = b.length
  · refine Ev.if_pos (by omega) ((sameInts_loop a b hl hn a.length 0 rfl (by omega)).as_ ?_)
    simp
  · refine Ev.if_neg (by omega) (Ev.some_ ?_)
    symm
    rw [decide_eq_false_iff_not]
    intro h
    exact hl (by rw [h])
end Go.Proofs.YtmikhfinakjbjaaDoor.PO
