/- OrderTurns, plainly. -/
import Derived.Test.YtmikhfinakjbjaaDoorWantOrderTurns
import Derived.Test.YtmikhfinakjbjaaDoorKbos
import Derived.Test.YtmikhfinakjbjaaDoorAwake6
import Derived.Test.YtmikhfinakjbjaaDoorPOx0
import Derived.Test.YtmikhfinakjbjaaDoorPOx4
import Derived.Test.YtmikhfinakjbjaaDoorPOx16
namespace Go.Proofs.YtmikhfinakjbjaaDoor.PO
open Go Go.RowKit Go.Proofs.YtmikhfinakjbjaaDoorW.PrintWords Go.Proofs.YtmikhfinakjbjaaDoorW.PrintLast Go.Proofs.YtmikhfinakjbjaaDoor
set_option linter.unusedVariables false
theorem quaerelaw6_OrderTurns.pure : quaerelaw6_OrderTurns.Pure := by
  classical
  intro l a b _ wa _
  refine Ev.get (r := true) ?_
  unfold quaerelaw6_OrderTurns.f
  simp only [quaerelaw0_Num.f, Option.bind_some]
  refine Ev.bind awake_ev (Ev.if_pos rfl (Ev.bind (compare_ev l a b) (Ev.bind (compare_ev l b a) ?_)))
  unfold CompareV
  by_cases h : Both l a b
  · rw [if_pos h, if_pos h.swap]
    have hn : a.length ≤ 9223372036854775807 := by have := wa.1; omega
    refine Ev.if_pos rfl (Ev.if_pos rfl ?_)
    simp only
    rcases whichV_cases l a b with ⟨e, h1⟩ | ⟨e, h1, h2⟩ | ⟨e, h1, h2, h3⟩ | ⟨e, h1, h2, h3⟩
    · subst h1
      rw [e]
      refine Ev.if_neg (by decide) (Ev.if_neg (by decide) (Ev.if_pos rfl (Ev.if_pos rfl (Ev.bind (sameInts_ev a a hn) (Ev.some_ (by simp))))))
    · rw [e, whichV_of_less h2]
      exact Ev.if_neg (by decide) (Ev.if_pos rfl (Ev.some_ rfl))
    · rw [e, whichV_of_more h3]
      exact Ev.if_pos rfl (Ev.some_ rfl)
    · rw [e]
      have e2 : whichV l b a = 3 := by
        rcases whichV_cases l b a with ⟨_, k⟩ | ⟨_, _, k⟩ | ⟨_, _, _, k⟩ | ⟨k, _⟩
        · exact absurd k.symm h1
        · exact absurd k h3
        · exact absurd k h2
        · exact k
      rw [e2]
      exact Ev.if_neg (by decide) (Ev.if_neg (by decide) (Ev.if_neg (by decide) (Ev.if_pos rfl (Ev.if_pos rfl (Ev.bind (sameInts_ev a b hn) (Ev.some_ (by simp [h1])))))))
  · have h' : ¬ Both l b a := fun k => h k.swap
    rw [if_neg h, if_neg h']
    exact Ev.if_pos rfl (Ev.if_neg (by decide) (Ev.if_pos rfl (Ev.some_ rfl)))
end Go.Proofs.YtmikhfinakjbjaaDoor.PO
