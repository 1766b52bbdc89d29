/- OrderRow, plainly. -/
import Derived.Test.YtmikhfinakjbjaaDoorWantOrderRow
import Derived.Test.YtmikhfinakjbjaaDoorKbos
import Derived.Test.YtmikhfinakjbjaaDoorAwake6
import Derived.Test.YtmikhfinakjbjaaDoorPOx0
import Derived.Test.YtmikhfinakjbjaaDoorPOx4
import Derived.Test.YtmikhfinakjbjaaDoorPOx13
import Derived.Test.YtmikhfinakjbjaaDoorPOx17
namespace Go.Proofs.YtmikhfinakjbjaaDoor.PO
open Go Go.RowKit Go.Proofs.YtmikhfinakjbjaaDoorW.PrintWords Go.Proofs.YtmikhfinakjbjaaDoorW.PrintLast Go.Proofs.YtmikhfinakjbjaaDoor
set_option linter.unusedVariables false
theorem both_trans {l : List S45} {a b c : List Int} (h : Both l a b) (k : Both l b c) : Both l a c := by
  rcases h with ⟨h1, h2⟩ | ⟨h1, h2⟩
  · rcases k with ⟨k1, k2⟩ | ⟨k1, k2⟩
    · exact .inl ⟨h1, k2⟩
    · exfalso
      obtain ⟨p, r, rfl, p0, p1, p2, _⟩ := k1
      obtain ⟨m, hm⟩ := isN_mem h2.2.2 p (List.mem_cons_self ..)
      exact (arS_pos p0 hm).2.1 p2
  · rcases k with ⟨k1, k2⟩ | ⟨k1, k2⟩
    · exfalso
      obtain ⟨p, r, rfl, p0, p1, p2, _⟩ := h2
      obtain ⟨m, hm⟩ := isN_mem k1.2.2 p (List.mem_cons_self ..)
      exact (arS_pos p0 hm).2.1 p2
    · exact .inr ⟨h1, k2⟩
theorem quaerelaw6_OrderRow.pure : quaerelaw6_OrderRow.Pure := by
  classical
  intro l a b c _ _ _ _
  refine Ev.get (r := true) ?_
  unfold quaerelaw6_OrderRow.f
  simp only [quaerelaw0_Num.f, Option.bind_some]
  have jt : Ev (fun k => quaerelaw6_OrderRow.j0 k l a c true) true := Ev.step (f := fun _ => some true) (fun k => by simp only [quaerelaw6_OrderRow.j0]; rw [if_pos trivial]) (Ev.now _)
  refine Ev.bind awake_ev (Ev.if_pos rfl (Ev.bind (compare_ev l a b) (Ev.bind (compare_ev l b c) ?_)))
  unfold CompareV
  by_cases h : Both l a b
  · rw [if_pos h]
    refine Ev.if_pos rfl ?_
    by_cases h2 : Both l b c
    · rw [if_pos h2]
      refine Ev.if_pos rfl ?_
      simp only
      by_cases e1 : whichV l a b = 2
      · refine Ev.if_pos e1 ?_
        by_cases e2 : whichV l b c = 2
        · rw [e2]
          refine Ev.step (f := fun k => (order_Compare.f k l a c).bind fun t => if t.2 = 0 then some (t.1 == 2) else some false) (fun k => ?_) (Ev.bind (compare_ev l a c) ?_)
          · simp only [quaerelaw6_OrderRow.j0, quaerelaw0_Num.f, Option.bind_some]
            rw [if_neg (by decide)]
          · unfold CompareV
            rw [if_pos (both_trans h h2)]
            refine Ev.if_pos rfl (Ev.some_ ?_)
            have m1 : More l a b := by
              rcases whichV_cases l a b with ⟨k, _⟩ | ⟨_, _, k⟩ | ⟨k, _⟩ | ⟨k, _⟩
              · omega
              · exact k
              · omega
              · omega
            have m2 : More l b c := by
              rcases whichV_cases l b c with ⟨k, _⟩ | ⟨_, _, k⟩ | ⟨k, _⟩ | ⟨k, _⟩
              · omega
              · exact k
              · omega
              · omega
            rw [whichV_of_more (m1.trans m2)]
            rfl
        · have : (whichV l b c != 2) = true := by simpa using e2
          rw [this]
          exact jt
      · exact Ev.if_neg e1 jt
    · rw [if_neg h2]
      exact Ev.if_neg (by decide) jt
  · rw [if_neg h]
    exact Ev.if_neg (by decide) jt
end Go.Proofs.YtmikhfinakjbjaaDoor.PO
