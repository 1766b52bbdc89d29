/- OrderStays, plainly. -/
import Derived.Test.YtmikhfinakjbjaaDoorWantOrderStays
import Derived.Test.YtmikhfinakjbjaaDoorApply
import Derived.Test.YtmikhfinakjbjaaDoorSubsts
import Derived.Test.YtmikhfinakjbjaaDoorKbos
import Derived.Test.YtmikhfinakjbjaaDoorAwake6
import Derived.Test.YtmikhfinakjbjaaDoorPOx0
import Derived.Test.YtmikhfinakjbjaaDoorPOx4
import Derived.Test.YtmikhfinakjbjaaDoorPOx13
import Derived.Test.YtmikhfinakjbjaaDoorPOx23
namespace Go.Proofs.YtmikhfinakjbjaaDoor.PO
open Go Go.RowKit Go.Proofs.YtmikhfinakjbjaaDoorW.PrintWords Go.Proofs.YtmikhfinakjbjaaDoorW.PrintLast Go.Proofs.YtmikhfinakjbjaaDoor
set_option linter.unusedVariables false
theorem quaerelaw6_OrderStays.pure : quaerelaw6_OrderStays.Pure := by
  classical
  intro l u a b _ _ _ _
  refine Ev.get (r := true) ?_
  unfold quaerelaw6_OrderStays.f
  simp only [quaerelaw0_Num.f, Option.bind_some]
  have jt : ∀ x y z, Ev (fun k => quaerelaw6_OrderStays.j0 k l x y z true) true := fun x y z => Ev.step (f := fun _ => some true) (fun k => by simp only [quaerelaw6_OrderStays.j0]; rw [if_pos trivial]) (Ev.now _)
  refine Ev.bind awake_ev (Ev.if_pos rfl (Ev.bind (compare_ev l a b) (Ev.bind (apply_ev l u a) (Ev.bind (apply_ev l u b) ?_))))
  by_cases h : Both l a b
  · have hc : CompareV l a b = (whichV l a b, 0) := if_pos h
    rw [hc]
    refine Ev.if_pos rfl ?_
    by_cases h1 : (ApplyV l u a).2 = 0
    · refine Ev.if_pos h1 ?_
      by_cases h2 : (ApplyV l u b).2 = 0
      · refine Ev.if_pos h2 ?_
        obtain ⟨hb, hra, hla, ea⟩ := applyV_ok h1
        obtain ⟨_, hrb, hlb, eb⟩ := applyV_ok h2
        rw [ea, eb]
        simp only
        obtain ⟨ta, tb⟩ := h.texts
        have hab : Row l 1 a ∧ Row l 1 b := by
          rcases h with h | ⟨⟨p, r, rfl, p0, p1, p2, _⟩, _⟩
          · exact h
          · exfalso
            obtain ⟨n, hn⟩ := hra
            obtain ⟨m, hm⟩ := isN_mem hn.2.2 p (List.mem_cons_self ..)
            exact (arS_pos p0 hm).2.1 p2
        have hs := hb.1
        have hg := good_ofB hb
        have hx : Row l 1 (onV u a) := ⟨hs, hla, onV_isN hb hab.1.2.2⟩
        have hy : Row l 1 (onV u b) := ⟨hs, hlb, onV_isN hb hab.2.2.2⟩
        have fin : whichV l a b ≠ 3 → whichV l a b = whichV l (onV u a) (onV u b) → Ev (fun k => quaerelaw6_OrderStays.j0 k l (whichV l a b) (onV u a) (onV u b) (whichV l a b == 3)) true := by
          intro h3 he
          have e3 : (whichV l a b == 3) = false := by simpa using h3
          rw [e3]
          refine Ev.step (f := fun k => (order_Compare.f k l (onV u a) (onV u b)).bind fun t => if t.2 = 0 then some (whichV l a b == t.1) else some false) (fun k => ?_) (Ev.bind (compare_ev l _ _) ?_)
          · simp only [quaerelaw6_OrderStays.j0, quaerelaw0_Num.f, Option.bind_some]
            rw [if_neg (by decide)]
          · have hc2 : CompareV l (onV u a) (onV u b) = (whichV l (onV u a) (onV u b), 0) := if_pos (.inl ⟨hx, hy⟩)
            rw [hc2]
            refine Ev.if_pos rfl (Ev.some_ ?_)
            simp only [he, beq_self_eq_true]
        rcases whichV_cases l a b with ⟨e, h3⟩ | ⟨e, _, h3⟩ | ⟨e, _, _, h3⟩ | ⟨e, _⟩
        · refine fin (by omega) ?_
          rw [e, h3]
          simp [whichV]
        · refine fin (by omega) ?_
          rw [e]
          have := more_sub hs hg h3 ta tb
          rw [← onV_sub, ← onV_sub] at this
          rw [whichV_of_more this]
        · refine fin (by omega) ?_
          rw [e]
          have := more_sub hs hg h3 tb ta
          rw [← onV_sub, ← onV_sub] at this
          rw [whichV_of_less this]
        · rw [e]
          exact jt _ _ _
      · exact Ev.if_neg h2 (jt _ _ _)
    · exact Ev.if_neg h1 (jt _ _ _)
  · have hc : CompareV l a b = (0, 600) := if_neg h
    rw [hc]
    exact Ev.if_neg (by decide) (jt _ _ _)
end Go.Proofs.YtmikhfinakjbjaaDoor.PO
