/- Lits, plainly. -/
import Derived.Test.YtfnemhkiopgeaaaDoorWantLits
import Derived.Test.YtfnemhkiopgeaaaDoorAwake7
import Derived.Test.YtfnemhkiopgeaaaDoorPKx0
import Derived.Test.YtfnemhkiopgeaaaDoorPKx4
import Derived.Test.YtfnemhkiopgeaaaDoorPKx16
namespace Go.Proofs.YtfnemhkiopgeaaaDoor.PK
open Go Go.RowKit Go.Proofs.YtfnemhkiopgeaaaDoorW.PrintWords Go.Proofs.YtfnemhkiopgeaaaDoorW.PrintLast Go.Proofs.YtfnemhkiopgeaaaDoor
set_option linter.unusedVariables false
theorem quaerelaw7_Lits.pure : quaerelaw7_Lits.Pure := by
  classical
  intro l p q _ wp wq
  refine Ev.get (r := true) ?_
  unfold quaerelaw7_Lits.f
  obtain ⟨a, x⟩ := p
  obtain ⟨b, y⟩ := q
  have hx : x.length * 8 ≤ 140737488351232 := wp.2.1
  have hy : y.length * 8 ≤ 140737488351232 := wq.2.1
  simp only [quaerelaw0_Num.f, Option.bind_some]
  have hl : ([⟨a, x⟩, ⟨b, y⟩] : List S25).length ≤ 1000 := by simp
  have hc : ∀ z ∈ ([⟨a, x⟩, ⟨b, y⟩] : List S25), z.f1.length * 8 ≤ 140737488351232 := by
    intro z hz
    simp only [List.mem_cons, List.not_mem_nil, or_false] at hz
    rcases hz with rfl | rfl
    · exact hx
    · exact hy
  refine Ev.bind (copyLits_ev _ hl (fun z hm => by have := hc z hm; omega)) (Ev.bind (litWeight_ev l a x) (Ev.bind (refLitWeight_ev l a x) (Ev.bind (litCompare_ev l a x b y) (Ev.bind (refLitCompare_ev l a x b y) (Ev.bind (litMay_ev l a x) (Ev.bind (refLitMay_ev l a x) ?_))))))
  refine Ev.if_pos (by simp) (Ev.if_pos rfl (Ev.if_pos rfl (Ev.if_pos rfl (Ev.if_pos rfl (Ev.bind (sameLits_ev _ hl (fun z hm => by have := hc z hm; omega)) (Ev.if_pos rfl (Ev.bind awake7_ev (Ev.now _))))))))
end Go.Proofs.YtfnemhkiopgeaaaDoor.PK
