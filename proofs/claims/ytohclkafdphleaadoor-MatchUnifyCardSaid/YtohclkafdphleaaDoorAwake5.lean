/- The match laws' own first look (awake) answers true. -/
import Derived.Test.YtohclkafdphleaaDoorMatchs
import Derived.Test.YtohclkafdphleaaDoorPUx0
import Derived.Test.YtohclkafdphleaaDoorPUx3
import Derived.Test.YtohclkafdphleaaDoorPUx4
import Derived.Test.YtohclkafdphleaaDoorPUx5
import Derived.Test.YtohclkafdphleaaDoorPUx6
namespace Go.Proofs.YtohclkafdphleaaDoor.PU
open Go Go.RowKit Go.Proofs.YtohclkafdphleaaDoorW.PrintWords Go.Proofs.YtohclkafdphleaaDoorW.PrintLast Go.Proofs.YtohclkafdphleaaDoor
set_option linter.unusedVariables false
set_option linter.unusedSimpArgs false
def words5 : List S73 := (quaerelaw5_words.f).getD []
theorem words5_eq : quaerelaw5_words.f = some words5 := by kernel_rfl
open Classical in
theorem isRow_at {l : List S73} {r : List Int} {b : Bool} (k : Nat) (h : term_IsRow.f k l r = some b) : decide (IsRow l r) = b :=
  Ev.uniq (isRow_ev l r) (Ev.at_ (fun k => term_IsRow.mono _ _ k) k h)
open Classical in
theorem matchV_ok {l : List S73} {a b : List Int} (ha : IsRow l a) (hb : IsRow l b) : matchV l a b = match growV l b a 0 (List.replicate 24 []) with | some σ => (listTo σ 24, true, 0) | none => ([], false, 0) := by
  unfold matchV
  rw [if_pos ⟨ha, hb⟩]
  cases growV l b a 0 (List.replicate 24 []) <;> rfl
theorem matchV_bad {l : List S73} {a b : List Int} (h : ¬ (IsRow l a ∧ IsRow l b)) : matchV l a b = ([], false, 500) := by
  unfold matchV
  rw [if_neg h]
open Classical in
theorem row5 (r : List Int) (h : term_IsRow.f 60 words5 r = some true) : IsRow words5 r := of_decide_eq_true (isRow_at 60 h)
open Classical in
theorem row5_no (r : List Int) (h : term_IsRow.f 60 words5 r = some false) : ¬ IsRow words5 r := of_decide_eq_false (isRow_at 60 h)
theorem awake5_1 : matchV words5 [4, -1, -2] [4, 1, -2] = ([⟨0, [1]⟩], true, 0) := by
  rw [matchV_ok (row5 _ (by kernel_rfl)) (row5 _ (by kernel_rfl))]
  have h : (growV words5 [4, 1, -2] [4, -1, -2] 0 (List.replicate 24 [])).map (fun σ => listTo σ 24) = some [⟨0, [1]⟩] := by kernel_rfl
  obtain ⟨σ, e, h2⟩ := Option.map_eq_some_iff.1 h
  rw [e]
  simp only [h2]
theorem awake5_2 : matchV words5 [4, -1, -1] [4, 1, 2] = ([], false, 0) := by
  rw [matchV_ok (row5 _ (by kernel_rfl)) (row5 _ (by kernel_rfl))]
  have h : growV words5 [4, 1, 2] [4, -1, -1] 0 (List.replicate 24 []) = none := by kernel_rfl
  rw [h]
theorem awake5_3 : matchV words5 [1] [-1] = ([], false, 0) := by
  rw [matchV_ok (row5 _ (by kernel_rfl)) (row5 _ (by kernel_rfl))]
  have h : growV words5 [-1] [1] 0 (List.replicate 24 []) = none := by kernel_rfl
  rw [h]
theorem awake5_4 : matchV words5 [5] [1] = ([], false, 500) := matchV_bad (fun h => row5_no _ (by kernel_rfl) h.1)
theorem awake5_binds : quaerelaw0_SameBinds.f 60 ([⟨0, [1]⟩] : List S41) ([⟨0, [1]⟩] : List S41) = some true := by kernel_rfl
theorem awake5_ev : Ev (fun k => quaerelaw5_awake.f k) true := by
  refine Ev.at_ (fun k => quaerelaw5_awake.mono k) 60 ?_
  unfold quaerelaw5_awake.f
  simp only [words5_eq, Option.bind_some, match_Match.f, awake5_1, awake5_2, awake5_3, awake5_4, quaerelaw0_Num.f, awake5_binds]
  simp
end Go.Proofs.YtohclkafdphleaaDoor.PU
