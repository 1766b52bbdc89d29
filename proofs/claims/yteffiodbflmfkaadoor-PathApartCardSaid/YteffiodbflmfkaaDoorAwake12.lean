/- The path laws' own first look (awake) answers true. -/
import Derived.Test.YteffiodbflmfkaaDoorPathQ
import Derived.Test.YteffiodbflmfkaaDoorPPx0
import Derived.Test.YteffiodbflmfkaaDoorPPx3
import Derived.Test.YteffiodbflmfkaaDoorPPx6
import Derived.Test.YteffiodbflmfkaaDoorPPx7
import Derived.Test.YteffiodbflmfkaaDoorPPx20
namespace Go.Proofs.YteffiodbflmfkaaDoor.PP
open Go Go.RowKit Go.Proofs.YteffiodbflmfkaaDoorW.PrintWords Go.Proofs.YteffiodbflmfkaaDoorW.PrintLast Go.Proofs.YteffiodbflmfkaaDoor
set_option linter.unusedVariables false
set_option linter.unusedSimpArgs false
def words12 : List S59 := (quaerelaw12_words.f).getD []
theorem words12_eq : quaerelaw12_words.f = some words12 := by kernel_rfl
theorem row12 {t : List Int} (h : term_IsTerm.f 60 words12 t = some true) : Row words12 1 t := by
 classical
 exact of_decide_eq_true (Ev.uniq (isTerm_ev words12 t) (Ev.at_ (fun k => term_IsTerm.mono _ _ k) 60 h))
theorem r12_a : Row words12 1 [1] := row12 (by kernel_rfl)
theorem r12_fa : Row words12 1 [3, 1] := row12 (by kernel_rfl)
theorem r12_fx : Row words12 1 [3, -1] := row12 (by kernel_rfl)
theorem r12_x : Row words12 1 [-1] := row12 (by kernel_rfl)
theorem t12 {t : List Int} (h : Row words12 1 t) : TextT words12 t := ⟨h.1, .inl h⟩
def th12 (r : List Int) (c : Int) : List Int := if c = -1 then r else [c]
theorem th12_good {r : List Int} (h : Row words12 1 r) : Good words12 (th12 r) := by
 intro c h0 h1
 show isN (arS words12) 1 (if c = -1 then r else [c])
 split
 ·exact h.2.2
 ·exact isN_cons.2 ⟨0, arS_var0 h0 h1, isN_nil⟩
theorem ap12_no : apartV words12 [3, 1] [1] = false := apartV_no (fun θ _ h => by
 have e1 : subV θ [3, 1] = [3, 1] := rfl
 have e2 : subV θ (([1] : List Int).map (shC 24)) = [1] := rfl
 rw [e1, e2] at h
 cases h)
theorem ap12_fx : apartV words12 [3, 1] [3, -1] = true := apart_gen r12_fa.2.2 r12_fx.2.2 (th12_good r12_a) (by kernel_rfl)
theorem ap12_x : apartV words12 [3, 1] [-1] = true := apart_gen r12_fa.2.2 r12_x.2.2 (th12_good r12_fa) (by kernel_rfl)
theorem become12 {a b : List Int} {r : Bool} (ha : Row words12 1 a) (hb : Row words12 1 b) (h : (growV words12 b a 0 (List.replicate 24 [])).isSome = r) : becomesV words12 a b = r := by
 classical
 unfold becomesV
 rw [if_pos (by rw [decide_eq_true ha, decide_eq_true hb]), h]
def rows12 : List (List Int) := [[1], [], [3, -1], [-1]]
theorem rows12_ok : ¬ badT words12 rows12 := by
 rintro ⟨u, hu, h1, h2⟩
 unfold rows12 at hu
 simp only [List.mem_cons, List.not_mem_nil, or_false] at hu
 rcases hu with rfl | rfl | rfl | rfl
 ·exact h2 (t12 r12_a)
 ·exact h1 rfl
 ·exact h2 (t12 r12_fx)
 ·exact h2 (t12 r12_x)
theorem find12 {way : Int} (h0 : 0 ≤ way) (h1 : way ≤ 2) (a : hitV words12 [3, 1] way [1] = false) (b : hitV words12 [3, 1] way [3, -1] = true) (c : hitV words12 [3, 1] way [-1] = true) : findPV words12 rows12 [3, 1] way = ([2, 3], 0) := by
 have e : findPV words12 rows12 [3, 1] way = (idxV (hitV words12 [3, 1] way) 0 rows12, 0) := if_pos ⟨h0, h1, t12 r12_fa, rows12_ok⟩
 have n : hitV words12 [3, 1] way [] = false := if_pos rfl
 rw [e]
 unfold rows12
 rw [idxV_no (by rw [a]; decide), idxV_no (by rw [n]; decide), idxV_yes b, idxV_yes c]
 rfl
theorem find12_0 : findPV words12 rows12 [3, 1] 0 = ([2, 3], 0) := find12 (by decide) (by decide)
 ((if_neg (by simp)).trans ((if_pos rfl).trans ((unite_term r12_fa r12_a).trans ap12_no)))
 ((if_neg (by simp)).trans ((if_pos rfl).trans ((unite_term r12_fa r12_fx).trans ap12_fx)))
 ((if_neg (by simp)).trans ((if_pos rfl).trans ((unite_term r12_fa r12_x).trans ap12_x)))
theorem fits12_2 (u : List Int) : fitsV words12 u [3, 1] 2 = becomesV words12 u [3, 1] := by
 unfold fitsV
 rw [if_neg (by decide), if_neg (by decide)]
theorem find12_2 : findPV words12 rows12 [3, 1] 2 = ([2, 3], 0) := find12 (by decide) (by decide)
 ((if_neg (by simp)).trans ((fits12_2 _).trans (become12 r12_a r12_fa (by kernel_rfl))))
 ((if_neg (by simp)).trans ((fits12_2 _).trans (become12 r12_fx r12_fa (by kernel_rfl))))
 ((if_neg (by simp)).trans ((fits12_2 _).trans (become12 r12_x r12_fa (by kernel_rfl))))
theorem find12_3 : findPV words12 [] [1] 3 = ([], 1200) := if_neg (fun h => absurd h.2.1 (by decide))
theorem paths12 : path_Paths.f 60 words12 [4, 3, -1, 1] = some ([[4], [0, 3], [0, 0, -1], [1, 1]], 0) := by kernel_rfl
theorem same12r : quaerelaw0_SameRows.f 60 ([[4], [0, 3], [0, 0, -1], [1, 1]] : List (List Int)) ([[4], [0, 3], [0, 0, -1], [1, 1]] : List (List Int)) = some true := by kernel_rfl
theorem same12i : quaerelaw0_SameInts.f 60 ([2, 3] : List Int) ([2, 3] : List Int) = some true := by kernel_rfl
theorem awake12_ev : Ev (fun k => quaerelaw12_awake.f k) true := by
 unfold quaerelaw12_awake.f
 simp only [words12_eq, Option.bind_some, quaerelaw0_Num.f]
 have f0 := findP_ev words12 rows12 [3, 1] 0 (by decide)
 have f2 := findP_ev words12 rows12 [3, 1] 2 (by decide)
 have f3 := findP_ev words12 [] [1] 3 (by decide)
 rw [find12_0] at f0
 rw [find12_2] at f2
 rw [find12_3] at f3
 refine Ev.bind (Ev.at_ (fun k => path_Paths.mono _ _ k) 60 paths12) (Ev.bind f0 (Ev.bind f2 (Ev.bind f3 ?_)))
 refine Ev.if_pos rfl (Ev.bind (Ev.at_ (fun k => quaerelaw0_SameRows.mono _ _ k) 60 same12r) (Ev.if_pos rfl (Ev.if_pos rfl (Ev.bind (Ev.at_ (fun k => quaerelaw0_SameInts.mono _ _ k) 60 same12i) (Ev.if_pos rfl (Ev.if_pos rfl (Ev.bind (Ev.at_ (fun k => quaerelaw0_SameInts.mono _ _ k) 60 same12i) (Ev.if_pos rfl (Ev.some_ rfl)))))))))
end Go.Proofs.YteffiodbflmfkaaDoor.PP
