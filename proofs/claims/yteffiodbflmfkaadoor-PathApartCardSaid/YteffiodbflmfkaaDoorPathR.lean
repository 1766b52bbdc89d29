/- The document's paths of a text, plainly. -/
import Derived.Test.YteffiodbflmfkaaDoorUniPl
import Derived.Test.YteffiodbflmfkaaDoorPPx0
namespace Go.Proofs.YteffiodbflmfkaaDoor.PP
open Go Go.RowKit Go.Proofs.YteffiodbflmfkaaDoorW.PrintWords Go.Proofs.YteffiodbflmfkaaDoorW.PrintLast Go.Proofs.YteffiodbflmfkaaDoor
set_option linter.unusedVariables false
set_option linter.unusedSimpArgs false
def pathRs (f : List Int → List Int → List (List Int)) (way : List Int) : Nat → List (List Int) → List (List Int)
 | _, [] => []
 | i, p :: ps => f (way ++ [(i : Int)]) p ++ pathRs f way (i + 1) ps
/-- The last number of a path. -/
def endC (c : Int) : Int := if c < -1 then -1 else c
def pathR (l : List S59) : Nat → List Int → List Int → List (List Int)
 | 0, way, t => [way ++ [endC (rd t 0)]]
 | k + 1, way, t => (way ++ [endC (rd t 0)]) :: pathRs (pathR l k) way 0 (pcsU l (t.drop 1))
/-- A first code, and a row. -/
structure TextB (l : List S59) (t : List Int) : Prop where
 ne : t ≠ []
 row : ∃ m, isN (arU l) m (t.drop 1)
 len : (t.drop 1).length ≤ 48
theorem pcsU_nil (l : List S59) : pcsU l [] = [] := rfl
theorem flat_le : ∀ (ps : List (List Int)), (∀ p ∈ ps, p ≠ []) → ps.length ≤ ps.flatten.length
 | [], _ => Nat.le_refl _
 | p :: ps, h => by
  have h1 := flat_le ps (fun q hq => h q (List.mem_cons_of_mem _ hq))
  have h2 := List.length_pos_iff.2 (h p (List.mem_cons_self ..))
  simp only [List.length_cons, List.flatten_cons, List.length_append]
  omega
theorem textB_part {l : List S59} {t p : List Int} (h : TextB l t) (hp : p ∈ pcsU l (t.drop 1)) : TextB l p ∧ p.length ≤ t.length - 1 := by
 obtain ⟨m, hm⟩ := h.row
 obtain ⟨h1, _, h3⟩ := pcsU_facts hm h.len
 have hb := h3 p hp
 obtain ⟨c, r, m', e, _, _, hr, _⟩ := hb.head
 have hl := mem_flatten_len hp
 rw [h1, List.length_drop] at hl
 refine ⟨⟨by rw [e]; simp, ⟨m', by rw [e]; exact hr⟩, ?_⟩, hl⟩
 have := hb.2
 rw [List.length_drop]
 omega
theorem pathR_len {l : List S59} : ∀ (k : Nat) (way t : List Int), t.length ≤ k + 1 → TextB l t → (pathR l k way t).length ≤ t.length := by
 intro k
 induction k with
 | zero =>
  intro way t _ ht
  have := List.length_pos_iff.2 ht.ne
  simp only [pathR, List.length_singleton]
  omega
 | succ k ih =>
  intro way t hk ht
  have h0 := List.length_pos_iff.2 ht.ne
  have key : ∀ (ps : List (List Int)) (i : Nat), (∀ p ∈ ps, p.length ≤ k + 1 ∧ TextB l p) → (pathRs (pathR l k) way i ps).length ≤ ps.flatten.length := by
   intro ps
   induction ps with
   | nil => intro i _; simp [pathRs]
   | cons p ps ih2 =>
    intro i hp
    have h1 := hp p (List.mem_cons_self ..)
    have h2 := ih (way ++ [(i : Int)]) p h1.1 h1.2
    have h3 := ih2 (i + 1) (fun q hq => hp q (List.mem_cons_of_mem _ hq))
    simp only [pathRs, List.length_append, List.flatten_cons]
    omega
  have h1 := key (pcsU l (t.drop 1)) 0 (fun p hp => by
   obtain ⟨h2, h3⟩ := textB_part ht hp
   exact ⟨by omega, h2⟩)
  obtain ⟨m, hm⟩ := ht.row
  obtain ⟨h2, _, _⟩ := pcsU_facts hm ht.len
  rw [h2, List.length_drop] at h1
  simp only [pathR, List.length_cons]
  omega
end Go.Proofs.YteffiodbflmfkaaDoor.PP
