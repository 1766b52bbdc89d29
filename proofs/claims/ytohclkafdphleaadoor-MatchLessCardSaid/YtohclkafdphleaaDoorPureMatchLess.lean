/- MatchLess answers true for every pair of rows. No conditions. -/
import Derived.Test.YtohclkafdphleaaDoorWantMatchLess
import Derived.Test.YtohclkafdphleaaDoorGrown
import Derived.Test.YtohclkafdphleaaDoorPMx0
import Derived.Test.YtohclkafdphleaaDoorPMx11
namespace Go.Proofs.YtohclkafdphleaaDoor.PM
open Go Go.RowKit Go.Proofs.YtohclkafdphleaaDoorW.PrintWords Go.Proofs.YtohclkafdphleaaDoorW.PrintLast Go.Proofs.YtohclkafdphleaaDoor
set_option linter.unusedVariables false
set_option linter.unusedSimpArgs false
/-- How many symbols stand in a row. -/
def symsIn (a : List Int) : Nat := (a.filter (fun c => decide (0 ≤ c))).length
theorem symsIn_cons (c : Int) (a : List Int) : symsIn (c :: a) = (if 0 ≤ c then 1 else 0) + symsIn a := by
  unfold symsIn
  rw [List.filter_cons]
  split <;> rename_i h
  · rw [if_pos (by simpa using h)]; simp; omega
  · rw [if_neg (by simpa using h)]; simp
theorem symsIn_append (a b : List Int) : symsIn (a ++ b) = symsIn a + symsIn b := by simp [symsIn]
theorem symsIn_le (a : List Int) : symsIn a ≤ a.length := List.length_filter_le _ _
theorem symsIn_flat (σ : List (List Int)) : ∀ a : List Int, symsIn a ≤ symsIn (a.flatMap (putS σ))
  | [] => by simp
  | c :: a => by
    have := symsIn_flat σ a
    rw [symsIn_cons, List.flatMap_cons, symsIn_append]
    split
    · rename_i h
      have e : putS σ c = [c] := by simp [putS, h]
      rw [e, symsIn_cons, if_pos h]
      omega
    · omega
theorem less_second (a b : List Int) (hab : a.length ≤ b.length) (hb : b.length ≤ 48) (n : Nat) (hn : n ≤ 48) (hle : n ≤ symsIn b) : ∀ (d i m : Nat), b.length - i = d → i ≤ b.length → m + symsIn (b.drop i) = symsIn b → Ev (fun k => quaerelaw5_MatchLess.l1 k a b ((n : Int) - (m : Int)) (i : Int)) true := by
  have hs := symsIn_le b
  intro d
  induction d with
  | zero =>
    intro i m hd hi hm
    refine Ev.step (fun k => rfl) ?_
    refine Ev.if_neg (by omega) (Ev.if_pos (by omega) (Ev.some_ ?_))
    have : b.drop i = [] := List.drop_eq_nil_of_le (by omega)
    rw [this] at hm
    have h0 : symsIn [] = 0 := rfl
    simp
    omega
  | succ d ih =>
    intro i m hd hi hm
    refine Ev.step (fun k => rfl) ?_
    rw [drop_cons b i (by omega), symsIn_cons] at hm
    refine Ev.if_pos (by omega) (Ev.if_pos (by omega) (Ev.ite (fun h0 => ?_) (fun h0 => ?_)))
    · rw [if_pos h0] at hm
      rw [wrap_nat i (by omega), wrap_id _ (by omega) (by omega)]
      have := ih (i + 1) (m + 1) (by omega) (by omega) (by omega)
      rw [show (n : Int) - (m : Int) - 1 = (n : Int) - ((m + 1 : Nat) : Int) from by omega]
      exact this
    · rw [if_neg h0] at hm
      rw [wrap_nat i (by omega)]
      exact ih (i + 1) m (by omega) (by omega) (by omega)
theorem less_first (a b : List Int) (hab : a.length ≤ b.length) (hb : b.length ≤ 48) (hle : symsIn a ≤ symsIn b) : ∀ (d i m : Nat), a.length - i = d → i ≤ a.length → m + symsIn (a.drop i) = symsIn a → Ev (fun k => quaerelaw5_MatchLess.l0 k a b (m : Int) (i : Int)) true := by
  have hs := symsIn_le a
  intro d
  induction d with
  | zero =>
    intro i m hd hi hm
    refine Ev.step (fun k => rfl) ?_
    refine Ev.if_neg (by omega) ?_
    have : a.drop i = [] := List.drop_eq_nil_of_le (by omega)
    rw [this] at hm
    have h0 : symsIn [] = 0 := rfl
    have := less_second a b hab hb m (by omega) (by omega) b.length 0 0 rfl (Nat.zero_le _) (by simp)
    simpa using this
  | succ d ih =>
    intro i m hd hi hm
    refine Ev.step (fun k => rfl) ?_
    rw [drop_cons a i (by omega), symsIn_cons] at hm
    refine Ev.if_pos (by omega) (Ev.if_pos (by omega) (Ev.ite (fun h0 => ?_) (fun h0 => ?_)))
    · rw [if_pos h0] at hm
      rw [wrap_nat i (by omega), wrap_nat m (by omega)]
      exact ih (i + 1) (m + 1) (by omega) (by omega) (by omega)
    · rw [if_neg h0] at hm
      rw [wrap_nat i (by omega)]
      exact ih (i + 1) m (by omega) (by omega) (by omega)
theorem quaerelaw5_MatchLess.pure : quaerelaw5_MatchLess.Pure := by
  intro l a b hl ha hb
  refine Ev.rounds ?_
  refine Ev.bind awake5_ev ?_
  refine Ev.if_pos rfl ?_
  refine Ev.bind (Ev.some_ rfl) ?_
  refine Ev.bind (Ev.some_ rfl) ?_
  have J : (matchV l a b).2.1 = false → Ev (fun k => quaerelaw5_MatchLess.j0 k a b (matchV l a b).1 (matchV l a b).2.1 true) true := by
    intro h
    refine Ev.step (fun k => rfl) ?_
    refine Ev.if_pos (by rw [match_no h]; rfl) (Ev.some_ (by rw [h]; rfl))
  cases h : (matchV l a b).2.1 with
  | false =>
    have J' := J h
    rw [h] at J'
    exact Ev.ite (fun _ => J') (fun _ => J')
  | true =>
    obtain ⟨h1, h2, σ, _, hm, hb', hv⟩ := match_yes h
    obtain ⟨_, _, hl2, _⟩ := h2
    rw [hm]
    refine Ev.if_pos rfl ?_
    refine Ev.step (fun k => rfl) ?_
    have l1 := flat_length a hv
    have l2 := symsIn_flat σ a
    rw [← hb'] at l1 l2
    exact less_first a b l1 hl2 l2 a.length 0 0 rfl (Nat.zero_le _) (by simp)
end Go.Proofs.YtohclkafdphleaaDoor.PM
