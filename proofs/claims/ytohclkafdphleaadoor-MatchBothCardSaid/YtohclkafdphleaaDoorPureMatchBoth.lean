/- MatchBoth answers true for every pair of rows. No conditions. -/
import Derived.Test.YtohclkafdphleaaDoorWantMatchBoth
import Derived.Test.YtohclkafdphleaaDoorGrown
import Derived.Test.YtohclkafdphleaaDoorPMx0
import Derived.Test.YtohclkafdphleaaDoorPMx10
namespace Go.Proofs.YtohclkafdphleaaDoor.PM
open Go Go.RowKit Go.Proofs.YtohclkafdphleaaDoorW.PrintWords Go.Proofs.YtohclkafdphleaaDoorW.PrintLast Go.Proofs.YtohclkafdphleaaDoor
set_option linter.unusedVariables false
set_option linter.unusedSimpArgs false
structure Both (a b : List Int) : Prop where
  len : a.length = b.length
  one : ∃ f g : Int → Int, b = a.map f ∧ a = b.map g ∧ (∀ c ∈ a, 0 ≤ c → f c = c) ∧ (∀ c ∈ b, 0 ≤ c → g c = c)
theorem both_of {l : List S73} {a b : List Int} (h : (matchV l a b).2.1 = true) (h' : (matchV l b a).2.1 = true) : Both a b := by
  obtain ⟨_, _, σ, _, _, hb, hv⟩ := match_yes h
  obtain ⟨_, _, τ, _, _, ha, hw⟩ := match_yes h'
  have l1 := flat_length a hv
  have l2 := flat_length b hw
  rw [← hb] at l1
  rw [← ha] at l2
  refine ⟨by omega, fun c => (putS σ c).headD 0, fun c => (putS τ c).headD 0, ?_, ?_, ?_, ?_⟩
  · rw [← flat_same a hv (by rw [← hb]; exact l2)]; exact hb
  · rw [← flat_same b hw (by rw [← ha]; exact l1)]; exact ha
  · intro c _ h0
    simp [putS, h0]
  · intro c _ h0
    simp [putS, h0]
theorem rd_map (f : Int → Int) (a : List Int) (i : Nat) (h : i < a.length) : rd (a.map f) (i : Int) = f (rd a (i : Int)) := by
  rw [rd_nat _ _ (by simpa using h), rd_nat _ _ h, List.getElem_map]
theorem both_same {a b : List Int} (h : Both a b) (i j : Nat) (hi : i < a.length) (hj : j < a.length) : (rd a (i : Int) == rd a (j : Int)) = (rd b (i : Int) == rd b (j : Int)) := by
  obtain ⟨hl, f, g, hb, ha, _, _⟩ := h
  have e1 : ∀ i : Nat, i < a.length → rd b (i : Int) = f (rd a (i : Int)) := fun i h => by rw [hb]; exact rd_map f a i h
  have e2 : ∀ i : Nat, i < a.length → rd a (i : Int) = g (rd b (i : Int)) := fun i h => by
    have := rd_map g b i (by omega)
    rw [← ha] at this
    exact this
  rw [Bool.eq_iff_iff, beq_iff_eq, beq_iff_eq]
  exact ⟨fun h => by rw [e1 i hi, e1 j hj, h], fun h => by rw [e2 i hi, e2 j hj, h]⟩
theorem both_kind {a b : List Int} (h : Both a b) (i : Nat) (hi : i < a.length) : rd a (i : Int) = rd b (i : Int) ∨ (rd a (i : Int) < 0 ∧ rd b (i : Int) < 0) := by
  obtain ⟨hl, f, g, hb, ha, hf, hg⟩ := h
  have e1 : rd b (i : Int) = f (rd a (i : Int)) := by rw [hb]; exact rd_map f a i hi
  have e2 : rd a (i : Int) = g (rd b (i : Int)) := by
    have := rd_map g b i (by omega)
    rw [← ha] at this
    exact this
  have ma : rd a (i : Int) ∈ a := by rw [rd_nat _ _ hi]; exact List.getElem_mem hi
  have mb : rd b (i : Int) ∈ b := by rw [rd_nat _ _ (by omega)]; exact List.getElem_mem (by omega)
  rcases Int.lt_or_le (rd a (i : Int)) 0 with h0 | h0
  · rcases Int.lt_or_le (rd b (i : Int)) 0 with h1 | h1
    · exact .inr ⟨h0, h1⟩
    · exact .inl (by rw [e2, hg _ mb h1])
  · exact .inl (by rw [e1, hf _ ma h0])
theorem both_inner {a b : List Int} (h : Both a b) (hn : a.length ≤ 9223372036854775806) (i : Nat) (hi : i < a.length) (K : Ev (fun k => quaerelaw5_MatchBoth.l0 k a b ((i + 1 : Nat) : Int)) true) : ∀ (d j : Nat), i - j = d → j ≤ i → Ev (fun k => quaerelaw5_MatchBoth.l1 k a b (i : Int) (j : Int)) true := by
  have hl := h.len
  intro d
  induction d with
  | zero =>
    intro j hd hj
    refine Ev.step (fun k => rfl) ?_
    refine Ev.if_neg (by omega) ?_
    rw [wrap_nat i (by omega)]
    exact K
  | succ d ih =>
    intro j hd hj
    refine Ev.step (fun k => rfl) ?_
    have e := both_same h i j hi (by omega)
    refine Ev.if_pos (by omega) (Ev.if_pos (by omega) (Ev.if_pos (by omega) (Ev.if_pos (by omega) (Ev.if_pos (by omega) (Ev.if_pos (by omega) (Ev.if_pos (by omega) (Ev.if_neg (by rw [e]; simp) ?_)))))))
    rw [wrap_nat j (by omega)]
    exact ih (j + 1) (by omega) (by omega)
theorem both_loop {a b : List Int} (h : Both a b) (hn : a.length ≤ 9223372036854775806) : ∀ (d i : Nat), a.length - i = d → i ≤ a.length → Ev (fun k => quaerelaw5_MatchBoth.l0 k a b (i : Int)) true := by
  have hl := h.len
  intro d
  induction d with
  | zero =>
    intro i hd hi
    refine Ev.step (fun k => rfl) ?_
    exact Ev.if_neg (by omega) (Ev.some_ rfl)
  | succ d ih =>
    intro i hd hi
    have hi' : i < a.length := by omega
    have K : Ev (fun k => quaerelaw5_MatchBoth.j2 k a b (i : Int) false) true := by
      refine Ev.step (fun k => rfl) ?_
      exact both_inner h hn i hi' (ih (i + 1) (by omega) (by omega)) i 0 rfl (Nat.zero_le _)
    refine Ev.step (fun k => rfl) ?_
    refine Ev.if_pos (by omega) (Ev.if_pos (by omega) (Ev.if_pos (by omega) (Ev.ite (fun _ => K) (fun hne => ?_))))
    rcases both_kind h i hi' with e | ⟨h0, h1⟩
    · exact absurd e hne
    · refine Ev.if_neg (by omega) ?_
      rw [show decide (rd b (i : Int) ≥ 0) = false from by simp; omega]
      exact K
theorem quaerelaw5_MatchBoth.pure : quaerelaw5_MatchBoth.Pure := by
  intro l a b hl ha hb
  refine Ev.rounds ?_
  refine Ev.bind awake5_ev ?_
  refine Ev.if_pos rfl ?_
  refine Ev.bind (Ev.some_ rfl) ?_
  refine Ev.bind (Ev.some_ rfl) ?_
  refine Ev.bind (Ev.some_ rfl) ?_
  have J : ∀ x : Bool, (x = false → Both a b ∧ a.length ≤ 9223372036854775806) → Ev (fun k => quaerelaw5_MatchBoth.j0 k a b (matchV l a b).2.2 (matchV l b a).2.2 x) true := by
    intro x hx
    refine Ev.step (fun k => rfl) ?_
    cases x with
    | true =>
      refine Ev.bind (Ev.some_ rfl) ?_
      refine Ev.bind (Ev.some_ rfl) ?_
      exact Ev.some_ (by rw [match_code_swap l a b]; simp)
    | false =>
      obtain ⟨h, hn⟩ := hx rfl
      refine Ev.if_pos (by have := h.len; omega) ?_
      exact both_loop h hn a.length 0 rfl (Nat.zero_le _)
  refine Ev.ite (fun _ => ?_) (fun _ => J true (fun h => by cases h))
  refine Ev.bind (Ev.some_ rfl) ?_
  refine Ev.ite (fun _ => ?_) (fun _ => J true (fun h => by cases h))
  refine Ev.ite (fun h1 => ?_) (fun _ => J true (fun h => by cases h))
  refine J _ (fun h2 => ?_)
  obtain ⟨⟨_, _, hlen, _⟩, _⟩ := match_yes h1
  exact ⟨both_of h1 (by simpa using h2), by omega⟩
end Go.Proofs.YtohclkafdphleaaDoor.PM
