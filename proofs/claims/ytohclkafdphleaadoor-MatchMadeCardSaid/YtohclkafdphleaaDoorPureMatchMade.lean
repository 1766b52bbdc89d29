/- MatchMade, plainly. -/
import Derived.Test.YtohclkafdphleaaDoorWantMatchMade
import Derived.Test.YtohclkafdphleaaDoorMade
import Derived.Test.YtohclkafdphleaaDoorPNx0
import Derived.Test.YtohclkafdphleaaDoorPNx3
import Derived.Test.YtohclkafdphleaaDoorPNx5
import Derived.Test.YtohclkafdphleaaDoorPNx7
import Derived.Test.YtohclkafdphleaaDoorPNx9
import Derived.Test.YtohclkafdphleaaDoorPNx10
namespace Go.Proofs.YtohclkafdphleaaDoor.PN
open Go Go.RowKit Go.Proofs.YtohclkafdphleaaDoorW.PrintWords Go.Proofs.YtohclkafdphleaaDoorW.PrintLast Go.Proofs.YtohclkafdphleaaDoor
set_option linter.unusedVariables false
set_option linter.unusedSimpArgs false
theorem match_f (l : List S73) (a b : List Int) : match_Match.f l a b = some (matchV l a b) := rfl
theorem mm_l1 (u s : List S41) (i : Nat) (hi : i < s.length) (hu : u.length ≤ 1000) (hl : ∀ b ∈ u, b.f1.length ≤ 48) (hin : ∃ b ∈ u, b.f0 = (s.getD i z41).f0 ∧ b.f1 = (s.getD i z41).f1) (hnext : Ev (fun k => quaerelaw5_MatchMade.l0 k u s (wrap64 ((i : Int) + 1))) true) :
    ∀ (d j : Nat) (is : Bool), u.length - j = d → j ≤ u.length → (is = true ∨ ∃ b ∈ u.drop j, b.f0 = (s.getD i z41).f0 ∧ b.f1 = (s.getD i z41).f1) → Ev (fun k => quaerelaw5_MatchMade.l1 k u s (i : Int) is (j : Int)) true := by
  classical
  intro d
  induction d with
  | zero =>
    intro j is hd hj h
    have : is = true := by
      rcases h with h | ⟨b, hb, _⟩
      · exact h
      · rw [List.drop_eq_nil_of_le (by omega)] at hb
        cases hb
    subst this
    refine Ev.step (fun k => ?_) hnext
    simp only [quaerelaw5_MatchMade.l1]
    rw [if_neg (by omega), if_pos trivial]
  | succ d ih =>
    intro j is hd hj h
    have hlt : j < u.length := by omega
    have hd1 : u.length - (j + 1) = d := by omega
    have hj1 : j + 1 ≤ u.length := by omega
    have e1 : rd_T41 u (j : Int) = u[j] := rd_bind u j hlt
    have e2 : rd_T41 s (i : Int) = s.getD i z41 := getD_bind s i
    cases is with
    | true =>
      refine Ev.step (f := fun k => quaerelaw5_MatchMade.l1 k u s (i : Int) true ((j + 1 : Nat) : Int)) (fun k => ?_) (ih (j + 1) true (by omega) (by omega) (.inl rfl))
      simp only [quaerelaw5_MatchMade.l1]
      rw [if_pos (by omega), if_pos trivial, wrap_nat j (by omega)]
    | false =>
      have hb := h.resolve_left (by decide)
      rw [List.drop_eq_getElem_cons hlt] at hb
      have hrest : ¬ (u[j].f0 = (s.getD i z41).f0 ∧ u[j].f1 = (s.getD i z41).f1) → ∃ b ∈ u.drop (j + 1), b.f0 = (s.getD i z41).f0 ∧ b.f1 = (s.getD i z41).f1 := by
        intro hno
        obtain ⟨b, hm, h1, h2⟩ := hb
        rcases List.mem_cons.1 hm with rfl | hm
        · exact absurd ⟨h1, h2⟩ hno
        · exact ⟨b, hm, h1, h2⟩
      by_cases h0 : u[j].f0 = (s.getD i z41).f0
      · refine Ev.step (f := fun k => (quaerelaw0_SameInts.f k (rd_T41 u (j : Int)).f1 (rd_T41 s (i : Int)).f1).bind fun t => quaerelaw5_MatchMade.l1 k u s (i : Int) t ((j + 1 : Nat) : Int)) (fun k => ?_) (Ev.bind (sameInts_ev _ _ (by rw [e1]; have := hl u[j] (List.getElem_mem _); omega)) ?_)
        · simp only [quaerelaw5_MatchMade.l1]
          rw [if_pos (by omega), if_neg (by decide), if_pos (by omega), if_pos (by omega), if_pos (by omega), if_pos (by rw [e1, e2]; exact h0), wrap_nat j (by omega)]
        · refine ih (j + 1) _ hd1 hj1 ?_
          by_cases h1 : u[j].f1 = (s.getD i z41).f1
          · left
            rw [e1, e2]
            simpa using h1
          · exact .inr (hrest (fun h => h1 h.2))
      · refine Ev.step (f := fun k => quaerelaw5_MatchMade.l1 k u s (i : Int) false ((j + 1 : Nat) : Int)) (fun k => ?_) (ih (j + 1) false hd1 hj1 (.inr (hrest (fun h => h0 h.1))))
        simp only [quaerelaw5_MatchMade.l1]
        rw [if_pos (by omega), if_neg (by decide), if_pos (by omega), if_pos (by omega), if_pos (by omega), if_neg (by rw [e1, e2]; exact h0), wrap_nat j (by omega)]
theorem mm_l0 (u s : List S41) (hu : u.length ≤ 1000) (hs : s.length ≤ 1000) (hl : ∀ b ∈ u, b.f1.length ≤ 48) (hin : ∀ x ∈ s, ∃ b ∈ u, b.f0 = x.f0 ∧ b.f1 = x.f1) : ∀ (d i : Nat), s.length - i = d → i ≤ s.length → Ev (fun k => quaerelaw5_MatchMade.l0 k u s (i : Int)) true := by
  intro d
  induction d with
  | zero =>
    intro i hd hi
    refine Ev.step (f := fun _ => some true) (fun k => ?_) (Ev.now _)
    simp only [quaerelaw5_MatchMade.l0]
    rw [if_neg (by omega)]
  | succ d ih =>
    intro i hd hi
    have hlt : i < s.length := by omega
    have e : s.getD i z41 = s[i] := by simp [List.getD_eq_getElem?_getD, List.getElem?_eq_getElem hlt]
    have hi' := hin s[i] (List.getElem_mem _)
    rw [← e] at hi'
    refine Ev.step (fun k => ?_) (mm_l1 u s i hlt hu hl hi' (by rw [wrap_nat i (by omega)]; exact ih (i + 1) (by omega) (by omega)) u.length 0 false rfl (by omega) (.inr (by simpa using hi')))
    simp only [quaerelaw5_MatchMade.l0]
    rw [if_pos (by omega)]
    rfl
theorem quaerelaw5_MatchMade.pure : quaerelaw5_MatchMade.Pure := by
  classical
  intro l u a _ _ _
  refine Ev.get (r := true) ?_
  unfold quaerelaw5_MatchMade.f
  simp only [quaerelaw0_Num.f, Option.bind_some]
  refine Ev.bind awake5_ev (Ev.if_pos rfl (Ev.bind (apply_ev l u a) ?_))
  by_cases h1 : (ApplyV l u a).2 = 0
  · obtain ⟨hb, ⟨n, hn⟩, hla, ea⟩ := applyV_ok h1
    rw [ea]
    refine Ev.if_pos rfl ?_
    simp only [match_f, Option.bind_some]
    have hg := good_ofB hb
    rw [onV_sub] at hla ⊢
    rw [match_made hg ⟨n, hn⟩ hla]
    obtain ⟨m1, m2, m3⟩ := made_list hg hn hla
    generalize hs : listTo (fillV (ofB u) a (List.replicate 24 [])) 24 = s at m1 m2 m3
    refine Ev.if_pos rfl (Ev.if_pos rfl ?_)
    have hmay : bind_May.f l s = some true := by unfold bind_May.f; simp [m1]
    simp only [hmay, Option.bind_some]
    have ls := bindsOk_len m1
    have lu := bindsOk_len hb
    have hall : Ev (fun k => quaerelaw5_MatchMade.l0 k u s ((0 : Nat) : Int)) true := by
      refine mm_l0 u s (by omega) (by omega) (fun b hbm => (row_ne (bindsOk_mem hb hbm).2.2.1).2) (fun x hx => ?_) s.length 0 rfl (by omega)
      obtain ⟨_, _, _, h4, h5⟩ := m3 x hx
      rw [h4] at h5
      unfold ofB at h4 h5
      rw [show -1 - (-1 - x.f0) = x.f0 by omega] at h4 h5
      split at h4
      · rename_i hc
        rw [if_pos hc] at h5
        exact absurd rfl h5
      · rename_i hc
        obtain ⟨b, hbm, b1, b2⟩ := (bfindV_mem u x.f0).resolve_left hc
        exact ⟨b, hbm, b1, by rw [b2, h4]⟩
    refine Ev.step (f := fun k => (bind_Apply.f k l s a).bind fun t => if t.2 = 0 then ((quaerelaw0_SameInts.f k (subV (ofB u) a) t.1).bind fun q => quaerelaw5_MatchMade.j1 k u s (!q)) else quaerelaw5_MatchMade.j1 k u s true) (fun k => ?_) (Ev.bind (apply_ev l s a) ?_)
    · simp only [quaerelaw5_MatchMade.j0, quaerelaw0_Num.f, Option.bind_some]
      rw [if_neg (by decide)]
    · have hap : ApplyV l s a = (subV (ofB u) a, 0) := by
        unfold ApplyV
        rw [if_pos ⟨m1, ⟨n, hn⟩⟩, m2, if_neg (by omega)]
      rw [hap]
      refine Ev.if_pos rfl (Ev.bind (sameInts_ev _ _ (by omega)) ?_)
      rw [decide_eq_true rfl]
      refine Ev.step (fun k => ?_) hall
      simp only [quaerelaw5_MatchMade.j1]
      rw [if_neg (by decide)]
      rfl
  · exact Ev.if_neg h1 (Ev.now _)
end Go.Proofs.YtohclkafdphleaaDoor.PN
