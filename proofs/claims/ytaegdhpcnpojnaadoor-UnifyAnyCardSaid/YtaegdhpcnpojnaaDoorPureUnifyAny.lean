/- UnifyAny, plainly. -/
import Derived.Test.YtaegdhpcnpojnaaDoorWantUnifyAny
import Derived.Test.YtaegdhpcnpojnaaDoorAwake4
import Derived.Test.YtaegdhpcnpojnaaDoorUniBd
import Derived.Test.YtaegdhpcnpojnaaDoorThen
import Derived.Test.YtaegdhpcnpojnaaDoorPUx0
import Derived.Test.YtaegdhpcnpojnaaDoorPUx4
import Derived.Test.YtaegdhpcnpojnaaDoorPUx12
import Derived.Test.YtaegdhpcnpojnaaDoorPUx24
import Derived.Test.YtaegdhpcnpojnaaDoorPUx25
namespace Go.Proofs.YtaegdhpcnpojnaaDoor.PU
open Go Go.RowKit Go.Proofs.YtaegdhpcnpojnaaDoorW.PrintWords Go.Proofs.YtaegdhpcnpojnaaDoorW.PrintLast Go.Proofs.YtaegdhpcnpojnaaDoor
set_option linter.unusedVariables false
set_option linter.unusedSimpArgs false
theorem unify_fA (l : List S66) (a b : List Int) : unify_Unify.f l a b = some (unifyV l a b) := rfl
theorem then_fA (l : List S66) (a b : List S41) : bind_Then.f l a b = some (thenV l a b) := rfl
theorem thenS_mem (s u : List S41) (b : S41) : ∀ n, b ∈ thenS s u n ↔ ∃ v : Nat, v < n ∧ b.f0 = (v : Int) ∧ b.f1 = thenT s u (v : Int) ∧ b.f1 ≠ [] ∧ b.f1 ≠ [-1 - (v : Int)] := by
  intro n
  induction n with
  | zero => simp [thenS]
  | succ n ih =>
    simp only [thenS, List.mem_append]
    rw [ih]
    constructor
    · rintro (⟨v, hv, h⟩ | h)
      · exact ⟨v, by omega, h⟩
      · split at h
        · cases h
        · rename_i hn
          obtain rfl := List.mem_singleton.1 h
          exact ⟨n, by omega, rfl, rfl, fun e => hn (.inl e), fun e => hn (.inr e)⟩
    · rintro ⟨v, hv, h0, h1, h2, h3⟩
      rcases Nat.lt_or_ge v n with h | h
      · exact .inl ⟨v, h, h0, h1, h2, h3⟩
      · obtain rfl : v = n := by omega
        right
        rw [h1] at h2 h3
        rw [if_neg (fun h => h.elim h2 h3)]
        obtain ⟨b0, b1⟩ := b
        simp only at h0 h1
        subst h0; subst h1
        simp
theorem thenS_rise (s u : List S41) : ∀ n, (thenS s u n).Pairwise (fun a b => a.f0 < b.f0) := by
  intro n
  induction n with
  | zero => simp [thenS]
  | succ n ih =>
    simp only [thenS]
    rw [List.pairwise_append]
    refine ⟨ih, by split <;> simp, fun a ha b hb => ?_⟩
    obtain ⟨v, hv, h0, _⟩ := (thenS_mem s u a n).1 ha
    split at hb
    · cases hb
    · obtain rfl := List.mem_singleton.1 hb
      show a.f0 < (n : Int)
      omega
/-- Two binds one behind the other, as one, where what comes out is told. -/
theorem then_is {l : List S66} {s u : List S41} {θ : Int → List Int} (hs : BindsOk l s) (hu : BindsOk l u) (hg : Good l θ) (hl : ∀ c, -24 ≤ c → c < 0 → (θ c).length ≤ 48)
    (h : ∀ v : Nat, v < 24 → (thenT s u (v : Int) = θ (-1 - (v : Int)) ∨ thenT s u (v : Int) = [] ∧ θ (-1 - (v : Int)) = [-1 - (v : Int)])) :
    thenV l s u = (thenS s u 24, 0) ∧ BindsOk l (thenS s u 24) ∧ ∀ c, -24 ≤ c → c < 0 → ofB (thenS s u 24) c = θ c := by
  classical
  refine ⟨?_, ?_, ?_⟩
  · unfold thenV
    rw [if_pos ⟨hs, hu⟩, if_neg]
    rintro ⟨v, hv, h48⟩
    rcases h v hv with e | ⟨e, _⟩
    · rw [e] at h48; have := hl (-1 - (v : Int)) (by omega) (by omega); omega
    · rw [e] at h48; simp at h48
  · refine bindsOk_of hs.1 (thenS_rise s u 24) (fun b hb => ?_)
    obtain ⟨v, hv, h0, h1, h2, h3⟩ := (thenS_mem s u b 24).1 hb
    refine ⟨by omega, by omega, ?_, by rw [h0]; exact h3⟩
    rw [h1] at h2 ⊢
    rcases h v hv with e | ⟨e, _⟩
    · rw [e]; exact ⟨hs.1, hl _ (by omega) (by omega), hg _ (by omega) (by omega)⟩
    · exact absurd e h2
  · intro c h0 h1
    obtain ⟨v, hv⟩ : ∃ v : Nat, c = -1 - (v : Int) := ⟨(-1 - c).toNat, by omega⟩
    subst hv
    unfold ofB
    rw [show -1 - (-1 - (v : Int)) = (v : Int) by omega]
    have ht := h v (by omega)
    by_cases hc : thenT s u (v : Int) = [] ∨ thenT s u (v : Int) = [-1 - (v : Int)]
    · have : bfindV (thenS s u 24) (v : Int) = [] := by
        apply bfindV_none
        intro b hb e
        obtain ⟨w, hw, g0, g1, g2, g3⟩ := (thenS_mem s u b 24).1 hb
        obtain rfl : w = v := by omega
        rw [g1] at g2 g3
        exact hc.elim g2 g3
      rw [if_pos this]
      rcases ht with e | ⟨_, e⟩
      · rcases hc with e2 | e2
        · rw [e] at e2; exact absurd e2 (good_ne hg h0 h1)
        · rw [← e, e2]
      · exact e.symm
    · have hm : (⟨(v : Int), thenT s u (v : Int)⟩ : S41) ∈ thenS s u 24 := (thenS_mem s u _ 24).2 ⟨v, by omega, rfl, rfl, fun e => hc (.inl e), fun e => hc (.inr e)⟩
      have hb : bfindV (thenS s u 24) (v : Int) = thenT s u (v : Int) := by
        have h := bfindV_rise (thenS_rise s u 24) hm
        exact h
      rw [hb]
      rcases ht with e | ⟨e, _⟩
      · rw [if_neg (fun e => hc (.inl e)), e]
      · exact absurd (.inl e) hc
theorem ua_end {l : List S66} {u : List S41} {a b : List Int} {n m : Nat} (hb : BindsOk l u) (ha : Row l n a) (hb' : Row l m b) (he : subV (ofB u) a = subV (ofB u) b) (hla : (subV (ofB u) a).length ≤ 48) :
    ∃ s t, unifyV l a b = (s, true, 0) ∧ thenV l s u = (t, 0) ∧ ApplyV l t a = (subV (ofB u) a, 0) := by
  have hg := good_ofB hb
  have hl48 : ∀ c, -24 ≤ c → c < 0 → (ofB u c).length ≤ 48 := by
    intro c h0 h1
    unfold ofB
    split
    · simp
    · exact bindsOk_len48 hb _
  rcases unify_spec ⟨n, ha⟩ ⟨m, hb'⟩ with ⟨h, _⟩ | ⟨τ, ς, h, hs, e⟩
  · exact absurd he (no_same h ha.2.2 hb'.2.2 hg)
  · have hout := outV_short h hs ha.2.2 hb'.2.2 hg he hl48
    have hsh : ∀ v : Nat, v < 24 → ¬ 48 < (ς (-1 - (v : Int))).length := by
      intro v hv h48
      rcases outV_cases ς with ⟨e2, _⟩ | ⟨_, h2⟩
      · rw [e2] at hout; simp at hout
      · exact h2 v hv h48
    have hbo := bindsOk_list ha.1 hs hsh
    have hth := then_is (θ := ofB u) hbo hb hg hl48 (fun v hv => by
      have h0 : -24 ≤ -1 - (v : Int) := by omega
      have h1 : -1 - (v : Int) < 0 := by omega
      have hf := h.factor hs ha.2.2 hb'.2.2 hg he h0 h1
      have ho := ofB_list hs h0 h1
      unfold ofB at ho
      rw [show -1 - (-1 - (v : Int)) = (v : Int) by omega] at ho
      unfold thenT
      by_cases hn : bfindV (listS ς 24) (v : Int) = []
      · rw [if_pos hn]
        by_cases hu : bfindV u (v : Int) = []
        · right
          refine ⟨hu, ?_⟩
          unfold ofB
          rw [show -1 - (-1 - (v : Int)) = (v : Int) by omega, if_pos hu]
        · left
          unfold ofB
          rw [show -1 - (-1 - (v : Int)) = (v : Int) by omega, if_neg hu]
      · left
        rw [if_neg hn] at ho ⊢
        rw [ho, onV_sub]
        exact hf)
    refine ⟨listS ς 24, _, e.trans hout, hth.1, ?_⟩
    have hon : onV (thenS (listS ς 24) u 24) a = subV (ofB u) a := by
      rw [onV_sub]
      exact subV_congr a (fun c hc h1 => hth.2.2 c (codes_row ha.2.2 c hc).1 h1)
    unfold ApplyV
    rw [if_pos ⟨hth.2.1, n, ha⟩, hon, if_neg (by omega)]
theorem ua_j0t (l : List S66) (u : List S41) (a b x : List Int) : Ev (fun k => quaerelaw4_UnifyAny.j0 k l u a b x true) true :=
  Ev.step (fun k => quaerelaw4_UnifyAny.j0.eq_2 _ _ _ _ _ _ _) (Ev.if_pos rfl (Ev.some_ rfl))
theorem quaerelaw4_UnifyAny.pure : quaerelaw4_UnifyAny.Pure := by
  classical
  intro l u a b _ _ _ _
  refine Ev.get (r := true) ?_
  unfold quaerelaw4_UnifyAny.f
  simp only [quaerelaw0_Num.f, Option.bind_some]
  refine Ev.bind awake4_ev (Ev.if_pos rfl (Ev.bind (apply_ev l u a) (Ev.bind (apply_ev l u b) ?_)))
  by_cases h1 : (ApplyV l u a).2 = 0
  · refine Ev.if_pos h1 ?_
    by_cases h2 : (ApplyV l u b).2 = 0
    · refine Ev.if_pos h2 ?_
      obtain ⟨hb, ⟨n, hn⟩, hla, ea⟩ := applyV_ok h1
      obtain ⟨_, ⟨m, hm⟩, hlb, eb⟩ := applyV_ok h2
      rw [ea, eb]
      rw [onV_sub] at hla hlb ⊢
      rw [onV_sub]
      refine Ev.bind (sameInts_ev _ _ (by simp only; omega)) ?_
      by_cases he : subV (ofB u) a = subV (ofB u) b
      · rw [decide_eq_true he]
        obtain ⟨s, t, g1, g2, g3⟩ := ua_end hb hn hm he hla
        refine Ev.step (fun k => quaerelaw4_UnifyAny.j0.eq_2 _ _ _ _ _ _ _) (Ev.if_neg (by decide) ?_)
        simp only [unify_fA, Option.bind_some, quaerelaw0_Num.f, g1]
        refine Ev.if_pos trivial ?_
        refine Ev.step (fun k => quaerelaw4_UnifyAny.j1.eq_2 _ _ _ _ _ _ _) (Ev.if_neg (by decide) ?_)
        simp only [then_fA, Option.bind_some, quaerelaw0_Num.f, g2]
        refine Ev.if_pos trivial (Ev.bind (apply_ev l t a) ?_)
        rw [g3]
        refine Ev.if_pos rfl (Ev.bind (sameInts_ev _ _ (by simp only; omega)) (Ev.some_ (by simp)))
      · rw [decide_eq_false he]
        exact ua_j0t _ _ _ _ _
    · exact Ev.if_neg h2 (ua_j0t _ _ _ _ _)
  · exact Ev.if_neg h1 (ua_j0t _ _ _ _ _)
end Go.Proofs.YtaegdhpcnpojnaaDoor.PU
