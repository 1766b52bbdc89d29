/- UnifySames, plainly. -/
import Derived.Test.YtaegdhpcnpojnaaDoorWantUnifySames
import Derived.Test.YtaegdhpcnpojnaaDoorAwake4
import Derived.Test.YtaegdhpcnpojnaaDoorUniBd
import Derived.Test.YtaegdhpcnpojnaaDoorPUx0
import Derived.Test.YtaegdhpcnpojnaaDoorPUx4
import Derived.Test.YtaegdhpcnpojnaaDoorPUx12
import Derived.Test.YtaegdhpcnpojnaaDoorPUx19
import Derived.Test.YtaegdhpcnpojnaaDoorPUx22
namespace Go.Proofs.YtaegdhpcnpojnaaDoor.PU
open Go Go.RowKit Go.Proofs.YtaegdhpcnpojnaaDoorW.PrintWords Go.Proofs.YtaegdhpcnpojnaaDoorW.PrintLast Go.Proofs.YtaegdhpcnpojnaaDoor
set_option linter.unusedVariables false
set_option linter.unusedSimpArgs false
theorem unify_f (l : List S66) (a b : List Int) : unify_Unify.f l a b = some (unifyV l a b) := rfl
theorem us_l0 (l : List S66) (s : List S41) (hs : s.length ≤ 24) (hsh : ∀ x ∈ s, x.f1.length ≤ 48) (hap : ∀ x ∈ s, ApplyV l s x.f1 = (x.f1, 0)) : ∀ (d i : Nat), s.length - i = d → i ≤ s.length → Ev (fun k => quaerelaw4_UnifySames.l0 k l s (i : Int)) true := by
  intro d
  induction d with
  | zero =>
    intro i hd hi
    exact Ev.step (fun k => quaerelaw4_UnifySames.l0.eq_2 _ _ _ _) (Ev.if_neg (by omega) (Ev.some_ rfl))
  | succ d ih =>
    intro i hd hi
    have hlt : i < s.length := by omega
    have e : rd_T41 s (i : Int) = s[i] := rd_bind s i hlt
    have h1 := hap s[i] (List.getElem_mem _)
    have h2 := hsh s[i] (List.getElem_mem _)
    refine Ev.step (fun k => quaerelaw4_UnifySames.l0.eq_2 _ _ _ _) (Ev.if_pos (by omega) (Ev.if_pos (by omega) ?_))
    rw [e]
    refine Ev.bind (apply_ev l s s[i].f1) ?_
    rw [h1]
    refine Ev.bind (Ev.now _) (Ev.if_pos rfl (Ev.bind (sameInts_ev _ _ (by simp only; omega)) (Ev.if_pos (by simp) ?_)))
    rw [wrap_nat i (by omega)]
    exact ih (i + 1) (by omega) (by omega)
theorem quaerelaw4_UnifySames.pure : quaerelaw4_UnifySames.Pure := by
  classical
  intro l a b _ _ _
  refine Ev.get (r := true) ?_
  unfold quaerelaw4_UnifySames.f
  simp only [quaerelaw0_Num.f, Option.bind_some, unify_f]
  rw [← unify_symm l a b]
  have hsh := unifyV_short l a b
  have hout := unify_out l a b
  refine Ev.bind awake4_ev (Ev.if_pos rfl ?_)
  refine Ev.if_pos rfl (Ev.if_neg (by simp) ?_)
  refine Ev.bind (sameBinds_ev _ (by omega) hsh.2) ?_
  refine Ev.step (fun k => quaerelaw4_UnifySames.j0.eq_2 _ _ _ _ _ _ _ _) (Ev.if_neg (by decide) ?_)
  have j1t : ∀ s : List S41, s = [] → Ev (fun k => quaerelaw4_UnifySames.j1 k l a b s true) true := by
    rintro s rfl
    exact Ev.step (fun k => quaerelaw4_UnifySames.j1.eq_2 _ _ _ _ _ _) (Ev.if_pos rfl (Ev.some_ rfl))
  rcases hout with ⟨h1, h2⟩ | ⟨τ, ς, ha, hb, hm, hg, hl, e⟩
  · rw [h1, h2]
    exact Ev.if_neg (by decide) (j1t _ rfl)
  · rw [e] at hsh ⊢
    refine Ev.if_pos rfl ?_
    simp only [quaerelaw0_Num.f, Option.bind_some]
    refine Ev.step (fun k => quaerelaw4_UnifySames.j1.eq_2 _ _ _ _ _ _) (Ev.if_neg (by decide) ?_)
    obtain ⟨n, hn⟩ := ha
    obtain ⟨m, hm'⟩ := hb
    have hbo := bindsOk_list hn.1 hg hl
    have e1 : ApplyV l (listS ς 24) a = ApplyV l (listS ς 24) b := by
      unfold ApplyV
      have : onV (listS ς 24) a = onV (listS ς 24) b := by rw [onV_list hg hn.2.2, onV_list hg hm'.2.2, hm.same]
      rw [this]
      have i1 : IsRow l a := ⟨n, hn⟩
      have i2 : IsRow l b := ⟨m, hm'⟩
      simp only [i1, i2]
    refine Ev.bind (apply_ev l _ a) (Ev.bind (apply_ev l _ b) ?_)
    have hmay : bind_May.f l (listS ς 24) = some true := by unfold bind_May.f; simp [hbo]
    simp only [hmay, Option.bind_some, quaerelaw0_Num.f]
    rw [← e1]
    have hsz : (ApplyV l (listS ς 24) a).1.length ≤ 48 := by
      unfold ApplyV
      split
      · split
        · simp
        · simp only; omega
      · simp
    refine Ev.if_pos trivial (Ev.if_pos rfl (Ev.bind (sameInts_ev _ _ (by omega)) ?_))
    rw [decide_eq_true rfl]
    refine Ev.step (fun k => quaerelaw4_UnifySames.j2.eq_2 _ _ _ _) (Ev.if_neg (by decide) ?_)
    refine us_l0 l (listS ς 24) hsh.1 hsh.2 (fun x hx => ?_) _ 0 rfl (Nat.zero_le _)
    obtain ⟨v, hv, h0, h1, h2⟩ := (listS_mem ς x 24).1 hx
    have hr := hg (-1 - (v : Int)) (by omega) (by omega)
    have hl' := hl v hv
    have : onV (listS ς 24) x.f1 = x.f1 := by
      rw [h1, onV_list hg hr]
      exact hm.idem (by omega) (by omega)
    unfold ApplyV
    rw [this, if_pos ⟨hbo, 1, hn.1, by rw [h1]; omega, by rw [h1]; exact hr⟩, if_neg (by rw [h1]; omega)]
end Go.Proofs.YtaegdhpcnpojnaaDoor.PU
