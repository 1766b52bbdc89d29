/- UnifyMade, plainly. -/
import Derived.Test.YtaegdhpcnpojnaaDoorWantUnifyMade
import Derived.Test.YtaegdhpcnpojnaaDoorAwake4
import Derived.Test.YtaegdhpcnpojnaaDoorUniBd
import Derived.Test.YtaegdhpcnpojnaaDoorPUx0
import Derived.Test.YtaegdhpcnpojnaaDoorPUx4
import Derived.Test.YtaegdhpcnpojnaaDoorPUx12
import Derived.Test.YtaegdhpcnpojnaaDoorPUx23
namespace Go.Proofs.YtaegdhpcnpojnaaDoor.PU
open Go Go.RowKit Go.Proofs.YtaegdhpcnpojnaaDoorW.PrintWords Go.Proofs.YtaegdhpcnpojnaaDoorW.PrintLast Go.Proofs.YtaegdhpcnpojnaaDoor
set_option linter.unusedVariables false
set_option linter.unusedSimpArgs false
theorem unify_fM (l : List S66) (a b : List Int) : unify_Unify.f l a b = some (unifyV l a b) := rfl
theorem um_end {l : List S66} {u : List S41} {a x : List Int} {n : Nat} (hb : BindsOk l u) (ha : Row l n a) (hx : x = subV (ofB u) a) (hl : x.length ≤ 48) (hno : ∀ c ∈ x, ∀ b ∈ u, c ≠ -1 - b.f0) :
    ∃ ς, unifyV l a x = (listS ς 24, true, 0) ∧ ApplyV l (listS ς 24) a = ApplyV l (listS ς 24) x := by
  have hg := good_ofB hb
  have hr : isN (arS l) n x := by rw [hx]; exact subV_isN hg a n ha.2.2
  have hself : subV (ofB u) x = x := by
    refine sub_id x (fun c hc h1 => ?_)
    unfold ofB
    rw [if_pos]
    apply bfindV_none
    intro b hbm e
    exact hno c hc b hbm (by omega)
  have hre : Row l n x := ⟨ha.1, hl, hr⟩
  have he : subV (ofB u) a = subV (ofB u) x := by rw [hself, hx]
  rcases unify_spec ⟨n, ha⟩ ⟨n, hre⟩ with ⟨h, _⟩ | ⟨τ, ς, h, hs, e⟩
  · exact absurd he (no_same h ha.2.2 hr hg)
  · have hout := outV_short h hs ha.2.2 hr hg he (fun c h0 h1 => by
      unfold ofB
      split
      · simp
      · rename_i hne
        rcases bfindV_mem u (-1 - c) with e | ⟨b, hbm, _, e⟩
        · exact absurd e hne
        · rw [← e]
          exact (bindsOk_mem hb hbm).2.2.1.2.1)
    refine ⟨ς, e.trans hout, ?_⟩
    unfold ApplyV
    have : onV (listS ς 24) a = onV (listS ς 24) x := by rw [onV_list hs ha.2.2, onV_list hs hr, h.same]
    rw [this]
    have i1 : IsRow l a := ⟨n, ha⟩
    have i2 : IsRow l x := ⟨n, hre⟩
    by_cases hbo : BindsOk l (listS ς 24)
    · rw [if_pos (show BindsOk l (listS ς 24) ∧ IsRow l a from ⟨hbo, i1⟩), if_pos (show BindsOk l (listS ς 24) ∧ IsRow l x from ⟨hbo, i2⟩)]
    · rw [if_neg (show ¬ (BindsOk l (listS ς 24) ∧ IsRow l a) from fun h => hbo h.1), if_neg (show ¬ (BindsOk l (listS ς 24) ∧ IsRow l x) from fun h => hbo h.1)]
theorem um_fin {l : List S66} {u : List S41} {a x : List Int} {n : Nat} (hb : BindsOk l u) (ha : Row l n a) (hx : x = subV (ofB u) a) (hl : x.length ≤ 48) (hno : ∀ c ∈ x, ∀ b ∈ u, c ≠ -1 - b.f0) :
    Ev (fun k => quaerelaw4_UnifyMade.l0 k l u a x (u.length : Int)) true := by
  obtain ⟨ς, e, h⟩ := um_end hb ha hx hl hno
  refine Ev.step (fun k => quaerelaw4_UnifyMade.l0.eq_2 _ _ _ _ _ _) (Ev.if_neg (by omega) ?_)
  simp only [unify_fM, Option.bind_some, quaerelaw0_Num.f, e]
  refine Ev.if_pos trivial ?_
  refine Ev.step (fun k => quaerelaw4_UnifyMade.j2.eq_2 _ _ _ _ _ _) (Ev.if_neg (by decide) ?_)
  refine Ev.bind (apply_ev l _ a) (Ev.bind (apply_ev l _ x) ?_)
  rw [← h]
  have hsz : (ApplyV l (listS ς 24) a).1.length ≤ 48 := by
    unfold ApplyV
    split
    · split
      · simp
      · simp only; omega
    · simp
  refine Ev.bind (Ev.now _) (Ev.bind (Ev.now _) (Ev.if_pos rfl (Ev.bind (sameInts_ev _ _ (by omega)) (Ev.some_ (by simp)))))
theorem um_l1 {l : List S66} {u : List S41} {a x : List Int} (hb : BindsOk l u) (hl : x.length ≤ 48) (i : Nat) (hi : i < u.length) (next : (∀ c ∈ x, c ≠ -1 - (u[i]).f0) → Ev (fun k => quaerelaw4_UnifyMade.l0 k l u a x (((i + 1 : Nat)) : Int)) true) : ∀ (d j : Nat), x.length - j = d → j ≤ x.length → (∀ c ∈ x.take j, c ≠ -1 - (u[i]).f0) → Ev (fun k => quaerelaw4_UnifyMade.l1 k l u a x (i : Int) (j : Int)) true := by
  have hul := bindsOk_len hb
  have hf := bindsOk_mem hb (List.getElem_mem hi)
  have hw : wrap64 ((-1) - (rd_T41 u (i : Int)).f0) = -1 - (u[i]).f0 := by
    rw [rd_bind u i hi]
    unfold wrap64
    omega
  intro d
  induction d with
  | zero =>
    intro j hd hj hc
    refine Ev.step (fun k => quaerelaw4_UnifyMade.l1.eq_2 _ _ _ _ _ _ _) (Ev.if_neg (by omega) ?_)
    rw [wrap_nat i (by omega)]
    exact next (by rw [List.take_of_length_le (by omega)] at hc; exact hc)
  | succ d ih =>
    intro j hd hj hc
    have hlt : j < x.length := by omega
    refine Ev.step (fun k => quaerelaw4_UnifyMade.l1.eq_2 _ _ _ _ _ _ _) (Ev.if_pos (by omega) (Ev.if_pos (by omega) (Ev.if_pos (by omega) (Ev.if_pos (by omega) ?_))))
    rw [hw, rd_nat x j hlt]
    by_cases h : x[j] = -1 - (u[i]).f0
    · exact Ev.if_pos h (Ev.some_ rfl)
    · refine Ev.if_neg h ?_
      rw [wrap_nat j (by omega)]
      refine ih (j + 1) (by omega) (by omega) (fun c hc' => ?_)
      rw [List.take_add_one, List.getElem?_eq_getElem hlt] at hc'
      rcases List.mem_append.1 hc' with h' | h'
      · exact hc c h'
      · have : c = x[j] := by simpa using h'
        rw [this]; exact h
theorem um_l0 {l : List S66} {u : List S41} {a x : List Int} {n : Nat} (hb : BindsOk l u) (ha : Row l n a) (hx : x = subV (ofB u) a) (hl : x.length ≤ 48) : ∀ (d i : Nat), u.length - i = d → i ≤ u.length → (∀ c ∈ x, ∀ b ∈ u.take i, c ≠ -1 - b.f0) → Ev (fun k => quaerelaw4_UnifyMade.l0 k l u a x (i : Int)) true := by
  intro d
  induction d with
  | zero =>
    intro i hd hi hno
    obtain rfl : i = u.length := by omega
    exact um_fin hb ha hx hl (by rwa [List.take_length] at hno)
  | succ d ih =>
    intro i hd hi hno
    have hlt : i < u.length := by omega
    refine Ev.step (fun k => quaerelaw4_UnifyMade.l0.eq_2 _ _ _ _ _ _) (Ev.if_pos (by omega) ?_)
    refine um_l1 hb hl i hlt (fun h => ih (i + 1) (by omega) (by omega) (fun c hc b hbm => ?_)) x.length 0 rfl (Nat.zero_le _) (fun c hc => by simp at hc)
    rw [List.take_add_one, List.getElem?_eq_getElem hlt] at hbm
    rcases List.mem_append.1 hbm with h' | h'
    · exact hno c hc b h'
    · have : b = u[i] := by simpa using h'
      rw [this]; exact h c hc
theorem quaerelaw4_UnifyMade.pure : quaerelaw4_UnifyMade.Pure := by
  classical
  intro l u a _ _ _
  refine Ev.get (r := true) ?_
  unfold quaerelaw4_UnifyMade.f
  simp only [quaerelaw0_Num.f, Option.bind_some]
  refine Ev.bind awake4_ev (Ev.if_pos rfl (Ev.bind (apply_ev l u a) ?_))
  by_cases h1 : (ApplyV l u a).2 = 0
  · obtain ⟨hb, ⟨n, hn⟩, hla, ea⟩ := applyV_ok h1
    rw [ea]
    refine Ev.if_pos rfl ?_
    rw [onV_sub] at hla ⊢
    exact um_l0 hb hn rfl hla u.length 0 rfl (Nat.zero_le _) (fun c _ b hbm => by simp at hbm)
  · exact Ev.if_neg h1 (Ev.some_ rfl)
end Go.Proofs.YtaegdhpcnpojnaaDoor.PU
