/- UnifyDeep, plainly. -/
import Derived.Test.YtaegdhpcnpojnaaDoorWantUnifyDeep
import Derived.Test.YtaegdhpcnpojnaaDoorAwake4
import Derived.Test.YtaegdhpcnpojnaaDoorUniLs
import Derived.Test.YtaegdhpcnpojnaaDoorPUx0
import Derived.Test.YtaegdhpcnpojnaaDoorPUx4
import Derived.Test.YtaegdhpcnpojnaaDoorPUx12
import Derived.Test.YtaegdhpcnpojnaaDoorPUx18
namespace Go.Proofs.YtaegdhpcnpojnaaDoor.PU
open Go Go.RowKit Go.Proofs.YtaegdhpcnpojnaaDoorW.PrintWords Go.Proofs.YtaegdhpcnpojnaaDoorW.PrintLast Go.Proofs.YtaegdhpcnpojnaaDoor
set_option linter.unusedVariables false
set_option linter.unusedSimpArgs false
theorem unify_fD (l : List S66) (a b : List Int) : unify_Unify.f l a b = some (unifyV l a b) := rfl
theorem row_var {l : List S66} {x : Nat} (hs : SignOk l) (hx : x < 24) : Row l 1 [-1 - (x : Int)] := ⟨hs, by simp, isN_cons.2 ⟨0, arS_var0 (by omega) (by omega), isN_nil⟩⟩
theorem deep_var {l : List S66} {x : Nat} {d : Int} (hx : x < 24) (ht : IsRow l [d]) (hd : d < 0) : (unifyV l [-1 - (x : Int)] [d]).2 = (true, 0) ∧ (unifyV l [-1 - (x : Int)] [d]).1.length = (if d = -1 - (x : Int) then 0 else 1) := by
  obtain ⟨n, hn⟩ := ht
  have hra : IsRow l [-1 - (x : Int)] := ⟨1, row_var hn.1 hx⟩
  have hrb : IsRow l [d] := ⟨n, hn⟩
  have hlo := (codes_row hn.2.2 d (List.mem_singleton.2 rfl)).1
  obtain ⟨y, hy⟩ : ∃ y : Nat, d = -1 - (y : Int) := ⟨(-1 - d).toNat, by omega⟩
  subst hy
  have v1 := row_var hn.1 hx
  have v2 := row_var (x := y) hn.1 (by omega)
  by_cases e : y = x
  · subst e
    rw [unifyV_mgu hra hrb (mgu_self l _), outV_id, if_pos rfl]
    exact ⟨rfl, rfl⟩
  · rw [if_neg (by omega)]
    by_cases h : y < x
    · rw [unifyV_mgu hra hrb (mgu_one (by omega) (by omega) v2.2.2 (by simp; omega) (fun d _ hd => by obtain rfl := List.singleton_inj.1 hd; omega)), outV_one1 hx (by simp) (by simp; omega)]
      exact ⟨rfl, rfl⟩
    · rw [unifyV_mgu hra hrb (mgu_one (by omega) (by omega) v1.2.2 (by simp; omega) (fun d _ hd => by obtain rfl := List.singleton_inj.1 hd; omega)).symm, outV_one1 (by omega) (by simp) (by simp; omega)]
      exact ⟨rfl, rfl⟩
theorem deep_in {l : List S66} {x : Nat} {t : List Int} (hx : x < 24) (ht : IsRow l t) (hv : ∀ d, d < 0 → t ≠ [d]) (hin : (-1 - (x : Int)) ∈ t) : unifyV l [-1 - (x : Int)] t = ([], false, 0) := by
  have ht2 := ht
  obtain ⟨n, hn⟩ := ht2
  have v1 := row_var hn.1 hx
  refine unifyV_no ⟨1, v1⟩ ht (fun θ hg => ?_)
  rw [sub_one, subC_neg θ (by omega)]
  refine occurs hg (by omega) (fun d hd => isN_ar (arU_isN hn.2.2) hd) hin ?_
  match t, hv, hin with
  | [e], hv, hin =>
    have : -1 - (x : Int) = e := by simpa using hin
    exact absurd rfl (hv e (by omega))
  | e :: f :: r, _, _ => simp
theorem deep_out {l : List S66} {x : Nat} {t : List Int} (hx : x < 24) (ht : IsRow l t) (hv : ∀ d, d < 0 → t ≠ [d]) (hin : (-1 - (x : Int)) ∉ t) : unifyV l [-1 - (x : Int)] t = ([], false, 0) ∨ unifyV l [-1 - (x : Int)] t = ([⟨(x : Int), t⟩], true, 0) := by
  have ht2 := ht
  obtain ⟨n, hn⟩ := ht2
  have v1 := row_var hn.1 hx
  by_cases h1 : n = 1
  · subst h1
    right
    rw [unifyV_mgu ⟨1, v1⟩ ht (mgu_one (by omega) (by omega) hn.2.2 hin (fun d hd e => absurd e (hv d hd))), outV_one1 hx hn.2.1 (fun e => hv _ (by omega) e)]
  · left
    exact unifyV_no ⟨1, v1⟩ ht (uni_count v1.2.2 hn.2.2 (fun e => h1 e.symm))
theorem ud_j1t (t : List Int) (x K : Int) (s : List S41) (h : (s.length : Int) = wrap64 (1 - K)) : Ev (fun k => quaerelaw4_UnifyDeep.j1 k t x K s true true) true := by
  refine Ev.step (f := fun _ => some true) (fun k => ?_) (Ev.now _)
  simp only [quaerelaw4_UnifyDeep.j1]
  rw [if_pos trivial, if_pos trivial, h]
  simp
theorem ud_j1n (t : List Int) (x K : Int) : Ev (fun k => quaerelaw4_UnifyDeep.j1 k t x K [] false false) true := by
  refine Ev.step (f := fun _ => some true) (fun k => ?_) (Ev.now _)
  simp only [quaerelaw4_UnifyDeep.j1]
  rw [if_neg (by decide)]
  by_cases hK : K > 0
  · rw [if_pos hK, if_neg (by decide)]; rfl
  · rw [if_neg hK, if_neg (by decide)]; rfl
theorem ud_j1s (t : List Int) (x : Int) (hl : t.length < 17592186044400) : Ev (fun k => quaerelaw4_UnifyDeep.j1 k t x 0 [⟨x, t⟩] true false) true := by
  refine Ev.step (f := fun k => quaerelaw0_SameInts.f k t t) (fun k => ?_) ?_
  · simp only [quaerelaw4_UnifyDeep.j1]
    rw [if_neg (by decide), if_neg (by decide), if_pos trivial, if_pos (by simp), if_pos (by simp), if_pos (by simp [rd_T41])]
    have e : (rd_T41 [(⟨x, t⟩ : S41)] 0).f1 = t := rfl
    rw [e]
    cases quaerelaw0_SameInts.f k t t <;> rfl
  · have := sameInts_ev t t (by omega)
    simpa using this
theorem ud_end (l : List S66) (t : List Int) (x : Nat) (hx : x < 24) (hl : t.length < 17592186044400) : Ev (fun k => quaerelaw4_UnifyDeep.l0 k l t (x : Int) ((t.count (-1 - (x : Int)) : Nat) : Int) (t.length : Int)) true := by
  have hw : wrap64 ((-1) - (x : Int)) = -1 - (x : Int) := by unfold wrap64; omega
  have hct := List.count_le_length (a := -1 - (x : Int)) (l := t)
  have hw2 : wrap64 (1 - ((t.count (-1 - (x : Int)) : Nat) : Int)) = 1 - ((t.count (-1 - (x : Int)) : Nat) : Int) := by unfold wrap64; omega
  refine Ev.step (fun k => quaerelaw4_UnifyDeep.l0.eq_2 _ _ _ _ _ _) (Ev.if_neg (by omega) ?_)
  simp only [hw, unify_fD, Option.bind_some, quaerelaw0_Num.f]
  by_cases hr : IsRow l t
  · by_cases hv : ∃ d, d < 0 ∧ t = [d]
    · obtain ⟨d, hd, rfl⟩ := hv
      obtain ⟨h1, h2⟩ := deep_var hx hr hd
      generalize unifyV l [-1 - (x : Int)] [d] = U at h1 h2
      obtain ⟨s, is, e⟩ := U
      simp only [Prod.mk.injEq] at h1 h2
      obtain ⟨rfl, rfl⟩ := h1
      refine Ev.if_pos rfl (Ev.if_pos rfl (Ev.if_pos (by simp) ?_))
      have e0 : rd [d] 0 = d := rfl
      rw [e0, decide_eq_true hd]
      refine ud_j1t _ _ _ _ ?_
      rw [hw2]
      show (s.length : Int) = _
      rw [h2]
      by_cases e : d = -1 - (x : Int)
      · rw [if_pos e, e]; simp
      · rw [if_neg e, List.count_eq_zero_of_not_mem (by simpa using fun h => e h.symm)]; simp
    · have hv' : ∀ d, d < 0 → t ≠ [d] := fun d hd e => hv ⟨d, hd, e⟩
      have rest : Ev (fun k => quaerelaw4_UnifyDeep.j1 k t (x : Int) ((t.count (-1 - (x : Int)) : Nat) : Int) (unifyV l [-1 - (x : Int)] t).1 (unifyV l [-1 - (x : Int)] t).2.1 false) true := by
        by_cases hin : (-1 - (x : Int)) ∈ t
        · rw [deep_in hx hr hv' hin]
          exact ud_j1n _ _ _
        · rcases deep_out hx hr hv' hin with e | e
          · rw [e]
            exact ud_j1n _ _ _
          · rw [e, List.count_eq_zero_of_not_mem hin]
            exact ud_j1s t _ hl
      have hz : (unifyV l [-1 - (x : Int)] t).2.2 = 0 := by
        by_cases hin : (-1 - (x : Int)) ∈ t
        · rw [deep_in hx hr hv' hin]
        · rcases deep_out hx hr hv' hin with e | e <;> rw [e]
      refine Ev.if_pos hz ?_
      by_cases h1 : (t.length : Int) = 1
      · refine Ev.if_pos h1 (Ev.if_pos (by omega) ?_)
        have hd : decide (rd t 0 < 0) = false := by
          rw [decide_eq_false_iff_not]
          match t, h1, hv' with
          | [d], _, hv' => exact fun h => hv' d h rfl
        rw [hd]
        exact rest
      · exact Ev.if_neg h1 rest
  · rw [unifyV_form (fun h => hr h.2)]
    exact Ev.if_neg (by decide) (Ev.if_pos rfl (Ev.some_ rfl))
theorem ud_l0 (l : List S66) (t : List Int) (x : Nat) (hx : x < 24) (hl : t.length < 17592186044400) : ∀ (d i : Nat), t.length - i = d → i ≤ t.length → Ev (fun k => quaerelaw4_UnifyDeep.l0 k l t (x : Int) (((t.take i).count (-1 - (x : Int)) : Nat) : Int) (i : Int)) true := by
  have hw : wrap64 ((-1) - (x : Int)) = -1 - (x : Int) := by unfold wrap64; omega
  intro d
  induction d with
  | zero =>
    intro i hd hi
    obtain rfl : i = t.length := by omega
    rw [List.take_length]
    exact ud_end l t x hx hl
  | succ d ih =>
    intro i hd hi
    have hlt : i < t.length := by omega
    have hc := List.count_le_length (a := -1 - (x : Int)) (l := t.take i)
    rw [List.length_take] at hc
    have hn := ih (i + 1) (by omega) (by omega)
    rw [List.take_add_one, List.getElem?_eq_getElem hlt, List.count_append] at hn
    refine Ev.step (fun k => quaerelaw4_UnifyDeep.l0.eq_2 _ _ _ _ _ _) (Ev.if_pos (by omega) (Ev.if_pos (by omega) ?_))
    rw [hw, rd_nat t i hlt, wrap_nat i (by omega)]
    by_cases h : t[i] = -1 - (x : Int)
    · refine Ev.if_pos h ?_
      rw [wrap_nat _ (by omega)]
      rw [h] at hn
      simpa using hn
    · refine Ev.if_neg h ?_
      have e0 : (some t[i]).toList.count (-1 - (x : Int)) = 0 := List.count_eq_zero_of_not_mem (by simpa using fun e => h e.symm)
      rw [e0, Nat.add_zero] at hn
      exact hn
theorem quaerelaw4_UnifyDeep.pure : quaerelaw4_UnifyDeep.Pure := by
  intro l t v _ ht _
  refine Ev.get (r := true) ?_
  unfold quaerelaw4_UnifyDeep.f
  refine Ev.bind awake4_ev (Ev.if_pos rfl ?_)
  obtain ⟨x, hx, e⟩ : ∃ x : Nat, x < 24 ∧ wrap64 (Int.tmod (IntKind.u64.wrap v) 24) = (x : Int) := by
    have h0 : 0 ≤ IntKind.u64.wrap v := by
      have e : IntKind.u64.wrap v = v % 18446744073709551616 := by simp [IntKind.wrap, IntKind.bits, IntKind.signed]
      rw [e]
      omega
    have h1 := Int.tmod_lt_of_pos (IntKind.u64.wrap v) (show (0 : Int) < 24 by decide)
    have h2 := Int.tmod_nonneg 24 h0
    generalize Int.tmod (IntKind.u64.wrap v) 24 = y at h1 h2
    refine ⟨y.toNat, by omega, ?_⟩
    unfold wrap64
    omega
  rw [e]
  have := ud_l0 l t x hx (by have := ht.1; omega) t.length 0 rfl (Nat.zero_le _)
  simpa using this
end Go.Proofs.YtaegdhpcnpojnaaDoor.PU
