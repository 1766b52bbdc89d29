/- Binds that may be; what the printed Apply answers. -/
import Derived.Test.YteffiodbflmfkaaDoorIsRow
import Derived.Test.YteffiodbflmfkaaDoorSubst
import Derived.Test.YteffiodbflmfkaaDoorBinds
import Derived.Test.YteffiodbflmfkaaDoorPPx0
import Derived.Test.YteffiodbflmfkaaDoorPPx31
import Derived.Test.YteffiodbflmfkaaDoorPPx32
namespace Go.Proofs.YteffiodbflmfkaaDoor.PP
open Go Go.RowKit Go.Proofs.YteffiodbflmfkaaDoorW.PrintWords Go.Proofs.YteffiodbflmfkaaDoorW.PrintLast Go.Proofs.YteffiodbflmfkaaDoor
set_option linter.unusedVariables false
set_option linter.unusedSimpArgs false
theorem bindsOk_rise {l : List S59} {s : List S66} (h : BindsOk l s) : ∀ i, i < s.length → (i : Int) ≤ (s.getD i z66).f0 := by
 intro i
 induction i with
 | zero => intro hi; exact (h.2 0 hi).1
 | succ i ih =>
  intro hi
  have h1 := ih (by omega)
  have h2 := (h.2 (i + 1) hi).2.2.1 (by omega)
  rw [show i + 1 - 1 = i by omega] at h2
  omega
theorem bindsOk_len {l : List S59} {s : List S66} (h : BindsOk l s) : s.length ≤ 24 := by
 rcases Nat.eq_zero_or_pos s.length with h0 | h0
 ·omega
 ·have h1 := bindsOk_rise h (s.length - 1) (by omega)
  have h2 := (h.2 (s.length - 1) (by omega)).2.1
  omega
theorem bindsOk_mem {l : List S59} {s : List S66} (h : BindsOk l s) {b : S66} (hb : b ∈ s) : 0 ≤ b.f0 ∧ b.f0 ≤ 23 ∧ Row l 1 b.f1 ∧ b.f1 ≠ [-1 - b.f0] := by
 obtain ⟨i, hi, rfl⟩ := List.mem_iff_getElem.1 hb
 obtain ⟨h0, h1, _, h3, h4⟩ := h.2 i hi
 have e : s.getD i z66 = s[i] := by simp [List.getD_eq_getElem?_getD, List.getElem?_eq_getElem hi]
 rw [e] at h0 h1 h3 h4
 exact ⟨h0, h1, h3, h4⟩
theorem row_ne {l : List S59} {t : List Int} (h : Row l 1 t) : t ≠ [] ∧ t.length ≤ 48 := by
 have := isN_pos h.2.2
 exact ⟨by rintro rfl; simp at this, h.2.1⟩
theorem good_ofB {l : List S59} {s : List S66} (h : BindsOk l s) : Good l (ofB s) := by
 intro c h0 h1
 unfold ofB
 split
 ·refine isN_cons.2 ⟨0, ?_, isN_nil⟩
  unfold arS
  rw [if_pos h1, if_pos h0]
 ·rename_i hne
  rcases bfindV_mem s (-1 - c) with e | ⟨b, hb, _, e⟩
  ·exact absurd e hne
  ·rw [← e]
   exact (bindsOk_mem h hb).2.2.1.2.2
theorem onV_isN {l : List S59} {s : List S66} (h : BindsOk l s) {n : Nat} {r : List Int} (hr : isN (arS l) n r) : isN (arS l) n (onV s r) := by
 rw [onV_sub]
 exact subV_isN (good_ofB h) r n hr
open Classical in
noncomputable def ApplyV (l : List S59) (s : List S66) (r : List Int) : List Int × Int := if BindsOk l s ∧ IsRow l r then (if 48 < (onV s r).length then ([], 301) else (onV s r, 0)) else ([], 300)
theorem apply_ev (l : List S59) (s : List S66) (r : List Int) : Ev (fun k => bind_Apply.f k l s r) (ApplyV l s r) := by
 classical
 have jt : Ev (fun k => bind_Apply.j0 k s r true) (([] : List Int), (300 : Int)) := Ev.step (f := fun _ => some (([] : List Int), (300 : Int))) (fun k => by simp only [bind_Apply.j0]; rw [if_pos trivial]) (Ev.now _)
 unfold bind_Apply.f ApplyV
 refine Ev.bind (Ev.of_some (r := decide (BindsOk l s)) rfl) ?_
 by_cases hb : BindsOk l s
 ·refine Ev.if_pos (by simpa using hb) (Ev.bind (isRow_ev l r) ?_)
  by_cases hr : IsRow l r
  ·rw [if_pos ⟨hb, hr⟩]
   have hon : bind_On.f s r = some (onV s r) := by
    unfold bind_On.f
    rw [if_pos]
    obtain ⟨n, hn⟩ := hr
    refine ⟨by have := bindsOk_len hb; omega, fun b hbm => (row_ne (bindsOk_mem hb hbm).2.2.1).1, fun b hbm => (row_ne (bindsOk_mem hb hbm).2.2.1).2, by have := hn.2.1; omega, fun c hc => ?_⟩
    have := codes_row hn.2.2 c hc
    have := hn.1.2.1
    omega
   refine Ev.step (f := fun _ => if ((onV s r).length : Int) > 48 then some (([] : List Int), (301 : Int)) else some (onV s r, 0)) (fun k => ?_) ?_
   ·simp only [bind_Apply.j0]
    rw [if_neg (by simp [hr]), hon]
    rfl
   ·by_cases h48 : 48 < (onV s r).length
    ·rw [if_pos h48]
     exact Ev.if_pos (by omega) (Ev.now _)
    ·rw [if_neg h48]
     exact Ev.if_neg (by omega) (Ev.now _)
  ·rw [if_neg (fun h => hr h.2)]
   have : (!decide (IsRow l r)) = true := by simp [hr]
   rw [this]
   exact jt
 ·rw [if_neg (fun h => hb h.1)]
  exact Ev.if_neg (by simpa using hb) jt
theorem applyV_ok {l : List S59} {s : List S66} {r : List Int} (h : (ApplyV l s r).2 = 0) : BindsOk l s ∧ IsRow l r ∧ (onV s r).length ≤ 48 ∧ ApplyV l s r = (onV s r, 0) := by
 unfold ApplyV at h ⊢
 split at h
 ·rename_i hc
  rw [if_pos hc]
  split at h
  ·cases h
  ·rename_i h48
   exact ⟨hc.1, hc.2, by omega, if_neg h48⟩
 ·cases h
end Go.Proofs.YteffiodbflmfkaaDoor.PP
