/- PathWays, plainly. -/
import Derived.Test.YteffiodbflmfkaaDoorWantPathWays
import Derived.Test.YteffiodbflmfkaaDoorAwake12
import Derived.Test.YteffiodbflmfkaaDoorPPx0
import Derived.Test.YteffiodbflmfkaaDoorPPx6
import Derived.Test.YteffiodbflmfkaaDoorPPx8
import Derived.Test.YteffiodbflmfkaaDoorPPx27
namespace Go.Proofs.YteffiodbflmfkaaDoor.PP
open Go Go.RowKit Go.Proofs.YteffiodbflmfkaaDoorW.PrintWords Go.Proofs.YteffiodbflmfkaaDoorW.PrintLast Go.Proofs.YteffiodbflmfkaaDoor
set_option linter.unusedVariables false
set_option linter.unusedSimpArgs false
theorem among_loop (xs : List Int) (x : Int) (hl : xs.length ≤ 17592186044416) : ∀ (d i : Nat), xs.length - i = d → i ≤ xs.length → Ev (fun k => quaerelaw12_among.l0 k xs x (i : Int)) (decide (x ∈ xs.drop i)) := by
 intro d
 induction d with
 | zero =>
  intro i hd hi
  obtain rfl : i = xs.length := by omega
  exact Ev.step (fun k => rfl) (Ev.if_neg (by omega) (Ev.some_ (by simp)))
 | succ d ih =>
  intro i hd hi
  have hlt : i < xs.length := by omega
  have hdr := drop_cons xs i hlt
  refine Ev.step (fun k => rfl) (Ev.if_pos (by omega) (Ev.if_pos (by omega) ?_))
  rw [hdr, wrap_nat i (by omega)]
  by_cases h : rd xs (i : Int) = x
  ·exact Ev.if_pos h (Ev.some_ (by simp [h]))
  ·refine Ev.if_neg h ?_
   have e : decide (x ∈ rd xs (i : Int) :: xs.drop (i + 1)) = decide (x ∈ xs.drop (i + 1)) := by
    have : (x ∈ rd xs (i : Int) :: xs.drop (i + 1)) ↔ x ∈ xs.drop (i + 1) := by
     rw [List.mem_cons]
     exact ⟨fun k => k.resolve_left (fun e => h e.symm), .inr⟩
    simp only [this]
   rw [e]
   exact ih (i + 1) (by omega) (by omega)
theorem among_ev (xs : List Int) (x : Int) (hl : xs.length ≤ 17592186044416) : Ev (fun k => quaerelaw12_among.f k xs x) (decide (x ∈ xs)) := by
 have := among_loop xs x hl xs.length 0 rfl (Nat.zero_le _)
 rw [List.drop_zero] at this
 exact this
theorem among_idx {p : List Int → Bool} {ts : List (List Int)} {i : Nat} (hi : i < ts.length) : decide ((i : Int) ∈ idxV p 0 ts) = p ts[i] := by
 have h := idxV_mem p ts 0 i
 rw [Nat.sub_zero, List.getElem?_eq_getElem hi] at h
 by_cases hp : p ts[i] = true
 ·rw [hp]
  exact decide_eq_true (h.2 ⟨_, Nat.zero_le _, rfl, hp⟩)
 ·rw [Bool.eq_false_iff.2 hp]
  refine decide_eq_false (fun k => ?_)
  obtain ⟨u, _, e, h3⟩ := h.1 k
  obtain rfl := Option.some.inj e
  exact hp h3
theorem find_one {l : List S59} {t u : List Int} (ht : TextT l t) (hu : TextT l u) {way : Int} (h0 : 0 ≤ way) (h1 : way ≤ 2) : findPV l [t] u way = (if fitsV l t u way = true then [0] else [], 0) := by
 have hb : ¬ badT l [t] := by
  rintro ⟨v, hv, _, h3⟩
  obtain rfl := List.mem_singleton.1 hv
  exact h3 ht
 have e : findPV l [t] u way = (idxV (hitV l u way) 0 [t], 0) := if_pos ⟨h0, h1, hu, hb⟩
 have hh : hitV l u way t = fitsV l t u way := if_neg (textT_ne ht)
 rw [e]
 by_cases hf : fitsV l t u way = true
 ·rw [if_pos hf, idxV_yes (by rw [hh]; exact hf)]
  rfl
 ·rw [if_neg hf, idxV_no (by rw [hh]; exact hf)]
  rfl
theorem one_len (b : Bool) : ((((if b = true then [0] else [] : List Int)).length : Int) == 1) = b := by cases b <;> rfl
section
variable {l : List S59} {ts : List (List Int)} {t : List Int}
theorem ways_j2 (hl : ts.length ≤ 5864062014806) (ht : TextT l t) {i : Nat} (hi : i < ts.length) (hu : TextT l ts[i]) (x : Bool) (hx : x = false) (R : Bool)
  (h : Ev (fun k => quaerelaw12_PathWays.l0 k l ts t (idxV (hitV l t 0) 0 ts) (idxV (hitV l t 1) 0 ts) (idxV (hitV l t 2) 0 ts) ((i + 1 : Nat) : Int)) R) :
  Ev (fun k => quaerelaw12_PathWays.j2 k l ts t (idxV (hitV l t 0) 0 ts) (idxV (hitV l t 1) 0 ts) (idxV (hitV l t 2) 0 ts) (i : Int) x) R := by
 have hrd : rd_L3 ts (i : Int) = ts[i] := by
  unfold rd_L3
  rw [Int.toNat_natCast, List.getD_eq_getElem?_getD, List.getElem?_eq_getElem hi]
  rfl
 have n1 := idxV_len (hitV l t 1) ts 0
 have n0 := idxV_len (hitV l t 0) ts 0
 have f2 := findP_ev l [t] ts[i] 2 (by simp)
 have f0 := findP_ev l [t] ts[i] 0 (by simp)
 rw [find_one ht hu (by decide) (by decide)] at f2
 rw [find_one ht hu (by decide) (by decide)] at f0
 have e2 : fitsV l t ts[i] 2 = hitV l t 1 ts[i] := by
  unfold hitV fitsV
  rw [if_neg (by decide), if_neg (by decide), if_neg (textT_ne hu), if_neg (by decide), if_pos rfl]
 have e0 : fitsV l t ts[i] 0 = hitV l t 0 ts[i] := by
  unfold hitV fitsV
  rw [if_pos rfl, if_neg (textT_ne hu), if_pos rfl]
  exact unite_symm hu ht
 rw [e2] at f2
 rw [e0] at f0
 refine Ev.step (fun k => rfl) (Ev.if_neg (by rw [hx]; decide) (Ev.if_pos (by omega) (Ev.if_pos (by omega) ?_)))
 rw [hrd]
 refine Ev.bind f2 (Ev.bind f0 ?_)
 simp only [quaerelaw0_Num.f, Option.bind_some]
 refine Ev.if_pos trivial (Ev.if_pos trivial ?_)
 refine Ev.bind (among_ev _ _ (by omega)) ?_
 rw [among_idx hi, one_len]
 refine Ev.if_neg (by simp) (Ev.bind (among_ev _ _ (by omega)) ?_)
 rw [among_idx hi, one_len, wrap_nat i (by omega)]
 exact Ev.if_neg (by simp) h
theorem ways_loop (hl : ts.length ≤ 5864062014806) (ht : TextT l t) (hb : ¬ badT l ts) : ∀ (d i : Nat), ts.length - i = d → i ≤ ts.length →
  Ev (fun k => quaerelaw12_PathWays.l0 k l ts t (idxV (hitV l t 0) 0 ts) (idxV (hitV l t 1) 0 ts) (idxV (hitV l t 2) 0 ts) (i : Int)) true := by
 intro d
 induction d with
 | zero =>
  intro i hd hi
  exact Ev.step (fun k => rfl) (Ev.if_neg (by omega) (Ev.some_ rfl))
 | succ d ih =>
  intro i hd hi
  have hlt : i < ts.length := by omega
  have hrd : rd_L3 ts (i : Int) = ts[i] := by
   unfold rd_L3
   rw [Int.toNat_natCast, List.getD_eq_getElem?_getD, List.getElem?_eq_getElem hlt]
   rfl
  have n0 := idxV_len (hitV l t 0) ts 0
  have n1 := idxV_len (hitV l t 1) ts 0
  have n2 := idxV_len (hitV l t 2) ts 0
  have a0 := among_ev (idxV (hitV l t 0) 0 ts) (i : Int) (by omega)
  have a1 := among_ev (idxV (hitV l t 1) 0 ts) (i : Int) (by omega)
  have a2 := among_ev (idxV (hitV l t 2) 0 ts) (i : Int) (by omega)
  rw [among_idx hlt] at a0 a1 a2
  have h1 := ih (i + 1) (by omega) (by omega)
  refine Ev.step (fun k => rfl) (Ev.if_pos (by omega) (Ev.if_pos (by omega) ?_))
  rw [hrd]
  by_cases he : ts[i] = []
  ·have hh : ∀ way, hitV l t way ts[i] = false := fun way => if_pos he
   rw [hh] at a0 a1 a2
   refine Ev.if_pos (by rw [he]; rfl) (Ev.bind a0 (Ev.if_neg (by decide) (Ev.bind a1 (Ev.if_neg (by decide) (Ev.bind a2 (Ev.if_neg (by decide) ?_))))))
   rw [wrap_nat i (by omega)]
   exact h1
  ·have hu : TextT l ts[i] := Classical.byContradiction fun h => hb ⟨ts[i], List.getElem_mem _, he, h⟩
   have hpos := List.length_pos_iff.2 he
   have e1 : hitV l t 1 ts[i] = becomesV l t ts[i] := by
    unfold hitV fitsV
    rw [if_neg he, if_neg (by decide), if_pos rfl]
   have e2 : hitV l t 2 ts[i] = becomesV l ts[i] t := by
    unfold hitV fitsV
    rw [if_neg he, if_neg (by decide), if_neg (by decide)]
   have e0 : hitV l t 0 ts[i] = uniteV l t ts[i] := by
    unfold hitV fitsV
    rw [if_neg he, if_pos rfl]
   have i1 : hitV l t 1 ts[i] = true → hitV l t 0 ts[i] = true := fun h => by
    rw [e1] at h
    rw [e0]
    exact becomes_unite ht hu h
   have i2 : hitV l t 2 ts[i] = true → hitV l t 0 ts[i] = true := fun h => by
    rw [e2] at h
    rw [e0, unite_symm ht hu]
    exact becomes_unite hu ht h
   have fin : ∀ x, x = false → Ev (fun k => quaerelaw12_PathWays.j2 k l ts t (idxV (hitV l t 0) 0 ts) (idxV (hitV l t 1) 0 ts) (idxV (hitV l t 2) 0 ts) (i : Int) x) true := fun x hx => ways_j2 hl ht hlt hu x hx true h1
   refine Ev.if_neg (by omega) (Ev.bind a1 ?_)
   have tail : Ev (fun k => (quaerelaw12_among.f k (idxV (hitV l t 2) 0 ts) (i : Int)).bind fun t485 => if t485 = true then (quaerelaw12_among.f k (idxV (hitV l t 0) 0 ts) (i : Int)).bind fun t486 => quaerelaw12_PathWays.j2 k l ts t (idxV (hitV l t 0) 0 ts) (idxV (hitV l t 1) 0 ts) (idxV (hitV l t 2) 0 ts) (i : Int) (!t486) else quaerelaw12_PathWays.j2 k l ts t (idxV (hitV l t 0) 0 ts) (idxV (hitV l t 1) 0 ts) (idxV (hitV l t 2) 0 ts) (i : Int) false) true := by
    refine Ev.bind a2 ?_
    by_cases h2 : hitV l t 2 ts[i] = true
    ·exact Ev.if_pos h2 (Ev.bind a0 (fin _ (by rw [i2 h2]; rfl)))
    ·exact Ev.if_neg h2 (fin _ rfl)
   by_cases h3 : hitV l t 1 ts[i] = true
   ·exact Ev.if_pos h3 (Ev.bind a0 (Ev.if_pos (i1 h3) tail))
   ·exact Ev.if_neg h3 tail
end
theorem quaerelaw12_PathWays.pure : quaerelaw12_PathWays.Pure := by
 classical
 intro l ts t _ hts _
 have hl : ts.length ≤ 5864062014806 := by have := hts.1; omega
 refine Ev.get (r := true) ?_
 unfold quaerelaw12_PathWays.f
 refine Ev.bind awake12_ev (Ev.if_pos rfl (Ev.bind (findP_ev l ts t 0 (by omega)) (Ev.bind (findP_ev l ts t 1 (by omega)) (Ev.bind (findP_ev l ts t 2 (by omega)) ?_))))
 simp only [quaerelaw0_Num.f, Option.bind_some]
 have hj : ∀ x : Bool, x = false → TextT l t → ¬ badT l ts → Ev (fun k => quaerelaw12_PathWays.j0 k l ts t (idxV (hitV l t 0) 0 ts) (idxV (hitV l t 1) 0 ts) (idxV (hitV l t 2) 0 ts) x) true := fun x hx ht hb =>
  Ev.step (fun k => rfl) (Ev.if_neg (by rw [hx]; decide) (ways_loop hl ht hb ts.length 0 rfl (Nat.zero_le _)))
 by_cases h : TextT l t ∧ ¬ badT l ts
 ·have e : ∀ way, 0 ≤ way → way ≤ 2 → findPV l ts t way = (idxV (hitV l t way) 0 ts, 0) := fun way h0 h1 => if_pos ⟨h0, h1, h.1, h.2⟩
  rw [e 0 (by decide) (by decide), e 1 (by decide) (by decide), e 2 (by decide) (by decide)]
  exact Ev.if_pos rfl (Ev.if_pos rfl (hj _ rfl h.1 h.2))
 ·have e : ∀ way, findPV l ts t way = ([], 1200) := fun way => if_neg (fun k => h ⟨k.2.2.1, k.2.2.2⟩)
  rw [e 0, e 1, e 2]
  exact Ev.if_neg (by decide) (Ev.if_pos rfl (Ev.if_pos rfl (Ev.some_ (by first | decide | rfl | kernel_rfl))))
end Go.Proofs.YteffiodbflmfkaaDoor.PP
