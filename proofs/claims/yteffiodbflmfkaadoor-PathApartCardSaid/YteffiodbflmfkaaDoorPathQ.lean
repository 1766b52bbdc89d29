/- What is an instance can be made the same; plainly. -/
import Derived.Test.YteffiodbflmfkaaDoorPathP
import Derived.Test.YteffiodbflmfkaaDoorMades
import Derived.Test.YteffiodbflmfkaaDoorUniLs
import Derived.Test.YteffiodbflmfkaaDoorPPx0
namespace Go.Proofs.YteffiodbflmfkaaDoor.PP
open Go Go.RowKit Go.Proofs.YteffiodbflmfkaaDoorW.PrintWords Go.Proofs.YteffiodbflmfkaaDoorW.PrintLast Go.Proofs.YteffiodbflmfkaaDoor
set_option linter.unusedVariables false
set_option linter.unusedSimpArgs false
/-! other variables -/
theorem sub_map {f : Int → Int} {θ η : Int → List Int} : ∀ (r : List Int), (∀ c ∈ r, subC θ (f c) = subC η c) → subV θ (r.map f) = subV η r
 | [], _ => rfl
 | c :: r, h => by
  simp only [List.map_cons, subV]
  rw [h c (List.mem_cons_self ..), sub_map r (fun d hd => h d (List.mem_cons_of_mem _ hd))]
theorem sub_then_map {f : Int → Int} {θ η : Int → List Int} : ∀ (r : List Int), (∀ c ∈ r, subC η c = (subC θ c).map f) → subV η r = (subV θ r).map f
 | [], _ => rfl
 | c :: r, h => by
  simp only [subV, List.map_append]
  rw [h c (List.mem_cons_self ..), sub_then_map r (fun d hd => h d (List.mem_cons_of_mem _ hd))]
theorem sh_lo {l : List S59} {n : Nat} {r : List Int} (hr : isN (arS l) n r) : ∀ c ∈ r, -24 ≤ c := fun c hc => (codes_row hr c hc).1
/-- The one becomes the other: they can be made the same. -/
theorem apart_inst {l : List S59} {a b : List Int} {n m : Nat} {θ : Int → List Int} (ha : isN (arS l) n a) (hb : isN (arS l) m b) (hg : Good l θ) (he : subV θ a = b) : apartV l a b = true := by
 refine apartV_yes (θ := fun c => if -24 ≤ c then (θ c).map (shC 24) else [c]) ?_ ?_
 ·intro c hc har
  show isN (arU l) 1 (if -24 ≤ c then (θ c).map (shC 24) else [c])
  split
  ·rename_i h
   exact lg_isN (.inr rfl) _ _ (hg c h hc)
  ·exact isN_cons.2 ⟨0, arU_neg (arU_lo hc har) hc, isN_nil⟩
 ·have e1 : subV (fun c => if -24 ≤ c then (θ c).map (shC 24) else [c]) a = (subV θ a).map (shC 24) := sub_then_map a (fun c hc => by
   by_cases h0 : 0 ≤ c
   ·rw [subC_pos _ h0, subC_pos _ h0]
    show [c] = [shC 24 c]
    rw [shC_pos h0]
   ·rw [subC_neg _ (by omega), subC_neg _ (by omega)]
    exact if_pos (sh_lo ha c hc))
  rw [e1, he]
  refine (sub_id _ (fun c hc h0 => ?_)).symm
  obtain ⟨d, hd, rfl⟩ := List.mem_map.1 hc
  have hd0 := shC_lt.1 h0
  rw [shC_neg hd0] at h0 ⊢
  exact if_neg (by omega)
theorem apart_gen {l : List S59} {a b : List Int} {n m : Nat} {θ : Int → List Int} (ha : isN (arS l) n a) (hb : isN (arS l) m b) (hg : Good l θ) (he : subV θ b = a) : apartV l a b = true := by
 refine apartV_yes (θ := fun c => if -24 ≤ c then [c] else θ (c + 24)) ?_ ?_
 ·intro c hc har
  have := arU_lo hc har
  show isN (arU l) 1 (if -24 ≤ c then [c] else θ (c + 24))
  split
  ·exact isN_cons.2 ⟨0, arU_neg (arU_lo hc har) hc, isN_nil⟩
  ·exact arU_isN (hg (c + 24) (by omega) (by omega))
 ·have e1 : subV (fun c => if -24 ≤ c then [c] else θ (c + 24)) a = a := sub_id a (fun c hc h0 => if_pos (sh_lo ha c hc))
  rw [e1, sub_map (f := shC 24) (η := θ) b (fun c hc => by
   by_cases h0 : 0 ≤ c
   ·rw [shC_pos h0, subC_pos _ h0, subC_pos _ h0]
   ·have := sh_lo hb c hc
    rw [shC_neg (by omega), subC_neg _ (by omega), subC_neg _ (by omega)]
    show (if -24 ≤ c - ((24 : Nat) : Int) then [c - ((24 : Nat) : Int)] else θ (c - ((24 : Nat) : Int) + 24)) = θ c
    rw [if_neg (by omega), show c - ((24 : Nat) : Int) + 24 = c by omega]), he]
theorem apart_symm1 {l : List S59} {a b : List Int} {n m : Nat} (ha : isN (arS l) n a) (hb : isN (arS l) m b) (h : apartV l a b = true) : apartV l b a = true := by
 classical
 obtain ⟨θ, hg, he⟩ := of_decide_eq_true h
 refine apartV_yes (θ := fun c => if -24 ≤ c then θ (c - 24) else θ (c + 24)) ?_ ?_
 ·intro c hc har
  have := arU_lo hc har
  show isN (arU l) 1 (if -24 ≤ c then θ (c - 24) else θ (c + 24))
  split
  ·exact hg (c - 24) (by omega) (by rw [arU_neg (by omega) (by omega)]; simp)
  ·exact hg (c + 24) (by omega) (by rw [arU_neg (by omega) (by omega)]; simp)
 ·have e1 : subV (fun c => if -24 ≤ c then θ (c - 24) else θ (c + 24)) b = subV θ (b.map (shC 24)) := (sub_map (f := shC 24) b (fun c hc => by
   by_cases h0 : 0 ≤ c
   ·rw [shC_pos h0, subC_pos _ h0, subC_pos _ h0]
   ·have := sh_lo hb c hc
    rw [shC_neg (by omega), subC_neg _ (by omega), subC_neg _ (by omega)]
    show θ (c - ((24 : Nat) : Int)) = if -24 ≤ c then θ (c - 24) else θ (c + 24)
    rw [if_pos this]
    rfl)).symm
  rw [e1, ← he, sub_map (f := shC 24) (η := θ) a (fun c hc => by
   by_cases h0 : 0 ≤ c
   ·rw [shC_pos h0, subC_pos _ h0, subC_pos _ h0]
   ·have := sh_lo ha c hc
    rw [shC_neg (by omega), subC_neg _ (by omega), subC_neg _ (by omega)]
    show (if -24 ≤ c - ((24 : Nat) : Int) then θ (c - ((24 : Nat) : Int) - 24) else θ (c - ((24 : Nat) : Int) + 24)) = θ c
    rw [if_neg (by omega), show c - ((24 : Nat) : Int) + 24 = c by omega])]
theorem apart_symm {l : List S59} {a b : List Int} {n m : Nat} (ha : isN (arS l) n a) (hb : isN (arS l) m b) : apartV l a b = apartV l b a := by
 cases h : apartV l a b with
 | true => exact (apart_symm1 ha hb h).symm
 | false =>
  cases h2 : apartV l b a with
  | false => rfl
  | true => rw [apart_symm1 hb ha h2] at h; cases h
/-! what Grow finds -/
theorem grow_shift {l : List S59} {c : Int} {b : List Int} : ∀ (a : List Int) (i : Nat) (σ : List (List Int)), growV l (c :: b) a (i + 1) σ = growV l b a i σ := by
 intro a
 induction a with
 | nil => intro i σ; simp only [growV, List.length_cons]; simp
 | cons d a ih =>
  intro i σ
  have e1 : (c :: b).length ≤ i + 1 ↔ b.length ≤ i := by simp only [List.length_cons]; omega
  have e2 : rd (c :: b) ((i + 1 : Nat) : Int) = rd b (i : Int) := by
   by_cases h : i < b.length
   ·rw [rd_nat _ _ (by simp only [List.length_cons]; omega), rd_nat b i h]
    rfl
   ·unfold rd
    simp only [Int.toNat_natCast]
    simp
  simp only [growV, e1, e2, List.drop_succ_cons]
  by_cases h1 : b.length ≤ i
  ·rw [if_pos h1, if_pos h1]
  ·rw [if_neg h1, if_neg h1]
   by_cases h2 : 0 ≤ d
   ·rw [if_pos h2, if_pos h2, ih]
   ·rw [if_neg h2, if_neg h2]
    cases hsk : skipN (arS l) (b.drop i) 1 with
    | none => rfl
    | some s =>
     obtain ⟨t_, ht_, _⟩ := skipN_split _ _ _ hsk
     have hs := congrArg List.length ht_
     rw [List.length_drop, List.length_append] at hs
     have e3 : (c :: b).length - s.length = (b.length - s.length) + 1 := by simp only [List.length_cons]; omega
     simp only [e3, List.take_succ_cons, List.drop_succ_cons, ih]
theorem grow_head {l : List S59} {p q : Int} {a b : List Int} (hp : 0 ≤ p) (σ : List (List Int)) : growV l (q :: b) (p :: a) 0 σ = if q = p then growV l b a 0 σ else none := by
 simp only [growV, List.length_cons]
 rw [if_neg (by omega), if_pos hp]
 have e : rd (q :: b) ((0 : Nat) : Int) = q := rfl
 rw [e]
 split
 ·exact grow_shift a 0 σ
 ·rfl
theorem grow_inst {l : List S59} {a b : List Int} {n : Nat} {σ : List (List Int)} (ha : isN (arS l) n a) (h : growV l b a 0 (List.replicate 24 []) = some σ) : ∃ θ, Good l θ ∧ subV θ a = b := by
 have hlo := sh_lo ha
 obtain ⟨_, _, h3, h4⟩ := grow_sound a 0 _ σ (Nat.zero_le _) List.length_replicate hlo h
 refine ⟨fun c => if c ∈ a then σ.getD (-1 - c).toNat [] else [c], fun c h0 h1 => ?_, ?_⟩
 ·show isN (arS l) 1 (if c ∈ a then σ.getD (-1 - c).toNat [] else [c])
  split
  ·rename_i hc; exact h4 c hc h1
  ·exact isN_cons.2 ⟨0, arS_var0 h0 h1, isN_nil⟩
 ·rw [List.drop_zero] at h3
  rw [h3]
  have : ∀ r : List Int, (∀ c ∈ r, c ∈ a) → subV (fun c => if c ∈ a then σ.getD (-1 - c).toNat [] else [c]) r = r.flatMap (putS σ) := by
   intro r
   induction r with
   | nil => intro _; rfl
   | cons c r ih =>
    intro hr
    simp only [subV, List.flatMap_cons]
    rw [ih (fun x hx => hr x (List.mem_cons_of_mem _ hx))]
    congr 1
    unfold subC putS
    by_cases h0 : 0 ≤ c
    ·rw [if_pos h0, if_pos h0]
    ·rw [if_neg h0, if_neg h0]
     exact if_pos (hr c (List.mem_cons_self ..))
  exact this a (fun _ h => h)
theorem becomes_cases {l : List S59} {a b : List Int} (ha : TextT l a) (hb : TextT l b) (h : becomesV l a b = true) : (Row l 1 a ∧ Row l 1 b ∧ ∃ θ, Good l θ ∧ subV θ a = b) ∨ (Atom l a ∧ Atom l b ∧ rd a 0 = rd b 0 ∧ ∃ θ, Good l θ ∧ subV θ (a.drop 1) = b.drop 1) := by
 classical
 unfold becomesV at h
 split at h
 ·rename_i hd
  obtain ⟨σ, hσ⟩ := Option.isSome_iff_exists.1 h
  rcases ha.2 with h1 | h1
  ·have h2 : Row l 1 b := of_decide_eq_true (hd ▸ decide_eq_true h1)
   exact .inl ⟨h1, h2, grow_inst h1.2.2 hσ⟩
  ·have h2 : Atom l b := hb.2.resolve_left (fun h => by
    rw [decide_eq_true h] at hd
    exact atom_row h1 (of_decide_eq_true hd))
   obtain ⟨p, r, rfl, h0, _, _, hr⟩ := id h1
   obtain ⟨q, s, rfl, _, _, _, hs⟩ := id h2
   rw [grow_head h0] at hσ
   split at hσ
   ·rename_i e
    subst e
    exact .inr ⟨h1, h2, rfl, grow_inst hr.2.2 hσ⟩
   ·cases hσ
 ·cases h
theorem unite_term {l : List S59} {a b : List Int} (h1 : Row l 1 a) (h2 : Row l 1 b) : uniteV l a b = apartV l a b := if_pos ⟨h1, h2⟩
theorem unite_atom {l : List S59} {a b : List Int} (h1 : Atom l a) (h2 : Atom l b) (h : rd a 0 = rd b 0) : uniteV l a b = apartV l (a.drop 1) (b.drop 1) := by
 unfold uniteV
 rw [if_neg (fun k => atom_row h1 k.1), if_pos ⟨h, h1, h2⟩]
theorem unite_no {l : List S59} {a b : List Int} (h1 : ¬ (Row l 1 a ∧ Row l 1 b)) (h2 : ¬ (rd a 0 = rd b 0 ∧ Atom l a ∧ Atom l b)) : uniteV l a b = false := by
 unfold uniteV
 rw [if_neg h1, if_neg h2]
theorem unite_symm {l : List S59} {a b : List Int} (ha : TextT l a) (hb : TextT l b) : uniteV l a b = uniteV l b a := by
 by_cases h : Row l 1 a ∧ Row l 1 b
 ·rw [unite_term h.1 h.2, unite_term h.2 h.1]
  exact apart_symm h.1.2.2 h.2.2.2
 ·by_cases h2 : rd a 0 = rd b 0 ∧ Atom l a ∧ Atom l b
  ·rw [unite_atom h2.2.1 h2.2.2 h2.1, unite_atom h2.2.2 h2.2.1 h2.1.symm]
   obtain ⟨n, hn⟩ := atom_rest h2.2.1
   obtain ⟨m, hm⟩ := atom_rest h2.2.2
   exact apart_symm hn.2.2 hm.2.2
  ·rw [unite_no h h2, unite_no (fun k => h ⟨k.2, k.1⟩) (fun k => h2 ⟨k.1.symm, k.2.2, k.2.1⟩)]
theorem becomes_unite {l : List S59} {a b : List Int} (ha : TextT l a) (hb : TextT l b) (h : becomesV l a b = true) : uniteV l a b = true := by
 rcases becomes_cases ha hb h with ⟨h1, h2, θ, hg, he⟩ | ⟨h1, h2, h3, θ, hg, he⟩
 ·rw [unite_term h1 h2]
  exact apart_inst h1.2.2 h2.2.2 hg he
 ·rw [unite_atom h1 h2 h3]
  obtain ⟨n, hn⟩ := atom_rest h1
  obtain ⟨m, hm⟩ := atom_rest h2
  exact apart_inst hn.2.2 hm.2.2 hg he
end Go.Proofs.YteffiodbflmfkaaDoor.PP
