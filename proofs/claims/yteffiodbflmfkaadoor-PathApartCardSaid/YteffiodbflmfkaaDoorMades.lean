/- What growV and matchV tell, plainly: the first row with its variables put makes the second one. What binds make of a row, Match finds: plainly. -/
import Derived.Test.YteffiodbflmfkaaDoorMatchs
import Derived.Test.YteffiodbflmfkaaDoorBits
import Derived.Test.YteffiodbflmfkaaDoorPPx0
namespace Go.Proofs.YteffiodbflmfkaaDoor.PP
open Go Go.RowKit Go.Proofs.YteffiodbflmfkaaDoorW.PrintWords Go.Proofs.YteffiodbflmfkaaDoorW.PrintLast Go.Proofs.YteffiodbflmfkaaDoor
set_option linter.unusedVariables false
set_option linter.unusedSimpArgs false

/-- A code with the binds put: a variable's term. -/
def putS (σ : List (List Int)) (c : Int) : List Int := if 0 ≤ c then [c] else σ.getD (-1 - c).toNat []
theorem getD_set_same (σ : List (List Int)) (v : Nat) (t : List Int) (h : v < σ.length) : (σ.set v t).getD v [] = t := by simp [List.getD_eq_getElem?_getD, h]
theorem getD_set_other (σ : List (List Int)) (v u : Nat) (t : List Int) (h : u ≠ v) : (σ.set v t).getD u [] = σ.getD u [] := by
 rw [List.getD_eq_getElem?_getD, List.getD_eq_getElem?_getD, List.getElem?_set, if_neg (fun e => h e.symm)]
theorem grow_sound {l : List S59} {b : List Int} : ∀ (a : List Int) (i : Nat) (σ σ' : List (List Int)), i ≤ b.length → σ.length = 24 → (∀ c ∈ a, -24 ≤ c) → growV l b a i σ = some σ' →
  σ'.length = 24 ∧ (∀ v, σ.getD v [] ≠ [] → σ'.getD v [] = σ.getD v []) ∧ b.drop i = a.flatMap (putS σ') ∧ ∀ c ∈ a, c < 0 → isN (arS l) 1 (σ'.getD (-1 - c).toNat []) := by
 intro a
 induction a with
 | nil =>
  intro i σ σ' hi hl hc e
  simp only [growV] at e
  split at e
  ·rename_i h
   obtain rfl := Option.some.inj e
   exact ⟨hl, fun _ _ => rfl, by rw [h, List.drop_length]; rfl, fun c hc => absurd hc (by simp)⟩
  ·cases e
 | cons c a ih =>
  intro i σ σ' hi hl hc e
  simp only [growV] at e
  have hca : ∀ x ∈ a, -24 ≤ x := fun x hx => hc x (List.mem_cons_of_mem _ hx)
  split at e
  ·cases e
  ·rename_i hib
   have hib' : i < b.length := by omega
   split at e
   ·rename_i h0
    split at e
    ·rename_i hr
     obtain ⟨h1, h2, h3, h4⟩ := ih (i + 1) σ σ' (by omega) hl hca e
     refine ⟨h1, h2, ?_, ?_⟩
     ·rw [drop_cons b i hib', h3, hr]
      simp [putS, h0]
     ·intro x hx hx0
      rcases List.mem_cons.1 hx with rfl | hx
      ·omega
      ·exact h4 x hx hx0
    ·cases e
   ·rename_i h0
    have hcv : (-1 - c).toNat < 24 := by have := hc c (by simp); omega
    split at e
    ·cases e
    ·rename_i s hs
     obtain ⟨t, ht, htn⟩ := skipN_split _ _ _ hs
     have hsl : s.length ≤ b.length - i := by
      have := congrArg List.length ht
      rw [List.length_drop, List.length_append] at this
      omega
     have hlt : t.length = b.length - s.length - i := by
      have := congrArg List.length ht
      rw [List.length_drop, List.length_append] at this
      omega
     have htt : (b.take (b.length - s.length)).drop i = t := by
      rw [List.drop_take, ht, ← hlt]
      simp
     have hdd : b.drop (b.length - s.length) = s := by
      have : b.length - s.length = i + t.length := by omega
      rw [this, ← List.drop_drop, ht]
      simp
     have htp : t ≠ [] := by
      have := isN_pos htn
      intro e
      rw [e] at this
      simp at this
     rw [htt] at e
     have fin : ∀ (τ : List (List Int)), τ.length = 24 → (∀ v, σ.getD v [] ≠ [] → τ.getD v [] = σ.getD v []) → τ.getD (-1 - c).toNat [] = t → growV l b a (b.length - s.length) τ = some σ' →
       σ'.length = 24 ∧ (∀ v, σ.getD v [] ≠ [] → σ'.getD v [] = σ.getD v []) ∧ b.drop i = (c :: a).flatMap (putS σ') ∧ ∀ x ∈ c :: a, x < 0 → isN (arS l) 1 (σ'.getD (-1 - x).toNat []) := by
      intro τ hτl hτ hτc e
      obtain ⟨h1, h2, h3, h4⟩ := ih (b.length - s.length) τ σ' (by omega) hτl hca e
      have hv : σ'.getD (-1 - c).toNat [] = t := by
       rw [h2 _ (by rw [hτc]; exact htp), hτc]
      refine ⟨h1, fun v hv => ?_, ?_, ?_⟩
      ·rw [h2 v (by rw [hτ v hv]; exact hv), hτ v hv]
      ·rw [hdd] at h3
       rw [ht, h3, List.flatMap_cons]
       congr 1
       rw [putS, if_neg h0, hv]
      ·intro x hx hx0
       rcases List.mem_cons.1 hx with rfl | hx
       ·rw [hv]; exact htn
       ·exact h4 x hx hx0
     split at e
     ·rename_i hn
      refine fin _ (by rw [List.length_set]; exact hl) (fun v hv => ?_) (getD_set_same σ _ t (by omega)) e
      by_cases hvc : v = (-1 - c).toNat
      ·rw [hvc] at hv; exact absurd hn hv
      ·exact getD_set_other σ _ v t hvc
     ·split at e
      ·rename_i hn he
       exact fin σ hl (fun _ _ => rfl) he e
      ·cases e
end Go.Proofs.YteffiodbflmfkaaDoor.PP
namespace Go.Proofs.YteffiodbflmfkaaDoor.PP
open Go Go.RowKit Go.Proofs.YteffiodbflmfkaaDoorW.PrintWords Go.Proofs.YteffiodbflmfkaaDoorW.PrintLast Go.Proofs.YteffiodbflmfkaaDoor
set_option linter.unusedVariables false
set_option linter.unusedSimpArgs false
/-- What stands for the variables of a row, all of them filled in. -/
def fillV (θ : Int → List Int) : List Int → List (List Int) → List (List Int)
 | [], σ => σ
 | c :: a, σ => fillV θ a (if 0 ≤ c then σ else σ.set (-1 - c).toNat (θ c))
theorem set_self {σ : List (List Int)} {v : Nat} {t : List Int} (h : σ.getD v [] = t) (hv : v < σ.length) : σ.set v t = σ := by
 apply List.ext_getElem?
 intro j
 rw [List.getElem?_set]
 split
 ·rename_i e
  subst e
  rw [List.getD_eq_getElem?_getD, List.getElem?_eq_getElem hv] at h
  rw [List.getElem?_eq_getElem hv]
  simpa using h.symm
 ·rfl
theorem grow_made {l : List S59} {θ : Int → List Int} (hg : Good l θ) {b : List Int} : ∀ (a : List Int) (i : Nat) (σ : List (List Int)), i ≤ b.length → σ.length = 24 → (∀ c ∈ a, -24 ≤ c) → b.drop i = subV θ a →
  (∀ v, v < 24 → σ.getD v [] = [] ∨ σ.getD v [] = θ (-1 - (v : Int))) → growV l b a i σ = some (fillV θ a σ) := by
 intro a
 induction a with
 | nil =>
  intro i σ hi hl _ hb _
  have := congrArg List.length hb
  rw [List.length_drop] at this
  simp only [subV, List.length_nil] at this
  simp only [growV]
  rw [if_pos (by omega)]
  rfl
 | cons c a ih =>
  intro i σ hi hl hc hb hσ
  have hca : ∀ x ∈ a, -24 ≤ x := fun x hx => hc x (List.mem_cons_of_mem _ hx)
  have hclo := hc c (List.mem_cons_self ..)
  have hlen := congrArg List.length hb
  rw [List.length_drop] at hlen
  simp only [subV, List.length_append] at hlen hb
  simp only [growV, fillV]
  by_cases h0 : 0 ≤ c
  ·rw [subC_pos θ h0] at hb hlen
   simp only [List.length_cons, List.length_nil] at hlen
   have hlt : i < b.length := by omega
   rw [drop_cons b i hlt] at hb
   injection hb with e1 e2
   rw [if_neg (by omega), if_pos h0, if_pos h0, if_pos e1]
   exact ih (i + 1) σ (by omega) hl hca e2 hσ
  ·rw [subC_neg θ (by omega)] at hb hlen
   have hgc := hg c hclo (by omega)
   have hp := isN_pos hgc
   have hv : (-1 - c).toNat < 24 := by omega
   have hcv : -1 - (((-1 - c).toNat : Nat) : Int) = c := by omega
   have hrest : b.length - (subV θ a).length = i + (θ c).length := by omega
   have htk : (b.take (i + (θ c).length)).drop i = θ c := by
    rw [List.drop_take, hb, show i + (θ c).length - i = (θ c).length by omega]
    simp
   have hdr : b.drop (i + (θ c).length) = subV θ a := by rw [← List.drop_drop, hb]; simp
   have hsk : skipN (arS l) (b.drop i) 1 = some (subV θ a) := by rw [hb]; exact isN_skip hgc
   rw [if_neg (by omega), if_neg h0, if_neg h0, hsk]
   simp only
   rw [hrest, htk]
   have h1 := hσ _ hv
   rw [hcv] at h1
   have hset : ∀ v, v < 24 → (σ.set (-1 - c).toNat (θ c)).getD v [] = [] ∨ (σ.set (-1 - c).toNat (θ c)).getD v [] = θ (-1 - (v : Int)) := by
    intro v hv'
    by_cases e : v = (-1 - c).toNat
    ·subst e
     rw [getD_set_same σ _ _ (by omega), hcv]
     exact .inr rfl
    ·rw [getD_set_other σ _ v _ e]
     exact hσ v hv'
   by_cases hn : σ.getD (-1 - c).toNat [] = []
   ·rw [if_pos hn]
    exact ih _ _ (by omega) (by rw [List.length_set]; exact hl) hca hdr hset
   ·have h2 := h1.resolve_left hn
    rw [if_neg hn, if_pos h2, set_self h2 (by omega)]
    exact ih _ _ (by omega) hl hca hdr hσ
/-- What Match tells of a row and what binds make of it. -/
theorem match_made {l : List S59} {θ : Int → List Int} (hg : Good l θ) {a : List Int} (ha : IsRow l a) (hlen : (subV θ a).length ≤ 48) :
  matchV l a (subV θ a) = (listTo (fillV θ a (List.replicate 24 [])) 24, true, 0) := by
 obtain ⟨n, hn⟩ := ha
 have hb : IsRow l (subV θ a) := ⟨n, hn.1, hlen, subV_isN hg a n hn.2.2⟩
 rw [matchV_ok ⟨n, hn⟩ hb, grow_made hg a 0 (List.replicate 24 []) (by omega) List.length_replicate (fun c hc => (codes_row hn.2.2 c hc).1) rfl]
 intro v hv
 left
 rw [List.getD_eq_getElem?_getD, List.getElem?_replicate, if_pos hv]
 rfl
/-! the list that is told -/
end Go.Proofs.YteffiodbflmfkaaDoor.PP
