/- What binds make of a row, Match finds: plainly. -/
import Derived.Test.YtohclkafdphleaaDoorGrown
import Derived.Test.YtohclkafdphleaaDoorSub
import Derived.Test.YtohclkafdphleaaDoorPUx0
namespace Go.Proofs.YtohclkafdphleaaDoor.PU
open Go Go.RowKit Go.Proofs.YtohclkafdphleaaDoorW.PrintWords Go.Proofs.YtohclkafdphleaaDoorW.PrintLast Go.Proofs.YtohclkafdphleaaDoor
set_option linter.unusedVariables false
set_option linter.unusedSimpArgs false
/-- What stands for the variables of a row, all of them filled in. -/
def fillV (θ : Int → List Int) : List Int → List (List Int) → List (List Int)
  | [], σ => σ
  | c :: a, σ => fillV θ a (if 0 ≤ c then σ else σ.set (-1 - c).toNat (θ c))
theorem fillV_len (θ : Int → List Int) : ∀ (a : List Int) (σ : List (List Int)), (fillV θ a σ).length = σ.length := by
  intro a
  induction a with
  | nil => intro σ; rfl
  | cons c a ih =>
    intro σ
    simp only [fillV]
    rw [ih]
    split
    · rfl
    · rw [List.length_set]
theorem fillV_at (θ : Int → List Int) : ∀ (a : List Int) (σ : List (List Int)) (v : Nat), v < σ.length → (fillV θ a σ).getD v [] = if -1 - (v : Int) ∈ a then θ (-1 - (v : Int)) else σ.getD v [] := by
  intro a
  induction a with
  | nil => intro σ v _; simp [fillV]
  | cons c a ih =>
    intro σ v hv
    simp only [fillV]
    by_cases hc : 0 ≤ c
    · rw [if_pos hc, ih σ v hv]
      by_cases hm : -1 - (v : Int) ∈ a
      · rw [if_pos hm, if_pos (List.mem_cons_of_mem _ hm)]
      · rw [if_neg hm, if_neg (fun h => (List.mem_cons.1 h).elim (fun e => by omega) hm)]
    · rw [if_neg hc, ih _ v (by rw [List.length_set]; exact hv)]
      by_cases hm : -1 - (v : Int) ∈ a
      · rw [if_pos hm, if_pos (List.mem_cons_of_mem _ hm)]
      · rw [if_neg hm]
        by_cases he : -1 - (v : Int) = c
        · rw [if_pos (by rw [he]; exact List.mem_cons_self ..)]
          have : (-1 - c).toNat = v := by omega
          rw [this, getD_set_same σ v _ hv, he]
        · rw [if_neg (fun h => (List.mem_cons.1 h).elim he hm), getD_set_other σ _ v _ (by omega)]
theorem set_self {σ : List (List Int)} {v : Nat} {t : List Int} (h : σ.getD v [] = t) (hv : v < σ.length) : σ.set v t = σ := by
  apply List.ext_getElem?
  intro j
  rw [List.getElem?_set]
  split
  · rename_i e
    subst e
    rw [List.getD_eq_getElem?_getD, List.getElem?_eq_getElem hv] at h
    rw [List.getElem?_eq_getElem hv]
    simpa using h.symm
  · rfl
theorem grow_made {l : List S73} {θ : Int → List Int} (hg : Good l θ) {b : List Int} : ∀ (a : List Int) (i : Nat) (σ : List (List Int)), i ≤ b.length → σ.length = 24 → (∀ c ∈ a, -24 ≤ c) → b.drop i = subV θ a →
    (∀ v, v < 24 → σ.getD v [] = [] ∨ σ.getD v [] = θ (-1 - (v : Int))) → growV l b a i σ = some (fillV θ a σ) := by
  intro a
  induction a with
  | nil =>
    intro i σ hi hl _ hb _
    have := congrArg List.length hb
    rw [List.length_drop] at this
    simp only [subV, List.length_nil] at this
    simp only [growV]
    rw [if_pos (by omega)]
    rfl
  | cons c a ih =>
    intro i σ hi hl hc hb hσ
    have hca : ∀ x ∈ a, -24 ≤ x := fun x hx => hc x (List.mem_cons_of_mem _ hx)
    have hclo := hc c (List.mem_cons_self ..)
    have hlen := congrArg List.length hb
    rw [List.length_drop] at hlen
    simp only [subV, List.length_append] at hlen hb
    simp only [growV, fillV]
    by_cases h0 : 0 ≤ c
    · rw [subC_pos θ h0] at hb hlen
      simp only [List.length_cons, List.length_nil] at hlen
      have hlt : i < b.length := by omega
      rw [drop_cons b i hlt] at hb
      injection hb with e1 e2
      rw [if_neg (by omega), if_pos h0, if_pos h0, if_pos e1]
      exact ih (i + 1) σ (by omega) hl hca e2 hσ
    · rw [subC_neg θ (by omega)] at hb hlen
      have hgc := hg c hclo (by omega)
      have hp := isN_pos hgc
      have hv : (-1 - c).toNat < 24 := by omega
      have hcv : -1 - (((-1 - c).toNat : Nat) : Int) = c := by omega
      have hrest : b.length - (subV θ a).length = i + (θ c).length := by omega
      have htk : (b.take (i + (θ c).length)).drop i = θ c := by
        rw [List.drop_take, hb, show i + (θ c).length - i = (θ c).length by omega]
        simp
      have hdr : b.drop (i + (θ c).length) = subV θ a := by rw [← List.drop_drop, hb]; simp
      have hsk : skipN (arS l) (b.drop i) 1 = some (subV θ a) := by rw [hb]; exact isN_skip hgc
      rw [if_neg (by omega), if_neg h0, if_neg h0, hsk]
      simp only
      rw [hrest, htk]
      have h1 := hσ _ hv
      rw [hcv] at h1
      have hset : ∀ v, v < 24 → (σ.set (-1 - c).toNat (θ c)).getD v [] = [] ∨ (σ.set (-1 - c).toNat (θ c)).getD v [] = θ (-1 - (v : Int)) := by
        intro v hv'
        by_cases e : v = (-1 - c).toNat
        · subst e
          rw [getD_set_same σ _ _ (by omega), hcv]
          exact .inr rfl
        · rw [getD_set_other σ _ v _ e]
          exact hσ v hv'
      by_cases hn : σ.getD (-1 - c).toNat [] = []
      · rw [if_pos hn]
        exact ih _ _ (by omega) (by rw [List.length_set]; exact hl) hca hdr hset
      · have h2 := h1.resolve_left hn
        rw [if_neg hn, if_pos h2, set_self h2 (by omega)]
        exact ih _ _ (by omega) hl hca hdr hσ
/-- What Match tells of a row and what binds make of it. -/
theorem match_made {l : List S73} {θ : Int → List Int} (hg : Good l θ) {a : List Int} (ha : IsRow l a) (hlen : (subV θ a).length ≤ 48) :
    matchV l a (subV θ a) = (listTo (fillV θ a (List.replicate 24 [])) 24, true, 0) := by
  obtain ⟨n, hn⟩ := ha
  have hb : IsRow l (subV θ a) := ⟨n, hn.1, hlen, subV_isN hg a n hn.2.2⟩
  rw [matchV_ok ⟨n, hn⟩ hb, grow_made hg a 0 (List.replicate 24 []) (by omega) List.length_replicate (fun c hc => (codes_row hn.2.2 c hc).1) rfl]
  intro v hv
  left
  rw [List.getD_eq_getElem?_getD, List.getElem?_replicate, if_pos hv]
  rfl
/-! the list that is told -/
theorem bindOf_iff (σ : List (List Int)) (v : Nat) : bindOf σ v = if σ.getD v [] ≠ [] ∧ σ.getD v [] ≠ [-1 - (v : Int)] then some ⟨(v : Int), σ.getD v []⟩ else none := by
  unfold bindOf
  generalize σ.getD v [] = t
  match t with
  | [] => simp
  | [c] =>
    have e : rd [c] 0 = c := rfl
    by_cases h : c = -1 - (v : Int)
    · rw [if_neg (by rw [e]; simp [h]), if_neg (by simp [h])]
    · rw [if_pos (by simp [e, h]), if_pos (by simp [h])]
  | c :: d :: r => rw [if_pos (by simp), if_pos (by simp)]
theorem listTo_mem (σ : List (List Int)) (b : S41) : ∀ n, b ∈ listTo σ n ↔ ∃ v : Nat, v < n ∧ b.f0 = (v : Int) ∧ b.f1 = σ.getD v [] ∧ b.f1 ≠ [] ∧ b.f1 ≠ [-1 - (v : Int)]
  | 0 => by simp [listTo]
  | n + 1 => by
    simp only [listTo, List.mem_append]
    rw [listTo_mem σ b n, bindOf_iff]
    constructor
    · rintro (⟨v, hv, h⟩ | h)
      · exact ⟨v, by omega, h⟩
      · by_cases hc : σ.getD n [] ≠ [] ∧ σ.getD n [] ≠ [-1 - (n : Int)]
        · rw [if_pos hc] at h
          have : b = ⟨(n : Int), σ.getD n []⟩ := by simpa using h
          subst this
          exact ⟨n, by omega, rfl, rfl, hc.1, hc.2⟩
        · rw [if_neg hc] at h
          simp at h
    · rintro ⟨v, hv, h0, h1, h2, h3⟩
      rcases Nat.lt_or_ge v n with h | h
      · exact .inl ⟨v, h, h0, h1, h2, h3⟩
      · obtain rfl : v = n := by omega
        rw [h1] at h2 h3
        rw [if_pos ⟨h2, h3⟩]
        right
        obtain ⟨b0, b1⟩ := b
        simp only at h0 h1
        subst h0; subst h1
        simp
end Go.Proofs.YtohclkafdphleaaDoor.PU
