/- MatchUnify, plainly. -/
import Derived.Test.YtohclkafdphleaaDoorWantMatchUnify
import Derived.Test.YtohclkafdphleaaDoorAwake5
import Derived.Test.YtohclkafdphleaaDoorMadeA
import Derived.Test.YtohclkafdphleaaDoorUniLs
import Derived.Test.YtohclkafdphleaaDoorPUx0
import Derived.Test.YtohclkafdphleaaDoorPUx4
import Derived.Test.YtohclkafdphleaaDoorPUx5
import Derived.Test.YtohclkafdphleaaDoorPUx7
import Derived.Test.YtohclkafdphleaaDoorPUx8
namespace Go.Proofs.YtohclkafdphleaaDoor.PU
open Go Go.RowKit Go.Proofs.YtohclkafdphleaaDoorW.PrintWords Go.Proofs.YtohclkafdphleaaDoorW.PrintLast Go.Proofs.YtohclkafdphleaaDoor
set_option linter.unusedVariables false
set_option linter.unusedSimpArgs false
theorem unify_fU (l : List S73) (a b : List Int) : unify_Unify.f l a b = some (unifyV l a b) := rfl
theorem match_fU (l : List S73) (a b : List Int) : match_Match.f l a b = some (matchV l a b) := rfl
theorem sub_ground {θ : Int → List Int} {b : List Int} (hb : ∀ c ∈ b, 0 ≤ c) : subV θ b = b := sub_id b (fun c hc h => by have := hb c hc; omega)
/-- Where two binds make the same of a row, they are the same on its variables. -/
theorem sub_inj {ar : Int → Option Nat} (hv : VarAr ar) {θ η : Int → List Int} (h1 : GoodA ar θ) (h2 : GoodA ar η) : ∀ (a : List Int), (∀ c ∈ a, ar c ≠ none) → subV θ a = subV η a → ∀ c ∈ a, c < 0 → θ c = η c := by
  intro a
  induction a with
  | nil => intro _ _ c hc; cases hc
  | cons d a ih =>
    intro ha he c hc hc0
    have hs : subC θ d = subC η d ∧ subV θ a = subV η a := by
      simp only [subV] at he
      by_cases hd : 0 ≤ d
      · rw [subC_pos θ hd, subC_pos η hd] at he ⊢
        exact ⟨rfl, by simpa using he⟩
      · rw [subC_neg θ (by omega), subC_neg η (by omega)] at he ⊢
        have hda := ha d (List.mem_cons_self ..)
        exact isN_prefix (h1 d (by omega) hda) (h2 d (by omega) hda) he
    rcases List.mem_cons.1 hc with rfl | hc
    · have := hs.1
      rwa [subC_neg θ hc0, subC_neg η hc0] at this
    · exact ih (fun x hx => ha x (List.mem_cons_of_mem _ hx)) hs.2 c hc hc0
/-- A row's own variables' terms, without variables; all else stays. -/
def grd (a : List Int) (θ : Int → List Int) (c : Int) : List Int := if c ∈ a then θ c else [c]
def grdT (a : List Int) (θ : Int → List Int) (c : Int) : List Int := if c ∈ a then θ c else []
theorem part_ground {θ : Int → List Int} {a b : List Int} (he : subV θ a = b) (hb : ∀ c ∈ b, 0 ≤ c) {c : Int} (hc : c ∈ a) (h0 : c < 0) : ∀ d ∈ θ c, 0 ≤ d := by
  intro d hd
  refine hb d ?_
  rw [← he]
  exact sub_mem.2 ⟨c, hc, by rw [subC_neg θ h0]; exact hd⟩
theorem mgu_ground {l : List S73} {a b : List Int} {n m : Nat} {θ : Int → List Int} (ha : isN (arS l) n a) (hbn : isN (arS l) m b) (hg : Good l θ) (he : subV θ a = b) (hb : ∀ c ∈ b, 0 ≤ c) : Mgu l a b (grdT a θ) (grd a θ) := by
  have hgr : ∀ c ∈ a, c < 0 → ∀ d ∈ θ c, 0 ≤ d := fun c hc h0 => part_ground he hb hc h0
  have hlo : ∀ c ∈ a, -24 ≤ c := fun c hc => (codes_row ha c hc).1
  have hone : ∀ c ∈ a, c < 0 → isN (arU l) 1 (θ c) := fun c hc h0 => arU_isN (hg c (hlo c hc) h0)
  have hne : ∀ c ∈ a, c < 0 → θ c ≠ [] := fun c hc h0 h => by
    have := isN_pos (hone c hc h0)
    rw [h] at this
    simp at this
  refine ⟨⟨fun c hc har => ?_, fun c hc hb' => ?_, fun c hc hb' => ?_, fun c hc har d hd hd0 => ?_, fun c hc hb' => ?_, fun c hc d hd0 hb' => ?_⟩, fun η hη => ?_⟩
  · unfold grd
    split
    · rename_i h; exact hone c h hc
    · exact isN_cons.2 ⟨0, arU_neg (arU_lo hc har) hc, isN_nil⟩
  · unfold grdT at hb' ⊢
    unfold grd
    split at hb'
    · rename_i h
      simp only [if_pos h]
      exact (sub_ground (hgr c h hc)).symm
    · exact absurd rfl hb'
  · unfold grdT at hb'
    unfold grd
    split at hb'
    · rename_i h; exact absurd hb' (hne c h hc)
    · rename_i h; rw [if_neg h]
  · unfold grd at hd
    split at hd
    · rename_i h
      have := hgr c h hc d hd
      omega
    · rename_i h
      obtain rfl := List.mem_singleton.1 hd
      exact ⟨if_neg h, har⟩
  · unfold grdT at hb' ⊢
    split at hb'
    · rename_i h
      rw [if_pos h]
      exact ⟨by rw [arU_neg (by have := hlo c h; omega) hc]; simp, hone c h hc⟩
    · exact absurd rfl hb'
  · unfold grdT at hb'
    split at hb'
    · rename_i h
      have := hgr c h hc d (by rw [hb']; exact List.mem_singleton.2 rfl)
      omega
    · cases hb'
  · rw [sub_ground (θ := η) hb]
    constructor
    · intro h c hc hb'
      unfold grdT at hb' ⊢
      split at hb'
      · rename_i hm
        rw [if_pos hm, sub_ground (hgr c hm hc)]
        have e : subV η a = subV (widen θ) a := by rw [h, widen_sub ha, he]
        rw [sub_inj (arU_var l) hη (widen_good hg) a (fun x hx => isN_ar (arU_isN ha) hx) e c hm hc]
        exact if_pos (hlo c hm)
      · exact absurd rfl hb'
    · intro h
      rw [← he]
      refine subV_congr a (fun c hc h0 => ?_)
      have e : grdT a θ c = θ c := if_pos hc
      rw [h c h0 (by rw [e]; exact hne c hc h0), e, sub_ground (hgr c hc h0)]
theorem list_ground {l : List S73} {a b : List Int} {n : Nat} {θ : Int → List Int} (ha : isN (arS l) n a) (hg : Good l θ) (he : subV θ a = b) (hb : ∀ c ∈ b, 0 ≤ c) : ∀ k, k ≤ 24 → listS (grd a θ) k = listTo (fillV θ a (List.replicate 24 [])) k := by
  intro k
  induction k with
  | zero => intro _; rfl
  | succ k ih =>
    intro hk
    simp only [listS, listTo]
    rw [ih (by omega), bindOf_iff, fillV_at θ a _ k (by rw [List.length_replicate]; omega)]
    have e0 : (List.replicate 24 ([] : List Int)).getD k [] = [] := by
      rw [List.getD_eq_getElem?_getD, List.getElem?_replicate, if_pos (by omega)]
      rfl
    rw [e0]
    unfold grd
    by_cases hm : -1 - (k : Int) ∈ a
    · have hgr := part_ground he hb hm (by omega)
      have hp := isN_pos (hg (-1 - (k : Int)) (by omega) (by omega))
      have h1 : θ (-1 - (k : Int)) ≠ [-1 - (k : Int)] := fun e => by
        have := hgr (-1 - (k : Int)) (by rw [e]; exact List.mem_singleton.2 rfl)
        omega
      have h2 : θ (-1 - (k : Int)) ≠ [] := fun e => by rw [e] at hp; simp at hp
      simp only [if_pos hm]
      rw [if_neg h1, if_pos ⟨h2, h1⟩]
    · simp only [if_neg hm]
      rw [if_pos trivial, if_neg (by simp)]
theorem mu_yes {l : List S73} {a b : List Int} {θ : Int → List Int} (ha : IsRow l a) (hbr : IsRow l b) (hg : Good l θ) (he : subV θ a = b) (hb : ∀ c ∈ b, 0 ≤ c) : unifyV l a b = matchV l a b := by
  have ha2 := ha
  have hb2 := hbr
  obtain ⟨n, hn⟩ := ha2
  obtain ⟨m, hm⟩ := hb2
  have hm1 := match_made hg ha (by rw [he]; exact hm.2.1)
  rw [he] at hm1
  rw [hm1, unifyV_mgu ha hbr (mgu_ground hn.2.2 hm.2.2 hg he hb)]
  rcases outV_cases (grd a θ) with ⟨_, v, hv, h48⟩ | ⟨e, _⟩
  · unfold grd at h48
    split at h48
    · rename_i hc
      have h1 := sub_part (θ := θ) hc
      rw [subC_neg θ (by omega), he] at h1
      have := hm.2.1
      omega
    · simp at h48
  · rw [e, list_ground hn.2.2 hg he hb 24 (Nat.le_refl _)]
/-- The binds that Match's array holds. -/
def ofArr (σ : List (List Int)) (c : Int) : List Int := if σ.getD (-1 - c).toNat [] = [] then [c] else σ.getD (-1 - c).toNat []
theorem mu_grow {l : List S73} {a b : List Int} {σ : List (List Int)} (ha : IsRow l a) (h : growV l b a 0 (List.replicate 24 []) = some σ) : ∃ θ, Good l θ ∧ subV θ a = b := by
  obtain ⟨n, hn⟩ := ha
  have hlo : ∀ c ∈ a, -24 ≤ c := fun c hc => (codes_row hn.2.2 c hc).1
  obtain ⟨_, _, h3, h4⟩ := grow_sound a 0 _ σ (Nat.zero_le _) List.length_replicate hlo h
  have ne : ∀ c ∈ a, c < 0 → σ.getD (-1 - c).toNat [] ≠ [] := fun c hc h0 e => by
    have := isN_pos (h4 c hc h0)
    rw [e] at this
    simp at this
  refine ⟨fun c => if c ∈ a then σ.getD (-1 - c).toNat [] else [c], fun c h0 h1 => ?_, ?_⟩
  · show isN (arS l) 1 (if c ∈ a then σ.getD (-1 - c).toNat [] else [c])
    split
    · rename_i hc; exact h4 c hc h1
    · exact isN_cons.2 ⟨0, arS_var0 h0 h1, isN_nil⟩
  · rw [List.drop_zero] at h3
    rw [h3]
    have : ∀ r : List Int, (∀ c ∈ r, c ∈ a) → subV (fun c => if c ∈ a then σ.getD (-1 - c).toNat [] else [c]) r = r.flatMap (putS σ) := by
      intro r
      induction r with
      | nil => intro _; rfl
      | cons c r ih =>
        intro hr
        simp only [subV, List.flatMap_cons]
        rw [ih (fun x hx => hr x (List.mem_cons_of_mem _ hx))]
        congr 1
        unfold subC putS
        by_cases h0 : 0 ≤ c
        · rw [if_pos h0, if_pos h0]
        · rw [if_neg h0, if_neg h0]
          exact if_pos (hr c (List.mem_cons_self ..))
    exact this a (fun _ h => h)
/-- Of a row without variables both tell the same. -/
theorem mu_same {l : List S73} {a b : List Int} (ha : IsRow l a) (hbr : IsRow l b) (hb : ∀ c ∈ b, 0 ≤ c) : unifyV l a b = matchV l a b := by
  cases hgr : growV l b a 0 (List.replicate 24 []) with
  | some σ =>
    obtain ⟨θ, hg, he⟩ := mu_grow ha hgr
    exact mu_yes ha hbr hg he hb
  | none =>
    have hm : matchV l a b = ([], false, 0) := by rw [matchV_ok ha hbr, hgr]
    rw [hm]
    rcases unify_spec ha hbr with ⟨_, e⟩ | ⟨τ, ς, h, hs, e⟩
    · exact e
    · have he : subV ς a = b := by rw [h.same, sub_ground hb]
      have := mu_yes ha hbr hs he hb
      have hgm := match_made hs ha (by rw [he]; obtain ⟨m, hm⟩ := hbr; exact hm.2.1)
      rw [he, hm] at hgm
      simp at hgm
theorem sameBindsU_loop (s : List S41) (hs : s.length ≤ 1000) (hb : ∀ b ∈ s, b.f1.length ≤ 48) : ∀ (d i : Nat), s.length - i = d → i ≤ s.length → Ev (fun k => quaerelaw0_SameBinds.l0 k s s (i : Int)) true := by
  intro d
  induction d with
  | zero =>
    intro i hd hi
    exact Ev.step (fun k => rfl) (Ev.if_neg (by omega) (Ev.some_ rfl))
  | succ d ih =>
    intro i hd hi
    refine Ev.step (fun k => rfl) (Ev.if_pos (by omega) (Ev.if_pos (by omega) (Ev.if_pos (by omega) (Ev.if_pos rfl ?_))))
    have hm : (rd_T41 s (i : Int)).f1.length ≤ 48 := by
      unfold rd_T41
      rw [Int.toNat_natCast, List.getD_eq_getElem?_getD, List.getElem?_eq_getElem (by omega)]
      exact hb _ (List.getElem_mem _)
    refine Ev.bind (sameInts_ev _ _ (by omega)) ?_
    refine Ev.if_pos (by simp) ?_
    rw [wrap_nat i (by omega)]
    exact ih (i + 1) (by omega) (by omega)
theorem sameBindsU_ev (s : List S41) (hs : s.length ≤ 1000) (hb : ∀ b ∈ s, b.f1.length ≤ 48) : Ev (fun k => quaerelaw0_SameBinds.f k s s) true := by
  unfold quaerelaw0_SameBinds.f
  exact Ev.if_pos rfl (sameBindsU_loop s hs hb s.length 0 rfl (Nat.zero_le _))
theorem mu_end (l : List S73) (a b : List Int) (hb : ∀ c ∈ b, 0 ≤ c) (h63 : b.length ≤ 4611686018427387904) : Ev (fun k => quaerelaw5_MatchUnify.l0 k l a b (b.length : Int)) true := by
  classical
  refine Ev.step (fun k => rfl) (Ev.if_neg (by omega) ?_)
  simp only [match_fU, unify_fU, quaerelaw0_Num.f, Option.bind_some]
  by_cases hr : IsRow l a ∧ IsRow l b
  · have he := mu_same hr.1 hr.2 hb
    have hsh := unifyV_short l a b
    rw [he] at hsh ⊢
    have h0 : (matchV l a b).2.2 = 0 := by
      rw [matchV_ok hr.1 hr.2]
      cases growV l b a 0 (List.replicate 24 []) <;> rfl
    refine Ev.if_pos h0 (Ev.if_pos h0 (Ev.if_pos (by simp) ?_))
    exact Ev.bind (sameBindsU_ev _ (Nat.le_trans hsh.1 (by decide)) hsh.2) (Ev.some_ rfl)
  · have h0 : (matchV l a b).2.2 = 500 := by rw [matchV_bad hr]
    refine Ev.if_neg (by rw [h0]; decide) ?_
    rw [unifyV_form hr]
    exact Ev.some_ rfl
theorem mu_loop (l : List S73) (a b : List Int) (h63 : b.length ≤ 4611686018427387904) : ∀ (d i : Nat), b.length - i = d → i ≤ b.length → (∀ c ∈ b.take i, 0 ≤ c) → Ev (fun k => quaerelaw5_MatchUnify.l0 k l a b (i : Int)) true := by
  intro d
  induction d with
  | zero =>
    intro i hd hi hb
    obtain rfl : i = b.length := by omega
    rw [List.take_length] at hb
    exact mu_end l a b hb h63
  | succ d ih =>
    intro i hd hi hb
    refine Ev.step (fun k => rfl) (Ev.if_pos (by omega) (Ev.if_pos (by omega) ?_))
    by_cases hc : rd b (i : Int) < 0
    · exact Ev.if_pos hc (Ev.some_ rfl)
    · refine Ev.if_neg hc ?_
      rw [wrap_nat i (by omega)]
      refine ih (i + 1) (by omega) (by omega) (fun c h => ?_)
      have hlt : i < b.length := by omega
      rw [List.take_succ_eq_append_getElem hlt] at h
      rcases List.mem_append.1 h with h | h
      · exact hb c h
      · obtain rfl := List.mem_singleton.1 h
        rw [rd_nat b i hlt] at hc
        omega
theorem quaerelaw5_MatchUnify.pure : quaerelaw5_MatchUnify.Pure := by
  intro l a b _ _ hb
  refine Ev.get (r := true) ?_
  unfold quaerelaw5_MatchUnify.f
  refine Ev.bind awake5_ev (Ev.if_pos rfl ?_)
  exact mu_loop l a b (by have := hb.1; omega) b.length 0 rfl (Nat.zero_le _) (fun c h => by simp at h)
end Go.Proofs.YtohclkafdphleaaDoor.PU
