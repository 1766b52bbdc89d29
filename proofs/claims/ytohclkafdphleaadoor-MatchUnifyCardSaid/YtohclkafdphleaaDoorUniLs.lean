/- Unification and binds of a signature: what the laws lean on. -/
import Derived.Test.YtohclkafdphleaaDoorUniPl
import Derived.Test.YtohclkafdphleaaDoorPUx0
namespace Go.Proofs.YtohclkafdphleaaDoor.PU
open Go Go.RowKit Go.Proofs.YtohclkafdphleaaDoorW.PrintWords Go.Proofs.YtohclkafdphleaaDoorW.PrintLast Go.Proofs.YtohclkafdphleaaDoor
set_option linter.unusedVariables false
set_option linter.unusedSimpArgs false
theorem arS_var0 {l : List S73} {c : Int} (h0 : -24 ≤ c) (h1 : c < 0) : arS l c = some 0 := by
  unfold arS
  rw [if_pos h1, if_pos h0]
theorem arU_neg {l : List S73} {c : Int} (h0 : -48 ≤ c) (h1 : c < 0) : arU l c = some 0 := by
  unfold arU
  rw [if_pos h1, if_pos h0]
/-- Binds of a signature's variables, as binds of all. -/
def widen (θ : Int → List Int) (c : Int) : List Int := if -24 ≤ c then θ c else [c]
theorem widen_good {l : List S73} {θ : Int → List Int} (h : Good l θ) : GoodA (arU l) (widen θ) := by
  intro c hc ha
  have hlo := arU_lo hc ha
  unfold widen
  split
  · rename_i h0
    exact arU_isN (h c h0 hc)
  · exact isN_cons.2 ⟨0, arU_neg hlo hc, isN_nil⟩
theorem widen_sub {l : List S73} {n : Nat} {r : List Int} (hr : isN (arS l) n r) (θ : Int → List Int) : subV (widen θ) r = subV θ r :=
  subV_congr r (fun c hc _ => if_pos (codes_row hr c hc).1)
/-- A row's part that a bind puts in is a row of the signature. -/
theorem good_of {l : List S73} {τ ς : Int → List Int} (hs : Solved (arU l) τ ς) (hτ : ∀ c, c < 0 → τ c ≠ [] → isN (arS l) 1 (τ c)) : Good l ς := by
  have key : ∀ c, c < 0 → arU l c ≠ none → (-24 ≤ c → isN (arS l) 1 (ς c)) := by
    refine hs.induct (arU_var l) (fun c hc ha ih h0 => ?_)
    by_cases hb : τ c = []
    · rw [hs.free c hc hb]
      exact isN_cons.2 ⟨0, arS_var0 h0 hc, isN_nil⟩
    · rw [hs.resp c hc hb]
      have hr := hτ c hc hb
      have e : subV ς (τ c) = subV (fun d => if d ∈ τ c then ς d else [d]) (τ c) := subV_congr _ (fun d hd _ => (if_pos hd).symm)
      rw [e]
      refine subV_isN (l := l) ?_ _ 1 hr
      intro d h1 h2
      show isN (arS l) 1 (if d ∈ τ c then ς d else [d])
      split
      · rename_i hd
        exact ih hb d hd h2 h1
      · exact isN_cons.2 ⟨0, arS_var0 h1 h2, isN_nil⟩
  exact fun c h0 h1 => key c h1 (by rw [arU_neg (by omega) h1]; simp) h0
theorem unify_spec {l : List S73} {a b : List Int} (ha : IsRow l a) (hb : IsRow l b) : ((∀ θ, GoodA (arU l) θ → subV θ a ≠ subV θ b) ∧ unifyV l a b = ([], false, 0)) ∨ (∃ τ ς, Mgu l a b τ ς ∧ Good l ς ∧ unifyV l a b = outV ς) := by
  have ha2 := ha
  have hb2 := hb
  obtain ⟨n, hn⟩ := ha2
  obtain ⟨m, hm⟩ := hb2
  by_cases hnm : n = m
  · subst hnm
    obtain ⟨q, h1, h2⟩ := same_top hn.1 hn.2.2 hm.2.2 hn.2.1 hm.2.1
    cases q with
    | none => exact .inl ⟨h2, unifyV_no ha hb h2⟩
    | some σ =>
      obtain ⟨hst, ς, h⟩ := h2
      obtain ⟨k, hk⟩ := h1.get
      have h0 : By0 σ := same_by0 k st0 σ _ (fun w => by rw [ofS_st0]; rfl) (fun e he => by
        unfold pairsV at he
        rw [List.nil_append] at he
        obtain ⟨_, z2, _, z4⟩ := zip_mem he
        exact ⟨z2, z4⟩) hk
      refine .inr ⟨tau σ, ς, h, good_of h.1 (fun c hc hb => ?_), unifyV_mgu ha hb h⟩
      have e : tau σ c = (ofS σ (-1 - c).toNat).1 := by
        have := tau_at h0 (-1 - c).toNat
        rwa [show -1 - (((-1 - c).toNat : Nat) : Int) = c by omega] at this
      rw [e] at hb ⊢
      exact (hst.2 _ hb).one
  · exact .inl ⟨uni_count hn.2.2 hm.2.2 hnm, unifyV_no ha hb (uni_count hn.2.2 hm.2.2 hnm)⟩
theorem Mgu.same {l : List S73} {a b : List Int} {τ ς : Int → List Int} (h : Mgu l a b τ ς) : subV ς a = subV ς b := (h.2 ς h.1.good).2 h.1.resp
theorem Mgu.symm {l : List S73} {a b : List Int} {τ ς : Int → List Int} (h : Mgu l a b τ ς) : Mgu l b a τ ς := ⟨h.1, fun θ hg => by rw [← h.2 θ hg]; exact ⟨fun e => e.symm, fun e => e.symm⟩⟩
/-- What makes both the same is what is told and then itself. -/
theorem Mgu.factor {l : List S73} {a b : List Int} {n m : Nat} {τ ς θ : Int → List Int} (h : Mgu l a b τ ς) (hs : Good l ς) (ha : isN (arS l) n a) (hb : isN (arS l) m b) (hg : Good l θ) (he : subV θ a = subV θ b) {c : Int} (h0 : -24 ≤ c) (h1 : c < 0) : subV θ (ς c) = θ c := by
  have hr : Resp (widen θ) τ := (h.2 _ (widen_good hg)).1 (by rw [widen_sub ha, widen_sub hb, he])
  have h2 := h.1.factor (arU_var l) hr c h1 (by rw [arU_neg (by omega) h1]; simp)
  rw [widen_sub (hs c h0 h1)] at h2
  rw [h2]
  exact if_pos h0
theorem no_same {l : List S73} {a b : List Int} {n m : Nat} {θ : Int → List Int} (h : ∀ θ, GoodA (arU l) θ → subV θ a ≠ subV θ b) (ha : isN (arS l) n a) (hb : isN (arS l) m b) (hg : Good l θ) : subV θ a ≠ subV θ b := by
  have := h _ (widen_good hg)
  rwa [widen_sub ha, widen_sub hb] at this
theorem sub_len_ {l : List S73} {θ : Int → List Int} (hg : Good l θ) {n : Nat} {r : List Int} (hr : isN (arS l) n r) : r.length ≤ (subV θ r).length := by
  have := sub_len (widen_good hg) r (fun c hc => isN_ar (arU_isN hr) hc)
  rwa [widen_sub hr] at this
theorem Mgu.idem {l : List S73} {a b : List Int} {τ ς : Int → List Int} (h : Mgu l a b τ ς) {c : Int} (h0 : -24 ≤ c) (h1 : c < 0) : subV ς (ς c) = ς c := h.1.idem h1 (by rw [arU_neg (by omega) h1]; simp)
theorem unify_symm (l : List S73) (a b : List Int) : unifyV l a b = unifyV l b a := by
  by_cases hr : IsRow l a ∧ IsRow l b
  · rcases unify_spec hr.1 hr.2 with ⟨h, e⟩ | ⟨τ, ς, h, _, e⟩
    · rw [e, unifyV_no hr.2 hr.1 (fun θ hg e => h θ hg e.symm)]
    · rw [e, unifyV_mgu hr.2 hr.1 h.symm]
  · rw [unifyV_form hr, unifyV_form (fun h => hr ⟨h.2, h.1⟩)]
/-- Not too long: where short binds make both the same. -/
theorem outV_short {l : List S73} {a b : List Int} {n m : Nat} {τ ς θ : Int → List Int} (h : Mgu l a b τ ς) (hs : Good l ς) (ha : isN (arS l) n a) (hb : isN (arS l) m b) (hg : Good l θ) (he : subV θ a = subV θ b) (hl : ∀ c, -24 ≤ c → c < 0 → (θ c).length ≤ 48) : outV ς = (listS ς 24, true, 0) := by
  rcases outV_cases ς with ⟨_, v, hv, h48⟩ | ⟨h, _⟩
  · have h0 : -24 ≤ -1 - (v : Int) := by omega
    have h1 : -1 - (v : Int) < 0 := by omega
    have h2 := h.factor hs ha hb hg he h0 h1
    have h3 := sub_len_ hg (hs _ h0 h1)
    rw [h2] at h3
    have := hl _ h0 h1
    omega
  · exact h
theorem unify_out (l : List S73) (a b : List Int) : ((unifyV l a b).1 = [] ∧ (unifyV l a b).2.1 = false) ∨ (∃ τ ς, IsRow l a ∧ IsRow l b ∧ Mgu l a b τ ς ∧ Good l ς ∧ (∀ v : Nat, v < 24 → ¬ 48 < (ς (-1 - (v : Int))).length) ∧ unifyV l a b = (listS ς 24, true, 0)) := by
  by_cases hr : IsRow l a ∧ IsRow l b
  · rcases unify_spec hr.1 hr.2 with ⟨_, e⟩ | ⟨τ, ς, h, hg, e⟩
    · rw [e]; exact .inl ⟨rfl, rfl⟩
    · rcases outV_cases ς with ⟨h2, _⟩ | ⟨h2, h3⟩
      · rw [e, h2]; exact .inl ⟨rfl, rfl⟩
      · exact .inr ⟨τ, ς, hr.1, hr.2, h, hg, h3, e.trans h2⟩
  · rw [unifyV_form hr]; exact .inl ⟨rfl, rfl⟩
theorem listS_mem (ς : Int → List Int) (b : S41) : ∀ n, b ∈ listS ς n ↔ ∃ v : Nat, v < n ∧ b.f0 = (v : Int) ∧ b.f1 = ς (-1 - (v : Int)) ∧ b.f1 ≠ [-1 - (v : Int)] := by
  intro n
  induction n with
  | zero => simp [listS]
  | succ n ih =>
    simp only [listS, List.mem_append]
    rw [ih]
    constructor
    · rintro (⟨v, hv, h⟩ | h)
      · exact ⟨v, by omega, h⟩
      · split at h
        · cases h
        · rename_i hn
          obtain rfl := List.mem_singleton.1 h
          exact ⟨n, by omega, rfl, rfl, hn⟩
    · rintro ⟨v, hv, h0, h1, h2⟩
      rcases Nat.lt_or_ge v n with h | h
      · exact .inl ⟨v, h, h0, h1, h2⟩
      · obtain rfl : v = n := by omega
        right
        rw [h1] at h2
        rw [if_neg h2]
        obtain ⟨b0, b1⟩ := b
        simp only at h0 h1
        subst h0; subst h1
        simp
theorem listS_rise (ς : Int → List Int) : ∀ n, (listS ς n).Pairwise (fun a b => a.f0 < b.f0) := by
  intro n
  induction n with
  | zero => simp [listS]
  | succ n ih =>
    simp only [listS]
    rw [List.pairwise_append]
    refine ⟨ih, by split <;> simp, fun a ha b hb => ?_⟩
    obtain ⟨v, hv, h0, _⟩ := (listS_mem ς a n).1 ha
    split at hb
    · cases hb
    · obtain rfl := List.mem_singleton.1 hb
      show a.f0 < (n : Int)
      omega
/-! one variable and a term -/
theorem mgu_one {l : List S73} {c : Int} {y : List Int} (h0 : -24 ≤ c) (hc : c < 0) (hy : isN (arS l) 1 y) (hno : c ∉ y) (hd : ∀ d, d < 0 → y = [d] → c < d) : Mgu l [c] y (upd (fun _ => []) c y) (one1 c y) := by
  have ha : arU l c ≠ none := by rw [arU_neg (by omega) hc]; simp
  have hid : subV (fun c => [c]) y = y := sub_id y (fun _ _ _ => rfl)
  have h1 := (solved_init (arU_var l)).bind (arU_var l) hc ha rfl (arU_isN hy) (by rw [hid]; exact hno) hd
  rw [hid] at h1
  have e : (fun d => subV (one1 c y) [d]) = fun d => subC (one1 c y) d := by funext d; exact sub_one d
  rw [e] at h1
  have hne : y ≠ [] := by
    have := isN_pos hy
    rintro rfl
    simp at this
  have hS : Solved (arU l) (upd (fun _ => []) c y) (one1 c y) := by
    refine ⟨fun d hd0 hda => ?_, fun d hd0 hb => ?_, fun d hd0 hb => ?_, fun d hd0 hda x hx hx0 => ?_, h1.term, h1.down⟩
    · have := h1.good d hd0 hda; rwa [subC_neg _ hd0] at this
    · have := h1.resp d hd0 hb
      rw [subC_neg _ hd0] at this
      rw [this]
      exact subV_congr _ (fun x _ hx0 => subC_neg _ hx0)
    · have := h1.free d hd0 hb; rwa [subC_neg _ hd0] at this
    · exact h1.rng d hd0 hda x (by rw [subC_neg _ hd0]; exact hx) hx0
  refine ⟨hS, fun θ hg => ?_⟩
  rw [← resp_bind hc rfl hne, sub_one, subC_neg θ hc]
  exact ⟨fun h => ⟨fun d _ hb => absurd rfl hb, h⟩, fun h => h.2⟩
theorem listS_one1 {x : Nat} {y : List Int} (hne : y ≠ [-1 - (x : Int)]) : ∀ n, listS (one1 (-1 - (x : Int)) y) n = if x < n then [⟨(x : Int), y⟩] else [] := by
  intro n
  induction n with
  | zero => rfl
  | succ n ih =>
    simp only [listS]
    rw [ih]
    by_cases e : n = x
    · subst e
      have e1 : one1 (-1 - (n : Int)) y (-1 - (n : Int)) = y := if_pos rfl
      rw [e1, if_neg (by omega), if_neg hne, if_pos (by omega)]
      rfl
    · have e1 : one1 (-1 - (x : Int)) y (-1 - (n : Int)) = [-1 - (n : Int)] := if_neg (by omega)
      rw [e1, if_pos rfl, List.append_nil]
      by_cases hx : x < n
      · rw [if_pos hx, if_pos (by omega)]
      · rw [if_neg hx, if_neg (by omega)]
theorem outV_one1 {x : Nat} {y : List Int} (hx : x < 24) (hl : y.length ≤ 48) (hne : y ≠ [-1 - (x : Int)]) : outV (one1 (-1 - (x : Int)) y) = ([⟨(x : Int), y⟩], true, 0) := by
  rcases outV_cases (one1 (-1 - (x : Int)) y) with ⟨_, v, hv, h48⟩ | ⟨h, _⟩
  · unfold one1 at h48
    split at h48
    · omega
    · simp at h48
  · rw [h, listS_one1 hne, if_pos hx]
theorem outV_id : outV (fun c => [c]) = ([], true, 0) := by
  have h : ∀ n, listS (fun c => [c]) n = [] := by
    intro n
    induction n with
    | zero => rfl
    | succ n ih => simp [listS, ih]
  rcases outV_cases (fun c => [c]) with ⟨_, v, hv, h48⟩ | ⟨h2, _⟩
  · simp at h48
  · rw [h2, h]
theorem mgu_self (l : List S73) (a : List Int) : Mgu l a a (fun _ => []) (fun c => [c]) := ⟨solved_init (arU_var l), fun θ _ => ⟨fun _ c _ h => absurd rfl h, fun _ => rfl⟩⟩
end Go.Proofs.YtohclkafdphleaaDoor.PU
