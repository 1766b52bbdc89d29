/- UnifyVars, plainly: which variables stand for one another. -/
import Derived.Test.YtaegdhpcnpojnaaDoorUniLs
import Derived.Test.YtaegdhpcnpojnaaDoorPUx0
namespace Go.Proofs.YtaegdhpcnpojnaaDoor.PU
open Go Go.RowKit Go.Proofs.YtaegdhpcnpojnaaDoorW.PrintWords Go.Proofs.YtaegdhpcnpojnaaDoorW.PrintLast Go.Proofs.YtaegdhpcnpojnaaDoor
set_option linter.unusedVariables false
set_option linter.unusedSimpArgs false
def mg (x y n : Nat) : Nat := if n = x then y else n
def mergeR (rk : List Nat) (v w : Nat) : List Nat := rk.map (mg (max (rk.getD v 0) (rk.getD w 0)) (min (rk.getD v 0) (rk.getD w 0)))
def ranks : List (Nat × Nat) → List Nat → List Nat
  | [], rk => rk
  | p :: ps, rk => ranks ps (mergeR rk p.1 p.2)
structure RkOk (rk : List Nat) : Prop where
  len : rk.length = 24
  le : ∀ v, v < 24 → rk.getD v 0 ≤ v
  fix : ∀ v, v < 24 → rk.getD (rk.getD v 0) 0 = rk.getD v 0
theorem rk0_at {v : Nat} (h : v < 24) : (List.range 24).getD v 0 = v := by
  rw [List.getD_eq_getElem?_getD, List.getElem?_range h]
  rfl
theorem rk0_ok : RkOk (List.range 24) := ⟨by simp, fun v h => by rw [rk0_at h]; exact Nat.le_refl _, fun v h => by rw [rk0_at h, rk0_at h]⟩
theorem mergeR_at {rk : List Nat} (h : RkOk rk) (v w : Nat) {k : Nat} (hk : k < 24) : (mergeR rk v w).getD k 0 = mg (max (rk.getD v 0) (rk.getD w 0)) (min (rk.getD v 0) (rk.getD w 0)) (rk.getD k 0) := by
  have hl : k < rk.length := by rw [h.len]; exact hk
  unfold mergeR
  simp [List.getD_eq_getElem?_getD, List.getElem?_map, List.getElem?_eq_getElem hl]
theorem mergeR_ok {rk : List Nat} (h : RkOk rk) {v w : Nat} (hv : v < 24) (hw : w < 24) : RkOk (mergeR rk v w) := by
  have f1 := h.fix v hv
  have f2 := h.fix w hw
  have l1 := h.le v hv
  have l2 := h.le w hw
  refine ⟨by unfold mergeR; rw [List.length_map, h.len], fun k hk => ?_, fun k hk => ?_⟩
  · rw [mergeR_at h v w hk]
    have := h.le k hk
    unfold mg
    split <;> omega
  · have hk0 := h.le k hk
    have hk1 := h.fix k hk
    rw [mergeR_at h v w hk]
    generalize ha : rk.getD v 0 = a at *
    generalize hb : rk.getD w 0 = b at *
    generalize hc : rk.getD k 0 = c at *
    have hy : rk.getD (min a b) 0 = min a b := by
      rcases Nat.le_total a b with e | e
      · rw [Nat.min_eq_left e]; exact f1
      · rw [Nat.min_eq_right e]; exact f2
    have hm : mg (max a b) (min a b) c < 24 := by unfold mg; split <;> omega
    rw [mergeR_at h v w hm, ha, hb]
    by_cases e : c = max a b
    · have : mg (max a b) (min a b) c = min a b := if_pos e
      rw [this, hy]
      unfold mg
      split <;> omega
    · have : mg (max a b) (min a b) c = c := if_neg e
      rw [this, hk1, this]
theorem mergeR_iff {rk : List Nat} (h : RkOk rk) {v w : Nat} (hv : v < 24) (hw : w < 24) (θ : Nat → List Int) :
    ((∀ k, k < 24 → θ k = θ (rk.getD k 0)) ∧ θ v = θ w) ↔ ∀ k, k < 24 → θ k = θ ((mergeR rk v w).getD k 0) := by
  have f1 := h.fix v hv
  have f2 := h.fix w hw
  have l1 := h.le v hv
  have l2 := h.le w hw
  constructor
  · rintro ⟨h1, h2⟩ k hk
    have e1 := h1 v hv
    have e2 := h1 w hw
    have e3 := h1 k hk
    rw [mergeR_at h v w hk]
    generalize rk.getD v 0 = a at *
    generalize rk.getD w 0 = b at *
    generalize rk.getD k 0 = c at *
    have hab : θ a = θ b := by rw [← e1, ← e2, h2]
    rw [e3]
    unfold mg
    split
    · rename_i e
      subst e
      rcases Nat.le_total a b with e | e
      · rw [Nat.max_eq_right e, Nat.min_eq_left e, hab]
      · rw [Nat.max_eq_left e, Nat.min_eq_right e, hab]
    · rfl
  · intro h1
    have key : θ (rk.getD v 0) = θ (rk.getD w 0) := by
      have g1 := h1 (rk.getD v 0) (by omega)
      have g2 := h1 (rk.getD w 0) (by omega)
      rw [mergeR_at h v w (by omega), f1] at g1
      rw [mergeR_at h v w (by omega), f2] at g2
      generalize rk.getD v 0 = a at *
      generalize rk.getD w 0 = b at *
      rcases Nat.le_total a b with e | e
      · rw [Nat.max_eq_right e, Nat.min_eq_left e] at g2
        rw [g2]
        unfold mg
        rw [if_pos rfl]
      · rw [Nat.max_eq_left e, Nat.min_eq_right e] at g1
        rw [g1]
        unfold mg
        rw [if_pos rfl]
    have all : ∀ k, k < 24 → θ k = θ (rk.getD k 0) := by
      intro k hk
      have g := h1 k hk
      rw [mergeR_at h v w hk] at g
      rw [g]
      generalize rk.getD v 0 = a at *
      generalize rk.getD w 0 = b at *
      generalize rk.getD k 0 = c at *
      unfold mg
      split
      · rename_i e
        subst e
        rcases Nat.le_total a b with e | e
        · rw [Nat.max_eq_right e, Nat.min_eq_left e, key]
        · rw [Nat.max_eq_left e, Nat.min_eq_right e, key]
      · rfl
    exact ⟨all, by rw [all v hv, all w hw, key]⟩
theorem ranks_ok : ∀ (ps : List (Nat × Nat)) (rk : List Nat), RkOk rk → (∀ p ∈ ps, p.1 < 24 ∧ p.2 < 24) → RkOk (ranks ps rk) := by
  intro ps
  induction ps with
  | nil => intro rk h _; exact h
  | cons p ps ih =>
    intro rk h hp
    have h0 := hp p (List.mem_cons_self ..)
    exact ih _ (mergeR_ok h h0.1 h0.2) (fun q hq => hp q (List.mem_cons_of_mem _ hq))
theorem ranks_iff (θ : Nat → List Int) : ∀ (ps : List (Nat × Nat)) (rk : List Nat), RkOk rk → (∀ p ∈ ps, p.1 < 24 ∧ p.2 < 24) → (((∀ k, k < 24 → θ k = θ (rk.getD k 0)) ∧ ∀ p ∈ ps, θ p.1 = θ p.2) ↔ ∀ k, k < 24 → θ k = θ ((ranks ps rk).getD k 0)) := by
  intro ps
  induction ps with
  | nil => intro rk h _; simp [ranks]
  | cons p ps ih =>
    intro rk h hp
    have h0 := hp p (List.mem_cons_self ..)
    have := ih _ (mergeR_ok h h0.1 h0.2) (fun q hq => hp q (List.mem_cons_of_mem _ hq))
    simp only [ranks]
    rw [← this, ← mergeR_iff h h0.1 h0.2 θ]
    constructor
    · rintro ⟨h1, h2⟩
      exact ⟨⟨h1, h2 p (List.mem_cons_self ..)⟩, fun q hq => h2 q (List.mem_cons_of_mem _ hq)⟩
    · rintro ⟨⟨h1, h2⟩, h3⟩
      exact ⟨h1, fun q hq => by rcases List.mem_cons.1 hq with rfl | hq; exact h2; exact h3 q hq⟩
theorem ranks_snoc : ∀ (ps : List (Nat × Nat)) (rk : List Nat) (p : Nat × Nat), ranks (ps ++ [p]) rk = mergeR (ranks ps rk) p.1 p.2
  | [], _, _ => rfl
  | q :: ps, rk, p => by simp only [List.cons_append, ranks]; exact ranks_snoc ps _ p
/-! as rows -/
def rowA (ps : List (Nat × Nat)) : List Int := ps.map fun p => -1 - (p.1 : Int)
def rowB (ps : List (Nat × Nat)) : List Int := ps.map fun p => -1 - (p.2 : Int)
def sigR (rk : List Nat) (c : Int) : List Int := if -24 ≤ c ∧ c < 0 then [-1 - ((rk.getD (-1 - c).toNat 0 : Nat) : Int)] else [c]
def tauRk (rk : List Nat) (c : Int) : List Int := if sigR rk c = [c] then [] else sigR rk c
theorem sigR_at (rk : List Nat) {v : Nat} (h : v < 24) : sigR rk (-1 - (v : Int)) = [-1 - ((rk.getD v 0 : Nat) : Int)] := by
  unfold sigR
  rw [if_pos (by omega), show (-1 - (-1 - (v : Int))).toNat = v by omega]
theorem sigR_cases (rk : List Nat) (c : Int) (hc : c < 0) : (∃ v : Nat, v < 24 ∧ c = -1 - (v : Int)) ∨ sigR rk c = [c] ∧ c < -24 := by
  by_cases h : -24 ≤ c
  · exact .inl ⟨(-1 - c).toNat, by omega, by omega⟩
  · right
    unfold sigR
    rw [if_neg (by omega)]
    exact ⟨rfl, by omega⟩
theorem solved_rk (l : List S66) {rk : List Nat} (h : RkOk rk) : Solved (arU l) (tauRk rk) (sigR rk) := by
  have fx : ∀ v, v < 24 → sigR rk (-1 - ((rk.getD v 0 : Nat) : Int)) = [-1 - ((rk.getD v 0 : Nat) : Int)] := by
    intro v hv
    have := h.le v hv
    rw [sigR_at rk (by omega), h.fix v hv]
  have ft : ∀ v, v < 24 → tauRk rk (-1 - ((rk.getD v 0 : Nat) : Int)) = [] := fun v hv => if_pos (fx v hv)
  refine ⟨fun c hc ha => ?_, fun c hc hb => ?_, fun c hc hb => ?_, fun c hc ha d hd hd0 => ?_, fun c hc hb => ?_, fun c hc d hd hb => ?_⟩
  · rcases sigR_cases rk c hc with ⟨v, hv, rfl⟩ | ⟨e, _⟩
    · rw [sigR_at rk hv]
      have := h.le v hv
      exact isN_cons.2 ⟨0, arU_neg (by omega) (by omega), isN_nil⟩
    · rw [e]
      exact isN_cons.2 ⟨0, arU_neg (arU_lo hc ha) hc, isN_nil⟩
  · unfold tauRk at hb ⊢
    split at hb
    · exact absurd rfl hb
    · rename_i hne
      rw [if_neg hne]
      rcases sigR_cases rk c hc with ⟨v, hv, rfl⟩ | ⟨e, _⟩
      · rw [sigR_at rk hv, sub_one, subC_neg _ (by omega), fx v hv]
      · exact absurd e hne
  · unfold tauRk at hb
    split at hb
    · assumption
    · rcases sigR_cases rk c hc with ⟨v, hv, rfl⟩ | ⟨e, _⟩
      · rw [sigR_at rk hv] at hb; cases hb
      · exact e
  · rcases sigR_cases rk c hc with ⟨v, hv, rfl⟩ | ⟨e, h24⟩
    · rw [sigR_at rk hv] at hd
      obtain rfl := List.mem_singleton.1 hd
      have := h.le v hv
      exact ⟨ft v hv, by rw [arU_neg (by omega) (by omega)]; simp⟩
    · rw [e] at hd
      obtain rfl := List.mem_singleton.1 hd
      exact ⟨if_pos e, ha⟩
  · unfold tauRk at hb ⊢
    split at hb
    · exact absurd rfl hb
    · rename_i hne
      rw [if_neg hne]
      rcases sigR_cases rk c hc with ⟨v, hv, rfl⟩ | ⟨e, _⟩
      · rw [sigR_at rk hv]
        have := h.le v hv
        exact ⟨by rw [arU_neg (by omega) (by omega)]; simp, isN_cons.2 ⟨0, arU_neg (by omega) (by omega), isN_nil⟩⟩
      · exact absurd e hne
  · unfold tauRk at hb
    split at hb
    · cases hb
    · rename_i hne
      rcases sigR_cases rk c hc with ⟨v, hv, rfl⟩ | ⟨e, _⟩
      · rw [sigR_at rk hv] at hb hne
        obtain rfl := List.singleton_inj.1 hb
        have := h.le v hv
        have : rk.getD v 0 ≠ v := fun e => hne (by rw [e])
        omega
      · exact absurd e hne
theorem sub_rows (θ : Int → List Int) {l : List S66} (hg : GoodA (arU l) θ) : ∀ (ps : List (Nat × Nat)), (∀ p ∈ ps, p.1 < 24 ∧ p.2 < 24) → (subV θ (rowA ps) = subV θ (rowB ps) ↔ ∀ p ∈ ps, θ (-1 - (p.1 : Int)) = θ (-1 - (p.2 : Int))) := by
  intro ps
  have hN : ∀ (v : Nat), v < 24 → isN (arU l) 1 [-1 - (v : Int)] := fun v hv => isN_cons.2 ⟨0, arU_neg (by omega) (by omega), isN_nil⟩
  have rows : ∀ (f : Nat × Nat → Nat) (ps : List (Nat × Nat)), (∀ p ∈ ps, f p < 24) → isN (arU l) ps.length (ps.map fun p => -1 - (f p : Int)) := by
    intro f ps
    induction ps with
    | nil => intro _; exact isN_nil
    | cons p ps ih =>
      intro hp
      rw [List.map_cons, List.length_cons, Nat.add_comm]
      exact isN_append (hN _ (hp p (List.mem_cons_self ..))) (ih (fun q hq => hp q (List.mem_cons_of_mem _ hq)))
  induction ps with
  | nil => intro _; simp [rowA, rowB]
  | cons p ps ih =>
    intro hp
    have h0 := hp p (List.mem_cons_self ..)
    have hr := fun q hq => hp q (List.mem_cons_of_mem p (a := q) hq)
    have h1 := uni_rows (arU_var l) hg (hN p.1 h0.1) (hN p.2 h0.2) (rows (·.1) ps (fun q hq => (hr q hq).1)) (rows (·.2) ps (fun q hq => (hr q hq).2))
    have h2 := ih hr
    unfold rowA rowB at h2 ⊢
    rw [List.map_cons, List.map_cons]
    rw [sub_one, sub_one, subC_neg θ (by omega), subC_neg θ (by omega), h2] at h1
    refine Iff.trans h1 ?_
    constructor
    · rintro ⟨g1, g2⟩ q hq
      rcases List.mem_cons.1 hq with rfl | hq
      · exact g1
      · exact g2 q hq
    · intro g
      exact ⟨g p (List.mem_cons_self ..), fun q hq => g q (List.mem_cons_of_mem _ hq)⟩
theorem mgu_vars (l : List S66) (ps : List (Nat × Nat)) (hp : ∀ p ∈ ps, p.1 < 24 ∧ p.2 < 24) : Mgu l (rowA ps) (rowB ps) (tauRk (ranks ps (List.range 24))) (sigR (ranks ps (List.range 24))) := by
  have hok := ranks_ok ps _ rk0_ok hp
  refine ⟨solved_rk l hok, fun θ hg => ?_⟩
  rw [sub_rows θ hg ps hp]
  have h := ranks_iff (fun v => θ (-1 - (v : Int))) ps _ rk0_ok hp
  have h0 : (∀ k : Nat, k < 24 → θ (-1 - (k : Int)) = θ (-1 - (((List.range 24).getD k 0 : Nat) : Int))) := fun k hk => by rw [rk0_at hk]
  have h2 : (∀ p ∈ ps, θ (-1 - (p.1 : Int)) = θ (-1 - (p.2 : Int))) ↔ ∀ k : Nat, k < 24 → θ (-1 - (k : Int)) = θ (-1 - (((ranks ps (List.range 24)).getD k 0 : Nat) : Int)) := by
    rw [← h]
    exact ⟨fun g => ⟨h0, g⟩, fun g => g.2⟩
  rw [h2]
  constructor
  · intro g c hc hb
    unfold tauRk at hb ⊢
    split at hb
    · exact absurd rfl hb
    · rename_i hne
      rw [if_neg hne]
      rcases sigR_cases _ c hc with ⟨v, hv, rfl⟩ | ⟨e, _⟩
      · rw [sigR_at _ hv, sub_one, subC_neg θ (by omega)]
        exact g v hv
      · exact absurd e hne
  · intro g k hk
    by_cases e : sigR (ranks ps (List.range 24)) (-1 - (k : Int)) = [-1 - (k : Int)]
    · rw [sigR_at _ hk] at e
      have := List.singleton_inj.1 e
      rw [this]
    · have := g (-1 - (k : Int)) (by omega) (by unfold tauRk; rw [if_neg e, sigR_at _ hk]; simp)
      unfold tauRk at this
      rw [if_neg e, sigR_at _ hk, sub_one, subC_neg θ (by omega)] at this
      exact this
theorem row_vars {l : List S66} (hs : SignOk l) (f : Nat × Nat → Nat) (ps : List (Nat × Nat)) (hl : ps.length ≤ 48) (hp : ∀ p ∈ ps, f p < 24) : IsRow l (ps.map fun p => -1 - (f p : Int)) := by
  refine ⟨ps.length, hs, by rw [List.length_map]; exact hl, ?_⟩
  clear hl
  induction ps with
  | nil => exact isN_nil
  | cons p ps ih =>
    rw [List.map_cons, List.length_cons, Nat.add_comm]
    have := hp p (List.mem_cons_self ..)
    exact isN_append (isN_cons.2 ⟨0, arS_var0 (by omega) (by omega), isN_nil⟩) (ih (fun q hq => hp q (List.mem_cons_of_mem _ hq)))
/-- What is told of the ranks. -/
def rkL (rk : List Nat) : Nat → List S41
  | 0 => []
  | n + 1 => rkL rk n ++ (if rk.getD n 0 = n then [] else [⟨(n : Int), [-1 - ((rk.getD n 0 : Nat) : Int)]⟩])
theorem rkL_is (rk : List Nat) : ∀ n, n ≤ 24 → listS (sigR rk) n = rkL rk n := by
  intro n
  induction n with
  | zero => intro _; rfl
  | succ n ih =>
    intro hn
    simp only [listS, rkL]
    rw [ih (by omega), sigR_at rk (by omega)]
    by_cases e : rk.getD n 0 = n
    · rw [if_pos e, if_pos (by rw [e])]
    · rw [if_neg e, if_neg (fun h => e (by have := List.singleton_inj.1 h; omega))]
theorem unify_vars {l : List S66} (hs : SignOk l) (ps : List (Nat × Nat)) (hl : ps.length ≤ 48) (hp : ∀ p ∈ ps, p.1 < 24 ∧ p.2 < 24) : unifyV l (rowA ps) (rowB ps) = (rkL (ranks ps (List.range 24)) 24, true, 0) := by
  unfold rowA rowB
  rw [unifyV_mgu (row_vars hs (·.1) ps hl (fun p h => (hp p h).1)) (row_vars hs (·.2) ps hl (fun p h => (hp p h).2)) (mgu_vars l ps hp)]
  rcases outV_cases (sigR (ranks ps (List.range 24))) with ⟨_, v, hv, h48⟩ | ⟨e, _⟩
  · rw [sigR_at _ hv] at h48; simp at h48
  · rw [e, rkL_is _ 24 (Nat.le_refl _)]
theorem rkL_len (rk : List Nat) : ∀ n, (rkL rk n).length ≤ n
  | 0 => Nat.le_refl _
  | n + 1 => by
    have := rkL_len rk n
    simp only [rkL]
    rw [List.length_append]
    split <;> simp <;> omega
end Go.Proofs.YtaegdhpcnpojnaaDoor.PU
