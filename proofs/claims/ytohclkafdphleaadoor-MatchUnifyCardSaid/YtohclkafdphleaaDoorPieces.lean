/- The terms of a row, one by one: what the printed Pieces answers. -/
import Derived.Test.YtohclkafdphleaaDoorTerms
import Derived.Test.YtohclkafdphleaaDoorPUx0
import Derived.Test.YtohclkafdphleaaDoorPUx3
import Derived.Test.YtohclkafdphleaaDoorPUx4
namespace Go.Proofs.YtohclkafdphleaaDoor.PU
open Go Go.RowKit Go.Proofs.YtohclkafdphleaaDoorW.PrintWords Go.Proofs.YtohclkafdphleaaDoorW.PrintLast Go.Proofs.YtohclkafdphleaaDoor
set_option linter.unusedVariables false
set_option linter.unusedSimpArgs false
def pcs (l : List S73) (r : List Int) : List (List Int) := parts (arS l) r.length r
theorem parts_more {ar : Int → Option Nat} : ∀ (n : Nat) (r : List Int), r.length ≤ n → ∀ m, n ≤ m → parts ar m r = parts ar n r := by
  intro n
  induction n with
  | zero =>
    intro r hr m hm
    have : r = [] := List.length_eq_zero_iff.1 (by omega)
    subst this
    cases m with
    | zero => rfl
    | succ m => simp only [parts]; rw [skipN_nil]
  | succ n ih =>
    intro r hr m hm
    obtain ⟨m, rfl⟩ : ∃ q, m = q + 1 := ⟨m - 1, by omega⟩
    simp only [parts]
    cases e : skipN ar r 1 with
    | none => rfl
    | some s =>
      obtain ⟨t, ht, hn⟩ := skipN_split _ _ _ e
      have := isN_pos hn
      have hl : r.length = t.length + s.length := by rw [ht]; simp
      simp only
      rw [ih s (by omega) m (by omega)]
theorem pcs_none {l : List S73} {r : List Int} (h : skipN (arS l) r 1 = none) : pcs l r = [] := by
  unfold pcs
  cases e : r.length with
  | zero => rfl
  | succ n => simp only [parts]; rw [h]
theorem pcs_cons {l : List S73} {t s : List Int} (h : isN (arS l) 1 t) : pcs l (t ++ s) = t :: pcs l s := by
  have := isN_pos h
  unfold pcs
  obtain ⟨k, hk⟩ : ∃ k, (t ++ s).length = k + 1 := ⟨(t ++ s).length - 1, by rw [List.length_append]; omega⟩
  rw [hk, parts_cons h, parts_more s.length s (Nat.le_refl _) k (by rw [List.length_append] at hk; omega)]
theorem pcs_row {l : List S73} {n : Nat} {r : List Int} (h : isN (arS l) n r) : pcs l r = parts (arS l) n r := by
  unfold pcs
  have hp := isN_pos h
  induction n generalizing r with
  | zero =>
    have := isN_zero h
    subst this
    rfl
  | succ n ih =>
    rw [Nat.add_comm] at h
    obtain ⟨t, s, rfl, h1, h2⟩ := isN_split h
    have := pcs_cons (l := l) (s := s) h1
    unfold pcs at this
    rw [this, parts_cons h1, ih h2 (isN_pos h2)]
theorem pcs_mem {l : List S73} : ∀ (n : Nat) (r : List Int), r.length ≤ n → (pcs l r).length ≤ r.length ∧ ∀ t ∈ pcs l r, isN (arS l) 1 t ∧ t.length ≤ r.length ∧ ∀ c ∈ t, c ∈ r := by
  intro n
  induction n with
  | zero =>
    intro r hr
    have : r = [] := List.length_eq_zero_iff.1 (by omega)
    subst this
    exact ⟨Nat.le_refl _, fun t ht => by cases ht⟩
  | succ n ih =>
    intro r hr
    rcases skip_cases (l := l) r 0 with ⟨t, s, e, ht⟩ | e
    · rw [List.drop_zero] at e
      subst e
      have hp := isN_pos ht
      have hl : (t ++ s).length = t.length + s.length := List.length_append
      obtain ⟨h1, h2⟩ := ih s (by omega)
      rw [pcs_cons ht]
      refine ⟨by simp only [List.length_cons]; omega, fun x hx => ?_⟩
      rcases List.mem_cons.1 hx with rfl | hx
      · exact ⟨ht, by omega, fun c hc => List.mem_append.2 (.inl hc)⟩
      · obtain ⟨a, b, c⟩ := h2 x hx
        exact ⟨a, by omega, fun y hy => List.mem_append.2 (.inr (c y hy))⟩
    · rw [List.drop_zero] at e
      rw [pcs_none e]
      exact ⟨Nat.zero_le _, fun t ht => by cases ht⟩
theorem pieces_loop {l : List S73} (hs : SignOk l) (r : List Int) (hr : r.length ≤ 48) : ∀ (d i : Nat) (out : List (List Int)), r.length - i ≤ d → i ≤ r.length → out.length ≤ i → Ev (fun k => term_Pieces.l0 k l r out (i : Int)) (out ++ pcs l (r.drop i)) := by
  intro d
  induction d with
  | zero =>
    intro i out hd hi ho
    refine Ev.step (f := fun _ => some out) (fun k => ?_) (Ev.some_ ?_)
    · simp only [term_Pieces.l0]
      rw [if_neg (by omega)]
    · rw [List.drop_eq_nil_of_le (by omega)]
      simp [pcs, parts]
  | succ d ih =>
    intro i out hd hi ho
    by_cases hlt : i < r.length
    · have hsk := skip_ev hs r hr i hi
      rcases skip_cases (l := l) r i with ⟨t, s, e, ht⟩ | e
      · obtain ⟨hv, hdr⟩ := skipV_some hi ht e
        have htl := isN_pos ht
        have hle : i + t.length ≤ r.length := by
          have : (r.drop i).length = t.length + s.length := by rw [e]; simp
          rw [List.length_drop] at this
          omega
        rw [hv] at hsk
        have htk : (r.take (i + t.length)).drop i = t := by
          rw [List.drop_take, e, show i + t.length - i = t.length by omega]
          simp
        have ih' := ih (i + t.length) (out ++ [t]) (by omega) hle (by simp; omega)
        rw [hdr] at ih'
        rw [e, pcs_cons ht]
        refine Ev.step (f := fun k => (term_Skip.f k l r (i : Int)).bind fun b => if b.2 = true then (if 0 ≤ (i : Int) then (if (i : Int) ≤ b.1 then (if b.1 ≤ (r.length : Int) then (if out.length < 5864062014805 then term_Pieces.l0 k l r (out ++ [((r.take (b.1 : Int).toNat).drop (i : Int).toNat)]) b.1 else none) else none) else none) else none) else some out) (fun k => ?_) (Ev.bind hsk ?_)
        · simp only [term_Pieces.l0]
          rw [if_pos (by omega)]
        · refine Ev.if_pos rfl (Ev.if_pos (by omega) (Ev.if_pos (by simp only; omega) (Ev.if_pos (by simp only; omega) (Ev.if_pos (by omega) ?_))))
          simp only [Int.toNat_natCast]
          rw [htk]
          exact ih'.as_ (by simp)
      · have hv : skipV l r i 1 = (0, false) := by unfold skipV; rw [e]
        rw [hv] at hsk
        refine Ev.step (f := fun k => (term_Skip.f k l r (i : Int)).bind fun b => if b.2 = true then (if 0 ≤ (i : Int) then (if (i : Int) ≤ b.1 then (if b.1 ≤ (r.length : Int) then (if out.length < 5864062014805 then term_Pieces.l0 k l r (out ++ [((r.take (b.1 : Int).toNat).drop (i : Int).toNat)]) b.1 else none) else none) else none) else none) else some out) (fun k => ?_) (Ev.bind hsk (Ev.if_neg (by simp) (Ev.some_ ?_)))
        · simp only [term_Pieces.l0]
          rw [if_pos (by omega)]
        · rw [pcs_none e]
          simp
    · refine Ev.step (f := fun _ => some out) (fun k => ?_) (Ev.some_ ?_)
      · simp only [term_Pieces.l0]
        rw [if_neg (by omega)]
      · rw [List.drop_eq_nil_of_le (by omega)]
        simp [pcs, parts]
theorem pieces_ev {l : List S73} (hs : SignOk l) (r : List Int) (hr : r.length ≤ 48) : Ev (fun k => term_Pieces.f k l r) (pcs l r) := by
  unfold term_Pieces.f
  exact (pieces_loop hs r hr r.length 0 [] (by omega) (by omega) (by simp)).as_ (by simp)
end Go.Proofs.YtohclkafdphleaaDoor.PU
