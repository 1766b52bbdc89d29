/- What the printed functions of package term, and the reference's End and Terms, answer: by rows in prefix notation. -/
import Derived.Test.YtohclkafdphleaaDoorSign
import Derived.Test.YtohclkafdphleaaDoorPolish
import Derived.Test.YtohclkafdphleaaDoorPMx0
import Derived.Test.YtohclkafdphleaaDoorPMx3
import Derived.Test.YtohclkafdphleaaDoorPMx4
import Derived.Test.YtohclkafdphleaaDoorPMx7
namespace Go.Proofs.YtohclkafdphleaaDoor.PM
open Go Go.RowKit Go.Proofs.YtohclkafdphleaaDoorW.PrintWords Go.Proofs.YtohclkafdphleaaDoorW.PrintLast Go.Proofs.YtohclkafdphleaaDoor
set_option linter.unusedVariables false
set_option linter.unusedSimpArgs false

/-- How many terms stand behind a code; none: it begins no term. -/
def arS (l : List S73) (c : Int) : Option Nat :=
  if c < 0 then (if -24 ≤ c then some 0 else none) else if c < l.length ∧ (l.getD c.toNat z73).f1 ≠ 0 then some (l.getD c.toNat z73).f2.toNat else none
theorem sign_arity {l : List S73} (h : SignOk l) (j : Nat) (hj : j < l.length) : 0 ≤ (l.getD j z73).f2 ∧ (l.getD j z73).f2 ≤ 3 := by
  obtain ⟨_, _, h0, h1⟩ := h
  cases j with
  | zero =>
    obtain ⟨_, _, e, _⟩ := h0
    rw [e]
    decide
  | succ j =>
    obtain ⟨⟨_, _, _, a, b, _⟩, _⟩ := h1 (j + 1) (by omega) hj
    exact ⟨a, b⟩
theorem arS_le {l : List S73} (h : SignOk l) {c : Int} {m : Nat} (e : arS l c = some m) : m ≤ 3 := by
  unfold arS at e
  split at e
  · split at e
    · have := Option.some.inj e; omega
    · cases e
  · split at e
    · rename_i h1 h2
      have := sign_arity h c.toNat (by omega)
      have := Option.some.inj e
      omega
    · cases e
theorem arS_neg {l : List S73} {c : Int} (h : c < 0) {m : Nat} (e : arS l c = some m) : m = 0 ∧ -24 ≤ c := by
  unfold arS at e
  rw [if_pos h] at e
  split at e
  · exact ⟨(Option.some.inj e).symm, by assumption⟩
  · cases e
theorem arS_pos {l : List S73} {c : Int} (h : 0 ≤ c) {m : Nat} (e : arS l c = some m) : c < l.length ∧ (l.getD c.toNat z73).f1 ≠ 0 ∧ m = (l.getD c.toNat z73).f2.toNat := by
  unfold arS at e
  rw [if_neg (by omega)] at e
  split at e
  · rename_i h2
    exact ⟨h2.1, h2.2, (Option.some.inj e).symm⟩
  · cases e
theorem args_f {l : List S73} (h : SignOk l) (c : Int) : term_args.f l c = some (match arS l c with | some m => ((m : Int), true) | none => (0, false)) := by
  have hl := h.2.1
  unfold term_args.f arS
  by_cases h0 : c < 0
  · rw [if_pos h0, if_pos h0]
    have e : term_Number.f 23 = some (-24) := by simp [term_Number.f, wrap64]
    rw [e]
    by_cases h1 : -24 ≤ c
    · rw [if_pos h1]; simp [h1]
    · rw [if_neg h1]; simp [h1]
  · rw [if_neg h0, if_neg h0]
    by_cases h1 : c ≥ (l.length : Int)
    · rw [if_pos h1, if_neg (by omega)]
    · rw [if_neg h1, if_pos (by omega), if_pos (by omega)]
      have e : rd_T73 l c = l.getD c.toNat z73 := rfl
      rw [e]
      by_cases h2 : (l.getD c.toNat z73).f1 = 0
      · rw [if_pos h2, if_neg (fun a => a.2 h2)]
      · rw [if_neg h2, if_pos ⟨by omega, h2⟩]
        have := (sign_arity h c.toNat (by omega)).1
        show some ((l.getD c.toNat z73).f2, true) = some ((((l.getD c.toNat z73).f2.toNat : Nat) : Int), true)
        rw [Int.toNat_of_nonneg this]
theorem rd_nat (r : List Int) (i : Nat) (h : i < r.length) : rd r (i : Int) = r[i] := by
  simp [rd, List.getElem?_eq_getElem h]
theorem drop_cons (r : List Int) (i : Nat) (h : i < r.length) : r.drop i = rd r (i : Int) :: r.drop (i + 1) := by
  rw [rd_nat r i h, List.drop_eq_getElem_cons h]

def skipV (l : List S73) (r : List Int) (i n : Nat) : Int × Bool := match skipN (arS l) (r.drop i) n with | some s => ((r.length : Int) - s.length, true) | none => (0, false)
theorem skip_loop {l : List S73} (hs : SignOk l) (r : List Int) (hr : r.length ≤ 48) : ∀ (d i n : Nat), r.length - i = d → i ≤ r.length → 1 ≤ n → n + 3 * d ≤ 1000 → Ev (fun k => term_Skip.l0 k l r (i : Int) (n : Int)) (skipV l r i n) := by
  intro d
  induction d with
  | zero =>
    intro i n hd hi hn hb
    refine Ev.step (f := fun _ => some (0, false)) (fun k => ?_) (Ev.some_ ?_)
    · simp only [term_Skip.l0]
      rw [if_pos (by omega)]
    · unfold skipV
      rw [List.drop_eq_nil_of_le (by omega)]
      obtain ⟨m, rfl⟩ : ∃ m, n = m + 1 := ⟨n - 1, by omega⟩
      rw [skipN_nil]
  | succ d ih =>
    intro i n hd hi hn hb
    have hlt : i < r.length := by omega
    obtain ⟨m, rfl⟩ : ∃ m, n = m + 1 := ⟨n - 1, by omega⟩
    have hv : skipV l r i (m + 1) = match arS l (rd r (i : Int)) with | none => (0, false) | some k => skipV l r (i + 1) (m + k) := by
      unfold skipV
      rw [drop_cons r i hlt, skipN_cons]
      cases arS l (rd r (i : Int)) <;> rfl
    have ha := args_f hs (rd r (i : Int))
    cases e : arS l (rd r (i : Int)) with
    | none =>
      rw [e] at ha hv
      refine Ev.step (f := fun _ => some (0, false)) (fun k => ?_) (Ev.some_ hv.symm)
      simp only [term_Skip.l0]
      rw [if_neg (by omega), if_pos (by omega), if_pos (by omega), ha]
      simp
    | some k =>
      rw [e] at ha hv
      have hk := arS_le hs e
      have hw : wrap64 (((m + 1 : Nat) : Int) + wrap64 ((k : Int) - 1)) = ((m + k : Nat) : Int) := by
        unfold wrap64
        omega
      replace hv : skipV l r i (m + 1) = skipV l r (i + 1) (m + k) := hv
      rw [hv]
      by_cases h0 : m + k = 0
      · refine Ev.step (f := fun _ => some (((i + 1 : Nat) : Int), true)) (fun q => ?_) (Ev.some_ ?_)
        · simp only [term_Skip.l0]
          rw [if_neg (by omega), if_pos (by omega), if_pos (by omega), ha]
          simp only [Option.bind_some, if_true]
          rw [hw, if_neg (by omega), wrap_nat i (by omega)]
        · unfold skipV
          rw [h0]
          simp only [skipN_zero, List.length_drop]
          congr 1
          omega
      · refine Ev.step (f := fun q => term_Skip.l0 q l r ((i + 1 : Nat) : Int) ((m + k : Nat) : Int)) (fun q => ?_) (ih (i + 1) (m + k) (by omega) (by omega) (by omega) (by omega))
        simp only [term_Skip.l0]
        rw [if_neg (by omega), if_pos (by omega), if_pos (by omega), ha]
        simp only [Option.bind_some, if_true]
        rw [hw, if_pos (by omega), wrap_nat i (by omega)]
theorem skip_ev {l : List S73} (hs : SignOk l) (r : List Int) (hr : r.length ≤ 48) (i : Nat) (hi : i ≤ r.length) : Ev (fun k => term_Skip.f k l r (i : Int)) (skipV l r i 1) := by
  unfold term_Skip.f
  exact skip_loop hs r hr (r.length - i) i 1 rfl hi (by omega) (by omega)
theorem skipV_some {l : List S73} {r t s : List Int} {i : Nat} (hi : i ≤ r.length) (h : isN (arS l) 1 t) (e : r.drop i = t ++ s) : skipV l r i 1 = (((i + t.length : Nat) : Int), true) ∧ r.drop (i + t.length) = s := by
  have hl : (r.drop i).length = t.length + s.length := by rw [e]; simp
  rw [List.length_drop] at hl
  refine ⟨?_, ?_⟩
  · unfold skipV
    rw [e, isN_skip h]
    show ((r.length : Int) - s.length, true) = _
    congr 1
    omega
  · rw [← List.drop_drop, e]
    simp
theorem skip_cases {l : List S73} (r : List Int) (i : Nat) : (∃ t s, r.drop i = t ++ s ∧ isN (arS l) 1 t) ∨ skipN (arS l) (r.drop i) 1 = none := by
  cases e : skipN (arS l) (r.drop i) 1 with
  | none => exact .inr rfl
  | some s =>
    obtain ⟨t, ht, hn⟩ := skipN_split _ _ _ e
    exact .inl ⟨t, s, ht, hn⟩

/-! a row -/
def Row (l : List S73) (n : Nat) (r : List Int) : Prop := SignOk l ∧ r.length ≤ 48 ∧ isN (arS l) n r
def IsRow (l : List S73) (r : List Int) : Prop := ∃ n, Row l n r
theorem begins_loop {l : List S73} (hs : SignOk l) (r : List Int) (hr : r.length ≤ 48) : ∀ (d i : Nat) (out : List Int), r.length - i ≤ d → i ≤ r.length → out.length ≤ i →
    (∀ n, isN (arS l) n (r.drop i) → ∃ o : List Int, o.length = out.length + n ∧ Ev (fun k => term_begins.l0 k l r out (i : Int)) (o, true)) ∧ ((∀ n, ¬ isN (arS l) n (r.drop i)) → Ev (fun k => term_begins.l0 k l r out (i : Int)) ([], false)) := by
  intro d
  induction d with
  | zero =>
    intro i out hd hi ho
    have hi' : i = r.length := by omega
    refine ⟨fun n hn => ?_, fun hn => ?_⟩
    · have : n = 0 := by have := isN_pos hn; rw [List.length_drop] at this; omega
      subst this
      refine ⟨out, rfl, Ev.step (f := fun _ => some (out, true)) (fun k => ?_) (Ev.now _)⟩
      simp only [term_begins.l0]
      rw [if_pos (by omega)]
    · exact absurd (by rw [List.drop_eq_nil_of_le (by omega)]; exact isN_nil) (hn 0)
  | succ d ih =>
    intro i out hd hi ho
    by_cases hi' : i = r.length
    · refine ⟨fun n hn => ?_, fun hn => ?_⟩
      · have : n = 0 := by have := isN_pos hn; rw [List.length_drop] at this; omega
        subst this
        refine ⟨out, rfl, Ev.step (f := fun _ => some (out, true)) (fun k => ?_) (Ev.now _)⟩
        simp only [term_begins.l0]
        rw [if_pos (by omega)]
      · exact absurd (by rw [List.drop_eq_nil_of_le (by omega)]; exact isN_nil) (hn 0)
    · have hsk := skip_ev hs r hr i hi
      rcases skip_cases (l := l) r i with ⟨t, s, e, ht⟩ | e
      · obtain ⟨hv, hdr⟩ := skipV_some hi ht e
        have htl := isN_pos ht
        have hle : i + t.length ≤ r.length := by
          have : (r.drop i).length = t.length + s.length := by rw [e]; simp
          rw [List.length_drop] at this
          omega
        obtain ⟨ih1, ih2⟩ := ih (i + t.length) (out ++ [(i : Int)]) (by omega) hle (by simp; omega)
        rw [hdr] at ih1 ih2
        rw [hv] at hsk
        have step : ∀ q, Ev (fun k => term_begins.l0 k l r (out ++ [(i : Int)]) ((i + t.length : Nat) : Int)) q → Ev (fun k => term_begins.l0 k l r out (i : Int)) q := by
          intro q hq
          refine Ev.step (f := fun k => (term_Skip.f k l r (i : Int)).bind fun b => if b.2 = true then (if out.length < 17592186044416 then term_begins.l0 k l r (out ++ [(i : Int)]) b.1 else none) else some ([], false)) (fun k => ?_) ?_
          · simp only [term_begins.l0]
            rw [if_neg (by omega)]
          · exact Ev.bind hsk (Ev.if_pos rfl (Ev.if_pos (by omega) hq))
        refine ⟨fun n hn => ?_, fun hn => ?_⟩
        · cases n with
          | zero =>
            have := isN_zero hn
            rw [e] at this
            have h2 := congrArg List.length this; rw [List.length_append, List.length_nil] at h2
            omega
          | succ n =>
            rw [e, Nat.add_comm] at hn
            obtain ⟨t', s', e', h1, h2⟩ := isN_split hn
            obtain ⟨rfl, rfl⟩ := isN_prefix ht h1 e'
            obtain ⟨o, ho1, ho2⟩ := ih1 n h2
            exact ⟨o, by rw [ho1]; simp; omega, step _ ho2⟩
        · refine step _ (ih2 fun n h2 => hn (1 + n) ?_)
          rw [e]
          exact isN_append ht h2
      · have hv : skipV l r i 1 = (0, false) := by unfold skipV; rw [e]
        rw [hv] at hsk
        refine ⟨fun n hn => ?_, fun hn => ?_⟩
        · cases n with
          | zero => have := isN_zero hn; have h2 := congrArg List.length this; rw [List.length_drop, List.length_nil] at h2; omega
          | succ n =>
            rw [Nat.add_comm] at hn
            obtain ⟨t', s', e', h1, h2⟩ := isN_split hn
            rw [e', isN_skip h1] at e
            cases e
        · refine Ev.step (f := fun k => (term_Skip.f k l r (i : Int)).bind fun b => if b.2 = true then (if out.length < 17592186044416 then term_begins.l0 k l r (out ++ [(i : Int)]) b.1 else none) else some ([], false)) (fun k => ?_) ?_
          · simp only [term_begins.l0]
            rw [if_neg (by omega)]
          · exact Ev.bind hsk (Ev.if_neg (by simp) (Ev.now _))

theorem begins_row {l : List S73} {r : List Int} {n : Nat} (h : Row l n r) : ∃ o : List Int, o.length = n ∧ Ev (fun k => term_begins.f k l r) (o, true) := by
  obtain ⟨hs, hr, hn⟩ := h
  obtain ⟨o, h1, h2⟩ := (begins_loop hs r hr r.length 0 [] (by omega) (by omega) (by simp)).1 n hn
  refine ⟨o, by simpa using h1, ?_⟩
  unfold term_begins.f
  refine Ev.bind (may_ev l) (Ev.if_pos (signB_true.2 hs) (Ev.step (fun k => ?_) h2))
  simp only [term_begins.j0]
  rw [if_neg (by simp; omega)]
  rfl
theorem begins_no {l : List S73} {r : List Int} (h : ¬ IsRow l r) : Ev (fun k => term_begins.f k l r) ([], false) := by
  have hj : ∀ b, b = true → Ev (fun k => term_begins.j0 k l r b) ([], false) := fun b hb => Ev.step (f := fun _ => some ([], false)) (fun k => by simp only [term_begins.j0]; rw [if_pos hb]) (Ev.now _)
  unfold term_begins.f
  refine Ev.bind (may_ev l) ?_
  by_cases hs : SignOk l
  · refine Ev.if_pos (signB_true.2 hs) ?_
    by_cases hr : r.length ≤ 48
    · refine Ev.step (fun k => ?_) ((begins_loop hs r hr r.length 0 [] (by omega) (by omega) (by simp)).2 fun n hn => h ⟨n, hs, hr, hn⟩)
      simp only [term_begins.j0]
      rw [if_neg (by simp; omega)]
      rfl
    · exact hj _ (by simp; omega)
  · exact Ev.if_neg (by rw [signB_true]; exact hs) (hj true rfl)
open Classical in
theorem isRow_ev (l : List S73) (r : List Int) : Ev (fun k => term_IsRow.f k l r) (decide (IsRow l r)) := by
  unfold term_IsRow.f
  by_cases h : IsRow l r
  · obtain ⟨n, hn⟩ := h
    obtain ⟨o, _, h2⟩ := begins_row hn
    refine Ev.bind h2 (Ev.some_ ?_)
    have : IsRow l r := ⟨n, hn⟩
    simp [this]
  · exact Ev.bind (begins_no h) (Ev.some_ (by simp [h]))

/-! the reference's -/
def endV (l : List S73) (r : List Int) (i n : Nat) : Int := match skipN (arS l) (r.drop i) n with | some s => (r.length : Int) - s.length | none => -1
theorem end_loop {l : List S73} (hs : SignOk l) (r : List Int) (hr : r.length ≤ 48) : ∀ (d i n : Nat), r.length - i = d → i ≤ r.length → n + 3 * d ≤ 1000 → Ev (fun k => quaereref1_End.l0 k l r (n : Int) (i : Int)) (endV l r i n) := by
  have hl := hs.2.1
  intro d
  induction d with
  | zero =>
    intro i n hd hi hb
    cases n with
    | zero =>
      refine Ev.step (f := fun _ => some (i : Int)) (fun k => ?_) (Ev.some_ ?_)
      · simp only [quaereref1_End.l0]
        rw [if_neg (by omega)]
      · unfold endV
        rw [skipN_zero]
        simp only [List.length_drop]
        omega
    | succ n =>
      refine Ev.step (f := fun k => quaereref1_End.j1 k l r ((n + 1 : Nat) : Int) (i : Int) true) (fun k => ?_) (Ev.step (f := fun _ => some (-1)) (fun k => ?_) (Ev.some_ ?_))
      · simp only [quaereref1_End.l0]
        rw [if_pos (by omega), if_pos (by omega)]
      · simp only [quaereref1_End.j1]
        rw [if_pos trivial]
      · unfold endV
        rw [List.drop_eq_nil_of_le (by omega), skipN_nil]
  | succ d ih =>
    intro i n hd hi hb
    have hlt : i < r.length := by omega
    cases n with
    | zero =>
      refine Ev.step (f := fun _ => some (i : Int)) (fun k => ?_) (Ev.some_ ?_)
      · simp only [quaereref1_End.l0]
        rw [if_neg (by omega)]
      · unfold endV
        rw [skipN_zero]
        simp only [List.length_drop]
        omega
    | succ n =>
      have hv : endV l r i (n + 1) = match arS l (rd r (i : Int)) with | none => -1 | some k => endV l r (i + 1) (n + k) := by
        unfold endV
        rw [drop_cons r i hlt, skipN_cons]
        cases arS l (rd r (i : Int)) <;> rfl
      have head : ∀ q, Ev (fun k => quaereref1_End.j1 k l r ((n + 1 : Nat) : Int) (i : Int) (decide (rd r (i : Int) < -24 ∨ rd r (i : Int) ≥ (l.length : Int)))) q → Ev (fun k => quaereref1_End.l0 k l r ((n + 1 : Nat) : Int) (i : Int)) q := by
        intro q hq
        refine Ev.step (fun k => ?_) hq
        simp only [quaereref1_End.l0]
        rw [if_pos (by omega), if_neg (by omega), if_pos (by omega), if_pos (by omega)]
        by_cases h1 : rd r (i : Int) < -24
        · rw [if_pos h1]
          have : decide (rd r (i : Int) < -24 ∨ rd r (i : Int) ≥ (l.length : Int)) = true := by simp [h1]
          rw [this]
        · rw [if_neg h1]
          have : decide (rd r (i : Int) < -24 ∨ rd r (i : Int) ≥ (l.length : Int)) = decide (rd r (i : Int) ≥ (l.length : Int)) := by
            rw [decide_eq_decide]
            constructor
            · rintro (h | h)
              · exact absurd h h1
              · exact h
            · exact .inr
          rw [this]
      refine head _ ?_
      generalize hc : rd r (i : Int) = c at hv ⊢
      by_cases h1 : c < -24 ∨ c ≥ (l.length : Int)
      · have : decide (c < -24 ∨ c ≥ (l.length : Int)) = true := by simpa using h1
        rw [this]
        have ea : arS l c = none := by
          unfold arS
          rcases h1 with h1 | h1
          · rw [if_pos (by omega), if_neg (by omega)]
          · rw [if_neg (by omega), if_neg (fun a => by omega)]
        rw [ea] at hv
        refine Ev.step (f := fun _ => some (-1)) (fun k => ?_) (Ev.some_ hv.symm)
        simp only [quaereref1_End.j1]
        rw [if_pos trivial]
      · have : decide (c < -24 ∨ c ≥ (l.length : Int)) = false := by simpa using h1
        rw [this]
        by_cases h0 : c ≥ 0
        · have e : rd_T73 l c = l.getD c.toNat z73 := rfl
          by_cases h2 : (l.getD c.toNat z73).f1 = 0
          · have ea : arS l c = none := by
              unfold arS
              rw [if_neg (by omega), if_neg (fun a => a.2 h2)]
            rw [ea] at hv
            refine Ev.step (f := fun _ => some (-1)) (fun k => ?_) (Ev.some_ hv.symm)
            simp only [quaereref1_End.j1]
            rw [if_neg (by decide), if_pos (by omega), if_pos (by omega), hc, if_pos h0, if_pos h0, if_pos (by omega), e, if_pos h2]
          · have har := sign_arity hs c.toNat (by omega)
            have ea : arS l c = some (l.getD c.toNat z73).f2.toNat := by
              unfold arS
              rw [if_neg (by omega), if_pos ⟨by omega, h2⟩]
            rw [ea] at hv
            rw [hv]
            refine Ev.step (f := fun k => quaereref1_End.l0 k l r ((n + (l.getD c.toNat z73).f2.toNat : Nat) : Int) ((i + 1 : Nat) : Int)) (fun k => ?_) (ih (i + 1) _ (by omega) (by omega) (by omega))
            simp only [quaereref1_End.j1]
            rw [if_neg (by decide), if_pos (by omega), if_pos (by omega), hc, if_pos h0, if_pos h0, if_pos (by omega), e, if_neg h2, wrap_nat i (by omega)]
            congr 1
            unfold wrap64
            omega
        · have ea : arS l c = some 0 := by
            unfold arS
            rw [if_pos (by omega), if_pos (by omega)]
          rw [ea] at hv
          rw [hv]
          refine Ev.step (f := fun k => quaereref1_End.l0 k l r ((n + 0 : Nat) : Int) ((i + 1 : Nat) : Int)) (fun k => ?_) (ih (i + 1) _ (by omega) (by omega) (by omega))
          simp only [quaereref1_End.j1]
          rw [if_neg (by decide), if_pos (by omega), if_pos (by omega), hc, if_neg h0, wrap_nat i (by omega)]
          congr 1
          unfold wrap64
          omega
theorem end_ev {l : List S73} (hs : SignOk l) (r : List Int) (hr : r.length ≤ 48) (i : Nat) (hi : i ≤ r.length) : Ev (fun k => quaereref1_End.f k l r (i : Int)) (endV l r i 1) := by
  unfold quaereref1_End.f
  exact end_loop hs r hr (r.length - i) i 1 rfl hi (by omega)
theorem endV_some {l : List S73} {r t s : List Int} {i : Nat} (hi : i ≤ r.length) (h : isN (arS l) 1 t) (e : r.drop i = t ++ s) : endV l r i 1 = ((i + t.length : Nat) : Int) := by
  have hl : (r.drop i).length = t.length + s.length := by rw [e]; simp
  rw [List.length_drop] at hl
  unfold endV
  rw [e, isN_skip h]
  show (r.length : Int) - s.length = _
  omega
theorem terms_loop {l : List S73} (hs : SignOk l) (r : List Int) (hr : r.length ≤ 48) : ∀ (d i m : Nat), r.length - i ≤ d → i ≤ r.length → m ≤ i →
    (∀ n, isN (arS l) n (r.drop i) → Ev (fun k => quaereref1_Terms.l0 k l r (m : Int) (i : Int)) ((m + n : Nat) : Int)) ∧ ((∀ n, ¬ isN (arS l) n (r.drop i)) → Ev (fun k => quaereref1_Terms.l0 k l r (m : Int) (i : Int)) (-1)) := by
  intro d
  induction d with
  | zero =>
    intro i m hd hi ho
    refine ⟨fun n hn => ?_, fun hn => ?_⟩
    · have : n = 0 := by have := isN_pos hn; rw [List.length_drop] at this; omega
      subst this
      refine Ev.step (f := fun _ => some (m : Int)) (fun k => ?_) (Ev.now _)
      simp only [quaereref1_Terms.l0]
      rw [if_neg (by omega)]
    · exact absurd (by rw [List.drop_eq_nil_of_le (by omega)]; exact isN_nil) (hn 0)
  | succ d ih =>
    intro i m hd hi ho
    by_cases hi' : i = r.length
    · refine ⟨fun n hn => ?_, fun hn => ?_⟩
      · have : n = 0 := by have := isN_pos hn; rw [List.length_drop] at this; omega
        subst this
        refine Ev.step (f := fun _ => some (m : Int)) (fun k => ?_) (Ev.now _)
        simp only [quaereref1_Terms.l0]
        rw [if_neg (by omega)]
      · exact absurd (by rw [List.drop_eq_nil_of_le (by omega)]; exact isN_nil) (hn 0)
    · have hsk := end_ev hs r hr i hi
      rcases skip_cases (l := l) r i with ⟨t, s, e, ht⟩ | e
      · have hv := endV_some hi ht e
        have hdr := (skipV_some hi ht e).2
        have htl := isN_pos ht
        have hle : i + t.length ≤ r.length := by
          have : (r.drop i).length = t.length + s.length := by rw [e]; simp
          rw [List.length_drop] at this
          omega
        obtain ⟨ih1, ih2⟩ := ih (i + t.length) (m + 1) (by omega) hle (by omega)
        rw [hdr] at ih1 ih2
        rw [hv] at hsk
        have step : ∀ q, Ev (fun k => quaereref1_Terms.l0 k l r ((m + 1 : Nat) : Int) ((i + t.length : Nat) : Int)) q → Ev (fun k => quaereref1_Terms.l0 k l r (m : Int) (i : Int)) q := by
          intro q hq
          refine Ev.step (f := fun k => (quaereref1_End.f k l r (i : Int)).bind fun b => if b < 0 then some (-1) else quaereref1_Terms.l0 k l r ((m + 1 : Nat) : Int) b) (fun k => ?_) ?_
          · simp only [quaereref1_Terms.l0]
            rw [if_pos (by omega), wrap_nat m (by omega)]
          · exact Ev.bind hsk (Ev.if_neg (by omega) hq)
        refine ⟨fun n hn => ?_, fun hn => ?_⟩
        · cases n with
          | zero =>
            have := isN_zero hn
            rw [e] at this
            have h2 := congrArg List.length this; rw [List.length_append, List.length_nil] at h2
            omega
          | succ n =>
            rw [e, Nat.add_comm] at hn
            obtain ⟨t', s', e', h1, h2⟩ := isN_split hn
            obtain ⟨rfl, rfl⟩ := isN_prefix ht h1 e'
            exact (step _ (ih1 n h2)).as_ (by omega)
        · refine step _ (ih2 fun n h2 => hn (1 + n) ?_)
          rw [e]
          exact isN_append ht h2
      · have hv : endV l r i 1 = -1 := by unfold endV; rw [e]
        rw [hv] at hsk
        refine ⟨fun n hn => ?_, fun hn => ?_⟩
        · cases n with
          | zero => have := isN_zero hn; have h2 := congrArg List.length this; rw [List.length_drop, List.length_nil] at h2; omega
          | succ n =>
            rw [Nat.add_comm] at hn
            obtain ⟨t', s', e', h1, h2⟩ := isN_split hn
            rw [e', isN_skip h1] at e
            cases e
        · refine Ev.step (f := fun k => (quaereref1_End.f k l r (i : Int)).bind fun b => if b < 0 then some (-1) else quaereref1_Terms.l0 k l r ((m + 1 : Nat) : Int) b) (fun k => ?_) ?_
          · simp only [quaereref1_Terms.l0]
            rw [if_pos (by omega), wrap_nat m (by omega)]
          · exact Ev.bind hsk (Ev.if_pos (by omega) (Ev.now _))
open Classical in
/-- How many terms a row has; -1: it is none (of a signature that may be). -/
noncomputable def termsV (l : List S73) (r : List Int) : Int := if h : ∃ n, Row l n r then ((Classical.choose h : Nat) : Int) else -1
theorem termsV_row {l : List S73} {r : List Int} {n : Nat} (h : Row l n r) : termsV l r = n := by
  unfold termsV
  have h' : ∃ n, Row l n r := ⟨n, h⟩
  rw [dif_pos h']
  have := Classical.choose_spec h'
  have := isN_uniq this.2.2 h.2.2
  omega
theorem termsV_no {l : List S73} {r : List Int} (h : ¬ IsRow l r) : termsV l r = -1 := by
  unfold termsV
  exact dif_neg h
theorem terms_ev {l : List S73} (hs : SignOk l) (r : List Int) : Ev (fun k => quaereref1_Terms.f k l r) (termsV l r) := by
  unfold quaereref1_Terms.f
  by_cases hr : r.length ≤ 48
  · refine Ev.if_neg (by omega) ?_
    obtain ⟨h1, h2⟩ := terms_loop hs r hr r.length 0 0 (by omega) (by omega) (by omega)
    by_cases h : IsRow l r
    · obtain ⟨n, hn⟩ := h
      rw [termsV_row hn]
      exact (h1 n hn.2.2).as_ (by simp)
    · rw [termsV_no h]
      exact h2 fun n hn => h ⟨n, hs, hr, hn⟩
  · refine Ev.if_pos (by omega) (Ev.some_ ?_)
    rw [termsV_no (fun ⟨n, h⟩ => hr h.2.1)]
end Go.Proofs.YtohclkafdphleaaDoor.PM
/- The comparisons of two rows of numbers: what the printed loops answer. -/
namespace Go.Proofs.YtohclkafdphleaaDoor.PM
open Go Go.RowKit Go.Proofs.YtohclkafdphleaaDoorW.PrintWords Go.Proofs.YtohclkafdphleaaDoorW.PrintLast Go.Proofs.YtohclkafdphleaaDoor
set_option linter.unusedVariables false

theorem drop_eq_iff {a b : List Int} (hl : a.length = b.length) {i : Nat} (hi : i < a.length) : a.drop i = b.drop i ↔ rd a (i : Int) = rd b (i : Int) ∧ a.drop (i + 1) = b.drop (i + 1) := by
  rw [drop_cons a i hi, drop_cons b i (by omega)]
  simp
open Classical in
theorem equal_loop (a b : List Int) (hl : a.length = b.length) (hn : a.length ≤ 9223372036854775807) : ∀ (d i : Nat), a.length - i = d → i ≤ a.length → Ev (fun k => slices_Equal_int_int.l0 k a b (a.length : Int) (i : Int)) (decide (a.drop i = b.drop i)) := by
  intro d
  induction d with
  | zero =>
    intro i hd hi
    refine Ev.step (f := fun _ => some true) (fun k => ?_) (Ev.some_ ?_)
    · simp only [slices_Equal_int_int.l0]
      rw [if_neg (by omega)]
    · rw [List.drop_eq_nil_of_le (by omega), List.drop_eq_nil_of_le (by omega)]
      simp
  | succ d ih =>
    intro i hd hi
    have hlt : i < a.length := by omega
    by_cases e : rd a (i : Int) = rd b (i : Int)
    · refine Ev.step (f := fun k => slices_Equal_int_int.l0 k a b (a.length : Int) ((i + 1 : Nat) : Int)) (fun k => ?_) ((ih (i + 1) (by omega) (by omega)).as_ ?_)
      · simp only [slices_Equal_int_int.l0]
        rw [if_pos (by omega), if_pos (by omega), if_pos (by omega), if_pos (by omega), if_pos e, wrap_nat i (by omega)]
      · rw [decide_eq_decide, drop_eq_iff hl hlt]
        simp [e]
    · refine Ev.step (f := fun k => some false) (fun k => ?_) (Ev.some_ ?_)
      · simp only [slices_Equal_int_int.l0]
        rw [if_pos (by omega), if_pos (by omega), if_pos (by omega), if_pos (by omega), if_neg e]
      · symm
        rw [decide_eq_false_iff_not, drop_eq_iff hl hlt]
        exact fun h => e h.1
open Classical in
theorem equal_ev (a b : List Int) (hn : a.length ≤ 9223372036854775807) : Ev (fun k => slices_Equal_int_int.f k a b) (decide (a = b)) := by
  unfold slices_Equal_int_int.f
  by_cases hl : a.length = b.length
  · refine Ev.if_pos (by omega) ((equal_loop a b hl hn a.length 0 rfl (by omega)).as_ ?_)
    simp
  · refine Ev.if_neg (by omega) (Ev.some_ ?_)
    symm
    rw [decide_eq_false_iff_not]
    intro h
    exact hl (by rw [h])
end Go.Proofs.YtohclkafdphleaaDoor.PM
