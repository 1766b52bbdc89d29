/- Rows of terms in prefix notation, plainly: how many codes so many terms take; what is a row of n terms; no program in sight. What the printed functions of package term, and the reference's End and Terms, answer: by rows in prefix notation. The comparisons of two rows of numbers: what the printed loops answer. Terms, atoms, and what the printed Compare answers. -/
import Derived.WalkKit
import Derived.Test.YteffiodbflmfkaaDoorSigns
import Derived.Test.YteffiodbflmfkaaDoorPPx0
import Derived.Test.YteffiodbflmfkaaDoorPPx3
import Derived.Test.YteffiodbflmfkaaDoorPPx6
import Derived.Test.YteffiodbflmfkaaDoorPPx7
namespace Go.Proofs.YteffiodbflmfkaaDoor
set_option linter.unusedVariables false

/-- What is left behind n terms; none: there are no n terms. -/
def skipN (ar : Int → Option Nat) : List Int → Nat → Option (List Int)
 | [], n => if n = 0 then some [] else none
 | c :: r, n => if n = 0 then some (c :: r) else (ar c).bind fun m => skipN ar r (n - 1 + m)
def isN (ar : Int → Option Nat) (n : Nat) (t : List Int) : Prop := skipN ar t n = some []

section
variable {ar : Int → Option Nat}
theorem skipN_zero (r : List Int) : skipN ar r 0 = some r := by cases r <;> simp [skipN]
theorem skipN_cons (c : Int) (r : List Int) (n : Nat) : skipN ar (c :: r) (n + 1) = (ar c).bind fun m => skipN ar r (n + m) := by
 simp [skipN]
theorem skipN_nil (n : Nat) : skipN ar [] (n + 1) = none := by simp [skipN]
theorem skipN_append : ∀ (t : List Int) (n : Nat) (u s : List Int), skipN ar t n = some u → skipN ar (t ++ s) n = some (u ++ s) := by
 intro t
 induction t with
 | nil =>
  intro n u s h
  cases n with
  | zero => simp [skipN] at h; subst h; simp [skipN_zero]
  | succ n => simp [skipN] at h
 | cons c t ih =>
  intro n u s h
  cases n with
  | zero => rw [skipN_zero] at h; obtain rfl := Option.some.inj h; rw [skipN_zero]
  | succ n =>
   rw [List.cons_append]
   rw [skipN_cons] at h ⊢
   cases e : ar c with
   | none => rw [e] at h; simp at h
   | some m => rw [e] at h; exact ih _ _ _ h
theorem skipN_add : ∀ (r : List Int) (m n : Nat), skipN ar r (m + n) = (skipN ar r m).bind fun s => skipN ar s n := by
 intro r
 induction r with
 | nil =>
  intro m n
  cases m with
  | zero => simp [skipN_zero]
  | succ m => rw [show m + 1 + n = (m + n) + 1 by omega, skipN_nil, skipN_nil]; rfl
 | cons c r ih =>
  intro m n
  cases m with
  | zero => simp [skipN_zero]
  | succ m =>
   rw [show m + 1 + n = (m + n) + 1 by omega, skipN_cons, skipN_cons]
   cases e : ar c with
   | none => rfl
   | some k =>
    show skipN ar r (m + n + k) = (skipN ar r (m + k)).bind _
    rw [show m + n + k = (m + k) + n by omega, ih]
theorem skipN_split : ∀ (r : List Int) (n : Nat) (s : List Int), skipN ar r n = some s → ∃ t, r = t ++ s ∧ isN ar n t := by
 intro r
 induction r with
 | nil =>
  intro n s h
  cases n with
  | zero => rw [skipN_zero] at h; obtain rfl := Option.some.inj h; exact ⟨[], rfl, skipN_zero _⟩
  | succ n => rw [skipN_nil] at h; cases h
 | cons c r ih =>
  intro n s h
  cases n with
  | zero => rw [skipN_zero] at h; obtain rfl := Option.some.inj h; exact ⟨[], rfl, skipN_zero _⟩
  | succ n =>
   rw [skipN_cons] at h
   cases e : ar c with
   | none => rw [e] at h; cases h
   | some m =>
    rw [e] at h
    obtain ⟨t, ht, hn⟩ := ih _ _ h
    exact ⟨c :: t, by rw [ht]; rfl, by show skipN ar (c :: t) (n + 1) = some []; rw [skipN_cons, e]; exact hn⟩
theorem isN_nil : isN ar 0 [] := skipN_zero _
theorem isN_zero {t : List Int} (h : isN ar 0 t) : t = [] := by unfold isN at h; rw [skipN_zero] at h; exact Option.some.inj h
theorem isN_append {m n : Nat} {t u : List Int} (h : isN ar m t) (k : isN ar n u) : isN ar (m + n) (t ++ u) := by
 unfold isN at *
 rw [skipN_add, skipN_append t m [] u h]
 exact k
theorem isN_skip {n : Nat} {t s : List Int} (h : isN ar n t) : skipN ar (t ++ s) n = some s := skipN_append t n [] s h
theorem isN_split {m n : Nat} {r : List Int} (h : isN ar (m + n) r) : ∃ t u, r = t ++ u ∧ isN ar m t ∧ isN ar n u := by
 unfold isN at h
 rw [skipN_add] at h
 obtain ⟨s, h1, h2⟩ := Option.bind_eq_some_iff.1 h
 obtain ⟨t, rfl, ht⟩ := skipN_split _ _ _ h1
 exact ⟨t, s, rfl, ht, h2⟩
theorem isN_prefix {n : Nat} {t u s s' : List Int} (h : isN ar n t) (k : isN ar n u) (e : t ++ s = u ++ s') : t = u ∧ s = s' := by
 have h1 := isN_skip (s := s) h
 have h2 := isN_skip (s := s') k
 rw [e, h2] at h1
 obtain rfl := Option.some.inj h1
 exact ⟨List.append_cancel_right e, rfl⟩
theorem isN_cons {n : Nat} {c : Int} {r : List Int} : isN ar (n + 1) (c :: r) ↔ ∃ m, ar c = some m ∧ isN ar (n + m) r := by
 unfold isN
 rw [skipN_cons]
 cases e : ar c with
 | none => simp
 | some m => simp
theorem isN_one {t : List Int} (h : isN ar 1 t) : ∃ c r m, t = c :: r ∧ ar c = some m ∧ isN ar m r := by
 cases t with
 | nil => unfold isN at h; rw [skipN_nil] at h; cases h
 | cons c r =>
  obtain ⟨m, h1, h2⟩ := isN_cons.1 h
  exact ⟨c, r, m, rfl, h1, by simpa using h2⟩
theorem isN_pos {n : Nat} {t : List Int} (h : isN ar n t) : n ≤ t.length := by
 induction t generalizing n with
 | nil =>
  cases n with
  | zero => simp
  | succ n => unfold isN at h; rw [skipN_nil] at h; cases h
 | cons c r ih =>
  cases n with
  | zero => simp
  | succ n =>
   obtain ⟨m, _, h2⟩ := isN_cons.1 h
   have := ih h2
   simp only [List.length_cons]
   omega
theorem isN_uniq {m n : Nat} {t : List Int} (h : isN ar m t) (k : isN ar n t) : m = n := by
 induction t generalizing m n with
 | nil =>
  have := isN_pos h
  have := isN_pos k
  simp at *
  omega
 | cons c r ih =>
  cases m with
  | zero => have := isN_zero h; cases this
  | succ m =>
   cases n with
   | zero => have := isN_zero k; cases this
   | succ n =>
    obtain ⟨x, h1, h2⟩ := isN_cons.1 h
    obtain ⟨y, k1, k2⟩ := isN_cons.1 k
    rw [h1] at k1
    obtain rfl := Option.some.inj k1
    have := ih h2 k2
    omega
theorem isN_mem {n : Nat} {t : List Int} (h : isN ar n t) : ∀ c ∈ t, ∃ m, ar c = some m := by
 induction t generalizing n with
 | nil => intro c hc; cases hc
 | cons d r ih =>
  cases n with
  | zero => have := isN_zero h; cases this
  | succ n =>
   obtain ⟨m, h1, h2⟩ := isN_cons.1 h
   intro c hc
   rcases List.mem_cons.1 hc with rfl | hc
   ·exact ⟨m, h1⟩
   ·exact ih h2 c hc

/-! the terms of a row, one by one -/
def parts (ar : Int → Option Nat) : Nat → List Int → List (List Int)
 | 0, _ => []
 | n + 1, r => match skipN ar r 1 with
  | none => []
  | some s => r.take (r.length - s.length) :: parts ar n s
theorem parts_cons {n : Nat} {t s : List Int} (h : isN ar 1 t) : parts ar (n + 1) (t ++ s) = t :: parts ar n s := by
 simp only [parts]
 rw [isN_skip h]
 simp
theorem parts_flatten {n : Nat} : ∀ {r : List Int}, isN ar n r → (parts ar n r).flatten = r ∧ (parts ar n r).length = n ∧ ∀ t ∈ parts ar n r, isN ar 1 t := by
 induction n with
 | zero => intro r h; have := isN_zero h; subst this; simp [parts]
 | succ n ih =>
  intro r h
  rw [Nat.add_comm] at h
  obtain ⟨t, u, rfl, h1, h2⟩ := isN_split h
  rw [parts_cons h1]
  obtain ⟨a, b, c⟩ := ih h2
  refine ⟨by simp [a], by simp [b], fun x hx => ?_⟩
  rcases List.mem_cons.1 hx with rfl | hx
  ·exact h1
  ·exact c x hx
theorem isN_flatten {ps : List (List Int)} (h : ∀ t ∈ ps, isN ar 1 t) : isN ar ps.length ps.flatten := by
 induction ps with
 | nil => exact isN_nil
 | cons t ps ih =>
  have := isN_append (h t (List.mem_cons_self ..)) (ih (fun x hx => h x (List.mem_cons_of_mem _ hx)))
  rw [Nat.add_comm] at this
  simpa using this
end
end Go.Proofs.YteffiodbflmfkaaDoor
namespace Go.Proofs.YteffiodbflmfkaaDoor.PP
open Go Go.RowKit Go.Proofs.YteffiodbflmfkaaDoorW.PrintWords Go.Proofs.YteffiodbflmfkaaDoorW.PrintLast Go.Proofs.YteffiodbflmfkaaDoor
set_option linter.unusedVariables false
set_option linter.unusedSimpArgs false

/-- How many terms stand behind a code; none: it begins no term. -/
def arS (l : List S59) (c : Int) : Option Nat :=
 if c < 0 then (if -24 ≤ c then some 0 else none) else if c < l.length ∧ (l.getD c.toNat z59).f1 ≠ 0 then some (l.getD c.toNat z59).f2.toNat else none
theorem sign_arity {l : List S59} (h : SignOk l) (j : Nat) (hj : j < l.length) : 0 ≤ (l.getD j z59).f2 ∧ (l.getD j z59).f2 ≤ 3 := by
 obtain ⟨_, _, h0, h1⟩ := h
 cases j with
 | zero =>
  obtain ⟨_, _, e, _⟩ := h0
  rw [e]
  decide
 | succ j =>
  obtain ⟨⟨_, _, _, a, b, _⟩, _⟩ := h1 (j + 1) (by omega) hj
  exact ⟨a, b⟩
theorem arS_le {l : List S59} (h : SignOk l) {c : Int} {m : Nat} (e : arS l c = some m) : m ≤ 3 := by
 unfold arS at e
 split at e
 ·split at e
  ·have := Option.some.inj e; omega
  ·cases e
 ·split at e
  ·rename_i h1 h2
   have := sign_arity h c.toNat (by omega)
   have := Option.some.inj e
   omega
  ·cases e
theorem arS_neg {l : List S59} {c : Int} (h : c < 0) {m : Nat} (e : arS l c = some m) : m = 0 ∧ -24 ≤ c := by
 unfold arS at e
 rw [if_pos h] at e
 split at e
 ·exact ⟨(Option.some.inj e).symm, by assumption⟩
 ·cases e
theorem arS_pos {l : List S59} {c : Int} (h : 0 ≤ c) {m : Nat} (e : arS l c = some m) : c < l.length ∧ (l.getD c.toNat z59).f1 ≠ 0 ∧ m = (l.getD c.toNat z59).f2.toNat := by
 unfold arS at e
 rw [if_neg (by omega)] at e
 split at e
 ·rename_i h2
  exact ⟨h2.1, h2.2, (Option.some.inj e).symm⟩
 ·cases e
theorem args_f {l : List S59} (h : SignOk l) (c : Int) : term_args.f l c = some (match arS l c with | some m => ((m : Int), true) | none => (0, false)) := by
 have hl := h.2.1
 unfold term_args.f arS
 by_cases h0 : c < 0
 ·rw [if_pos h0, if_pos h0]
  have e : term_Number.f 23 = some (-24) := by simp [term_Number.f, wrap64]
  rw [e]
  by_cases h1 : -24 ≤ c
  ·rw [if_pos h1]; simp [h1]
  ·rw [if_neg h1]; simp [h1]
 ·rw [if_neg h0, if_neg h0]
  by_cases h1 : c ≥ (l.length : Int)
  ·rw [if_pos h1, if_neg (by omega)]
  ·rw [if_neg h1, if_pos (by omega), if_pos (by omega)]
   have e : rd_T59 l c = l.getD c.toNat z59 := rfl
   rw [e]
   by_cases h2 : (l.getD c.toNat z59).f1 = 0
   ·rw [if_pos h2, if_neg (fun a => a.2 h2)]
   ·rw [if_neg h2, if_pos ⟨by omega, h2⟩]
    have := (sign_arity h c.toNat (by omega)).1
    show some ((l.getD c.toNat z59).f2, true) = some ((((l.getD c.toNat z59).f2.toNat : Nat) : Int), true)
    rw [Int.toNat_of_nonneg this]
theorem rd_nat (r : List Int) (i : Nat) (h : i < r.length) : rd r (i : Int) = r[i] := by
 simp [rd, List.getElem?_eq_getElem h]
theorem drop_cons (r : List Int) (i : Nat) (h : i < r.length) : r.drop i = rd r (i : Int) :: r.drop (i + 1) := by
 rw [rd_nat r i h, List.drop_eq_getElem_cons h]

def skipV (l : List S59) (r : List Int) (i n : Nat) : Int × Bool := match skipN (arS l) (r.drop i) n with | some s => ((r.length : Int) - s.length, true) | none => (0, false)
theorem skip_loop {l : List S59} (hs : SignOk l) (r : List Int) (hr : r.length ≤ 60) : ∀ (d i n : Nat), r.length - i = d → i ≤ r.length → 1 ≤ n → n + 3 * d ≤ 1000 → Ev (fun k => term_Skip.l0 k l r (i : Int) (n : Int)) (skipV l r i n) := by
 intro d
 induction d with
 | zero =>
  intro i n hd hi hn hb
  refine Ev.step (f := fun _ => some (0, false)) (fun k => ?_) (Ev.some_ ?_)
  ·simp only [term_Skip.l0]
   rw [if_pos (by omega)]
  ·unfold skipV
   rw [List.drop_eq_nil_of_le (by omega)]
   obtain ⟨m, rfl⟩ : ∃ m, n = m + 1 := ⟨n - 1, by omega⟩
   rw [skipN_nil]
 | succ d ih =>
  intro i n hd hi hn hb
  have hlt : i < r.length := by omega
  obtain ⟨m, rfl⟩ : ∃ m, n = m + 1 := ⟨n - 1, by omega⟩
  have hv : skipV l r i (m + 1) = match arS l (rd r (i : Int)) with | none => (0, false) | some k => skipV l r (i + 1) (m + k) := by
   unfold skipV
   rw [drop_cons r i hlt, skipN_cons]
   cases arS l (rd r (i : Int)) <;> rfl
  have ha := args_f hs (rd r (i : Int))
  cases e : arS l (rd r (i : Int)) with
  | none =>
   rw [e] at ha hv
   refine Ev.step (f := fun _ => some (0, false)) (fun k => ?_) (Ev.some_ hv.symm)
   simp only [term_Skip.l0]
   rw [if_neg (by omega), if_pos (by omega), if_pos (by omega), ha]
   simp
  | some k =>
   rw [e] at ha hv
   have hk := arS_le hs e
   have hw : wrap64 (((m + 1 : Nat) : Int) + wrap64 ((k : Int) - 1)) = ((m + k : Nat) : Int) := by
    unfold wrap64
    omega
   replace hv : skipV l r i (m + 1) = skipV l r (i + 1) (m + k) := hv
   rw [hv]
   by_cases h0 : m + k = 0
   ·refine Ev.step (f := fun _ => some (((i + 1 : Nat) : Int), true)) (fun q => ?_) (Ev.some_ ?_)
    ·simp only [term_Skip.l0]
     rw [if_neg (by omega), if_pos (by omega), if_pos (by omega), ha]
     simp only [Option.bind_some, if_true]
     rw [hw, if_neg (by omega), wrap_nat i (by omega)]
    ·unfold skipV
     rw [h0]
     simp only [skipN_zero, List.length_drop]
     congr 1
     omega
   ·refine Ev.step (f := fun q => term_Skip.l0 q l r ((i + 1 : Nat) : Int) ((m + k : Nat) : Int)) (fun q => ?_) (ih (i + 1) (m + k) (by omega) (by omega) (by omega) (by omega))
    simp only [term_Skip.l0]
    rw [if_neg (by omega), if_pos (by omega), if_pos (by omega), ha]
    simp only [Option.bind_some, if_true]
    rw [hw, if_pos (by omega), wrap_nat i (by omega)]
theorem skip_ev {l : List S59} (hs : SignOk l) (r : List Int) (hr : r.length ≤ 60) (i : Nat) (hi : i ≤ r.length) : Ev (fun k => term_Skip.f k l r (i : Int)) (skipV l r i 1) := by
 unfold term_Skip.f
 exact skip_loop hs r hr (r.length - i) i 1 rfl hi (by omega) (by omega)
theorem skipV_some {l : List S59} {r t s : List Int} {i : Nat} (hi : i ≤ r.length) (h : isN (arS l) 1 t) (e : r.drop i = t ++ s) : skipV l r i 1 = (((i + t.length : Nat) : Int), true) ∧ r.drop (i + t.length) = s := by
 have hl : (r.drop i).length = t.length + s.length := by rw [e]; simp
 rw [List.length_drop] at hl
 refine ⟨?_, ?_⟩
 ·unfold skipV
  rw [e, isN_skip h]
  show ((r.length : Int) - s.length, true) = _
  congr 1
  omega
 ·rw [← List.drop_drop, e]
  simp
theorem skip_cases {l : List S59} (r : List Int) (i : Nat) : (∃ t s, r.drop i = t ++ s ∧ isN (arS l) 1 t) ∨ skipN (arS l) (r.drop i) 1 = none := by
 cases e : skipN (arS l) (r.drop i) 1 with
 | none => exact .inr rfl
 | some s =>
  obtain ⟨t, ht, hn⟩ := skipN_split _ _ _ e
  exact .inl ⟨t, s, ht, hn⟩

def CodesOk (l : List S59) (r : List Int) : Prop := ∀ c ∈ r, -24 ≤ c ∧ c < l.length
/-! a row -/
def Row (l : List S59) (n : Nat) (r : List Int) : Prop := SignOk l ∧ r.length ≤ 48 ∧ isN (arS l) n r
def IsRow (l : List S59) (r : List Int) : Prop := ∃ n, Row l n r
theorem begins_loop {l : List S59} (hs : SignOk l) (r : List Int) (hr : r.length ≤ 48) : ∀ (d i : Nat) (out : List Int), r.length - i ≤ d → i ≤ r.length → out.length ≤ i →
  (∀ n, isN (arS l) n (r.drop i) → ∃ o : List Int, o.length = out.length + n ∧ Ev (fun k => term_begins.l0 k l r out (i : Int)) (o, true)) ∧ ((∀ n, ¬ isN (arS l) n (r.drop i)) → Ev (fun k => term_begins.l0 k l r out (i : Int)) ([], false)) := by
 intro d
 induction d with
 | zero =>
  intro i out hd hi ho
  have hi' : i = r.length := by omega
  refine ⟨fun n hn => ?_, fun hn => ?_⟩
  ·have : n = 0 := by have := isN_pos hn; rw [List.length_drop] at this; omega
   subst this
   refine ⟨out, rfl, Ev.step (f := fun _ => some (out, true)) (fun k => ?_) (Ev.now _)⟩
   simp only [term_begins.l0]
   rw [if_pos (by omega)]
  ·exact absurd (by rw [List.drop_eq_nil_of_le (by omega)]; exact isN_nil) (hn 0)
 | succ d ih =>
  intro i out hd hi ho
  by_cases hi' : i = r.length
  ·refine ⟨fun n hn => ?_, fun hn => ?_⟩
   ·have : n = 0 := by have := isN_pos hn; rw [List.length_drop] at this; omega
    subst this
    refine ⟨out, rfl, Ev.step (f := fun _ => some (out, true)) (fun k => ?_) (Ev.now _)⟩
    simp only [term_begins.l0]
    rw [if_pos (by omega)]
   ·exact absurd (by rw [List.drop_eq_nil_of_le (by omega)]; exact isN_nil) (hn 0)
  ·have hsk := skip_ev hs r (by omega) i hi
   rcases skip_cases (l := l) r i with ⟨t, s, e, ht⟩ | e
   ·obtain ⟨hv, hdr⟩ := skipV_some hi ht e
    have htl := isN_pos ht
    have hle : i + t.length ≤ r.length := by
     have : (r.drop i).length = t.length + s.length := by rw [e]; simp
     rw [List.length_drop] at this
     omega
    obtain ⟨ih1, ih2⟩ := ih (i + t.length) (out ++ [(i : Int)]) (by omega) hle (by simp; omega)
    rw [hdr] at ih1 ih2
    rw [hv] at hsk
    have step : ∀ q, Ev (fun k => term_begins.l0 k l r (out ++ [(i : Int)]) ((i + t.length : Nat) : Int)) q → Ev (fun k => term_begins.l0 k l r out (i : Int)) q := by
     intro q hq
     refine Ev.step (f := fun k => (term_Skip.f k l r (i : Int)).bind fun b => if b.2 = true then (if out.length < 17592186044416 then term_begins.l0 k l r (out ++ [(i : Int)]) b.1 else none) else some ([], false)) (fun k => ?_) ?_
     ·simp only [term_begins.l0]
      rw [if_neg (by omega)]
     ·exact Ev.bind hsk (Ev.if_pos rfl (Ev.if_pos (by omega) hq))
    refine ⟨fun n hn => ?_, fun hn => ?_⟩
    ·cases n with
     | zero =>
      have := isN_zero hn
      rw [e] at this
      have h2 := congrArg List.length this; rw [List.length_append, List.length_nil] at h2
      omega
     | succ n =>
      rw [e, Nat.add_comm] at hn
      obtain ⟨t', s', e', h1, h2⟩ := isN_split hn
      obtain ⟨rfl, rfl⟩ := isN_prefix ht h1 e'
      obtain ⟨o, ho1, ho2⟩ := ih1 n h2
      exact ⟨o, by rw [ho1]; simp; omega, step _ ho2⟩
    ·refine step _ (ih2 fun n h2 => hn (1 + n) ?_)
     rw [e]
     exact isN_append ht h2
   ·have hv : skipV l r i 1 = (0, false) := by unfold skipV; rw [e]
    rw [hv] at hsk
    refine ⟨fun n hn => ?_, fun hn => ?_⟩
    ·cases n with
     | zero => have := isN_zero hn; have h2 := congrArg List.length this; rw [List.length_drop, List.length_nil] at h2; omega
     | succ n =>
      rw [Nat.add_comm] at hn
      obtain ⟨t', s', e', h1, h2⟩ := isN_split hn
      rw [e', isN_skip h1] at e
      cases e
    ·refine Ev.step (f := fun k => (term_Skip.f k l r (i : Int)).bind fun b => if b.2 = true then (if out.length < 17592186044416 then term_begins.l0 k l r (out ++ [(i : Int)]) b.1 else none) else some ([], false)) (fun k => ?_) ?_
     ·simp only [term_begins.l0]
      rw [if_neg (by omega)]
     ·exact Ev.bind hsk (Ev.if_neg (by simp) (Ev.now _))

theorem begins_row {l : List S59} {r : List Int} {n : Nat} (h : Row l n r) : ∃ o : List Int, o.length = n ∧ Ev (fun k => term_begins.f k l r) (o, true) := by
 obtain ⟨hs, hr, hn⟩ := h
 obtain ⟨o, h1, h2⟩ := (begins_loop hs r hr r.length 0 [] (by omega) (by omega) (by simp)).1 n hn
 refine ⟨o, by simpa using h1, ?_⟩
 unfold term_begins.f
 refine Ev.bind (may_ev l) (Ev.if_pos (signB_true.2 hs) (Ev.step (fun k => ?_) h2))
 simp only [term_begins.j0]
 rw [if_neg (by simp; omega)]
 rfl
theorem begins_no {l : List S59} {r : List Int} (h : ¬ IsRow l r) : Ev (fun k => term_begins.f k l r) ([], false) := by
 have hj : ∀ b, b = true → Ev (fun k => term_begins.j0 k l r b) ([], false) := fun b hb => Ev.step (f := fun _ => some ([], false)) (fun k => by simp only [term_begins.j0]; rw [if_pos hb]) (Ev.now _)
 unfold term_begins.f
 refine Ev.bind (may_ev l) ?_
 by_cases hs : SignOk l
 ·refine Ev.if_pos (signB_true.2 hs) ?_
  by_cases hr : r.length ≤ 48
  ·refine Ev.step (fun k => ?_) ((begins_loop hs r hr r.length 0 [] (by omega) (by omega) (by simp)).2 fun n hn => h ⟨n, hs, hr, hn⟩)
   simp only [term_begins.j0]
   rw [if_neg (by simp; omega)]
   rfl
  ·exact hj _ (by simp; omega)
 ·exact Ev.if_neg (by rw [signB_true]; exact hs) (hj true rfl)
/-! the reference's -/
end Go.Proofs.YteffiodbflmfkaaDoor.PP
/- The comparisons of two rows of numbers: what the printed loops answer. -/
namespace Go.Proofs.YteffiodbflmfkaaDoor.PP
open Go Go.RowKit Go.Proofs.YteffiodbflmfkaaDoorW.PrintWords Go.Proofs.YteffiodbflmfkaaDoorW.PrintLast Go.Proofs.YteffiodbflmfkaaDoor
set_option linter.unusedVariables false

theorem drop_eq_iff {a b : List Int} (hl : a.length = b.length) {i : Nat} (hi : i < a.length) : a.drop i = b.drop i ↔ rd a (i : Int) = rd b (i : Int) ∧ a.drop (i + 1) = b.drop (i + 1) := by
 rw [drop_cons a i hi, drop_cons b i (by omega)]
 simp
open Classical in
theorem equal_loop (a b : List Int) (hl : a.length = b.length) (hn : a.length ≤ 9223372036854775807) : ∀ (d i : Nat), a.length - i = d → i ≤ a.length → Ev (fun k => slices_Equal_int_int.l0 k a b (a.length : Int) (i : Int)) (decide (a.drop i = b.drop i)) := by
 intro d
 induction d with
 | zero =>
  intro i hd hi
  refine Ev.step (f := fun _ => some true) (fun k => ?_) (Ev.some_ ?_)
  ·simp only [slices_Equal_int_int.l0]
   rw [if_neg (by omega)]
  ·rw [List.drop_eq_nil_of_le (by omega), List.drop_eq_nil_of_le (by omega)]
   simp
 | succ d ih =>
  intro i hd hi
  have hlt : i < a.length := by omega
  by_cases e : rd a (i : Int) = rd b (i : Int)
  ·refine Ev.step (f := fun k => slices_Equal_int_int.l0 k a b (a.length : Int) ((i + 1 : Nat) : Int)) (fun k => ?_) ((ih (i + 1) (by omega) (by omega)).as_ ?_)
   ·simp only [slices_Equal_int_int.l0]
    rw [if_pos (by omega), if_pos (by omega), if_pos (by omega), if_pos (by omega), if_pos e, wrap_nat i (by omega)]
   ·rw [decide_eq_decide, drop_eq_iff hl hlt]
    simp [e]
  ·refine Ev.step (f := fun k => some false) (fun k => ?_) (Ev.some_ ?_)
   ·simp only [slices_Equal_int_int.l0]
    rw [if_pos (by omega), if_pos (by omega), if_pos (by omega), if_pos (by omega), if_neg e]
   ·symm
    rw [decide_eq_false_iff_not, drop_eq_iff hl hlt]
    exact fun h => e h.1
open Classical in
theorem equal_ev (a b : List Int) (hn : a.length ≤ 9223372036854775807) : Ev (fun k => slices_Equal_int_int.f k a b) (decide (a = b)) := by
 unfold slices_Equal_int_int.f
 by_cases hl : a.length = b.length
 ·refine Ev.if_pos (by omega) ((equal_loop a b hl hn a.length 0 rfl (by omega)).as_ ?_)
  simp
 ·refine Ev.if_neg (by omega) (Ev.some_ ?_)
  symm
  rw [decide_eq_false_iff_not]
  intro h
  exact hl (by rw [h])
end Go.Proofs.YteffiodbflmfkaaDoor.PP
namespace Go.Proofs.YteffiodbflmfkaaDoor.PP
open Go Go.RowKit Go.Proofs.YteffiodbflmfkaaDoorW.PrintWords Go.Proofs.YteffiodbflmfkaaDoorW.PrintLast Go.Proofs.YteffiodbflmfkaaDoor
set_option linter.unusedVariables false

theorem sameInts_loop (a b : List Int) (hl : a.length = b.length) (hn : a.length ≤ 9223372036854775807) : ∀ (d i : Nat), a.length - i = d → i ≤ a.length → Ev (fun k => quaerelaw0_SameInts.l0 k a b (i : Int)) (decide (a.drop i = b.drop i)) := by
 intro d
 induction d with
 | zero =>
  intro i hd hi
  refine Ev.step (f := fun _ => some true) (fun k => ?_) (Ev.some_ ?_)
  ·simp only [quaerelaw0_SameInts.l0]
   rw [if_neg (by omega)]
  ·rw [List.drop_eq_nil_of_le (by omega), List.drop_eq_nil_of_le (by omega)]
   simp
 | succ d ih =>
  intro i hd hi
  have hlt : i < a.length := by omega
  by_cases e : rd a (i : Int) = rd b (i : Int)
  ·refine Ev.step (f := fun k => quaerelaw0_SameInts.l0 k a b ((i + 1 : Nat) : Int)) (fun k => ?_) ((ih (i + 1) (by omega) (by omega)).as_ ?_)
   ·simp only [quaerelaw0_SameInts.l0]
    rw [if_pos (by omega), if_pos (by omega), if_pos (by omega), if_pos e, wrap_nat i (by omega)]
   ·rw [decide_eq_decide, drop_eq_iff hl hlt]
    simp [e]
  ·refine Ev.step (f := fun k => some false) (fun k => ?_) (Ev.some_ ?_)
   ·simp only [quaerelaw0_SameInts.l0]
    rw [if_pos (by omega), if_pos (by omega), if_pos (by omega), if_neg e]
   ·symm
    rw [decide_eq_false_iff_not, drop_eq_iff hl hlt]
    exact fun h => e h.1
open Classical in
theorem sameInts_ev (a b : List Int) (hn : a.length ≤ 9223372036854775807) : Ev (fun k => quaerelaw0_SameInts.f k a b) (decide (a = b)) := by
 unfold quaerelaw0_SameInts.f
 by_cases hl : a.length = b.length
 ·refine Ev.if_pos (by omega) ((sameInts_loop a b hl hn a.length 0 rfl (by omega)).as_ ?_)
  simp
 ·refine Ev.if_neg (by omega) (Ev.some_ ?_)
  symm
  rw [decide_eq_false_iff_not]
  intro h
  exact hl (by rw [h])
end Go.Proofs.YteffiodbflmfkaaDoor.PP
namespace Go.Proofs.YteffiodbflmfkaaDoor.PP
open Go Go.RowKit Go.Proofs.YteffiodbflmfkaaDoorW.PrintWords Go.Proofs.YteffiodbflmfkaaDoorW.PrintLast Go.Proofs.YteffiodbflmfkaaDoor
set_option linter.unusedVariables false
set_option linter.unusedSimpArgs false
def Atom (l : List S59) (a : List Int) : Prop := ∃ p r, a = p :: r ∧ 0 ≤ p ∧ p < l.length ∧ (l.getD p.toNat z59).f1 = 0 ∧ Row l (l.getD p.toNat z59).f2.toNat r
/-- How many arguments stand behind a first code. -/
def arT (l : List S59) (c : Int) : Nat := if c < 0 then 0 else (l.getD c.toNat z59).f2.toNat
def Text (l : List S59) (t : List Int) : Prop := SignOk l ∧ ∃ c r, t = c :: r ∧ r.length ≤ 48 ∧ -24 ≤ c ∧ c < l.length ∧ isN (arS l) (arT l c) r
theorem arS_arT {l : List S59} {c : Int} {m : Nat} (h : arS l c = some m) : m = arT l c ∧ -24 ≤ c ∧ c < l.length := by
 unfold arT
 by_cases hc : c < 0
 ·rw [if_pos hc]
  have := arS_neg hc h
  omega
 ·rw [if_neg hc]
  have := arS_pos (by omega) h
  omega
theorem text_one {l : List S59} {t : List Int} (hs : SignOk l) (hl : t.length ≤ 49) (h : isN (arS l) 1 t) : Text l t := by
 obtain ⟨c, r, m, rfl, h1, h2⟩ := isN_one h
 obtain ⟨rfl, h3, h4⟩ := arS_arT h1
 exact ⟨hs, c, r, rfl, by simp only [List.length_cons] at hl; omega, h3, h4, h2⟩
theorem text_term {l : List S59} {t : List Int} (h : Row l 1 t) : Text l t := text_one h.1 (by have := h.2.1; omega) h.2.2
theorem text_atom {l : List S59} {t : List Int} (h : Atom l t) : Text l t := by
 obtain ⟨p, r, rfl, h0, h1, _, h3⟩ := h
 refine ⟨h3.1, p, r, rfl, h3.2.1, by omega, h1, ?_⟩
 unfold arT
 rw [if_neg (by omega)]
 exact h3.2.2
theorem codes_row {l : List S59} {n : Nat} {r : List Int} (h : isN (arS l) n r) : CodesOk l r := by
 intro c hc
 obtain ⟨m, hm⟩ := isN_mem h c hc
 obtain ⟨_, a, b⟩ := arS_arT hm
 exact ⟨a, b⟩
theorem text_codes {l : List S59} {t : List Int} (h : Text l t) : CodesOk l t := by
 obtain ⟨_, c, r, rfl, _, h1, h2, h3⟩ := h
 intro x hx
 rcases List.mem_cons.1 hx with rfl | hx
 ·exact ⟨h1, h2⟩
 ·exact codes_row h3 x hx
theorem text_len {l : List S59} {t : List Int} (h : Text l t) : 1 ≤ t.length ∧ t.length ≤ 49 ∧ t ≠ [] := by
 obtain ⟨_, c, r, rfl, hl, _⟩ := h
 simp only [List.length_cons]
 exact ⟨by omega, by omega, by simp⟩
def TextT (l : List S59) (t : List Int) : Prop := SignOk l ∧ (Row l 1 t ∨ Atom l t)
open Classical in
theorem isTerm_ev (l : List S59) (r : List Int) : Ev (fun k => term_IsTerm.f k l r) (decide (Row l 1 r)) := by
 unfold term_IsTerm.f
 by_cases h : IsRow l r
 ·obtain ⟨n, hn⟩ := h
  obtain ⟨o, ho, h2⟩ := begins_row hn
  refine Ev.bind h2 (Ev.if_pos rfl (Ev.some_ ?_))
  by_cases h1 : n = 1
  ·subst h1
   simp [ho, hn]
  ·have : ¬ Row l 1 r := fun k => h1 (isN_uniq hn.2.2 k.2.2)
   simp only [this, decide_false, beq_eq_false_iff_ne, ne_eq]
   omega
 ·have : ¬ Row l 1 r := fun k => h ⟨1, k⟩
  exact Ev.bind (begins_no h) (Ev.if_neg (by simp) (Ev.some_ (by simp [this])))
end Go.Proofs.YteffiodbflmfkaaDoor.PP
