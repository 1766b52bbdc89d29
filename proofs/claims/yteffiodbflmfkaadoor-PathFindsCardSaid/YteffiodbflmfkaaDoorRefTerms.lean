/- What the reference's printed functions of signatures answer. What the reference's printed functions of terms answer. The reference's Same: two rows of numbers. -/
import Derived.Test.YteffiodbflmfkaaDoorSigns
import Derived.Test.YteffiodbflmfkaaDoorTerms
import Derived.Test.YteffiodbflmfkaaDoorPPx0
import Derived.Test.YteffiodbflmfkaaDoorPPx10
import Derived.Test.YteffiodbflmfkaaDoorPPx11
import Derived.Test.YteffiodbflmfkaaDoorPPx14
namespace Go.Proofs.YteffiodbflmfkaaDoor.PP
open Go Go.RowKit Go.Proofs.YteffiodbflmfkaaDoorW.PrintWords Go.Proofs.YteffiodbflmfkaaDoorW.PrintLast Go.Proofs.YteffiodbflmfkaaDoor
set_option linter.unusedVariables false
set_option linter.unusedSimpArgs false
theorem ref_small_f (c : Int) : quaereref1_small.f c = some (decide (isSmall c)) := by
 unfold quaereref1_small.f
 by_cases h : c ≥ 97
 ·rw [if_pos h]
  exact congrArg some (decide_eq_decide.2 ⟨fun h' => ⟨h, h'⟩, fun h' => h'.2⟩)
 ·rw [if_neg h]
  exact congrArg some (decide_eq_false (fun h' : isSmall c => h h'.1)).symm

theorem ref_symMay_loop (s : ByteArray) (a1 a2 a3 : Int) (hs : s.size ≤ 8) (r : Bool)
  (hr : ∀ k : Nat, (if a1 ≥ 0 then (if a1 ≤ 2 then (if a2 ≥ 0 then (if a2 ≤ 3 then (if a3 ≥ 1 then (some (decide (a3 ≤ 20))) else (some false)) else (some false)) else (some false)) else (some false)) else (some false)) = some r) :
  ∀ (d i : Nat), s.size - i = d → i ≤ s.size → Ev (fun k => quaereref1_SymMay.l0 k (i : Int) s a1 a2 a3) (@decide (r = true ∧ ∀ j, i ≤ j → j < s.size → isLetter (bt s (j : Int))) (Classical.propDecidable _)) := by
 classical
 intro d
 induction d with
 | zero =>
  intro i hd hi
  refine Ev.step (f := fun _ => some r) (fun k => ?_) (Ev.some_ ?_)
  ·simp only [quaereref1_SymMay.l0]
   rw [if_neg (by omega)]
   exact hr 0
  ·cases r
   ·symm; simp
   ·symm
    simp only [true_and, decide_eq_true_eq]
    intro j h1 h2
    omega
 | succ d ih =>
  intro i hd hi
  have hlt : i < s.size := by omega
  have h := ih (i + 1) (by omega) (by omega)
  by_cases hl : isLetter (bt s (i : Int))
  ·refine Ev.step (f := fun k => quaereref1_SymMay.l0 k ((i + 1 : Nat) : Int) s a1 a2 a3) (fun k => ?_) (h.as_ ?_)
   ·simp only [quaereref1_SymMay.l0]
    rw [if_pos (by omega), if_pos (by omega), ref_small_f]
    simp only [Option.bind_some]
    rw [wrap_nat i (by omega)]
    by_cases hsm : isSmall (bt s (i : Int))
    ·rw [if_pos (by simp [hsm])]
    ·rw [if_neg (by simp [hsm])]
     have : 48 ≤ bt s (i : Int) ∧ bt s (i : Int) ≤ 57 := by
      rcases hl with hl | hl
      ·exact absurd hl hsm
      ·exact hl
     rw [if_neg (by omega), if_neg (by omega)]
   ·congr 1
    rw [from_step hlt]
    simp [hl]
  ·refine Ev.step (f := fun k => some false) (fun k => ?_) (Ev.some_ ?_)
   ·simp only [quaereref1_SymMay.l0]
    rw [if_pos (by omega), if_pos (by omega), ref_small_f]
    simp only [Option.bind_some]
    have hsm : ¬ isSmall (bt s (i : Int)) := fun h => hl (.inl h)
    have hdg : ¬ (48 ≤ bt s (i : Int) ∧ bt s (i : Int) ≤ 57) := fun h => hl (.inr h)
    rw [if_neg (by simp [hsm])]
    by_cases h1 : bt s (i : Int) < 48
    ·rw [if_pos h1]
    ·rw [if_neg h1, if_pos (by omega)]
   ·symm
    simp only [decide_eq_false_iff_not]
    intro a
    exact hl (a.2 i (Nat.le_refl _) hlt)

theorem ref_symMay_ev (x : S59) : Ev (fun k => quaereref1_SymMay.f k x.f0 x.f1 x.f2 x.f3) (symB x) := by
 classical
 have hj : ∀ b, b = true → Ev (fun k => quaereref1_SymMay.j0 k b x.f0 x.f1 x.f2 x.f3) false := fun b hb => Ev.step (f := fun _ => some false) (fun k => by simp only [quaereref1_SymMay.j0]; rw [if_pos hb]) (Ev.now _)
 have no : ¬ NameOk x.f0 → symB x = false := fun h => by simp [symB, SymOk, h]
 unfold quaereref1_SymMay.f
 refine Ev.ite (fun h0 => ?_) (fun h0 => Ev.ite (fun h8 => ?_) (fun h8 => ?_))
 ·exact (hj true rfl).as_ (no (fun h => by have := h.1; omega)).symm
 ·exact (hj true rfl).as_ (no (fun h => by have := h.2.1; omega)).symm
 ·refine Ev.if_pos (by omega) ?_
  simp only [ref_small_f, Option.bind_some]
  by_cases hs0 : isSmall (bt x.f0 0)
  ·have hl := ref_symMay_loop x.f0 x.f1 x.f2 x.f3 (by omega) _ (fun _ => by
    have := kinds_tests true x.f1 x.f2 x.f3
    simpa only [if_true] using this) x.f0.size 0 (by omega) (by omega)
   refine Ev.step (f := fun k => quaereref1_SymMay.l0 k ((0 : Nat) : Int) x.f0 x.f1 x.f2 x.f3) (fun k => ?_) (hl.as_ ?_)
   ·simp only [quaereref1_SymMay.j0]
    rw [if_neg (by simp [hs0])]
    rfl
   ·unfold symB SymOk NameOk
    congr 1
    simp only [eq_iff_iff, decide_eq_true_eq, true_and]
    constructor
    ·rintro ⟨h1, h⟩
     exact ⟨⟨by omega, by omega, hs0, fun j hj => h j (by omega) hj⟩, h1⟩
    ·rintro ⟨h, h1⟩
     exact ⟨h1, fun j _ hj => h.2.2.2 j hj⟩
  ·exact (hj _ (by simp [hs0])).as_ (no (fun h => hs0 h.2.2.1)).symm

theorem code_loop (l : List S59) (s : ByteArray) (hn : l.length ≤ 9223372036854775806) : ∀ (d i : Nat), l.length - i = d → i ≤ l.length → Ev (fun k => quaereref1_Code.l0 k l s (i : Int)) (findFrom s (l.drop i) i) := by
 intro d
 induction d with
 | zero =>
  intro i hd hi
  refine Ev.step (f := fun _ => some (-1)) (fun k => ?_) (Ev.some_ ?_)
  ·simp only [quaereref1_Code.l0]
   rw [if_neg (by omega)]
  ·rw [List.drop_eq_nil_of_le (by omega)]
   rfl
 | succ d ih =>
  intro i hd hi
  have hlt : i < l.length := by omega
  have h := ih (i + 1) (by omega) (by omega)
  rw [getD_drop l i hlt]
  by_cases e : (l.getD i z59).f0.toList = s.toList
  ·refine Ev.step (f := fun _ => some (i : Int)) (fun k => ?_) (Ev.some_ ?_)
   ·simp only [quaereref1_Code.l0]
    rw [if_pos (by omega), if_pos (by omega), rd_sym, if_pos e]
   ·simp only [findFrom]
    rw [if_pos e]
  ·refine Ev.step (f := fun k => quaereref1_Code.l0 k l s ((i + 1 : Nat) : Int)) (fun k => ?_) (h.as_ ?_)
   ·simp only [quaereref1_Code.l0]
    rw [if_pos (by omega), if_pos (by omega), rd_sym, if_neg e, wrap_nat i (by omega)]
   ·simp only [findFrom]
    rw [if_neg e]
theorem code_ev (l : List S59) (s : ByteArray) (hn : l.length ≤ 9223372036854775806) : Ev (fun k => quaereref1_Code.f k l s) (findV l s) := by
 unfold quaereref1_Code.f findV
 exact code_loop l s hn l.length 0 (by omega) (by omega)

theorem ref_may_loop (l : List S59) (hn : l.length ≤ 20) : ∀ (d i : Nat), l.length - i = d → i ≤ l.length → Ev (fun k => quaereref1_SignMay.l0 k l (i : Int)) (@decide (∀ j, i ≤ j → j < l.length → SymAt l j) (Classical.propDecidable _)) := by
 classical
 intro d
 induction d with
 | zero =>
  intro i hd hi
  refine Ev.step (f := fun _ => some true) (fun k => ?_) (Ev.some_ ?_)
  ·simp only [quaereref1_SignMay.l0]
   rw [if_neg (by omega)]
  ·symm
   simp only [decide_eq_true_eq]
   intro j h1 h2
   omega
 | succ d ih =>
  intro i hd hi
  have hlt : i < l.length := by omega
  have h := ih (i + 1) (by omega) (by omega)
  refine Ev.step (f := fun k => (quaereref1_SymMay.f k (l.getD i z59).f0 (l.getD i z59).f1 (l.getD i z59).f2 (l.getD i z59).f3).bind fun t => if t = true then ((quaereref1_Code.f k l (l.getD i z59).f0).bind fun u => if u = (i : Int) then quaereref1_SignMay.l0 k l ((i + 1 : Nat) : Int) else some false) else some false) (fun k => ?_) ?_
  ·simp only [quaereref1_SignMay.l0]
   rw [if_pos (by omega), if_pos (by omega), rd_sym, wrap_nat i (by omega)]
  ·refine Ev.bind (ref_symMay_ev (l.getD i z59)) ?_
   by_cases hs : SymOk (l.getD i z59)
   ·refine Ev.if_pos (by simp only [symB, decide_eq_true_eq]; exact hs) (Ev.bind (code_ev l _ (by omega)) ?_)
    by_cases hf : findV l (l.getD i z59).f0 = (i : Int)
    ·refine Ev.if_pos hf (h.as_ ?_)
     congr 1
     rw [from_step hlt]
     simp only [SymAt, hs, hf, and_self, true_and]
    ·refine Ev.if_neg hf (Ev.some_ ?_)
     symm
     simp only [decide_eq_false_iff_not]
     intro a
     exact hf (a i (Nat.le_refl _) hlt).2
   ·refine Ev.if_neg (by simp only [symB, decide_eq_true_eq]; exact hs) (Ev.some_ ?_)
    symm
    simp only [decide_eq_false_iff_not]
    intro a
    exact hs (a i (Nat.le_refl _) hlt).1

theorem ref_may_ev (l : List S59) : Ev (fun k => quaereref1_SignMay.f k l) (signB l) := by
 classical
 have hj : ∀ b, b = true → Ev (fun k => quaereref1_SignMay.j0 k l b) false := fun b hb => Ev.step (f := fun _ => some false) (fun k => by simp only [quaereref1_SignMay.j0]; rw [if_pos hb]) (Ev.now _)
 have no : ¬ SignOk l → signB l = false := fun h => by simp [signB, h]
 unfold quaereref1_SignMay.f
 refine Ev.ite (fun h0 => ?_) (fun h0 => Ev.ite (fun h8 => ?_) (fun h8 => ?_))
 ·exact (hj true rfl).as_ (no (fun h => by have := h.1; omega)).symm
 ·exact (hj true rfl).as_ (no (fun h => by have := h.2.1; omega)).symm
 ·refine Ev.if_pos (by omega) ?_
  simp only [first_test, rd_sym0]
  by_cases he : EqSym (l.getD 0 z59)
  ·have hl := ref_may_loop l (by omega) (l.length - 1) 1 rfl (by omega)
   refine Ev.step (f := fun k => quaereref1_SignMay.l0 k l ((1 : Nat) : Int)) (fun k => ?_) (hl.as_ ?_)
   ·simp only [quaereref1_SignMay.j0]
    rw [if_neg (by simp only [decide_eq_true_eq]; exact fun h => h he)]
    rfl
   ·unfold signB SignOk
    congr 1
    simp only [eq_iff_iff]
    constructor
    ·intro h
     exact ⟨by omega, by omega, he, h⟩
    ·intro h
     exact h.2.2.2
  ·exact (hj _ (by simp only [decide_eq_true_eq]; exact he)).as_ (no (fun h => he h.2.2.1)).symm
end Go.Proofs.YteffiodbflmfkaaDoor.PP
namespace Go.Proofs.YteffiodbflmfkaaDoor.PP
open Go Go.RowKit Go.Proofs.YteffiodbflmfkaaDoorW.PrintWords Go.Proofs.YteffiodbflmfkaaDoorW.PrintLast Go.Proofs.YteffiodbflmfkaaDoor
set_option linter.unusedVariables false
set_option linter.unusedSimpArgs false
def endV (l : List S59) (r : List Int) (i n : Nat) : Int := match skipN (arS l) (r.drop i) n with | some s => (r.length : Int) - s.length | none => -1
theorem end_loop {l : List S59} (hs : SignOk l) (r : List Int) (hr : r.length ≤ 48) : ∀ (d i n : Nat), r.length - i = d → i ≤ r.length → n + 3 * d ≤ 1000 → Ev (fun k => quaereref1_End.l0 k l r (n : Int) (i : Int)) (endV l r i n) := by
 have hl := hs.2.1
 intro d
 induction d with
 | zero =>
  intro i n hd hi hb
  cases n with
  | zero =>
   refine Ev.step (f := fun _ => some (i : Int)) (fun k => ?_) (Ev.some_ ?_)
   ·simp only [quaereref1_End.l0]
    rw [if_neg (by omega)]
   ·unfold endV
    rw [skipN_zero]
    simp only [List.length_drop]
    omega
  | succ n =>
   refine Ev.step (f := fun k => quaereref1_End.j1 k l r ((n + 1 : Nat) : Int) (i : Int) true) (fun k => ?_) (Ev.step (f := fun _ => some (-1)) (fun k => ?_) (Ev.some_ ?_))
   ·simp only [quaereref1_End.l0]
    rw [if_pos (by omega), if_pos (by omega)]
   ·simp only [quaereref1_End.j1]
    rw [if_pos trivial]
   ·unfold endV
    rw [List.drop_eq_nil_of_le (by omega), skipN_nil]
 | succ d ih =>
  intro i n hd hi hb
  have hlt : i < r.length := by omega
  cases n with
  | zero =>
   refine Ev.step (f := fun _ => some (i : Int)) (fun k => ?_) (Ev.some_ ?_)
   ·simp only [quaereref1_End.l0]
    rw [if_neg (by omega)]
   ·unfold endV
    rw [skipN_zero]
    simp only [List.length_drop]
    omega
  | succ n =>
   have hv : endV l r i (n + 1) = match arS l (rd r (i : Int)) with | none => -1 | some k => endV l r (i + 1) (n + k) := by
    unfold endV
    rw [drop_cons r i hlt, skipN_cons]
    cases arS l (rd r (i : Int)) <;> rfl
   have head : ∀ q, Ev (fun k => quaereref1_End.j1 k l r ((n + 1 : Nat) : Int) (i : Int) (decide (rd r (i : Int) < -24 ∨ rd r (i : Int) ≥ (l.length : Int)))) q → Ev (fun k => quaereref1_End.l0 k l r ((n + 1 : Nat) : Int) (i : Int)) q := by
    intro q hq
    refine Ev.step (fun k => ?_) hq
    simp only [quaereref1_End.l0]
    rw [if_pos (by omega), if_neg (by omega), if_pos (by omega), if_pos (by omega)]
    by_cases h1 : rd r (i : Int) < -24
    ·rw [if_pos h1]
     have : decide (rd r (i : Int) < -24 ∨ rd r (i : Int) ≥ (l.length : Int)) = true := by simp [h1]
     rw [this]
    ·rw [if_neg h1]
     have : decide (rd r (i : Int) < -24 ∨ rd r (i : Int) ≥ (l.length : Int)) = decide (rd r (i : Int) ≥ (l.length : Int)) := by
      rw [decide_eq_decide]
      constructor
      ·rintro (h | h)
       ·exact absurd h h1
       ·exact h
      ·exact .inr
     rw [this]
   refine head _ ?_
   generalize hc : rd r (i : Int) = c at hv ⊢
   by_cases h1 : c < -24 ∨ c ≥ (l.length : Int)
   ·have : decide (c < -24 ∨ c ≥ (l.length : Int)) = true := by simpa using h1
    rw [this]
    have ea : arS l c = none := by
     unfold arS
     rcases h1 with h1 | h1
     ·rw [if_pos (by omega), if_neg (by omega)]
     ·rw [if_neg (by omega), if_neg (fun a => by omega)]
    rw [ea] at hv
    refine Ev.step (f := fun _ => some (-1)) (fun k => ?_) (Ev.some_ hv.symm)
    simp only [quaereref1_End.j1]
    rw [if_pos trivial]
   ·have : decide (c < -24 ∨ c ≥ (l.length : Int)) = false := by simpa using h1
    rw [this]
    by_cases h0 : c ≥ 0
    ·have e : rd_T59 l c = l.getD c.toNat z59 := rfl
     by_cases h2 : (l.getD c.toNat z59).f1 = 0
     ·have ea : arS l c = none := by
       unfold arS
       rw [if_neg (by omega), if_neg (fun a => a.2 h2)]
      rw [ea] at hv
      refine Ev.step (f := fun _ => some (-1)) (fun k => ?_) (Ev.some_ hv.symm)
      simp only [quaereref1_End.j1]
      rw [if_neg (by decide), if_pos (by omega), if_pos (by omega), hc, if_pos h0, if_pos h0, if_pos (by omega), e, if_pos h2]
     ·have har := sign_arity hs c.toNat (by omega)
      have ea : arS l c = some (l.getD c.toNat z59).f2.toNat := by
       unfold arS
       rw [if_neg (by omega), if_pos ⟨by omega, h2⟩]
      rw [ea] at hv
      rw [hv]
      refine Ev.step (f := fun k => quaereref1_End.l0 k l r ((n + (l.getD c.toNat z59).f2.toNat : Nat) : Int) ((i + 1 : Nat) : Int)) (fun k => ?_) (ih (i + 1) _ (by omega) (by omega) (by omega))
      simp only [quaereref1_End.j1]
      rw [if_neg (by decide), if_pos (by omega), if_pos (by omega), hc, if_pos h0, if_pos h0, if_pos (by omega), e, if_neg h2, wrap_nat i (by omega)]
      congr 1
      unfold wrap64
      omega
    ·have ea : arS l c = some 0 := by
      unfold arS
      rw [if_pos (by omega), if_pos (by omega)]
     rw [ea] at hv
     rw [hv]
     refine Ev.step (f := fun k => quaereref1_End.l0 k l r ((n + 0 : Nat) : Int) ((i + 1 : Nat) : Int)) (fun k => ?_) (ih (i + 1) _ (by omega) (by omega) (by omega))
     simp only [quaereref1_End.j1]
     rw [if_neg (by decide), if_pos (by omega), if_pos (by omega), hc, if_neg h0, wrap_nat i (by omega)]
     congr 1
     unfold wrap64
     omega
theorem end_ev {l : List S59} (hs : SignOk l) (r : List Int) (hr : r.length ≤ 48) (i : Nat) (hi : i ≤ r.length) : Ev (fun k => quaereref1_End.f k l r (i : Int)) (endV l r i 1) := by
 unfold quaereref1_End.f
 exact end_loop hs r hr (r.length - i) i 1 rfl hi (by omega)
theorem endV_some {l : List S59} {r t s : List Int} {i : Nat} (hi : i ≤ r.length) (h : isN (arS l) 1 t) (e : r.drop i = t ++ s) : endV l r i 1 = ((i + t.length : Nat) : Int) := by
 have hl : (r.drop i).length = t.length + s.length := by rw [e]; simp
 rw [List.length_drop] at hl
 unfold endV
 rw [e, isN_skip h]
 show (r.length : Int) - s.length = _
 omega
theorem terms_loop {l : List S59} (hs : SignOk l) (r : List Int) (hr : r.length ≤ 48) : ∀ (d i m : Nat), r.length - i ≤ d → i ≤ r.length → m ≤ i →
  (∀ n, isN (arS l) n (r.drop i) → Ev (fun k => quaereref1_Terms.l0 k l r (m : Int) (i : Int)) ((m + n : Nat) : Int)) ∧ ((∀ n, ¬ isN (arS l) n (r.drop i)) → Ev (fun k => quaereref1_Terms.l0 k l r (m : Int) (i : Int)) (-1)) := by
 intro d
 induction d with
 | zero =>
  intro i m hd hi ho
  refine ⟨fun n hn => ?_, fun hn => ?_⟩
  ·have : n = 0 := by have := isN_pos hn; rw [List.length_drop] at this; omega
   subst this
   refine Ev.step (f := fun _ => some (m : Int)) (fun k => ?_) (Ev.now _)
   simp only [quaereref1_Terms.l0]
   rw [if_neg (by omega)]
  ·exact absurd (by rw [List.drop_eq_nil_of_le (by omega)]; exact isN_nil) (hn 0)
 | succ d ih =>
  intro i m hd hi ho
  by_cases hi' : i = r.length
  ·refine ⟨fun n hn => ?_, fun hn => ?_⟩
   ·have : n = 0 := by have := isN_pos hn; rw [List.length_drop] at this; omega
    subst this
    refine Ev.step (f := fun _ => some (m : Int)) (fun k => ?_) (Ev.now _)
    simp only [quaereref1_Terms.l0]
    rw [if_neg (by omega)]
   ·exact absurd (by rw [List.drop_eq_nil_of_le (by omega)]; exact isN_nil) (hn 0)
  ·have hsk := end_ev hs r hr i hi
   rcases skip_cases (l := l) r i with ⟨t, s, e, ht⟩ | e
   ·have hv := endV_some hi ht e
    have hdr := (skipV_some hi ht e).2
    have htl := isN_pos ht
    have hle : i + t.length ≤ r.length := by
     have : (r.drop i).length = t.length + s.length := by rw [e]; simp
     rw [List.length_drop] at this
     omega
    obtain ⟨ih1, ih2⟩ := ih (i + t.length) (m + 1) (by omega) hle (by omega)
    rw [hdr] at ih1 ih2
    rw [hv] at hsk
    have step : ∀ q, Ev (fun k => quaereref1_Terms.l0 k l r ((m + 1 : Nat) : Int) ((i + t.length : Nat) : Int)) q → Ev (fun k => quaereref1_Terms.l0 k l r (m : Int) (i : Int)) q := by
     intro q hq
     refine Ev.step (f := fun k => (quaereref1_End.f k l r (i : Int)).bind fun b => if b < 0 then some (-1) else quaereref1_Terms.l0 k l r ((m + 1 : Nat) : Int) b) (fun k => ?_) ?_
     ·simp only [quaereref1_Terms.l0]
      rw [if_pos (by omega), wrap_nat m (by omega)]
     ·exact Ev.bind hsk (Ev.if_neg (by omega) hq)
    refine ⟨fun n hn => ?_, fun hn => ?_⟩
    ·cases n with
     | zero =>
      have := isN_zero hn
      rw [e] at this
      have h2 := congrArg List.length this; rw [List.length_append, List.length_nil] at h2
      omega
     | succ n =>
      rw [e, Nat.add_comm] at hn
      obtain ⟨t', s', e', h1, h2⟩ := isN_split hn
      obtain ⟨rfl, rfl⟩ := isN_prefix ht h1 e'
      exact (step _ (ih1 n h2)).as_ (by omega)
    ·refine step _ (ih2 fun n h2 => hn (1 + n) ?_)
     rw [e]
     exact isN_append ht h2
   ·have hv : endV l r i 1 = -1 := by unfold endV; rw [e]
    rw [hv] at hsk
    refine ⟨fun n hn => ?_, fun hn => ?_⟩
    ·cases n with
     | zero => have := isN_zero hn; have h2 := congrArg List.length this; rw [List.length_drop, List.length_nil] at h2; omega
     | succ n =>
      rw [Nat.add_comm] at hn
      obtain ⟨t', s', e', h1, h2⟩ := isN_split hn
      rw [e', isN_skip h1] at e
      cases e
    ·refine Ev.step (f := fun k => (quaereref1_End.f k l r (i : Int)).bind fun b => if b < 0 then some (-1) else quaereref1_Terms.l0 k l r ((m + 1 : Nat) : Int) b) (fun k => ?_) ?_
     ·simp only [quaereref1_Terms.l0]
      rw [if_pos (by omega), wrap_nat m (by omega)]
     ·exact Ev.bind hsk (Ev.if_pos (by omega) (Ev.now _))
open Classical in
/-- How many terms a row has; -1: it is none (of a signature that may be). -/
noncomputable def termsV (l : List S59) (r : List Int) : Int := if h : ∃ n, Row l n r then ((Classical.choose h : Nat) : Int) else -1
theorem termsV_row {l : List S59} {r : List Int} {n : Nat} (h : Row l n r) : termsV l r = n := by
 unfold termsV
 have h' : ∃ n, Row l n r := ⟨n, h⟩
 rw [dif_pos h']
 have := Classical.choose_spec h'
 have := isN_uniq this.2.2 h.2.2
 omega
theorem termsV_no {l : List S59} {r : List Int} (h : ¬ IsRow l r) : termsV l r = -1 := by
 unfold termsV
 exact dif_neg h
theorem terms_ev {l : List S59} (hs : SignOk l) (r : List Int) : Ev (fun k => quaereref1_Terms.f k l r) (termsV l r) := by
 unfold quaereref1_Terms.f
 by_cases hr : r.length ≤ 48
 ·refine Ev.if_neg (by omega) ?_
  obtain ⟨h1, h2⟩ := terms_loop hs r hr r.length 0 0 (by omega) (by omega) (by omega)
  by_cases h : IsRow l r
  ·obtain ⟨n, hn⟩ := h
   rw [termsV_row hn]
   exact (h1 n hn.2.2).as_ (by simp)
  ·rw [termsV_no h]
   exact h2 fun n hn => h ⟨n, hs, hr, hn⟩
 ·refine Ev.if_pos (by omega) (Ev.some_ ?_)
  rw [termsV_no (fun ⟨n, h⟩ => hr h.2.1)]
end Go.Proofs.YteffiodbflmfkaaDoor.PP
namespace Go.Proofs.YteffiodbflmfkaaDoor.PP
open Go Go.RowKit Go.Proofs.YteffiodbflmfkaaDoorW.PrintWords Go.Proofs.YteffiodbflmfkaaDoorW.PrintLast Go.Proofs.YteffiodbflmfkaaDoorW.PrintMore Go.Proofs.YteffiodbflmfkaaDoor
set_option linter.unusedVariables false
set_option linter.unusedSimpArgs false
theorem refSame_loop (a b : List Int) (hl : a.length = b.length) (hn : a.length ≤ 9223372036854775807) : ∀ (d i : Nat), a.length - i = d → i ≤ a.length → Ev (fun k => quaereref1_Same.l0 k a b (i : Int)) (decide (a.drop i = b.drop i)) := by
 intro d
 induction d with
 | zero =>
  intro i hd hi
  refine Ev.step (f := fun _ => some true) (fun k => ?_) (Ev.some_ ?_)
  ·simp only [quaereref1_Same.l0]
   rw [if_neg (by omega)]
  ·rw [List.drop_eq_nil_of_le (by omega), List.drop_eq_nil_of_le (by omega)]
   simp
 | succ d ih =>
  intro i hd hi
  have hlt : i < a.length := by omega
  by_cases e : rd a (i : Int) = rd b (i : Int)
  ·refine Ev.step (f := fun k => quaereref1_Same.l0 k a b ((i + 1 : Nat) : Int)) (fun k => ?_) ((ih (i + 1) (by omega) (by omega)).as_ ?_)
   ·simp only [quaereref1_Same.l0]
    rw [if_pos (by omega), if_pos (by omega), if_pos (by omega), if_pos e, wrap_nat i (by omega)]
   ·rw [decide_eq_decide, drop_eq_iff hl hlt]
    simp [e]
  ·refine Ev.step (f := fun k => some false) (fun k => ?_) (Ev.some_ ?_)
   ·simp only [quaereref1_Same.l0]
    rw [if_pos (by omega), if_pos (by omega), if_pos (by omega), if_neg e]
   ·symm
    rw [decide_eq_false_iff_not, drop_eq_iff hl hlt]
    exact fun h => e h.1
open Classical in
theorem refSame_ev (a b : List Int) (hn : a.length ≤ 9223372036854775807) : Ev (fun k => quaereref1_Same.f k a b) (decide (a = b)) := by
 unfold quaereref1_Same.f
 by_cases hl : a.length = b.length
 ·refine Ev.if_pos (by omega) ((refSame_loop a b hl hn a.length 0 rfl (by omega)).as_ ?_)
  simp
 ·refine Ev.if_neg (by omega) (Ev.some_ ?_)
  symm
  rw [decide_eq_false_iff_not]
  intro h
  exact hl (by rw [h])
end Go.Proofs.YteffiodbflmfkaaDoor.PP
