/- Plain words for the pure side: loops that end, strings as lists of bytes, the wrap of an index. What the printed functions of package sign, and the reference's, answer: plainly. -/
import Derived.Test.YteffiodbflmfkaaDoorWRest
import Derived.WalkKit
import Derived.Test.YteffiodbflmfkaaDoorOpen
import Derived.KernelRfl
import Derived.Test.YteffiodbflmfkaaDoorPPx0
import Derived.Test.YteffiodbflmfkaaDoorPPx2
import Derived.Test.YteffiodbflmfkaaDoorPPx3
namespace Go.Proofs.YteffiodbflmfkaaDoorW.PrintWords
theorem Ev.some_ {α : Type} {r r' : α} (h : r = r') : Ev (fun _ => some r) r' := by subst h; exact Ev.now r
theorem Ev.if_pos {α : Type} {c : Prop} [Decidable c] {g f : Nat → Option α} {r : α} (h : c) (k : Ev g r) : Ev (fun n => if c then g n else f n) r := by
 simp only [h, if_true]
 exact k
theorem Ev.if_neg {α : Type} {c : Prop} [Decidable c] {g f : Nat → Option α} {r : α} (h : ¬ c) (k : Ev f r) : Ev (fun n => if c then g n else f n) r := by
 simp only [h, if_false]
 exact k
theorem Ev.ite {α : Type} {c : Prop} [Decidable c] {g f : Nat → Option α} {r : α} (k : c → Ev g r) (k' : ¬ c → Ev f r) : Ev (fun n => if c then g n else f n) r := by
 by_cases h : c
 ·exact Ev.if_pos h (k h)
 ·exact Ev.if_neg h (k' h)
theorem Ev.of_some {α : Type} {o : Option α} {r : α} (h : o = some r) : Ev (fun _ => o) r := ⟨0, fun _ _ => h⟩
theorem Ev.at_ {α : Type} {g : Nat → Option α} {r : α} (hg : ∀ k, LeO (g k) (g (k + 1))) (k : Nat) (h : g k = some r) : Ev g r := Ev.of hg h
theorem Ev.get {α : Type} {g : Nat → Option α} {r : α} (h : Ev g r) : ∃ k, g k = some r := h.rounds
theorem Ev.uniq {α : Type} {g : Nat → Option α} {r r' : α} (h : Ev g r) (h' : Ev g r') : r = r' := by
 obtain ⟨K, h⟩ := h
 obtain ⟨K', h'⟩ := h'
 have a := h (max K K') (by omega)
 have b := h' (max K K') (by omega)
 rw [a] at b
 exact Option.some.inj b
theorem Ev.as_ {α : Type} {g : Nat → Option α} {r r' : α} (h : Ev g r) (e : r = r') : Ev g r' := e ▸ h

end Go.Proofs.YteffiodbflmfkaaDoorW.PrintWords
namespace Go.Proofs.YteffiodbflmfkaaDoor
open Go Go.RowKit Go.Proofs.YteffiodbflmfkaaDoorW.PrintWords Go.Proofs.YteffiodbflmfkaaDoorW.PrintLast

theorem wrap_nat (i : Nat) (h : i < 9223372036854775807) : wrap64 ((i : Int) + 1) = ((i + 1 : Nat) : Int) := by
 unfold wrap64
 omega
theorem wrap_id (x : Int) (h0 : -9223372036854775808 ≤ x) (h1 : x ≤ 9223372036854775807) : wrap64 x = x := by
 unfold wrap64
 omega
/-! strings -/
theorem toList_loop (s : ByteArray) : ∀ (d i : Nat) (r : List UInt8), s.size - i = d → ByteArray.toList.loop s i r = r.reverse ++ s.data.toList.drop i := by
 intro d
 induction d with
 | zero =>
  intro i r h
  rw [ByteArray.toList.loop, if_neg (by omega), List.drop_eq_nil_of_le (by rw [data_length]; omega), List.append_nil]
 | succ d ih =>
  intro i r h
  rw [ByteArray.toList.loop, if_pos (by omega), ih (i + 1) _ (by omega)]
  have hi : i < s.data.toList.length := by rw [data_length]; omega
  rw [List.reverse_cons, List.append_assoc, List.drop_eq_getElem_cons hi]
  have : s.get! i = s.data.toList[i] := by
   have hi' : i < s.data.size := by rw [data_length] at hi; exact hi
   show s.data[i]! = _
   rw [getElem!_pos s.data i hi']
   simp
  rw [this]
  rfl
theorem toList_data (s : ByteArray) : s.toList = s.data.toList := by
 unfold ByteArray.toList
 rw [toList_loop s s.size 0 [] (by omega)]
 rfl
theorem toList_length (s : ByteArray) : s.toList.length = s.size := by rw [toList_data, data_length]
theorem toList_nil (s : ByteArray) : s.toList = [] ↔ s.size = 0 := by
 rw [← toList_length, List.length_eq_zero_iff]
end Go.Proofs.YteffiodbflmfkaaDoor
namespace Go.Proofs.YteffiodbflmfkaaDoor.PP
open Go Go.RowKit Go.Proofs.YteffiodbflmfkaaDoorW.PrintWords Go.Proofs.YteffiodbflmfkaaDoorW.PrintLast Go.Proofs.YteffiodbflmfkaaDoor
set_option linter.unusedVariables false
set_option linter.unusedSimpArgs false

theorem rd_sym (l : List S59) (i : Nat) : rd_T59 l (i : Int) = l.getD i z59 := by simp [rd_T59]
theorem rd_sym0 (l : List S59) : rd_T59 l 0 = l.getD 0 z59 := by simp [rd_T59]
theorem getD_drop (l : List S59) (i : Nat) (h : i < l.length) : l.drop i = l.getD i z59 :: l.drop (i + 1) := by
 rw [List.drop_eq_getElem_cons h]
 simp [List.getD_eq_getElem?_getD, List.getElem?_eq_getElem h]

/-! names -/
def isSmall (c : Int) : Prop := 97 ≤ c ∧ c ≤ 122
def isLetter (c : Int) : Prop := isSmall c ∨ (48 ≤ c ∧ c ≤ 57)
instance (c : Int) : Decidable (isSmall c) := inferInstanceAs (Decidable (_ ∧ _))
instance (c : Int) : Decidable (isLetter c) := inferInstanceAs (Decidable (_ ∨ _))
def NameOk (s : ByteArray) : Prop := 1 ≤ s.size ∧ s.size ≤ 8 ∧ isSmall (bt s 0) ∧ ∀ j, j < s.size → isLetter (bt s (j : Int))
open Classical in
noncomputable def nameB (s : ByteArray) : Bool := decide (NameOk s)
theorem from_step {G : Nat → Prop} {i n : Nat} (h : i < n) : (∀ j, i ≤ j → j < n → G j) ↔ G i ∧ ∀ j, i + 1 ≤ j → j < n → G j := by
 constructor
 ·intro a
  exact ⟨a i (Nat.le_refl _) h, fun j hj hn => a j (by omega) hn⟩
 ·rintro ⟨a, b⟩ j hj hn
  rcases Nat.lt_or_ge i j with h1 | h1
  ·exact b j h1 hn
  ·obtain rfl : j = i := by omega
   exact a

theorem small_f (c : Int) : sign_small.f c = some (decide (isSmall c)) := by
 unfold sign_small.f
 by_cases h : c ≥ 97
 ·rw [if_pos h]
  exact congrArg some (decide_eq_decide.2 ⟨fun h' => ⟨h, h'⟩, fun h' => h'.2⟩)
 ·rw [if_neg h]
  exact congrArg some (decide_eq_false (fun h' : isSmall c => h h'.1)).symm
open Classical in
theorem called_loop (s : ByteArray) (hs : s.size ≤ 8) : ∀ (d i : Nat), s.size - i = d → i ≤ s.size → Ev (fun k => sign_called.l0 k s (s.size : Int) (i : Int)) (decide (∀ j, i ≤ j → j < s.size → isLetter (bt s (j : Int)))) := by
 intro d
 induction d with
 | zero =>
  intro i hd hi
  refine Ev.step (f := fun _ => some true) (fun k => ?_) (Ev.some_ ?_)
  ·simp only [sign_called.l0]
   rw [if_neg (by omega)]
  ·symm
   simp only [decide_eq_true_eq]
   intro j h1 h2
   omega
 | succ d ih =>
  intro i hd hi
  have hlt : i < s.size := by omega
  have h := ih (i + 1) (by omega) (by omega)
  by_cases hl : isLetter (bt s (i : Int))
  ·refine Ev.step (f := fun k => sign_called.l0 k s (s.size : Int) ((i + 1 : Nat) : Int)) (fun k => ?_) (h.as_ ?_)
   ·simp only [sign_called.l0]
    rw [if_pos (by omega), if_pos (by omega), small_f]
    simp only [Option.bind_some]
    rw [if_pos (by omega), wrap_nat i (by omega)]
    by_cases hsm : isSmall (bt s (i : Int))
    ·rw [if_pos (by simp [hsm])]
    ·rw [if_neg (by simp [hsm])]
     have : 48 ≤ bt s (i : Int) ∧ bt s (i : Int) ≤ 57 := by
      rcases hl with hl | hl
      ·exact absurd hl hsm
      ·exact hl
     rw [if_neg (by omega), if_neg (by omega)]
   ·congr 1
    rw [from_step hlt]
    simp [hl]
  ·refine Ev.step (f := fun k => some false) (fun k => ?_) (Ev.some_ ?_)
   ·simp only [sign_called.l0]
    rw [if_pos (by omega), if_pos (by omega), small_f]
    simp only [Option.bind_some]
    rw [if_pos (by omega)]
    have hsm : ¬ isSmall (bt s (i : Int)) := fun h => hl (.inl h)
    have hdg : ¬ (48 ≤ bt s (i : Int) ∧ bt s (i : Int) ≤ 57) := fun h => hl (.inr h)
    rw [if_neg (by simp [hsm])]
    by_cases h1 : bt s (i : Int) < 48
    ·rw [if_pos h1]
    ·rw [if_neg h1, if_pos (by omega)]
   ·symm
    simp only [decide_eq_false_iff_not]
    intro a
    exact hl (a i (Nat.le_refl _) hlt)

theorem called_ev (s : ByteArray) : Ev (fun k => sign_called.f k s) (nameB s) := by
 classical
 have hj : ∀ b, b = true → Ev (fun k => sign_called.j0 k s b) false := fun b hb => Ev.step (f := fun _ => some false) (fun k => by simp only [sign_called.j0]; rw [if_pos hb]) (Ev.now _)
 have no : ¬ NameOk s → nameB s = false := fun h => by simp [nameB, h]
 unfold sign_called.f
 refine Ev.ite (fun h0 => ?_) (fun h0 => Ev.ite (fun h8 => ?_) (fun h8 => ?_))
 ·have h0' := (toList_nil s).1 h0
  exact (hj true rfl).as_ (no (fun h => by have := h.1; omega)).symm
 ·exact (hj true rfl).as_ (no (fun h => by have := h.2.1; omega)).symm
 ·have hz : s.size ≠ 0 := fun h => h0 ((toList_nil s).2 h)
  refine Ev.if_pos (by omega) ?_
  simp only [small_f, Option.bind_some]
  by_cases hs0 : isSmall (bt s 0)
  ·have hl := called_loop s (by omega) s.size 0 (by omega) (by omega)
   refine Ev.step (f := fun k => sign_called.l0 k s (s.size : Int) ((0 : Nat) : Int)) (fun k => ?_) (hl.as_ ?_)
   ·simp only [sign_called.j0]
    rw [if_neg (by simp [hs0])]
    rfl
   ·unfold nameB NameOk
    congr 1
    simp only [eq_iff_iff]
    constructor
    ·intro h
     exact ⟨by omega, by omega, hs0, fun j hj => h j (by omega) hj⟩
    ·intro h j _ hj
     exact h.2.2.2 j hj
  ·exact (hj _ (by simp [hs0])).as_ (no (fun h => hs0 h.2.2.1)).symm

/-! symbols -/
def SymOk (x : S59) : Prop := NameOk x.f0 ∧ 0 ≤ x.f1 ∧ x.f1 ≤ 2 ∧ 0 ≤ x.f2 ∧ x.f2 ≤ 3 ∧ 1 ≤ x.f3 ∧ x.f3 ≤ 20
open Classical in
noncomputable def symB (x : S59) : Bool := decide (SymOk x)

theorem kinds_tests (b : Bool) (a1 a2 a3 : Int) : (if b = true then (if a1 ≥ 0 then (if a1 ≤ 2 then (if a2 ≥ 0 then (if a2 ≤ 3 then (if a3 ≥ 1 then (some (decide (a3 ≤ 20))) else (some false)) else (some false)) else (some false)) else (some false)) else (some false)) else (some false)) =
  some (decide (b = true ∧ 0 ≤ a1 ∧ a1 ≤ 2 ∧ 0 ≤ a2 ∧ a2 ≤ 3 ∧ 1 ≤ a3 ∧ a3 ≤ 20)) := by
 by_cases h0 : b = true <;> by_cases h1 : a1 ≥ 0 <;> by_cases h2 : a1 ≤ 2 <;> by_cases h3 : a2 ≥ 0 <;> by_cases h4 : a2 ≤ 3 <;> by_cases h5 : a3 ≥ 1 <;>
  simp only [h0, h1, h2, h3, h4, h5, if_true, if_false, Option.some.injEq, true_and, and_true, false_and, and_false, ge_iff_le] <;> simp only [ge_iff_le] at h0 h1 h2 h3 h4 h5 <;> simp [h0, h1, h2, h3, h4, h5]

theorem symMay_ev (x : S59) : Ev (fun k => sign_SymMay.f k x.f0 x.f1 x.f2 x.f3) (symB x) := by
 classical
 unfold sign_SymMay.f
 refine Ev.bind (called_ev x.f0) ?_
 refine Ev.congr (f := fun _ => some (symB x)) (fun k => ?_) (Ev.now _)
 rw [kinds_tests]
 simp only [symB, SymOk, nameB, Option.some.injEq, decide_eq_true_eq]
 exact decide_eq_decide.2 Iff.rfl

/-! where a name stands -/
def findFrom (s : ByteArray) : List S59 → Nat → Int
 | [], _ => -1
 | x :: l, i => if x.f0.toList = s.toList then (i : Int) else findFrom s l (i + 1)
def findV (l : List S59) (s : ByteArray) : Int := findFrom s l 0

theorem find_loop (l : List S59) (s : ByteArray) (hn : l.length ≤ 9223372036854775806) : ∀ (d i : Nat), l.length - i = d → i ≤ l.length → Ev (fun k => sign_find.l0 k l s (l.length : Int) (i : Int)) (findFrom s (l.drop i) i) := by
 intro d
 induction d with
 | zero =>
  intro i hd hi
  refine Ev.step (f := fun _ => some (-1)) (fun k => ?_) (Ev.some_ ?_)
  ·simp only [sign_find.l0]
   rw [if_neg (by omega)]
  ·rw [List.drop_eq_nil_of_le (by omega)]
   rfl
 | succ d ih =>
  intro i hd hi
  have hlt : i < l.length := by omega
  have h := ih (i + 1) (by omega) (by omega)
  rw [getD_drop l i hlt]
  by_cases e : (l.getD i z59).f0.toList = s.toList
  ·refine Ev.step (f := fun _ => some (i : Int)) (fun k => ?_) (Ev.some_ ?_)
   ·simp only [sign_find.l0]
    rw [if_pos (by omega), if_pos (by omega), if_pos (by omega), rd_sym, if_pos e]
   ·simp only [findFrom]
    rw [if_pos e]
  ·refine Ev.step (f := fun k => sign_find.l0 k l s (l.length : Int) ((i + 1 : Nat) : Int)) (fun k => ?_) (h.as_ ?_)
   ·simp only [sign_find.l0]
    rw [if_pos (by omega), if_pos (by omega), if_pos (by omega), rd_sym, if_neg e, wrap_nat i (by omega)]
   ·simp only [findFrom]
    rw [if_neg e]
theorem find_ev (l : List S59) (s : ByteArray) (hn : l.length ≤ 9223372036854775806) : Ev (fun k => sign_find.f k l s) (findV l s) := by
 unfold sign_find.f findV
 exact find_loop l s hn l.length 0 (by omega) (by omega)

/-! signatures -/
def EqSym (x : S59) : Prop := x.f0.toList = [61] ∧ x.f1 = 0 ∧ x.f2 = 2 ∧ x.f3 = 1
def SymAt (l : List S59) (j : Nat) : Prop := SymOk (l.getD j z59) ∧ findV l (l.getD j z59).f0 = (j : Int)
def SignOk (l : List S59) : Prop := 1 ≤ l.length ∧ l.length ≤ 20 ∧ EqSym (l.getD 0 z59) ∧ ∀ j, 1 ≤ j → j < l.length → SymAt l j
open Classical in
noncomputable def signB (l : List S59) : Bool := decide (SignOk l)

theorem may_loop (l : List S59) (hn : l.length ≤ 20) : ∀ (d i : Nat), l.length - i = d → i ≤ l.length → Ev (fun k => sign_May.l0 k l (i : Int)) (@decide (∀ j, i ≤ j → j < l.length → SymAt l j) (Classical.propDecidable _)) := by
 classical
 intro d
 induction d with
 | zero =>
  intro i hd hi
  refine Ev.step (f := fun _ => some true) (fun k => ?_) (Ev.some_ ?_)
  ·simp only [sign_May.l0]
   rw [if_neg (by omega)]
  ·symm
   simp only [decide_eq_true_eq]
   intro j h1 h2
   omega
 | succ d ih =>
  intro i hd hi
  have hlt : i < l.length := by omega
  have h := ih (i + 1) (by omega) (by omega)
  refine Ev.step (f := fun k => (sign_SymMay.f k (l.getD i z59).f0 (l.getD i z59).f1 (l.getD i z59).f2 (l.getD i z59).f3).bind fun t => if t = true then ((sign_find.f k l (l.getD i z59).f0).bind fun u => if u = (i : Int) then sign_May.l0 k l ((i + 1 : Nat) : Int) else some false) else some false) (fun k => ?_) ?_
  ·simp only [sign_May.l0]
   rw [if_pos (by omega), if_pos (by omega), rd_sym, wrap_nat i (by omega)]
  ·refine Ev.bind (symMay_ev (l.getD i z59)) ?_
   by_cases hs : SymOk (l.getD i z59)
   ·refine Ev.if_pos (by simp only [symB, decide_eq_true_eq]; exact hs) (Ev.bind (find_ev l _ (by omega)) ?_)
    by_cases hf : findV l (l.getD i z59).f0 = (i : Int)
    ·refine Ev.if_pos hf (h.as_ ?_)
     congr 1
     rw [from_step hlt]
     simp only [SymAt, hs, hf, and_self, true_and]
    ·refine Ev.if_neg hf (Ev.some_ ?_)
     symm
     simp only [decide_eq_false_iff_not]
     intro a
     exact hf (a i (Nat.le_refl _) hlt).2
   ·refine Ev.if_neg (by simp only [symB, decide_eq_true_eq]; exact hs) (Ev.some_ ?_)
    symm
    simp only [decide_eq_false_iff_not]
    intro a
    exact hs (a i (Nat.le_refl _) hlt).1

theorem first_test (x : S59) : ((!((x.f0.toList) == ([61] : List UInt8)) || (!((x.f1) == 0) || (!((x.f2) == 2) || (!((x.f3) == 1)))))) = @decide (¬ EqSym x) (Classical.propDecidable _) := by
 classical
 unfold EqSym
 by_cases h0 : x.f0.toList = [61] <;> by_cases h1 : x.f1 = 0 <;> by_cases h2 : x.f2 = 2 <;> by_cases h3 : x.f3 = 1 <;> simp [h0, h1, h2, h3]

theorem may_ev (l : List S59) : Ev (fun k => sign_May.f k l) (signB l) := by
 classical
 have hj : ∀ b, b = true → Ev (fun k => sign_May.j0 k l b) false := fun b hb => Ev.step (f := fun _ => some false) (fun k => by simp only [sign_May.j0]; rw [if_pos hb]) (Ev.now _)
 have no : ¬ SignOk l → signB l = false := fun h => by simp [signB, h]
 unfold sign_May.f
 refine Ev.ite (fun h0 => ?_) (fun h0 => Ev.ite (fun h8 => ?_) (fun h8 => ?_))
 ·exact (hj true rfl).as_ (no (fun h => by have := h.1; omega)).symm
 ·exact (hj true rfl).as_ (no (fun h => by have := h.2.1; omega)).symm
 ·refine Ev.if_pos (by omega) ?_
  simp only [first_test, rd_sym0]
  by_cases he : EqSym (l.getD 0 z59)
  ·have hl := may_loop l (by omega) (l.length - 1) 1 rfl (by omega)
   refine Ev.step (f := fun k => sign_May.l0 k l ((1 : Nat) : Int)) (fun k => ?_) (hl.as_ ?_)
   ·simp only [sign_May.j0]
    rw [if_neg (by simp only [decide_eq_true_eq]; exact fun h => h he)]
    rfl
   ·unfold signB SignOk
    congr 1
    simp only [eq_iff_iff]
    constructor
    ·intro h
     exact ⟨by omega, by omega, he, h⟩
    ·intro h
     exact h.2.2.2
  ·exact (hj _ (by simp only [decide_eq_true_eq]; exact he)).as_ (no (fun h => he h.2.2.1)).symm

theorem signB_true {l : List S59} : signB l = true ↔ SignOk l := by simp [signB]
end Go.Proofs.YteffiodbflmfkaaDoor.PP
