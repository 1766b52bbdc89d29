/- OrderGround, plainly. -/
import Derived.Test.YtmikhfinakjbjaaDoorWantOrderGround
import Derived.Test.YtmikhfinakjbjaaDoorKbos
import Derived.Test.YtmikhfinakjbjaaDoorAwake6
import Derived.Test.YtmikhfinakjbjaaDoorPOx0
import Derived.Test.YtmikhfinakjbjaaDoorPOx4
import Derived.Test.YtmikhfinakjbjaaDoorPOx13
import Derived.Test.YtmikhfinakjbjaaDoorPOx18
namespace Go.Proofs.YtmikhfinakjbjaaDoor.PO
open Go Go.RowKit Go.Proofs.YtmikhfinakjbjaaDoorW.PrintWords Go.Proofs.YtmikhfinakjbjaaDoorW.PrintLast Go.Proofs.YtmikhfinakjbjaaDoor
set_option linter.unusedVariables false
/-- The first place where two rows of as many terms part. -/
theorem first_unlike {ar : Int → Option Nat} : ∀ (m : Nat) (r s : List Int), isN ar m r → isN ar m s → r ≠ s → ∃ n p x u y v, r = p ++ (x ++ u) ∧ s = p ++ (y ++ v) ∧ isN ar n p ∧ isN ar 1 x ∧ isN ar 1 y ∧ x ≠ y := by
  intro m
  induction m with
  | zero => intro r s hr hs hne; exact absurd ((isN_zero hr).trans (isN_zero hs).symm) hne
  | succ m ih =>
    intro r s hr hs hne
    rw [Nat.add_comm] at hr hs
    obtain ⟨x, u, rfl, hx, hu⟩ := isN_split hr
    obtain ⟨y, v, rfl, hy, hv⟩ := isN_split hs
    by_cases e : x = y
    · subst e
      obtain ⟨n, p, x', u', y', v', rfl, rfl, hp, h1, h2, h3⟩ := ih u v hu hv (fun e => hne (by rw [e]))
      exact ⟨1 + n, x ++ p, x', u', y', v', by simp, by simp, isN_append hx hp, h1, h2, h3⟩
    · exact ⟨0, [], x, u, y, v, rfl, rfl, isN_nil, hx, hy, e⟩
theorem cov_ground {a b : List Int} (hb : ∀ c ∈ b, 0 ≤ c) : Cov a b := by
  intro v _
  have : b.count (-1 - (v : Int)) = 0 := List.count_eq_zero.2 (fun h => by have := hb _ h; omega)
  omega
theorem ground_total {l : List S45} : ∀ (n : Nat) (a b : List Int), a.length ≤ n → Text l a → Text l b → (∀ c ∈ a, 0 ≤ c) → (∀ c ∈ b, 0 ≤ c) → a ≠ b → More l a b ∨ More l b a := by
  intro n
  induction n with
  | zero => intro a b hn ha; have := text_len ha; omega
  | succ n ih =>
    intro a b hn ha hb ga gb hne
    have c1 := cov_ground (a := a) gb
    have c2 := cov_ground (a := b) ga
    have la := text_len ha
    have lb := text_len hb
    obtain ⟨hs, c, r, rfl, hl, _, _, hr⟩ := ha
    obtain ⟨_, d, s, rfl, hl', _, _, hs'⟩ := hb
    rcases Int.lt_trichotomy (sumV l (c :: r)) (sumV l (d :: s)) with hw | hw | hw
    · exact .inr (.heavy c2 hw)
    · rcases Int.lt_trichotomy c d with hc | hc | hc
      · exact .inr (.head c2 hw.symm hc)
      · subst hc
        obtain ⟨k, p, x, u, y, v, rfl, rfl, hp, hx, hy, hxy⟩ := first_unlike _ r s hr hs' (fun e => hne (by rw [e]))
        simp only [List.length_cons, List.length_append] at hn hl hl'
        rcases ih x y (by omega) (text_one hs (by omega) hx) (text_one hs (by omega) hy) (fun z hz => ga z (by simp [hz])) (fun z hz => gb z (by simp [hz])) hxy with h | h
        · exact .inl (.args c1 hw hp hx hy hxy h)
        · exact .inr (.args c2 hw.symm hp hy hx (Ne.symm hxy) h)
      · exact .inl (.head c1 hw hc)
    · exact .inl (.heavy c1 hw)
theorem ground_end (l : List S45) (a b : List Int) (hn : a.length ≤ 9223372036854775807) (ga : ∀ c ∈ a, 0 ≤ c) (gb : ∀ c ∈ b, 0 ≤ c) :
    Ev (fun k => (order_Compare.f k l a b).bind fun t => if t.2 = 0 then ((quaerelaw0_SameInts.f k a b).bind fun s => if s = true then some (t.1 == 1) else if t.1 = 2 then some true else some (t.1 == 0)) else some (t.1 == 0)) true := by
  classical
  refine Ev.bind (compare_ev l a b) ?_
  unfold CompareV
  by_cases h : Both l a b
  · rw [if_pos h]
    refine Ev.if_pos rfl (Ev.bind (sameInts_ev a b hn) ?_)
    by_cases e : a = b
    · refine Ev.if_pos (by simpa using e) (Ev.some_ ?_)
      simp [whichV, e]
    · refine Ev.if_neg (by simpa using e) ?_
      obtain ⟨ta, tb⟩ := h.texts
      rcases ground_total (l := l) a.length a b (Nat.le_refl _) ta tb ga gb e with h | h
      · exact Ev.if_pos (whichV_of_more h) (Ev.now _)
      · rw [whichV_of_less h]
        exact Ev.if_neg (by decide) (Ev.some_ rfl)
  · rw [if_neg h]
    exact Ev.if_neg (by decide) (Ev.some_ rfl)
theorem ground_l1 (l : List S45) (a b : List Int) (hn : a.length ≤ 17592186044416) (hm : b.length ≤ 17592186044416) (ga : ∀ c ∈ a, 0 ≤ c) : ∀ (d i : Nat), b.length - i = d → i ≤ b.length → (∀ c ∈ b.take i, 0 ≤ c) → Ev (fun k => quaerelaw6_OrderGround.l1 k l a b (i : Int)) true := by
  intro d
  induction d with
  | zero =>
    intro i hd hi hg
    refine Ev.step (fun k => ?_) (ground_end l a b (by omega) ga (by rw [List.take_of_length_le (by omega)] at hg; exact hg))
    simp only [quaerelaw6_OrderGround.l1, quaerelaw0_Num.f, Option.bind_some]
    rw [if_neg (by omega)]
  | succ d ih =>
    intro i hd hi hg
    have hlt : i < b.length := by omega
    by_cases h : rd b (i : Int) < 0
    · refine Ev.step (f := fun _ => some true) (fun k => ?_) (Ev.now _)
      simp only [quaerelaw6_OrderGround.l1]
      rw [if_pos (by omega), if_pos (by omega), if_pos h]
    · refine Ev.step (f := fun k => quaerelaw6_OrderGround.l1 k l a b ((i + 1 : Nat) : Int)) (fun k => ?_) (ih (i + 1) (by omega) (by omega) ?_)
      · simp only [quaerelaw6_OrderGround.l1]
        rw [if_pos (by omega), if_pos (by omega), if_neg h, wrap_nat i (by omega)]
      · intro c hc
        rw [List.take_add_one, List.mem_append] at hc
        rcases hc with hc | hc
        · exact hg c hc
        · rw [List.getElem?_eq_getElem hlt] at hc
          have : c = b[i] := by simpa using hc
          rw [this, ← rd_nat b i hlt]
          omega
theorem ground_l0 (l : List S45) (a b : List Int) (hn : a.length ≤ 17592186044416) (hm : b.length ≤ 17592186044416) : ∀ (d i : Nat), a.length - i = d → i ≤ a.length → (∀ c ∈ a.take i, 0 ≤ c) → Ev (fun k => quaerelaw6_OrderGround.l0 k l a b (i : Int)) true := by
  intro d
  induction d with
  | zero =>
    intro i hd hi hg
    refine Ev.step (fun k => ?_) (ground_l1 l a b hn hm (by rw [List.take_of_length_le (by omega)] at hg; exact hg) b.length 0 rfl (by omega) (by simp))
    simp only [quaerelaw6_OrderGround.l0]
    rw [if_neg (by omega)]
    rfl
  | succ d ih =>
    intro i hd hi hg
    have hlt : i < a.length := by omega
    by_cases h : rd a (i : Int) < 0
    · refine Ev.step (f := fun _ => some true) (fun k => ?_) (Ev.now _)
      simp only [quaerelaw6_OrderGround.l0]
      rw [if_pos (by omega), if_pos (by omega), if_pos h]
    · refine Ev.step (f := fun k => quaerelaw6_OrderGround.l0 k l a b ((i + 1 : Nat) : Int)) (fun k => ?_) (ih (i + 1) (by omega) (by omega) ?_)
      · simp only [quaerelaw6_OrderGround.l0]
        rw [if_pos (by omega), if_pos (by omega), if_neg h, wrap_nat i (by omega)]
      · intro c hc
        rw [List.take_add_one, List.mem_append] at hc
        rcases hc with hc | hc
        · exact hg c hc
        · rw [List.getElem?_eq_getElem hlt] at hc
          have : c = a[i] := by simpa using hc
          rw [this, ← rd_nat a i hlt]
          omega
theorem quaerelaw6_OrderGround.pure : quaerelaw6_OrderGround.Pure := by
  intro l a b _ wa wb
  refine Ev.get (r := true) ?_
  unfold quaerelaw6_OrderGround.f
  have h1 := wa.1
  have h2 := wb.1
  exact Ev.bind awake_ev (Ev.if_pos rfl (ground_l0 l a b (by omega) (by omega) a.length 0 rfl (by omega) (by simp)))
end Go.Proofs.YtmikhfinakjbjaaDoor.PO
