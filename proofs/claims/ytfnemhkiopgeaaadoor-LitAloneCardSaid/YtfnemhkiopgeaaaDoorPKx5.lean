-- written by a program of this session's (wip/tools/pp.py), after the kit's print
import Derived.Test.YtfnemhkiopgeaaaDoorPKx0
namespace Go.Proofs.YtfnemhkiopgeaaaDoor.PK
open Go.RowKit Go.Proofs.YtfnemhkiopgeaaaDoorW.PrintWords Go.Proofs.YtfnemhkiopgeaaaDoorW.PrintLast Go.Proofs.YtfnemhkiopgeaaaDoorW.PrintMore
attribute [local go_sem] jump_ret max2_int min2_int max_two min_two max_three min_three max_four min_four   -- for this text's walks alone
set_option linter.unusedVariables false
set_option linter.unusedSimpArgs false

/-! ### quaerelaw0_SameInts: function 21 -/
def quaerelaw0_SameInts.l0 : Nat → List Int → List Int → Int → Option (Bool)
 | 0, _, _, _ => none
 | k + 1, x0, x1, x5 => if x5 < (x0.length : Int) then (if 0 ≤ x5 then (if x5 < (x1.length : Int) then (if (rd x0 x5) = (rd x1 x5) then (quaerelaw0_SameInts.l0 k x0 x1 (wrap64 (x5 + 1))) else (some false)) else (none)) else (none)) else (some true)
def quaerelaw0_SameInts.f (k : Nat) (l0 : List Int) (l1 : List Int) : Option (Bool) := if (l0.length : Int) = (l1.length : Int) then (quaerelaw0_SameInts.l0 k l0 l1 0) else (some false)
theorem quaerelaw0_SameInts.mono_l : ∀ k, (∀ y0 y1 y2, LeO (quaerelaw0_SameInts.l0 k y0 y1 y2) (quaerelaw0_SameInts.l0 (k + 1) y0 y1 y2))
 | 0 => fun _ _ _ r h => by simp [quaerelaw0_SameInts.l0] at h
 | k + 1 => by
  have ih0 := quaerelaw0_SameInts.mono_l k
  ·intro y0 y1 y2
   unfold quaerelaw0_SameInts.l0
   repeat' first
   | (with_reducible exact ih0 _ _ _)
   | (with_reducible exact LeO.refl _)
   | (with_reducible exact LeO.none _)
   | (with_reducible refine LeO.ite ?_ ?_)
   | (with_reducible refine LeO.bind ?_ (fun _ => ?_))
   | exact ih0 _ _ _
   | exact LeO.none _
   | refine LeO.ite ?_ ?_
   | refine LeO.bind ?_ (fun _ => ?_)
theorem quaerelaw0_SameInts.mono : ∀ a0 a1 k, LeO (quaerelaw0_SameInts.f k a0 a1) (quaerelaw0_SameInts.f (k + 1) a0 a1) := by
 intro a0 a1 k
 have ih0 := quaerelaw0_SameInts.mono_l k
 unfold quaerelaw0_SameInts.f
 repeat' first
   | (with_reducible exact ih0 _ _ _)
   | (with_reducible exact LeO.refl _)
   | (with_reducible exact LeO.none _)
   | (with_reducible refine LeO.ite ?_ ?_)
   | (with_reducible refine LeO.bind ?_ (fun _ => ?_))
   | exact ih0 _ _ _
   | exact LeO.none _
   | refine LeO.ite ?_ ?_
   | refine LeO.bind ?_ (fun _ => ?_)
set_option maxHeartbeats 8000000 in
set_option maxRecDepth 100000 in
theorem quaerelaw0_SameInts.calls (k : Nat) (A0 : Option Addr) (c0 : Nat) (l0 : List Int) (A1 : Option Addr) (c1 : Nat) (l1 : List Int) (r : Bool) (w : World) (hr0 : Kd.C (Kd.int .i64) w A0 l0.length l0) (hc0 : l0.length ≤ c0) (hr1 : Kd.C (Kd.int .i64) w A1 l1.length l1) (hc1 : l1.length ≤ c1) (h : quaerelaw0_SameInts.f k l0 l1 = some r) :
  Calls Tryd.prog 21 #[.slice A0 l0.length c0, .slice A1 l1.length c1] w fun e w' => e = .returned (.bool r) ∧ Drawn0 w w' := by
 have HR0 := Aside0.mk hr0
 have HC0 := Aside0.mk hc0
 clear hr0 hc0
 have HR1 := Aside0.mk hr1
 have HC1 := Aside0.mk hc1
 clear hr1 hc1
 have H : (if (l0.length : Int) = (l1.length : Int) then (quaerelaw0_SameInts.l0 k l0 l1 0) else (some false)) = some r := h
 clear h
 by_cases c3 : (l0.length : Int) = (l1.length : Int)
 ·rw [if_pos c3] at H
  have c3b0 : ((l0.length : Int) == (l1.length : Int)) = true := beq_iff_eq.mpr c3
  have c3b1 : ((l0.length : Int) != (l1.length : Int)) = false := bne_eq_false_iff_eq.mpr c3
  have c3b2 : (l0.length == l1.length) = true := by first | simpa using c3 | (simp at c3 ⊢; omega)
  clear c3
  have H' := Aside0.mk H
  clear H
  go_enter Tryd.func21, Tryd.ntmps21
  go_wp2
  repeat (go_quiet (fail); try go_wp2)
  go_loopg [5] k (fun kq v5 w' => ∃ (x5_1 : Int), v5 = .int .i64 x5_1 ∧ Aside0 (quaerelaw0_SameInts.l0 kq l0 l1 x5_1 = some r) ∧ Aside0 (kq ≤ k) ∧ Drawn0 w w')
  case atStart => exact ⟨(0), sK, H', ⟨Nat.le_refl _⟩, by repeat (first | exact Drawn0.refl _ | apply Drawn0.step)⟩
  case round =>
   clear H'
   try clear c1
   try clear c2
   try clear p2
   try clear c3
   try clear c3b0
   try clear c3b1
   try clear c3b2
   obtain ⟨x5_1, rfl, HA, HK1, ⟨m1, rfl⟩⟩ := hrel
   cases gk with
   | zero => exact absurd HA.out (by simp [quaerelaw0_SameInts.l0])
   | succ k1 =>
    have H := HA.out
    clear HA
    simp only [quaerelaw0_SameInts.l0] at H
    by_cases c4 : x5_1 < (l0.length : Int)
    ·rw [if_pos c4] at H
     have c4b0 : decide (x5_1 < (l0.length : Int)) = true := decide_eq_true c4
     clear c4
     by_cases c5 : 0 ≤ x5_1
     ·rw [if_pos c5] at H
      have c5b0 : decide (0 ≤ x5_1) = true := decide_eq_true c5
      clear c5
      by_cases c6 : x5_1 < (l1.length : Int)
      ·rw [if_pos c6] at H
       have c6b0 : decide (x5_1 < (l1.length : Int)) = true := decide_eq_true c6
       clear c6
       by_cases c7 : (rd l0 x5_1) = (rd l1 x5_1)
       ·rw [if_pos c7] at H
        have c7b0 : ((rd l0 x5_1) == (rd l1 x5_1)) = true := beq_iff_eq.mpr c7
        have c7b1 : ((rd l0 x5_1) != (rd l1 x5_1)) = false := bne_eq_false_iff_eq.mpr c7
        clear c7
        have H' := Aside0.mk H
        clear H
        have p171 : 0 ≤ (x5_1 : Int) := of_decide_eq_true aK
        have q171 : x5_1 < (l0.length : Int) := of_decide_eq_true aK
        obtain ⟨ad171, e171, hx171_0⟩ := Kd.at_int HR0.out x5_1 p171 q171
        cases e171
        replace p171 := eq_true p171
        replace q171 := eq_true q171
        have p172 : 0 ≤ (x5_1 : Int) := of_decide_eq_true aK
        have q172 : x5_1 < (l1.length : Int) := of_decide_eq_true aK
        obtain ⟨ad172, e172, hx172_0⟩ := Kd.at_int HR1.out x5_1 p172 q172
        cases e172
        replace p172 := eq_true p172
        replace q172 := eq_true q172
        go_wp2
        repeat (go_quiet (fail); try go_wp2)
        go_roundg k1
        case measure => have := HK1.out; omega
        case rel => exact ⟨(wrap64 (x5_1 + 1)), sK, H', ⟨by have := HK1.out; omega⟩, by repeat (first | exact Drawn0.refl _ | apply Drawn0.step)⟩
       ·rw [if_neg c7] at H
        have c7b0 : ((rd l0 x5_1) == (rd l1 x5_1)) = false := beq_eq_false_iff_ne.mpr c7
        have c7b1 : ((rd l0 x5_1) != (rd l1 x5_1)) = true := bne_iff_ne.mpr c7
        obtain rfl := Option.some.inj H
        have p171 : 0 ≤ (x5_1 : Int) := of_decide_eq_true aK
        have q171 : x5_1 < (l0.length : Int) := of_decide_eq_true aK
        obtain ⟨ad171, e171, hx171_0⟩ := Kd.at_int HR0.out x5_1 p171 q171
        cases e171
        replace p171 := eq_true p171
        replace q171 := eq_true q171
        have p172 : 0 ≤ (x5_1 : Int) := of_decide_eq_true aK
        have q172 : x5_1 < (l1.length : Int) := of_decide_eq_true aK
        obtain ⟨ad172, e172, hx172_0⟩ := Kd.at_int HR1.out x5_1 p172 q172
        cases e172
        replace p172 := eq_true p172
        replace q172 := eq_true q172
        go_wp2
        repeat (go_quiet (fail); try go_wp2)
        go_ret
        exact ⟨sK, by repeat (first | exact Drawn0.refl _ | apply Drawn0.step)⟩
      ·rw [if_neg c6] at H
       exact absurd H (by simp)
     ·rw [if_neg c5] at H
      exact absurd H (by simp)
    ·rw [if_neg c4] at H
     have c4b0 : decide (x5_1 < (l0.length : Int)) = false := decide_eq_false c4
     clear c4
     obtain rfl := Option.some.inj H
     go_wp2
     repeat (go_quiet (fail); try go_wp2)
     go_ret
     exact ⟨sK, by repeat (first | exact Drawn0.refl _ | apply Drawn0.step)⟩
 ·rw [if_neg c3] at H
  have c3b0 : ((l0.length : Int) == (l1.length : Int)) = false := beq_eq_false_iff_ne.mpr c3
  have c3b1 : ((l0.length : Int) != (l1.length : Int)) = true := bne_iff_ne.mpr c3
  have c3b2 : (l0.length == l1.length) = false := by first | simpa using c3 | (simp at c3 ⊢; omega)
  obtain rfl := Option.some.inj H
  go_enter Tryd.func21, Tryd.ntmps21
  go_wp2
  repeat (go_quiet (fail); try go_wp2)
  go_ret
  exact ⟨sK, by repeat (first | exact Drawn0.refl _ | apply Drawn0.step)⟩

/-! ### quaerelaw0_SameLits: function 17 -/
def quaerelaw0_SameLits.l0 : Nat → List (S25) → List (S25) → Int → Option (Bool)
 | 0, _, _, _ => none
 | k + 1, x0, x1, x5 => if x5 < (x0.length : Int) then (if 0 ≤ x5 then (if x5 < (x1.length : Int) then (if (((rd_T25 x0 x5).f0) != ((rd_T25 x1 x5).f0)) = true then (some false) else ((quaerelaw0_SameInts.f k ((rd_T25 x0 x5).f1) ((rd_T25 x1 x5).f1)).bind fun t177 => (if t177 = true then (quaerelaw0_SameLits.l0 k x0 x1 (wrap64 (x5 + 1))) else (some false)))) else (none)) else (none)) else (some true)
def quaerelaw0_SameLits.f (k : Nat) (l0 : List (S25)) (l1 : List (S25)) : Option (Bool) := if (l0.length : Int) = (l1.length : Int) then (quaerelaw0_SameLits.l0 k l0 l1 0) else (some false)
theorem quaerelaw0_SameLits.mono_l : ∀ k, (∀ y0 y1 y2, LeO (quaerelaw0_SameLits.l0 k y0 y1 y2) (quaerelaw0_SameLits.l0 (k + 1) y0 y1 y2))
 | 0 => fun _ _ _ r h => by simp [quaerelaw0_SameLits.l0] at h
 | k + 1 => by
  have ih0 := quaerelaw0_SameLits.mono_l k
  ·intro y0 y1 y2
   unfold quaerelaw0_SameLits.l0
   repeat' first
   | (with_reducible exact ih0 _ _ _)
   | (with_reducible exact quaerelaw0_SameInts.mono _ _ _)
   | (with_reducible exact LeO.refl _)
   | (with_reducible exact LeO.none _)
   | (with_reducible refine LeO.ite ?_ ?_)
   | (with_reducible refine LeO.bind ?_ (fun _ => ?_))
   | exact ih0 _ _ _
   | exact quaerelaw0_SameInts.mono _ _ _
   | exact LeO.none _
   | refine LeO.ite ?_ ?_
   | refine LeO.bind ?_ (fun _ => ?_)
theorem quaerelaw0_SameLits.mono : ∀ a0 a1 k, LeO (quaerelaw0_SameLits.f k a0 a1) (quaerelaw0_SameLits.f (k + 1) a0 a1) := by
 intro a0 a1 k
 have ih0 := quaerelaw0_SameLits.mono_l k
 unfold quaerelaw0_SameLits.f
 repeat' first
   | (with_reducible exact ih0 _ _ _)
   | (with_reducible exact quaerelaw0_SameInts.mono _ _ _)
   | (with_reducible exact LeO.refl _)
   | (with_reducible exact LeO.none _)
   | (with_reducible refine LeO.ite ?_ ?_)
   | (with_reducible refine LeO.bind ?_ (fun _ => ?_))
   | exact ih0 _ _ _
   | exact quaerelaw0_SameInts.mono _ _ _
   | exact LeO.none _
   | refine LeO.ite ?_ ?_
   | refine LeO.bind ?_ (fun _ => ?_)
set_option maxHeartbeats 8000000 in
set_option maxRecDepth 100000 in
theorem quaerelaw0_SameLits.calls (k : Nat) (A0 : Option Addr) (c0 : Nat) (l0 : List (S25)) (A1 : Option Addr) (c1 : Nat) (l1 : List (S25)) (r : Bool) (w : World) (hr0 : Kd.C k25 w A0 l0.length l0) (hc0 : l0.length ≤ c0) (hr1 : Kd.C k25 w A1 l1.length l1) (hc1 : l1.length ≤ c1) (h : quaerelaw0_SameLits.f k l0 l1 = some r) :
  Calls Tryd.prog 17 #[.slice A0 l0.length c0, .slice A1 l1.length c1] w fun e w' => e = .returned (.bool r) ∧ Drawn0 w w' := by
 have HR0 := Aside0.mk hr0
 have HC0 := Aside0.mk hc0
 clear hr0 hc0
 have HR1 := Aside0.mk hr1
 have HC1 := Aside0.mk hc1
 clear hr1 hc1
 have H : (if (l0.length : Int) = (l1.length : Int) then (quaerelaw0_SameLits.l0 k l0 l1 0) else (some false)) = some r := h
 clear h
 by_cases c3 : (l0.length : Int) = (l1.length : Int)
 ·rw [if_pos c3] at H
  have c3b0 : ((l0.length : Int) == (l1.length : Int)) = true := beq_iff_eq.mpr c3
  have c3b1 : ((l0.length : Int) != (l1.length : Int)) = false := bne_eq_false_iff_eq.mpr c3
  have c3b2 : (l0.length == l1.length) = true := by first | simpa using c3 | (simp at c3 ⊢; omega)
  clear c3
  have H' := Aside0.mk H
  clear H
  go_enter Tryd.func17, Tryd.ntmps17
  go_wp2
  repeat (go_quiet (fail); try go_wp2)
  go_loopg [5] k (fun kq v5 w' => ∃ (x5_1 : Int), v5 = .int .i64 x5_1 ∧ Aside0 (quaerelaw0_SameLits.l0 kq l0 l1 x5_1 = some r) ∧ Aside0 (kq ≤ k) ∧ Drawn0 w w')
  case atStart => exact ⟨(0), sK, H', ⟨Nat.le_refl _⟩, by repeat (first | exact Drawn0.refl _ | apply Drawn0.step)⟩
  case round =>
   clear H'
   try clear c1
   try clear p2
   try clear c3
   try clear c3b0
   try clear c3b1
   try clear c3b2
   obtain ⟨x5_1, rfl, HA, HK1, ⟨m1, rfl⟩⟩ := hrel
   cases gk with
   | zero => exact absurd HA.out (by simp [quaerelaw0_SameLits.l0])
   | succ k1 =>
    have H := HA.out
    clear HA
    simp only [quaerelaw0_SameLits.l0] at H
    by_cases c4 : x5_1 < (l0.length : Int)
    ·rw [if_pos c4] at H
     have c4b0 : decide (x5_1 < (l0.length : Int)) = true := decide_eq_true c4
     clear c4
     by_cases c5 : 0 ≤ x5_1
     ·rw [if_pos c5] at H
      have c5b0 : decide (0 ≤ x5_1) = true := decide_eq_true c5
      clear c5
      by_cases c6 : x5_1 < (l1.length : Int)
      ·rw [if_pos c6] at H
       have c6b0 : decide (x5_1 < (l1.length : Int)) = true := decide_eq_true c6
       clear c6
       by_cases c7 : (((rd_T25 l0 x5_1).f0) != ((rd_T25 l1 x5_1).f0)) = true
       ·rw [if_pos c7] at H
        have c7b0 : (((rd_T25 l0 x5_1).f0) != ((rd_T25 l1 x5_1).f0)) = true := c7
        (try (have c7b1 : decide (((rd_T25 l0 x5_1).f0) = ((rd_T25 l1 x5_1).f0)) = false := by simpa using c7))
        (try (have c7b2 : (((rd_T25 l0 x5_1).f0) == ((rd_T25 l1 x5_1).f0)) = false := by simpa using c7))
        (try (have c7b3 : ¬ (((rd_T25 l0 x5_1).f0) = ((rd_T25 l1 x5_1).f0)) := by simpa using c7))
        clear c7
        obtain rfl := Option.some.inj H
        have p173 : 0 ≤ (x5_1 : Int) := of_decide_eq_true aK
        have q173 : x5_1 < (l0.length : Int) := of_decide_eq_true aK
        obtain ⟨ad173, A173_1, c173_1, e173, hx173_0, hx173_1, hl173_1, hi173_1⟩ := at_T25 HR0.out x5_1 p173 q173
        cases e173
        have HR173_1 := Aside0.mk hi173_1
        have HC173_1 := Aside0.mk hl173_1
        clear hi173_1 hl173_1
        replace p173 := eq_true p173
        replace q173 := eq_true q173
        have p174 : 0 ≤ (x5_1 : Int) := of_decide_eq_true aK
        have q174 : x5_1 < (l1.length : Int) := of_decide_eq_true aK
        obtain ⟨ad174, A174_1, c174_1, e174, hx174_0, hx174_1, hl174_1, hi174_1⟩ := at_T25 HR1.out x5_1 p174 q174
        cases e174
        have HR174_1 := Aside0.mk hi174_1
        have HC174_1 := Aside0.mk hl174_1
        clear hi174_1 hl174_1
        replace p174 := eq_true p174
        replace q174 := eq_true q174
        go_wp2
        repeat (go_quiet (fail); try go_wp2)
        go_ret
        exact ⟨sK, by repeat (first | exact Drawn0.refl _ | apply Drawn0.step)⟩
       ·rw [if_neg c7] at H
        have c7b0 : (((rd_T25 l0 x5_1).f0) != ((rd_T25 l1 x5_1).f0)) = false := by simpa using c7
        (try (have c7b1 : decide (((rd_T25 l0 x5_1).f0) = ((rd_T25 l1 x5_1).f0)) = true := by simpa using c7))
        (try (have c7b2 : (((rd_T25 l0 x5_1).f0) == ((rd_T25 l1 x5_1).f0)) = true := by simpa using c7))
        clear c7
        replace H := Option.bind_eq_some_iff.mp H
        obtain ⟨t177, A80, H⟩ := H
        replace H : (if t177 = true then (quaerelaw0_SameLits.l0 k1 l0 l1 (wrap64 (x5_1 + 1))) else (some false)) = some r := H
        have A8 := Aside0.mk A80
        clear A80
        by_cases c9 : t177 = true
        ·subst c9
         have H1 : (quaerelaw0_SameLits.l0 k1 l0 l1 (wrap64 (x5_1 + 1))) = some r := by rw [if_pos rfl] at H; exact H
         clear H
         have H := H1
         clear H1
         have H' := Aside0.mk H
         clear H
         have p173 : 0 ≤ (x5_1 : Int) := of_decide_eq_true aK
         have q173 : x5_1 < (l0.length : Int) := of_decide_eq_true aK
         obtain ⟨ad173, A173_1, c173_1, e173, hx173_0, hx173_1, hl173_1, hi173_1⟩ := at_T25 HR0.out x5_1 p173 q173
         cases e173
         have HR173_1 := Aside0.mk hi173_1
         have HC173_1 := Aside0.mk hl173_1
         clear hi173_1 hl173_1
         replace p173 := eq_true p173
         replace q173 := eq_true q173
         have p174 : 0 ≤ (x5_1 : Int) := of_decide_eq_true aK
         have q174 : x5_1 < (l1.length : Int) := of_decide_eq_true aK
         obtain ⟨ad174, A174_1, c174_1, e174, hx174_0, hx174_1, hl174_1, hi174_1⟩ := at_T25 HR1.out x5_1 p174 q174
         cases e174
         have HR174_1 := Aside0.mk hi174_1
         have HC174_1 := Aside0.mk hl174_1
         clear hi174_1 hl174_1
         replace p174 := eq_true p174
         replace q174 := eq_true q174
         have p175 : 0 ≤ (x5_1 : Int) := of_decide_eq_true aK
         have q175 : x5_1 < (l0.length : Int) := of_decide_eq_true aK
         obtain ⟨ad175, A175_1, c175_1, e175, hx175_0, hx175_1, hl175_1, hi175_1⟩ := at_T25 HR0.out x5_1 p175 q175
         obtain rfl : ad173 = ad175 := (by injection e175)
         have HR175_1 := Aside0.mk hi175_1
         have HC175_1 := Aside0.mk hl175_1
         clear hi175_1 hl175_1
         replace p175 := eq_true p175
         replace q175 := eq_true q175
         have ea_ := Option.some.inj (hx173_1.symm.trans hx175_1)
         injection ea_ with ea_ en_ ec_
         subst ea_
         subst ec_
         clear en_
         have p176 : 0 ≤ (x5_1 : Int) := of_decide_eq_true aK
         have q176 : x5_1 < (l1.length : Int) := of_decide_eq_true aK
         obtain ⟨ad176, A176_1, c176_1, e176, hx176_0, hx176_1, hl176_1, hi176_1⟩ := at_T25 HR1.out x5_1 p176 q176
         obtain rfl : ad174 = ad176 := (by injection e176)
         have HR176_1 := Aside0.mk hi176_1
         have HC176_1 := Aside0.mk hl176_1
         clear hi176_1 hl176_1
         replace p176 := eq_true p176
         replace q176 := eq_true q176
         have ea_ := Option.some.inj (hx174_1.symm.trans hx176_1)
         injection ea_ with ea_ en_ ec_
         subst ea_
         subst ec_
         clear en_
         go_wp2_with (first | (go_at_call 21; (with_reducible refine (quaerelaw0_SameInts.calls k1 _ _ ((rd_T25 l0 x5_1).f1) _ _ ((rd_T25 l1 x5_1).f1) true _ ?side1 ?side2 ?side3 ?side4 A8.out).mono ?_); (case side1 => exact cK (HR175_1.out)); (case side2 => exact HC175_1.out); (case side3 => exact cK (HR176_1.out)); (case side4 => exact HC176_1.out); rintro e w' ⟨rfl, ⟨nd, rfl⟩⟩; (try first | exact ⟨rfl, _, World.drewN_drewN _ _ _⟩ | exact ⟨rfl, _, Eq.trans (World.drewN_drewN _ _ _) (congrArg (World.drewN _) (Nat.add_assoc _ _ _))⟩)))
         repeat (go_quiet (first | (go_at_call 21; (with_reducible refine (quaerelaw0_SameInts.calls k1 _ _ ((rd_T25 l0 x5_1).f1) _ _ ((rd_T25 l1 x5_1).f1) true _ ?side1 ?side2 ?side3 ?side4 A8.out).mono ?_); (case side1 => exact cK (HR175_1.out)); (case side2 => exact HC175_1.out); (case side3 => exact cK (HR176_1.out)); (case side4 => exact HC176_1.out); rintro e w' ⟨rfl, ⟨nd, rfl⟩⟩; (try first | exact ⟨rfl, _, World.drewN_drewN _ _ _⟩ | exact ⟨rfl, _, Eq.trans (World.drewN_drewN _ _ _) (congrArg (World.drewN _) (Nat.add_assoc _ _ _))⟩))); try go_wp2_with (first | (go_at_call 21; (with_reducible refine (quaerelaw0_SameInts.calls k1 _ _ ((rd_T25 l0 x5_1).f1) _ _ ((rd_T25 l1 x5_1).f1) true _ ?side1 ?side2 ?side3 ?side4 A8.out).mono ?_); (case side1 => exact cK (HR175_1.out)); (case side2 => exact HC175_1.out); (case side3 => exact cK (HR176_1.out)); (case side4 => exact HC176_1.out); rintro e w' ⟨rfl, ⟨nd, rfl⟩⟩; (try first | exact ⟨rfl, _, World.drewN_drewN _ _ _⟩ | exact ⟨rfl, _, Eq.trans (World.drewN_drewN _ _ _) (congrArg (World.drewN _) (Nat.add_assoc _ _ _))⟩))))
         go_roundg k1
         case measure => have := HK1.out; omega
         case rel => exact ⟨(wrap64 (x5_1 + 1)), sK, H', ⟨by have := HK1.out; omega⟩, by repeat (first | exact Drawn0.refl _ | apply Drawn0.step)⟩
        ·replace c9 := Bool.eq_false_iff.mpr c9
         subst c9
         have H1 : (some false) = some r := by rw [if_neg (show ¬ (false = true) by decide)] at H; exact H
         clear H
         have H := H1
         clear H1
         obtain rfl := Option.some.inj H
         have p173 : 0 ≤ (x5_1 : Int) := of_decide_eq_true aK
         have q173 : x5_1 < (l0.length : Int) := of_decide_eq_true aK
         obtain ⟨ad173, A173_1, c173_1, e173, hx173_0, hx173_1, hl173_1, hi173_1⟩ := at_T25 HR0.out x5_1 p173 q173
         cases e173
         have HR173_1 := Aside0.mk hi173_1
         have HC173_1 := Aside0.mk hl173_1
         clear hi173_1 hl173_1
         replace p173 := eq_true p173
         replace q173 := eq_true q173
         have p174 : 0 ≤ (x5_1 : Int) := of_decide_eq_true aK
         have q174 : x5_1 < (l1.length : Int) := of_decide_eq_true aK
         obtain ⟨ad174, A174_1, c174_1, e174, hx174_0, hx174_1, hl174_1, hi174_1⟩ := at_T25 HR1.out x5_1 p174 q174
         cases e174
         have HR174_1 := Aside0.mk hi174_1
         have HC174_1 := Aside0.mk hl174_1
         clear hi174_1 hl174_1
         replace p174 := eq_true p174
         replace q174 := eq_true q174
         have p175 : 0 ≤ (x5_1 : Int) := of_decide_eq_true aK
         have q175 : x5_1 < (l0.length : Int) := of_decide_eq_true aK
         obtain ⟨ad175, A175_1, c175_1, e175, hx175_0, hx175_1, hl175_1, hi175_1⟩ := at_T25 HR0.out x5_1 p175 q175
         obtain rfl : ad173 = ad175 := (by injection e175)
         have HR175_1 := Aside0.mk hi175_1
         have HC175_1 := Aside0.mk hl175_1
         clear hi175_1 hl175_1
         replace p175 := eq_true p175
         replace q175 := eq_true q175
         have ea_ := Option.some.inj (hx173_1.symm.trans hx175_1)
         injection ea_ with ea_ en_ ec_
         subst ea_
         subst ec_
         clear en_
         have p176 : 0 ≤ (x5_1 : Int) := of_decide_eq_true aK
         have q176 : x5_1 < (l1.length : Int) := of_decide_eq_true aK
         obtain ⟨ad176, A176_1, c176_1, e176, hx176_0, hx176_1, hl176_1, hi176_1⟩ := at_T25 HR1.out x5_1 p176 q176
         obtain rfl : ad174 = ad176 := (by injection e176)
         have HR176_1 := Aside0.mk hi176_1
         have HC176_1 := Aside0.mk hl176_1
         clear hi176_1 hl176_1
         replace p176 := eq_true p176
         replace q176 := eq_true q176
         have ea_ := Option.some.inj (hx174_1.symm.trans hx176_1)
         injection ea_ with ea_ en_ ec_
         subst ea_
         subst ec_
         clear en_
         go_wp2_with (first | (go_at_call 21; (with_reducible refine (quaerelaw0_SameInts.calls k1 _ _ ((rd_T25 l0 x5_1).f1) _ _ ((rd_T25 l1 x5_1).f1) false _ ?side1 ?side2 ?side3 ?side4 A8.out).mono ?_); (case side1 => exact cK (HR175_1.out)); (case side2 => exact HC175_1.out); (case side3 => exact cK (HR176_1.out)); (case side4 => exact HC176_1.out); rintro e w' ⟨rfl, ⟨nd, rfl⟩⟩; (try first | exact ⟨rfl, _, World.drewN_drewN _ _ _⟩ | exact ⟨rfl, _, Eq.trans (World.drewN_drewN _ _ _) (congrArg (World.drewN _) (Nat.add_assoc _ _ _))⟩)))
         repeat (go_quiet (first | (go_at_call 21; (with_reducible refine (quaerelaw0_SameInts.calls k1 _ _ ((rd_T25 l0 x5_1).f1) _ _ ((rd_T25 l1 x5_1).f1) false _ ?side1 ?side2 ?side3 ?side4 A8.out).mono ?_); (case side1 => exact cK (HR175_1.out)); (case side2 => exact HC175_1.out); (case side3 => exact cK (HR176_1.out)); (case side4 => exact HC176_1.out); rintro e w' ⟨rfl, ⟨nd, rfl⟩⟩; (try first | exact ⟨rfl, _, World.drewN_drewN _ _ _⟩ | exact ⟨rfl, _, Eq.trans (World.drewN_drewN _ _ _) (congrArg (World.drewN _) (Nat.add_assoc _ _ _))⟩))); try go_wp2_with (first | (go_at_call 21; (with_reducible refine (quaerelaw0_SameInts.calls k1 _ _ ((rd_T25 l0 x5_1).f1) _ _ ((rd_T25 l1 x5_1).f1) false _ ?side1 ?side2 ?side3 ?side4 A8.out).mono ?_); (case side1 => exact cK (HR175_1.out)); (case side2 => exact HC175_1.out); (case side3 => exact cK (HR176_1.out)); (case side4 => exact HC176_1.out); rintro e w' ⟨rfl, ⟨nd, rfl⟩⟩; (try first | exact ⟨rfl, _, World.drewN_drewN _ _ _⟩ | exact ⟨rfl, _, Eq.trans (World.drewN_drewN _ _ _) (congrArg (World.drewN _) (Nat.add_assoc _ _ _))⟩))))
         go_ret
         exact ⟨sK, by repeat (first | exact Drawn0.refl _ | apply Drawn0.step)⟩
      ·rw [if_neg c6] at H
       exact absurd H (by simp)
     ·rw [if_neg c5] at H
      exact absurd H (by simp)
    ·rw [if_neg c4] at H
     have c4b0 : decide (x5_1 < (l0.length : Int)) = false := decide_eq_false c4
     clear c4
     obtain rfl := Option.some.inj H
     go_wp2
     repeat (go_quiet (fail); try go_wp2)
     go_ret
     exact ⟨sK, by repeat (first | exact Drawn0.refl _ | apply Drawn0.step)⟩
 ·rw [if_neg c3] at H
  have c3b0 : ((l0.length : Int) == (l1.length : Int)) = false := beq_eq_false_iff_ne.mpr c3
  have c3b1 : ((l0.length : Int) != (l1.length : Int)) = true := bne_iff_ne.mpr c3
  have c3b2 : (l0.length == l1.length) = false := by first | simpa using c3 | (simp at c3 ⊢; omega)
  obtain rfl := Option.some.inj H
  go_enter Tryd.func17, Tryd.ntmps17
  go_wp2
  repeat (go_quiet (fail); try go_wp2)
  go_ret
  exact ⟨sK, by repeat (first | exact Drawn0.refl _ | apply Drawn0.step)⟩

-- NOT PRINTED: function 46 (api_Lit_46)

-- NOT PRINTED: function 32 (api_Lit_32)

/-! ### quaerelaw7_words: function 30 -/
def quaerelaw7_words.f  : Option ((List (S58))) := some (([(⟨(⟨#[61]⟩ : ByteArray), 0, 2, 1⟩ : S58), (⟨(⟨#[97]⟩ : ByteArray), 1, 0, 1⟩ : S58), (⟨(⟨#[98]⟩ : ByteArray), 1, 0, 2⟩ : S58), (⟨(⟨#[102]⟩ : ByteArray), 1, 1, 1⟩ : S58), (⟨(⟨#[103]⟩ : ByteArray), 1, 2, 3⟩ : S58), (⟨(⟨#[112]⟩ : ByteArray), 0, 1, 1⟩ : S58), (⟨(⟨#[114]⟩ : ByteArray), 0, 2, 2⟩ : S58)] : List (S58)))
set_option maxHeartbeats 8000000 in
set_option maxRecDepth 100000 in
theorem quaerelaw7_words.calls  (r : List (S58)) (w : World) (h : quaerelaw7_words.f  = some r) :
  Calls Tryd.prog 30 #[] w fun e w' => ∃ v0_ : Value, e = .returned (v0_) ∧ Kd.R k58 58 w' w.heap.size (fun _ => True) v0_ r ∧ Below w.heap.size w w' := by
 have hu58 := Tryd.underlying58
 have HB := Aside0.mk (Below.refl w.heap.size w)
 have H : (some (([(⟨(⟨#[61]⟩ : ByteArray), 0, 2, 1⟩ : S58), (⟨(⟨#[97]⟩ : ByteArray), 1, 0, 1⟩ : S58), (⟨(⟨#[98]⟩ : ByteArray), 1, 0, 2⟩ : S58), (⟨(⟨#[102]⟩ : ByteArray), 1, 1, 1⟩ : S58), (⟨(⟨#[103]⟩ : ByteArray), 1, 2, 3⟩ : S58), (⟨(⟨#[112]⟩ : ByteArray), 0, 1, 1⟩ : S58), (⟨(⟨#[114]⟩ : ByteArray), 0, 2, 2⟩ : S58)] : List (S58)))) = some r := h
 clear h
 obtain ⟨y178, hy178⟩ : ∃ y_ : List (S58), y_ = (([(⟨(⟨#[61]⟩ : ByteArray), 0, 2, 1⟩ : S58), (⟨(⟨#[97]⟩ : ByteArray), 1, 0, 1⟩ : S58), (⟨(⟨#[98]⟩ : ByteArray), 1, 0, 2⟩ : S58), (⟨(⟨#[102]⟩ : ByteArray), 1, 1, 1⟩ : S58), (⟨(⟨#[103]⟩ : ByteArray), 1, 2, 3⟩ : S58), (⟨(⟨#[112]⟩ : ByteArray), 0, 1, 1⟩ : S58), (⟨(⟨#[114]⟩ : ByteArray), 0, 2, 2⟩ : S58)] : List (S58))) := ⟨_, rfl⟩
 replace H : (some y178) = some r := by first | (rw [hy178]; with_reducible exact H) | (have H2_ := (Option.bind_some _ _).symm.trans H; rw [hy178]; with_reducible exact H2_) | (have H2_ := (Option.bind_some _ _).symm.trans H; with_reducible exact H2_) | with_reducible exact H | (rw [hy178]; exact H) | exact H
 have Ny178 := Aside0.mk hy178
 clear hy178
 obtain rfl := Option.some.inj H
 go_enter Tryd.func30, Tryd.ntmps30
 go_wp2_with (first | ((with_reducible refine gate_dst (N := 8) rfl ?_); refine Kd.R_lit k58 _ 58 ?hg (N := 8) ?hd (xs := ([(⟨(⟨#[61]⟩ : ByteArray), 0, 2, 1⟩ : S58), (⟨(⟨#[97]⟩ : ByteArray), 1, 0, 1⟩ : S58), (⟨(⟨#[98]⟩ : ByteArray), 1, 0, 2⟩ : S58), (⟨(⟨#[102]⟩ : ByteArray), 1, 1, 1⟩ : S58), (⟨(⟨#[103]⟩ : ByteArray), 1, 2, 3⟩ : S58), (⟨(⟨#[112]⟩ : ByteArray), 0, 1, 1⟩ : S58), (⟨(⟨#[114]⟩ : ByteArray), 0, 2, 2⟩ : S58)] : List (S58))) (inner := [.string (⟨#[61]⟩ : ByteArray), .int .i64 0, .int .i64 2, .int .i64 1, .string (⟨#[97]⟩ : ByteArray), .int .i64 1, .int .i64 0, .int .i64 1, .string (⟨#[98]⟩ : ByteArray), .int .i64 1, .int .i64 0, .int .i64 2, .string (⟨#[102]⟩ : ByteArray), .int .i64 1, .int .i64 1, .int .i64 1, .string (⟨#[103]⟩ : ByteArray), .int .i64 1, .int .i64 2, .int .i64 3, .string (⟨#[112]⟩ : ByteArray), .int .i64 0, .int .i64 1, .int .i64 1, .string (⟨#[114]⟩ : ByteArray), .int .i64 0, .int .i64 2, .int .i64 2]) (ok := fun _ => True) (okp := fun _ => True) ?hr ?hp (fun _ hk => hk) trivial (Below.refl _ _) (Nat.le_refl _) (by simp) ?_; (case hd => rfl); (case hg => rfl); (case hr => first | (go_simp; done) | (go_simp; rfl)); (case hp => exact (Reps.c4 (show Kd.M k58 _ _ _ (⟨(⟨#[61]⟩ : ByteArray), 0, 2, 1⟩ : S58) [.string (⟨#[61]⟩ : ByteArray), .int .i64 0, .int .i64 2, .int .i64 1] from (k58_mkM _ _ _ (⟨(⟨#[61]⟩ : ByteArray), 0, 2, 1⟩ : S58) )) (Reps.c4 (show Kd.M k58 _ _ _ (⟨(⟨#[97]⟩ : ByteArray), 1, 0, 1⟩ : S58) [.string (⟨#[97]⟩ : ByteArray), .int .i64 1, .int .i64 0, .int .i64 1] from (k58_mkM _ _ _ (⟨(⟨#[97]⟩ : ByteArray), 1, 0, 1⟩ : S58) )) (Reps.c4 (show Kd.M k58 _ _ _ (⟨(⟨#[98]⟩ : ByteArray), 1, 0, 2⟩ : S58) [.string (⟨#[98]⟩ : ByteArray), .int .i64 1, .int .i64 0, .int .i64 2] from (k58_mkM _ _ _ (⟨(⟨#[98]⟩ : ByteArray), 1, 0, 2⟩ : S58) )) (Reps.c4 (show Kd.M k58 _ _ _ (⟨(⟨#[102]⟩ : ByteArray), 1, 1, 1⟩ : S58) [.string (⟨#[102]⟩ : ByteArray), .int .i64 1, .int .i64 1, .int .i64 1] from (k58_mkM _ _ _ (⟨(⟨#[102]⟩ : ByteArray), 1, 1, 1⟩ : S58) )) (Reps.c4 (show Kd.M k58 _ _ _ (⟨(⟨#[103]⟩ : ByteArray), 1, 2, 3⟩ : S58) [.string (⟨#[103]⟩ : ByteArray), .int .i64 1, .int .i64 2, .int .i64 3] from (k58_mkM _ _ _ (⟨(⟨#[103]⟩ : ByteArray), 1, 2, 3⟩ : S58) )) (Reps.c4 (show Kd.M k58 _ _ _ (⟨(⟨#[112]⟩ : ByteArray), 0, 1, 1⟩ : S58) [.string (⟨#[112]⟩ : ByteArray), .int .i64 0, .int .i64 1, .int .i64 1] from (k58_mkM _ _ _ (⟨(⟨#[112]⟩ : ByteArray), 0, 1, 1⟩ : S58) )) (Reps.c4 (show Kd.M k58 _ _ _ (⟨(⟨#[114]⟩ : ByteArray), 0, 2, 2⟩ : S58) [.string (⟨#[114]⟩ : ByteArray), .int .i64 0, .int .i64 2, .int .i64 2] from (k58_mkM _ _ _ (⟨(⟨#[114]⟩ : ByteArray), 0, 2, 2⟩ : S58) )) (Reps.none _ _))))))))); intro v179 w1 ho2 hb hg_ hnew_; clear hg_ hnew_; (first | rw [← Ny178.out] at ho2 | (simp only [Int.reduceToNat] at ho2; rw [← Ny178.out] at ho2)); have n0_ := Aside0.mk (Kd.R_lower ho2 (below_size bB)); have n1_ := Aside0.mk (below_step bB hb); clear HB; have HO180 := n0_; have HB := n1_; clear n0_ n1_; clear hb ho2))
 go_ret
 exact ⟨_, eK, by (with_reducible repeat (first | apply Kd.R_alloc | apply Kd.R_drewN | apply Kd.R_drew)); exact HO180.out, bB⟩

end Go.Proofs.YtfnemhkiopgeaaaDoor.PK
