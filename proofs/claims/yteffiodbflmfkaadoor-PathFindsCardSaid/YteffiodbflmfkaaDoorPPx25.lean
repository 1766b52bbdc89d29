import Derived.Test.YteffiodbflmfkaaDoorPPx0
import Derived.Test.YteffiodbflmfkaaDoorPPx11
import Derived.Test.YteffiodbflmfkaaDoorPPx12
import Derived.Test.YteffiodbflmfkaaDoorPPx24
namespace Go.Proofs.YteffiodbflmfkaaDoor.PP
open Go.RowKit Go.Proofs.YteffiodbflmfkaaDoorW.PrintWords Go.Proofs.YteffiodbflmfkaaDoorW.PrintLast Go.Proofs.YteffiodbflmfkaaDoorW.PrintMore
attribute [local go_sem] jump_ret jumpE_ret max2_int min2_int max_two min_two max_three min_three max_four min_four
set_option linter.unusedVariables false
set_option linter.unusedSimpArgs false

/-! ### quaereref11_Find: function 19 -/
mutual
noncomputable def quaereref11_Find.j0 : Nat → List (S59) → List (List Int) → List Int → Int → Bool → Option (List Int × Int)
 | 0, _, _, _, _, _ => none
 | k + 1, x0, x1, x2, x3, x29 => if x29 = true then (some (([] : List Int), 1200)) else (quaereref11_Find.l0 k x0 x1 x2 x3 0)
noncomputable def quaereref11_Find.l0 : Nat → List (S59) → List (List Int) → List Int → Int → Int → Option (List Int × Int)
 | 0, _, _, _, _, _ => none
 | k + 1, x0, x1, x2, x3, x10 => if x10 < (x1.length : Int) then (if 0 ≤ x10 then (if ((rd_L3 x1 x10).length : Int) > 0 then ((quaereref11_IsText.f k x0 (rd_L3 x1 x10)).bind fun t437 => (if t437 = true then (quaereref11_Find.l0 k x0 x1 x2 x3 (wrap64 (x10 + 1))) else (some (([] : List Int), 1200)))) else (quaereref11_Find.l0 k x0 x1 x2 x3 (wrap64 (x10 + 1)))) else (none)) else (quaereref11_Find.l1 k x0 x1 x2 x3 ([] : List Int) 0)
noncomputable def quaereref11_Find.l1 : Nat → List (S59) → List (List Int) → List Int → Int → List Int → Int → Option (List Int × Int)
 | 0, _, _, _, _, _, _ => none
 | k + 1, x0, x1, x2, x3, x11, x12 => if x12 < (x1.length : Int) then (if 0 ≤ x12 then (if ((rd_L3 x1 x12).length : Int) > 0 then ((quaereref11_fits.f x0 (rd_L3 x1 x12) x2 x3).bind fun t440 => (if t440 = true then (if x11.length < 17592186044416 then (quaereref11_Find.l1 k x0 x1 x2 x3 (x11 ++ [x12]) (wrap64 (x12 + 1))) else (none)) else (quaereref11_Find.l1 k x0 x1 x2 x3 x11 (wrap64 (x12 + 1))))) else (quaereref11_Find.l1 k x0 x1 x2 x3 x11 (wrap64 (x12 + 1)))) else (none)) else (some (x11, 0))
end
noncomputable def quaereref11_Find.f (k : Nat) (l0 : List (S59)) (l1 : List (List Int)) (l2 : List Int) (a3 : Int) : Option (List Int × Int) := (quaereref1_SignMay.f k l0).bind fun t433 => (if t433 = true then (if a3 < 0 then (quaereref11_Find.j0 k l0 l1 l2 a3 true) else (if a3 > 2 then (quaereref11_Find.j0 k l0 l1 l2 a3 true) else ((quaereref11_IsText.f k l0 l2).bind fun t434 => (quaereref11_Find.j0 k l0 l1 l2 a3 (!t434))))) else (quaereref11_Find.j0 k l0 l1 l2 a3 true))
theorem quaereref11_Find.mono_l : ∀ k, (∀ y0 y1 y2 y3 y4, LeO (quaereref11_Find.j0 k y0 y1 y2 y3 y4) (quaereref11_Find.j0 (k + 1) y0 y1 y2 y3 y4)) ∧ (∀ y0 y1 y2 y3 y4, LeO (quaereref11_Find.l0 k y0 y1 y2 y3 y4) (quaereref11_Find.l0 (k + 1) y0 y1 y2 y3 y4)) ∧ (∀ y0 y1 y2 y3 y4 y5, LeO (quaereref11_Find.l1 k y0 y1 y2 y3 y4 y5) (quaereref11_Find.l1 (k + 1) y0 y1 y2 y3 y4 y5))
 | 0 => ⟨fun _ _ _ _ _ r h => by simp [quaereref11_Find.j0] at h, fun _ _ _ _ _ r h => by simp [quaereref11_Find.l0] at h, fun _ _ _ _ _ _ r h => by simp [quaereref11_Find.l1] at h⟩
 | k + 1 => by
  obtain ⟨ih0, ih1, ih2⟩ := quaereref11_Find.mono_l k
  refine ⟨?_, ?_, ?_⟩
  ·intro y0 y1 y2 y3 y4
   unfold quaereref11_Find.j0
   repeat' first
   | (with_reducible exact LeO.refl _)
   | (with_reducible exact LeO.none _)
   | (with_reducible refine LeO.ite ?_ ?_)
   | (with_reducible refine LeO.bind ?_ (fun _ => ?_))
   | exact ih0 _ _ _ _ _
   | exact ih1 _ _ _ _ _
   | exact ih2 _ _ _ _ _ _
   | exact quaereref11_IsText.mono _ _ _
   | exact quaereref1_SignMay.mono _ _
   | exact LeO.none _
   | refine LeO.ite ?_ ?_
   | refine LeO.bind ?_ (fun _ => ?_)
  ·intro y0 y1 y2 y3 y4
   unfold quaereref11_Find.l0
   repeat' first
   | (with_reducible exact LeO.refl _)
   | (with_reducible exact LeO.none _)
   | (with_reducible refine LeO.ite ?_ ?_)
   | (with_reducible refine LeO.bind ?_ (fun _ => ?_))
   | exact ih0 _ _ _ _ _
   | exact ih1 _ _ _ _ _
   | exact ih2 _ _ _ _ _ _
   | exact quaereref11_IsText.mono _ _ _
   | exact quaereref1_SignMay.mono _ _
   | exact LeO.none _
   | refine LeO.ite ?_ ?_
   | refine LeO.bind ?_ (fun _ => ?_)
  ·intro y0 y1 y2 y3 y4 y5
   unfold quaereref11_Find.l1
   repeat' first
   | (with_reducible exact LeO.refl _)
   | (with_reducible exact LeO.none _)
   | (with_reducible refine LeO.ite ?_ ?_)
   | (with_reducible refine LeO.bind ?_ (fun _ => ?_))
   | exact ih0 _ _ _ _ _
   | exact ih1 _ _ _ _ _
   | exact ih2 _ _ _ _ _ _
   | exact quaereref11_IsText.mono _ _ _
   | exact quaereref1_SignMay.mono _ _
   | exact LeO.none _
   | refine LeO.ite ?_ ?_
   | refine LeO.bind ?_ (fun _ => ?_)
theorem quaereref11_Find.mono : ∀ a0 a1 a2 a3 k, LeO (quaereref11_Find.f k a0 a1 a2 a3) (quaereref11_Find.f (k + 1) a0 a1 a2 a3) := by
 intro a0 a1 a2 a3 k
 obtain ⟨ih0, ih1, ih2⟩ := quaereref11_Find.mono_l k
 unfold quaereref11_Find.f
 repeat' first
   | (with_reducible exact LeO.refl _)
   | (with_reducible exact LeO.none _)
   | (with_reducible refine LeO.ite ?_ ?_)
   | (with_reducible refine LeO.bind ?_ (fun _ => ?_))
   | exact ih0 _ _ _ _ _
   | exact ih1 _ _ _ _ _
   | exact ih2 _ _ _ _ _ _
   | exact quaereref11_IsText.mono _ _ _
   | exact quaereref1_SignMay.mono _ _
   | exact LeO.none _
   | refine LeO.ite ?_ ?_
   | refine LeO.bind ?_ (fun _ => ?_)
set_option maxHeartbeats 8000000 in
set_option maxRecDepth 100000 in
theorem quaereref11_Find.calls (k : Nat) (A0 : Option Addr) (c0 : Nat) (l0 : List (S59)) (A1 : Option Addr) (c1 : Nat) (l1 : List (List Int)) (A2 : Option Addr) (c2 : Nat) (l2 : List Int) (a3 : Int) (r1 : List Int) (r2 : Int) (w : World) (hr0 : Kd.C k59 w A0 l0.length l0) (hc0 : l0.length ≤ c0) (hr1 : Kd.C (Kd.slice 3 (Kd.int .i64)) w A1 l1.length l1) (hc1 : l1.length ≤ c1) (hr2 : Kd.C (Kd.int .i64) w A2 l2.length l2) (hc2 : l2.length ≤ c2) (h : quaereref11_Find.f k l0 l1 l2 a3 = some (r1, r2)) :
  Calls Tryd.prog 19 #[.slice A0 l0.length c0, .slice A1 l1.length c1, .slice A2 l2.length c2, .int .i64 a3] w fun e w' => ∃ v0_ : Value, e = .returned (.tuple #[v0_, .int .i64 r2]) ∧ Kd.R (Kd.int .i64) 3 w' w.heap.size (fun _ => True) v0_ r1 ∧ Below w.heap.size w w' := by
 have HR0 := Aside0.mk hr0
 have HC0 := Aside0.mk hc0
 clear hr0 hc0
 have HR1 := Aside0.mk hr1
 have HC1 := Aside0.mk hc1
 clear hr1 hc1
 have HR2 := Aside0.mk hr2
 have HC2 := Aside0.mk hc2
 clear hr2 hc2
 have HB := Aside0.mk (Below.refl w.heap.size w)
 have H : ((quaereref1_SignMay.f k l0).bind fun t433 => (if t433 = true then (if a3 < 0 then (quaereref11_Find.j0 k l0 l1 l2 a3 true) else (if a3 > 2 then (quaereref11_Find.j0 k l0 l1 l2 a3 true) else ((quaereref11_IsText.f k l0 l2).bind fun t434 => (quaereref11_Find.j0 k l0 l1 l2 a3 (!t434))))) else (quaereref11_Find.j0 k l0 l1 l2 a3 true))) = some (r1, r2) := h
 clear h
 have HC5 := Aside0.mk H
 clear H
 go_enter Tryd.func19, Tryd.ntmps19
 go_upto_region 1 with (fail)
 go_cut [29] (fun v29 wc => ∃ (kq : Nat) (x29_4 : Bool), v29 = .bool x29_4 ∧ Aside0 (quaereref11_Find.j0 kq l0 l1 l2 a3 x29_4 = some (r1, r2)) ∧ Aside0 (kq ≤ k) ∧ Aside0 (Below w.heap.size w wc))
 case first =>
  have H := HC5.out
  clear HC5
  replace H := Option.bind_eq_some_iff.mp H
  obtain ⟨t433, A60, H⟩ := H
  replace H : (if t433 = true then (if a3 < 0 then (quaereref11_Find.j0 k l0 l1 l2 a3 true) else (if a3 > 2 then (quaereref11_Find.j0 k l0 l1 l2 a3 true) else ((quaereref11_IsText.f k l0 l2).bind fun t434 => (quaereref11_Find.j0 k l0 l1 l2 a3 (!t434))))) else (quaereref11_Find.j0 k l0 l1 l2 a3 true)) = some (r1, r2) := H
  have A6 := Aside0.mk A60
  clear A60
  by_cases c7 : t433 = true
  ·subst c7
   have H1 : (if a3 < 0 then (quaereref11_Find.j0 k l0 l1 l2 a3 true) else (if a3 > 2 then (quaereref11_Find.j0 k l0 l1 l2 a3 true) else ((quaereref11_IsText.f k l0 l2).bind fun t434 => (quaereref11_Find.j0 k l0 l1 l2 a3 (!t434))))) = some (r1, r2) := by rw [if_pos rfl] at H; exact H
   clear H
   have H := H1
   clear H1
   by_cases c8 : a3 < 0
   ·rw [if_pos c8] at H
    have c8b0 : decide (a3 < 0) = true := decide_eq_true c8
    clear c8
    (first | rw [c8b0] | (simp only [i64_w, i32_w]; rw [c8b0]) | skip)
    have H' := Aside0.mk H
    clear H
    go_wp2_with (first | ((with_reducible refine gate_callee (f := 26) rfl ?_); refine goesL_ (some 14) rfl rfl Tryd.func26 (by kernel_rfl) rfl #[.slice A0 l0.length c0] rfl mA ?_; (with_reducible refine (quaereref1_SignMay.calls k _ _ l0 true _ ?side1 ?side2 A6.out).mono ?_); (case side1 => exact cK (Kd.C_below HR0.out HB.out)); (case side2 => exact HC0.out); rintro e w9 ⟨rfl, hb⟩; refine ⟨_, rfl, ?_⟩; have n0_ := Aside0.mk (below_step bB hb); clear HB; have HB := n0_; clear n0_; (try clear hb); (try clear hb2); (try clear hk); (try clear hi)))
    go_meet
    case rel => exact ⟨_, (true), sK, H', ⟨by first | omega | exact Nat.le_refl _⟩, ⟨bB⟩⟩
   ·rw [if_neg c8] at H
    have c8b0 : decide (a3 < 0) = false := decide_eq_false c8
    clear c8
    (first | rw [c8b0] | (simp only [i64_w, i32_w]; rw [c8b0]) | skip)
    by_cases c10 : a3 > 2
    ·rw [if_pos c10] at H
     have c10b0 : decide (2 < a3) = true := decide_eq_true c10
     clear c10
     have H' := Aside0.mk H
     clear H
     go_wp2_with (first | ((with_reducible refine gate_callee (f := 26) rfl ?_); refine goesL_ (some 14) rfl rfl Tryd.func26 (by kernel_rfl) rfl #[.slice A0 l0.length c0] rfl mA ?_; (with_reducible refine (quaereref1_SignMay.calls k _ _ l0 true _ ?side1 ?side2 A6.out).mono ?_); (case side1 => exact cK (Kd.C_below HR0.out HB.out)); (case side2 => exact HC0.out); rintro e w11 ⟨rfl, hb⟩; refine ⟨_, rfl, ?_⟩; have n0_ := Aside0.mk (below_step bB hb); clear HB; have HB := n0_; clear n0_; (try clear hb); (try clear hb2); (try clear hk); (try clear hi)))
     go_meet
     case rel => exact ⟨_, (true), sK, H', ⟨by first | omega | exact Nat.le_refl _⟩, ⟨bB⟩⟩
    ·rw [if_neg c10] at H
     have c10b0 : decide (2 < a3) = false := decide_eq_false c10
     clear c10
     replace H := Option.bind_eq_some_iff.mp H
     obtain ⟨t434, A120, H⟩ := H
     replace H : (quaereref11_Find.j0 k l0 l1 l2 a3 (!t434)) = some (r1, r2) := H
     have A12 := Aside0.mk A120
     clear A120
     have H' := Aside0.mk H
     clear H
     go_wp2_with (first | ((with_reducible refine gate_callee (f := 26) rfl ?_); refine goesL_ (some 14) rfl rfl Tryd.func26 (by kernel_rfl) rfl #[.slice A0 l0.length c0] rfl mA ?_; (with_reducible refine (quaereref1_SignMay.calls k _ _ l0 true _ ?side1 ?side2 A6.out).mono ?_); (case side1 => exact cK (Kd.C_below HR0.out HB.out)); (case side2 => exact HC0.out); rintro e w13 ⟨rfl, hb⟩; refine ⟨_, rfl, ?_⟩; have n0_ := Aside0.mk (below_step bB hb); clear HB; have HB := n0_; clear n0_; (try clear hb); (try clear hb2); (try clear hk); (try clear hi)) | (go_at_call 27; (with_reducible refine (quaereref11_IsText.calls k _ _ l0 _ _ l2 t434 _ ?side1 ?side2 ?side3 ?side4 A12.out).mono ?_); (case side1 => exact cK (Kd.C_below HR0.out HB.out)); (case side2 => exact HC0.out); (case side3 => exact cK (Kd.C_below HR2.out HB.out)); (case side4 => exact HC2.out); rintro e w14 ⟨rfl, hb⟩; have n0_ := Aside0.mk (below_step bB hb); clear HB; have HB := n0_; clear n0_; (try clear hb); (try clear hb2); (try clear hk); (try clear hi)))
     go_meet
     case rel => exact ⟨_, (!t434), sK, H', ⟨by first | omega | exact Nat.le_refl _⟩, ⟨bB⟩⟩
  ·replace c7 := Bool.eq_false_iff.mpr c7
   subst c7
   have H1 : (quaereref11_Find.j0 k l0 l1 l2 a3 true) = some (r1, r2) := by rw [if_neg (show ¬ (false = true) by decide)] at H; exact H
   clear H
   have H := H1
   clear H1
   have H' := Aside0.mk H
   clear H
   go_wp2_with (first | ((with_reducible refine gate_callee (f := 26) rfl ?_); refine goesL_ (some 14) rfl rfl Tryd.func26 (by kernel_rfl) rfl #[.slice A0 l0.length c0] rfl mA ?_; (with_reducible refine (quaereref1_SignMay.calls k _ _ l0 false _ ?side1 ?side2 A6.out).mono ?_); (case side1 => exact cK (Kd.C_below HR0.out HB.out)); (case side2 => exact HC0.out); rintro e w15 ⟨rfl, hb⟩; refine ⟨_, rfl, ?_⟩; have n0_ := Aside0.mk (below_step bB hb); clear HB; have HB := n0_; clear n0_; (try clear hb); (try clear hb2); (try clear hk); (try clear hi)))
   go_meet
   case rel => exact ⟨_, (true), sK, H', ⟨by first | omega | exact Nat.le_refl _⟩, ⟨bB⟩⟩
 case rest =>
  clear HC5
  try clear c1
  try clear c2
  try clear p2
  try clear c7
  try clear c8
  try clear c8b0
  try clear c10
  try clear c10b0
  obtain ⟨kq, x29_4, rfl, HA, HJ4, HB⟩ := hcut
  cases kq with
  | zero => exact absurd HA.out (by simp [quaereref11_Find.j0])
  | succ kj4 =>
   have H := HA.out
   clear HA
   simp only [quaereref11_Find.j0] at H
   by_cases c16 : x29_4 = true
   ·subst c16
    have H1 : (some (([] : List Int), 1200)) = some (r1, r2) := by rw [if_pos rfl] at H; exact H
    clear H
    have H := H1
    clear H1
    simp only [Option.some.injEq, Prod.mk.injEq] at H
    obtain ⟨rfl, rfl⟩ := H
    go_wp2
    go_ret2
    exact ⟨_, eK, by first | exact Kd.R_nil _ _ _ _ _ | exact Kd.N_nil _ _ _ _ _ | exact Kd.V_nil _ _ _ _ _ | exact Kd.Q_nil _ _ _ _ _ | exact Kd.S_nil _ _ _ _ _, bB⟩
   ·replace c16 := Bool.eq_false_iff.mpr c16
    subst c16
    have H1 : (quaereref11_Find.l0 kj4 l0 l1 l2 a3 0) = some (r1, r2) := by rw [if_neg (show ¬ (false = true) by decide)] at H; exact H
    clear H
    have H := H1
    clear H1
    have H' := Aside0.mk H
    clear H
    go_wp2
    go_loopg [10] kj4 (fun kq v10 w' => ∃ (x10_2 : Int), v10 = .int .i64 x10_2 ∧ Aside0 (quaereref11_Find.l0 kq l0 l1 l2 a3 x10_2 = some (r1, r2)) ∧ Aside0 (kq ≤ kj4) ∧ Aside0 (Below w.heap.size w w'))
    case atStart => exact ⟨(0), sK, H', ⟨Nat.le_refl _⟩, ⟨bB⟩⟩
    case round =>
     clear H'
     try clear c1
     try clear c2
     try clear p2
     try clear c7
     try clear c8
     try clear c8b0
     try clear c10
     try clear c10b0
     try clear c16
     try clear p2
     obtain ⟨x10_2, rfl, HA, HK2, HB⟩ := hrel
     cases gk with
     | zero => exact absurd HA.out (by simp [quaereref11_Find.l0])
     | succ k2 =>
      have H := HA.out
      clear HA
      simp only [quaereref11_Find.l0] at H
      by_cases c17 : x10_2 < (l1.length : Int)
      ·rw [if_pos c17] at H
       have c17b0 : decide (x10_2 < (l1.length : Int)) = true := decide_eq_true c17
       clear c17
       by_cases c18 : 0 ≤ x10_2
       ·rw [if_pos c18] at H
        have c18b0 : decide (0 ≤ x10_2) = true := decide_eq_true c18
        clear c18
        by_cases c19 : ((rd_L3 l1 x10_2).length : Int) > 0
        ·rw [if_pos c19] at H
         have c19b0 : decide (0 < ((rd_L3 l1 x10_2).length : Int)) = true := decide_eq_true c19
         have c19b1 : decide (0 < (rd_L3 l1 x10_2).length) = true := decide_eq_true (by omega)
         clear c19
         replace H := Option.bind_eq_some_iff.mp H
         obtain ⟨t437, A200, H⟩ := H
         replace H : (if t437 = true then (quaereref11_Find.l0 k2 l0 l1 l2 a3 (wrap64 (x10_2 + 1))) else (some (([] : List Int), 1200))) = some (r1, r2) := H
         have A20 := Aside0.mk A200
         clear A200
         by_cases c21 : t437 = true
         ·subst c21
          have H1 : (quaereref11_Find.l0 k2 l0 l1 l2 a3 (wrap64 (x10_2 + 1))) = some (r1, r2) := by rw [if_pos rfl] at H; exact H
          clear H
          have H := H1
          clear H1
          have H' := Aside0.mk H
          clear H
          have p435 : 0 ≤ (x10_2 : Int) := of_decide_eq_true aK
          have q435 : x10_2 < (l1.length : Int) := of_decide_eq_true aK
          obtain ⟨ad435, A435_0, c435_0, e435, hx435_0, hl435_0, hi435_0⟩ := at_L3 HR1.out x10_2 p435 q435
          cases e435
          replace hx435_0 := (HB.out.cell (World.block_lt_of_cell? w _ hx435_0)).trans hx435_0
          have HR435_0 := Aside0.mk hi435_0
          have HC435_0 := Aside0.mk hl435_0
          clear hi435_0 hl435_0
          replace p435 := eq_true p435
          replace q435 := eq_true q435
          have p436 : 0 ≤ (x10_2 : Int) := of_decide_eq_true aK
          have q436 : x10_2 < (l1.length : Int) := of_decide_eq_true aK
          obtain ⟨ad436, A436_0, c436_0, e436, hx436_0, hl436_0, hi436_0⟩ := at_L3 HR1.out x10_2 p436 q436
          obtain rfl : ad435 = ad436 := (by injection e436)
          replace hx436_0 := (HB.out.cell (World.block_lt_of_cell? w _ hx436_0)).trans hx436_0
          have HR436_0 := Aside0.mk hi436_0
          have HC436_0 := Aside0.mk hl436_0
          clear hi436_0 hl436_0
          replace p436 := eq_true p436
          replace q436 := eq_true q436
          have ea_ := Option.some.inj (hx435_0.symm.trans hx436_0)
          injection ea_ with ea_ en_ ec_
          subst ea_
          subst ec_
          clear en_
          go_wp2_with (first | (go_at_call 27; (with_reducible refine (quaereref11_IsText.calls k2 _ _ l0 _ _ (rd_L3 l1 x10_2) true _ ?side1 ?side2 ?side3 ?side4 A20.out).mono ?_); (case side1 => exact cK (Kd.C_below HR0.out HB.out)); (case side2 => exact HC0.out); (case side3 => exact cK (Kd.C_below HR436_0.out HB.out)); (case side4 => exact HC436_0.out); rintro e w22 ⟨rfl, hb⟩; have n0_ := Aside0.mk (below_step bB hb); clear HB; have HB := n0_; clear n0_; (try clear hb); (try clear hb2); (try clear hk); (try clear hi)))
          go_roundg k2
          case measure => have := HJ4.out; have := HK2.out; omega
          case rel => exact ⟨(wrap64 (x10_2 + 1)), sK, H', ⟨by have := HJ4.out; have := HK2.out; omega⟩, ⟨bB⟩⟩
         ·replace c21 := Bool.eq_false_iff.mpr c21
          subst c21
          have H1 : (some (([] : List Int), 1200)) = some (r1, r2) := by rw [if_neg (show ¬ (false = true) by decide)] at H; exact H
          clear H
          have H := H1
          clear H1
          simp only [Option.some.injEq, Prod.mk.injEq] at H
          obtain ⟨rfl, rfl⟩ := H
          have p435 : 0 ≤ (x10_2 : Int) := of_decide_eq_true aK
          have q435 : x10_2 < (l1.length : Int) := of_decide_eq_true aK
          obtain ⟨ad435, A435_0, c435_0, e435, hx435_0, hl435_0, hi435_0⟩ := at_L3 HR1.out x10_2 p435 q435
          cases e435
          replace hx435_0 := (HB.out.cell (World.block_lt_of_cell? w _ hx435_0)).trans hx435_0
          have HR435_0 := Aside0.mk hi435_0
          have HC435_0 := Aside0.mk hl435_0
          clear hi435_0 hl435_0
          replace p435 := eq_true p435
          replace q435 := eq_true q435
          have p436 : 0 ≤ (x10_2 : Int) := of_decide_eq_true aK
          have q436 : x10_2 < (l1.length : Int) := of_decide_eq_true aK
          obtain ⟨ad436, A436_0, c436_0, e436, hx436_0, hl436_0, hi436_0⟩ := at_L3 HR1.out x10_2 p436 q436
          obtain rfl : ad435 = ad436 := (by injection e436)
          replace hx436_0 := (HB.out.cell (World.block_lt_of_cell? w _ hx436_0)).trans hx436_0
          have HR436_0 := Aside0.mk hi436_0
          have HC436_0 := Aside0.mk hl436_0
          clear hi436_0 hl436_0
          replace p436 := eq_true p436
          replace q436 := eq_true q436
          have ea_ := Option.some.inj (hx435_0.symm.trans hx436_0)
          injection ea_ with ea_ en_ ec_
          subst ea_
          subst ec_
          clear en_
          go_wp2_with (first | (go_at_call 27; (with_reducible refine (quaereref11_IsText.calls k2 _ _ l0 _ _ (rd_L3 l1 x10_2) false _ ?side1 ?side2 ?side3 ?side4 A20.out).mono ?_); (case side1 => exact cK (Kd.C_below HR0.out HB.out)); (case side2 => exact HC0.out); (case side3 => exact cK (Kd.C_below HR436_0.out HB.out)); (case side4 => exact HC436_0.out); rintro e w23 ⟨rfl, hb⟩; have n0_ := Aside0.mk (below_step bB hb); clear HB; have HB := n0_; clear n0_; (try clear hb); (try clear hb2); (try clear hk); (try clear hi)))
          go_ret2
          exact ⟨_, eK, by first | exact Kd.R_nil _ _ _ _ _ | exact Kd.N_nil _ _ _ _ _ | exact Kd.V_nil _ _ _ _ _ | exact Kd.Q_nil _ _ _ _ _ | exact Kd.S_nil _ _ _ _ _, bB⟩
        ·rw [if_neg c19] at H
         have c19b0 : decide (0 < ((rd_L3 l1 x10_2).length : Int)) = false := decide_eq_false c19
         have c19b1 : decide (0 < (rd_L3 l1 x10_2).length) = false := decide_eq_false (by omega)
         clear c19
         have H' := Aside0.mk H
         clear H
         have p435 : 0 ≤ (x10_2 : Int) := of_decide_eq_true aK
         have q435 : x10_2 < (l1.length : Int) := of_decide_eq_true aK
         obtain ⟨ad435, A435_0, c435_0, e435, hx435_0, hl435_0, hi435_0⟩ := at_L3 HR1.out x10_2 p435 q435
         cases e435
         replace hx435_0 := (HB.out.cell (World.block_lt_of_cell? w _ hx435_0)).trans hx435_0
         have HR435_0 := Aside0.mk hi435_0
         have HC435_0 := Aside0.mk hl435_0
         clear hi435_0 hl435_0
         replace p435 := eq_true p435
         replace q435 := eq_true q435
         go_wp2
         go_roundg k2
         case measure => have := HJ4.out; have := HK2.out; omega
         case rel => exact ⟨(wrap64 (x10_2 + 1)), sK, H', ⟨by have := HJ4.out; have := HK2.out; omega⟩, ⟨bB⟩⟩
       ·rw [if_neg c18] at H
        exact absurd H (by simp)
      ·rw [if_neg c17] at H
       have c17b0 : decide (x10_2 < (l1.length : Int)) = false := decide_eq_false c17
       clear c17
       have H' := Aside0.mk H
       clear H
       go_wp2
       go_loopg [11, 12] k2 (fun kq v11 v12 w' => ∃ (x11_3 : List Int) (x12_3 : Int), v12 = .int .i64 x12_3 ∧ Aside0 (quaereref11_Find.l1 kq l0 l1 l2 a3 x11_3 x12_3 = some (r1, r2)) ∧ Aside0 (kq ≤ k2) ∧ Aside0 (Kd.R (Kd.int .i64) 3 w' w.heap.size (fun _ => True) v11 x11_3) ∧ Aside0 (Below w.heap.size w w'))
       case atStart => exact ⟨(([] : List Int)), (0), sK, H', ⟨Nat.le_refl _⟩, ⟨by first | exact Kd.R_nil _ _ _ _ _ | exact Kd.N_nil _ _ _ _ _ | exact Kd.V_nil _ _ _ _ _ | exact Kd.Q_nil _ _ _ _ _ | exact Kd.S_nil _ _ _ _ _⟩, ⟨bB⟩⟩
       case round =>
        clear H'
        try clear c1
        try clear c2
        try clear p2
        try clear c4
        try clear p4
        try clear q4
        try clear hx4
        try clear p6
        try clear c7
        try clear c8
        try clear c8b0
        try clear c10
        try clear c10b0
        try clear c16
        try clear c17
        try clear c17b0
        try clear c18
        try clear c18b0
        try clear c19
        try clear c19b0
        try clear c19b1
        try clear c21
        try clear hx435_0
        try clear hx436_0
        try clear p2
        try clear p435
        try clear p436
        try clear q435
        try clear q436
        obtain ⟨x11_3, x12_3, rfl, HA, HK3, HO_11, HB⟩ := hrel
        cases gk with
        | zero => exact absurd HA.out (by simp [quaereref11_Find.l1])
        | succ k3 =>
         have H := HA.out
         clear HA
         simp only [quaereref11_Find.l1] at H
         by_cases c24 : x12_3 < (l1.length : Int)
         ·rw [if_pos c24] at H
          have c24b0 : decide (x12_3 < (l1.length : Int)) = true := decide_eq_true c24
          clear c24
          by_cases c25 : 0 ≤ x12_3
          ·rw [if_pos c25] at H
           have c25b0 : decide (0 ≤ x12_3) = true := decide_eq_true c25
           clear c25
           by_cases c26 : ((rd_L3 l1 x12_3).length : Int) > 0
           ·rw [if_pos c26] at H
            have c26b0 : decide (0 < ((rd_L3 l1 x12_3).length : Int)) = true := decide_eq_true c26
            have c26b1 : decide (0 < (rd_L3 l1 x12_3).length) = true := decide_eq_true (by omega)
            clear c26
            replace H := Option.bind_eq_some_iff.mp H
            obtain ⟨t440, A270, H⟩ := H
            replace H : (if t440 = true then (if x11_3.length < 17592186044416 then (quaereref11_Find.l1 k3 l0 l1 l2 a3 (x11_3 ++ [x12_3]) (wrap64 (x12_3 + 1))) else (none)) else (quaereref11_Find.l1 k3 l0 l1 l2 a3 x11_3 (wrap64 (x12_3 + 1)))) = some (r1, r2) := H
            have A27 := Aside0.mk A270
            clear A270
            by_cases c28 : t440 = true
            ·subst c28
             have H1 : (if x11_3.length < 17592186044416 then (quaereref11_Find.l1 k3 l0 l1 l2 a3 (x11_3 ++ [x12_3]) (wrap64 (x12_3 + 1))) else (none)) = some (r1, r2) := by rw [if_pos rfl] at H; exact H
             clear H
             have H := H1
             clear H1
             by_cases c29 : x11_3.length < 17592186044416
             ·rw [if_pos c29] at H
              have LMc29 := Aside0.mk c29
              clear c29
              obtain ⟨y441, hy441⟩ : ∃ y_ : List Int, y_ = (x11_3 ++ [x12_3]) := ⟨_, rfl⟩
              replace H : (quaereref11_Find.l1 k3 l0 l1 l2 a3 y441 (wrap64 (x12_3 + 1))) = some (r1, r2) := by first | (rw [hy441]; with_reducible exact H) | (have H2_ := (Option.bind_some _ _).symm.trans H; rw [hy441]; with_reducible exact H2_) | (have H2_ := (Option.bind_some _ _).symm.trans H; with_reducible exact H2_) | with_reducible exact H | (rw [hy441]; exact H) | exact H
              have Ny441 := Aside0.mk hy441
              clear hy441
              have H' := Aside0.mk H
              clear H
              have p438 : 0 ≤ (x12_3 : Int) := of_decide_eq_true aK
              have q438 : x12_3 < (l1.length : Int) := of_decide_eq_true aK
              obtain ⟨ad438, A438_0, c438_0, e438, hx438_0, hl438_0, hi438_0⟩ := at_L3 HR1.out x12_3 p438 q438
              cases e438
              replace hx438_0 := (HB.out.cell (World.block_lt_of_cell? w _ hx438_0)).trans hx438_0
              have HR438_0 := Aside0.mk hi438_0
              have HC438_0 := Aside0.mk hl438_0
              clear hi438_0 hl438_0
              replace p438 := eq_true p438
              replace q438 := eq_true q438
              have p439 : 0 ≤ (x12_3 : Int) := of_decide_eq_true aK
              have q439 : x12_3 < (l1.length : Int) := of_decide_eq_true aK
              obtain ⟨ad439, A439_0, c439_0, e439, hx439_0, hl439_0, hi439_0⟩ := at_L3 HR1.out x12_3 p439 q439
              obtain rfl : ad438 = ad439 := (by injection e439)
              replace hx439_0 := (HB.out.cell (World.block_lt_of_cell? w _ hx439_0)).trans hx439_0
              have HR439_0 := Aside0.mk hi439_0
              have HC439_0 := Aside0.mk hl439_0
              clear hi439_0 hl439_0
              replace p439 := eq_true p439
              replace q439 := eq_true q439
              have ea_ := Option.some.inj (hx438_0.symm.trans hx439_0)
              injection ea_ with ea_ en_ ec_
              subst ea_
              subst ec_
              clear en_
              go_wp2_with (first | (go_at_call 32; (with_reducible refine (quaereref11_fits.calls _ _ l0 _ _ (rd_L3 l1 x12_3) _ _ l2 a3 true _ ?side1 ?side2 ?side3 ?side4 ?side5 ?side6 A27.out).mono ?_); (case side1 => exact cK (Kd.C_below HR0.out HB.out)); (case side2 => exact HC0.out); (case side3 => exact cK (Kd.C_below HR439_0.out HB.out)); (case side4 => exact HC439_0.out); (case side5 => exact cK (Kd.C_below HR2.out HB.out)); (case side6 => exact HC2.out); rintro e w30 ⟨rfl, hb⟩; have n0_ := Aside0.mk (Kd.R_below (rK HO_11) hb); have n1_ := Aside0.mk (below_step bB hb); clear HO_11; clear HB; have HO_11 := n0_; have HB := n1_; clear n0_ n1_; (try clear hb); (try clear hb2); (try clear hk); (try clear hi)) | ((with_reducible refine gate_builtin (b := .append) (xs := #[.tmp 73, .tmp 75]) rfl ?_); at_builtin; refine Kd.R_append (Kd.int .i64) (w0 := w) w.heap.size rfl (.tmp 73) (.tmp 75) 23 3 (.int .i64 0) 8 rfl Tryd.underlying23 info3 rfl (by decide) (by omega) u11 x11_3 x12_3 [.int .i64 x12_3] (fun _ => True) (fun _ => False) rfl rfl ?aP (fun _ hk => hk.elim) ?aF ?aO ?aB ?aS ?aL ?_; (case aP => exact rfl); (case aB => exact bB); (case aF => exact (fun _ _ => trivial)); (case aO => exact (rK HO_11)); (case aS => exact (below_size bB)); (case aL => have := LMc29.out; omega); intro v442 w31 ho hb hg hat; rw [← Ny441.out] at ho; have n0_ := Aside0.mk (hb); have n1_ := Aside0.mk (ho); clear HB; clear HO_11; have HB := n0_; have HO443 := n1_; clear n0_ n1_; clear ho hb hg hat))
              go_roundg k3
              case measure => have := HJ4.out; have := HK2.out; have := HK3.out; omega
              case rel => exact ⟨(y441), (wrap64 (x12_3 + 1)), sK, H', ⟨by have := HJ4.out; have := HK2.out; have := HK3.out; omega⟩, ⟨by (with_reducible repeat (first | apply Kd.R_alloc | apply Kd.R_drewN | apply Kd.R_drew)); exact HO443.out⟩, ⟨bB⟩⟩
             ·rw [if_neg c29] at H
              exact absurd H (by simp)
            ·replace c28 := Bool.eq_false_iff.mpr c28
             subst c28
             have H1 : (quaereref11_Find.l1 k3 l0 l1 l2 a3 x11_3 (wrap64 (x12_3 + 1))) = some (r1, r2) := by rw [if_neg (show ¬ (false = true) by decide)] at H; exact H
             clear H
             have H := H1
             clear H1
             have H' := Aside0.mk H
             clear H
             have p438 : 0 ≤ (x12_3 : Int) := of_decide_eq_true aK
             have q438 : x12_3 < (l1.length : Int) := of_decide_eq_true aK
             obtain ⟨ad438, A438_0, c438_0, e438, hx438_0, hl438_0, hi438_0⟩ := at_L3 HR1.out x12_3 p438 q438
             cases e438
             replace hx438_0 := (HB.out.cell (World.block_lt_of_cell? w _ hx438_0)).trans hx438_0
             have HR438_0 := Aside0.mk hi438_0
             have HC438_0 := Aside0.mk hl438_0
             clear hi438_0 hl438_0
             replace p438 := eq_true p438
             replace q438 := eq_true q438
             have p439 : 0 ≤ (x12_3 : Int) := of_decide_eq_true aK
             have q439 : x12_3 < (l1.length : Int) := of_decide_eq_true aK
             obtain ⟨ad439, A439_0, c439_0, e439, hx439_0, hl439_0, hi439_0⟩ := at_L3 HR1.out x12_3 p439 q439
             obtain rfl : ad438 = ad439 := (by injection e439)
             replace hx439_0 := (HB.out.cell (World.block_lt_of_cell? w _ hx439_0)).trans hx439_0
             have HR439_0 := Aside0.mk hi439_0
             have HC439_0 := Aside0.mk hl439_0
             clear hi439_0 hl439_0
             replace p439 := eq_true p439
             replace q439 := eq_true q439
             have ea_ := Option.some.inj (hx438_0.symm.trans hx439_0)
             injection ea_ with ea_ en_ ec_
             subst ea_
             subst ec_
             clear en_
             go_wp2_with (first | (go_at_call 32; (with_reducible refine (quaereref11_fits.calls _ _ l0 _ _ (rd_L3 l1 x12_3) _ _ l2 a3 false _ ?side1 ?side2 ?side3 ?side4 ?side5 ?side6 A27.out).mono ?_); (case side1 => exact cK (Kd.C_below HR0.out HB.out)); (case side2 => exact HC0.out); (case side3 => exact cK (Kd.C_below HR439_0.out HB.out)); (case side4 => exact HC439_0.out); (case side5 => exact cK (Kd.C_below HR2.out HB.out)); (case side6 => exact HC2.out); rintro e w32 ⟨rfl, hb⟩; have n0_ := Aside0.mk (Kd.R_below (rK HO_11) hb); have n1_ := Aside0.mk (below_step bB hb); clear HO_11; clear HB; have HO_11 := n0_; have HB := n1_; clear n0_ n1_; (try clear hb); (try clear hb2); (try clear hk); (try clear hi)))
             go_roundg k3
             case measure => have := HJ4.out; have := HK2.out; have := HK3.out; omega
             case rel => exact ⟨(x11_3), (wrap64 (x12_3 + 1)), sK, H', ⟨by have := HJ4.out; have := HK2.out; have := HK3.out; omega⟩, ⟨by (with_reducible repeat (first | apply Kd.R_alloc | apply Kd.R_drewN | apply Kd.R_drew)); exact HO_11.out⟩, ⟨bB⟩⟩
           ·rw [if_neg c26] at H
            have c26b0 : decide (0 < ((rd_L3 l1 x12_3).length : Int)) = false := decide_eq_false c26
            have c26b1 : decide (0 < (rd_L3 l1 x12_3).length) = false := decide_eq_false (by omega)
            clear c26
            have H' := Aside0.mk H
            clear H
            have p438 : 0 ≤ (x12_3 : Int) := of_decide_eq_true aK
            have q438 : x12_3 < (l1.length : Int) := of_decide_eq_true aK
            obtain ⟨ad438, A438_0, c438_0, e438, hx438_0, hl438_0, hi438_0⟩ := at_L3 HR1.out x12_3 p438 q438
            cases e438
            replace hx438_0 := (HB.out.cell (World.block_lt_of_cell? w _ hx438_0)).trans hx438_0
            have HR438_0 := Aside0.mk hi438_0
            have HC438_0 := Aside0.mk hl438_0
            clear hi438_0 hl438_0
            replace p438 := eq_true p438
            replace q438 := eq_true q438
            go_wp2
            go_roundg k3
            case measure => have := HJ4.out; have := HK2.out; have := HK3.out; omega
            case rel => exact ⟨(x11_3), (wrap64 (x12_3 + 1)), sK, H', ⟨by have := HJ4.out; have := HK2.out; have := HK3.out; omega⟩, ⟨by (with_reducible repeat (first | apply Kd.R_alloc | apply Kd.R_drewN | apply Kd.R_drew)); exact HO_11.out⟩, ⟨bB⟩⟩
          ·rw [if_neg c25] at H
           exact absurd H (by simp)
         ·rw [if_neg c24] at H
          have c24b0 : decide (x12_3 < (l1.length : Int)) = false := decide_eq_false c24
          clear c24
          simp only [Option.some.injEq, Prod.mk.injEq] at H
          obtain ⟨rfl, rfl⟩ := H
          go_wp2
          go_ret2
          exact ⟨_, eK, by (with_reducible repeat (first | apply Kd.R_alloc | apply Kd.R_drewN | apply Kd.R_drew)); exact HO_11.out, bB⟩

end Go.Proofs.YteffiodbflmfkaaDoor.PP
