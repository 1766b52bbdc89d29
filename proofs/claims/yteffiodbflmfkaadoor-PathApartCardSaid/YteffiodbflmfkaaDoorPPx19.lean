-- written by a program of this session's (wip/tools/pp.py), after the kit's print
import Derived.Test.YteffiodbflmfkaaDoorPPx0
import Derived.Test.YteffiodbflmfkaaDoorPPx4
import Derived.Test.YteffiodbflmfkaaDoorPPx17
import Derived.Test.YteffiodbflmfkaaDoorPPx18
namespace Go.Proofs.YteffiodbflmfkaaDoor.PP
open Go.RowKit Go.Proofs.YteffiodbflmfkaaDoorW.PrintWords Go.Proofs.YteffiodbflmfkaaDoorW.PrintLast Go.Proofs.YteffiodbflmfkaaDoorW.PrintMore
attribute [local go_sem] jump_ret jumpE_ret max2_int min2_int max_two min_two max_three min_three max_four min_four   -- for this text's walks alone
set_option linter.unusedVariables false
set_option linter.unusedSimpArgs false

/-! ### path_fits: function 31 -/
noncomputable def path_fits.f (l0 : List (S59)) (l1 : List Int) (l2 : List Int) (a3 : Int) : Option (Bool) := if a3 = 0 then ((path_unite.f l0 l2 l1).bind fun t324 => (some t324)) else (if a3 = 1 then ((path_becomes.f l0 l2 l1).bind fun t325 => (some t325)) else ((path_becomes.f l0 l1 l2).bind fun t326 => (some t326)))
set_option maxHeartbeats 8000000 in
set_option maxRecDepth 100000 in
theorem path_fits.calls (A0 : Option Addr) (c0 : Nat) (l0 : List (S59)) (A1 : Option Addr) (c1 : Nat) (l1 : List Int) (A2 : Option Addr) (c2 : Nat) (l2 : List Int) (a3 : Int) (r : Bool) (w : World) (hr0 : Kd.C k59 w A0 l0.length l0) (hc0 : l0.length ≤ c0) (hr1 : Kd.C (Kd.int .i64) w A1 l1.length l1) (hc1 : l1.length ≤ c1) (hr2 : Kd.C (Kd.int .i64) w A2 l2.length l2) (hc2 : l2.length ≤ c2) (h : path_fits.f l0 l1 l2 a3 = some r) (hG : Glob w) :
  Calls Tryd.prog 31 #[.slice A0 l0.length c0, .slice A1 l1.length c1, .slice A2 l2.length c2, .int .i64 a3] w fun e w' => e = .returned (.bool r) ∧ Below w.heap.size w w' := by
 have HR0 := Aside0.mk hr0
 have HC0 := Aside0.mk hc0
 clear hr0 hc0
 have HR1 := Aside0.mk hr1
 have HC1 := Aside0.mk hc1
 clear hr1 hc1
 have HR2 := Aside0.mk hr2
 have HC2 := Aside0.mk hc2
 clear hr2 hc2
 have HB := Aside0.mk (Below.refl w.heap.size w)
 have H : (if a3 = 0 then ((path_unite.f l0 l2 l1).bind fun t324 => (some t324)) else (if a3 = 1 then ((path_becomes.f l0 l2 l1).bind fun t325 => (some t325)) else ((path_becomes.f l0 l1 l2).bind fun t326 => (some t326)))) = some r := h
 clear h
 by_cases c5 : a3 = 0
 ·rw [if_pos c5] at H
  have c5b0 : (a3 == 0) = true := beq_iff_eq.mpr c5
  have c5b1 : (a3 != 0) = false := bne_eq_false_iff_eq.mpr c5
  clear c5
  replace H := Option.bind_eq_some_iff.mp H
  obtain ⟨t324, A60, H⟩ := H
  replace H : (some t324) = some r := H
  have A6 := Aside0.mk A60
  clear A60
  obtain rfl := Option.some.inj H
  go_enter Tryd.func31, Tryd.ntmps31
  go_wp2_with (first | ((with_reducible refine gate_callee (f := 45) rfl ?_); refine goesL_ (some 15) rfl rfl Tryd.func45 (by kernel_rfl) rfl #[.slice A0 l0.length c0, .slice A2 l2.length c2, .slice A1 l1.length c1] rfl mA ?_; (with_reducible refine (path_unite.calls (hG := gK) _ _ l0 _ _ l2 _ _ l1 t324 _ ?side1 ?side2 ?side3 ?side4 ?side5 ?side6 A6.out).mono ?_); (case side1 => exact cK (HR0.out)); (case side2 => exact HC0.out); (case side3 => exact cK (HR2.out)); (case side4 => exact HC2.out); (case side5 => exact cK (HR1.out)); (case side6 => exact HC1.out); rintro e w7 ⟨rfl, hb⟩; refine ⟨_, rfl, ?_⟩; have n0_ := Aside0.mk (below_step bB hb); clear HB; have HB := n0_; clear n0_; (try clear hb); (try clear hb2); (try clear hk); (try clear hi)))
  go_ret
  exact ⟨eK, bB⟩
 ·rw [if_neg c5] at H
  have c5b0 : (a3 == 0) = false := beq_eq_false_iff_ne.mpr c5
  have c5b1 : (a3 != 0) = true := bne_iff_ne.mpr c5
  by_cases c8 : a3 = 1
  ·rw [if_pos c8] at H
   have c8b0 : (a3 == 1) = true := beq_iff_eq.mpr c8
   have c8b1 : (a3 != 1) = false := bne_eq_false_iff_eq.mpr c8
   clear c8
   replace H := Option.bind_eq_some_iff.mp H
   obtain ⟨t325, A90, H⟩ := H
   replace H : (some t325) = some r := H
   have A9 := Aside0.mk A90
   clear A90
   obtain rfl := Option.some.inj H
   go_enter Tryd.func31, Tryd.ntmps31
   go_wp2_with (first | ((with_reducible refine gate_callee (f := 46) rfl ?_); refine goesL_ (some 21) rfl rfl Tryd.func46 (by kernel_rfl) rfl #[.slice A0 l0.length c0, .slice A2 l2.length c2, .slice A1 l1.length c1] rfl mA ?_; (with_reducible refine (path_becomes.calls (hG := gK) _ _ l0 _ _ l2 _ _ l1 t325 _ ?side1 ?side2 ?side3 ?side4 ?side5 ?side6 A9.out).mono ?_); (case side1 => exact cK (HR0.out)); (case side2 => exact HC0.out); (case side3 => exact cK (HR2.out)); (case side4 => exact HC2.out); (case side5 => exact cK (HR1.out)); (case side6 => exact HC1.out); rintro e w10 ⟨rfl, hb⟩; refine ⟨_, rfl, ?_⟩; have n0_ := Aside0.mk (below_step bB hb); clear HB; have HB := n0_; clear n0_; (try clear hb); (try clear hb2); (try clear hk); (try clear hi)))
   go_ret
   exact ⟨eK, bB⟩
  ·rw [if_neg c8] at H
   have c8b0 : (a3 == 1) = false := beq_eq_false_iff_ne.mpr c8
   have c8b1 : (a3 != 1) = true := bne_iff_ne.mpr c8
   replace H := Option.bind_eq_some_iff.mp H
   obtain ⟨t326, A110, H⟩ := H
   replace H : (some t326) = some r := H
   have A11 := Aside0.mk A110
   clear A110
   obtain rfl := Option.some.inj H
   go_enter Tryd.func31, Tryd.ntmps31
   go_wp2_with (first | ((with_reducible refine gate_callee (f := 46) rfl ?_); refine goesL_ (some 25) rfl rfl Tryd.func46 (by kernel_rfl) rfl #[.slice A0 l0.length c0, .slice A1 l1.length c1, .slice A2 l2.length c2] rfl mA ?_; (with_reducible refine (path_becomes.calls (hG := gK) _ _ l0 _ _ l1 _ _ l2 t326 _ ?side1 ?side2 ?side3 ?side4 ?side5 ?side6 A11.out).mono ?_); (case side1 => exact cK (HR0.out)); (case side2 => exact HC0.out); (case side3 => exact cK (HR1.out)); (case side4 => exact HC1.out); (case side5 => exact cK (HR2.out)); (case side6 => exact HC2.out); rintro e w12 ⟨rfl, hb⟩; refine ⟨_, rfl, ?_⟩; have n0_ := Aside0.mk (below_step bB hb); clear HB; have HB := n0_; clear n0_; (try clear hb); (try clear hb2); (try clear hk); (try clear hi)))
   go_ret
   exact ⟨eK, bB⟩

/-! ### path_Find: function 18 -/
mutual
noncomputable def path_Find.j0 : Nat → List (S59) → List (List Int) → List Int → Int → Bool → Option (List Int × Int)
 | 0, _, _, _, _, _ => none
 | k + 1, x0, x1, x2, x3, x24 => if x24 = true then (some (([] : List Int), 1200)) else (path_Find.l0 k x0 x2 x3 ([] : List Int) x1 (x1.length : Int) 0)
noncomputable def path_Find.l0 : Nat → List (S59) → List Int → Int → List Int → List (List Int) → Int → Int → Option (List Int × Int)
 | 0, _, _, _, _, _, _, _ => none
 | k + 1, x0, x2, x3, x10, x25, x26, x27 => if x27 < x26 then (if 0 ≤ x27 then (if x27 < (x25.length : Int) then (if ((rd_L3 x25 x27).length : Int) = 0 then (path_Find.l0 k x0 x2 x3 x10 x25 x26 (wrap64 (x27 + 1))) else ((path_IsText.f k x0 (rd_L3 x25 x27)).bind fun t329 => (if t329 = true then ((path_fits.f x0 (rd_L3 x25 x27) x2 x3).bind fun t330 => (if t330 = true then (if x10.length < 17592186044416 then (path_Find.l0 k x0 x2 x3 (x10 ++ [x27]) x25 x26 (wrap64 (x27 + 1))) else (none)) else (path_Find.l0 k x0 x2 x3 x10 x25 x26 (wrap64 (x27 + 1))))) else (some (([] : List Int), 1200))))) else (none)) else (none)) else (some (x10, 0))
end
noncomputable def path_Find.f (k : Nat) (l0 : List (S59)) (l1 : List (List Int)) (l2 : List Int) (a3 : Int) : Option (List Int × Int) := if a3 < 0 then (path_Find.j0 k l0 l1 l2 a3 true) else (if a3 > 2 then (path_Find.j0 k l0 l1 l2 a3 true) else ((path_IsText.f k l0 l2).bind fun t327 => (path_Find.j0 k l0 l1 l2 a3 (!t327))))
theorem path_Find.mono_l : ∀ k, (∀ y0 y1 y2 y3 y4, LeO (path_Find.j0 k y0 y1 y2 y3 y4) (path_Find.j0 (k + 1) y0 y1 y2 y3 y4)) ∧ (∀ y0 y1 y2 y3 y4 y5 y6, LeO (path_Find.l0 k y0 y1 y2 y3 y4 y5 y6) (path_Find.l0 (k + 1) y0 y1 y2 y3 y4 y5 y6))
 | 0 => ⟨fun _ _ _ _ _ r h => by simp [path_Find.j0] at h, fun _ _ _ _ _ _ _ r h => by simp [path_Find.l0] at h⟩
 | k + 1 => by
  obtain ⟨ih0, ih1⟩ := path_Find.mono_l k
  refine ⟨?_, ?_⟩
  ·intro y0 y1 y2 y3 y4
   unfold path_Find.j0
   repeat' first
   | (with_reducible exact ih0 _ _ _ _ _)
   | (with_reducible exact ih1 _ _ _ _ _ _ _)
   | (with_reducible exact path_IsText.mono _ _ _)
   | (with_reducible exact LeO.refl _)
   | (with_reducible exact LeO.none _)
   | (with_reducible refine LeO.ite ?_ ?_)
   | (with_reducible refine LeO.bind ?_ (fun _ => ?_))
   | exact ih0 _ _ _ _ _
   | exact ih1 _ _ _ _ _ _ _
   | exact path_IsText.mono _ _ _
   | exact LeO.none _
   | refine LeO.ite ?_ ?_
   | refine LeO.bind ?_ (fun _ => ?_)
  ·intro y0 y1 y2 y3 y4 y5 y6
   unfold path_Find.l0
   repeat' first
   | (with_reducible exact ih0 _ _ _ _ _)
   | (with_reducible exact ih1 _ _ _ _ _ _ _)
   | (with_reducible exact path_IsText.mono _ _ _)
   | (with_reducible exact LeO.refl _)
   | (with_reducible exact LeO.none _)
   | (with_reducible refine LeO.ite ?_ ?_)
   | (with_reducible refine LeO.bind ?_ (fun _ => ?_))
   | exact ih0 _ _ _ _ _
   | exact ih1 _ _ _ _ _ _ _
   | exact path_IsText.mono _ _ _
   | exact LeO.none _
   | refine LeO.ite ?_ ?_
   | refine LeO.bind ?_ (fun _ => ?_)
theorem path_Find.mono : ∀ a0 a1 a2 a3 k, LeO (path_Find.f k a0 a1 a2 a3) (path_Find.f (k + 1) a0 a1 a2 a3) := by
 intro a0 a1 a2 a3 k
 obtain ⟨ih0, ih1⟩ := path_Find.mono_l k
 unfold path_Find.f
 repeat' first
   | (with_reducible exact ih0 _ _ _ _ _)
   | (with_reducible exact ih1 _ _ _ _ _ _ _)
   | (with_reducible exact path_IsText.mono _ _ _)
   | (with_reducible exact LeO.refl _)
   | (with_reducible exact LeO.none _)
   | (with_reducible refine LeO.ite ?_ ?_)
   | (with_reducible refine LeO.bind ?_ (fun _ => ?_))
   | exact ih0 _ _ _ _ _
   | exact ih1 _ _ _ _ _ _ _
   | exact path_IsText.mono _ _ _
   | exact LeO.none _
   | refine LeO.ite ?_ ?_
   | refine LeO.bind ?_ (fun _ => ?_)
set_option maxHeartbeats 8000000 in
set_option maxRecDepth 100000 in
theorem path_Find.calls (k : Nat) (A0 : Option Addr) (c0 : Nat) (l0 : List (S59)) (A1 : Option Addr) (c1 : Nat) (l1 : List (List Int)) (A2 : Option Addr) (c2 : Nat) (l2 : List Int) (a3 : Int) (r1 : List Int) (r2 : Int) (w : World) (hr0 : Kd.C k59 w A0 l0.length l0) (hc0 : l0.length ≤ c0) (hr1 : Kd.C (Kd.slice 3 (Kd.int .i64)) w A1 l1.length l1) (hc1 : l1.length ≤ c1) (hr2 : Kd.C (Kd.int .i64) w A2 l2.length l2) (hc2 : l2.length ≤ c2) (h : path_Find.f k l0 l1 l2 a3 = some (r1, r2)) (hG : Glob w) :
  Calls Tryd.prog 18 #[.slice A0 l0.length c0, .slice A1 l1.length c1, .slice A2 l2.length c2, .int .i64 a3] w fun e w' => ∃ v0_ : Value, e = .returned (.tuple #[v0_, .int .i64 r2]) ∧ Kd.R (Kd.int .i64) 3 w' w.heap.size (fun _ => True) v0_ r1 ∧ Below w.heap.size w w' := by
 have HR0 := Aside0.mk hr0
 have HC0 := Aside0.mk hc0
 clear hr0 hc0
 have HR1 := Aside0.mk hr1
 have HC1 := Aside0.mk hc1
 clear hr1 hc1
 have HR2 := Aside0.mk hr2
 have HC2 := Aside0.mk hc2
 clear hr2 hc2
 have HB := Aside0.mk (Below.refl w.heap.size w)
 have H : (if a3 < 0 then (path_Find.j0 k l0 l1 l2 a3 true) else (if a3 > 2 then (path_Find.j0 k l0 l1 l2 a3 true) else ((path_IsText.f k l0 l2).bind fun t327 => (path_Find.j0 k l0 l1 l2 a3 (!t327))))) = some (r1, r2) := h
 clear h
 have HC5 := Aside0.mk H
 clear H
 go_enter Tryd.func18, Tryd.ntmps18
 go_upto_region 1 with (fail)
 go_cut [24] (fun v24 wc => ∃ (kq : Nat) (x24_4 : Bool), v24 = .bool x24_4 ∧ Aside0 (path_Find.j0 kq l0 l1 l2 a3 x24_4 = some (r1, r2)) ∧ Aside0 (kq ≤ k) ∧ Aside0 (Below w.heap.size w wc))
 case first =>
  have H := HC5.out
  clear HC5
  by_cases c6 : a3 < 0
  ·rw [if_pos c6] at H
   have c6b0 : decide (a3 < 0) = true := decide_eq_true c6
   clear c6
   (first | rw [c6b0] | (simp only [i64_w, i32_w]; rw [c6b0]) | skip)
   have H' := Aside0.mk H
   clear H
   go_wp2
   go_meet
   case rel => exact ⟨_, (true), sK, H', ⟨by first | omega | exact Nat.le_refl _⟩, ⟨bB⟩⟩
  ·rw [if_neg c6] at H
   have c6b0 : decide (a3 < 0) = false := decide_eq_false c6
   clear c6
   (first | rw [c6b0] | (simp only [i64_w, i32_w]; rw [c6b0]) | skip)
   by_cases c7 : a3 > 2
   ·rw [if_pos c7] at H
    have c7b0 : decide (2 < a3) = true := decide_eq_true c7
    clear c7
    have H' := Aside0.mk H
    clear H
    go_wp2
    go_meet
    case rel => exact ⟨_, (true), sK, H', ⟨by first | omega | exact Nat.le_refl _⟩, ⟨bB⟩⟩
   ·rw [if_neg c7] at H
    have c7b0 : decide (2 < a3) = false := decide_eq_false c7
    clear c7
    replace H := Option.bind_eq_some_iff.mp H
    obtain ⟨t327, A80, H⟩ := H
    replace H : (path_Find.j0 k l0 l1 l2 a3 (!t327)) = some (r1, r2) := H
    have A8 := Aside0.mk A80
    clear A80
    have H' := Aside0.mk H
    clear H
    go_wp2_with (first | (go_at_call 24; (with_reducible refine (path_IsText.calls (hG := gK) k _ _ l0 _ _ l2 t327 _ ?side1 ?side2 ?side3 ?side4 A8.out).mono ?_); (case side1 => exact cK (Kd.C_below HR0.out HB.out)); (case side2 => exact HC0.out); (case side3 => exact cK (Kd.C_below HR2.out HB.out)); (case side4 => exact HC2.out); rintro e w9 ⟨rfl, hb⟩; have n0_ := Aside0.mk (below_step bB hb); clear HB; have HB := n0_; clear n0_; (try clear hb); (try clear hb2); (try clear hk); (try clear hi)))
    go_meet
    case rel => exact ⟨_, (!t327), sK, H', ⟨by first | omega | exact Nat.le_refl _⟩, ⟨bB⟩⟩
 case rest =>
  clear HC5
  try clear c1
  try clear c2
  try clear p2
  try clear c6
  try clear c6b0
  try clear c7
  try clear c7b0
  obtain ⟨kq, x24_4, rfl, HA, HJ4, HB⟩ := hcut
  cases kq with
  | zero => exact absurd HA.out (by simp [path_Find.j0])
  | succ kj4 =>
   have H := HA.out
   clear HA
   simp only [path_Find.j0] at H
   by_cases c10 : x24_4 = true
   ·subst c10
    have H1 : (some (([] : List Int), 1200)) = some (r1, r2) := by rw [if_pos rfl] at H; exact H
    clear H
    have H := H1
    clear H1
    simp only [Option.some.injEq, Prod.mk.injEq] at H
    obtain ⟨rfl, rfl⟩ := H
    go_wp2
    go_ret2
    exact ⟨_, eK, by first | exact Kd.R_nil _ _ _ _ _ | exact Kd.N_nil _ _ _ _ _ | exact Kd.V_nil _ _ _ _ _ | exact Kd.Q_nil _ _ _ _ _ | exact Kd.S_nil _ _ _ _ _, bB⟩
   ·replace c10 := Bool.eq_false_iff.mpr c10
    subst c10
    have H1 : (path_Find.l0 kj4 l0 l2 a3 ([] : List Int) l1 (l1.length : Int) 0) = some (r1, r2) := by rw [if_neg (show ¬ (false = true) by decide)] at H; exact H
    clear H
    have H := H1
    clear H1
    have H' := Aside0.mk H
    clear H
    go_wp2
    go_loopg [10, 27] kj4 (fun kq v10 v27 w' => ∃ (x10_2 : List Int) (x27_2 : Int), v27 = .int .i64 x27_2 ∧ Aside0 (path_Find.l0 kq l0 l2 a3 x10_2 l1 (l1.length : Int) x27_2 = some (r1, r2)) ∧ Aside0 (kq ≤ kj4) ∧ Aside0 (Kd.R (Kd.int .i64) 3 w' w.heap.size (fun _ => True) v10 x10_2) ∧ Aside0 (Below w.heap.size w w'))
    case atStart => exact ⟨(([] : List Int)), (0), sK, H', ⟨Nat.le_refl _⟩, ⟨by first | exact Kd.R_nil _ _ _ _ _ | exact Kd.N_nil _ _ _ _ _ | exact Kd.V_nil _ _ _ _ _ | exact Kd.Q_nil _ _ _ _ _ | exact Kd.S_nil _ _ _ _ _⟩, ⟨bB⟩⟩
    case round =>
     clear H'
     try clear c1
     try clear c2
     try clear p2
     try clear c6
     try clear c6b0
     try clear c7
     try clear c7b0
     try clear c10
     try clear p2
     obtain ⟨x10_2, x27_2, rfl, HA, HK2, HO_10, HB⟩ := hrel
     cases gk with
     | zero => exact absurd HA.out (by simp [path_Find.l0])
     | succ k2 =>
      have H := HA.out
      clear HA
      simp only [path_Find.l0] at H
      by_cases c11 : x27_2 < (l1.length : Int)
      ·rw [if_pos c11] at H
       have c11b0 : decide (x27_2 < (l1.length : Int)) = true := decide_eq_true c11
       clear c11
       by_cases c12 : 0 ≤ x27_2
       ·rw [if_pos c12] at H
        have c12b0 : decide (0 ≤ x27_2) = true := decide_eq_true c12
        clear c12
        by_cases c13 : x27_2 < (l1.length : Int)
        ·rw [if_pos c13] at H
         have c13b0 : decide (x27_2 < (l1.length : Int)) = true := decide_eq_true c13
         clear c13
         by_cases c14 : ((rd_L3 l1 x27_2).length : Int) = 0
         ·rw [if_pos c14] at H
          have c14b0 : (((rd_L3 l1 x27_2).length : Int) == 0) = true := beq_iff_eq.mpr c14
          have c14b1 : (((rd_L3 l1 x27_2).length : Int) != 0) = false := bne_eq_false_iff_eq.mpr c14
          clear c14
          have H' := Aside0.mk H
          clear H
          have p328 : 0 ≤ (x27_2 : Int) := of_decide_eq_true aK
          have q328 : x27_2 < (l1.length : Int) := of_decide_eq_true aK
          obtain ⟨ad328, A328_0, c328_0, e328, hx328_0, hl328_0, hi328_0⟩ := at_L3 HR1.out x27_2 p328 q328
          cases e328
          replace hx328_0 := (HB.out.cell (World.block_lt_of_cell? w _ hx328_0)).trans hx328_0
          have HR328_0 := Aside0.mk hi328_0
          have HC328_0 := Aside0.mk hl328_0
          clear hi328_0 hl328_0
          replace p328 := eq_true p328
          replace q328 := eq_true q328
          go_wp2
          go_roundg k2
          case measure => have := HJ4.out; have := HK2.out; omega
          case rel => exact ⟨(x10_2), (wrap64 (x27_2 + 1)), sK, H', ⟨by have := HJ4.out; have := HK2.out; omega⟩, ⟨by (with_reducible repeat (first | apply Kd.R_alloc | apply Kd.R_drewN | apply Kd.R_drew)); exact HO_10.out⟩, ⟨bB⟩⟩
         ·rw [if_neg c14] at H
          have c14b0 : (((rd_L3 l1 x27_2).length : Int) == 0) = false := beq_eq_false_iff_ne.mpr c14
          have c14b1 : (((rd_L3 l1 x27_2).length : Int) != 0) = true := bne_iff_ne.mpr c14
          have c14b2 : ¬ ((rd_L3 l1 x27_2) = []) := fun h_ => c14 (by rw [h_]; rfl)
          replace H := Option.bind_eq_some_iff.mp H
          obtain ⟨t329, A150, H⟩ := H
          replace H : (if t329 = true then ((path_fits.f l0 (rd_L3 l1 x27_2) l2 a3).bind fun t330 => (if t330 = true then (if x10_2.length < 17592186044416 then (path_Find.l0 k2 l0 l2 a3 (x10_2 ++ [x27_2]) l1 (l1.length : Int) (wrap64 (x27_2 + 1))) else (none)) else (path_Find.l0 k2 l0 l2 a3 x10_2 l1 (l1.length : Int) (wrap64 (x27_2 + 1))))) else (some (([] : List Int), 1200))) = some (r1, r2) := H
          have A15 := Aside0.mk A150
          clear A150
          by_cases c16 : t329 = true
          ·subst c16
           have H1 : ((path_fits.f l0 (rd_L3 l1 x27_2) l2 a3).bind fun t330 => (if t330 = true then (if x10_2.length < 17592186044416 then (path_Find.l0 k2 l0 l2 a3 (x10_2 ++ [x27_2]) l1 (l1.length : Int) (wrap64 (x27_2 + 1))) else (none)) else (path_Find.l0 k2 l0 l2 a3 x10_2 l1 (l1.length : Int) (wrap64 (x27_2 + 1))))) = some (r1, r2) := by rw [if_pos rfl] at H; exact H
           clear H
           have H := H1
           clear H1
           replace H := Option.bind_eq_some_iff.mp H
           obtain ⟨t330, A170, H⟩ := H
           replace H : (if t330 = true then (if x10_2.length < 17592186044416 then (path_Find.l0 k2 l0 l2 a3 (x10_2 ++ [x27_2]) l1 (l1.length : Int) (wrap64 (x27_2 + 1))) else (none)) else (path_Find.l0 k2 l0 l2 a3 x10_2 l1 (l1.length : Int) (wrap64 (x27_2 + 1)))) = some (r1, r2) := H
           have A17 := Aside0.mk A170
           clear A170
           by_cases c18 : t330 = true
           ·subst c18
            have H1 : (if x10_2.length < 17592186044416 then (path_Find.l0 k2 l0 l2 a3 (x10_2 ++ [x27_2]) l1 (l1.length : Int) (wrap64 (x27_2 + 1))) else (none)) = some (r1, r2) := by rw [if_pos rfl] at H; exact H
            clear H
            have H := H1
            clear H1
            by_cases c19 : x10_2.length < 17592186044416
            ·rw [if_pos c19] at H
             have LMc19 := Aside0.mk c19
             clear c19
             obtain ⟨y331, hy331⟩ : ∃ y_ : List Int, y_ = (x10_2 ++ [x27_2]) := ⟨_, rfl⟩
             replace H : (path_Find.l0 k2 l0 l2 a3 y331 l1 (l1.length : Int) (wrap64 (x27_2 + 1))) = some (r1, r2) := by first | (rw [hy331]; with_reducible exact H) | (have H2_ := (Option.bind_some _ _).symm.trans H; rw [hy331]; with_reducible exact H2_) | (have H2_ := (Option.bind_some _ _).symm.trans H; with_reducible exact H2_) | with_reducible exact H | (rw [hy331]; exact H) | exact H
             have Ny331 := Aside0.mk hy331
             clear hy331
             have H' := Aside0.mk H
             clear H
             have p328 : 0 ≤ (x27_2 : Int) := of_decide_eq_true aK
             have q328 : x27_2 < (l1.length : Int) := of_decide_eq_true aK
             obtain ⟨ad328, A328_0, c328_0, e328, hx328_0, hl328_0, hi328_0⟩ := at_L3 HR1.out x27_2 p328 q328
             cases e328
             replace hx328_0 := (HB.out.cell (World.block_lt_of_cell? w _ hx328_0)).trans hx328_0
             have HR328_0 := Aside0.mk hi328_0
             have HC328_0 := Aside0.mk hl328_0
             clear hi328_0 hl328_0
             replace p328 := eq_true p328
             replace q328 := eq_true q328
             go_wp2_with (first | ((with_reducible refine gate_callee (f := 24) rfl ?_); refine goesL_ (some 39) rfl rfl Tryd.func24 (by kernel_rfl) rfl #[.slice A0 l0.length c0, .slice A328_0 (rd_L3 l1 x27_2).length c328_0] rfl mA ?_; (with_reducible refine (path_IsText.calls (hG := gK) k2 _ _ l0 _ _ (rd_L3 l1 x27_2) true _ ?side1 ?side2 ?side3 ?side4 A15.out).mono ?_); (case side1 => exact cK (Kd.C_below HR0.out HB.out)); (case side2 => exact HC0.out); (case side3 => exact cK (Kd.C_below HR328_0.out HB.out)); (case side4 => exact HC328_0.out); rintro e w20 ⟨rfl, hb⟩; refine ⟨_, rfl, ?_⟩; have n0_ := Aside0.mk (Kd.R_below (rK HO_10) hb); have n1_ := Aside0.mk (below_step bB hb); clear HO_10; clear HB; have HO_10 := n0_; have HB := n1_; clear n0_ n1_; (try clear hb); (try clear hb2); (try clear hk); (try clear hi)) | ((with_reducible refine gate_callee (f := 31) rfl ?_); refine goesL_ (some 46) rfl rfl Tryd.func31 (by kernel_rfl) rfl #[.slice A0 l0.length c0, .slice A328_0 (rd_L3 l1 x27_2).length c328_0, .slice A2 l2.length c2, .int .i64 a3] rfl mA ?_; (with_reducible refine (path_fits.calls (hG := gK) _ _ l0 _ _ (rd_L3 l1 x27_2) _ _ l2 a3 true _ ?side1 ?side2 ?side3 ?side4 ?side5 ?side6 A17.out).mono ?_); (case side1 => exact cK (Kd.C_below HR0.out HB.out)); (case side2 => exact HC0.out); (case side3 => exact cK (Kd.C_below HR328_0.out HB.out)); (case side4 => exact HC328_0.out); (case side5 => exact cK (Kd.C_below HR2.out HB.out)); (case side6 => exact HC2.out); rintro e w21 ⟨rfl, hb⟩; refine ⟨_, rfl, ?_⟩; have n0_ := Aside0.mk (Kd.R_below (rK HO_10) hb); have n1_ := Aside0.mk (below_step bB hb); clear HO_10; clear HB; have HO_10 := n0_; have HB := n1_; clear n0_ n1_; (try clear hb); (try clear hb2); (try clear hk); (try clear hi)) | ((with_reducible refine gate_builtin (b := .append) (xs := #[.tmp 47, .tmp 49]) rfl ?_); at_builtin; refine Kd.R_append (Kd.int .i64) (w0 := w) w.heap.size rfl (.tmp 47) (.tmp 49) 23 3 (.int .i64 0) 8 rfl Tryd.underlying23 info3 rfl (by decide) (by omega) u10 x10_2 x27_2 [.int .i64 x27_2] (fun _ => True) (fun _ => False) rfl rfl ?aP (fun _ hk => hk.elim) ?aF ?aO ?aB ?aS ?aL ?_; (case aP => exact rfl); (case aB => exact bB); (case aF => exact (fun _ _ => trivial)); (case aO => exact (rK HO_10)); (case aS => exact (below_size bB)); (case aL => have := LMc19.out; omega); intro v332 w22 ho hb hg hat; rw [← Ny331.out] at ho; have n0_ := Aside0.mk (hb); have n1_ := Aside0.mk (ho); clear HB; clear HO_10; have HB := n0_; have HO333 := n1_; clear n0_ n1_; clear ho hb hg hat))
             go_roundg k2
             case measure => have := HJ4.out; have := HK2.out; omega
             case rel => exact ⟨(y331), (wrap64 (x27_2 + 1)), sK, H', ⟨by have := HJ4.out; have := HK2.out; omega⟩, ⟨by (with_reducible repeat (first | apply Kd.R_alloc | apply Kd.R_drewN | apply Kd.R_drew)); exact HO333.out⟩, ⟨bB⟩⟩
            ·rw [if_neg c19] at H
             exact absurd H (by simp)
           ·replace c18 := Bool.eq_false_iff.mpr c18
            subst c18
            have H1 : (path_Find.l0 k2 l0 l2 a3 x10_2 l1 (l1.length : Int) (wrap64 (x27_2 + 1))) = some (r1, r2) := by rw [if_neg (show ¬ (false = true) by decide)] at H; exact H
            clear H
            have H := H1
            clear H1
            have H' := Aside0.mk H
            clear H
            have p328 : 0 ≤ (x27_2 : Int) := of_decide_eq_true aK
            have q328 : x27_2 < (l1.length : Int) := of_decide_eq_true aK
            obtain ⟨ad328, A328_0, c328_0, e328, hx328_0, hl328_0, hi328_0⟩ := at_L3 HR1.out x27_2 p328 q328
            cases e328
            replace hx328_0 := (HB.out.cell (World.block_lt_of_cell? w _ hx328_0)).trans hx328_0
            have HR328_0 := Aside0.mk hi328_0
            have HC328_0 := Aside0.mk hl328_0
            clear hi328_0 hl328_0
            replace p328 := eq_true p328
            replace q328 := eq_true q328
            go_wp2_with (first | ((with_reducible refine gate_callee (f := 24) rfl ?_); refine goesL_ (some 39) rfl rfl Tryd.func24 (by kernel_rfl) rfl #[.slice A0 l0.length c0, .slice A328_0 (rd_L3 l1 x27_2).length c328_0] rfl mA ?_; (with_reducible refine (path_IsText.calls (hG := gK) k2 _ _ l0 _ _ (rd_L3 l1 x27_2) true _ ?side1 ?side2 ?side3 ?side4 A15.out).mono ?_); (case side1 => exact cK (Kd.C_below HR0.out HB.out)); (case side2 => exact HC0.out); (case side3 => exact cK (Kd.C_below HR328_0.out HB.out)); (case side4 => exact HC328_0.out); rintro e w23 ⟨rfl, hb⟩; refine ⟨_, rfl, ?_⟩; have n0_ := Aside0.mk (Kd.R_below (rK HO_10) hb); have n1_ := Aside0.mk (below_step bB hb); clear HO_10; clear HB; have HO_10 := n0_; have HB := n1_; clear n0_ n1_; (try clear hb); (try clear hb2); (try clear hk); (try clear hi)) | ((with_reducible refine gate_callee (f := 31) rfl ?_); refine goesL_ (some 46) rfl rfl Tryd.func31 (by kernel_rfl) rfl #[.slice A0 l0.length c0, .slice A328_0 (rd_L3 l1 x27_2).length c328_0, .slice A2 l2.length c2, .int .i64 a3] rfl mA ?_; (with_reducible refine (path_fits.calls (hG := gK) _ _ l0 _ _ (rd_L3 l1 x27_2) _ _ l2 a3 false _ ?side1 ?side2 ?side3 ?side4 ?side5 ?side6 A17.out).mono ?_); (case side1 => exact cK (Kd.C_below HR0.out HB.out)); (case side2 => exact HC0.out); (case side3 => exact cK (Kd.C_below HR328_0.out HB.out)); (case side4 => exact HC328_0.out); (case side5 => exact cK (Kd.C_below HR2.out HB.out)); (case side6 => exact HC2.out); rintro e w24 ⟨rfl, hb⟩; refine ⟨_, rfl, ?_⟩; have n0_ := Aside0.mk (Kd.R_below (rK HO_10) hb); have n1_ := Aside0.mk (below_step bB hb); clear HO_10; clear HB; have HO_10 := n0_; have HB := n1_; clear n0_ n1_; (try clear hb); (try clear hb2); (try clear hk); (try clear hi)))
            go_roundg k2
            case measure => have := HJ4.out; have := HK2.out; omega
            case rel => exact ⟨(x10_2), (wrap64 (x27_2 + 1)), sK, H', ⟨by have := HJ4.out; have := HK2.out; omega⟩, ⟨by (with_reducible repeat (first | apply Kd.R_alloc | apply Kd.R_drewN | apply Kd.R_drew)); exact HO_10.out⟩, ⟨bB⟩⟩
          ·replace c16 := Bool.eq_false_iff.mpr c16
           subst c16
           have H1 : (some (([] : List Int), 1200)) = some (r1, r2) := by rw [if_neg (show ¬ (false = true) by decide)] at H; exact H
           clear H
           have H := H1
           clear H1
           simp only [Option.some.injEq, Prod.mk.injEq] at H
           obtain ⟨rfl, rfl⟩ := H
           have p328 : 0 ≤ (x27_2 : Int) := of_decide_eq_true aK
           have q328 : x27_2 < (l1.length : Int) := of_decide_eq_true aK
           obtain ⟨ad328, A328_0, c328_0, e328, hx328_0, hl328_0, hi328_0⟩ := at_L3 HR1.out x27_2 p328 q328
           cases e328
           replace hx328_0 := (HB.out.cell (World.block_lt_of_cell? w _ hx328_0)).trans hx328_0
           have HR328_0 := Aside0.mk hi328_0
           have HC328_0 := Aside0.mk hl328_0
           clear hi328_0 hl328_0
           replace p328 := eq_true p328
           replace q328 := eq_true q328
           go_wp2_with (first | ((with_reducible refine gate_callee (f := 24) rfl ?_); refine goesL_ (some 39) rfl rfl Tryd.func24 (by kernel_rfl) rfl #[.slice A0 l0.length c0, .slice A328_0 (rd_L3 l1 x27_2).length c328_0] rfl mA ?_; (with_reducible refine (path_IsText.calls (hG := gK) k2 _ _ l0 _ _ (rd_L3 l1 x27_2) false _ ?side1 ?side2 ?side3 ?side4 A15.out).mono ?_); (case side1 => exact cK (Kd.C_below HR0.out HB.out)); (case side2 => exact HC0.out); (case side3 => exact cK (Kd.C_below HR328_0.out HB.out)); (case side4 => exact HC328_0.out); rintro e w25 ⟨rfl, hb⟩; refine ⟨_, rfl, ?_⟩; have n0_ := Aside0.mk (Kd.R_below (rK HO_10) hb); have n1_ := Aside0.mk (below_step bB hb); clear HO_10; clear HB; have HO_10 := n0_; have HB := n1_; clear n0_ n1_; (try clear hb); (try clear hb2); (try clear hk); (try clear hi)))
           go_ret2
           exact ⟨_, eK, by first | exact Kd.R_nil _ _ _ _ _ | exact Kd.N_nil _ _ _ _ _ | exact Kd.V_nil _ _ _ _ _ | exact Kd.Q_nil _ _ _ _ _ | exact Kd.S_nil _ _ _ _ _, bB⟩
        ·rw [if_neg c13] at H
         exact absurd H (by simp)
       ·rw [if_neg c12] at H
        exact absurd H (by simp)
      ·rw [if_neg c11] at H
       have c11b0 : decide (x27_2 < (l1.length : Int)) = false := decide_eq_false c11
       clear c11
       simp only [Option.some.injEq, Prod.mk.injEq] at H
       obtain ⟨rfl, rfl⟩ := H
       go_wp2
       go_ret2
       exact ⟨_, eK, by (with_reducible repeat (first | apply Kd.R_alloc | apply Kd.R_drewN | apply Kd.R_drew)); exact HO_10.out, bB⟩

end Go.Proofs.YteffiodbflmfkaaDoor.PP
